import Derived.Test.YtidjdonppfegiaaXH
import Derived.Test.YtidjdonppfegiaaXB
set_option linter.unusedSimpArgs false
set_option linter.unusedVariables false
namespace Go.Proofs.Ytidjdonppfegiaa
open Go.W Go.Dp

set_option maxRecDepth 100000 in
set_option maxHeartbeats 1000000 in
theorem long_g (h : Int) (a1 : Option Addr) (n1 c1 : Nat) (a2 : Option Addr) (n2 c2 : Nat) (a3 : Option Addr) (n3 c3 : Nat) (w : World) : Gives Try.prog 13 [.agg #[it h, .slice a1 n1 c1, .slice a2 n2 c2], .slice a3 n3 c3] w (.bool (decide ((40 : Int) < max (max (n1 : Int) n2) n3))) := by
  unfold Gives
  refine enter Try.func13 rfl 15 Try.ntmps13 (Nat.le_of_ble_eq_true rfl) (Inv.start (D := fun _ => none) (by intro _ _ h; cases h)) ?_
  refine WC.seq ?_
  refine WC.ofFr [(0, _), (1, _)] ⟨rfl, rfl, trivial⟩ ?_
  refine WC.region ?_
  refine WL.so (SO.box rfl rfl) rfl ?_
  rintro _ _ _ ⟨b2, hb2, rfl, rfl, rfl⟩ -- NEW
  refine WL.yd (Yd.assign rfl) rfl ?_
  refine WL.nil ?_
  refine WP.thenC ?_
  refine WC.seq ?_
  refine WC.ofFr [(4, _), (2, _), (1, _)] ⟨rfl, rfl, rfl, trivial⟩ ?_
  refine WC.region ?_
  refine WL.yd (Yd.fieldAddr FA25_1 rfl) rfl ?_
  refine WL.yd (Yd.load1 Try.isAgg22 rfl (by first | exact Rd.own (k := 0) rfl rfl)) rfl ?_
  refine WL.yd (Yd.lenS rfl Try.underlying22 rfl) rfl ?_
  refine WL.yd (Yd.fieldAddr FA25_2 rfl) rfl ?_
  refine WL.yd (Yd.load1 Try.isAgg23 rfl (by first | exact Rd.own (k := 0) rfl rfl)) rfl ?_
  refine WL.yd (Yd.lenS rfl Try.underlying23 rfl) rfl ?_
  refine WL.yd (Yd.move rfl) rfl ?_
  refine WL.yd (Yd.lenS rfl Try.underlying26 rfl) rfl ?_
  refine WL.yd (Yd.max3 rfl rfl rfl) rfl ?_
  refine WL.yd (Yd.gtr rfl rfl) rfl ?_
  refine WL.yd (Yd.assign rfl) rfl ?_
  refine WL.nil ?_
  refine WP.thenC ?_
  refine WC.ret ?_
  refine WP.ret1 rfl rfl Try.results13 (RV.tmp rfl) (fun w hI => ⟨rfl, hI.keep⟩)

set_option maxRecDepth 100000 in
set_option maxHeartbeats 1000000 in
theorem tells_g (d : Dips) (a1 : Option Addr) (n1 c1 : Nat) (a2 : Option Addr) (n2 c2 : Nat) (D : Imm) (w : World) (hS1 : SlL D 3 (d.dippers.map dipperC) a1 n1) (hS2 : SlL D 3 (d.bathers.map batherC) a2 n2) (hH : Holds D w) (plan : List Plc) (a3 : Option Addr) (n3 c3 : Nat) (hS3 : SlL D 2 (plan.map placeC) a3 n3) (hour : Int) : Gives Try.prog 3 [.agg #[it d.hours, .slice a1 n1 c1, .slice a2 n2 c2], .slice a3 n3 c3, it hour] w (.bool true) := by
  unfold Gives
  refine enter Try.func3 rfl 99 Try.ntmps3 (Nat.le_of_ble_eq_true rfl) (Inv.start hH) ?_
  refine WC.seq ?_
  refine WC.ofFr [(0, _), (1, _), (2, _)] ⟨rfl, rfl, rfl, trivial⟩ ?_
  refine WC.region ?_
  refine WL.so (SO.box rfl rfl) rfl ?_
  rintro _ _ _ ⟨b3, hb3, rfl, rfl, rfl⟩ -- NEW
  refine WL.yd (Yd.assign rfl) rfl ?_
  refine WL.nil ?_
  refine WP.thenC ?_
  refine WC.seq ?_
  refine WC.seq ?_
  refine WC.ofFr [(6, _), (3, _), (1, _), (2, _)] ⟨rfl, rfl, rfl, rfl, trivial⟩ ?_
  refine WC.region ?_
  refine WL.yd (Yd.loadN Try.isAgg25 Try.sizeOf25 rfl (vs := [_, _, _]) rfl (by first | exact RdN.own (k := 0) (n := 3) rfl rfl)) rfl ?_
  refine WL.yd (Yd.move rfl) rfl ?_
  refine WL.so (SO.callP Try.call13 rfl (fun w hI => long_g _ _ _ _ _ _ _ _ _ _ _)) rfl ?_
  rintro _ _ _ ⟨rfl, rfl, rfl⟩
  refine WL.nil ?_
  refine WP.thenC ?_
  refine WC.cond rfl (fun c23 => ?_) (fun c23 => ?_)
  · try simp only [decide_eq_true_eq, decide_eq_false_iff_not, Bool.not_eq_true', Bool.not_eq_false', Int.not_lt, Int.not_le, Bool.not_true, Bool.not_false] at c23
    refine WC.seq ?_
    refine WC.ofFr [(6, _), (3, _), (1, _), (2, _)] ⟨rfl, rfl, rfl, rfl, trivial⟩ ?_
    refine WC.region ?_
    refine WL.so (SO.callP Try.call14 rfl (fun w hI => alive_g D _ hI.imm)) rfl ?_
    rintro _ _ _ ⟨rfl, rfl, rfl⟩
    refine WL.yd (Yd.assign rfl) rfl ?_
    refine WL.nil ?_
    refine WP.thenC ?_
    refine WC.ret ?_
    refine WP.thenRet ?_
    refine WP.ret1 rfl rfl Try.results3 (RV.tmp rfl) (fun w hI => ⟨rfl, hI.keep⟩)
  · try simp only [decide_eq_true_eq, decide_eq_false_iff_not, Bool.not_eq_true', Bool.not_eq_false', Int.not_lt, Int.not_le, Bool.not_true, Bool.not_false] at c23
    have hR : DipsR D d a1 n1 a2 n2 := ⟨hS1, hS2, by omega, by omega⟩
    have hP : PlanR D plan a3 n3 := ⟨hS3, by omega⟩
    refine WC.skip ?_
    refine WP.thenC ?_
    refine WC.seq ?_
    refine WC.ofFr [(6, _), (3, _), (1, _), (2, _)] ⟨rfl, rfl, rfl, rfl, trivial⟩ ?_
    refine WC.region ?_
    refine WL.yd (Yd.loadN Try.isAgg25 Try.sizeOf25 rfl (vs := [_, _, _]) rfl (by first | exact RdN.own (k := 0) (n := 3) rfl rfl)) rfl ?_
    refine WL.yd (Yd.move rfl) rfl ?_
    refine WL.so (SO.callP Try.call15 rfl (fun w hI => Check_g d a1 _ c1 a2 _ c2 D _ hR hI.imm plan a3 _ c3 hP)) rfl ?_
    rintro _ _ _ ⟨rfl, rfl, rfl⟩
    refine WL.yd (Yd.move rfl) rfl ?_
    refine WL.yd (Yd.extract rfl rfl) rfl ?_
    refine WL.yd (Yd.extract rfl rfl) rfl ?_
    refine WL.yd (Yd.extract rfl rfl) rfl ?_
    refine WL.yd (Yd.assign rfl) rfl ?_
    refine WL.yd (Yd.assign rfl) rfl ?_
    refine WL.yd (Yd.assign rfl) rfl ?_
    refine WL.nil ?_
    refine WP.thenC ?_
    refine WC.seq ?_
    refine WC.ofFr [(9, _), (8, _), (7, _), (6, _), (3, _), (1, _), (2, _)] ⟨rfl, rfl, rfl, rfl, rfl, rfl, rfl, trivial⟩ ?_
    refine WC.region ?_
    refine WL.yd (Yd.loadN Try.isAgg25 Try.sizeOf25 rfl (vs := [_, _, _]) rfl (by first | exact RdN.own (k := 0) (n := 3) rfl rfl)) rfl ?_
    refine WL.yd (Yd.move rfl) rfl ?_
    refine WL.so (SO.callP Try.call16 rfl (fun w hI => checkF_g d a1 _ c1 a2 _ c2 D _ hR hI.imm plan a3 _ c3 hP)) rfl ?_
    rintro _ _ _ ⟨rfl, rfl, rfl⟩
    refine WL.yd (Yd.move rfl) rfl ?_
    refine WL.yd (Yd.extract rfl rfl) rfl ?_
    refine WL.yd (Yd.extract rfl rfl) rfl ?_
    refine WL.yd (Yd.extract rfl rfl) rfl ?_
    refine WL.yd (Yd.assign rfl) rfl ?_
    refine WL.yd (Yd.assign rfl) rfl ?_
    refine WL.yd (Yd.assign rfl) rfl ?_
    refine WL.nil ?_
    refine WP.thenC ?_
    refine WC.seq ?_
    refine WC.ofFr [(12, _), (11, _), (10, _), (9, _), (8, _), (7, _), (6, _), (3, _), (1, _), (2, _)] ⟨rfl, rfl, rfl, rfl, rfl, rfl, rfl, rfl, rfl, rfl, trivial⟩ ?_
    refine WC.region ?_
    refine WL.yd (Yd.loadN Try.isAgg25 Try.sizeOf25 rfl (vs := [_, _, _]) rfl (by first | exact RdN.own (k := 0) (n := 3) rfl rfl)) rfl ?_
    refine WL.yd (Yd.move rfl) rfl ?_
    refine WL.so (SO.callP Try.call17 rfl (fun w hI => Right_g d a1 _ c1 a2 _ c2 D _ hR hI.imm plan a3 _ c3 hP)) rfl ?_
    rintro _ _ _ ⟨rfl, rfl, rfl⟩
    refine WL.yd (Yd.move rfl) rfl ?_
    refine WL.yd (Yd.extract rfl rfl) rfl ?_
    refine WL.yd (Yd.extract rfl rfl) rfl ?_
    refine WL.yd (Yd.assign rfl) rfl ?_
    refine WL.yd (Yd.assign rfl) rfl ?_
    refine WL.nil ?_
    refine WP.thenC ?_
    refine WC.seq ?_
    refine WC.ofFr [(14, _), (13, _), (12, _), (11, _), (10, _), (9, _), (8, _), (7, _), (6, _), (3, _), (1, _), (2, _)] ⟨rfl, rfl, rfl, rfl, rfl, rfl, rfl, rfl, rfl, rfl, rfl, rfl, trivial⟩ ?_
    refine WC.region ?_
    refine WL.yd (Yd.loadN Try.isAgg25 Try.sizeOf25 rfl (vs := [_, _, _]) rfl (by first | exact RdN.own (k := 0) (n := 3) rfl rfl)) rfl ?_
    refine WL.yd (Yd.move rfl) rfl ?_
    refine WL.so (SO.callP Try.call18 rfl (fun w hI => rightF_g d a1 _ c1 a2 _ c2 D _ hR hI.imm plan a3 _ c3 hP)) rfl ?_
    rintro _ _ _ ⟨rfl, rfl, rfl⟩
    refine WL.yd (Yd.move rfl) rfl ?_
    refine WL.yd (Yd.extract rfl rfl) rfl ?_
    refine WL.yd (Yd.extract rfl rfl) rfl ?_
    refine WL.yd (Yd.assign rfl) rfl ?_
    refine WL.yd (Yd.assign rfl) rfl ?_
    refine WL.nil ?_
    refine WP.thenC ?_
    refine WC.seq ?_
    refine WC.ofFr [(16, _), (15, _), (14, _), (13, _), (12, _), (11, _), (10, _), (9, _), (8, _), (7, _), (6, _), (3, _), (2, _)] ⟨rfl, rfl, rfl, rfl, rfl, rfl, rfl, rfl, rfl, rfl, rfl, rfl, rfl, trivial⟩ ?_
    refine WC.region ?_
    refine WL.yd (Yd.loadN Try.isAgg25 Try.sizeOf25 rfl (vs := [_, _, _]) rfl (by first | exact RdN.own (k := 0) (n := 3) rfl rfl)) rfl ?_
    refine WL.yd (Yd.move rfl) rfl ?_
    refine WL.so (SO.callP Try.call19 rfl (fun w hI => Hands_g d a1 _ c1 a2 _ c2 D _ hR hI.imm hour)) rfl ?_
    rintro _ _ _ ⟨rfl, rfl, rfl⟩
    refine WL.yd (Yd.move rfl) rfl ?_
    refine WL.yd (Yd.extract rfl rfl) rfl ?_
    refine WL.yd (Yd.extract rfl rfl) rfl ?_
    refine WL.so (SO.alloc Try.zeroValue35 rfl) rfl ?_
    rintro _ _ _ ⟨b17, hb17, rfl, rfl, rfl⟩ -- NEW
    refine WL.so (SO.store 0 rfl Try.sizeOf35 rfl rfl rfl rfl (Nat.le_of_ble_eq_true rfl) (oneB_spec rfl)) rfl ?_
    rintro _ _ _ ⟨rfl, rfl, rfl⟩
    refine WL.yd (Yd.assign rfl) rfl ?_
    refine WL.nil ?_
    refine WP.thenC ?_
    refine WC.seq ?_
    refine WC.ofFr [(18, _), (17, _), (16, _), (15, _), (14, _), (13, _), (12, _), (11, _), (10, _), (9, _), (8, _), (7, _), (6, _), (3, _), (2, _)] ⟨rfl, rfl, rfl, rfl, rfl, rfl, rfl, rfl, rfl, rfl, rfl, rfl, rfl, rfl, rfl, trivial⟩ ?_
    refine WC.region ?_
    refine WL.yd (Yd.loadN Try.isAgg25 Try.sizeOf25 rfl (vs := [_, _, _]) rfl (by first | exact RdN.own (k := 0) (n := 3) rfl rfl | exact RdN.own (k := 1) (n := 3) rfl rfl)) rfl ?_
    refine WL.yd (Yd.move rfl) rfl ?_
    refine WL.so (SO.callP Try.call20 rfl (fun w hI => handsF_g d a1 _ c1 a2 _ c2 D _ hR hI.imm hour)) rfl ?_
    rintro _ _ _ ⟨rfl, rfl, rfl⟩
    refine WL.yd (Yd.move rfl) rfl ?_
    refine WL.yd (Yd.extract rfl rfl) rfl ?_
    refine WL.yd (Yd.extract rfl rfl) rfl ?_
    refine WL.so (SO.alloc Try.zeroValue35 rfl) rfl ?_
    rintro _ _ _ ⟨b19, hb19, rfl, rfl, rfl⟩ -- NEW
    refine WL.so (SO.store 0 rfl Try.sizeOf35 rfl rfl rfl rfl (Nat.le_of_ble_eq_true rfl) (oneB_spec rfl)) rfl ?_
    rintro _ _ _ ⟨rfl, rfl, rfl⟩
    refine WL.yd (Yd.assign rfl) rfl ?_
    refine WL.nil ?_
    refine WP.thenC ?_
    refine WC.seq ?_
    refine WC.ofFr [(20, _), (19, _), (18, _), (17, _), (16, _), (15, _), (14, _), (13, _), (12, _), (11, _), (10, _), (9, _), (8, _), (7, _), (6, _)] ⟨rfl, rfl, rfl, rfl, rfl, rfl, rfl, rfl, rfl, rfl, rfl, rfl, rfl, rfl, rfl, trivial⟩ ?_
    refine WC.region ?_
    refine WL.yd (Yd.move rfl) rfl ?_
    refine WL.yd (Yd.move rfl) rfl ?_
    refine WL.yd (Yd.eql rfl rfl) rfl ?_
    refine WL.know 65 (.bool true) rfl (congrArg Value.bool (decide_eq_true rfl)) ?_
    refine WL.yd (Yd.move rfl) rfl ?_
    refine WL.ydg rfl (Yd.move rfl) rfl ?_
    refine WL.ydg rfl (Yd.move rfl) rfl ?_
    refine WL.ydg rfl (Yd.eql rfl rfl) rfl ?_
    refine WL.know 69 (.bool true) rfl (congrArg Value.bool (decide_eq_true rfl)) ?_
    refine WL.yd (Yd.pickT rfl rfl) rfl ?_
    refine WL.yd (Yd.move rfl) rfl ?_
    refine WL.ydg rfl (Yd.move rfl) rfl ?_
    refine WL.ydg rfl (Yd.move rfl) rfl ?_
    refine WL.ydg rfl (Yd.eql rfl rfl) rfl ?_
    refine WL.know 74 (.bool true) rfl (congrArg Value.bool (decide_eq_true rfl)) ?_
    refine WL.yd (Yd.pickT rfl rfl) rfl ?_
    refine WL.yd (Yd.move rfl) rfl ?_
    refine WL.ydg rfl (Yd.move rfl) rfl ?_
    refine WL.ydg rfl (Yd.move rfl) rfl ?_
    refine WL.ydg rfl (Yd.eql rfl rfl) rfl ?_
    refine WL.know 79 (.bool true) rfl (congrArg Value.bool (decide_eq_true rfl)) ?_
    refine WL.yd (Yd.pickT rfl rfl) rfl ?_
    refine WL.yd (Yd.move rfl) rfl ?_
    refine WL.ydg rfl (Yd.move rfl) rfl ?_
    refine WL.ydg rfl (Yd.move rfl) rfl ?_
    refine WL.ydg rfl (Yd.eql rfl rfl) rfl ?_
    refine WL.know 84 (.bool true) rfl (congrArg Value.bool (decide_eq_true rfl)) ?_
    refine WL.yd (Yd.pickT rfl rfl) rfl ?_
    refine WL.yd (Yd.move rfl) rfl ?_
    refine WL.ydg rfl (Yd.loadN Try.isAgg35 Try.sizeOf35 rfl (vs := [_, _]) rfl (by first | exact RdN.own (k := 0) (n := 2) rfl rfl | exact RdN.own (k := 1) (n := 2) rfl rfl | exact RdN.own (k := 2) (n := 2) rfl rfl)) rfl ?_
    refine WL.ydg rfl (Yd.loadN Try.isAgg35 Try.sizeOf35 rfl (vs := [_, _]) rfl (by first | exact RdN.own (k := 0) (n := 2) rfl rfl | exact RdN.own (k := 1) (n := 2) rfl rfl | exact RdN.own (k := 2) (n := 2) rfl rfl)) rfl ?_
    refine WL.ydg rfl (Yd.eqS Try.eqGuardType35 (eq35 _ _ _ _) rfl rfl) rfl ?_
    refine WL.know 89 (.bool true) rfl (congrArg Value.bool (decide_eq_true rfl)) ?_
    refine WL.yd (Yd.pickT rfl rfl) rfl ?_
    refine WL.yd (Yd.move rfl) rfl ?_
    refine WL.ydg rfl (Yd.move rfl) rfl ?_
    refine WL.ydg rfl (Yd.move rfl) rfl ?_
    refine WL.ydg rfl (Yd.eql rfl rfl) rfl ?_
    refine WL.know 94 (.bool true) rfl (congrArg Value.bool (decide_eq_true rfl)) ?_
    refine WL.yd (Yd.pickT rfl rfl) rfl ?_
    refine WL.yd (Yd.move rfl) rfl ?_
    refine WL.sog rfl (SO.callP Try.call14 rfl (fun w hI => alive_g D _ hI.imm)) rfl ?_
    rintro _ _ _ ⟨rfl, rfl, rfl⟩
    refine WL.know 97 (.bool true) rfl rfl ?_
    refine WL.yd (Yd.pickT rfl rfl) rfl ?_
    refine WL.yd (Yd.assign rfl) rfl ?_
    refine WL.nil ?_
    refine WP.thenC ?_
    refine WC.ret ?_
    refine WP.ret1 rfl rfl Try.results3 (RV.tmp rfl) (fun w hI => ⟨rfl, hI.keep⟩)

end Go.Proofs.Ytidjdonppfegiaa
