import Derived.Test.YtidjdonppfegiaaXH
import Derived.Test.YtidjdonppfegiaaXB
set_option linter.unusedSimpArgs false
set_option linter.unusedVariables false
set_option linter.all false
namespace Go.Proofs.Ytidjdonppfegiaa
open Go.W Go.Dp

set_option maxRecDepth 100000 in
set_option maxHeartbeats 1000000 in
theorem long_g (h : Int) (a1 : Option Addr) (n1 c1 : Nat) (a2 : Option Addr) (n2 c2 : Nat) (a3 : Option Addr) (n3 c3 : Nat) (w : World) : Gives Try.prog 13 [.agg #[it h, .slice a1 n1 c1, .slice a2 n2 c2], .slice a3 n3 c3] w (.bool (decide ((40 : Int) < max (max (n1 : Int) n2) n3))) := by
  unfold Gives
  refine enter Try.func13 rfl 15 Try.ntmps13 (Nat.le_of_ble_eq_true rfl) (Inv.start (D := fun _ => none) (by intro _ _ h; cases h)) ?_
  refine WC.seq ?_
  refine WC.ofFr [(0, _), (1, _)] ⟨rfl, rfl, trivial⟩ ?_
  refine WC.region ?_
  refine WL.so (SO.box rfl rfl) rfl ?_
  rintro _ _ _ ⟨b2, hb2, rfl, rfl, rfl⟩ -- NEW
  refine WL.yd (Yd.assign rfl) rfl ?_
  refine WL.nil ?_
  refine WP.thenC ?_
  refine WC.seq ?_
  refine WC.ofFr [(4, _), (2, _), (1, _)] ⟨rfl, rfl, rfl, trivial⟩ ?_
  refine WC.region ?_
  refine WL.yd (Yd.fieldAddr FA25_1 rfl) rfl ?_
  refine WL.yd (Yd.load1 Try.isAgg22 rfl (by first | exact Rd.own (k := 0) rfl rfl)) rfl ?_
  refine WL.yd (Yd.lenS rfl Try.underlying22 rfl) rfl ?_
  refine WL.yd (Yd.fieldAddr FA25_2 rfl) rfl ?_
  refine WL.yd (Yd.load1 Try.isAgg23 rfl (by first | exact Rd.own (k := 0) rfl rfl)) rfl ?_
  refine WL.yd (Yd.lenS rfl Try.underlying23 rfl) rfl ?_
  refine WL.yd (Yd.move rfl) rfl ?_
  refine WL.yd (Yd.lenS rfl Try.underlying26 rfl) rfl ?_
  refine WL.yd (Yd.max3 rfl rfl rfl) rfl ?_
  refine WL.yd (Yd.gtr rfl rfl) rfl ?_
  refine WL.yd (Yd.assign rfl) rfl ?_
  refine WL.nil ?_
  refine WP.thenC ?_
  refine WC.ret ?_
  refine WP.ret1 rfl rfl Try.results13 (RV.tmp rfl) (fun w hI => ⟨rfl, hI.keep⟩)

set_option maxRecDepth 100000 in
set_option maxHeartbeats 1000000 in
theorem tells_g (d : Dips) (a1 : Option Addr) (n1 c1 : Nat) (a2 : Option Addr) (n2 c2 : Nat) (D : Imm) (w : World) (hS1 : SlL D 3 (d.dippers.map dipperC) a1 n1) (hS2 : SlL D 3 (d.bathers.map batherC) a2 n2) (hH : Holds D w) (plan : List Plc) (a3 : Option Addr) (n3 c3 : Nat) (hS3 : SlL D 2 (plan.map placeC) a3 n3) (hour : Int) : Gives Try.prog 3 [.agg #[it d.hours, .slice a1 n1 c1, .slice a2 n2 c2], .slice a3 n3 c3, it hour] w (.bool true) := by
  unfold Gives
  refine enter Try.func3 rfl 99 Try.ntmps3 (Nat.le_of_ble_eq_true rfl) (Inv.start hH) ?_
  refine WC.seq ?_
  refine WC.ofFr [(0, _), (1, _), (2, _)] ⟨rfl, rfl, rfl, trivial⟩ ?_
  refine WC.region ?_
  refine WL.so (SO.box rfl rfl) rfl ?_
  rintro _ _ _ ⟨b3, hb3, rfl, rfl, rfl⟩ -- NEW
  refine WL.yd (Yd.assign rfl) rfl ?_
  refine WL.nil ?_
  refine WP.thenC ?_
  refine WC.seq ?_
  refine WC.seq ?_
  refine WC.ofFr [(6, _), (3, _), (1, _), (2, _)] ⟨rfl, rfl, rfl, rfl, trivial⟩ ?_
  refine WC.region ?_
  refine WL.yd (Yd.loadN Try.isAgg25 Try.sizeOf25 rfl (vs := [_, _, _]) rfl (by first | exact RdN.own (k := 0) (n := 3) rfl rfl)) rfl ?_
  refine WL.yd (Yd.move rfl) rfl ?_
  refine WL.so (SO.callP Try.call13 rfl (fun w hI => long_g _ _ _ _ _ _ _ _ _ _ _)) rfl ?_
  rintro _ _ _ ⟨rfl, rfl, rfl⟩
  refine WL.nil ?_
  refine WP.thenC ?_
  refine WC.cond rfl (fun c23 => ?_) (fun c23 => ?_)
  · try simp only [zq1, zq2, zq3, zq4, zq5, zq6, zq7, zq8] at c23
    refine WC.seq ?_
    refine WC.ofFr [(6, _), (3, _), (1, _), (2, _)] ⟨rfl, rfl, rfl, rfl, trivial⟩ ?_
    refine WC.region ?_
    refine WL.so (SO.callP Try.call14 rfl (fun w hI => alive_g D _ hI.imm)) rfl ?_
    rintro _ _ _ ⟨rfl, rfl, rfl⟩
    refine WL.yd (Yd.assign rfl) rfl ?_
    refine WL.nil ?_
    refine WP.thenC ?_
    refine WC.ret ?_
    refine WP.thenRet ?_
    refine WP.ret1 rfl rfl Try.results3 (RV.tmp rfl) (fun w hI => ⟨rfl, hI.keep⟩)
  · try simp only [zq1, zq2, zq3, zq4, zq5, zq6, zq7, zq8] at c23
    have hR : DipsR D d a1 n1 a2 n2 := ⟨hS1, hS2, by omega, by omega⟩
    have hP : PlanR D plan a3 n3 := ⟨hS3, by omega⟩
    refine WC.skip ?_
    refine WP.thenC ?_
    refine WC.seq ?_
    refine WC.ofFr [(6, _), (3, _), (1, _), (2, _)] ⟨rfl, rfl, rfl, rfl, trivial⟩ ?_
    refine WC.region ?_
    refine WL.yd (Yd.loadN Try.isAgg25 Try.sizeOf25 rfl (vs := [_, _, _]) rfl (by first | exact RdN.own (k := 0) (n := 3) rfl rfl)) rfl ?_
    refine WL.yd (Yd.move rfl) rfl ?_
    refine WL.so (SO.callP Try.call15 rfl (fun w hI => Check_g d a1 _ c1 a2 _ c2 D _ hR hI.imm plan a3 _ c3 hP)) rfl ?_
    rintro _ _ _ ⟨rfl, rfl, rfl⟩
    refine WL.yd (Yd.move rfl) rfl ?_
    refine WL.yd (Yd.extract rfl rfl) rfl ?_
    refine WL.yd (Yd.extract rfl rfl) rfl ?_
    refine WL.yd (Yd.extract rfl rfl) rfl ?_
    refine WL.yd (Yd.assign rfl) rfl ?_
    refine WL.yd (Yd.assign rfl) rfl ?_
    refine WL.yd (Yd.assign rfl) rfl ?_
    refine WL.nil ?_
    refine WP.thenC ?_
    refine WC.seq ?_
    refine WC.ofFr [(9, _), (8, _), (7, _), (6, _), (3, _), (1, _), (2, _)] ⟨rfl, rfl, rfl, rfl, rfl, rfl, rfl, trivial⟩ ?_
    refine WC.region ?_
    refine WL.yd (Yd.loadN Try.isAgg25 Try.sizeOf25 rfl (vs := [_, _, _]) rfl (by first | exact RdN.own (k := 0) (n := 3) rfl rfl)) rfl ?_
    refine WL.yd (Yd.move rfl) rfl ?_
    refine WL.so (SO.callP Try.call16 rfl (fun w hI => checkF_g d a1 _ c1 a2 _ c2 D _ hR hI.imm plan a3 _ c3 hP)) rfl ?_
    rintro _ _ _ ⟨rfl, rfl, rfl⟩
    refine WL.yd (Yd.move rfl) rfl ?_
    refine WL.yd (Yd.extract rfl rfl) rfl ?_
    refine WL.yd (Yd.extract rfl rfl) rfl ?_
    refine WL.yd (Yd.extract rfl rfl) rfl ?_
    refine WL.yd (Yd.assign rfl) rfl ?_
    refine WL.yd (Yd.assign rfl) rfl ?_
    refine WL.yd (Yd.assign rfl) rfl ?_
    refine WL.nil ?_
    refine WP.thenC ?_
    refine WC.seq ?_
    refine WC.ofFr [(12, _), (11, _), (10, _), (9, _), (8, _), (7, _), (6, _), (3, _), (1, _), (2, _)] ⟨rfl, rfl, rfl, rfl, rfl, rfl, rfl, rfl, rfl, rfl, trivial⟩ ?_
    refine WC.region ?_
    refine WL.yd (Yd.loadN Try.isAgg25 Try.sizeOf25 rfl (vs := [_, _, _]) rfl (by first | exact RdN.own (k := 0) (n := 3) rfl rfl)) rfl ?_
    refine WL.yd (Yd.move rfl) rfl ?_
    refine WL.so (SO.callP Try.call17 rfl (fun w hI => Right_g d a1 _ c1 a2 _ c2 D _ hR hI.imm plan a3 _ c3 hP)) rfl ?_
    rintro _ _ _ ⟨rfl, rfl, rfl⟩
    refine WL.yd (Yd.move rfl) rfl ?_
    refine WL.yd (Yd.extract rfl rfl) rfl ?_
    refine WL.yd (Yd.extract rfl rfl) rfl ?_
    refine WL.yd (Yd.assign rfl) rfl ?_
    refine WL.yd (Yd.assign rfl) rfl ?_
    refine WL.nil ?_
    refine WP.thenC ?_
    refine WC.seq ?_
    refine WC.ofFr [(14, _), (13, _), (12, _), (11, _), (10, _), (9, _), (8, _), (7, _), (6, _), (3, _), (1, _), (2, _)] ⟨rfl, rfl, rfl, rfl, rfl, rfl, rfl, rfl, rfl, rfl, rfl, rfl, trivial⟩ ?_
    refine WC.region ?_
    refine WL.yd (Yd.loadN Try.isAgg25 Try.sizeOf25 rfl (vs := [_, _, _]) rfl (by first | exact RdN.own (k := 0) (n := 3) rfl rfl)) rfl ?_
    refine WL.yd (Yd.move rfl) rfl ?_
    refine WL.so (SO.callP Try.call18 rfl (fun w hI => rightF_g d a1 _ c1 a2 _ c2 D _ hR hI.imm plan a3 _ c3 hP)) rfl ?_
    rintro _ _ _ ⟨rfl, rfl, rfl⟩
    refine WL.yd (Yd.move rfl) rfl ?_
    refine WL.yd (Yd.extract rfl rfl) rfl ?_
    refine WL.yd (Yd.extract rfl rfl) rfl ?_
    refine WL.yd (Yd.assign rfl) rfl ?_
    refine WL.yd (Yd.assign rfl) rfl ?_
    refine WL.nil ?_
    refine WP.thenC ?_
    refine WC.seq ?_
    refine WC.ofFr [(16, _), (15, _), (14, _), (13, _), (12, _), (11, _), (10, _), (9, _), (8, _), (7, _), (6, _), (3, _), (2, _)] ⟨rfl, rfl, rfl, rfl, rfl, rfl, rfl, rfl, rfl, rfl, rfl, rfl, rfl, trivial⟩ ?_
    refine WC.region ?_
    refine WL.yd (Yd.loadN Try.isAgg25 Try.sizeOf25 rfl (vs := [_, _, _]) rfl (by first | exact RdN.own (k := 0) (n := 3) rfl rfl)) rfl ?_
    refine WL.yd (Yd.move rfl) rfl ?_
    refine WL.so (SO.callP Try.call19 rfl (fun w hI => Hands_g d a1 _ c1 a2 _ c2 D _ hR hI.imm hour)) rfl ?_
    rintro _ _ _ ⟨rfl, rfl, rfl⟩
    refine WL.yd (Yd.move rfl) rfl ?_
    refine WL.yd (Yd.extract rfl rfl) rfl ?_
    refine WL.yd (Yd.extract rfl rfl) rfl ?_
    refine WL.so (SO.alloc Try.zeroValue35 rfl) rfl ?_
    rintro _ _ _ ⟨b17, hb17, rfl, rfl, rfl⟩ -- NEW
    refine WL.so (SO.store 0 rfl Try.sizeOf35 rfl rfl rfl rfl (Nat.le_of_ble_eq_true rfl) (oneB_spec rfl)) rfl ?_
    rintro _ _ _ ⟨rfl, rfl, rfl⟩
    refine WL.yd (Yd.assign rfl) rfl ?_
    refine WL.nil ?_
    refine WP.thenC ?_
    refine WC.seq ?_
    refine WC.ofFr [(18, _), (17, _), (16, _), (15, _), (14, _), (13, _), (12, _), (11, _), (10, _), (9, _), (8, _), (7, _), (6, _), (3, _), (2, _)] ⟨rfl, rfl, rfl, rfl, rfl, rfl, rfl, rfl, rfl, rfl, rfl, rfl, rfl, rfl, rfl, trivial⟩ ?_
    refine WC.region ?_
    refine WL.yd (Yd.loadN Try.isAgg25 Try.sizeOf25 rfl (vs := [_, _, _]) rfl (by first | exact RdN.own (k := 0) (n := 3) rfl rfl | exact RdN.own (k := 1) (n := 3) rfl rfl)) rfl ?_
    refine WL.yd (Yd.move rfl) rfl ?_
    refine WL.so (SO.callP Try.call20 rfl (fun w hI => handsF_g d a1 _ c1 a2 _ c2 D _ hR hI.imm hour)) rfl ?_
    rintro _ _ _ ⟨rfl, rfl, rfl⟩
    refine WL.yd (Yd.move rfl) rfl ?_
    refine WL.yd (Yd.extract rfl rfl) rfl ?_
    refine WL.yd (Yd.extract rfl rfl) rfl ?_
    refine WL.so (SO.alloc Try.zeroValue35 rfl) rfl ?_
    rintro _ _ _ ⟨b19, hb19, rfl, rfl, rfl⟩ -- NEW
    refine WL.so (SO.store 0 rfl Try.sizeOf35 rfl rfl rfl rfl (Nat.le_of_ble_eq_true rfl) (oneB_spec rfl)) rfl ?_
    rintro _ _ _ ⟨rfl, rfl, rfl⟩
    refine WL.yd (Yd.assign rfl) rfl ?_
    refine WL.nil ?_
    refine WP.thenC ?_
    refine WC.seq ?_
    refine WC.ofFr [(20, _), (19, _), (18, _), (17, _), (16, _), (15, _), (14, _), (13, _), (12, _), (11, _), (10, _), (9, _), (8, _), (7, _), (6, _)] ⟨rfl, rfl, rfl, rfl, rfl, rfl, rfl, rfl, rfl, rfl, rfl, rfl, rfl, rfl, rfl, trivial⟩ ?_
    refine WC.region ?_
    refine WL.yd (Yd.move rfl) rfl ?_
    refine WL.yd (Yd.move rfl) rfl ?_
    refine WL.yd (Yd.eql rfl rfl) rfl ?_
    refine WL.know 65 (.bool true) rfl (congrArg Value.bool (decide_eq_true rfl)) ?_
    refine WL.yd (Yd.move rfl) rfl ?_
    refine WL.ydg rfl (Yd.move rfl) rfl ?_
    refine WL.ydg rfl (Yd.move rfl) rfl ?_
    refine WL.ydg rfl (Yd.eql rfl rfl) rfl ?_
    refine WL.know 69 (.bool true) rfl (congrArg Value.bool (decide_eq_true rfl)) ?_
    refine WL.yd (Yd.pickT rfl rfl) rfl ?_
    refine WL.yd (Yd.move rfl) rfl ?_
    refine WL.ydg rfl (Yd.move rfl) rfl ?_
    refine WL.ydg rfl (Yd.move rfl) rfl ?_
    refine WL.ydg rfl (Yd.eql rfl rfl) rfl ?_
    refine WL.know 74 (.bool true) rfl (congrArg Value.bool (decide_eq_true rfl)) ?_
    refine WL.yd (Yd.pickT rfl rfl) rfl ?_
    refine WL.yd (Yd.move rfl) rfl ?_
    refine WL.ydg rfl (Yd.move rfl) rfl ?_
    refine WL.ydg rfl (Yd.move rfl) rfl ?_
    refine WL.ydg rfl (Yd.eql rfl rfl) rfl ?_
    refine WL.know 79 (.bool true) rfl (congrArg Value.bool (decide_eq_true rfl)) ?_
    refine WL.yd (Yd.pickT rfl rfl) rfl ?_
    refine WL.yd (Yd.move rfl) rfl ?_
    refine WL.ydg rfl (Yd.move rfl) rfl ?_
    refine WL.ydg rfl (Yd.move rfl) rfl ?_
    refine WL.ydg rfl (Yd.eql rfl rfl) rfl ?_
    refine WL.know 84 (.bool true) rfl (congrArg Value.bool (decide_eq_true rfl)) ?_
    refine WL.yd (Yd.pickT rfl rfl) rfl ?_
    refine WL.yd (Yd.move rfl) rfl ?_
    refine WL.ydg rfl (Yd.loadN Try.isAgg35 Try.sizeOf35 rfl (vs := [_, _]) rfl (by first | exact RdN.own (k := 0) (n := 2) rfl rfl | exact RdN.own (k := 1) (n := 2) rfl rfl | exact RdN.own (k := 2) (n := 2) rfl rfl)) rfl ?_
    refine WL.ydg rfl (Yd.loadN Try.isAgg35 Try.sizeOf35 rfl (vs := [_, _]) rfl (by first | exact RdN.own (k := 0) (n := 2) rfl rfl | exact RdN.own (k := 1) (n := 2) rfl rfl | exact RdN.own (k := 2) (n := 2) rfl rfl)) rfl ?_
    refine WL.ydg rfl (Yd.eqS Try.eqGuardType35 (eq35 _ _ _ _) rfl rfl) rfl ?_
    refine WL.know 89 (.bool true) rfl (congrArg Value.bool (decide_eq_true rfl)) ?_
    refine WL.yd (Yd.pickT rfl rfl) rfl ?_
    refine WL.yd (Yd.move rfl) rfl ?_
    refine WL.ydg rfl (Yd.move rfl) rfl ?_
    refine WL.ydg rfl (Yd.move rfl) rfl ?_
    refine WL.ydg rfl (Yd.eql rfl rfl) rfl ?_
    refine WL.know 94 (.bool true) rfl (congrArg Value.bool (decide_eq_true rfl)) ?_
    refine WL.yd (Yd.pickT rfl rfl) rfl ?_
    refine WL.yd (Yd.move rfl) rfl ?_
    refine WL.sog rfl (SO.callP Try.call14 rfl (fun w hI => alive_g D _ hI.imm)) rfl ?_
    rintro _ _ _ ⟨rfl, rfl, rfl⟩
    refine WL.know 97 (.bool true) rfl rfl ?_
    refine WL.yd (Yd.pickT rfl rfl) rfl ?_
    refine WL.yd (Yd.assign rfl) rfl ?_
    refine WL.nil ?_
    refine WP.thenC ?_
    refine WC.ret ?_
    refine WP.ret1 rfl rfl Try.results3 (RV.tmp rfl) (fun w hI => ⟨rfl, hI.keep⟩)

end Go.Proofs.Ytidjdonppfegiaa
namespace Go.Proofs.Ytidjdonppfegiaa
open Go.W Go.Dp

theorem an1 : CheckR (sampD 6) [⟨0, 0⟩, ⟨1, 1⟩, ⟨1, 0⟩] = (0, 0, 4) := by kernel_rfl
theorem an2 : CheckR (sampD 6) [⟨2, 1⟩, ⟨1, 1⟩, ⟨1, 0⟩] = (0, 1, 0) := by kernel_rfl
theorem an3 : RightR (sampD 6) [⟨2, 1⟩, ⟨1, 1⟩, ⟨1, 0⟩] = (0, 0) := by kernel_rfl
theorem an4 : HandsR (sampD 6) 0 = (⟨3, 4⟩, 0) := by kernel_rfl
theorem an5 : HandsR (sampD 6) 2 = (⟨2, 2⟩, 0) := by kernel_rfl
theorem an6 : (PlanOut (sampD 4)).2 = 4 := by kernel_rfl
theorem an7 : HopeOut (sampD 6) = (2, 0) := by kernel_rfl
theorem an8 : MostOut (sampD 6) = (3, 7, 0) := by kernel_rfl
theorem an9 : WhyOut (sampD 6) = (0, 4) := by kernel_rfl

set_option maxRecDepth 100000 in
set_option maxHeartbeats 1000000 in
theorem names_g (D : Imm) (w : World) (hH : Holds D w) : Gives Try.prog 6 [] w (.bool true) := by
  unfold Gives
  refine enter Try.func6 rfl 149 Try.ntmps6 (Nat.le_of_ble_eq_true rfl) (Inv.start hH) ?_
  refine WC.seq ?_
  refine WC.ofFr [] trivial ?_
  refine WC.region ?_
  refine WL.yd (Yd.assign rfl) rfl ?_
  refine WL.nil ?_
  refine WP.thenC ?_
  refine WC.seq ?_
  refine WC.ofFr [(0, _)] ⟨rfl, trivial⟩ ?_
  refine WC.region ?_
  refine WL.so (SO.makes (Enters.func Try.call33 rfl) (fun w hI => sample_g 6 _ w hI.imm)) rfl ?_
  rintro _ D1 _ ⟨hX1, ⟨a1_1, c1_1, a2_1, c2_1, rfl, hR1⟩, rfl⟩
  refine WL.so (SO.buildSlice Try.underlying51 Try.sizeOf3 Try.zeroValue3 rfl rfl rfl rfl (cs := [_, _, _, _, _, _]) rfl) rfl ?_
  rintro _ _ _ ⟨b24, hb24, rfl, rfl, rfl⟩ -- NEW
  refine WL.freezeK 0 rfl (fun hn24 => ?_)
  have hF24 := fun o => (DExt.refl w D1).add (o := o) hn24 hb24
  have hR1 := hR1.ext (hF24 (.cells (List.toArray [it 0, it 0, it 1, it 1, it 1, it 0]) 3 (0, 0)))
  refine WL.so (SO.makes (Enters.func Try.call34 rfl) (fun w hI => lplan_g [0, 0, 1, 1, 1, 0] _ _ _ _ w (ints_sl [0, 0, 1, 1, 1, 0] (Imm.add_self _ _ _)) (by decide) hI.imm)) rfl ?_
  rintro _ D2 _ ⟨hX2, ⟨a3_2, n3_2, c3_2, rfl, hP2⟩, rfl⟩
  replace hP2 : PlanR D2 [⟨0, 0⟩, ⟨1, 1⟩, ⟨1, 0⟩] a3_2 n3_2 := hP2
  have hR1 := hR1.ext hX2
  refine WL.so (SO.callP Try.call15 rfl (fun w hI => Gives.cv (.tuple #[it 0, it 0, it 4]) (Check_g (sampD 6) a1_1 _ c1_1 a2_1 _ c2_1 _ w hR1 hI.imm [⟨0, 0⟩, ⟨1, 1⟩, ⟨1, 0⟩] a3_2 _ c3_2 hP2) (by rw [an1]))) rfl ?_
  rintro _ _ _ ⟨rfl, rfl, rfl⟩
  refine WL.yd (Yd.move rfl) rfl ?_
  refine WL.yd (Yd.extract rfl rfl) rfl ?_
  refine WL.yd (Yd.extract rfl rfl) rfl ?_
  refine WL.yd (Yd.extract rfl rfl) rfl ?_
  refine WL.yd (Yd.assign rfl) rfl ?_
  refine WL.yd (Yd.assign rfl) rfl ?_
  refine WL.yd (Yd.assign rfl) rfl ?_
  refine WL.nil ?_
  refine WP.thenC ?_
  refine WC.seq ?_
  refine WC.ofFr [(3, _), (0, _)] ⟨rfl, rfl, trivial⟩ ?_
  refine WC.region ?_
  refine WL.so (SO.makes (Enters.func Try.call33 rfl) (fun w hI => sample_g 6 _ w hI.imm)) rfl ?_
  rintro _ D3 _ ⟨hX3, ⟨a1_3, c1_3, a2_3, c2_3, rfl, hR3⟩, rfl⟩
  refine WL.so (SO.buildSlice Try.underlying51 Try.sizeOf3 Try.zeroValue3 rfl rfl rfl rfl (cs := [_, _, _, _, _, _]) rfl) rfl ?_
  rintro _ _ _ ⟨b32, hb32, rfl, rfl, rfl⟩ -- NEW
  refine WL.freezeK 0 rfl (fun hn32 => ?_)
  have hF32 := fun o => (DExt.refl w D3).add (o := o) hn32 hb32
  have hR3 := hR3.ext (hF32 (.cells (List.toArray [it 2, it 1, it 1, it 1, it 1, it 0]) 3 (0, 0)))
  refine WL.so (SO.makes (Enters.func Try.call34 rfl) (fun w hI => lplan_g [2, 1, 1, 1, 1, 0] _ _ _ _ w (ints_sl [2, 1, 1, 1, 1, 0] (Imm.add_self _ _ _)) (by decide) hI.imm)) rfl ?_
  rintro _ D4 _ ⟨hX4, ⟨a3_4, n3_4, c3_4, rfl, hP4⟩, rfl⟩
  replace hP4 : PlanR D4 [⟨2, 1⟩, ⟨1, 1⟩, ⟨1, 0⟩] a3_4 n3_4 := hP4
  have hR3 := hR3.ext hX4
  refine WL.so (SO.callP Try.call15 rfl (fun w hI => Gives.cv (.tuple #[it 0, it 1, it 0]) (Check_g (sampD 6) a1_3 _ c1_3 a2_3 _ c2_3 _ w hR3 hI.imm [⟨2, 1⟩, ⟨1, 1⟩, ⟨1, 0⟩] a3_4 _ c3_4 hP4) (by rw [an2]))) rfl ?_
  rintro _ _ _ ⟨rfl, rfl, rfl⟩
  refine WL.yd (Yd.move rfl) rfl ?_
  refine WL.yd (Yd.extract rfl rfl) rfl ?_
  refine WL.yd (Yd.extract rfl rfl) rfl ?_
  refine WL.yd (Yd.extract rfl rfl) rfl ?_
  refine WL.yd (Yd.assign rfl) rfl ?_
  refine WL.yd (Yd.assign rfl) rfl ?_
  refine WL.yd (Yd.assign rfl) rfl ?_
  refine WL.nil ?_
  refine WP.thenC ?_
  refine WC.seq ?_
  refine WC.ofFr [(6, _), (5, _), (4, _), (3, _), (0, _)] ⟨rfl, rfl, rfl, rfl, rfl, trivial⟩ ?_
  refine WC.region ?_
  refine WL.so (SO.makes (Enters.func Try.call33 rfl) (fun w hI => sample_g 6 _ w hI.imm)) rfl ?_
  rintro _ D5 _ ⟨hX5, ⟨a1_5, c1_5, a2_5, c2_5, rfl, hR5⟩, rfl⟩
  refine WL.so (SO.buildSlice Try.underlying51 Try.sizeOf3 Try.zeroValue3 rfl rfl rfl rfl (cs := [_, _, _, _, _, _]) rfl) rfl ?_
  rintro _ _ _ ⟨b40, hb40, rfl, rfl, rfl⟩ -- NEW
  refine WL.freezeK 0 rfl (fun hn40 => ?_)
  have hF40 := fun o => (DExt.refl w D5).add (o := o) hn40 hb40
  have hR5 := hR5.ext (hF40 (.cells (List.toArray [it 2, it 1, it 1, it 1, it 1, it 0]) 3 (0, 0)))
  refine WL.so (SO.makes (Enters.func Try.call34 rfl) (fun w hI => lplan_g [2, 1, 1, 1, 1, 0] _ _ _ _ w (ints_sl [2, 1, 1, 1, 1, 0] (Imm.add_self _ _ _)) (by decide) hI.imm)) rfl ?_
  rintro _ D6 _ ⟨hX6, ⟨a3_6, n3_6, c3_6, rfl, hP6⟩, rfl⟩
  replace hP6 : PlanR D6 [⟨2, 1⟩, ⟨1, 1⟩, ⟨1, 0⟩] a3_6 n3_6 := hP6
  have hR5 := hR5.ext hX6
  refine WL.so (SO.callP Try.call17 rfl (fun w hI => Gives.cv (.tuple #[it 0, it 0]) (Right_g (sampD 6) a1_5 _ c1_5 a2_5 _ c2_5 _ w hR5 hI.imm [⟨2, 1⟩, ⟨1, 1⟩, ⟨1, 0⟩] a3_6 _ c3_6 hP6) (by rw [an3]))) rfl ?_
  rintro _ _ _ ⟨rfl, rfl, rfl⟩
  refine WL.yd (Yd.move rfl) rfl ?_
  refine WL.yd (Yd.extract rfl rfl) rfl ?_
  refine WL.yd (Yd.extract rfl rfl) rfl ?_
  refine WL.yd (Yd.assign rfl) rfl ?_
  refine WL.yd (Yd.assign rfl) rfl ?_
  refine WL.nil ?_
  refine WP.thenC ?_
  refine WC.seq ?_
  refine WC.ofFr [(8, _), (7, _), (6, _), (5, _), (4, _), (3, _), (0, _)] ⟨rfl, rfl, rfl, rfl, rfl, rfl, rfl, trivial⟩ ?_
  refine WC.region ?_
  refine WL.so (SO.makes (Enters.func Try.call33 rfl) (fun w hI => sample_g 6 _ w hI.imm)) rfl ?_
  rintro _ D7 _ ⟨hX7, ⟨a1_7, c1_7, a2_7, c2_7, rfl, hR7⟩, rfl⟩
  refine WL.so (SO.callP Try.call19 rfl (fun w hI => Gives.cv (.tuple #[.agg #[it 3, it 4], it 0]) (Hands_g (sampD 6) a1_7 _ c1_7 a2_7 _ c2_7 _ w hR7 hI.imm 0) (by rw [an4]))) rfl ?_
  rintro _ _ _ ⟨rfl, rfl, rfl⟩
  refine WL.yd (Yd.move rfl) rfl ?_
  refine WL.yd (Yd.extract rfl rfl) rfl ?_
  refine WL.yd (Yd.extract rfl rfl) rfl ?_
  refine WL.so (SO.alloc Try.zeroValue35 rfl) rfl ?_
  rintro _ _ _ ⟨b9, hb9, rfl, rfl, rfl⟩ -- NEW
  refine WL.so (SO.store 0 rfl Try.sizeOf35 rfl rfl rfl rfl (Nat.le_of_ble_eq_true rfl) (oneB_spec rfl)) rfl ?_
  rintro _ _ _ ⟨rfl, rfl, rfl⟩
  refine WL.yd (Yd.assign rfl) rfl ?_
  refine WL.nil ?_
  refine WP.thenC ?_
  refine WC.seq ?_
  refine WC.ofFr [(10, _), (9, _), (8, _), (7, _), (6, _), (5, _), (4, _), (3, _), (0, _)] ⟨rfl, rfl, rfl, rfl, rfl, rfl, rfl, rfl, rfl, trivial⟩ ?_
  refine WC.region ?_
  refine WL.so (SO.makes (Enters.func Try.call33 rfl) (fun w hI => sample_g 6 _ w hI.imm)) rfl ?_
  rintro _ D8 _ ⟨hX8, ⟨a1_8, c1_8, a2_8, c2_8, rfl, hR8⟩, rfl⟩
  refine WL.so (SO.callP Try.call19 rfl (fun w hI => Gives.cv (.tuple #[.agg #[it 2, it 2], it 0]) (Hands_g (sampD 6) a1_8 _ c1_8 a2_8 _ c2_8 _ w hR8 hI.imm 2) (by rw [an5]))) rfl ?_
  rintro _ _ _ ⟨rfl, rfl, rfl⟩
  refine WL.yd (Yd.move rfl) rfl ?_
  refine WL.yd (Yd.extract rfl rfl) rfl ?_
  refine WL.yd (Yd.extract rfl rfl) rfl ?_
  refine WL.so (SO.alloc Try.zeroValue35 rfl) rfl ?_
  rintro _ _ _ ⟨b11, hb11, rfl, rfl, rfl⟩ -- NEW
  refine WL.so (SO.store 0 rfl Try.sizeOf35 rfl rfl rfl rfl (Nat.le_of_ble_eq_true rfl) (oneB_spec rfl)) rfl ?_
  rintro _ _ _ ⟨rfl, rfl, rfl⟩
  refine WL.yd (Yd.assign rfl) rfl ?_
  refine WL.nil ?_
  refine WP.thenC ?_
  refine WC.seq ?_
  refine WC.ofFr [(12, _), (11, _), (10, _), (9, _), (8, _), (7, _), (6, _), (5, _), (4, _), (3, _), (0, _)] ⟨rfl, rfl, rfl, rfl, rfl, rfl, rfl, rfl, rfl, rfl, rfl, trivial⟩ ?_
  refine WC.region ?_
  refine WL.so (SO.makes (Enters.func Try.call33 rfl) (fun w hI => sample_g 4 _ w hI.imm)) rfl ?_
  rintro _ D9 _ ⟨hX9, ⟨a1_9, c1_9, a2_9, c2_9, rfl, hR9⟩, rfl⟩
  refine WL.so (SO.makes (Enters.func Try.call22 rfl) (fun w hI => Plan_g (sampD 4) a1_9 _ c1_9 a2_9 _ c2_9 _ w hR9 hI.imm)) rfl ?_
  rintro _ D10 _ ⟨hX10, ⟨a3_10, n3_10, c3_10, rfl, hP10⟩, rfl⟩
  have hR9 := hR9.ext hX10
  refine WL.yd (Yd.move rfl) rfl ?_
  refine WL.yd (Yd.extract rfl rfl) rfl ?_
  refine WL.yd (Yd.extract rfl rfl) rfl ?_
  refine WL.yd (Yd.assign rfl) rfl ?_
  refine WL.yd (Yd.assign rfl) rfl ?_
  refine WL.nil ?_
  refine WP.thenC ?_
  refine WC.seq ?_
  refine WC.ofFr [(14, _), (12, _), (11, _), (10, _), (9, _), (8, _), (7, _), (6, _), (5, _), (4, _), (3, _), (0, _)] ⟨rfl, rfl, rfl, rfl, rfl, rfl, rfl, rfl, rfl, rfl, rfl, rfl, trivial⟩ ?_
  refine WC.region ?_
  refine WL.so (SO.makes (Enters.func Try.call33 rfl) (fun w hI => sample_g 6 _ w hI.imm)) rfl ?_
  rintro _ D11 _ ⟨hX11, ⟨a1_11, c1_11, a2_11, c2_11, rfl, hR11⟩, rfl⟩
  refine WL.so (SO.callP Try.call24 rfl (fun w hI => Gives.cv (.tuple #[it 2, it 0]) (Hope_g (sampD 6) a1_11 _ c1_11 a2_11 _ c2_11 _ w hR11 hI.imm) (by rw [an7]))) rfl ?_
  rintro _ _ _ ⟨rfl, rfl, rfl⟩
  refine WL.yd (Yd.move rfl) rfl ?_
  refine WL.yd (Yd.extract rfl rfl) rfl ?_
  refine WL.yd (Yd.extract rfl rfl) rfl ?_
  refine WL.yd (Yd.assign rfl) rfl ?_
  refine WL.yd (Yd.assign rfl) rfl ?_
  refine WL.nil ?_
  refine WP.thenC ?_
  refine WC.seq ?_
  refine WC.ofFr [(16, _), (15, _), (14, _), (12, _), (11, _), (10, _), (9, _), (8, _), (7, _), (6, _), (5, _), (4, _), (3, _), (0, _)] ⟨rfl, rfl, rfl, rfl, rfl, rfl, rfl, rfl, rfl, rfl, rfl, rfl, rfl, rfl, trivial⟩ ?_
  refine WC.region ?_
  refine WL.so (SO.makes (Enters.func Try.call33 rfl) (fun w hI => sample_g 6 _ w hI.imm)) rfl ?_
  rintro _ D12 _ ⟨hX12, ⟨a1_12, c1_12, a2_12, c2_12, rfl, hR12⟩, rfl⟩
  refine WL.so (SO.callP Try.call29 rfl (fun w hI => Gives.cv (.tuple #[it 3, it 7, it 0]) (Most_g (sampD 6) a1_12 _ c1_12 a2_12 _ c2_12 _ w hR12 hI.imm) (by rw [an8]))) rfl ?_
  rintro _ _ _ ⟨rfl, rfl, rfl⟩
  refine WL.yd (Yd.move rfl) rfl ?_
  refine WL.yd (Yd.extract rfl rfl) rfl ?_
  refine WL.yd (Yd.extract rfl rfl) rfl ?_
  refine WL.yd (Yd.extract rfl rfl) rfl ?_
  refine WL.yd (Yd.assign rfl) rfl ?_
  refine WL.yd (Yd.assign rfl) rfl ?_
  refine WL.yd (Yd.assign rfl) rfl ?_
  refine WL.nil ?_
  refine WP.thenC ?_
  refine WC.seq ?_
  refine WC.ofFr [(19, _), (18, _), (17, _), (16, _), (15, _), (14, _), (12, _), (11, _), (10, _), (9, _), (8, _), (7, _), (6, _), (5, _), (4, _), (3, _), (0, _)] ⟨rfl, rfl, rfl, rfl, rfl, rfl, rfl, rfl, rfl, rfl, rfl, rfl, rfl, rfl, rfl, rfl, rfl, trivial⟩ ?_
  refine WC.region ?_
  refine WL.so (SO.makes (Enters.func Try.call33 rfl) (fun w hI => sample_g 6 _ w hI.imm)) rfl ?_
  rintro _ D13 _ ⟨hX13, ⟨a1_13, c1_13, a2_13, c2_13, rfl, hR13⟩, rfl⟩
  refine WL.so (SO.callP Try.call31 rfl (fun w hI => Gives.cv (.tuple #[it 0, it 4]) (Why_g (sampD 6) a1_13 _ c1_13 a2_13 _ c2_13 _ w hR13 hI.imm) (by rw [an9]))) rfl ?_
  rintro _ _ _ ⟨rfl, rfl, rfl⟩
  refine WL.yd (Yd.move rfl) rfl ?_
  refine WL.yd (Yd.extract rfl rfl) rfl ?_
  refine WL.yd (Yd.extract rfl rfl) rfl ?_
  refine WL.yd (Yd.assign rfl) rfl ?_
  refine WL.yd (Yd.assign rfl) rfl ?_
  refine WL.nil ?_
  refine WP.thenC ?_
  refine WC.seq ?_
  refine WC.ofFr [(21, _), (19, _), (18, _), (17, _), (16, _), (15, _), (14, _), (12, _), (11, _), (10, _), (9, _), (8, _), (7, _), (6, _), (5, _), (4, _), (3, _), (0, _)] ⟨rfl, rfl, rfl, rfl, rfl, rfl, rfl, rfl, rfl, rfl, rfl, rfl, rfl, rfl, rfl, rfl, rfl, rfl, trivial⟩ ?_
  refine WC.tail 39 [0, 1, 2, 3, 4, 5, 6, 7, 8, 9, 10, 11, 12, 13, 14, 15, 16, 17, 18, 19, 20, 21, 22, 23, 24, 25, 26, 27, 28, 29, 30, 31, 32, 33, 34, 35, 36, 37, 38] rfl (by kernel_rfl) (by kernel_rfl)  ?_
  refine WQ.q rfl (Yd.qt (Yd.move rfl)) rfl ?_
  refine WQ.qg rfl rfl (Qt.callP Try.call14 rfl (fun w hI => alive_g _ _ hI.imm)) rfl ?_
  refine WQ.know 77 (.bool true) rfl rfl ?_
  refine WQ.q rfl (Yd.qt (Yd.pickT rfl rfl)) rfl ?_
  refine WQ.q rfl (Yd.qt (Yd.move rfl)) rfl ?_
  refine WQ.qg rfl rfl (Yd.qt (Yd.move rfl)) rfl ?_
  refine WQ.qg rfl rfl (Yd.qt (Yd.eql rfl rfl)) rfl ?_
  refine WQ.know 81 (.bool true) rfl (congrArg Value.bool (by decide)) ?_
  refine WQ.q rfl (Yd.qt (Yd.pickT rfl rfl)) rfl ?_
  refine WQ.q rfl (Yd.qt (Yd.move rfl)) rfl ?_
  refine WQ.qg rfl rfl (Yd.qt (Yd.move rfl)) rfl ?_
  refine WQ.qg rfl rfl (Yd.qt (Yd.eql rfl rfl)) rfl ?_
  refine WQ.know 85 (.bool true) rfl (congrArg Value.bool (by decide)) ?_
  refine WQ.q rfl (Yd.qt (Yd.pickT rfl rfl)) rfl ?_
  refine WQ.q rfl (Yd.qt (Yd.move rfl)) rfl ?_
  refine WQ.qg rfl rfl (Yd.qt (Yd.move rfl)) rfl ?_
  refine WQ.qg rfl rfl (Yd.qt (Yd.eql rfl rfl)) rfl ?_
  refine WQ.know 89 (.bool true) rfl (congrArg Value.bool (by decide)) ?_
  refine WQ.q rfl (Yd.qt (Yd.pickT rfl rfl)) rfl ?_
  refine WQ.q rfl (Yd.qt (Yd.move rfl)) rfl ?_
  refine WQ.qg rfl rfl (Yd.qt (Yd.move rfl)) rfl ?_
  refine WQ.qg rfl rfl (Yd.qt (Yd.eql rfl rfl)) rfl ?_
  refine WQ.know 93 (.bool true) rfl (congrArg Value.bool (by decide)) ?_
  refine WQ.q rfl (Yd.qt (Yd.pickT rfl rfl)) rfl ?_
  refine WQ.q rfl (Yd.qt (Yd.move rfl)) rfl ?_
  refine WQ.qg rfl rfl (Yd.qt (Yd.move rfl)) rfl ?_
  refine WQ.qg rfl rfl (Yd.qt (Yd.eql rfl rfl)) rfl ?_
  refine WQ.know 97 (.bool true) rfl (congrArg Value.bool (by decide)) ?_
  refine WQ.q rfl (Yd.qt (Yd.pickT rfl rfl)) rfl ?_
  refine WQ.q rfl (Yd.qt (Yd.move rfl)) rfl ?_
  refine WQ.qg rfl rfl (Yd.qt (Yd.move rfl)) rfl ?_
  refine WQ.qg rfl rfl (Yd.qt (Yd.eql rfl rfl)) rfl ?_
  refine WQ.know 101 (.bool true) rfl (congrArg Value.bool (by decide)) ?_
  refine WQ.q rfl (Yd.qt (Yd.pickT rfl rfl)) rfl ?_
  refine WQ.q rfl (Yd.qt (Yd.move rfl)) rfl ?_
  refine WQ.qg rfl rfl (Yd.qt (Yd.loadN Try.isAgg35 Try.sizeOf35 rfl (vs := [_, _]) rfl (by first | exact RdN.own (k := 0) (n := 2) rfl rfl | exact RdN.own (k := 1) (n := 2) rfl rfl))) rfl ?_
  refine WQ.qg rfl rfl (Qt.callP Try.call35 rfl (fun w hI => lspan_g _ _ _)) rfl ?_
  refine WQ.qg rfl rfl (Yd.qt (Yd.eqS Try.eqGuardType35 (eq35 _ _ _ _) rfl rfl)) rfl ?_
  refine WQ.know 106 (.bool true) rfl (congrArg Value.bool (decide_eq_true rfl)) ?_
  refine WQ.q rfl (Yd.qt (Yd.pickT rfl rfl)) rfl ?_
  refine WQ.q rfl (Yd.qt (Yd.move rfl)) rfl ?_
  refine WQ.qg rfl rfl (Yd.qt (Yd.move rfl)) rfl ?_
  refine WQ.qg rfl rfl (Yd.qt (Yd.eql rfl rfl)) rfl ?_
  refine WQ.know 110 (.bool true) rfl (congrArg Value.bool (by decide)) ?_
  refine WQ.q rfl (Yd.qt (Yd.pickT rfl rfl)) rfl ?_
  refine WQ.q rfl (Yd.qt (Yd.move rfl)) rfl ?_
  refine WQ.qg rfl rfl (Yd.qt (Yd.loadN Try.isAgg35 Try.sizeOf35 rfl (vs := [_, _]) rfl (by first | exact RdN.own (k := 0) (n := 2) rfl rfl | exact RdN.own (k := 1) (n := 2) rfl rfl))) rfl ?_
  refine WQ.qg rfl rfl (Qt.callP Try.call35 rfl (fun w hI => lspan_g _ _ _)) rfl ?_
  refine WQ.tail ?_
  refine WL.ydg rfl (Yd.eqS Try.eqGuardType35 (eq35 _ _ _ _) rfl rfl) rfl ?_
  refine WL.know 115 (.bool true) rfl (congrArg Value.bool (decide_eq_true rfl)) ?_
  refine WL.yd (Yd.pickT rfl rfl) rfl ?_
  refine WL.yd (Yd.move rfl) rfl ?_
  refine WL.ydg rfl (Yd.move rfl) rfl ?_
  refine WL.ydg rfl (Yd.eql rfl rfl) rfl ?_
  refine WL.know 119 (.bool true) rfl (congrArg Value.bool (by decide)) ?_
  refine WL.yd (Yd.pickT rfl rfl) rfl ?_
  refine WL.yd (Yd.move rfl) rfl ?_
  refine WL.ydg rfl (Yd.move rfl) rfl ?_
  refine WL.ydg rfl (Yd.eql rfl rfl) rfl ?_
  refine WL.know 123 (.bool true) rfl (congrArg Value.bool (by rw [an6]; decide)) ?_
  refine WL.yd (Yd.pickT rfl rfl) rfl ?_
  refine WL.yd (Yd.move rfl) rfl ?_
  refine WL.ydg rfl (Yd.move rfl) rfl ?_
  refine WL.ydg rfl (Yd.eql rfl rfl) rfl ?_
  refine WL.know 127 (.bool true) rfl (congrArg Value.bool (by decide)) ?_
  refine WL.yd (Yd.pickT rfl rfl) rfl ?_
  refine WL.yd (Yd.move rfl) rfl ?_
  refine WL.ydg rfl (Yd.move rfl) rfl ?_
  refine WL.ydg rfl (Yd.eql rfl rfl) rfl ?_
  refine WL.know 131 (.bool true) rfl (congrArg Value.bool (by decide)) ?_
  refine WL.yd (Yd.pickT rfl rfl) rfl ?_
  refine WL.yd (Yd.move rfl) rfl ?_
  refine WL.ydg rfl (Yd.move rfl) rfl ?_
  refine WL.ydg rfl (Yd.eql rfl rfl) rfl ?_
  refine WL.know 135 (.bool true) rfl (congrArg Value.bool (by decide)) ?_
  refine WL.yd (Yd.pickT rfl rfl) rfl ?_
  refine WL.yd (Yd.move rfl) rfl ?_
  refine WL.ydg rfl (Yd.move rfl) rfl ?_
  refine WL.ydg rfl (Yd.eql rfl rfl) rfl ?_
  refine WL.know 139 (.bool true) rfl (congrArg Value.bool (by decide)) ?_
  refine WL.yd (Yd.pickT rfl rfl) rfl ?_
  refine WL.yd (Yd.move rfl) rfl ?_
  refine WL.ydg rfl (Yd.move rfl) rfl ?_
  refine WL.ydg rfl (Yd.eql rfl rfl) rfl ?_
  refine WL.know 143 (.bool true) rfl (congrArg Value.bool (by decide)) ?_
  refine WL.yd (Yd.pickT rfl rfl) rfl ?_
  refine WL.yd (Yd.move rfl) rfl ?_
  refine WL.ydg rfl (Yd.move rfl) rfl ?_
  refine WL.ydg rfl (Yd.eql rfl rfl) rfl ?_
  refine WL.know 147 (.bool true) rfl (congrArg Value.bool (by decide)) ?_
  refine WL.yd (Yd.pickT rfl rfl) rfl ?_
  refine WL.yd (Yd.assign rfl) rfl ?_
  refine WL.nil ?_
  refine WP.thenC ?_
  refine WC.ret ?_
  refine WP.ret1 rfl rfl Try.results6 (RV.tmp rfl) (fun w hI => ⟨rfl, hI.keep⟩)

end Go.Proofs.Ytidjdonppfegiaa
