import Derived.Test.YtidjdonppfegiaaXT
import Derived.Test.YtidjdonppfegiaaXQ
import Derived.Test.YtidjdonppfegiaaXP
set_option linter.unusedSimpArgs false
set_option linter.unusedVariables false
set_option linter.all false
namespace Go.Proofs.Ytidjdonppfegiaa
open Go.W Go.Dp

set_option maxRecDepth 100000 in
set_option maxHeartbeats 1000000 in
theorem true_1 (d : Dips) (a1 : Option Addr) (n1 c1 : Nat) (a2 : Option Addr) (n2 c2 : Nat) (D : Imm) (w : World) (hS1 : SlL D 3 (d.dippers.map dipperC) a1 n1) (hS2 : SlL D 3 (d.bathers.map batherC) a2 n2) (hH : Holds D w) (by_ : List Int) (a4 : Option Addr) (n4 c4 : Nat) (hS4 : SlL D 1 (by_.map u16C) a4 n4) (hby : ∀ i, i < by_.length → 0 ≤ gt by_ i ∧ gt by_ i ≤ 65535) (hv : dipsB d = false) : Gives Try.prog 7 [.agg #[it d.hours, .slice a1 n1 c1, .slice a2 n2 c2], .slice a4 n4 c4] w (.bool true) := by
  unfold Gives
  refine enter Try.func7 rfl 281 Try.ntmps7 (Nat.le_of_ble_eq_true rfl) (Inv.start hH) ?_
  refine WC.seq ?_
  refine WC.ofFr [(0, _), (1, _)] ⟨rfl, rfl, trivial⟩ ?_
  refine WC.region ?_
  refine WL.so (SO.box rfl rfl) rfl ?_
  rintro _ _ _ ⟨b2, hb2, rfl, rfl, rfl⟩ -- NEW
  refine WL.yd (Yd.assign rfl) rfl ?_
  refine WL.nil ?_
  refine WP.thenC ?_
  refine WC.seq ?_
  refine WC.seq ?_
  refine WC.ofFr [(4, _), (2, _), (1, _)] ⟨rfl, rfl, rfl, trivial⟩ ?_
  refine WC.region ?_
  refine WL.yd (Yd.loadN Try.isAgg25 Try.sizeOf25 rfl (vs := [_, _, _]) rfl (by first | exact RdN.own (k := 0) (n := 3) rfl rfl)) rfl ?_
  refine WL.so (SO.callP Try.call13 rfl (fun w hI => long_g _ _ _ _ _ _ _ _ _ _ _)) rfl ?_
  rintro _ _ _ ⟨rfl, rfl, rfl⟩
  refine WL.nil ?_
  refine WP.thenC ?_
  refine WC.cond rfl (fun c32 => ?_) (fun c32 => ?_)
  · try simp only [decide_eq_true_eq, decide_eq_false_iff_not, Bool.not_eq_true', Bool.not_eq_false', Int.not_lt, Int.not_le, Bool.not_true, Bool.not_false] at c32
    refine WC.seq ?_
    refine WC.ofFr [(4, _), (2, _), (1, _)] ⟨rfl, rfl, rfl, trivial⟩ ?_
    refine WC.region ?_
    refine WL.so (SO.callP Try.call14 rfl (fun w hI => alive_g _ _ hI.imm)) rfl ?_
    rintro _ _ _ ⟨rfl, rfl, rfl⟩
    refine WL.yd (Yd.assign rfl) rfl ?_
    refine WL.nil ?_
    refine WP.thenC ?_
    refine WC.ret ?_
    refine WP.thenRet ?_
    refine WP.ret1 rfl rfl Try.results7 (RV.tmp rfl) (fun w hI => ⟨rfl, hI.keep⟩)
  · try simp only [decide_eq_true_eq, decide_eq_false_iff_not, Bool.not_eq_true', Bool.not_eq_false', Int.not_lt, Int.not_le, Bool.not_true, Bool.not_false] at c32
    have hR : DipsR D d a1 n1 a2 n2 := ⟨hS1, hS2, by omega, by omega⟩
    refine WC.skip ?_
    refine WP.thenC ?_
    refine WC.seq ?_
    refine WC.seq ?_
    refine WC.ofFr [(4, _), (2, _), (1, _)] ⟨rfl, rfl, rfl, trivial⟩ ?_
    refine WC.region ?_
    refine WL.yd (Yd.loadN Try.isAgg25 Try.sizeOf25 rfl (vs := [_, _, _]) rfl (by first | exact RdN.own (k := 0) (n := 3) rfl rfl)) rfl ?_
    refine WL.so (SO.callP Try.call36 rfl (fun w hI => dips_g d a1 _ c1 a2 _ c2 D _ hR hI.imm)) rfl ?_
    rintro _ _ _ ⟨rfl, rfl, rfl⟩
    refine WL.yd (Yd.not rfl) rfl ?_
    refine WL.nil ?_
    refine WP.thenC ?_
    refine WC.cond rfl (fun c36 => ?_) (fun c36 => ?_)
    · try simp only [decide_eq_true_eq, decide_eq_false_iff_not, Bool.not_eq_true', Bool.not_eq_false', Int.not_lt, Int.not_le, Bool.not_true, Bool.not_false] at c36
      have hpo : PlanOut d = ([], 1) := by unfold PlanOut; rw [hv]; rfl
      have hho : HopeOut d = (0, 1) := by unfold HopeOut; rw [hv]; rfl
      refine WC.seq ?_
      refine WC.ofFr [(4, _), (2, _), (1, _)] ⟨rfl, rfl, rfl, trivial⟩ ?_
      refine WC.region ?_
      refine WL.yd (Yd.loadN Try.isAgg25 Try.sizeOf25 rfl (vs := [_, _, _]) rfl (by first | exact RdN.own (k := 0) (n := 3) rfl rfl)) rfl ?_
      refine WL.so (SO.makes (Enters.func Try.call22 rfl) (fun w hI => Plan_g d a1 _ c1 a2 _ c2 _ w hR hI.imm)) rfl ?_
      rintro _ D1 _ ⟨hX1, ⟨a3, n3, c3, rfl, hP1⟩, rfl⟩
      replace hR := hR.ext hX1
      rw [hpo] at hP1 ⊢
      obtain rfl : n3 = 0 := by have := hP1.pl.len'; simpa using this
      refine WL.yd (Yd.move rfl) rfl ?_
      refine WL.yd (Yd.extract rfl rfl) rfl ?_
      refine WL.yd (Yd.extract rfl rfl) rfl ?_
      refine WL.yd (Yd.assign rfl) rfl ?_
      refine WL.yd (Yd.assign rfl) rfl ?_
      refine WL.nil ?_
      refine WP.thenC ?_
      refine WC.seq ?_
      refine WC.ofFr [(6, _), (5, _), (4, _), (2, _), (1, _)] ⟨rfl, rfl, rfl, rfl, rfl, trivial⟩ ?_
      refine WC.region ?_
      refine WL.yd (Yd.loadN Try.isAgg25 Try.sizeOf25 rfl (vs := [_, _, _]) rfl (by first | exact RdN.own (k := 0) (n := 3) rfl rfl)) rfl ?_
      refine WL.so (SO.callP Try.call24 rfl (fun w hI => Gives.cv (.tuple #[it 0, it 1]) (Hope_g d a1 _ c1 a2 _ c2 _ _ hR hI.imm) (by rw [hho]))) rfl ?_
      rintro _ _ _ ⟨rfl, rfl, rfl⟩
      refine WL.yd (Yd.move rfl) rfl ?_
      refine WL.yd (Yd.extract rfl rfl) rfl ?_
      refine WL.yd (Yd.extract rfl rfl) rfl ?_
      refine WL.yd (Yd.assign rfl) rfl ?_
      refine WL.yd (Yd.assign rfl) rfl ?_
      refine WL.nil ?_
      refine WP.thenC ?_
      refine WC.seq ?_
      refine WC.ofFr [(8, _), (7, _), (6, _), (5, _), (4, _), (2, _), (1, _)] ⟨rfl, rfl, rfl, rfl, rfl, rfl, rfl, trivial⟩ ?_
      refine WC.region ?_
      refine WL.yd (Yd.move rfl) rfl ?_
      refine WL.yd (Yd.eql rfl rfl) rfl ?_
      refine WL.know 48 (.bool true) rfl (congrArg Value.bool (by decide)) ?_
      refine WL.yd (Yd.move rfl) rfl ?_
      refine WL.ydg rfl (Yd.move rfl) rfl ?_
      refine WL.ydg rfl (Yd.move rfl) rfl ?_
      refine WL.ydg rfl (Yd.eql rfl rfl) rfl ?_
      refine WL.know 52 (.bool true) rfl (congrArg Value.bool (by decide)) ?_
      refine WL.yd (Yd.pickT rfl rfl) rfl ?_
      refine WL.yd (Yd.move rfl) rfl ?_
      refine WL.ydg rfl (Yd.move rfl) rfl ?_
      refine WL.ydg rfl (Yd.lenS rfl Try.underlying26 rfl) rfl ?_
      refine WL.ydg rfl (Yd.eql rfl rfl) rfl ?_
      refine WL.know 57 (.bool true) rfl (congrArg Value.bool (by decide)) ?_
      refine WL.yd (Yd.pickT rfl rfl) rfl ?_
      refine WL.yd (Yd.move rfl) rfl ?_
      refine WL.ydg rfl (Yd.move rfl) rfl ?_
      refine WL.ydg rfl (Yd.eql rfl rfl) rfl ?_
      refine WL.know 61 (.bool true) rfl (congrArg Value.bool (by decide)) ?_
      refine WL.yd (Yd.pickT rfl rfl) rfl ?_
      refine WL.yd (Yd.move rfl) rfl ?_
      refine WL.sog rfl (SO.callP Try.call14 rfl (fun w hI => alive_g _ _ hI.imm)) rfl ?_
      rintro _ _ _ ⟨rfl, rfl, rfl⟩
      refine WL.know 64 (.bool true) rfl rfl ?_
      refine WL.yd (Yd.pickT rfl rfl) rfl ?_
      refine WL.yd (Yd.assign rfl) rfl ?_
      refine WL.nil ?_
      refine WP.thenC ?_
      refine WC.ret ?_
      refine WP.thenRet ?_
      refine WP.ret1 rfl rfl Try.results7 (RV.tmp rfl) (fun w hI => ⟨rfl, hI.keep⟩)
    · try simp only [decide_eq_true_eq, decide_eq_false_iff_not, Bool.not_eq_true', Bool.not_eq_false', Int.not_lt, Int.not_le, Bool.not_true, Bool.not_false] at c36
      rw [hv] at c36; cases c36

def hsC (d : Dips) (by_ : List Int) (k : Nat) : List Value := (hsTo d by_ k).flatMap fun x => [it x]
def nsC (d : Dips) (by_ : List Int) (j k : Nat) : List Value := (nsTo d by_ j k).flatMap fun x => [it x]
theorem hsC_len (d : Dips) (by_ : List Int) (k : Nat) : (hsC d by_ k).length = k * 1 := by rw [hsC, flat_len (m := 1) (fun _ => rfl), hsTo_len]
theorem nsC_len (d : Dips) (by_ : List Int) (j k : Nat) : (nsC d by_ j k).length = k * 1 := by rw [nsC, flat_len (m := 1) (fun _ => rfl), nsTo_len]
theorem hsC_succ (d : Dips) (by_ : List Int) (k : Nat) : hsC d by_ (k + 1) = hsC d by_ k ++ [it ((gt d.dippers k).hands.lo + drawV by_ (k + 1) ((gt d.dippers k).hands.hi - (gt d.dippers k).hands.lo + 1))] := by
  rw [hsC, hsC, hsTo_succ, List.flatMap_append]; rfl
theorem nsC_succ (d : Dips) (by_ : List Int) (j k : Nat) : nsC d by_ j (k + 1) = nsC d by_ j k ++ [it ((gt d.bathers k).needs.lo + drawV by_ (j + k + 1) ((gt d.bathers k).needs.hi - (gt d.bathers k).needs.lo + 1))] := by
  rw [nsC, nsC, nsTo_succ, List.flatMap_append]; rfl

set_option maxRecDepth 100000 in
set_option maxHeartbeats 1000000 in
theorem true_ok (d : Dips) (a1 : Option Addr) (n1 c1 : Nat) (a2 : Option Addr) (n2 c2 : Nat) (D : Imm) (w : World) (hS1 : SlL D 3 (d.dippers.map dipperC) a1 n1) (hS2 : SlL D 3 (d.bathers.map batherC) a2 n2) (hH : Holds D w) (by_ : List Int) (a4 : Option Addr) (n4 c4 : Nat) (hS4 : SlL D 1 (by_.map u16C) a4 n4) (hby : ∀ i, i < by_.length → 0 ≤ gt by_ i ∧ gt by_ i ≤ 65535) (hv : dipsB d = true) : Gives Try.prog 7 [.agg #[it d.hours, .slice a1 n1 c1, .slice a2 n2 c2], .slice a4 n4 c4] w (.bool true) := by
  unfold Gives
  have hR : DipsR D d a1 n1 a2 n2 := by
    have h1 := hS1.len'
    have h2 := hS2.len'
    have h3 := dips_num hv
    exact ⟨hS1, hS2, by omega, by omega⟩
  obtain rfl := hS1.len'
  obtain rfl := hS2.len'
  have hnum := dips_num hv
  refine enter Try.func7 rfl 281 Try.ntmps7 (Nat.le_of_ble_eq_true rfl) (Inv.start hH) ?_
  refine WC.seq ?_
  refine WC.ofFr [(0, _), (1, _)] ⟨rfl, rfl, trivial⟩ ?_
  refine WC.region ?_
  refine WL.so (SO.box rfl rfl) rfl ?_
  rintro _ _ _ ⟨b2, hb2, rfl, rfl, rfl⟩ -- NEW
  refine WL.yd (Yd.assign rfl) rfl ?_
  refine WL.nil ?_
  refine WP.thenC ?_
  refine WC.seq ?_
  refine WC.seq ?_
  refine WC.ofFr [(4, _), (2, _), (1, _)] ⟨rfl, rfl, rfl, trivial⟩ ?_
  refine WC.region ?_
  refine WL.yd (Yd.loadN Try.isAgg25 Try.sizeOf25 rfl (vs := [_, _, _]) rfl (by first | exact RdN.own (k := 0) (n := 3) rfl rfl | exact (hR.dip.at k (by omega)).rdn 0 3 rfl | exact (hR.bath.at k (by omega)).rdn 0 3 rfl)) rfl ?_
  refine WL.so (SO.callP Try.call13 rfl (fun w hI => long_g _ _ _ _ _ _ _ _ _ _ _)) rfl ?_
  rintro _ _ _ ⟨rfl, rfl, rfl⟩
  refine WL.nil ?_
  refine WP.thenC ?_
  refine WC.cond rfl (fun c32 => ?_) (fun c32 => ?_)
  · try simp only [decide_eq_true_eq, decide_eq_false_iff_not, Bool.not_eq_true', Bool.not_eq_false', Int.not_lt, Int.not_le, Bool.not_true, Bool.not_false] at c32
    omega
  · try simp only [decide_eq_true_eq, decide_eq_false_iff_not, Bool.not_eq_true', Bool.not_eq_false', Int.not_lt, Int.not_le, Bool.not_true, Bool.not_false] at c32
    refine WC.skip ?_
    refine WP.thenC ?_
    refine WC.seq ?_
    refine WC.seq ?_
    refine WC.ofFr [(4, _), (2, _), (1, _)] ⟨rfl, rfl, rfl, trivial⟩ ?_
    refine WC.region ?_
    refine WL.yd (Yd.loadN Try.isAgg25 Try.sizeOf25 rfl (vs := [_, _, _]) rfl (by first | exact RdN.own (k := 0) (n := 3) rfl rfl | exact (hR.dip.at k (by omega)).rdn 0 3 rfl | exact (hR.bath.at k (by omega)).rdn 0 3 rfl)) rfl ?_
    refine WL.so (SO.callP Try.call36 rfl (fun w hI => dips_g d a1 _ c1 a2 _ c2 D _ hR hI.imm)) rfl ?_
    rintro _ _ _ ⟨rfl, rfl, rfl⟩
    refine WL.yd (Yd.not rfl) rfl ?_
    refine WL.nil ?_
    refine WP.thenC ?_
    refine WC.cond rfl (fun c36 => ?_) (fun c36 => ?_)
    · try simp only [decide_eq_true_eq, decide_eq_false_iff_not, Bool.not_eq_true', Bool.not_eq_false', Int.not_lt, Int.not_le, Bool.not_true, Bool.not_false] at c36
      rw [hv] at c36; cases c36
    · try simp only [decide_eq_true_eq, decide_eq_false_iff_not, Bool.not_eq_true', Bool.not_eq_false', Int.not_lt, Int.not_le, Bool.not_true, Bool.not_false] at c36
      refine WC.skip ?_
      refine WP.thenC ?_
      refine WC.seq ?_
      refine WC.ofFr [(4, _), (2, _), (1, _)] ⟨rfl, rfl, rfl, trivial⟩ ?_
      refine WC.region ?_
      refine WL.yd (Yd.move rfl) rfl ?_
      refine WL.so (SO.news (Enters.func Try.call37 rfl) (fun w1 hI => draws_g by_ a4 n4 c4 D w1 hS4 hby hI.imm)) rfl ?_
      rintro _ D1 _ ⟨_, hX1, ⟨b3, b1, rfl, hB, rfl⟩, rfl⟩
      replace hR := hR.ext hX1
      refine WL.yd (Yd.assign rfl) rfl ?_
      refine WL.nil ?_
      refine WP.thenC ?_
      refine WC.seq ?_
      refine WC.ofFr [(9, _), (4, _), (2, _)] ⟨rfl, rfl, rfl, trivial⟩ ?_
      refine WC.region ?_
      refine WL.yd (Yd.assign rfl) rfl ?_
      refine WL.yd (Yd.assign rfl) rfl ?_
      refine WL.nil ?_
      refine WP.thenC ?_
      refine WC.seq ?_
      refine WC.seq ?_
      refine WC.ofFr [(11, _), (10, _), (9, _), (4, _), (2, _)] ⟨rfl, rfl, rfl, rfl, rfl, trivial⟩ ?_
      refine WC.region ?_
      refine WL.yd (Yd.fieldAddr FA25_1 rfl) rfl ?_
      refine WL.yd (Yd.load1 Try.isAgg22 rfl (by first | exact Rd.own (k := 0) rfl rfl | exact ((hSD2.at k (by omega)).rd 0 rfl))) rfl ?_
      refine WL.yd (Yd.lenS rfl Try.underlying22 rfl) rfl ?_
      refine WL.yd (Yd.move rfl) rfl ?_
      refine WL.nil ?_
      refine WP.thenC ?_
      refine WC.block ?_
      refine WC.loop (fun y : Nat × Option Ow => [(2, pt b2), (9, fvV b3 b1), (10, owV y.2 y.1), (11, .slice none 0 0), (69, .slice a1 d.dippers.length c1), (70, nt d.dippers.length), (71, nt y.1)]) (fun y => ((b2, .cells (List.toArray [it d.hours, .slice a1 d.dippers.length c1, .slice a2 d.bathers.length c2]) 25 (0, 0)) :: owH y.2 3 (hsC d by_ y.1) []) ++ [(b3, cntO y.1)]) (fun _ => D1) (fun y => y.1 ≤ d.dippers.length ∧ owP w y.2 y.1 1) (fun y => d.dippers.length - y.1) (0, none) ⟨by omega, rfl⟩ (fun a w h => at_fr h ⟨rfl, rfl, rfl, rfl, rfl, rfl, rfl, trivial⟩) ?_
      rintro ⟨k, o⟩ ⟨hk, ho⟩
      dsimp only at hk ho
      refine WC.seq ?_
      refine WC.ofFr [(2, _), (9, _), (10, _), (11, _), (69, _), (70, _), (71, _)] ⟨rfl, rfl, rfl, rfl, rfl, rfl, rfl, trivial⟩ ?_
      refine WC.region ?_
      refine WL.yd (Yd.lss rfl rfl) rfl ?_
      refine WL.nil ?_
      refine WP.thenC ?_
      refine WC.seq ?_
      refine WC.cond rfl (fun c72 => ?_) (fun c72 => ?_)
      · try simp only [decide_eq_true_eq, decide_eq_false_iff_not, Bool.not_eq_true', Bool.not_eq_false', Int.not_lt, Int.not_le, Bool.not_true, Bool.not_false] at c72
        have hdn := hnum.2.2.2.1 k (by omega)
        have hdv := drawV_num by_ (k + 1) (n := (gt d.dippers k).hands.hi - (gt d.dippers k).hands.lo + 1) (by omega)
        refine WC.skip ?_
        refine WP.thenC ?_
        refine WC.seq ?_
        refine WC.block ?_
        refine WC.seq ?_
        refine WC.ofFr [(2, _), (9, _), (10, _), (11, _), (69, _), (70, _), (71, _)] ⟨rfl, rfl, rfl, rfl, rfl, rfl, rfl, trivial⟩ ?_
        refine WC.region ?_
        refine WL.yd (Yd.indexS Try.underlying22 Try.sizeOf53 rfl rfl (by omega) (by omega) (by first | exact hR.dip.addr k (by omega) | exact hR.bath.addr k (by omega) | exact hSD2.addr k (by omega))) rfl ?_
        refine WL.yd (Yd.loadN Try.isAgg53 Try.sizeOf53 rfl (vs := [_, _, _]) rfl (by first | exact RdN.own (k := 0) (n := 3) rfl rfl | exact (hR.dip.at k (by omega)).rdn 0 3 rfl | exact (hR.bath.at k (by omega)).rdn 0 3 rfl)) rfl ?_
        refine WL.so (SO.alloc Try.zeroValue53 rfl) rfl ?_
        rintro _ _ _ ⟨b13, hb13, rfl, rfl, rfl⟩ -- NEW
        refine WL.so (SO.store 0 rfl Try.sizeOf53 rfl rfl rfl rfl (Nat.le_of_ble_eq_true rfl) (oneB_spec rfl)) rfl ?_
        rintro _ _ _ ⟨rfl, rfl, rfl⟩
        refine WL.nil ?_
        refine WP.thenC ?_
        refine WC.ofFr [(13, _), (2, _), (9, _), (10, _), (11, _), (69, _), (70, _), (71, _)] ⟨rfl, rfl, rfl, rfl, rfl, rfl, rfl, rfl, trivial⟩ ?_
        refine WC.drawO [_] [(0, true), (1, true), (2, true), (3, true), (4, true), (5, true), (6, true), (7, true), (8, true), (9, true), (10, true), (11, true), (12, true), (13, false), (14, true), (15, false), (16, false), (17, true)] (by kernel_rfl) (by kernel_rfl) (QuietPanic.blk (QuietPanic.then (QuietPanic.then (QuietPanic.blk (QuietPanic.then QuietPanic.body))))) (fun w hI => Inv.left (l1 := [_]) hI) ?_
        refine WA.yd rfl (Yd.move rfl) rfl ?_
        refine WA.yd rfl (Yd.fieldAddr FA53_0 rfl) rfl ?_
        refine WA.yd rfl (Yd.fieldAddr FA35_0 rfl) rfl ?_
        refine WA.yd rfl (Yd.load1 Try.isAgg3 rfl (by first | exact Rd.own (k := 0) rfl rfl | exact Rd.own (k := 1) rfl rfl | exact ((hSD2.at k (by omega)).rd 0 rfl))) rfl ?_
        refine WA.yd rfl (Yd.move rfl) rfl ?_
        refine WA.yd rfl (Yd.fieldAddr FA53_0 rfl) rfl ?_
        refine WA.yd rfl (Yd.fieldAddr FA35_1 rfl) rfl ?_
        refine WA.yd rfl (Yd.load1 Try.isAgg3 rfl (by first | exact Rd.own (k := 0) rfl rfl | exact Rd.own (k := 1) rfl rfl | exact ((hSD2.at k (by omega)).rd 0 rfl))) rfl ?_
        refine WA.yd rfl (Yd.fieldAddr FA53_0 rfl) rfl ?_
        refine WA.yd rfl (Yd.fieldAddr FA35_0 rfl) rfl ?_
        refine WA.yd rfl (Yd.load1 Try.isAgg3 rfl (by first | exact Rd.own (k := 0) rfl rfl | exact Rd.own (k := 1) rfl rfl | exact ((hSD2.at k (by omega)).rd 0 rfl))) rfl ?_
        refine WA.yd rfl (Yd.sub rfl rfl (wr64 ⟨by omega, by omega⟩)) rfl ?_
        refine WA.yd rfl (Yd.add rfl rfl (wr64 ⟨by omega, by omega⟩)) rfl ?_
        refine WA.so rfl (SO.alters (own := ((b13, .cells (List.toArray (dipperC (gt d.dippers k))) 53 (0, 0)) :: (b2, .cells (List.toArray [it d.hours, .slice a1 d.dippers.length c1, .slice a2 d.bathers.length c2]) 25 (0, 0)) :: owH o 3 (hsC d by_ k) [])) (hpc := [(b3, cntO k)]) (S1 := [b3]) (fun _ h => h) (fun h => h) (fun _ h => h) (fun _ h => h) (Enters.val Try.call87 rfl rfl) (fun w1 hI => draw_g by_ b3 b1 D1 w1 hB ((gt d.dippers k).hands.hi - (gt d.dippers k).hands.lo + 1) (by omega) k (by omega) hI)) rfl ?_
        rintro _ _ _ ⟨_, _, ⟨rfl, rfl, rfl⟩, rfl⟩
        refine ⟨fun _ hI => Inv.left (l1 := [_]) hI, ?_⟩
        refine WA.yd rfl (Yd.add rfl rfl (wr64 ⟨by omega, by omega⟩)) rfl ?_
        refine WA.so rfl (SO.buildSlice Try.underlying51 Try.sizeOf3 Try.zeroValue3 rfl rfl rfl rfl (cs := [_]) rfl) rfl ?_
        rintro _ _ _ ⟨b90, hb90, rfl, rfl, rfl⟩ -- NEW
        refine ⟨fun _ hI => Inv.left (l1 := [_]) hI.tail, ?_⟩
        refine WA.so rfl (SO.appendOw (o := o) (len := k) (n := 1) (xs := hsC d by_ k) (size := 1) [_] [_, _] [(b3, cntO (k + 1))] rfl rfl Try.underlying51 Try.sizeOf3 Try.typeInfo3 Try.zeroValue3 rfl rfl rfl (congrArg (fun z => _ :: _ :: _ :: z) (owH_app _ _ _ _)) ⟨rfl, .inr ⟨_, _, _, rfl, RdN.own (k := 0) (n := 1) rfl rfl⟩⟩ (oneB_spec rfl) ho (hsC_len _ _ _) (by omega) (by show (2 * (_ + _) + 1000) * 8 ≤ 2 ^ 48; omega) (by omega)) rfl ?_
        rintro _ _ _ ⟨u1, hu1, rfl, rfl, rfl⟩
        refine ⟨fun _ hI => Inv.left (l1 := [_]) hI, ?_⟩
        refine WA.yd rfl (Yd.assign rfl) rfl ?_
        refine WA.nil ?_
        refine WP.blkNormal ?_
        refine WP.thenC ?_
        refine WC.ofFr [(10, _), (2, _), (9, _), (11, _), (69, _), (70, _), (71, _)] ⟨rfl, rfl, rfl, rfl, rfl, rfl, rfl, trivial⟩ ?_
        refine WC.region ?_
        refine WL.yd (Yd.add rfl rfl (wr64 ⟨by omega, by omega⟩)) rfl ?_
        refine WL.yd (Yd.move rfl) rfl ?_
        refine WL.nil ?_
        refine WP.again (⟨k + 1, some u1⟩ : Nat × Option Ow) ⟨by simp only; omega, hu1⟩ (by simp only; omega) (fun aa ww h => ?_)
        show At _ [(2, pt b2), (9, fvV b3 b1), (10, owV (some u1) (k + 1)), (11, .slice none 0 0), (69, .slice a1 d.dippers.length c1), (70, nt d.dippers.length), (71, nt (k + 1))] D1 (((b2, .cells (List.toArray [it d.hours, .slice a1 d.dippers.length c1, .slice a2 d.bathers.length c2]) 25 (0, 0)) :: owH (some u1) 3 (hsC d by_ (k + 1)) []) ++ [(b3, cntO (k + 1))]) aa ww
        rw [hsC_succ]
        exact at_less h ⟨rfl, rfl, rfl, rfl, rfl, rfl, rfl, trivial⟩ (fun _ h => List.mem_cons_of_mem _ h) (fun h => (List.nodup_cons.1 h).2)
      · try simp only [decide_eq_true_eq, decide_eq_false_iff_not, Bool.not_eq_true', Bool.not_eq_false', Int.not_lt, Int.not_le, Bool.not_true, Bool.not_false] at c72
        refine WC.exit ?_
        refine WP.thenExit ?_
        refine WP.thenExit ?_
        refine WP.blkHit ?_
        refine WP.thenC ?_
        refine WC.seq ?_
        refine WC.seq ?_
        obtain rfl : k = d.dippers.length := by omega
        refine WC.know 10 (.slice (owAt o) d.dippers.length (owCp o d.dippers.length)) rfl (owV_owL (owL_of (by exact ho))) ?_
        refine WC.freezeOw (f := fun x => [it x]) (m := 1) (fun _ => rfl) [_] [(b3, cntO d.dippers.length)] o 3 (hsTo d by_ d.dippers.length) rfl (by rw [hsTo_len]; exact ho) (congrArg (fun z => _ :: z) (owH_app _ _ _ _)) (fun D2 hXD2 hSD2 => ?_)
        replace hR := hR.ext hXD2
        replace hB := hB.ext hXD2
        rw [hsTo_len] at hSD2
        generalize owAt o = a6 at hSD2 ⊢
        generalize owCp o d.dippers.length = c6
        refine WC.ofFr [(2, _), (9, _), (10, _), (11, _)] ⟨rfl, rfl, rfl, rfl, trivial⟩ ?_
        refine WC.region ?_
        refine WL.yd (Yd.fieldAddr FA25_2 rfl) rfl ?_
        refine WL.yd (Yd.load1 Try.isAgg23 rfl (by first | exact Rd.own (k := 0) rfl rfl | exact Rd.own (k := 1) rfl rfl | exact ((hSD2.at k (by omega)).rd 0 rfl))) rfl ?_
        refine WL.yd (Yd.lenS rfl Try.underlying23 rfl) rfl ?_
        refine WL.yd (Yd.move rfl) rfl ?_
        refine WL.nil ?_
        refine WP.thenC ?_
        refine WC.block ?_
        refine WC.loop (fun y : Nat × Option Ow => [(2, pt b2), (9, fvV b3 b1), (10, .slice a6 d.dippers.length c6), (11, owV y.2 y.1), (94, .slice a2 d.bathers.length c2), (95, nt d.bathers.length), (96, nt y.1)]) (fun y => ((b2, .cells (List.toArray [it d.hours, .slice a1 d.dippers.length c1, .slice a2 d.bathers.length c2]) 25 (0, 0)) :: owH y.2 3 (nsC d by_ d.dippers.length y.1) []) ++ [(b3, cntO (d.dippers.length + y.1))]) (fun _ => D2) (fun y => y.1 ≤ d.bathers.length ∧ owP w y.2 y.1 1) (fun y => d.bathers.length - y.1) (0, none) ⟨by omega, rfl⟩ (fun a w h => at_fr h ⟨rfl, rfl, rfl, rfl, rfl, rfl, rfl, trivial⟩) ?_
        rintro ⟨k, o7⟩ ⟨hk, ho7⟩
        dsimp only at hk ho7
        refine WC.seq ?_
        refine WC.ofFr [(2, _), (9, _), (10, _), (11, _), (94, _), (95, _), (96, _)] ⟨rfl, rfl, rfl, rfl, rfl, rfl, rfl, trivial⟩ ?_
        refine WC.region ?_
        refine WL.yd (Yd.lss rfl rfl) rfl ?_
        refine WL.nil ?_
        refine WP.thenC ?_
        refine WC.seq ?_
        refine WC.cond rfl (fun c97 => ?_) (fun c97 => ?_)
        · try simp only [decide_eq_true_eq, decide_eq_false_iff_not, Bool.not_eq_true', Bool.not_eq_false', Int.not_lt, Int.not_le, Bool.not_true, Bool.not_false] at c97
          have hdn := hnum.2.2.2.2 k (by omega)
          have hdv := drawV_num by_ (d.dippers.length + k + 1) (n := (gt d.bathers k).needs.hi - (gt d.bathers k).needs.lo + 1) (by omega)
          refine WC.skip ?_
          refine WP.thenC ?_
          refine WC.seq ?_
          refine WC.block ?_
          refine WC.seq ?_
          refine WC.ofFr [(2, _), (9, _), (10, _), (11, _), (94, _), (95, _), (96, _)] ⟨rfl, rfl, rfl, rfl, rfl, rfl, rfl, trivial⟩ ?_
          refine WC.region ?_
          refine WL.yd (Yd.indexS Try.underlying23 Try.sizeOf55 rfl rfl (by omega) (by omega) (by first | exact hR.dip.addr k (by omega) | exact hR.bath.addr k (by omega) | exact hSD2.addr k (by omega))) rfl ?_
          refine WL.yd (Yd.loadN Try.isAgg55 Try.sizeOf55 rfl (vs := [_, _, _]) rfl (by first | exact RdN.own (k := 0) (n := 3) rfl rfl | exact (hR.dip.at k (by omega)).rdn 0 3 rfl | exact (hR.bath.at k (by omega)).rdn 0 3 rfl)) rfl ?_
          refine WL.so (SO.alloc Try.zeroValue55 rfl) rfl ?_
          rintro _ _ _ ⟨b15, hb15, rfl, rfl, rfl⟩ -- NEW
          refine WL.so (SO.store 0 rfl Try.sizeOf55 rfl rfl rfl rfl (Nat.le_of_ble_eq_true rfl) (oneB_spec rfl)) rfl ?_
          rintro _ _ _ ⟨rfl, rfl, rfl⟩
          refine WL.nil ?_
          refine WP.thenC ?_
          refine WC.ofFr [(15, _), (2, _), (9, _), (10, _), (11, _), (94, _), (95, _), (96, _)] ⟨rfl, rfl, rfl, rfl, rfl, rfl, rfl, rfl, trivial⟩ ?_
          refine WC.drawO [_] [(0, true), (1, true), (2, true), (3, true), (4, true), (5, true), (6, true), (7, true), (8, true), (9, true), (10, true), (11, true), (12, true), (13, false), (14, true), (15, false), (16, false), (17, true)] (by kernel_rfl) (by kernel_rfl) (QuietPanic.blk (QuietPanic.then (QuietPanic.then (QuietPanic.blk (QuietPanic.then QuietPanic.body))))) (fun w hI => Inv.left (l1 := [_]) hI) ?_
          refine WA.yd rfl (Yd.move rfl) rfl ?_
          refine WA.yd rfl (Yd.fieldAddr FA55_0 rfl) rfl ?_
          refine WA.yd rfl (Yd.fieldAddr FA35_0 rfl) rfl ?_
          refine WA.yd rfl (Yd.load1 Try.isAgg3 rfl (by first | exact Rd.own (k := 0) rfl rfl | exact Rd.own (k := 1) rfl rfl | exact ((hSD2.at k (by omega)).rd 0 rfl))) rfl ?_
          refine WA.yd rfl (Yd.move rfl) rfl ?_
          refine WA.yd rfl (Yd.fieldAddr FA55_0 rfl) rfl ?_
          refine WA.yd rfl (Yd.fieldAddr FA35_1 rfl) rfl ?_
          refine WA.yd rfl (Yd.load1 Try.isAgg3 rfl (by first | exact Rd.own (k := 0) rfl rfl | exact Rd.own (k := 1) rfl rfl | exact ((hSD2.at k (by omega)).rd 0 rfl))) rfl ?_
          refine WA.yd rfl (Yd.fieldAddr FA55_0 rfl) rfl ?_
          refine WA.yd rfl (Yd.fieldAddr FA35_0 rfl) rfl ?_
          refine WA.yd rfl (Yd.load1 Try.isAgg3 rfl (by first | exact Rd.own (k := 0) rfl rfl | exact Rd.own (k := 1) rfl rfl | exact ((hSD2.at k (by omega)).rd 0 rfl))) rfl ?_
          refine WA.yd rfl (Yd.sub rfl rfl (wr64 ⟨by omega, by omega⟩)) rfl ?_
          refine WA.yd rfl (Yd.add rfl rfl (wr64 ⟨by omega, by omega⟩)) rfl ?_
          refine WA.so rfl (SO.alters (own := ((b15, .cells (List.toArray (batherC (gt d.bathers k))) 55 (0, 0)) :: (b2, .cells (List.toArray [it d.hours, .slice a1 d.dippers.length c1, .slice a2 d.bathers.length c2]) 25 (0, 0)) :: owH o7 3 (nsC d by_ d.dippers.length k) [])) (hpc := [(b3, cntO (d.dippers.length + k))]) (S1 := [b3]) (fun _ h => h) (fun h => h) (fun _ h => h) (fun _ h => h) (Enters.val Try.call87 rfl rfl) (fun w1 hI => draw_g by_ b3 b1 D2 w1 hB ((gt d.bathers k).needs.hi - (gt d.bathers k).needs.lo + 1) (by omega) (d.dippers.length + k) (by omega) hI)) rfl ?_
          rintro _ _ _ ⟨_, _, ⟨rfl, rfl, rfl⟩, rfl⟩
          refine ⟨fun _ hI => Inv.left (l1 := [_]) hI, ?_⟩
          refine WA.yd rfl (Yd.add rfl rfl (wr64 ⟨by omega, by omega⟩)) rfl ?_
          refine WA.so rfl (SO.buildSlice Try.underlying51 Try.sizeOf3 Try.zeroValue3 rfl rfl rfl rfl (cs := [_]) rfl) rfl ?_
          rintro _ _ _ ⟨b115, hb115, rfl, rfl, rfl⟩ -- NEW
          refine ⟨fun _ hI => Inv.left (l1 := [_]) hI.tail, ?_⟩
          refine WA.so rfl (SO.appendOw (o := o7) (len := k) (n := 1) (xs := nsC d by_ d.dippers.length k) (size := 1) [_] [_, _] [(b3, cntO (d.dippers.length + k + 1))] rfl rfl Try.underlying51 Try.sizeOf3 Try.typeInfo3 Try.zeroValue3 rfl rfl rfl (congrArg (fun z => _ :: _ :: _ :: z) (owH_app _ _ _ _)) ⟨rfl, .inr ⟨_, _, _, rfl, RdN.own (k := 0) (n := 1) rfl rfl⟩⟩ (oneB_spec rfl) ho7 (nsC_len _ _ _ _) (by omega) (by show (2 * (_ + _) + 1000) * 8 ≤ 2 ^ 48; omega) (by omega)) rfl ?_
          rintro _ _ _ ⟨u1, hu1, rfl, rfl, rfl⟩
          refine ⟨fun _ hI => Inv.left (l1 := [_]) hI, ?_⟩
          refine WA.yd rfl (Yd.assign rfl) rfl ?_
          refine WA.nil ?_
          refine WP.blkNormal ?_
          refine WP.thenC ?_
          refine WC.ofFr [(11, _), (2, _), (9, _), (10, _), (94, _), (95, _), (96, _)] ⟨rfl, rfl, rfl, rfl, rfl, rfl, rfl, trivial⟩ ?_
          refine WC.region ?_
          refine WL.yd (Yd.add rfl rfl (wr64 ⟨by omega, by omega⟩)) rfl ?_
          refine WL.yd (Yd.move rfl) rfl ?_
          refine WL.nil ?_
          refine WP.again (⟨k + 1, some u1⟩ : Nat × Option Ow) ⟨by simp only; omega, hu1⟩ (by simp only; omega) (fun aa ww h => ?_)
          show At _ [(2, pt b2), (9, fvV b3 b1), (10, .slice a6 d.dippers.length c6), (11, owV (some u1) (k + 1)), (94, .slice a2 d.bathers.length c2), (95, nt d.bathers.length), (96, nt (k + 1))] D2 (((b2, .cells (List.toArray [it d.hours, .slice a1 d.dippers.length c1, .slice a2 d.bathers.length c2]) 25 (0, 0)) :: owH (some u1) 3 (nsC d by_ d.dippers.length (k + 1)) []) ++ [(b3, cntO (d.dippers.length + (k + 1)))]) aa ww
          rw [nsC_succ]
          exact at_less h ⟨rfl, rfl, rfl, rfl, rfl, rfl, rfl, trivial⟩ (fun _ h => List.mem_cons_of_mem _ h) (fun h => (List.nodup_cons.1 h).2)
        · try simp only [decide_eq_true_eq, decide_eq_false_iff_not, Bool.not_eq_true', Bool.not_eq_false', Int.not_lt, Int.not_le, Bool.not_true, Bool.not_false] at c97
          refine WC.exit ?_
          refine WP.thenExit ?_
          refine WP.thenExit ?_
          refine WP.blkHit ?_
          refine WP.thenC ?_
          refine WC.seq ?_
          refine WC.seq ?_
          obtain rfl : k = d.bathers.length := by omega
          refine WC.know 11 (.slice (owAt o7) d.bathers.length (owCp o7 d.bathers.length)) rfl (owV_owL (owL_of (by exact ho7))) ?_
          refine WC.freezeOw (f := fun x => [it x]) (m := 1) (fun _ => rfl) [_] [(b3, cntO (d.dippers.length + d.bathers.length))] o7 3 (nsTo d by_ d.dippers.length d.bathers.length) rfl (by rw [nsTo_len]; exact ho7) (congrArg (fun z => _ :: z) (owH_app _ _ _ _)) (fun D3 hXD3 hSD3 => ?_)
          replace hR := hR.ext hXD3
          replace hB := hB.ext hXD3
          rw [nsTo_len] at hSD3
          generalize owAt o7 = a7 at hSD3 ⊢
          generalize owCp o7 d.bathers.length = c7
          replace hSD2 := hSD2.ext hXD3
          have hT : Truth d (hsTo d by_ d.dippers.length) (nsTo d by_ d.dippers.length d.bathers.length) := ⟨hsTo_len _ _ _, nsTo_len _ _ _ _, fun i hi => hsTo_num hv by_ _ i (Nat.le_refl _) hi, fun i hi => nsTo_num hv by_ _ _ i (Nat.le_refl _) hi⟩
          have hnd : ∀ i, i < (nsTo d by_ d.dippers.length d.bathers.length).length → 0 ≤ gt (nsTo d by_ d.dippers.length d.bathers.length) i ∧ gt (nsTo d by_ d.dippers.length d.bathers.length) i ≤ 1000 := fun i hi => by
            rw [nsTo_len] at hi
            have h1 := hT.h2 i hi
            have h2 := hnum.2.2.2.2 i hi
            omega
          refine WC.ofFr [(2, _), (9, _), (10, _), (11, _)] ⟨rfl, rfl, rfl, rfl, trivial⟩ ?_
          refine WC.region ?_
          refine WL.yd (Yd.fieldAddr FA25_0 rfl) rfl ?_
          refine WL.yd (Yd.load1 Try.isAgg3 rfl (by first | exact Rd.own (k := 0) rfl rfl | exact Rd.own (k := 1) rfl rfl | exact ((hSD2.at k (by omega)).rd 0 rfl))) rfl ?_
          refine WL.yd (Yd.move rfl) rfl ?_
          refine WL.nil ?_
          refine WP.thenC ?_
          refine WC.block ?_
          refine WC.loop (fun h : Nat => [(2, pt b2), (9, fvV b3 b1), (10, .slice a6 d.dippers.length c6), (11, .slice a7 d.bathers.length c7), (119, it d.hours), (120, nt h)]) (fun _ => [(b2, .cells (List.toArray [it d.hours, .slice a1 d.dippers.length c1, .slice a2 d.bathers.length c2]) 25 (0, 0)), (b3, cntO (d.dippers.length + d.bathers.length))]) (fun _ => D3) (fun h => (h : Int) ≤ d.hours) (fun h => d.hours.toNat - h) 0 (by omega) (fun a w h => at_fr h ⟨rfl, rfl, rfl, rfl, rfl, rfl, trivial⟩) ?_
          intro h hh
          refine WC.seq ?_
          refine WC.ofFr [(2, _), (9, _), (10, _), (11, _), (119, _), (120, _)] ⟨rfl, rfl, rfl, rfl, rfl, rfl, trivial⟩ ?_
          refine WC.region ?_
          refine WL.yd (Yd.lss rfl rfl) rfl ?_
          refine WL.nil ?_
          refine WP.thenC ?_
          refine WC.seq ?_
          refine WC.cond rfl (fun c121 => ?_) (fun c121 => ?_)
          · try simp only [decide_eq_true_eq, decide_eq_false_iff_not, Bool.not_eq_true', Bool.not_eq_false', Int.not_lt, Int.not_le, Bool.not_true, Bool.not_false] at c121
            refine WC.skip ?_
            refine WP.thenC ?_
            refine WC.seq ?_
            refine WC.block ?_
            refine WC.seq ?_
            refine WC.ofFr [(2, _), (9, _), (10, _), (11, _), (119, _), (120, _)] ⟨rfl, rfl, rfl, rfl, rfl, rfl, trivial⟩ ?_
            refine WC.region ?_
            refine WL.yd (Yd.move rfl) rfl ?_
            refine WL.yd (Yd.assign rfl) rfl ?_
            refine WL.nil ?_
            refine WP.thenC ?_
            refine WC.seq ?_
            refine WC.ofFr [(16, _), (2, _), (9, _), (10, _), (11, _), (119, _), (120, _)] ⟨rfl, rfl, rfl, rfl, rfl, rfl, rfl, trivial⟩ ?_
            refine WC.region ?_
            refine WL.yd (Yd.assign rfl) rfl ?_
            refine WL.nil ?_
            refine WP.thenC ?_
            refine WC.seq ?_
            refine WC.seq ?_
            refine WC.ofFr [(17, _), (16, _), (2, _), (9, _), (10, _), (11, _), (119, _), (120, _)] ⟨rfl, rfl, rfl, rfl, rfl, rfl, rfl, rfl, trivial⟩ ?_
            refine WC.region ?_
            refine WL.yd (Yd.fieldAddr FA25_1 rfl) rfl ?_
            refine WL.yd (Yd.load1 Try.isAgg22 rfl (by first | exact Rd.own (k := 0) rfl rfl | exact Rd.own (k := 1) rfl rfl | exact ((hSD2.at k (by omega)).rd 0 rfl))) rfl ?_
            refine WL.yd (Yd.lenS rfl Try.underlying22 rfl) rfl ?_
            refine WL.yd (Yd.move rfl) rfl ?_
            refine WL.nil ?_
            refine WP.thenC ?_
            refine WC.block ?_
            refine WC.loop (fun k : Nat => [(2, pt b2), (9, fvV b3 b1), (10, .slice a6 d.dippers.length c6), (11, .slice a7 d.bathers.length c7), (16, nt h), (17, it (sumT d (hsTo d by_ d.dippers.length) ((h : Nat) : Int) k)), (119, it d.hours), (120, nt h), (124, .slice a1 d.dippers.length c1), (125, nt d.dippers.length), (126, nt k)]) (fun _ => [(b2, .cells (List.toArray [it d.hours, .slice a1 d.dippers.length c1, .slice a2 d.bathers.length c2]) 25 (0, 0)), (b3, cntO (d.dippers.length + d.bathers.length))]) (fun _ => D3) (fun k => k ≤ d.dippers.length) (fun k => d.dippers.length - k) 0 (by omega) (fun a w h => at_fr h ⟨rfl, rfl, rfl, rfl, rfl, rfl, rfl, rfl, rfl, rfl, rfl, trivial⟩) ?_
            intro k hk
            refine WC.seq ?_
            refine WC.ofFr [(2, _), (9, _), (10, _), (11, _), (16, _), (17, _), (119, _), (120, _), (124, _), (125, _), (126, _)] ⟨rfl, rfl, rfl, rfl, rfl, rfl, rfl, rfl, rfl, rfl, rfl, trivial⟩ ?_
            refine WC.region ?_
            refine WL.yd (Yd.lss rfl rfl) rfl ?_
            refine WL.nil ?_
            refine WP.thenC ?_
            refine WC.seq ?_
            refine WC.cond rfl (fun c127 => ?_) (fun c127 => ?_)
            · try simp only [decide_eq_true_eq, decide_eq_false_iff_not, Bool.not_eq_true', Bool.not_eq_false', Int.not_lt, Int.not_le, Bool.not_true, Bool.not_false] at c127
              have hdn := hnum.2.2.2.1 k (by omega)
              have hs1 := hT.h1 k (by omega)
              have hs2 := sumT_in hv hT (h := ((h : Nat) : Int)) (by omega) (by omega) k (by omega)
              refine WC.skip ?_
              refine WP.thenC ?_
              refine WC.seq ?_
              refine WC.block ?_
              refine WC.seq ?_
              refine WC.ofFr [(2, _), (9, _), (10, _), (11, _), (16, _), (17, _), (119, _), (120, _), (124, _), (125, _), (126, _)] ⟨rfl, rfl, rfl, rfl, rfl, rfl, rfl, rfl, rfl, rfl, rfl, trivial⟩ ?_
              refine WC.region ?_
              refine WL.yd (Yd.move rfl) rfl ?_
              refine WL.yd (Yd.indexS Try.underlying22 Try.sizeOf53 rfl rfl (by omega) (by omega) (by first | exact hR.dip.addr k (by omega) | exact hR.bath.addr k (by omega) | exact hSD2.addr k (by omega))) rfl ?_
              refine WL.yd (Yd.loadN Try.isAgg53 Try.sizeOf53 rfl (vs := [_, _, _]) rfl (by first | exact RdN.own (k := 0) (n := 3) rfl rfl | exact RdN.own (k := 1) (n := 3) rfl rfl | exact (hR.dip.at k (by omega)).rdn 0 3 rfl | exact (hR.bath.at k (by omega)).rdn 0 3 rfl)) rfl ?_
              refine WL.so (SO.alloc Try.zeroValue53 rfl) rfl ?_
              rintro _ _ _ ⟨b19, hb19, rfl, rfl, rfl⟩ -- NEW
              refine WL.yd (Yd.assign rfl) rfl ?_
              refine WL.so (SO.store 0 rfl Try.sizeOf53 rfl rfl rfl rfl (Nat.le_of_ble_eq_true rfl) (oneB_spec rfl)) rfl ?_
              rintro _ _ _ ⟨rfl, rfl, rfl⟩
              refine WL.nil ?_
              refine WP.thenC ?_
              refine WC.seq ?_
              refine WC.ofFr [(18, _), (19, _), (2, _), (9, _), (10, _), (11, _), (16, _), (17, _), (119, _), (120, _), (124, _), (125, _), (126, _)] ⟨rfl, rfl, rfl, rfl, rfl, rfl, rfl, rfl, rfl, rfl, rfl, rfl, rfl, trivial⟩ ?_
              refine WC.region ?_
              refine WL.yd (Yd.fieldAddr FA53_1 rfl) rfl ?_
              refine WL.yd (Yd.load1 Try.isAgg3 rfl (by first | exact Rd.own (k := 0) rfl rfl | exact Rd.own (k := 1) rfl rfl | exact Rd.own (k := 2) rfl rfl | exact ((hSD2.at k (by omega)).rd 0 rfl))) rfl ?_
              refine WL.yd (Yd.move rfl) rfl ?_
              refine WL.yd (Yd.shr rfl rfl (by omega)) rfl ?_
              refine WL.yd (Yd.and1 rfl rfl) rfl ?_
              refine WL.yd (Yd.eql rfl rfl) rfl ?_
              refine WL.nil ?_
              refine WP.thenC ?_
              refine WC.cond rfl (fun c136 => ?_) (fun c136 => ?_)
              · try simp only [decide_eq_true_eq, decide_eq_false_iff_not, Bool.not_eq_true', Bool.not_eq_false', Int.not_lt, Int.not_le, Bool.not_true, Bool.not_false] at c136
                have hbit : bitN (gt d.dippers k).hours ((h : Nat) : Int) = 1 := c136
                refine WC.ofFr [(18, _), (2, _), (9, _), (10, _), (11, _), (16, _), (17, _), (119, _), (120, _), (124, _), (125, _), (126, _)] ⟨rfl, rfl, rfl, rfl, rfl, rfl, rfl, rfl, rfl, rfl, rfl, rfl, trivial⟩ ?_
                refine WC.region ?_
                refine WL.yd (Yd.move rfl) rfl ?_
                refine WL.yd (Yd.move rfl) rfl ?_
                refine WL.yd (Yd.move rfl) rfl ?_
                refine WL.yd (Yd.indexS Try.underlying51 Try.sizeOf3 rfl rfl (by omega) (by omega) (by first | exact hR.dip.addr k (by omega) | exact hR.bath.addr k (by omega) | exact hSD2.addr k (by omega))) rfl ?_
                refine WL.yd (Yd.load1 Try.isAgg3 rfl (by first | exact Rd.own (k := 0) rfl rfl | exact Rd.own (k := 1) rfl rfl | exact Rd.own (k := 2) rfl rfl | exact ((hSD2.at k (by omega)).rd 0 rfl))) rfl ?_
                refine WL.yd (Yd.add rfl rfl (wr64 ⟨by omega, by omega⟩)) rfl ?_
                refine WL.yd (Yd.assign rfl) rfl ?_
                refine WL.nil ?_
                refine WP.blkNormal ?_
                refine WP.thenC ?_
                refine WC.ofFr [(17, _), (2, _), (9, _), (10, _), (11, _), (16, _), (119, _), (120, _), (124, _), (125, _), (126, _)] ⟨rfl, rfl, rfl, rfl, rfl, rfl, rfl, rfl, rfl, rfl, rfl, trivial⟩ ?_
                refine WC.region ?_
                refine WL.yd (Yd.add rfl rfl (wr64 ⟨by omega, by omega⟩)) rfl ?_
                refine WL.yd (Yd.move rfl) rfl ?_
                refine WL.nil ?_
                first
                  | (have hn1 : sumT d (hsTo d by_ d.dippers.length) ((h : Nat) : Int) (k + 1) = sumT d (hsTo d by_ d.dippers.length) ((h : Nat) : Int) k + gt (hsTo d by_ d.dippers.length) k := if_pos hbit
                     refine WP.again (k + 1 : Nat) (by omega) (by omega) (fun aa ww hA => ?_)
                     rw [hn1]
                     exact at_less hA ⟨rfl, rfl, rfl, rfl, rfl, rfl, rfl, rfl, rfl, rfl, rfl, trivial⟩ (fun _ h => List.mem_cons_of_mem _ h) (fun h => (List.nodup_cons.1 h).2))
                  | (have hn1 : sumT d (hsTo d by_ d.dippers.length) ((h : Nat) : Int) (k + 1) = sumT d (hsTo d by_ d.dippers.length) ((h : Nat) : Int) k := if_neg hbit
                     refine WP.again (k + 1 : Nat) (by omega) (by omega) (fun aa ww hA => ?_)
                     rw [hn1]
                     exact at_less hA ⟨rfl, rfl, rfl, rfl, rfl, rfl, rfl, rfl, rfl, rfl, rfl, trivial⟩ (fun _ h => List.mem_cons_of_mem _ h) (fun h => (List.nodup_cons.1 h).2))
              · try simp only [decide_eq_true_eq, decide_eq_false_iff_not, Bool.not_eq_true', Bool.not_eq_false', Int.not_lt, Int.not_le, Bool.not_true, Bool.not_false] at c136
                have hbit : ¬ bitN (gt d.dippers k).hours ((h : Nat) : Int) = 1 := c136
                refine WC.skip ?_
                refine WP.blkNormal ?_
                refine WP.thenC ?_
                refine WC.ofFr [(2, _), (9, _), (10, _), (11, _), (16, _), (17, _), (119, _), (120, _), (124, _), (125, _), (126, _)] ⟨rfl, rfl, rfl, rfl, rfl, rfl, rfl, rfl, rfl, rfl, rfl, trivial⟩ ?_
                refine WC.region ?_
                refine WL.yd (Yd.add rfl rfl (wr64 ⟨by omega, by omega⟩)) rfl ?_
                refine WL.yd (Yd.move rfl) rfl ?_
                refine WL.nil ?_
                first
                  | (have hn1 : sumT d (hsTo d by_ d.dippers.length) ((h : Nat) : Int) (k + 1) = sumT d (hsTo d by_ d.dippers.length) ((h : Nat) : Int) k + gt (hsTo d by_ d.dippers.length) k := if_pos hbit
                     refine WP.again (k + 1 : Nat) (by omega) (by omega) (fun aa ww hA => ?_)
                     rw [hn1]
                     exact at_less hA ⟨rfl, rfl, rfl, rfl, rfl, rfl, rfl, rfl, rfl, rfl, rfl, trivial⟩ (fun _ h => List.mem_cons_of_mem _ h) (fun h => (List.nodup_cons.1 h).2))
                  | (have hn1 : sumT d (hsTo d by_ d.dippers.length) ((h : Nat) : Int) (k + 1) = sumT d (hsTo d by_ d.dippers.length) ((h : Nat) : Int) k := if_neg hbit
                     refine WP.again (k + 1 : Nat) (by omega) (by omega) (fun aa ww hA => ?_)
                     rw [hn1]
                     exact at_less hA ⟨rfl, rfl, rfl, rfl, rfl, rfl, rfl, rfl, rfl, rfl, rfl, trivial⟩ (fun _ h => List.mem_cons_of_mem _ h) (fun h => (List.nodup_cons.1 h).2))
            · try simp only [decide_eq_true_eq, decide_eq_false_iff_not, Bool.not_eq_true', Bool.not_eq_false', Int.not_lt, Int.not_le, Bool.not_true, Bool.not_false] at c127
              refine WC.exit ?_
              refine WP.thenExit ?_
              refine WP.thenExit ?_
              refine WP.blkHit ?_
              refine WP.thenC ?_
              refine WC.seq ?_
              refine WC.ofFr [(2, _), (9, _), (10, _), (11, _), (16, _), (17, _), (119, _), (120, _)] ⟨rfl, rfl, rfl, rfl, rfl, rfl, rfl, rfl, trivial⟩ ?_
              refine WC.region ?_
              obtain rfl : k = d.dippers.length := by omega
              have hho := hands_ok hv (h := ((h : Nat) : Int)) (by omega) (by omega)
              have hs3 := sumT_in hv hT (h := ((h : Nat) : Int)) (by omega) (by omega) d.dippers.length (Nat.le_refl _)
              refine WL.yd (Yd.loadN Try.isAgg25 Try.sizeOf25 rfl (vs := [_, _, _]) rfl (by first | exact RdN.own (k := 0) (n := 3) rfl rfl | exact RdN.own (k := 1) (n := 3) rfl rfl | exact (hR.dip.at k (by omega)).rdn 0 3 rfl | exact (hR.bath.at k (by omega)).rdn 0 3 rfl)) rfl ?_
              refine WL.yd (Yd.move rfl) rfl ?_
              refine WL.so (SO.callP Try.call19 rfl (fun w hI => Gives.cv (.tuple #[.agg #[it (handsR d ((h : Nat) : Int) d.dippers.length).lo, it (handsR d ((h : Nat) : Int) d.dippers.length).hi], it 0]) (Hands_g d a1 _ c1 a2 _ c2 D3 w hR hI.imm ((h : Nat) : Int)) (by rw [hho]))) rfl ?_
              rintro _ _ _ ⟨rfl, rfl, rfl⟩
              refine WL.yd (Yd.move rfl) rfl ?_
              refine WL.yd (Yd.extract rfl rfl) rfl ?_
              refine WL.yd (Yd.extract rfl rfl) rfl ?_
              refine WL.so (SO.alloc Try.zeroValue35 rfl) rfl ?_
              rintro _ _ _ ⟨b20, hb20, rfl, rfl, rfl⟩ -- NEW
              refine WL.so (SO.store 0 rfl Try.sizeOf35 rfl rfl rfl rfl (Nat.le_of_ble_eq_true rfl) (oneB_spec rfl)) rfl ?_
              rintro _ _ _ ⟨rfl, rfl, rfl⟩
              refine WL.yd (Yd.assign rfl) rfl ?_
              refine WL.nil ?_
              refine WP.thenC ?_
              refine WC.seq ?_
              refine WC.ofFr [(21, _), (20, _), (2, _), (9, _), (10, _), (11, _), (17, _), (119, _), (120, _)] ⟨rfl, rfl, rfl, rfl, rfl, rfl, rfl, rfl, rfl, trivial⟩ ?_
              refine WC.region ?_
              refine WL.yd (Yd.move rfl) rfl ?_
              refine WL.yd (Yd.neq rfl rfl) rfl ?_
              refine WL.know 151 (.bool false) rfl (congrArg Value.bool (by decide)) ?_
              refine WL.yd (Yd.move rfl) rfl ?_
              refine WL.ydg rfl (Yd.move rfl) rfl ?_
              refine WL.ydg rfl (Yd.fieldAddr FA35_0 rfl) rfl ?_
              refine WL.ydg rfl (Yd.load1 Try.isAgg3 rfl (by first | exact Rd.own (k := 0) rfl rfl | exact Rd.own (k := 1) rfl rfl | exact Rd.own (k := 2) rfl rfl | exact ((hSD2.at k (by omega)).rd 0 rfl))) rfl ?_
              refine WL.ydg rfl (Yd.lss rfl rfl) rfl ?_
              refine WL.know 156 (.bool false) rfl (congrArg Value.bool (decide_eq_false (by omega))) ?_
              refine WL.yd (Yd.pickF rfl rfl) rfl ?_
              refine WL.yd (Yd.move rfl) rfl ?_
              refine WL.ydg rfl (Yd.move rfl) rfl ?_
              refine WL.ydg rfl (Yd.fieldAddr FA35_1 rfl) rfl ?_
              refine WL.ydg rfl (Yd.load1 Try.isAgg3 rfl (by first | exact Rd.own (k := 0) rfl rfl | exact Rd.own (k := 1) rfl rfl | exact Rd.own (k := 2) rfl rfl | exact ((hSD2.at k (by omega)).rd 0 rfl))) rfl ?_
              refine WL.ydg rfl (Yd.gtr rfl rfl) rfl ?_
              refine WL.know 162 (.bool false) rfl (congrArg Value.bool (decide_eq_false (by omega))) ?_
              refine WL.yd (Yd.pickF rfl rfl) rfl ?_
              refine WL.nil ?_
              refine WP.thenC ?_
              refine WC.condF rfl ?_
              refine WC.skip ?_
              refine WP.blkNormal ?_
              refine WP.thenC ?_
              refine WC.ofFr [(2, _), (9, _), (10, _), (11, _), (119, _), (120, _)] ⟨rfl, rfl, rfl, rfl, rfl, rfl, trivial⟩ ?_
              refine WC.region ?_
              refine WL.yd (Yd.add rfl rfl (wr64 ⟨by omega, by omega⟩)) rfl ?_
              refine WL.yd (Yd.move rfl) rfl ?_
              refine WL.nil ?_
              exact WP.again (h + 1 : Nat) (by omega) (by omega) (fun aa ww hA => at_less hA ⟨rfl, rfl, rfl, rfl, rfl, rfl, trivial⟩ (fun _ h => List.mem_cons_of_mem _ h) (fun h => (List.nodup_cons.1 h).2))
          · try simp only [decide_eq_true_eq, decide_eq_false_iff_not, Bool.not_eq_true', Bool.not_eq_false', Int.not_lt, Int.not_le, Bool.not_true, Bool.not_false] at c121
            refine WC.exit ?_
            refine WP.thenExit ?_
            refine WP.thenExit ?_
            refine WP.blkHit ?_
            refine WP.thenC ?_
            refine WC.seq ?_
            refine WC.ofFr [(2, _), (9, _), (10, _), (11, _)] ⟨rfl, rfl, rfl, rfl, trivial⟩ ?_
            refine WC.region ?_
            refine WL.yd (Yd.loadN Try.isAgg25 Try.sizeOf25 rfl (vs := [_, _, _]) rfl (by first | exact RdN.own (k := 0) (n := 3) rfl rfl | exact RdN.own (k := 1) (n := 3) rfl rfl | exact (hR.dip.at k (by omega)).rdn 0 3 rfl | exact (hR.bath.at k (by omega)).rdn 0 3 rfl)) rfl ?_
            refine WL.so (SO.makes (Enters.func Try.call22 rfl) (fun w hI => Plan_g d a1 _ c1 a2 _ c2 _ w hR hI.imm)) rfl ?_
            rintro _ D4 _ ⟨hX4, ⟨a3, n3, c3, rfl, hP⟩, rfl⟩
            replace hR := hR.ext hX4
            replace hB := hB.ext hX4
            replace hSD2 := hSD2.ext hX4
            replace hSD3 := hSD3.ext hX4
            obtain rfl := hP.pl.len'
            refine WL.yd (Yd.move rfl) rfl ?_
            refine WL.yd (Yd.extract rfl rfl) rfl ?_
            refine WL.yd (Yd.extract rfl rfl) rfl ?_
            refine WL.yd (Yd.assign rfl) rfl ?_
            refine WL.yd (Yd.assign rfl) rfl ?_
            refine WL.nil ?_
            refine WP.thenC ?_
            refine WC.seq ?_
            refine WC.ofFr [(23, _), (22, _), (2, _), (9, _), (10, _), (11, _)] ⟨rfl, rfl, rfl, rfl, rfl, rfl, trivial⟩ ?_
            refine WC.region ?_
            refine WL.yd (Yd.loadN Try.isAgg25 Try.sizeOf25 rfl (vs := [_, _, _]) rfl (by first | exact RdN.own (k := 0) (n := 3) rfl rfl | exact RdN.own (k := 1) (n := 3) rfl rfl | exact (hR.dip.at k (by omega)).rdn 0 3 rfl | exact (hR.bath.at k (by omega)).rdn 0 3 rfl)) rfl ?_
            refine WL.so (SO.callP Try.call24 rfl (fun w hI => Hope_g d a1 _ c1 a2 _ c2 _ _ hR hI.imm)) rfl ?_
            rintro _ _ _ ⟨rfl, rfl, rfl⟩
            refine WL.yd (Yd.move rfl) rfl ?_
            refine WL.yd (Yd.extract rfl rfl) rfl ?_
            refine WL.yd (Yd.extract rfl rfl) rfl ?_
            refine WL.yd (Yd.assign rfl) rfl ?_
            refine WL.yd (Yd.assign rfl) rfl ?_
            refine WL.nil ?_
            refine WP.thenC ?_
            refine WC.seq ?_
            refine WC.seq ?_
            refine WC.ofFr [(25, _), (24, _), (23, _), (22, _), (2, _), (9, _), (10, _), (11, _)] ⟨rfl, rfl, rfl, rfl, rfl, rfl, rfl, rfl, trivial⟩ ?_
            refine WC.region ?_
            refine WL.yd (Yd.move rfl) rfl ?_
            refine WL.yd (Yd.neq rfl rfl) rfl ?_
            refine WL.know 176 (.bool false) rfl (congrArg Value.bool (by rw [(hope_n hv).1]; decide)) ?_
            refine WL.yd (Yd.move rfl) rfl ?_
            refine WL.ydg rfl (Yd.move rfl) rfl ?_
            refine WL.ydg rfl (Yd.eql rfl rfl) rfl ?_
            refine WL.ydg rfl (Yd.move rfl) rfl ?_
            refine WL.ydg rfl (Yd.eql rfl rfl) rfl ?_
            refine WL.ydg rfl (Yd.neB Try.underlying4 rfl rfl) rfl ?_
            refine WL.know 182 (.bool false) rfl (congrArg Value.bool (by rw [plan_hope hv]; simp)) ?_
            refine WL.yd (Yd.pickF rfl rfl) rfl ?_
            refine WL.yd (Yd.move rfl) rfl ?_
            refine WL.ofFr [(184, _), (24, _), (23, _), (22, _), (2, _), (9, _), (10, _), (11, _)] ⟨rfl, rfl, rfl, rfl, rfl, rfl, rfl, rfl, trivial⟩ ?_
            refine WL.cutT 12 196 (.bool false) ?_ ?_
            · skip
              refine WL.ydg rfl (Yd.move rfl) rfl ?_
              refine WL.ydg rfl (Yd.neq rfl rfl) rfl ?_
              refine WL.ydg rfl (Yd.move rfl) rfl ?_
              refine WL.part 187 rfl (fun g187 => ?_) (fun g187 => ?_)
              · try simp only [decide_eq_true_eq, decide_eq_false_iff_not, Bool.not_eq_true', Bool.not_eq_false', Int.not_lt, Int.not_le, Bool.not_true, Bool.not_false] at g187
                refine WL.ydg rfl (Yd.move rfl) rfl ?_
                refine WL.ydg rfl (Yd.neq rfl rfl) rfl ?_
                refine WL.know 189 (.bool false) rfl (congrArg Value.bool (decide_eq_false (by have := (plan_no hv (by omega)).1; omega))) ?_
                refine WL.ydg rfl (Yd.move rfl) rfl ?_
                refine WL.ydg rfl (Yd.move rfl) rfl ?_
                refine WL.ydg rfl (Yd.lenS rfl Try.underlying26 rfl) rfl ?_
                refine WL.ydg rfl (Yd.neq rfl rfl) rfl ?_
                refine WL.know 193 (.bool false) rfl (congrArg Value.bool (decide_eq_false (by have := (plan_no hv (by omega)).2; omega))) ?_
                refine WL.ydg rfl (Yd.pickF rfl rfl) rfl ?_
                refine WL.ydg rfl (Yd.pickT rfl rfl) rfl ?_
                refine WL.yd (Yd.pickF rfl rfl) rfl ?_
                refine WL.nil ?_
                exact WP.cutEnd ⟨rfl, rfl, rfl, rfl, rfl, rfl, rfl, rfl, rfl, trivial⟩
              · try simp only [decide_eq_true_eq, decide_eq_false_iff_not, Bool.not_eq_true', Bool.not_eq_false', Int.not_lt, Int.not_le, Bool.not_true, Bool.not_false] at g187
                refine WL.skip rfl rfl ?_
                refine WL.skip rfl rfl ?_
                refine WL.skip rfl rfl ?_
                refine WL.skipU rfl rfl ?_
                refine WL.skipU rfl rfl ?_
                refine WL.skipU rfl rfl ?_
                refine WL.skip rfl rfl ?_
                refine WL.ydg rfl (Yd.pickF rfl rfl) rfl ?_
                refine WL.yd (Yd.pickF rfl rfl) rfl ?_
                refine WL.nil ?_
                exact WP.cutEnd ⟨rfl, rfl, rfl, rfl, rfl, rfl, rfl, rfl, rfl, trivial⟩
            · skip
              refine WL.nil ?_
              refine WP.thenC ?_
              refine WC.condF rfl ?_
              refine WC.skip ?_
              refine WP.thenC ?_
              refine WC.seq ?_
              refine WC.seq ?_
              refine WC.ofFr [(24, _), (23, _), (22, _), (2, _), (9, _), (10, _), (11, _)] ⟨rfl, rfl, rfl, rfl, rfl, rfl, rfl, trivial⟩ ?_
              refine WC.region ?_
              refine WL.ofFr [(24, _), (23, _), (22, _), (2, _), (9, _), (10, _), (11, _)] ⟨rfl, rfl, rfl, rfl, rfl, rfl, rfl, trivial⟩ ?_
              refine WL.cutT 16 212 (.bool false) ?_ ?_
              · skip
                refine WL.yd (Yd.move rfl) rfl ?_
                refine WL.yd (Yd.eql rfl rfl) rfl ?_
                refine WL.yd (Yd.move rfl) rfl ?_
                refine WL.part 199 rfl (fun g199 => ?_) (fun g199 => ?_)
                · try simp only [decide_eq_true_eq, decide_eq_false_iff_not, Bool.not_eq_true', Bool.not_eq_false', Int.not_lt, Int.not_le, Bool.not_true, Bool.not_false] at g199
                  obtain ⟨hq1, hl1, hf1⟩ := plan_ok hv (by omega)
                  refine WL.ydg rfl (Yd.loadN Try.isAgg25 Try.sizeOf25 rfl (vs := [_, _, _]) rfl (by first | exact RdN.own (k := 0) (n := 3) rfl rfl | exact RdN.own (k := 1) (n := 3) rfl rfl | exact (hR.dip.at k (by omega)).rdn 0 3 rfl | exact (hR.bath.at k (by omega)).rdn 0 3 rfl)) rfl ?_
                  refine WL.ydg rfl (Yd.move rfl) rfl ?_
                  refine WL.sog rfl (SO.callP Try.call38 rfl (fun w hI => list_g d a1 _ c1 a2 _ c2 _ _ hR hI.imm (PlanOut d).1 a3 _ c3 hP)) rfl ?_
                  rintro _ _ _ ⟨rfl, rfl, rfl⟩
                  refine WL.know 202 (.bool true) rfl (congrArg Value.bool (list_of hv hq1 hl1)) ?_
                  refine WL.ydg rfl (Yd.not rfl) rfl ?_
                  refine WL.ydg rfl (Yd.move rfl) rfl ?_
                  refine WL.ydg rfl (Yd.loadN Try.isAgg25 Try.sizeOf25 rfl (vs := [_, _, _]) rfl (by first | exact RdN.own (k := 0) (n := 3) rfl rfl | exact RdN.own (k := 1) (n := 3) rfl rfl | exact (hR.dip.at k (by omega)).rdn 0 3 rfl | exact (hR.bath.at k (by omega)).rdn 0 3 rfl)) rfl ?_
                  refine WL.ydg rfl (Yd.move rfl) rfl ?_
                  refine WL.ydg rfl (Yd.move rfl) rfl ?_
                  refine WL.ydg rfl (Yd.move rfl) rfl ?_
                  refine WL.sog rfl (SO.callP Try.call39 rfl (fun w hI => fits_g d a1 _ c1 a2 _ c2 _ w hR hI.imm hv (PlanOut d).1 a3 _ c3 hP hq1 (hsTo d by_ d.dippers.length) a6 _ c6 hSD2 (nsTo d by_ d.dippers.length d.bathers.length) a7 _ c7 hSD3 (by rw [hl1]; exact Nat.le_refl _) (by rw [nsTo_len]; exact by rw [hl1]; exact Nat.le_refl _) (by rw [hsTo_len]; exact Nat.le_refl _) hnd)) rfl ?_
                  rintro _ _ _ ⟨rfl, rfl, rfl⟩
                  refine WL.know 209 (.bool true) rfl (congrArg Value.bool (worst_fits hv hT hq1 hl1 hf1)) ?_
                  refine WL.ydg rfl (Yd.not rfl) rfl ?_
                  refine WL.ydg rfl (Yd.pickF rfl rfl) rfl ?_
                  refine WL.yd (Yd.pickT rfl rfl) rfl ?_
                  refine WL.nil ?_
                  exact WP.cutEnd ⟨rfl, rfl, rfl, rfl, rfl, rfl, rfl, rfl, trivial⟩
                · try simp only [decide_eq_true_eq, decide_eq_false_iff_not, Bool.not_eq_true', Bool.not_eq_false', Int.not_lt, Int.not_le, Bool.not_true, Bool.not_false] at g199
                  refine WL.skip rfl rfl ?_
                  refine WL.skip rfl rfl ?_
                  refine WL.skip rfl rfl ?_
                  refine WL.skip rfl rfl ?_
                  refine WL.skip rfl rfl ?_
                  refine WL.skipU rfl rfl ?_
                  refine WL.skipU rfl rfl ?_
                  refine WL.skipU rfl rfl ?_
                  refine WL.skipU rfl rfl ?_
                  refine WL.skipU rfl rfl ?_
                  refine WL.skipU rfl rfl ?_
                  refine WL.skip rfl rfl ?_
                  refine WL.yd (Yd.pickF rfl rfl) rfl ?_
                  refine WL.nil ?_
                  exact WP.cutEnd ⟨rfl, rfl, rfl, rfl, rfl, rfl, rfl, rfl, trivial⟩
              · skip
                refine WL.nil ?_
                refine WP.thenC ?_
                refine WC.condF rfl ?_
                refine WC.skip ?_
                refine WP.thenC ?_
                refine WC.seq ?_
                refine WC.ofFr [(24, _), (2, _), (9, _), (10, _), (11, _)] ⟨rfl, rfl, rfl, rfl, rfl, trivial⟩ ?_
                refine WC.region ?_
                refine WL.yd (Yd.loadN Try.isAgg25 Try.sizeOf25 rfl (vs := [_, _, _]) rfl (by first | exact RdN.own (k := 0) (n := 3) rfl rfl | exact RdN.own (k := 1) (n := 3) rfl rfl | exact (hR.dip.at k (by omega)).rdn 0 3 rfl | exact (hR.bath.at k (by omega)).rdn 0 3 rfl)) rfl ?_
                refine WL.yd (Yd.move rfl) rfl ?_
                refine WL.so (SO.altersN (own := [_]) (hpc := [(b3, cntO (d.dippers.length + d.bathers.length))]) (S1 := [b3]) (fun _ h => h) (fun h => h) (fun _ h => h) (fun _ h => h) (Enters.func Try.call40 rfl) (fun w1 hI => made_g d a1 _ c1 a2 _ c2 _ w1 hR hI.imm hv by_ b3 b1 (d.dippers.length + d.bathers.length) hB (by omega) hI)) rfl ?_
                rintro _ D6 _ ⟨_, hX6, ⟨a8, n8, c8, rfl, hP8, rfl⟩, rfl⟩
                replace hR := hR.ext hX6
                replace hSD2 := hSD2.ext hX6
                replace hSD3 := hSD3.ext hX6
                refine WL.yd (Yd.move rfl) rfl ?_
                refine WL.yd (Yd.extract rfl rfl) rfl ?_
                refine WL.yd (Yd.extract rfl rfl) rfl ?_
                refine WL.yd (Yd.assign rfl) rfl ?_
                refine WL.yd (Yd.assign rfl) rfl ?_
                refine WL.nil ?_
                refine WP.thenC ?_
                refine WC.seq ?_
                refine WC.seq ?_
                refine WC.ofFr [(27, _), (26, _), (24, _), (2, _), (10, _), (11, _)] ⟨rfl, rfl, rfl, rfl, rfl, rfl, trivial⟩ ?_
                refine WC.region ?_
                refine WL.yd (Yd.move rfl) rfl ?_
                refine WL.yd (Yd.not rfl) rfl ?_
                refine WL.nil ?_
                refine WP.thenC ?_
                refine WC.cond rfl (fun c220 => ?_) (fun c220 => ?_)
                · try simp only [decide_eq_true_eq, decide_eq_false_iff_not, Bool.not_eq_true', Bool.not_eq_false', Int.not_lt, Int.not_le, Bool.not_true, Bool.not_false] at c220
                  have hmi : madeIs d = false := by simpa using c220
                  refine WC.seq ?_
                  refine WC.ofFr [(26, _), (24, _), (2, _), (10, _), (11, _)] ⟨rfl, rfl, rfl, rfl, rfl, trivial⟩ ?_
                  refine WC.region ?_
                  refine WL.yd (Yd.move rfl) rfl ?_
                  refine WL.yd (Yd.eql rfl rfl) rfl ?_
                  refine WL.know 222 (.bool true) rfl (congrArg Value.bool (decide_eq_true (none_hope hv hmi))) ?_
                  refine WL.yd (Yd.move rfl) rfl ?_
                  refine WL.sog rfl (SO.callP Try.call14 rfl (fun w hI => alive_g _ _ hI.imm)) rfl ?_
                  rintro _ _ _ ⟨rfl, rfl, rfl⟩
                  refine WL.know 224 (.bool true) rfl rfl ?_
                  refine WL.yd (Yd.pickT rfl rfl) rfl ?_
                  refine WL.yd (Yd.assign rfl) rfl ?_
                  refine WL.nil ?_
                  refine WP.thenC ?_
                  refine WC.ret ?_
                  refine WP.thenRet ?_
                  refine WP.ret1 rfl rfl Try.results7 (RV.tmp rfl) (fun w hI => ⟨rfl, hI.keep⟩)
                · try simp only [decide_eq_true_eq, decide_eq_false_iff_not, Bool.not_eq_true', Bool.not_eq_false', Int.not_lt, Int.not_le, Bool.not_true, Bool.not_false] at c220
                  have hmi : madeIs d = true := by simpa using c220
                  have hown := made_ok hv by_ (d.dippers.length + d.bathers.length) hmi
                  have hrf := right_fits hv hT hown.1 hown.2
                  have hrn := right_n hv hown.1 hown.2
                  refine WC.skip ?_
                  refine WP.thenC ?_
                  refine WC.seq ?_
                  refine WC.ofFr [(26, _), (24, _), (2, _), (10, _), (11, _)] ⟨rfl, rfl, rfl, rfl, rfl, trivial⟩ ?_
                  refine WC.region ?_
                  refine WL.yd (Yd.loadN Try.isAgg25 Try.sizeOf25 rfl (vs := [_, _, _]) rfl (by first | exact RdN.own (k := 0) (n := 3) rfl rfl | exact RdN.own (k := 1) (n := 3) rfl rfl | exact (hR.dip.at k (by omega)).rdn 0 3 rfl | exact (hR.bath.at k (by omega)).rdn 0 3 rfl)) rfl ?_
                  refine WL.yd (Yd.move rfl) rfl ?_
                  refine WL.yd (Yd.move rfl) rfl ?_
                  refine WL.yd (Yd.move rfl) rfl ?_
                  refine WL.so (SO.callP Try.call39 rfl (fun w hI => fits_g d a1 _ c1 a2 _ c2 _ w hR hI.imm hv (madeL d by_ (d.dippers.length + d.bathers.length)) a8 _ c8 hP8 hown.1 (hsTo d by_ d.dippers.length) a6 _ c6 hSD2 (nsTo d by_ d.dippers.length d.bathers.length) a7 _ c7 hSD3 (by rw [hown.2]; exact Nat.le_refl _) (by rw [nsTo_len]; exact by rw [hown.2]; exact Nat.le_refl _) (by rw [hsTo_len]; exact Nat.le_refl _) hnd)) rfl ?_
                  rintro _ _ _ ⟨rfl, rfl, rfl⟩
                  refine WL.yd (Yd.assign rfl) rfl ?_
                  refine WL.nil ?_
                  refine WP.thenC ?_
                  refine WC.seq ?_
                  refine WC.ofFr [(28, _), (26, _), (24, _), (2, _)] ⟨rfl, rfl, rfl, rfl, trivial⟩ ?_
                  refine WC.region ?_
                  refine WL.yd (Yd.loadN Try.isAgg25 Try.sizeOf25 rfl (vs := [_, _, _]) rfl (by first | exact RdN.own (k := 0) (n := 3) rfl rfl | exact RdN.own (k := 1) (n := 3) rfl rfl | exact (hR.dip.at k (by omega)).rdn 0 3 rfl | exact (hR.bath.at k (by omega)).rdn 0 3 rfl)) rfl ?_
                  refine WL.yd (Yd.move rfl) rfl ?_
                  refine WL.so (SO.callP Try.call17 rfl (fun w hI => Right_g d a1 _ c1 a2 _ c2 _ w hR hI.imm (madeL d by_ (d.dippers.length + d.bathers.length)) a8 _ c8 hP8)) rfl ?_
                  rintro _ _ _ ⟨rfl, rfl, rfl⟩
                  refine WL.yd (Yd.move rfl) rfl ?_
                  refine WL.yd (Yd.extract rfl rfl) rfl ?_
                  refine WL.yd (Yd.extract rfl rfl) rfl ?_
                  refine WL.yd (Yd.assign rfl) rfl ?_
                  refine WL.yd (Yd.assign rfl) rfl ?_
                  refine WL.nil ?_
                  refine WP.thenC ?_
                  refine WC.seq ?_
                  refine WC.ofFr [(30, _), (29, _), (28, _), (24, _)] ⟨rfl, rfl, rfl, rfl, trivial⟩ ?_
                  refine WC.region ?_
                  refine WL.yd (Yd.move rfl) rfl ?_
                  refine WL.yd (Yd.eql rfl rfl) rfl ?_
                  refine WL.know 238 (.bool true) rfl (congrArg Value.bool (decide_eq_true hrn.1)) ?_
                  refine WL.yd (Yd.move rfl) rfl ?_
                  refine WL.ofFr [(239, _), (29, _), (28, _), (24, _)] ⟨rfl, rfl, rfl, rfl, trivial⟩ ?_
                  refine WL.cutT 5 244 (.bool true) ?_ ?_
                  · skip
                    refine WL.ydg rfl (Yd.move rfl) rfl ?_
                    refine WL.ydg rfl (Yd.neq rfl rfl) rfl ?_
                    refine WL.ydg rfl (Yd.move rfl) rfl ?_
                    refine WL.part 242 rfl (fun g242 => ?_) (fun g242 => ?_)
                    · try simp only [decide_eq_true_eq, decide_eq_false_iff_not, Bool.not_eq_true', Bool.not_eq_false', Int.not_lt, Int.not_le, Bool.not_true, Bool.not_false] at g242
                      refine WL.skip rfl rfl ?_
                      refine WL.ydg rfl (Yd.pickT rfl rfl) rfl ?_
                      refine WL.nil ?_
                      exact WP.cutEnd ⟨rfl, rfl, rfl, rfl, rfl, trivial⟩
                    · try simp only [decide_eq_true_eq, decide_eq_false_iff_not, Bool.not_eq_true', Bool.not_eq_false', Int.not_lt, Int.not_le, Bool.not_true, Bool.not_false] at g242
                      refine WL.ydg rfl (Yd.move rfl) rfl ?_
                      refine WL.know 243 (.bool true) rfl (congrArg Value.bool (hrf.1 (by omega))) ?_
                      refine WL.ydg rfl (Yd.pickF rfl rfl) rfl ?_
                      refine WL.nil ?_
                      exact WP.cutEnd ⟨rfl, rfl, rfl, rfl, rfl, trivial⟩
                  · skip
                    refine WL.yd (Yd.pickT rfl rfl) rfl ?_
                    refine WL.yd (Yd.move rfl) rfl ?_
                    refine WL.ofFr [(246, _), (29, _), (28, _), (24, _)] ⟨rfl, rfl, rfl, rfl, trivial⟩ ?_
                    refine WL.cutT 6 252 (.bool true) ?_ ?_
                    · skip
                      refine WL.ydg rfl (Yd.move rfl) rfl ?_
                      refine WL.ydg rfl (Yd.neq rfl rfl) rfl ?_
                      refine WL.ydg rfl (Yd.move rfl) rfl ?_
                      refine WL.part 249 rfl (fun g249 => ?_) (fun g249 => ?_)
                      · try simp only [decide_eq_true_eq, decide_eq_false_iff_not, Bool.not_eq_true', Bool.not_eq_false', Int.not_lt, Int.not_le, Bool.not_true, Bool.not_false] at g249
                        refine WL.skip rfl rfl ?_
                        refine WL.skip rfl rfl ?_
                        refine WL.ydg rfl (Yd.pickT rfl rfl) rfl ?_
                        refine WL.nil ?_
                        exact WP.cutEnd ⟨rfl, rfl, rfl, rfl, rfl, trivial⟩
                      · try simp only [decide_eq_true_eq, decide_eq_false_iff_not, Bool.not_eq_true', Bool.not_eq_false', Int.not_lt, Int.not_le, Bool.not_true, Bool.not_false] at g249
                        refine WL.ydg rfl (Yd.move rfl) rfl ?_
                        refine WL.know 250 (.bool false) rfl (congrArg Value.bool (hrf.2.1 (by omega))) ?_
                        refine WL.ydg rfl (Yd.not rfl) rfl ?_
                        refine WL.ydg rfl (Yd.pickF rfl rfl) rfl ?_
                        refine WL.nil ?_
                        exact WP.cutEnd ⟨rfl, rfl, rfl, rfl, rfl, trivial⟩
                    · skip
                      refine WL.yd (Yd.pickT rfl rfl) rfl ?_
                      refine WL.yd (Yd.move rfl) rfl ?_
                      refine WL.ofFr [(254, _), (29, _), (28, _), (24, _)] ⟨rfl, rfl, rfl, rfl, trivial⟩ ?_
                      refine WL.cutT 6 260 (.bool true) ?_ ?_
                      · skip
                        refine WL.ydg rfl (Yd.move rfl) rfl ?_
                        refine WL.ydg rfl (Yd.neq rfl rfl) rfl ?_
                        refine WL.ydg rfl (Yd.move rfl) rfl ?_
                        refine WL.part 257 rfl (fun g257 => ?_) (fun g257 => ?_)
                        · try simp only [decide_eq_true_eq, decide_eq_false_iff_not, Bool.not_eq_true', Bool.not_eq_false', Int.not_lt, Int.not_le, Bool.not_true, Bool.not_false] at g257
                          refine WL.skip rfl rfl ?_
                          refine WL.skip rfl rfl ?_
                          refine WL.ydg rfl (Yd.pickT rfl rfl) rfl ?_
                          refine WL.nil ?_
                          exact WP.cutEnd ⟨rfl, rfl, rfl, rfl, rfl, trivial⟩
                        · try simp only [decide_eq_true_eq, decide_eq_false_iff_not, Bool.not_eq_true', Bool.not_eq_false', Int.not_lt, Int.not_le, Bool.not_true, Bool.not_false] at g257
                          refine WL.ydg rfl (Yd.move rfl) rfl ?_
                          refine WL.know 258 (.bool false) rfl (congrArg Value.bool (hrf.2.2.1 (by omega))) ?_
                          refine WL.ydg rfl (Yd.not rfl) rfl ?_
                          refine WL.ydg rfl (Yd.pickF rfl rfl) rfl ?_
                          refine WL.nil ?_
                          exact WP.cutEnd ⟨rfl, rfl, rfl, rfl, rfl, trivial⟩
                      · skip
                        refine WL.yd (Yd.pickT rfl rfl) rfl ?_
                        refine WL.yd (Yd.move rfl) rfl ?_
                        refine WL.ofFr [(262, _), (29, _), (24, _)] ⟨rfl, rfl, rfl, trivial⟩ ?_
                        refine WL.cutT 6 268 (.bool true) ?_ ?_
                        · skip
                          refine WL.ydg rfl (Yd.move rfl) rfl ?_
                          refine WL.ydg rfl (Yd.neq rfl rfl) rfl ?_
                          refine WL.ydg rfl (Yd.move rfl) rfl ?_
                          refine WL.part 265 rfl (fun g265 => ?_) (fun g265 => ?_)
                          · try simp only [decide_eq_true_eq, decide_eq_false_iff_not, Bool.not_eq_true', Bool.not_eq_false', Int.not_lt, Int.not_le, Bool.not_true, Bool.not_false] at g265
                            refine WL.skip rfl rfl ?_
                            refine WL.skip rfl rfl ?_
                            refine WL.ydg rfl (Yd.pickT rfl rfl) rfl ?_
                            refine WL.nil ?_
                            exact WP.cutEnd ⟨rfl, rfl, rfl, rfl, trivial⟩
                          · try simp only [decide_eq_true_eq, decide_eq_false_iff_not, Bool.not_eq_true', Bool.not_eq_false', Int.not_lt, Int.not_le, Bool.not_true, Bool.not_false] at g265
                            refine WL.ydg rfl (Yd.move rfl) rfl ?_
                            refine WL.ydg rfl (Yd.eql rfl rfl) rfl ?_
                            refine WL.know 267 (.bool true) rfl (congrArg Value.bool (decide_eq_true (hrf.2.2.2.1 (by omega)))) ?_
                            refine WL.ydg rfl (Yd.pickF rfl rfl) rfl ?_
                            refine WL.nil ?_
                            exact WP.cutEnd ⟨rfl, rfl, rfl, rfl, trivial⟩
                        · skip
                          refine WL.yd (Yd.pickT rfl rfl) rfl ?_
                          refine WL.yd (Yd.move rfl) rfl ?_
                          refine WL.ofFr [(270, _), (29, _), (24, _)] ⟨rfl, rfl, rfl, trivial⟩ ?_
                          refine WL.cutT 6 276 (.bool true) ?_ ?_
                          · skip
                            refine WL.ydg rfl (Yd.move rfl) rfl ?_
                            refine WL.ydg rfl (Yd.eql rfl rfl) rfl ?_
                            refine WL.ydg rfl (Yd.move rfl) rfl ?_
                            refine WL.part 273 rfl (fun g273 => ?_) (fun g273 => ?_)
                            · try simp only [decide_eq_true_eq, decide_eq_false_iff_not, Bool.not_eq_true', Bool.not_eq_false', Int.not_lt, Int.not_le, Bool.not_true, Bool.not_false] at g273
                              refine WL.skip rfl rfl ?_
                              refine WL.skip rfl rfl ?_
                              refine WL.ydg rfl (Yd.pickT rfl rfl) rfl ?_
                              refine WL.nil ?_
                              exact WP.cutEnd ⟨rfl, rfl, rfl, rfl, trivial⟩
                            · try simp only [decide_eq_true_eq, decide_eq_false_iff_not, Bool.not_eq_true', Bool.not_eq_false', Int.not_lt, Int.not_le, Bool.not_true, Bool.not_false] at g273
                              refine WL.ydg rfl (Yd.move rfl) rfl ?_
                              refine WL.ydg rfl (Yd.neq rfl rfl) rfl ?_
                              refine WL.know 275 (.bool true) rfl (congrArg Value.bool (decide_eq_true (hrf.2.2.2.2 (by omega)))) ?_
                              refine WL.ydg rfl (Yd.pickF rfl rfl) rfl ?_
                              refine WL.nil ?_
                              exact WP.cutEnd ⟨rfl, rfl, rfl, rfl, trivial⟩
                          · skip
                            refine WL.yd (Yd.pickT rfl rfl) rfl ?_
                            refine WL.yd (Yd.move rfl) rfl ?_
                            refine WL.sog rfl (SO.callP Try.call14 rfl (fun w hI => alive_g _ _ hI.imm)) rfl ?_
                            rintro _ _ _ ⟨rfl, rfl, rfl⟩
                            refine WL.know 279 (.bool true) rfl rfl ?_
                            refine WL.yd (Yd.pickT rfl rfl) rfl ?_
                            refine WL.yd (Yd.assign rfl) rfl ?_
                            refine WL.nil ?_
                            refine WP.thenC ?_
                            refine WC.ret ?_
                            refine WP.ret1 rfl rfl Try.results7 (RV.tmp rfl) (fun w hI => ⟨rfl, hI.keep⟩)

theorem true_g (d : Dips) (a1 : Option Addr) (n1 c1 : Nat) (a2 : Option Addr) (n2 c2 : Nat) (D : Imm) (w : World) (hS1 : SlL D 3 (d.dippers.map dipperC) a1 n1) (hS2 : SlL D 3 (d.bathers.map batherC) a2 n2) (hH : Holds D w) (by_ : List Int) (a4 : Option Addr) (n4 c4 : Nat) (hS4 : SlL D 1 (by_.map u16C) a4 n4) (hby : ∀ i, i < by_.length → 0 ≤ gt by_ i ∧ gt by_ i ≤ 65535) : Gives Try.prog 7 [.agg #[it d.hours, .slice a1 n1 c1, .slice a2 n2 c2], .slice a4 n4 c4] w (.bool true) := by
  cases hv : dipsB d with
  | false => exact true_1 d a1 n1 c1 a2 n2 c2 D w hS1 hS2 hH by_ a4 n4 c4 hS4 hby hv
  | true => exact true_ok d a1 n1 c1 a2 n2 c2 D w hS1 hS2 hH by_ a4 n4 c4 hS4 hby hv

end Go.Proofs.Ytidjdonppfegiaa
