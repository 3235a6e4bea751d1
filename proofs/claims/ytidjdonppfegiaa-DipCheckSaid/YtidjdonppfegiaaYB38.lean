import Derived.Test.YtidjdonppfegiaaXT
import Derived.Test.YtidjdonppfegiaaXQ
import Derived.Test.YtidjdonppfegiaaXP
set_option linter.unusedSimpArgs false
set_option linter.unusedVariables false
set_option linter.all false
namespace Go.Proofs.Ytidjdonppfegiaa
open Go.W Go.Dp

set_option maxRecDepth 100000 in
set_option maxHeartbeats 1000000 in
theorem check8_1 (d : Dips) (a1 : Option Addr) (n1 c1 : Nat) (a2 : Option Addr) (n2 c2 : Nat) (D : Imm) (w : World) (hS1 : SlL D 3 (d.dippers.map dipperC) a1 n1) (hS2 : SlL D 3 (d.bathers.map batherC) a2 n2) (hH : Holds D w) (by_ : List Int) (a4 : Option Addr) (n4 c4 : Nat) (hS4 : SlL D 1 (by_.map u16C) a4 n4) (hby : ∀ i, i < by_.length → 0 ≤ gt by_ i ∧ gt by_ i ≤ 65535) (hv : dipsB d = false) : Gives Try.prog 8 [.agg #[it d.hours, .slice a1 n1 c1, .slice a2 n2 c2], .slice a4 n4 c4] w (.bool true) := by
  unfold Gives
  refine enter Try.func8 rfl 275 Try.ntmps8 (Nat.le_of_ble_eq_true rfl) (Inv.start hH) ?_
  refine WC.seq ?_
  refine WC.ofFr [(0, _), (1, _)] ⟨rfl, rfl, trivial⟩ ?_
  refine WC.region ?_
  refine WL.so (SO.box rfl rfl) rfl ?_
  rintro _ _ _ ⟨b2, hb2, rfl, rfl, rfl⟩ -- NEW
  refine WL.yd (Yd.assign rfl) rfl ?_
  refine WL.nil ?_
  refine WP.thenC ?_
  refine WC.seq ?_
  refine WC.seq ?_
  refine WC.ofFr [(4, _), (2, _), (1, _)] ⟨rfl, rfl, rfl, trivial⟩ ?_
  refine WC.region ?_
  refine WL.yd (Yd.loadN Try.isAgg25 Try.sizeOf25 rfl (vs := [_, _, _]) rfl (by first | exact RdN.own (k := 0) (n := 3) rfl rfl)) rfl ?_
  refine WL.so (SO.callP Try.call13 rfl (fun w hI => long_g _ _ _ _ _ _ _ _ _ _ _)) rfl ?_
  rintro _ _ _ ⟨rfl, rfl, rfl⟩
  refine WL.yd (Yd.move rfl) rfl ?_
  refine WL.part 33 rfl (fun g33 => ?_) (fun g33 => ?_)
  · try simp only [decide_eq_true_eq, decide_eq_false_iff_not, Bool.not_eq_true', Bool.not_eq_false', Int.not_lt, Int.not_le, Bool.not_true, Bool.not_false] at g33
    refine WL.skip rfl rfl ?_
    refine WL.skip rfl rfl ?_
    refine WL.skip rfl rfl ?_
    refine WL.yd (Yd.pickT rfl rfl) rfl ?_
    refine WL.nil ?_
    refine WP.thenC ?_
    refine WC.condT rfl ?_
    refine WC.seq ?_
    refine WC.ofFr [(4, _), (2, _), (1, _)] ⟨rfl, rfl, rfl, trivial⟩ ?_
    refine WC.region ?_
    refine WL.so (SO.callP Try.call14 rfl (fun w hI => alive_g _ _ hI.imm)) rfl ?_
    rintro _ _ _ ⟨rfl, rfl, rfl⟩
    refine WL.yd (Yd.assign rfl) rfl ?_
    refine WL.nil ?_
    refine WP.thenC ?_
    refine WC.ret ?_
    refine WP.thenRet ?_
    refine WP.ret1 rfl rfl Try.results8 (RV.tmp rfl) (fun w hI => ⟨rfl, hI.keep⟩)
  · try simp only [decide_eq_true_eq, decide_eq_false_iff_not, Bool.not_eq_true', Bool.not_eq_false', Int.not_lt, Int.not_le, Bool.not_true, Bool.not_false] at g33
    have hR : DipsR D d a1 n1 a2 n2 := ⟨hS1, hS2, by have := g33; omega, by have := g33; omega⟩
    refine WL.ydg rfl (Yd.loadN Try.isAgg25 Try.sizeOf25 rfl (vs := [_, _, _]) rfl (by first | exact RdN.own (k := 0) (n := 3) rfl rfl)) rfl ?_
    refine WL.sog rfl (SO.callP Try.call36 rfl (fun w hI => dips_g d a1 _ c1 a2 _ c2 D _ hR hI.imm)) rfl ?_
    rintro _ _ _ ⟨rfl, rfl, rfl⟩
    refine WL.ydg rfl (Yd.not rfl) rfl ?_
    refine WL.yd (Yd.pickF rfl rfl) rfl ?_
    refine WL.nil ?_
    refine WP.thenC ?_
    refine WC.cond rfl (fun c37 => ?_) (fun c37 => ?_)
    · try simp only [decide_eq_true_eq, decide_eq_false_iff_not, Bool.not_eq_true', Bool.not_eq_false', Int.not_lt, Int.not_le, Bool.not_true, Bool.not_false] at c37
      refine WC.seq ?_
      refine WC.ofFr [(4, _), (2, _), (1, _)] ⟨rfl, rfl, rfl, trivial⟩ ?_
      refine WC.region ?_
      refine WL.so (SO.callP Try.call14 rfl (fun w hI => alive_g _ _ hI.imm)) rfl ?_
      rintro _ _ _ ⟨rfl, rfl, rfl⟩
      refine WL.yd (Yd.assign rfl) rfl ?_
      refine WL.nil ?_
      refine WP.thenC ?_
      refine WC.ret ?_
      refine WP.thenRet ?_
      refine WP.ret1 rfl rfl Try.results8 (RV.tmp rfl) (fun w hI => ⟨rfl, hI.keep⟩)
    · try simp only [decide_eq_true_eq, decide_eq_false_iff_not, Bool.not_eq_true', Bool.not_eq_false', Int.not_lt, Int.not_le, Bool.not_true, Bool.not_false] at c37
      rw [hv] at c37; cases c37

set_option maxRecDepth 100000 in
set_option maxHeartbeats 1000000 in
theorem check8_ok (d : Dips) (a1 : Option Addr) (n1 c1 : Nat) (a2 : Option Addr) (n2 c2 : Nat) (D : Imm) (w : World) (hS1 : SlL D 3 (d.dippers.map dipperC) a1 n1) (hS2 : SlL D 3 (d.bathers.map batherC) a2 n2) (hH : Holds D w) (by_ : List Int) (a4 : Option Addr) (n4 c4 : Nat) (hS4 : SlL D 1 (by_.map u16C) a4 n4) (hby : ∀ i, i < by_.length → 0 ≤ gt by_ i ∧ gt by_ i ≤ 65535) (hv : dipsB d = true) : Gives Try.prog 8 [.agg #[it d.hours, .slice a1 n1 c1, .slice a2 n2 c2], .slice a4 n4 c4] w (.bool true) := by
  unfold Gives
  have hR : DipsR D d a1 n1 a2 n2 := by
    have h1 := hS1.len'
    have h2 := hS2.len'
    have h3 := dips_num hv
    exact ⟨hS1, hS2, by omega, by omega⟩
  obtain rfl := hS1.len'
  obtain rfl := hS2.len'
  have hnum := dips_num hv
  refine enter Try.func8 rfl 275 Try.ntmps8 (Nat.le_of_ble_eq_true rfl) (Inv.start hH) ?_
  refine WC.seq ?_
  refine WC.ofFr [(0, _), (1, _)] ⟨rfl, rfl, trivial⟩ ?_
  refine WC.region ?_
  refine WL.so (SO.box rfl rfl) rfl ?_
  rintro _ _ _ ⟨b2, hb2, rfl, rfl, rfl⟩ -- NEW
  refine WL.yd (Yd.assign rfl) rfl ?_
  refine WL.nil ?_
  refine WP.thenC ?_
  refine WC.seq ?_
  refine WC.seq ?_
  refine WC.ofFr [(4, _), (2, _), (1, _)] ⟨rfl, rfl, rfl, trivial⟩ ?_
  refine WC.region ?_
  refine WL.yd (Yd.loadN Try.isAgg25 Try.sizeOf25 rfl (vs := [_, _, _]) rfl (by first | exact RdN.own (k := 0) (n := 3) rfl rfl | exact (hR.dip.at k (by omega)).rdn 0 3 rfl | exact (hR.bath.at k (by omega)).rdn 0 3 rfl | exact (hP8.pl.at k (by omega)).rdn 0 2 rfl)) rfl ?_
  refine WL.so (SO.callP Try.call13 rfl (fun w hI => long_g _ _ _ _ _ _ _ _ _ _ _)) rfl ?_
  rintro _ _ _ ⟨rfl, rfl, rfl⟩
  refine WL.yd (Yd.move rfl) rfl ?_
  refine WL.part 33 rfl (fun g33 => ?_) (fun g33 => ?_)
  · try simp only [decide_eq_true_eq, decide_eq_false_iff_not, Bool.not_eq_true', Bool.not_eq_false', Int.not_lt, Int.not_le, Bool.not_true, Bool.not_false] at g33
    omega
  · try simp only [decide_eq_true_eq, decide_eq_false_iff_not, Bool.not_eq_true', Bool.not_eq_false', Int.not_lt, Int.not_le, Bool.not_true, Bool.not_false] at g33
    refine WL.ydg rfl (Yd.loadN Try.isAgg25 Try.sizeOf25 rfl (vs := [_, _, _]) rfl (by first | exact RdN.own (k := 0) (n := 3) rfl rfl | exact (hR.dip.at k (by omega)).rdn 0 3 rfl | exact (hR.bath.at k (by omega)).rdn 0 3 rfl | exact (hP8.pl.at k (by omega)).rdn 0 2 rfl)) rfl ?_
    refine WL.sog rfl (SO.callP Try.call36 rfl (fun w hI => dips_g d a1 _ c1 a2 _ c2 D _ hR hI.imm)) rfl ?_
    rintro _ _ _ ⟨rfl, rfl, rfl⟩
    refine WL.ydg rfl (Yd.not rfl) rfl ?_
    refine WL.yd (Yd.pickF rfl rfl) rfl ?_
    refine WL.nil ?_
    refine WP.thenC ?_
    refine WC.cond rfl (fun c37 => ?_) (fun c37 => ?_)
    · try simp only [decide_eq_true_eq, decide_eq_false_iff_not, Bool.not_eq_true', Bool.not_eq_false', Int.not_lt, Int.not_le, Bool.not_true, Bool.not_false] at c37
      rw [hv] at c37; cases c37
    · try simp only [decide_eq_true_eq, decide_eq_false_iff_not, Bool.not_eq_true', Bool.not_eq_false', Int.not_lt, Int.not_le, Bool.not_true, Bool.not_false] at c37
      refine WC.skip ?_
      refine WP.thenC ?_
      refine WC.seq ?_
      refine WC.ofFr [(4, _), (2, _), (1, _)] ⟨rfl, rfl, rfl, trivial⟩ ?_
      refine WC.drawO [_] [(0, true), (1, true), (2, false), (3, false), (4, true), (5, true), (6, true), (7, true), (8, true)] (by kernel_rfl) (by kernel_rfl) (QuietPanic.then QuietPanic.body) (fun w hI => Inv.left (l1 := [_]) hI) ?_
      refine WA.yd rfl (Yd.loadN Try.isAgg25 Try.sizeOf25 rfl (vs := [_, _, _]) rfl (by first | exact RdN.own (k := 0) (n := 3) rfl rfl | exact (hR.dip.at k (by omega)).rdn 0 3 rfl | exact (hR.bath.at k (by omega)).rdn 0 3 rfl | exact (hP8.pl.at k (by omega)).rdn 0 2 rfl)) rfl ?_
      refine WA.yd rfl (Yd.move rfl) rfl ?_
      refine WA.so rfl (SO.news (Enters.func Try.call37 rfl) (fun w1 hI => draws_g by_ a4 n4 c4 D w1 hS4 hby hI.imm)) rfl ?_
      rintro _ D1 _ ⟨_, hX1, ⟨b3, b1, rfl, hB, rfl⟩, rfl⟩
      replace hR := hR.ext hX1
      refine ⟨fun _ hI => Inv.left (l1 := [_]) (hI.shrink hX1.old), ?_⟩
      refine WA.so rfl (SO.altersN (own := [_]) (hpc := [(b3, cntO 0)]) (S1 := [b3]) (fun _ h => h) (fun h => h) (fun _ h => h) (fun _ h => h) (Enters.func Try.call40 rfl) (fun w1 hI => made_g d a1 _ c1 a2 _ c2 _ w1 hR hI.imm hv by_ b3 b1 0 hB (by omega) hI)) rfl ?_
      rintro _ D6 _ ⟨_, hX6, ⟨a8, n8, c8, rfl, hP8, hcap8, rfl⟩, rfl⟩
      replace hR := hR.ext hX6
      refine ⟨fun _ hI => Inv.left (l1 := [_]) (hI.shrink (hX1.trans hX6 (Nat.le_refl _)).old), ?_⟩
      refine WA.yd rfl (Yd.move rfl) rfl ?_
      refine WA.yd rfl (Yd.extract rfl rfl) rfl ?_
      refine WA.yd rfl (Yd.extract rfl rfl) rfl ?_
      refine WA.yd rfl (Yd.assign rfl) rfl ?_
      refine WA.yd rfl (Yd.assign rfl) rfl ?_
      refine WA.nil ?_
      refine WP.thenC ?_
      refine WC.seq ?_
      refine WC.seq ?_
      refine WC.ofFr [(6, _), (5, _), (4, _), (2, _)] ⟨rfl, rfl, rfl, rfl, trivial⟩ ?_
      refine WC.region ?_
      refine WL.yd (Yd.move rfl) rfl ?_
      refine WL.yd (Yd.not rfl) rfl ?_
      refine WL.nil ?_
      refine WP.thenC ?_
      refine WC.cond rfl (fun c47 => ?_) (fun c47 => ?_)
      · try simp only [decide_eq_true_eq, decide_eq_false_iff_not, Bool.not_eq_true', Bool.not_eq_false', Int.not_lt, Int.not_le, Bool.not_true, Bool.not_false] at c47
        refine WC.seq ?_
        refine WC.ofFr [(5, _), (4, _), (2, _)] ⟨rfl, rfl, rfl, trivial⟩ ?_
        refine WC.region ?_
        refine WL.so (SO.callP Try.call14 rfl (fun w hI => alive_g _ _ hI.imm)) rfl ?_
        rintro _ _ _ ⟨rfl, rfl, rfl⟩
        refine WL.yd (Yd.assign rfl) rfl ?_
        refine WL.nil ?_
        refine WP.thenC ?_
        refine WC.ret ?_
        refine WP.thenRet ?_
        refine WP.ret1 rfl rfl Try.results8 (RV.tmp rfl) (fun w hI => ⟨rfl, hI.keep⟩)
      · try simp only [decide_eq_true_eq, decide_eq_false_iff_not, Bool.not_eq_true', Bool.not_eq_false', Int.not_lt, Int.not_le, Bool.not_true, Bool.not_false] at c47
        have hmi : madeIs d = true := by simpa using c47
        have hown := made_ok hv by_ 0 hmi
        obtain rfl : n8 = d.bathers.length := by have := hP8.pl.len'; rw [hown.2] at this; exact this
        have hck := check_n hv hown.1 hown.2
        have hrn := right_n hv hown.1 hown.2
        refine WC.skip ?_
        refine WP.thenC ?_
        refine WC.seq ?_
        refine WC.ofFr [(5, _), (4, _), (2, _)] ⟨rfl, rfl, rfl, trivial⟩ ?_
        refine WC.region ?_
        refine WL.yd (Yd.loadN Try.isAgg25 Try.sizeOf25 rfl (vs := [_, _, _]) rfl (by first | exact RdN.own (k := 0) (n := 3) rfl rfl | exact (hR.dip.at k (by omega)).rdn 0 3 rfl | exact (hR.bath.at k (by omega)).rdn 0 3 rfl | exact (hP8.pl.at k (by omega)).rdn 0 2 rfl)) rfl ?_
        refine WL.yd (Yd.move rfl) rfl ?_
        refine WL.so (SO.callP Try.call15 rfl (fun w hI => Check_g d a1 _ c1 a2 _ c2 _ w hR hI.imm (madeL d by_ 0) a8 _ c8 hP8)) rfl ?_
        rintro _ _ _ ⟨rfl, rfl, rfl⟩
        refine WL.yd (Yd.move rfl) rfl ?_
        refine WL.yd (Yd.extract rfl rfl) rfl ?_
        refine WL.yd (Yd.extract rfl rfl) rfl ?_
        refine WL.yd (Yd.extract rfl rfl) rfl ?_
        refine WL.yd (Yd.assign rfl) rfl ?_
        refine WL.yd (Yd.assign rfl) rfl ?_
        refine WL.yd (Yd.assign rfl) rfl ?_
        refine WL.nil ?_
        refine WP.thenC ?_
        refine WC.seq ?_
        refine WC.ofFr [(9, _), (8, _), (7, _), (5, _), (4, _), (2, _)] ⟨rfl, rfl, rfl, rfl, rfl, rfl, trivial⟩ ?_
        refine WC.region ?_
        refine WL.yd (Yd.loadN Try.isAgg25 Try.sizeOf25 rfl (vs := [_, _, _]) rfl (by first | exact RdN.own (k := 0) (n := 3) rfl rfl | exact (hR.dip.at k (by omega)).rdn 0 3 rfl | exact (hR.bath.at k (by omega)).rdn 0 3 rfl | exact (hP8.pl.at k (by omega)).rdn 0 2 rfl)) rfl ?_
        refine WL.yd (Yd.move rfl) rfl ?_
        refine WL.so (SO.callP Try.call17 rfl (fun w hI => Right_g d a1 _ c1 a2 _ c2 _ w hR hI.imm (madeL d by_ 0) a8 _ c8 hP8)) rfl ?_
        rintro _ _ _ ⟨rfl, rfl, rfl⟩
        refine WL.yd (Yd.move rfl) rfl ?_
        refine WL.yd (Yd.extract rfl rfl) rfl ?_
        refine WL.yd (Yd.extract rfl rfl) rfl ?_
        refine WL.yd (Yd.assign rfl) rfl ?_
        refine WL.yd (Yd.assign rfl) rfl ?_
        refine WL.nil ?_
        refine WP.thenC ?_
        refine WC.seq ?_
        refine WC.seq ?_
        refine WC.ofFr [(11, _), (10, _), (9, _), (8, _), (7, _), (5, _), (4, _), (2, _)] ⟨rfl, rfl, rfl, rfl, rfl, rfl, rfl, rfl, trivial⟩ ?_
        refine WC.region ?_
        refine WL.yd (Yd.move rfl) rfl ?_
        refine WL.yd (Yd.neq rfl rfl) rfl ?_
        refine WL.know 63 (.bool false) rfl (congrArg Value.bool (by rw [hrn.1]; decide)) ?_
        refine WL.yd (Yd.move rfl) rfl ?_
        refine WL.ydg rfl (Yd.move rfl) rfl ?_
        refine WL.ydg rfl (Yd.eql rfl rfl) rfl ?_
        refine WL.ydg rfl (Yd.move rfl) rfl ?_
        refine WL.ydg rfl (Yd.eql rfl rfl) rfl ?_
        refine WL.ydg rfl (Yd.neB Try.underlying4 rfl rfl) rfl ?_
        refine WL.know 69 (.bool false) rfl (congrArg Value.bool (by rw [check_right hv hown.1 hown.2]; simp)) ?_
        refine WL.yd (Yd.pickF rfl rfl) rfl ?_
        refine WL.yd (Yd.move rfl) rfl ?_
        refine WL.ofFr [(71, _), (10, _), (9, _), (8, _), (7, _), (5, _), (4, _), (2, _)] ⟨rfl, rfl, rfl, rfl, rfl, rfl, rfl, rfl, trivial⟩ ?_
        refine WL.cutT 15 86 (.bool false) ?_ ?_
        · skip
          refine WL.ydg rfl (Yd.move rfl) rfl ?_
          refine WL.ydg rfl (Yd.neq rfl rfl) rfl ?_
          refine WL.ydg rfl (Yd.move rfl) rfl ?_
          refine WL.part 74 rfl (fun g74 => ?_) (fun g74 => ?_)
          · try simp only [decide_eq_true_eq, decide_eq_false_iff_not, Bool.not_eq_true', Bool.not_eq_false', Int.not_lt, Int.not_le, Bool.not_true, Bool.not_false] at g74
            refine WL.ydg rfl (Yd.move rfl) rfl ?_
            refine WL.ydg rfl (Yd.neq rfl rfl) rfl ?_
            refine WL.know 76 (.bool false) rfl (congrArg Value.bool (decide_eq_false (by rcases hck with ⟨h1, h2, h3, h4⟩ | ⟨h1, h2⟩ <;> omega))) ?_
            refine WL.ydg rfl (Yd.move rfl) rfl ?_
            refine WL.ydg rfl (Yd.move rfl) rfl ?_
            refine WL.ydg rfl (Yd.neq rfl rfl) rfl ?_
            refine WL.know 79 (.bool false) rfl (congrArg Value.bool (decide_eq_false (by rcases hck with ⟨h1, h2, h3, h4⟩ | ⟨h1, h2⟩ <;> omega))) ?_
            refine WL.ydg rfl (Yd.pickF rfl rfl) rfl ?_
            refine WL.ydg rfl (Yd.move rfl) rfl ?_
            refine WL.ydg rfl (Yd.move rfl) rfl ?_
            refine WL.ydg rfl (Yd.neq rfl rfl) rfl ?_
            refine WL.know 83 (.bool false) rfl (congrArg Value.bool (decide_eq_false (by rcases hck with ⟨h1, h2, h3, h4⟩ | ⟨h1, h2⟩ <;> omega))) ?_
            refine WL.ydg rfl (Yd.pickF rfl rfl) rfl ?_
            refine WL.ydg rfl (Yd.pickT rfl rfl) rfl ?_
            refine WL.yd (Yd.pickF rfl rfl) rfl ?_
            refine WL.nil ?_
            exact WP.cutEnd ⟨rfl, rfl, rfl, rfl, rfl, rfl, rfl, rfl, rfl, trivial⟩
          · try simp only [decide_eq_true_eq, decide_eq_false_iff_not, Bool.not_eq_true', Bool.not_eq_false', Int.not_lt, Int.not_le, Bool.not_true, Bool.not_false] at g74
            refine WL.skip rfl rfl ?_
            refine WL.skip rfl rfl ?_
            refine WL.skip rfl rfl ?_
            refine WL.skipU rfl rfl ?_
            refine WL.skipU rfl rfl ?_
            refine WL.skip rfl rfl ?_
            refine WL.skip rfl rfl ?_
            refine WL.skipU rfl rfl ?_
            refine WL.skipU rfl rfl ?_
            refine WL.skip rfl rfl ?_
            refine WL.ydg rfl (Yd.pickF rfl rfl) rfl ?_
            refine WL.yd (Yd.pickF rfl rfl) rfl ?_
            refine WL.nil ?_
            exact WP.cutEnd ⟨rfl, rfl, rfl, rfl, rfl, rfl, rfl, rfl, rfl, trivial⟩
        · skip
          refine WL.yd (Yd.move rfl) rfl ?_
          refine WL.ofFr [(87, _), (10, _), (9, _), (8, _), (7, _), (5, _), (4, _), (2, _)] ⟨rfl, rfl, rfl, rfl, rfl, rfl, rfl, rfl, trivial⟩ ?_
          refine WL.cutT 13 100 (.bool false) ?_ ?_
          · skip
            refine WL.ydg rfl (Yd.move rfl) rfl ?_
            refine WL.ydg rfl (Yd.eql rfl rfl) rfl ?_
            refine WL.ydg rfl (Yd.move rfl) rfl ?_
            refine WL.part 90 rfl (fun g90 => ?_) (fun g90 => ?_)
            · try simp only [decide_eq_true_eq, decide_eq_false_iff_not, Bool.not_eq_true', Bool.not_eq_false', Int.not_lt, Int.not_le, Bool.not_true, Bool.not_false] at g90
              refine WL.ydg rfl (Yd.move rfl) rfl ?_
              refine WL.ydg rfl (Yd.lss rfl rfl) rfl ?_
              refine WL.know 92 (.bool false) rfl (congrArg Value.bool (decide_eq_false (by rcases hck with ⟨h1, h2, h3, h4⟩ | ⟨h1, k, h2, h3, h4⟩ <;> omega))) ?_
              refine WL.ydg rfl (Yd.move rfl) rfl ?_
              refine WL.ydg rfl (Yd.move rfl) rfl ?_
              refine WL.ydg rfl (Yd.move rfl) rfl ?_
              refine WL.ydg rfl (Yd.lenS rfl Try.underlying26 rfl) rfl ?_
              refine WL.ydg rfl (Yd.geq rfl rfl) rfl ?_
              refine WL.know 97 (.bool false) rfl (congrArg Value.bool (decide_eq_false (by rcases hck with ⟨h1, h2, h3, h4⟩ | ⟨h1, k, h2, h3, h4⟩ <;> omega))) ?_
              refine WL.ydg rfl (Yd.pickF rfl rfl) rfl ?_
              refine WL.ydg rfl (Yd.pickT rfl rfl) rfl ?_
              refine WL.yd (Yd.pickF rfl rfl) rfl ?_
              refine WL.nil ?_
              exact WP.cutEnd ⟨rfl, rfl, rfl, rfl, rfl, rfl, rfl, rfl, rfl, trivial⟩
            · try simp only [decide_eq_true_eq, decide_eq_false_iff_not, Bool.not_eq_true', Bool.not_eq_false', Int.not_lt, Int.not_le, Bool.not_true, Bool.not_false] at g90
              refine WL.skip rfl rfl ?_
              refine WL.skip rfl rfl ?_
              refine WL.skip rfl rfl ?_
              refine WL.skipU rfl rfl ?_
              refine WL.skipU rfl rfl ?_
              refine WL.skipU rfl rfl ?_
              refine WL.skipU rfl rfl ?_
              refine WL.skip rfl rfl ?_
              refine WL.ydg rfl (Yd.pickF rfl rfl) rfl ?_
              refine WL.yd (Yd.pickF rfl rfl) rfl ?_
              refine WL.nil ?_
              exact WP.cutEnd ⟨rfl, rfl, rfl, rfl, rfl, rfl, rfl, rfl, rfl, trivial⟩
          · skip
            refine WL.nil ?_
            refine WP.thenC ?_
            refine WC.condF rfl ?_
            refine WC.skip ?_
            refine WP.thenC ?_
            refine WC.seq ?_
            refine WC.ofFr [(10, _), (9, _), (8, _), (7, _), (5, _), (4, _), (2, _)] ⟨rfl, rfl, rfl, rfl, rfl, rfl, rfl, trivial⟩ ?_
            refine WC.region ?_
            refine WL.yd (Yd.assign rfl) rfl ?_
            refine WL.yd (Yd.assign rfl) rfl ?_
            refine WL.yd (Yd.assign rfl) rfl ?_
            refine WL.yd (Yd.assign rfl) rfl ?_
            refine WL.nil ?_
            refine WP.thenC ?_
            refine WC.seq ?_
            refine WC.seq ?_
            refine WC.ofFr [(15, _), (14, _), (13, _), (12, _), (10, _), (9, _), (8, _), (7, _), (5, _), (4, _), (2, _)] ⟨rfl, rfl, rfl, rfl, rfl, rfl, rfl, rfl, rfl, rfl, rfl, trivial⟩ ?_
            refine WC.region ?_
            refine WL.yd (Yd.fieldAddr FA25_1 rfl) rfl ?_
            refine WL.yd (Yd.load1 Try.isAgg22 rfl (by first | exact Rd.own (k := 0) rfl rfl | exact ((hR.bath.at k (by omega)).rd 2 rfl) | exact ((hR.dip.at (gt (madeL d by_ 0) k).dipper.toNat (by omega)).rd 2 rfl))) rfl ?_
            refine WL.yd (Yd.lenS rfl Try.underlying22 rfl) rfl ?_
            refine WL.yd (Yd.move rfl) rfl ?_
            refine WL.nil ?_
            refine WP.thenC ?_
            refine WC.block ?_
            refine WC.loop (fun y : Nat × Option Ow × Option Ow => [(2, pt b2), (5, .slice a8 d.bathers.length c8), (7, it (CheckR d (madeL d by_ 0)).1), (8, it (CheckR d (madeL d by_ 0)).2.1), (9, it (CheckR d (madeL d by_ 0)).2.2), (10, it (RightR d (madeL d by_ 0)).1), (12, owV y.2.1 y.1), (13, owV y.2.2 y.1), (14, .slice none 0 0), (15, .slice none 0 0), (102, .slice a1 d.dippers.length c1), (103, nt d.dippers.length), (104, nt y.1)]) (fun y => (b2, .cells (List.toArray [it d.hours, .slice a1 d.dippers.length c1, .slice a2 d.bathers.length c2]) 25 (0, 0)) :: owH y.2.1 3 (hC d false y.1) (owH y.2.2 3 (hC d true y.1) [])) (fun _ => D6) (fun y => y.1 ≤ d.dippers.length ∧ owP w y.2.1 y.1 1 ∧ owP w y.2.2 y.1 1) (fun y => d.dippers.length - y.1) (0, none, none) ⟨by omega, rfl, rfl⟩ (fun a w h => at_less h ⟨rfl, rfl, rfl, rfl, rfl, rfl, rfl, rfl, rfl, rfl, rfl, rfl, rfl, trivial⟩ (fun e he => List.mem_append_left [_] he) (fun hn => by simp [owH] at hn ⊢)) ?_
            rintro ⟨k, o1, o2⟩ ⟨hk, ho1, ho2⟩
            dsimp only at hk ho1 ho2
            refine WC.seq ?_
            refine WC.ofFr [(2, _), (5, _), (7, _), (8, _), (9, _), (10, _), (12, _), (13, _), (14, _), (15, _), (102, _), (103, _), (104, _)] ⟨rfl, rfl, rfl, rfl, rfl, rfl, rfl, rfl, rfl, rfl, rfl, rfl, rfl, trivial⟩ ?_
            refine WC.region ?_
            refine WL.yd (Yd.lss rfl rfl) rfl ?_
            refine WL.nil ?_
            refine WP.thenC ?_
            refine WC.seq ?_
            refine WC.cond rfl (fun c105 => ?_) (fun c105 => ?_)
            · try simp only [decide_eq_true_eq, decide_eq_false_iff_not, Bool.not_eq_true', Bool.not_eq_false', Int.not_lt, Int.not_le, Bool.not_true, Bool.not_false] at c105
              refine WC.skip ?_
              refine WP.thenC ?_
              refine WC.seq ?_
              refine WC.block ?_
              refine WC.seq ?_
              refine WC.ofFr [(2, _), (5, _), (7, _), (8, _), (9, _), (10, _), (12, _), (13, _), (14, _), (15, _), (102, _), (103, _), (104, _)] ⟨rfl, rfl, rfl, rfl, rfl, rfl, rfl, rfl, rfl, rfl, rfl, rfl, rfl, trivial⟩ ?_
              refine WC.region ?_
              refine WL.yd (Yd.indexS Try.underlying22 Try.sizeOf53 rfl rfl (by omega) (by omega) (by first | exact hR.dip.addr k (by omega) | exact hR.bath.addr k (by omega) | exact hP8.pl.addr k (by omega) | exact hR.dip.addr (gt (madeL d by_ 0) k).dipper.toNat (by omega))) rfl ?_
              refine WL.yd (Yd.loadN Try.isAgg53 Try.sizeOf53 rfl (vs := [_, _, _]) rfl (by first | exact RdN.own (k := 0) (n := 3) rfl rfl | exact (hR.dip.at k (by omega)).rdn 0 3 rfl | exact (hR.bath.at k (by omega)).rdn 0 3 rfl | exact (hP8.pl.at k (by omega)).rdn 0 2 rfl)) rfl ?_
              refine WL.so (SO.alloc Try.zeroValue53 rfl) rfl ?_
              rintro _ _ _ ⟨b17, hb17, rfl, rfl, rfl⟩ -- NEW
              refine WL.so (SO.store 0 rfl Try.sizeOf53 rfl rfl rfl rfl (Nat.le_of_ble_eq_true rfl) (oneB_spec rfl)) rfl ?_
              rintro _ _ _ ⟨rfl, rfl, rfl⟩
              refine WL.nil ?_
              refine WP.thenC ?_
              refine WC.ofFr [(17, _), (2, _), (5, _), (7, _), (8, _), (9, _), (10, _), (12, _), (13, _), (14, _), (15, _), (102, _), (103, _), (104, _)] ⟨rfl, rfl, rfl, rfl, rfl, rfl, rfl, rfl, rfl, rfl, rfl, rfl, rfl, rfl, trivial⟩ ?_
              refine WC.drawH [_] (by kernel_rfl) (fun _ hI => hI.pick 0 rfl) ?_
              refine WH.yd (i := 0) (by kernel_rfl) (fun _ o v c a w _ h => (QuietPanic.blk (QuietPanic.then (QuietPanic.then (QuietPanic.blk (QuietPanic.then QuietPanic.body))))) c o.dst v a w h) rfl (Yd.move rfl) rfl ?_
              refine WH.yd (i := 1) (by kernel_rfl) (fun _ o v c a w _ h => (QuietPanic.blk (QuietPanic.then (QuietPanic.then (QuietPanic.blk (QuietPanic.then QuietPanic.body))))) c o.dst v a w h) rfl (Yd.fieldAddr FA53_0 rfl) rfl ?_
              refine WH.yd (i := 2) (by kernel_rfl) (fun _ o v c a w _ h => (QuietPanic.blk (QuietPanic.then (QuietPanic.then (QuietPanic.blk (QuietPanic.then QuietPanic.body))))) c o.dst v a w h) rfl (Yd.fieldAddr FA35_0 rfl) rfl ?_
              refine WH.yd (i := 3) (by kernel_rfl) (fun _ o v c a w _ h => (QuietPanic.blk (QuietPanic.then (QuietPanic.then (QuietPanic.blk (QuietPanic.then QuietPanic.body))))) c o.dst v a w h) rfl (Yd.load1 Try.isAgg3 rfl (by first | exact Rd.own (k := 0) rfl rfl | exact Rd.own (k := 1) rfl rfl | exact ((hR.bath.at k (by omega)).rd 2 rfl) | exact ((hR.dip.at (gt (madeL d by_ 0) k).dipper.toNat (by omega)).rd 2 rfl))) rfl ?_
              refine WH.yd (i := 6) (by kernel_rfl) (fun _ o v c a w _ h => (QuietPanic.blk (QuietPanic.then (QuietPanic.then (QuietPanic.blk (QuietPanic.then QuietPanic.body))))) c o.dst v a w h) rfl (Yd.move rfl) rfl ?_
              refine WH.yd (i := 7) (by kernel_rfl) (fun _ o v c a w _ h => (QuietPanic.blk (QuietPanic.then (QuietPanic.then (QuietPanic.blk (QuietPanic.then QuietPanic.body))))) c o.dst v a w h) rfl (Yd.fieldAddr FA53_0 rfl) rfl ?_
              refine WH.yd (i := 8) (by kernel_rfl) (fun _ o v c a w _ h => (QuietPanic.blk (QuietPanic.then (QuietPanic.then (QuietPanic.blk (QuietPanic.then QuietPanic.body))))) c o.dst v a w h) rfl (Yd.fieldAddr FA35_1 rfl) rfl ?_
              refine WH.yd (i := 9) (by kernel_rfl) (fun _ o v c a w _ h => (QuietPanic.blk (QuietPanic.then (QuietPanic.then (QuietPanic.blk (QuietPanic.then QuietPanic.body))))) c o.dst v a w h) rfl (Yd.load1 Try.isAgg3 rfl (by first | exact Rd.own (k := 0) rfl rfl | exact Rd.own (k := 1) rfl rfl | exact ((hR.bath.at k (by omega)).rd 2 rfl) | exact ((hR.dip.at (gt (madeL d by_ 0) k).dipper.toNat (by omega)).rd 2 rfl))) rfl ?_
              refine WH.two (i := 4) (j := 10) (by kernel_rfl) ?_ ?_
              · refine WHo.so rfl (SO.buildSlice Try.underlying51 Try.sizeOf3 Try.zeroValue3 rfl rfl rfl rfl (cs := [_]) rfl) rfl ?_
                rintro _ _ _ ⟨b112, hb112, rfl, rfl, rfl⟩ -- NEW
                refine ⟨(fun _ hI => hI.pick 1 rfl), ?_⟩
                refine WH.two (i := 5) (j := 10) (by kernel_rfl) ?_ ?_
                · refine WHo.so rfl (SO.appendOw (o := o1) (len := k) (n := 1) (xs := hC d false k) (size := 1) [_] [_, _] _ rfl rfl Try.underlying51 Try.sizeOf3 Try.typeInfo3 Try.zeroValue3 rfl rfl rfl rfl ⟨rfl, .inr ⟨_, _, _, rfl, RdN.own (k := 0) (n := 1) rfl rfl⟩⟩ (oneB_spec rfl) ho1 (hC_len _ _ _) (by omega) (by show (2 * (_ + _) + 1000) * 8 ≤ 2 ^ 48; omega) (by omega)) rfl ?_
                  rintro _ _ _ ⟨u1, hu1, rfl, rfl, rfl⟩
                  refine ⟨(fun _ hI => hI.pick 0 rfl), ?_⟩
                  refine WH.one (i := 10) (by kernel_rfl) (WHo.so rfl (SO.buildSlice Try.underlying51 Try.sizeOf3 Try.zeroValue3 rfl rfl rfl rfl (cs := [_]) rfl) rfl ?_)
                  rintro _ _ _ ⟨b118, hb118, rfl, rfl, rfl⟩ -- NEW
                  refine ⟨(fun _ hI => hI.pick 1 rfl), ?_⟩
                  refine WH.one (i := 11) (by kernel_rfl) (WHo.so rfl (SO.appendOw (o := o2) (len := k) (n := 1) (xs := hC d true k) (size := 1) [_] [_, _, _] [] rfl rfl Try.underlying51 Try.sizeOf3 Try.typeInfo3 Try.zeroValue3 rfl rfl rfl rfl ⟨rfl, .inr ⟨_, _, _, rfl, RdN.own (k := 0) (n := 1) rfl rfl⟩⟩ (oneB_spec rfl) ho2 (hC_len _ _ _) (by omega) (by show (2 * (_ + _) + 1000) * 8 ≤ 2 ^ 48; omega) (by omega)) rfl ?_)
                  rintro _ _ _ ⟨u2, hu2, rfl, rfl, rfl⟩
                  refine ⟨(fun _ hI => hI.pick 0 rfl), ?_⟩
                  refine WH.yd (i := 12) (by kernel_rfl) (fun _ o v c a w _ h => (QuietPanic.blk (QuietPanic.then (QuietPanic.then (QuietPanic.blk (QuietPanic.then QuietPanic.body))))) c o.dst v a w h) rfl (Yd.assign rfl) rfl ?_
                  refine WH.yd (i := 13) (by kernel_rfl) (fun _ o v c a w _ h => (QuietPanic.blk (QuietPanic.then (QuietPanic.then (QuietPanic.blk (QuietPanic.then QuietPanic.body))))) c o.dst v a w h) rfl (Yd.assign rfl) rfl ?_
                  refine WH.nil (by kernel_rfl) ?_
                  refine WP.blkNormal ?_
                  refine WP.thenC ?_
                  refine WC.ofFr [(13, _), (12, _), (2, _), (5, _), (7, _), (8, _), (9, _), (10, _), (14, _), (15, _), (102, _), (103, _), (104, _)] ⟨rfl, rfl, rfl, rfl, rfl, rfl, rfl, rfl, rfl, rfl, rfl, rfl, rfl, trivial⟩ ?_
                  refine WC.region ?_
                  refine WL.yd (Yd.add rfl rfl (wr64 ⟨by omega, by omega⟩)) rfl ?_
                  refine WL.yd (Yd.move rfl) rfl ?_
                  refine WL.nil ?_
                  refine WP.again (⟨k + 1, some u1, some u2⟩ : Nat × Option Ow × Option Ow) ⟨by simp only; omega, hu1, hu2⟩ (by simp only; omega) (fun aa ww h => ?_)
                  show At _ [(2, pt b2), (5, .slice a8 d.bathers.length c8), (7, it (CheckR d (madeL d by_ 0)).1), (8, it (CheckR d (madeL d by_ 0)).2.1), (9, it (CheckR d (madeL d by_ 0)).2.2), (10, it (RightR d (madeL d by_ 0)).1), (12, owV (some u1) (k + 1)), (13, owV (some u2) (k + 1)), (14, .slice none 0 0), (15, .slice none 0 0), (102, .slice a1 d.dippers.length c1), (103, nt d.dippers.length), (104, nt (k + 1))] D6 ((b2, .cells (List.toArray [it d.hours, .slice a1 d.dippers.length c1, .slice a2 d.bathers.length c2]) 25 (0, 0)) :: owH (some u1) 3 (hC d false (k + 1)) (owH (some u2) 3 (hC d true (k + 1)) [])) aa ww
                  rw [hC_succ, hC_succ]
                  exact at_less h ⟨rfl, rfl, rfl, rfl, rfl, rfl, rfl, rfl, rfl, rfl, rfl, rfl, rfl, trivial⟩ (fun _ h => List.mem_cons_of_mem _ h) (fun h => (List.nodup_cons.1 h).2)
                · refine WHo.so rfl (SO.buildSlice Try.underlying51 Try.sizeOf3 Try.zeroValue3 rfl rfl rfl rfl (cs := [_]) rfl) rfl ?_
                  rintro _ _ _ ⟨b118, hb118, rfl, rfl, rfl⟩ -- NEW
                  refine ⟨(fun _ hI => hI.pick 2 rfl), ?_⟩
                  refine WH.one (i := 5) (by kernel_rfl) (WHo.so rfl (SO.appendOw (o := o1) (len := k) (n := 1) (xs := hC d false k) (size := 1) [] [_, _, _, _] _ rfl rfl Try.underlying51 Try.sizeOf3 Try.typeInfo3 Try.zeroValue3 rfl rfl rfl rfl ⟨rfl, .inr ⟨_, _, _, rfl, RdN.own (k := 1) (n := 1) rfl rfl⟩⟩ (oneB_spec rfl) ho1 (hC_len _ _ _) (by omega) (by show (2 * (_ + _) + 1000) * 8 ≤ 2 ^ 48; omega) (by omega)) rfl ?_)
                  rintro _ _ _ ⟨u1, hu1, rfl, rfl, rfl⟩
                  refine ⟨(fun _ hI => hI.pick 2 rfl), ?_⟩
                  refine WH.one (i := 11) (by kernel_rfl) (WHo.so rfl (SO.appendOw (o := o2) (len := k) (n := 1) (xs := hC d true k) (size := 1) [_, _] [_, _, _] [] rfl rfl Try.underlying51 Try.sizeOf3 Try.typeInfo3 Try.zeroValue3 rfl rfl rfl rfl ⟨rfl, .inr ⟨_, _, _, rfl, RdN.own (k := 0) (n := 1) rfl rfl⟩⟩ (oneB_spec rfl) ho2 (hC_len _ _ _) (by omega) (by show (2 * (_ + _) + 1000) * 8 ≤ 2 ^ 48; omega) (by omega)) rfl ?_)
                  rintro _ _ _ ⟨u2, hu2, rfl, rfl, rfl⟩
                  refine ⟨(fun _ hI => hI.pick 0 rfl), ?_⟩
                  refine WH.yd (i := 12) (by kernel_rfl) (fun _ o v c a w _ h => (QuietPanic.blk (QuietPanic.then (QuietPanic.then (QuietPanic.blk (QuietPanic.then QuietPanic.body))))) c o.dst v a w h) rfl (Yd.assign rfl) rfl ?_
                  refine WH.yd (i := 13) (by kernel_rfl) (fun _ o v c a w _ h => (QuietPanic.blk (QuietPanic.then (QuietPanic.then (QuietPanic.blk (QuietPanic.then QuietPanic.body))))) c o.dst v a w h) rfl (Yd.assign rfl) rfl ?_
                  refine WH.nil (by kernel_rfl) ?_
                  refine WP.blkNormal ?_
                  refine WP.thenC ?_
                  refine WC.ofFr [(13, _), (12, _), (2, _), (5, _), (7, _), (8, _), (9, _), (10, _), (14, _), (15, _), (102, _), (103, _), (104, _)] ⟨rfl, rfl, rfl, rfl, rfl, rfl, rfl, rfl, rfl, rfl, rfl, rfl, rfl, trivial⟩ ?_
                  refine WC.region ?_
                  refine WL.yd (Yd.add rfl rfl (wr64 ⟨by omega, by omega⟩)) rfl ?_
                  refine WL.yd (Yd.move rfl) rfl ?_
                  refine WL.nil ?_
                  refine WP.again (⟨k + 1, some u1, some u2⟩ : Nat × Option Ow × Option Ow) ⟨by simp only; omega, hu1, hu2⟩ (by simp only; omega) (fun aa ww h => ?_)
                  show At _ [(2, pt b2), (5, .slice a8 d.bathers.length c8), (7, it (CheckR d (madeL d by_ 0)).1), (8, it (CheckR d (madeL d by_ 0)).2.1), (9, it (CheckR d (madeL d by_ 0)).2.2), (10, it (RightR d (madeL d by_ 0)).1), (12, owV (some u1) (k + 1)), (13, owV (some u2) (k + 1)), (14, .slice none 0 0), (15, .slice none 0 0), (102, .slice a1 d.dippers.length c1), (103, nt d.dippers.length), (104, nt (k + 1))] D6 ((b2, .cells (List.toArray [it d.hours, .slice a1 d.dippers.length c1, .slice a2 d.bathers.length c2]) 25 (0, 0)) :: owH (some u1) 3 (hC d false (k + 1)) (owH (some u2) 3 (hC d true (k + 1)) [])) aa ww
                  rw [hC_succ, hC_succ]
                  exact at_less h ⟨rfl, rfl, rfl, rfl, rfl, rfl, rfl, rfl, rfl, rfl, rfl, rfl, rfl, trivial⟩ (fun _ h => List.mem_cons_of_mem _ h) (fun h => (List.nodup_cons.1 h).2)
              · refine WHo.so rfl (SO.buildSlice Try.underlying51 Try.sizeOf3 Try.zeroValue3 rfl rfl rfl rfl (cs := [_]) rfl) rfl ?_
                rintro _ _ _ ⟨b118, hb118, rfl, rfl, rfl⟩ -- NEW
                refine ⟨(fun _ hI => hI.pick 1 rfl), ?_⟩
                refine WH.one (i := 4) (by kernel_rfl) (WHo.so rfl (SO.buildSlice Try.underlying51 Try.sizeOf3 Try.zeroValue3 rfl rfl rfl rfl (cs := [_]) rfl) rfl ?_)
                rintro _ _ _ ⟨b112, hb112, rfl, rfl, rfl⟩ -- NEW
                refine ⟨(fun _ hI => hI.pick 2 rfl), ?_⟩
                refine WH.one (i := 5) (by kernel_rfl) (WHo.so rfl (SO.appendOw (o := o1) (len := k) (n := 1) (xs := hC d false k) (size := 1) [_] [_, _, _] _ rfl rfl Try.underlying51 Try.sizeOf3 Try.typeInfo3 Try.zeroValue3 rfl rfl rfl rfl ⟨rfl, .inr ⟨_, _, _, rfl, RdN.own (k := 0) (n := 1) rfl rfl⟩⟩ (oneB_spec rfl) ho1 (hC_len _ _ _) (by omega) (by show (2 * (_ + _) + 1000) * 8 ≤ 2 ^ 48; omega) (by omega)) rfl ?_)
                rintro _ _ _ ⟨u1, hu1, rfl, rfl, rfl⟩
                refine ⟨(fun _ hI => hI.pick 1 rfl), ?_⟩
                refine WH.one (i := 11) (by kernel_rfl) (WHo.so rfl (SO.appendOw (o := o2) (len := k) (n := 1) (xs := hC d true k) (size := 1) [_] [_, _, _] [] rfl rfl Try.underlying51 Try.sizeOf3 Try.typeInfo3 Try.zeroValue3 rfl rfl rfl rfl ⟨rfl, .inr ⟨_, _, _, rfl, RdN.own (k := 0) (n := 1) rfl rfl⟩⟩ (oneB_spec rfl) ho2 (hC_len _ _ _) (by omega) (by show (2 * (_ + _) + 1000) * 8 ≤ 2 ^ 48; omega) (by omega)) rfl ?_)
                rintro _ _ _ ⟨u2, hu2, rfl, rfl, rfl⟩
                refine ⟨(fun _ hI => hI.pick 0 rfl), ?_⟩
                refine WH.yd (i := 12) (by kernel_rfl) (fun _ o v c a w _ h => (QuietPanic.blk (QuietPanic.then (QuietPanic.then (QuietPanic.blk (QuietPanic.then QuietPanic.body))))) c o.dst v a w h) rfl (Yd.assign rfl) rfl ?_
                refine WH.yd (i := 13) (by kernel_rfl) (fun _ o v c a w _ h => (QuietPanic.blk (QuietPanic.then (QuietPanic.then (QuietPanic.blk (QuietPanic.then QuietPanic.body))))) c o.dst v a w h) rfl (Yd.assign rfl) rfl ?_
                refine WH.nil (by kernel_rfl) ?_
                refine WP.blkNormal ?_
                refine WP.thenC ?_
                refine WC.ofFr [(13, _), (12, _), (2, _), (5, _), (7, _), (8, _), (9, _), (10, _), (14, _), (15, _), (102, _), (103, _), (104, _)] ⟨rfl, rfl, rfl, rfl, rfl, rfl, rfl, rfl, rfl, rfl, rfl, rfl, rfl, trivial⟩ ?_
                refine WC.region ?_
                refine WL.yd (Yd.add rfl rfl (wr64 ⟨by omega, by omega⟩)) rfl ?_
                refine WL.yd (Yd.move rfl) rfl ?_
                refine WL.nil ?_
                refine WP.again (⟨k + 1, some u1, some u2⟩ : Nat × Option Ow × Option Ow) ⟨by simp only; omega, hu1, hu2⟩ (by simp only; omega) (fun aa ww h => ?_)
                show At _ [(2, pt b2), (5, .slice a8 d.bathers.length c8), (7, it (CheckR d (madeL d by_ 0)).1), (8, it (CheckR d (madeL d by_ 0)).2.1), (9, it (CheckR d (madeL d by_ 0)).2.2), (10, it (RightR d (madeL d by_ 0)).1), (12, owV (some u1) (k + 1)), (13, owV (some u2) (k + 1)), (14, .slice none 0 0), (15, .slice none 0 0), (102, .slice a1 d.dippers.length c1), (103, nt d.dippers.length), (104, nt (k + 1))] D6 ((b2, .cells (List.toArray [it d.hours, .slice a1 d.dippers.length c1, .slice a2 d.bathers.length c2]) 25 (0, 0)) :: owH (some u1) 3 (hC d false (k + 1)) (owH (some u2) 3 (hC d true (k + 1)) [])) aa ww
                rw [hC_succ, hC_succ]
                exact at_less h ⟨rfl, rfl, rfl, rfl, rfl, rfl, rfl, rfl, rfl, rfl, rfl, rfl, rfl, trivial⟩ (fun _ h => List.mem_cons_of_mem _ h) (fun h => (List.nodup_cons.1 h).2)
            · try simp only [decide_eq_true_eq, decide_eq_false_iff_not, Bool.not_eq_true', Bool.not_eq_false', Int.not_lt, Int.not_le, Bool.not_true, Bool.not_false] at c105
              refine WC.exit ?_
              refine WP.thenExit ?_
              refine WP.thenExit ?_
              refine WP.blkHit ?_
              refine WP.thenC ?_
              refine WC.seq ?_
              refine WC.seq ?_
              obtain rfl : k = d.dippers.length := by omega
              refine WC.know 12 (.slice (owAt o1) d.dippers.length (owCp o1 d.dippers.length)) rfl (owV_owL (owL_of (by exact ho1))) ?_
              refine WC.freezeOw (f := fun x => [it x]) (m := 1) (fun _ => rfl) [_] (owH o2 3 (hC d true d.dippers.length) []) o1 3 (hTo d false d.dippers.length) rfl (by rw [hTo_len]; exact ho1) rfl (fun Da hXDa hSDa => ?_)
              replace hR := hR.ext hXDa
              replace hP8 := hP8.ext hXDa
              rw [hTo_len] at hSDa
              generalize owAt o1 = a11 at hSDa ⊢
              generalize owCp o1 d.dippers.length = c11
              refine WC.know 13 (.slice (owAt o2) d.dippers.length (owCp o2 d.dippers.length)) rfl (owV_owL (owL_of (by exact ho2))) ?_
              refine WC.freezeOw (f := fun x => [it x]) (m := 1) (fun _ => rfl) [_] ([]) o2 3 (hTo d true d.dippers.length) rfl (by rw [hTo_len]; exact ho2) rfl (fun Db hXDb hSDb => ?_)
              replace hR := hR.ext hXDb
              replace hP8 := hP8.ext hXDb
              rw [hTo_len] at hSDb
              generalize owAt o2 = a12 at hSDb ⊢
              generalize owCp o2 d.dippers.length = c12
              replace hSDa := hSDa.ext hXDb
              refine WC.ofFr [(2, _), (5, _), (7, _), (8, _), (9, _), (10, _), (12, _), (13, _), (14, _), (15, _)] ⟨rfl, rfl, rfl, rfl, rfl, rfl, rfl, rfl, rfl, rfl, trivial⟩ ?_
              refine WC.region ?_
              refine WL.yd (Yd.fieldAddr FA25_2 rfl) rfl ?_
              refine WL.yd (Yd.load1 Try.isAgg23 rfl (by first | exact Rd.own (k := 0) rfl rfl | exact ((hR.bath.at k (by omega)).rd 2 rfl) | exact ((hR.dip.at (gt (madeL d by_ 0) k).dipper.toNat (by omega)).rd 2 rfl))) rfl ?_
              refine WL.yd (Yd.lenS rfl Try.underlying23 rfl) rfl ?_
              refine WL.yd (Yd.move rfl) rfl ?_
              refine WL.nil ?_
              refine WP.thenC ?_
              refine WC.block ?_
              refine WC.loop (fun y : Nat × Option Ow × Option Ow => [(2, pt b2), (5, .slice a8 d.bathers.length c8), (7, it (CheckR d (madeL d by_ 0)).1), (8, it (CheckR d (madeL d by_ 0)).2.1), (9, it (CheckR d (madeL d by_ 0)).2.2), (10, it (RightR d (madeL d by_ 0)).1), (12, .slice a11 d.dippers.length c11), (13, .slice a12 d.dippers.length c12), (14, owV y.2.1 y.1), (15, owV y.2.2 y.1), (122, .slice a2 d.bathers.length c2), (123, nt d.bathers.length), (124, nt y.1)]) (fun y => (b2, .cells (List.toArray [it d.hours, .slice a1 d.dippers.length c1, .slice a2 d.bathers.length c2]) 25 (0, 0)) :: owH y.2.1 3 (nC d false y.1) (owH y.2.2 3 (nC d true y.1) [])) (fun _ => Db) (fun y => y.1 ≤ d.bathers.length ∧ owP w y.2.1 y.1 1 ∧ owP w y.2.2 y.1 1) (fun y => d.bathers.length - y.1) (0, none, none) ⟨by omega, rfl, rfl⟩ (fun a w h => at_fr h ⟨rfl, rfl, rfl, rfl, rfl, rfl, rfl, rfl, rfl, rfl, rfl, rfl, rfl, trivial⟩) ?_
              rintro ⟨k, o1, o2⟩ ⟨hk, ho1, ho2⟩
              dsimp only at hk ho1 ho2
              refine WC.seq ?_
              refine WC.ofFr [(2, _), (5, _), (7, _), (8, _), (9, _), (10, _), (12, _), (13, _), (14, _), (15, _), (122, _), (123, _), (124, _)] ⟨rfl, rfl, rfl, rfl, rfl, rfl, rfl, rfl, rfl, rfl, rfl, rfl, rfl, trivial⟩ ?_
              refine WC.region ?_
              refine WL.yd (Yd.lss rfl rfl) rfl ?_
              refine WL.nil ?_
              refine WP.thenC ?_
              refine WC.seq ?_
              refine WC.cond rfl (fun c125 => ?_) (fun c125 => ?_)
              · try simp only [decide_eq_true_eq, decide_eq_false_iff_not, Bool.not_eq_true', Bool.not_eq_false', Int.not_lt, Int.not_le, Bool.not_true, Bool.not_false] at c125
                refine WC.skip ?_
                refine WP.thenC ?_
                refine WC.seq ?_
                refine WC.block ?_
                refine WC.seq ?_
                refine WC.ofFr [(2, _), (5, _), (7, _), (8, _), (9, _), (10, _), (12, _), (13, _), (14, _), (15, _), (122, _), (123, _), (124, _)] ⟨rfl, rfl, rfl, rfl, rfl, rfl, rfl, rfl, rfl, rfl, rfl, rfl, rfl, trivial⟩ ?_
                refine WC.region ?_
                refine WL.yd (Yd.indexS Try.underlying23 Try.sizeOf55 rfl rfl (by omega) (by omega) (by first | exact hR.dip.addr k (by omega) | exact hR.bath.addr k (by omega) | exact hP8.pl.addr k (by omega) | exact hR.dip.addr (gt (madeL d by_ 0) k).dipper.toNat (by omega))) rfl ?_
                refine WL.yd (Yd.loadN Try.isAgg55 Try.sizeOf55 rfl (vs := [_, _, _]) rfl (by first | exact RdN.own (k := 0) (n := 3) rfl rfl | exact (hR.dip.at k (by omega)).rdn 0 3 rfl | exact (hR.bath.at k (by omega)).rdn 0 3 rfl | exact (hP8.pl.at k (by omega)).rdn 0 2 rfl)) rfl ?_
                refine WL.so (SO.alloc Try.zeroValue55 rfl) rfl ?_
                rintro _ _ _ ⟨b19, hb19, rfl, rfl, rfl⟩ -- NEW
                refine WL.so (SO.store 0 rfl Try.sizeOf55 rfl rfl rfl rfl (Nat.le_of_ble_eq_true rfl) (oneB_spec rfl)) rfl ?_
                rintro _ _ _ ⟨rfl, rfl, rfl⟩
                refine WL.nil ?_
                refine WP.thenC ?_
                refine WC.ofFr [(19, _), (2, _), (5, _), (7, _), (8, _), (9, _), (10, _), (12, _), (13, _), (14, _), (15, _), (122, _), (123, _), (124, _)] ⟨rfl, rfl, rfl, rfl, rfl, rfl, rfl, rfl, rfl, rfl, rfl, rfl, rfl, rfl, trivial⟩ ?_
                refine WC.drawH [_] (by kernel_rfl) (fun _ hI => hI.pick 0 rfl) ?_
                refine WH.yd (i := 0) (by kernel_rfl) (fun _ o v c a w _ h => (QuietPanic.blk (QuietPanic.then (QuietPanic.then (QuietPanic.blk (QuietPanic.then QuietPanic.body))))) c o.dst v a w h) rfl (Yd.move rfl) rfl ?_
                refine WH.yd (i := 1) (by kernel_rfl) (fun _ o v c a w _ h => (QuietPanic.blk (QuietPanic.then (QuietPanic.then (QuietPanic.blk (QuietPanic.then QuietPanic.body))))) c o.dst v a w h) rfl (Yd.fieldAddr FA55_0 rfl) rfl ?_
                refine WH.yd (i := 2) (by kernel_rfl) (fun _ o v c a w _ h => (QuietPanic.blk (QuietPanic.then (QuietPanic.then (QuietPanic.blk (QuietPanic.then QuietPanic.body))))) c o.dst v a w h) rfl (Yd.fieldAddr FA35_1 rfl) rfl ?_
                refine WH.yd (i := 3) (by kernel_rfl) (fun _ o v c a w _ h => (QuietPanic.blk (QuietPanic.then (QuietPanic.then (QuietPanic.blk (QuietPanic.then QuietPanic.body))))) c o.dst v a w h) rfl (Yd.load1 Try.isAgg3 rfl (by first | exact Rd.own (k := 0) rfl rfl | exact Rd.own (k := 1) rfl rfl | exact ((hR.bath.at k (by omega)).rd 2 rfl) | exact ((hR.dip.at (gt (madeL d by_ 0) k).dipper.toNat (by omega)).rd 2 rfl))) rfl ?_
                refine WH.yd (i := 6) (by kernel_rfl) (fun _ o v c a w _ h => (QuietPanic.blk (QuietPanic.then (QuietPanic.then (QuietPanic.blk (QuietPanic.then QuietPanic.body))))) c o.dst v a w h) rfl (Yd.move rfl) rfl ?_
                refine WH.yd (i := 7) (by kernel_rfl) (fun _ o v c a w _ h => (QuietPanic.blk (QuietPanic.then (QuietPanic.then (QuietPanic.blk (QuietPanic.then QuietPanic.body))))) c o.dst v a w h) rfl (Yd.fieldAddr FA55_0 rfl) rfl ?_
                refine WH.yd (i := 8) (by kernel_rfl) (fun _ o v c a w _ h => (QuietPanic.blk (QuietPanic.then (QuietPanic.then (QuietPanic.blk (QuietPanic.then QuietPanic.body))))) c o.dst v a w h) rfl (Yd.fieldAddr FA35_0 rfl) rfl ?_
                refine WH.yd (i := 9) (by kernel_rfl) (fun _ o v c a w _ h => (QuietPanic.blk (QuietPanic.then (QuietPanic.then (QuietPanic.blk (QuietPanic.then QuietPanic.body))))) c o.dst v a w h) rfl (Yd.load1 Try.isAgg3 rfl (by first | exact Rd.own (k := 0) rfl rfl | exact Rd.own (k := 1) rfl rfl | exact ((hR.bath.at k (by omega)).rd 2 rfl) | exact ((hR.dip.at (gt (madeL d by_ 0) k).dipper.toNat (by omega)).rd 2 rfl))) rfl ?_
                refine WH.two (i := 4) (j := 10) (by kernel_rfl) ?_ ?_
                · refine WHo.so rfl (SO.buildSlice Try.underlying51 Try.sizeOf3 Try.zeroValue3 rfl rfl rfl rfl (cs := [_]) rfl) rfl ?_
                  rintro _ _ _ ⟨b132, hb132, rfl, rfl, rfl⟩ -- NEW
                  refine ⟨(fun _ hI => hI.pick 1 rfl), ?_⟩
                  refine WH.two (i := 5) (j := 10) (by kernel_rfl) ?_ ?_
                  · refine WHo.so rfl (SO.appendOw (o := o1) (len := k) (n := 1) (xs := nC d false k) (size := 1) [_] [_, _] _ rfl rfl Try.underlying51 Try.sizeOf3 Try.typeInfo3 Try.zeroValue3 rfl rfl rfl rfl ⟨rfl, .inr ⟨_, _, _, rfl, RdN.own (k := 0) (n := 1) rfl rfl⟩⟩ (oneB_spec rfl) ho1 (nC_len _ _ _) (by omega) (by show (2 * (_ + _) + 1000) * 8 ≤ 2 ^ 48; omega) (by omega)) rfl ?_
                    rintro _ _ _ ⟨u1, hu1, rfl, rfl, rfl⟩
                    refine ⟨(fun _ hI => hI.pick 0 rfl), ?_⟩
                    refine WH.one (i := 10) (by kernel_rfl) (WHo.so rfl (SO.buildSlice Try.underlying51 Try.sizeOf3 Try.zeroValue3 rfl rfl rfl rfl (cs := [_]) rfl) rfl ?_)
                    rintro _ _ _ ⟨b138, hb138, rfl, rfl, rfl⟩ -- NEW
                    refine ⟨(fun _ hI => hI.pick 1 rfl), ?_⟩
                    refine WH.one (i := 11) (by kernel_rfl) (WHo.so rfl (SO.appendOw (o := o2) (len := k) (n := 1) (xs := nC d true k) (size := 1) [_] [_, _, _] [] rfl rfl Try.underlying51 Try.sizeOf3 Try.typeInfo3 Try.zeroValue3 rfl rfl rfl rfl ⟨rfl, .inr ⟨_, _, _, rfl, RdN.own (k := 0) (n := 1) rfl rfl⟩⟩ (oneB_spec rfl) ho2 (nC_len _ _ _) (by omega) (by show (2 * (_ + _) + 1000) * 8 ≤ 2 ^ 48; omega) (by omega)) rfl ?_)
                    rintro _ _ _ ⟨u2, hu2, rfl, rfl, rfl⟩
                    refine ⟨(fun _ hI => hI.pick 0 rfl), ?_⟩
                    refine WH.yd (i := 12) (by kernel_rfl) (fun _ o v c a w _ h => (QuietPanic.blk (QuietPanic.then (QuietPanic.then (QuietPanic.blk (QuietPanic.then QuietPanic.body))))) c o.dst v a w h) rfl (Yd.assign rfl) rfl ?_
                    refine WH.yd (i := 13) (by kernel_rfl) (fun _ o v c a w _ h => (QuietPanic.blk (QuietPanic.then (QuietPanic.then (QuietPanic.blk (QuietPanic.then QuietPanic.body))))) c o.dst v a w h) rfl (Yd.assign rfl) rfl ?_
                    refine WH.nil (by kernel_rfl) ?_
                    refine WP.blkNormal ?_
                    refine WP.thenC ?_
                    refine WC.ofFr [(15, _), (14, _), (2, _), (5, _), (7, _), (8, _), (9, _), (10, _), (12, _), (13, _), (122, _), (123, _), (124, _)] ⟨rfl, rfl, rfl, rfl, rfl, rfl, rfl, rfl, rfl, rfl, rfl, rfl, rfl, trivial⟩ ?_
                    refine WC.region ?_
                    refine WL.yd (Yd.add rfl rfl (wr64 ⟨by omega, by omega⟩)) rfl ?_
                    refine WL.yd (Yd.move rfl) rfl ?_
                    refine WL.nil ?_
                    refine WP.again (⟨k + 1, some u1, some u2⟩ : Nat × Option Ow × Option Ow) ⟨by simp only; omega, hu1, hu2⟩ (by simp only; omega) (fun aa ww h => ?_)
                    show At _ [(2, pt b2), (5, .slice a8 d.bathers.length c8), (7, it (CheckR d (madeL d by_ 0)).1), (8, it (CheckR d (madeL d by_ 0)).2.1), (9, it (CheckR d (madeL d by_ 0)).2.2), (10, it (RightR d (madeL d by_ 0)).1), (12, .slice a11 d.dippers.length c11), (13, .slice a12 d.dippers.length c12), (14, owV (some u1) (k + 1)), (15, owV (some u2) (k + 1)), (122, .slice a2 d.bathers.length c2), (123, nt d.bathers.length), (124, nt (k + 1))] Db ((b2, .cells (List.toArray [it d.hours, .slice a1 d.dippers.length c1, .slice a2 d.bathers.length c2]) 25 (0, 0)) :: owH (some u1) 3 (nC d false (k + 1)) (owH (some u2) 3 (nC d true (k + 1)) [])) aa ww
                    rw [nC_succ, nC_succ]
                    exact at_less h ⟨rfl, rfl, rfl, rfl, rfl, rfl, rfl, rfl, rfl, rfl, rfl, rfl, rfl, trivial⟩ (fun _ h => List.mem_cons_of_mem _ h) (fun h => (List.nodup_cons.1 h).2)
                  · refine WHo.so rfl (SO.buildSlice Try.underlying51 Try.sizeOf3 Try.zeroValue3 rfl rfl rfl rfl (cs := [_]) rfl) rfl ?_
                    rintro _ _ _ ⟨b138, hb138, rfl, rfl, rfl⟩ -- NEW
                    refine ⟨(fun _ hI => hI.pick 2 rfl), ?_⟩
                    refine WH.one (i := 5) (by kernel_rfl) (WHo.so rfl (SO.appendOw (o := o1) (len := k) (n := 1) (xs := nC d false k) (size := 1) [] [_, _, _, _] _ rfl rfl Try.underlying51 Try.sizeOf3 Try.typeInfo3 Try.zeroValue3 rfl rfl rfl rfl ⟨rfl, .inr ⟨_, _, _, rfl, RdN.own (k := 1) (n := 1) rfl rfl⟩⟩ (oneB_spec rfl) ho1 (nC_len _ _ _) (by omega) (by show (2 * (_ + _) + 1000) * 8 ≤ 2 ^ 48; omega) (by omega)) rfl ?_)
                    rintro _ _ _ ⟨u1, hu1, rfl, rfl, rfl⟩
                    refine ⟨(fun _ hI => hI.pick 2 rfl), ?_⟩
                    refine WH.one (i := 11) (by kernel_rfl) (WHo.so rfl (SO.appendOw (o := o2) (len := k) (n := 1) (xs := nC d true k) (size := 1) [_, _] [_, _, _] [] rfl rfl Try.underlying51 Try.sizeOf3 Try.typeInfo3 Try.zeroValue3 rfl rfl rfl rfl ⟨rfl, .inr ⟨_, _, _, rfl, RdN.own (k := 0) (n := 1) rfl rfl⟩⟩ (oneB_spec rfl) ho2 (nC_len _ _ _) (by omega) (by show (2 * (_ + _) + 1000) * 8 ≤ 2 ^ 48; omega) (by omega)) rfl ?_)
                    rintro _ _ _ ⟨u2, hu2, rfl, rfl, rfl⟩
                    refine ⟨(fun _ hI => hI.pick 0 rfl), ?_⟩
                    refine WH.yd (i := 12) (by kernel_rfl) (fun _ o v c a w _ h => (QuietPanic.blk (QuietPanic.then (QuietPanic.then (QuietPanic.blk (QuietPanic.then QuietPanic.body))))) c o.dst v a w h) rfl (Yd.assign rfl) rfl ?_
                    refine WH.yd (i := 13) (by kernel_rfl) (fun _ o v c a w _ h => (QuietPanic.blk (QuietPanic.then (QuietPanic.then (QuietPanic.blk (QuietPanic.then QuietPanic.body))))) c o.dst v a w h) rfl (Yd.assign rfl) rfl ?_
                    refine WH.nil (by kernel_rfl) ?_
                    refine WP.blkNormal ?_
                    refine WP.thenC ?_
                    refine WC.ofFr [(15, _), (14, _), (2, _), (5, _), (7, _), (8, _), (9, _), (10, _), (12, _), (13, _), (122, _), (123, _), (124, _)] ⟨rfl, rfl, rfl, rfl, rfl, rfl, rfl, rfl, rfl, rfl, rfl, rfl, rfl, trivial⟩ ?_
                    refine WC.region ?_
                    refine WL.yd (Yd.add rfl rfl (wr64 ⟨by omega, by omega⟩)) rfl ?_
                    refine WL.yd (Yd.move rfl) rfl ?_
                    refine WL.nil ?_
                    refine WP.again (⟨k + 1, some u1, some u2⟩ : Nat × Option Ow × Option Ow) ⟨by simp only; omega, hu1, hu2⟩ (by simp only; omega) (fun aa ww h => ?_)
                    show At _ [(2, pt b2), (5, .slice a8 d.bathers.length c8), (7, it (CheckR d (madeL d by_ 0)).1), (8, it (CheckR d (madeL d by_ 0)).2.1), (9, it (CheckR d (madeL d by_ 0)).2.2), (10, it (RightR d (madeL d by_ 0)).1), (12, .slice a11 d.dippers.length c11), (13, .slice a12 d.dippers.length c12), (14, owV (some u1) (k + 1)), (15, owV (some u2) (k + 1)), (122, .slice a2 d.bathers.length c2), (123, nt d.bathers.length), (124, nt (k + 1))] Db ((b2, .cells (List.toArray [it d.hours, .slice a1 d.dippers.length c1, .slice a2 d.bathers.length c2]) 25 (0, 0)) :: owH (some u1) 3 (nC d false (k + 1)) (owH (some u2) 3 (nC d true (k + 1)) [])) aa ww
                    rw [nC_succ, nC_succ]
                    exact at_less h ⟨rfl, rfl, rfl, rfl, rfl, rfl, rfl, rfl, rfl, rfl, rfl, rfl, rfl, trivial⟩ (fun _ h => List.mem_cons_of_mem _ h) (fun h => (List.nodup_cons.1 h).2)
                · refine WHo.so rfl (SO.buildSlice Try.underlying51 Try.sizeOf3 Try.zeroValue3 rfl rfl rfl rfl (cs := [_]) rfl) rfl ?_
                  rintro _ _ _ ⟨b138, hb138, rfl, rfl, rfl⟩ -- NEW
                  refine ⟨(fun _ hI => hI.pick 1 rfl), ?_⟩
                  refine WH.one (i := 4) (by kernel_rfl) (WHo.so rfl (SO.buildSlice Try.underlying51 Try.sizeOf3 Try.zeroValue3 rfl rfl rfl rfl (cs := [_]) rfl) rfl ?_)
                  rintro _ _ _ ⟨b132, hb132, rfl, rfl, rfl⟩ -- NEW
                  refine ⟨(fun _ hI => hI.pick 2 rfl), ?_⟩
                  refine WH.one (i := 5) (by kernel_rfl) (WHo.so rfl (SO.appendOw (o := o1) (len := k) (n := 1) (xs := nC d false k) (size := 1) [_] [_, _, _] _ rfl rfl Try.underlying51 Try.sizeOf3 Try.typeInfo3 Try.zeroValue3 rfl rfl rfl rfl ⟨rfl, .inr ⟨_, _, _, rfl, RdN.own (k := 0) (n := 1) rfl rfl⟩⟩ (oneB_spec rfl) ho1 (nC_len _ _ _) (by omega) (by show (2 * (_ + _) + 1000) * 8 ≤ 2 ^ 48; omega) (by omega)) rfl ?_)
                  rintro _ _ _ ⟨u1, hu1, rfl, rfl, rfl⟩
                  refine ⟨(fun _ hI => hI.pick 1 rfl), ?_⟩
                  refine WH.one (i := 11) (by kernel_rfl) (WHo.so rfl (SO.appendOw (o := o2) (len := k) (n := 1) (xs := nC d true k) (size := 1) [_] [_, _, _] [] rfl rfl Try.underlying51 Try.sizeOf3 Try.typeInfo3 Try.zeroValue3 rfl rfl rfl rfl ⟨rfl, .inr ⟨_, _, _, rfl, RdN.own (k := 0) (n := 1) rfl rfl⟩⟩ (oneB_spec rfl) ho2 (nC_len _ _ _) (by omega) (by show (2 * (_ + _) + 1000) * 8 ≤ 2 ^ 48; omega) (by omega)) rfl ?_)
                  rintro _ _ _ ⟨u2, hu2, rfl, rfl, rfl⟩
                  refine ⟨(fun _ hI => hI.pick 0 rfl), ?_⟩
                  refine WH.yd (i := 12) (by kernel_rfl) (fun _ o v c a w _ h => (QuietPanic.blk (QuietPanic.then (QuietPanic.then (QuietPanic.blk (QuietPanic.then QuietPanic.body))))) c o.dst v a w h) rfl (Yd.assign rfl) rfl ?_
                  refine WH.yd (i := 13) (by kernel_rfl) (fun _ o v c a w _ h => (QuietPanic.blk (QuietPanic.then (QuietPanic.then (QuietPanic.blk (QuietPanic.then QuietPanic.body))))) c o.dst v a w h) rfl (Yd.assign rfl) rfl ?_
                  refine WH.nil (by kernel_rfl) ?_
                  refine WP.blkNormal ?_
                  refine WP.thenC ?_
                  refine WC.ofFr [(15, _), (14, _), (2, _), (5, _), (7, _), (8, _), (9, _), (10, _), (12, _), (13, _), (122, _), (123, _), (124, _)] ⟨rfl, rfl, rfl, rfl, rfl, rfl, rfl, rfl, rfl, rfl, rfl, rfl, rfl, trivial⟩ ?_
                  refine WC.region ?_
                  refine WL.yd (Yd.add rfl rfl (wr64 ⟨by omega, by omega⟩)) rfl ?_
                  refine WL.yd (Yd.move rfl) rfl ?_
                  refine WL.nil ?_
                  refine WP.again (⟨k + 1, some u1, some u2⟩ : Nat × Option Ow × Option Ow) ⟨by simp only; omega, hu1, hu2⟩ (by simp only; omega) (fun aa ww h => ?_)
                  show At _ [(2, pt b2), (5, .slice a8 d.bathers.length c8), (7, it (CheckR d (madeL d by_ 0)).1), (8, it (CheckR d (madeL d by_ 0)).2.1), (9, it (CheckR d (madeL d by_ 0)).2.2), (10, it (RightR d (madeL d by_ 0)).1), (12, .slice a11 d.dippers.length c11), (13, .slice a12 d.dippers.length c12), (14, owV (some u1) (k + 1)), (15, owV (some u2) (k + 1)), (122, .slice a2 d.bathers.length c2), (123, nt d.bathers.length), (124, nt (k + 1))] Db ((b2, .cells (List.toArray [it d.hours, .slice a1 d.dippers.length c1, .slice a2 d.bathers.length c2]) 25 (0, 0)) :: owH (some u1) 3 (nC d false (k + 1)) (owH (some u2) 3 (nC d true (k + 1)) [])) aa ww
                  rw [nC_succ, nC_succ]
                  exact at_less h ⟨rfl, rfl, rfl, rfl, rfl, rfl, rfl, rfl, rfl, rfl, rfl, rfl, rfl, trivial⟩ (fun _ h => List.mem_cons_of_mem _ h) (fun h => (List.nodup_cons.1 h).2)
              · try simp only [decide_eq_true_eq, decide_eq_false_iff_not, Bool.not_eq_true', Bool.not_eq_false', Int.not_lt, Int.not_le, Bool.not_true, Bool.not_false] at c125
                refine WC.exit ?_
                refine WP.thenExit ?_
                refine WP.thenExit ?_
                refine WP.blkHit ?_
                refine WP.thenC ?_
                refine WC.seq ?_
                refine WC.seq ?_
                obtain rfl : k = d.bathers.length := by omega
                refine WC.know 14 (.slice (owAt o1) d.bathers.length (owCp o1 d.bathers.length)) rfl (owV_owL (owL_of (by exact ho1))) ?_
                refine WC.freezeOw (f := fun x => [it x]) (m := 1) (fun _ => rfl) [_] (owH o2 3 (nC d true d.bathers.length) []) o1 3 (nTo d false d.bathers.length) rfl (by rw [nTo_len]; exact ho1) rfl (fun Dc hXDc hSDc => ?_)
                replace hR := hR.ext hXDc
                replace hP8 := hP8.ext hXDc
                rw [nTo_len] at hSDc
                generalize owAt o1 = a14 at hSDc ⊢
                generalize owCp o1 d.bathers.length = c14
                refine WC.know 15 (.slice (owAt o2) d.bathers.length (owCp o2 d.bathers.length)) rfl (owV_owL (owL_of (by exact ho2))) ?_
                refine WC.freezeOw (f := fun x => [it x]) (m := 1) (fun _ => rfl) [_] ([]) o2 3 (nTo d true d.bathers.length) rfl (by rw [nTo_len]; exact ho2) rfl (fun Dd hXDd hSDd => ?_)
                replace hR := hR.ext hXDd
                replace hP8 := hP8.ext hXDd
                rw [nTo_len] at hSDd
                generalize owAt o2 = a15 at hSDd ⊢
                generalize owCp o2 d.bathers.length = c15
                replace hSDa := (hSDa.ext hXDc).ext hXDd
                replace hSDb := (hSDb.ext hXDc).ext hXDd
                replace hSDc := hSDc.ext hXDd
                have hndM : ∀ i, i < (nTo d false d.bathers.length).length → 0 ≤ gt (nTo d false d.bathers.length) i ∧ gt (nTo d false d.bathers.length) i ≤ 1000 := fun i hi => by
                  rw [nTo_len] at hi
                  have h2 := need_num hv false hi
                  rw [nTo_all, gt_map _ _ _ hi]; omega
                have hndF : ∀ i, i < (nTo d true d.bathers.length).length → 0 ≤ gt (nTo d true d.bathers.length) i ∧ gt (nTo d true d.bathers.length) i ≤ 1000 := fun i hi => by
                  rw [nTo_len] at hi
                  have h2 := need_num hv true hi
                  rw [nTo_all, gt_map _ _ _ hi]; omega
                refine WC.ofFr [(2, _), (5, _), (7, _), (8, _), (9, _), (10, _), (12, _), (13, _), (14, _), (15, _)] ⟨rfl, rfl, rfl, rfl, rfl, rfl, rfl, rfl, rfl, rfl, trivial⟩ ?_
                refine WC.region ?_
                refine WL.yd (Yd.move rfl) rfl ?_
                refine WL.yd (Yd.eql rfl rfl) rfl ?_
                refine WL.yd (Yd.loadN Try.isAgg25 Try.sizeOf25 rfl (vs := [_, _, _]) rfl (by first | exact RdN.own (k := 0) (n := 3) rfl rfl | exact (hR.dip.at k (by omega)).rdn 0 3 rfl | exact (hR.bath.at k (by omega)).rdn 0 3 rfl | exact (hP8.pl.at k (by omega)).rdn 0 2 rfl)) rfl ?_
                refine WL.yd (Yd.move rfl) rfl ?_
                refine WL.yd (Yd.move rfl) rfl ?_
                refine WL.yd (Yd.move rfl) rfl ?_
                refine WL.so (SO.callP Try.call39 rfl (fun w hI => fits_g d a1 _ c1 a2 _ c2 _ w hR hI.imm hv (madeL d by_ 0) a8 _ c8 hP8 hown.1 (hTo d true d.dippers.length) a12 _ c12 hSDb (nTo d true d.bathers.length) a15 _ c15 hSDd (by rw [hown.2]; exact Nat.le_refl _) (by rw [nTo_len]; exact by rw [hown.2]; exact Nat.le_refl _) (by rw [hTo_len]; exact Nat.le_refl _) hndF)) rfl ?_
                rintro _ _ _ ⟨rfl, rfl, rfl⟩
                refine WL.yd (Yd.not rfl) rfl ?_
                refine WL.yd (Yd.neB Try.underlying4 rfl rfl) rfl ?_
                refine WL.know 149 (.bool false) rfl (congrArg Value.bool (by rw [hTo_all, nTo_all, fits_fine hv hown.1 (by omega) true, right_never hv hown.1 hown.2]; simp)) ?_
                refine WL.yd (Yd.move rfl) rfl ?_
                refine WL.ydg rfl (Yd.move rfl) rfl ?_
                refine WL.ydg rfl (Yd.eql rfl rfl) rfl ?_
                refine WL.ydg rfl (Yd.loadN Try.isAgg25 Try.sizeOf25 rfl (vs := [_, _, _]) rfl (by first | exact RdN.own (k := 0) (n := 3) rfl rfl | exact (hR.dip.at k (by omega)).rdn 0 3 rfl | exact (hR.bath.at k (by omega)).rdn 0 3 rfl | exact (hP8.pl.at k (by omega)).rdn 0 2 rfl)) rfl ?_
                refine WL.ydg rfl (Yd.move rfl) rfl ?_
                refine WL.ydg rfl (Yd.move rfl) rfl ?_
                refine WL.ydg rfl (Yd.move rfl) rfl ?_
                refine WL.sog rfl (SO.callP Try.call39 rfl (fun w hI => fits_g d a1 _ c1 a2 _ c2 _ w hR hI.imm hv (madeL d by_ 0) a8 _ c8 hP8 hown.1 (hTo d false d.dippers.length) a11 _ c11 hSDa (nTo d false d.bathers.length) a14 _ c14 hSDc (by rw [hown.2]; exact Nat.le_refl _) (by rw [nTo_len]; exact by rw [hown.2]; exact Nat.le_refl _) (by rw [hTo_len]; exact Nat.le_refl _) hndM)) rfl ?_
                rintro _ _ _ ⟨rfl, rfl, rfl⟩
                refine WL.ydg rfl (Yd.neB Try.underlying4 rfl rfl) rfl ?_
                refine WL.know 158 (.bool false) rfl (congrArg Value.bool (by rw [hTo_all, nTo_all, fits_fine hv hown.1 (by omega) false, right_always hv hown.1 hown.2]; simp)) ?_
                refine WL.yd (Yd.pickF rfl rfl) rfl ?_
                refine WL.nil ?_
                refine WP.thenC ?_
                refine WC.condF rfl ?_
                refine WC.skip ?_
                refine WP.thenC ?_
                refine WC.seq ?_
                refine WC.seq ?_
                refine WC.ofFr [(2, _), (5, _), (7, _), (8, _), (9, _), (12, _), (14, _)] ⟨rfl, rfl, rfl, rfl, rfl, rfl, rfl, trivial⟩ ?_
                refine WC.region ?_
                refine WL.yd (Yd.move rfl) rfl ?_
                refine WL.yd (Yd.neq rfl rfl) rfl ?_
                refine WL.nil ?_
                refine WP.thenC ?_
                refine WC.cond rfl (fun c161 => ?_) (fun c161 => ?_)
                · try simp only [decide_eq_true_eq, decide_eq_false_iff_not, Bool.not_eq_true', Bool.not_eq_false', Int.not_lt, Int.not_le, Bool.not_true, Bool.not_false] at c161
                  refine WC.seq ?_
                  refine WC.ofFr [(2, _), (5, _), (7, _), (8, _), (12, _), (14, _)] ⟨rfl, rfl, rfl, rfl, rfl, rfl, trivial⟩ ?_
                  refine WC.region ?_
                  refine WL.so (SO.callP Try.call14 rfl (fun w hI => alive_g _ _ hI.imm)) rfl ?_
                  rintro _ _ _ ⟨rfl, rfl, rfl⟩
                  refine WL.yd (Yd.assign rfl) rfl ?_
                  refine WL.nil ?_
                  refine WP.thenC ?_
                  refine WC.ret ?_
                  refine WP.thenRet ?_
                  refine WP.ret1 rfl rfl Try.results8 (RV.tmp rfl) (fun w hI => ⟨rfl, hI.keep⟩)
                · try simp only [decide_eq_true_eq, decide_eq_false_iff_not, Bool.not_eq_true', Bool.not_eq_false', Int.not_lt, Int.not_le, Bool.not_true, Bool.not_false] at c161
                  refine WC.skip ?_
                  refine WP.thenC ?_
                  refine WC.seq ?_
                  obtain ⟨k, hk8, hwho, hrule, hne8, hbef⟩ : ∃ k, k < (madeL d by_ 0).length ∧ (CheckR d (madeL d by_ 0)).1 = (k : Int) ∧ (CheckR d (madeL d by_ 0)).2.1 = brokenR d (madeL d by_ 0) k false ∧ brokenR d (madeL d by_ 0) k false ≠ 0 ∧ ∀ i, i < k → brokenR d (madeL d by_ 0) i false = 0 := by
                    rcases hck with ⟨h1, _⟩ | ⟨_, h⟩
                    · omega
                    · exact h
                  have hx8 := hown.1 k hk8
                  have hdn1 := hnum.2.2.2.1 (gt (madeL d by_ 0) k).dipper.toNat (by omega)
                  have hdn2 := hnum.2.2.2.2 k (by omega)
                  obtain ⟨hrh, hr12⟩ := rule_hour hv hown.1 hown.2 hk8 hne8
                  refine WC.know 7 (nt k) rfl (congrArg it hwho) ?_
                  refine WC.know 8 (it (brokenR d (madeL d by_ 0) k false)) rfl (congrArg it hrule) ?_
                  refine WC.ofFr [(2, _), (5, _), (7, _), (8, _), (12, _), (14, _)] ⟨rfl, rfl, rfl, rfl, rfl, rfl, trivial⟩ ?_
                  refine WC.region ?_
                  refine WL.yd (Yd.move rfl) rfl ?_
                  refine WL.yd (Yd.move rfl) rfl ?_
                  refine WL.yd (Yd.indexS Try.underlying26 Try.sizeOf61 rfl rfl (by omega) (by omega) (by first | exact hR.dip.addr k (by omega) | exact hR.bath.addr k (by omega) | exact hP8.pl.addr k (by omega) | exact hR.dip.addr (gt (madeL d by_ 0) k).dipper.toNat (by omega))) rfl ?_
                  refine WL.yd (Yd.loadN Try.isAgg61 Try.sizeOf61 rfl (vs := [_, _]) rfl (by first | exact RdN.own (k := 0) (n := 2) rfl rfl | exact (hR.dip.at k (by omega)).rdn 0 3 rfl | exact (hR.bath.at k (by omega)).rdn 0 3 rfl | exact (hP8.pl.at k (by omega)).rdn 0 2 rfl)) rfl ?_
                  refine WL.so (SO.alloc Try.zeroValue61 rfl) rfl ?_
                  rintro _ _ _ ⟨b20, hb20, rfl, rfl, rfl⟩ -- NEW
                  refine WL.so (SO.store 0 rfl Try.sizeOf61 rfl rfl rfl rfl (Nat.le_of_ble_eq_true rfl) (oneB_spec rfl)) rfl ?_
                  rintro _ _ _ ⟨rfl, rfl, rfl⟩
                  refine WL.nil ?_
                  refine WP.thenC ?_
                  refine WC.seqJ (fun _ : Unit => [(2, pt b2), (5, .slice a8 d.bathers.length c8), (7, nt k), (8, it (brokenR d (madeL d by_ 0) k false)), (12, .slice a11 d.dippers.length c11), (14, .slice a14 d.bathers.length c14), (20, pt b20), (21, .bool (hourB' d (madeL d by_ 0) k))]) (fun _ => [(b20, .cells (List.toArray (placeC (gt (madeL d by_ 0) k))) 61 (0, 0)), (b2, .cells (List.toArray [it d.hours, .slice a1 d.dippers.length c1, .slice a2 d.bathers.length c2]) 25 (0, 0))]) (fun _ => Dd) (fun _ => True) ?_ ?_
                  · rintro ⟨⟩ -
                    refine WC.seqJ (fun _ : Unit => [(2, pt b2), (5, .slice a8 d.bathers.length c8), (20, pt b20)]) (fun _ => [(b20, .cells (List.toArray (placeC (gt (madeL d by_ 0) k))) 61 (0, 0)), (b2, .cells (List.toArray [it d.hours, .slice a1 d.dippers.length c1, .slice a2 d.bathers.length c2]) 25 (0, 0))]) (fun _ => Dd) (fun _ => True) ?_ ?_
                    · rintro ⟨⟩ -
                      refine WC.seq ?_
                      refine WC.ofFr [(2, _), (5, _), (20, _)] ⟨rfl, rfl, rfl, trivial⟩ ?_
                      refine WC.drawH [_, _] (by kernel_rfl) (fun _ hI => Inv.left (l1 := [_, _]) hI) ?_
                      refine WH.yd (i := 0) (by kernel_rfl) (fun _ o v c a w _ h => (QuietPanic.then QuietPanic.body) c o.dst v a w h) rfl (Yd.loadN Try.isAgg25 Try.sizeOf25 rfl (vs := [_, _, _]) rfl (by first | exact RdN.own (k := 0) (n := 3) rfl rfl | exact RdN.own (k := 1) (n := 3) rfl rfl | exact (hR.dip.at k (by omega)).rdn 0 3 rfl | exact (hR.bath.at k (by omega)).rdn 0 3 rfl | exact (hP8.pl.at k (by omega)).rdn 0 2 rfl)) rfl ?_
                      refine WH.yd (i := 2) (by kernel_rfl) (fun _ o v c a w _ h => (QuietPanic.then QuietPanic.body) c o.dst v a w h) rfl (Yd.move rfl) rfl ?_
                      refine WH.yd (i := 4) (by kernel_rfl) (fun _ o v c a w _ h => (QuietPanic.then QuietPanic.body) c o.dst v a w h) rfl (Yd.loadN Try.isAgg61 Try.sizeOf61 rfl (vs := [_, _]) rfl (by first | exact RdN.own (k := 0) (n := 2) rfl rfl | exact RdN.own (k := 1) (n := 2) rfl rfl | exact (hR.dip.at k (by omega)).rdn 0 3 rfl | exact (hR.bath.at k (by omega)).rdn 0 3 rfl | exact (hP8.pl.at k (by omega)).rdn 0 2 rfl)) rfl ?_
                      refine WH.two (i := 1) (j := 5) (by kernel_rfl) ?_ ?_
                      · refine WHo.so rfl (SO.buildSlice0 Try.underlying26 Try.sizeOf61) rfl ?_
                        rintro _ _ _ ⟨b226, hb226, rfl, rfl, rfl⟩ -- NEW
                        refine ⟨(fun _ hI => Inv.left (l1 := [_, _]) (Inv.drop 1 hI)), ?_⟩
                        refine WH.two (i := 3) (j := 5) (by kernel_rfl) ?_ ?_
                        · refine WHo.so rfl (SO.appendSome (o := ⟨b226, 0, []⟩) (len := 0) (n := d.bathers.length) (xs := []) (ys := (madeL d by_ 0).flatMap placeC) (size := 2) [] _ rfl rfl Try.underlying26 Try.sizeOf61 Try.typeInfo61 Try.zeroValue61 rfl rfl rfl rfl (hP8.pl.rdS placeC_len (fun e => by have h9 := congrArg List.length e; have h10 := hown.2; simp only [List.length_nil] at h9; omega)) (placeC_one _) ⟨hb226, Nat.le_refl _, rfl⟩ rfl (by show (2 * (_ + _) + 1000) * 16 ≤ 2 ^ 48; omega) (by omega)) rfl ?_
                          rintro _ _ _ ⟨u228, hu228, rfl, rfl, rfl⟩
                          refine ⟨(fun _ hI => Inv.left (l1 := [_, _]) (Inv.drop 1 hI)), ?_⟩
                          refine WH.one (i := 5) (by kernel_rfl) (WHo.so rfl (SO.buildSlice Try.underlying26 Try.sizeOf61 Try.zeroValue61 rfl rfl rfl rfl (cs := [_, _]) rfl) rfl ?_)
                          rintro _ _ _ ⟨b230, hb230, rfl, rfl, rfl⟩ -- NEW
                          refine ⟨(fun _ hI => Inv.left (l1 := [_, _]) (Inv.drop 2 hI)), ?_⟩
                          refine WH.one (i := 6) (by kernel_rfl) (WHo.so rfl (SO.appendOw (o := some u228) (len := 0 + d.bathers.length) (n := 1) (xs := [] ++ (madeL d by_ 0).flatMap placeC) (ys := placeC (gt (madeL d by_ 0) k)) (size := 2) [_] [] _ rfl rfl Try.underlying26 Try.sizeOf61 Try.typeInfo61 Try.zeroValue61 rfl rfl rfl rfl ⟨rfl, .inr ⟨_, _, _, rfl, RdN.own (k := 0) (n := 2) rfl rfl⟩⟩ (oneB_spec rfl) hu228 (by rw [List.nil_append, flat_len placeC_len, hown.2]; omega) (by omega) (by show (2 * (_ + _) + 1000) * 16 ≤ 2 ^ 48; omega) (by omega)) rfl ?_)
                          rintro _ _ _ ⟨u231, hu231, rfl, rfl, rfl⟩
                          have hbu231 := hu231.1
                          refine ⟨(fun _ hI => Inv.left (l1 := [_, _]) (Inv.drop 1 hI)), ?_⟩
                          refine WH.freezeK 0 rfl (fun hnu231 => ?_)
                          have hFu231 := fun o => (DExt.refl w Dd).add (o := o) hnu231 hbu231
                          refine WH.one (i := 7) (by kernel_rfl) (WHo.so rfl (SO.callP Try.call15 rfl (fun w hI => Check_g d a1 _ c1 a2 _ c2 _ w (hR.ext (hFu231 _)) hI.imm ((madeL d by_ 0) ++ [gt (madeL d by_ 0) k]) _ _ _ (PlanR_snoc8 (rest := u231.rest) (b := (madeL d by_ 0)) (x := gt (madeL d by_ 0) k) (Imm.add_self _ _ _) (by rw [hown.2]; omega) (by omega)))) rfl ?_)
                          rintro _ _ _ ⟨rfl, rfl, rfl⟩
                          refine ⟨(fun _ hI => Inv.left (l1 := [_, _]) (Inv.drop 0 (hI.shrink (hFu231 _).old))), ?_⟩
                          refine WH.yd (i := 8) (by kernel_rfl) (fun _ o v c a w _ h => (QuietPanic.then QuietPanic.body) c o.dst v a w h) rfl (Yd.move rfl) rfl ?_
                          refine WH.yd (i := 9) (by kernel_rfl) (fun _ o v c a w _ h => (QuietPanic.then QuietPanic.body) c o.dst v a w h) rfl (Yd.extract rfl rfl) rfl ?_
                          refine WH.yd (i := 10) (by kernel_rfl) (fun _ o v c a w _ h => (QuietPanic.then QuietPanic.body) c o.dst v a w h) rfl (Yd.extract rfl rfl) rfl ?_
                          refine WH.yd (i := 11) (by kernel_rfl) (fun _ o v c a w _ h => (QuietPanic.then QuietPanic.body) c o.dst v a w h) rfl (Yd.extract rfl rfl) rfl ?_
                          refine WH.yd (i := 12) (by kernel_rfl) (fun _ o v c a w _ h => (QuietPanic.then QuietPanic.body) c o.dst v a w h) rfl (Yd.assign rfl) rfl ?_
                          refine WH.yd (i := 13) (by kernel_rfl) (fun _ o v c a w _ h => (QuietPanic.then QuietPanic.body) c o.dst v a w h) rfl (Yd.assign rfl) rfl ?_
                          refine WH.yd (i := 14) (by kernel_rfl) (fun _ o v c a w _ h => (QuietPanic.then QuietPanic.body) c o.dst v a w h) rfl (Yd.assign rfl) rfl ?_
                          refine WH.nil (by kernel_rfl) ?_
                          refine WP.thenC ?_
                          refine WC.seq ?_
                          refine WC.ofFr [(24, _), (2, _), (5, _)] ⟨rfl, rfl, rfl, trivial⟩ ?_
                          refine WC.tail 11 [0, 1, 2, 3, 4, 5, 6, 7, 8, 9, 10] rfl (by kernel_rfl) (by kernel_rfl)  ?_
                          refine WQ.q rfl (Yd.qt (Yd.loadN Try.isAgg25 Try.sizeOf25 rfl (vs := [_, _, _]) rfl (by first | exact RdN.own (k := 0) (n := 3) rfl rfl | exact RdN.own (k := 1) (n := 3) rfl rfl | exact (hR.dip.at k (by omega)).rdn 0 3 rfl | exact (hR.bath.at k (by omega)).rdn 0 3 rfl | exact (hP8.pl.at k (by omega)).rdn 0 2 rfl))) rfl ?_
                          refine WQ.q rfl (Yd.qt (Yd.move rfl)) rfl ?_
                          refine WQ.q rfl (Yd.qt (Yd.move rfl)) rfl ?_
                          refine WQ.q rfl (Yd.qt (Yd.lenS rfl Try.underlying26 rfl)) rfl ?_
                          refine WQ.q rfl (Yd.qt (Yd.subN rfl rfl (by (try dsimp only); omega) (by (try dsimp only); omega))) rfl ?_
                          refine WQ.q rfl (Yd.qt (Yd.sliceTo Try.underlying26 Try.sizeOf61 rfl rfl (by (try dsimp only); omega))) rfl ?_
                          refine WQ.q rfl (Qt.callP Try.call17 rfl (fun w hI => Right_g d a1 _ c1 a2 _ c2 Dd w hR (hI.shrink (hFu231 _).old).imm ((madeL d by_ 0).take (d.bathers.length - 1)) a8 _ c8 (PlanR_take hP8 (d.bathers.length - 1) (by omega)))) rfl ?_
                          refine WQ.q rfl (Yd.qt (Yd.move rfl)) rfl ?_
                          refine WQ.q rfl (Yd.qt (Yd.extract rfl rfl)) rfl ?_
                          refine WQ.q rfl (Yd.qt (Yd.extract rfl rfl)) rfl ?_
                          refine WQ.q rfl (Yd.qt (Yd.assign rfl)) rfl ?_
                          refine WQ.tail ?_
                          refine WL.yd (Yd.assign rfl) rfl ?_
                          refine WL.nil ?_
                          refine WP.thenC ?_
                          refine WC.seq ?_
                          refine WC.ofFr [(26, _), (24, _), (2, _)] ⟨rfl, rfl, rfl, trivial⟩ ?_
                          refine WC.region ?_
                          refine WL.yd (Yd.loadN Try.isAgg25 Try.sizeOf25 rfl (vs := [_, _, _]) rfl (by first | exact RdN.own (k := 0) (n := 3) rfl rfl | exact RdN.own (k := 1) (n := 3) rfl rfl | exact (hR.dip.at k (by omega)).rdn 0 3 rfl | exact (hR.bath.at k (by omega)).rdn 0 3 rfl | exact (hP8.pl.at k (by omega)).rdn 0 2 rfl)) rfl ?_
                          refine WL.yd (Yd.fieldAddr FA25_0 rfl) rfl ?_
                          refine WL.yd (Yd.load1 Try.isAgg3 rfl (by first | exact Rd.own (k := 0) rfl rfl | exact Rd.own (k := 1) rfl rfl | exact ((hR.bath.at k (by omega)).rd 2 rfl) | exact ((hR.dip.at (gt (madeL d by_ 0) k).dipper.toNat (by omega)).rd 2 rfl))) rfl ?_
                          refine WL.so (SO.callP Try.call19 rfl (fun w hI => Hands_g d a1 _ c1 a2 _ c2 Dd w hR (hI.shrink (hFu231 _).old).imm d.hours)) rfl ?_
                          rintro _ _ _ ⟨rfl, rfl, rfl⟩
                          refine WL.yd (Yd.move rfl) rfl ?_
                          refine WL.yd (Yd.extract rfl rfl) rfl ?_
                          refine WL.yd (Yd.extract rfl rfl) rfl ?_
                          refine WL.so (SO.alloc Try.zeroValue35 rfl) rfl ?_
                          rintro _ _ _ ⟨b27, hb27, rfl, rfl, rfl⟩ -- NEW
                          refine WL.so (SO.store 0 rfl Try.sizeOf35 rfl rfl rfl rfl (Nat.le_of_ble_eq_true rfl) (oneB_spec rfl)) rfl ?_
                          rintro _ _ _ ⟨rfl, rfl, rfl⟩
                          refine WL.yd (Yd.assign rfl) rfl ?_
                          refine WL.nil ?_
                          refine WP.thenC ?_
                          refine WC.seq ?_
                          refine WC.ofFr [(28, _), (26, _), (24, _), (2, _)] ⟨rfl, rfl, rfl, rfl, trivial⟩ ?_
                          refine WC.region ?_
                          refine WL.yd (Yd.loadN Try.isAgg25 Try.sizeOf25 rfl (vs := [_, _, _]) rfl (by first | exact RdN.own (k := 0) (n := 3) rfl rfl | exact RdN.own (k := 1) (n := 3) rfl rfl | exact RdN.own (k := 2) (n := 3) rfl rfl | exact (hR.dip.at k (by omega)).rdn 0 3 rfl | exact (hR.bath.at k (by omega)).rdn 0 3 rfl | exact (hP8.pl.at k (by omega)).rdn 0 2 rfl)) rfl ?_
                          refine WL.so (SO.callP Try.call19 rfl (fun w hI => Hands_g d a1 _ c1 a2 _ c2 Dd w hR (hI.shrink (hFu231 _).old).imm (-1))) rfl ?_
                          rintro _ _ _ ⟨rfl, rfl, rfl⟩
                          refine WL.yd (Yd.move rfl) rfl ?_
                          refine WL.yd (Yd.extract rfl rfl) rfl ?_
                          refine WL.yd (Yd.extract rfl rfl) rfl ?_
                          refine WL.so (SO.alloc Try.zeroValue35 rfl) rfl ?_
                          rintro _ _ _ ⟨b29, hb29, rfl, rfl, rfl⟩ -- NEW
                          refine WL.so (SO.store 0 rfl Try.sizeOf35 rfl rfl rfl rfl (Nat.le_of_ble_eq_true rfl) (oneB_spec rfl)) rfl ?_
                          rintro _ _ _ ⟨rfl, rfl, rfl⟩
                          refine WL.yd (Yd.assign rfl) rfl ?_
                          refine WL.nil ?_
                          refine WP.thenC ?_
                          refine WC.seq ?_
                          refine WC.ofFr [(30, _), (28, _), (26, _), (24, _)] ⟨rfl, rfl, rfl, rfl, trivial⟩ ?_
                          refine WC.region ?_
                          refine WL.yd (Yd.move rfl) rfl ?_
                          refine WL.yd (Yd.eql rfl rfl) rfl ?_
                          refine WL.know 259 (.bool true) rfl (congrArg Value.bool (decide_eq_true (check_range hv (by simp [hown.2])).1)) ?_
                          refine WL.yd (Yd.move rfl) rfl ?_
                          refine WL.ydg rfl (Yd.move rfl) rfl ?_
                          refine WL.ydg rfl (Yd.eql rfl rfl) rfl ?_
                          refine WL.know 262 (.bool true) rfl (congrArg Value.bool (decide_eq_true (check_range hv (by rw [List.length_take]; omega)).2)) ?_
                          refine WL.yd (Yd.pickT rfl rfl) rfl ?_
                          refine WL.yd (Yd.move rfl) rfl ?_
                          refine WL.ydg rfl (Yd.move rfl) rfl ?_
                          refine WL.ydg rfl (Yd.eql rfl rfl) rfl ?_
                          refine WL.know 266 (.bool true) rfl (congrArg Value.bool (decide_eq_true (hands_range hv (.inl rfl)))) ?_
                          refine WL.yd (Yd.pickT rfl rfl) rfl ?_
                          refine WL.yd (Yd.move rfl) rfl ?_
                          refine WL.ydg rfl (Yd.move rfl) rfl ?_
                          refine WL.ydg rfl (Yd.eql rfl rfl) rfl ?_
                          refine WL.know 270 (.bool true) rfl (congrArg Value.bool (decide_eq_true (hands_range hv (.inr rfl)))) ?_
                          refine WL.yd (Yd.pickT rfl rfl) rfl ?_
                          refine WL.yd (Yd.move rfl) rfl ?_
                          refine WL.sog rfl (SO.callP Try.call14 rfl (fun w hI => alive_g _ _ hI.imm)) rfl ?_
                          rintro _ _ _ ⟨rfl, rfl, rfl⟩
                          refine WL.know 273 (.bool true) rfl rfl ?_
                          refine WL.yd (Yd.pickT rfl rfl) rfl ?_
                          refine WL.yd (Yd.assign rfl) rfl ?_
                          refine WL.nil ?_
                          refine WP.thenC ?_
                          refine WC.ret ?_
                          refine WP.ret1 rfl rfl Try.results8 (RV.tmp rfl) (fun w hI => ⟨rfl, hI.keep⟩)
                        · refine WHo.so rfl (SO.buildSlice Try.underlying26 Try.sizeOf61 Try.zeroValue61 rfl rfl rfl rfl (cs := [_, _]) rfl) rfl ?_
                          rintro _ _ _ ⟨b230, hb230, rfl, rfl, rfl⟩ -- NEW
                          refine ⟨(fun _ hI => Inv.left (l1 := [_, _]) (Inv.drop 2 hI)), ?_⟩
                          refine WH.one (i := 3) (by kernel_rfl) (WHo.so rfl (SO.appendSome (o := ⟨b226, 0, []⟩) (len := 0) (n := d.bathers.length) (xs := []) (ys := (madeL d by_ 0).flatMap placeC) (size := 2) [_] _ rfl rfl Try.underlying26 Try.sizeOf61 Try.typeInfo61 Try.zeroValue61 rfl rfl rfl rfl (hP8.pl.rdS placeC_len (fun e => by have h9 := congrArg List.length e; have h10 := hown.2; simp only [List.length_nil] at h9; omega)) (placeC_one _) ⟨hb226, Nat.le_refl _, rfl⟩ rfl (by show (2 * (_ + _) + 1000) * 16 ≤ 2 ^ 48; omega) (by omega)) rfl ?_)
                          rintro _ _ _ ⟨u228, hu228, rfl, rfl, rfl⟩
                          refine ⟨(fun _ hI => Inv.left (l1 := [_, _]) (Inv.drop 2 hI)), ?_⟩
                          refine WH.one (i := 6) (by kernel_rfl) (WHo.so rfl (SO.appendOw (o := some u228) (len := 0 + d.bathers.length) (n := 1) (xs := [] ++ (madeL d by_ 0).flatMap placeC) (ys := placeC (gt (madeL d by_ 0) k)) (size := 2) [_] [] _ rfl rfl Try.underlying26 Try.sizeOf61 Try.typeInfo61 Try.zeroValue61 rfl rfl rfl rfl ⟨rfl, .inr ⟨_, _, _, rfl, RdN.own (k := 0) (n := 2) rfl rfl⟩⟩ (oneB_spec rfl) hu228 (by rw [List.nil_append, flat_len placeC_len, hown.2]; omega) (by omega) (by show (2 * (_ + _) + 1000) * 16 ≤ 2 ^ 48; omega) (by omega)) rfl ?_)
                          rintro _ _ _ ⟨u231, hu231, rfl, rfl, rfl⟩
                          have hbu231 := hu231.1
                          refine ⟨(fun _ hI => Inv.left (l1 := [_, _]) (Inv.drop 1 hI)), ?_⟩
                          refine WH.freezeK 0 rfl (fun hnu231 => ?_)
                          have hFu231 := fun o => (DExt.refl w Dd).add (o := o) hnu231 hbu231
                          refine WH.one (i := 7) (by kernel_rfl) (WHo.so rfl (SO.callP Try.call15 rfl (fun w hI => Check_g d a1 _ c1 a2 _ c2 _ w (hR.ext (hFu231 _)) hI.imm ((madeL d by_ 0) ++ [gt (madeL d by_ 0) k]) _ _ _ (PlanR_snoc8 (rest := u231.rest) (b := (madeL d by_ 0)) (x := gt (madeL d by_ 0) k) (Imm.add_self _ _ _) (by rw [hown.2]; omega) (by omega)))) rfl ?_)
                          rintro _ _ _ ⟨rfl, rfl, rfl⟩
                          refine ⟨(fun _ hI => Inv.left (l1 := [_, _]) (Inv.drop 0 (hI.shrink (hFu231 _).old))), ?_⟩
                          refine WH.yd (i := 8) (by kernel_rfl) (fun _ o v c a w _ h => (QuietPanic.then QuietPanic.body) c o.dst v a w h) rfl (Yd.move rfl) rfl ?_
                          refine WH.yd (i := 9) (by kernel_rfl) (fun _ o v c a w _ h => (QuietPanic.then QuietPanic.body) c o.dst v a w h) rfl (Yd.extract rfl rfl) rfl ?_
                          refine WH.yd (i := 10) (by kernel_rfl) (fun _ o v c a w _ h => (QuietPanic.then QuietPanic.body) c o.dst v a w h) rfl (Yd.extract rfl rfl) rfl ?_
                          refine WH.yd (i := 11) (by kernel_rfl) (fun _ o v c a w _ h => (QuietPanic.then QuietPanic.body) c o.dst v a w h) rfl (Yd.extract rfl rfl) rfl ?_
                          refine WH.yd (i := 12) (by kernel_rfl) (fun _ o v c a w _ h => (QuietPanic.then QuietPanic.body) c o.dst v a w h) rfl (Yd.assign rfl) rfl ?_
                          refine WH.yd (i := 13) (by kernel_rfl) (fun _ o v c a w _ h => (QuietPanic.then QuietPanic.body) c o.dst v a w h) rfl (Yd.assign rfl) rfl ?_
                          refine WH.yd (i := 14) (by kernel_rfl) (fun _ o v c a w _ h => (QuietPanic.then QuietPanic.body) c o.dst v a w h) rfl (Yd.assign rfl) rfl ?_
                          refine WH.nil (by kernel_rfl) ?_
                          refine WP.thenC ?_
                          refine WC.seq ?_
                          refine WC.ofFr [(24, _), (2, _), (5, _)] ⟨rfl, rfl, rfl, trivial⟩ ?_
                          refine WC.tail 11 [0, 1, 2, 3, 4, 5, 6, 7, 8, 9, 10] rfl (by kernel_rfl) (by kernel_rfl)  ?_
                          refine WQ.q rfl (Yd.qt (Yd.loadN Try.isAgg25 Try.sizeOf25 rfl (vs := [_, _, _]) rfl (by first | exact RdN.own (k := 0) (n := 3) rfl rfl | exact RdN.own (k := 1) (n := 3) rfl rfl | exact (hR.dip.at k (by omega)).rdn 0 3 rfl | exact (hR.bath.at k (by omega)).rdn 0 3 rfl | exact (hP8.pl.at k (by omega)).rdn 0 2 rfl))) rfl ?_
                          refine WQ.q rfl (Yd.qt (Yd.move rfl)) rfl ?_
                          refine WQ.q rfl (Yd.qt (Yd.move rfl)) rfl ?_
                          refine WQ.q rfl (Yd.qt (Yd.lenS rfl Try.underlying26 rfl)) rfl ?_
                          refine WQ.q rfl (Yd.qt (Yd.subN rfl rfl (by (try dsimp only); omega) (by (try dsimp only); omega))) rfl ?_
                          refine WQ.q rfl (Yd.qt (Yd.sliceTo Try.underlying26 Try.sizeOf61 rfl rfl (by (try dsimp only); omega))) rfl ?_
                          refine WQ.q rfl (Qt.callP Try.call17 rfl (fun w hI => Right_g d a1 _ c1 a2 _ c2 Dd w hR (hI.shrink (hFu231 _).old).imm ((madeL d by_ 0).take (d.bathers.length - 1)) a8 _ c8 (PlanR_take hP8 (d.bathers.length - 1) (by omega)))) rfl ?_
                          refine WQ.q rfl (Yd.qt (Yd.move rfl)) rfl ?_
                          refine WQ.q rfl (Yd.qt (Yd.extract rfl rfl)) rfl ?_
                          refine WQ.q rfl (Yd.qt (Yd.extract rfl rfl)) rfl ?_
                          refine WQ.q rfl (Yd.qt (Yd.assign rfl)) rfl ?_
                          refine WQ.tail ?_
                          refine WL.yd (Yd.assign rfl) rfl ?_
                          refine WL.nil ?_
                          refine WP.thenC ?_
                          refine WC.seq ?_
                          refine WC.ofFr [(26, _), (24, _), (2, _)] ⟨rfl, rfl, rfl, trivial⟩ ?_
                          refine WC.region ?_
                          refine WL.yd (Yd.loadN Try.isAgg25 Try.sizeOf25 rfl (vs := [_, _, _]) rfl (by first | exact RdN.own (k := 0) (n := 3) rfl rfl | exact RdN.own (k := 1) (n := 3) rfl rfl | exact (hR.dip.at k (by omega)).rdn 0 3 rfl | exact (hR.bath.at k (by omega)).rdn 0 3 rfl | exact (hP8.pl.at k (by omega)).rdn 0 2 rfl)) rfl ?_
                          refine WL.yd (Yd.fieldAddr FA25_0 rfl) rfl ?_
                          refine WL.yd (Yd.load1 Try.isAgg3 rfl (by first | exact Rd.own (k := 0) rfl rfl | exact Rd.own (k := 1) rfl rfl | exact ((hR.bath.at k (by omega)).rd 2 rfl) | exact ((hR.dip.at (gt (madeL d by_ 0) k).dipper.toNat (by omega)).rd 2 rfl))) rfl ?_
                          refine WL.so (SO.callP Try.call19 rfl (fun w hI => Hands_g d a1 _ c1 a2 _ c2 Dd w hR (hI.shrink (hFu231 _).old).imm d.hours)) rfl ?_
                          rintro _ _ _ ⟨rfl, rfl, rfl⟩
                          refine WL.yd (Yd.move rfl) rfl ?_
                          refine WL.yd (Yd.extract rfl rfl) rfl ?_
                          refine WL.yd (Yd.extract rfl rfl) rfl ?_
                          refine WL.so (SO.alloc Try.zeroValue35 rfl) rfl ?_
                          rintro _ _ _ ⟨b27, hb27, rfl, rfl, rfl⟩ -- NEW
                          refine WL.so (SO.store 0 rfl Try.sizeOf35 rfl rfl rfl rfl (Nat.le_of_ble_eq_true rfl) (oneB_spec rfl)) rfl ?_
                          rintro _ _ _ ⟨rfl, rfl, rfl⟩
                          refine WL.yd (Yd.assign rfl) rfl ?_
                          refine WL.nil ?_
                          refine WP.thenC ?_
                          refine WC.seq ?_
                          refine WC.ofFr [(28, _), (26, _), (24, _), (2, _)] ⟨rfl, rfl, rfl, rfl, trivial⟩ ?_
                          refine WC.region ?_
                          refine WL.yd (Yd.loadN Try.isAgg25 Try.sizeOf25 rfl (vs := [_, _, _]) rfl (by first | exact RdN.own (k := 0) (n := 3) rfl rfl | exact RdN.own (k := 1) (n := 3) rfl rfl | exact RdN.own (k := 2) (n := 3) rfl rfl | exact (hR.dip.at k (by omega)).rdn 0 3 rfl | exact (hR.bath.at k (by omega)).rdn 0 3 rfl | exact (hP8.pl.at k (by omega)).rdn 0 2 rfl)) rfl ?_
                          refine WL.so (SO.callP Try.call19 rfl (fun w hI => Hands_g d a1 _ c1 a2 _ c2 Dd w hR (hI.shrink (hFu231 _).old).imm (-1))) rfl ?_
                          rintro _ _ _ ⟨rfl, rfl, rfl⟩
                          refine WL.yd (Yd.move rfl) rfl ?_
                          refine WL.yd (Yd.extract rfl rfl) rfl ?_
                          refine WL.yd (Yd.extract rfl rfl) rfl ?_
                          refine WL.so (SO.alloc Try.zeroValue35 rfl) rfl ?_
                          rintro _ _ _ ⟨b29, hb29, rfl, rfl, rfl⟩ -- NEW
                          refine WL.so (SO.store 0 rfl Try.sizeOf35 rfl rfl rfl rfl (Nat.le_of_ble_eq_true rfl) (oneB_spec rfl)) rfl ?_
                          rintro _ _ _ ⟨rfl, rfl, rfl⟩
                          refine WL.yd (Yd.assign rfl) rfl ?_
                          refine WL.nil ?_
                          refine WP.thenC ?_
                          refine WC.seq ?_
                          refine WC.ofFr [(30, _), (28, _), (26, _), (24, _)] ⟨rfl, rfl, rfl, rfl, trivial⟩ ?_
                          refine WC.region ?_
                          refine WL.yd (Yd.move rfl) rfl ?_
                          refine WL.yd (Yd.eql rfl rfl) rfl ?_
                          refine WL.know 259 (.bool true) rfl (congrArg Value.bool (decide_eq_true (check_range hv (by simp [hown.2])).1)) ?_
                          refine WL.yd (Yd.move rfl) rfl ?_
                          refine WL.ydg rfl (Yd.move rfl) rfl ?_
                          refine WL.ydg rfl (Yd.eql rfl rfl) rfl ?_
                          refine WL.know 262 (.bool true) rfl (congrArg Value.bool (decide_eq_true (check_range hv (by rw [List.length_take]; omega)).2)) ?_
                          refine WL.yd (Yd.pickT rfl rfl) rfl ?_
                          refine WL.yd (Yd.move rfl) rfl ?_
                          refine WL.ydg rfl (Yd.move rfl) rfl ?_
                          refine WL.ydg rfl (Yd.eql rfl rfl) rfl ?_
                          refine WL.know 266 (.bool true) rfl (congrArg Value.bool (decide_eq_true (hands_range hv (.inl rfl)))) ?_
                          refine WL.yd (Yd.pickT rfl rfl) rfl ?_
                          refine WL.yd (Yd.move rfl) rfl ?_
                          refine WL.ydg rfl (Yd.move rfl) rfl ?_
                          refine WL.ydg rfl (Yd.eql rfl rfl) rfl ?_
                          refine WL.know 270 (.bool true) rfl (congrArg Value.bool (decide_eq_true (hands_range hv (.inr rfl)))) ?_
                          refine WL.yd (Yd.pickT rfl rfl) rfl ?_
                          refine WL.yd (Yd.move rfl) rfl ?_
                          refine WL.sog rfl (SO.callP Try.call14 rfl (fun w hI => alive_g _ _ hI.imm)) rfl ?_
                          rintro _ _ _ ⟨rfl, rfl, rfl⟩
                          refine WL.know 273 (.bool true) rfl rfl ?_
                          refine WL.yd (Yd.pickT rfl rfl) rfl ?_
                          refine WL.yd (Yd.assign rfl) rfl ?_
                          refine WL.nil ?_
                          refine WP.thenC ?_
                          refine WC.ret ?_
                          refine WP.ret1 rfl rfl Try.results8 (RV.tmp rfl) (fun w hI => ⟨rfl, hI.keep⟩)
                      · refine WHo.so rfl (SO.buildSlice Try.underlying26 Try.sizeOf61 Try.zeroValue61 rfl rfl rfl rfl (cs := [_, _]) rfl) rfl ?_
                        rintro _ _ _ ⟨b230, hb230, rfl, rfl, rfl⟩ -- NEW
                        refine ⟨(fun _ hI => Inv.left (l1 := [_, _]) (Inv.drop 1 hI)), ?_⟩
                        refine WH.one (i := 1) (by kernel_rfl) (WHo.so rfl (SO.buildSlice0 Try.underlying26 Try.sizeOf61) rfl ?_)
                        rintro _ _ _ ⟨b226, hb226, rfl, rfl, rfl⟩ -- NEW
                        refine ⟨(fun _ hI => Inv.left (l1 := [_, _]) (Inv.drop 2 hI)), ?_⟩
                        refine WH.one (i := 3) (by kernel_rfl) (WHo.so rfl (SO.appendSome (o := ⟨b226, 0, []⟩) (len := 0) (n := d.bathers.length) (xs := []) (ys := (madeL d by_ 0).flatMap placeC) (size := 2) [] _ rfl rfl Try.underlying26 Try.sizeOf61 Try.typeInfo61 Try.zeroValue61 rfl rfl rfl rfl (hP8.pl.rdS placeC_len (fun e => by have h9 := congrArg List.length e; have h10 := hown.2; simp only [List.length_nil] at h9; omega)) (placeC_one _) ⟨hb226, Nat.le_refl _, rfl⟩ rfl (by show (2 * (_ + _) + 1000) * 16 ≤ 2 ^ 48; omega) (by omega)) rfl ?_)
                        rintro _ _ _ ⟨u228, hu228, rfl, rfl, rfl⟩
                        refine ⟨(fun _ hI => Inv.left (l1 := [_, _]) (Inv.drop 2 hI)), ?_⟩
                        refine WH.one (i := 6) (by kernel_rfl) (WHo.so rfl (SO.appendOw (o := some u228) (len := 0 + d.bathers.length) (n := 1) (xs := [] ++ (madeL d by_ 0).flatMap placeC) (ys := placeC (gt (madeL d by_ 0) k)) (size := 2) [] [] _ rfl rfl Try.underlying26 Try.sizeOf61 Try.typeInfo61 Try.zeroValue61 rfl rfl rfl rfl ⟨rfl, .inr ⟨_, _, _, rfl, RdN.own (k := 1) (n := 2) rfl rfl⟩⟩ (oneB_spec rfl) hu228 (by rw [List.nil_append, flat_len placeC_len, hown.2]; omega) (by omega) (by show (2 * (_ + _) + 1000) * 16 ≤ 2 ^ 48; omega) (by omega)) rfl ?_)
                        rintro _ _ _ ⟨u231, hu231, rfl, rfl, rfl⟩
                        have hbu231 := hu231.1
                        refine ⟨(fun _ hI => Inv.left (l1 := [_, _]) (Inv.drop 2 hI)), ?_⟩
                        refine WH.freezeK 0 rfl (fun hnu231 => ?_)
                        have hFu231 := fun o => (DExt.refl w Dd).add (o := o) hnu231 hbu231
                        refine WH.one (i := 7) (by kernel_rfl) (WHo.so rfl (SO.callP Try.call15 rfl (fun w hI => Check_g d a1 _ c1 a2 _ c2 _ w (hR.ext (hFu231 _)) hI.imm ((madeL d by_ 0) ++ [gt (madeL d by_ 0) k]) _ _ _ (PlanR_snoc8 (rest := u231.rest) (b := (madeL d by_ 0)) (x := gt (madeL d by_ 0) k) (Imm.add_self _ _ _) (by rw [hown.2]; omega) (by omega)))) rfl ?_)
                        rintro _ _ _ ⟨rfl, rfl, rfl⟩
                        refine ⟨(fun _ hI => Inv.left (l1 := [_, _]) (Inv.drop 1 (hI.shrink (hFu231 _).old))), ?_⟩
                        refine WH.yd (i := 8) (by kernel_rfl) (fun _ o v c a w _ h => (QuietPanic.then QuietPanic.body) c o.dst v a w h) rfl (Yd.move rfl) rfl ?_
                        refine WH.yd (i := 9) (by kernel_rfl) (fun _ o v c a w _ h => (QuietPanic.then QuietPanic.body) c o.dst v a w h) rfl (Yd.extract rfl rfl) rfl ?_
                        refine WH.yd (i := 10) (by kernel_rfl) (fun _ o v c a w _ h => (QuietPanic.then QuietPanic.body) c o.dst v a w h) rfl (Yd.extract rfl rfl) rfl ?_
                        refine WH.yd (i := 11) (by kernel_rfl) (fun _ o v c a w _ h => (QuietPanic.then QuietPanic.body) c o.dst v a w h) rfl (Yd.extract rfl rfl) rfl ?_
                        refine WH.yd (i := 12) (by kernel_rfl) (fun _ o v c a w _ h => (QuietPanic.then QuietPanic.body) c o.dst v a w h) rfl (Yd.assign rfl) rfl ?_
                        refine WH.yd (i := 13) (by kernel_rfl) (fun _ o v c a w _ h => (QuietPanic.then QuietPanic.body) c o.dst v a w h) rfl (Yd.assign rfl) rfl ?_
                        refine WH.yd (i := 14) (by kernel_rfl) (fun _ o v c a w _ h => (QuietPanic.then QuietPanic.body) c o.dst v a w h) rfl (Yd.assign rfl) rfl ?_
                        refine WH.nil (by kernel_rfl) ?_
                        refine WP.thenC ?_
                        refine WC.seq ?_
                        refine WC.ofFr [(24, _), (2, _), (5, _)] ⟨rfl, rfl, rfl, trivial⟩ ?_
                        refine WC.tail 11 [0, 1, 2, 3, 4, 5, 6, 7, 8, 9, 10] rfl (by kernel_rfl) (by kernel_rfl)  ?_
                        refine WQ.q rfl (Yd.qt (Yd.loadN Try.isAgg25 Try.sizeOf25 rfl (vs := [_, _, _]) rfl (by first | exact RdN.own (k := 0) (n := 3) rfl rfl | exact RdN.own (k := 1) (n := 3) rfl rfl | exact RdN.own (k := 2) (n := 3) rfl rfl | exact (hR.dip.at k (by omega)).rdn 0 3 rfl | exact (hR.bath.at k (by omega)).rdn 0 3 rfl | exact (hP8.pl.at k (by omega)).rdn 0 2 rfl))) rfl ?_
                        refine WQ.q rfl (Yd.qt (Yd.move rfl)) rfl ?_
                        refine WQ.q rfl (Yd.qt (Yd.move rfl)) rfl ?_
                        refine WQ.q rfl (Yd.qt (Yd.lenS rfl Try.underlying26 rfl)) rfl ?_
                        refine WQ.q rfl (Yd.qt (Yd.subN rfl rfl (by (try dsimp only); omega) (by (try dsimp only); omega))) rfl ?_
                        refine WQ.q rfl (Yd.qt (Yd.sliceTo Try.underlying26 Try.sizeOf61 rfl rfl (by (try dsimp only); omega))) rfl ?_
                        refine WQ.q rfl (Qt.callP Try.call17 rfl (fun w hI => Right_g d a1 _ c1 a2 _ c2 Dd w hR (hI.shrink (hFu231 _).old).imm ((madeL d by_ 0).take (d.bathers.length - 1)) a8 _ c8 (PlanR_take hP8 (d.bathers.length - 1) (by omega)))) rfl ?_
                        refine WQ.q rfl (Yd.qt (Yd.move rfl)) rfl ?_
                        refine WQ.q rfl (Yd.qt (Yd.extract rfl rfl)) rfl ?_
                        refine WQ.q rfl (Yd.qt (Yd.extract rfl rfl)) rfl ?_
                        refine WQ.q rfl (Yd.qt (Yd.assign rfl)) rfl ?_
                        refine WQ.tail ?_
                        refine WL.yd (Yd.assign rfl) rfl ?_
                        refine WL.nil ?_
                        refine WP.thenC ?_
                        refine WC.seq ?_
                        refine WC.ofFr [(26, _), (24, _), (2, _)] ⟨rfl, rfl, rfl, trivial⟩ ?_
                        refine WC.region ?_
                        refine WL.yd (Yd.loadN Try.isAgg25 Try.sizeOf25 rfl (vs := [_, _, _]) rfl (by first | exact RdN.own (k := 0) (n := 3) rfl rfl | exact RdN.own (k := 1) (n := 3) rfl rfl | exact RdN.own (k := 2) (n := 3) rfl rfl | exact (hR.dip.at k (by omega)).rdn 0 3 rfl | exact (hR.bath.at k (by omega)).rdn 0 3 rfl | exact (hP8.pl.at k (by omega)).rdn 0 2 rfl)) rfl ?_
                        refine WL.yd (Yd.fieldAddr FA25_0 rfl) rfl ?_
                        refine WL.yd (Yd.load1 Try.isAgg3 rfl (by first | exact Rd.own (k := 0) rfl rfl | exact Rd.own (k := 1) rfl rfl | exact Rd.own (k := 2) rfl rfl | exact ((hR.bath.at k (by omega)).rd 2 rfl) | exact ((hR.dip.at (gt (madeL d by_ 0) k).dipper.toNat (by omega)).rd 2 rfl))) rfl ?_
                        refine WL.so (SO.callP Try.call19 rfl (fun w hI => Hands_g d a1 _ c1 a2 _ c2 Dd w hR (hI.shrink (hFu231 _).old).imm d.hours)) rfl ?_
                        rintro _ _ _ ⟨rfl, rfl, rfl⟩
                        refine WL.yd (Yd.move rfl) rfl ?_
                        refine WL.yd (Yd.extract rfl rfl) rfl ?_
                        refine WL.yd (Yd.extract rfl rfl) rfl ?_
                        refine WL.so (SO.alloc Try.zeroValue35 rfl) rfl ?_
                        rintro _ _ _ ⟨b27, hb27, rfl, rfl, rfl⟩ -- NEW
                        refine WL.so (SO.store 0 rfl Try.sizeOf35 rfl rfl rfl rfl (Nat.le_of_ble_eq_true rfl) (oneB_spec rfl)) rfl ?_
                        rintro _ _ _ ⟨rfl, rfl, rfl⟩
                        refine WL.yd (Yd.assign rfl) rfl ?_
                        refine WL.nil ?_
                        refine WP.thenC ?_
                        refine WC.seq ?_
                        refine WC.ofFr [(28, _), (26, _), (24, _), (2, _)] ⟨rfl, rfl, rfl, rfl, trivial⟩ ?_
                        refine WC.region ?_
                        refine WL.yd (Yd.loadN Try.isAgg25 Try.sizeOf25 rfl (vs := [_, _, _]) rfl (by first | exact RdN.own (k := 0) (n := 3) rfl rfl | exact RdN.own (k := 1) (n := 3) rfl rfl | exact RdN.own (k := 2) (n := 3) rfl rfl | exact RdN.own (k := 3) (n := 3) rfl rfl | exact (hR.dip.at k (by omega)).rdn 0 3 rfl | exact (hR.bath.at k (by omega)).rdn 0 3 rfl | exact (hP8.pl.at k (by omega)).rdn 0 2 rfl)) rfl ?_
                        refine WL.so (SO.callP Try.call19 rfl (fun w hI => Hands_g d a1 _ c1 a2 _ c2 Dd w hR (hI.shrink (hFu231 _).old).imm (-1))) rfl ?_
                        rintro _ _ _ ⟨rfl, rfl, rfl⟩
                        refine WL.yd (Yd.move rfl) rfl ?_
                        refine WL.yd (Yd.extract rfl rfl) rfl ?_
                        refine WL.yd (Yd.extract rfl rfl) rfl ?_
                        refine WL.so (SO.alloc Try.zeroValue35 rfl) rfl ?_
                        rintro _ _ _ ⟨b29, hb29, rfl, rfl, rfl⟩ -- NEW
                        refine WL.so (SO.store 0 rfl Try.sizeOf35 rfl rfl rfl rfl (Nat.le_of_ble_eq_true rfl) (oneB_spec rfl)) rfl ?_
                        rintro _ _ _ ⟨rfl, rfl, rfl⟩
                        refine WL.yd (Yd.assign rfl) rfl ?_
                        refine WL.nil ?_
                        refine WP.thenC ?_
                        refine WC.seq ?_
                        refine WC.ofFr [(30, _), (28, _), (26, _), (24, _)] ⟨rfl, rfl, rfl, rfl, trivial⟩ ?_
                        refine WC.region ?_
                        refine WL.yd (Yd.move rfl) rfl ?_
                        refine WL.yd (Yd.eql rfl rfl) rfl ?_
                        refine WL.know 259 (.bool true) rfl (congrArg Value.bool (decide_eq_true (check_range hv (by simp [hown.2])).1)) ?_
                        refine WL.yd (Yd.move rfl) rfl ?_
                        refine WL.ydg rfl (Yd.move rfl) rfl ?_
                        refine WL.ydg rfl (Yd.eql rfl rfl) rfl ?_
                        refine WL.know 262 (.bool true) rfl (congrArg Value.bool (decide_eq_true (check_range hv (by rw [List.length_take]; omega)).2)) ?_
                        refine WL.yd (Yd.pickT rfl rfl) rfl ?_
                        refine WL.yd (Yd.move rfl) rfl ?_
                        refine WL.ydg rfl (Yd.move rfl) rfl ?_
                        refine WL.ydg rfl (Yd.eql rfl rfl) rfl ?_
                        refine WL.know 266 (.bool true) rfl (congrArg Value.bool (decide_eq_true (hands_range hv (.inl rfl)))) ?_
                        refine WL.yd (Yd.pickT rfl rfl) rfl ?_
                        refine WL.yd (Yd.move rfl) rfl ?_
                        refine WL.ydg rfl (Yd.move rfl) rfl ?_
                        refine WL.ydg rfl (Yd.eql rfl rfl) rfl ?_
                        refine WL.know 270 (.bool true) rfl (congrArg Value.bool (decide_eq_true (hands_range hv (.inr rfl)))) ?_
                        refine WL.yd (Yd.pickT rfl rfl) rfl ?_
                        refine WL.yd (Yd.move rfl) rfl ?_
                        refine WL.sog rfl (SO.callP Try.call14 rfl (fun w hI => alive_g _ _ hI.imm)) rfl ?_
                        rintro _ _ _ ⟨rfl, rfl, rfl⟩
                        refine WL.know 273 (.bool true) rfl rfl ?_
                        refine WL.yd (Yd.pickT rfl rfl) rfl ?_
                        refine WL.yd (Yd.assign rfl) rfl ?_
                        refine WL.nil ?_
                        refine WP.thenC ?_
                        refine WC.ret ?_
                        refine WP.ret1 rfl rfl Try.results8 (RV.tmp rfl) (fun w hI => ⟨rfl, hI.keep⟩)
                    · skip
                      refine WC.seq ?_
                      refine WC.ofFr [(2, _), (5, _), (7, _), (8, _), (12, _), (14, _), (20, _), (21, _)] ⟨rfl, rfl, rfl, rfl, rfl, rfl, rfl, rfl, trivial⟩ ?_
                      refine WC.tail 22 [0, 1, 2, 3, 4, 5, 6, 7, 8, 9, 10, 11, 12, 13, 14, 15, 16, 17, 18, 19, 20, 21] rfl (by kernel_rfl) (by kernel_rfl)  ?_
                      refine WQ.q rfl (Yd.qt (Yd.loadN Try.isAgg25 Try.sizeOf25 rfl (vs := [_, _, _]) rfl (by first | exact RdN.own (k := 0) (n := 3) rfl rfl | exact RdN.own (k := 1) (n := 3) rfl rfl | exact (hR.dip.at k (by omega)).rdn 0 3 rfl | exact (hR.bath.at k (by omega)).rdn 0 3 rfl | exact (hP8.pl.at k (by omega)).rdn 0 2 rfl))) rfl ?_
                      refine WQ.q rfl (Yd.qt (Yd.move rfl)) rfl ?_
                      refine WQ.q rfl (Yd.qt (Yd.move rfl)) rfl ?_
                      refine WQ.q rfl (Yd.qt (Yd.sliceTo Try.underlying26 Try.sizeOf61 rfl rfl (by omega))) rfl ?_
                      refine WQ.q rfl (Yd.qt (Yd.move rfl)) rfl ?_
                      refine WQ.q rfl (Yd.qt (Yd.move rfl)) rfl ?_
                      refine WQ.q rfl (Qt.callP Try.call39 rfl (fun w hI => fits_g d a1 _ c1 a2 _ c2 _ w hR hI.imm hv ((madeL d by_ 0).take k) a8 _ c8 (PlanR_take hP8 k (by omega)) (take_ok hown.1 k) (hTo d false d.dippers.length) a11 _ c11 hSDa (nTo d false d.bathers.length) a14 _ c14 hSDc (by rw [List.length_take]; omega) (by rw [nTo_len]; exact by rw [List.length_take]; omega) (by rw [hTo_len]; exact Nat.le_refl _) hndM)) rfl ?_
                      refine WQ.know 198 (.bool true) rfl (congrArg Value.bool (by rw [hTo_all, nTo_all, take_fits hv hown.1 hown.2 k (by omega)]; exact decide_eq_true hbef)) ?_
                      refine WQ.q rfl (Yd.qt (Yd.not rfl)) rfl ?_
                      refine WQ.q rfl (Yd.qt (Yd.move rfl)) rfl ?_
                      refine WQ.qg rfl rfl (Yd.qt (Yd.loadN Try.isAgg25 Try.sizeOf25 rfl (vs := [_, _, _]) rfl (by first | exact RdN.own (k := 0) (n := 3) rfl rfl | exact RdN.own (k := 1) (n := 3) rfl rfl | exact (hR.dip.at k (by omega)).rdn 0 3 rfl | exact (hR.bath.at k (by omega)).rdn 0 3 rfl | exact (hP8.pl.at k (by omega)).rdn 0 2 rfl))) rfl ?_
                      refine WQ.qg rfl rfl (Yd.qt (Yd.move rfl)) rfl ?_
                      refine WQ.qg rfl rfl (Yd.qt (Yd.move rfl)) rfl ?_
                      refine WQ.qg rfl rfl (Yd.qt (Yd.addN rfl rfl (by (try dsimp only); omega))) rfl ?_
                      refine WQ.qg rfl rfl (Yd.qt (Yd.sliceTo Try.underlying26 Try.sizeOf61 rfl rfl (by (try dsimp only); omega))) rfl ?_
                      refine WQ.qg rfl rfl (Yd.qt (Yd.move rfl)) rfl ?_
                      refine WQ.qg rfl rfl (Yd.qt (Yd.move rfl)) rfl ?_
                      refine WQ.qg rfl rfl (Qt.callP Try.call39 rfl (fun w hI => fits_g d a1 _ c1 a2 _ c2 _ w hR hI.imm hv ((madeL d by_ 0).take (k + 1)) a8 _ c8 (PlanR_take hP8 (k + 1) (by omega)) (take_ok hown.1 (k + 1)) (hTo d false d.dippers.length) a11 _ c11 hSDa (nTo d false d.bathers.length) a14 _ c14 hSDc (by rw [List.length_take]; omega) (by rw [nTo_len]; exact by rw [List.length_take]; omega) (by rw [hTo_len]; exact Nat.le_refl _) hndM)) rfl ?_
                      refine WQ.know 208 (.bool false) rfl (congrArg Value.bool (by rw [hTo_all, nTo_all, take_fits hv hown.1 hown.2 (k + 1) (by omega)]; exact decide_eq_false (fun h => hne8 (h k (by omega))))) ?_
                      refine WQ.q rfl (Yd.qt (Yd.pickF rfl rfl)) rfl ?_
                      refine WQ.q rfl (Yd.qt (Yd.move rfl)) rfl ?_
                      refine WQ.qg rfl rfl (Yd.qt (Yd.move rfl)) rfl ?_
                      refine WQ.qg rfl rfl (Yd.qt (Yd.eql rfl rfl)) rfl ?_
                      refine WQ.qg rfl rfl (Yd.qt (Yd.move rfl)) rfl ?_
                      refine WQ.tail ?_
                      refine WL.ydg rfl (Yd.neB Try.underlying4 rfl rfl) rfl ?_
                      refine WL.know 214 (.bool false) rfl (congrArg Value.bool (by rw [hrh]; simp)) ?_
                      refine WL.yd (Yd.pickF rfl rfl) rfl ?_
                      refine WL.yd (Yd.move rfl) rfl ?_
                      refine WL.ydg rfl (Yd.move rfl) rfl ?_
                      refine WL.ydg rfl (Yd.neq rfl rfl) rfl ?_
                      refine WL.ydg rfl (Yd.move rfl) rfl ?_
                      refine WL.part 219 rfl (fun g219 => ?_) (fun g219 => ?_)
                      · try simp only [decide_eq_true_eq, decide_eq_false_iff_not, Bool.not_eq_true', Bool.not_eq_false', Int.not_lt, Int.not_le, Bool.not_true, Bool.not_false] at g219
                        refine WL.ydg rfl (Yd.move rfl) rfl ?_
                        refine WL.ydg rfl (Yd.neq rfl rfl) rfl ?_
                        refine WL.know 221 (.bool false) rfl (congrArg Value.bool (decide_eq_false (by omega))) ?_
                        refine WL.ydg rfl (Yd.pickT rfl rfl) rfl ?_
                        refine WL.yd (Yd.pickF rfl rfl) rfl ?_
                        refine WL.nil ?_
                        refine WP.thenC ?_
                        refine WC.condF rfl ?_
                        refine WC.skip ?_
                        exact WP.join () trivial (fun aa ww h => at_fr h ⟨rfl, rfl, rfl, trivial⟩)
                      · try simp only [decide_eq_true_eq, decide_eq_false_iff_not, Bool.not_eq_true', Bool.not_eq_false', Int.not_lt, Int.not_le, Bool.not_true, Bool.not_false] at g219
                        refine WL.skip rfl rfl ?_
                        refine WL.skip rfl rfl ?_
                        refine WL.ydg rfl (Yd.pickF rfl rfl) rfl ?_
                        refine WL.yd (Yd.pickF rfl rfl) rfl ?_
                        refine WL.nil ?_
                        refine WP.thenC ?_
                        refine WC.condF rfl ?_
                        refine WC.skip ?_
                        exact WP.join () trivial (fun aa ww h => at_fr h ⟨rfl, rfl, rfl, trivial⟩)
                  · skip
                    refine WC.ofFr [(20, _), (2, _), (5, _), (7, _), (8, _), (12, _), (14, _)] ⟨rfl, rfl, rfl, rfl, rfl, rfl, rfl, trivial⟩ ?_
                    refine WC.tail 21 [0, 1, 2, 3, 4, 5, 6, 7, 8, 9, 10, 11, 12, 13, 14, 15, 16, 17, 18, 19, 20] rfl (by kernel_rfl) (by kernel_rfl)  ?_
                    refine WQ.q rfl (Yd.qt (Yd.fieldAddr FA25_2 rfl)) rfl ?_
                    refine WQ.q rfl (Yd.qt (Yd.load1 Try.isAgg23 rfl (by first | exact Rd.own (k := 0) rfl rfl | exact Rd.own (k := 1) rfl rfl | exact ((hR.bath.at k (by omega)).rd 2 rfl) | exact ((hR.dip.at (gt (madeL d by_ 0) k).dipper.toNat (by omega)).rd 2 rfl)))) rfl ?_
                    refine WQ.q rfl (Yd.qt (Yd.move rfl)) rfl ?_
                    refine WQ.q rfl (Yd.qt (Yd.indexS Try.underlying23 Try.sizeOf55 rfl rfl (by omega) (by omega) (by first | exact hR.dip.addr k (by omega) | exact hR.bath.addr k (by omega) | exact hP8.pl.addr k (by omega) | exact hR.dip.addr (gt (madeL d by_ 0) k).dipper.toNat (by omega)))) rfl ?_
                    refine WQ.q rfl (Yd.qt (Yd.fieldAddr FA55_1 rfl)) rfl ?_
                    refine WQ.q rfl (Yd.qt (Yd.load1 Try.isAgg3 rfl (by first | exact Rd.own (k := 0) rfl rfl | exact Rd.own (k := 1) rfl rfl | exact ((hR.bath.at k (by omega)).rd 2 rfl) | exact ((hR.dip.at (gt (madeL d by_ 0) k).dipper.toNat (by omega)).rd 2 rfl)))) rfl ?_
                    refine WQ.q rfl (Yd.qt (Yd.fieldAddr FA61_0 rfl)) rfl ?_
                    refine WQ.q rfl (Yd.qt (Yd.load1 Try.isAgg3 rfl (by first | exact Rd.own (k := 0) rfl rfl | exact Rd.own (k := 1) rfl rfl | exact ((hR.bath.at k (by omega)).rd 2 rfl) | exact ((hR.dip.at (gt (madeL d by_ 0) k).dipper.toNat (by omega)).rd 2 rfl)))) rfl ?_
                    refine WQ.q rfl (Yd.qt (Yd.shr rfl rfl (by omega))) rfl ?_
                    refine WQ.q rfl (Yd.qt (Yd.and1 rfl rfl)) rfl ?_
                    refine WQ.q rfl (Yd.qt (Yd.eql rfl rfl)) rfl ?_
                    refine WQ.q rfl (Yd.qt (Yd.move rfl)) rfl ?_
                    refine WQ.part 178 rfl (fun g178 => ?_) (fun g178 => ?_)
                    · try simp only [decide_eq_true_eq, decide_eq_false_iff_not, Bool.not_eq_true', Bool.not_eq_false', Int.not_lt, Int.not_le, Bool.not_true, Bool.not_false] at g178
                      refine WQ.skip rfl rfl rfl ?_
                      refine WQ.skip rfl rfl rfl ?_
                      refine WQ.skip rfl rfl rfl ?_
                      refine WQ.skip rfl rfl rfl ?_
                      refine WQ.skip rfl rfl rfl ?_
                      refine WQ.skip rfl rfl rfl ?_
                      refine WQ.skip rfl rfl rfl ?_
                      refine WQ.skip rfl rfl rfl ?_
                      refine WQ.skip rfl rfl rfl ?_
                      refine WQ.tail ?_
                      refine WL.skip rfl rfl ?_
                      refine WL.skip rfl rfl ?_
                      refine WL.skip rfl rfl ?_
                      refine WL.yd (Yd.pickT rfl rfl) rfl ?_
                      refine WL.yd (Yd.assign rfl) rfl ?_
                      refine WL.nil ?_
                      first
                        | (have g9 : bitN (gt d.bathers k).hours (gt (madeL d by_ 0) k).hour = 0 := g178
                           have hh : hourB' d (madeL d by_ 0) k = true := by unfold hourB'; rw [decide_eq_true g9]; rfl
                           exact WP.join () trivial (fun aa ww h => at_fr h ⟨rfl, rfl, rfl, rfl, rfl, rfl, rfl, by rw [hh]; rfl, trivial⟩))
                        | (have hh : hourB' d (madeL d by_ 0) k = decide (bitN (gt d.dippers (gt (madeL d by_ 0) k).dipper.toNat).hours (gt (madeL d by_ 0) k).hour = 0) := by
                             have g9 : ¬ bitN (gt d.bathers k).hours (gt (madeL d by_ 0) k).hour = 0 := g178
                             unfold hourB'; rw [decide_eq_false g9]; rfl
                           exact WP.join () trivial (fun aa ww h => at_fr h ⟨rfl, rfl, rfl, rfl, rfl, rfl, rfl, by rw [hh]; rfl, trivial⟩))
                    · try simp only [decide_eq_true_eq, decide_eq_false_iff_not, Bool.not_eq_true', Bool.not_eq_false', Int.not_lt, Int.not_le, Bool.not_true, Bool.not_false] at g178
                      refine WQ.qg rfl rfl (Yd.qt (Yd.fieldAddr FA25_1 rfl)) rfl ?_
                      refine WQ.qg rfl rfl (Yd.qt (Yd.load1 Try.isAgg22 rfl (by first | exact Rd.own (k := 0) rfl rfl | exact Rd.own (k := 1) rfl rfl | exact ((hR.bath.at k (by omega)).rd 2 rfl) | exact ((hR.dip.at (gt (madeL d by_ 0) k).dipper.toNat (by omega)).rd 2 rfl)))) rfl ?_
                      refine WQ.qg rfl rfl (Yd.qt (Yd.fieldAddr FA61_1 rfl)) rfl ?_
                      refine WQ.qg rfl rfl (Yd.qt (Yd.load1 Try.isAgg3 rfl (by first | exact Rd.own (k := 0) rfl rfl | exact Rd.own (k := 1) rfl rfl | exact ((hR.bath.at k (by omega)).rd 2 rfl) | exact ((hR.dip.at (gt (madeL d by_ 0) k).dipper.toNat (by omega)).rd 2 rfl)))) rfl ?_
                      refine WQ.qg rfl rfl (Yd.qt (Yd.indexS Try.underlying22 Try.sizeOf53 rfl rfl (by omega) (by omega) (by first | exact hR.dip.addr k (by omega) | exact hR.bath.addr k (by omega) | exact hP8.pl.addr k (by omega) | exact hR.dip.addr (gt (madeL d by_ 0) k).dipper.toNat (by omega)))) rfl ?_
                      refine WQ.qg rfl rfl (Yd.qt (Yd.fieldAddr FA53_1 rfl)) rfl ?_
                      refine WQ.qg rfl rfl (Yd.qt (Yd.load1 Try.isAgg3 rfl (by first | exact Rd.own (k := 0) rfl rfl | exact Rd.own (k := 1) rfl rfl | exact ((hR.bath.at k (by omega)).rd 2 rfl) | exact ((hR.dip.at (gt (madeL d by_ 0) k).dipper.toNat (by omega)).rd 2 rfl)))) rfl ?_
                      refine WQ.qg rfl rfl (Yd.qt (Yd.fieldAddr FA61_0 rfl)) rfl ?_
                      refine WQ.qg rfl rfl (Yd.qt (Yd.load1 Try.isAgg3 rfl (by first | exact Rd.own (k := 0) rfl rfl | exact Rd.own (k := 1) rfl rfl | exact ((hR.bath.at k (by omega)).rd 2 rfl) | exact ((hR.dip.at (gt (madeL d by_ 0) k).dipper.toNat (by omega)).rd 2 rfl)))) rfl ?_
                      refine WQ.tail ?_
                      refine WL.ydg rfl (Yd.shr rfl rfl (by omega)) rfl ?_
                      refine WL.ydg rfl (Yd.and1 rfl rfl) rfl ?_
                      refine WL.ydg rfl (Yd.eql rfl rfl) rfl ?_
                      refine WL.yd (Yd.pickF rfl rfl) rfl ?_
                      refine WL.yd (Yd.assign rfl) rfl ?_
                      refine WL.nil ?_
                      first
                        | (have g9 : bitN (gt d.bathers k).hours (gt (madeL d by_ 0) k).hour = 0 := g178
                           have hh : hourB' d (madeL d by_ 0) k = true := by unfold hourB'; rw [decide_eq_true g9]; rfl
                           exact WP.join () trivial (fun aa ww h => at_fr h ⟨rfl, rfl, rfl, rfl, rfl, rfl, rfl, by rw [hh]; rfl, trivial⟩))
                        | (have hh : hourB' d (madeL d by_ 0) k = decide (bitN (gt d.dippers (gt (madeL d by_ 0) k).dipper.toNat).hours (gt (madeL d by_ 0) k).hour = 0) := by
                             have g9 : ¬ bitN (gt d.bathers k).hours (gt (madeL d by_ 0) k).hour = 0 := g178
                             unfold hourB'; rw [decide_eq_false g9]; rfl
                           exact WP.join () trivial (fun aa ww h => at_fr h ⟨rfl, rfl, rfl, rfl, rfl, rfl, rfl, by rw [hh]; rfl, trivial⟩))

theorem check8_g (d : Dips) (a1 : Option Addr) (n1 c1 : Nat) (a2 : Option Addr) (n2 c2 : Nat) (D : Imm) (w : World) (hS1 : SlL D 3 (d.dippers.map dipperC) a1 n1) (hS2 : SlL D 3 (d.bathers.map batherC) a2 n2) (hH : Holds D w) (by_ : List Int) (a4 : Option Addr) (n4 c4 : Nat) (hS4 : SlL D 1 (by_.map u16C) a4 n4) (hby : ∀ i, i < by_.length → 0 ≤ gt by_ i ∧ gt by_ i ≤ 65535) : Gives Try.prog 8 [.agg #[it d.hours, .slice a1 n1 c1, .slice a2 n2 c2], .slice a4 n4 c4] w (.bool true) := by
  cases hv : dipsB d with
  | false => exact check8_1 d a1 n1 c1 a2 n2 c2 D w hS1 hS2 hH by_ a4 n4 c4 hS4 hby hv
  | true => exact check8_ok d a1 n1 c1 a2 n2 c2 D w hS1 hS2 hH by_ a4 n4 c4 hS4 hby hv

end Go.Proofs.Ytidjdonppfegiaa
