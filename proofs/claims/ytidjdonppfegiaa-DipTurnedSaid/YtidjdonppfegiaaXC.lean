import Derived.Test.YtidjdonppfegiaaXM
import Derived.Test.YtidjdonppfegiaaXA
set_option linter.unusedSimpArgs false
set_option linter.unusedVariables false
set_option linter.all false
namespace Go.Proofs.Ytidjdonppfegiaa
open Go.W Go.Dp
theorem FA25_0 : FieldAt Try.prog 25 0 0 := FieldAt.mk (t := 3) (off := 0) Try.underlying25 rfl Try.sizeOf3 (by decide)
theorem FA25_1 : FieldAt Try.prog 25 1 1 := FieldAt.mk (t := 22) (off := 1) Try.underlying25 rfl Try.sizeOf22 (by decide)
theorem FA25_2 : FieldAt Try.prog 25 2 2 := FieldAt.mk (t := 23) (off := 2) Try.underlying25 rfl Try.sizeOf23 (by decide)
theorem FA35_0 : FieldAt Try.prog 35 0 0 := FieldAt.mk (t := 3) (off := 0) Try.underlying35 rfl Try.sizeOf3 (by decide)
theorem FA35_1 : FieldAt Try.prog 35 1 1 := FieldAt.mk (t := 3) (off := 1) Try.underlying35 rfl Try.sizeOf3 (by decide)
theorem FA53_0 : FieldAt Try.prog 53 0 0 := FieldAt.mk (t := 35) (off := 0) Try.underlying53 rfl Try.sizeOf35 (by decide)
theorem FA53_1 : FieldAt Try.prog 53 1 2 := FieldAt.mk (t := 3) (off := 2) Try.underlying53 rfl Try.sizeOf3 (by decide)
theorem FA55_0 : FieldAt Try.prog 55 0 0 := FieldAt.mk (t := 35) (off := 0) Try.underlying55 rfl Try.sizeOf35 (by decide)
theorem FA55_1 : FieldAt Try.prog 55 1 2 := FieldAt.mk (t := 3) (off := 2) Try.underlying55 rfl Try.sizeOf3 (by decide)
set_option maxRecDepth 100000 in
set_option maxHeartbeats 1000000 in
theorem in_g (n lo hi : Int) (w : World) : Gives Try.prog 64 [it n, it lo, it hi] w (.bool (inB n lo hi)) := by
  unfold Gives
  refine enter Try.func64 rfl 15 Try.ntmps64 (Nat.le_of_ble_eq_true rfl) (Inv.start (D := fun _ => none) (by intro _ _ h; cases h)) ?_
  refine WC.seq ?_
  refine WC.ofFr [(0, _), (1, _), (2, _)] ⟨rfl, rfl, rfl, trivial⟩ ?_
  refine WC.region ?_
  refine WL.yd (Yd.assign rfl) rfl ?_
  refine WL.nil ?_
  refine WP.thenC ?_
  refine WC.seq ?_
  refine WC.ofFr [(6, _), (0, _), (1, _), (2, _)] ⟨rfl, rfl, rfl, rfl, trivial⟩ ?_
  refine WC.region ?_
  refine WL.yd (Yd.move rfl) rfl ?_
  refine WL.yd (Yd.move rfl) rfl ?_
  refine WL.yd (Yd.leq rfl rfl) rfl ?_
  refine WL.yd (Yd.move rfl) rfl ?_
  refine WL.part 10 rfl (fun g10 => ?_) (fun g10 => ?_)
  · try simp only [zq1, zq2, zq3, zq4, zq5, zq6, zq7, zq8] at g10
    refine WL.ydg rfl (Yd.move rfl) rfl ?_
    refine WL.ydg rfl (Yd.move rfl) rfl ?_
    refine WL.ydg rfl (Yd.leq rfl rfl) rfl ?_
    refine WL.yd (Yd.pickT rfl rfl) rfl ?_
    refine WL.yd (Yd.assign rfl) rfl ?_
    refine WL.nil ?_
    refine WP.thenC ?_
    refine WC.ret ?_
    refine WP.ret1 rfl rfl Try.results64 (RV.tmp rfl) (fun w hI => ⟨ret_bool (by rw [Bool.eq_iff_iff]; simp [inB]; omega), hI.keep⟩)
  · try simp only [zq1, zq2, zq3, zq4, zq5, zq6, zq7, zq8] at g10
    refine WL.skip rfl rfl ?_
    refine WL.skip rfl rfl ?_
    refine WL.skip rfl rfl ?_
    refine WL.yd (Yd.pickF rfl rfl) rfl ?_
    refine WL.yd (Yd.assign rfl) rfl ?_
    refine WL.nil ?_
    refine WP.thenC ?_
    refine WC.ret ?_
    refine WP.ret1 rfl rfl Try.results64 (RV.tmp rfl) (fun w hI => ⟨ret_bool (by rw [Bool.eq_iff_iff]; simp [inB]; omega), hI.keep⟩)

set_option maxRecDepth 100000 in
set_option maxHeartbeats 1000000 in
theorem power_g (n : Nat) (w : World) (hn : n ≤ 60) : Gives Try.prog 81 [nt n] w (nt (2 ^ n)) := by
  unfold Gives
  refine enter Try.func81 rfl 13 Try.ntmps81 (Nat.le_of_ble_eq_true rfl) (Inv.start (D := fun _ => none) (by intro _ _ h; cases h)) ?_
  refine WC.seq ?_
  refine WC.ofFr [(0, _)] ⟨rfl, trivial⟩ ?_
  refine WC.region ?_
  refine WL.yd (Yd.assign rfl) rfl ?_
  refine WL.nil ?_
  refine WP.thenC ?_
  refine WC.seq ?_
  refine WC.ofFr [(2, _), (0, _)] ⟨rfl, rfl, trivial⟩ ?_
  refine WC.region ?_
  refine WL.yd (Yd.assign rfl) rfl ?_
  refine WL.nil ?_
  refine WP.thenC ?_
  refine WC.seq ?_
  refine WC.seq ?_
  refine WC.ofFr [(3, _), (2, _), (0, _)] ⟨rfl, rfl, rfl, trivial⟩ ?_
  refine WC.region ?_
  refine WL.yd (Yd.assign rfl) rfl ?_
  refine WL.nil ?_
  refine WP.thenC ?_
  refine WC.block ?_
  refine WC.loopF (fun k : Nat => [(0, nt n), (3, nt (2 ^ k)), (4, nt k)]) (fun k => k ≤ n) (fun k => n - k) 0 (by omega) (by exact ⟨rfl, rfl, rfl, trivial⟩) ?_
  intro k hk
  have hb : ((2 ^ k : Nat) : Int) ≤ ((2 ^ 60 : Nat) : Int) := by exact_mod_cast Nat.pow_le_pow_right (by omega) (by omega)
  have hb0 : (0 : Int) ≤ ((2 ^ k : Nat) : Int) := Int.natCast_nonneg _
  have hb' : ((2 ^ 60 : Nat) : Int) = 1152921504606846976 := by decide
  refine WC.seq ?_
  refine WC.seq ?_
  refine WC.ofFr [(0, _), (3, _), (4, _)] ⟨rfl, rfl, rfl, trivial⟩ ?_
  refine WC.region ?_
  refine WL.yd (Yd.move rfl) rfl ?_
  refine WL.yd (Yd.move rfl) rfl ?_
  refine WL.yd (Yd.lss rfl rfl) rfl ?_
  refine WL.nil ?_
  refine WP.thenC ?_
  refine WC.cond rfl (fun c7 => ?_) (fun c7 => ?_)
  · try simp only [zq1, zq2, zq3, zq4, zq5, zq6, zq7, zq8] at c7
    refine WC.skip ?_
    refine WP.thenC ?_
    refine WC.seq ?_
    refine WC.block ?_
    refine WC.ofFr [(0, _), (3, _), (4, _)] ⟨rfl, rfl, rfl, trivial⟩ ?_
    refine WC.region ?_
    refine WL.yd (Yd.move rfl) rfl ?_
    refine WL.yd (Yd.mul rfl rfl (wr64 ⟨by omega, by omega⟩)) rfl ?_
    refine WL.yd (Yd.assign rfl) rfl ?_
    refine WL.nil ?_
    refine WP.blkNormal ?_
    refine WP.thenC ?_
    refine WC.ofFr [(3, _), (0, _), (4, _)] ⟨rfl, rfl, rfl, trivial⟩ ?_
    refine WC.region ?_
    refine WL.yd (Yd.move rfl) rfl ?_
    refine WL.yd (Yd.add rfl rfl (wr64 ⟨by omega, by omega⟩)) rfl ?_
    refine WL.yd (Yd.assign rfl) rfl ?_
    refine WL.nil ?_
    exact WP.againF (k + 1) (by omega) (by omega) ⟨rfl, by rw [show nt (2 ^ (k + 1)) = it (2 * ((2 ^ k : Nat) : Int)) from by simp only [nt, it, Nat.pow_succ]; congr 1; push_cast; omega]; rfl, rfl, trivial⟩ (fun _ h => h) (fun h => h)
  · try simp only [zq1, zq2, zq3, zq4, zq5, zq6, zq7, zq8] at c7
    refine WC.exit ?_
    refine WP.thenExit ?_
    refine WP.thenExit ?_
    refine WP.blkHit ?_
    refine WP.thenC ?_
    refine WC.seq ?_
    refine WC.ofFr [(3, _)] ⟨rfl, trivial⟩ ?_
    refine WC.region ?_
    refine WL.yd (Yd.move rfl) rfl ?_
    refine WL.yd (Yd.assign rfl) rfl ?_
    refine WL.nil ?_
    refine WP.thenC ?_
    refine WC.ret ?_
    refine WP.ret1 rfl rfl Try.results81 (RV.tmp rfl) (fun w hI => ⟨by rw [show k = n from by omega], hI.keep⟩)

set_option maxRecDepth 100000 in
set_option maxHeartbeats 1000000 in
theorem has_g (s n : Int) (w : World) (hs : 0 ≤ s ∧ s ≤ 1000000) (h0 : 0 ≤ n) (hn : n ≤ 60) : Gives Try.prog 65 [it s, it n] w (.bool (hasB s n)) := by
  unfold Gives
  have hb : (0 : Int) < ((2 ^ n.toNat : Nat) : Int) := by have := Nat.pow_pos (n := n.toNat) (show 0 < 2 by omega); omega
  have hq0 : 0 ≤ s / ((2 ^ n.toNat : Nat) : Int) := Int.ediv_nonneg (by omega) (by omega)
  have hq1 : s / ((2 ^ n.toNat : Nat) : Int) ≤ s := Int.ediv_le_self _ (by omega)
  obtain ⟨m, rfl⟩ := Int.eq_ofNat_of_zero_le h0
  simp only [Int.toNat_natCast] at *
  refine enter Try.func65 rfl 11 Try.ntmps65 (Nat.le_of_ble_eq_true rfl) (Inv.start (D := fun _ => none) (by intro _ _ h; cases h)) ?_
  refine WC.seq ?_
  refine WC.ofFr [(0, _), (1, _)] ⟨rfl, rfl, trivial⟩ ?_
  refine WC.region ?_
  refine WL.yd (Yd.assign rfl) rfl ?_
  refine WL.nil ?_
  refine WP.thenC ?_
  refine WC.seq ?_
  refine WC.ofFr [(4, _), (0, _), (1, _)] ⟨rfl, rfl, rfl, trivial⟩ ?_
  refine WC.region ?_
  refine WL.yd (Yd.move rfl) rfl ?_
  refine WL.yd (Yd.move rfl) rfl ?_
  refine WL.so (SO.callP Try.call81 rfl (fun w hI => power_g m _ (by clear hb hq0 hq1; omega))) rfl ?_
  rintro _ _ _ ⟨rfl, rfl, rfl⟩
  refine WL.yd (Yd.quo rfl rfl (by omega) (by omega) (wr64 ⟨by omega, by omega⟩)) rfl ?_
  refine WL.yd (Yd.rem rfl rfl (by omega) (by omega)) rfl ?_
  refine WL.yd (Yd.eql rfl rfl) rfl ?_
  refine WL.yd (Yd.assign rfl) rfl ?_
  refine WL.nil ?_
  refine WP.thenC ?_
  refine WC.ret ?_
  refine WP.ret1 rfl rfl Try.results65 (RV.tmp rfl) (fun w hI => ⟨rfl, hI.keep⟩)

set_option maxRecDepth 100000 in
set_option maxHeartbeats 1000000 in
theorem span_g (s : Sp) (lo hi : Int) (w : World) : Gives Try.prog 86 [.agg #[it s.lo, it s.hi], it lo, it hi] w (.bool (spanB s lo hi)) := by
  unfold Gives
  refine enter Try.func86 rfl 24 Try.ntmps86 (Nat.le_of_ble_eq_true rfl) (Inv.start (D := fun _ => none) (by intro _ _ h; cases h)) ?_
  refine WC.seq ?_
  refine WC.ofFr [(0, _), (1, _), (2, _)] ⟨rfl, rfl, rfl, trivial⟩ ?_
  refine WC.region ?_
  refine WL.so (SO.box rfl rfl) rfl ?_
  rintro _ _ _ ⟨b3, hb3, rfl, rfl, rfl⟩ -- NEW
  refine WL.yd (Yd.assign rfl) rfl ?_
  refine WL.nil ?_
  refine WP.thenC ?_
  refine WC.seq ?_
  refine WC.ofFr [(6, _), (3, _), (1, _), (2, _)] ⟨rfl, rfl, rfl, rfl, trivial⟩ ?_
  refine WC.region ?_
  refine WL.yd (Yd.move rfl) rfl ?_
  refine WL.yd (Yd.fieldAddr FA35_0 rfl) rfl ?_
  refine WL.yd (Yd.load1 Try.isAgg3 rfl (by first | exact Rd.own (k := 0) rfl rfl)) rfl ?_
  refine WL.yd (Yd.leq rfl rfl) rfl ?_
  refine WL.yd (Yd.move rfl) rfl ?_
  refine WL.part 11 rfl (fun g11 => ?_) (fun g11 => ?_)
  · try simp only [zq1, zq2, zq3, zq4, zq5, zq6, zq7, zq8] at g11
    refine WL.ydg rfl (Yd.fieldAddr FA35_0 rfl) rfl ?_
    refine WL.ydg rfl (Yd.load1 Try.isAgg3 rfl (by first | exact Rd.own (k := 0) rfl rfl)) rfl ?_
    refine WL.ydg rfl (Yd.fieldAddr FA35_1 rfl) rfl ?_
    refine WL.ydg rfl (Yd.load1 Try.isAgg3 rfl (by first | exact Rd.own (k := 0) rfl rfl)) rfl ?_
    refine WL.ydg rfl (Yd.leq rfl rfl) rfl ?_
    refine WL.yd (Yd.pickT rfl rfl) rfl ?_
    refine WL.yd (Yd.move rfl) rfl ?_
    refine WL.part 18 rfl (fun g18 => ?_) (fun g18 => ?_)
    · try simp only [zq1, zq2, zq3, zq4, zq5, zq6, zq7, zq8] at g18
      refine WL.ydg rfl (Yd.fieldAddr FA35_1 rfl) rfl ?_
      refine WL.ydg rfl (Yd.load1 Try.isAgg3 rfl (by first | exact Rd.own (k := 0) rfl rfl)) rfl ?_
      refine WL.ydg rfl (Yd.move rfl) rfl ?_
      refine WL.ydg rfl (Yd.leq rfl rfl) rfl ?_
      refine WL.yd (Yd.pickT rfl rfl) rfl ?_
      refine WL.yd (Yd.assign rfl) rfl ?_
      refine WL.nil ?_
      refine WP.thenC ?_
      refine WC.ret ?_
      refine WP.ret1 rfl rfl Try.results86 (RV.tmp rfl) (fun w hI => ⟨ret_bool (by rw [Bool.eq_iff_iff]; simp [spanB]; omega), hI.keep⟩)
    · try simp only [zq1, zq2, zq3, zq4, zq5, zq6, zq7, zq8] at g18
      refine WL.skip rfl rfl ?_
      refine WL.skip rfl rfl ?_
      refine WL.skip rfl rfl ?_
      refine WL.skip rfl rfl ?_
      refine WL.yd (Yd.pickF rfl rfl) rfl ?_
      refine WL.yd (Yd.assign rfl) rfl ?_
      refine WL.nil ?_
      refine WP.thenC ?_
      refine WC.ret ?_
      refine WP.ret1 rfl rfl Try.results86 (RV.tmp rfl) (fun w hI => ⟨ret_bool (by rw [Bool.eq_iff_iff]; simp [spanB]; omega), hI.keep⟩)
  · try simp only [zq1, zq2, zq3, zq4, zq5, zq6, zq7, zq8] at g11
    refine WL.skip rfl rfl ?_
    refine WL.skip rfl rfl ?_
    refine WL.skip rfl rfl ?_
    refine WL.skip rfl rfl ?_
    refine WL.skip rfl rfl ?_
    refine WL.yd (Yd.pickF rfl rfl) rfl ?_
    refine WL.yd (Yd.move rfl) rfl ?_
    refine WL.skip rfl rfl ?_
    refine WL.skip rfl rfl ?_
    refine WL.skip rfl rfl ?_
    refine WL.skip rfl rfl ?_
    refine WL.yd (Yd.pickF rfl rfl) rfl ?_
    refine WL.yd (Yd.assign rfl) rfl ?_
    refine WL.nil ?_
    refine WP.thenC ?_
    refine WC.ret ?_
    refine WP.ret1 rfl rfl Try.results86 (RV.tmp rfl) (fun w hI => ⟨ret_bool (by rw [Bool.eq_iff_iff]; simp [spanB]; omega), hI.keep⟩)

theorem power_i (n : Int) (w : World) (h0 : 0 ≤ n) (hn : n ≤ 60) : Gives Try.prog 81 [it n] w (nt (2 ^ n.toNat)) := by
  have h := power_g n.toNat w (by omega)
  have e : ((n.toNat : Nat) : Int) = n := Int.toNat_of_nonneg h0
  simpa only [nt, it, e] using h

set_option maxRecDepth 100000 in
set_option maxHeartbeats 1000000 in
theorem dips_g (d : Dips) (a1 : Option Addr) (n1 c1 : Nat) (a2 : Option Addr) (n2 c2 : Nat) (D : Imm) (w : World) (hR : DipsR D d a1 n1 a2 n2) (hH : Holds D w) : Gives Try.prog 36 [.agg #[it d.hours, .slice a1 n1 c1, .slice a2 n2 c2]] w (.bool (dipsB d)) := by
  unfold Gives
  obtain rfl := hR.dip.len'
  obtain rfl := hR.bath.len'
  have hl1 := hR.len1
  have hl2 := hR.len2
  refine enter Try.func36 rfl 79 Try.ntmps36 (Nat.le_of_ble_eq_true rfl) (Inv.start hH) ?_
  refine WC.seq ?_
  refine WC.ofFr [(0, _)] ⟨rfl, trivial⟩ ?_
  refine WC.region ?_
  refine WL.so (SO.box rfl rfl) rfl ?_
  rintro _ _ _ ⟨b1, hb1, rfl, rfl, rfl⟩ -- NEW
  refine WL.yd (Yd.assign rfl) rfl ?_
  refine WL.nil ?_
  refine WP.thenC ?_
  refine WC.seq ?_
  refine WC.seq ?_
  refine WC.ofFr [(2, _), (1, _)] ⟨rfl, rfl, trivial⟩ ?_
  refine WC.region ?_
  refine WL.yd (Yd.fieldAddr FA25_0 rfl) rfl ?_
  refine WL.yd (Yd.load1 Try.isAgg3 rfl (by first | exact Rd.own (k := 0) rfl rfl | exact (hR.dip.at k (by omega)).rd 0 rfl | exact (hR.dip.at k (by omega)).rd 1 rfl | exact (hR.dip.at k (by omega)).rd 2 rfl | exact (hR.bath.at k (by omega)).rd 0 rfl | exact (hR.bath.at k (by omega)).rd 1 rfl | exact (hR.bath.at k (by omega)).rd 2 rfl)) rfl ?_
  refine WL.so (SO.callP Try.call64 rfl (fun w hI => in_g _ _ _ _)) rfl ?_
  rintro _ _ _ ⟨rfl, rfl, rfl⟩
  refine WL.yd (Yd.not rfl) rfl ?_
  refine WL.yd (Yd.move rfl) rfl ?_
  refine WL.part 9 rfl (fun g9 => ?_) (fun g9 => ?_)
  · try simp only [zq1, zq2, zq3, zq4, zq5, zq6, zq7, zq8] at g9
    refine WL.skip rfl rfl ?_
    refine WL.skip rfl rfl ?_
    refine WL.skip rfl rfl ?_
    refine WL.skip rfl rfl ?_
    refine WL.yd (Yd.pickT rfl rfl) rfl ?_
    refine WL.yd (Yd.move rfl) rfl ?_
    refine WL.skip rfl rfl ?_
    refine WL.skip rfl rfl ?_
    refine WL.skip rfl rfl ?_
    refine WL.skip rfl rfl ?_
    refine WL.yd (Yd.pickT rfl rfl) rfl ?_
    refine WL.nil ?_
    refine WP.thenC ?_
    refine WC.condT rfl ?_
    refine WC.seq ?_
    refine WC.ofFr [(2, _), (1, _)] ⟨rfl, rfl, trivial⟩ ?_
    refine WC.region ?_
    refine WL.yd (Yd.assign rfl) rfl ?_
    refine WL.nil ?_
    refine WP.thenC ?_
    refine WC.ret ?_
    refine WP.thenRet ?_
    refine WP.ret1 rfl rfl Try.results36 (RV.tmp rfl) (fun w hI => ⟨ret_bool (by
            rw [Bool.eq_iff_iff, dipsB_iff]
            first
              | (refine ⟨fun h => absurd h (by decide), fun ⟨h1, h2, h3, h4, h5⟩ => ?_⟩
                 exfalso
                 first | omega | (exact absurd (g9.symm.trans h1) (by decide)) | (have := h4 k (by omega); simp_all [dipperB, setB]; done) | (have := h5 k (by omega); simp_all [batherB, setB]; done))
              | exact ⟨fun _ => ⟨g9, by omega, by omega, hd', fun i hi => hd i (by omega)⟩, fun _ => rfl⟩), hI.keep⟩)
  · try simp only [zq1, zq2, zq3, zq4, zq5, zq6, zq7, zq8] at g9
    have hh : 1 ≤ d.hours ∧ d.hours ≤ 4 := by simpa [inB] using g9
    have hp1 : ((2 ^ d.hours.toNat : Nat) : Int) ≤ ((2 ^ 4 : Nat) : Int) := by exact_mod_cast Nat.pow_le_pow_right (by omega) (by omega)
    have hp0 : (0 : Int) ≤ ((2 ^ d.hours.toNat : Nat) : Int) := Int.natCast_nonneg _
    refine WL.ydg rfl (Yd.fieldAddr FA25_1 rfl) rfl ?_
    refine WL.ydg rfl (Yd.load1 Try.isAgg22 rfl (by first | exact Rd.own (k := 0) rfl rfl | exact (hR.dip.at k (by omega)).rd 0 rfl | exact (hR.dip.at k (by omega)).rd 1 rfl | exact (hR.dip.at k (by omega)).rd 2 rfl | exact (hR.bath.at k (by omega)).rd 0 rfl | exact (hR.bath.at k (by omega)).rd 1 rfl | exact (hR.bath.at k (by omega)).rd 2 rfl)) rfl ?_
    refine WL.ydg rfl (Yd.lenS rfl Try.underlying22 rfl) rfl ?_
    refine WL.ydg rfl (Yd.gtr rfl rfl) rfl ?_
    refine WL.yd (Yd.pickF rfl rfl) rfl ?_
    refine WL.yd (Yd.move rfl) rfl ?_
    refine WL.part 15 rfl (fun g15 => ?_) (fun g15 => ?_)
    · try simp only [zq1, zq2, zq3, zq4, zq5, zq6, zq7, zq8] at g15
      refine WL.skip rfl rfl ?_
      refine WL.skip rfl rfl ?_
      refine WL.skip rfl rfl ?_
      refine WL.skip rfl rfl ?_
      refine WL.yd (Yd.pickT rfl rfl) rfl ?_
      refine WL.nil ?_
      refine WP.thenC ?_
      refine WC.condT rfl ?_
      refine WC.seq ?_
      refine WC.ofFr [(2, _), (1, _)] ⟨rfl, rfl, trivial⟩ ?_
      refine WC.region ?_
      refine WL.yd (Yd.assign rfl) rfl ?_
      refine WL.nil ?_
      refine WP.thenC ?_
      refine WC.ret ?_
      refine WP.thenRet ?_
      refine WP.ret1 rfl rfl Try.results36 (RV.tmp rfl) (fun w hI => ⟨ret_bool (by
              rw [Bool.eq_iff_iff, dipsB_iff]
              first
                | (refine ⟨fun h => absurd h (by decide), fun ⟨h1, h2, h3, h4, h5⟩ => ?_⟩
                   exfalso
                   first | omega | (exact absurd (g9.symm.trans h1) (by decide)) | (have := h4 k (by omega); simp_all [dipperB, setB]; done) | (have := h5 k (by omega); simp_all [batherB, setB]; done))
                | exact ⟨fun _ => ⟨g9, by omega, by omega, hd', fun i hi => hd i (by omega)⟩, fun _ => rfl⟩), hI.keep⟩)
    · try simp only [zq1, zq2, zq3, zq4, zq5, zq6, zq7, zq8] at g15
      refine WL.ydg rfl (Yd.fieldAddr FA25_2 rfl) rfl ?_
      refine WL.ydg rfl (Yd.load1 Try.isAgg23 rfl (by first | exact Rd.own (k := 0) rfl rfl | exact (hR.dip.at k (by omega)).rd 0 rfl | exact (hR.dip.at k (by omega)).rd 1 rfl | exact (hR.dip.at k (by omega)).rd 2 rfl | exact (hR.bath.at k (by omega)).rd 0 rfl | exact (hR.bath.at k (by omega)).rd 1 rfl | exact (hR.bath.at k (by omega)).rd 2 rfl)) rfl ?_
      refine WL.ydg rfl (Yd.lenS rfl Try.underlying23 rfl) rfl ?_
      refine WL.ydg rfl (Yd.gtr rfl rfl) rfl ?_
      refine WL.yd (Yd.pickF rfl rfl) rfl ?_
      refine WL.nil ?_
      refine WP.thenC ?_
      refine WC.cond rfl (fun c20 => ?_) (fun c20 => ?_)
      · try simp only [zq1, zq2, zq3, zq4, zq5, zq6, zq7, zq8] at c20
        refine WC.seq ?_
        refine WC.ofFr [(2, _), (1, _)] ⟨rfl, rfl, trivial⟩ ?_
        refine WC.region ?_
        refine WL.yd (Yd.assign rfl) rfl ?_
        refine WL.nil ?_
        refine WP.thenC ?_
        refine WC.ret ?_
        refine WP.thenRet ?_
        refine WP.ret1 rfl rfl Try.results36 (RV.tmp rfl) (fun w hI => ⟨ret_bool (by
                rw [Bool.eq_iff_iff, dipsB_iff]
                first
                  | (refine ⟨fun h => absurd h (by decide), fun ⟨h1, h2, h3, h4, h5⟩ => ?_⟩
                     exfalso
                     first | omega | (exact absurd (g9.symm.trans h1) (by decide)) | (have := h4 k (by omega); simp_all [dipperB, setB]; done) | (have := h5 k (by omega); simp_all [batherB, setB]; done))
                  | exact ⟨fun _ => ⟨g9, by omega, by omega, hd', fun i hi => hd i (by omega)⟩, fun _ => rfl⟩), hI.keep⟩)
      · try simp only [zq1, zq2, zq3, zq4, zq5, zq6, zq7, zq8] at c20
        refine WC.skip ?_
        refine WP.thenC ?_
        refine WC.seq ?_
        refine WC.seq ?_
        refine WC.ofFr [(2, _), (1, _)] ⟨rfl, rfl, trivial⟩ ?_
        refine WC.region ?_
        refine WL.yd (Yd.assign rfl) rfl ?_
        refine WL.nil ?_
        refine WP.thenC ?_
        refine WC.block ?_
        refine WC.loopF (fun k : Nat => [(1, pt b1), (3, nt k)]) (fun k => k ≤ d.dippers.length ∧ ∀ i, i < k → dipperB d.hours (gt d.dippers i) = true) (fun k => d.dippers.length - k) 0 ⟨by omega, by intro i hi; omega⟩ (by exact ⟨rfl, rfl, trivial⟩) ?_
        intro k ⟨hk, hd⟩
        refine WC.seq ?_
        refine WC.seq ?_
        refine WC.ofFr [(1, _), (3, _)] ⟨rfl, rfl, trivial⟩ ?_
        refine WC.region ?_
        refine WL.yd (Yd.move rfl) rfl ?_
        refine WL.yd (Yd.fieldAddr FA25_1 rfl) rfl ?_
        refine WL.yd (Yd.load1 Try.isAgg22 rfl (by first | exact Rd.own (k := 0) rfl rfl | exact (hR.dip.at k (by omega)).rd 0 rfl | exact (hR.dip.at k (by omega)).rd 1 rfl | exact (hR.dip.at k (by omega)).rd 2 rfl | exact (hR.bath.at k (by omega)).rd 0 rfl | exact (hR.bath.at k (by omega)).rd 1 rfl | exact (hR.bath.at k (by omega)).rd 2 rfl)) rfl ?_
        refine WL.yd (Yd.lenS rfl Try.underlying22 rfl) rfl ?_
        refine WL.yd (Yd.lss rfl rfl) rfl ?_
        refine WL.nil ?_
        refine WP.thenC ?_
        refine WC.cond rfl (fun c25 => ?_) (fun c25 => ?_)
        · try simp only [zq1, zq2, zq3, zq4, zq5, zq6, zq7, zq8] at c25
          refine WC.skip ?_
          refine WP.thenC ?_
          refine WC.seq ?_
          refine WC.block ?_
          refine WC.seq ?_
          refine WC.ofFr [(1, _), (3, _)] ⟨rfl, rfl, trivial⟩ ?_
          refine WC.tail 19 [0, 1, 2, 3, 4, 5, 6, 7, 8, 9, 10, 11, 12, 13, 14, 15, 16, 17, 18] rfl (by kernel_rfl) (by kernel_rfl)  ?_
          refine WQ.q rfl (Yd.qt (Yd.fieldAddr FA25_1 rfl)) rfl ?_
          refine WQ.q rfl (Yd.qt (Yd.load1 Try.isAgg22 rfl (by first | exact Rd.own (k := 0) rfl rfl | exact (hR.dip.at k (by omega)).rd 0 rfl | exact (hR.dip.at k (by omega)).rd 1 rfl | exact (hR.dip.at k (by omega)).rd 2 rfl | exact (hR.bath.at k (by omega)).rd 0 rfl | exact (hR.bath.at k (by omega)).rd 1 rfl | exact (hR.bath.at k (by omega)).rd 2 rfl))) rfl ?_
          refine WQ.q rfl (Yd.qt (Yd.move rfl)) rfl ?_
          refine WQ.q rfl (Yd.qt (Yd.indexS Try.underlying22 Try.sizeOf53 rfl rfl (by omega) (by omega) (by first | exact hR.dip.addr k (by omega) | exact hR.bath.addr k (by omega)))) rfl ?_
          refine WQ.q rfl (Yd.qt (Yd.fieldAddr FA53_0 rfl)) rfl ?_
          refine WQ.q rfl (Yd.qt (Yd.loadN Try.isAgg35 Try.sizeOf35 rfl (vs := [_, _]) rfl (by first | exact RdN.own (k := 0) (n := 2) rfl rfl | exact (hR.dip.at k (by omega)).rdn 0 2 rfl | exact (hR.bath.at k (by omega)).rdn 0 2 rfl | exact (hR.dip.at k (by omega)).rdn 0 3 rfl | exact (hR.bath.at k (by omega)).rdn 0 3 rfl))) rfl ?_
          refine WQ.q rfl (Qt.callP Try.call86 rfl (fun w hI => span_g ⟨_, _⟩ _ _ _)) rfl ?_
          refine WQ.q rfl (Yd.qt (Yd.not rfl)) rfl ?_
          refine WQ.q rfl (Yd.qt (Yd.move rfl)) rfl ?_
          refine WQ.part 36 rfl (fun g36 => ?_) (fun g36 => ?_)
          · try simp only [zq1, zq2, zq3, zq4, zq5, zq6, zq7, zq8] at g36
            refine WQ.skip rfl rfl rfl ?_
            refine WQ.skip rfl rfl rfl ?_
            refine WQ.skip rfl rfl rfl ?_
            refine WQ.skip rfl rfl rfl ?_
            refine WQ.skip rfl rfl rfl ?_
            refine WQ.skip rfl rfl rfl ?_
            refine WQ.skip rfl rfl rfl ?_
            refine WQ.skip rfl rfl rfl ?_
            refine WQ.skip rfl rfl rfl ?_
            refine WQ.skip rfl rfl rfl ?_
            refine WQ.tail ?_
            refine WL.skip rfl rfl ?_
            refine WL.skip rfl rfl ?_
            refine WL.yd (Yd.pickT rfl rfl) rfl ?_
            refine WL.nil ?_
            refine WP.thenC ?_
            refine WC.condT rfl ?_
            refine WC.seq ?_
            refine WC.ofFr [(1, _), (3, _)] ⟨rfl, rfl, trivial⟩ ?_
            refine WC.region ?_
            refine WL.yd (Yd.assign rfl) rfl ?_
            refine WL.nil ?_
            refine WP.thenC ?_
            refine WC.ret ?_
            refine WP.blkRet ?_
            refine WP.thenRet ?_
            refine WP.thenRet ?_
            refine WP.blkRet ?_
            refine WP.thenRet ?_
            refine WP.ret1 rfl rfl Try.results36 (RV.tmp rfl) (fun w hI => ⟨ret_bool (by
                    rw [Bool.eq_iff_iff, dipsB_iff]
                    first
                      | (refine ⟨fun h => absurd h (by decide), fun ⟨h1, h2, h3, h4, h5⟩ => ?_⟩
                         exfalso
                         first | omega | (exact absurd (g9.symm.trans h1) (by decide)) | (have := h4 k (by omega); simp_all [dipperB, setB]; done) | (have := h5 k (by omega); simp_all [batherB, setB]; done))
                      | exact ⟨fun _ => ⟨g9, by omega, by omega, hd', fun i hi => hd i (by omega)⟩, fun _ => rfl⟩), hI.keep⟩)
          · try simp only [zq1, zq2, zq3, zq4, zq5, zq6, zq7, zq8] at g36
            refine WQ.qg rfl rfl (Yd.qt (Yd.fieldAddr FA25_1 rfl)) rfl ?_
            refine WQ.qg rfl rfl (Yd.qt (Yd.load1 Try.isAgg22 rfl (by first | exact Rd.own (k := 0) rfl rfl | exact (hR.dip.at k (by omega)).rd 0 rfl | exact (hR.dip.at k (by omega)).rd 1 rfl | exact (hR.dip.at k (by omega)).rd 2 rfl | exact (hR.bath.at k (by omega)).rd 0 rfl | exact (hR.bath.at k (by omega)).rd 1 rfl | exact (hR.bath.at k (by omega)).rd 2 rfl))) rfl ?_
            refine WQ.qg rfl rfl (Yd.qt (Yd.move rfl)) rfl ?_
            refine WQ.qg rfl rfl (Yd.qt (Yd.indexS Try.underlying22 Try.sizeOf53 rfl rfl (by omega) (by omega) (by first | exact hR.dip.addr k (by omega) | exact hR.bath.addr k (by omega)))) rfl ?_
            refine WQ.qg rfl rfl (Yd.qt (Yd.fieldAddr FA53_1 rfl)) rfl ?_
            refine WQ.qg rfl rfl (Yd.qt (Yd.load1 Try.isAgg3 rfl (by first | exact Rd.own (k := 0) rfl rfl | exact (hR.dip.at k (by omega)).rd 0 rfl | exact (hR.dip.at k (by omega)).rd 1 rfl | exact (hR.dip.at k (by omega)).rd 2 rfl | exact (hR.bath.at k (by omega)).rd 0 rfl | exact (hR.bath.at k (by omega)).rd 1 rfl | exact (hR.bath.at k (by omega)).rd 2 rfl))) rfl ?_
            refine WQ.qg rfl rfl (Yd.qt (Yd.fieldAddr FA25_0 rfl)) rfl ?_
            refine WQ.qg rfl rfl (Yd.qt (Yd.load1 Try.isAgg3 rfl (by first | exact Rd.own (k := 0) rfl rfl | exact (hR.dip.at k (by omega)).rd 0 rfl | exact (hR.dip.at k (by omega)).rd 1 rfl | exact (hR.dip.at k (by omega)).rd 2 rfl | exact (hR.bath.at k (by omega)).rd 0 rfl | exact (hR.bath.at k (by omega)).rd 1 rfl | exact (hR.bath.at k (by omega)).rd 2 rfl))) rfl ?_
            refine WQ.qg rfl rfl (Qt.callP Try.call81 rfl (fun w hI => power_i _ _ (by omega) (by omega))) rfl ?_
            refine WQ.qg rfl rfl (Yd.qt (Yd.sub rfl rfl (wr64 ⟨by omega, by omega⟩))) rfl ?_
            refine WQ.tail ?_
            refine WL.sog rfl (SO.callP Try.call64 rfl (fun w hI => in_g _ _ _ _)) rfl ?_
            rintro _ _ _ ⟨rfl, rfl, rfl⟩
            refine WL.ydg rfl (Yd.not rfl) rfl ?_
            refine WL.yd (Yd.pickF rfl rfl) rfl ?_
            refine WL.nil ?_
            refine WP.thenC ?_
            refine WC.cond rfl (fun c49 => ?_) (fun c49 => ?_)
            · try simp only [zq1, zq2, zq3, zq4, zq5, zq6, zq7, zq8] at c49
              refine WC.seq ?_
              refine WC.ofFr [(1, _), (3, _)] ⟨rfl, rfl, trivial⟩ ?_
              refine WC.region ?_
              refine WL.yd (Yd.assign rfl) rfl ?_
              refine WL.nil ?_
              refine WP.thenC ?_
              refine WC.ret ?_
              refine WP.blkRet ?_
              refine WP.thenRet ?_
              refine WP.thenRet ?_
              refine WP.blkRet ?_
              refine WP.thenRet ?_
              refine WP.ret1 rfl rfl Try.results36 (RV.tmp rfl) (fun w hI => ⟨ret_bool (by
                      rw [Bool.eq_iff_iff, dipsB_iff]
                      first
                        | (refine ⟨fun h => absurd h (by decide), fun ⟨h1, h2, h3, h4, h5⟩ => ?_⟩
                           exfalso
                           first | omega | (exact absurd (g9.symm.trans h1) (by decide)) | (have := h4 k (by omega); simp_all [dipperB, setB]; done) | (have := h5 k (by omega); simp_all [batherB, setB]; done))
                        | exact ⟨fun _ => ⟨g9, by omega, by omega, hd', fun i hi => hd i (by omega)⟩, fun _ => rfl⟩), hI.keep⟩)
            · try simp only [zq1, zq2, zq3, zq4, zq5, zq6, zq7, zq8] at c49
              refine WC.skip ?_
              refine WP.blkNormal ?_
              refine WP.thenC ?_
              refine WC.ofFr [(1, _), (3, _)] ⟨rfl, rfl, trivial⟩ ?_
              refine WC.region ?_
              refine WL.yd (Yd.move rfl) rfl ?_
              refine WL.yd (Yd.add rfl rfl (wr64 ⟨by omega, by omega⟩)) rfl ?_
              refine WL.yd (Yd.assign rfl) rfl ?_
              refine WL.nil ?_
              exact WP.againF (k + 1) ⟨by omega, ext_round hd (by simp_all [dipperB, setB])⟩ (by omega) ⟨rfl, rfl, trivial⟩ (fun _ h => h) (fun h => h)
        · try simp only [zq1, zq2, zq3, zq4, zq5, zq6, zq7, zq8] at c25
          refine WC.exit ?_
          refine WP.thenExit ?_
          refine WP.thenExit ?_
          refine WP.blkHit ?_
          refine WP.thenC ?_
          refine WC.seq ?_
          refine WC.seq ?_
          refine WC.ofFr [(1, _)] ⟨rfl, trivial⟩ ?_
          refine WC.region ?_
          refine WL.yd (Yd.assign rfl) rfl ?_
          refine WL.nil ?_
          refine WP.thenC ?_
          refine WC.block ?_
          have hd' : ∀ i, i < d.dippers.length → dipperB d.hours (gt d.dippers i) = true := fun i hi => hd i (by omega)
          clear hd hk
          refine WC.loopF (fun k : Nat => [(1, pt b1), (4, nt k)]) (fun k => k ≤ d.bathers.length ∧ ∀ i, i < k → batherB d.hours (gt d.bathers i) = true) (fun k => d.bathers.length - k) 0 ⟨by omega, by intro i hi; omega⟩ (by exact ⟨rfl, rfl, trivial⟩) ?_
          clear c25 k
          intro k ⟨hk, hd⟩
          refine WC.seq ?_
          refine WC.seq ?_
          refine WC.ofFr [(1, _), (4, _)] ⟨rfl, rfl, trivial⟩ ?_
          refine WC.region ?_
          refine WL.yd (Yd.move rfl) rfl ?_
          refine WL.yd (Yd.fieldAddr FA25_2 rfl) rfl ?_
          refine WL.yd (Yd.load1 Try.isAgg23 rfl (by first | exact Rd.own (k := 0) rfl rfl | exact (hR.dip.at k (by omega)).rd 0 rfl | exact (hR.dip.at k (by omega)).rd 1 rfl | exact (hR.dip.at k (by omega)).rd 2 rfl | exact (hR.bath.at k (by omega)).rd 0 rfl | exact (hR.bath.at k (by omega)).rd 1 rfl | exact (hR.bath.at k (by omega)).rd 2 rfl)) rfl ?_
          refine WL.yd (Yd.lenS rfl Try.underlying23 rfl) rfl ?_
          refine WL.yd (Yd.lss rfl rfl) rfl ?_
          refine WL.nil ?_
          refine WP.thenC ?_
          refine WC.cond rfl (fun c54 => ?_) (fun c54 => ?_)
          · try simp only [zq1, zq2, zq3, zq4, zq5, zq6, zq7, zq8] at c54
            refine WC.skip ?_
            refine WP.thenC ?_
            refine WC.seq ?_
            refine WC.block ?_
            refine WC.seq ?_
            refine WC.ofFr [(1, _), (4, _)] ⟨rfl, rfl, trivial⟩ ?_
            refine WC.tail 19 [0, 1, 2, 3, 4, 5, 6, 7, 8, 9, 10, 11, 12, 13, 14, 15, 16, 17, 18] rfl (by kernel_rfl) (by kernel_rfl)  ?_
            refine WQ.q rfl (Yd.qt (Yd.fieldAddr FA25_2 rfl)) rfl ?_
            refine WQ.q rfl (Yd.qt (Yd.load1 Try.isAgg23 rfl (by first | exact Rd.own (k := 0) rfl rfl | exact (hR.dip.at k (by omega)).rd 0 rfl | exact (hR.dip.at k (by omega)).rd 1 rfl | exact (hR.dip.at k (by omega)).rd 2 rfl | exact (hR.bath.at k (by omega)).rd 0 rfl | exact (hR.bath.at k (by omega)).rd 1 rfl | exact (hR.bath.at k (by omega)).rd 2 rfl))) rfl ?_
            refine WQ.q rfl (Yd.qt (Yd.move rfl)) rfl ?_
            refine WQ.q rfl (Yd.qt (Yd.indexS Try.underlying23 Try.sizeOf55 rfl rfl (by omega) (by omega) (by first | exact hR.dip.addr k (by omega) | exact hR.bath.addr k (by omega)))) rfl ?_
            refine WQ.q rfl (Yd.qt (Yd.fieldAddr FA55_0 rfl)) rfl ?_
            refine WQ.q rfl (Yd.qt (Yd.loadN Try.isAgg35 Try.sizeOf35 rfl (vs := [_, _]) rfl (by first | exact RdN.own (k := 0) (n := 2) rfl rfl | exact (hR.dip.at k (by omega)).rdn 0 2 rfl | exact (hR.bath.at k (by omega)).rdn 0 2 rfl | exact (hR.dip.at k (by omega)).rdn 0 3 rfl | exact (hR.bath.at k (by omega)).rdn 0 3 rfl))) rfl ?_
            refine WQ.q rfl (Qt.callP Try.call86 rfl (fun w hI => span_g ⟨_, _⟩ _ _ _)) rfl ?_
            refine WQ.q rfl (Yd.qt (Yd.not rfl)) rfl ?_
            refine WQ.q rfl (Yd.qt (Yd.move rfl)) rfl ?_
            refine WQ.part 65 rfl (fun g65 => ?_) (fun g65 => ?_)
            · try simp only [zq1, zq2, zq3, zq4, zq5, zq6, zq7, zq8] at g65
              refine WQ.skip rfl rfl rfl ?_
              refine WQ.skip rfl rfl rfl ?_
              refine WQ.skip rfl rfl rfl ?_
              refine WQ.skip rfl rfl rfl ?_
              refine WQ.skip rfl rfl rfl ?_
              refine WQ.skip rfl rfl rfl ?_
              refine WQ.skip rfl rfl rfl ?_
              refine WQ.skip rfl rfl rfl ?_
              refine WQ.skip rfl rfl rfl ?_
              refine WQ.skip rfl rfl rfl ?_
              refine WQ.tail ?_
              refine WL.skip rfl rfl ?_
              refine WL.skip rfl rfl ?_
              refine WL.yd (Yd.pickT rfl rfl) rfl ?_
              refine WL.nil ?_
              refine WP.thenC ?_
              refine WC.condT rfl ?_
              refine WC.seq ?_
              refine WC.ofFr [(1, _), (4, _)] ⟨rfl, rfl, trivial⟩ ?_
              refine WC.region ?_
              refine WL.yd (Yd.assign rfl) rfl ?_
              refine WL.nil ?_
              refine WP.thenC ?_
              refine WC.ret ?_
              refine WP.blkRet ?_
              refine WP.thenRet ?_
              refine WP.thenRet ?_
              refine WP.blkRet ?_
              refine WP.thenRet ?_
              refine WP.ret1 rfl rfl Try.results36 (RV.tmp rfl) (fun w hI => ⟨ret_bool (by
                      rw [Bool.eq_iff_iff, dipsB_iff]
                      first
                        | (refine ⟨fun h => absurd h (by decide), fun ⟨h1, h2, h3, h4, h5⟩ => ?_⟩
                           exfalso
                           first | omega | (exact absurd (g9.symm.trans h1) (by decide)) | (have := h4 k (by omega); simp_all [dipperB, setB]; done) | (have := h5 k (by omega); simp_all [batherB, setB]; done))
                        | exact ⟨fun _ => ⟨g9, by omega, by omega, hd', fun i hi => hd i (by omega)⟩, fun _ => rfl⟩), hI.keep⟩)
            · try simp only [zq1, zq2, zq3, zq4, zq5, zq6, zq7, zq8] at g65
              refine WQ.qg rfl rfl (Yd.qt (Yd.fieldAddr FA25_2 rfl)) rfl ?_
              refine WQ.qg rfl rfl (Yd.qt (Yd.load1 Try.isAgg23 rfl (by first | exact Rd.own (k := 0) rfl rfl | exact (hR.dip.at k (by omega)).rd 0 rfl | exact (hR.dip.at k (by omega)).rd 1 rfl | exact (hR.dip.at k (by omega)).rd 2 rfl | exact (hR.bath.at k (by omega)).rd 0 rfl | exact (hR.bath.at k (by omega)).rd 1 rfl | exact (hR.bath.at k (by omega)).rd 2 rfl))) rfl ?_
              refine WQ.qg rfl rfl (Yd.qt (Yd.move rfl)) rfl ?_
              refine WQ.qg rfl rfl (Yd.qt (Yd.indexS Try.underlying23 Try.sizeOf55 rfl rfl (by omega) (by omega) (by first | exact hR.dip.addr k (by omega) | exact hR.bath.addr k (by omega)))) rfl ?_
              refine WQ.qg rfl rfl (Yd.qt (Yd.fieldAddr FA55_1 rfl)) rfl ?_
              refine WQ.qg rfl rfl (Yd.qt (Yd.load1 Try.isAgg3 rfl (by first | exact Rd.own (k := 0) rfl rfl | exact (hR.dip.at k (by omega)).rd 0 rfl | exact (hR.dip.at k (by omega)).rd 1 rfl | exact (hR.dip.at k (by omega)).rd 2 rfl | exact (hR.bath.at k (by omega)).rd 0 rfl | exact (hR.bath.at k (by omega)).rd 1 rfl | exact (hR.bath.at k (by omega)).rd 2 rfl))) rfl ?_
              refine WQ.qg rfl rfl (Yd.qt (Yd.fieldAddr FA25_0 rfl)) rfl ?_
              refine WQ.qg rfl rfl (Yd.qt (Yd.load1 Try.isAgg3 rfl (by first | exact Rd.own (k := 0) rfl rfl | exact (hR.dip.at k (by omega)).rd 0 rfl | exact (hR.dip.at k (by omega)).rd 1 rfl | exact (hR.dip.at k (by omega)).rd 2 rfl | exact (hR.bath.at k (by omega)).rd 0 rfl | exact (hR.bath.at k (by omega)).rd 1 rfl | exact (hR.bath.at k (by omega)).rd 2 rfl))) rfl ?_
              refine WQ.qg rfl rfl (Qt.callP Try.call81 rfl (fun w hI => power_i _ _ (by omega) (by omega))) rfl ?_
              refine WQ.qg rfl rfl (Yd.qt (Yd.sub rfl rfl (wr64 ⟨by omega, by omega⟩))) rfl ?_
              refine WQ.tail ?_
              refine WL.sog rfl (SO.callP Try.call64 rfl (fun w hI => in_g _ _ _ _)) rfl ?_
              rintro _ _ _ ⟨rfl, rfl, rfl⟩
              refine WL.ydg rfl (Yd.not rfl) rfl ?_
              refine WL.yd (Yd.pickF rfl rfl) rfl ?_
              refine WL.nil ?_
              refine WP.thenC ?_
              refine WC.cond rfl (fun c78 => ?_) (fun c78 => ?_)
              · try simp only [zq1, zq2, zq3, zq4, zq5, zq6, zq7, zq8] at c78
                refine WC.seq ?_
                refine WC.ofFr [(1, _), (4, _)] ⟨rfl, rfl, trivial⟩ ?_
                refine WC.region ?_
                refine WL.yd (Yd.assign rfl) rfl ?_
                refine WL.nil ?_
                refine WP.thenC ?_
                refine WC.ret ?_
                refine WP.blkRet ?_
                refine WP.thenRet ?_
                refine WP.thenRet ?_
                refine WP.blkRet ?_
                refine WP.thenRet ?_
                refine WP.ret1 rfl rfl Try.results36 (RV.tmp rfl) (fun w hI => ⟨ret_bool (by
                        rw [Bool.eq_iff_iff, dipsB_iff]
                        first
                          | (refine ⟨fun h => absurd h (by decide), fun ⟨h1, h2, h3, h4, h5⟩ => ?_⟩
                             exfalso
                             first | omega | (exact absurd (g9.symm.trans h1) (by decide)) | (have := h4 k (by omega); simp_all [dipperB, setB]; done) | (have := h5 k (by omega); simp_all [batherB, setB]; done))
                          | exact ⟨fun _ => ⟨g9, by omega, by omega, hd', fun i hi => hd i (by omega)⟩, fun _ => rfl⟩), hI.keep⟩)
              · try simp only [zq1, zq2, zq3, zq4, zq5, zq6, zq7, zq8] at c78
                refine WC.skip ?_
                refine WP.blkNormal ?_
                refine WP.thenC ?_
                refine WC.ofFr [(1, _), (4, _)] ⟨rfl, rfl, trivial⟩ ?_
                refine WC.region ?_
                refine WL.yd (Yd.move rfl) rfl ?_
                refine WL.yd (Yd.add rfl rfl (wr64 ⟨by omega, by omega⟩)) rfl ?_
                refine WL.yd (Yd.assign rfl) rfl ?_
                refine WL.nil ?_
                exact WP.againF (k + 1) ⟨by omega, ext_round hd (by simp_all [batherB, setB])⟩ (by omega) ⟨rfl, rfl, trivial⟩ (fun _ h => h) (fun h => h)
          · try simp only [zq1, zq2, zq3, zq4, zq5, zq6, zq7, zq8] at c54
            refine WC.exit ?_
            refine WP.thenExit ?_
            refine WP.thenExit ?_
            refine WP.blkHit ?_
            refine WP.thenC ?_
            refine WC.seq ?_
            refine WC.ofFr [] trivial ?_
            refine WC.region ?_
            refine WL.yd (Yd.assign rfl) rfl ?_
            refine WL.nil ?_
            refine WP.thenC ?_
            refine WC.ret ?_
            refine WP.ret1 rfl rfl Try.results36 (RV.tmp rfl) (fun w hI => ⟨ret_bool (by
                    rw [Bool.eq_iff_iff, dipsB_iff]
                    first
                      | (refine ⟨fun h => absurd h (by decide), fun ⟨h1, h2, h3, h4, h5⟩ => ?_⟩
                         exfalso
                         first | omega | (exact absurd (g9.symm.trans h1) (by decide)) | (have := h4 k (by omega); simp_all [dipperB, setB]; done) | (have := h5 k (by omega); simp_all [batherB, setB]; done))
                      | exact ⟨fun _ => ⟨g9, by omega, by omega, hd', fun i hi => hd i (by omega)⟩, fun _ => rfl⟩), hI.keep⟩)

end Go.Proofs.Ytidjdonppfegiaa
namespace Go.Proofs.Ytidjdonppfegiaa
open Go.W Go.Dp
theorem FA61_0 : FieldAt Try.prog 61 0 0 := FieldAt.mk (t := 3) (off := 0) Try.underlying61 rfl Try.sizeOf3 (by decide)
theorem FA61_1 : FieldAt Try.prog 61 1 1 := FieldAt.mk (t := 3) (off := 1) Try.underlying61 rfl Try.sizeOf3 (by decide)
set_option maxRecDepth 100000 in
set_option maxHeartbeats 1000000 in
theorem list_g (d : Dips) (a1 : Option Addr) (n1 c1 : Nat) (a2 : Option Addr) (n2 c2 : Nat) (D : Imm) (w : World) (hR : DipsR D d a1 n1 a2 n2) (hH : Holds D w) (plan : List Plc) (a3 : Option Addr) (n3 c3 : Nat) (hP : PlanR D plan a3 n3) : Gives Try.prog 38 [.agg #[it d.hours, .slice a1 n1 c1, .slice a2 n2 c2], .slice a3 n3 c3] w (.bool (listB d plan)) := by
  unfold Gives
  obtain rfl := hR.dip.len'
  obtain rfl := hR.bath.len'
  have hl1 := hR.len1
  have hl2 := hR.len2
  obtain rfl := hP.pl.len'
  have hl3 := hP.len
  refine enter Try.func38 rfl 41 Try.ntmps38 (Nat.le_of_ble_eq_true rfl) (Inv.start hH) ?_
  refine WC.seq ?_
  refine WC.ofFr [(0, _), (1, _)] ⟨rfl, rfl, trivial⟩ ?_
  refine WC.region ?_
  refine WL.so (SO.box rfl rfl) rfl ?_
  rintro _ _ _ ⟨b2, hb2, rfl, rfl, rfl⟩ -- NEW
  refine WL.yd (Yd.assign rfl) rfl ?_
  refine WL.nil ?_
  refine WP.thenC ?_
  refine WC.seq ?_
  refine WC.seq ?_
  refine WC.ofFr [(4, _), (2, _), (1, _)] ⟨rfl, rfl, rfl, trivial⟩ ?_
  refine WC.region ?_
  refine WL.yd (Yd.assign rfl) rfl ?_
  refine WL.nil ?_
  refine WP.thenC ?_
  refine WC.block ?_
  refine WC.loopF (fun k : Nat => [(1, .slice a3 plan.length c3), (2, pt b2), (5, nt k)]) (fun k => k ≤ plan.length ∧ ∀ i, i < k → placeB d (gt plan i) = true) (fun k => plan.length - k) 0 ⟨by omega, by intro i hi; omega⟩ (by exact ⟨rfl, rfl, rfl, trivial⟩) ?_
  intro k ⟨hk, hd⟩
  refine WC.seq ?_
  refine WC.seq ?_
  refine WC.ofFr [(1, _), (2, _), (5, _)] ⟨rfl, rfl, rfl, trivial⟩ ?_
  refine WC.region ?_
  refine WL.yd (Yd.move rfl) rfl ?_
  refine WL.yd (Yd.move rfl) rfl ?_
  refine WL.yd (Yd.lenS rfl Try.underlying26 rfl) rfl ?_
  refine WL.yd (Yd.lss rfl rfl) rfl ?_
  refine WL.nil ?_
  refine WP.thenC ?_
  refine WC.cond rfl (fun c9 => ?_) (fun c9 => ?_)
  · try simp only [zq1, zq2, zq3, zq4, zq5, zq6, zq7, zq8] at c9
    refine WC.skip ?_
    refine WP.thenC ?_
    refine WC.seq ?_
    refine WC.block ?_
    refine WC.seq ?_
    refine WC.ofFr [(1, _), (2, _), (5, _)] ⟨rfl, rfl, rfl, trivial⟩ ?_
    refine WC.tail 20 [0, 1, 2, 3, 4, 5, 6, 7, 8, 9, 10, 11, 12, 13, 14, 15, 16, 17, 18, 19] rfl (by kernel_rfl) (by kernel_rfl)  ?_
    refine WQ.q rfl (Yd.qt (Yd.move rfl)) rfl ?_
    refine WQ.q rfl (Yd.qt (Yd.move rfl)) rfl ?_
    refine WQ.q rfl (Yd.qt (Yd.indexS Try.underlying26 Try.sizeOf61 rfl rfl (by omega) (by omega) (by first | exact hP.pl.addr k (by omega)))) rfl ?_
    refine WQ.q rfl (Yd.qt (Yd.fieldAddr FA61_0 rfl)) rfl ?_
    refine WQ.q rfl (Yd.qt (Yd.load1 Try.isAgg3 rfl (by first | exact Rd.own (k := 0) rfl rfl | exact (hP.pl.at k (by omega)).rd 0 rfl | exact (hP.pl.at k (by omega)).rd 1 rfl))) rfl ?_
    refine WQ.q rfl (Yd.qt (Yd.fieldAddr FA25_0 rfl)) rfl ?_
    refine WQ.q rfl (Yd.qt (Yd.load1 Try.isAgg3 rfl (by first | exact Rd.own (k := 0) rfl rfl | exact (hP.pl.at k (by omega)).rd 0 rfl | exact (hP.pl.at k (by omega)).rd 1 rfl))) rfl ?_
    refine WQ.q rfl (Yd.qt (Yd.subW rfl rfl)) rfl ?_
    refine WQ.q rfl (Qt.callP Try.call64 rfl (fun w hI => in_g _ _ _ _)) rfl ?_
    refine WQ.q rfl (Yd.qt (Yd.not rfl)) rfl ?_
    refine WQ.q rfl (Yd.qt (Yd.move rfl)) rfl ?_
    refine WQ.part 22 rfl (fun g22 => ?_) (fun g22 => ?_)
    · try simp only [zq1, zq2, zq3, zq4, zq5, zq6, zq7, zq8] at g22
      refine WQ.skip rfl rfl rfl ?_
      refine WQ.skip rfl rfl rfl ?_
      refine WQ.skip rfl rfl rfl ?_
      refine WQ.skip rfl rfl rfl ?_
      refine WQ.skip rfl rfl rfl ?_
      refine WQ.skip rfl rfl rfl ?_
      refine WQ.skip rfl rfl rfl ?_
      refine WQ.skip rfl rfl rfl ?_
      refine WQ.skip rfl rfl rfl ?_
      refine WQ.tail ?_
      refine WL.skip rfl rfl ?_
      refine WL.skip rfl rfl ?_
      refine WL.yd (Yd.pickT rfl rfl) rfl ?_
      refine WL.nil ?_
      refine WP.thenC ?_
      refine WC.condT rfl ?_
      refine WC.seq ?_
      refine WC.ofFr [(1, _), (2, _), (5, _)] ⟨rfl, rfl, rfl, trivial⟩ ?_
      refine WC.region ?_
      refine WL.yd (Yd.assign rfl) rfl ?_
      refine WL.nil ?_
      refine WP.thenC ?_
      refine WC.ret ?_
      refine WP.blkRet ?_
      refine WP.thenRet ?_
      refine WP.thenRet ?_
      refine WP.blkRet ?_
      refine WP.thenRet ?_
      refine WP.ret1 rfl rfl Try.results38 (RV.tmp rfl) (fun w hI => ⟨ret_bool (by
              rw [Bool.eq_iff_iff, listB_iff]
              first
                | (refine ⟨fun h => absurd h (by decide), fun ⟨h4, h2⟩ => ?_⟩
                   exfalso
                   have := h4 k (by omega); simp_all [placeB]; done)
                | (simp only [decide_eq_true_eq]; exact ⟨fun h => ⟨fun i hi => hd i (by omega), by omega⟩, fun h => by have := h.2; omega⟩)), hI.keep⟩)
    · try simp only [zq1, zq2, zq3, zq4, zq5, zq6, zq7, zq8] at g22
      refine WQ.qg rfl rfl (Yd.qt (Yd.move rfl)) rfl ?_
      refine WQ.qg rfl rfl (Yd.qt (Yd.move rfl)) rfl ?_
      refine WQ.qg rfl rfl (Yd.qt (Yd.indexS Try.underlying26 Try.sizeOf61 rfl rfl (by omega) (by omega) (by first | exact hP.pl.addr k (by omega)))) rfl ?_
      refine WQ.qg rfl rfl (Yd.qt (Yd.fieldAddr FA61_1 rfl)) rfl ?_
      refine WQ.qg rfl rfl (Yd.qt (Yd.load1 Try.isAgg3 rfl (by first | exact Rd.own (k := 0) rfl rfl | exact (hP.pl.at k (by omega)).rd 0 rfl | exact (hP.pl.at k (by omega)).rd 1 rfl))) rfl ?_
      refine WQ.qg rfl rfl (Yd.qt (Yd.fieldAddr FA25_1 rfl)) rfl ?_
      refine WQ.qg rfl rfl (Yd.qt (Yd.load1 Try.isAgg22 rfl (by first | exact Rd.own (k := 0) rfl rfl | exact (hP.pl.at k (by omega)).rd 0 rfl | exact (hP.pl.at k (by omega)).rd 1 rfl))) rfl ?_
      refine WQ.qg rfl rfl (Yd.qt (Yd.lenS rfl Try.underlying22 rfl)) rfl ?_
      refine WQ.qg rfl rfl (Yd.qt (Yd.sub rfl rfl (wr64 ⟨by omega, by omega⟩))) rfl ?_
      refine WQ.tail ?_
      refine WL.sog rfl (SO.callP Try.call64 rfl (fun w hI => in_g _ _ _ _)) rfl ?_
      rintro _ _ _ ⟨rfl, rfl, rfl⟩
      refine WL.ydg rfl (Yd.not rfl) rfl ?_
      refine WL.yd (Yd.pickF rfl rfl) rfl ?_
      refine WL.nil ?_
      refine WP.thenC ?_
      refine WC.cond rfl (fun c34 => ?_) (fun c34 => ?_)
      · try simp only [zq1, zq2, zq3, zq4, zq5, zq6, zq7, zq8] at c34
        refine WC.seq ?_
        refine WC.ofFr [(1, _), (2, _), (5, _)] ⟨rfl, rfl, rfl, trivial⟩ ?_
        refine WC.region ?_
        refine WL.yd (Yd.assign rfl) rfl ?_
        refine WL.nil ?_
        refine WP.thenC ?_
        refine WC.ret ?_
        refine WP.blkRet ?_
        refine WP.thenRet ?_
        refine WP.thenRet ?_
        refine WP.blkRet ?_
        refine WP.thenRet ?_
        refine WP.ret1 rfl rfl Try.results38 (RV.tmp rfl) (fun w hI => ⟨ret_bool (by
                rw [Bool.eq_iff_iff, listB_iff]
                first
                  | (refine ⟨fun h => absurd h (by decide), fun ⟨h4, h2⟩ => ?_⟩
                     exfalso
                     have := h4 k (by omega); simp_all [placeB]; done)
                  | (simp only [decide_eq_true_eq]; exact ⟨fun h => ⟨fun i hi => hd i (by omega), by omega⟩, fun h => by have := h.2; omega⟩)), hI.keep⟩)
      · try simp only [zq1, zq2, zq3, zq4, zq5, zq6, zq7, zq8] at c34
        refine WC.skip ?_
        refine WP.blkNormal ?_
        refine WP.thenC ?_
        refine WC.ofFr [(1, _), (2, _), (5, _)] ⟨rfl, rfl, rfl, trivial⟩ ?_
        refine WC.region ?_
        refine WL.yd (Yd.move rfl) rfl ?_
        refine WL.yd (Yd.add rfl rfl (wr64 ⟨by omega, by omega⟩)) rfl ?_
        refine WL.yd (Yd.assign rfl) rfl ?_
        refine WL.nil ?_
        exact WP.againF (k + 1) ⟨by omega, ext_round hd (by simp_all [placeB])⟩ (by omega) ⟨rfl, rfl, rfl, trivial⟩ (fun _ h => h) (fun h => h)
  · try simp only [zq1, zq2, zq3, zq4, zq5, zq6, zq7, zq8] at c9
    refine WC.exit ?_
    refine WP.thenExit ?_
    refine WP.thenExit ?_
    refine WP.blkHit ?_
    refine WP.thenC ?_
    refine WC.seq ?_
    refine WC.ofFr [(1, _), (2, _)] ⟨rfl, rfl, trivial⟩ ?_
    refine WC.region ?_
    refine WL.yd (Yd.move rfl) rfl ?_
    refine WL.yd (Yd.lenS rfl Try.underlying26 rfl) rfl ?_
    refine WL.yd (Yd.fieldAddr FA25_2 rfl) rfl ?_
    refine WL.yd (Yd.load1 Try.isAgg23 rfl (by first | exact Rd.own (k := 0) rfl rfl | exact (hP.pl.at k (by omega)).rd 0 rfl | exact (hP.pl.at k (by omega)).rd 1 rfl)) rfl ?_
    refine WL.yd (Yd.lenS rfl Try.underlying23 rfl) rfl ?_
    refine WL.yd (Yd.eql rfl rfl) rfl ?_
    refine WL.yd (Yd.assign rfl) rfl ?_
    refine WL.nil ?_
    refine WP.thenC ?_
    refine WC.ret ?_
    refine WP.ret1 rfl rfl Try.results38 (RV.tmp rfl) (fun w hI => ⟨ret_bool (by
            rw [Bool.eq_iff_iff, listB_iff]
            first
              | (refine ⟨fun h => absurd h (by decide), fun ⟨h4, h2⟩ => ?_⟩
                 exfalso
                 have := h4 k (by omega); simp_all [placeB]; done)
              | (simp only [decide_eq_true_eq]; exact ⟨fun h => ⟨fun i hi => hd i (by omega), by omega⟩, fun h => by have := h.2; omega⟩)), hI.keep⟩)

set_option maxRecDepth 100000 in
set_option maxHeartbeats 1000000 in
theorem check_g (d : Dips) (a1 : Option Addr) (n1 c1 : Nat) (a2 : Option Addr) (n2 c2 : Nat) (D : Imm) (w : World) (hR : DipsR D d a1 n1 a2 n2) (hH : Holds D w) (v : Bool) : Gives Try.prog 53 [.agg #[it d.hours, .slice a1 n1 c1, .slice a2 n2 c2], .bool v] w (it (checkR d v)) := by
  unfold Gives
  refine enter Try.func53 rfl 10 Try.ntmps53 (Nat.le_of_ble_eq_true rfl) (Inv.start hH) ?_
  refine WC.seq ?_
  refine WC.ofFr [(0, _), (1, _)] ⟨rfl, rfl, trivial⟩ ?_
  refine WC.region ?_
  refine WL.so (SO.box rfl rfl) rfl ?_
  rintro _ _ _ ⟨b2, hb2, rfl, rfl, rfl⟩ -- NEW
  refine WL.yd (Yd.assign rfl) rfl ?_
  refine WL.nil ?_
  refine WP.thenC ?_
  refine WC.seq ?_
  refine WC.seq ?_
  refine WC.ofFr [(4, _), (2, _), (1, _)] ⟨rfl, rfl, rfl, trivial⟩ ?_
  refine WC.region ?_
  refine WL.yd (Yd.loadN Try.isAgg25 Try.sizeOf25 rfl (vs := [_, _, _]) rfl (by first | exact RdN.own (k := 0) (n := 3) rfl rfl)) rfl ?_
  refine WL.so (SO.callP Try.call36 rfl (fun w hI => dips_g d a1 _ c1 a2 _ c2 D _ hR hI.imm)) rfl ?_
  rintro _ _ _ ⟨rfl, rfl, rfl⟩
  refine WL.yd (Yd.not rfl) rfl ?_
  refine WL.nil ?_
  refine WP.thenC ?_
  refine WC.cond rfl (fun c7 => ?_) (fun c7 => ?_)
  · try simp only [zq1, zq2, zq3, zq4, zq5, zq6, zq7, zq8] at c7
    refine WC.seq ?_
    refine WC.ofFr [(4, _), (1, _)] ⟨rfl, rfl, trivial⟩ ?_
    refine WC.region ?_
    refine WL.yd (Yd.assign rfl) rfl ?_
    refine WL.nil ?_
    refine WP.thenC ?_
    refine WC.ret ?_
    refine WP.thenRet ?_
    refine WP.ret1 rfl rfl Try.results53 (RV.tmp rfl) (fun w hI => ⟨ret_int (by simp [checkR, *]), hI.keep⟩)
  · try simp only [zq1, zq2, zq3, zq4, zq5, zq6, zq7, zq8] at c7
    refine WC.skip ?_
    refine WP.thenC ?_
    refine WC.seq ?_
    refine WC.seq ?_
    refine WC.ofFr [(4, _), (1, _)] ⟨rfl, rfl, trivial⟩ ?_
    refine WC.region ?_
    refine WL.yd (Yd.move rfl) rfl ?_
    refine WL.yd (Yd.not rfl) rfl ?_
    refine WL.nil ?_
    refine WP.thenC ?_
    refine WC.cond rfl (fun c9 => ?_) (fun c9 => ?_)
    · try simp only [zq1, zq2, zq3, zq4, zq5, zq6, zq7, zq8] at c9
      refine WC.seq ?_
      refine WC.ofFr [(4, _)] ⟨rfl, trivial⟩ ?_
      refine WC.region ?_
      refine WL.yd (Yd.assign rfl) rfl ?_
      refine WL.nil ?_
      refine WP.thenC ?_
      refine WC.ret ?_
      refine WP.thenRet ?_
      refine WP.ret1 rfl rfl Try.results53 (RV.tmp rfl) (fun w hI => ⟨ret_int (by simp [checkR, *]), hI.keep⟩)
    · try simp only [zq1, zq2, zq3, zq4, zq5, zq6, zq7, zq8] at c9
      refine WC.skip ?_
      refine WP.thenC ?_
      refine WC.seq ?_
      refine WC.ofFr [(4, _)] ⟨rfl, trivial⟩ ?_
      refine WC.region ?_
      refine WL.yd (Yd.assign rfl) rfl ?_
      refine WL.nil ?_
      refine WP.thenC ?_
      refine WC.ret ?_
      refine WP.ret1 rfl rfl Try.results53 (RV.tmp rfl) (fun w hI => ⟨ret_int (by simp [checkR, *]), hI.keep⟩)

set_option maxRecDepth 100000 in
set_option maxHeartbeats 1000000 in
theorem broken_true (d : Dips) (a1 : Option Addr) (n1 c1 : Nat) (a2 : Option Addr) (n2 c2 : Nat) (D : Imm) (w : World) (hR : DipsR D d a1 n1 a2 n2) (hH : Holds D w) (plan : List Plc) (a3 : Option Addr) (n3 c3 : Nat) (hP : PlanR D plan a3 n3) (i : Nat) (hi : i < plan.length) (hv : dipsB d = true) (hq : PlOk d plan) (hl : plan.length ≤ d.bathers.length) : Gives Try.prog 54 [.agg #[it d.hours, .slice a1 n1 c1, .slice a2 n2 c2], .slice a3 n3 c3, nt i, .bool true] w (it (brokenR d plan i true)) := by
  unfold Gives
  obtain rfl := hR.dip.len'
  obtain rfl := hR.bath.len'
  have hl1 := hR.len1
  have hl2 := hR.len2
  obtain rfl := hP.pl.len'
  have hl3 := hP.len
  obtain ⟨hh, hd1, hd2, hdn, hbn⟩ := dips_num hv
  have hqi := hq i hi
  have hdn1 := hdn (gt plan i).dipper.toNat (by omega)
  have hbn1 := hbn i (by omega)
  refine enter Try.func54 rfl 88 Try.ntmps54 (Nat.le_of_ble_eq_true rfl) (Inv.start hH) ?_
  refine WC.seq ?_
  refine WC.ofFr [(0, _), (1, _), (2, _), (3, _)] ⟨rfl, rfl, rfl, rfl, trivial⟩ ?_
  refine WC.region ?_
  refine WL.so (SO.box rfl rfl) rfl ?_
  rintro _ _ _ ⟨b4, hb4, rfl, rfl, rfl⟩ -- NEW
  refine WL.yd (Yd.assign rfl) rfl ?_
  refine WL.nil ?_
  refine WP.thenC ?_
  refine WC.seq ?_
  refine WC.ofFr [(8, _), (4, _), (1, _), (2, _), (3, _)] ⟨rfl, rfl, rfl, rfl, rfl, trivial⟩ ?_
  refine WC.region ?_
  refine WL.yd (Yd.move rfl) rfl ?_
  refine WL.yd (Yd.move rfl) rfl ?_
  refine WL.yd (Yd.indexS Try.underlying26 Try.sizeOf61 rfl rfl (by omega) (by omega) (by first | exact hP.pl.addr i (by omega) | exact hR.bath.addr i (by omega) | exact hR.dip.addr (gt plan i).dipper.toNat (by omega) | exact hP.pl.addr k (by omega) | exact hR.bath.addr k (by omega))) rfl ?_
  refine WL.yd (Yd.loadN Try.isAgg61 Try.sizeOf61 rfl (vs := [_, _]) rfl (by first | exact RdN.own (k := 0) (n := 2) rfl rfl | exact (hP.pl.at i (by omega)).rdn 0 2 rfl | exact (hP.pl.at k (by omega)).rdn 0 2 rfl)) rfl ?_
  refine WL.so (SO.alloc Try.zeroValue61 rfl) rfl ?_
  rintro _ _ _ ⟨b9, hb9, rfl, rfl, rfl⟩ -- NEW
  refine WL.so (SO.store 0 rfl Try.sizeOf61 rfl rfl rfl rfl (Nat.le_of_ble_eq_true rfl) (oneB_spec rfl)) rfl ?_
  rintro _ _ _ ⟨rfl, rfl, rfl⟩
  refine WL.nil ?_
  refine WP.thenC ?_
  refine WC.seq ?_
  refine WC.seq ?_
  refine WC.ofFr [(9, _), (8, _), (4, _), (1, _), (2, _), (3, _)] ⟨rfl, rfl, rfl, rfl, rfl, rfl, trivial⟩ ?_
  refine WC.tail 20 [0, 1, 2, 3, 4, 5, 6, 7, 8, 9, 10, 11, 12, 13, 14, 15, 16, 17, 18, 19] rfl (by kernel_rfl) (by kernel_rfl)  ?_
  refine WQ.q rfl (Yd.qt (Yd.fieldAddr FA25_2 rfl)) rfl ?_
  refine WQ.q rfl (Yd.qt (Yd.load1 Try.isAgg23 rfl (by first | exact Rd.own (k := 0) rfl rfl | exact Rd.own (k := 1) rfl rfl | exact (hR.bath.at i (by omega)).rd 0 rfl | exact (hR.bath.at i (by omega)).rd 1 rfl | exact (hR.bath.at i (by omega)).rd 2 rfl | exact (hR.dip.at (gt plan i).dipper.toNat (by omega)).rd 0 rfl | exact (hR.dip.at (gt plan i).dipper.toNat (by omega)).rd 1 rfl | exact (hR.dip.at (gt plan i).dipper.toNat (by omega)).rd 2 rfl | exact (hR.bath.at k (by omega)).rd 0 rfl | exact (hR.bath.at k (by omega)).rd 1 rfl | exact (hR.bath.at k (by omega)).rd 2 rfl))) rfl ?_
  refine WQ.q rfl (Yd.qt (Yd.move rfl)) rfl ?_
  refine WQ.q rfl (Yd.qt (Yd.indexS Try.underlying23 Try.sizeOf55 rfl rfl (by omega) (by omega) (by first | exact hP.pl.addr i (by omega) | exact hR.bath.addr i (by omega) | exact hR.dip.addr (gt plan i).dipper.toNat (by omega) | exact hP.pl.addr k (by omega) | exact hR.bath.addr k (by omega)))) rfl ?_
  refine WQ.q rfl (Yd.qt (Yd.fieldAddr FA55_1 rfl)) rfl ?_
  refine WQ.q rfl (Yd.qt (Yd.load1 Try.isAgg3 rfl (by first | exact Rd.own (k := 0) rfl rfl | exact Rd.own (k := 1) rfl rfl | exact (hR.bath.at i (by omega)).rd 0 rfl | exact (hR.bath.at i (by omega)).rd 1 rfl | exact (hR.bath.at i (by omega)).rd 2 rfl | exact (hR.dip.at (gt plan i).dipper.toNat (by omega)).rd 0 rfl | exact (hR.dip.at (gt plan i).dipper.toNat (by omega)).rd 1 rfl | exact (hR.dip.at (gt plan i).dipper.toNat (by omega)).rd 2 rfl | exact (hR.bath.at k (by omega)).rd 0 rfl | exact (hR.bath.at k (by omega)).rd 1 rfl | exact (hR.bath.at k (by omega)).rd 2 rfl))) rfl ?_
  refine WQ.q rfl (Yd.qt (Yd.fieldAddr FA61_0 rfl)) rfl ?_
  refine WQ.q rfl (Yd.qt (Yd.load1 Try.isAgg3 rfl (by first | exact Rd.own (k := 0) rfl rfl | exact Rd.own (k := 1) rfl rfl | exact (hR.bath.at i (by omega)).rd 0 rfl | exact (hR.bath.at i (by omega)).rd 1 rfl | exact (hR.bath.at i (by omega)).rd 2 rfl | exact (hR.dip.at (gt plan i).dipper.toNat (by omega)).rd 0 rfl | exact (hR.dip.at (gt plan i).dipper.toNat (by omega)).rd 1 rfl | exact (hR.dip.at (gt plan i).dipper.toNat (by omega)).rd 2 rfl | exact (hR.bath.at k (by omega)).rd 0 rfl | exact (hR.bath.at k (by omega)).rd 1 rfl | exact (hR.bath.at k (by omega)).rd 2 rfl))) rfl ?_
  refine WQ.q rfl (Qt.callP Try.call65 rfl (fun w hI => has_g _ _ _ (by omega) (by omega) (by omega))) rfl ?_
  refine WQ.q rfl (Yd.qt (Yd.not rfl)) rfl ?_
  refine WQ.q rfl (Yd.qt (Yd.move rfl)) rfl ?_
  refine WQ.part 26 rfl (fun g26 => ?_) (fun g26 => ?_)
  · try simp only [zq1, zq2, zq3, zq4, zq5, zq6, zq7, zq8] at g26
    refine WQ.skip rfl rfl rfl ?_
    refine WQ.skip rfl rfl rfl ?_
    refine WQ.skip rfl rfl rfl ?_
    refine WQ.skip rfl rfl rfl ?_
    refine WQ.skip rfl rfl rfl ?_
    refine WQ.skip rfl rfl rfl ?_
    refine WQ.skip rfl rfl rfl ?_
    refine WQ.skip rfl rfl rfl ?_
    refine WQ.skip rfl rfl rfl ?_
    refine WQ.tail ?_
    refine WL.skip rfl rfl ?_
    refine WL.skip rfl rfl ?_
    refine WL.yd (Yd.pickT rfl rfl) rfl ?_
    refine WL.nil ?_
    refine WP.thenC ?_
    refine WC.condT rfl ?_
    refine WC.seq ?_
    refine WC.ofFr [(9, _), (8, _), (4, _), (1, _), (2, _), (3, _)] ⟨rfl, rfl, rfl, rfl, rfl, rfl, trivial⟩ ?_
    refine WC.region ?_
    refine WL.yd (Yd.assign rfl) rfl ?_
    refine WL.nil ?_
    refine WP.thenC ?_
    refine WC.ret ?_
    refine WP.thenRet ?_
    refine WP.ret1 rfl rfl Try.results54 (RV.tmp rfl) (fun w hI => ⟨ret_int (by
            unfold brokenR
            first
              | (rw [if_pos (by simp_all)]; done)
              | (obtain rfl : k = i + 1 := by omega
                 rw [if_neg (by simp_all), if_pos (by omega)]; done)
              | (obtain rfl : k = i + 1 := by omega
                 rw [if_neg (by simp_all), if_neg (by omega)]; done)), hI.keep⟩)
  · try simp only [zq1, zq2, zq3, zq4, zq5, zq6, zq7, zq8] at g26
    refine WQ.qg rfl rfl (Yd.qt (Yd.fieldAddr FA25_1 rfl)) rfl ?_
    refine WQ.qg rfl rfl (Yd.qt (Yd.load1 Try.isAgg22 rfl (by first | exact Rd.own (k := 0) rfl rfl | exact Rd.own (k := 1) rfl rfl | exact (hR.bath.at i (by omega)).rd 0 rfl | exact (hR.bath.at i (by omega)).rd 1 rfl | exact (hR.bath.at i (by omega)).rd 2 rfl | exact (hR.dip.at (gt plan i).dipper.toNat (by omega)).rd 0 rfl | exact (hR.dip.at (gt plan i).dipper.toNat (by omega)).rd 1 rfl | exact (hR.dip.at (gt plan i).dipper.toNat (by omega)).rd 2 rfl | exact (hR.bath.at k (by omega)).rd 0 rfl | exact (hR.bath.at k (by omega)).rd 1 rfl | exact (hR.bath.at k (by omega)).rd 2 rfl))) rfl ?_
    refine WQ.qg rfl rfl (Yd.qt (Yd.fieldAddr FA61_1 rfl)) rfl ?_
    refine WQ.qg rfl rfl (Yd.qt (Yd.load1 Try.isAgg3 rfl (by first | exact Rd.own (k := 0) rfl rfl | exact Rd.own (k := 1) rfl rfl | exact (hR.bath.at i (by omega)).rd 0 rfl | exact (hR.bath.at i (by omega)).rd 1 rfl | exact (hR.bath.at i (by omega)).rd 2 rfl | exact (hR.dip.at (gt plan i).dipper.toNat (by omega)).rd 0 rfl | exact (hR.dip.at (gt plan i).dipper.toNat (by omega)).rd 1 rfl | exact (hR.dip.at (gt plan i).dipper.toNat (by omega)).rd 2 rfl | exact (hR.bath.at k (by omega)).rd 0 rfl | exact (hR.bath.at k (by omega)).rd 1 rfl | exact (hR.bath.at k (by omega)).rd 2 rfl))) rfl ?_
    refine WQ.qg rfl rfl (Yd.qt (Yd.indexS Try.underlying22 Try.sizeOf53 rfl rfl (by omega) (by omega) (by first | exact hP.pl.addr i (by omega) | exact hR.bath.addr i (by omega) | exact hR.dip.addr (gt plan i).dipper.toNat (by omega) | exact hP.pl.addr k (by omega) | exact hR.bath.addr k (by omega)))) rfl ?_
    refine WQ.qg rfl rfl (Yd.qt (Yd.fieldAddr FA53_1 rfl)) rfl ?_
    refine WQ.qg rfl rfl (Yd.qt (Yd.load1 Try.isAgg3 rfl (by first | exact Rd.own (k := 0) rfl rfl | exact Rd.own (k := 1) rfl rfl | exact (hR.bath.at i (by omega)).rd 0 rfl | exact (hR.bath.at i (by omega)).rd 1 rfl | exact (hR.bath.at i (by omega)).rd 2 rfl | exact (hR.dip.at (gt plan i).dipper.toNat (by omega)).rd 0 rfl | exact (hR.dip.at (gt plan i).dipper.toNat (by omega)).rd 1 rfl | exact (hR.dip.at (gt plan i).dipper.toNat (by omega)).rd 2 rfl | exact (hR.bath.at k (by omega)).rd 0 rfl | exact (hR.bath.at k (by omega)).rd 1 rfl | exact (hR.bath.at k (by omega)).rd 2 rfl))) rfl ?_
    refine WQ.qg rfl rfl (Yd.qt (Yd.fieldAddr FA61_0 rfl)) rfl ?_
    refine WQ.qg rfl rfl (Yd.qt (Yd.load1 Try.isAgg3 rfl (by first | exact Rd.own (k := 0) rfl rfl | exact Rd.own (k := 1) rfl rfl | exact (hR.bath.at i (by omega)).rd 0 rfl | exact (hR.bath.at i (by omega)).rd 1 rfl | exact (hR.bath.at i (by omega)).rd 2 rfl | exact (hR.dip.at (gt plan i).dipper.toNat (by omega)).rd 0 rfl | exact (hR.dip.at (gt plan i).dipper.toNat (by omega)).rd 1 rfl | exact (hR.dip.at (gt plan i).dipper.toNat (by omega)).rd 2 rfl | exact (hR.bath.at k (by omega)).rd 0 rfl | exact (hR.bath.at k (by omega)).rd 1 rfl | exact (hR.bath.at k (by omega)).rd 2 rfl))) rfl ?_
    refine WQ.tail ?_
    refine WL.sog rfl (SO.callP Try.call65 rfl (fun w hI => has_g _ _ _ (by omega) (by omega) (by omega))) rfl ?_
    rintro _ _ _ ⟨rfl, rfl, rfl⟩
    refine WL.ydg rfl (Yd.not rfl) rfl ?_
    refine WL.yd (Yd.pickF rfl rfl) rfl ?_
    refine WL.nil ?_
    refine WP.thenC ?_
    refine WC.cond rfl (fun c38 => ?_) (fun c38 => ?_)
    · try simp only [zq1, zq2, zq3, zq4, zq5, zq6, zq7, zq8] at c38
      refine WC.seq ?_
      refine WC.ofFr [(9, _), (8, _), (4, _), (1, _), (2, _), (3, _)] ⟨rfl, rfl, rfl, rfl, rfl, rfl, trivial⟩ ?_
      refine WC.region ?_
      refine WL.yd (Yd.assign rfl) rfl ?_
      refine WL.nil ?_
      refine WP.thenC ?_
      refine WC.ret ?_
      refine WP.thenRet ?_
      refine WP.ret1 rfl rfl Try.results54 (RV.tmp rfl) (fun w hI => ⟨ret_int (by
              unfold brokenR
              first
                | (rw [if_pos (by simp_all)]; done)
                | (obtain rfl : k = i + 1 := by omega
                   rw [if_neg (by simp_all), if_pos (by omega)]; done)
                | (obtain rfl : k = i + 1 := by omega
                   rw [if_neg (by simp_all), if_neg (by omega)]; done)), hI.keep⟩)
    · try simp only [zq1, zq2, zq3, zq4, zq5, zq6, zq7, zq8] at c38
      refine WC.skip ?_
      refine WP.thenC ?_
      refine WC.seq ?_
      refine WC.ofFr [(9, _), (8, _), (4, _), (1, _), (2, _), (3, _)] ⟨rfl, rfl, rfl, rfl, rfl, rfl, trivial⟩ ?_
      refine WC.region ?_
      refine WL.yd (Yd.fieldAddr FA25_1 rfl) rfl ?_
      refine WL.yd (Yd.load1 Try.isAgg22 rfl (by first | exact Rd.own (k := 0) rfl rfl | exact Rd.own (k := 1) rfl rfl | exact (hR.bath.at i (by omega)).rd 0 rfl | exact (hR.bath.at i (by omega)).rd 1 rfl | exact (hR.bath.at i (by omega)).rd 2 rfl | exact (hR.dip.at (gt plan i).dipper.toNat (by omega)).rd 0 rfl | exact (hR.dip.at (gt plan i).dipper.toNat (by omega)).rd 1 rfl | exact (hR.dip.at (gt plan i).dipper.toNat (by omega)).rd 2 rfl | exact (hR.bath.at k (by omega)).rd 0 rfl | exact (hR.bath.at k (by omega)).rd 1 rfl | exact (hR.bath.at k (by omega)).rd 2 rfl)) rfl ?_
      refine WL.yd (Yd.fieldAddr FA61_1 rfl) rfl ?_
      refine WL.yd (Yd.load1 Try.isAgg3 rfl (by first | exact Rd.own (k := 0) rfl rfl | exact Rd.own (k := 1) rfl rfl | exact (hR.bath.at i (by omega)).rd 0 rfl | exact (hR.bath.at i (by omega)).rd 1 rfl | exact (hR.bath.at i (by omega)).rd 2 rfl | exact (hR.dip.at (gt plan i).dipper.toNat (by omega)).rd 0 rfl | exact (hR.dip.at (gt plan i).dipper.toNat (by omega)).rd 1 rfl | exact (hR.dip.at (gt plan i).dipper.toNat (by omega)).rd 2 rfl | exact (hR.bath.at k (by omega)).rd 0 rfl | exact (hR.bath.at k (by omega)).rd 1 rfl | exact (hR.bath.at k (by omega)).rd 2 rfl)) rfl ?_
      refine WL.yd (Yd.indexS Try.underlying22 Try.sizeOf53 rfl rfl (by omega) (by omega) (by first | exact hP.pl.addr i (by omega) | exact hR.bath.addr i (by omega) | exact hR.dip.addr (gt plan i).dipper.toNat (by omega) | exact hP.pl.addr k (by omega) | exact hR.bath.addr k (by omega))) rfl ?_
      refine WL.yd (Yd.fieldAddr FA53_0 rfl) rfl ?_
      refine WL.yd (Yd.fieldAddr FA35_0 rfl) rfl ?_
      refine WL.yd (Yd.load1 Try.isAgg3 rfl (by first | exact Rd.own (k := 0) rfl rfl | exact Rd.own (k := 1) rfl rfl | exact (hR.bath.at i (by omega)).rd 0 rfl | exact (hR.bath.at i (by omega)).rd 1 rfl | exact (hR.bath.at i (by omega)).rd 2 rfl | exact (hR.dip.at (gt plan i).dipper.toNat (by omega)).rd 0 rfl | exact (hR.dip.at (gt plan i).dipper.toNat (by omega)).rd 1 rfl | exact (hR.dip.at (gt plan i).dipper.toNat (by omega)).rd 2 rfl | exact (hR.bath.at k (by omega)).rd 0 rfl | exact (hR.bath.at k (by omega)).rd 1 rfl | exact (hR.bath.at k (by omega)).rd 2 rfl)) rfl ?_
      refine WL.yd (Yd.assign rfl) rfl ?_
      refine WL.nil ?_
      refine WP.thenC ?_
      refine WC.seq ?_
      refine WC.seq ?_
      refine WC.ofFr [(10, _), (9, _), (8, _), (4, _), (1, _), (2, _), (3, _)] ⟨rfl, rfl, rfl, rfl, rfl, rfl, rfl, trivial⟩ ?_
      refine WC.region ?_
      refine WL.yd (Yd.move rfl) rfl ?_
      refine WL.nil ?_
      refine WP.thenC ?_
      refine WC.condT rfl ?_
      refine WC.ofFr [(10, _), (9, _), (8, _), (4, _), (1, _), (2, _), (3, _)] ⟨rfl, rfl, rfl, rfl, rfl, rfl, rfl, trivial⟩ ?_
      refine WC.region ?_
      refine WL.yd (Yd.fieldAddr FA25_1 rfl) rfl ?_
      refine WL.yd (Yd.load1 Try.isAgg22 rfl (by first | exact Rd.own (k := 0) rfl rfl | exact Rd.own (k := 1) rfl rfl | exact (hR.bath.at i (by omega)).rd 0 rfl | exact (hR.bath.at i (by omega)).rd 1 rfl | exact (hR.bath.at i (by omega)).rd 2 rfl | exact (hR.dip.at (gt plan i).dipper.toNat (by omega)).rd 0 rfl | exact (hR.dip.at (gt plan i).dipper.toNat (by omega)).rd 1 rfl | exact (hR.dip.at (gt plan i).dipper.toNat (by omega)).rd 2 rfl | exact (hR.bath.at k (by omega)).rd 0 rfl | exact (hR.bath.at k (by omega)).rd 1 rfl | exact (hR.bath.at k (by omega)).rd 2 rfl)) rfl ?_
      refine WL.yd (Yd.fieldAddr FA61_1 rfl) rfl ?_
      refine WL.yd (Yd.load1 Try.isAgg3 rfl (by first | exact Rd.own (k := 0) rfl rfl | exact Rd.own (k := 1) rfl rfl | exact (hR.bath.at i (by omega)).rd 0 rfl | exact (hR.bath.at i (by omega)).rd 1 rfl | exact (hR.bath.at i (by omega)).rd 2 rfl | exact (hR.dip.at (gt plan i).dipper.toNat (by omega)).rd 0 rfl | exact (hR.dip.at (gt plan i).dipper.toNat (by omega)).rd 1 rfl | exact (hR.dip.at (gt plan i).dipper.toNat (by omega)).rd 2 rfl | exact (hR.bath.at k (by omega)).rd 0 rfl | exact (hR.bath.at k (by omega)).rd 1 rfl | exact (hR.bath.at k (by omega)).rd 2 rfl)) rfl ?_
      refine WL.yd (Yd.indexS Try.underlying22 Try.sizeOf53 rfl rfl (by omega) (by omega) (by first | exact hP.pl.addr i (by omega) | exact hR.bath.addr i (by omega) | exact hR.dip.addr (gt plan i).dipper.toNat (by omega) | exact hP.pl.addr k (by omega) | exact hR.bath.addr k (by omega))) rfl ?_
      refine WL.yd (Yd.fieldAddr FA53_0 rfl) rfl ?_
      refine WL.yd (Yd.fieldAddr FA35_1 rfl) rfl ?_
      refine WL.yd (Yd.load1 Try.isAgg3 rfl (by first | exact Rd.own (k := 0) rfl rfl | exact Rd.own (k := 1) rfl rfl | exact (hR.bath.at i (by omega)).rd 0 rfl | exact (hR.bath.at i (by omega)).rd 1 rfl | exact (hR.bath.at i (by omega)).rd 2 rfl | exact (hR.dip.at (gt plan i).dipper.toNat (by omega)).rd 0 rfl | exact (hR.dip.at (gt plan i).dipper.toNat (by omega)).rd 1 rfl | exact (hR.dip.at (gt plan i).dipper.toNat (by omega)).rd 2 rfl | exact (hR.bath.at k (by omega)).rd 0 rfl | exact (hR.bath.at k (by omega)).rd 1 rfl | exact (hR.bath.at k (by omega)).rd 2 rfl)) rfl ?_
      refine WL.yd (Yd.assign rfl) rfl ?_
      refine WL.nil ?_
      refine WP.thenC ?_
      refine WC.seq ?_
      refine WC.seq ?_
      refine WC.ofFr [(10, _), (9, _), (8, _), (4, _), (1, _), (2, _), (3, _)] ⟨rfl, rfl, rfl, rfl, rfl, rfl, rfl, trivial⟩ ?_
      refine WC.region ?_
      refine WL.yd (Yd.assign rfl) rfl ?_
      refine WL.nil ?_
      refine WP.thenC ?_
      refine WC.block ?_
      refine WC.loopF (fun k : Nat => [(1, .slice a3 plan.length c3), (2, nt i), (3, .bool true), (4, pt b4), (9, pt b9), (10, it (leftR d plan true (gt plan i) k)), (11, nt k)]) (fun k => k ≤ i + 1) (fun k => i + 1 - k) 0 (by omega) (by exact ⟨rfl, rfl, rfl, rfl, rfl, rfl, rfl, trivial⟩) ?_
      intro k hk
      have hb1 := leftR_num hv plan true (x := gt plan i) (by omega) k (by omega)
      have hb2 : k < d.bathers.length → _ := fun h => (dips_num hv).2.2.2.2 k h
      refine WC.seq ?_
      refine WC.seq ?_
      refine WC.ofFr [(1, _), (2, _), (3, _), (4, _), (9, _), (10, _), (11, _)] ⟨rfl, rfl, rfl, rfl, rfl, rfl, rfl, trivial⟩ ?_
      refine WC.region ?_
      refine WL.yd (Yd.move rfl) rfl ?_
      refine WL.yd (Yd.move rfl) rfl ?_
      refine WL.yd (Yd.leq rfl rfl) rfl ?_
      refine WL.nil ?_
      refine WP.thenC ?_
      refine WC.cond rfl (fun c58 => ?_) (fun c58 => ?_)
      · try simp only [zq1, zq2, zq3, zq4, zq5, zq6, zq7, zq8] at c58
        refine WC.skip ?_
        refine WP.thenC ?_
        refine WC.seq ?_
        refine WC.block ?_
        refine WC.seq ?_
        refine WC.ofFr [(1, _), (2, _), (3, _), (4, _), (9, _), (10, _), (11, _)] ⟨rfl, rfl, rfl, rfl, rfl, rfl, rfl, trivial⟩ ?_
        refine WC.tail 5 [0, 1, 2, 3, 4] rfl (by kernel_rfl) (by kernel_rfl)  ?_
        refine WQ.q rfl (Yd.qt (Yd.move rfl)) rfl ?_
        refine WQ.q rfl (Yd.qt (Yd.move rfl)) rfl ?_
        refine WQ.q rfl (Yd.qt (Yd.indexS Try.underlying26 Try.sizeOf61 rfl rfl (by omega) (by omega) (by first | exact hP.pl.addr i (by omega) | exact hR.bath.addr i (by omega) | exact hR.dip.addr (gt plan i).dipper.toNat (by omega) | exact hP.pl.addr k (by omega) | exact hR.bath.addr k (by omega)))) rfl ?_
        refine WQ.q rfl (Yd.qt (Yd.loadN Try.isAgg61 Try.sizeOf61 rfl (vs := [_, _]) rfl (by first | exact RdN.own (k := 0) (n := 2) rfl rfl | exact RdN.own (k := 1) (n := 2) rfl rfl | exact (hP.pl.at i (by omega)).rdn 0 2 rfl | exact (hP.pl.at k (by omega)).rdn 0 2 rfl))) rfl ?_
        refine WQ.q rfl (Yd.qt (Yd.loadN Try.isAgg61 Try.sizeOf61 rfl (vs := [_, _]) rfl (by first | exact RdN.own (k := 0) (n := 2) rfl rfl | exact RdN.own (k := 1) (n := 2) rfl rfl | exact (hP.pl.at i (by omega)).rdn 0 2 rfl | exact (hP.pl.at k (by omega)).rdn 0 2 rfl))) rfl ?_
        refine WQ.tail ?_
        refine WL.yd (Yd.eqS Try.eqGuardType61 (eq61 _ _ _ _) rfl rfl) rfl ?_
        refine WL.nil ?_
        refine WP.thenC ?_
        refine WC.cond rfl (fun c66 => ?_) (fun c66 => ?_)
        · try simp only [zq1, zq2, zq3, zq4, zq5, zq6, zq7, zq8] at c66
          have c66e : gt plan k = gt plan i := c66
          refine WC.seq ?_
          refine WC.ofFr [(1, _), (2, _), (3, _), (4, _), (9, _), (10, _), (11, _)] ⟨rfl, rfl, rfl, rfl, rfl, rfl, rfl, trivial⟩ ?_
          refine WC.region ?_
          refine WL.yd (Yd.move rfl) rfl ?_
          refine WL.nil ?_
          refine WP.thenC ?_
          refine WC.condT rfl ?_
          refine WC.ofFr [(1, _), (2, _), (3, _), (4, _), (9, _), (10, _), (11, _)] ⟨rfl, rfl, rfl, rfl, rfl, rfl, rfl, trivial⟩ ?_
          refine WC.region ?_
          refine WL.yd (Yd.move rfl) rfl ?_
          refine WL.yd (Yd.fieldAddr FA25_2 rfl) rfl ?_
          refine WL.yd (Yd.load1 Try.isAgg23 rfl (by first | exact Rd.own (k := 0) rfl rfl | exact Rd.own (k := 1) rfl rfl | exact (hR.bath.at i (by omega)).rd 0 rfl | exact (hR.bath.at i (by omega)).rd 1 rfl | exact (hR.bath.at i (by omega)).rd 2 rfl | exact (hR.dip.at (gt plan i).dipper.toNat (by omega)).rd 0 rfl | exact (hR.dip.at (gt plan i).dipper.toNat (by omega)).rd 1 rfl | exact (hR.dip.at (gt plan i).dipper.toNat (by omega)).rd 2 rfl | exact (hR.bath.at k (by omega)).rd 0 rfl | exact (hR.bath.at k (by omega)).rd 1 rfl | exact (hR.bath.at k (by omega)).rd 2 rfl)) rfl ?_
          refine WL.yd (Yd.move rfl) rfl ?_
          refine WL.yd (Yd.indexS Try.underlying23 Try.sizeOf55 rfl rfl (by omega) (by omega) (by first | exact hP.pl.addr i (by omega) | exact hR.bath.addr i (by omega) | exact hR.dip.addr (gt plan i).dipper.toNat (by omega) | exact hP.pl.addr k (by omega) | exact hR.bath.addr k (by omega))) rfl ?_
          refine WL.yd (Yd.fieldAddr FA55_0 rfl) rfl ?_
          refine WL.yd (Yd.fieldAddr FA35_0 rfl) rfl ?_
          refine WL.yd (Yd.load1 Try.isAgg3 rfl (by first | exact Rd.own (k := 0) rfl rfl | exact Rd.own (k := 1) rfl rfl | exact (hR.bath.at i (by omega)).rd 0 rfl | exact (hR.bath.at i (by omega)).rd 1 rfl | exact (hR.bath.at i (by omega)).rd 2 rfl | exact (hR.dip.at (gt plan i).dipper.toNat (by omega)).rd 0 rfl | exact (hR.dip.at (gt plan i).dipper.toNat (by omega)).rd 1 rfl | exact (hR.dip.at (gt plan i).dipper.toNat (by omega)).rd 2 rfl | exact (hR.bath.at k (by omega)).rd 0 rfl | exact (hR.bath.at k (by omega)).rd 1 rfl | exact (hR.bath.at k (by omega)).rd 2 rfl)) rfl ?_
          refine WL.yd (Yd.sub rfl rfl (wr64 ⟨by omega, by omega⟩)) rfl ?_
          refine WL.yd (Yd.assign rfl) rfl ?_
          refine WL.nil ?_
          refine WP.blkNormal ?_
          refine WP.thenC ?_
          refine WC.ofFr [(10, _), (1, _), (2, _), (3, _), (4, _), (9, _), (11, _)] ⟨rfl, rfl, rfl, rfl, rfl, rfl, rfl, trivial⟩ ?_
          refine WC.region ?_
          refine WL.yd (Yd.move rfl) rfl ?_
          refine WL.yd (Yd.add rfl rfl (wr64 ⟨by omega, by omega⟩)) rfl ?_
          refine WL.yd (Yd.assign rfl) rfl ?_
          refine WL.nil ?_
          exact WP.againF (k + 1) (by omega) (by omega) ⟨rfl, rfl, rfl, rfl, rfl, (by simp only [leftR, c66e, if_true, if_false, need0, Int.sub_zero]; rfl), rfl, trivial⟩ (fun _ h => h) (fun h => h)
        · try simp only [zq1, zq2, zq3, zq4, zq5, zq6, zq7, zq8] at c66
          have c66e : ¬ gt plan k = gt plan i := c66
          refine WC.skip ?_
          refine WP.blkNormal ?_
          refine WP.thenC ?_
          refine WC.ofFr [(1, _), (2, _), (3, _), (4, _), (9, _), (10, _), (11, _)] ⟨rfl, rfl, rfl, rfl, rfl, rfl, rfl, trivial⟩ ?_
          refine WC.region ?_
          refine WL.yd (Yd.move rfl) rfl ?_
          refine WL.yd (Yd.add rfl rfl (wr64 ⟨by omega, by omega⟩)) rfl ?_
          refine WL.yd (Yd.assign rfl) rfl ?_
          refine WL.nil ?_
          exact WP.againF (k + 1) (by omega) (by omega) ⟨rfl, rfl, rfl, rfl, rfl, (by simp only [leftR, c66e, if_true, if_false, need0, Int.sub_zero]; rfl), rfl, trivial⟩ (fun _ h => h) (fun h => h)
      · try simp only [zq1, zq2, zq3, zq4, zq5, zq6, zq7, zq8] at c58
        refine WC.exit ?_
        refine WP.thenExit ?_
        refine WP.thenExit ?_
        refine WP.blkHit ?_
        refine WP.thenC ?_
        refine WC.seq ?_
        refine WC.seq ?_
        refine WC.ofFr [(10, _)] ⟨rfl, trivial⟩ ?_
        refine WC.region ?_
        refine WL.yd (Yd.move rfl) rfl ?_
        refine WL.yd (Yd.lss rfl rfl) rfl ?_
        refine WL.nil ?_
        refine WP.thenC ?_
        refine WC.cond rfl (fun c87 => ?_) (fun c87 => ?_)
        · try simp only [zq1, zq2, zq3, zq4, zq5, zq6, zq7, zq8] at c87
          refine WC.seq ?_
          refine WC.ofFr [] trivial ?_
          refine WC.region ?_
          refine WL.yd (Yd.assign rfl) rfl ?_
          refine WL.nil ?_
          refine WP.thenC ?_
          refine WC.ret ?_
          refine WP.thenRet ?_
          refine WP.ret1 rfl rfl Try.results54 (RV.tmp rfl) (fun w hI => ⟨ret_int (by
                  unfold brokenR
                  first
                    | (rw [if_pos (by simp_all)]; done)
                    | (obtain rfl : k = i + 1 := by omega
                       rw [if_neg (by simp_all), if_pos (by omega)]; done)
                    | (obtain rfl : k = i + 1 := by omega
                       rw [if_neg (by simp_all), if_neg (by omega)]; done)), hI.keep⟩)
        · try simp only [zq1, zq2, zq3, zq4, zq5, zq6, zq7, zq8] at c87
          refine WC.skip ?_
          refine WP.thenC ?_
          refine WC.seq ?_
          refine WC.ofFr [] trivial ?_
          refine WC.region ?_
          refine WL.yd (Yd.assign rfl) rfl ?_
          refine WL.nil ?_
          refine WP.thenC ?_
          refine WC.ret ?_
          refine WP.ret1 rfl rfl Try.results54 (RV.tmp rfl) (fun w hI => ⟨ret_int (by
                  unfold brokenR
                  first
                    | (rw [if_pos (by simp_all)]; done)
                    | (obtain rfl : k = i + 1 := by omega
                       rw [if_neg (by simp_all), if_pos (by omega)]; done)
                    | (obtain rfl : k = i + 1 := by omega
                       rw [if_neg (by simp_all), if_neg (by omega)]; done)), hI.keep⟩)

set_option maxRecDepth 100000 in
set_option maxHeartbeats 1000000 in
theorem broken_false (d : Dips) (a1 : Option Addr) (n1 c1 : Nat) (a2 : Option Addr) (n2 c2 : Nat) (D : Imm) (w : World) (hR : DipsR D d a1 n1 a2 n2) (hH : Holds D w) (plan : List Plc) (a3 : Option Addr) (n3 c3 : Nat) (hP : PlanR D plan a3 n3) (i : Nat) (hi : i < plan.length) (hv : dipsB d = true) (hq : PlOk d plan) (hl : plan.length ≤ d.bathers.length) : Gives Try.prog 54 [.agg #[it d.hours, .slice a1 n1 c1, .slice a2 n2 c2], .slice a3 n3 c3, nt i, .bool false] w (it (brokenR d plan i false)) := by
  unfold Gives
  obtain rfl := hR.dip.len'
  obtain rfl := hR.bath.len'
  have hl1 := hR.len1
  have hl2 := hR.len2
  obtain rfl := hP.pl.len'
  have hl3 := hP.len
  obtain ⟨hh, hd1, hd2, hdn, hbn⟩ := dips_num hv
  have hqi := hq i hi
  have hdn1 := hdn (gt plan i).dipper.toNat (by omega)
  have hbn1 := hbn i (by omega)
  refine enter Try.func54 rfl 88 Try.ntmps54 (Nat.le_of_ble_eq_true rfl) (Inv.start hH) ?_
  refine WC.seq ?_
  refine WC.ofFr [(0, _), (1, _), (2, _), (3, _)] ⟨rfl, rfl, rfl, rfl, trivial⟩ ?_
  refine WC.region ?_
  refine WL.so (SO.box rfl rfl) rfl ?_
  rintro _ _ _ ⟨b4, hb4, rfl, rfl, rfl⟩ -- NEW
  refine WL.yd (Yd.assign rfl) rfl ?_
  refine WL.nil ?_
  refine WP.thenC ?_
  refine WC.seq ?_
  refine WC.ofFr [(8, _), (4, _), (1, _), (2, _), (3, _)] ⟨rfl, rfl, rfl, rfl, rfl, trivial⟩ ?_
  refine WC.region ?_
  refine WL.yd (Yd.move rfl) rfl ?_
  refine WL.yd (Yd.move rfl) rfl ?_
  refine WL.yd (Yd.indexS Try.underlying26 Try.sizeOf61 rfl rfl (by omega) (by omega) (by first | exact hP.pl.addr i (by omega) | exact hR.bath.addr i (by omega) | exact hR.dip.addr (gt plan i).dipper.toNat (by omega) | exact hP.pl.addr k (by omega) | exact hR.bath.addr k (by omega))) rfl ?_
  refine WL.yd (Yd.loadN Try.isAgg61 Try.sizeOf61 rfl (vs := [_, _]) rfl (by first | exact RdN.own (k := 0) (n := 2) rfl rfl | exact (hP.pl.at i (by omega)).rdn 0 2 rfl | exact (hP.pl.at k (by omega)).rdn 0 2 rfl)) rfl ?_
  refine WL.so (SO.alloc Try.zeroValue61 rfl) rfl ?_
  rintro _ _ _ ⟨b9, hb9, rfl, rfl, rfl⟩ -- NEW
  refine WL.so (SO.store 0 rfl Try.sizeOf61 rfl rfl rfl rfl (Nat.le_of_ble_eq_true rfl) (oneB_spec rfl)) rfl ?_
  rintro _ _ _ ⟨rfl, rfl, rfl⟩
  refine WL.nil ?_
  refine WP.thenC ?_
  refine WC.seq ?_
  refine WC.seq ?_
  refine WC.ofFr [(9, _), (8, _), (4, _), (1, _), (2, _), (3, _)] ⟨rfl, rfl, rfl, rfl, rfl, rfl, trivial⟩ ?_
  refine WC.tail 20 [0, 1, 2, 3, 4, 5, 6, 7, 8, 9, 10, 11, 12, 13, 14, 15, 16, 17, 18, 19] rfl (by kernel_rfl) (by kernel_rfl)  ?_
  refine WQ.q rfl (Yd.qt (Yd.fieldAddr FA25_2 rfl)) rfl ?_
  refine WQ.q rfl (Yd.qt (Yd.load1 Try.isAgg23 rfl (by first | exact Rd.own (k := 0) rfl rfl | exact Rd.own (k := 1) rfl rfl | exact (hR.bath.at i (by omega)).rd 0 rfl | exact (hR.bath.at i (by omega)).rd 1 rfl | exact (hR.bath.at i (by omega)).rd 2 rfl | exact (hR.dip.at (gt plan i).dipper.toNat (by omega)).rd 0 rfl | exact (hR.dip.at (gt plan i).dipper.toNat (by omega)).rd 1 rfl | exact (hR.dip.at (gt plan i).dipper.toNat (by omega)).rd 2 rfl | exact (hR.bath.at k (by omega)).rd 0 rfl | exact (hR.bath.at k (by omega)).rd 1 rfl | exact (hR.bath.at k (by omega)).rd 2 rfl))) rfl ?_
  refine WQ.q rfl (Yd.qt (Yd.move rfl)) rfl ?_
  refine WQ.q rfl (Yd.qt (Yd.indexS Try.underlying23 Try.sizeOf55 rfl rfl (by omega) (by omega) (by first | exact hP.pl.addr i (by omega) | exact hR.bath.addr i (by omega) | exact hR.dip.addr (gt plan i).dipper.toNat (by omega) | exact hP.pl.addr k (by omega) | exact hR.bath.addr k (by omega)))) rfl ?_
  refine WQ.q rfl (Yd.qt (Yd.fieldAddr FA55_1 rfl)) rfl ?_
  refine WQ.q rfl (Yd.qt (Yd.load1 Try.isAgg3 rfl (by first | exact Rd.own (k := 0) rfl rfl | exact Rd.own (k := 1) rfl rfl | exact (hR.bath.at i (by omega)).rd 0 rfl | exact (hR.bath.at i (by omega)).rd 1 rfl | exact (hR.bath.at i (by omega)).rd 2 rfl | exact (hR.dip.at (gt plan i).dipper.toNat (by omega)).rd 0 rfl | exact (hR.dip.at (gt plan i).dipper.toNat (by omega)).rd 1 rfl | exact (hR.dip.at (gt plan i).dipper.toNat (by omega)).rd 2 rfl | exact (hR.bath.at k (by omega)).rd 0 rfl | exact (hR.bath.at k (by omega)).rd 1 rfl | exact (hR.bath.at k (by omega)).rd 2 rfl))) rfl ?_
  refine WQ.q rfl (Yd.qt (Yd.fieldAddr FA61_0 rfl)) rfl ?_
  refine WQ.q rfl (Yd.qt (Yd.load1 Try.isAgg3 rfl (by first | exact Rd.own (k := 0) rfl rfl | exact Rd.own (k := 1) rfl rfl | exact (hR.bath.at i (by omega)).rd 0 rfl | exact (hR.bath.at i (by omega)).rd 1 rfl | exact (hR.bath.at i (by omega)).rd 2 rfl | exact (hR.dip.at (gt plan i).dipper.toNat (by omega)).rd 0 rfl | exact (hR.dip.at (gt plan i).dipper.toNat (by omega)).rd 1 rfl | exact (hR.dip.at (gt plan i).dipper.toNat (by omega)).rd 2 rfl | exact (hR.bath.at k (by omega)).rd 0 rfl | exact (hR.bath.at k (by omega)).rd 1 rfl | exact (hR.bath.at k (by omega)).rd 2 rfl))) rfl ?_
  refine WQ.q rfl (Qt.callP Try.call65 rfl (fun w hI => has_g _ _ _ (by omega) (by omega) (by omega))) rfl ?_
  refine WQ.q rfl (Yd.qt (Yd.not rfl)) rfl ?_
  refine WQ.q rfl (Yd.qt (Yd.move rfl)) rfl ?_
  refine WQ.part 26 rfl (fun g26 => ?_) (fun g26 => ?_)
  · try simp only [zq1, zq2, zq3, zq4, zq5, zq6, zq7, zq8] at g26
    refine WQ.skip rfl rfl rfl ?_
    refine WQ.skip rfl rfl rfl ?_
    refine WQ.skip rfl rfl rfl ?_
    refine WQ.skip rfl rfl rfl ?_
    refine WQ.skip rfl rfl rfl ?_
    refine WQ.skip rfl rfl rfl ?_
    refine WQ.skip rfl rfl rfl ?_
    refine WQ.skip rfl rfl rfl ?_
    refine WQ.skip rfl rfl rfl ?_
    refine WQ.tail ?_
    refine WL.skip rfl rfl ?_
    refine WL.skip rfl rfl ?_
    refine WL.yd (Yd.pickT rfl rfl) rfl ?_
    refine WL.nil ?_
    refine WP.thenC ?_
    refine WC.condT rfl ?_
    refine WC.seq ?_
    refine WC.ofFr [(9, _), (8, _), (4, _), (1, _), (2, _), (3, _)] ⟨rfl, rfl, rfl, rfl, rfl, rfl, trivial⟩ ?_
    refine WC.region ?_
    refine WL.yd (Yd.assign rfl) rfl ?_
    refine WL.nil ?_
    refine WP.thenC ?_
    refine WC.ret ?_
    refine WP.thenRet ?_
    refine WP.ret1 rfl rfl Try.results54 (RV.tmp rfl) (fun w hI => ⟨ret_int (by
            unfold brokenR
            first
              | (rw [if_pos (by simp_all)]; done)
              | (obtain rfl : k = i + 1 := by omega
                 rw [if_neg (by simp_all), if_pos (by omega)]; done)
              | (obtain rfl : k = i + 1 := by omega
                 rw [if_neg (by simp_all), if_neg (by omega)]; done)), hI.keep⟩)
  · try simp only [zq1, zq2, zq3, zq4, zq5, zq6, zq7, zq8] at g26
    refine WQ.qg rfl rfl (Yd.qt (Yd.fieldAddr FA25_1 rfl)) rfl ?_
    refine WQ.qg rfl rfl (Yd.qt (Yd.load1 Try.isAgg22 rfl (by first | exact Rd.own (k := 0) rfl rfl | exact Rd.own (k := 1) rfl rfl | exact (hR.bath.at i (by omega)).rd 0 rfl | exact (hR.bath.at i (by omega)).rd 1 rfl | exact (hR.bath.at i (by omega)).rd 2 rfl | exact (hR.dip.at (gt plan i).dipper.toNat (by omega)).rd 0 rfl | exact (hR.dip.at (gt plan i).dipper.toNat (by omega)).rd 1 rfl | exact (hR.dip.at (gt plan i).dipper.toNat (by omega)).rd 2 rfl | exact (hR.bath.at k (by omega)).rd 0 rfl | exact (hR.bath.at k (by omega)).rd 1 rfl | exact (hR.bath.at k (by omega)).rd 2 rfl))) rfl ?_
    refine WQ.qg rfl rfl (Yd.qt (Yd.fieldAddr FA61_1 rfl)) rfl ?_
    refine WQ.qg rfl rfl (Yd.qt (Yd.load1 Try.isAgg3 rfl (by first | exact Rd.own (k := 0) rfl rfl | exact Rd.own (k := 1) rfl rfl | exact (hR.bath.at i (by omega)).rd 0 rfl | exact (hR.bath.at i (by omega)).rd 1 rfl | exact (hR.bath.at i (by omega)).rd 2 rfl | exact (hR.dip.at (gt plan i).dipper.toNat (by omega)).rd 0 rfl | exact (hR.dip.at (gt plan i).dipper.toNat (by omega)).rd 1 rfl | exact (hR.dip.at (gt plan i).dipper.toNat (by omega)).rd 2 rfl | exact (hR.bath.at k (by omega)).rd 0 rfl | exact (hR.bath.at k (by omega)).rd 1 rfl | exact (hR.bath.at k (by omega)).rd 2 rfl))) rfl ?_
    refine WQ.qg rfl rfl (Yd.qt (Yd.indexS Try.underlying22 Try.sizeOf53 rfl rfl (by omega) (by omega) (by first | exact hP.pl.addr i (by omega) | exact hR.bath.addr i (by omega) | exact hR.dip.addr (gt plan i).dipper.toNat (by omega) | exact hP.pl.addr k (by omega) | exact hR.bath.addr k (by omega)))) rfl ?_
    refine WQ.qg rfl rfl (Yd.qt (Yd.fieldAddr FA53_1 rfl)) rfl ?_
    refine WQ.qg rfl rfl (Yd.qt (Yd.load1 Try.isAgg3 rfl (by first | exact Rd.own (k := 0) rfl rfl | exact Rd.own (k := 1) rfl rfl | exact (hR.bath.at i (by omega)).rd 0 rfl | exact (hR.bath.at i (by omega)).rd 1 rfl | exact (hR.bath.at i (by omega)).rd 2 rfl | exact (hR.dip.at (gt plan i).dipper.toNat (by omega)).rd 0 rfl | exact (hR.dip.at (gt plan i).dipper.toNat (by omega)).rd 1 rfl | exact (hR.dip.at (gt plan i).dipper.toNat (by omega)).rd 2 rfl | exact (hR.bath.at k (by omega)).rd 0 rfl | exact (hR.bath.at k (by omega)).rd 1 rfl | exact (hR.bath.at k (by omega)).rd 2 rfl))) rfl ?_
    refine WQ.qg rfl rfl (Yd.qt (Yd.fieldAddr FA61_0 rfl)) rfl ?_
    refine WQ.qg rfl rfl (Yd.qt (Yd.load1 Try.isAgg3 rfl (by first | exact Rd.own (k := 0) rfl rfl | exact Rd.own (k := 1) rfl rfl | exact (hR.bath.at i (by omega)).rd 0 rfl | exact (hR.bath.at i (by omega)).rd 1 rfl | exact (hR.bath.at i (by omega)).rd 2 rfl | exact (hR.dip.at (gt plan i).dipper.toNat (by omega)).rd 0 rfl | exact (hR.dip.at (gt plan i).dipper.toNat (by omega)).rd 1 rfl | exact (hR.dip.at (gt plan i).dipper.toNat (by omega)).rd 2 rfl | exact (hR.bath.at k (by omega)).rd 0 rfl | exact (hR.bath.at k (by omega)).rd 1 rfl | exact (hR.bath.at k (by omega)).rd 2 rfl))) rfl ?_
    refine WQ.tail ?_
    refine WL.sog rfl (SO.callP Try.call65 rfl (fun w hI => has_g _ _ _ (by omega) (by omega) (by omega))) rfl ?_
    rintro _ _ _ ⟨rfl, rfl, rfl⟩
    refine WL.ydg rfl (Yd.not rfl) rfl ?_
    refine WL.yd (Yd.pickF rfl rfl) rfl ?_
    refine WL.nil ?_
    refine WP.thenC ?_
    refine WC.cond rfl (fun c38 => ?_) (fun c38 => ?_)
    · try simp only [zq1, zq2, zq3, zq4, zq5, zq6, zq7, zq8] at c38
      refine WC.seq ?_
      refine WC.ofFr [(9, _), (8, _), (4, _), (1, _), (2, _), (3, _)] ⟨rfl, rfl, rfl, rfl, rfl, rfl, trivial⟩ ?_
      refine WC.region ?_
      refine WL.yd (Yd.assign rfl) rfl ?_
      refine WL.nil ?_
      refine WP.thenC ?_
      refine WC.ret ?_
      refine WP.thenRet ?_
      refine WP.ret1 rfl rfl Try.results54 (RV.tmp rfl) (fun w hI => ⟨ret_int (by
              unfold brokenR
              first
                | (rw [if_pos (by simp_all)]; done)
                | (obtain rfl : k = i + 1 := by omega
                   rw [if_neg (by simp_all), if_pos (by omega)]; done)
                | (obtain rfl : k = i + 1 := by omega
                   rw [if_neg (by simp_all), if_neg (by omega)]; done)), hI.keep⟩)
    · try simp only [zq1, zq2, zq3, zq4, zq5, zq6, zq7, zq8] at c38
      refine WC.skip ?_
      refine WP.thenC ?_
      refine WC.seq ?_
      refine WC.ofFr [(9, _), (8, _), (4, _), (1, _), (2, _), (3, _)] ⟨rfl, rfl, rfl, rfl, rfl, rfl, trivial⟩ ?_
      refine WC.region ?_
      refine WL.yd (Yd.fieldAddr FA25_1 rfl) rfl ?_
      refine WL.yd (Yd.load1 Try.isAgg22 rfl (by first | exact Rd.own (k := 0) rfl rfl | exact Rd.own (k := 1) rfl rfl | exact (hR.bath.at i (by omega)).rd 0 rfl | exact (hR.bath.at i (by omega)).rd 1 rfl | exact (hR.bath.at i (by omega)).rd 2 rfl | exact (hR.dip.at (gt plan i).dipper.toNat (by omega)).rd 0 rfl | exact (hR.dip.at (gt plan i).dipper.toNat (by omega)).rd 1 rfl | exact (hR.dip.at (gt plan i).dipper.toNat (by omega)).rd 2 rfl | exact (hR.bath.at k (by omega)).rd 0 rfl | exact (hR.bath.at k (by omega)).rd 1 rfl | exact (hR.bath.at k (by omega)).rd 2 rfl)) rfl ?_
      refine WL.yd (Yd.fieldAddr FA61_1 rfl) rfl ?_
      refine WL.yd (Yd.load1 Try.isAgg3 rfl (by first | exact Rd.own (k := 0) rfl rfl | exact Rd.own (k := 1) rfl rfl | exact (hR.bath.at i (by omega)).rd 0 rfl | exact (hR.bath.at i (by omega)).rd 1 rfl | exact (hR.bath.at i (by omega)).rd 2 rfl | exact (hR.dip.at (gt plan i).dipper.toNat (by omega)).rd 0 rfl | exact (hR.dip.at (gt plan i).dipper.toNat (by omega)).rd 1 rfl | exact (hR.dip.at (gt plan i).dipper.toNat (by omega)).rd 2 rfl | exact (hR.bath.at k (by omega)).rd 0 rfl | exact (hR.bath.at k (by omega)).rd 1 rfl | exact (hR.bath.at k (by omega)).rd 2 rfl)) rfl ?_
      refine WL.yd (Yd.indexS Try.underlying22 Try.sizeOf53 rfl rfl (by omega) (by omega) (by first | exact hP.pl.addr i (by omega) | exact hR.bath.addr i (by omega) | exact hR.dip.addr (gt plan i).dipper.toNat (by omega) | exact hP.pl.addr k (by omega) | exact hR.bath.addr k (by omega))) rfl ?_
      refine WL.yd (Yd.fieldAddr FA53_0 rfl) rfl ?_
      refine WL.yd (Yd.fieldAddr FA35_0 rfl) rfl ?_
      refine WL.yd (Yd.load1 Try.isAgg3 rfl (by first | exact Rd.own (k := 0) rfl rfl | exact Rd.own (k := 1) rfl rfl | exact (hR.bath.at i (by omega)).rd 0 rfl | exact (hR.bath.at i (by omega)).rd 1 rfl | exact (hR.bath.at i (by omega)).rd 2 rfl | exact (hR.dip.at (gt plan i).dipper.toNat (by omega)).rd 0 rfl | exact (hR.dip.at (gt plan i).dipper.toNat (by omega)).rd 1 rfl | exact (hR.dip.at (gt plan i).dipper.toNat (by omega)).rd 2 rfl | exact (hR.bath.at k (by omega)).rd 0 rfl | exact (hR.bath.at k (by omega)).rd 1 rfl | exact (hR.bath.at k (by omega)).rd 2 rfl)) rfl ?_
      refine WL.yd (Yd.assign rfl) rfl ?_
      refine WL.nil ?_
      refine WP.thenC ?_
      refine WC.seq ?_
      refine WC.seq ?_
      refine WC.ofFr [(10, _), (9, _), (8, _), (4, _), (1, _), (2, _), (3, _)] ⟨rfl, rfl, rfl, rfl, rfl, rfl, rfl, trivial⟩ ?_
      refine WC.region ?_
      refine WL.yd (Yd.move rfl) rfl ?_
      refine WL.nil ?_
      refine WP.thenC ?_
      refine WC.condF rfl ?_
      refine WC.skip ?_
      refine WP.thenC ?_
      refine WC.seq ?_
      refine WC.seq ?_
      refine WC.ofFr [(10, _), (9, _), (8, _), (4, _), (1, _), (2, _), (3, _)] ⟨rfl, rfl, rfl, rfl, rfl, rfl, rfl, trivial⟩ ?_
      refine WC.region ?_
      refine WL.yd (Yd.assign rfl) rfl ?_
      refine WL.nil ?_
      refine WP.thenC ?_
      refine WC.block ?_
      refine WC.loopF (fun k : Nat => [(1, .slice a3 plan.length c3), (2, nt i), (3, .bool false), (4, pt b4), (9, pt b9), (10, it (leftR d plan false (gt plan i) k)), (11, nt k)]) (fun k => k ≤ i + 1) (fun k => i + 1 - k) 0 (by omega) (by exact ⟨rfl, rfl, rfl, rfl, rfl, rfl, rfl, trivial⟩) ?_
      intro k hk
      have hb1 := leftR_num hv plan false (x := gt plan i) (by omega) k (by omega)
      have hb2 : k < d.bathers.length → _ := fun h => (dips_num hv).2.2.2.2 k h
      refine WC.seq ?_
      refine WC.seq ?_
      refine WC.ofFr [(1, _), (2, _), (3, _), (4, _), (9, _), (10, _), (11, _)] ⟨rfl, rfl, rfl, rfl, rfl, rfl, rfl, trivial⟩ ?_
      refine WC.region ?_
      refine WL.yd (Yd.move rfl) rfl ?_
      refine WL.yd (Yd.move rfl) rfl ?_
      refine WL.yd (Yd.leq rfl rfl) rfl ?_
      refine WL.nil ?_
      refine WP.thenC ?_
      refine WC.cond rfl (fun c58 => ?_) (fun c58 => ?_)
      · try simp only [zq1, zq2, zq3, zq4, zq5, zq6, zq7, zq8] at c58
        refine WC.skip ?_
        refine WP.thenC ?_
        refine WC.seq ?_
        refine WC.block ?_
        refine WC.seq ?_
        refine WC.ofFr [(1, _), (2, _), (3, _), (4, _), (9, _), (10, _), (11, _)] ⟨rfl, rfl, rfl, rfl, rfl, rfl, rfl, trivial⟩ ?_
        refine WC.tail 5 [0, 1, 2, 3, 4] rfl (by kernel_rfl) (by kernel_rfl)  ?_
        refine WQ.q rfl (Yd.qt (Yd.move rfl)) rfl ?_
        refine WQ.q rfl (Yd.qt (Yd.move rfl)) rfl ?_
        refine WQ.q rfl (Yd.qt (Yd.indexS Try.underlying26 Try.sizeOf61 rfl rfl (by omega) (by omega) (by first | exact hP.pl.addr i (by omega) | exact hR.bath.addr i (by omega) | exact hR.dip.addr (gt plan i).dipper.toNat (by omega) | exact hP.pl.addr k (by omega) | exact hR.bath.addr k (by omega)))) rfl ?_
        refine WQ.q rfl (Yd.qt (Yd.loadN Try.isAgg61 Try.sizeOf61 rfl (vs := [_, _]) rfl (by first | exact RdN.own (k := 0) (n := 2) rfl rfl | exact RdN.own (k := 1) (n := 2) rfl rfl | exact (hP.pl.at i (by omega)).rdn 0 2 rfl | exact (hP.pl.at k (by omega)).rdn 0 2 rfl))) rfl ?_
        refine WQ.q rfl (Yd.qt (Yd.loadN Try.isAgg61 Try.sizeOf61 rfl (vs := [_, _]) rfl (by first | exact RdN.own (k := 0) (n := 2) rfl rfl | exact RdN.own (k := 1) (n := 2) rfl rfl | exact (hP.pl.at i (by omega)).rdn 0 2 rfl | exact (hP.pl.at k (by omega)).rdn 0 2 rfl))) rfl ?_
        refine WQ.tail ?_
        refine WL.yd (Yd.eqS Try.eqGuardType61 (eq61 _ _ _ _) rfl rfl) rfl ?_
        refine WL.nil ?_
        refine WP.thenC ?_
        refine WC.cond rfl (fun c66 => ?_) (fun c66 => ?_)
        · try simp only [zq1, zq2, zq3, zq4, zq5, zq6, zq7, zq8] at c66
          have c66e : gt plan k = gt plan i := c66
          refine WC.seq ?_
          refine WC.ofFr [(1, _), (2, _), (3, _), (4, _), (9, _), (10, _), (11, _)] ⟨rfl, rfl, rfl, rfl, rfl, rfl, rfl, trivial⟩ ?_
          refine WC.region ?_
          refine WL.yd (Yd.move rfl) rfl ?_
          refine WL.nil ?_
          refine WP.thenC ?_
          refine WC.condF rfl ?_
          refine WC.ofFr [(1, _), (2, _), (3, _), (4, _), (9, _), (10, _), (11, _)] ⟨rfl, rfl, rfl, rfl, rfl, rfl, rfl, trivial⟩ ?_
          refine WC.region ?_
          refine WL.yd (Yd.move rfl) rfl ?_
          refine WL.yd (Yd.fieldAddr FA25_2 rfl) rfl ?_
          refine WL.yd (Yd.load1 Try.isAgg23 rfl (by first | exact Rd.own (k := 0) rfl rfl | exact Rd.own (k := 1) rfl rfl | exact (hR.bath.at i (by omega)).rd 0 rfl | exact (hR.bath.at i (by omega)).rd 1 rfl | exact (hR.bath.at i (by omega)).rd 2 rfl | exact (hR.dip.at (gt plan i).dipper.toNat (by omega)).rd 0 rfl | exact (hR.dip.at (gt plan i).dipper.toNat (by omega)).rd 1 rfl | exact (hR.dip.at (gt plan i).dipper.toNat (by omega)).rd 2 rfl | exact (hR.bath.at k (by omega)).rd 0 rfl | exact (hR.bath.at k (by omega)).rd 1 rfl | exact (hR.bath.at k (by omega)).rd 2 rfl)) rfl ?_
          refine WL.yd (Yd.move rfl) rfl ?_
          refine WL.yd (Yd.indexS Try.underlying23 Try.sizeOf55 rfl rfl (by omega) (by omega) (by first | exact hP.pl.addr i (by omega) | exact hR.bath.addr i (by omega) | exact hR.dip.addr (gt plan i).dipper.toNat (by omega) | exact hP.pl.addr k (by omega) | exact hR.bath.addr k (by omega))) rfl ?_
          refine WL.yd (Yd.fieldAddr FA55_0 rfl) rfl ?_
          refine WL.yd (Yd.fieldAddr FA35_1 rfl) rfl ?_
          refine WL.yd (Yd.load1 Try.isAgg3 rfl (by first | exact Rd.own (k := 0) rfl rfl | exact Rd.own (k := 1) rfl rfl | exact (hR.bath.at i (by omega)).rd 0 rfl | exact (hR.bath.at i (by omega)).rd 1 rfl | exact (hR.bath.at i (by omega)).rd 2 rfl | exact (hR.dip.at (gt plan i).dipper.toNat (by omega)).rd 0 rfl | exact (hR.dip.at (gt plan i).dipper.toNat (by omega)).rd 1 rfl | exact (hR.dip.at (gt plan i).dipper.toNat (by omega)).rd 2 rfl | exact (hR.bath.at k (by omega)).rd 0 rfl | exact (hR.bath.at k (by omega)).rd 1 rfl | exact (hR.bath.at k (by omega)).rd 2 rfl)) rfl ?_
          refine WL.yd (Yd.sub rfl rfl (wr64 ⟨by omega, by omega⟩)) rfl ?_
          refine WL.yd (Yd.assign rfl) rfl ?_
          refine WL.nil ?_
          refine WP.blkNormal ?_
          refine WP.thenC ?_
          refine WC.ofFr [(10, _), (1, _), (2, _), (3, _), (4, _), (9, _), (11, _)] ⟨rfl, rfl, rfl, rfl, rfl, rfl, rfl, trivial⟩ ?_
          refine WC.region ?_
          refine WL.yd (Yd.move rfl) rfl ?_
          refine WL.yd (Yd.add rfl rfl (wr64 ⟨by omega, by omega⟩)) rfl ?_
          refine WL.yd (Yd.assign rfl) rfl ?_
          refine WL.nil ?_
          exact WP.againF (k + 1) (by omega) (by omega) ⟨rfl, rfl, rfl, rfl, rfl, (by simp only [leftR, c66e, if_true, if_false, need0, Int.sub_zero]; rfl), rfl, trivial⟩ (fun _ h => h) (fun h => h)
        · try simp only [zq1, zq2, zq3, zq4, zq5, zq6, zq7, zq8] at c66
          have c66e : ¬ gt plan k = gt plan i := c66
          refine WC.skip ?_
          refine WP.blkNormal ?_
          refine WP.thenC ?_
          refine WC.ofFr [(1, _), (2, _), (3, _), (4, _), (9, _), (10, _), (11, _)] ⟨rfl, rfl, rfl, rfl, rfl, rfl, rfl, trivial⟩ ?_
          refine WC.region ?_
          refine WL.yd (Yd.move rfl) rfl ?_
          refine WL.yd (Yd.add rfl rfl (wr64 ⟨by omega, by omega⟩)) rfl ?_
          refine WL.yd (Yd.assign rfl) rfl ?_
          refine WL.nil ?_
          exact WP.againF (k + 1) (by omega) (by omega) ⟨rfl, rfl, rfl, rfl, rfl, (by simp only [leftR, c66e, if_true, if_false, need0, Int.sub_zero]; rfl), rfl, trivial⟩ (fun _ h => h) (fun h => h)
      · try simp only [zq1, zq2, zq3, zq4, zq5, zq6, zq7, zq8] at c58
        refine WC.exit ?_
        refine WP.thenExit ?_
        refine WP.thenExit ?_
        refine WP.blkHit ?_
        refine WP.thenC ?_
        refine WC.seq ?_
        refine WC.seq ?_
        refine WC.ofFr [(10, _)] ⟨rfl, trivial⟩ ?_
        refine WC.region ?_
        refine WL.yd (Yd.move rfl) rfl ?_
        refine WL.yd (Yd.lss rfl rfl) rfl ?_
        refine WL.nil ?_
        refine WP.thenC ?_
        refine WC.cond rfl (fun c87 => ?_) (fun c87 => ?_)
        · try simp only [zq1, zq2, zq3, zq4, zq5, zq6, zq7, zq8] at c87
          refine WC.seq ?_
          refine WC.ofFr [] trivial ?_
          refine WC.region ?_
          refine WL.yd (Yd.assign rfl) rfl ?_
          refine WL.nil ?_
          refine WP.thenC ?_
          refine WC.ret ?_
          refine WP.thenRet ?_
          refine WP.ret1 rfl rfl Try.results54 (RV.tmp rfl) (fun w hI => ⟨ret_int (by
                  unfold brokenR
                  first
                    | (rw [if_pos (by simp_all)]; done)
                    | (obtain rfl : k = i + 1 := by omega
                       rw [if_neg (by simp_all), if_pos (by omega)]; done)
                    | (obtain rfl : k = i + 1 := by omega
                       rw [if_neg (by simp_all), if_neg (by omega)]; done)), hI.keep⟩)
        · try simp only [zq1, zq2, zq3, zq4, zq5, zq6, zq7, zq8] at c87
          refine WC.skip ?_
          refine WP.thenC ?_
          refine WC.seq ?_
          refine WC.ofFr [] trivial ?_
          refine WC.region ?_
          refine WL.yd (Yd.assign rfl) rfl ?_
          refine WL.nil ?_
          refine WP.thenC ?_
          refine WC.ret ?_
          refine WP.ret1 rfl rfl Try.results54 (RV.tmp rfl) (fun w hI => ⟨ret_int (by
                  unfold brokenR
                  first
                    | (rw [if_pos (by simp_all)]; done)
                    | (obtain rfl : k = i + 1 := by omega
                       rw [if_neg (by simp_all), if_pos (by omega)]; done)
                    | (obtain rfl : k = i + 1 := by omega
                       rw [if_neg (by simp_all), if_neg (by omega)]; done)), hI.keep⟩)

end Go.Proofs.Ytidjdonppfegiaa
namespace Go.Proofs.Ytidjdonppfegiaa
open Go.W Go.Dp
theorem SA35 : StructAt Try.prog 35 [.int .i64 0, .int .i64 0] [(0, 1), (1, 1)] := ⟨⟨_, Try.zeroValue35, rfl⟩, _, Try.underlying35, fun w => by simp [Try.sizeOf3]⟩
theorem broken_g (d : Dips) (a1 : Option Addr) (n1 c1 : Nat) (a2 : Option Addr) (n2 c2 : Nat) (D : Imm) (w : World) (hR : DipsR D d a1 n1 a2 n2) (hH : Holds D w) (plan : List Plc) (a3 : Option Addr) (n3 c3 : Nat) (hP : PlanR D plan a3 n3) (best : Bool) (i : Nat) (hi : i < plan.length) (hv : dipsB d = true) (hq : PlOk d plan) (hl : plan.length ≤ d.bathers.length) : Gives Try.prog 54 [.agg #[it d.hours, .slice a1 n1 c1, .slice a2 n2 c2], .slice a3 n3 c3, nt i, .bool best] w (it (brokenR d plan i best)) := by
  cases best
  · exact broken_false d a1 n1 c1 a2 n2 c2 D w hR hH plan a3 n3 c3 hP i hi hv hq hl
  · exact broken_true d a1 n1 c1 a2 n2 c2 D w hR hH plan a3 n3 c3 hP i hi hv hq hl

set_option maxRecDepth 100000 in
set_option maxHeartbeats 1000000 in
theorem fine_g (d : Dips) (a1 : Option Addr) (n1 c1 : Nat) (a2 : Option Addr) (n2 c2 : Nat) (D : Imm) (w : World) (hR : DipsR D d a1 n1 a2 n2) (hH : Holds D w) (plan : List Plc) (a3 : Option Addr) (n3 c3 : Nat) (hP : PlanR D plan a3 n3) (best : Bool) (hv : dipsB d = true) (hq : PlOk d plan) (hl : plan.length ≤ d.bathers.length) : Gives Try.prog 57 [.agg #[it d.hours, .slice a1 n1 c1, .slice a2 n2 c2], .slice a3 n3 c3, .bool best] w (.bool (fineR d plan best)) := by
  unfold Gives
  obtain rfl := hR.dip.len'
  obtain rfl := hR.bath.len'
  have hl1 := hR.len1
  have hl2 := hR.len2
  obtain rfl := hP.pl.len'
  have hl3 := hP.len
  refine enter Try.func57 rfl 20 Try.ntmps57 (Nat.le_of_ble_eq_true rfl) (Inv.start hH) ?_
  refine WC.seq ?_
  refine WC.ofFr [(0, _), (1, _), (2, _)] ⟨rfl, rfl, rfl, trivial⟩ ?_
  refine WC.region ?_
  refine WL.so (SO.box rfl rfl) rfl ?_
  rintro _ _ _ ⟨b3, hb3, rfl, rfl, rfl⟩ -- NEW
  refine WL.yd (Yd.assign rfl) rfl ?_
  refine WL.nil ?_
  refine WP.thenC ?_
  refine WC.seq ?_
  refine WC.seq ?_
  refine WC.ofFr [(6, _), (3, _), (1, _), (2, _)] ⟨rfl, rfl, rfl, rfl, trivial⟩ ?_
  refine WC.region ?_
  refine WL.yd (Yd.assign rfl) rfl ?_
  refine WL.nil ?_
  refine WP.thenC ?_
  refine WC.block ?_
  refine WC.loopF (fun k : Nat => [(1, .slice a3 plan.length c3), (2, .bool best), (3, pt b3), (7, nt k)]) (fun k => k ≤ plan.length ∧ ∀ i, i < k → brokenR d plan i best = 0) (fun k => plan.length - k) 0 ⟨by omega, by intro i hi; omega⟩ (by exact ⟨rfl, rfl, rfl, rfl, trivial⟩) ?_
  intro k ⟨hk, hd⟩
  refine WC.seq ?_
  refine WC.seq ?_
  refine WC.ofFr [(1, _), (2, _), (3, _), (7, _)] ⟨rfl, rfl, rfl, rfl, trivial⟩ ?_
  refine WC.region ?_
  refine WL.yd (Yd.move rfl) rfl ?_
  refine WL.yd (Yd.move rfl) rfl ?_
  refine WL.yd (Yd.lenS rfl Try.underlying26 rfl) rfl ?_
  refine WL.yd (Yd.lss rfl rfl) rfl ?_
  refine WL.nil ?_
  refine WP.thenC ?_
  refine WC.cond rfl (fun c11 => ?_) (fun c11 => ?_)
  · try simp only [zq1, zq2, zq3, zq4, zq5, zq6, zq7, zq8] at c11
    refine WC.skip ?_
    refine WP.thenC ?_
    refine WC.seq ?_
    refine WC.block ?_
    refine WC.seq ?_
    refine WC.ofFr [(1, _), (2, _), (3, _), (7, _)] ⟨rfl, rfl, rfl, rfl, trivial⟩ ?_
    refine WC.region ?_
    refine WL.yd (Yd.loadN Try.isAgg25 Try.sizeOf25 rfl (vs := [_, _, _]) rfl (by first | exact RdN.own (k := 0) (n := 3) rfl rfl)) rfl ?_
    refine WL.yd (Yd.move rfl) rfl ?_
    refine WL.yd (Yd.move rfl) rfl ?_
    refine WL.yd (Yd.move rfl) rfl ?_
    refine WL.so (SO.callP Try.call54 rfl (fun w hI => broken_g d a1 _ c1 a2 _ c2 D _ hR hI.imm plan a3 _ c3 hP _ k (by omega) hv hq (by omega))) rfl ?_
    rintro _ _ _ ⟨rfl, rfl, rfl⟩
    refine WL.yd (Yd.neq rfl rfl) rfl ?_
    refine WL.nil ?_
    refine WP.thenC ?_
    refine WC.cond rfl (fun c19 => ?_) (fun c19 => ?_)
    · try simp only [zq1, zq2, zq3, zq4, zq5, zq6, zq7, zq8] at c19
      refine WC.seq ?_
      refine WC.ofFr [(1, _), (2, _), (3, _), (7, _)] ⟨rfl, rfl, rfl, rfl, trivial⟩ ?_
      refine WC.region ?_
      refine WL.yd (Yd.assign rfl) rfl ?_
      refine WL.nil ?_
      refine WP.thenC ?_
      refine WC.ret ?_
      refine WP.blkRet ?_
      refine WP.thenRet ?_
      refine WP.thenRet ?_
      refine WP.blkRet ?_
      refine WP.thenRet ?_
      refine WP.ret1 rfl rfl Try.results57 (RV.tmp rfl) (fun w hI => ⟨ret_bool (by
              unfold fineR
              first
                | (rw [eq_comm, decide_eq_false_iff_not]; intro h; exact c19 (h k (by omega)))
                | (rw [eq_comm, decide_eq_true_eq]; intro i hi; exact hd i (by omega))), hI.keep⟩)
    · try simp only [zq1, zq2, zq3, zq4, zq5, zq6, zq7, zq8] at c19
      refine WC.skip ?_
      refine WP.blkNormal ?_
      refine WP.thenC ?_
      refine WC.ofFr [(1, _), (2, _), (3, _), (7, _)] ⟨rfl, rfl, rfl, rfl, trivial⟩ ?_
      refine WC.region ?_
      refine WL.yd (Yd.move rfl) rfl ?_
      refine WL.yd (Yd.add rfl rfl (wr64 ⟨by omega, by omega⟩)) rfl ?_
      refine WL.yd (Yd.assign rfl) rfl ?_
      refine WL.nil ?_
      exact WP.againF (k + 1) ⟨by omega, ext_round hd (by simpa using c19)⟩ (by omega) ⟨rfl, rfl, rfl, rfl, trivial⟩ (fun _ h => h) (fun h => h)
  · try simp only [zq1, zq2, zq3, zq4, zq5, zq6, zq7, zq8] at c11
    refine WC.exit ?_
    refine WP.thenExit ?_
    refine WP.thenExit ?_
    refine WP.blkHit ?_
    refine WP.thenC ?_
    refine WC.seq ?_
    refine WC.ofFr [] trivial ?_
    refine WC.region ?_
    refine WL.yd (Yd.assign rfl) rfl ?_
    refine WL.nil ?_
    refine WP.thenC ?_
    refine WC.ret ?_
    refine WP.ret1 rfl rfl Try.results57 (RV.tmp rfl) (fun w hI => ⟨ret_bool (by
            unfold fineR
            first
              | (rw [eq_comm, decide_eq_false_iff_not]; intro h; exact c19 (h k (by omega)))
              | (rw [eq_comm, decide_eq_true_eq]; intro i hi; exact hd i (by omega))), hI.keep⟩)

set_option maxRecDepth 100000 in
set_option maxHeartbeats 1000000 in
theorem checkF_g (d : Dips) (a1 : Option Addr) (n1 c1 : Nat) (a2 : Option Addr) (n2 c2 : Nat) (D : Imm) (w : World) (hR : DipsR D d a1 n1 a2 n2) (hH : Holds D w) (plan : List Plc) (a3 : Option Addr) (n3 c3 : Nat) (hP : PlanR D plan a3 n3) : Gives Try.prog 16 [.agg #[it d.hours, .slice a1 n1 c1, .slice a2 n2 c2], .slice a3 n3 c3] w (.tuple #[it (CheckR d plan).1, it (CheckR d plan).2.1, it (CheckR d plan).2.2]) := by
  unfold Gives
  obtain rfl := hR.dip.len'
  obtain rfl := hR.bath.len'
  have hl1 := hR.len1
  have hl2 := hR.len2
  obtain rfl := hP.pl.len'
  have hl3 := hP.len
  refine enter Try.func16 rfl 32 Try.ntmps16 (Nat.le_of_ble_eq_true rfl) (Inv.start hH) ?_
  refine WC.seq ?_
  refine WC.ofFr [(0, _), (1, _)] ⟨rfl, rfl, trivial⟩ ?_
  refine WC.region ?_
  refine WL.so (SO.box rfl rfl) rfl ?_
  rintro _ _ _ ⟨b2, hb2, rfl, rfl, rfl⟩ -- NEW
  refine WL.yd (Yd.assign rfl) rfl ?_
  refine WL.yd (Yd.assign rfl) rfl ?_
  refine WL.yd (Yd.assign rfl) rfl ?_
  refine WL.nil ?_
  refine WP.thenC ?_
  refine WC.seq ?_
  refine WC.ofFr [(6, _), (5, _), (4, _), (2, _), (1, _)] ⟨rfl, rfl, rfl, rfl, rfl, trivial⟩ ?_
  refine WC.tail 4 [0, 1, 2, 3] rfl (by kernel_rfl) (by kernel_rfl)  ?_
  refine WQ.q rfl (Yd.qt (Yd.loadN Try.isAgg25 Try.sizeOf25 rfl (vs := [_, _, _]) rfl (by first | exact RdN.own (k := 0) (n := 3) rfl rfl))) rfl ?_
  refine WQ.q rfl (Yd.qt (Yd.loadN Try.isAgg25 Try.sizeOf25 rfl (vs := [_, _, _]) rfl (by first | exact RdN.own (k := 0) (n := 3) rfl rfl))) rfl ?_
  refine WQ.q rfl (Yd.qt (Yd.move rfl)) rfl ?_
  refine WQ.q rfl (Qt.callP Try.call38 rfl (fun w hI => list_g d a1 _ c1 a2 _ c2 D _ hR hI.imm plan a3 _ c3 hP)) rfl ?_
  refine WQ.tail ?_
  refine WL.so (SO.callP Try.call53 rfl (fun w hI => check_g d a1 _ c1 a2 _ c2 D _ hR hI.imm _)) rfl ?_
  rintro _ _ _ ⟨rfl, rfl, rfl⟩
  refine WL.yd (Yd.assign rfl) rfl ?_
  refine WL.nil ?_
  refine WP.thenC ?_
  refine WC.seq ?_
  refine WC.seq ?_
  refine WC.ofFr [(7, _), (6, _), (5, _), (4, _), (2, _), (1, _)] ⟨rfl, rfl, rfl, rfl, rfl, rfl, trivial⟩ ?_
  refine WC.region ?_
  refine WL.yd (Yd.move rfl) rfl ?_
  refine WL.yd (Yd.neq rfl rfl) rfl ?_
  refine WL.nil ?_
  refine WP.thenC ?_
  refine WC.cond rfl (fun c16 => ?_) (fun c16 => ?_)
  · try simp only [zq1, zq2, zq3, zq4, zq5, zq6, zq7, zq8] at c16
    refine WC.seq ?_
    refine WC.ofFr [(7, _), (6, _), (5, _), (4, _), (2, _), (1, _)] ⟨rfl, rfl, rfl, rfl, rfl, rfl, trivial⟩ ?_
    refine WC.region ?_
    refine WL.yd (Yd.move rfl) rfl ?_
    refine WL.yd (Yd.assign rfl) rfl ?_
    refine WL.yd (Yd.assign rfl) rfl ?_
    refine WL.yd (Yd.assign rfl) rfl ?_
    refine WL.nil ?_
    refine WP.thenC ?_
    refine WC.ret ?_
    refine WP.thenRet ?_
    refine WP.ret3 rfl rfl Try.results16 (RV.tmp rfl) (RV.tmp rfl) (RV.tmp rfl) (fun w hI => ⟨congrArg Ending.returned (by
            have hC : CheckR d plan = CheckR d plan := rfl
            unfold CheckR at hC ⊢
            first
              | (rw [if_pos c16]; done)
              | (rw [if_neg (by omega), hd, show plan.length - k = (plan.length - (k + 1)) + 1 by omega, firstR, if_pos c29, if_pos c29]; done)
              | (rw [if_neg (by omega), hd, show plan.length - k = 0 by omega, firstR, if_neg (by simp)]; done)), hI.keep⟩)
  · try simp only [zq1, zq2, zq3, zq4, zq5, zq6, zq7, zq8] at c16
    have hz := checkR_zero (show checkR d (listB d plan) = 0 by simpa using c16)
    have hv := hz.1
    have hq := (plok_of hv hz.2).1
    have hql := (plok_of hv hz.2).2
    refine WC.skip ?_
    refine WP.thenC ?_
    refine WC.seq ?_
    refine WC.seq ?_
    refine WC.ofFr [(6, _), (5, _), (4, _), (2, _), (1, _)] ⟨rfl, rfl, rfl, rfl, rfl, trivial⟩ ?_
    refine WC.region ?_
    refine WL.yd (Yd.assign rfl) rfl ?_
    refine WL.nil ?_
    refine WP.thenC ?_
    refine WC.block ?_
    refine WC.loopF (fun k : Nat => [(1, .slice a3 plan.length c3), (2, pt b2), (8, nt k)]) (fun k => k ≤ plan.length ∧ firstR d plan false 0 plan.length = firstR d plan false k (plan.length - k)) (fun k => plan.length - k) 0 ⟨by omega, rfl⟩ (by exact ⟨rfl, rfl, rfl, trivial⟩) ?_
    intro k ⟨hk, hd⟩
    refine WC.seq ?_
    refine WC.seq ?_
    refine WC.ofFr [(1, _), (2, _), (8, _)] ⟨rfl, rfl, rfl, trivial⟩ ?_
    refine WC.region ?_
    refine WL.yd (Yd.move rfl) rfl ?_
    refine WL.yd (Yd.move rfl) rfl ?_
    refine WL.yd (Yd.lenS rfl Try.underlying26 rfl) rfl ?_
    refine WL.yd (Yd.lss rfl rfl) rfl ?_
    refine WL.nil ?_
    refine WP.thenC ?_
    refine WC.cond rfl (fun c21 => ?_) (fun c21 => ?_)
    · try simp only [zq1, zq2, zq3, zq4, zq5, zq6, zq7, zq8] at c21
      refine WC.skip ?_
      refine WP.thenC ?_
      refine WC.seq ?_
      refine WC.block ?_
      refine WC.seq ?_
      refine WC.ofFr [(1, _), (2, _), (8, _)] ⟨rfl, rfl, rfl, trivial⟩ ?_
      refine WC.region ?_
      refine WL.yd (Yd.loadN Try.isAgg25 Try.sizeOf25 rfl (vs := [_, _, _]) rfl (by first | exact RdN.own (k := 0) (n := 3) rfl rfl)) rfl ?_
      refine WL.yd (Yd.move rfl) rfl ?_
      refine WL.yd (Yd.move rfl) rfl ?_
      refine WL.so (SO.callP Try.call54 rfl (fun w hI => broken_g d a1 _ c1 a2 _ c2 D _ hR hI.imm plan a3 _ c3 hP _ k (by omega) hv hq (by omega))) rfl ?_
      rintro _ _ _ ⟨rfl, rfl, rfl⟩
      refine WL.yd (Yd.assign rfl) rfl ?_
      refine WL.nil ?_
      refine WP.thenC ?_
      refine WC.seq ?_
      refine WC.ofFr [(9, _), (1, _), (2, _), (8, _)] ⟨rfl, rfl, rfl, rfl, trivial⟩ ?_
      refine WC.region ?_
      refine WL.yd (Yd.move rfl) rfl ?_
      refine WL.yd (Yd.neq rfl rfl) rfl ?_
      refine WL.nil ?_
      refine WP.thenC ?_
      refine WC.cond rfl (fun c29 => ?_) (fun c29 => ?_)
      · try simp only [zq1, zq2, zq3, zq4, zq5, zq6, zq7, zq8] at c29
        refine WC.seq ?_
        refine WC.ofFr [(9, _), (1, _), (2, _), (8, _)] ⟨rfl, rfl, rfl, rfl, trivial⟩ ?_
        refine WC.region ?_
        refine WL.yd (Yd.move rfl) rfl ?_
        refine WL.yd (Yd.move rfl) rfl ?_
        refine WL.yd (Yd.assign rfl) rfl ?_
        refine WL.yd (Yd.assign rfl) rfl ?_
        refine WL.yd (Yd.assign rfl) rfl ?_
        refine WL.nil ?_
        refine WP.thenC ?_
        refine WC.ret ?_
        refine WP.blkRet ?_
        refine WP.thenRet ?_
        refine WP.thenRet ?_
        refine WP.blkRet ?_
        refine WP.thenRet ?_
        refine WP.ret3 rfl rfl Try.results16 (RV.tmp rfl) (RV.tmp rfl) (RV.tmp rfl) (fun w hI => ⟨congrArg Ending.returned (by
                have hC : CheckR d plan = CheckR d plan := rfl
                unfold CheckR at hC ⊢
                first
                  | (rw [if_pos c16]; done)
                  | (rw [if_neg (by omega), hd, show plan.length - k = (plan.length - (k + 1)) + 1 by omega, firstR, if_pos c29, if_pos c29]; done)
                  | (rw [if_neg (by omega), hd, show plan.length - k = 0 by omega, firstR, if_neg (by simp)]; done)), hI.keep⟩)
      · try simp only [zq1, zq2, zq3, zq4, zq5, zq6, zq7, zq8] at c29
        refine WC.skip ?_
        refine WP.blkNormal ?_
        refine WP.thenC ?_
        refine WC.ofFr [(1, _), (2, _), (8, _)] ⟨rfl, rfl, rfl, trivial⟩ ?_
        refine WC.region ?_
        refine WL.yd (Yd.move rfl) rfl ?_
        refine WL.yd (Yd.add rfl rfl (wr64 ⟨by omega, by omega⟩)) rfl ?_
        refine WL.yd (Yd.assign rfl) rfl ?_
        refine WL.nil ?_
        exact WP.againF (k + 1) ⟨by omega, by rw [hd, show plan.length - k = (plan.length - (k + 1)) + 1 by omega]; exact firstR_step _ _ _ _ _ (by simpa using c29)⟩ (by omega) ⟨rfl, rfl, rfl, trivial⟩ (fun _ h => h) (fun h => h)
    · try simp only [zq1, zq2, zq3, zq4, zq5, zq6, zq7, zq8] at c21
      refine WC.exit ?_
      refine WP.thenExit ?_
      refine WP.thenExit ?_
      refine WP.blkHit ?_
      refine WP.thenC ?_
      refine WC.seq ?_
      refine WC.ofFr [] trivial ?_
      refine WC.region ?_
      refine WL.yd (Yd.assign rfl) rfl ?_
      refine WL.yd (Yd.assign rfl) rfl ?_
      refine WL.yd (Yd.assign rfl) rfl ?_
      refine WL.nil ?_
      refine WP.thenC ?_
      refine WC.ret ?_
      refine WP.ret3 rfl rfl Try.results16 (RV.tmp rfl) (RV.tmp rfl) (RV.tmp rfl) (fun w hI => ⟨congrArg Ending.returned (by
              have hC : CheckR d plan = CheckR d plan := rfl
              unfold CheckR at hC ⊢
              first
                | (rw [if_pos c16]; done)
                | (rw [if_neg (by omega), hd, show plan.length - k = (plan.length - (k + 1)) + 1 by omega, firstR, if_pos c29, if_pos c29]; done)
                | (rw [if_neg (by omega), hd, show plan.length - k = 0 by omega, firstR, if_neg (by simp)]; done)), hI.keep⟩)

set_option maxRecDepth 100000 in
set_option maxHeartbeats 1000000 in
theorem rightF_g (d : Dips) (a1 : Option Addr) (n1 c1 : Nat) (a2 : Option Addr) (n2 c2 : Nat) (D : Imm) (w : World) (hR : DipsR D d a1 n1 a2 n2) (hH : Holds D w) (plan : List Plc) (a3 : Option Addr) (n3 c3 : Nat) (hP : PlanR D plan a3 n3) : Gives Try.prog 18 [.agg #[it d.hours, .slice a1 n1 c1, .slice a2 n2 c2], .slice a3 n3 c3] w (.tuple #[it (RightR d plan).1, it (RightR d plan).2]) := by
  unfold Gives
  obtain rfl := hR.dip.len'
  obtain rfl := hR.bath.len'
  have hl1 := hR.len1
  have hl2 := hR.len2
  obtain rfl := hP.pl.len'
  have hl3 := hP.len
  refine enter Try.func18 rfl 22 Try.ntmps18 (Nat.le_of_ble_eq_true rfl) (Inv.start hH) ?_
  refine WC.seq ?_
  refine WC.ofFr [(0, _), (1, _)] ⟨rfl, rfl, trivial⟩ ?_
  refine WC.region ?_
  refine WL.so (SO.box rfl rfl) rfl ?_
  rintro _ _ _ ⟨b2, hb2, rfl, rfl, rfl⟩ -- NEW
  refine WL.yd (Yd.assign rfl) rfl ?_
  refine WL.yd (Yd.assign rfl) rfl ?_
  refine WL.nil ?_
  refine WP.thenC ?_
  refine WC.seq ?_
  refine WC.ofFr [(5, _), (4, _), (2, _), (1, _)] ⟨rfl, rfl, rfl, rfl, trivial⟩ ?_
  refine WC.tail 4 [0, 1, 2, 3] rfl (by kernel_rfl) (by kernel_rfl)  ?_
  refine WQ.q rfl (Yd.qt (Yd.loadN Try.isAgg25 Try.sizeOf25 rfl (vs := [_, _, _]) rfl (by first | exact RdN.own (k := 0) (n := 3) rfl rfl))) rfl ?_
  refine WQ.q rfl (Yd.qt (Yd.loadN Try.isAgg25 Try.sizeOf25 rfl (vs := [_, _, _]) rfl (by first | exact RdN.own (k := 0) (n := 3) rfl rfl))) rfl ?_
  refine WQ.q rfl (Yd.qt (Yd.move rfl)) rfl ?_
  refine WQ.q rfl (Qt.callP Try.call38 rfl (fun w hI => list_g d a1 _ c1 a2 _ c2 D _ hR hI.imm plan a3 _ c3 hP)) rfl ?_
  refine WQ.tail ?_
  refine WL.so (SO.callP Try.call53 rfl (fun w hI => check_g d a1 _ c1 a2 _ c2 D _ hR hI.imm _)) rfl ?_
  rintro _ _ _ ⟨rfl, rfl, rfl⟩
  refine WL.yd (Yd.assign rfl) rfl ?_
  refine WL.nil ?_
  refine WP.thenC ?_
  refine WC.seq ?_
  refine WC.seq ?_
  refine WC.ofFr [(6, _), (5, _), (4, _), (2, _), (1, _)] ⟨rfl, rfl, rfl, rfl, rfl, trivial⟩ ?_
  refine WC.region ?_
  refine WL.yd (Yd.move rfl) rfl ?_
  refine WL.yd (Yd.neq rfl rfl) rfl ?_
  refine WL.nil ?_
  refine WP.thenC ?_
  refine WC.cond rfl (fun c13 => ?_) (fun c13 => ?_)
  · try simp only [zq1, zq2, zq3, zq4, zq5, zq6, zq7, zq8] at c13
    refine WC.seq ?_
    refine WC.ofFr [(6, _), (5, _), (4, _), (2, _), (1, _)] ⟨rfl, rfl, rfl, rfl, rfl, trivial⟩ ?_
    refine WC.region ?_
    refine WL.yd (Yd.move rfl) rfl ?_
    refine WL.yd (Yd.assign rfl) rfl ?_
    refine WL.yd (Yd.assign rfl) rfl ?_
    refine WL.nil ?_
    refine WP.thenC ?_
    refine WC.ret ?_
    refine WP.thenRet ?_
    refine WP.ret2 rfl rfl Try.results18 (RV.tmp rfl) (RV.tmp rfl) (fun w hI => ⟨congrArg Ending.returned (by
            unfold RightR
            first
              | (rw [if_pos c13]; done)
              | (rw [if_neg (by omega), if_pos c17]; done)
              | (rw [if_neg (by omega), if_neg (by simp [c17]), if_pos (by simpa using c21)]; done)
              | (rw [if_neg (by omega), if_neg (by simp [c17]), if_neg (by simp_all)]; done)), hI.keep⟩)
  · try simp only [zq1, zq2, zq3, zq4, zq5, zq6, zq7, zq8] at c13
    have hz := checkR_zero (show checkR d (listB d plan) = 0 by simpa using c13)
    have hv := hz.1
    have hq := (plok_of hv hz.2).1
    have hql := (plok_of hv hz.2).2
    refine WC.skip ?_
    refine WP.thenC ?_
    refine WC.seq ?_
    refine WC.seq ?_
    refine WC.ofFr [(5, _), (4, _), (2, _), (1, _)] ⟨rfl, rfl, rfl, rfl, trivial⟩ ?_
    refine WC.region ?_
    refine WL.yd (Yd.loadN Try.isAgg25 Try.sizeOf25 rfl (vs := [_, _, _]) rfl (by first | exact RdN.own (k := 0) (n := 3) rfl rfl)) rfl ?_
    refine WL.yd (Yd.move rfl) rfl ?_
    refine WL.so (SO.callP Try.call57 rfl (fun w hI => fine_g d a1 _ c1 a2 _ c2 D _ hR hI.imm plan a3 _ c3 hP _ hv hq (by omega))) rfl ?_
    rintro _ _ _ ⟨rfl, rfl, rfl⟩
    refine WL.nil ?_
    refine WP.thenC ?_
    refine WC.cond rfl (fun c17 => ?_) (fun c17 => ?_)
    · try simp only [zq1, zq2, zq3, zq4, zq5, zq6, zq7, zq8] at c17
      refine WC.seq ?_
      refine WC.ofFr [(5, _), (4, _), (2, _), (1, _)] ⟨rfl, rfl, rfl, rfl, trivial⟩ ?_
      refine WC.region ?_
      refine WL.yd (Yd.assign rfl) rfl ?_
      refine WL.yd (Yd.assign rfl) rfl ?_
      refine WL.nil ?_
      refine WP.thenC ?_
      refine WC.ret ?_
      refine WP.thenRet ?_
      refine WP.ret2 rfl rfl Try.results18 (RV.tmp rfl) (RV.tmp rfl) (fun w hI => ⟨congrArg Ending.returned (by
              unfold RightR
              first
                | (rw [if_pos c13]; done)
                | (rw [if_neg (by omega), if_pos c17]; done)
                | (rw [if_neg (by omega), if_neg (by simp [c17]), if_pos (by simpa using c21)]; done)
                | (rw [if_neg (by omega), if_neg (by simp [c17]), if_neg (by simp_all)]; done)), hI.keep⟩)
    · try simp only [zq1, zq2, zq3, zq4, zq5, zq6, zq7, zq8] at c17
      refine WC.skip ?_
      refine WP.thenC ?_
      refine WC.seq ?_
      refine WC.seq ?_
      refine WC.ofFr [(5, _), (4, _), (2, _), (1, _)] ⟨rfl, rfl, rfl, rfl, trivial⟩ ?_
      refine WC.region ?_
      refine WL.yd (Yd.loadN Try.isAgg25 Try.sizeOf25 rfl (vs := [_, _, _]) rfl (by first | exact RdN.own (k := 0) (n := 3) rfl rfl)) rfl ?_
      refine WL.yd (Yd.move rfl) rfl ?_
      refine WL.so (SO.callP Try.call57 rfl (fun w hI => fine_g d a1 _ c1 a2 _ c2 D _ hR hI.imm plan a3 _ c3 hP _ hv hq (by omega))) rfl ?_
      rintro _ _ _ ⟨rfl, rfl, rfl⟩
      refine WL.yd (Yd.not rfl) rfl ?_
      refine WL.nil ?_
      refine WP.thenC ?_
      refine WC.cond rfl (fun c21 => ?_) (fun c21 => ?_)
      · try simp only [zq1, zq2, zq3, zq4, zq5, zq6, zq7, zq8] at c21
        refine WC.seq ?_
        refine WC.ofFr [(5, _), (4, _)] ⟨rfl, rfl, trivial⟩ ?_
        refine WC.region ?_
        refine WL.yd (Yd.assign rfl) rfl ?_
        refine WL.yd (Yd.assign rfl) rfl ?_
        refine WL.nil ?_
        refine WP.thenC ?_
        refine WC.ret ?_
        refine WP.thenRet ?_
        refine WP.ret2 rfl rfl Try.results18 (RV.tmp rfl) (RV.tmp rfl) (fun w hI => ⟨congrArg Ending.returned (by
                unfold RightR
                first
                  | (rw [if_pos c13]; done)
                  | (rw [if_neg (by omega), if_pos c17]; done)
                  | (rw [if_neg (by omega), if_neg (by simp [c17]), if_pos (by simpa using c21)]; done)
                  | (rw [if_neg (by omega), if_neg (by simp [c17]), if_neg (by simp_all)]; done)), hI.keep⟩)
      · try simp only [zq1, zq2, zq3, zq4, zq5, zq6, zq7, zq8] at c21
        refine WC.skip ?_
        refine WP.thenC ?_
        refine WC.seq ?_
        refine WC.ofFr [(5, _), (4, _)] ⟨rfl, rfl, trivial⟩ ?_
        refine WC.region ?_
        refine WL.yd (Yd.assign rfl) rfl ?_
        refine WL.yd (Yd.assign rfl) rfl ?_
        refine WL.nil ?_
        refine WP.thenC ?_
        refine WC.ret ?_
        refine WP.ret2 rfl rfl Try.results18 (RV.tmp rfl) (RV.tmp rfl) (fun w hI => ⟨congrArg Ending.returned (by
                unfold RightR
                first
                  | (rw [if_pos c13]; done)
                  | (rw [if_neg (by omega), if_pos c17]; done)
                  | (rw [if_neg (by omega), if_neg (by simp [c17]), if_pos (by simpa using c21)]; done)
                  | (rw [if_neg (by omega), if_neg (by simp [c17]), if_neg (by simp_all)]; done)), hI.keep⟩)

set_option maxRecDepth 100000 in
set_option maxHeartbeats 1000000 in
theorem same_g (D : Imm) (w : World) (hH : Holds D w) (plan : List Plc) (a3 : Option Addr) (n3 c3 : Nat) (hP : PlanR D plan a3 n3) (plan2 : List Plc) (a4 : Option Addr) (n4 c4 : Nat) (hP2 : PlanR D plan2 a4 n4) : Gives Try.prog 28 [.slice a3 n3 c3, .slice a4 n4 c4] w (.bool (sameB plan plan2)) := by
  unfold Gives
  obtain rfl := hP.pl.len'
  have hl3 := hP.len
  obtain rfl := hP2.pl.len'
  have hl4 := hP2.len
  refine enter Try.func28 rfl 26 Try.ntmps28 (Nat.le_of_ble_eq_true rfl) (Inv.start hH) ?_
  refine WC.seq ?_
  refine WC.ofFr [(0, _), (1, _)] ⟨rfl, rfl, trivial⟩ ?_
  refine WC.region ?_
  refine WL.yd (Yd.assign rfl) rfl ?_
  refine WL.nil ?_
  refine WP.thenC ?_
  refine WC.seq ?_
  refine WC.seq ?_
  refine WC.ofFr [(4, _), (0, _), (1, _)] ⟨rfl, rfl, rfl, trivial⟩ ?_
  refine WC.region ?_
  refine WL.yd (Yd.move rfl) rfl ?_
  refine WL.yd (Yd.lenS rfl Try.underlying26 rfl) rfl ?_
  refine WL.yd (Yd.move rfl) rfl ?_
  refine WL.yd (Yd.lenS rfl Try.underlying26 rfl) rfl ?_
  refine WL.yd (Yd.neq rfl rfl) rfl ?_
  refine WL.nil ?_
  refine WP.thenC ?_
  refine WC.cond rfl (fun c10 => ?_) (fun c10 => ?_)
  · try simp only [zq1, zq2, zq3, zq4, zq5, zq6, zq7, zq8] at c10
    refine WC.seq ?_
    refine WC.ofFr [(4, _), (0, _), (1, _)] ⟨rfl, rfl, rfl, trivial⟩ ?_
    refine WC.region ?_
    refine WL.yd (Yd.assign rfl) rfl ?_
    refine WL.nil ?_
    refine WP.thenC ?_
    refine WC.ret ?_
    refine WP.thenRet ?_
    refine WP.ret1 rfl rfl Try.results28 (RV.tmp rfl) (fun w hI => ⟨ret_bool (by
            unfold sameB
            first
              | (rw [eq_comm, decide_eq_false_iff_not, same_iff]; intro h; exact c25e (h.2 k (by omega)))
              | (rw [eq_comm, decide_eq_true_eq, same_iff]; exact ⟨hll, fun i hi => hd i (by omega)⟩)
              | (rw [eq_comm, decide_eq_false_iff_not, same_iff]; intro h; have := h.1; simp_all)), hI.keep⟩)
  · try simp only [zq1, zq2, zq3, zq4, zq5, zq6, zq7, zq8] at c10
    have hll : plan.length = plan2.length := by omega
    refine WC.skip ?_
    refine WP.thenC ?_
    refine WC.seq ?_
    refine WC.seq ?_
    refine WC.ofFr [(4, _), (0, _), (1, _)] ⟨rfl, rfl, rfl, trivial⟩ ?_
    refine WC.region ?_
    refine WL.yd (Yd.assign rfl) rfl ?_
    refine WL.nil ?_
    refine WP.thenC ?_
    refine WC.block ?_
    refine WC.loopF (fun k : Nat => [(0, .slice a3 plan.length c3), (1, .slice a4 plan2.length c4), (5, nt k)]) (fun k => k ≤ plan.length ∧ ∀ i, i < k → gt plan i = gt plan2 i) (fun k => plan.length - k) 0 ⟨by omega, by intro i hi; omega⟩ (by exact ⟨rfl, rfl, rfl, trivial⟩) ?_
    intro k ⟨hk, hd⟩
    refine WC.seq ?_
    refine WC.seq ?_
    refine WC.ofFr [(0, _), (1, _), (5, _)] ⟨rfl, rfl, rfl, trivial⟩ ?_
    refine WC.region ?_
    refine WL.yd (Yd.move rfl) rfl ?_
    refine WL.yd (Yd.move rfl) rfl ?_
    refine WL.yd (Yd.lenS rfl Try.underlying26 rfl) rfl ?_
    refine WL.yd (Yd.lss rfl rfl) rfl ?_
    refine WL.nil ?_
    refine WP.thenC ?_
    refine WC.cond rfl (fun c14 => ?_) (fun c14 => ?_)
    · try simp only [zq1, zq2, zq3, zq4, zq5, zq6, zq7, zq8] at c14
      refine WC.skip ?_
      refine WP.thenC ?_
      refine WC.seq ?_
      refine WC.block ?_
      refine WC.seq ?_
      refine WC.ofFr [(0, _), (1, _), (5, _)] ⟨rfl, rfl, rfl, trivial⟩ ?_
      refine WC.tail 8 [0, 1, 2, 3, 4, 5, 6, 7] rfl (by kernel_rfl) (by kernel_rfl)  ?_
      refine WQ.q rfl (Yd.qt (Yd.move rfl)) rfl ?_
      refine WQ.q rfl (Yd.qt (Yd.move rfl)) rfl ?_
      refine WQ.q rfl (Yd.qt (Yd.indexS Try.underlying26 Try.sizeOf61 rfl rfl (by omega) (by omega) (by first | exact hP.pl.addr k (by omega) | exact hP2.pl.addr k (by omega)))) rfl ?_
      refine WQ.q rfl (Yd.qt (Yd.loadN Try.isAgg61 Try.sizeOf61 rfl (vs := [_, _]) rfl (by first | exact (hP.pl.at k (by omega)).rdn 0 2 rfl | exact (hP2.pl.at k (by omega)).rdn 0 2 rfl))) rfl ?_
      refine WQ.q rfl (Yd.qt (Yd.move rfl)) rfl ?_
      refine WQ.q rfl (Yd.qt (Yd.move rfl)) rfl ?_
      refine WQ.q rfl (Yd.qt (Yd.indexS Try.underlying26 Try.sizeOf61 rfl rfl (by omega) (by omega) (by first | exact hP.pl.addr k (by omega) | exact hP2.pl.addr k (by omega)))) rfl ?_
      refine WQ.q rfl (Yd.qt (Yd.loadN Try.isAgg61 Try.sizeOf61 rfl (vs := [_, _]) rfl (by first | exact (hP.pl.at k (by omega)).rdn 0 2 rfl | exact (hP2.pl.at k (by omega)).rdn 0 2 rfl))) rfl ?_
      refine WQ.tail ?_
      refine WL.yd (Yd.neS Try.eqGuardType61 (eq61 _ _ _ _) rfl rfl) rfl ?_
      refine WL.nil ?_
      refine WP.thenC ?_
      refine WC.cond rfl (fun c25 => ?_) (fun c25 => ?_)
      · try simp only [zq1, zq2, zq3, zq4, zq5, zq6, zq7, zq8] at c25
        have c25e : ¬ gt plan k = gt plan2 k := c25
        refine WC.seq ?_
        refine WC.ofFr [(0, _), (1, _), (5, _)] ⟨rfl, rfl, rfl, trivial⟩ ?_
        refine WC.region ?_
        refine WL.yd (Yd.assign rfl) rfl ?_
        refine WL.nil ?_
        refine WP.thenC ?_
        refine WC.ret ?_
        refine WP.blkRet ?_
        refine WP.thenRet ?_
        refine WP.thenRet ?_
        refine WP.blkRet ?_
        refine WP.thenRet ?_
        refine WP.ret1 rfl rfl Try.results28 (RV.tmp rfl) (fun w hI => ⟨ret_bool (by
                unfold sameB
                first
                  | (rw [eq_comm, decide_eq_false_iff_not, same_iff]; intro h; exact c25e (h.2 k (by omega)))
                  | (rw [eq_comm, decide_eq_true_eq, same_iff]; exact ⟨hll, fun i hi => hd i (by omega)⟩)
                  | (rw [eq_comm, decide_eq_false_iff_not, same_iff]; intro h; have := h.1; simp_all)), hI.keep⟩)
      · try simp only [zq1, zq2, zq3, zq4, zq5, zq6, zq7, zq8] at c25
        have c25e : gt plan k = gt plan2 k := c25
        refine WC.skip ?_
        refine WP.blkNormal ?_
        refine WP.thenC ?_
        refine WC.ofFr [(0, _), (1, _), (5, _)] ⟨rfl, rfl, rfl, trivial⟩ ?_
        refine WC.region ?_
        refine WL.yd (Yd.move rfl) rfl ?_
        refine WL.yd (Yd.add rfl rfl (wr64 ⟨by omega, by omega⟩)) rfl ?_
        refine WL.yd (Yd.assign rfl) rfl ?_
        refine WL.nil ?_
        exact WP.againF (k + 1) ⟨by omega, ext_round hd c25e⟩ (by omega) ⟨rfl, rfl, rfl, trivial⟩ (fun _ h => h) (fun h => h)
    · try simp only [zq1, zq2, zq3, zq4, zq5, zq6, zq7, zq8] at c14
      refine WC.exit ?_
      refine WP.thenExit ?_
      refine WP.thenExit ?_
      refine WP.blkHit ?_
      refine WP.thenC ?_
      refine WC.seq ?_
      refine WC.ofFr [] trivial ?_
      refine WC.region ?_
      refine WL.yd (Yd.assign rfl) rfl ?_
      refine WL.nil ?_
      refine WP.thenC ?_
      refine WC.ret ?_
      refine WP.ret1 rfl rfl Try.results28 (RV.tmp rfl) (fun w hI => ⟨ret_bool (by
              unfold sameB
              first
                | (rw [eq_comm, decide_eq_false_iff_not, same_iff]; intro h; exact c25e (h.2 k (by omega)))
                | (rw [eq_comm, decide_eq_true_eq, same_iff]; exact ⟨hll, fun i hi => hd i (by omega)⟩)
                | (rw [eq_comm, decide_eq_false_iff_not, same_iff]; intro h; have := h.1; simp_all)), hI.keep⟩)

set_option maxRecDepth 100000 in
set_option maxHeartbeats 1000000 in
theorem handsF_g (d : Dips) (a1 : Option Addr) (n1 c1 : Nat) (a2 : Option Addr) (n2 c2 : Nat) (D : Imm) (w : World) (hR : DipsR D d a1 n1 a2 n2) (hH : Holds D w) (hour : Int) : Gives Try.prog 20 [.agg #[it d.hours, .slice a1 n1 c1, .slice a2 n2 c2], it hour] w (.tuple #[.agg #[it (HandsR d hour).1.lo, it (HandsR d hour).1.hi], it (HandsR d hour).2]) := by
  unfold Gives
  obtain rfl := hR.dip.len'
  obtain rfl := hR.bath.len'
  have hl1 := hR.len1
  have hl2 := hR.len2
  refine enter Try.func20 rfl 58 Try.ntmps20 (Nat.le_of_ble_eq_true rfl) (Inv.start hH) ?_
  refine WC.seq ?_
  refine WC.ofFr [(0, _), (1, _)] ⟨rfl, rfl, trivial⟩ ?_
  refine WC.region ?_
  refine WL.so (SO.box rfl rfl) rfl ?_
  rintro _ _ _ ⟨b2, hb2, rfl, rfl, rfl⟩ -- NEW
  refine WL.so (SO.alloc Try.zeroValue35 rfl) rfl ?_
  rintro _ _ _ ⟨b4, hb4, rfl, rfl, rfl⟩ -- NEW
  refine WL.yd (Yd.assign rfl) rfl ?_
  refine WL.nil ?_
  refine WP.thenC ?_
  refine WC.seq ?_
  refine WC.ofFr [(5, _), (4, _), (2, _), (1, _)] ⟨rfl, rfl, rfl, rfl, trivial⟩ ?_
  refine WC.tail 6 [0, 1, 2, 3, 4, 5] rfl (by kernel_rfl) (by kernel_rfl)  ?_
  refine WQ.q rfl (Yd.qt (Yd.loadN Try.isAgg25 Try.sizeOf25 rfl (vs := [_, _, _]) rfl (by first | exact RdN.own (k := 0) (n := 3) rfl rfl | exact RdN.own (k := 1) (n := 3) rfl rfl))) rfl ?_
  refine WQ.q rfl (Yd.qt (Yd.move rfl)) rfl ?_
  refine WQ.q rfl (Yd.qt (Yd.fieldAddr FA25_0 rfl)) rfl ?_
  refine WQ.q rfl (Yd.qt (Yd.load1 Try.isAgg3 rfl (by first | exact Rd.own (k := 0) rfl rfl | exact Rd.own (k := 1) rfl rfl | exact (hR.dip.at k (by omega)).rd 0 rfl | exact (hR.dip.at k (by omega)).rd 1 rfl | exact (hR.dip.at k (by omega)).rd 2 rfl | exact (hR.bath.at k (by omega)).rd 0 rfl | exact (hR.bath.at k (by omega)).rd 1 rfl | exact (hR.bath.at k (by omega)).rd 2 rfl))) rfl ?_
  refine WQ.q rfl (Yd.qt (Yd.subW rfl rfl)) rfl ?_
  refine WQ.q rfl (Qt.callP Try.call64 rfl (fun w hI => in_g _ _ _ _)) rfl ?_
  refine WQ.tail ?_
  refine WL.so (SO.callP Try.call53 rfl (fun w hI => check_g d a1 _ c1 a2 _ c2 D _ hR hI.imm _)) rfl ?_
  rintro _ _ _ ⟨rfl, rfl, rfl⟩
  refine WL.yd (Yd.assign rfl) rfl ?_
  refine WL.nil ?_
  refine WP.thenC ?_
  refine WC.seq ?_
  refine WC.seq ?_
  refine WC.ofFr [(6, _), (5, _), (4, _), (2, _), (1, _)] ⟨rfl, rfl, rfl, rfl, rfl, trivial⟩ ?_
  refine WC.region ?_
  refine WL.yd (Yd.move rfl) rfl ?_
  refine WL.yd (Yd.neq rfl rfl) rfl ?_
  refine WL.nil ?_
  refine WP.thenC ?_
  refine WC.cond rfl (fun c17 => ?_) (fun c17 => ?_)
  · try simp only [zq1, zq2, zq3, zq4, zq5, zq6, zq7, zq8] at c17
    refine WC.seq ?_
    refine WC.ofFr [(6, _), (5, _), (4, _), (2, _), (1, _)] ⟨rfl, rfl, rfl, rfl, rfl, trivial⟩ ?_
    refine WC.region ?_
    refine WL.yd (Yd.build SA35 rfl (cs := [_, _]) rfl) rfl ?_
    refine WL.yd (Yd.move rfl) rfl ?_
    refine WL.so (SO.store 0 rfl Try.sizeOf35 rfl rfl rfl rfl (Nat.le_of_ble_eq_true rfl) (oneB_spec rfl)) rfl ?_
    rintro _ _ _ ⟨rfl, rfl, rfl⟩
    refine WL.yd (Yd.assign rfl) rfl ?_
    refine WL.nil ?_
    refine WP.thenC ?_
    refine WC.ret ?_
    refine WP.thenRet ?_
    refine WP.ret2 rfl rfl Try.results20 (RV.cellN Try.isAgg35 Try.sizeOf35 rfl (vs := [_, _]) rfl (by first | exact RdN.own (k := 0) (n := 2) rfl rfl | exact RdN.own (k := 1) (n := 2) rfl rfl)) (RV.tmp rfl) (fun w hI => ⟨congrArg Ending.returned (by
            unfold HandsR
            first
              | (rw [if_pos (by simpa [hourB] using c17)]; rfl)
              | (rw [if_neg (by simpa [hourB] using c17)]; obtain rfl : k = d.dippers.length := by omega
                 rfl)), hI.keep⟩)
  · try simp only [zq1, zq2, zq3, zq4, zq5, zq6, zq7, zq8] at c17
    have hz := checkR_zero (show checkR d (hourB d hour) = 0 by simpa [hourB] using c17)
    have hv := hz.1
    obtain ⟨hh, hd1, hd2, hdn, hbn⟩ := dips_num hv
    have hho := hz.2
    simp only [hourB, inB, wrap_hours hv, decide_eq_true_eq] at hho
    refine WC.skip ?_
    refine WP.thenC ?_
    refine WC.seq ?_
    refine WC.ofFr [(5, _), (4, _), (2, _), (1, _)] ⟨rfl, rfl, rfl, rfl, trivial⟩ ?_
    refine WC.region ?_
    refine WL.yd (Yd.build SA35 rfl (cs := [_, _]) rfl) rfl ?_
    refine WL.so (SO.alloc Try.zeroValue35 rfl) rfl ?_
    rintro _ _ _ ⟨b7, hb7, rfl, rfl, rfl⟩ -- NEW
    refine WL.so (SO.store 0 rfl Try.sizeOf35 rfl rfl rfl rfl (Nat.le_of_ble_eq_true rfl) (oneB_spec rfl)) rfl ?_
    rintro _ _ _ ⟨rfl, rfl, rfl⟩
    refine WL.nil ?_
    refine WP.thenC ?_
    refine WC.seq ?_
    refine WC.seq ?_
    refine WC.ofFr [(7, _), (5, _), (4, _), (2, _), (1, _)] ⟨rfl, rfl, rfl, rfl, rfl, trivial⟩ ?_
    refine WC.region ?_
    refine WL.yd (Yd.assign rfl) rfl ?_
    refine WL.nil ?_
    refine WP.thenC ?_
    refine WC.block ?_
    refine WC.loop (fun k : Nat => [(1, it hour), (2, pt b2), (4, pt b4), (7, pt b7), (8, nt k)]) (fun k => [(b7, .cells (List.toArray [it (handsR d hour k).lo, it (handsR d hour k).hi]) 35 (0, 0)), (b4, .cells (List.toArray [it 0, it 0]) 35 (0, 0)), (b2, .cells (List.toArray [it d.hours, .slice a1 d.dippers.length c1, .slice a2 d.bathers.length c2]) 25 (0, 0))]) (fun _ => D) (fun k => k ≤ d.dippers.length) (fun k => d.dippers.length - k) 0 (by omega) (fun a w h => at_fr h ⟨rfl, rfl, rfl, rfl, rfl, trivial⟩) ?_
    intro k hk
    have hb1 := handsR_num hv hour k hk
    have hb2 : k < d.dippers.length → _ := fun h => hdn k h
    refine WC.seq ?_
    refine WC.seq ?_
    refine WC.ofFr [(1, _), (2, _), (4, _), (7, _), (8, _)] ⟨rfl, rfl, rfl, rfl, rfl, trivial⟩ ?_
    refine WC.region ?_
    refine WL.yd (Yd.move rfl) rfl ?_
    refine WL.yd (Yd.fieldAddr FA25_1 rfl) rfl ?_
    refine WL.yd (Yd.load1 Try.isAgg22 rfl (by first | exact Rd.own (k := 0) rfl rfl | exact Rd.own (k := 1) rfl rfl | exact Rd.own (k := 2) rfl rfl | exact (hR.dip.at k (by omega)).rd 0 rfl | exact (hR.dip.at k (by omega)).rd 1 rfl | exact (hR.dip.at k (by omega)).rd 2 rfl | exact (hR.bath.at k (by omega)).rd 0 rfl | exact (hR.bath.at k (by omega)).rd 1 rfl | exact (hR.bath.at k (by omega)).rd 2 rfl)) rfl ?_
    refine WL.yd (Yd.lenS rfl Try.underlying22 rfl) rfl ?_
    refine WL.yd (Yd.lss rfl rfl) rfl ?_
    refine WL.nil ?_
    refine WP.thenC ?_
    refine WC.cond rfl (fun c25 => ?_) (fun c25 => ?_)
    · try simp only [zq1, zq2, zq3, zq4, zq5, zq6, zq7, zq8] at c25
      refine WC.skip ?_
      refine WP.thenC ?_
      refine WC.seq ?_
      refine WC.block ?_
      refine WC.seq ?_
      refine WC.ofFr [(1, _), (2, _), (4, _), (7, _), (8, _)] ⟨rfl, rfl, rfl, rfl, rfl, trivial⟩ ?_
      refine WC.region ?_
      refine WL.yd (Yd.fieldAddr FA25_1 rfl) rfl ?_
      refine WL.yd (Yd.load1 Try.isAgg22 rfl (by first | exact Rd.own (k := 0) rfl rfl | exact Rd.own (k := 1) rfl rfl | exact Rd.own (k := 2) rfl rfl | exact (hR.dip.at k (by omega)).rd 0 rfl | exact (hR.dip.at k (by omega)).rd 1 rfl | exact (hR.dip.at k (by omega)).rd 2 rfl | exact (hR.bath.at k (by omega)).rd 0 rfl | exact (hR.bath.at k (by omega)).rd 1 rfl | exact (hR.bath.at k (by omega)).rd 2 rfl)) rfl ?_
      refine WL.yd (Yd.move rfl) rfl ?_
      refine WL.yd (Yd.indexS Try.underlying22 Try.sizeOf53 rfl rfl (by omega) (by omega) (by first | exact hR.dip.addr k (by omega) | exact hR.bath.addr k (by omega))) rfl ?_
      refine WL.yd (Yd.fieldAddr FA53_1 rfl) rfl ?_
      refine WL.yd (Yd.load1 Try.isAgg3 rfl (by first | exact Rd.own (k := 0) rfl rfl | exact Rd.own (k := 1) rfl rfl | exact Rd.own (k := 2) rfl rfl | exact (hR.dip.at k (by omega)).rd 0 rfl | exact (hR.dip.at k (by omega)).rd 1 rfl | exact (hR.dip.at k (by omega)).rd 2 rfl | exact (hR.bath.at k (by omega)).rd 0 rfl | exact (hR.bath.at k (by omega)).rd 1 rfl | exact (hR.bath.at k (by omega)).rd 2 rfl)) rfl ?_
      refine WL.yd (Yd.move rfl) rfl ?_
      refine WL.so (SO.callP Try.call65 rfl (fun w hI => has_g _ _ _ (by omega) (by omega) (by omega))) rfl ?_
      rintro _ _ _ ⟨rfl, rfl, rfl⟩
      refine WL.nil ?_
      refine WP.thenC ?_
      refine WC.cond rfl (fun c35 => ?_) (fun c35 => ?_)
      · try simp only [zq1, zq2, zq3, zq4, zq5, zq6, zq7, zq8] at c35
        refine WC.ofFr [(1, _), (2, _), (4, _), (7, _), (8, _)] ⟨rfl, rfl, rfl, rfl, rfl, trivial⟩ ?_
        refine WC.tail 20 [0, 1, 2, 3, 4, 5, 6, 7, 8, 9, 10, 11, 12, 13, 14, 15, 16, 17, 18, 19] rfl (by kernel_rfl) (by kernel_rfl)  ?_
        refine WQ.q rfl (Yd.qt (Yd.fieldAddr FA35_0 rfl)) rfl ?_
        refine WQ.q rfl (Yd.qt (Yd.load1 Try.isAgg3 rfl (by first | exact Rd.own (k := 0) rfl rfl | exact Rd.own (k := 1) rfl rfl | exact Rd.own (k := 2) rfl rfl | exact (hR.dip.at k (by omega)).rd 0 rfl | exact (hR.dip.at k (by omega)).rd 1 rfl | exact (hR.dip.at k (by omega)).rd 2 rfl | exact (hR.bath.at k (by omega)).rd 0 rfl | exact (hR.bath.at k (by omega)).rd 1 rfl | exact (hR.bath.at k (by omega)).rd 2 rfl))) rfl ?_
        refine WQ.q rfl (Yd.qt (Yd.fieldAddr FA25_1 rfl)) rfl ?_
        refine WQ.q rfl (Yd.qt (Yd.load1 Try.isAgg22 rfl (by first | exact Rd.own (k := 0) rfl rfl | exact Rd.own (k := 1) rfl rfl | exact Rd.own (k := 2) rfl rfl | exact (hR.dip.at k (by omega)).rd 0 rfl | exact (hR.dip.at k (by omega)).rd 1 rfl | exact (hR.dip.at k (by omega)).rd 2 rfl | exact (hR.bath.at k (by omega)).rd 0 rfl | exact (hR.bath.at k (by omega)).rd 1 rfl | exact (hR.bath.at k (by omega)).rd 2 rfl))) rfl ?_
        refine WQ.q rfl (Yd.qt (Yd.move rfl)) rfl ?_
        refine WQ.q rfl (Yd.qt (Yd.indexS Try.underlying22 Try.sizeOf53 rfl rfl (by omega) (by omega) (by first | exact hR.dip.addr k (by omega) | exact hR.bath.addr k (by omega)))) rfl ?_
        refine WQ.q rfl (Yd.qt (Yd.fieldAddr FA53_0 rfl)) rfl ?_
        refine WQ.q rfl (Yd.qt (Yd.fieldAddr FA35_0 rfl)) rfl ?_
        refine WQ.q rfl (Yd.qt (Yd.load1 Try.isAgg3 rfl (by first | exact Rd.own (k := 0) rfl rfl | exact Rd.own (k := 1) rfl rfl | exact Rd.own (k := 2) rfl rfl | exact (hR.dip.at k (by omega)).rd 0 rfl | exact (hR.dip.at k (by omega)).rd 1 rfl | exact (hR.dip.at k (by omega)).rd 2 rfl | exact (hR.bath.at k (by omega)).rd 0 rfl | exact (hR.bath.at k (by omega)).rd 1 rfl | exact (hR.bath.at k (by omega)).rd 2 rfl))) rfl ?_
        refine WQ.q rfl (Yd.qt (Yd.add rfl rfl (wr64 ⟨by omega, by omega⟩))) rfl ?_
        refine WQ.q rfl (Yd.qt (Yd.fieldAddr FA35_1 rfl)) rfl ?_
        refine WQ.q rfl (Yd.qt (Yd.load1 Try.isAgg3 rfl (by first | exact Rd.own (k := 0) rfl rfl | exact Rd.own (k := 1) rfl rfl | exact Rd.own (k := 2) rfl rfl | exact (hR.dip.at k (by omega)).rd 0 rfl | exact (hR.dip.at k (by omega)).rd 1 rfl | exact (hR.dip.at k (by omega)).rd 2 rfl | exact (hR.bath.at k (by omega)).rd 0 rfl | exact (hR.bath.at k (by omega)).rd 1 rfl | exact (hR.bath.at k (by omega)).rd 2 rfl))) rfl ?_
        refine WQ.q rfl (Yd.qt (Yd.fieldAddr FA25_1 rfl)) rfl ?_
        refine WQ.q rfl (Yd.qt (Yd.load1 Try.isAgg22 rfl (by first | exact Rd.own (k := 0) rfl rfl | exact Rd.own (k := 1) rfl rfl | exact Rd.own (k := 2) rfl rfl | exact (hR.dip.at k (by omega)).rd 0 rfl | exact (hR.dip.at k (by omega)).rd 1 rfl | exact (hR.dip.at k (by omega)).rd 2 rfl | exact (hR.bath.at k (by omega)).rd 0 rfl | exact (hR.bath.at k (by omega)).rd 1 rfl | exact (hR.bath.at k (by omega)).rd 2 rfl))) rfl ?_
        refine WQ.q rfl (Yd.qt (Yd.move rfl)) rfl ?_
        refine WQ.q rfl (Yd.qt (Yd.indexS Try.underlying22 Try.sizeOf53 rfl rfl (by omega) (by omega) (by first | exact hR.dip.addr k (by omega) | exact hR.bath.addr k (by omega)))) rfl ?_
        refine WQ.q rfl (Yd.qt (Yd.fieldAddr FA53_0 rfl)) rfl ?_
        refine WQ.q rfl (Yd.qt (Yd.fieldAddr FA35_1 rfl)) rfl ?_
        refine WQ.q rfl (Yd.qt (Yd.load1 Try.isAgg3 rfl (by first | exact Rd.own (k := 0) rfl rfl | exact Rd.own (k := 1) rfl rfl | exact Rd.own (k := 2) rfl rfl | exact (hR.dip.at k (by omega)).rd 0 rfl | exact (hR.dip.at k (by omega)).rd 1 rfl | exact (hR.dip.at k (by omega)).rd 2 rfl | exact (hR.bath.at k (by omega)).rd 0 rfl | exact (hR.bath.at k (by omega)).rd 1 rfl | exact (hR.bath.at k (by omega)).rd 2 rfl))) rfl ?_
        refine WQ.q rfl (Yd.qt (Yd.add rfl rfl (wr64 ⟨by omega, by omega⟩))) rfl ?_
        refine WQ.tail ?_
        refine WL.yd (Yd.build SA35 rfl (cs := [_, _]) rfl) rfl ?_
        refine WL.so (SO.store 0 rfl Try.sizeOf35 rfl rfl rfl rfl (Nat.le_of_ble_eq_true rfl) (oneB_spec rfl)) rfl ?_
        rintro _ _ _ ⟨rfl, rfl, rfl⟩
        refine WL.nil ?_
        refine WP.blkNormal ?_
        refine WP.thenC ?_
        refine WC.ofFr [(1, _), (2, _), (4, _), (7, _), (8, _)] ⟨rfl, rfl, rfl, rfl, rfl, trivial⟩ ?_
        refine WC.region ?_
        refine WL.yd (Yd.move rfl) rfl ?_
        refine WL.yd (Yd.add rfl rfl (wr64 ⟨by omega, by omega⟩)) rfl ?_
        refine WL.yd (Yd.assign rfl) rfl ?_
        refine WL.nil ?_
        exact WP.again (k + 1) (by omega) (by omega) (fun a w h => at_fr (by simp only [handsR, c35, if_true, if_false, Bool.false_eq_true]; exact h) ⟨rfl, rfl, rfl, rfl, rfl, trivial⟩)
      · try simp only [zq1, zq2, zq3, zq4, zq5, zq6, zq7, zq8] at c35
        refine WC.skip ?_
        refine WP.blkNormal ?_
        refine WP.thenC ?_
        refine WC.ofFr [(1, _), (2, _), (4, _), (7, _), (8, _)] ⟨rfl, rfl, rfl, rfl, rfl, trivial⟩ ?_
        refine WC.region ?_
        refine WL.yd (Yd.move rfl) rfl ?_
        refine WL.yd (Yd.add rfl rfl (wr64 ⟨by omega, by omega⟩)) rfl ?_
        refine WL.yd (Yd.assign rfl) rfl ?_
        refine WL.nil ?_
        exact WP.again (k + 1) (by omega) (by omega) (fun a w h => at_fr (by simp only [handsR, c35, if_true, if_false, Bool.false_eq_true]; exact h) ⟨rfl, rfl, rfl, rfl, rfl, trivial⟩)
    · try simp only [zq1, zq2, zq3, zq4, zq5, zq6, zq7, zq8] at c25
      refine WC.exit ?_
      refine WP.thenExit ?_
      refine WP.thenExit ?_
      refine WP.blkHit ?_
      refine WP.thenC ?_
      refine WC.seq ?_
      refine WC.ofFr [(4, _), (7, _)] ⟨rfl, rfl, trivial⟩ ?_
      refine WC.region ?_
      refine WL.yd (Yd.loadN Try.isAgg35 Try.sizeOf35 rfl (vs := [_, _]) rfl (by first | exact RdN.own (k := 0) (n := 2) rfl rfl | exact RdN.own (k := 1) (n := 2) rfl rfl | exact RdN.own (k := 2) (n := 2) rfl rfl)) rfl ?_
      refine WL.so (SO.store 1 rfl Try.sizeOf35 rfl rfl rfl rfl (Nat.le_of_ble_eq_true rfl) (oneB_spec rfl)) rfl ?_
      rintro _ _ _ ⟨rfl, rfl, rfl⟩
      refine WL.yd (Yd.assign rfl) rfl ?_
      refine WL.nil ?_
      refine WP.thenC ?_
      refine WC.ret ?_
      refine WP.ret2 rfl rfl Try.results20 (RV.cellN Try.isAgg35 Try.sizeOf35 rfl (vs := [_, _]) rfl (by first | exact RdN.own (k := 0) (n := 2) rfl rfl | exact RdN.own (k := 1) (n := 2) rfl rfl | exact RdN.own (k := 2) (n := 2) rfl rfl)) (RV.tmp rfl) (fun w hI => ⟨congrArg Ending.returned (by
              unfold HandsR
              first
                | (rw [if_pos (by simpa [hourB] using c17)]; rfl)
                | (rw [if_neg (by simpa [hourB] using c17)]; obtain rfl : k = d.dippers.length := by omega
                   rfl)), hI.keep⟩)

end Go.Proofs.Ytidjdonppfegiaa
