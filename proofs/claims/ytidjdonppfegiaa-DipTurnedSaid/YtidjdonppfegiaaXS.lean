import Derived.Test.YtidjdonppfegiaaXQ
import Derived.Test.YtidjdonppfegiaaXK
set_option linter.unusedSimpArgs false
set_option linter.unusedVariables false
set_option linter.all false
namespace Go.Proofs.Ytidjdonppfegiaa
open Go.W Go.Dp

set_option maxRecDepth 100000 in
set_option maxHeartbeats 1000000 in
theorem size_g (s : Nat) (hs : s < 32) (w : World) : Gives Try.prog 42 [nt s] w (nt (pop s)) := by
  unfold Gives
  refine enter Try.func42 rfl 13 Try.ntmps42 (Nat.le_of_ble_eq_true rfl) (Inv.start (D := fun _ => none) (by intro _ _ h; cases h)) ?_
  refine WC.seq ?_
  refine WC.ofFr [(0, _)] ⟨rfl, trivial⟩ ?_
  refine WC.region ?_
  refine WL.yd (Yd.assign rfl) rfl ?_
  refine WL.nil ?_
  refine WP.thenC ?_
  refine WC.seq ?_
  refine WC.ofFr [(2, _), (0, _)] ⟨rfl, rfl, trivial⟩ ?_
  refine WC.region ?_
  refine WL.yd (Yd.assign rfl) rfl ?_
  refine WL.nil ?_
  refine WP.thenC ?_
  refine WC.seq ?_
  refine WC.block ?_
  refine WC.loopF (fun k : Nat => [(0, nt (s / 2 ^ k)), (3, nt (popK s k))]) (fun k => k ≤ 5) (fun k => s / 2 ^ k) 0 (by omega) (by exact ⟨by rw [Nat.pow_zero, Nat.div_one]; rfl, rfl, trivial⟩) ?_
  intro k hk
  have hpk := popK_le s k
  have hlt : s / 2 ^ k ≤ s := Nat.div_le_self _ _
  have hge := Int.natCast_nonneg (s / 2 ^ k)
  refine WC.seq ?_
  refine WC.seq ?_
  refine WC.ofFr [(0, _), (3, _)] ⟨rfl, rfl, trivial⟩ ?_
  refine WC.region ?_
  refine WL.yd (Yd.move rfl) rfl ?_
  refine WL.yd (Yd.gtr rfl rfl) rfl ?_
  refine WL.nil ?_
  refine WP.thenC ?_
  refine WC.cond rfl (fun c5 => ?_) (fun c5 => ?_)
  · try simp only [zq1, zq2, zq3, zq4, zq5, zq6, zq7, zq8] at c5
    refine WC.skip ?_
    refine WP.thenC ?_
    refine WC.block ?_
    refine WC.seq ?_
    refine WC.ofFr [(0, _), (3, _)] ⟨rfl, rfl, trivial⟩ ?_
    refine WC.region ?_
    refine WL.yd (Yd.move rfl) rfl ?_
    refine WL.yd (Yd.move rfl) rfl ?_
    refine WL.yd (Yd.rem rfl rfl (by omega) (by omega)) rfl ?_
    refine WL.yd (Yd.add rfl rfl (wr64 ⟨by omega, by omega⟩)) rfl ?_
    refine WL.yd (Yd.assign rfl) rfl ?_
    refine WL.nil ?_
    refine WP.thenC ?_
    refine WC.ofFr [(3, _), (0, _)] ⟨rfl, rfl, trivial⟩ ?_
    refine WC.region ?_
    refine WL.yd (Yd.move rfl) rfl ?_
    refine WL.yd (Yd.quo rfl rfl (by omega) (by omega) (wr64 ⟨by omega, by omega⟩)) rfl ?_
    refine WL.yd (Yd.assign rfl) rfl ?_
    refine WL.nil ?_
    refine WP.blkNormal ?_
    have h31 : k ≠ 5 := fun e => by
      subst e
      have : s / 2 ^ 5 = 0 := Nat.div_eq_of_lt hs
      rw [this] at c5; simp at c5
    have hhp := half_pow s k
    exact WP.againF (k + 1) (by omega) (by omega) ⟨by rw [hhp]; rfl, rfl, trivial⟩ (fun _ h => h) (fun h => h)
  · try simp only [zq1, zq2, zq3, zq4, zq5, zq6, zq7, zq8] at c5
    have hz : s / 2 ^ k = 0 := by omega
    refine WC.exit ?_
    refine WP.thenExit ?_
    refine WP.thenExit ?_
    refine WP.blkHit ?_
    refine WP.thenC ?_
    refine WC.seq ?_
    refine WC.ofFr [(3, _)] ⟨rfl, trivial⟩ ?_
    refine WC.region ?_
    refine WL.yd (Yd.move rfl) rfl ?_
    refine WL.yd (Yd.assign rfl) rfl ?_
    refine WL.nil ?_
    refine WP.thenC ?_
    refine WC.ret ?_
    refine WP.ret1 rfl rfl Try.results42 (RV.tmp rfl) (fun w hI => ⟨by rw [popK_pop hs (by omega) hz], hI.keep⟩)

set_option maxRecDepth 100000 in
set_option maxHeartbeats 1000000 in
theorem used_g (plan : List Plc) (a3 : Option Addr) (n3 c3 : Nat) (D : Imm) (w : World) (hP : PlanR D plan a3 n3) (hH : Holds D w) (h3 : Dip3 plan) : Gives Try.prog 43 [.slice a3 n3 c3] w (nt (usedR plan)) := by
  unfold Gives
  obtain rfl := hP.pl.len'
  have hl3 := hP.len
  refine enter Try.func43 rfl 28 Try.ntmps43 (Nat.le_of_ble_eq_true rfl) (Inv.start hH) ?_
  refine WC.seq ?_
  refine WC.ofFr [(0, _)] ⟨rfl, trivial⟩ ?_
  refine WC.region ?_
  refine WL.yd (Yd.assign rfl) rfl ?_
  refine WL.nil ?_
  refine WP.thenC ?_
  refine WC.seq ?_
  refine WC.ofFr [(2, _), (0, _)] ⟨rfl, rfl, trivial⟩ ?_
  refine WC.region ?_
  refine WL.yd (Yd.assign rfl) rfl ?_
  refine WL.nil ?_
  refine WP.thenC ?_
  refine WC.seq ?_
  refine WC.seq ?_
  refine WC.ofFr [(3, _), (2, _), (0, _)] ⟨rfl, rfl, rfl, trivial⟩ ?_
  refine WC.region ?_
  refine WL.yd (Yd.assign rfl) rfl ?_
  refine WL.nil ?_
  refine WP.thenC ?_
  refine WC.block ?_
  refine WC.loopF (fun k : Nat => [(0, .slice a3 plan.length c3), (3, nt (usedTo plan k)), (4, nt k)]) (fun k => k ≤ plan.length) (fun k => plan.length - k) 0 (by omega) (by exact ⟨rfl, rfl, rfl, trivial⟩) ?_
  intro k hk
  refine WC.seq ?_
  refine WC.seq ?_
  refine WC.ofFr [(0, _), (3, _), (4, _)] ⟨rfl, rfl, rfl, trivial⟩ ?_
  refine WC.region ?_
  refine WL.yd (Yd.move rfl) rfl ?_
  refine WL.yd (Yd.move rfl) rfl ?_
  refine WL.yd (Yd.lenS rfl Try.underlying26 rfl) rfl ?_
  refine WL.yd (Yd.lss rfl rfl) rfl ?_
  refine WL.nil ?_
  refine WP.thenC ?_
  refine WC.cond rfl (fun c8 => ?_) (fun c8 => ?_)
  · try simp only [zq1, zq2, zq3, zq4, zq5, zq6, zq7, zq8] at c8
    have hub := (usedTo_bit h3 k (by omega)).1
    have hd3 := h3 k (by omega)
    have hp4 : 2 ^ (gt plan k).dipper.toNat ≤ 2 ^ 3 := Nat.pow_le_pow_right (by omega) (by omega)
    refine WC.skip ?_
    refine WP.thenC ?_
    refine WC.seq ?_
    refine WC.block ?_
    refine WC.seq ?_
    refine WC.ofFr [(0, _), (3, _), (4, _)] ⟨rfl, rfl, rfl, trivial⟩ ?_
    refine WC.region ?_
    refine WL.yd (Yd.move rfl) rfl ?_
    refine WL.yd (Yd.move rfl) rfl ?_
    refine WL.yd (Yd.move rfl) rfl ?_
    refine WL.yd (Yd.indexS Try.underlying26 Try.sizeOf61 rfl rfl (by omega) (by omega) (by first | exact hP.pl.addr k (by omega))) rfl ?_
    refine WL.yd (Yd.fieldAddr FA61_1 rfl) rfl ?_
    refine WL.yd (Yd.load1 Try.isAgg3 rfl (by first | exact (hP.pl.at k (by omega)).rd 0 rfl | exact (hP.pl.at k (by omega)).rd 1 rfl)) rfl ?_
    refine WL.so (SO.callP Try.call65 rfl (fun w hI => has_g _ _ _ (by omega) (by omega) (by omega))) rfl ?_
    rintro _ _ _ ⟨rfl, rfl, rfl⟩
    refine WL.yd (Yd.not rfl) rfl ?_
    refine WL.nil ?_
    refine WP.thenC ?_
    refine WC.cond rfl (fun c18 => ?_) (fun c18 => ?_)
    · try simp only [zq1, zq2, zq3, zq4, zq5, zq6, zq7, zq8] at c18
      have hn1 : usedTo plan (k + 1) = usedTo plan k + 2 ^ (gt plan k).dipper.toNat := by
        simp only [usedTo]; rw [if_neg]; rw [hasB_nat] at c18; simpa using c18
      refine WC.ofFr [(0, _), (3, _), (4, _)] ⟨rfl, rfl, rfl, trivial⟩ ?_
      refine WC.region ?_
      refine WL.yd (Yd.move rfl) rfl ?_
      refine WL.yd (Yd.move rfl) rfl ?_
      refine WL.yd (Yd.move rfl) rfl ?_
      refine WL.yd (Yd.indexS Try.underlying26 Try.sizeOf61 rfl rfl (by omega) (by omega) (by first | exact hP.pl.addr k (by omega))) rfl ?_
      refine WL.yd (Yd.fieldAddr FA61_1 rfl) rfl ?_
      refine WL.yd (Yd.load1 Try.isAgg3 rfl (by first | exact (hP.pl.at k (by omega)).rd 0 rfl | exact (hP.pl.at k (by omega)).rd 1 rfl)) rfl ?_
      refine WL.so (SO.callP Try.call81 rfl (fun w hI => power_i _ _ (by omega) (by omega))) rfl ?_
      rintro _ _ _ ⟨rfl, rfl, rfl⟩
      refine WL.yd (Yd.add rfl rfl (wr64 ⟨by omega, by omega⟩)) rfl ?_
      refine WL.yd (Yd.assign rfl) rfl ?_
      refine WL.nil ?_
      refine WP.blkNormal ?_
      refine WP.thenC ?_
      refine WC.ofFr [(3, _), (0, _), (4, _)] ⟨rfl, rfl, rfl, trivial⟩ ?_
      refine WC.region ?_
      refine WL.yd (Yd.move rfl) rfl ?_
      refine WL.yd (Yd.add rfl rfl (wr64 ⟨by omega, by omega⟩)) rfl ?_
      refine WL.yd (Yd.assign rfl) rfl ?_
      refine WL.nil ?_
      exact WP.againF (k + 1) (by omega) (by omega) ⟨rfl, by rw [hn1]; rfl, rfl, trivial⟩ (fun _ h => h) (fun h => h)
    · try simp only [zq1, zq2, zq3, zq4, zq5, zq6, zq7, zq8] at c18
      have hn1 : usedTo plan (k + 1) = usedTo plan k := by
        simp only [usedTo]; rw [if_pos]; rw [hasB_nat] at c18; simpa using c18
      refine WC.skip ?_
      refine WP.blkNormal ?_
      refine WP.thenC ?_
      refine WC.ofFr [(0, _), (3, _), (4, _)] ⟨rfl, rfl, rfl, trivial⟩ ?_
      refine WC.region ?_
      refine WL.yd (Yd.move rfl) rfl ?_
      refine WL.yd (Yd.add rfl rfl (wr64 ⟨by omega, by omega⟩)) rfl ?_
      refine WL.yd (Yd.assign rfl) rfl ?_
      refine WL.nil ?_
      exact WP.againF (k + 1) (by omega) (by omega) ⟨rfl, by rw [hn1]; rfl, rfl, trivial⟩ (fun _ h => h) (fun h => h)
  · try simp only [zq1, zq2, zq3, zq4, zq5, zq6, zq7, zq8] at c8
    refine WC.exit ?_
    refine WP.thenExit ?_
    refine WP.thenExit ?_
    refine WP.blkHit ?_
    refine WP.thenC ?_
    refine WC.seq ?_
    refine WC.ofFr [(3, _)] ⟨rfl, trivial⟩ ?_
    refine WC.region ?_
    refine WL.yd (Yd.move rfl) rfl ?_
    refine WL.yd (Yd.assign rfl) rfl ?_
    refine WL.nil ?_
    refine WP.thenC ?_
    refine WC.ret ?_
    refine WP.ret1 rfl rfl Try.results43 (RV.tmp rfl) (fun w hI => ⟨by rw [show k = plan.length by omega]; rfl, hI.keep⟩)

end Go.Proofs.Ytidjdonppfegiaa
