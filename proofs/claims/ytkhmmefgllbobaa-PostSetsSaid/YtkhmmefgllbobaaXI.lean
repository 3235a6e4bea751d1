import Derived.Test.YtkhmmefgllbobaaXH
import Derived.Test.YtkhmmefgllbobaaXB
set_option linter.unusedSimpArgs false
set_option linter.unusedVariables false
set_option linter.all false
namespace Go.Proofs.Ytkhmmefgllbobaa
open Go.W Go.Po

theorem lessAt_inv {l : List Nat} {i j : Nat} {b : Bool} (h : lessAt l i j = some b) : i < l.length ∧ j < l.length ∧ gt l i < 256 ∧ gt l j < 256 ∧ b = decide (pop (gt l i) < pop (gt l j)) := by
  unfold lessAt at h
  split at h
  · rename_i hh; cases h; exact ⟨hh.1, hh.2.1, hh.2.2.1, hh.2.2.2, rfl⟩
  · cases h
/-- a round of a halving -/
def halfStep (p : Nat → Option Bool) (x : Nat × Nat) : Option (Nat × Nat) := (p ((x.1 + x.2) / 2)).map fun b => if b then ((x.1 + x.2) / 2 + 1, x.2) else (x.1, (x.1 + x.2) / 2)
theorem halve_eq {p : Nat → Option Bool} {i j r : Nat} (h : halve p i j = some r) : ∃ s, whl (fun x : Nat × Nat => decide (x.1 < x.2)) (halfStep p) F (i, j) = some (r, s) := by
  obtain ⟨⟨r', s⟩, h1, h2⟩ := Option.map_eq_some_iff.1 h
  cases h2
  exact ⟨s, h1⟩
theorem half_true {p : Nat → Option Bool} {n i j r s : Nat} (h : whl (fun x : Nat × Nat => decide (x.1 < x.2)) (halfStep p) n (i, j) = some (r, s)) (hij : i < j) : ∃ m b, n = m + 1 ∧ p ((i + j) / 2) = some b ∧
    (b = true → whl (fun x : Nat × Nat => decide (x.1 < x.2)) (halfStep p) m ((i + j) / 2 + 1, j) = some (r, s)) ∧ (b = false → whl (fun x : Nat × Nat => decide (x.1 < x.2)) (halfStep p) m (i, (i + j) / 2) = some (r, s)) := by
  obtain ⟨m, y, e, h1, h2⟩ := whl_true h (by simpa using hij)
  obtain ⟨b, h3, h4⟩ := Option.map_eq_some_iff.1 h1
  subst h4
  exact ⟨m, b, e, h3, fun hb => by rw [hb] at h2; exact h2, fun hb => by rw [hb] at h2; exact h2⟩
theorem half_false {p : Nat → Option Bool} {n i j r s : Nat} (h : whl (fun x : Nat × Nat => decide (x.1 < x.2)) (halfStep p) n (i, j) = some (r, s)) (hij : ¬ i < j) : r = i := by
  have := whl_false h (by simpa using hij)
  exact congrArg Prod.fst this
/-- what the merge does: its three ways -/
theorem symM_eq {f a m b : Nat} {l l' : List Nat} (h : symM (f + 1) a m b l = some l') : a < m ∧ m < b ∧ b ≤ 1000 ∧
    ((m - a = 1 ∧ ∃ i, halve (fun h => lessAt l h a) m b = some i ∧ upS a i l = some l') ∨
     (m - a ≠ 1 ∧ b - m = 1 ∧ ∃ i, halve (fun h => (lessAt l m h).map (!·)) a m = some i ∧ downS m i l = some l') ∨
     (m - a ≠ 1 ∧ b - m ≠ 1 ∧ ∃ s r st l1 l2, (if (a + b) / 2 < m then (if b ≤ (a + b) / 2 + m then some ((a + b) / 2 + m - b, (a + b) / 2) else none) else some (a, m)) = some (s, r) ∧
        halve (fun c => if c + 1 ≤ (a + b) / 2 + m then (lessAt l ((a + b) / 2 + m - 1 - c) c).map (!·) else none) s r = some st ∧ st ≤ (a + b) / 2 + m ∧
        (if st < m ∧ m < (a + b) / 2 + m - st then rotS st m ((a + b) / 2 + m - st) l else some l) = some l1 ∧
        (if a < st ∧ st < (a + b) / 2 then symM f a st ((a + b) / 2) l1 else some l1) = some l2 ∧
        (if (a + b) / 2 < (a + b) / 2 + m - st ∧ (a + b) / 2 + m - st < b then symM f ((a + b) / 2) ((a + b) / 2 + m - st) b l2 else some l2) = some l')) := by
  simp only [symM] at h
  split at h
  · cases h
  · rename_i hb
    have hb' := Decidable.not_not.1 hb
    refine ⟨hb'.1, hb'.2.1, hb'.2.2, ?_⟩
    split at h
    · rename_i h1
      obtain ⟨i, h2, h3⟩ := Option.bind_eq_some_iff.1 h
      exact .inl ⟨h1, i, h2, h3⟩
    · rename_i h1
      split at h
      · rename_i h2
        obtain ⟨i, h3, h4⟩ := Option.bind_eq_some_iff.1 h
        exact .inr (.inl ⟨h1, h2, i, h3, h4⟩)
      · rename_i h2
        obtain ⟨⟨s, r⟩, h3, h⟩ := Option.bind_eq_some_iff.1 h
        obtain ⟨st, h4, h⟩ := Option.bind_eq_some_iff.1 h
        split at h
        · cases h
        · rename_i h5
          obtain ⟨l1, h6, h⟩ := Option.bind_eq_some_iff.1 h
          obtain ⟨l2, h7, h8⟩ := Option.bind_eq_some_iff.1 h
          exact .inr (.inr ⟨h1, h2, s, r, st, l1, l2, h3, h4, by omega, h6, h7, h8⟩)
theorem symM_ok {n : Nat} : ∀ f a m b l l', Ok n l → symM f a m b l = some l' → Ok n l' := by
  intro f
  induction f with
  | zero => intro a m b l l' _ h; simp [symM] at h
  | succ f ih =>
    intro a m b l l' hok h
    obtain ⟨_, _, _, ⟨_, i, _, h1⟩ | ⟨_, _, i, _, h1⟩ | ⟨_, _, s, r, st, l1, l2, _, _, _, h6, h7, h8⟩⟩ := symM_eq h
    · exact upS_ok hok h1
    · exact downS_ok hok h1
    · have k1 : Ok n l1 := by
        split at h6
        · exact rotS_ok hok h6
        · cases h6; exact hok
      have k2 : Ok n l2 := by
        split at h7
        · exact ih _ _ _ _ _ k1 h7
        · cases h7; exact k1
      split at h8
      · exact ih _ _ _ _ _ k2 h8
      · cases h8; exact k2

set_option maxRecDepth 100000 in
set_option maxHeartbeats 1000000 in
theorem sym_step (f : Nat) (rest : List Value) (bd cap n0 : Nat) (D : Imm) (hl : n0 ≤ 256) (ih : ∀ a m b l l' w, Ok n0 l → symM f a m b l = some l' → Inv D [(bd, datO l rest)] [bd] w w → Alters Try.prog 115 [.slice (some ⟨bd, 0, none⟩) n0 cap, nt a, nt m, nt b, cmpV] w D [bd] (fun v D' hpc' => v = .tuple #[] ∧ D = D' ∧ hpc' = [(bd, datO l' rest)]))
    (a m b : Nat) (l l' : List Nat) (w : World) (hok : Ok n0 l) (h : symM (f + 1) a m b l = some l') (hI0 : Inv D [(bd, datO l rest)] [bd] w w) : Alters Try.prog 115 [.slice (some ⟨bd, 0, none⟩) n0 cap, nt a, nt m, nt b, cmpV] w D [bd] (fun v D' hpc' => v = .tuple #[] ∧ D = D' ∧ hpc' = [(bd, datO l' rest)]) := by
  unfold Alters
  obtain ⟨ham, hmb, hb9, hw3⟩ := symM_eq h
  refine enter Try.func115 rfl 220 Try.ntmps115 (Nat.le_of_ble_eq_true rfl) hI0 ?_
  refine WC.seq ?_
  refine WC.seq ?_
  refine WC.ofFr [(0, _), (1, _), (2, _), (3, _), (4, _)] ⟨rfl, rfl, rfl, rfl, rfl, trivial⟩ ?_
  refine WC.region ?_
  refine WL.yd (Yd.move rfl) rfl ?_
  refine WL.yd (Yd.move rfl) rfl ?_
  refine WL.yd (Yd.subN rfl rfl (by (try dsimp only); omega) (by (try dsimp only); omega)) rfl ?_
  refine WL.yd (Yd.eql rfl rfl) rfl ?_
  refine WL.nil ?_
  refine WP.thenC ?_
  refine WC.cond rfl (fun c28 => ?_) (fun c28 => ?_)
  · try simp only [zq1, zq2, zq3, zq4, zq5, zq6, zq7, zq8] at c28
    have h28 : m - a = 1 := by omega
    obtain ⟨r9, hh9, hu9⟩ : ∃ i, halve (fun h => lessAt l h a) m b = some i ∧ upS a i l = some l' := by
      rcases hw3 with h1 | h1 | h1
      · exact h1.2
      · exact absurd h28 h1.1
      · exact absurd h28 h1.1
    obtain ⟨s9, hh9⟩ := halve_eq hh9
    refine WC.seq ?_
    refine WC.ofFr [(0, _), (1, _), (2, _), (3, _), (4, _)] ⟨rfl, rfl, rfl, rfl, rfl, trivial⟩ ?_
    refine WC.region ?_
    refine WL.yd (Yd.move rfl) rfl ?_
    refine WL.yd (Yd.assign rfl) rfl ?_
    refine WL.nil ?_
    refine WP.thenC ?_
    refine WC.seq ?_
    refine WC.ofFr [(10, _), (0, _), (1, _), (2, _), (3, _), (4, _)] ⟨rfl, rfl, rfl, rfl, rfl, rfl, trivial⟩ ?_
    refine WC.region ?_
    refine WL.yd (Yd.move rfl) rfl ?_
    refine WL.yd (Yd.assign rfl) rfl ?_
    refine WL.nil ?_
    refine WP.thenC ?_
    refine WC.seq ?_
    refine WC.block ?_
    refine WC.loop (fun y : Nat × Nat × Nat => [(0, .slice (some ⟨bd, 0, none⟩) n0 cap), (1, nt a), (4, cmpV), (10, nt y.2.1), (11, nt y.2.2)]) (fun _ => [(bd, datO l rest)]) (fun _ => D) (fun y => whl (fun x : Nat × Nat => decide (x.1 < x.2)) (halfStep (fun h => lessAt l h a)) y.1 (y.2.1, y.2.2) = some (r9, s9) ∧ m ≤ y.2.1 ∧ y.2.1 ≤ 3001 ∧ y.2.2 ≤ 3000) (fun y => y.1) (⟨F, m, b⟩ : Nat × Nat × Nat) ⟨hh9, by simp only; omega, by simp only; omega, by simp only; omega⟩ (fun a w h => at_fr h ⟨rfl, rfl, rfl, rfl, rfl, trivial⟩) ?_
    rintro ⟨k9, i, j⟩ ⟨hw1, hi1, hi2, hj1⟩
    dsimp only at hw1 hi1 hi2 hj1
    refine WC.seq ?_
    refine WC.seq ?_
    refine WC.ofFr [(0, _), (1, _), (4, _), (10, _), (11, _)] ⟨rfl, rfl, rfl, rfl, rfl, trivial⟩ ?_
    refine WC.region ?_
    refine WL.yd (Yd.move rfl) rfl ?_
    refine WL.yd (Yd.move rfl) rfl ?_
    refine WL.yd (Yd.lss rfl rfl) rfl ?_
    refine WL.nil ?_
    refine WP.thenC ?_
    refine WC.cond rfl (fun c33 => ?_) (fun c33 => ?_)
    · try simp only [zq1, zq2, zq3, zq4, zq5, zq6, zq7, zq8] at c33
      have hij : i < j := by omega
      obtain ⟨k1, bq, rfl, hp, hT, hF⟩ := half_true hw1 hij
      obtain ⟨hx1, hx2, hx3, hx4, hbq⟩ := lessAt_inv hp
      have hln := hok.1
      refine WC.skip ?_
      refine WP.thenC ?_
      refine WC.block ?_
      refine WC.seq ?_
      refine WC.ofFr [(0, _), (1, _), (4, _), (10, _), (11, _)] ⟨rfl, rfl, rfl, rfl, rfl, trivial⟩ ?_
      refine WC.region ?_
      refine WL.yd (Yd.move rfl) rfl ?_
      refine WL.yd (Yd.move rfl) rfl ?_
      refine WL.yd (Yd.addN rfl rfl (by (try dsimp only); omega)) rfl ?_
      refine WL.yd (Yd.convNU Try.underlying3 Try.underlying99 rfl (by (try dsimp only); omega)) rfl ?_
      refine WL.yd (Yd.half rfl rfl) rfl ?_
      refine WL.yd (Yd.convUN Try.underlying99 Try.underlying3 rfl (by (try dsimp only); omega)) rfl ?_
      refine WL.yd (Yd.assign rfl) rfl ?_
      refine WL.nil ?_
      refine WP.thenC ?_
      refine WC.seq ?_
      refine WC.ofFr [(12, _), (0, _), (1, _), (4, _), (10, _), (11, _)] ⟨rfl, rfl, rfl, rfl, rfl, rfl, trivial⟩ ?_
      refine WC.tail 9 [0, 1, 2, 3, 4, 5, 6, 7, 8] rfl (by kernel_rfl) (by kernel_rfl)  ?_
      refine WQ.q rfl (Yd.qt (Yd.move rfl)) rfl ?_
      refine WQ.q rfl (Yd.qt (Yd.move rfl)) rfl ?_
      refine WQ.q rfl (Yd.qt (Yd.move rfl)) rfl ?_
      refine WQ.q rfl (Yd.qt (Yd.indexS Try.underlying112 Try.sizeOf99 rfl rfl (by (try dsimp only); omega) (by (try dsimp only); omega) (by first | exact rfl))) rfl ?_
      refine WQ.q rfl (Yd.qt (Yd.load1 Try.isAgg99 rfl (by first | exact (rd_data (k := 0) rfl (by (try dsimp only); omega))))) rfl ?_
      refine WQ.q rfl (Yd.qt (Yd.move rfl)) rfl ?_
      refine WQ.q rfl (Yd.qt (Yd.move rfl)) rfl ?_
      refine WQ.q rfl (Yd.qt (Yd.indexS Try.underlying112 Try.sizeOf99 rfl rfl (by (try dsimp only); omega) (by (try dsimp only); omega) (by first | exact rfl))) rfl ?_
      refine WQ.q rfl (Yd.qt (Yd.load1 Try.isAgg99 rfl (by first | exact (rd_data (k := 0) rfl (by (try dsimp only); omega))))) rfl ?_
      refine WQ.tail ?_
      refine WL.so (SO.call (Enters.val Try.call106 rfl rfl) (fun w hI => cmp_g _ _ hx3 hx4 _)) rfl ?_
      rintro _ _ _ ⟨rfl, rfl, rfl⟩
      refine WL.yd (Yd.lss rfl rfl) rfl ?_
      refine WL.nil ?_
      refine WP.thenC ?_
      refine WC.cond rfl (fun c50 => ?_) (fun c50 => ?_)
      · try simp only [zq1, zq2, zq3, zq4, zq5, zq6, zq7, zq8] at c50
        have hbq1 : bq = true := by rw [hbq]; simp only [decide_eq_true_eq]; omega
        refine WC.ofFr [(12, _), (0, _), (1, _), (4, _), (10, _), (11, _)] ⟨rfl, rfl, rfl, rfl, rfl, rfl, trivial⟩ ?_
        refine WC.region ?_
        refine WL.yd (Yd.move rfl) rfl ?_
        refine WL.yd (Yd.addN rfl rfl (by (try dsimp only); omega)) rfl ?_
        refine WL.yd (Yd.assign rfl) rfl ?_
        refine WL.nil ?_
        refine WP.blkNormal ?_
        first
          | exact WP.again (⟨k1, (i + j) / 2 + 1, j⟩ : Nat × Nat × Nat) ⟨hT hbq1, by simp only; omega, by simp only; omega, by simp only; omega⟩ (by simp only; omega) (fun aa ww h => at_fr h ⟨rfl, rfl, rfl, rfl, rfl, trivial⟩)
          | exact WP.again (⟨k1, i, (i + j) / 2⟩ : Nat × Nat × Nat) ⟨hF hbq1, by simp only; omega, by simp only; omega, by simp only; omega⟩ (by simp only; omega) (fun aa ww h => at_fr h ⟨rfl, rfl, rfl, rfl, rfl, trivial⟩)
      · try simp only [zq1, zq2, zq3, zq4, zq5, zq6, zq7, zq8] at c50
        have hbq1 : bq = false := by rw [hbq]; simp only [decide_eq_false_iff_not]; omega
        refine WC.ofFr [(12, _), (0, _), (1, _), (4, _), (10, _), (11, _)] ⟨rfl, rfl, rfl, rfl, rfl, rfl, trivial⟩ ?_
        refine WC.region ?_
        refine WL.yd (Yd.move rfl) rfl ?_
        refine WL.yd (Yd.assign rfl) rfl ?_
        refine WL.nil ?_
        refine WP.blkNormal ?_
        first
          | exact WP.again (⟨k1, (i + j) / 2 + 1, j⟩ : Nat × Nat × Nat) ⟨hT hbq1, by simp only; omega, by simp only; omega, by simp only; omega⟩ (by simp only; omega) (fun aa ww h => at_fr h ⟨rfl, rfl, rfl, rfl, rfl, trivial⟩)
          | exact WP.again (⟨k1, i, (i + j) / 2⟩ : Nat × Nat × Nat) ⟨hF hbq1, by simp only; omega, by simp only; omega, by simp only; omega⟩ (by simp only; omega) (fun aa ww h => at_fr h ⟨rfl, rfl, rfl, rfl, rfl, trivial⟩)
    · try simp only [zq1, zq2, zq3, zq4, zq5, zq6, zq7, zq8] at c33
      have hij : ¬ i < j := by omega
      obtain rfl : r9 = i := half_false hw1 hij
      refine WC.exit ?_
      refine WP.thenExit ?_
      refine WP.thenExit ?_
      refine WP.blkHit ?_
      refine WP.thenC ?_
      refine WC.seq ?_
      refine WC.seq ?_
      refine WC.ofFr [(0, _), (1, _), (4, _), (10, _)] ⟨rfl, rfl, rfl, rfl, trivial⟩ ?_
      refine WC.region ?_
      refine WL.yd (Yd.move rfl) rfl ?_
      refine WL.yd (Yd.assign rfl) rfl ?_
      refine WL.nil ?_
      refine WP.thenC ?_
      refine WC.block ?_
      obtain ⟨⟨k8, l8⟩, hu8, rfl⟩ := Option.map_eq_some_iff.1 hu9
      refine WC.loop (fun y : Nat × Nat × List Nat => [(0, .slice (some ⟨bd, 0, none⟩) n0 cap), (10, nt r9), (13, nt y.2.1)]) (fun y => [(bd, datO y.2.2 rest)]) (fun _ => D) (fun y => whl (fun x : Nat × List Nat => decide ((x.1 : Int) < (r9 : Int) - 1)) (fun x => (swp x.2 x.1 (x.1 + 1)).map fun l => (x.1 + 1, l)) y.1 y.2 = some (k8, l8) ∧ Ok n0 y.2.2 ∧ y.2.1 ≤ 1001) (fun y => y.1) (⟨F, a, l⟩ : Nat × Nat × List Nat) ⟨hu8, hok, by simp only; omega⟩ (fun a w h => at_fr h ⟨rfl, rfl, rfl, trivial⟩) ?_
      rintro ⟨m4, k, l1⟩ ⟨hw4, hok1, hk1⟩
      dsimp only at hw4 hok1 hk1
      have hln1 := hok1.1
      refine WC.seq ?_
      refine WC.seq ?_
      refine WC.ofFr [(0, _), (10, _), (13, _)] ⟨rfl, rfl, rfl, trivial⟩ ?_
      refine WC.region ?_
      refine WL.yd (Yd.move rfl) rfl ?_
      refine WL.yd (Yd.move rfl) rfl ?_
      refine WL.yd (Yd.subN rfl rfl (by (try dsimp only); omega) (by (try dsimp only); omega)) rfl ?_
      refine WL.yd (Yd.lss rfl rfl) rfl ?_
      refine WL.nil ?_
      refine WP.thenC ?_
      refine WC.cond rfl (fun c58 => ?_) (fun c58 => ?_)
      · try simp only [zq1, zq2, zq3, zq4, zq5, zq6, zq7, zq8] at c58
        have hk8 : (k : Int) < (r9 : Int) - 1 := by omega
        obtain ⟨m1, ⟨k2, l2⟩, rfl, hs, hw2⟩ := whl_true hw4 (by simpa using hk8)
        obtain ⟨l2, hsw, hs⟩ := Option.map_eq_some_iff.1 hs
        cases hs
        dsimp only at hsw hw2
        obtain ⟨hi5, hi6, hi7, hi8⟩ := swp_spec hsw
        refine WC.skip ?_
        refine WP.thenC ?_
        refine WC.seq ?_
        refine WC.block ?_
        refine WC.ofFr [(0, _), (10, _), (13, _)] ⟨rfl, rfl, rfl, trivial⟩ ?_
        refine WC.drawH [] (by kernel_rfl) (fun _ hI => hI.drop 99) ?_
        refine WH.yd (i := 0) (by kernel_rfl) (fun _ o v c a w _ h => (QuietPanic.blk (QuietPanic.then (QuietPanic.then (QuietPanic.blk (QuietPanic.then (QuietPanic.then QuietPanic.body)))))) c o.dst v a w h) rfl (Yd.move rfl) rfl ?_
        refine WH.yd (i := 1) (by kernel_rfl) (fun _ o v c a w _ h => (QuietPanic.blk (QuietPanic.then (QuietPanic.then (QuietPanic.blk (QuietPanic.then (QuietPanic.then QuietPanic.body)))))) c o.dst v a w h) rfl (Yd.move rfl) rfl ?_
        refine WH.yd (i := 2) (by kernel_rfl) (fun _ o v c a w _ h => (QuietPanic.blk (QuietPanic.then (QuietPanic.then (QuietPanic.blk (QuietPanic.then (QuietPanic.then QuietPanic.body)))))) c o.dst v a w h) rfl (Yd.move rfl) rfl ?_
        refine WH.yd (i := 3) (by kernel_rfl) (fun _ o v c a w _ h => (QuietPanic.blk (QuietPanic.then (QuietPanic.then (QuietPanic.blk (QuietPanic.then (QuietPanic.then QuietPanic.body)))))) c o.dst v a w h) rfl (Yd.move rfl) rfl ?_
        refine WH.yd (i := 4) (by kernel_rfl) (fun _ o v c a w _ h => (QuietPanic.blk (QuietPanic.then (QuietPanic.then (QuietPanic.blk (QuietPanic.then (QuietPanic.then QuietPanic.body)))))) c o.dst v a w h) rfl (Yd.addN rfl rfl (by (try dsimp only); omega)) rfl ?_
        refine WH.yd (i := 5) (by kernel_rfl) (fun _ o v c a w _ h => (QuietPanic.blk (QuietPanic.then (QuietPanic.then (QuietPanic.blk (QuietPanic.then (QuietPanic.then QuietPanic.body)))))) c o.dst v a w h) rfl (Yd.move rfl) rfl ?_
        refine WH.yd (i := 6) (by kernel_rfl) (fun _ o v c a w _ h => (QuietPanic.blk (QuietPanic.then (QuietPanic.then (QuietPanic.blk (QuietPanic.then (QuietPanic.then QuietPanic.body)))))) c o.dst v a w h) rfl (Yd.move rfl) rfl ?_
        refine WH.yd (i := 7) (by kernel_rfl) (fun _ o v c a w _ h => (QuietPanic.blk (QuietPanic.then (QuietPanic.then (QuietPanic.blk (QuietPanic.then (QuietPanic.then QuietPanic.body)))))) c o.dst v a w h) rfl (Yd.addN rfl rfl (by (try dsimp only); omega)) rfl ?_
        refine WH.yd (i := 8) (by kernel_rfl) (fun _ o v c a w _ h => (QuietPanic.blk (QuietPanic.then (QuietPanic.then (QuietPanic.blk (QuietPanic.then (QuietPanic.then QuietPanic.body)))))) c o.dst v a w h) rfl (Yd.indexS Try.underlying112 Try.sizeOf99 rfl rfl (by (try dsimp only); omega) (by (try dsimp only); omega) (by first | exact rfl)) rfl ?_
        refine WH.yd (i := 10) (by kernel_rfl) (fun _ o v c a w _ h => (QuietPanic.blk (QuietPanic.then (QuietPanic.then (QuietPanic.blk (QuietPanic.then (QuietPanic.then QuietPanic.body)))))) c o.dst v a w h) rfl (Yd.move rfl) rfl ?_
        refine WH.yd (i := 11) (by kernel_rfl) (fun _ o v c a w _ h => (QuietPanic.blk (QuietPanic.then (QuietPanic.then (QuietPanic.blk (QuietPanic.then (QuietPanic.then QuietPanic.body)))))) c o.dst v a w h) rfl (Yd.move rfl) rfl ?_
        refine WH.yd (i := 12) (by kernel_rfl) (fun _ o v c a w _ h => (QuietPanic.blk (QuietPanic.then (QuietPanic.then (QuietPanic.blk (QuietPanic.then (QuietPanic.then QuietPanic.body)))))) c o.dst v a w h) rfl (Yd.indexS Try.underlying112 Try.sizeOf99 rfl rfl (by (try dsimp only); omega) (by (try dsimp only); omega) (by first | exact rfl)) rfl ?_
        refine WH.two (i := 9) (j := 13) (by kernel_rfl) ?_ ?_
        · refine WHo.yd rfl (Yd.load1 Try.isAgg99 rfl (by first | exact (rd_data (k := 0) rfl (by (try dsimp only); omega)))) rfl ?_
          refine WH.one (i := 13) (by kernel_rfl) (WHo.yd rfl (Yd.load1 Try.isAgg99 rfl (by first | exact (rd_data (k := 0) rfl (by (try dsimp only); omega)))) rfl ?_)
          refine WH.yd (i := 14) (by kernel_rfl) (fun _ o v c a w _ h => (QuietPanic.blk (QuietPanic.then (QuietPanic.then (QuietPanic.blk (QuietPanic.then (QuietPanic.then QuietPanic.body)))))) c o.dst v a w h) rfl (Yd.indexS Try.underlying112 Try.sizeOf99 rfl rfl (by (try dsimp only); omega) (by (try dsimp only); omega) (by first | exact rfl)) rfl ?_
          refine WH.one (i := 15) (by kernel_rfl) (WHo.so rfl (SO.store 0 rfl Try.sizeOf99 rfl rfl rfl rfl (len_data _ _ (by (try dsimp only); omega)) (oneB_spec rfl)) rfl ?_)
          rintro _ _ _ ⟨rfl, rfl, rfl⟩
          refine ⟨(fun _ hI => hI.drop 99), ?_⟩
          refine WH.yd (i := 16) (by kernel_rfl) (fun _ o v c a w _ h => (QuietPanic.blk (QuietPanic.then (QuietPanic.then (QuietPanic.blk (QuietPanic.then (QuietPanic.then QuietPanic.body)))))) c o.dst v a w h) rfl (Yd.indexS Try.underlying112 Try.sizeOf99 rfl rfl (by (try dsimp only); omega) (by (try dsimp only); omega) (by first | exact rfl)) rfl ?_
          refine WH.one (i := 17) (by kernel_rfl) (WHo.so rfl (SO.store 0 rfl Try.sizeOf99 rfl rfl rfl rfl (st_two rest (by (try dsimp only); omega) (by (try dsimp only); omega)) (oneB_spec rfl)) rfl ?_)
          rintro _ _ _ ⟨rfl, rfl, rfl⟩
          refine ⟨(fun _ hI => hI.drop 99), ?_⟩
          refine WH.nil (by kernel_rfl) ?_
          refine WP.blkNormal ?_
          refine WP.thenC ?_
          refine WC.ofFr [(0, _), (10, _), (13, _)] ⟨rfl, rfl, rfl, trivial⟩ ?_
          refine WC.region ?_
          refine WL.yd (Yd.move rfl) rfl ?_
          refine WL.yd (Yd.addN rfl rfl (by (try dsimp only); omega)) rfl ?_
          refine WL.yd (Yd.assign rfl) rfl ?_
          refine WL.nil ?_
          refine WP.again (⟨m1, k + 1, l2⟩ : Nat × Nat × List Nat) ⟨hw2, hok1.swp hsw, by simp only; omega⟩ (by simp only; omega) (fun aa ww h => ?_)
          show At _ [(0, .slice (some ⟨bd, 0, none⟩) n0 cap), (10, nt r9), (13, nt (k + 1))] D [(bd, .cells (List.toArray (l2.map ut ++ rest)) 99 (0, 0))] aa ww
          rw [← swp_mem rest hsw]
          exact at_fr h ⟨rfl, rfl, rfl, trivial⟩
        · refine WHo.yd rfl (Yd.load1 Try.isAgg99 rfl (by first | exact (rd_data (k := 0) rfl (by (try dsimp only); omega)))) rfl ?_
          refine WH.one (i := 9) (by kernel_rfl) (WHo.yd rfl (Yd.load1 Try.isAgg99 rfl (by first | exact (rd_data (k := 0) rfl (by (try dsimp only); omega)))) rfl ?_)
          refine WH.yd (i := 14) (by kernel_rfl) (fun _ o v c a w _ h => (QuietPanic.blk (QuietPanic.then (QuietPanic.then (QuietPanic.blk (QuietPanic.then (QuietPanic.then QuietPanic.body)))))) c o.dst v a w h) rfl (Yd.indexS Try.underlying112 Try.sizeOf99 rfl rfl (by (try dsimp only); omega) (by (try dsimp only); omega) (by first | exact rfl)) rfl ?_
          refine WH.one (i := 15) (by kernel_rfl) (WHo.so rfl (SO.store 0 rfl Try.sizeOf99 rfl rfl rfl rfl (len_data _ _ (by (try dsimp only); omega)) (oneB_spec rfl)) rfl ?_)
          rintro _ _ _ ⟨rfl, rfl, rfl⟩
          refine ⟨(fun _ hI => hI.drop 99), ?_⟩
          refine WH.yd (i := 16) (by kernel_rfl) (fun _ o v c a w _ h => (QuietPanic.blk (QuietPanic.then (QuietPanic.then (QuietPanic.blk (QuietPanic.then (QuietPanic.then QuietPanic.body)))))) c o.dst v a w h) rfl (Yd.indexS Try.underlying112 Try.sizeOf99 rfl rfl (by (try dsimp only); omega) (by (try dsimp only); omega) (by first | exact rfl)) rfl ?_
          refine WH.one (i := 17) (by kernel_rfl) (WHo.so rfl (SO.store 0 rfl Try.sizeOf99 rfl rfl rfl rfl (st_two rest (by (try dsimp only); omega) (by (try dsimp only); omega)) (oneB_spec rfl)) rfl ?_)
          rintro _ _ _ ⟨rfl, rfl, rfl⟩
          refine ⟨(fun _ hI => hI.drop 99), ?_⟩
          refine WH.nil (by kernel_rfl) ?_
          refine WP.blkNormal ?_
          refine WP.thenC ?_
          refine WC.ofFr [(0, _), (10, _), (13, _)] ⟨rfl, rfl, rfl, trivial⟩ ?_
          refine WC.region ?_
          refine WL.yd (Yd.move rfl) rfl ?_
          refine WL.yd (Yd.addN rfl rfl (by (try dsimp only); omega)) rfl ?_
          refine WL.yd (Yd.assign rfl) rfl ?_
          refine WL.nil ?_
          refine WP.again (⟨m1, k + 1, l2⟩ : Nat × Nat × List Nat) ⟨hw2, hok1.swp hsw, by simp only; omega⟩ (by simp only; omega) (fun aa ww h => ?_)
          show At _ [(0, .slice (some ⟨bd, 0, none⟩) n0 cap), (10, nt r9), (13, nt (k + 1))] D [(bd, .cells (List.toArray (l2.map ut ++ rest)) 99 (0, 0))] aa ww
          rw [← swp_mem rest hsw]
          exact at_fr h ⟨rfl, rfl, rfl, trivial⟩
      · try simp only [zq1, zq2, zq3, zq4, zq5, zq6, zq7, zq8] at c58
        have hk8 : ¬ (k : Int) < (r9 : Int) - 1 := by omega
        cases whl_false hw4 (by simpa using hk8)
        refine WC.exit ?_
        refine WP.thenExit ?_
        refine WP.thenExit ?_
        refine WP.blkHit ?_
        refine WP.thenC ?_
        refine WC.ret ?_
        refine WP.thenRet ?_
        refine WP.ret0 rfl rfl Try.results115  (fun w1 hI => ⟨_, D, _, rfl, DExt.refl _ _, hI, fun _ h => h, rfl, rfl, rfl⟩)
  · try simp only [zq1, zq2, zq3, zq4, zq5, zq6, zq7, zq8] at c28
    have h28 : ¬ m - a = 1 := by omega
    refine WC.skip ?_
    refine WP.thenC ?_
    refine WC.seq ?_
    refine WC.seq ?_
    refine WC.ofFr [(0, _), (1, _), (2, _), (3, _), (4, _)] ⟨rfl, rfl, rfl, rfl, rfl, trivial⟩ ?_
    refine WC.region ?_
    refine WL.yd (Yd.move rfl) rfl ?_
    refine WL.yd (Yd.move rfl) rfl ?_
    refine WL.yd (Yd.subN rfl rfl (by (try dsimp only); omega) (by (try dsimp only); omega)) rfl ?_
    refine WL.yd (Yd.eql rfl rfl) rfl ?_
    refine WL.nil ?_
    refine WP.thenC ?_
    refine WC.cond rfl (fun c80 => ?_) (fun c80 => ?_)
    · try simp only [zq1, zq2, zq3, zq4, zq5, zq6, zq7, zq8] at c80
      have h80 : b - m = 1 := by omega
      obtain ⟨r9, hh9, hu9⟩ : ∃ i, halve (fun h => (lessAt l m h).map (!·)) a m = some i ∧ downS m i l = some l' := by
        rcases hw3 with h1 | h1 | h1
        · exact absurd h1.1 h28
        · exact h1.2.2
        · exact absurd h80 h1.2.1
      obtain ⟨s9, hh9⟩ := halve_eq hh9
      refine WC.seq ?_
      refine WC.ofFr [(0, _), (1, _), (2, _), (3, _), (4, _)] ⟨rfl, rfl, rfl, rfl, rfl, trivial⟩ ?_
      refine WC.region ?_
      refine WL.yd (Yd.move rfl) rfl ?_
      refine WL.yd (Yd.assign rfl) rfl ?_
      refine WL.nil ?_
      refine WP.thenC ?_
      refine WC.seq ?_
      refine WC.ofFr [(14, _), (0, _), (1, _), (2, _), (3, _), (4, _)] ⟨rfl, rfl, rfl, rfl, rfl, rfl, trivial⟩ ?_
      refine WC.region ?_
      refine WL.yd (Yd.move rfl) rfl ?_
      refine WL.yd (Yd.assign rfl) rfl ?_
      refine WL.nil ?_
      refine WP.thenC ?_
      refine WC.seq ?_
      refine WC.block ?_
      refine WC.loop (fun y : Nat × Nat × Nat => [(0, .slice (some ⟨bd, 0, none⟩) n0 cap), (2, nt m), (4, cmpV), (14, nt y.2.1), (15, nt y.2.2)]) (fun _ => [(bd, datO l rest)]) (fun _ => D) (fun y => whl (fun x : Nat × Nat => decide (x.1 < x.2)) (halfStep (fun h => (lessAt l m h).map (!·))) y.1 (y.2.1, y.2.2) = some (r9, s9) ∧ 0 ≤ y.2.1 ∧ y.2.1 ≤ 3001 ∧ y.2.2 ≤ 3000) (fun y => y.1) (⟨F, a, m⟩ : Nat × Nat × Nat) ⟨hh9, by simp only; omega, by simp only; omega, by simp only; omega⟩ (fun a w h => at_fr h ⟨rfl, rfl, rfl, rfl, rfl, trivial⟩) ?_
      rintro ⟨k9, i, j⟩ ⟨hw1, hi1, hi2, hj1⟩
      dsimp only at hw1 hi1 hi2 hj1
      refine WC.seq ?_
      refine WC.seq ?_
      refine WC.ofFr [(0, _), (2, _), (4, _), (14, _), (15, _)] ⟨rfl, rfl, rfl, rfl, rfl, trivial⟩ ?_
      refine WC.region ?_
      refine WL.yd (Yd.move rfl) rfl ?_
      refine WL.yd (Yd.move rfl) rfl ?_
      refine WL.yd (Yd.lss rfl rfl) rfl ?_
      refine WL.nil ?_
      refine WP.thenC ?_
      refine WC.cond rfl (fun c85 => ?_) (fun c85 => ?_)
      · try simp only [zq1, zq2, zq3, zq4, zq5, zq6, zq7, zq8] at c85
        have hij : i < j := by omega
        obtain ⟨k1, bq, rfl, hp, hT, hF⟩ := half_true hw1 hij
        obtain ⟨b0, hp, hbn⟩ := Option.map_eq_some_iff.1 hp
        obtain ⟨hx1, hx2, hx3, hx4, hbq⟩ := lessAt_inv hp
        have hln := hok.1
        refine WC.skip ?_
        refine WP.thenC ?_
        refine WC.block ?_
        refine WC.seq ?_
        refine WC.ofFr [(0, _), (2, _), (4, _), (14, _), (15, _)] ⟨rfl, rfl, rfl, rfl, rfl, trivial⟩ ?_
        refine WC.region ?_
        refine WL.yd (Yd.move rfl) rfl ?_
        refine WL.yd (Yd.move rfl) rfl ?_
        refine WL.yd (Yd.addN rfl rfl (by (try dsimp only); omega)) rfl ?_
        refine WL.yd (Yd.convNU Try.underlying3 Try.underlying99 rfl (by (try dsimp only); omega)) rfl ?_
        refine WL.yd (Yd.half rfl rfl) rfl ?_
        refine WL.yd (Yd.convUN Try.underlying99 Try.underlying3 rfl (by (try dsimp only); omega)) rfl ?_
        refine WL.yd (Yd.assign rfl) rfl ?_
        refine WL.nil ?_
        refine WP.thenC ?_
        refine WC.seq ?_
        refine WC.ofFr [(16, _), (0, _), (2, _), (4, _), (14, _), (15, _)] ⟨rfl, rfl, rfl, rfl, rfl, rfl, trivial⟩ ?_
        refine WC.tail 9 [0, 1, 2, 3, 4, 5, 6, 7, 8] rfl (by kernel_rfl) (by kernel_rfl)  ?_
        refine WQ.q rfl (Yd.qt (Yd.move rfl)) rfl ?_
        refine WQ.q rfl (Yd.qt (Yd.move rfl)) rfl ?_
        refine WQ.q rfl (Yd.qt (Yd.move rfl)) rfl ?_
        refine WQ.q rfl (Yd.qt (Yd.indexS Try.underlying112 Try.sizeOf99 rfl rfl (by (try dsimp only); omega) (by (try dsimp only); omega) (by first | exact rfl))) rfl ?_
        refine WQ.q rfl (Yd.qt (Yd.load1 Try.isAgg99 rfl (by first | exact (rd_data (k := 0) rfl (by (try dsimp only); omega))))) rfl ?_
        refine WQ.q rfl (Yd.qt (Yd.move rfl)) rfl ?_
        refine WQ.q rfl (Yd.qt (Yd.move rfl)) rfl ?_
        refine WQ.q rfl (Yd.qt (Yd.indexS Try.underlying112 Try.sizeOf99 rfl rfl (by (try dsimp only); omega) (by (try dsimp only); omega) (by first | exact rfl))) rfl ?_
        refine WQ.q rfl (Yd.qt (Yd.load1 Try.isAgg99 rfl (by first | exact (rd_data (k := 0) rfl (by (try dsimp only); omega))))) rfl ?_
        refine WQ.tail ?_
        refine WL.so (SO.call (Enters.val Try.call106 rfl rfl) (fun w hI => cmp_g _ _ hx3 hx4 _)) rfl ?_
        rintro _ _ _ ⟨rfl, rfl, rfl⟩
        refine WL.yd (Yd.lss rfl rfl) rfl ?_
        refine WL.yd (Yd.not rfl) rfl ?_
        refine WL.nil ?_
        refine WP.thenC ?_
        refine WC.cond rfl (fun c103 => ?_) (fun c103 => ?_)
        · try simp only [zq1, zq2, zq3, zq4, zq5, zq6, zq7, zq8] at c103
          have hbq1 : bq = true := by rw [← hbn, hbq]; simp only [Bool.not_eq_true', decide_eq_false_iff_not]; omega
          refine WC.ofFr [(16, _), (0, _), (2, _), (4, _), (14, _), (15, _)] ⟨rfl, rfl, rfl, rfl, rfl, rfl, trivial⟩ ?_
          refine WC.region ?_
          refine WL.yd (Yd.move rfl) rfl ?_
          refine WL.yd (Yd.addN rfl rfl (by (try dsimp only); omega)) rfl ?_
          refine WL.yd (Yd.assign rfl) rfl ?_
          refine WL.nil ?_
          refine WP.blkNormal ?_
          first
            | exact WP.again (⟨k1, (i + j) / 2 + 1, j⟩ : Nat × Nat × Nat) ⟨hT hbq1, by simp only; omega, by simp only; omega, by simp only; omega⟩ (by simp only; omega) (fun aa ww h => at_fr h ⟨rfl, rfl, rfl, rfl, rfl, trivial⟩)
            | exact WP.again (⟨k1, i, (i + j) / 2⟩ : Nat × Nat × Nat) ⟨hF hbq1, by simp only; omega, by simp only; omega, by simp only; omega⟩ (by simp only; omega) (fun aa ww h => at_fr h ⟨rfl, rfl, rfl, rfl, rfl, trivial⟩)
        · try simp only [zq1, zq2, zq3, zq4, zq5, zq6, zq7, zq8] at c103
          have hbq1 : bq = false := by rw [← hbn, hbq]; simp only [Bool.not_eq_false', decide_eq_true_eq]; omega
          refine WC.ofFr [(16, _), (0, _), (2, _), (4, _), (14, _), (15, _)] ⟨rfl, rfl, rfl, rfl, rfl, rfl, trivial⟩ ?_
          refine WC.region ?_
          refine WL.yd (Yd.move rfl) rfl ?_
          refine WL.yd (Yd.assign rfl) rfl ?_
          refine WL.nil ?_
          refine WP.blkNormal ?_
          first
            | exact WP.again (⟨k1, (i + j) / 2 + 1, j⟩ : Nat × Nat × Nat) ⟨hT hbq1, by simp only; omega, by simp only; omega, by simp only; omega⟩ (by simp only; omega) (fun aa ww h => at_fr h ⟨rfl, rfl, rfl, rfl, rfl, trivial⟩)
            | exact WP.again (⟨k1, i, (i + j) / 2⟩ : Nat × Nat × Nat) ⟨hF hbq1, by simp only; omega, by simp only; omega, by simp only; omega⟩ (by simp only; omega) (fun aa ww h => at_fr h ⟨rfl, rfl, rfl, rfl, rfl, trivial⟩)
      · try simp only [zq1, zq2, zq3, zq4, zq5, zq6, zq7, zq8] at c85
        have hij : ¬ i < j := by omega
        obtain rfl : r9 = i := half_false hw1 hij
        refine WC.exit ?_
        refine WP.thenExit ?_
        refine WP.thenExit ?_
        refine WP.blkHit ?_
        refine WP.thenC ?_
        refine WC.seq ?_
        refine WC.seq ?_
        refine WC.ofFr [(0, _), (2, _), (4, _), (14, _)] ⟨rfl, rfl, rfl, rfl, trivial⟩ ?_
        refine WC.region ?_
        refine WL.yd (Yd.move rfl) rfl ?_
        refine WL.yd (Yd.assign rfl) rfl ?_
        refine WL.nil ?_
        refine WP.thenC ?_
        refine WC.block ?_
        obtain ⟨⟨k8, l8⟩, hu8, rfl⟩ := Option.map_eq_some_iff.1 hu9
        refine WC.loop (fun y : Nat × Nat × List Nat => [(0, .slice (some ⟨bd, 0, none⟩) n0 cap), (14, nt r9), (17, nt y.2.1)]) (fun y => [(bd, datO y.2.2 rest)]) (fun _ => D) (fun y => whl (fun x : Nat × List Nat => decide (r9 < x.1)) (fun x => (swp x.2 x.1 (x.1 - 1)).map fun l => (x.1 - 1, l)) y.1 y.2 = some (k8, l8) ∧ Ok n0 y.2.2 ∧ y.2.1 ≤ 1001) (fun y => y.1) (⟨F, m, l⟩ : Nat × Nat × List Nat) ⟨hu8, hok, by simp only; omega⟩ (fun a w h => at_fr h ⟨rfl, rfl, rfl, trivial⟩) ?_
        rintro ⟨m4, k, l1⟩ ⟨hw4, hok1, hk1⟩
        dsimp only at hw4 hok1 hk1
        have hln1 := hok1.1
        refine WC.seq ?_
        refine WC.seq ?_
        refine WC.ofFr [(0, _), (14, _), (17, _)] ⟨rfl, rfl, rfl, trivial⟩ ?_
        refine WC.region ?_
        refine WL.yd (Yd.move rfl) rfl ?_
        refine WL.yd (Yd.move rfl) rfl ?_
        refine WL.yd (Yd.gtr rfl rfl) rfl ?_
        refine WL.nil ?_
        refine WP.thenC ?_
        refine WC.cond rfl (fun c110 => ?_) (fun c110 => ?_)
        · try simp only [zq1, zq2, zq3, zq4, zq5, zq6, zq7, zq8] at c110
          have hk8 : r9 < k := by omega
          obtain ⟨m1, ⟨k2, l2⟩, rfl, hs, hw2⟩ := whl_true hw4 (by simpa using hk8)
          obtain ⟨l2, hsw, hs⟩ := Option.map_eq_some_iff.1 hs
          cases hs
          dsimp only at hsw hw2
          obtain ⟨hi5, hi6, hi7, hi8⟩ := swp_spec hsw
          refine WC.skip ?_
          refine WP.thenC ?_
          refine WC.seq ?_
          refine WC.block ?_
          refine WC.ofFr [(0, _), (14, _), (17, _)] ⟨rfl, rfl, rfl, trivial⟩ ?_
          refine WC.drawH [] (by kernel_rfl) (fun _ hI => hI.drop 99) ?_
          refine WH.yd (i := 0) (by kernel_rfl) (fun _ o v c a w _ h => (QuietPanic.blk (QuietPanic.then (QuietPanic.then (QuietPanic.blk (QuietPanic.then (QuietPanic.then QuietPanic.body)))))) c o.dst v a w h) rfl (Yd.move rfl) rfl ?_
          refine WH.yd (i := 1) (by kernel_rfl) (fun _ o v c a w _ h => (QuietPanic.blk (QuietPanic.then (QuietPanic.then (QuietPanic.blk (QuietPanic.then (QuietPanic.then QuietPanic.body)))))) c o.dst v a w h) rfl (Yd.move rfl) rfl ?_
          refine WH.yd (i := 2) (by kernel_rfl) (fun _ o v c a w _ h => (QuietPanic.blk (QuietPanic.then (QuietPanic.then (QuietPanic.blk (QuietPanic.then (QuietPanic.then QuietPanic.body)))))) c o.dst v a w h) rfl (Yd.move rfl) rfl ?_
          refine WH.yd (i := 3) (by kernel_rfl) (fun _ o v c a w _ h => (QuietPanic.blk (QuietPanic.then (QuietPanic.then (QuietPanic.blk (QuietPanic.then (QuietPanic.then QuietPanic.body)))))) c o.dst v a w h) rfl (Yd.move rfl) rfl ?_
          refine WH.yd (i := 4) (by kernel_rfl) (fun _ o v c a w _ h => (QuietPanic.blk (QuietPanic.then (QuietPanic.then (QuietPanic.blk (QuietPanic.then (QuietPanic.then QuietPanic.body)))))) c o.dst v a w h) rfl (Yd.subN rfl rfl (by (try dsimp only); omega) (by (try dsimp only); omega)) rfl ?_
          refine WH.yd (i := 5) (by kernel_rfl) (fun _ o v c a w _ h => (QuietPanic.blk (QuietPanic.then (QuietPanic.then (QuietPanic.blk (QuietPanic.then (QuietPanic.then QuietPanic.body)))))) c o.dst v a w h) rfl (Yd.move rfl) rfl ?_
          refine WH.yd (i := 6) (by kernel_rfl) (fun _ o v c a w _ h => (QuietPanic.blk (QuietPanic.then (QuietPanic.then (QuietPanic.blk (QuietPanic.then (QuietPanic.then QuietPanic.body)))))) c o.dst v a w h) rfl (Yd.move rfl) rfl ?_
          refine WH.yd (i := 7) (by kernel_rfl) (fun _ o v c a w _ h => (QuietPanic.blk (QuietPanic.then (QuietPanic.then (QuietPanic.blk (QuietPanic.then (QuietPanic.then QuietPanic.body)))))) c o.dst v a w h) rfl (Yd.subN rfl rfl (by (try dsimp only); omega) (by (try dsimp only); omega)) rfl ?_
          refine WH.yd (i := 8) (by kernel_rfl) (fun _ o v c a w _ h => (QuietPanic.blk (QuietPanic.then (QuietPanic.then (QuietPanic.blk (QuietPanic.then (QuietPanic.then QuietPanic.body)))))) c o.dst v a w h) rfl (Yd.indexS Try.underlying112 Try.sizeOf99 rfl rfl (by (try dsimp only); omega) (by (try dsimp only); omega) (by first | exact rfl)) rfl ?_
          refine WH.yd (i := 10) (by kernel_rfl) (fun _ o v c a w _ h => (QuietPanic.blk (QuietPanic.then (QuietPanic.then (QuietPanic.blk (QuietPanic.then (QuietPanic.then QuietPanic.body)))))) c o.dst v a w h) rfl (Yd.move rfl) rfl ?_
          refine WH.yd (i := 11) (by kernel_rfl) (fun _ o v c a w _ h => (QuietPanic.blk (QuietPanic.then (QuietPanic.then (QuietPanic.blk (QuietPanic.then (QuietPanic.then QuietPanic.body)))))) c o.dst v a w h) rfl (Yd.move rfl) rfl ?_
          refine WH.yd (i := 12) (by kernel_rfl) (fun _ o v c a w _ h => (QuietPanic.blk (QuietPanic.then (QuietPanic.then (QuietPanic.blk (QuietPanic.then (QuietPanic.then QuietPanic.body)))))) c o.dst v a w h) rfl (Yd.indexS Try.underlying112 Try.sizeOf99 rfl rfl (by (try dsimp only); omega) (by (try dsimp only); omega) (by first | exact rfl)) rfl ?_
          refine WH.two (i := 9) (j := 13) (by kernel_rfl) ?_ ?_
          · refine WHo.yd rfl (Yd.load1 Try.isAgg99 rfl (by first | exact (rd_data (k := 0) rfl (by (try dsimp only); omega)))) rfl ?_
            refine WH.one (i := 13) (by kernel_rfl) (WHo.yd rfl (Yd.load1 Try.isAgg99 rfl (by first | exact (rd_data (k := 0) rfl (by (try dsimp only); omega)))) rfl ?_)
            refine WH.yd (i := 14) (by kernel_rfl) (fun _ o v c a w _ h => (QuietPanic.blk (QuietPanic.then (QuietPanic.then (QuietPanic.blk (QuietPanic.then (QuietPanic.then QuietPanic.body)))))) c o.dst v a w h) rfl (Yd.indexS Try.underlying112 Try.sizeOf99 rfl rfl (by (try dsimp only); omega) (by (try dsimp only); omega) (by first | exact rfl)) rfl ?_
            refine WH.one (i := 15) (by kernel_rfl) (WHo.so rfl (SO.store 0 rfl Try.sizeOf99 rfl rfl rfl rfl (len_data _ _ (by (try dsimp only); omega)) (oneB_spec rfl)) rfl ?_)
            rintro _ _ _ ⟨rfl, rfl, rfl⟩
            refine ⟨(fun _ hI => hI.drop 99), ?_⟩
            refine WH.yd (i := 16) (by kernel_rfl) (fun _ o v c a w _ h => (QuietPanic.blk (QuietPanic.then (QuietPanic.then (QuietPanic.blk (QuietPanic.then (QuietPanic.then QuietPanic.body)))))) c o.dst v a w h) rfl (Yd.indexS Try.underlying112 Try.sizeOf99 rfl rfl (by (try dsimp only); omega) (by (try dsimp only); omega) (by first | exact rfl)) rfl ?_
            refine WH.one (i := 17) (by kernel_rfl) (WHo.so rfl (SO.store 0 rfl Try.sizeOf99 rfl rfl rfl rfl (st_two rest (by (try dsimp only); omega) (by (try dsimp only); omega)) (oneB_spec rfl)) rfl ?_)
            rintro _ _ _ ⟨rfl, rfl, rfl⟩
            refine ⟨(fun _ hI => hI.drop 99), ?_⟩
            refine WH.nil (by kernel_rfl) ?_
            refine WP.blkNormal ?_
            refine WP.thenC ?_
            refine WC.ofFr [(0, _), (14, _), (17, _)] ⟨rfl, rfl, rfl, trivial⟩ ?_
            refine WC.region ?_
            refine WL.yd (Yd.move rfl) rfl ?_
            refine WL.yd (Yd.subN rfl rfl (by (try dsimp only); omega) (by (try dsimp only); omega)) rfl ?_
            refine WL.yd (Yd.assign rfl) rfl ?_
            refine WL.nil ?_
            refine WP.again (⟨m1, k - 1, l2⟩ : Nat × Nat × List Nat) ⟨hw2, hok1.swp hsw, by simp only; omega⟩ (by simp only; omega) (fun aa ww h => ?_)
            show At _ [(0, .slice (some ⟨bd, 0, none⟩) n0 cap), (14, nt r9), (17, nt (k - 1))] D [(bd, .cells (List.toArray (l2.map ut ++ rest)) 99 (0, 0))] aa ww
            rw [← swp_mem rest hsw]
            exact at_fr h ⟨rfl, rfl, rfl, trivial⟩
          · refine WHo.yd rfl (Yd.load1 Try.isAgg99 rfl (by first | exact (rd_data (k := 0) rfl (by (try dsimp only); omega)))) rfl ?_
            refine WH.one (i := 9) (by kernel_rfl) (WHo.yd rfl (Yd.load1 Try.isAgg99 rfl (by first | exact (rd_data (k := 0) rfl (by (try dsimp only); omega)))) rfl ?_)
            refine WH.yd (i := 14) (by kernel_rfl) (fun _ o v c a w _ h => (QuietPanic.blk (QuietPanic.then (QuietPanic.then (QuietPanic.blk (QuietPanic.then (QuietPanic.then QuietPanic.body)))))) c o.dst v a w h) rfl (Yd.indexS Try.underlying112 Try.sizeOf99 rfl rfl (by (try dsimp only); omega) (by (try dsimp only); omega) (by first | exact rfl)) rfl ?_
            refine WH.one (i := 15) (by kernel_rfl) (WHo.so rfl (SO.store 0 rfl Try.sizeOf99 rfl rfl rfl rfl (len_data _ _ (by (try dsimp only); omega)) (oneB_spec rfl)) rfl ?_)
            rintro _ _ _ ⟨rfl, rfl, rfl⟩
            refine ⟨(fun _ hI => hI.drop 99), ?_⟩
            refine WH.yd (i := 16) (by kernel_rfl) (fun _ o v c a w _ h => (QuietPanic.blk (QuietPanic.then (QuietPanic.then (QuietPanic.blk (QuietPanic.then (QuietPanic.then QuietPanic.body)))))) c o.dst v a w h) rfl (Yd.indexS Try.underlying112 Try.sizeOf99 rfl rfl (by (try dsimp only); omega) (by (try dsimp only); omega) (by first | exact rfl)) rfl ?_
            refine WH.one (i := 17) (by kernel_rfl) (WHo.so rfl (SO.store 0 rfl Try.sizeOf99 rfl rfl rfl rfl (st_two rest (by (try dsimp only); omega) (by (try dsimp only); omega)) (oneB_spec rfl)) rfl ?_)
            rintro _ _ _ ⟨rfl, rfl, rfl⟩
            refine ⟨(fun _ hI => hI.drop 99), ?_⟩
            refine WH.nil (by kernel_rfl) ?_
            refine WP.blkNormal ?_
            refine WP.thenC ?_
            refine WC.ofFr [(0, _), (14, _), (17, _)] ⟨rfl, rfl, rfl, trivial⟩ ?_
            refine WC.region ?_
            refine WL.yd (Yd.move rfl) rfl ?_
            refine WL.yd (Yd.subN rfl rfl (by (try dsimp only); omega) (by (try dsimp only); omega)) rfl ?_
            refine WL.yd (Yd.assign rfl) rfl ?_
            refine WL.nil ?_
            refine WP.again (⟨m1, k - 1, l2⟩ : Nat × Nat × List Nat) ⟨hw2, hok1.swp hsw, by simp only; omega⟩ (by simp only; omega) (fun aa ww h => ?_)
            show At _ [(0, .slice (some ⟨bd, 0, none⟩) n0 cap), (14, nt r9), (17, nt (k - 1))] D [(bd, .cells (List.toArray (l2.map ut ++ rest)) 99 (0, 0))] aa ww
            rw [← swp_mem rest hsw]
            exact at_fr h ⟨rfl, rfl, rfl, trivial⟩
        · try simp only [zq1, zq2, zq3, zq4, zq5, zq6, zq7, zq8] at c110
          have hk8 : ¬ r9 < k := by omega
          cases whl_false hw4 (by simpa using hk8)
          refine WC.exit ?_
          refine WP.thenExit ?_
          refine WP.thenExit ?_
          refine WP.blkHit ?_
          refine WP.thenC ?_
          refine WC.ret ?_
          refine WP.thenRet ?_
          refine WP.ret0 rfl rfl Try.results115  (fun w1 hI => ⟨_, D, _, rfl, DExt.refl _ _, hI, fun _ h => h, rfl, rfl, rfl⟩)
    · try simp only [zq1, zq2, zq3, zq4, zq5, zq6, zq7, zq8] at c80
      have h80 : ¬ b - m = 1 := by omega
      obtain ⟨s0, r0, st, l1, l2, hs3, hh3, hst3, h6, h7, h8⟩ : ∃ s r st l1 l2, (if ((a + b) / 2) < m then (if b ≤ ((a + b) / 2 + m) then some (((a + b) / 2 + m) - b, ((a + b) / 2)) else none) else some (a, m)) = some (s, r) ∧
          halve (fun c => if c + 1 ≤ ((a + b) / 2 + m) then (lessAt l (((a + b) / 2 + m) - 1 - c) c).map (!·) else none) s r = some st ∧ st ≤ ((a + b) / 2 + m) ∧ (if st < m ∧ m < ((a + b) / 2 + m - st) then rotS st m ((a + b) / 2 + m - st) l else some l) = some l1 ∧ (if a < st ∧ st < ((a + b) / 2) then symM f a st ((a + b) / 2) l1 else some l1) = some l2 ∧ (if ((a + b) / 2) < ((a + b) / 2 + m - st) ∧ ((a + b) / 2 + m - st) < b then symM f ((a + b) / 2) ((a + b) / 2 + m - st) b l2 else some l2) = some l' := by
        rcases hw3 with h1 | h1 | h1
        · exact absurd h1.1 h28
        · exact absurd h1.2.1 h80
        · exact h1.2.2
      have hokA : Ok n0 l1 := by
        split at h6
        · exact rotS_ok hok h6
        · cases h6; exact hok
      have hokB : Ok n0 l2 := by
        split at h7
        · exact symM_ok _ _ _ _ _ _ hokA h7
        · cases h7; exact hokA
      have hsr : s0 ≤ 2000 ∧ r0 ≤ 2000 := by
        split at hs3
        · split at hs3
          · cases hs3; omega
          · cases hs3
        · cases hs3; omega
      obtain ⟨s9, hh9⟩ := halve_eq hh3
      have hln := hok.1
      refine WC.skip ?_
      refine WP.thenC ?_
      refine WC.seq ?_
      refine WC.ofFr [(0, _), (1, _), (2, _), (3, _), (4, _)] ⟨rfl, rfl, rfl, rfl, rfl, trivial⟩ ?_
      refine WC.region ?_
      refine WL.yd (Yd.move rfl) rfl ?_
      refine WL.yd (Yd.move rfl) rfl ?_
      refine WL.yd (Yd.addN rfl rfl (by (try dsimp only); omega)) rfl ?_
      refine WL.yd (Yd.convNU Try.underlying3 Try.underlying99 rfl (by (try dsimp only); omega)) rfl ?_
      refine WL.yd (Yd.half rfl rfl) rfl ?_
      refine WL.yd (Yd.convUN Try.underlying99 Try.underlying3 rfl (by (try dsimp only); omega)) rfl ?_
      refine WL.yd (Yd.assign rfl) rfl ?_
      refine WL.nil ?_
      refine WP.thenC ?_
      refine WC.seq ?_
      refine WC.ofFr [(18, _), (0, _), (1, _), (2, _), (3, _), (4, _)] ⟨rfl, rfl, rfl, rfl, rfl, rfl, trivial⟩ ?_
      refine WC.region ?_
      refine WL.yd (Yd.move rfl) rfl ?_
      refine WL.yd (Yd.move rfl) rfl ?_
      refine WL.yd (Yd.addN rfl rfl (by (try dsimp only); omega)) rfl ?_
      refine WL.yd (Yd.assign rfl) rfl ?_
      refine WL.nil ?_
      refine WP.thenC ?_
      refine WC.seq ?_
      refine WC.ofFr [(19, _), (18, _), (0, _), (1, _), (2, _), (3, _), (4, _)] ⟨rfl, rfl, rfl, rfl, rfl, rfl, rfl, trivial⟩ ?_
      refine WC.region ?_
      refine WL.yd (Yd.assign rfl) rfl ?_
      refine WL.yd (Yd.assign rfl) rfl ?_
      refine WL.nil ?_
      refine WP.thenC ?_
      refine WC.seqJ (fun _ : Unit => [(0, .slice (some ⟨bd, 0, none⟩) n0 cap), (1, nt a), (2, nt m), (3, nt b), (4, cmpV), (18, nt ((a + b) / 2)), (19, nt ((a + b) / 2 + m)), (20, nt s0), (21, nt r0)]) (fun _ => [(bd, datO l rest)]) (fun _ => D) (fun _ => True) ?_ ?_
      · rintro ⟨⟩ -
        refine WC.seq ?_
        refine WC.ofFr [(0, _), (1, _), (2, _), (3, _), (4, _), (18, _), (19, _), (20, _), (21, _)] ⟨rfl, rfl, rfl, rfl, rfl, rfl, rfl, rfl, rfl, trivial⟩ ?_
        refine WC.region ?_
        refine WL.yd (Yd.move rfl) rfl ?_
        refine WL.yd (Yd.subN rfl rfl (by (try dsimp only); omega) (by (try dsimp only); omega)) rfl ?_
        refine WL.yd (Yd.assign rfl) rfl ?_
        refine WL.nil ?_
        refine WP.thenC ?_
        refine WC.seq ?_
        refine WC.block ?_
        refine WC.loop (fun y : Nat × Nat × Nat => [(0, .slice (some ⟨bd, 0, none⟩) n0 cap), (1, nt a), (2, nt m), (3, nt b), (4, cmpV), (18, nt ((a + b) / 2)), (19, nt ((a + b) / 2 + m)), (22, nt (((a + b) / 2 + m) - 1)), (20, nt y.2.1), (21, nt y.2.2)]) (fun _ => [(bd, datO l rest)]) (fun _ => D) (fun y => whl (fun x : Nat × Nat => decide (x.1 < x.2)) (halfStep (fun c => if c + 1 ≤ ((a + b) / 2 + m) then (lessAt l (((a + b) / 2 + m) - 1 - c) c).map (!·) else none)) y.1 (y.2.1, y.2.2) = some (st, s9) ∧ 0 ≤ y.2.1 ∧ y.2.1 ≤ 3001 ∧ y.2.2 ≤ 3000) (fun y => y.1) (⟨F, s0, r0⟩ : Nat × Nat × Nat) ⟨hh9, by simp only; omega, by simp only; omega, by simp only; omega⟩ (fun a w h => at_fr h ⟨rfl, rfl, rfl, rfl, rfl, rfl, rfl, rfl, rfl, rfl, trivial⟩) ?_
        rintro ⟨k9, i, j⟩ ⟨hw1, hi1, hi2, hj1⟩
        dsimp only at hw1 hi1 hi2 hj1
        refine WC.seq ?_
        refine WC.seq ?_
        refine WC.ofFr [(0, _), (1, _), (2, _), (3, _), (4, _), (18, _), (19, _), (22, _), (20, _), (21, _)] ⟨rfl, rfl, rfl, rfl, rfl, rfl, rfl, rfl, rfl, rfl, trivial⟩ ?_
        refine WC.region ?_
        refine WL.yd (Yd.move rfl) rfl ?_
        refine WL.yd (Yd.move rfl) rfl ?_
        refine WL.yd (Yd.lss rfl rfl) rfl ?_
        refine WL.nil ?_
        refine WP.thenC ?_
        refine WC.cond rfl (fun c151 => ?_) (fun c151 => ?_)
        · try simp only [zq1, zq2, zq3, zq4, zq5, zq6, zq7, zq8] at c151
          have hij : i < j := by omega
          obtain ⟨k1, bq, rfl, hp, hT, hF⟩ := half_true hw1 hij
          have hc1 : (i + j) / 2 + 1 ≤ ((a + b) / 2 + m) := by
            apply Decidable.byContradiction; intro hh; simp only [if_neg hh] at hp; cases hp
          simp only [if_pos hc1] at hp
          obtain ⟨b0, hp, hbn⟩ := Option.map_eq_some_iff.1 hp
          obtain ⟨hx1, hx2, hx3, hx4, hbq⟩ := lessAt_inv hp
          refine WC.skip ?_
          refine WP.thenC ?_
          refine WC.block ?_
          refine WC.seq ?_
          refine WC.ofFr [(0, _), (1, _), (2, _), (3, _), (4, _), (18, _), (19, _), (22, _), (20, _), (21, _)] ⟨rfl, rfl, rfl, rfl, rfl, rfl, rfl, rfl, rfl, rfl, trivial⟩ ?_
          refine WC.region ?_
          refine WL.yd (Yd.move rfl) rfl ?_
          refine WL.yd (Yd.move rfl) rfl ?_
          refine WL.yd (Yd.addN rfl rfl (by (try dsimp only); omega)) rfl ?_
          refine WL.yd (Yd.convNU Try.underlying3 Try.underlying99 rfl (by (try dsimp only); omega)) rfl ?_
          refine WL.yd (Yd.half rfl rfl) rfl ?_
          refine WL.yd (Yd.convUN Try.underlying99 Try.underlying3 rfl (by (try dsimp only); omega)) rfl ?_
          refine WL.yd (Yd.assign rfl) rfl ?_
          refine WL.nil ?_
          refine WP.thenC ?_
          refine WC.seq ?_
          refine WC.ofFr [(23, _), (0, _), (1, _), (2, _), (3, _), (4, _), (18, _), (19, _), (22, _), (20, _), (21, _)] ⟨rfl, rfl, rfl, rfl, rfl, rfl, rfl, rfl, rfl, rfl, rfl, trivial⟩ ?_
          refine WC.tail 11 [0, 1, 2, 3, 4, 5, 6, 7, 8, 9, 10] rfl (by kernel_rfl) (by kernel_rfl)  ?_
          refine WQ.q rfl (Yd.qt (Yd.move rfl)) rfl ?_
          refine WQ.q rfl (Yd.qt (Yd.move rfl)) rfl ?_
          refine WQ.q rfl (Yd.qt (Yd.move rfl)) rfl ?_
          refine WQ.q rfl (Yd.qt (Yd.move rfl)) rfl ?_
          refine WQ.q rfl (Yd.qt (Yd.subN rfl rfl (by (try dsimp only); omega) (by (try dsimp only); omega))) rfl ?_
          refine WQ.q rfl (Yd.qt (Yd.indexS Try.underlying112 Try.sizeOf99 rfl rfl (by (try dsimp only); omega) (by (try dsimp only); omega) (by first | exact rfl))) rfl ?_
          refine WQ.q rfl (Yd.qt (Yd.load1 Try.isAgg99 rfl (by first | exact (rd_data (k := 0) rfl (by (try dsimp only); omega))))) rfl ?_
          refine WQ.q rfl (Yd.qt (Yd.move rfl)) rfl ?_
          refine WQ.q rfl (Yd.qt (Yd.move rfl)) rfl ?_
          refine WQ.q rfl (Yd.qt (Yd.indexS Try.underlying112 Try.sizeOf99 rfl rfl (by (try dsimp only); omega) (by (try dsimp only); omega) (by first | exact rfl))) rfl ?_
          refine WQ.q rfl (Yd.qt (Yd.load1 Try.isAgg99 rfl (by first | exact (rd_data (k := 0) rfl (by (try dsimp only); omega))))) rfl ?_
          refine WQ.tail ?_
          refine WL.so (SO.call (Enters.val Try.call106 rfl rfl) (fun w hI => cmp_g _ _ hx3 hx4 _)) rfl ?_
          rintro _ _ _ ⟨rfl, rfl, rfl⟩
          refine WL.yd (Yd.lss rfl rfl) rfl ?_
          refine WL.yd (Yd.not rfl) rfl ?_
          refine WL.nil ?_
          refine WP.thenC ?_
          refine WC.cond rfl (fun c171 => ?_) (fun c171 => ?_)
          · try simp only [zq1, zq2, zq3, zq4, zq5, zq6, zq7, zq8] at c171
            have hbq1 : bq = true := by rw [← hbn, hbq]; simp only [Bool.not_eq_true', decide_eq_false_iff_not]; omega
            refine WC.ofFr [(23, _), (0, _), (1, _), (2, _), (3, _), (4, _), (18, _), (19, _), (22, _), (20, _), (21, _)] ⟨rfl, rfl, rfl, rfl, rfl, rfl, rfl, rfl, rfl, rfl, rfl, trivial⟩ ?_
            refine WC.region ?_
            refine WL.yd (Yd.move rfl) rfl ?_
            refine WL.yd (Yd.addN rfl rfl (by (try dsimp only); omega)) rfl ?_
            refine WL.yd (Yd.assign rfl) rfl ?_
            refine WL.nil ?_
            refine WP.blkNormal ?_
            first
              | exact WP.again (⟨k1, (i + j) / 2 + 1, j⟩ : Nat × Nat × Nat) ⟨hT hbq1, by simp only; omega, by simp only; omega, by simp only; omega⟩ (by simp only; omega) (fun aa ww h => at_fr h ⟨rfl, rfl, rfl, rfl, rfl, rfl, rfl, rfl, rfl, rfl, trivial⟩)
              | exact WP.again (⟨k1, i, (i + j) / 2⟩ : Nat × Nat × Nat) ⟨hF hbq1, by simp only; omega, by simp only; omega, by simp only; omega⟩ (by simp only; omega) (fun aa ww h => at_fr h ⟨rfl, rfl, rfl, rfl, rfl, rfl, rfl, rfl, rfl, rfl, trivial⟩)
          · try simp only [zq1, zq2, zq3, zq4, zq5, zq6, zq7, zq8] at c171
            have hbq1 : bq = false := by rw [← hbn, hbq]; simp only [Bool.not_eq_false', decide_eq_true_eq]; omega
            refine WC.ofFr [(23, _), (0, _), (1, _), (2, _), (3, _), (4, _), (18, _), (19, _), (22, _), (20, _), (21, _)] ⟨rfl, rfl, rfl, rfl, rfl, rfl, rfl, rfl, rfl, rfl, rfl, trivial⟩ ?_
            refine WC.region ?_
            refine WL.yd (Yd.move rfl) rfl ?_
            refine WL.yd (Yd.assign rfl) rfl ?_
            refine WL.nil ?_
            refine WP.blkNormal ?_
            first
              | exact WP.again (⟨k1, (i + j) / 2 + 1, j⟩ : Nat × Nat × Nat) ⟨hT hbq1, by simp only; omega, by simp only; omega, by simp only; omega⟩ (by simp only; omega) (fun aa ww h => at_fr h ⟨rfl, rfl, rfl, rfl, rfl, rfl, rfl, rfl, rfl, rfl, trivial⟩)
              | exact WP.again (⟨k1, i, (i + j) / 2⟩ : Nat × Nat × Nat) ⟨hF hbq1, by simp only; omega, by simp only; omega, by simp only; omega⟩ (by simp only; omega) (fun aa ww h => at_fr h ⟨rfl, rfl, rfl, rfl, rfl, rfl, rfl, rfl, rfl, rfl, trivial⟩)
        · try simp only [zq1, zq2, zq3, zq4, zq5, zq6, zq7, zq8] at c151
          have hij : ¬ i < j := by omega
          obtain rfl : st = i := half_false hw1 hij
          refine WC.exit ?_
          refine WP.thenExit ?_
          refine WP.thenExit ?_
          refine WP.blkHit ?_
          refine WP.thenC ?_
          refine WC.seq ?_
          refine WC.ofFr [(0, _), (1, _), (2, _), (3, _), (4, _), (18, _), (19, _), (20, _)] ⟨rfl, rfl, rfl, rfl, rfl, rfl, rfl, rfl, trivial⟩ ?_
          refine WC.region ?_
          refine WL.yd (Yd.move rfl) rfl ?_
          refine WL.yd (Yd.move rfl) rfl ?_
          refine WL.yd (Yd.subN rfl rfl (by (try dsimp only); omega) (by (try dsimp only); omega)) rfl ?_
          refine WL.yd (Yd.assign rfl) rfl ?_
          refine WL.nil ?_
          refine WP.thenC ?_
          refine WC.seqJ (fun _ : Unit => [(0, .slice (some ⟨bd, 0, none⟩) n0 cap), (1, nt a), (3, nt b), (4, cmpV), (18, nt ((a + b) / 2)), (20, nt st), (24, nt ((a + b) / 2 + m - st))]) (fun _ => [(bd, datO l1 rest)]) (fun _ => D) (fun _ => True) ?_ ?_
          · rintro ⟨⟩ -
            refine WC.seqJ (fun _ : Unit => [(0, .slice (some ⟨bd, 0, none⟩) n0 cap), (3, nt b), (4, cmpV), (18, nt ((a + b) / 2)), (24, nt ((a + b) / 2 + m - st))]) (fun _ => [(bd, datO l2 rest)]) (fun _ => D) (fun _ => True) ?_ ?_
            · rintro ⟨⟩ -
              refine WC.seq ?_
              refine WC.ofFr [(0, _), (3, _), (4, _), (18, _), (24, _)] ⟨rfl, rfl, rfl, rfl, rfl, trivial⟩ ?_
              refine WC.region ?_
              refine WL.yd (Yd.move rfl) rfl ?_
              refine WL.yd (Yd.move rfl) rfl ?_
              refine WL.yd (Yd.lss rfl rfl) rfl ?_
              refine WL.yd (Yd.move rfl) rfl ?_
              refine WL.part 209 rfl (fun g209 => ?_) (fun g209 => ?_)
              · try simp only [zq1, zq2, zq3, zq4, zq5, zq6, zq7, zq8] at g209
                have h209 : ((a + b) / 2) < ((a + b) / 2 + m - st) := by omega
                refine WL.ydg rfl (Yd.move rfl) rfl ?_
                refine WL.ydg rfl (Yd.move rfl) rfl ?_
                refine WL.ydg rfl (Yd.lss rfl rfl) rfl ?_
                refine WL.yd (Yd.pickT rfl rfl) rfl ?_
                refine WL.nil ?_
                refine WP.thenC ?_
                refine WC.cond rfl (fun c213 => ?_) (fun c213 => ?_)
                · try simp only [zq1, zq2, zq3, zq4, zq5, zq6, zq7, zq8] at c213
                  have h213 : ((a + b) / 2 + m - st) < b := by omega
                  rw [if_pos ⟨h209, h213⟩] at h8
                  refine WC.ofFr [(0, _), (3, _), (4, _), (18, _), (24, _)] ⟨rfl, rfl, rfl, rfl, rfl, trivial⟩ ?_
                  refine WC.region ?_
                  refine WL.yd (Yd.move rfl) rfl ?_
                  refine WL.yd (Yd.move rfl) rfl ?_
                  refine WL.yd (Yd.move rfl) rfl ?_
                  refine WL.yd (Yd.move rfl) rfl ?_
                  refine WL.yd (Yd.move rfl) rfl ?_
                  refine WL.so (SO.alters (own := []) (hpc := [_]) (S1 := [bd]) (fun _ h => h) (fun h => h) (fun _ h => h) (fun _ h => h) (Enters.func Try.call115 rfl) (fun w1 hI => ih ((a + b) / 2) ((a + b) / 2 + m - st) b l2 l' w1 hokB h8 hI)) rfl ?_
                  rintro _ _ _ ⟨_, _, ⟨rfl, rfl, rfl⟩, rfl⟩
                  refine WL.nil ?_
                  refine WP.ret0 rfl rfl Try.results115  (fun w1 hI => ⟨_, D, _, rfl, DExt.refl _ _, hI, fun _ h => h, rfl, rfl, rfl⟩)
                · try simp only [zq1, zq2, zq3, zq4, zq5, zq6, zq7, zq8] at c213
                  have h213 : ¬ ((a + b) / 2 + m - st) < b := by omega
                  rw [if_neg (fun hh => h213 hh.2)] at h8
                  cases h8
                  refine WC.skip ?_
                  refine WP.ret0 rfl rfl Try.results115  (fun w1 hI => ⟨_, D, _, rfl, DExt.refl _ _, hI, fun _ h => h, rfl, rfl, rfl⟩)
              · try simp only [zq1, zq2, zq3, zq4, zq5, zq6, zq7, zq8] at g209
                have h209 : ¬ ((a + b) / 2) < ((a + b) / 2 + m - st) := by omega
                rw [if_neg (fun hh => h209 hh.1)] at h8
                cases h8
                refine WL.skip rfl rfl ?_
                refine WL.skip rfl rfl ?_
                refine WL.skip rfl rfl ?_
                refine WL.yd (Yd.pickF rfl rfl) rfl ?_
                refine WL.nil ?_
                refine WP.thenC ?_
                refine WC.condF rfl ?_
                refine WC.skip ?_
                refine WP.ret0 rfl rfl Try.results115  (fun w1 hI => ⟨_, D, _, rfl, DExt.refl _ _, hI, fun _ h => h, rfl, rfl, rfl⟩)
            · skip
              refine WC.seq ?_
              refine WC.ofFr [(0, _), (1, _), (3, _), (4, _), (18, _), (20, _), (24, _)] ⟨rfl, rfl, rfl, rfl, rfl, rfl, rfl, trivial⟩ ?_
              refine WC.region ?_
              refine WL.yd (Yd.move rfl) rfl ?_
              refine WL.yd (Yd.move rfl) rfl ?_
              refine WL.yd (Yd.lss rfl rfl) rfl ?_
              refine WL.yd (Yd.move rfl) rfl ?_
              refine WL.part 195 rfl (fun g195 => ?_) (fun g195 => ?_)
              · try simp only [zq1, zq2, zq3, zq4, zq5, zq6, zq7, zq8] at g195
                have h195 : a < st := by omega
                refine WL.ydg rfl (Yd.move rfl) rfl ?_
                refine WL.ydg rfl (Yd.move rfl) rfl ?_
                refine WL.ydg rfl (Yd.lss rfl rfl) rfl ?_
                refine WL.yd (Yd.pickT rfl rfl) rfl ?_
                refine WL.nil ?_
                refine WP.thenC ?_
                refine WC.cond rfl (fun c199 => ?_) (fun c199 => ?_)
                · try simp only [zq1, zq2, zq3, zq4, zq5, zq6, zq7, zq8] at c199
                  have h199 : st < ((a + b) / 2) := by omega
                  rw [if_pos ⟨h195, h199⟩] at h7
                  refine WC.ofFr [(0, _), (1, _), (3, _), (4, _), (18, _), (20, _), (24, _)] ⟨rfl, rfl, rfl, rfl, rfl, rfl, rfl, trivial⟩ ?_
                  refine WC.region ?_
                  refine WL.yd (Yd.move rfl) rfl ?_
                  refine WL.yd (Yd.move rfl) rfl ?_
                  refine WL.yd (Yd.move rfl) rfl ?_
                  refine WL.yd (Yd.move rfl) rfl ?_
                  refine WL.yd (Yd.move rfl) rfl ?_
                  refine WL.so (SO.alters (own := []) (hpc := [_]) (S1 := [bd]) (fun _ h => h) (fun h => h) (fun _ h => h) (fun _ h => h) (Enters.func Try.call115 rfl) (fun w1 hI => ih a st ((a + b) / 2) l1 l2 w1 hokA h7 hI)) rfl ?_
                  rintro _ _ _ ⟨_, _, ⟨rfl, rfl, rfl⟩, rfl⟩
                  refine WL.nil ?_
                  exact WP.join () trivial (fun aa ww h => at_fr h ⟨rfl, rfl, rfl, rfl, rfl, trivial⟩)
                · try simp only [zq1, zq2, zq3, zq4, zq5, zq6, zq7, zq8] at c199
                  have h199 : ¬ st < ((a + b) / 2) := by omega
                  rw [if_neg (fun hh => h199 hh.2)] at h7
                  cases h7
                  refine WC.skip ?_
                  exact WP.join () trivial (fun aa ww h => at_fr h ⟨rfl, rfl, rfl, rfl, rfl, trivial⟩)
              · try simp only [zq1, zq2, zq3, zq4, zq5, zq6, zq7, zq8] at g195
                have h195 : ¬ a < st := by omega
                rw [if_neg (fun hh => h195 hh.1)] at h7
                cases h7
                refine WL.skip rfl rfl ?_
                refine WL.skip rfl rfl ?_
                refine WL.skip rfl rfl ?_
                refine WL.yd (Yd.pickF rfl rfl) rfl ?_
                refine WL.nil ?_
                refine WP.thenC ?_
                refine WC.condF rfl ?_
                refine WC.skip ?_
                exact WP.join () trivial (fun aa ww h => at_fr h ⟨rfl, rfl, rfl, rfl, rfl, trivial⟩)
          · skip
            refine WC.seq ?_
            refine WC.ofFr [(24, _), (0, _), (1, _), (2, _), (3, _), (4, _), (18, _), (20, _)] ⟨rfl, rfl, rfl, rfl, rfl, rfl, rfl, rfl, trivial⟩ ?_
            refine WC.region ?_
            refine WL.yd (Yd.move rfl) rfl ?_
            refine WL.yd (Yd.move rfl) rfl ?_
            refine WL.yd (Yd.lss rfl rfl) rfl ?_
            refine WL.yd (Yd.move rfl) rfl ?_
            refine WL.part 181 rfl (fun g181 => ?_) (fun g181 => ?_)
            · try simp only [zq1, zq2, zq3, zq4, zq5, zq6, zq7, zq8] at g181
              have h181 : st < m := by omega
              refine WL.ydg rfl (Yd.move rfl) rfl ?_
              refine WL.ydg rfl (Yd.move rfl) rfl ?_
              refine WL.ydg rfl (Yd.lss rfl rfl) rfl ?_
              refine WL.yd (Yd.pickT rfl rfl) rfl ?_
              refine WL.nil ?_
              refine WP.thenC ?_
              refine WC.cond rfl (fun c185 => ?_) (fun c185 => ?_)
              · try simp only [zq1, zq2, zq3, zq4, zq5, zq6, zq7, zq8] at c185
                have h185 : m < ((a + b) / 2 + m - st) := by omega
                rw [if_pos ⟨h181, h185⟩] at h6
                refine WC.ofFr [(24, _), (0, _), (1, _), (2, _), (3, _), (4, _), (18, _), (20, _)] ⟨rfl, rfl, rfl, rfl, rfl, rfl, rfl, rfl, trivial⟩ ?_
                refine WC.region ?_
                refine WL.yd (Yd.move rfl) rfl ?_
                refine WL.yd (Yd.move rfl) rfl ?_
                refine WL.yd (Yd.move rfl) rfl ?_
                refine WL.yd (Yd.move rfl) rfl ?_
                refine WL.yd (Yd.move rfl) rfl ?_
                refine WL.so (SO.alters (own := []) (hpc := [_]) (S1 := [bd]) (fun _ h => h) (fun h => h) (fun _ h => h) (fun _ h => h) (Enters.func Try.call118 rfl) (fun w1 hI => rot_g l l1 rest bd cap n0 D w1 hok.1 hl st m ((a + b) / 2 + m - st) cmpV (by omega) hok.2 h6 hI)) rfl ?_
                rintro _ _ _ ⟨_, _, ⟨rfl, rfl, rfl⟩, rfl⟩
                refine WL.nil ?_
                exact WP.join () trivial (fun aa ww h => at_fr h ⟨rfl, rfl, rfl, rfl, rfl, rfl, rfl, trivial⟩)
              · try simp only [zq1, zq2, zq3, zq4, zq5, zq6, zq7, zq8] at c185
                have h185 : ¬ m < ((a + b) / 2 + m - st) := by omega
                rw [if_neg (fun hh => h185 hh.2)] at h6
                cases h6
                refine WC.skip ?_
                exact WP.join () trivial (fun aa ww h => at_fr h ⟨rfl, rfl, rfl, rfl, rfl, rfl, rfl, trivial⟩)
            · try simp only [zq1, zq2, zq3, zq4, zq5, zq6, zq7, zq8] at g181
              have h181 : ¬ st < m := by omega
              rw [if_neg (fun hh => h181 hh.1)] at h6
              cases h6
              refine WL.skip rfl rfl ?_
              refine WL.skip rfl rfl ?_
              refine WL.skip rfl rfl ?_
              refine WL.yd (Yd.pickF rfl rfl) rfl ?_
              refine WL.nil ?_
              refine WP.thenC ?_
              refine WC.condF rfl ?_
              refine WC.skip ?_
              exact WP.join () trivial (fun aa ww h => at_fr h ⟨rfl, rfl, rfl, rfl, rfl, rfl, rfl, trivial⟩)
      · skip
        refine WC.seq ?_
        refine WC.ofFr [(21, _), (20, _), (19, _), (18, _), (0, _), (1, _), (2, _), (3, _), (4, _)] ⟨rfl, rfl, rfl, rfl, rfl, rfl, rfl, rfl, rfl, trivial⟩ ?_
        refine WC.region ?_
        refine WL.yd (Yd.move rfl) rfl ?_
        refine WL.yd (Yd.move rfl) rfl ?_
        refine WL.yd (Yd.gtr rfl rfl) rfl ?_
        refine WL.nil ?_
        refine WP.thenC ?_
        refine WC.cond rfl (fun c140 => ?_) (fun c140 => ?_)
        · try simp only [zq1, zq2, zq3, zq4, zq5, zq6, zq7, zq8] at c140
          have h140 : ((a + b) / 2) < m := by omega
          rw [if_pos h140] at hs3
          have hbn : b ≤ ((a + b) / 2 + m) := by
            apply Decidable.byContradiction; intro hh; rw [if_neg hh] at hs3; cases hs3
          rw [if_pos hbn] at hs3
          cases hs3
          refine WC.seq ?_
          refine WC.ofFr [(21, _), (20, _), (19, _), (18, _), (0, _), (1, _), (2, _), (3, _), (4, _)] ⟨rfl, rfl, rfl, rfl, rfl, rfl, rfl, rfl, rfl, trivial⟩ ?_
          refine WC.region ?_
          refine WL.yd (Yd.move rfl) rfl ?_
          refine WL.yd (Yd.move rfl) rfl ?_
          refine WL.yd (Yd.subN rfl rfl (by (try dsimp only); omega) (by (try dsimp only); omega)) rfl ?_
          refine WL.yd (Yd.assign rfl) rfl ?_
          refine WL.nil ?_
          refine WP.thenC ?_
          refine WC.ofFr [(20, _), (21, _), (19, _), (18, _), (0, _), (1, _), (2, _), (3, _), (4, _)] ⟨rfl, rfl, rfl, rfl, rfl, rfl, rfl, rfl, rfl, trivial⟩ ?_
          refine WC.region ?_
          refine WL.yd (Yd.move rfl) rfl ?_
          refine WL.yd (Yd.assign rfl) rfl ?_
          refine WL.nil ?_
          exact WP.join () trivial (fun aa ww h => at_fr h ⟨rfl, rfl, rfl, rfl, rfl, rfl, rfl, rfl, rfl, trivial⟩)
        · try simp only [zq1, zq2, zq3, zq4, zq5, zq6, zq7, zq8] at c140
          have h140 : ¬ ((a + b) / 2) < m := by omega
          rw [if_neg h140] at hs3
          cases hs3
          refine WC.seq ?_
          refine WC.ofFr [(21, _), (20, _), (19, _), (18, _), (0, _), (1, _), (2, _), (3, _), (4, _)] ⟨rfl, rfl, rfl, rfl, rfl, rfl, rfl, rfl, rfl, trivial⟩ ?_
          refine WC.region ?_
          refine WL.yd (Yd.move rfl) rfl ?_
          refine WL.yd (Yd.assign rfl) rfl ?_
          refine WL.nil ?_
          refine WP.thenC ?_
          refine WC.ofFr [(20, _), (21, _), (19, _), (18, _), (0, _), (1, _), (2, _), (3, _), (4, _)] ⟨rfl, rfl, rfl, rfl, rfl, rfl, rfl, rfl, rfl, trivial⟩ ?_
          refine WC.region ?_
          refine WL.yd (Yd.move rfl) rfl ?_
          refine WL.yd (Yd.assign rfl) rfl ?_
          refine WL.nil ?_
          exact WP.join () trivial (fun aa ww h => at_fr h ⟨rfl, rfl, rfl, rfl, rfl, rfl, rfl, rfl, rfl, trivial⟩)

end Go.Proofs.Ytkhmmefgllbobaa
namespace Go.Proofs.Ytkhmmefgllbobaa
open Go.W Go.Po

theorem sym_g (rest : List Value) (bd cap n0 : Nat) (D : Imm) (hl : n0 ≤ 256) : ∀ (f : Nat) (a m b : Nat) (l l' : List Nat) (w : World), Ok n0 l → symM f a m b l = some l' → Inv D [(bd, datO l rest)] [bd] w w → Alters Try.prog 115 [.slice (some ⟨bd, 0, none⟩) n0 cap, nt a, nt m, nt b, cmpV] w D [bd] (fun v D' hpc' => v = .tuple #[] ∧ D = D' ∧ hpc' = [(bd, datO l' rest)]) := by
  intro f
  induction f with
  | zero => intro a m b l l' w _ h; simp [symM] at h
  | succ f ih => intro a m b l l' w hok h hI; exact sym_step f rest bd cap n0 D hl ih a m b l l' w hok h hI

theorem mulN {P : Program} {x : Cx} {fr : Fr} {D : Imm} {hp : Hp} {ty t t' : TypeId} {o p : Operand} {i j : Nat} (h : i * j ≤ 2 ^ 60) (ho : opv fr o = some (nt i)) (hp' : opv fr p = some (nt j)) : Yd P x fr D hp (.binOp .mul t o p t') ty (nt (i * j)) := by
  have e : ((i * j : Nat) : Int) = (i : Int) * (j : Int) := by simp
  have := Yd.mul (P := P) (x := x) (D := D) (hp := hp) (ty := ty) (t := t) (t' := t') ho hp' (wr64 (by rw [← e]; omega))
  rw [← e] at this
  exact this
def blkStep (x : Nat × List Nat) : Option (Nat × List Nat) := (insS x.1 (x.1 + 20) x.2).map fun y => (x.1 + 20, y)
def mrgStep (s : Nat) (x : Nat × List Nat) : Option (Nat × List Nat) := (symM 12 x.1 (x.1 + s) (x.1 + 2 * s) x.2).map fun y => (x.1 + 2 * s, y)
theorem blkS_eq {l l' : List Nat} (h : blkS l = some l') : ∃ a l1, whl (fun x : Nat × List Nat => decide (x.1 + 20 ≤ l.length)) blkStep F (0, l) = some (a, l1) ∧ insS a l.length l1 = some l' := by
  obtain ⟨⟨a, l1⟩, h1, h2⟩ := Option.bind_eq_some_iff.1 h
  exact ⟨a, l1, h1, h2⟩
theorem mrgS_eq {s : Nat} {l l' : List Nat} (h : mrgS s l = some l') : ∃ a l1, whl (fun x : Nat × List Nat => decide (x.1 + 2 * s ≤ l.length)) (mrgStep s) F (0, l) = some (a, l1) ∧ (if a + s < l.length then symM 12 a (a + s) l.length l1 else some l1) = some l' := by
  obtain ⟨⟨a, l1⟩, h1, h2⟩ := Option.bind_eq_some_iff.1 h
  exact ⟨a, l1, h1, h2⟩
theorem sortS_eq {l l' : List Nat} (h : sortS l = some l') : ∃ l1 s, blkS l = some l1 ∧ whl (fun x : Nat × List Nat => decide (x.1 < x.2.length)) (fun x => (mrgS x.1 x.2).map fun y => (2 * x.1, y)) F (20, l1) = some (s, l') := by
  obtain ⟨l1, h1, h2⟩ := Option.bind_eq_some_iff.1 h
  obtain ⟨⟨s, l2⟩, h3, h4⟩ := Option.map_eq_some_iff.1 h2
  subst h4
  exact ⟨l1, s, h1, h3⟩
theorem blk_ok {n : Nat} {x y : Nat × List Nat} (hx : Ok n x.2) (h : blkStep x = some y) : Ok n y.2 := by
  obtain ⟨z, h1, h2⟩ := Option.map_eq_some_iff.1 h
  subst h2; exact insS_ok hx h1
theorem mrg_ok {n s : Nat} {x y : Nat × List Nat} (hx : Ok n x.2) (h : mrgStep s x = some y) : Ok n y.2 := by
  obtain ⟨z, h1, h2⟩ := Option.map_eq_some_iff.1 h
  subst h2; exact symM_ok _ _ _ _ _ _ hx h1
theorem blkS_ok {n : Nat} {l l' : List Nat} (hx : Ok n l) (h : blkS l = some l') : Ok n l' := by
  obtain ⟨a, l1, h1, h2⟩ := blkS_eq h
  exact insS_ok (whl_inv (fun z : Nat × List Nat => Ok n z.2) (fun u v hu hv => blk_ok hu hv) _ _ _ (show Ok n ((0, l) : Nat × List Nat).2 from hx) h1) h2
theorem mrgS_ok {n s : Nat} {l l' : List Nat} (hx : Ok n l) (h : mrgS s l = some l') : Ok n l' := by
  obtain ⟨a, l1, h1, h2⟩ := mrgS_eq h
  have hk := whl_inv (fun z : Nat × List Nat => Ok n z.2) (fun u v hu hv => mrg_ok hu hv) _ _ _ (show Ok n ((0, l) : Nat × List Nat).2 from hx) h1
  split at h2
  · exact symM_ok _ _ _ _ _ _ hk h2
  · cases h2; exact hk
theorem sortS_ok {n : Nat} {l l' : List Nat} (hx : Ok n l) (h : sortS l = some l') : Ok n l' := by
  obtain ⟨l1, s, h1, h2⟩ := sortS_eq h
  exact whl_inv (fun z : Nat × List Nat => Ok n z.2) (fun u v hu hv => by
    obtain ⟨y, h3, h4⟩ := Option.map_eq_some_iff.1 hv
    subst h4; exact mrgS_ok hu h3) _ _ _ (show Ok n ((20, l1) : Nat × List Nat).2 from blkS_ok hx h1) h2

set_option maxRecDepth 100000 in
set_option maxHeartbeats 1000000 in
theorem stab_g (l l' : List Nat) (rest : List Value) (bd cap n0 : Nat) (D : Imm) (w : World) (hok : Ok n0 l) (hl : n0 ≤ 256) (h : sortS l = some l') (hI0 : Inv D [(bd, datO l rest)] [bd] w w) : Alters Try.prog 112 [.slice (some ⟨bd, 0, none⟩) n0 cap, nt n0, cmpV] w D [bd] (fun v D' hpc' => v = .tuple #[] ∧ D = D' ∧ hpc' = [(bd, datO l' rest)]) := by
  unfold Alters
  obtain ⟨la, sl, hblk, hsl⟩ := sortS_eq h
  obtain ⟨ab, lb, hbw, hin9⟩ := blkS_eq hblk
  rw [hok.1] at hin9
  have hoka := blkS_ok hok hblk
  have hokb : Ok n0 lb := whl_inv (fun z : Nat × List Nat => Ok n0 z.2) (fun u v hu hv => blk_ok hu hv) _ _ _ (show Ok n0 ((0, l) : Nat × List Nat).2 from hok) hbw
  refine enter Try.func112 rfl 63 Try.ntmps112 (Nat.le_of_ble_eq_true rfl) hI0 ?_
  refine WC.seq ?_
  refine WC.ofFr [(0, _), (1, _), (2, _)] ⟨rfl, rfl, rfl, trivial⟩ ?_
  refine WC.region ?_
  refine WL.yd (Yd.assign rfl) rfl ?_
  refine WL.nil ?_
  refine WP.thenC ?_
  refine WC.seq ?_
  refine WC.ofFr [(6, _), (0, _), (1, _), (2, _)] ⟨rfl, rfl, rfl, rfl, trivial⟩ ?_
  refine WC.region ?_
  refine WL.yd (Yd.move rfl) rfl ?_
  refine WL.yd (Yd.assign rfl) rfl ?_
  refine WL.yd (Yd.assign rfl) rfl ?_
  refine WL.nil ?_
  refine WP.thenC ?_
  refine WC.seq ?_
  refine WC.block ?_
  refine WC.loop (fun y : Nat × Nat × List Nat => [(0, .slice (some ⟨bd, 0, none⟩) n0 cap), (1, nt n0), (2, cmpV), (6, nt 20), (7, nt y.2.1), (8, nt (y.2.1 + 20))]) (fun y => [(bd, datO y.2.2 rest)]) (fun _ => D) (fun y => whl (fun x : Nat × List Nat => decide (x.1 + 20 ≤ l.length)) blkStep y.1 y.2 = some (ab, lb) ∧ Ok n0 y.2.2 ∧ y.2.1 ≤ n0) (fun y => y.1) (⟨F, 0, l⟩ : Nat × Nat × List Nat) ⟨hbw, hok, by simp only; omega⟩ (fun a w h => at_fr h ⟨rfl, rfl, rfl, rfl, rfl, rfl, trivial⟩) ?_
  rintro ⟨m, a, l1⟩ ⟨hw1, hok1, ha1⟩
  dsimp only at hw1 hok1 ha1
  refine WC.seq ?_
  refine WC.seq ?_
  refine WC.ofFr [(0, _), (1, _), (2, _), (6, _), (7, _), (8, _)] ⟨rfl, rfl, rfl, rfl, rfl, rfl, trivial⟩ ?_
  refine WC.region ?_
  refine WL.yd (Yd.move rfl) rfl ?_
  refine WL.yd (Yd.move rfl) rfl ?_
  refine WL.yd (Yd.leq rfl rfl) rfl ?_
  refine WL.nil ?_
  refine WP.thenC ?_
  refine WC.cond rfl (fun c13 => ?_) (fun c13 => ?_)
  · try simp only [zq1, zq2, zq3, zq4, zq5, zq6, zq7, zq8] at c13
    have hc2 : a + 20 ≤ n0 := by omega
    obtain ⟨m1, ⟨a2, l2⟩, rfl, hst, hw2⟩ := whl_true hw1 (by simpa [hok.1] using hc2)
    have hok2 := blk_ok (x := (a, l1)) hok1 hst
    obtain ⟨l2, hsw, hst⟩ := Option.map_eq_some_iff.1 hst
    cases hst
    dsimp only at hsw hw2 hok2
    refine WC.skip ?_
    refine WP.thenC ?_
    refine WC.block ?_
    refine WC.seq ?_
    refine WC.ofFr [(0, _), (1, _), (2, _), (6, _), (7, _), (8, _)] ⟨rfl, rfl, rfl, rfl, rfl, rfl, trivial⟩ ?_
    refine WC.region ?_
    refine WL.yd (Yd.move rfl) rfl ?_
    refine WL.yd (Yd.move rfl) rfl ?_
    refine WL.yd (Yd.move rfl) rfl ?_
    refine WL.yd (Yd.move rfl) rfl ?_
    refine WL.so (SO.alters (own := []) (hpc := [_]) (S1 := [bd]) (fun _ h => h) (fun h => h) (fun _ h => h) (fun _ h => h) (Enters.func Try.call114 rfl) (fun w1 hI => ins_g l1 l2 rest bd cap n0 D w1 hok1.1 (by omega) a (a + 20) ⟨by omega, by rw [hok1.1]; omega⟩ hok1.2 hsw hI)) rfl ?_
    rintro _ _ _ ⟨_, _, ⟨rfl, rfl, rfl⟩, rfl⟩
    refine WL.nil ?_
    refine WP.thenC ?_
    refine WC.seq ?_
    refine WC.ofFr [(0, _), (1, _), (2, _), (6, _), (7, _), (8, _)] ⟨rfl, rfl, rfl, rfl, rfl, rfl, trivial⟩ ?_
    refine WC.region ?_
    refine WL.yd (Yd.move rfl) rfl ?_
    refine WL.yd (Yd.assign rfl) rfl ?_
    refine WL.nil ?_
    refine WP.thenC ?_
    refine WC.ofFr [(7, _), (0, _), (1, _), (2, _), (6, _), (8, _)] ⟨rfl, rfl, rfl, rfl, rfl, rfl, trivial⟩ ?_
    refine WC.region ?_
    refine WL.yd (Yd.move rfl) rfl ?_
    refine WL.yd (Yd.move rfl) rfl ?_
    refine WL.yd (Yd.addN rfl rfl (by (try dsimp only); omega)) rfl ?_
    refine WL.yd (Yd.assign rfl) rfl ?_
    refine WL.nil ?_
    refine WP.blkNormal ?_
    exact WP.again (⟨m1, a + 20, l2⟩ : Nat × Nat × List Nat) ⟨hw2, hok2, by simp only; omega⟩ (by simp only; omega) (fun aa ww h => at_fr h ⟨rfl, rfl, rfl, rfl, rfl, rfl, trivial⟩)
  · try simp only [zq1, zq2, zq3, zq4, zq5, zq6, zq7, zq8] at c13
    have hc2 : ¬ a + 20 ≤ n0 := by omega
    have he := whl_false hw1 (by simpa [hok.1] using hc2)
    cases he
    refine WC.exit ?_
    refine WP.thenExit ?_
    refine WP.thenExit ?_
    refine WP.blkHit ?_
    refine WP.thenC ?_
    refine WC.seq ?_
    refine WC.ofFr [(0, _), (1, _), (2, _), (6, _), (7, _), (8, _)] ⟨rfl, rfl, rfl, rfl, rfl, rfl, trivial⟩ ?_
    refine WC.region ?_
    refine WL.yd (Yd.move rfl) rfl ?_
    refine WL.yd (Yd.move rfl) rfl ?_
    refine WL.yd (Yd.move rfl) rfl ?_
    refine WL.yd (Yd.move rfl) rfl ?_
    refine WL.so (SO.alters (own := []) (hpc := [_]) (S1 := [bd]) (fun _ h => h) (fun h => h) (fun _ h => h) (fun _ h => h) (Enters.func Try.call114 rfl) (fun w1 hI => ins_g lb la rest bd cap n0 D w1 hokb.1 (by omega) ab n0 ⟨by omega, by rw [hokb.1]; exact Nat.le_refl _⟩ hokb.2 hin9 hI)) rfl ?_
    rintro _ _ _ ⟨_, _, ⟨rfl, rfl, rfl⟩, rfl⟩
    refine WL.nil ?_
    refine WP.thenC ?_
    refine WC.block ?_
    refine WC.loop (fun y : Nat × Nat × List Nat => [(0, .slice (some ⟨bd, 0, none⟩) n0 cap), (1, nt n0), (2, cmpV), (6, nt y.2.1)]) (fun y => [(bd, datO y.2.2 rest)]) (fun _ => D) (fun y => whl (fun x : Nat × List Nat => decide (x.1 < x.2.length)) (fun x => (mrgS x.1 x.2).map fun y => (2 * x.1, y)) y.1 y.2 = some (sl, l') ∧ Ok n0 y.2.2 ∧ y.2.1 ≤ 1000) (fun y => y.1) (⟨F, 20, la⟩ : Nat × Nat × List Nat) ⟨hsl, hoka, by simp only; omega⟩ (fun a w h => at_fr h ⟨rfl, rfl, rfl, rfl, trivial⟩) ?_
    rintro ⟨m, s, l5⟩ ⟨hw5, hok5, hs5⟩
    dsimp only at hw5 hok5 hs5
    refine WC.seq ?_
    refine WC.seq ?_
    refine WC.ofFr [(0, _), (1, _), (2, _), (6, _)] ⟨rfl, rfl, rfl, rfl, trivial⟩ ?_
    refine WC.region ?_
    refine WL.yd (Yd.move rfl) rfl ?_
    refine WL.yd (Yd.move rfl) rfl ?_
    refine WL.yd (Yd.lss rfl rfl) rfl ?_
    refine WL.nil ?_
    refine WP.thenC ?_
    refine WC.cond rfl (fun c30 => ?_) (fun c30 => ?_)
    · try simp only [zq1, zq2, zq3, zq4, zq5, zq6, zq7, zq8] at c30
      have hc7 : s < n0 := by omega
      obtain ⟨m5, ⟨s2, l2⟩, rfl, hst, hw6⟩ := whl_true hw5 (by simpa [hok5.1] using hc7)
      obtain ⟨l2, hmg, hst⟩ := Option.map_eq_some_iff.1 hst
      cases hst
      dsimp only at hmg hw6
      have hok6 := mrgS_ok hok5 hmg
      obtain ⟨am, lm, hw8, hif9⟩ := mrgS_eq hmg
      rw [hok5.1] at hw8 hif9
      have hokm : Ok n0 lm := whl_inv (fun z : Nat × List Nat => Ok n0 z.2) (fun u v hu hv => mrg_ok hu hv) _ _ _ (show Ok n0 ((0, l5) : Nat × List Nat).2 from hok5) hw8
      refine WC.skip ?_
      refine WP.thenC ?_
      refine WC.block ?_
      refine WC.seq ?_
      refine WC.ofFr [(0, _), (1, _), (2, _), (6, _)] ⟨rfl, rfl, rfl, rfl, trivial⟩ ?_
      refine WC.region ?_
      refine WL.yd (Yd.move rfl) rfl ?_
      refine WL.yd (mulN (i := 2) (j := s) (by omega) rfl rfl) rfl ?_
      refine WL.yd (Yd.assign rfl) rfl ?_
      refine WL.yd (Yd.assign rfl) rfl ?_
      refine WL.nil ?_
      refine WP.thenC ?_
      refine WC.seq ?_
      refine WC.block ?_
      refine WC.loop (fun y : Nat × Nat × List Nat => [(0, .slice (some ⟨bd, 0, none⟩) n0 cap), (1, nt n0), (2, cmpV), (6, nt s), (7, nt y.2.1), (8, nt (y.2.1 + 2 * s))]) (fun y => [(bd, datO y.2.2 rest)]) (fun _ => D) (fun y => whl (fun x : Nat × List Nat => decide (x.1 + 2 * s ≤ n0)) (mrgStep s) y.1 y.2 = some (am, lm) ∧ Ok n0 y.2.2 ∧ y.2.1 ≤ n0) (fun y => y.1) (⟨F, 0, l5⟩ : Nat × Nat × List Nat) ⟨hw8, hok5, by simp only; omega⟩ (fun a w h => ?_) ?_
      · dsimp only; rw [Nat.zero_add]; exact at_fr h ⟨rfl, rfl, rfl, rfl, rfl, rfl, trivial⟩
      rintro ⟨m, a, l3⟩ ⟨hw3, hok3, ha3⟩
      dsimp only at hw3 hok3 ha3
      refine WC.seq ?_
      refine WC.seq ?_
      refine WC.ofFr [(0, _), (1, _), (2, _), (6, _), (7, _), (8, _)] ⟨rfl, rfl, rfl, rfl, rfl, rfl, trivial⟩ ?_
      refine WC.region ?_
      refine WL.yd (Yd.move rfl) rfl ?_
      refine WL.yd (Yd.move rfl) rfl ?_
      refine WL.yd (Yd.leq rfl rfl) rfl ?_
      refine WL.nil ?_
      refine WP.thenC ?_
      refine WC.cond rfl (fun c35 => ?_) (fun c35 => ?_)
      · try simp only [zq1, zq2, zq3, zq4, zq5, zq6, zq7, zq8] at c35
        have hc9 : a + 2 * s ≤ n0 := by omega
        obtain ⟨m3, ⟨a4, l4⟩, rfl, hst, hw4⟩ := whl_true hw3 (by simpa using hc9)
        have hok4 := mrg_ok (x := (a, l3)) hok3 hst
        obtain ⟨l4, hsw3, hst⟩ := Option.map_eq_some_iff.1 hst
        cases hst
        dsimp only at hsw3 hw4 hok4
        refine WC.skip ?_
        refine WP.thenC ?_
        refine WC.block ?_
        refine WC.seq ?_
        refine WC.ofFr [(0, _), (1, _), (2, _), (6, _), (7, _), (8, _)] ⟨rfl, rfl, rfl, rfl, rfl, rfl, trivial⟩ ?_
        refine WC.region ?_
        refine WL.yd (Yd.move rfl) rfl ?_
        refine WL.yd (Yd.move rfl) rfl ?_
        refine WL.yd (Yd.move rfl) rfl ?_
        refine WL.yd (Yd.move rfl) rfl ?_
        refine WL.yd (Yd.addN rfl rfl (by (try dsimp only); omega)) rfl ?_
        refine WL.yd (Yd.move rfl) rfl ?_
        refine WL.yd (Yd.move rfl) rfl ?_
        refine WL.so (SO.alters (own := []) (hpc := [_]) (S1 := [bd]) (fun _ h => h) (fun h => h) (fun _ h => h) (fun _ h => h) (Enters.func Try.call115 rfl) (fun w1 hI => sym_g rest bd cap n0 D (by omega) 12 a (a + s) (a + 2 * s) l3 l4 w1 hok3 hsw3 hI)) rfl ?_
        rintro _ _ _ ⟨_, _, ⟨rfl, rfl, rfl⟩, rfl⟩
        refine WL.nil ?_
        refine WP.thenC ?_
        refine WC.seq ?_
        refine WC.ofFr [(0, _), (1, _), (2, _), (6, _), (7, _), (8, _)] ⟨rfl, rfl, rfl, rfl, rfl, rfl, trivial⟩ ?_
        refine WC.region ?_
        refine WL.yd (Yd.move rfl) rfl ?_
        refine WL.yd (Yd.assign rfl) rfl ?_
        refine WL.nil ?_
        refine WP.thenC ?_
        refine WC.ofFr [(7, _), (0, _), (1, _), (2, _), (6, _), (8, _)] ⟨rfl, rfl, rfl, rfl, rfl, rfl, trivial⟩ ?_
        refine WC.region ?_
        refine WL.yd (Yd.move rfl) rfl ?_
        refine WL.yd (Yd.move rfl) rfl ?_
        refine WL.yd (mulN (i := 2) (j := s) (by omega) rfl rfl) rfl ?_
        refine WL.yd (Yd.addN rfl rfl (by (try dsimp only); omega)) rfl ?_
        refine WL.yd (Yd.assign rfl) rfl ?_
        refine WL.nil ?_
        refine WP.blkNormal ?_
        exact WP.again (⟨m3, a + 2 * s, l4⟩ : Nat × Nat × List Nat) ⟨hw4, hok4, by simp only; omega⟩ (by simp only; omega) (fun aa ww h => at_fr h ⟨rfl, rfl, rfl, rfl, rfl, rfl, trivial⟩)
      · try simp only [zq1, zq2, zq3, zq4, zq5, zq6, zq7, zq8] at c35
        have hc9 : ¬ a + 2 * s ≤ n0 := by omega
        have he := whl_false hw3 (by simpa using hc9)
        cases he
        refine WC.exit ?_
        refine WP.thenExit ?_
        refine WP.thenExit ?_
        refine WP.blkHit ?_
        refine WP.thenC ?_
        refine WC.seqJ (fun _ : Unit => [(0, .slice (some ⟨bd, 0, none⟩) n0 cap), (1, nt n0), (2, cmpV), (6, nt s)]) (fun _ => [(bd, datO l2 rest)]) (fun _ => D) (fun _ => True) ?_ ?_
        · rintro ⟨⟩ -
          refine WC.ofFr [(0, _), (1, _), (2, _), (6, _)] ⟨rfl, rfl, rfl, rfl, trivial⟩ ?_
          refine WC.region ?_
          refine WL.yd (Yd.move rfl) rfl ?_
          refine WL.yd (mulN (i := s) (j := 2) (by omega) rfl rfl) rfl ?_
          refine WL.yd (Yd.assign rfl) rfl ?_
          refine WL.nil ?_
          refine WP.blkNormal ?_
          refine WP.again (⟨m5, 2 * s, l2⟩ : Nat × Nat × List Nat) ⟨hw6, hok6, by simp only; omega⟩ (by simp only; omega) (fun aa ww h => ?_)
          rw [Nat.mul_comm s 2] at h
          exact at_fr h ⟨rfl, rfl, rfl, rfl, trivial⟩
        · skip
          refine WC.seq ?_
          refine WC.ofFr [(0, _), (1, _), (2, _), (6, _), (7, _)] ⟨rfl, rfl, rfl, rfl, rfl, trivial⟩ ?_
          refine WC.region ?_
          refine WL.yd (Yd.move rfl) rfl ?_
          refine WL.yd (Yd.move rfl) rfl ?_
          refine WL.yd (Yd.addN rfl rfl (by (try dsimp only); omega)) rfl ?_
          refine WL.yd (Yd.assign rfl) rfl ?_
          refine WL.nil ?_
          refine WP.thenC ?_
          refine WC.seq ?_
          refine WC.ofFr [(9, _), (0, _), (1, _), (2, _), (6, _), (7, _)] ⟨rfl, rfl, rfl, rfl, rfl, rfl, trivial⟩ ?_
          refine WC.region ?_
          refine WL.yd (Yd.move rfl) rfl ?_
          refine WL.yd (Yd.move rfl) rfl ?_
          refine WL.yd (Yd.lss rfl rfl) rfl ?_
          refine WL.nil ?_
          refine WP.thenC ?_
          refine WC.cond rfl (fun c54 => ?_) (fun c54 => ?_)
          · try simp only [zq1, zq2, zq3, zq4, zq5, zq6, zq7, zq8] at c54
            have hif : symM 12 am (am + s) n0 lm = some l2 := by
              have h54 : am + s < n0 := by omega
              rwa [if_pos h54] at hif9
            refine WC.ofFr [(9, _), (0, _), (1, _), (2, _), (6, _), (7, _)] ⟨rfl, rfl, rfl, rfl, rfl, rfl, trivial⟩ ?_
            refine WC.region ?_
            refine WL.yd (Yd.move rfl) rfl ?_
            refine WL.yd (Yd.move rfl) rfl ?_
            refine WL.yd (Yd.move rfl) rfl ?_
            refine WL.yd (Yd.move rfl) rfl ?_
            refine WL.yd (Yd.move rfl) rfl ?_
            refine WL.so (SO.alters (own := []) (hpc := [_]) (S1 := [bd]) (fun _ h => h) (fun h => h) (fun _ h => h) (fun _ h => h) (Enters.func Try.call115 rfl) (fun w1 hI => sym_g rest bd cap n0 D (by omega) 12 am (am + s) n0 lm l2 w1 hokm hif hI)) rfl ?_
            rintro _ _ _ ⟨_, _, ⟨rfl, rfl, rfl⟩, rfl⟩
            refine WL.nil ?_
            first
              | exact WP.join () trivial (fun aa ww h => at_fr h ⟨rfl, rfl, rfl, rfl, trivial⟩)
              | (subst hif; exact WP.join () trivial (fun aa ww h => at_fr h ⟨rfl, rfl, rfl, rfl, trivial⟩))
          · try simp only [zq1, zq2, zq3, zq4, zq5, zq6, zq7, zq8] at c54
            have hif : lm = l2 := by
              have h54 : ¬ am + s < n0 := by omega
              rw [if_neg h54] at hif9
              exact Option.some.inj hif9
            refine WC.skip ?_
            first
              | exact WP.join () trivial (fun aa ww h => at_fr h ⟨rfl, rfl, rfl, rfl, trivial⟩)
              | (subst hif; exact WP.join () trivial (fun aa ww h => at_fr h ⟨rfl, rfl, rfl, rfl, trivial⟩))
    · try simp only [zq1, zq2, zq3, zq4, zq5, zq6, zq7, zq8] at c30
      have hc7 : ¬ s < n0 := by omega
      have he := whl_false hw5 (by simpa [hok5.1] using hc7)
      cases he
      refine WC.exit ?_
      refine WP.thenExit ?_
      refine WP.thenExit ?_
      refine WP.blkHit ?_
      refine WP.ret0 rfl rfl Try.results112  (fun w1 hI => ⟨_, D, _, rfl, DExt.refl _ _, hI, fun _ h => h, rfl, rfl, rfl⟩)

set_option maxRecDepth 100000 in
set_option maxHeartbeats 1000000 in
theorem sort_g (l l' : List Nat) (rest : List Value) (bd cap n0 : Nat) (D : Imm) (w : World) (hok : Ok n0 l) (hl : n0 ≤ 256) (h : sortS l = some l') (hI0 : Inv D [(bd, datO l rest)] [bd] w w) : Alters Try.prog 105 [.slice (some ⟨bd, 0, none⟩) n0 cap, cmpV] w D [bd] (fun v D' hpc' => v = .tuple #[] ∧ D = D' ∧ hpc' = [(bd, datO l' rest)]) := by
  unfold Alters
  refine enter Try.func105 rfl 9 Try.ntmps105 (Nat.le_of_ble_eq_true rfl) hI0 ?_
  refine WC.ofFr [(0, _), (1, _)] ⟨rfl, rfl, trivial⟩ ?_
  refine WC.region ?_
  refine WL.yd (Yd.move rfl) rfl ?_
  refine WL.yd (Yd.move rfl) rfl ?_
  refine WL.yd (Yd.lenS rfl Try.underlying112 rfl) rfl ?_
  refine WL.yd (Yd.move rfl) rfl ?_
  refine WL.so (SO.alters (own := []) (hpc := [_]) (S1 := [bd]) (fun _ h => h) (fun h => h) (fun _ h => h) (fun _ h => h) (Enters.func Try.call112 rfl) (fun w1 hI => stab_g l l' rest bd cap n0 D w1 hok hl h hI)) rfl ?_
  rintro _ _ _ ⟨_, _, ⟨rfl, rfl, rfl⟩, rfl⟩
  refine WL.nil ?_
  refine WP.ret0 rfl rfl Try.results105  (fun w1 hI => ⟨_, D, _, rfl, DExt.refl _ _, hI, fun _ h => h, rfl, rfl, rfl⟩)

end Go.Proofs.Ytkhmmefgllbobaa
