import Derived.Test.YtidjdonppfegiaaXE
import Derived.Test.YtidjdonppfegiaaXB
import Derived.Test.YtidjdonppfegiaaXM
set_option linter.unusedSimpArgs false
set_option linter.unusedVariables false
set_option linter.all false
namespace Go.Proofs.Ytidjdonppfegiaa
open Go.W Go.Dp

def Sm (l : List Nat) : Prop := ∀ i, i < l.length → gt l i < 32
theorem swp_spec {l l' : List Nat} {i j : Nat} (h : swp l i j = some l') : i < l.length ∧ j < l.length ∧ l' = (l.set i (gt l j)).set j (gt l i) ∧ l'.length = l.length := by
  unfold swp at h
  split at h
  · rename_i hh
    cases h
    exact ⟨hh.1, hh.2, rfl, by simp⟩
  · cases h
theorem gt_set (l : List Nat) (i j x : Nat) (hi : i < l.length) : gt (l.set i x) j = if i = j then x else gt l j := by
  simp only [gt, List.getD, List.getElem?_set]
  split
  · rename_i e; subst e; simp [hi]
  · rfl
theorem Sm.swp {l l' : List Nat} {i j : Nat} (hs : Sm l) (h : swp l i j = some l') : Sm l' := by
  obtain ⟨hi, hj, rfl, hl⟩ := swp_spec h
  intro k hk
  have h1 := hs i hi
  have h2 := hs j hj
  have hk' : k < l.length := by simpa using hk
  have h3 := hs k hk'
  rw [gt_set _ _ _ _ (by simpa using hj)]
  split
  · exact h1
  · rw [gt_set _ _ _ _ hi]; split
    · exact h2
    · exact h3
theorem lessAt_some {l : List Nat} {i j : Nat} (hs : Sm l) (hi : i < l.length) (hj : j < l.length) : lessAt l i j = some (decide (pop (gt l i) < pop (gt l j))) := by
  unfold lessAt; rw [if_pos ⟨hi, hj, hs i hi, hs j hj⟩]
theorem pop_le (n : Nat) : pop n ≤ 5 := by unfold pop; omega
theorem st_two {l : List Nat} (rest : List Value) {i j x : Nat} (hi : i < l.length) (hj : j < l.length) : 0 + j * 1 + 1 ≤ (splice (l.map ut ++ rest) (0 + i * 1) [ut x]).length := by
  rw [splice_data _ _ _ _ hi]; exact len_data _ _ (by rw [List.length_set]; exact hj)
def datO (l : List Nat) (rest : List Value) : Obj := .cells (List.toArray (l.map ut ++ rest)) 98 (0, 0)
def cmpV : Value := .func (.func 100) #[] #[]
theorem swp_mem {l l' : List Nat} {i j : Nat} (rest : List Value) (h : swp l i j = some l') : splice (splice (l.map ut ++ rest) (0 + i * 1) [ut (gt l j)]) (0 + j * 1) [ut (gt l i)] = l'.map ut ++ rest := by
  obtain ⟨hi, hj, rfl, hl⟩ := swp_spec h
  rw [splice_data _ _ _ _ hi, splice_data _ _ _ _ (by simpa using hj)]

set_option maxRecDepth 100000 in
set_option maxHeartbeats 1000000 in
theorem ones64_g (x : Nat) (hx : x < 32) (w : World) : Gives Try.prog 103 [ut x] w (nt (pop x)) := by
  unfold Gives
  refine enter Try.func103 rfl 35 Try.ntmps103 (Nat.le_of_ble_eq_true rfl) (Inv.start (D := fun _ => none) (by intro _ _ h; cases h)) ?_
  refine WC.seq ?_
  refine WC.ofFr [(0, _)] ⟨rfl, trivial⟩ ?_
  refine WC.region ?_
  refine WL.yd (Yd.assign rfl) rfl ?_
  refine WL.nil ?_
  refine WP.thenC ?_
  refine WC.seq ?_
  refine WC.ofFr [(2, _), (0, _)] ⟨rfl, rfl, trivial⟩ ?_
  refine WC.region ?_
  refine WL.yd (Yd.move rfl) rfl ?_
  refine WL.yd (Yd.shr rfl rfl (by omega)) rfl ?_
  refine WL.yd (Yd.andW rfl rfl) rfl ?_
  refine WL.yd (Yd.move rfl) rfl ?_
  refine WL.yd (Yd.andW rfl rfl) rfl ?_
  refine WL.yd (Yd.addW rfl rfl) rfl ?_
  refine WL.yd (Yd.assign rfl) rfl ?_
  refine WL.nil ?_
  refine WP.thenC ?_
  refine WC.seq ?_
  refine WC.ofFr [(0, _), (2, _)] ⟨rfl, rfl, trivial⟩ ?_
  refine WC.region ?_
  refine WL.yd (Yd.move rfl) rfl ?_
  refine WL.yd (Yd.shr rfl rfl (by omega)) rfl ?_
  refine WL.yd (Yd.andW rfl rfl) rfl ?_
  refine WL.yd (Yd.move rfl) rfl ?_
  refine WL.yd (Yd.andW rfl rfl) rfl ?_
  refine WL.yd (Yd.addW rfl rfl) rfl ?_
  refine WL.yd (Yd.assign rfl) rfl ?_
  refine WL.nil ?_
  refine WP.thenC ?_
  refine WC.seq ?_
  refine WC.ofFr [(0, _), (2, _)] ⟨rfl, rfl, trivial⟩ ?_
  refine WC.region ?_
  refine WL.yd (Yd.move rfl) rfl ?_
  refine WL.yd (Yd.shr rfl rfl (by omega)) rfl ?_
  refine WL.yd (Yd.move rfl) rfl ?_
  refine WL.yd (Yd.addW rfl rfl) rfl ?_
  refine WL.yd (Yd.andW rfl rfl) rfl ?_
  refine WL.yd (Yd.assign rfl) rfl ?_
  refine WL.nil ?_
  refine WP.thenC ?_
  refine WC.seq ?_
  refine WC.ofFr [(0, _), (2, _)] ⟨rfl, rfl, trivial⟩ ?_
  refine WC.region ?_
  refine WL.yd (Yd.move rfl) rfl ?_
  refine WL.yd (Yd.move rfl) rfl ?_
  refine WL.yd (Yd.shr rfl rfl (by omega)) rfl ?_
  refine WL.yd (Yd.addW rfl rfl) rfl ?_
  refine WL.yd (Yd.assign rfl) rfl ?_
  refine WL.nil ?_
  refine WP.thenC ?_
  refine WC.seq ?_
  refine WC.ofFr [(0, _), (2, _)] ⟨rfl, rfl, trivial⟩ ?_
  refine WC.region ?_
  refine WL.yd (Yd.move rfl) rfl ?_
  refine WL.yd (Yd.move rfl) rfl ?_
  refine WL.yd (Yd.shr rfl rfl (by omega)) rfl ?_
  refine WL.yd (Yd.addW rfl rfl) rfl ?_
  refine WL.yd (Yd.assign rfl) rfl ?_
  refine WL.nil ?_
  refine WP.thenC ?_
  refine WC.seq ?_
  refine WC.ofFr [(0, _), (2, _)] ⟨rfl, rfl, trivial⟩ ?_
  refine WC.region ?_
  refine WL.yd (Yd.move rfl) rfl ?_
  refine WL.yd (Yd.move rfl) rfl ?_
  refine WL.yd (Yd.shr rfl rfl (by omega)) rfl ?_
  refine WL.yd (Yd.addW rfl rfl) rfl ?_
  refine WL.yd (Yd.assign rfl) rfl ?_
  refine WL.nil ?_
  refine WP.thenC ?_
  refine WC.seq ?_
  refine WC.ofFr [(0, _), (2, _)] ⟨rfl, rfl, trivial⟩ ?_
  refine WC.region ?_
  refine WL.yd (Yd.move rfl) rfl ?_
  refine WL.yd (Yd.convW Try.underlying141 Try.underlying3 rfl) rfl ?_
  refine WL.yd (Yd.andW rfl rfl) rfl ?_
  refine WL.yd (Yd.assign rfl) rfl ?_
  refine WL.nil ?_
  refine WP.thenC ?_
  refine WC.ret ?_
  refine WP.ret1 rfl rfl Try.results103 (RV.tmp rfl) (fun w hI => ⟨ret_int ?_, hI.keep⟩)
  clear hI
  revert x
  exact of_decide_eq_true (by kernel_rfl)

set_option maxRecDepth 100000 in
set_option maxHeartbeats 1000000 in
theorem ones_g (x : Nat) (hx : x < 32) (w : World) : Gives Try.prog 79 [ut x] w (nt (pop x)) := by
  unfold Gives
  refine enter Try.func79 rfl 8 Try.ntmps79 (Nat.le_of_ble_eq_true rfl) (Inv.start (D := fun _ => none) (by intro _ _ h; cases h)) ?_
  refine WC.seq ?_
  refine WC.ofFr [(0, _)] ⟨rfl, trivial⟩ ?_
  refine WC.region ?_
  refine WL.yd (Yd.assign rfl) rfl ?_
  refine WL.nil ?_
  refine WP.thenC ?_
  refine WC.seq ?_
  refine WC.condF rfl ?_
  refine WC.skip ?_
  refine WP.thenC ?_
  refine WC.seq ?_
  refine WC.ofFr [(2, _), (0, _)] ⟨rfl, rfl, trivial⟩ ?_
  refine WC.region ?_
  refine WL.yd (Yd.move rfl) rfl ?_
  refine WL.so (SO.callP Try.call103 rfl (fun w hI => ones64_g x hx _)) rfl ?_
  rintro _ _ _ ⟨rfl, rfl, rfl⟩
  refine WL.yd (Yd.assign rfl) rfl ?_
  refine WL.nil ?_
  refine WP.thenC ?_
  refine WC.ret ?_
  refine WP.ret1 rfl rfl Try.results79 (RV.tmp rfl) (fun w hI => ⟨rfl, hI.keep⟩)

set_option maxRecDepth 100000 in
set_option maxHeartbeats 1000000 in
theorem cmp_g (x y : Nat) (hx : x < 32) (hy : y < 32) (w : World) : Gives Try.prog 100 [ut x, ut y] w (it ((pop x : Int) - (pop y : Int))) := by
  unfold Gives
  have hpx := pop_le x
  have hpy := pop_le y
  refine enter Try.func100 rfl 10 Try.ntmps100 (Nat.le_of_ble_eq_true rfl) (Inv.start (D := fun _ => none) (by intro _ _ h; cases h)) ?_
  refine WC.seq ?_
  refine WC.ofFr [(0, _), (1, _)] ⟨rfl, rfl, trivial⟩ ?_
  refine WC.region ?_
  refine WL.yd (Yd.assign rfl) rfl ?_
  refine WL.nil ?_
  refine WP.thenC ?_
  refine WC.seq ?_
  refine WC.ofFr [(4, _), (0, _), (1, _)] ⟨rfl, rfl, rfl, trivial⟩ ?_
  refine WC.region ?_
  refine WL.yd (Yd.move rfl) rfl ?_
  refine WL.so (SO.callP Try.call79 rfl (fun w hI => ones_g x hx _)) rfl ?_
  rintro _ _ _ ⟨rfl, rfl, rfl⟩
  refine WL.yd (Yd.move rfl) rfl ?_
  refine WL.so (SO.callP Try.call79 rfl (fun w hI => ones_g y hy _)) rfl ?_
  rintro _ _ _ ⟨rfl, rfl, rfl⟩
  refine WL.yd (Yd.sub rfl rfl (wr64 ⟨by omega, by omega⟩)) rfl ?_
  refine WL.yd (Yd.assign rfl) rfl ?_
  refine WL.nil ?_
  refine WP.thenC ?_
  refine WC.ret ?_
  refine WP.ret1 rfl rfl Try.results100 (RV.tmp rfl) (fun w hI => ⟨rfl, hI.keep⟩)

set_option maxRecDepth 100000 in
set_option maxHeartbeats 1000000 in
theorem swapR_g (l l' : List Nat) (rest : List Value) (bd cap n0 : Nat) (D : Imm) (w : World) (hn0 : l.length = n0) (hl : n0 ≤ 100) (a b n : Nat) (cv : Value) (hab : a ≤ 9000 ∧ b ≤ 9000 ∧ n ≤ 9000) (h : swapR a b n l = some l') (hI0 : Inv D [(bd, datO l rest)] [bd] w w) : Alters Try.prog 110 [.slice (some ⟨bd, 0, none⟩) n0 cap, nt a, nt b, nt n, cv] w D [bd] (fun v D' hpc' => v = .tuple #[] ∧ D = D' ∧ hpc' = [(bd, datO l' rest)])  := by
  unfold Alters
  subst hn0
  refine enter Try.func110 rfl 38 Try.ntmps110 (Nat.le_of_ble_eq_true rfl) hI0 ?_
  refine WC.seq ?_
  refine WC.ofFr [(0, _), (1, _), (2, _), (3, _)] ⟨rfl, rfl, rfl, rfl, trivial⟩ ?_
  refine WC.region ?_
  refine WL.yd (Yd.assign rfl) rfl ?_
  refine WL.nil ?_
  refine WP.thenC ?_
  refine WC.block ?_
  obtain ⟨⟨k9, l9⟩, hw, rfl⟩ := Option.map_eq_some_iff.1 h
  refine WC.loop (fun y : Nat × Nat × List Nat => [(0, .slice (some ⟨bd, 0, none⟩) l.length cap), (1, nt a), (2, nt b), (3, nt n), (10, nt y.2.1)]) (fun y => [(bd, datO y.2.2 rest)]) (fun _ => D) (fun y => whl (fun x : Nat × List Nat => decide (x.1 < n)) (fun x => (swp x.2 (a + x.1) (b + x.1)).map fun l => (x.1 + 1, l)) y.1 y.2 = some (k9, l9) ∧ y.2.2.length = l.length ∧ y.2.1 ≤ 9000) (fun y => y.1) (⟨F, 0, l⟩ : Nat × Nat × List Nat) ⟨hw, rfl, by simp only; omega⟩ (fun a w h => at_fr h ⟨rfl, rfl, rfl, rfl, rfl, trivial⟩) ?_
  rintro ⟨m, k, l1⟩ ⟨hw1, hl1, hk1⟩
  simp only at hw1 hl1 hk1
  refine WC.seq ?_
  refine WC.seq ?_
  refine WC.ofFr [(0, _), (1, _), (2, _), (3, _), (10, _)] ⟨rfl, rfl, rfl, rfl, rfl, trivial⟩ ?_
  refine WC.region ?_
  refine WL.yd (Yd.move rfl) rfl ?_
  refine WL.yd (Yd.move rfl) rfl ?_
  refine WL.yd (Yd.lss rfl rfl) rfl ?_
  refine WL.nil ?_
  refine WP.thenC ?_
  refine WC.cond rfl (fun c13 => ?_) (fun c13 => ?_)
  · try simp only [zq1, zq2, zq3, zq4, zq5, zq6, zq7, zq8] at c13
    have hkn : k < n := by omega
    obtain ⟨m1, ⟨k2, l2⟩, rfl, hs, hw2⟩ := whl_true hw1 (by simpa using hkn)
    obtain ⟨l2, hsw, hs⟩ := Option.map_eq_some_iff.1 hs
    cases hs
    dsimp only at hsw hw2
    obtain ⟨hi1, hi2, hi3, hi4⟩ := swp_spec hsw
    refine WC.skip ?_
    refine WP.thenC ?_
    refine WC.seq ?_
    refine WC.block ?_
    refine WC.ofFr [(0, _), (1, _), (2, _), (3, _), (10, _)] ⟨rfl, rfl, rfl, rfl, rfl, trivial⟩ ?_
    refine WC.drawH [] (by kernel_rfl) (fun _ hI => hI.drop 99) ?_
    refine WH.yd (i := 0) (by kernel_rfl) (fun _ o v c a w _ h => (QuietPanic.blk (QuietPanic.then (QuietPanic.then (QuietPanic.blk QuietPanic.body)))) c o.dst v a w h) rfl (Yd.move rfl) rfl ?_
    refine WH.yd (i := 1) (by kernel_rfl) (fun _ o v c a w _ h => (QuietPanic.blk (QuietPanic.then (QuietPanic.then (QuietPanic.blk QuietPanic.body)))) c o.dst v a w h) rfl (Yd.move rfl) rfl ?_
    refine WH.yd (i := 2) (by kernel_rfl) (fun _ o v c a w _ h => (QuietPanic.blk (QuietPanic.then (QuietPanic.then (QuietPanic.blk QuietPanic.body)))) c o.dst v a w h) rfl (Yd.move rfl) rfl ?_
    refine WH.yd (i := 3) (by kernel_rfl) (fun _ o v c a w _ h => (QuietPanic.blk (QuietPanic.then (QuietPanic.then (QuietPanic.blk QuietPanic.body)))) c o.dst v a w h) rfl (Yd.addN rfl rfl (by (try dsimp only); omega)) rfl ?_
    refine WH.yd (i := 4) (by kernel_rfl) (fun _ o v c a w _ h => (QuietPanic.blk (QuietPanic.then (QuietPanic.then (QuietPanic.blk QuietPanic.body)))) c o.dst v a w h) rfl (Yd.move rfl) rfl ?_
    refine WH.yd (i := 5) (by kernel_rfl) (fun _ o v c a w _ h => (QuietPanic.blk (QuietPanic.then (QuietPanic.then (QuietPanic.blk QuietPanic.body)))) c o.dst v a w h) rfl (Yd.move rfl) rfl ?_
    refine WH.yd (i := 6) (by kernel_rfl) (fun _ o v c a w _ h => (QuietPanic.blk (QuietPanic.then (QuietPanic.then (QuietPanic.blk QuietPanic.body)))) c o.dst v a w h) rfl (Yd.move rfl) rfl ?_
    refine WH.yd (i := 7) (by kernel_rfl) (fun _ o v c a w _ h => (QuietPanic.blk (QuietPanic.then (QuietPanic.then (QuietPanic.blk QuietPanic.body)))) c o.dst v a w h) rfl (Yd.addN rfl rfl (by (try dsimp only); omega)) rfl ?_
    refine WH.yd (i := 8) (by kernel_rfl) (fun _ o v c a w _ h => (QuietPanic.blk (QuietPanic.then (QuietPanic.then (QuietPanic.blk QuietPanic.body)))) c o.dst v a w h) rfl (Yd.move rfl) rfl ?_
    refine WH.yd (i := 9) (by kernel_rfl) (fun _ o v c a w _ h => (QuietPanic.blk (QuietPanic.then (QuietPanic.then (QuietPanic.blk QuietPanic.body)))) c o.dst v a w h) rfl (Yd.move rfl) rfl ?_
    refine WH.yd (i := 10) (by kernel_rfl) (fun _ o v c a w _ h => (QuietPanic.blk (QuietPanic.then (QuietPanic.then (QuietPanic.blk QuietPanic.body)))) c o.dst v a w h) rfl (Yd.move rfl) rfl ?_
    refine WH.yd (i := 11) (by kernel_rfl) (fun _ o v c a w _ h => (QuietPanic.blk (QuietPanic.then (QuietPanic.then (QuietPanic.blk QuietPanic.body)))) c o.dst v a w h) rfl (Yd.addN rfl rfl (by (try dsimp only); omega)) rfl ?_
    refine WH.yd (i := 12) (by kernel_rfl) (fun _ o v c a w _ h => (QuietPanic.blk (QuietPanic.then (QuietPanic.then (QuietPanic.blk QuietPanic.body)))) c o.dst v a w h) rfl (Yd.indexS Try.underlying101 Try.sizeOf98 rfl rfl (by (try dsimp only); omega) (by (try dsimp only); omega) (by first | exact rfl)) rfl ?_
    refine WH.yd (i := 14) (by kernel_rfl) (fun _ o v c a w _ h => (QuietPanic.blk (QuietPanic.then (QuietPanic.then (QuietPanic.blk QuietPanic.body)))) c o.dst v a w h) rfl (Yd.move rfl) rfl ?_
    refine WH.yd (i := 15) (by kernel_rfl) (fun _ o v c a w _ h => (QuietPanic.blk (QuietPanic.then (QuietPanic.then (QuietPanic.blk QuietPanic.body)))) c o.dst v a w h) rfl (Yd.move rfl) rfl ?_
    refine WH.yd (i := 16) (by kernel_rfl) (fun _ o v c a w _ h => (QuietPanic.blk (QuietPanic.then (QuietPanic.then (QuietPanic.blk QuietPanic.body)))) c o.dst v a w h) rfl (Yd.move rfl) rfl ?_
    refine WH.yd (i := 17) (by kernel_rfl) (fun _ o v c a w _ h => (QuietPanic.blk (QuietPanic.then (QuietPanic.then (QuietPanic.blk QuietPanic.body)))) c o.dst v a w h) rfl (Yd.addN rfl rfl (by (try dsimp only); omega)) rfl ?_
    refine WH.yd (i := 18) (by kernel_rfl) (fun _ o v c a w _ h => (QuietPanic.blk (QuietPanic.then (QuietPanic.then (QuietPanic.blk QuietPanic.body)))) c o.dst v a w h) rfl (Yd.indexS Try.underlying101 Try.sizeOf98 rfl rfl (by (try dsimp only); omega) (by (try dsimp only); omega) (by first | exact rfl)) rfl ?_
    refine WH.two (i := 13) (j := 19) (by kernel_rfl) ?_ ?_
    · refine WHo.yd rfl (Yd.load1 Try.isAgg98 rfl (by first | exact (rd_data (k := 0) rfl (by (try dsimp only); omega)))) rfl ?_
      refine WH.one (i := 19) (by kernel_rfl) (WHo.yd rfl (Yd.load1 Try.isAgg98 rfl (by first | exact (rd_data (k := 0) rfl (by (try dsimp only); omega)))) rfl ?_)
      refine WH.yd (i := 20) (by kernel_rfl) (fun _ o v c a w _ h => (QuietPanic.blk (QuietPanic.then (QuietPanic.then (QuietPanic.blk QuietPanic.body)))) c o.dst v a w h) rfl (Yd.indexS Try.underlying101 Try.sizeOf98 rfl rfl (by (try dsimp only); omega) (by (try dsimp only); omega) (by first | exact rfl)) rfl ?_
      refine WH.one (i := 21) (by kernel_rfl) (WHo.so rfl (SO.store 0 rfl Try.sizeOf98 rfl rfl rfl rfl (len_data _ _ (by (try dsimp only); omega)) (oneB_spec rfl)) rfl ?_)
      rintro _ _ _ ⟨rfl, rfl, rfl⟩
      refine ⟨(fun _ hI => hI.drop 99), ?_⟩
      refine WH.yd (i := 22) (by kernel_rfl) (fun _ o v c a w _ h => (QuietPanic.blk (QuietPanic.then (QuietPanic.then (QuietPanic.blk QuietPanic.body)))) c o.dst v a w h) rfl (Yd.indexS Try.underlying101 Try.sizeOf98 rfl rfl (by (try dsimp only); omega) (by (try dsimp only); omega) (by first | exact rfl)) rfl ?_
      refine WH.one (i := 23) (by kernel_rfl) (WHo.so rfl (SO.store 0 rfl Try.sizeOf98 rfl rfl rfl rfl (st_two rest (by (try dsimp only); omega) (by (try dsimp only); omega)) (oneB_spec rfl)) rfl ?_)
      rintro _ _ _ ⟨rfl, rfl, rfl⟩
      refine ⟨(fun _ hI => hI.drop 99), ?_⟩
      refine WH.nil (by kernel_rfl) ?_
      refine WP.blkNormal ?_
      refine WP.thenC ?_
      refine WC.ofFr [(0, _), (1, _), (2, _), (3, _), (10, _)] ⟨rfl, rfl, rfl, rfl, rfl, trivial⟩ ?_
      refine WC.region ?_
      refine WL.yd (Yd.move rfl) rfl ?_
      refine WL.yd (Yd.addN rfl rfl (by (try dsimp only); omega)) rfl ?_
      refine WL.yd (Yd.assign rfl) rfl ?_
      refine WL.nil ?_
      refine WP.again (⟨m1, k + 1, l2⟩ : Nat × Nat × List Nat) ⟨hw2, by simp only; omega, by simp only; omega⟩ (by simp only; omega) (fun aa ww h => ?_)
      show At _ [(0, .slice (some ⟨bd, 0, none⟩) l.length cap), (1, nt a), (2, nt b), (3, nt n), (10, nt (k + 1))] D [(bd, .cells (List.toArray (l2.map ut ++ rest)) 98 (0, 0))] aa ww
      rw [← swp_mem rest hsw]
      exact at_fr h ⟨rfl, rfl, rfl, rfl, rfl, trivial⟩
    · refine WHo.yd rfl (Yd.load1 Try.isAgg98 rfl (by first | exact (rd_data (k := 0) rfl (by (try dsimp only); omega)))) rfl ?_
      refine WH.one (i := 13) (by kernel_rfl) (WHo.yd rfl (Yd.load1 Try.isAgg98 rfl (by first | exact (rd_data (k := 0) rfl (by (try dsimp only); omega)))) rfl ?_)
      refine WH.yd (i := 20) (by kernel_rfl) (fun _ o v c a w _ h => (QuietPanic.blk (QuietPanic.then (QuietPanic.then (QuietPanic.blk QuietPanic.body)))) c o.dst v a w h) rfl (Yd.indexS Try.underlying101 Try.sizeOf98 rfl rfl (by (try dsimp only); omega) (by (try dsimp only); omega) (by first | exact rfl)) rfl ?_
      refine WH.one (i := 21) (by kernel_rfl) (WHo.so rfl (SO.store 0 rfl Try.sizeOf98 rfl rfl rfl rfl (len_data _ _ (by (try dsimp only); omega)) (oneB_spec rfl)) rfl ?_)
      rintro _ _ _ ⟨rfl, rfl, rfl⟩
      refine ⟨(fun _ hI => hI.drop 99), ?_⟩
      refine WH.yd (i := 22) (by kernel_rfl) (fun _ o v c a w _ h => (QuietPanic.blk (QuietPanic.then (QuietPanic.then (QuietPanic.blk QuietPanic.body)))) c o.dst v a w h) rfl (Yd.indexS Try.underlying101 Try.sizeOf98 rfl rfl (by (try dsimp only); omega) (by (try dsimp only); omega) (by first | exact rfl)) rfl ?_
      refine WH.one (i := 23) (by kernel_rfl) (WHo.so rfl (SO.store 0 rfl Try.sizeOf98 rfl rfl rfl rfl (st_two rest (by (try dsimp only); omega) (by (try dsimp only); omega)) (oneB_spec rfl)) rfl ?_)
      rintro _ _ _ ⟨rfl, rfl, rfl⟩
      refine ⟨(fun _ hI => hI.drop 99), ?_⟩
      refine WH.nil (by kernel_rfl) ?_
      refine WP.blkNormal ?_
      refine WP.thenC ?_
      refine WC.ofFr [(0, _), (1, _), (2, _), (3, _), (10, _)] ⟨rfl, rfl, rfl, rfl, rfl, trivial⟩ ?_
      refine WC.region ?_
      refine WL.yd (Yd.move rfl) rfl ?_
      refine WL.yd (Yd.addN rfl rfl (by (try dsimp only); omega)) rfl ?_
      refine WL.yd (Yd.assign rfl) rfl ?_
      refine WL.nil ?_
      refine WP.again (⟨m1, k + 1, l2⟩ : Nat × Nat × List Nat) ⟨hw2, by simp only; omega, by simp only; omega⟩ (by simp only; omega) (fun aa ww h => ?_)
      show At _ [(0, .slice (some ⟨bd, 0, none⟩) l.length cap), (1, nt a), (2, nt b), (3, nt n), (10, nt (k + 1))] D [(bd, .cells (List.toArray (l2.map ut ++ rest)) 98 (0, 0))] aa ww
      rw [← swp_mem rest hsw]
      exact at_fr h ⟨rfl, rfl, rfl, rfl, rfl, trivial⟩
  · try simp only [zq1, zq2, zq3, zq4, zq5, zq6, zq7, zq8] at c13
    have hkn : ¬ k < n := by omega
    cases whl_false hw1 (by simpa using hkn)
    refine WC.exit ?_
    refine WP.thenExit ?_
    refine WP.thenExit ?_
    refine WP.blkHit ?_
    refine WP.ret0 rfl rfl Try.results110  (fun w1 hI => ⟨_, D, _, rfl, DExt.refl _ _, hI, fun _ h => h, rfl, rfl, rfl⟩)

end Go.Proofs.Ytidjdonppfegiaa
namespace Go.Proofs.Ytidjdonppfegiaa
open Go.W Go.Dp

set_option maxRecDepth 100000 in
set_option maxHeartbeats 1000000 in
theorem ins_g (l l' : List Nat) (rest : List Value) (bd cap n0 : Nat) (D : Imm) (w : World) (hn0 : l.length = n0) (hl : n0 ≤ 100) (a b : Nat) (hab : a ≤ 100 ∧ b ≤ l.length) (hsm : Sm l) (h : insS a b l = some l') (hI0 : Inv D [(bd, datO l rest)] [bd] w w) : Alters Try.prog 107 [.slice (some ⟨bd, 0, none⟩) n0 cap, nt a, nt b, cmpV] w D [bd] (fun v D' hpc' => v = .tuple #[] ∧ D = D' ∧ hpc' = [(bd, datO l' rest)]) := by
  unfold Alters
  subst hn0
  refine enter Try.func107 rfl 53 Try.ntmps107 (Nat.le_of_ble_eq_true rfl) hI0 ?_
  refine WC.seq ?_
  refine WC.ofFr [(0, _), (1, _), (2, _), (3, _)] ⟨rfl, rfl, rfl, rfl, trivial⟩ ?_
  refine WC.region ?_
  refine WL.yd (Yd.move rfl) rfl ?_
  refine WL.yd (Yd.addN rfl rfl (by (try dsimp only); omega)) rfl ?_
  refine WL.yd (Yd.assign rfl) rfl ?_
  refine WL.nil ?_
  refine WP.thenC ?_
  refine WC.block ?_
  obtain ⟨⟨k9, l9⟩, hw, rfl⟩ := Option.map_eq_some_iff.1 h
  refine WC.loop (fun y : Nat × Nat × List Nat => [(0, .slice (some ⟨bd, 0, none⟩) l.length cap), (1, nt a), (2, nt b), (3, cmpV), (8, nt y.2.1)]) (fun y => [(bd, datO y.2.2 rest)]) (fun _ => D) (fun y => whl (fun x : Nat × List Nat => decide (x.1 < b)) (fun x => (insIn a (x.1, x.2)).map fun y => (x.1 + 1, y.2)) y.1 y.2 = some (k9, l9) ∧ y.2.2.length = l.length ∧ Sm y.2.2 ∧ y.2.1 ≤ 200) (fun y => y.1) (⟨F, a + 1, l⟩ : Nat × Nat × List Nat) ⟨hw, rfl, hsm, by simp only; omega⟩ (fun a w h => at_fr h ⟨rfl, rfl, rfl, rfl, rfl, trivial⟩) ?_
  rintro ⟨m, i, l1⟩ ⟨hw1, hl1, hs1, hi1⟩
  dsimp only at hw1 hl1 hs1 hi1
  refine WC.seq ?_
  refine WC.seq ?_
  refine WC.ofFr [(0, _), (1, _), (2, _), (3, _), (8, _)] ⟨rfl, rfl, rfl, rfl, rfl, trivial⟩ ?_
  refine WC.region ?_
  refine WL.yd (Yd.move rfl) rfl ?_
  refine WL.yd (Yd.move rfl) rfl ?_
  refine WL.yd (Yd.lss rfl rfl) rfl ?_
  refine WL.nil ?_
  refine WP.thenC ?_
  refine WC.cond rfl (fun c14 => ?_) (fun c14 => ?_)
  · try simp only [zq1, zq2, zq3, zq4, zq5, zq6, zq7, zq8] at c14
    have hib : i < b := by omega
    obtain ⟨m1, ⟨i2, l2⟩, rfl, hst, hw2⟩ := whl_true hw1 (by simpa using hib)
    obtain ⟨⟨j2, l2⟩, hin, hst⟩ := Option.map_eq_some_iff.1 hst
    cases hst
    dsimp only at hin hw2
    refine WC.skip ?_
    refine WP.thenC ?_
    refine WC.seq ?_
    refine WC.block ?_
    refine WC.seq ?_
    refine WC.ofFr [(0, _), (1, _), (2, _), (3, _), (8, _)] ⟨rfl, rfl, rfl, rfl, rfl, trivial⟩ ?_
    refine WC.region ?_
    refine WL.yd (Yd.move rfl) rfl ?_
    refine WL.yd (Yd.assign rfl) rfl ?_
    refine WL.nil ?_
    refine WP.thenC ?_
    refine WC.block ?_
    refine WC.loop (fun y : Nat × Nat × List Nat => [(0, .slice (some ⟨bd, 0, none⟩) l.length cap), (1, nt a), (2, nt b), (3, cmpV), (8, nt i), (9, nt y.2.1)]) (fun y => [(bd, datO y.2.2 rest)]) (fun _ => D) (fun y => whl (fun x : Nat × List Nat => decide (a < x.1) && (lessAt x.2 x.1 (x.1 - 1)).getD false) (fun x => (swp x.2 x.1 (x.1 - 1)).map fun l => (x.1 - 1, l)) y.1 y.2 = some (j2, l2) ∧ y.2.2.length = l.length ∧ Sm y.2.2 ∧ y.2.1 < l.length) (fun y => y.1) (⟨F, i, l1⟩ : Nat × Nat × List Nat) ⟨hin, hl1, hs1, by simp only; omega⟩ (fun a w h => at_fr h ⟨rfl, rfl, rfl, rfl, rfl, rfl, trivial⟩) ?_
    rintro ⟨m3, j, l3⟩ ⟨hw3, hl3, hs3, hj3⟩
    dsimp only at hw3 hl3 hs3 hj3
    refine WC.seq ?_
    refine WC.seq ?_
    refine WC.ofFr [(0, _), (1, _), (2, _), (3, _), (8, _), (9, _)] ⟨rfl, rfl, rfl, rfl, rfl, rfl, trivial⟩ ?_
    refine WC.tail 14 [0, 1, 2, 3, 4, 5, 6, 7, 8, 9, 10, 11, 12, 13] rfl (by kernel_rfl) (by kernel_rfl)  ?_
    refine WQ.q rfl (Yd.qt (Yd.move rfl)) rfl ?_
    refine WQ.q rfl (Yd.qt (Yd.move rfl)) rfl ?_
    refine WQ.q rfl (Yd.qt (Yd.gtr rfl rfl)) rfl ?_
    refine WQ.q rfl (Yd.qt (Yd.move rfl)) rfl ?_
    refine WQ.part 21 rfl (fun g21 => ?_) (fun g21 => ?_)
    · try simp only [zq1, zq2, zq3, zq4, zq5, zq6, zq7, zq8] at g21
      have hja : a < j := by omega
      have hlt := lessAt_some hs3 (i := j) (j := j - 1) (by omega) (by omega)
      have hp1 := hs3 j (by omega)
      have hp2 := hs3 (j - 1) (by omega)
      refine WQ.qg rfl rfl (Yd.qt (Yd.move rfl)) rfl ?_
      refine WQ.qg rfl rfl (Yd.qt (Yd.move rfl)) rfl ?_
      refine WQ.qg rfl rfl (Yd.qt (Yd.move rfl)) rfl ?_
      refine WQ.qg rfl rfl (Yd.qt (Yd.indexS Try.underlying101 Try.sizeOf98 rfl rfl (by (try dsimp only); omega) (by (try dsimp only); omega) (by first | exact rfl))) rfl ?_
      refine WQ.qg rfl rfl (Yd.qt (Yd.load1 Try.isAgg98 rfl (by first | exact (rd_data (k := 0) rfl (by (try dsimp only); omega))))) rfl ?_
      refine WQ.qg rfl rfl (Yd.qt (Yd.move rfl)) rfl ?_
      refine WQ.qg rfl rfl (Yd.qt (Yd.move rfl)) rfl ?_
      refine WQ.qg rfl rfl (Yd.qt (Yd.subN rfl rfl (by (try dsimp only); omega) (by (try dsimp only); omega))) rfl ?_
      refine WQ.qg rfl rfl (Yd.qt (Yd.indexS Try.underlying101 Try.sizeOf98 rfl rfl (by (try dsimp only); omega) (by (try dsimp only); omega) (by first | exact rfl))) rfl ?_
      refine WQ.qg rfl rfl (Yd.qt (Yd.load1 Try.isAgg98 rfl (by first | exact (rd_data (k := 0) rfl (by (try dsimp only); omega))))) rfl ?_
      refine WQ.tail ?_
      refine WL.sog rfl (SO.call (Enters.val Try.call100 rfl rfl) (fun w hI => cmp_g _ _ hp1 hp2 _)) rfl ?_
      rintro _ _ _ ⟨rfl, rfl, rfl⟩
      refine WL.ydg rfl (Yd.lss rfl rfl) rfl ?_
      refine WL.yd (Yd.pickT rfl rfl) rfl ?_
      refine WL.nil ?_
      refine WP.thenC ?_
      refine WC.cond rfl (fun c34 => ?_) (fun c34 => ?_)
      · try simp only [zq1, zq2, zq3, zq4, zq5, zq6, zq7, zq8] at c34
        have hpp : pop (gt l3 j) < pop (gt l3 (j - 1)) := by omega
        obtain ⟨m4, ⟨j4, l4⟩, rfl, hst3, hw4⟩ := whl_true hw3 (by simp only [hlt, hja, hpp, Option.getD_some, decide_true, Bool.and_self])
        obtain ⟨l4, hsw, hst3⟩ := Option.map_eq_some_iff.1 hst3
        cases hst3
        dsimp only at hsw hw4
        obtain ⟨hi1, hi2, hi3, hi4⟩ := swp_spec hsw
        refine WC.skip ?_
        refine WP.thenC ?_
        refine WC.seq ?_
        refine WC.block ?_
        refine WC.ofFr [(0, _), (1, _), (2, _), (3, _), (8, _), (9, _)] ⟨rfl, rfl, rfl, rfl, rfl, rfl, trivial⟩ ?_
        refine WC.drawH [] (by kernel_rfl) (fun _ hI => hI.drop 99) ?_
        refine WH.yd (i := 0) (by kernel_rfl) (fun _ o v c a w _ h => (QuietPanic.blk (QuietPanic.then (QuietPanic.then (QuietPanic.blk (QuietPanic.blk (QuietPanic.then (QuietPanic.then (QuietPanic.blk QuietPanic.body)))))))) c o.dst v a w h) rfl (Yd.move rfl) rfl ?_
        refine WH.yd (i := 1) (by kernel_rfl) (fun _ o v c a w _ h => (QuietPanic.blk (QuietPanic.then (QuietPanic.then (QuietPanic.blk (QuietPanic.blk (QuietPanic.then (QuietPanic.then (QuietPanic.blk QuietPanic.body)))))))) c o.dst v a w h) rfl (Yd.move rfl) rfl ?_
        refine WH.yd (i := 2) (by kernel_rfl) (fun _ o v c a w _ h => (QuietPanic.blk (QuietPanic.then (QuietPanic.then (QuietPanic.blk (QuietPanic.blk (QuietPanic.then (QuietPanic.then (QuietPanic.blk QuietPanic.body)))))))) c o.dst v a w h) rfl (Yd.move rfl) rfl ?_
        refine WH.yd (i := 3) (by kernel_rfl) (fun _ o v c a w _ h => (QuietPanic.blk (QuietPanic.then (QuietPanic.then (QuietPanic.blk (QuietPanic.blk (QuietPanic.then (QuietPanic.then (QuietPanic.blk QuietPanic.body)))))))) c o.dst v a w h) rfl (Yd.move rfl) rfl ?_
        refine WH.yd (i := 4) (by kernel_rfl) (fun _ o v c a w _ h => (QuietPanic.blk (QuietPanic.then (QuietPanic.then (QuietPanic.blk (QuietPanic.blk (QuietPanic.then (QuietPanic.then (QuietPanic.blk QuietPanic.body)))))))) c o.dst v a w h) rfl (Yd.subN rfl rfl (by (try dsimp only); omega) (by (try dsimp only); omega)) rfl ?_
        refine WH.yd (i := 5) (by kernel_rfl) (fun _ o v c a w _ h => (QuietPanic.blk (QuietPanic.then (QuietPanic.then (QuietPanic.blk (QuietPanic.blk (QuietPanic.then (QuietPanic.then (QuietPanic.blk QuietPanic.body)))))))) c o.dst v a w h) rfl (Yd.move rfl) rfl ?_
        refine WH.yd (i := 6) (by kernel_rfl) (fun _ o v c a w _ h => (QuietPanic.blk (QuietPanic.then (QuietPanic.then (QuietPanic.blk (QuietPanic.blk (QuietPanic.then (QuietPanic.then (QuietPanic.blk QuietPanic.body)))))))) c o.dst v a w h) rfl (Yd.move rfl) rfl ?_
        refine WH.yd (i := 7) (by kernel_rfl) (fun _ o v c a w _ h => (QuietPanic.blk (QuietPanic.then (QuietPanic.then (QuietPanic.blk (QuietPanic.blk (QuietPanic.then (QuietPanic.then (QuietPanic.blk QuietPanic.body)))))))) c o.dst v a w h) rfl (Yd.subN rfl rfl (by (try dsimp only); omega) (by (try dsimp only); omega)) rfl ?_
        refine WH.yd (i := 8) (by kernel_rfl) (fun _ o v c a w _ h => (QuietPanic.blk (QuietPanic.then (QuietPanic.then (QuietPanic.blk (QuietPanic.blk (QuietPanic.then (QuietPanic.then (QuietPanic.blk QuietPanic.body)))))))) c o.dst v a w h) rfl (Yd.indexS Try.underlying101 Try.sizeOf98 rfl rfl (by (try dsimp only); omega) (by (try dsimp only); omega) (by first | exact rfl)) rfl ?_
        refine WH.yd (i := 10) (by kernel_rfl) (fun _ o v c a w _ h => (QuietPanic.blk (QuietPanic.then (QuietPanic.then (QuietPanic.blk (QuietPanic.blk (QuietPanic.then (QuietPanic.then (QuietPanic.blk QuietPanic.body)))))))) c o.dst v a w h) rfl (Yd.move rfl) rfl ?_
        refine WH.yd (i := 11) (by kernel_rfl) (fun _ o v c a w _ h => (QuietPanic.blk (QuietPanic.then (QuietPanic.then (QuietPanic.blk (QuietPanic.blk (QuietPanic.then (QuietPanic.then (QuietPanic.blk QuietPanic.body)))))))) c o.dst v a w h) rfl (Yd.move rfl) rfl ?_
        refine WH.yd (i := 12) (by kernel_rfl) (fun _ o v c a w _ h => (QuietPanic.blk (QuietPanic.then (QuietPanic.then (QuietPanic.blk (QuietPanic.blk (QuietPanic.then (QuietPanic.then (QuietPanic.blk QuietPanic.body)))))))) c o.dst v a w h) rfl (Yd.indexS Try.underlying101 Try.sizeOf98 rfl rfl (by (try dsimp only); omega) (by (try dsimp only); omega) (by first | exact rfl)) rfl ?_
        refine WH.two (i := 9) (j := 13) (by kernel_rfl) ?_ ?_
        · refine WHo.yd rfl (Yd.load1 Try.isAgg98 rfl (by first | exact (rd_data (k := 0) rfl (by (try dsimp only); omega)))) rfl ?_
          refine WH.one (i := 13) (by kernel_rfl) (WHo.yd rfl (Yd.load1 Try.isAgg98 rfl (by first | exact (rd_data (k := 0) rfl (by (try dsimp only); omega)))) rfl ?_)
          refine WH.yd (i := 14) (by kernel_rfl) (fun _ o v c a w _ h => (QuietPanic.blk (QuietPanic.then (QuietPanic.then (QuietPanic.blk (QuietPanic.blk (QuietPanic.then (QuietPanic.then (QuietPanic.blk QuietPanic.body)))))))) c o.dst v a w h) rfl (Yd.indexS Try.underlying101 Try.sizeOf98 rfl rfl (by (try dsimp only); omega) (by (try dsimp only); omega) (by first | exact rfl)) rfl ?_
          refine WH.one (i := 15) (by kernel_rfl) (WHo.so rfl (SO.store 0 rfl Try.sizeOf98 rfl rfl rfl rfl (len_data _ _ (by (try dsimp only); omega)) (oneB_spec rfl)) rfl ?_)
          rintro _ _ _ ⟨rfl, rfl, rfl⟩
          refine ⟨(fun _ hI => hI.drop 99), ?_⟩
          refine WH.yd (i := 16) (by kernel_rfl) (fun _ o v c a w _ h => (QuietPanic.blk (QuietPanic.then (QuietPanic.then (QuietPanic.blk (QuietPanic.blk (QuietPanic.then (QuietPanic.then (QuietPanic.blk QuietPanic.body)))))))) c o.dst v a w h) rfl (Yd.indexS Try.underlying101 Try.sizeOf98 rfl rfl (by (try dsimp only); omega) (by (try dsimp only); omega) (by first | exact rfl)) rfl ?_
          refine WH.one (i := 17) (by kernel_rfl) (WHo.so rfl (SO.store 0 rfl Try.sizeOf98 rfl rfl rfl rfl (st_two rest (by (try dsimp only); omega) (by (try dsimp only); omega)) (oneB_spec rfl)) rfl ?_)
          rintro _ _ _ ⟨rfl, rfl, rfl⟩
          refine ⟨(fun _ hI => hI.drop 99), ?_⟩
          refine WH.nil (by kernel_rfl) ?_
          refine WP.blkNormal ?_
          refine WP.thenC ?_
          refine WC.ofFr [(0, _), (1, _), (2, _), (3, _), (8, _), (9, _)] ⟨rfl, rfl, rfl, rfl, rfl, rfl, trivial⟩ ?_
          refine WC.region ?_
          refine WL.yd (Yd.move rfl) rfl ?_
          refine WL.yd (Yd.subN rfl rfl (by (try dsimp only); omega) (by (try dsimp only); omega)) rfl ?_
          refine WL.yd (Yd.assign rfl) rfl ?_
          refine WL.nil ?_
          refine WP.again (⟨m4, j - 1, l4⟩ : Nat × Nat × List Nat) ⟨hw4, by simp only; omega, hs3.swp hsw, by simp only; omega⟩ (by simp only; omega) (fun aa ww h => ?_)
          show At _ [(0, .slice (some ⟨bd, 0, none⟩) l.length cap), (1, nt a), (2, nt b), (3, cmpV), (8, nt i), (9, nt (j - 1))] D [(bd, .cells (List.toArray (l4.map ut ++ rest)) 98 (0, 0))] aa ww
          rw [← swp_mem rest hsw]
          exact at_fr h ⟨rfl, rfl, rfl, rfl, rfl, rfl, trivial⟩
        · refine WHo.yd rfl (Yd.load1 Try.isAgg98 rfl (by first | exact (rd_data (k := 0) rfl (by (try dsimp only); omega)))) rfl ?_
          refine WH.one (i := 9) (by kernel_rfl) (WHo.yd rfl (Yd.load1 Try.isAgg98 rfl (by first | exact (rd_data (k := 0) rfl (by (try dsimp only); omega)))) rfl ?_)
          refine WH.yd (i := 14) (by kernel_rfl) (fun _ o v c a w _ h => (QuietPanic.blk (QuietPanic.then (QuietPanic.then (QuietPanic.blk (QuietPanic.blk (QuietPanic.then (QuietPanic.then (QuietPanic.blk QuietPanic.body)))))))) c o.dst v a w h) rfl (Yd.indexS Try.underlying101 Try.sizeOf98 rfl rfl (by (try dsimp only); omega) (by (try dsimp only); omega) (by first | exact rfl)) rfl ?_
          refine WH.one (i := 15) (by kernel_rfl) (WHo.so rfl (SO.store 0 rfl Try.sizeOf98 rfl rfl rfl rfl (len_data _ _ (by (try dsimp only); omega)) (oneB_spec rfl)) rfl ?_)
          rintro _ _ _ ⟨rfl, rfl, rfl⟩
          refine ⟨(fun _ hI => hI.drop 99), ?_⟩
          refine WH.yd (i := 16) (by kernel_rfl) (fun _ o v c a w _ h => (QuietPanic.blk (QuietPanic.then (QuietPanic.then (QuietPanic.blk (QuietPanic.blk (QuietPanic.then (QuietPanic.then (QuietPanic.blk QuietPanic.body)))))))) c o.dst v a w h) rfl (Yd.indexS Try.underlying101 Try.sizeOf98 rfl rfl (by (try dsimp only); omega) (by (try dsimp only); omega) (by first | exact rfl)) rfl ?_
          refine WH.one (i := 17) (by kernel_rfl) (WHo.so rfl (SO.store 0 rfl Try.sizeOf98 rfl rfl rfl rfl (st_two rest (by (try dsimp only); omega) (by (try dsimp only); omega)) (oneB_spec rfl)) rfl ?_)
          rintro _ _ _ ⟨rfl, rfl, rfl⟩
          refine ⟨(fun _ hI => hI.drop 99), ?_⟩
          refine WH.nil (by kernel_rfl) ?_
          refine WP.blkNormal ?_
          refine WP.thenC ?_
          refine WC.ofFr [(0, _), (1, _), (2, _), (3, _), (8, _), (9, _)] ⟨rfl, rfl, rfl, rfl, rfl, rfl, trivial⟩ ?_
          refine WC.region ?_
          refine WL.yd (Yd.move rfl) rfl ?_
          refine WL.yd (Yd.subN rfl rfl (by (try dsimp only); omega) (by (try dsimp only); omega)) rfl ?_
          refine WL.yd (Yd.assign rfl) rfl ?_
          refine WL.nil ?_
          refine WP.again (⟨m4, j - 1, l4⟩ : Nat × Nat × List Nat) ⟨hw4, by simp only; omega, hs3.swp hsw, by simp only; omega⟩ (by simp only; omega) (fun aa ww h => ?_)
          show At _ [(0, .slice (some ⟨bd, 0, none⟩) l.length cap), (1, nt a), (2, nt b), (3, cmpV), (8, nt i), (9, nt (j - 1))] D [(bd, .cells (List.toArray (l4.map ut ++ rest)) 98 (0, 0))] aa ww
          rw [← swp_mem rest hsw]
          exact at_fr h ⟨rfl, rfl, rfl, rfl, rfl, rfl, trivial⟩
      · try simp only [zq1, zq2, zq3, zq4, zq5, zq6, zq7, zq8] at c34
        have hpp : ¬ pop (gt l3 j) < pop (gt l3 (j - 1)) := by omega
        have he := whl_false hw3 (by simp only [hlt, hpp, Option.getD_some, decide_false, Bool.and_false])
        obtain rfl : l2 = l3 := congrArg Prod.snd he
        refine WC.exit ?_
        refine WP.thenExit ?_
        refine WP.thenExit ?_
        refine WP.blkHit ?_
        refine WP.blkNormal ?_
        refine WP.thenC ?_
        refine WC.ofFr [(0, _), (1, _), (2, _), (3, _), (8, _)] ⟨rfl, rfl, rfl, rfl, rfl, trivial⟩ ?_
        refine WC.region ?_
        refine WL.yd (Yd.move rfl) rfl ?_
        refine WL.yd (Yd.addN rfl rfl (by (try dsimp only); omega)) rfl ?_
        refine WL.yd (Yd.assign rfl) rfl ?_
        refine WL.nil ?_
        refine WP.again (⟨m1, i + 1, l2⟩ : Nat × Nat × List Nat) ⟨hw2, hl3, hs3, by simp only; omega⟩ (by simp only; omega) (fun aa ww h => at_fr h ⟨rfl, rfl, rfl, rfl, rfl, trivial⟩)
    · try simp only [zq1, zq2, zq3, zq4, zq5, zq6, zq7, zq8] at g21
      have hja : ¬ a < j := by omega
      have he := whl_false hw3 (by simp [hja])
      obtain rfl : l2 = l3 := congrArg Prod.snd he
      refine WQ.skip rfl rfl rfl ?_
      refine WQ.skip rfl rfl rfl ?_
      refine WQ.skip rfl rfl rfl ?_
      refine WQ.skip rfl rfl rfl ?_
      refine WQ.skip rfl rfl rfl ?_
      refine WQ.skip rfl rfl rfl ?_
      refine WQ.skip rfl rfl rfl ?_
      refine WQ.skip rfl rfl rfl ?_
      refine WQ.skip rfl rfl rfl ?_
      refine WQ.skip rfl rfl rfl ?_
      refine WQ.tail ?_
      refine WL.skip rfl rfl ?_
      refine WL.skip rfl rfl ?_
      refine WL.yd (Yd.pickF rfl rfl) rfl ?_
      refine WL.nil ?_
      refine WP.thenC ?_
      refine WC.condF rfl ?_
      refine WC.exit ?_
      refine WP.thenExit ?_
      refine WP.thenExit ?_
      refine WP.blkHit ?_
      refine WP.blkNormal ?_
      refine WP.thenC ?_
      refine WC.ofFr [(0, _), (1, _), (2, _), (3, _), (8, _)] ⟨rfl, rfl, rfl, rfl, rfl, trivial⟩ ?_
      refine WC.region ?_
      refine WL.yd (Yd.move rfl) rfl ?_
      refine WL.yd (Yd.addN rfl rfl (by (try dsimp only); omega)) rfl ?_
      refine WL.yd (Yd.assign rfl) rfl ?_
      refine WL.nil ?_
      refine WP.again (⟨m1, i + 1, l2⟩ : Nat × Nat × List Nat) ⟨hw2, hl3, hs3, by simp only; omega⟩ (by simp only; omega) (fun aa ww h => at_fr h ⟨rfl, rfl, rfl, rfl, rfl, trivial⟩)
  · try simp only [zq1, zq2, zq3, zq4, zq5, zq6, zq7, zq8] at c14
    have hib : ¬ i < b := by omega
    cases whl_false hw1 (by simpa using hib)
    refine WC.exit ?_
    refine WP.thenExit ?_
    refine WP.thenExit ?_
    refine WP.blkHit ?_
    refine WP.ret0 rfl rfl Try.results107  (fun w1 hI => ⟨_, D, _, rfl, DExt.refl _ _, hI, fun _ h => h, rfl, rfl, rfl⟩)

theorem whl_inv {σ : Type} {c : σ → Bool} {s : σ → Option σ} (I : σ → Prop) (hs : ∀ x y, I x → s x = some y → I y) : ∀ n x r, I x → whl c s n x = some r → I r := by
  intro n
  induction n with
  | zero => intro x r hx h; cases hc : c x with
    | true => simp [whl, hc] at h
    | false => rw [whl_false h hc]; exact hx
  | succ n ih => intro x r hx h; cases hc : c x with
    | true =>
      obtain ⟨m, y, e, h1, h2⟩ := whl_true h hc
      cases e
      exact ih y r (hs x y hx h1) h2
    | false => rw [whl_false h hc]; exact hx
/-- as long, and all small -/
def Ok (n : Nat) (l : List Nat) : Prop := l.length = n ∧ Sm l
theorem Ok.swp {n : Nat} {l l' : List Nat} {i j : Nat} (h : Ok n l) (hs : swp l i j = some l') : Ok n l' := ⟨(swp_spec hs).2.2.2.trans h.1, h.2.swp hs⟩
theorem insIn_ok {n a : Nat} {x y : Nat × List Nat} (hx : Ok n x.2) (h : insIn a x = some y) : Ok n y.2 :=
  whl_inv (fun z : Nat × List Nat => Ok n z.2) (fun u v hu hv => by
    obtain ⟨l4, h1, h2⟩ := Option.map_eq_some_iff.1 hv
    subst h2; exact hu.swp h1) _ _ _ hx h
theorem insS_ok {n a b : Nat} {l l' : List Nat} (hx : Ok n l) (h : insS a b l = some l') : Ok n l' := by
  obtain ⟨r, h1, h2⟩ := Option.map_eq_some_iff.1 h
  subst h2
  exact whl_inv (fun z : Nat × List Nat => Ok n z.2) (fun u v hu hv => by
    obtain ⟨y, h3, h4⟩ := Option.map_eq_some_iff.1 hv
    subst h4; exact insIn_ok (x := (u.1, u.2)) (y := y) hu h3) _ _ _ (show Ok n ((a + 1, l) : Nat × List Nat).2 from hx) h1
theorem swapR_ok {n a b k : Nat} {l l' : List Nat} (hx : Ok n l) (h : swapR a b k l = some l') : Ok n l' := by
  obtain ⟨r, h1, h2⟩ := Option.map_eq_some_iff.1 h
  subst h2
  exact whl_inv (fun z : Nat × List Nat => Ok n z.2) (fun u v hu hv => by
    obtain ⟨y, h3, h4⟩ := Option.map_eq_some_iff.1 hv
    subst h4; exact hu.swp h3) _ _ _ (show Ok n ((0, l) : Nat × List Nat).2 from hx) h1
theorem upS_ok {n a b : Nat} {l l' : List Nat} (hx : Ok n l) (h : upS a b l = some l') : Ok n l' := by
  obtain ⟨r, h1, h2⟩ := Option.map_eq_some_iff.1 h
  subst h2
  exact whl_inv (fun z : Nat × List Nat => Ok n z.2) (fun u v hu hv => by
    obtain ⟨y, h3, h4⟩ := Option.map_eq_some_iff.1 hv
    subst h4; exact hu.swp h3) _ _ _ (show Ok n ((a, l) : Nat × List Nat).2 from hx) h1
theorem downS_ok {n a b : Nat} {l l' : List Nat} (hx : Ok n l) (h : downS a b l = some l') : Ok n l' := by
  obtain ⟨r, h1, h2⟩ := Option.map_eq_some_iff.1 h
  subst h2
  exact whl_inv (fun z : Nat × List Nat => Ok n z.2) (fun u v hu hv => by
    obtain ⟨y, h3, h4⟩ := Option.map_eq_some_iff.1 hv
    subst h4; exact hu.swp h3) _ _ _ (show Ok n ((a, l) : Nat × List Nat).2 from hx) h1
/-- what a rotation does in a round -/
def rotStep (m : Nat) (x : Nat × Nat × List Nat) : Option (Nat × Nat × List Nat) :=
  if x.1 ≤ m then (if x.2.1 < x.1 then (swapR (m - x.1) m x.2.1 x.2.2).map fun l => (x.1 - x.2.1, x.2.1, l) else (swapR (m - x.1) (m + x.2.1 - x.1) x.1 x.2.2).map fun l => (x.1, x.2.1 - x.1, l)) else none
theorem rotStep_ok {n m : Nat} {u v : Nat × Nat × List Nat} (hu : Ok n u.2.2) (hv : rotStep m u = some v) : Ok n v.2.2 := by
  unfold rotStep at hv
  split at hv
  · split at hv <;> (obtain ⟨y, h3, h4⟩ := Option.map_eq_some_iff.1 hv; subst h4; exact swapR_ok hu h3)
  · cases hv
theorem rotS_eq {a m b : Nat} {l l' : List Nat} (h : rotS a m b l = some l') : a ≤ m ∧ m ≤ b ∧ ∃ x, whl (fun x : Nat × Nat × List Nat => decide (x.1 ≠ x.2.1)) (rotStep m) F (m - a, b - m, l) = some x ∧ x.1 ≤ m ∧ swapR (m - x.1) m x.1 x.2.2 = some l' := by
  unfold rotS at h
  split at h
  · rename_i hab
    obtain ⟨x, h1, h2⟩ := Option.bind_eq_some_iff.1 h
    split at h2
    · rename_i hx; exact ⟨hab.1, hab.2, x, h1, hx, h2⟩
    · cases h2
  · cases h
theorem rotS_ok {n a m b : Nat} {l l' : List Nat} (hx : Ok n l) (h : rotS a m b l = some l') : Ok n l' := by
  obtain ⟨_, _, x, h1, _, h2⟩ := rotS_eq h
  exact swapR_ok (whl_inv (fun z : Nat × Nat × List Nat => Ok n z.2.2) (fun u v hu hv => rotStep_ok hu hv) _ _ _ (show Ok n ((m - a, b - m, l) : Nat × Nat × List Nat).2.2 from hx) h1) h2

set_option maxRecDepth 100000 in
set_option maxHeartbeats 1000000 in
theorem rot_g (l l' : List Nat) (rest : List Value) (bd cap n0 : Nat) (D : Imm) (w : World) (hn0 : l.length = n0) (hl : n0 ≤ 100) (a m b : Nat) (cv : Value) (hab : a ≤ 3000 ∧ m ≤ 3000 ∧ b ≤ 3000) (hok : Sm l) (h : rotS a m b l = some l') (hI0 : Inv D [(bd, datO l rest)] [bd] w w) : Alters Try.prog 109 [.slice (some ⟨bd, 0, none⟩) n0 cap, nt a, nt m, nt b, cv] w D [bd] (fun v D' hpc' => v = .tuple #[] ∧ D = D' ∧ hpc' = [(bd, datO l' rest)]) := by
  unfold Alters
  subst hn0
  obtain ⟨ham, hmb, x9, hw9, him9, hsw9⟩ := rotS_eq h
  refine enter Try.func109 rfl 58 Try.ntmps109 (Nat.le_of_ble_eq_true rfl) hI0 ?_
  refine WC.seq ?_
  refine WC.ofFr [(0, _), (1, _), (2, _), (3, _), (4, _)] ⟨rfl, rfl, rfl, rfl, rfl, trivial⟩ ?_
  refine WC.region ?_
  refine WL.yd (Yd.move rfl) rfl ?_
  refine WL.yd (Yd.move rfl) rfl ?_
  refine WL.yd (Yd.subN rfl rfl (by (try dsimp only); omega) (by (try dsimp only); omega)) rfl ?_
  refine WL.yd (Yd.assign rfl) rfl ?_
  refine WL.nil ?_
  refine WP.thenC ?_
  refine WC.seq ?_
  refine WC.ofFr [(10, _), (0, _), (2, _), (3, _), (4, _)] ⟨rfl, rfl, rfl, rfl, rfl, trivial⟩ ?_
  refine WC.region ?_
  refine WL.yd (Yd.move rfl) rfl ?_
  refine WL.yd (Yd.move rfl) rfl ?_
  refine WL.yd (Yd.subN rfl rfl (by (try dsimp only); omega) (by (try dsimp only); omega)) rfl ?_
  refine WL.yd (Yd.assign rfl) rfl ?_
  refine WL.nil ?_
  refine WP.thenC ?_
  refine WC.seq ?_
  refine WC.block ?_
  refine WC.loop (fun y : Nat × Nat × Nat × List Nat => [(0, .slice (some ⟨bd, 0, none⟩) l.length cap), (2, nt m), (4, cv), (10, nt y.2.1), (11, nt y.2.2.1)]) (fun y => [(bd, datO y.2.2.2 rest)]) (fun _ => D) (fun y => whl (fun x : Nat × Nat × List Nat => decide (x.1 ≠ x.2.1)) (rotStep m) y.1 y.2 = some x9 ∧ Ok l.length y.2.2.2 ∧ y.2.1 ≤ 3000 ∧ y.2.2.1 ≤ 3000) (fun y => y.1) (⟨F, m - a, b - m, l⟩ : Nat × Nat × Nat × List Nat) ⟨hw9, ⟨rfl, hok⟩, by simp only; omega, by simp only; omega⟩ (fun a w h => at_fr h ⟨rfl, rfl, rfl, rfl, rfl, trivial⟩) ?_
  rintro ⟨k1, i, j, l1⟩ ⟨hw1, hok1, hi1, hj1⟩
  dsimp only at hw1 hok1 hi1 hj1
  refine WC.seq ?_
  refine WC.seq ?_
  refine WC.ofFr [(0, _), (2, _), (4, _), (10, _), (11, _)] ⟨rfl, rfl, rfl, rfl, rfl, trivial⟩ ?_
  refine WC.region ?_
  refine WL.yd (Yd.move rfl) rfl ?_
  refine WL.yd (Yd.move rfl) rfl ?_
  refine WL.yd (Yd.neq rfl rfl) rfl ?_
  refine WL.nil ?_
  refine WP.thenC ?_
  refine WC.cond rfl (fun c20 => ?_) (fun c20 => ?_)
  · try simp only [zq1, zq2, zq3, zq4, zq5, zq6, zq7, zq8] at c20
    have hij : ¬ i = j := by omega
    obtain ⟨m1, ⟨i2, j2, l2⟩, rfl, hs, hw2⟩ := whl_true hw1 (by simpa using hij)
    have hok2 := rotStep_ok (u := (i, j, l1)) hok1 hs
    unfold rotStep at hs
    dsimp only at hs hw2 hok2
    have him : i ≤ m := by
      apply Decidable.byContradiction; intro hh; rw [if_neg hh] at hs; cases hs
    rw [if_pos him] at hs
    refine WC.skip ?_
    refine WP.thenC ?_
    refine WC.block ?_
    refine WC.seq ?_
    refine WC.ofFr [(0, _), (2, _), (4, _), (10, _), (11, _)] ⟨rfl, rfl, rfl, rfl, rfl, trivial⟩ ?_
    refine WC.region ?_
    refine WL.yd (Yd.move rfl) rfl ?_
    refine WL.yd (Yd.move rfl) rfl ?_
    refine WL.yd (Yd.gtr rfl rfl) rfl ?_
    refine WL.nil ?_
    refine WP.thenC ?_
    refine WC.cond rfl (fun c23 => ?_) (fun c23 => ?_)
    · try simp only [zq1, zq2, zq3, zq4, zq5, zq6, zq7, zq8] at c23
      have hji : j < i := by omega
      rw [if_pos hji] at hs
      obtain ⟨l3, hsw, hs⟩ := Option.map_eq_some_iff.1 hs
      cases hs
      refine WC.seq ?_
      refine WC.ofFr [(0, _), (2, _), (4, _), (10, _), (11, _)] ⟨rfl, rfl, rfl, rfl, rfl, trivial⟩ ?_
      refine WC.region ?_
      refine WL.yd (Yd.move rfl) rfl ?_
      refine WL.yd (Yd.move rfl) rfl ?_
      refine WL.yd (Yd.move rfl) rfl ?_
      refine WL.yd (Yd.subN rfl rfl (by (try dsimp only); omega) (by (try dsimp only); omega)) rfl ?_
      refine WL.yd (Yd.move rfl) rfl ?_
      refine WL.yd (Yd.move rfl) rfl ?_
      refine WL.yd (Yd.move rfl) rfl ?_
      refine WL.so (SO.alters (own := []) (hpc := [_]) (S1 := [bd]) (fun _ h => h) (fun h => h) (fun _ h => h) (fun _ h => h) (Enters.func Try.call110 rfl) (fun w1 hI => swapR_g l1 l2 rest bd cap l.length D w1 hok1.1 (by omega) (m - i) m j cv (by omega) hsw hI)) rfl ?_
      rintro _ _ _ ⟨_, _, ⟨rfl, rfl, rfl⟩, rfl⟩
      refine WL.nil ?_
      refine WP.thenC ?_
      refine WC.ofFr [(0, _), (2, _), (4, _), (10, _), (11, _)] ⟨rfl, rfl, rfl, rfl, rfl, trivial⟩ ?_
      refine WC.region ?_
      refine WL.yd (Yd.move rfl) rfl ?_
      refine WL.yd (Yd.move rfl) rfl ?_
      refine WL.yd (Yd.subN rfl rfl (by (try dsimp only); omega) (by (try dsimp only); omega)) rfl ?_
      refine WL.yd (Yd.assign rfl) rfl ?_
      refine WL.nil ?_
      refine WP.blkNormal ?_
      first
        | exact WP.again (⟨m1, i - j, j, l2⟩ : Nat × Nat × Nat × List Nat) ⟨hw2, hok2, by simp only; omega, by simp only; omega⟩ (by simp only; omega) (fun aa ww h => at_fr h ⟨rfl, rfl, rfl, rfl, rfl, trivial⟩)
        | exact WP.again (⟨m1, i, j - i, l2⟩ : Nat × Nat × Nat × List Nat) ⟨hw2, hok2, by simp only; omega, by simp only; omega⟩ (by simp only; omega) (fun aa ww h => at_fr h ⟨rfl, rfl, rfl, rfl, rfl, trivial⟩)
    · try simp only [zq1, zq2, zq3, zq4, zq5, zq6, zq7, zq8] at c23
      have hji : ¬ j < i := by omega
      rw [if_neg hji] at hs
      obtain ⟨l3, hsw, hs⟩ := Option.map_eq_some_iff.1 hs
      cases hs
      refine WC.seq ?_
      refine WC.ofFr [(0, _), (2, _), (4, _), (10, _), (11, _)] ⟨rfl, rfl, rfl, rfl, rfl, trivial⟩ ?_
      refine WC.region ?_
      refine WL.yd (Yd.move rfl) rfl ?_
      refine WL.yd (Yd.move rfl) rfl ?_
      refine WL.yd (Yd.move rfl) rfl ?_
      refine WL.yd (Yd.subN rfl rfl (by (try dsimp only); omega) (by (try dsimp only); omega)) rfl ?_
      refine WL.yd (Yd.move rfl) rfl ?_
      refine WL.yd (Yd.move rfl) rfl ?_
      refine WL.yd (Yd.addN rfl rfl (by (try dsimp only); omega)) rfl ?_
      refine WL.yd (Yd.move rfl) rfl ?_
      refine WL.yd (Yd.subN rfl rfl (by (try dsimp only); omega) (by (try dsimp only); omega)) rfl ?_
      refine WL.yd (Yd.move rfl) rfl ?_
      refine WL.yd (Yd.move rfl) rfl ?_
      refine WL.so (SO.alters (own := []) (hpc := [_]) (S1 := [bd]) (fun _ h => h) (fun h => h) (fun _ h => h) (fun _ h => h) (Enters.func Try.call110 rfl) (fun w1 hI => swapR_g l1 l2 rest bd cap l.length D w1 hok1.1 (by omega) (m - i) (m + j - i) i cv (by omega) hsw hI)) rfl ?_
      rintro _ _ _ ⟨_, _, ⟨rfl, rfl, rfl⟩, rfl⟩
      refine WL.nil ?_
      refine WP.thenC ?_
      refine WC.ofFr [(0, _), (2, _), (4, _), (10, _), (11, _)] ⟨rfl, rfl, rfl, rfl, rfl, trivial⟩ ?_
      refine WC.region ?_
      refine WL.yd (Yd.move rfl) rfl ?_
      refine WL.yd (Yd.move rfl) rfl ?_
      refine WL.yd (Yd.subN rfl rfl (by (try dsimp only); omega) (by (try dsimp only); omega)) rfl ?_
      refine WL.yd (Yd.assign rfl) rfl ?_
      refine WL.nil ?_
      refine WP.blkNormal ?_
      first
        | exact WP.again (⟨m1, i - j, j, l2⟩ : Nat × Nat × Nat × List Nat) ⟨hw2, hok2, by simp only; omega, by simp only; omega⟩ (by simp only; omega) (fun aa ww h => at_fr h ⟨rfl, rfl, rfl, rfl, rfl, trivial⟩)
        | exact WP.again (⟨m1, i, j - i, l2⟩ : Nat × Nat × Nat × List Nat) ⟨hw2, hok2, by simp only; omega, by simp only; omega⟩ (by simp only; omega) (fun aa ww h => at_fr h ⟨rfl, rfl, rfl, rfl, rfl, trivial⟩)
  · try simp only [zq1, zq2, zq3, zq4, zq5, zq6, zq7, zq8] at c20
    have hij : i = j := by omega
    have he := whl_false hw1 (by simpa using hij)
    cases he
    have hsw := hsw9
    have him := him9
    dsimp only at hsw him
    refine WC.exit ?_
    refine WP.thenExit ?_
    refine WP.thenExit ?_
    refine WP.blkHit ?_
    refine WP.thenC ?_
    refine WC.ofFr [(0, _), (2, _), (4, _), (10, _)] ⟨rfl, rfl, rfl, rfl, trivial⟩ ?_
    refine WC.region ?_
    refine WL.yd (Yd.move rfl) rfl ?_
    refine WL.yd (Yd.move rfl) rfl ?_
    refine WL.yd (Yd.move rfl) rfl ?_
    refine WL.yd (Yd.subN rfl rfl (by (try dsimp only); omega) (by (try dsimp only); omega)) rfl ?_
    refine WL.yd (Yd.move rfl) rfl ?_
    refine WL.yd (Yd.move rfl) rfl ?_
    refine WL.yd (Yd.move rfl) rfl ?_
    refine WL.so (SO.alters (own := []) (hpc := [_]) (S1 := [bd]) (fun _ h => h) (fun h => h) (fun _ h => h) (fun _ h => h) (Enters.func Try.call110 rfl) (fun w1 hI => swapR_g l1 l' rest bd cap l.length D w1 hok1.1 (by omega) (m - i) m i cv (by omega) hsw hI)) rfl ?_
    rintro _ _ _ ⟨_, _, ⟨rfl, rfl, rfl⟩, rfl⟩
    refine WL.nil ?_
    refine WP.ret0 rfl rfl Try.results109  (fun w1 hI => ⟨_, D, _, rfl, DExt.refl _ _, hI, fun _ h => h, rfl, rfl, rfl⟩)

end Go.Proofs.Ytidjdonppfegiaa
namespace Go.Proofs.Ytidjdonppfegiaa
open Go.W Go.Dp

theorem lessAt_inv {l : List Nat} {i j : Nat} {b : Bool} (h : lessAt l i j = some b) : i < l.length ∧ j < l.length ∧ gt l i < 32 ∧ gt l j < 32 ∧ b = decide (pop (gt l i) < pop (gt l j)) := by
  unfold lessAt at h
  split at h
  · rename_i hh; cases h; exact ⟨hh.1, hh.2.1, hh.2.2.1, hh.2.2.2, rfl⟩
  · cases h
/-- a round of a halving -/
def halfStep (p : Nat → Option Bool) (x : Nat × Nat) : Option (Nat × Nat) := (p ((x.1 + x.2) / 2)).map fun b => if b then ((x.1 + x.2) / 2 + 1, x.2) else (x.1, (x.1 + x.2) / 2)
theorem halve_eq {p : Nat → Option Bool} {i j r : Nat} (h : halve p i j = some r) : ∃ s, whl (fun x : Nat × Nat => decide (x.1 < x.2)) (halfStep p) F (i, j) = some (r, s) := by
  obtain ⟨⟨r', s⟩, h1, h2⟩ := Option.map_eq_some_iff.1 h
  cases h2
  exact ⟨s, h1⟩
theorem half_true {p : Nat → Option Bool} {n i j r s : Nat} (h : whl (fun x : Nat × Nat => decide (x.1 < x.2)) (halfStep p) n (i, j) = some (r, s)) (hij : i < j) : ∃ m b, n = m + 1 ∧ p ((i + j) / 2) = some b ∧
    (b = true → whl (fun x : Nat × Nat => decide (x.1 < x.2)) (halfStep p) m ((i + j) / 2 + 1, j) = some (r, s)) ∧ (b = false → whl (fun x : Nat × Nat => decide (x.1 < x.2)) (halfStep p) m (i, (i + j) / 2) = some (r, s)) := by
  obtain ⟨m, y, e, h1, h2⟩ := whl_true h (by simpa using hij)
  obtain ⟨b, h3, h4⟩ := Option.map_eq_some_iff.1 h1
  subst h4
  exact ⟨m, b, e, h3, fun hb => by rw [hb] at h2; exact h2, fun hb => by rw [hb] at h2; exact h2⟩
theorem half_false {p : Nat → Option Bool} {n i j r s : Nat} (h : whl (fun x : Nat × Nat => decide (x.1 < x.2)) (halfStep p) n (i, j) = some (r, s)) (hij : ¬ i < j) : r = i := by
  have := whl_false h (by simpa using hij)
  exact congrArg Prod.fst this
/-- what the merge does: its three ways -/
theorem symM_eq {f a m b : Nat} {l l' : List Nat} (h : symM (f + 1) a m b l = some l') : a < m ∧ m < b ∧ b ≤ 1000 ∧
    ((m - a = 1 ∧ ∃ i, halve (fun h => lessAt l h a) m b = some i ∧ upS a i l = some l') ∨
     (m - a ≠ 1 ∧ b - m = 1 ∧ ∃ i, halve (fun h => (lessAt l m h).map (!·)) a m = some i ∧ downS m i l = some l') ∨
     (m - a ≠ 1 ∧ b - m ≠ 1 ∧ ∃ s r st l1 l2, (if (a + b) / 2 < m then (if b ≤ (a + b) / 2 + m then some ((a + b) / 2 + m - b, (a + b) / 2) else none) else some (a, m)) = some (s, r) ∧
        halve (fun c => if c + 1 ≤ (a + b) / 2 + m then (lessAt l ((a + b) / 2 + m - 1 - c) c).map (!·) else none) s r = some st ∧ st ≤ (a + b) / 2 + m ∧
        (if st < m ∧ m < (a + b) / 2 + m - st then rotS st m ((a + b) / 2 + m - st) l else some l) = some l1 ∧
        (if a < st ∧ st < (a + b) / 2 then symM f a st ((a + b) / 2) l1 else some l1) = some l2 ∧
        (if (a + b) / 2 < (a + b) / 2 + m - st ∧ (a + b) / 2 + m - st < b then symM f ((a + b) / 2) ((a + b) / 2 + m - st) b l2 else some l2) = some l')) := by
  simp only [symM] at h
  split at h
  · cases h
  · rename_i hb
    have hb' := Decidable.not_not.1 hb
    refine ⟨hb'.1, hb'.2.1, hb'.2.2, ?_⟩
    split at h
    · rename_i h1
      obtain ⟨i, h2, h3⟩ := Option.bind_eq_some_iff.1 h
      exact .inl ⟨h1, i, h2, h3⟩
    · rename_i h1
      split at h
      · rename_i h2
        obtain ⟨i, h3, h4⟩ := Option.bind_eq_some_iff.1 h
        exact .inr (.inl ⟨h1, h2, i, h3, h4⟩)
      · rename_i h2
        obtain ⟨⟨s, r⟩, h3, h⟩ := Option.bind_eq_some_iff.1 h
        obtain ⟨st, h4, h⟩ := Option.bind_eq_some_iff.1 h
        split at h
        · cases h
        · rename_i h5
          obtain ⟨l1, h6, h⟩ := Option.bind_eq_some_iff.1 h
          obtain ⟨l2, h7, h8⟩ := Option.bind_eq_some_iff.1 h
          exact .inr (.inr ⟨h1, h2, s, r, st, l1, l2, h3, h4, by omega, h6, h7, h8⟩)
theorem symM_ok {n : Nat} : ∀ f a m b l l', Ok n l → symM f a m b l = some l' → Ok n l' := by
  intro f
  induction f with
  | zero => intro a m b l l' _ h; simp [symM] at h
  | succ f ih =>
    intro a m b l l' hok h
    obtain ⟨_, _, _, ⟨_, i, _, h1⟩ | ⟨_, _, i, _, h1⟩ | ⟨_, _, s, r, st, l1, l2, _, _, _, h6, h7, h8⟩⟩ := symM_eq h
    · exact upS_ok hok h1
    · exact downS_ok hok h1
    · have k1 : Ok n l1 := by
        split at h6
        · exact rotS_ok hok h6
        · cases h6; exact hok
      have k2 : Ok n l2 := by
        split at h7
        · exact ih _ _ _ _ _ k1 h7
        · cases h7; exact k1
      split at h8
      · exact ih _ _ _ _ _ k2 h8
      · cases h8; exact k2

set_option maxRecDepth 100000 in
set_option maxHeartbeats 1000000 in
theorem sym_step (f : Nat) (rest : List Value) (bd cap n0 : Nat) (D : Imm) (hl : n0 ≤ 100) (ih : ∀ a m b l l' w, Ok n0 l → symM f a m b l = some l' → Inv D [(bd, datO l rest)] [bd] w w → Alters Try.prog 108 [.slice (some ⟨bd, 0, none⟩) n0 cap, nt a, nt m, nt b, cmpV] w D [bd] (fun v D' hpc' => v = .tuple #[] ∧ D = D' ∧ hpc' = [(bd, datO l' rest)]))
    (a m b : Nat) (l l' : List Nat) (w : World) (hok : Ok n0 l) (h : symM (f + 1) a m b l = some l') (hI0 : Inv D [(bd, datO l rest)] [bd] w w) : Alters Try.prog 108 [.slice (some ⟨bd, 0, none⟩) n0 cap, nt a, nt m, nt b, cmpV] w D [bd] (fun v D' hpc' => v = .tuple #[] ∧ D = D' ∧ hpc' = [(bd, datO l' rest)]) := by
  unfold Alters
  obtain ⟨ham, hmb, hb9, hw3⟩ := symM_eq h
  refine enter Try.func108 rfl 220 Try.ntmps108 (Nat.le_of_ble_eq_true rfl) hI0 ?_
  refine WC.seq ?_
  refine WC.seq ?_
  refine WC.ofFr [(0, _), (1, _), (2, _), (3, _), (4, _)] ⟨rfl, rfl, rfl, rfl, rfl, trivial⟩ ?_
  refine WC.region ?_
  refine WL.yd (Yd.move rfl) rfl ?_
  refine WL.yd (Yd.move rfl) rfl ?_
  refine WL.yd (Yd.subN rfl rfl (by (try dsimp only); omega) (by (try dsimp only); omega)) rfl ?_
  refine WL.yd (Yd.eql rfl rfl) rfl ?_
  refine WL.nil ?_
  refine WP.thenC ?_
  refine WC.cond rfl (fun c28 => ?_) (fun c28 => ?_)
  · try simp only [zq1, zq2, zq3, zq4, zq5, zq6, zq7, zq8] at c28
    have h28 : m - a = 1 := by omega
    obtain ⟨r9, hh9, hu9⟩ : ∃ i, halve (fun h => lessAt l h a) m b = some i ∧ upS a i l = some l' := by
      rcases hw3 with h1 | h1 | h1
      · exact h1.2
      · exact absurd h28 h1.1
      · exact absurd h28 h1.1
    obtain ⟨s9, hh9⟩ := halve_eq hh9
    refine WC.seq ?_
    refine WC.ofFr [(0, _), (1, _), (2, _), (3, _), (4, _)] ⟨rfl, rfl, rfl, rfl, rfl, trivial⟩ ?_
    refine WC.region ?_
    refine WL.yd (Yd.move rfl) rfl ?_
    refine WL.yd (Yd.assign rfl) rfl ?_
    refine WL.nil ?_
    refine WP.thenC ?_
    refine WC.seq ?_
    refine WC.ofFr [(10, _), (0, _), (1, _), (2, _), (3, _), (4, _)] ⟨rfl, rfl, rfl, rfl, rfl, rfl, trivial⟩ ?_
    refine WC.region ?_
    refine WL.yd (Yd.move rfl) rfl ?_
    refine WL.yd (Yd.assign rfl) rfl ?_
    refine WL.nil ?_
    refine WP.thenC ?_
    refine WC.seq ?_
    refine WC.block ?_
    refine WC.loop (fun y : Nat × Nat × Nat => [(0, .slice (some ⟨bd, 0, none⟩) n0 cap), (1, nt a), (4, cmpV), (10, nt y.2.1), (11, nt y.2.2)]) (fun _ => [(bd, datO l rest)]) (fun _ => D) (fun y => whl (fun x : Nat × Nat => decide (x.1 < x.2)) (halfStep (fun h => lessAt l h a)) y.1 (y.2.1, y.2.2) = some (r9, s9) ∧ m ≤ y.2.1 ∧ y.2.1 ≤ 3001 ∧ y.2.2 ≤ 3000) (fun y => y.1) (⟨F, m, b⟩ : Nat × Nat × Nat) ⟨hh9, by simp only; omega, by simp only; omega, by simp only; omega⟩ (fun a w h => at_fr h ⟨rfl, rfl, rfl, rfl, rfl, trivial⟩) ?_
    rintro ⟨k9, i, j⟩ ⟨hw1, hi1, hi2, hj1⟩
    dsimp only at hw1 hi1 hi2 hj1
    refine WC.seq ?_
    refine WC.seq ?_
    refine WC.ofFr [(0, _), (1, _), (4, _), (10, _), (11, _)] ⟨rfl, rfl, rfl, rfl, rfl, trivial⟩ ?_
    refine WC.region ?_
    refine WL.yd (Yd.move rfl) rfl ?_
    refine WL.yd (Yd.move rfl) rfl ?_
    refine WL.yd (Yd.lss rfl rfl) rfl ?_
    refine WL.nil ?_
    refine WP.thenC ?_
    refine WC.cond rfl (fun c33 => ?_) (fun c33 => ?_)
    · try simp only [zq1, zq2, zq3, zq4, zq5, zq6, zq7, zq8] at c33
      have hij : i < j := by omega
      obtain ⟨k1, bq, rfl, hp, hT, hF⟩ := half_true hw1 hij
      obtain ⟨hx1, hx2, hx3, hx4, hbq⟩ := lessAt_inv hp
      have hln := hok.1
      refine WC.skip ?_
      refine WP.thenC ?_
      refine WC.block ?_
      refine WC.seq ?_
      refine WC.ofFr [(0, _), (1, _), (4, _), (10, _), (11, _)] ⟨rfl, rfl, rfl, rfl, rfl, trivial⟩ ?_
      refine WC.region ?_
      refine WL.yd (Yd.move rfl) rfl ?_
      refine WL.yd (Yd.move rfl) rfl ?_
      refine WL.yd (Yd.addN rfl rfl (by (try dsimp only); omega)) rfl ?_
      refine WL.yd (Yd.convNU Try.underlying3 Try.underlying98 rfl (by (try dsimp only); omega)) rfl ?_
      refine WL.yd (Yd.half rfl rfl) rfl ?_
      refine WL.yd (Yd.convUN Try.underlying98 Try.underlying3 rfl (by (try dsimp only); omega)) rfl ?_
      refine WL.yd (Yd.assign rfl) rfl ?_
      refine WL.nil ?_
      refine WP.thenC ?_
      refine WC.seq ?_
      refine WC.ofFr [(12, _), (0, _), (1, _), (4, _), (10, _), (11, _)] ⟨rfl, rfl, rfl, rfl, rfl, rfl, trivial⟩ ?_
      refine WC.tail 9 [0, 1, 2, 3, 4, 5, 6, 7, 8] rfl (by kernel_rfl) (by kernel_rfl)  ?_
      refine WQ.q rfl (Yd.qt (Yd.move rfl)) rfl ?_
      refine WQ.q rfl (Yd.qt (Yd.move rfl)) rfl ?_
      refine WQ.q rfl (Yd.qt (Yd.move rfl)) rfl ?_
      refine WQ.q rfl (Yd.qt (Yd.indexS Try.underlying101 Try.sizeOf98 rfl rfl (by (try dsimp only); omega) (by (try dsimp only); omega) (by first | exact rfl))) rfl ?_
      refine WQ.q rfl (Yd.qt (Yd.load1 Try.isAgg98 rfl (by first | exact (rd_data (k := 0) rfl (by (try dsimp only); omega))))) rfl ?_
      refine WQ.q rfl (Yd.qt (Yd.move rfl)) rfl ?_
      refine WQ.q rfl (Yd.qt (Yd.move rfl)) rfl ?_
      refine WQ.q rfl (Yd.qt (Yd.indexS Try.underlying101 Try.sizeOf98 rfl rfl (by (try dsimp only); omega) (by (try dsimp only); omega) (by first | exact rfl))) rfl ?_
      refine WQ.q rfl (Yd.qt (Yd.load1 Try.isAgg98 rfl (by first | exact (rd_data (k := 0) rfl (by (try dsimp only); omega))))) rfl ?_
      refine WQ.tail ?_
      refine WL.so (SO.call (Enters.val Try.call100 rfl rfl) (fun w hI => cmp_g _ _ hx3 hx4 _)) rfl ?_
      rintro _ _ _ ⟨rfl, rfl, rfl⟩
      refine WL.yd (Yd.lss rfl rfl) rfl ?_
      refine WL.nil ?_
      refine WP.thenC ?_
      refine WC.cond rfl (fun c50 => ?_) (fun c50 => ?_)
      · try simp only [zq1, zq2, zq3, zq4, zq5, zq6, zq7, zq8] at c50
        have hbq1 : bq = true := by rw [hbq]; simp only [decide_eq_true_eq]; omega
        refine WC.ofFr [(12, _), (0, _), (1, _), (4, _), (10, _), (11, _)] ⟨rfl, rfl, rfl, rfl, rfl, rfl, trivial⟩ ?_
        refine WC.region ?_
        refine WL.yd (Yd.move rfl) rfl ?_
        refine WL.yd (Yd.addN rfl rfl (by (try dsimp only); omega)) rfl ?_
        refine WL.yd (Yd.assign rfl) rfl ?_
        refine WL.nil ?_
        refine WP.blkNormal ?_
        first
          | exact WP.again (⟨k1, (i + j) / 2 + 1, j⟩ : Nat × Nat × Nat) ⟨hT hbq1, by simp only; omega, by simp only; omega, by simp only; omega⟩ (by simp only; omega) (fun aa ww h => at_fr h ⟨rfl, rfl, rfl, rfl, rfl, trivial⟩)
          | exact WP.again (⟨k1, i, (i + j) / 2⟩ : Nat × Nat × Nat) ⟨hF hbq1, by simp only; omega, by simp only; omega, by simp only; omega⟩ (by simp only; omega) (fun aa ww h => at_fr h ⟨rfl, rfl, rfl, rfl, rfl, trivial⟩)
      · try simp only [zq1, zq2, zq3, zq4, zq5, zq6, zq7, zq8] at c50
        have hbq1 : bq = false := by rw [hbq]; simp only [decide_eq_false_iff_not]; omega
        refine WC.ofFr [(12, _), (0, _), (1, _), (4, _), (10, _), (11, _)] ⟨rfl, rfl, rfl, rfl, rfl, rfl, trivial⟩ ?_
        refine WC.region ?_
        refine WL.yd (Yd.move rfl) rfl ?_
        refine WL.yd (Yd.assign rfl) rfl ?_
        refine WL.nil ?_
        refine WP.blkNormal ?_
        first
          | exact WP.again (⟨k1, (i + j) / 2 + 1, j⟩ : Nat × Nat × Nat) ⟨hT hbq1, by simp only; omega, by simp only; omega, by simp only; omega⟩ (by simp only; omega) (fun aa ww h => at_fr h ⟨rfl, rfl, rfl, rfl, rfl, trivial⟩)
          | exact WP.again (⟨k1, i, (i + j) / 2⟩ : Nat × Nat × Nat) ⟨hF hbq1, by simp only; omega, by simp only; omega, by simp only; omega⟩ (by simp only; omega) (fun aa ww h => at_fr h ⟨rfl, rfl, rfl, rfl, rfl, trivial⟩)
    · try simp only [zq1, zq2, zq3, zq4, zq5, zq6, zq7, zq8] at c33
      have hij : ¬ i < j := by omega
      obtain rfl : r9 = i := half_false hw1 hij
      refine WC.exit ?_
      refine WP.thenExit ?_
      refine WP.thenExit ?_
      refine WP.blkHit ?_
      refine WP.thenC ?_
      refine WC.seq ?_
      refine WC.seq ?_
      refine WC.ofFr [(0, _), (1, _), (4, _), (10, _)] ⟨rfl, rfl, rfl, rfl, trivial⟩ ?_
      refine WC.region ?_
      refine WL.yd (Yd.move rfl) rfl ?_
      refine WL.yd (Yd.assign rfl) rfl ?_
      refine WL.nil ?_
      refine WP.thenC ?_
      refine WC.block ?_
      obtain ⟨⟨k8, l8⟩, hu8, rfl⟩ := Option.map_eq_some_iff.1 hu9
      refine WC.loop (fun y : Nat × Nat × List Nat => [(0, .slice (some ⟨bd, 0, none⟩) n0 cap), (10, nt r9), (13, nt y.2.1)]) (fun y => [(bd, datO y.2.2 rest)]) (fun _ => D) (fun y => whl (fun x : Nat × List Nat => decide ((x.1 : Int) < (r9 : Int) - 1)) (fun x => (swp x.2 x.1 (x.1 + 1)).map fun l => (x.1 + 1, l)) y.1 y.2 = some (k8, l8) ∧ Ok n0 y.2.2 ∧ y.2.1 ≤ 1001) (fun y => y.1) (⟨F, a, l⟩ : Nat × Nat × List Nat) ⟨hu8, hok, by simp only; omega⟩ (fun a w h => at_fr h ⟨rfl, rfl, rfl, trivial⟩) ?_
      rintro ⟨m4, k, l1⟩ ⟨hw4, hok1, hk1⟩
      dsimp only at hw4 hok1 hk1
      have hln1 := hok1.1
      refine WC.seq ?_
      refine WC.seq ?_
      refine WC.ofFr [(0, _), (10, _), (13, _)] ⟨rfl, rfl, rfl, trivial⟩ ?_
      refine WC.region ?_
      refine WL.yd (Yd.move rfl) rfl ?_
      refine WL.yd (Yd.move rfl) rfl ?_
      refine WL.yd (Yd.subN rfl rfl (by (try dsimp only); omega) (by (try dsimp only); omega)) rfl ?_
      refine WL.yd (Yd.lss rfl rfl) rfl ?_
      refine WL.nil ?_
      refine WP.thenC ?_
      refine WC.cond rfl (fun c58 => ?_) (fun c58 => ?_)
      · try simp only [zq1, zq2, zq3, zq4, zq5, zq6, zq7, zq8] at c58
        have hk8 : (k : Int) < (r9 : Int) - 1 := by omega
        obtain ⟨m1, ⟨k2, l2⟩, rfl, hs, hw2⟩ := whl_true hw4 (by simpa using hk8)
        obtain ⟨l2, hsw, hs⟩ := Option.map_eq_some_iff.1 hs
        cases hs
        dsimp only at hsw hw2
        obtain ⟨hi5, hi6, hi7, hi8⟩ := swp_spec hsw
        refine WC.skip ?_
        refine WP.thenC ?_
        refine WC.seq ?_
        refine WC.block ?_
        refine WC.ofFr [(0, _), (10, _), (13, _)] ⟨rfl, rfl, rfl, trivial⟩ ?_
        refine WC.drawH [] (by kernel_rfl) (fun _ hI => hI.drop 99) ?_
        refine WH.yd (i := 0) (by kernel_rfl) (fun _ o v c a w _ h => (QuietPanic.blk (QuietPanic.then (QuietPanic.then (QuietPanic.blk (QuietPanic.then (QuietPanic.then QuietPanic.body)))))) c o.dst v a w h) rfl (Yd.move rfl) rfl ?_
        refine WH.yd (i := 1) (by kernel_rfl) (fun _ o v c a w _ h => (QuietPanic.blk (QuietPanic.then (QuietPanic.then (QuietPanic.blk (QuietPanic.then (QuietPanic.then QuietPanic.body)))))) c o.dst v a w h) rfl (Yd.move rfl) rfl ?_
        refine WH.yd (i := 2) (by kernel_rfl) (fun _ o v c a w _ h => (QuietPanic.blk (QuietPanic.then (QuietPanic.then (QuietPanic.blk (QuietPanic.then (QuietPanic.then QuietPanic.body)))))) c o.dst v a w h) rfl (Yd.move rfl) rfl ?_
        refine WH.yd (i := 3) (by kernel_rfl) (fun _ o v c a w _ h => (QuietPanic.blk (QuietPanic.then (QuietPanic.then (QuietPanic.blk (QuietPanic.then (QuietPanic.then QuietPanic.body)))))) c o.dst v a w h) rfl (Yd.move rfl) rfl ?_
        refine WH.yd (i := 4) (by kernel_rfl) (fun _ o v c a w _ h => (QuietPanic.blk (QuietPanic.then (QuietPanic.then (QuietPanic.blk (QuietPanic.then (QuietPanic.then QuietPanic.body)))))) c o.dst v a w h) rfl (Yd.addN rfl rfl (by (try dsimp only); omega)) rfl ?_
        refine WH.yd (i := 5) (by kernel_rfl) (fun _ o v c a w _ h => (QuietPanic.blk (QuietPanic.then (QuietPanic.then (QuietPanic.blk (QuietPanic.then (QuietPanic.then QuietPanic.body)))))) c o.dst v a w h) rfl (Yd.move rfl) rfl ?_
        refine WH.yd (i := 6) (by kernel_rfl) (fun _ o v c a w _ h => (QuietPanic.blk (QuietPanic.then (QuietPanic.then (QuietPanic.blk (QuietPanic.then (QuietPanic.then QuietPanic.body)))))) c o.dst v a w h) rfl (Yd.move rfl) rfl ?_
        refine WH.yd (i := 7) (by kernel_rfl) (fun _ o v c a w _ h => (QuietPanic.blk (QuietPanic.then (QuietPanic.then (QuietPanic.blk (QuietPanic.then (QuietPanic.then QuietPanic.body)))))) c o.dst v a w h) rfl (Yd.addN rfl rfl (by (try dsimp only); omega)) rfl ?_
        refine WH.yd (i := 8) (by kernel_rfl) (fun _ o v c a w _ h => (QuietPanic.blk (QuietPanic.then (QuietPanic.then (QuietPanic.blk (QuietPanic.then (QuietPanic.then QuietPanic.body)))))) c o.dst v a w h) rfl (Yd.indexS Try.underlying101 Try.sizeOf98 rfl rfl (by (try dsimp only); omega) (by (try dsimp only); omega) (by first | exact rfl)) rfl ?_
        refine WH.yd (i := 10) (by kernel_rfl) (fun _ o v c a w _ h => (QuietPanic.blk (QuietPanic.then (QuietPanic.then (QuietPanic.blk (QuietPanic.then (QuietPanic.then QuietPanic.body)))))) c o.dst v a w h) rfl (Yd.move rfl) rfl ?_
        refine WH.yd (i := 11) (by kernel_rfl) (fun _ o v c a w _ h => (QuietPanic.blk (QuietPanic.then (QuietPanic.then (QuietPanic.blk (QuietPanic.then (QuietPanic.then QuietPanic.body)))))) c o.dst v a w h) rfl (Yd.move rfl) rfl ?_
        refine WH.yd (i := 12) (by kernel_rfl) (fun _ o v c a w _ h => (QuietPanic.blk (QuietPanic.then (QuietPanic.then (QuietPanic.blk (QuietPanic.then (QuietPanic.then QuietPanic.body)))))) c o.dst v a w h) rfl (Yd.indexS Try.underlying101 Try.sizeOf98 rfl rfl (by (try dsimp only); omega) (by (try dsimp only); omega) (by first | exact rfl)) rfl ?_
        refine WH.two (i := 9) (j := 13) (by kernel_rfl) ?_ ?_
        · refine WHo.yd rfl (Yd.load1 Try.isAgg98 rfl (by first | exact (rd_data (k := 0) rfl (by (try dsimp only); omega)))) rfl ?_
          refine WH.one (i := 13) (by kernel_rfl) (WHo.yd rfl (Yd.load1 Try.isAgg98 rfl (by first | exact (rd_data (k := 0) rfl (by (try dsimp only); omega)))) rfl ?_)
          refine WH.yd (i := 14) (by kernel_rfl) (fun _ o v c a w _ h => (QuietPanic.blk (QuietPanic.then (QuietPanic.then (QuietPanic.blk (QuietPanic.then (QuietPanic.then QuietPanic.body)))))) c o.dst v a w h) rfl (Yd.indexS Try.underlying101 Try.sizeOf98 rfl rfl (by (try dsimp only); omega) (by (try dsimp only); omega) (by first | exact rfl)) rfl ?_
          refine WH.one (i := 15) (by kernel_rfl) (WHo.so rfl (SO.store 0 rfl Try.sizeOf98 rfl rfl rfl rfl (len_data _ _ (by (try dsimp only); omega)) (oneB_spec rfl)) rfl ?_)
          rintro _ _ _ ⟨rfl, rfl, rfl⟩
          refine ⟨(fun _ hI => hI.drop 99), ?_⟩
          refine WH.yd (i := 16) (by kernel_rfl) (fun _ o v c a w _ h => (QuietPanic.blk (QuietPanic.then (QuietPanic.then (QuietPanic.blk (QuietPanic.then (QuietPanic.then QuietPanic.body)))))) c o.dst v a w h) rfl (Yd.indexS Try.underlying101 Try.sizeOf98 rfl rfl (by (try dsimp only); omega) (by (try dsimp only); omega) (by first | exact rfl)) rfl ?_
          refine WH.one (i := 17) (by kernel_rfl) (WHo.so rfl (SO.store 0 rfl Try.sizeOf98 rfl rfl rfl rfl (st_two rest (by (try dsimp only); omega) (by (try dsimp only); omega)) (oneB_spec rfl)) rfl ?_)
          rintro _ _ _ ⟨rfl, rfl, rfl⟩
          refine ⟨(fun _ hI => hI.drop 99), ?_⟩
          refine WH.nil (by kernel_rfl) ?_
          refine WP.blkNormal ?_
          refine WP.thenC ?_
          refine WC.ofFr [(0, _), (10, _), (13, _)] ⟨rfl, rfl, rfl, trivial⟩ ?_
          refine WC.region ?_
          refine WL.yd (Yd.move rfl) rfl ?_
          refine WL.yd (Yd.addN rfl rfl (by (try dsimp only); omega)) rfl ?_
          refine WL.yd (Yd.assign rfl) rfl ?_
          refine WL.nil ?_
          refine WP.again (⟨m1, k + 1, l2⟩ : Nat × Nat × List Nat) ⟨hw2, hok1.swp hsw, by simp only; omega⟩ (by simp only; omega) (fun aa ww h => ?_)
          show At _ [(0, .slice (some ⟨bd, 0, none⟩) n0 cap), (10, nt r9), (13, nt (k + 1))] D [(bd, .cells (List.toArray (l2.map ut ++ rest)) 98 (0, 0))] aa ww
          rw [← swp_mem rest hsw]
          exact at_fr h ⟨rfl, rfl, rfl, trivial⟩
        · refine WHo.yd rfl (Yd.load1 Try.isAgg98 rfl (by first | exact (rd_data (k := 0) rfl (by (try dsimp only); omega)))) rfl ?_
          refine WH.one (i := 9) (by kernel_rfl) (WHo.yd rfl (Yd.load1 Try.isAgg98 rfl (by first | exact (rd_data (k := 0) rfl (by (try dsimp only); omega)))) rfl ?_)
          refine WH.yd (i := 14) (by kernel_rfl) (fun _ o v c a w _ h => (QuietPanic.blk (QuietPanic.then (QuietPanic.then (QuietPanic.blk (QuietPanic.then (QuietPanic.then QuietPanic.body)))))) c o.dst v a w h) rfl (Yd.indexS Try.underlying101 Try.sizeOf98 rfl rfl (by (try dsimp only); omega) (by (try dsimp only); omega) (by first | exact rfl)) rfl ?_
          refine WH.one (i := 15) (by kernel_rfl) (WHo.so rfl (SO.store 0 rfl Try.sizeOf98 rfl rfl rfl rfl (len_data _ _ (by (try dsimp only); omega)) (oneB_spec rfl)) rfl ?_)
          rintro _ _ _ ⟨rfl, rfl, rfl⟩
          refine ⟨(fun _ hI => hI.drop 99), ?_⟩
          refine WH.yd (i := 16) (by kernel_rfl) (fun _ o v c a w _ h => (QuietPanic.blk (QuietPanic.then (QuietPanic.then (QuietPanic.blk (QuietPanic.then (QuietPanic.then QuietPanic.body)))))) c o.dst v a w h) rfl (Yd.indexS Try.underlying101 Try.sizeOf98 rfl rfl (by (try dsimp only); omega) (by (try dsimp only); omega) (by first | exact rfl)) rfl ?_
          refine WH.one (i := 17) (by kernel_rfl) (WHo.so rfl (SO.store 0 rfl Try.sizeOf98 rfl rfl rfl rfl (st_two rest (by (try dsimp only); omega) (by (try dsimp only); omega)) (oneB_spec rfl)) rfl ?_)
          rintro _ _ _ ⟨rfl, rfl, rfl⟩
          refine ⟨(fun _ hI => hI.drop 99), ?_⟩
          refine WH.nil (by kernel_rfl) ?_
          refine WP.blkNormal ?_
          refine WP.thenC ?_
          refine WC.ofFr [(0, _), (10, _), (13, _)] ⟨rfl, rfl, rfl, trivial⟩ ?_
          refine WC.region ?_
          refine WL.yd (Yd.move rfl) rfl ?_
          refine WL.yd (Yd.addN rfl rfl (by (try dsimp only); omega)) rfl ?_
          refine WL.yd (Yd.assign rfl) rfl ?_
          refine WL.nil ?_
          refine WP.again (⟨m1, k + 1, l2⟩ : Nat × Nat × List Nat) ⟨hw2, hok1.swp hsw, by simp only; omega⟩ (by simp only; omega) (fun aa ww h => ?_)
          show At _ [(0, .slice (some ⟨bd, 0, none⟩) n0 cap), (10, nt r9), (13, nt (k + 1))] D [(bd, .cells (List.toArray (l2.map ut ++ rest)) 98 (0, 0))] aa ww
          rw [← swp_mem rest hsw]
          exact at_fr h ⟨rfl, rfl, rfl, trivial⟩
      · try simp only [zq1, zq2, zq3, zq4, zq5, zq6, zq7, zq8] at c58
        have hk8 : ¬ (k : Int) < (r9 : Int) - 1 := by omega
        cases whl_false hw4 (by simpa using hk8)
        refine WC.exit ?_
        refine WP.thenExit ?_
        refine WP.thenExit ?_
        refine WP.blkHit ?_
        refine WP.thenC ?_
        refine WC.ret ?_
        refine WP.thenRet ?_
        refine WP.ret0 rfl rfl Try.results108  (fun w1 hI => ⟨_, D, _, rfl, DExt.refl _ _, hI, fun _ h => h, rfl, rfl, rfl⟩)
  · try simp only [zq1, zq2, zq3, zq4, zq5, zq6, zq7, zq8] at c28
    have h28 : ¬ m - a = 1 := by omega
    refine WC.skip ?_
    refine WP.thenC ?_
    refine WC.seq ?_
    refine WC.seq ?_
    refine WC.ofFr [(0, _), (1, _), (2, _), (3, _), (4, _)] ⟨rfl, rfl, rfl, rfl, rfl, trivial⟩ ?_
    refine WC.region ?_
    refine WL.yd (Yd.move rfl) rfl ?_
    refine WL.yd (Yd.move rfl) rfl ?_
    refine WL.yd (Yd.subN rfl rfl (by (try dsimp only); omega) (by (try dsimp only); omega)) rfl ?_
    refine WL.yd (Yd.eql rfl rfl) rfl ?_
    refine WL.nil ?_
    refine WP.thenC ?_
    refine WC.cond rfl (fun c80 => ?_) (fun c80 => ?_)
    · try simp only [zq1, zq2, zq3, zq4, zq5, zq6, zq7, zq8] at c80
      have h80 : b - m = 1 := by omega
      obtain ⟨r9, hh9, hu9⟩ : ∃ i, halve (fun h => (lessAt l m h).map (!·)) a m = some i ∧ downS m i l = some l' := by
        rcases hw3 with h1 | h1 | h1
        · exact absurd h1.1 h28
        · exact h1.2.2
        · exact absurd h80 h1.2.1
      obtain ⟨s9, hh9⟩ := halve_eq hh9
      refine WC.seq ?_
      refine WC.ofFr [(0, _), (1, _), (2, _), (3, _), (4, _)] ⟨rfl, rfl, rfl, rfl, rfl, trivial⟩ ?_
      refine WC.region ?_
      refine WL.yd (Yd.move rfl) rfl ?_
      refine WL.yd (Yd.assign rfl) rfl ?_
      refine WL.nil ?_
      refine WP.thenC ?_
      refine WC.seq ?_
      refine WC.ofFr [(14, _), (0, _), (1, _), (2, _), (3, _), (4, _)] ⟨rfl, rfl, rfl, rfl, rfl, rfl, trivial⟩ ?_
      refine WC.region ?_
      refine WL.yd (Yd.move rfl) rfl ?_
      refine WL.yd (Yd.assign rfl) rfl ?_
      refine WL.nil ?_
      refine WP.thenC ?_
      refine WC.seq ?_
      refine WC.block ?_
      refine WC.loop (fun y : Nat × Nat × Nat => [(0, .slice (some ⟨bd, 0, none⟩) n0 cap), (2, nt m), (4, cmpV), (14, nt y.2.1), (15, nt y.2.2)]) (fun _ => [(bd, datO l rest)]) (fun _ => D) (fun y => whl (fun x : Nat × Nat => decide (x.1 < x.2)) (halfStep (fun h => (lessAt l m h).map (!·))) y.1 (y.2.1, y.2.2) = some (r9, s9) ∧ 0 ≤ y.2.1 ∧ y.2.1 ≤ 3001 ∧ y.2.2 ≤ 3000) (fun y => y.1) (⟨F, a, m⟩ : Nat × Nat × Nat) ⟨hh9, by simp only; omega, by simp only; omega, by simp only; omega⟩ (fun a w h => at_fr h ⟨rfl, rfl, rfl, rfl, rfl, trivial⟩) ?_
      rintro ⟨k9, i, j⟩ ⟨hw1, hi1, hi2, hj1⟩
      dsimp only at hw1 hi1 hi2 hj1
      refine WC.seq ?_
      refine WC.seq ?_
      refine WC.ofFr [(0, _), (2, _), (4, _), (14, _), (15, _)] ⟨rfl, rfl, rfl, rfl, rfl, trivial⟩ ?_
      refine WC.region ?_
      refine WL.yd (Yd.move rfl) rfl ?_
      refine WL.yd (Yd.move rfl) rfl ?_
      refine WL.yd (Yd.lss rfl rfl) rfl ?_
      refine WL.nil ?_
      refine WP.thenC ?_
      refine WC.cond rfl (fun c85 => ?_) (fun c85 => ?_)
      · try simp only [zq1, zq2, zq3, zq4, zq5, zq6, zq7, zq8] at c85
        have hij : i < j := by omega
        obtain ⟨k1, bq, rfl, hp, hT, hF⟩ := half_true hw1 hij
        obtain ⟨b0, hp, hbn⟩ := Option.map_eq_some_iff.1 hp
        obtain ⟨hx1, hx2, hx3, hx4, hbq⟩ := lessAt_inv hp
        have hln := hok.1
        refine WC.skip ?_
        refine WP.thenC ?_
        refine WC.block ?_
        refine WC.seq ?_
        refine WC.ofFr [(0, _), (2, _), (4, _), (14, _), (15, _)] ⟨rfl, rfl, rfl, rfl, rfl, trivial⟩ ?_
        refine WC.region ?_
        refine WL.yd (Yd.move rfl) rfl ?_
        refine WL.yd (Yd.move rfl) rfl ?_
        refine WL.yd (Yd.addN rfl rfl (by (try dsimp only); omega)) rfl ?_
        refine WL.yd (Yd.convNU Try.underlying3 Try.underlying98 rfl (by (try dsimp only); omega)) rfl ?_
        refine WL.yd (Yd.half rfl rfl) rfl ?_
        refine WL.yd (Yd.convUN Try.underlying98 Try.underlying3 rfl (by (try dsimp only); omega)) rfl ?_
        refine WL.yd (Yd.assign rfl) rfl ?_
        refine WL.nil ?_
        refine WP.thenC ?_
        refine WC.seq ?_
        refine WC.ofFr [(16, _), (0, _), (2, _), (4, _), (14, _), (15, _)] ⟨rfl, rfl, rfl, rfl, rfl, rfl, trivial⟩ ?_
        refine WC.tail 9 [0, 1, 2, 3, 4, 5, 6, 7, 8] rfl (by kernel_rfl) (by kernel_rfl)  ?_
        refine WQ.q rfl (Yd.qt (Yd.move rfl)) rfl ?_
        refine WQ.q rfl (Yd.qt (Yd.move rfl)) rfl ?_
        refine WQ.q rfl (Yd.qt (Yd.move rfl)) rfl ?_
        refine WQ.q rfl (Yd.qt (Yd.indexS Try.underlying101 Try.sizeOf98 rfl rfl (by (try dsimp only); omega) (by (try dsimp only); omega) (by first | exact rfl))) rfl ?_
        refine WQ.q rfl (Yd.qt (Yd.load1 Try.isAgg98 rfl (by first | exact (rd_data (k := 0) rfl (by (try dsimp only); omega))))) rfl ?_
        refine WQ.q rfl (Yd.qt (Yd.move rfl)) rfl ?_
        refine WQ.q rfl (Yd.qt (Yd.move rfl)) rfl ?_
        refine WQ.q rfl (Yd.qt (Yd.indexS Try.underlying101 Try.sizeOf98 rfl rfl (by (try dsimp only); omega) (by (try dsimp only); omega) (by first | exact rfl))) rfl ?_
        refine WQ.q rfl (Yd.qt (Yd.load1 Try.isAgg98 rfl (by first | exact (rd_data (k := 0) rfl (by (try dsimp only); omega))))) rfl ?_
        refine WQ.tail ?_
        refine WL.so (SO.call (Enters.val Try.call100 rfl rfl) (fun w hI => cmp_g _ _ hx3 hx4 _)) rfl ?_
        rintro _ _ _ ⟨rfl, rfl, rfl⟩
        refine WL.yd (Yd.lss rfl rfl) rfl ?_
        refine WL.yd (Yd.not rfl) rfl ?_
        refine WL.nil ?_
        refine WP.thenC ?_
        refine WC.cond rfl (fun c103 => ?_) (fun c103 => ?_)
        · try simp only [zq1, zq2, zq3, zq4, zq5, zq6, zq7, zq8] at c103
          have hbq1 : bq = true := by rw [← hbn, hbq]; simp only [Bool.not_eq_true', decide_eq_false_iff_not]; omega
          refine WC.ofFr [(16, _), (0, _), (2, _), (4, _), (14, _), (15, _)] ⟨rfl, rfl, rfl, rfl, rfl, rfl, trivial⟩ ?_
          refine WC.region ?_
          refine WL.yd (Yd.move rfl) rfl ?_
          refine WL.yd (Yd.addN rfl rfl (by (try dsimp only); omega)) rfl ?_
          refine WL.yd (Yd.assign rfl) rfl ?_
          refine WL.nil ?_
          refine WP.blkNormal ?_
          first
            | exact WP.again (⟨k1, (i + j) / 2 + 1, j⟩ : Nat × Nat × Nat) ⟨hT hbq1, by simp only; omega, by simp only; omega, by simp only; omega⟩ (by simp only; omega) (fun aa ww h => at_fr h ⟨rfl, rfl, rfl, rfl, rfl, trivial⟩)
            | exact WP.again (⟨k1, i, (i + j) / 2⟩ : Nat × Nat × Nat) ⟨hF hbq1, by simp only; omega, by simp only; omega, by simp only; omega⟩ (by simp only; omega) (fun aa ww h => at_fr h ⟨rfl, rfl, rfl, rfl, rfl, trivial⟩)
        · try simp only [zq1, zq2, zq3, zq4, zq5, zq6, zq7, zq8] at c103
          have hbq1 : bq = false := by rw [← hbn, hbq]; simp only [Bool.not_eq_false', decide_eq_true_eq]; omega
          refine WC.ofFr [(16, _), (0, _), (2, _), (4, _), (14, _), (15, _)] ⟨rfl, rfl, rfl, rfl, rfl, rfl, trivial⟩ ?_
          refine WC.region ?_
          refine WL.yd (Yd.move rfl) rfl ?_
          refine WL.yd (Yd.assign rfl) rfl ?_
          refine WL.nil ?_
          refine WP.blkNormal ?_
          first
            | exact WP.again (⟨k1, (i + j) / 2 + 1, j⟩ : Nat × Nat × Nat) ⟨hT hbq1, by simp only; omega, by simp only; omega, by simp only; omega⟩ (by simp only; omega) (fun aa ww h => at_fr h ⟨rfl, rfl, rfl, rfl, rfl, trivial⟩)
            | exact WP.again (⟨k1, i, (i + j) / 2⟩ : Nat × Nat × Nat) ⟨hF hbq1, by simp only; omega, by simp only; omega, by simp only; omega⟩ (by simp only; omega) (fun aa ww h => at_fr h ⟨rfl, rfl, rfl, rfl, rfl, trivial⟩)
      · try simp only [zq1, zq2, zq3, zq4, zq5, zq6, zq7, zq8] at c85
        have hij : ¬ i < j := by omega
        obtain rfl : r9 = i := half_false hw1 hij
        refine WC.exit ?_
        refine WP.thenExit ?_
        refine WP.thenExit ?_
        refine WP.blkHit ?_
        refine WP.thenC ?_
        refine WC.seq ?_
        refine WC.seq ?_
        refine WC.ofFr [(0, _), (2, _), (4, _), (14, _)] ⟨rfl, rfl, rfl, rfl, trivial⟩ ?_
        refine WC.region ?_
        refine WL.yd (Yd.move rfl) rfl ?_
        refine WL.yd (Yd.assign rfl) rfl ?_
        refine WL.nil ?_
        refine WP.thenC ?_
        refine WC.block ?_
        obtain ⟨⟨k8, l8⟩, hu8, rfl⟩ := Option.map_eq_some_iff.1 hu9
        refine WC.loop (fun y : Nat × Nat × List Nat => [(0, .slice (some ⟨bd, 0, none⟩) n0 cap), (14, nt r9), (17, nt y.2.1)]) (fun y => [(bd, datO y.2.2 rest)]) (fun _ => D) (fun y => whl (fun x : Nat × List Nat => decide (r9 < x.1)) (fun x => (swp x.2 x.1 (x.1 - 1)).map fun l => (x.1 - 1, l)) y.1 y.2 = some (k8, l8) ∧ Ok n0 y.2.2 ∧ y.2.1 ≤ 1001) (fun y => y.1) (⟨F, m, l⟩ : Nat × Nat × List Nat) ⟨hu8, hok, by simp only; omega⟩ (fun a w h => at_fr h ⟨rfl, rfl, rfl, trivial⟩) ?_
        rintro ⟨m4, k, l1⟩ ⟨hw4, hok1, hk1⟩
        dsimp only at hw4 hok1 hk1
        have hln1 := hok1.1
        refine WC.seq ?_
        refine WC.seq ?_
        refine WC.ofFr [(0, _), (14, _), (17, _)] ⟨rfl, rfl, rfl, trivial⟩ ?_
        refine WC.region ?_
        refine WL.yd (Yd.move rfl) rfl ?_
        refine WL.yd (Yd.move rfl) rfl ?_
        refine WL.yd (Yd.gtr rfl rfl) rfl ?_
        refine WL.nil ?_
        refine WP.thenC ?_
        refine WC.cond rfl (fun c110 => ?_) (fun c110 => ?_)
        · try simp only [zq1, zq2, zq3, zq4, zq5, zq6, zq7, zq8] at c110
          have hk8 : r9 < k := by omega
          obtain ⟨m1, ⟨k2, l2⟩, rfl, hs, hw2⟩ := whl_true hw4 (by simpa using hk8)
          obtain ⟨l2, hsw, hs⟩ := Option.map_eq_some_iff.1 hs
          cases hs
          dsimp only at hsw hw2
          obtain ⟨hi5, hi6, hi7, hi8⟩ := swp_spec hsw
          refine WC.skip ?_
          refine WP.thenC ?_
          refine WC.seq ?_
          refine WC.block ?_
          refine WC.ofFr [(0, _), (14, _), (17, _)] ⟨rfl, rfl, rfl, trivial⟩ ?_
          refine WC.drawH [] (by kernel_rfl) (fun _ hI => hI.drop 99) ?_
          refine WH.yd (i := 0) (by kernel_rfl) (fun _ o v c a w _ h => (QuietPanic.blk (QuietPanic.then (QuietPanic.then (QuietPanic.blk (QuietPanic.then (QuietPanic.then QuietPanic.body)))))) c o.dst v a w h) rfl (Yd.move rfl) rfl ?_
          refine WH.yd (i := 1) (by kernel_rfl) (fun _ o v c a w _ h => (QuietPanic.blk (QuietPanic.then (QuietPanic.then (QuietPanic.blk (QuietPanic.then (QuietPanic.then QuietPanic.body)))))) c o.dst v a w h) rfl (Yd.move rfl) rfl ?_
          refine WH.yd (i := 2) (by kernel_rfl) (fun _ o v c a w _ h => (QuietPanic.blk (QuietPanic.then (QuietPanic.then (QuietPanic.blk (QuietPanic.then (QuietPanic.then QuietPanic.body)))))) c o.dst v a w h) rfl (Yd.move rfl) rfl ?_
          refine WH.yd (i := 3) (by kernel_rfl) (fun _ o v c a w _ h => (QuietPanic.blk (QuietPanic.then (QuietPanic.then (QuietPanic.blk (QuietPanic.then (QuietPanic.then QuietPanic.body)))))) c o.dst v a w h) rfl (Yd.move rfl) rfl ?_
          refine WH.yd (i := 4) (by kernel_rfl) (fun _ o v c a w _ h => (QuietPanic.blk (QuietPanic.then (QuietPanic.then (QuietPanic.blk (QuietPanic.then (QuietPanic.then QuietPanic.body)))))) c o.dst v a w h) rfl (Yd.subN rfl rfl (by (try dsimp only); omega) (by (try dsimp only); omega)) rfl ?_
          refine WH.yd (i := 5) (by kernel_rfl) (fun _ o v c a w _ h => (QuietPanic.blk (QuietPanic.then (QuietPanic.then (QuietPanic.blk (QuietPanic.then (QuietPanic.then QuietPanic.body)))))) c o.dst v a w h) rfl (Yd.move rfl) rfl ?_
          refine WH.yd (i := 6) (by kernel_rfl) (fun _ o v c a w _ h => (QuietPanic.blk (QuietPanic.then (QuietPanic.then (QuietPanic.blk (QuietPanic.then (QuietPanic.then QuietPanic.body)))))) c o.dst v a w h) rfl (Yd.move rfl) rfl ?_
          refine WH.yd (i := 7) (by kernel_rfl) (fun _ o v c a w _ h => (QuietPanic.blk (QuietPanic.then (QuietPanic.then (QuietPanic.blk (QuietPanic.then (QuietPanic.then QuietPanic.body)))))) c o.dst v a w h) rfl (Yd.subN rfl rfl (by (try dsimp only); omega) (by (try dsimp only); omega)) rfl ?_
          refine WH.yd (i := 8) (by kernel_rfl) (fun _ o v c a w _ h => (QuietPanic.blk (QuietPanic.then (QuietPanic.then (QuietPanic.blk (QuietPanic.then (QuietPanic.then QuietPanic.body)))))) c o.dst v a w h) rfl (Yd.indexS Try.underlying101 Try.sizeOf98 rfl rfl (by (try dsimp only); omega) (by (try dsimp only); omega) (by first | exact rfl)) rfl ?_
          refine WH.yd (i := 10) (by kernel_rfl) (fun _ o v c a w _ h => (QuietPanic.blk (QuietPanic.then (QuietPanic.then (QuietPanic.blk (QuietPanic.then (QuietPanic.then QuietPanic.body)))))) c o.dst v a w h) rfl (Yd.move rfl) rfl ?_
          refine WH.yd (i := 11) (by kernel_rfl) (fun _ o v c a w _ h => (QuietPanic.blk (QuietPanic.then (QuietPanic.then (QuietPanic.blk (QuietPanic.then (QuietPanic.then QuietPanic.body)))))) c o.dst v a w h) rfl (Yd.move rfl) rfl ?_
          refine WH.yd (i := 12) (by kernel_rfl) (fun _ o v c a w _ h => (QuietPanic.blk (QuietPanic.then (QuietPanic.then (QuietPanic.blk (QuietPanic.then (QuietPanic.then QuietPanic.body)))))) c o.dst v a w h) rfl (Yd.indexS Try.underlying101 Try.sizeOf98 rfl rfl (by (try dsimp only); omega) (by (try dsimp only); omega) (by first | exact rfl)) rfl ?_
          refine WH.two (i := 9) (j := 13) (by kernel_rfl) ?_ ?_
          · refine WHo.yd rfl (Yd.load1 Try.isAgg98 rfl (by first | exact (rd_data (k := 0) rfl (by (try dsimp only); omega)))) rfl ?_
            refine WH.one (i := 13) (by kernel_rfl) (WHo.yd rfl (Yd.load1 Try.isAgg98 rfl (by first | exact (rd_data (k := 0) rfl (by (try dsimp only); omega)))) rfl ?_)
            refine WH.yd (i := 14) (by kernel_rfl) (fun _ o v c a w _ h => (QuietPanic.blk (QuietPanic.then (QuietPanic.then (QuietPanic.blk (QuietPanic.then (QuietPanic.then QuietPanic.body)))))) c o.dst v a w h) rfl (Yd.indexS Try.underlying101 Try.sizeOf98 rfl rfl (by (try dsimp only); omega) (by (try dsimp only); omega) (by first | exact rfl)) rfl ?_
            refine WH.one (i := 15) (by kernel_rfl) (WHo.so rfl (SO.store 0 rfl Try.sizeOf98 rfl rfl rfl rfl (len_data _ _ (by (try dsimp only); omega)) (oneB_spec rfl)) rfl ?_)
            rintro _ _ _ ⟨rfl, rfl, rfl⟩
            refine ⟨(fun _ hI => hI.drop 99), ?_⟩
            refine WH.yd (i := 16) (by kernel_rfl) (fun _ o v c a w _ h => (QuietPanic.blk (QuietPanic.then (QuietPanic.then (QuietPanic.blk (QuietPanic.then (QuietPanic.then QuietPanic.body)))))) c o.dst v a w h) rfl (Yd.indexS Try.underlying101 Try.sizeOf98 rfl rfl (by (try dsimp only); omega) (by (try dsimp only); omega) (by first | exact rfl)) rfl ?_
            refine WH.one (i := 17) (by kernel_rfl) (WHo.so rfl (SO.store 0 rfl Try.sizeOf98 rfl rfl rfl rfl (st_two rest (by (try dsimp only); omega) (by (try dsimp only); omega)) (oneB_spec rfl)) rfl ?_)
            rintro _ _ _ ⟨rfl, rfl, rfl⟩
            refine ⟨(fun _ hI => hI.drop 99), ?_⟩
            refine WH.nil (by kernel_rfl) ?_
            refine WP.blkNormal ?_
            refine WP.thenC ?_
            refine WC.ofFr [(0, _), (14, _), (17, _)] ⟨rfl, rfl, rfl, trivial⟩ ?_
            refine WC.region ?_
            refine WL.yd (Yd.move rfl) rfl ?_
            refine WL.yd (Yd.subN rfl rfl (by (try dsimp only); omega) (by (try dsimp only); omega)) rfl ?_
            refine WL.yd (Yd.assign rfl) rfl ?_
            refine WL.nil ?_
            refine WP.again (⟨m1, k - 1, l2⟩ : Nat × Nat × List Nat) ⟨hw2, hok1.swp hsw, by simp only; omega⟩ (by simp only; omega) (fun aa ww h => ?_)
            show At _ [(0, .slice (some ⟨bd, 0, none⟩) n0 cap), (14, nt r9), (17, nt (k - 1))] D [(bd, .cells (List.toArray (l2.map ut ++ rest)) 98 (0, 0))] aa ww
            rw [← swp_mem rest hsw]
            exact at_fr h ⟨rfl, rfl, rfl, trivial⟩
          · refine WHo.yd rfl (Yd.load1 Try.isAgg98 rfl (by first | exact (rd_data (k := 0) rfl (by (try dsimp only); omega)))) rfl ?_
            refine WH.one (i := 9) (by kernel_rfl) (WHo.yd rfl (Yd.load1 Try.isAgg98 rfl (by first | exact (rd_data (k := 0) rfl (by (try dsimp only); omega)))) rfl ?_)
            refine WH.yd (i := 14) (by kernel_rfl) (fun _ o v c a w _ h => (QuietPanic.blk (QuietPanic.then (QuietPanic.then (QuietPanic.blk (QuietPanic.then (QuietPanic.then QuietPanic.body)))))) c o.dst v a w h) rfl (Yd.indexS Try.underlying101 Try.sizeOf98 rfl rfl (by (try dsimp only); omega) (by (try dsimp only); omega) (by first | exact rfl)) rfl ?_
            refine WH.one (i := 15) (by kernel_rfl) (WHo.so rfl (SO.store 0 rfl Try.sizeOf98 rfl rfl rfl rfl (len_data _ _ (by (try dsimp only); omega)) (oneB_spec rfl)) rfl ?_)
            rintro _ _ _ ⟨rfl, rfl, rfl⟩
            refine ⟨(fun _ hI => hI.drop 99), ?_⟩
            refine WH.yd (i := 16) (by kernel_rfl) (fun _ o v c a w _ h => (QuietPanic.blk (QuietPanic.then (QuietPanic.then (QuietPanic.blk (QuietPanic.then (QuietPanic.then QuietPanic.body)))))) c o.dst v a w h) rfl (Yd.indexS Try.underlying101 Try.sizeOf98 rfl rfl (by (try dsimp only); omega) (by (try dsimp only); omega) (by first | exact rfl)) rfl ?_
            refine WH.one (i := 17) (by kernel_rfl) (WHo.so rfl (SO.store 0 rfl Try.sizeOf98 rfl rfl rfl rfl (st_two rest (by (try dsimp only); omega) (by (try dsimp only); omega)) (oneB_spec rfl)) rfl ?_)
            rintro _ _ _ ⟨rfl, rfl, rfl⟩
            refine ⟨(fun _ hI => hI.drop 99), ?_⟩
            refine WH.nil (by kernel_rfl) ?_
            refine WP.blkNormal ?_
            refine WP.thenC ?_
            refine WC.ofFr [(0, _), (14, _), (17, _)] ⟨rfl, rfl, rfl, trivial⟩ ?_
            refine WC.region ?_
            refine WL.yd (Yd.move rfl) rfl ?_
            refine WL.yd (Yd.subN rfl rfl (by (try dsimp only); omega) (by (try dsimp only); omega)) rfl ?_
            refine WL.yd (Yd.assign rfl) rfl ?_
            refine WL.nil ?_
            refine WP.again (⟨m1, k - 1, l2⟩ : Nat × Nat × List Nat) ⟨hw2, hok1.swp hsw, by simp only; omega⟩ (by simp only; omega) (fun aa ww h => ?_)
            show At _ [(0, .slice (some ⟨bd, 0, none⟩) n0 cap), (14, nt r9), (17, nt (k - 1))] D [(bd, .cells (List.toArray (l2.map ut ++ rest)) 98 (0, 0))] aa ww
            rw [← swp_mem rest hsw]
            exact at_fr h ⟨rfl, rfl, rfl, trivial⟩
        · try simp only [zq1, zq2, zq3, zq4, zq5, zq6, zq7, zq8] at c110
          have hk8 : ¬ r9 < k := by omega
          cases whl_false hw4 (by simpa using hk8)
          refine WC.exit ?_
          refine WP.thenExit ?_
          refine WP.thenExit ?_
          refine WP.blkHit ?_
          refine WP.thenC ?_
          refine WC.ret ?_
          refine WP.thenRet ?_
          refine WP.ret0 rfl rfl Try.results108  (fun w1 hI => ⟨_, D, _, rfl, DExt.refl _ _, hI, fun _ h => h, rfl, rfl, rfl⟩)
    · try simp only [zq1, zq2, zq3, zq4, zq5, zq6, zq7, zq8] at c80
      have h80 : ¬ b - m = 1 := by omega
      obtain ⟨s0, r0, st, l1, l2, hs3, hh3, hst3, h6, h7, h8⟩ : ∃ s r st l1 l2, (if ((a + b) / 2) < m then (if b ≤ ((a + b) / 2 + m) then some (((a + b) / 2 + m) - b, ((a + b) / 2)) else none) else some (a, m)) = some (s, r) ∧
          halve (fun c => if c + 1 ≤ ((a + b) / 2 + m) then (lessAt l (((a + b) / 2 + m) - 1 - c) c).map (!·) else none) s r = some st ∧ st ≤ ((a + b) / 2 + m) ∧ (if st < m ∧ m < ((a + b) / 2 + m - st) then rotS st m ((a + b) / 2 + m - st) l else some l) = some l1 ∧ (if a < st ∧ st < ((a + b) / 2) then symM f a st ((a + b) / 2) l1 else some l1) = some l2 ∧ (if ((a + b) / 2) < ((a + b) / 2 + m - st) ∧ ((a + b) / 2 + m - st) < b then symM f ((a + b) / 2) ((a + b) / 2 + m - st) b l2 else some l2) = some l' := by
        rcases hw3 with h1 | h1 | h1
        · exact absurd h1.1 h28
        · exact absurd h1.2.1 h80
        · exact h1.2.2
      have hokA : Ok n0 l1 := by
        split at h6
        · exact rotS_ok hok h6
        · cases h6; exact hok
      have hokB : Ok n0 l2 := by
        split at h7
        · exact symM_ok _ _ _ _ _ _ hokA h7
        · cases h7; exact hokA
      have hsr : s0 ≤ 2000 ∧ r0 ≤ 2000 := by
        split at hs3
        · split at hs3
          · cases hs3; omega
          · cases hs3
        · cases hs3; omega
      obtain ⟨s9, hh9⟩ := halve_eq hh3
      have hln := hok.1
      refine WC.skip ?_
      refine WP.thenC ?_
      refine WC.seq ?_
      refine WC.ofFr [(0, _), (1, _), (2, _), (3, _), (4, _)] ⟨rfl, rfl, rfl, rfl, rfl, trivial⟩ ?_
      refine WC.region ?_
      refine WL.yd (Yd.move rfl) rfl ?_
      refine WL.yd (Yd.move rfl) rfl ?_
      refine WL.yd (Yd.addN rfl rfl (by (try dsimp only); omega)) rfl ?_
      refine WL.yd (Yd.convNU Try.underlying3 Try.underlying98 rfl (by (try dsimp only); omega)) rfl ?_
      refine WL.yd (Yd.half rfl rfl) rfl ?_
      refine WL.yd (Yd.convUN Try.underlying98 Try.underlying3 rfl (by (try dsimp only); omega)) rfl ?_
      refine WL.yd (Yd.assign rfl) rfl ?_
      refine WL.nil ?_
      refine WP.thenC ?_
      refine WC.seq ?_
      refine WC.ofFr [(18, _), (0, _), (1, _), (2, _), (3, _), (4, _)] ⟨rfl, rfl, rfl, rfl, rfl, rfl, trivial⟩ ?_
      refine WC.region ?_
      refine WL.yd (Yd.move rfl) rfl ?_
      refine WL.yd (Yd.move rfl) rfl ?_
      refine WL.yd (Yd.addN rfl rfl (by (try dsimp only); omega)) rfl ?_
      refine WL.yd (Yd.assign rfl) rfl ?_
      refine WL.nil ?_
      refine WP.thenC ?_
      refine WC.seq ?_
      refine WC.ofFr [(19, _), (18, _), (0, _), (1, _), (2, _), (3, _), (4, _)] ⟨rfl, rfl, rfl, rfl, rfl, rfl, rfl, trivial⟩ ?_
      refine WC.region ?_
      refine WL.yd (Yd.assign rfl) rfl ?_
      refine WL.yd (Yd.assign rfl) rfl ?_
      refine WL.nil ?_
      refine WP.thenC ?_
      refine WC.seqJ (fun _ : Unit => [(0, .slice (some ⟨bd, 0, none⟩) n0 cap), (1, nt a), (2, nt m), (3, nt b), (4, cmpV), (18, nt ((a + b) / 2)), (19, nt ((a + b) / 2 + m)), (20, nt s0), (21, nt r0)]) (fun _ => [(bd, datO l rest)]) (fun _ => D) (fun _ => True) ?_ ?_
      · rintro ⟨⟩ -
        refine WC.seq ?_
        refine WC.ofFr [(0, _), (1, _), (2, _), (3, _), (4, _), (18, _), (19, _), (20, _), (21, _)] ⟨rfl, rfl, rfl, rfl, rfl, rfl, rfl, rfl, rfl, trivial⟩ ?_
        refine WC.region ?_
        refine WL.yd (Yd.move rfl) rfl ?_
        refine WL.yd (Yd.subN rfl rfl (by (try dsimp only); omega) (by (try dsimp only); omega)) rfl ?_
        refine WL.yd (Yd.assign rfl) rfl ?_
        refine WL.nil ?_
        refine WP.thenC ?_
        refine WC.seq ?_
        refine WC.block ?_
        refine WC.loop (fun y : Nat × Nat × Nat => [(0, .slice (some ⟨bd, 0, none⟩) n0 cap), (1, nt a), (2, nt m), (3, nt b), (4, cmpV), (18, nt ((a + b) / 2)), (19, nt ((a + b) / 2 + m)), (22, nt (((a + b) / 2 + m) - 1)), (20, nt y.2.1), (21, nt y.2.2)]) (fun _ => [(bd, datO l rest)]) (fun _ => D) (fun y => whl (fun x : Nat × Nat => decide (x.1 < x.2)) (halfStep (fun c => if c + 1 ≤ ((a + b) / 2 + m) then (lessAt l (((a + b) / 2 + m) - 1 - c) c).map (!·) else none)) y.1 (y.2.1, y.2.2) = some (st, s9) ∧ 0 ≤ y.2.1 ∧ y.2.1 ≤ 3001 ∧ y.2.2 ≤ 3000) (fun y => y.1) (⟨F, s0, r0⟩ : Nat × Nat × Nat) ⟨hh9, by simp only; omega, by simp only; omega, by simp only; omega⟩ (fun a w h => at_fr h ⟨rfl, rfl, rfl, rfl, rfl, rfl, rfl, rfl, rfl, rfl, trivial⟩) ?_
        rintro ⟨k9, i, j⟩ ⟨hw1, hi1, hi2, hj1⟩
        dsimp only at hw1 hi1 hi2 hj1
        refine WC.seq ?_
        refine WC.seq ?_
        refine WC.ofFr [(0, _), (1, _), (2, _), (3, _), (4, _), (18, _), (19, _), (22, _), (20, _), (21, _)] ⟨rfl, rfl, rfl, rfl, rfl, rfl, rfl, rfl, rfl, rfl, trivial⟩ ?_
        refine WC.region ?_
        refine WL.yd (Yd.move rfl) rfl ?_
        refine WL.yd (Yd.move rfl) rfl ?_
        refine WL.yd (Yd.lss rfl rfl) rfl ?_
        refine WL.nil ?_
        refine WP.thenC ?_
        refine WC.cond rfl (fun c151 => ?_) (fun c151 => ?_)
        · try simp only [zq1, zq2, zq3, zq4, zq5, zq6, zq7, zq8] at c151
          have hij : i < j := by omega
          obtain ⟨k1, bq, rfl, hp, hT, hF⟩ := half_true hw1 hij
          have hc1 : (i + j) / 2 + 1 ≤ ((a + b) / 2 + m) := by
            apply Decidable.byContradiction; intro hh; simp only [if_neg hh] at hp; cases hp
          simp only [if_pos hc1] at hp
          obtain ⟨b0, hp, hbn⟩ := Option.map_eq_some_iff.1 hp
          obtain ⟨hx1, hx2, hx3, hx4, hbq⟩ := lessAt_inv hp
          refine WC.skip ?_
          refine WP.thenC ?_
          refine WC.block ?_
          refine WC.seq ?_
          refine WC.ofFr [(0, _), (1, _), (2, _), (3, _), (4, _), (18, _), (19, _), (22, _), (20, _), (21, _)] ⟨rfl, rfl, rfl, rfl, rfl, rfl, rfl, rfl, rfl, rfl, trivial⟩ ?_
          refine WC.region ?_
          refine WL.yd (Yd.move rfl) rfl ?_
          refine WL.yd (Yd.move rfl) rfl ?_
          refine WL.yd (Yd.addN rfl rfl (by (try dsimp only); omega)) rfl ?_
          refine WL.yd (Yd.convNU Try.underlying3 Try.underlying98 rfl (by (try dsimp only); omega)) rfl ?_
          refine WL.yd (Yd.half rfl rfl) rfl ?_
          refine WL.yd (Yd.convUN Try.underlying98 Try.underlying3 rfl (by (try dsimp only); omega)) rfl ?_
          refine WL.yd (Yd.assign rfl) rfl ?_
          refine WL.nil ?_
          refine WP.thenC ?_
          refine WC.seq ?_
          refine WC.ofFr [(23, _), (0, _), (1, _), (2, _), (3, _), (4, _), (18, _), (19, _), (22, _), (20, _), (21, _)] ⟨rfl, rfl, rfl, rfl, rfl, rfl, rfl, rfl, rfl, rfl, rfl, trivial⟩ ?_
          refine WC.tail 11 [0, 1, 2, 3, 4, 5, 6, 7, 8, 9, 10] rfl (by kernel_rfl) (by kernel_rfl)  ?_
          refine WQ.q rfl (Yd.qt (Yd.move rfl)) rfl ?_
          refine WQ.q rfl (Yd.qt (Yd.move rfl)) rfl ?_
          refine WQ.q rfl (Yd.qt (Yd.move rfl)) rfl ?_
          refine WQ.q rfl (Yd.qt (Yd.move rfl)) rfl ?_
          refine WQ.q rfl (Yd.qt (Yd.subN rfl rfl (by (try dsimp only); omega) (by (try dsimp only); omega))) rfl ?_
          refine WQ.q rfl (Yd.qt (Yd.indexS Try.underlying101 Try.sizeOf98 rfl rfl (by (try dsimp only); omega) (by (try dsimp only); omega) (by first | exact rfl))) rfl ?_
          refine WQ.q rfl (Yd.qt (Yd.load1 Try.isAgg98 rfl (by first | exact (rd_data (k := 0) rfl (by (try dsimp only); omega))))) rfl ?_
          refine WQ.q rfl (Yd.qt (Yd.move rfl)) rfl ?_
          refine WQ.q rfl (Yd.qt (Yd.move rfl)) rfl ?_
          refine WQ.q rfl (Yd.qt (Yd.indexS Try.underlying101 Try.sizeOf98 rfl rfl (by (try dsimp only); omega) (by (try dsimp only); omega) (by first | exact rfl))) rfl ?_
          refine WQ.q rfl (Yd.qt (Yd.load1 Try.isAgg98 rfl (by first | exact (rd_data (k := 0) rfl (by (try dsimp only); omega))))) rfl ?_
          refine WQ.tail ?_
          refine WL.so (SO.call (Enters.val Try.call100 rfl rfl) (fun w hI => cmp_g _ _ hx3 hx4 _)) rfl ?_
          rintro _ _ _ ⟨rfl, rfl, rfl⟩
          refine WL.yd (Yd.lss rfl rfl) rfl ?_
          refine WL.yd (Yd.not rfl) rfl ?_
          refine WL.nil ?_
          refine WP.thenC ?_
          refine WC.cond rfl (fun c171 => ?_) (fun c171 => ?_)
          · try simp only [zq1, zq2, zq3, zq4, zq5, zq6, zq7, zq8] at c171
            have hbq1 : bq = true := by rw [← hbn, hbq]; simp only [Bool.not_eq_true', decide_eq_false_iff_not]; omega
            refine WC.ofFr [(23, _), (0, _), (1, _), (2, _), (3, _), (4, _), (18, _), (19, _), (22, _), (20, _), (21, _)] ⟨rfl, rfl, rfl, rfl, rfl, rfl, rfl, rfl, rfl, rfl, rfl, trivial⟩ ?_
            refine WC.region ?_
            refine WL.yd (Yd.move rfl) rfl ?_
            refine WL.yd (Yd.addN rfl rfl (by (try dsimp only); omega)) rfl ?_
            refine WL.yd (Yd.assign rfl) rfl ?_
            refine WL.nil ?_
            refine WP.blkNormal ?_
            first
              | exact WP.again (⟨k1, (i + j) / 2 + 1, j⟩ : Nat × Nat × Nat) ⟨hT hbq1, by simp only; omega, by simp only; omega, by simp only; omega⟩ (by simp only; omega) (fun aa ww h => at_fr h ⟨rfl, rfl, rfl, rfl, rfl, rfl, rfl, rfl, rfl, rfl, trivial⟩)
              | exact WP.again (⟨k1, i, (i + j) / 2⟩ : Nat × Nat × Nat) ⟨hF hbq1, by simp only; omega, by simp only; omega, by simp only; omega⟩ (by simp only; omega) (fun aa ww h => at_fr h ⟨rfl, rfl, rfl, rfl, rfl, rfl, rfl, rfl, rfl, rfl, trivial⟩)
          · try simp only [zq1, zq2, zq3, zq4, zq5, zq6, zq7, zq8] at c171
            have hbq1 : bq = false := by rw [← hbn, hbq]; simp only [Bool.not_eq_false', decide_eq_true_eq]; omega
            refine WC.ofFr [(23, _), (0, _), (1, _), (2, _), (3, _), (4, _), (18, _), (19, _), (22, _), (20, _), (21, _)] ⟨rfl, rfl, rfl, rfl, rfl, rfl, rfl, rfl, rfl, rfl, rfl, trivial⟩ ?_
            refine WC.region ?_
            refine WL.yd (Yd.move rfl) rfl ?_
            refine WL.yd (Yd.assign rfl) rfl ?_
            refine WL.nil ?_
            refine WP.blkNormal ?_
            first
              | exact WP.again (⟨k1, (i + j) / 2 + 1, j⟩ : Nat × Nat × Nat) ⟨hT hbq1, by simp only; omega, by simp only; omega, by simp only; omega⟩ (by simp only; omega) (fun aa ww h => at_fr h ⟨rfl, rfl, rfl, rfl, rfl, rfl, rfl, rfl, rfl, rfl, trivial⟩)
              | exact WP.again (⟨k1, i, (i + j) / 2⟩ : Nat × Nat × Nat) ⟨hF hbq1, by simp only; omega, by simp only; omega, by simp only; omega⟩ (by simp only; omega) (fun aa ww h => at_fr h ⟨rfl, rfl, rfl, rfl, rfl, rfl, rfl, rfl, rfl, rfl, trivial⟩)
        · try simp only [zq1, zq2, zq3, zq4, zq5, zq6, zq7, zq8] at c151
          have hij : ¬ i < j := by omega
          obtain rfl : st = i := half_false hw1 hij
          refine WC.exit ?_
          refine WP.thenExit ?_
          refine WP.thenExit ?_
          refine WP.blkHit ?_
          refine WP.thenC ?_
          refine WC.seq ?_
          refine WC.ofFr [(0, _), (1, _), (2, _), (3, _), (4, _), (18, _), (19, _), (20, _)] ⟨rfl, rfl, rfl, rfl, rfl, rfl, rfl, rfl, trivial⟩ ?_
          refine WC.region ?_
          refine WL.yd (Yd.move rfl) rfl ?_
          refine WL.yd (Yd.move rfl) rfl ?_
          refine WL.yd (Yd.subN rfl rfl (by (try dsimp only); omega) (by (try dsimp only); omega)) rfl ?_
          refine WL.yd (Yd.assign rfl) rfl ?_
          refine WL.nil ?_
          refine WP.thenC ?_
          refine WC.seqJ (fun _ : Unit => [(0, .slice (some ⟨bd, 0, none⟩) n0 cap), (1, nt a), (3, nt b), (4, cmpV), (18, nt ((a + b) / 2)), (20, nt st), (24, nt ((a + b) / 2 + m - st))]) (fun _ => [(bd, datO l1 rest)]) (fun _ => D) (fun _ => True) ?_ ?_
          · rintro ⟨⟩ -
            refine WC.seqJ (fun _ : Unit => [(0, .slice (some ⟨bd, 0, none⟩) n0 cap), (3, nt b), (4, cmpV), (18, nt ((a + b) / 2)), (24, nt ((a + b) / 2 + m - st))]) (fun _ => [(bd, datO l2 rest)]) (fun _ => D) (fun _ => True) ?_ ?_
            · rintro ⟨⟩ -
              refine WC.seq ?_
              refine WC.ofFr [(0, _), (3, _), (4, _), (18, _), (24, _)] ⟨rfl, rfl, rfl, rfl, rfl, trivial⟩ ?_
              refine WC.region ?_
              refine WL.yd (Yd.move rfl) rfl ?_
              refine WL.yd (Yd.move rfl) rfl ?_
              refine WL.yd (Yd.lss rfl rfl) rfl ?_
              refine WL.yd (Yd.move rfl) rfl ?_
              refine WL.part 209 rfl (fun g209 => ?_) (fun g209 => ?_)
              · try simp only [zq1, zq2, zq3, zq4, zq5, zq6, zq7, zq8] at g209
                have h209 : ((a + b) / 2) < ((a + b) / 2 + m - st) := by omega
                refine WL.ydg rfl (Yd.move rfl) rfl ?_
                refine WL.ydg rfl (Yd.move rfl) rfl ?_
                refine WL.ydg rfl (Yd.lss rfl rfl) rfl ?_
                refine WL.yd (Yd.pickT rfl rfl) rfl ?_
                refine WL.nil ?_
                refine WP.thenC ?_
                refine WC.cond rfl (fun c213 => ?_) (fun c213 => ?_)
                · try simp only [zq1, zq2, zq3, zq4, zq5, zq6, zq7, zq8] at c213
                  have h213 : ((a + b) / 2 + m - st) < b := by omega
                  rw [if_pos ⟨h209, h213⟩] at h8
                  refine WC.ofFr [(0, _), (3, _), (4, _), (18, _), (24, _)] ⟨rfl, rfl, rfl, rfl, rfl, trivial⟩ ?_
                  refine WC.region ?_
                  refine WL.yd (Yd.move rfl) rfl ?_
                  refine WL.yd (Yd.move rfl) rfl ?_
                  refine WL.yd (Yd.move rfl) rfl ?_
                  refine WL.yd (Yd.move rfl) rfl ?_
                  refine WL.yd (Yd.move rfl) rfl ?_
                  refine WL.so (SO.alters (own := []) (hpc := [_]) (S1 := [bd]) (fun _ h => h) (fun h => h) (fun _ h => h) (fun _ h => h) (Enters.func Try.call108 rfl) (fun w1 hI => ih ((a + b) / 2) ((a + b) / 2 + m - st) b l2 l' w1 hokB h8 hI)) rfl ?_
                  rintro _ _ _ ⟨_, _, ⟨rfl, rfl, rfl⟩, rfl⟩
                  refine WL.nil ?_
                  refine WP.ret0 rfl rfl Try.results108  (fun w1 hI => ⟨_, D, _, rfl, DExt.refl _ _, hI, fun _ h => h, rfl, rfl, rfl⟩)
                · try simp only [zq1, zq2, zq3, zq4, zq5, zq6, zq7, zq8] at c213
                  have h213 : ¬ ((a + b) / 2 + m - st) < b := by omega
                  rw [if_neg (fun hh => h213 hh.2)] at h8
                  cases h8
                  refine WC.skip ?_
                  refine WP.ret0 rfl rfl Try.results108  (fun w1 hI => ⟨_, D, _, rfl, DExt.refl _ _, hI, fun _ h => h, rfl, rfl, rfl⟩)
              · try simp only [zq1, zq2, zq3, zq4, zq5, zq6, zq7, zq8] at g209
                have h209 : ¬ ((a + b) / 2) < ((a + b) / 2 + m - st) := by omega
                rw [if_neg (fun hh => h209 hh.1)] at h8
                cases h8
                refine WL.skip rfl rfl ?_
                refine WL.skip rfl rfl ?_
                refine WL.skip rfl rfl ?_
                refine WL.yd (Yd.pickF rfl rfl) rfl ?_
                refine WL.nil ?_
                refine WP.thenC ?_
                refine WC.condF rfl ?_
                refine WC.skip ?_
                refine WP.ret0 rfl rfl Try.results108  (fun w1 hI => ⟨_, D, _, rfl, DExt.refl _ _, hI, fun _ h => h, rfl, rfl, rfl⟩)
            · skip
              refine WC.seq ?_
              refine WC.ofFr [(0, _), (1, _), (3, _), (4, _), (18, _), (20, _), (24, _)] ⟨rfl, rfl, rfl, rfl, rfl, rfl, rfl, trivial⟩ ?_
              refine WC.region ?_
              refine WL.yd (Yd.move rfl) rfl ?_
              refine WL.yd (Yd.move rfl) rfl ?_
              refine WL.yd (Yd.lss rfl rfl) rfl ?_
              refine WL.yd (Yd.move rfl) rfl ?_
              refine WL.part 195 rfl (fun g195 => ?_) (fun g195 => ?_)
              · try simp only [zq1, zq2, zq3, zq4, zq5, zq6, zq7, zq8] at g195
                have h195 : a < st := by omega
                refine WL.ydg rfl (Yd.move rfl) rfl ?_
                refine WL.ydg rfl (Yd.move rfl) rfl ?_
                refine WL.ydg rfl (Yd.lss rfl rfl) rfl ?_
                refine WL.yd (Yd.pickT rfl rfl) rfl ?_
                refine WL.nil ?_
                refine WP.thenC ?_
                refine WC.cond rfl (fun c199 => ?_) (fun c199 => ?_)
                · try simp only [zq1, zq2, zq3, zq4, zq5, zq6, zq7, zq8] at c199
                  have h199 : st < ((a + b) / 2) := by omega
                  rw [if_pos ⟨h195, h199⟩] at h7
                  refine WC.ofFr [(0, _), (1, _), (3, _), (4, _), (18, _), (20, _), (24, _)] ⟨rfl, rfl, rfl, rfl, rfl, rfl, rfl, trivial⟩ ?_
                  refine WC.region ?_
                  refine WL.yd (Yd.move rfl) rfl ?_
                  refine WL.yd (Yd.move rfl) rfl ?_
                  refine WL.yd (Yd.move rfl) rfl ?_
                  refine WL.yd (Yd.move rfl) rfl ?_
                  refine WL.yd (Yd.move rfl) rfl ?_
                  refine WL.so (SO.alters (own := []) (hpc := [_]) (S1 := [bd]) (fun _ h => h) (fun h => h) (fun _ h => h) (fun _ h => h) (Enters.func Try.call108 rfl) (fun w1 hI => ih a st ((a + b) / 2) l1 l2 w1 hokA h7 hI)) rfl ?_
                  rintro _ _ _ ⟨_, _, ⟨rfl, rfl, rfl⟩, rfl⟩
                  refine WL.nil ?_
                  exact WP.join () trivial (fun aa ww h => at_fr h ⟨rfl, rfl, rfl, rfl, rfl, trivial⟩)
                · try simp only [zq1, zq2, zq3, zq4, zq5, zq6, zq7, zq8] at c199
                  have h199 : ¬ st < ((a + b) / 2) := by omega
                  rw [if_neg (fun hh => h199 hh.2)] at h7
                  cases h7
                  refine WC.skip ?_
                  exact WP.join () trivial (fun aa ww h => at_fr h ⟨rfl, rfl, rfl, rfl, rfl, trivial⟩)
              · try simp only [zq1, zq2, zq3, zq4, zq5, zq6, zq7, zq8] at g195
                have h195 : ¬ a < st := by omega
                rw [if_neg (fun hh => h195 hh.1)] at h7
                cases h7
                refine WL.skip rfl rfl ?_
                refine WL.skip rfl rfl ?_
                refine WL.skip rfl rfl ?_
                refine WL.yd (Yd.pickF rfl rfl) rfl ?_
                refine WL.nil ?_
                refine WP.thenC ?_
                refine WC.condF rfl ?_
                refine WC.skip ?_
                exact WP.join () trivial (fun aa ww h => at_fr h ⟨rfl, rfl, rfl, rfl, rfl, trivial⟩)
          · skip
            refine WC.seq ?_
            refine WC.ofFr [(24, _), (0, _), (1, _), (2, _), (3, _), (4, _), (18, _), (20, _)] ⟨rfl, rfl, rfl, rfl, rfl, rfl, rfl, rfl, trivial⟩ ?_
            refine WC.region ?_
            refine WL.yd (Yd.move rfl) rfl ?_
            refine WL.yd (Yd.move rfl) rfl ?_
            refine WL.yd (Yd.lss rfl rfl) rfl ?_
            refine WL.yd (Yd.move rfl) rfl ?_
            refine WL.part 181 rfl (fun g181 => ?_) (fun g181 => ?_)
            · try simp only [zq1, zq2, zq3, zq4, zq5, zq6, zq7, zq8] at g181
              have h181 : st < m := by omega
              refine WL.ydg rfl (Yd.move rfl) rfl ?_
              refine WL.ydg rfl (Yd.move rfl) rfl ?_
              refine WL.ydg rfl (Yd.lss rfl rfl) rfl ?_
              refine WL.yd (Yd.pickT rfl rfl) rfl ?_
              refine WL.nil ?_
              refine WP.thenC ?_
              refine WC.cond rfl (fun c185 => ?_) (fun c185 => ?_)
              · try simp only [zq1, zq2, zq3, zq4, zq5, zq6, zq7, zq8] at c185
                have h185 : m < ((a + b) / 2 + m - st) := by omega
                rw [if_pos ⟨h181, h185⟩] at h6
                refine WC.ofFr [(24, _), (0, _), (1, _), (2, _), (3, _), (4, _), (18, _), (20, _)] ⟨rfl, rfl, rfl, rfl, rfl, rfl, rfl, rfl, trivial⟩ ?_
                refine WC.region ?_
                refine WL.yd (Yd.move rfl) rfl ?_
                refine WL.yd (Yd.move rfl) rfl ?_
                refine WL.yd (Yd.move rfl) rfl ?_
                refine WL.yd (Yd.move rfl) rfl ?_
                refine WL.yd (Yd.move rfl) rfl ?_
                refine WL.so (SO.alters (own := []) (hpc := [_]) (S1 := [bd]) (fun _ h => h) (fun h => h) (fun _ h => h) (fun _ h => h) (Enters.func Try.call109 rfl) (fun w1 hI => rot_g l l1 rest bd cap n0 D w1 hok.1 hl st m ((a + b) / 2 + m - st) cmpV (by omega) hok.2 h6 hI)) rfl ?_
                rintro _ _ _ ⟨_, _, ⟨rfl, rfl, rfl⟩, rfl⟩
                refine WL.nil ?_
                exact WP.join () trivial (fun aa ww h => at_fr h ⟨rfl, rfl, rfl, rfl, rfl, rfl, rfl, trivial⟩)
              · try simp only [zq1, zq2, zq3, zq4, zq5, zq6, zq7, zq8] at c185
                have h185 : ¬ m < ((a + b) / 2 + m - st) := by omega
                rw [if_neg (fun hh => h185 hh.2)] at h6
                cases h6
                refine WC.skip ?_
                exact WP.join () trivial (fun aa ww h => at_fr h ⟨rfl, rfl, rfl, rfl, rfl, rfl, rfl, trivial⟩)
            · try simp only [zq1, zq2, zq3, zq4, zq5, zq6, zq7, zq8] at g181
              have h181 : ¬ st < m := by omega
              rw [if_neg (fun hh => h181 hh.1)] at h6
              cases h6
              refine WL.skip rfl rfl ?_
              refine WL.skip rfl rfl ?_
              refine WL.skip rfl rfl ?_
              refine WL.yd (Yd.pickF rfl rfl) rfl ?_
              refine WL.nil ?_
              refine WP.thenC ?_
              refine WC.condF rfl ?_
              refine WC.skip ?_
              exact WP.join () trivial (fun aa ww h => at_fr h ⟨rfl, rfl, rfl, rfl, rfl, rfl, rfl, trivial⟩)
      · skip
        refine WC.seq ?_
        refine WC.ofFr [(21, _), (20, _), (19, _), (18, _), (0, _), (1, _), (2, _), (3, _), (4, _)] ⟨rfl, rfl, rfl, rfl, rfl, rfl, rfl, rfl, rfl, trivial⟩ ?_
        refine WC.region ?_
        refine WL.yd (Yd.move rfl) rfl ?_
        refine WL.yd (Yd.move rfl) rfl ?_
        refine WL.yd (Yd.gtr rfl rfl) rfl ?_
        refine WL.nil ?_
        refine WP.thenC ?_
        refine WC.cond rfl (fun c140 => ?_) (fun c140 => ?_)
        · try simp only [zq1, zq2, zq3, zq4, zq5, zq6, zq7, zq8] at c140
          have h140 : ((a + b) / 2) < m := by omega
          rw [if_pos h140] at hs3
          have hbn : b ≤ ((a + b) / 2 + m) := by
            apply Decidable.byContradiction; intro hh; rw [if_neg hh] at hs3; cases hs3
          rw [if_pos hbn] at hs3
          cases hs3
          refine WC.seq ?_
          refine WC.ofFr [(21, _), (20, _), (19, _), (18, _), (0, _), (1, _), (2, _), (3, _), (4, _)] ⟨rfl, rfl, rfl, rfl, rfl, rfl, rfl, rfl, rfl, trivial⟩ ?_
          refine WC.region ?_
          refine WL.yd (Yd.move rfl) rfl ?_
          refine WL.yd (Yd.move rfl) rfl ?_
          refine WL.yd (Yd.subN rfl rfl (by (try dsimp only); omega) (by (try dsimp only); omega)) rfl ?_
          refine WL.yd (Yd.assign rfl) rfl ?_
          refine WL.nil ?_
          refine WP.thenC ?_
          refine WC.ofFr [(20, _), (21, _), (19, _), (18, _), (0, _), (1, _), (2, _), (3, _), (4, _)] ⟨rfl, rfl, rfl, rfl, rfl, rfl, rfl, rfl, rfl, trivial⟩ ?_
          refine WC.region ?_
          refine WL.yd (Yd.move rfl) rfl ?_
          refine WL.yd (Yd.assign rfl) rfl ?_
          refine WL.nil ?_
          exact WP.join () trivial (fun aa ww h => at_fr h ⟨rfl, rfl, rfl, rfl, rfl, rfl, rfl, rfl, rfl, trivial⟩)
        · try simp only [zq1, zq2, zq3, zq4, zq5, zq6, zq7, zq8] at c140
          have h140 : ¬ ((a + b) / 2) < m := by omega
          rw [if_neg h140] at hs3
          cases hs3
          refine WC.seq ?_
          refine WC.ofFr [(21, _), (20, _), (19, _), (18, _), (0, _), (1, _), (2, _), (3, _), (4, _)] ⟨rfl, rfl, rfl, rfl, rfl, rfl, rfl, rfl, rfl, trivial⟩ ?_
          refine WC.region ?_
          refine WL.yd (Yd.move rfl) rfl ?_
          refine WL.yd (Yd.assign rfl) rfl ?_
          refine WL.nil ?_
          refine WP.thenC ?_
          refine WC.ofFr [(20, _), (21, _), (19, _), (18, _), (0, _), (1, _), (2, _), (3, _), (4, _)] ⟨rfl, rfl, rfl, rfl, rfl, rfl, rfl, rfl, rfl, trivial⟩ ?_
          refine WC.region ?_
          refine WL.yd (Yd.move rfl) rfl ?_
          refine WL.yd (Yd.assign rfl) rfl ?_
          refine WL.nil ?_
          exact WP.join () trivial (fun aa ww h => at_fr h ⟨rfl, rfl, rfl, rfl, rfl, rfl, rfl, rfl, rfl, trivial⟩)

end Go.Proofs.Ytidjdonppfegiaa
namespace Go.Proofs.Ytidjdonppfegiaa
open Go.W Go.Dp

theorem sym_g (rest : List Value) (bd cap n0 : Nat) (D : Imm) (hl : n0 ≤ 100) : ∀ (f : Nat) (a m b : Nat) (l l' : List Nat) (w : World), Ok n0 l → symM f a m b l = some l' → Inv D [(bd, datO l rest)] [bd] w w → Alters Try.prog 108 [.slice (some ⟨bd, 0, none⟩) n0 cap, nt a, nt m, nt b, cmpV] w D [bd] (fun v D' hpc' => v = .tuple #[] ∧ D = D' ∧ hpc' = [(bd, datO l' rest)]) := by
  intro f
  induction f with
  | zero => intro a m b l l' w _ h; simp [symM] at h
  | succ f ih => intro a m b l l' w hok h hI; exact sym_step f rest bd cap n0 D hl ih a m b l l' w hok h hI

set_option maxRecDepth 100000 in
set_option maxHeartbeats 1000000 in
theorem stab_small (l l' : List Nat) (rest : List Value) (bd cap n0 : Nat) (D : Imm) (w : World) (hok : Ok n0 l) (hl : n0 ≤ 19) (h : insS 0 n0 l = some l') (hI0 : Inv D [(bd, datO l rest)] [bd] w w) : Alters Try.prog 106 [.slice (some ⟨bd, 0, none⟩) n0 cap, nt n0, cmpV] w D [bd] (fun v D' hpc' => v = .tuple #[] ∧ D = D' ∧ hpc' = [(bd, datO l' rest)]) := by
  unfold Alters
  refine enter Try.func106 rfl 63 Try.ntmps106 (Nat.le_of_ble_eq_true rfl) hI0 ?_
  refine WC.seq ?_
  refine WC.ofFr [(0, _), (1, _), (2, _)] ⟨rfl, rfl, rfl, trivial⟩ ?_
  refine WC.region ?_
  refine WL.yd (Yd.assign rfl) rfl ?_
  refine WL.nil ?_
  refine WP.thenC ?_
  refine WC.seq ?_
  refine WC.ofFr [(6, _), (0, _), (1, _), (2, _)] ⟨rfl, rfl, rfl, rfl, trivial⟩ ?_
  refine WC.region ?_
  refine WL.yd (Yd.move rfl) rfl ?_
  refine WL.yd (Yd.assign rfl) rfl ?_
  refine WL.yd (Yd.assign rfl) rfl ?_
  refine WL.nil ?_
  refine WP.thenC ?_
  refine WC.seq ?_
  refine WC.block ?_
  refine WC.loopF (fun _ : Unit => [(0, .slice (some ⟨bd, 0, none⟩) n0 cap), (1, nt n0), (2, cmpV), (6, nt 20), (7, nt 0), (8, nt 20)]) (fun _ => True) (fun _ => 0) () trivial (by exact ⟨rfl, rfl, rfl, rfl, rfl, rfl, trivial⟩) ?_
  rintro ⟨⟩ -
  refine WC.seq ?_
  refine WC.seq ?_
  refine WC.ofFr [(0, _), (1, _), (2, _), (6, _), (7, _), (8, _)] ⟨rfl, rfl, rfl, rfl, rfl, rfl, trivial⟩ ?_
  refine WC.region ?_
  refine WL.yd (Yd.move rfl) rfl ?_
  refine WL.yd (Yd.move rfl) rfl ?_
  refine WL.yd (Yd.leq rfl rfl) rfl ?_
  refine WL.nil ?_
  refine WP.thenC ?_
  refine WC.cond rfl (fun c13 => ?_) (fun c13 => ?_)
  · try simp only [zq1, zq2, zq3, zq4, zq5, zq6, zq7, zq8] at c13
    exfalso; omega
  · try simp only [zq1, zq2, zq3, zq4, zq5, zq6, zq7, zq8] at c13
    refine WC.exit ?_
    refine WP.thenExit ?_
    refine WP.thenExit ?_
    refine WP.blkHit ?_
    refine WP.thenC ?_
    refine WC.seq ?_
    refine WC.ofFr [(0, _), (1, _), (2, _), (6, _), (7, _), (8, _)] ⟨rfl, rfl, rfl, rfl, rfl, rfl, trivial⟩ ?_
    refine WC.region ?_
    refine WL.yd (Yd.move rfl) rfl ?_
    refine WL.yd (Yd.move rfl) rfl ?_
    refine WL.yd (Yd.move rfl) rfl ?_
    refine WL.yd (Yd.move rfl) rfl ?_
    refine WL.so (SO.alters (own := []) (hpc := [_]) (S1 := [bd]) (fun _ h => h) (fun h => h) (fun _ h => h) (fun _ h => h) (Enters.func Try.call107 rfl) (fun w1 hI => ins_g l l' rest bd cap n0 D w1 hok.1 (by omega) 0 n0 ⟨by omega, by rw [hok.1]; exact Nat.le_refl _⟩ hok.2 h hI)) rfl ?_
    rintro _ _ _ ⟨_, _, ⟨rfl, rfl, rfl⟩, rfl⟩
    refine WL.nil ?_
    refine WP.thenC ?_
    refine WC.block ?_
    refine WC.loopF (fun _ : Unit => [(0, .slice (some ⟨bd, 0, none⟩) n0 cap), (1, nt n0), (2, cmpV), (6, nt 20)]) (fun _ => True) (fun _ => 0) () trivial (by exact ⟨rfl, rfl, rfl, rfl, trivial⟩) ?_
    rintro ⟨⟩ -
    refine WC.seq ?_
    refine WC.seq ?_
    refine WC.ofFr [(0, _), (1, _), (2, _), (6, _)] ⟨rfl, rfl, rfl, rfl, trivial⟩ ?_
    refine WC.region ?_
    refine WL.yd (Yd.move rfl) rfl ?_
    refine WL.yd (Yd.move rfl) rfl ?_
    refine WL.yd (Yd.lss rfl rfl) rfl ?_
    refine WL.nil ?_
    refine WP.thenC ?_
    refine WC.cond rfl (fun c30 => ?_) (fun c30 => ?_)
    · try simp only [zq1, zq2, zq3, zq4, zq5, zq6, zq7, zq8] at c30
      exfalso; omega
    · try simp only [zq1, zq2, zq3, zq4, zq5, zq6, zq7, zq8] at c30
      refine WC.exit ?_
      refine WP.thenExit ?_
      refine WP.thenExit ?_
      refine WP.blkHit ?_
      refine WP.ret0 rfl rfl Try.results106  (fun w1 hI => ⟨_, D, _, rfl, DExt.refl _ _, hI, fun _ h => h, rfl, rfl, rfl⟩)

set_option maxRecDepth 100000 in
set_option maxHeartbeats 1000000 in
theorem stab_32 (l l1 l2 l3 : List Nat) (rest : List Value) (bd cap : Nat) (D : Imm) (w : World) (hok : Ok 32 l) (h1 : insS 0 20 l = some l1) (h2 : insS 20 32 l1 = some l2) (h3 : symM 10 0 20 32 l2 = some l3) (hI0 : Inv D [(bd, datO l rest)] [bd] w w) : Alters Try.prog 106 [.slice (some ⟨bd, 0, none⟩) 32 cap, nt 32, cmpV] w D [bd] (fun v D' hpc' => v = .tuple #[] ∧ D = D' ∧ hpc' = [(bd, datO l3 rest)]) := by
  unfold Alters
  have hk1 := insS_ok hok h1
  have hk2 := insS_ok hk1 h2
  refine enter Try.func106 rfl 63 Try.ntmps106 (Nat.le_of_ble_eq_true rfl) hI0 ?_
  refine WC.seq ?_
  refine WC.ofFr [(0, _), (1, _), (2, _)] ⟨rfl, rfl, rfl, trivial⟩ ?_
  refine WC.region ?_
  refine WL.yd (Yd.assign rfl) rfl ?_
  refine WL.nil ?_
  refine WP.thenC ?_
  refine WC.seq ?_
  refine WC.ofFr [(6, _), (0, _), (1, _), (2, _)] ⟨rfl, rfl, rfl, rfl, trivial⟩ ?_
  refine WC.region ?_
  refine WL.yd (Yd.move rfl) rfl ?_
  refine WL.yd (Yd.assign rfl) rfl ?_
  refine WL.yd (Yd.assign rfl) rfl ?_
  refine WL.nil ?_
  refine WP.thenC ?_
  refine WC.seq ?_
  refine WC.block ?_
  refine WC.loop (fun y : Nat => [(0, .slice (some ⟨bd, 0, none⟩) 32 cap), (1, nt 32), (2, cmpV), (6, nt 20), (7, nt (20 * y)), (8, nt (20 + 20 * y))]) (fun y => [(bd, datO (if y = 0 then l else l1) rest)]) (fun _ => D) (fun y => y ≤ 1) (fun y => 1 - y) 0 (by omega) (fun a w h => at_fr h ⟨rfl, rfl, rfl, rfl, rfl, rfl, trivial⟩) ?_
  intro y hy
  refine WC.seq ?_
  refine WC.seq ?_
  refine WC.ofFr [(0, _), (1, _), (2, _), (6, _), (7, _), (8, _)] ⟨rfl, rfl, rfl, rfl, rfl, rfl, trivial⟩ ?_
  refine WC.region ?_
  refine WL.yd (Yd.move rfl) rfl ?_
  refine WL.yd (Yd.move rfl) rfl ?_
  refine WL.yd (Yd.leq rfl rfl) rfl ?_
  refine WL.nil ?_
  refine WP.thenC ?_
  refine WC.cond rfl (fun c13 => ?_) (fun c13 => ?_)
  · try simp only [zq1, zq2, zq3, zq4, zq5, zq6, zq7, zq8] at c13
    obtain rfl : y = 0 := by omega
    refine WC.skip ?_
    refine WP.thenC ?_
    refine WC.block ?_
    refine WC.seq ?_
    refine WC.ofFr [(0, _), (1, _), (2, _), (6, _), (7, _), (8, _)] ⟨rfl, rfl, rfl, rfl, rfl, rfl, trivial⟩ ?_
    refine WC.region ?_
    refine WL.yd (Yd.move rfl) rfl ?_
    refine WL.yd (Yd.move rfl) rfl ?_
    refine WL.yd (Yd.move rfl) rfl ?_
    refine WL.yd (Yd.move rfl) rfl ?_
    refine WL.so (SO.alters (own := []) (hpc := [_]) (S1 := [bd]) (fun _ h => h) (fun h => h) (fun _ h => h) (fun _ h => h) (Enters.func Try.call107 rfl) (fun w1 hI => ins_g l l1 rest bd cap 32 D w1 hok.1 (by omega) 0 20 ⟨by omega, by rw [hok.1]; omega⟩ hok.2 h1 hI)) rfl ?_
    rintro _ _ _ ⟨_, _, ⟨rfl, rfl, rfl⟩, rfl⟩
    refine WL.nil ?_
    refine WP.thenC ?_
    refine WC.seq ?_
    refine WC.ofFr [(0, _), (1, _), (2, _), (6, _), (7, _), (8, _)] ⟨rfl, rfl, rfl, rfl, rfl, rfl, trivial⟩ ?_
    refine WC.region ?_
    refine WL.yd (Yd.move rfl) rfl ?_
    refine WL.yd (Yd.assign rfl) rfl ?_
    refine WL.nil ?_
    refine WP.thenC ?_
    refine WC.ofFr [(7, _), (0, _), (1, _), (2, _), (6, _), (8, _)] ⟨rfl, rfl, rfl, rfl, rfl, rfl, trivial⟩ ?_
    refine WC.region ?_
    refine WL.yd (Yd.move rfl) rfl ?_
    refine WL.yd (Yd.move rfl) rfl ?_
    refine WL.yd (Yd.addN rfl rfl (by (try dsimp only); omega)) rfl ?_
    refine WL.yd (Yd.assign rfl) rfl ?_
    refine WL.nil ?_
    refine WP.blkNormal ?_
    exact WP.again 1 (by omega) (by omega) (fun aa ww h => at_fr h ⟨rfl, rfl, rfl, rfl, rfl, rfl, trivial⟩)
  · try simp only [zq1, zq2, zq3, zq4, zq5, zq6, zq7, zq8] at c13
    obtain rfl : y = 1 := by omega
    refine WC.exit ?_
    refine WP.thenExit ?_
    refine WP.thenExit ?_
    refine WP.blkHit ?_
    refine WP.thenC ?_
    refine WC.seq ?_
    refine WC.ofFr [(0, _), (1, _), (2, _), (6, _), (7, _), (8, _)] ⟨rfl, rfl, rfl, rfl, rfl, rfl, trivial⟩ ?_
    refine WC.region ?_
    refine WL.yd (Yd.move rfl) rfl ?_
    refine WL.yd (Yd.move rfl) rfl ?_
    refine WL.yd (Yd.move rfl) rfl ?_
    refine WL.yd (Yd.move rfl) rfl ?_
    refine WL.so (SO.alters (own := []) (hpc := [_]) (S1 := [bd]) (fun _ h => h) (fun h => h) (fun _ h => h) (fun _ h => h) (Enters.func Try.call107 rfl) (fun w1 hI => ins_g l1 l2 rest bd cap 32 D w1 hk1.1 (by omega) 20 32 ⟨by omega, by rw [hk1.1]; omega⟩ hk1.2 h2 hI)) rfl ?_
    rintro _ _ _ ⟨_, _, ⟨rfl, rfl, rfl⟩, rfl⟩
    refine WL.nil ?_
    refine WP.thenC ?_
    refine WC.block ?_
    refine WC.loop (fun z : Nat => [(0, .slice (some ⟨bd, 0, none⟩) 32 cap), (1, nt 32), (2, cmpV), (6, nt (20 + 20 * z))]) (fun z => [(bd, datO (if z = 0 then l2 else l3) rest)]) (fun _ => D) (fun z => z ≤ 1) (fun z => 1 - z) 0 (by omega) (fun a w h => at_fr h ⟨rfl, rfl, rfl, rfl, trivial⟩) ?_
    intro z hz
    refine WC.seq ?_
    refine WC.seq ?_
    refine WC.ofFr [(0, _), (1, _), (2, _), (6, _)] ⟨rfl, rfl, rfl, rfl, trivial⟩ ?_
    refine WC.region ?_
    refine WL.yd (Yd.move rfl) rfl ?_
    refine WL.yd (Yd.move rfl) rfl ?_
    refine WL.yd (Yd.lss rfl rfl) rfl ?_
    refine WL.nil ?_
    refine WP.thenC ?_
    refine WC.cond rfl (fun c30 => ?_) (fun c30 => ?_)
    · try simp only [zq1, zq2, zq3, zq4, zq5, zq6, zq7, zq8] at c30
      obtain rfl : z = 0 := by omega
      refine WC.skip ?_
      refine WP.thenC ?_
      refine WC.block ?_
      refine WC.seq ?_
      refine WC.ofFr [(0, _), (1, _), (2, _), (6, _)] ⟨rfl, rfl, rfl, rfl, trivial⟩ ?_
      refine WC.region ?_
      refine WL.yd (Yd.move rfl) rfl ?_
      refine WL.yd (Yd.mul rfl rfl (wr64 ⟨by (try dsimp only); omega, by (try dsimp only); omega⟩)) rfl ?_
      refine WL.yd (Yd.assign rfl) rfl ?_
      refine WL.yd (Yd.assign rfl) rfl ?_
      refine WL.nil ?_
      refine WP.thenC ?_
      refine WC.seq ?_
      refine WC.block ?_
      refine WC.loopF (fun _ : Unit => [(0, .slice (some ⟨bd, 0, none⟩) 32 cap), (1, nt 32), (2, cmpV), (6, nt 20), (7, nt 0), (8, nt 40)]) (fun _ => True) (fun _ => 0) () trivial (by exact ⟨rfl, rfl, rfl, rfl, rfl, rfl, trivial⟩) ?_
      rintro ⟨⟩ -
      refine WC.seq ?_
      refine WC.seq ?_
      refine WC.ofFr [(0, _), (1, _), (2, _), (6, _), (7, _), (8, _)] ⟨rfl, rfl, rfl, rfl, rfl, rfl, trivial⟩ ?_
      refine WC.region ?_
      refine WL.yd (Yd.move rfl) rfl ?_
      refine WL.yd (Yd.move rfl) rfl ?_
      refine WL.yd (Yd.leq rfl rfl) rfl ?_
      refine WL.nil ?_
      refine WP.thenC ?_
      refine WC.cond rfl (fun c35 => ?_) (fun c35 => ?_)
      · try simp only [zq1, zq2, zq3, zq4, zq5, zq6, zq7, zq8] at c35
        exfalso; omega
      · try simp only [zq1, zq2, zq3, zq4, zq5, zq6, zq7, zq8] at c35
        refine WC.exit ?_
        refine WP.thenExit ?_
        refine WP.thenExit ?_
        refine WP.blkHit ?_
        refine WP.thenC ?_
        refine WC.seq ?_
        refine WC.seq ?_
        refine WC.ofFr [(0, _), (1, _), (2, _), (6, _), (7, _)] ⟨rfl, rfl, rfl, rfl, rfl, trivial⟩ ?_
        refine WC.region ?_
        refine WL.yd (Yd.move rfl) rfl ?_
        refine WL.yd (Yd.move rfl) rfl ?_
        refine WL.yd (Yd.addN rfl rfl (by (try dsimp only); omega)) rfl ?_
        refine WL.yd (Yd.assign rfl) rfl ?_
        refine WL.nil ?_
        refine WP.thenC ?_
        refine WC.seq ?_
        refine WC.ofFr [(9, _), (0, _), (1, _), (2, _), (6, _), (7, _)] ⟨rfl, rfl, rfl, rfl, rfl, rfl, trivial⟩ ?_
        refine WC.region ?_
        refine WL.yd (Yd.move rfl) rfl ?_
        refine WL.yd (Yd.move rfl) rfl ?_
        refine WL.yd (Yd.lss rfl rfl) rfl ?_
        refine WL.nil ?_
        refine WP.thenC ?_
        refine WC.cond rfl (fun c54 => ?_) (fun c54 => ?_)
        · try simp only [zq1, zq2, zq3, zq4, zq5, zq6, zq7, zq8] at c54
          refine WC.ofFr [(9, _), (0, _), (1, _), (2, _), (6, _), (7, _)] ⟨rfl, rfl, rfl, rfl, rfl, rfl, trivial⟩ ?_
          refine WC.region ?_
          refine WL.yd (Yd.move rfl) rfl ?_
          refine WL.yd (Yd.move rfl) rfl ?_
          refine WL.yd (Yd.move rfl) rfl ?_
          refine WL.yd (Yd.move rfl) rfl ?_
          refine WL.yd (Yd.move rfl) rfl ?_
          refine WL.so (SO.alters (own := []) (hpc := [_]) (S1 := [bd]) (fun _ h => h) (fun h => h) (fun _ h => h) (fun _ h => h) (Enters.func Try.call108 rfl) (fun w1 hI => sym_g rest bd cap 32 D (by omega) 10 0 20 32 l2 l3 w1 hk2 h3 hI)) rfl ?_
          rintro _ _ _ ⟨_, _, ⟨rfl, rfl, rfl⟩, rfl⟩
          refine WL.nil ?_
          refine WP.thenC ?_
          refine WC.ofFr [(0, _), (1, _), (2, _), (6, _)] ⟨rfl, rfl, rfl, rfl, trivial⟩ ?_
          refine WC.region ?_
          refine WL.yd (Yd.move rfl) rfl ?_
          refine WL.yd (Yd.mul rfl rfl (wr64 ⟨by (try dsimp only); omega, by (try dsimp only); omega⟩)) rfl ?_
          refine WL.yd (Yd.assign rfl) rfl ?_
          refine WL.nil ?_
          refine WP.blkNormal ?_
          exact WP.again 1 (by omega) (by omega) (fun aa ww h => at_fr h ⟨rfl, rfl, rfl, rfl, trivial⟩)
        · try simp only [zq1, zq2, zq3, zq4, zq5, zq6, zq7, zq8] at c54
          exfalso; omega
    · try simp only [zq1, zq2, zq3, zq4, zq5, zq6, zq7, zq8] at c30
      obtain rfl : z = 1 := by omega
      refine WC.exit ?_
      refine WP.thenExit ?_
      refine WP.thenExit ?_
      refine WP.blkHit ?_
      refine WP.ret0 rfl rfl Try.results106  (fun w1 hI => ⟨_, D, _, rfl, DExt.refl _ _, hI, fun _ h => h, rfl, rfl, rfl⟩)

theorem stab_g (k : Nat) (hk : k ≤ 5) (rest : List Value) (bd cap : Nat) (D : Imm) (w : World) (hI0 : Inv D [(bd, datO (List.range (2 ^ k)) rest)] [bd] w w) : Alters Try.prog 106 [.slice (some ⟨bd, 0, none⟩) (2 ^ k) cap, nt (2 ^ k), cmpV] w D [bd] (fun v D' hpc' => v = .tuple #[] ∧ D = D' ∧ hpc' = [(bd, datO (setsL k) rest)]) := by
  have hsm : Sm (List.range (2 ^ k)) := fun i hi => by
    have h2 : 2 ^ k ≤ 2 ^ 5 := Nat.pow_le_pow_right (by omega) hk
    simp at hi
    simp [gt, List.getD, hi]; omega
  have hok : Ok (2 ^ k) (List.range (2 ^ k)) := ⟨by simp, hsm⟩
  rcases (show k = 0 ∨ k = 1 ∨ k = 2 ∨ k = 3 ∨ k = 4 ∨ k = 5 by omega) with rfl | rfl | rfl | rfl | rfl | rfl
  · exact stab_small _ _ rest bd cap _ D w hok (by decide) (by decide) hI0
  · exact stab_small _ _ rest bd cap _ D w hok (by decide) (by decide) hI0
  · exact stab_small _ _ rest bd cap _ D w hok (by decide) (by decide) hI0
  · exact stab_small _ _ rest bd cap _ D w hok (by decide) (by decide) hI0
  · exact stab_small _ _ rest bd cap _ D w hok (by decide) (by decide) hI0
  · have h := sorted5
    unfold sortS at h
    simp only [List.length_range] at h
    rw [if_neg (by omega), if_pos trivial] at h
    obtain ⟨l1, h1, h⟩ := Option.bind_eq_some_iff.1 h
    obtain ⟨l2, h2, h3⟩ := Option.bind_eq_some_iff.1 h
    exact stab_32 _ l1 l2 _ rest bd cap D w hok h1 h2 h3 hI0

set_option maxRecDepth 100000 in
set_option maxHeartbeats 1000000 in
theorem sort_g (k : Nat) (hk : k ≤ 5) (rest : List Value) (bd cap : Nat) (D : Imm) (w : World) (hI0 : Inv D [(bd, datO (List.range (2 ^ k)) rest)] [bd] w w) : Alters Try.prog 99 [.slice (some ⟨bd, 0, none⟩) (2 ^ k) cap, cmpV] w D [bd] (fun v D' hpc' => v = .tuple #[] ∧ D = D' ∧ hpc' = [(bd, datO (setsL k) rest)]) := by
  unfold Alters
  refine enter Try.func99 rfl 9 Try.ntmps99 (Nat.le_of_ble_eq_true rfl) hI0 ?_
  refine WC.ofFr [(0, _), (1, _)] ⟨rfl, rfl, trivial⟩ ?_
  refine WC.region ?_
  refine WL.yd (Yd.move rfl) rfl ?_
  refine WL.yd (Yd.move rfl) rfl ?_
  refine WL.yd (Yd.lenS rfl Try.underlying101 rfl) rfl ?_
  refine WL.yd (Yd.move rfl) rfl ?_
  refine WL.so (SO.alters (own := []) (hpc := [_]) (S1 := [bd]) (fun _ h => h) (fun h => h) (fun _ h => h) (fun _ h => h) (Enters.func Try.call106 rfl) (fun w1 hI => stab_g k hk rest bd cap D w1 hI)) rfl ?_
  rintro _ _ _ ⟨_, _, ⟨rfl, rfl, rfl⟩, rfl⟩
  refine WL.nil ?_
  refine WP.ret0 rfl rfl Try.results99  (fun w1 hI => ⟨_, D, _, rfl, DExt.refl _ _, hI, fun _ h => h, rfl, rfl, rfl⟩)

end Go.Proofs.Ytidjdonppfegiaa
namespace Go.Proofs.Ytidjdonppfegiaa
open Go.W Go.Dp

theorem flat_ut (l : List Nat) : l.flatMap (fun x => [ut x]) = l.map ut := by
  induction l with
  | nil => rfl
  | cons x l ih => rw [List.flatMap_cons, ih]; rfl
theorem setsL_len (k : Nat) (hk : k ≤ 5) : (setsL k).length = 2 ^ k := by
  rcases (show k = 0 ∨ k = 1 ∨ k = 2 ∨ k = 3 ∨ k = 4 ∨ k = 5 by omega) with rfl | rfl | rfl | rfl | rfl | rfl <;> decide
theorem shlU (k : Nat) (hk : k ≤ 5) : IntKind.u64.wrap (1 * 2 ^ (min ((k : Int)).toNat IntKind.u64.bits)) = ((2 ^ k : Nat) : Int) := by
  rcases (show k = 0 ∨ k = 1 ∨ k = 2 ∨ k = 3 ∨ k = 4 ∨ k = 5 by omega) with rfl | rfl | rfl | rfl | rfl | rfl <;> decide

set_option maxRecDepth 100000 in
set_option maxHeartbeats 1000000 in
theorem sets_g (k : Nat) (hk : k ≤ 5) (D : Imm) (w : World) (hH : Holds D w) : Makes Try.prog 75 [nt k] w D (fun v D' => ∃ b cap, v = .slice (some ⟨b, 0, none⟩) (2 ^ k) cap ∧ SlL D' 1 ((setsL k).map fun x => [ut x]) (some ⟨b, 0, none⟩) (2 ^ k)) := by
  unfold Makes
  have h25 : 2 ^ k ≤ 2 ^ 5 := Nat.pow_le_pow_right (by omega) hk
  have h21 : 1 ≤ 2 ^ k := Nat.one_le_two_pow
  refine enter Try.func75 rfl 17 Try.ntmps75 (Nat.le_of_ble_eq_true rfl) (Inv.start hH) ?_
  refine WC.seq ?_
  refine WC.ofFr [(0, _)] ⟨rfl, trivial⟩ ?_
  refine WC.region ?_
  refine WL.yd (Yd.assign rfl) rfl ?_
  refine WL.nil ?_
  refine WP.thenC ?_
  refine WC.seq ?_
  refine WC.seq ?_
  refine WC.ofFr [(2, _), (0, _)] ⟨rfl, rfl, trivial⟩ ?_
  refine WC.region ?_
  refine WL.yd (Yd.move rfl) rfl ?_
  refine WL.yd (Yd.shl rfl rfl (by omega) (shlU k hk)) rfl ?_
  refine WL.yd (Yd.move rfl) rfl ?_
  refine WL.nil ?_
  refine WP.thenC ?_
  refine WC.block ?_
  refine WC.loop (fun y : Nat × Option Ow => [(2, owV y.2 y.1), (5, ut (2 ^ k)), (6, ut y.1)]) (fun y => owH y.2 98 ((List.range y.1).map ut) []) (fun _ => D) (fun y => y.1 ≤ 2 ^ k ∧ owP w y.2 y.1 1) (fun y => 2 ^ k - y.1) (0, none) ⟨by omega, rfl⟩ (fun a w h => at_fr h ⟨rfl, rfl, rfl, trivial⟩) ?_
  rintro ⟨i, o⟩ ⟨hi, ho⟩
  dsimp only at hi ho
  refine WC.seq ?_
  refine WC.ofFr [(2, _), (5, _), (6, _)] ⟨rfl, rfl, rfl, trivial⟩ ?_
  refine WC.region ?_
  refine WL.yd (Yd.lss rfl rfl) rfl ?_
  refine WL.nil ?_
  refine WP.thenC ?_
  refine WC.seq ?_
  refine WC.cond rfl (fun c7 => ?_) (fun c7 => ?_)
  · try simp only [zq1, zq2, zq3, zq4, zq5, zq6, zq7, zq8] at c7
    refine WC.skip ?_
    refine WP.thenC ?_
    refine WC.seq ?_
    refine WC.block ?_
    refine WC.seq ?_
    refine WC.ofFr [(2, _), (5, _), (6, _)] ⟨rfl, rfl, rfl, trivial⟩ ?_
    refine WC.region ?_
    refine WL.yd (Yd.move rfl) rfl ?_
    refine WL.yd (Yd.assign rfl) rfl ?_
    refine WL.nil ?_
    refine WP.thenC ?_
    refine WC.ofFr [(3, _), (2, _), (5, _), (6, _)] ⟨rfl, rfl, rfl, rfl, trivial⟩ ?_
    refine WC.region ?_
    refine WL.yd (Yd.move rfl) rfl ?_
    refine WL.yd (Yd.move rfl) rfl ?_
    refine WL.so (SO.buildSlice Try.underlying101 Try.sizeOf98 Try.zeroValue98 rfl rfl rfl rfl (cs := [_]) rfl) rfl ?_
    rintro _ _ _ ⟨b11, hb11, rfl, rfl, rfl⟩ -- NEW
    refine WL.so (SO.appendOw (o := o) (len := i) (n := 1) (xs := (List.range i).map ut) (size := 1) [_] [] [] rfl rfl Try.underlying101 Try.sizeOf98 Try.typeInfo98 Try.zeroValue98 rfl rfl rfl rfl ⟨rfl, .inr ⟨_, _, _, rfl, RdN.own (k := 0) (n := 1) rfl rfl⟩⟩ (oneB_spec rfl) ho (by simp) (by omega) (by show (2 * (_ + _) + 1000) * 8 ≤ 2 ^ 48; omega) (by omega)) rfl ?_
    rintro _ _ _ ⟨u1, hu1, rfl, rfl, rfl⟩
    refine WL.yd (Yd.assign rfl) rfl ?_
    refine WL.nil ?_
    refine WP.blkNormal ?_
    refine WP.thenC ?_
    refine WC.ofFr [(2, _), (5, _), (6, _)] ⟨rfl, rfl, rfl, trivial⟩ ?_
    refine WC.region ?_
    refine WL.yd (Yd.addU (j := 1) rfl rfl (by omega)) rfl ?_
    refine WL.yd (Yd.move rfl) rfl ?_
    refine WL.nil ?_
    refine WP.again (⟨i + 1, some u1⟩ : Nat × Option Ow) ⟨by simp only; omega, hu1⟩ (by simp only; omega) (fun aa ww h => ?_)
    show At _ [(2, owV (some u1) (i + 1)), (5, ut (2 ^ k)), (6, ut (i + 1))] D (owH (some u1) 98 ((List.range (i + 1)).map ut) []) aa ww
    rw [List.range_succ, List.map_append]
    exact at_less h ⟨rfl, rfl, rfl, trivial⟩ (fun _ h => h) (fun h => h)
  · try simp only [zq1, zq2, zq3, zq4, zq5, zq6, zq7, zq8] at c7
    refine WC.exit ?_
    refine WP.thenExit ?_
    refine WP.thenExit ?_
    refine WP.blkHit ?_
    refine WP.thenC ?_
    refine WC.seq ?_
    refine WC.ofFr [(2, _)] ⟨rfl, trivial⟩ ?_
    refine WC.region ?_
    obtain rfl : i = 2 ^ k := by omega
    obtain ⟨u, rfl⟩ : ∃ u, o = some u := by
      cases o with
      | none => have h0 : (2 : Nat) ^ k = 0 := ho
                omega
      | some u => exact ⟨u, rfl⟩
    refine WL.yd (Yd.move rfl) rfl ?_
    refine WL.so (SO.alters (own := []) (hpc := [_]) (S1 := [u.b]) (fun _ h => h) (fun h => h) (fun _ h => h) (fun _ h => h) (Enters.func Try.call99 rfl) (fun w1 hI => sort_g k hk u.rest u.b u.cap D w1 hI)) rfl ?_
    rintro _ _ _ ⟨_, _, ⟨rfl, rfl, rfl⟩, rfl⟩
    refine WL.nil ?_
    refine WP.thenC ?_
    refine WC.seq ?_
    refine WC.ofFr [(2, _)] ⟨rfl, trivial⟩ ?_
    refine WC.region ?_
    refine WL.yd (Yd.move rfl) rfl ?_
    refine WL.yd (Yd.assign rfl) rfl ?_
    refine WL.nil ?_
    refine WP.thenC ?_
    refine WC.ret ?_
    refine WP.ret1 rfl rfl Try.results75 (RV.tmp rfl) (fun w1 hI => ⟨_, _, rfl, hI.keep, hI.freeze.imm, (DExt.refl _ _).add (hI.apart _ _ (List.mem_of_getElem? (i := 0) rfl)) ho.1, u.b, u.cap, rfl, by have := SlL.ofBlock (f := fun x => [ut x]) (m := 1) (D := D.add u.b (datO (setsL k) u.rest)) (b := u.b) (t := 98) (fz := (0, 0)) (l := setsL k) (rest := u.rest) (fun _ => rfl) (by rw [flat_ut]; exact Imm.add_self _ _ _); rw [setsL_len k hk] at this; exact this⟩)

end Go.Proofs.Ytidjdonppfegiaa
