import Derived.Test.YtkhmmefgllbobaaXG
import Derived.Test.YtkhmmefgllbobaaXB
import Derived.Test.YtkhmmefgllbobaaXM
set_option linter.unusedSimpArgs false
set_option linter.unusedVariables false
set_option linter.all false
namespace Go.Proofs.Ytkhmmefgllbobaa
open Go.W Go.Po

def Sm (l : List Nat) : Prop := ∀ i, i < l.length → gt l i < 256
theorem swp_spec {l l' : List Nat} {i j : Nat} (h : swp l i j = some l') : i < l.length ∧ j < l.length ∧ l' = (l.set i (gt l j)).set j (gt l i) ∧ l'.length = l.length := by
  unfold swp at h
  split at h
  · rename_i hh
    cases h
    exact ⟨hh.1, hh.2, rfl, by simp⟩
  · cases h
theorem gt_set (l : List Nat) (i j x : Nat) (hi : i < l.length) : gt (l.set i x) j = if i = j then x else gt l j := by
  simp only [gt, List.getD, List.getElem?_set]
  split
  · rename_i e; subst e; simp [hi]
  · rfl
theorem Sm.swp {l l' : List Nat} {i j : Nat} (hs : Sm l) (h : swp l i j = some l') : Sm l' := by
  obtain ⟨hi, hj, rfl, hl⟩ := swp_spec h
  intro k hk
  have h1 := hs i hi
  have h2 := hs j hj
  have hk' : k < l.length := by simpa using hk
  have h3 := hs k hk'
  rw [gt_set _ _ _ _ (by simpa using hj)]
  split
  · exact h1
  · rw [gt_set _ _ _ _ hi]; split
    · exact h2
    · exact h3
theorem lessAt_some {l : List Nat} {i j : Nat} (hs : Sm l) (hi : i < l.length) (hj : j < l.length) : lessAt l i j = some (decide (pop (gt l i) < pop (gt l j))) := by
  unfold lessAt; rw [if_pos ⟨hi, hj, hs i hi, hs j hj⟩]
theorem pop_le (n : Nat) : pop n ≤ 8 := by unfold pop; omega
theorem st_two {l : List Nat} (rest : List Value) {i j x : Nat} (hi : i < l.length) (hj : j < l.length) : 0 + j * 1 + 1 ≤ (splice (l.map ut ++ rest) (0 + i * 1) [ut x]).length := by
  rw [splice_data _ _ _ _ hi]; exact len_data _ _ (by rw [List.length_set]; exact hj)
def datO (l : List Nat) (rest : List Value) : Obj := .cells (List.toArray (l.map ut ++ rest)) 99 (0, 0)
def cmpV : Value := .func (.func 106) #[] #[]
theorem swp_mem {l l' : List Nat} {i j : Nat} (rest : List Value) (h : swp l i j = some l') : splice (splice (l.map ut ++ rest) (0 + i * 1) [ut (gt l j)]) (0 + j * 1) [ut (gt l i)] = l'.map ut ++ rest := by
  obtain ⟨hi, hj, rfl, hl⟩ := swp_spec h
  rw [splice_data _ _ _ _ hi, splice_data _ _ _ _ (by simpa using hj)]

set_option maxRecDepth 100000 in
set_option maxHeartbeats 1000000 in
theorem ones64_g (x : Nat) (hx : x < 256) (w : World) : Gives Try.prog 108 [ut x] w (nt (pop x)) := by
  unfold Gives
  refine enter Try.func108 rfl 35 Try.ntmps108 (Nat.le_of_ble_eq_true rfl) (Inv.start (D := fun _ => none) (by intro _ _ h; cases h)) ?_
  refine WC.seq ?_
  refine WC.ofFr [(0, _)] ⟨rfl, trivial⟩ ?_
  refine WC.region ?_
  refine WL.yd (Yd.assign rfl) rfl ?_
  refine WL.nil ?_
  refine WP.thenC ?_
  refine WC.seq ?_
  refine WC.ofFr [(2, _), (0, _)] ⟨rfl, rfl, trivial⟩ ?_
  refine WC.region ?_
  refine WL.yd (Yd.move rfl) rfl ?_
  refine WL.yd (Yd.shr rfl rfl (by omega)) rfl ?_
  refine WL.yd (Yd.andW rfl rfl) rfl ?_
  refine WL.yd (Yd.move rfl) rfl ?_
  refine WL.yd (Yd.andW rfl rfl) rfl ?_
  refine WL.yd (Yd.addW rfl rfl) rfl ?_
  refine WL.yd (Yd.assign rfl) rfl ?_
  refine WL.nil ?_
  refine WP.thenC ?_
  refine WC.seq ?_
  refine WC.ofFr [(0, _), (2, _)] ⟨rfl, rfl, trivial⟩ ?_
  refine WC.region ?_
  refine WL.yd (Yd.move rfl) rfl ?_
  refine WL.yd (Yd.shr rfl rfl (by omega)) rfl ?_
  refine WL.yd (Yd.andW rfl rfl) rfl ?_
  refine WL.yd (Yd.move rfl) rfl ?_
  refine WL.yd (Yd.andW rfl rfl) rfl ?_
  refine WL.yd (Yd.addW rfl rfl) rfl ?_
  refine WL.yd (Yd.assign rfl) rfl ?_
  refine WL.nil ?_
  refine WP.thenC ?_
  refine WC.seq ?_
  refine WC.ofFr [(0, _), (2, _)] ⟨rfl, rfl, trivial⟩ ?_
  refine WC.region ?_
  refine WL.yd (Yd.move rfl) rfl ?_
  refine WL.yd (Yd.shr rfl rfl (by omega)) rfl ?_
  refine WL.yd (Yd.move rfl) rfl ?_
  refine WL.yd (Yd.addW rfl rfl) rfl ?_
  refine WL.yd (Yd.andW rfl rfl) rfl ?_
  refine WL.yd (Yd.assign rfl) rfl ?_
  refine WL.nil ?_
  refine WP.thenC ?_
  refine WC.seq ?_
  refine WC.ofFr [(0, _), (2, _)] ⟨rfl, rfl, trivial⟩ ?_
  refine WC.region ?_
  refine WL.yd (Yd.move rfl) rfl ?_
  refine WL.yd (Yd.move rfl) rfl ?_
  refine WL.yd (Yd.shr rfl rfl (by omega)) rfl ?_
  refine WL.yd (Yd.addW rfl rfl) rfl ?_
  refine WL.yd (Yd.assign rfl) rfl ?_
  refine WL.nil ?_
  refine WP.thenC ?_
  refine WC.seq ?_
  refine WC.ofFr [(0, _), (2, _)] ⟨rfl, rfl, trivial⟩ ?_
  refine WC.region ?_
  refine WL.yd (Yd.move rfl) rfl ?_
  refine WL.yd (Yd.move rfl) rfl ?_
  refine WL.yd (Yd.shr rfl rfl (by omega)) rfl ?_
  refine WL.yd (Yd.addW rfl rfl) rfl ?_
  refine WL.yd (Yd.assign rfl) rfl ?_
  refine WL.nil ?_
  refine WP.thenC ?_
  refine WC.seq ?_
  refine WC.ofFr [(0, _), (2, _)] ⟨rfl, rfl, trivial⟩ ?_
  refine WC.region ?_
  refine WL.yd (Yd.move rfl) rfl ?_
  refine WL.yd (Yd.move rfl) rfl ?_
  refine WL.yd (Yd.shr rfl rfl (by omega)) rfl ?_
  refine WL.yd (Yd.addW rfl rfl) rfl ?_
  refine WL.yd (Yd.assign rfl) rfl ?_
  refine WL.nil ?_
  refine WP.thenC ?_
  refine WC.seq ?_
  refine WC.ofFr [(0, _), (2, _)] ⟨rfl, rfl, trivial⟩ ?_
  refine WC.region ?_
  refine WL.yd (Yd.move rfl) rfl ?_
  refine WL.yd (Yd.convW Try.underlying145 Try.underlying3 rfl) rfl ?_
  refine WL.yd (Yd.andW rfl rfl) rfl ?_
  refine WL.yd (Yd.assign rfl) rfl ?_
  refine WL.nil ?_
  refine WP.thenC ?_
  refine WC.ret ?_
  refine WP.ret1 rfl rfl Try.results108 (RV.tmp rfl) (fun w hI => ⟨ret_int ?_, hI.keep⟩)
  clear hI
  revert x
  exact of_decide_eq_true (by kernel_rfl)

set_option maxRecDepth 100000 in
set_option maxHeartbeats 1000000 in
theorem ones_g (x : Nat) (hx : x < 256) (w : World) : Gives Try.prog 79 [ut x] w (nt (pop x)) := by
  unfold Gives
  refine enter Try.func79 rfl 8 Try.ntmps79 (Nat.le_of_ble_eq_true rfl) (Inv.start (D := fun _ => none) (by intro _ _ h; cases h)) ?_
  refine WC.seq ?_
  refine WC.ofFr [(0, _)] ⟨rfl, trivial⟩ ?_
  refine WC.region ?_
  refine WL.yd (Yd.assign rfl) rfl ?_
  refine WL.nil ?_
  refine WP.thenC ?_
  refine WC.seq ?_
  refine WC.condF rfl ?_
  refine WC.skip ?_
  refine WP.thenC ?_
  refine WC.seq ?_
  refine WC.ofFr [(2, _), (0, _)] ⟨rfl, rfl, trivial⟩ ?_
  refine WC.region ?_
  refine WL.yd (Yd.move rfl) rfl ?_
  refine WL.so (SO.callP Try.call108 rfl (fun w hI => ones64_g x hx _)) rfl ?_
  rintro _ _ _ ⟨rfl, rfl, rfl⟩
  refine WL.yd (Yd.assign rfl) rfl ?_
  refine WL.nil ?_
  refine WP.thenC ?_
  refine WC.ret ?_
  refine WP.ret1 rfl rfl Try.results79 (RV.tmp rfl) (fun w hI => ⟨rfl, hI.keep⟩)

set_option maxRecDepth 100000 in
set_option maxHeartbeats 1000000 in
theorem cmp_g (x y : Nat) (hx : x < 256) (hy : y < 256) (w : World) : Gives Try.prog 106 [ut x, ut y] w (it ((pop x : Int) - (pop y : Int))) := by
  unfold Gives
  have hpx := pop_le x
  have hpy := pop_le y
  refine enter Try.func106 rfl 10 Try.ntmps106 (Nat.le_of_ble_eq_true rfl) (Inv.start (D := fun _ => none) (by intro _ _ h; cases h)) ?_
  refine WC.seq ?_
  refine WC.ofFr [(0, _), (1, _)] ⟨rfl, rfl, trivial⟩ ?_
  refine WC.region ?_
  refine WL.yd (Yd.assign rfl) rfl ?_
  refine WL.nil ?_
  refine WP.thenC ?_
  refine WC.seq ?_
  refine WC.ofFr [(4, _), (0, _), (1, _)] ⟨rfl, rfl, rfl, trivial⟩ ?_
  refine WC.region ?_
  refine WL.yd (Yd.move rfl) rfl ?_
  refine WL.so (SO.callP Try.call79 rfl (fun w hI => ones_g x hx _)) rfl ?_
  rintro _ _ _ ⟨rfl, rfl, rfl⟩
  refine WL.yd (Yd.move rfl) rfl ?_
  refine WL.so (SO.callP Try.call79 rfl (fun w hI => ones_g y hy _)) rfl ?_
  rintro _ _ _ ⟨rfl, rfl, rfl⟩
  refine WL.yd (Yd.sub rfl rfl (wr64 ⟨by omega, by omega⟩)) rfl ?_
  refine WL.yd (Yd.assign rfl) rfl ?_
  refine WL.nil ?_
  refine WP.thenC ?_
  refine WC.ret ?_
  refine WP.ret1 rfl rfl Try.results106 (RV.tmp rfl) (fun w hI => ⟨rfl, hI.keep⟩)

set_option maxRecDepth 100000 in
set_option maxHeartbeats 1000000 in
theorem swapR_g (l l' : List Nat) (rest : List Value) (bd cap n0 : Nat) (D : Imm) (w : World) (hn0 : l.length = n0) (hl : n0 ≤ 256) (a b n : Nat) (cv : Value) (hab : a ≤ 9000 ∧ b ≤ 9000 ∧ n ≤ 9000) (h : swapR a b n l = some l') (hI0 : Inv D [(bd, datO l rest)] [bd] w w) : Alters Try.prog 119 [.slice (some ⟨bd, 0, none⟩) n0 cap, nt a, nt b, nt n, cv] w D [bd] (fun v D' hpc' => v = .tuple #[] ∧ D = D' ∧ hpc' = [(bd, datO l' rest)])  := by
  unfold Alters
  subst hn0
  refine enter Try.func119 rfl 38 Try.ntmps119 (Nat.le_of_ble_eq_true rfl) hI0 ?_
  refine WC.seq ?_
  refine WC.ofFr [(0, _), (1, _), (2, _), (3, _)] ⟨rfl, rfl, rfl, rfl, trivial⟩ ?_
  refine WC.region ?_
  refine WL.yd (Yd.assign rfl) rfl ?_
  refine WL.nil ?_
  refine WP.thenC ?_
  refine WC.block ?_
  obtain ⟨⟨k9, l9⟩, hw, rfl⟩ := Option.map_eq_some_iff.1 h
  refine WC.loop (fun y : Nat × Nat × List Nat => [(0, .slice (some ⟨bd, 0, none⟩) l.length cap), (1, nt a), (2, nt b), (3, nt n), (10, nt y.2.1)]) (fun y => [(bd, datO y.2.2 rest)]) (fun _ => D) (fun y => whl (fun x : Nat × List Nat => decide (x.1 < n)) (fun x => (swp x.2 (a + x.1) (b + x.1)).map fun l => (x.1 + 1, l)) y.1 y.2 = some (k9, l9) ∧ y.2.2.length = l.length ∧ y.2.1 ≤ 9000) (fun y => y.1) (⟨F, 0, l⟩ : Nat × Nat × List Nat) ⟨hw, rfl, by simp only; omega⟩ (fun a w h => at_fr h ⟨rfl, rfl, rfl, rfl, rfl, trivial⟩) ?_
  rintro ⟨m, k, l1⟩ ⟨hw1, hl1, hk1⟩
  simp only at hw1 hl1 hk1
  refine WC.seq ?_
  refine WC.seq ?_
  refine WC.ofFr [(0, _), (1, _), (2, _), (3, _), (10, _)] ⟨rfl, rfl, rfl, rfl, rfl, trivial⟩ ?_
  refine WC.region ?_
  refine WL.yd (Yd.move rfl) rfl ?_
  refine WL.yd (Yd.move rfl) rfl ?_
  refine WL.yd (Yd.lss rfl rfl) rfl ?_
  refine WL.nil ?_
  refine WP.thenC ?_
  refine WC.cond rfl (fun c13 => ?_) (fun c13 => ?_)
  · try simp only [zq1, zq2, zq3, zq4, zq5, zq6, zq7, zq8] at c13
    have hkn : k < n := by omega
    obtain ⟨m1, ⟨k2, l2⟩, rfl, hs, hw2⟩ := whl_true hw1 (by simpa using hkn)
    obtain ⟨l2, hsw, hs⟩ := Option.map_eq_some_iff.1 hs
    cases hs
    dsimp only at hsw hw2
    obtain ⟨hi1, hi2, hi3, hi4⟩ := swp_spec hsw
    refine WC.skip ?_
    refine WP.thenC ?_
    refine WC.seq ?_
    refine WC.block ?_
    refine WC.ofFr [(0, _), (1, _), (2, _), (3, _), (10, _)] ⟨rfl, rfl, rfl, rfl, rfl, trivial⟩ ?_
    refine WC.drawH [] (by kernel_rfl) (fun _ hI => hI.drop 99) ?_
    refine WH.yd (i := 0) (by kernel_rfl) (fun _ o v c a w _ h => (QuietPanic.blk (QuietPanic.then (QuietPanic.then (QuietPanic.blk QuietPanic.body)))) c o.dst v a w h) rfl (Yd.move rfl) rfl ?_
    refine WH.yd (i := 1) (by kernel_rfl) (fun _ o v c a w _ h => (QuietPanic.blk (QuietPanic.then (QuietPanic.then (QuietPanic.blk QuietPanic.body)))) c o.dst v a w h) rfl (Yd.move rfl) rfl ?_
    refine WH.yd (i := 2) (by kernel_rfl) (fun _ o v c a w _ h => (QuietPanic.blk (QuietPanic.then (QuietPanic.then (QuietPanic.blk QuietPanic.body)))) c o.dst v a w h) rfl (Yd.move rfl) rfl ?_
    refine WH.yd (i := 3) (by kernel_rfl) (fun _ o v c a w _ h => (QuietPanic.blk (QuietPanic.then (QuietPanic.then (QuietPanic.blk QuietPanic.body)))) c o.dst v a w h) rfl (Yd.addN rfl rfl (by (try dsimp only); omega)) rfl ?_
    refine WH.yd (i := 4) (by kernel_rfl) (fun _ o v c a w _ h => (QuietPanic.blk (QuietPanic.then (QuietPanic.then (QuietPanic.blk QuietPanic.body)))) c o.dst v a w h) rfl (Yd.move rfl) rfl ?_
    refine WH.yd (i := 5) (by kernel_rfl) (fun _ o v c a w _ h => (QuietPanic.blk (QuietPanic.then (QuietPanic.then (QuietPanic.blk QuietPanic.body)))) c o.dst v a w h) rfl (Yd.move rfl) rfl ?_
    refine WH.yd (i := 6) (by kernel_rfl) (fun _ o v c a w _ h => (QuietPanic.blk (QuietPanic.then (QuietPanic.then (QuietPanic.blk QuietPanic.body)))) c o.dst v a w h) rfl (Yd.move rfl) rfl ?_
    refine WH.yd (i := 7) (by kernel_rfl) (fun _ o v c a w _ h => (QuietPanic.blk (QuietPanic.then (QuietPanic.then (QuietPanic.blk QuietPanic.body)))) c o.dst v a w h) rfl (Yd.addN rfl rfl (by (try dsimp only); omega)) rfl ?_
    refine WH.yd (i := 8) (by kernel_rfl) (fun _ o v c a w _ h => (QuietPanic.blk (QuietPanic.then (QuietPanic.then (QuietPanic.blk QuietPanic.body)))) c o.dst v a w h) rfl (Yd.move rfl) rfl ?_
    refine WH.yd (i := 9) (by kernel_rfl) (fun _ o v c a w _ h => (QuietPanic.blk (QuietPanic.then (QuietPanic.then (QuietPanic.blk QuietPanic.body)))) c o.dst v a w h) rfl (Yd.move rfl) rfl ?_
    refine WH.yd (i := 10) (by kernel_rfl) (fun _ o v c a w _ h => (QuietPanic.blk (QuietPanic.then (QuietPanic.then (QuietPanic.blk QuietPanic.body)))) c o.dst v a w h) rfl (Yd.move rfl) rfl ?_
    refine WH.yd (i := 11) (by kernel_rfl) (fun _ o v c a w _ h => (QuietPanic.blk (QuietPanic.then (QuietPanic.then (QuietPanic.blk QuietPanic.body)))) c o.dst v a w h) rfl (Yd.addN rfl rfl (by (try dsimp only); omega)) rfl ?_
    refine WH.yd (i := 12) (by kernel_rfl) (fun _ o v c a w _ h => (QuietPanic.blk (QuietPanic.then (QuietPanic.then (QuietPanic.blk QuietPanic.body)))) c o.dst v a w h) rfl (Yd.indexS Try.underlying112 Try.sizeOf99 rfl rfl (by (try dsimp only); omega) (by (try dsimp only); omega) (by first | exact rfl)) rfl ?_
    refine WH.yd (i := 14) (by kernel_rfl) (fun _ o v c a w _ h => (QuietPanic.blk (QuietPanic.then (QuietPanic.then (QuietPanic.blk QuietPanic.body)))) c o.dst v a w h) rfl (Yd.move rfl) rfl ?_
    refine WH.yd (i := 15) (by kernel_rfl) (fun _ o v c a w _ h => (QuietPanic.blk (QuietPanic.then (QuietPanic.then (QuietPanic.blk QuietPanic.body)))) c o.dst v a w h) rfl (Yd.move rfl) rfl ?_
    refine WH.yd (i := 16) (by kernel_rfl) (fun _ o v c a w _ h => (QuietPanic.blk (QuietPanic.then (QuietPanic.then (QuietPanic.blk QuietPanic.body)))) c o.dst v a w h) rfl (Yd.move rfl) rfl ?_
    refine WH.yd (i := 17) (by kernel_rfl) (fun _ o v c a w _ h => (QuietPanic.blk (QuietPanic.then (QuietPanic.then (QuietPanic.blk QuietPanic.body)))) c o.dst v a w h) rfl (Yd.addN rfl rfl (by (try dsimp only); omega)) rfl ?_
    refine WH.yd (i := 18) (by kernel_rfl) (fun _ o v c a w _ h => (QuietPanic.blk (QuietPanic.then (QuietPanic.then (QuietPanic.blk QuietPanic.body)))) c o.dst v a w h) rfl (Yd.indexS Try.underlying112 Try.sizeOf99 rfl rfl (by (try dsimp only); omega) (by (try dsimp only); omega) (by first | exact rfl)) rfl ?_
    refine WH.two (i := 13) (j := 19) (by kernel_rfl) ?_ ?_
    · refine WHo.yd rfl (Yd.load1 Try.isAgg99 rfl (by first | exact (rd_data (k := 0) rfl (by (try dsimp only); omega)))) rfl ?_
      refine WH.one (i := 19) (by kernel_rfl) (WHo.yd rfl (Yd.load1 Try.isAgg99 rfl (by first | exact (rd_data (k := 0) rfl (by (try dsimp only); omega)))) rfl ?_)
      refine WH.yd (i := 20) (by kernel_rfl) (fun _ o v c a w _ h => (QuietPanic.blk (QuietPanic.then (QuietPanic.then (QuietPanic.blk QuietPanic.body)))) c o.dst v a w h) rfl (Yd.indexS Try.underlying112 Try.sizeOf99 rfl rfl (by (try dsimp only); omega) (by (try dsimp only); omega) (by first | exact rfl)) rfl ?_
      refine WH.one (i := 21) (by kernel_rfl) (WHo.so rfl (SO.store 0 rfl Try.sizeOf99 rfl rfl rfl rfl (len_data _ _ (by (try dsimp only); omega)) (oneB_spec rfl)) rfl ?_)
      rintro _ _ _ ⟨rfl, rfl, rfl⟩
      refine ⟨(fun _ hI => hI.drop 99), ?_⟩
      refine WH.yd (i := 22) (by kernel_rfl) (fun _ o v c a w _ h => (QuietPanic.blk (QuietPanic.then (QuietPanic.then (QuietPanic.blk QuietPanic.body)))) c o.dst v a w h) rfl (Yd.indexS Try.underlying112 Try.sizeOf99 rfl rfl (by (try dsimp only); omega) (by (try dsimp only); omega) (by first | exact rfl)) rfl ?_
      refine WH.one (i := 23) (by kernel_rfl) (WHo.so rfl (SO.store 0 rfl Try.sizeOf99 rfl rfl rfl rfl (st_two rest (by (try dsimp only); omega) (by (try dsimp only); omega)) (oneB_spec rfl)) rfl ?_)
      rintro _ _ _ ⟨rfl, rfl, rfl⟩
      refine ⟨(fun _ hI => hI.drop 99), ?_⟩
      refine WH.nil (by kernel_rfl) ?_
      refine WP.blkNormal ?_
      refine WP.thenC ?_
      refine WC.ofFr [(0, _), (1, _), (2, _), (3, _), (10, _)] ⟨rfl, rfl, rfl, rfl, rfl, trivial⟩ ?_
      refine WC.region ?_
      refine WL.yd (Yd.move rfl) rfl ?_
      refine WL.yd (Yd.addN rfl rfl (by (try dsimp only); omega)) rfl ?_
      refine WL.yd (Yd.assign rfl) rfl ?_
      refine WL.nil ?_
      refine WP.again (⟨m1, k + 1, l2⟩ : Nat × Nat × List Nat) ⟨hw2, by simp only; omega, by simp only; omega⟩ (by simp only; omega) (fun aa ww h => ?_)
      show At _ [(0, .slice (some ⟨bd, 0, none⟩) l.length cap), (1, nt a), (2, nt b), (3, nt n), (10, nt (k + 1))] D [(bd, .cells (List.toArray (l2.map ut ++ rest)) 99 (0, 0))] aa ww
      rw [← swp_mem rest hsw]
      exact at_fr h ⟨rfl, rfl, rfl, rfl, rfl, trivial⟩
    · refine WHo.yd rfl (Yd.load1 Try.isAgg99 rfl (by first | exact (rd_data (k := 0) rfl (by (try dsimp only); omega)))) rfl ?_
      refine WH.one (i := 13) (by kernel_rfl) (WHo.yd rfl (Yd.load1 Try.isAgg99 rfl (by first | exact (rd_data (k := 0) rfl (by (try dsimp only); omega)))) rfl ?_)
      refine WH.yd (i := 20) (by kernel_rfl) (fun _ o v c a w _ h => (QuietPanic.blk (QuietPanic.then (QuietPanic.then (QuietPanic.blk QuietPanic.body)))) c o.dst v a w h) rfl (Yd.indexS Try.underlying112 Try.sizeOf99 rfl rfl (by (try dsimp only); omega) (by (try dsimp only); omega) (by first | exact rfl)) rfl ?_
      refine WH.one (i := 21) (by kernel_rfl) (WHo.so rfl (SO.store 0 rfl Try.sizeOf99 rfl rfl rfl rfl (len_data _ _ (by (try dsimp only); omega)) (oneB_spec rfl)) rfl ?_)
      rintro _ _ _ ⟨rfl, rfl, rfl⟩
      refine ⟨(fun _ hI => hI.drop 99), ?_⟩
      refine WH.yd (i := 22) (by kernel_rfl) (fun _ o v c a w _ h => (QuietPanic.blk (QuietPanic.then (QuietPanic.then (QuietPanic.blk QuietPanic.body)))) c o.dst v a w h) rfl (Yd.indexS Try.underlying112 Try.sizeOf99 rfl rfl (by (try dsimp only); omega) (by (try dsimp only); omega) (by first | exact rfl)) rfl ?_
      refine WH.one (i := 23) (by kernel_rfl) (WHo.so rfl (SO.store 0 rfl Try.sizeOf99 rfl rfl rfl rfl (st_two rest (by (try dsimp only); omega) (by (try dsimp only); omega)) (oneB_spec rfl)) rfl ?_)
      rintro _ _ _ ⟨rfl, rfl, rfl⟩
      refine ⟨(fun _ hI => hI.drop 99), ?_⟩
      refine WH.nil (by kernel_rfl) ?_
      refine WP.blkNormal ?_
      refine WP.thenC ?_
      refine WC.ofFr [(0, _), (1, _), (2, _), (3, _), (10, _)] ⟨rfl, rfl, rfl, rfl, rfl, trivial⟩ ?_
      refine WC.region ?_
      refine WL.yd (Yd.move rfl) rfl ?_
      refine WL.yd (Yd.addN rfl rfl (by (try dsimp only); omega)) rfl ?_
      refine WL.yd (Yd.assign rfl) rfl ?_
      refine WL.nil ?_
      refine WP.again (⟨m1, k + 1, l2⟩ : Nat × Nat × List Nat) ⟨hw2, by simp only; omega, by simp only; omega⟩ (by simp only; omega) (fun aa ww h => ?_)
      show At _ [(0, .slice (some ⟨bd, 0, none⟩) l.length cap), (1, nt a), (2, nt b), (3, nt n), (10, nt (k + 1))] D [(bd, .cells (List.toArray (l2.map ut ++ rest)) 99 (0, 0))] aa ww
      rw [← swp_mem rest hsw]
      exact at_fr h ⟨rfl, rfl, rfl, rfl, rfl, trivial⟩
  · try simp only [zq1, zq2, zq3, zq4, zq5, zq6, zq7, zq8] at c13
    have hkn : ¬ k < n := by omega
    cases whl_false hw1 (by simpa using hkn)
    refine WC.exit ?_
    refine WP.thenExit ?_
    refine WP.thenExit ?_
    refine WP.blkHit ?_
    refine WP.ret0 rfl rfl Try.results119  (fun w1 hI => ⟨_, D, _, rfl, DExt.refl _ _, hI, fun _ h => h, rfl, rfl, rfl⟩)

end Go.Proofs.Ytkhmmefgllbobaa
namespace Go.Proofs.Ytkhmmefgllbobaa
open Go.W Go.Po

set_option maxRecDepth 100000 in
set_option maxHeartbeats 1000000 in
theorem ins_g (l l' : List Nat) (rest : List Value) (bd cap n0 : Nat) (D : Imm) (w : World) (hn0 : l.length = n0) (hl : n0 ≤ 256) (a b : Nat) (hab : a ≤ 256 ∧ b ≤ l.length) (hsm : Sm l) (h : insS a b l = some l') (hI0 : Inv D [(bd, datO l rest)] [bd] w w) : Alters Try.prog 114 [.slice (some ⟨bd, 0, none⟩) n0 cap, nt a, nt b, cmpV] w D [bd] (fun v D' hpc' => v = .tuple #[] ∧ D = D' ∧ hpc' = [(bd, datO l' rest)]) := by
  unfold Alters
  subst hn0
  refine enter Try.func114 rfl 53 Try.ntmps114 (Nat.le_of_ble_eq_true rfl) hI0 ?_
  refine WC.seq ?_
  refine WC.ofFr [(0, _), (1, _), (2, _), (3, _)] ⟨rfl, rfl, rfl, rfl, trivial⟩ ?_
  refine WC.region ?_
  refine WL.yd (Yd.move rfl) rfl ?_
  refine WL.yd (Yd.addN rfl rfl (by (try dsimp only); omega)) rfl ?_
  refine WL.yd (Yd.assign rfl) rfl ?_
  refine WL.nil ?_
  refine WP.thenC ?_
  refine WC.block ?_
  obtain ⟨⟨k9, l9⟩, hw, rfl⟩ := Option.map_eq_some_iff.1 h
  refine WC.loop (fun y : Nat × Nat × List Nat => [(0, .slice (some ⟨bd, 0, none⟩) l.length cap), (1, nt a), (2, nt b), (3, cmpV), (8, nt y.2.1)]) (fun y => [(bd, datO y.2.2 rest)]) (fun _ => D) (fun y => whl (fun x : Nat × List Nat => decide (x.1 < b)) (fun x => (insIn a (x.1, x.2)).map fun y => (x.1 + 1, y.2)) y.1 y.2 = some (k9, l9) ∧ y.2.2.length = l.length ∧ Sm y.2.2 ∧ y.2.1 ≤ 300) (fun y => y.1) (⟨F, a + 1, l⟩ : Nat × Nat × List Nat) ⟨hw, rfl, hsm, by simp only; omega⟩ (fun a w h => at_fr h ⟨rfl, rfl, rfl, rfl, rfl, trivial⟩) ?_
  rintro ⟨m, i, l1⟩ ⟨hw1, hl1, hs1, hi1⟩
  dsimp only at hw1 hl1 hs1 hi1
  refine WC.seq ?_
  refine WC.seq ?_
  refine WC.ofFr [(0, _), (1, _), (2, _), (3, _), (8, _)] ⟨rfl, rfl, rfl, rfl, rfl, trivial⟩ ?_
  refine WC.region ?_
  refine WL.yd (Yd.move rfl) rfl ?_
  refine WL.yd (Yd.move rfl) rfl ?_
  refine WL.yd (Yd.lss rfl rfl) rfl ?_
  refine WL.nil ?_
  refine WP.thenC ?_
  refine WC.cond rfl (fun c14 => ?_) (fun c14 => ?_)
  · try simp only [zq1, zq2, zq3, zq4, zq5, zq6, zq7, zq8] at c14
    have hib : i < b := by omega
    obtain ⟨m1, ⟨i2, l2⟩, rfl, hst, hw2⟩ := whl_true hw1 (by simpa using hib)
    obtain ⟨⟨j2, l2⟩, hin, hst⟩ := Option.map_eq_some_iff.1 hst
    cases hst
    dsimp only at hin hw2
    refine WC.skip ?_
    refine WP.thenC ?_
    refine WC.seq ?_
    refine WC.block ?_
    refine WC.seq ?_
    refine WC.ofFr [(0, _), (1, _), (2, _), (3, _), (8, _)] ⟨rfl, rfl, rfl, rfl, rfl, trivial⟩ ?_
    refine WC.region ?_
    refine WL.yd (Yd.move rfl) rfl ?_
    refine WL.yd (Yd.assign rfl) rfl ?_
    refine WL.nil ?_
    refine WP.thenC ?_
    refine WC.block ?_
    refine WC.loop (fun y : Nat × Nat × List Nat => [(0, .slice (some ⟨bd, 0, none⟩) l.length cap), (1, nt a), (2, nt b), (3, cmpV), (8, nt i), (9, nt y.2.1)]) (fun y => [(bd, datO y.2.2 rest)]) (fun _ => D) (fun y => whl (fun x : Nat × List Nat => decide (a < x.1) && (lessAt x.2 x.1 (x.1 - 1)).getD false) (fun x => (swp x.2 x.1 (x.1 - 1)).map fun l => (x.1 - 1, l)) y.1 y.2 = some (j2, l2) ∧ y.2.2.length = l.length ∧ Sm y.2.2 ∧ y.2.1 < l.length) (fun y => y.1) (⟨F, i, l1⟩ : Nat × Nat × List Nat) ⟨hin, hl1, hs1, by simp only; omega⟩ (fun a w h => at_fr h ⟨rfl, rfl, rfl, rfl, rfl, rfl, trivial⟩) ?_
    rintro ⟨m3, j, l3⟩ ⟨hw3, hl3, hs3, hj3⟩
    dsimp only at hw3 hl3 hs3 hj3
    refine WC.seq ?_
    refine WC.seq ?_
    refine WC.ofFr [(0, _), (1, _), (2, _), (3, _), (8, _), (9, _)] ⟨rfl, rfl, rfl, rfl, rfl, rfl, trivial⟩ ?_
    refine WC.tail 14 [0, 1, 2, 3, 4, 5, 6, 7, 8, 9, 10, 11, 12, 13] rfl (by kernel_rfl) (by kernel_rfl)  ?_
    refine WQ.q rfl (Yd.qt (Yd.move rfl)) rfl ?_
    refine WQ.q rfl (Yd.qt (Yd.move rfl)) rfl ?_
    refine WQ.q rfl (Yd.qt (Yd.gtr rfl rfl)) rfl ?_
    refine WQ.q rfl (Yd.qt (Yd.move rfl)) rfl ?_
    refine WQ.part 21 rfl (fun g21 => ?_) (fun g21 => ?_)
    · try simp only [zq1, zq2, zq3, zq4, zq5, zq6, zq7, zq8] at g21
      have hja : a < j := by omega
      have hlt := lessAt_some hs3 (i := j) (j := j - 1) (by omega) (by omega)
      have hp1 := hs3 j (by omega)
      have hp2 := hs3 (j - 1) (by omega)
      refine WQ.qg rfl rfl (Yd.qt (Yd.move rfl)) rfl ?_
      refine WQ.qg rfl rfl (Yd.qt (Yd.move rfl)) rfl ?_
      refine WQ.qg rfl rfl (Yd.qt (Yd.move rfl)) rfl ?_
      refine WQ.qg rfl rfl (Yd.qt (Yd.indexS Try.underlying112 Try.sizeOf99 rfl rfl (by (try dsimp only); omega) (by (try dsimp only); omega) (by first | exact rfl))) rfl ?_
      refine WQ.qg rfl rfl (Yd.qt (Yd.load1 Try.isAgg99 rfl (by first | exact (rd_data (k := 0) rfl (by (try dsimp only); omega))))) rfl ?_
      refine WQ.qg rfl rfl (Yd.qt (Yd.move rfl)) rfl ?_
      refine WQ.qg rfl rfl (Yd.qt (Yd.move rfl)) rfl ?_
      refine WQ.qg rfl rfl (Yd.qt (Yd.subN rfl rfl (by (try dsimp only); omega) (by (try dsimp only); omega))) rfl ?_
      refine WQ.qg rfl rfl (Yd.qt (Yd.indexS Try.underlying112 Try.sizeOf99 rfl rfl (by (try dsimp only); omega) (by (try dsimp only); omega) (by first | exact rfl))) rfl ?_
      refine WQ.qg rfl rfl (Yd.qt (Yd.load1 Try.isAgg99 rfl (by first | exact (rd_data (k := 0) rfl (by (try dsimp only); omega))))) rfl ?_
      refine WQ.tail ?_
      refine WL.sog rfl (SO.call (Enters.val Try.call106 rfl rfl) (fun w hI => cmp_g _ _ hp1 hp2 _)) rfl ?_
      rintro _ _ _ ⟨rfl, rfl, rfl⟩
      refine WL.ydg rfl (Yd.lss rfl rfl) rfl ?_
      refine WL.yd (Yd.pickT rfl rfl) rfl ?_
      refine WL.nil ?_
      refine WP.thenC ?_
      refine WC.cond rfl (fun c34 => ?_) (fun c34 => ?_)
      · try simp only [zq1, zq2, zq3, zq4, zq5, zq6, zq7, zq8] at c34
        have hpp : pop (gt l3 j) < pop (gt l3 (j - 1)) := by omega
        obtain ⟨m4, ⟨j4, l4⟩, rfl, hst3, hw4⟩ := whl_true hw3 (by simp only [hlt, hja, hpp, Option.getD_some, decide_true, Bool.and_self])
        obtain ⟨l4, hsw, hst3⟩ := Option.map_eq_some_iff.1 hst3
        cases hst3
        dsimp only at hsw hw4
        obtain ⟨hi1, hi2, hi3, hi4⟩ := swp_spec hsw
        refine WC.skip ?_
        refine WP.thenC ?_
        refine WC.seq ?_
        refine WC.block ?_
        refine WC.ofFr [(0, _), (1, _), (2, _), (3, _), (8, _), (9, _)] ⟨rfl, rfl, rfl, rfl, rfl, rfl, trivial⟩ ?_
        refine WC.drawH [] (by kernel_rfl) (fun _ hI => hI.drop 99) ?_
        refine WH.yd (i := 0) (by kernel_rfl) (fun _ o v c a w _ h => (QuietPanic.blk (QuietPanic.then (QuietPanic.then (QuietPanic.blk (QuietPanic.blk (QuietPanic.then (QuietPanic.then (QuietPanic.blk QuietPanic.body)))))))) c o.dst v a w h) rfl (Yd.move rfl) rfl ?_
        refine WH.yd (i := 1) (by kernel_rfl) (fun _ o v c a w _ h => (QuietPanic.blk (QuietPanic.then (QuietPanic.then (QuietPanic.blk (QuietPanic.blk (QuietPanic.then (QuietPanic.then (QuietPanic.blk QuietPanic.body)))))))) c o.dst v a w h) rfl (Yd.move rfl) rfl ?_
        refine WH.yd (i := 2) (by kernel_rfl) (fun _ o v c a w _ h => (QuietPanic.blk (QuietPanic.then (QuietPanic.then (QuietPanic.blk (QuietPanic.blk (QuietPanic.then (QuietPanic.then (QuietPanic.blk QuietPanic.body)))))))) c o.dst v a w h) rfl (Yd.move rfl) rfl ?_
        refine WH.yd (i := 3) (by kernel_rfl) (fun _ o v c a w _ h => (QuietPanic.blk (QuietPanic.then (QuietPanic.then (QuietPanic.blk (QuietPanic.blk (QuietPanic.then (QuietPanic.then (QuietPanic.blk QuietPanic.body)))))))) c o.dst v a w h) rfl (Yd.move rfl) rfl ?_
        refine WH.yd (i := 4) (by kernel_rfl) (fun _ o v c a w _ h => (QuietPanic.blk (QuietPanic.then (QuietPanic.then (QuietPanic.blk (QuietPanic.blk (QuietPanic.then (QuietPanic.then (QuietPanic.blk QuietPanic.body)))))))) c o.dst v a w h) rfl (Yd.subN rfl rfl (by (try dsimp only); omega) (by (try dsimp only); omega)) rfl ?_
        refine WH.yd (i := 5) (by kernel_rfl) (fun _ o v c a w _ h => (QuietPanic.blk (QuietPanic.then (QuietPanic.then (QuietPanic.blk (QuietPanic.blk (QuietPanic.then (QuietPanic.then (QuietPanic.blk QuietPanic.body)))))))) c o.dst v a w h) rfl (Yd.move rfl) rfl ?_
        refine WH.yd (i := 6) (by kernel_rfl) (fun _ o v c a w _ h => (QuietPanic.blk (QuietPanic.then (QuietPanic.then (QuietPanic.blk (QuietPanic.blk (QuietPanic.then (QuietPanic.then (QuietPanic.blk QuietPanic.body)))))))) c o.dst v a w h) rfl (Yd.move rfl) rfl ?_
        refine WH.yd (i := 7) (by kernel_rfl) (fun _ o v c a w _ h => (QuietPanic.blk (QuietPanic.then (QuietPanic.then (QuietPanic.blk (QuietPanic.blk (QuietPanic.then (QuietPanic.then (QuietPanic.blk QuietPanic.body)))))))) c o.dst v a w h) rfl (Yd.subN rfl rfl (by (try dsimp only); omega) (by (try dsimp only); omega)) rfl ?_
        refine WH.yd (i := 8) (by kernel_rfl) (fun _ o v c a w _ h => (QuietPanic.blk (QuietPanic.then (QuietPanic.then (QuietPanic.blk (QuietPanic.blk (QuietPanic.then (QuietPanic.then (QuietPanic.blk QuietPanic.body)))))))) c o.dst v a w h) rfl (Yd.indexS Try.underlying112 Try.sizeOf99 rfl rfl (by (try dsimp only); omega) (by (try dsimp only); omega) (by first | exact rfl)) rfl ?_
        refine WH.yd (i := 10) (by kernel_rfl) (fun _ o v c a w _ h => (QuietPanic.blk (QuietPanic.then (QuietPanic.then (QuietPanic.blk (QuietPanic.blk (QuietPanic.then (QuietPanic.then (QuietPanic.blk QuietPanic.body)))))))) c o.dst v a w h) rfl (Yd.move rfl) rfl ?_
        refine WH.yd (i := 11) (by kernel_rfl) (fun _ o v c a w _ h => (QuietPanic.blk (QuietPanic.then (QuietPanic.then (QuietPanic.blk (QuietPanic.blk (QuietPanic.then (QuietPanic.then (QuietPanic.blk QuietPanic.body)))))))) c o.dst v a w h) rfl (Yd.move rfl) rfl ?_
        refine WH.yd (i := 12) (by kernel_rfl) (fun _ o v c a w _ h => (QuietPanic.blk (QuietPanic.then (QuietPanic.then (QuietPanic.blk (QuietPanic.blk (QuietPanic.then (QuietPanic.then (QuietPanic.blk QuietPanic.body)))))))) c o.dst v a w h) rfl (Yd.indexS Try.underlying112 Try.sizeOf99 rfl rfl (by (try dsimp only); omega) (by (try dsimp only); omega) (by first | exact rfl)) rfl ?_
        refine WH.two (i := 9) (j := 13) (by kernel_rfl) ?_ ?_
        · refine WHo.yd rfl (Yd.load1 Try.isAgg99 rfl (by first | exact (rd_data (k := 0) rfl (by (try dsimp only); omega)))) rfl ?_
          refine WH.one (i := 13) (by kernel_rfl) (WHo.yd rfl (Yd.load1 Try.isAgg99 rfl (by first | exact (rd_data (k := 0) rfl (by (try dsimp only); omega)))) rfl ?_)
          refine WH.yd (i := 14) (by kernel_rfl) (fun _ o v c a w _ h => (QuietPanic.blk (QuietPanic.then (QuietPanic.then (QuietPanic.blk (QuietPanic.blk (QuietPanic.then (QuietPanic.then (QuietPanic.blk QuietPanic.body)))))))) c o.dst v a w h) rfl (Yd.indexS Try.underlying112 Try.sizeOf99 rfl rfl (by (try dsimp only); omega) (by (try dsimp only); omega) (by first | exact rfl)) rfl ?_
          refine WH.one (i := 15) (by kernel_rfl) (WHo.so rfl (SO.store 0 rfl Try.sizeOf99 rfl rfl rfl rfl (len_data _ _ (by (try dsimp only); omega)) (oneB_spec rfl)) rfl ?_)
          rintro _ _ _ ⟨rfl, rfl, rfl⟩
          refine ⟨(fun _ hI => hI.drop 99), ?_⟩
          refine WH.yd (i := 16) (by kernel_rfl) (fun _ o v c a w _ h => (QuietPanic.blk (QuietPanic.then (QuietPanic.then (QuietPanic.blk (QuietPanic.blk (QuietPanic.then (QuietPanic.then (QuietPanic.blk QuietPanic.body)))))))) c o.dst v a w h) rfl (Yd.indexS Try.underlying112 Try.sizeOf99 rfl rfl (by (try dsimp only); omega) (by (try dsimp only); omega) (by first | exact rfl)) rfl ?_
          refine WH.one (i := 17) (by kernel_rfl) (WHo.so rfl (SO.store 0 rfl Try.sizeOf99 rfl rfl rfl rfl (st_two rest (by (try dsimp only); omega) (by (try dsimp only); omega)) (oneB_spec rfl)) rfl ?_)
          rintro _ _ _ ⟨rfl, rfl, rfl⟩
          refine ⟨(fun _ hI => hI.drop 99), ?_⟩
          refine WH.nil (by kernel_rfl) ?_
          refine WP.blkNormal ?_
          refine WP.thenC ?_
          refine WC.ofFr [(0, _), (1, _), (2, _), (3, _), (8, _), (9, _)] ⟨rfl, rfl, rfl, rfl, rfl, rfl, trivial⟩ ?_
          refine WC.region ?_
          refine WL.yd (Yd.move rfl) rfl ?_
          refine WL.yd (Yd.subN rfl rfl (by (try dsimp only); omega) (by (try dsimp only); omega)) rfl ?_
          refine WL.yd (Yd.assign rfl) rfl ?_
          refine WL.nil ?_
          refine WP.again (⟨m4, j - 1, l4⟩ : Nat × Nat × List Nat) ⟨hw4, by simp only; omega, hs3.swp hsw, by simp only; omega⟩ (by simp only; omega) (fun aa ww h => ?_)
          show At _ [(0, .slice (some ⟨bd, 0, none⟩) l.length cap), (1, nt a), (2, nt b), (3, cmpV), (8, nt i), (9, nt (j - 1))] D [(bd, .cells (List.toArray (l4.map ut ++ rest)) 99 (0, 0))] aa ww
          rw [← swp_mem rest hsw]
          exact at_fr h ⟨rfl, rfl, rfl, rfl, rfl, rfl, trivial⟩
        · refine WHo.yd rfl (Yd.load1 Try.isAgg99 rfl (by first | exact (rd_data (k := 0) rfl (by (try dsimp only); omega)))) rfl ?_
          refine WH.one (i := 9) (by kernel_rfl) (WHo.yd rfl (Yd.load1 Try.isAgg99 rfl (by first | exact (rd_data (k := 0) rfl (by (try dsimp only); omega)))) rfl ?_)
          refine WH.yd (i := 14) (by kernel_rfl) (fun _ o v c a w _ h => (QuietPanic.blk (QuietPanic.then (QuietPanic.then (QuietPanic.blk (QuietPanic.blk (QuietPanic.then (QuietPanic.then (QuietPanic.blk QuietPanic.body)))))))) c o.dst v a w h) rfl (Yd.indexS Try.underlying112 Try.sizeOf99 rfl rfl (by (try dsimp only); omega) (by (try dsimp only); omega) (by first | exact rfl)) rfl ?_
          refine WH.one (i := 15) (by kernel_rfl) (WHo.so rfl (SO.store 0 rfl Try.sizeOf99 rfl rfl rfl rfl (len_data _ _ (by (try dsimp only); omega)) (oneB_spec rfl)) rfl ?_)
          rintro _ _ _ ⟨rfl, rfl, rfl⟩
          refine ⟨(fun _ hI => hI.drop 99), ?_⟩
          refine WH.yd (i := 16) (by kernel_rfl) (fun _ o v c a w _ h => (QuietPanic.blk (QuietPanic.then (QuietPanic.then (QuietPanic.blk (QuietPanic.blk (QuietPanic.then (QuietPanic.then (QuietPanic.blk QuietPanic.body)))))))) c o.dst v a w h) rfl (Yd.indexS Try.underlying112 Try.sizeOf99 rfl rfl (by (try dsimp only); omega) (by (try dsimp only); omega) (by first | exact rfl)) rfl ?_
          refine WH.one (i := 17) (by kernel_rfl) (WHo.so rfl (SO.store 0 rfl Try.sizeOf99 rfl rfl rfl rfl (st_two rest (by (try dsimp only); omega) (by (try dsimp only); omega)) (oneB_spec rfl)) rfl ?_)
          rintro _ _ _ ⟨rfl, rfl, rfl⟩
          refine ⟨(fun _ hI => hI.drop 99), ?_⟩
          refine WH.nil (by kernel_rfl) ?_
          refine WP.blkNormal ?_
          refine WP.thenC ?_
          refine WC.ofFr [(0, _), (1, _), (2, _), (3, _), (8, _), (9, _)] ⟨rfl, rfl, rfl, rfl, rfl, rfl, trivial⟩ ?_
          refine WC.region ?_
          refine WL.yd (Yd.move rfl) rfl ?_
          refine WL.yd (Yd.subN rfl rfl (by (try dsimp only); omega) (by (try dsimp only); omega)) rfl ?_
          refine WL.yd (Yd.assign rfl) rfl ?_
          refine WL.nil ?_
          refine WP.again (⟨m4, j - 1, l4⟩ : Nat × Nat × List Nat) ⟨hw4, by simp only; omega, hs3.swp hsw, by simp only; omega⟩ (by simp only; omega) (fun aa ww h => ?_)
          show At _ [(0, .slice (some ⟨bd, 0, none⟩) l.length cap), (1, nt a), (2, nt b), (3, cmpV), (8, nt i), (9, nt (j - 1))] D [(bd, .cells (List.toArray (l4.map ut ++ rest)) 99 (0, 0))] aa ww
          rw [← swp_mem rest hsw]
          exact at_fr h ⟨rfl, rfl, rfl, rfl, rfl, rfl, trivial⟩
      · try simp only [zq1, zq2, zq3, zq4, zq5, zq6, zq7, zq8] at c34
        have hpp : ¬ pop (gt l3 j) < pop (gt l3 (j - 1)) := by omega
        have he := whl_false hw3 (by simp only [hlt, hpp, Option.getD_some, decide_false, Bool.and_false])
        obtain rfl : l2 = l3 := congrArg Prod.snd he
        refine WC.exit ?_
        refine WP.thenExit ?_
        refine WP.thenExit ?_
        refine WP.blkHit ?_
        refine WP.blkNormal ?_
        refine WP.thenC ?_
        refine WC.ofFr [(0, _), (1, _), (2, _), (3, _), (8, _)] ⟨rfl, rfl, rfl, rfl, rfl, trivial⟩ ?_
        refine WC.region ?_
        refine WL.yd (Yd.move rfl) rfl ?_
        refine WL.yd (Yd.addN rfl rfl (by (try dsimp only); omega)) rfl ?_
        refine WL.yd (Yd.assign rfl) rfl ?_
        refine WL.nil ?_
        refine WP.again (⟨m1, i + 1, l2⟩ : Nat × Nat × List Nat) ⟨hw2, hl3, hs3, by simp only; omega⟩ (by simp only; omega) (fun aa ww h => at_fr h ⟨rfl, rfl, rfl, rfl, rfl, trivial⟩)
    · try simp only [zq1, zq2, zq3, zq4, zq5, zq6, zq7, zq8] at g21
      have hja : ¬ a < j := by omega
      have he := whl_false hw3 (by simp [hja])
      obtain rfl : l2 = l3 := congrArg Prod.snd he
      refine WQ.skip rfl rfl rfl ?_
      refine WQ.skip rfl rfl rfl ?_
      refine WQ.skip rfl rfl rfl ?_
      refine WQ.skip rfl rfl rfl ?_
      refine WQ.skip rfl rfl rfl ?_
      refine WQ.skip rfl rfl rfl ?_
      refine WQ.skip rfl rfl rfl ?_
      refine WQ.skip rfl rfl rfl ?_
      refine WQ.skip rfl rfl rfl ?_
      refine WQ.skip rfl rfl rfl ?_
      refine WQ.tail ?_
      refine WL.skip rfl rfl ?_
      refine WL.skip rfl rfl ?_
      refine WL.yd (Yd.pickF rfl rfl) rfl ?_
      refine WL.nil ?_
      refine WP.thenC ?_
      refine WC.condF rfl ?_
      refine WC.exit ?_
      refine WP.thenExit ?_
      refine WP.thenExit ?_
      refine WP.blkHit ?_
      refine WP.blkNormal ?_
      refine WP.thenC ?_
      refine WC.ofFr [(0, _), (1, _), (2, _), (3, _), (8, _)] ⟨rfl, rfl, rfl, rfl, rfl, trivial⟩ ?_
      refine WC.region ?_
      refine WL.yd (Yd.move rfl) rfl ?_
      refine WL.yd (Yd.addN rfl rfl (by (try dsimp only); omega)) rfl ?_
      refine WL.yd (Yd.assign rfl) rfl ?_
      refine WL.nil ?_
      refine WP.again (⟨m1, i + 1, l2⟩ : Nat × Nat × List Nat) ⟨hw2, hl3, hs3, by simp only; omega⟩ (by simp only; omega) (fun aa ww h => at_fr h ⟨rfl, rfl, rfl, rfl, rfl, trivial⟩)
  · try simp only [zq1, zq2, zq3, zq4, zq5, zq6, zq7, zq8] at c14
    have hib : ¬ i < b := by omega
    cases whl_false hw1 (by simpa using hib)
    refine WC.exit ?_
    refine WP.thenExit ?_
    refine WP.thenExit ?_
    refine WP.blkHit ?_
    refine WP.ret0 rfl rfl Try.results114  (fun w1 hI => ⟨_, D, _, rfl, DExt.refl _ _, hI, fun _ h => h, rfl, rfl, rfl⟩)

theorem whl_inv {σ : Type} {c : σ → Bool} {s : σ → Option σ} (I : σ → Prop) (hs : ∀ x y, I x → s x = some y → I y) : ∀ n x r, I x → whl c s n x = some r → I r := by
  intro n
  induction n with
  | zero => intro x r hx h; cases hc : c x with
    | true => simp [whl, hc] at h
    | false => rw [whl_false h hc]; exact hx
  | succ n ih => intro x r hx h; cases hc : c x with
    | true =>
      obtain ⟨m, y, e, h1, h2⟩ := whl_true h hc
      cases e
      exact ih y r (hs x y hx h1) h2
    | false => rw [whl_false h hc]; exact hx
/-- as long, and all small -/
def Ok (n : Nat) (l : List Nat) : Prop := l.length = n ∧ Sm l
theorem Ok.swp {n : Nat} {l l' : List Nat} {i j : Nat} (h : Ok n l) (hs : swp l i j = some l') : Ok n l' := ⟨(swp_spec hs).2.2.2.trans h.1, h.2.swp hs⟩
theorem insIn_ok {n a : Nat} {x y : Nat × List Nat} (hx : Ok n x.2) (h : insIn a x = some y) : Ok n y.2 :=
  whl_inv (fun z : Nat × List Nat => Ok n z.2) (fun u v hu hv => by
    obtain ⟨l4, h1, h2⟩ := Option.map_eq_some_iff.1 hv
    subst h2; exact hu.swp h1) _ _ _ hx h
theorem insS_ok {n a b : Nat} {l l' : List Nat} (hx : Ok n l) (h : insS a b l = some l') : Ok n l' := by
  obtain ⟨r, h1, h2⟩ := Option.map_eq_some_iff.1 h
  subst h2
  exact whl_inv (fun z : Nat × List Nat => Ok n z.2) (fun u v hu hv => by
    obtain ⟨y, h3, h4⟩ := Option.map_eq_some_iff.1 hv
    subst h4; exact insIn_ok (x := (u.1, u.2)) (y := y) hu h3) _ _ _ (show Ok n ((a + 1, l) : Nat × List Nat).2 from hx) h1
theorem swapR_ok {n a b k : Nat} {l l' : List Nat} (hx : Ok n l) (h : swapR a b k l = some l') : Ok n l' := by
  obtain ⟨r, h1, h2⟩ := Option.map_eq_some_iff.1 h
  subst h2
  exact whl_inv (fun z : Nat × List Nat => Ok n z.2) (fun u v hu hv => by
    obtain ⟨y, h3, h4⟩ := Option.map_eq_some_iff.1 hv
    subst h4; exact hu.swp h3) _ _ _ (show Ok n ((0, l) : Nat × List Nat).2 from hx) h1
theorem upS_ok {n a b : Nat} {l l' : List Nat} (hx : Ok n l) (h : upS a b l = some l') : Ok n l' := by
  obtain ⟨r, h1, h2⟩ := Option.map_eq_some_iff.1 h
  subst h2
  exact whl_inv (fun z : Nat × List Nat => Ok n z.2) (fun u v hu hv => by
    obtain ⟨y, h3, h4⟩ := Option.map_eq_some_iff.1 hv
    subst h4; exact hu.swp h3) _ _ _ (show Ok n ((a, l) : Nat × List Nat).2 from hx) h1
theorem downS_ok {n a b : Nat} {l l' : List Nat} (hx : Ok n l) (h : downS a b l = some l') : Ok n l' := by
  obtain ⟨r, h1, h2⟩ := Option.map_eq_some_iff.1 h
  subst h2
  exact whl_inv (fun z : Nat × List Nat => Ok n z.2) (fun u v hu hv => by
    obtain ⟨y, h3, h4⟩ := Option.map_eq_some_iff.1 hv
    subst h4; exact hu.swp h3) _ _ _ (show Ok n ((a, l) : Nat × List Nat).2 from hx) h1
/-- what a rotation does in a round -/
def rotStep (m : Nat) (x : Nat × Nat × List Nat) : Option (Nat × Nat × List Nat) :=
  if x.1 ≤ m then (if x.2.1 < x.1 then (swapR (m - x.1) m x.2.1 x.2.2).map fun l => (x.1 - x.2.1, x.2.1, l) else (swapR (m - x.1) (m + x.2.1 - x.1) x.1 x.2.2).map fun l => (x.1, x.2.1 - x.1, l)) else none
theorem rotStep_ok {n m : Nat} {u v : Nat × Nat × List Nat} (hu : Ok n u.2.2) (hv : rotStep m u = some v) : Ok n v.2.2 := by
  unfold rotStep at hv
  split at hv
  · split at hv <;> (obtain ⟨y, h3, h4⟩ := Option.map_eq_some_iff.1 hv; subst h4; exact swapR_ok hu h3)
  · cases hv
theorem rotS_eq {a m b : Nat} {l l' : List Nat} (h : rotS a m b l = some l') : a ≤ m ∧ m ≤ b ∧ ∃ x, whl (fun x : Nat × Nat × List Nat => decide (x.1 ≠ x.2.1)) (rotStep m) F (m - a, b - m, l) = some x ∧ x.1 ≤ m ∧ swapR (m - x.1) m x.1 x.2.2 = some l' := by
  unfold rotS at h
  split at h
  · rename_i hab
    obtain ⟨x, h1, h2⟩ := Option.bind_eq_some_iff.1 h
    split at h2
    · rename_i hx; exact ⟨hab.1, hab.2, x, h1, hx, h2⟩
    · cases h2
  · cases h
theorem rotS_ok {n a m b : Nat} {l l' : List Nat} (hx : Ok n l) (h : rotS a m b l = some l') : Ok n l' := by
  obtain ⟨_, _, x, h1, _, h2⟩ := rotS_eq h
  exact swapR_ok (whl_inv (fun z : Nat × Nat × List Nat => Ok n z.2.2) (fun u v hu hv => rotStep_ok hu hv) _ _ _ (show Ok n ((m - a, b - m, l) : Nat × Nat × List Nat).2.2 from hx) h1) h2

set_option maxRecDepth 100000 in
set_option maxHeartbeats 1000000 in
theorem rot_g (l l' : List Nat) (rest : List Value) (bd cap n0 : Nat) (D : Imm) (w : World) (hn0 : l.length = n0) (hl : n0 ≤ 256) (a m b : Nat) (cv : Value) (hab : a ≤ 3000 ∧ m ≤ 3000 ∧ b ≤ 3000) (hok : Sm l) (h : rotS a m b l = some l') (hI0 : Inv D [(bd, datO l rest)] [bd] w w) : Alters Try.prog 118 [.slice (some ⟨bd, 0, none⟩) n0 cap, nt a, nt m, nt b, cv] w D [bd] (fun v D' hpc' => v = .tuple #[] ∧ D = D' ∧ hpc' = [(bd, datO l' rest)]) := by
  unfold Alters
  subst hn0
  obtain ⟨ham, hmb, x9, hw9, him9, hsw9⟩ := rotS_eq h
  refine enter Try.func118 rfl 58 Try.ntmps118 (Nat.le_of_ble_eq_true rfl) hI0 ?_
  refine WC.seq ?_
  refine WC.ofFr [(0, _), (1, _), (2, _), (3, _), (4, _)] ⟨rfl, rfl, rfl, rfl, rfl, trivial⟩ ?_
  refine WC.region ?_
  refine WL.yd (Yd.move rfl) rfl ?_
  refine WL.yd (Yd.move rfl) rfl ?_
  refine WL.yd (Yd.subN rfl rfl (by (try dsimp only); omega) (by (try dsimp only); omega)) rfl ?_
  refine WL.yd (Yd.assign rfl) rfl ?_
  refine WL.nil ?_
  refine WP.thenC ?_
  refine WC.seq ?_
  refine WC.ofFr [(10, _), (0, _), (2, _), (3, _), (4, _)] ⟨rfl, rfl, rfl, rfl, rfl, trivial⟩ ?_
  refine WC.region ?_
  refine WL.yd (Yd.move rfl) rfl ?_
  refine WL.yd (Yd.move rfl) rfl ?_
  refine WL.yd (Yd.subN rfl rfl (by (try dsimp only); omega) (by (try dsimp only); omega)) rfl ?_
  refine WL.yd (Yd.assign rfl) rfl ?_
  refine WL.nil ?_
  refine WP.thenC ?_
  refine WC.seq ?_
  refine WC.block ?_
  refine WC.loop (fun y : Nat × Nat × Nat × List Nat => [(0, .slice (some ⟨bd, 0, none⟩) l.length cap), (2, nt m), (4, cv), (10, nt y.2.1), (11, nt y.2.2.1)]) (fun y => [(bd, datO y.2.2.2 rest)]) (fun _ => D) (fun y => whl (fun x : Nat × Nat × List Nat => decide (x.1 ≠ x.2.1)) (rotStep m) y.1 y.2 = some x9 ∧ Ok l.length y.2.2.2 ∧ y.2.1 ≤ 3000 ∧ y.2.2.1 ≤ 3000) (fun y => y.1) (⟨F, m - a, b - m, l⟩ : Nat × Nat × Nat × List Nat) ⟨hw9, ⟨rfl, hok⟩, by simp only; omega, by simp only; omega⟩ (fun a w h => at_fr h ⟨rfl, rfl, rfl, rfl, rfl, trivial⟩) ?_
  rintro ⟨k1, i, j, l1⟩ ⟨hw1, hok1, hi1, hj1⟩
  dsimp only at hw1 hok1 hi1 hj1
  refine WC.seq ?_
  refine WC.seq ?_
  refine WC.ofFr [(0, _), (2, _), (4, _), (10, _), (11, _)] ⟨rfl, rfl, rfl, rfl, rfl, trivial⟩ ?_
  refine WC.region ?_
  refine WL.yd (Yd.move rfl) rfl ?_
  refine WL.yd (Yd.move rfl) rfl ?_
  refine WL.yd (Yd.neq rfl rfl) rfl ?_
  refine WL.nil ?_
  refine WP.thenC ?_
  refine WC.cond rfl (fun c20 => ?_) (fun c20 => ?_)
  · try simp only [zq1, zq2, zq3, zq4, zq5, zq6, zq7, zq8] at c20
    have hij : ¬ i = j := by omega
    obtain ⟨m1, ⟨i2, j2, l2⟩, rfl, hs, hw2⟩ := whl_true hw1 (by simpa using hij)
    have hok2 := rotStep_ok (u := (i, j, l1)) hok1 hs
    unfold rotStep at hs
    dsimp only at hs hw2 hok2
    have him : i ≤ m := by
      apply Decidable.byContradiction; intro hh; rw [if_neg hh] at hs; cases hs
    rw [if_pos him] at hs
    refine WC.skip ?_
    refine WP.thenC ?_
    refine WC.block ?_
    refine WC.seq ?_
    refine WC.ofFr [(0, _), (2, _), (4, _), (10, _), (11, _)] ⟨rfl, rfl, rfl, rfl, rfl, trivial⟩ ?_
    refine WC.region ?_
    refine WL.yd (Yd.move rfl) rfl ?_
    refine WL.yd (Yd.move rfl) rfl ?_
    refine WL.yd (Yd.gtr rfl rfl) rfl ?_
    refine WL.nil ?_
    refine WP.thenC ?_
    refine WC.cond rfl (fun c23 => ?_) (fun c23 => ?_)
    · try simp only [zq1, zq2, zq3, zq4, zq5, zq6, zq7, zq8] at c23
      have hji : j < i := by omega
      rw [if_pos hji] at hs
      obtain ⟨l3, hsw, hs⟩ := Option.map_eq_some_iff.1 hs
      cases hs
      refine WC.seq ?_
      refine WC.ofFr [(0, _), (2, _), (4, _), (10, _), (11, _)] ⟨rfl, rfl, rfl, rfl, rfl, trivial⟩ ?_
      refine WC.region ?_
      refine WL.yd (Yd.move rfl) rfl ?_
      refine WL.yd (Yd.move rfl) rfl ?_
      refine WL.yd (Yd.move rfl) rfl ?_
      refine WL.yd (Yd.subN rfl rfl (by (try dsimp only); omega) (by (try dsimp only); omega)) rfl ?_
      refine WL.yd (Yd.move rfl) rfl ?_
      refine WL.yd (Yd.move rfl) rfl ?_
      refine WL.yd (Yd.move rfl) rfl ?_
      refine WL.so (SO.alters (own := []) (hpc := [_]) (S1 := [bd]) (fun _ h => h) (fun h => h) (fun _ h => h) (fun _ h => h) (Enters.func Try.call119 rfl) (fun w1 hI => swapR_g l1 l2 rest bd cap l.length D w1 hok1.1 (by omega) (m - i) m j cv (by omega) hsw hI)) rfl ?_
      rintro _ _ _ ⟨_, _, ⟨rfl, rfl, rfl⟩, rfl⟩
      refine WL.nil ?_
      refine WP.thenC ?_
      refine WC.ofFr [(0, _), (2, _), (4, _), (10, _), (11, _)] ⟨rfl, rfl, rfl, rfl, rfl, trivial⟩ ?_
      refine WC.region ?_
      refine WL.yd (Yd.move rfl) rfl ?_
      refine WL.yd (Yd.move rfl) rfl ?_
      refine WL.yd (Yd.subN rfl rfl (by (try dsimp only); omega) (by (try dsimp only); omega)) rfl ?_
      refine WL.yd (Yd.assign rfl) rfl ?_
      refine WL.nil ?_
      refine WP.blkNormal ?_
      first
        | exact WP.again (⟨m1, i - j, j, l2⟩ : Nat × Nat × Nat × List Nat) ⟨hw2, hok2, by simp only; omega, by simp only; omega⟩ (by simp only; omega) (fun aa ww h => at_fr h ⟨rfl, rfl, rfl, rfl, rfl, trivial⟩)
        | exact WP.again (⟨m1, i, j - i, l2⟩ : Nat × Nat × Nat × List Nat) ⟨hw2, hok2, by simp only; omega, by simp only; omega⟩ (by simp only; omega) (fun aa ww h => at_fr h ⟨rfl, rfl, rfl, rfl, rfl, trivial⟩)
    · try simp only [zq1, zq2, zq3, zq4, zq5, zq6, zq7, zq8] at c23
      have hji : ¬ j < i := by omega
      rw [if_neg hji] at hs
      obtain ⟨l3, hsw, hs⟩ := Option.map_eq_some_iff.1 hs
      cases hs
      refine WC.seq ?_
      refine WC.ofFr [(0, _), (2, _), (4, _), (10, _), (11, _)] ⟨rfl, rfl, rfl, rfl, rfl, trivial⟩ ?_
      refine WC.region ?_
      refine WL.yd (Yd.move rfl) rfl ?_
      refine WL.yd (Yd.move rfl) rfl ?_
      refine WL.yd (Yd.move rfl) rfl ?_
      refine WL.yd (Yd.subN rfl rfl (by (try dsimp only); omega) (by (try dsimp only); omega)) rfl ?_
      refine WL.yd (Yd.move rfl) rfl ?_
      refine WL.yd (Yd.move rfl) rfl ?_
      refine WL.yd (Yd.addN rfl rfl (by (try dsimp only); omega)) rfl ?_
      refine WL.yd (Yd.move rfl) rfl ?_
      refine WL.yd (Yd.subN rfl rfl (by (try dsimp only); omega) (by (try dsimp only); omega)) rfl ?_
      refine WL.yd (Yd.move rfl) rfl ?_
      refine WL.yd (Yd.move rfl) rfl ?_
      refine WL.so (SO.alters (own := []) (hpc := [_]) (S1 := [bd]) (fun _ h => h) (fun h => h) (fun _ h => h) (fun _ h => h) (Enters.func Try.call119 rfl) (fun w1 hI => swapR_g l1 l2 rest bd cap l.length D w1 hok1.1 (by omega) (m - i) (m + j - i) i cv (by omega) hsw hI)) rfl ?_
      rintro _ _ _ ⟨_, _, ⟨rfl, rfl, rfl⟩, rfl⟩
      refine WL.nil ?_
      refine WP.thenC ?_
      refine WC.ofFr [(0, _), (2, _), (4, _), (10, _), (11, _)] ⟨rfl, rfl, rfl, rfl, rfl, trivial⟩ ?_
      refine WC.region ?_
      refine WL.yd (Yd.move rfl) rfl ?_
      refine WL.yd (Yd.move rfl) rfl ?_
      refine WL.yd (Yd.subN rfl rfl (by (try dsimp only); omega) (by (try dsimp only); omega)) rfl ?_
      refine WL.yd (Yd.assign rfl) rfl ?_
      refine WL.nil ?_
      refine WP.blkNormal ?_
      first
        | exact WP.again (⟨m1, i - j, j, l2⟩ : Nat × Nat × Nat × List Nat) ⟨hw2, hok2, by simp only; omega, by simp only; omega⟩ (by simp only; omega) (fun aa ww h => at_fr h ⟨rfl, rfl, rfl, rfl, rfl, trivial⟩)
        | exact WP.again (⟨m1, i, j - i, l2⟩ : Nat × Nat × Nat × List Nat) ⟨hw2, hok2, by simp only; omega, by simp only; omega⟩ (by simp only; omega) (fun aa ww h => at_fr h ⟨rfl, rfl, rfl, rfl, rfl, trivial⟩)
  · try simp only [zq1, zq2, zq3, zq4, zq5, zq6, zq7, zq8] at c20
    have hij : i = j := by omega
    have he := whl_false hw1 (by simpa using hij)
    cases he
    have hsw := hsw9
    have him := him9
    dsimp only at hsw him
    refine WC.exit ?_
    refine WP.thenExit ?_
    refine WP.thenExit ?_
    refine WP.blkHit ?_
    refine WP.thenC ?_
    refine WC.ofFr [(0, _), (2, _), (4, _), (10, _)] ⟨rfl, rfl, rfl, rfl, trivial⟩ ?_
    refine WC.region ?_
    refine WL.yd (Yd.move rfl) rfl ?_
    refine WL.yd (Yd.move rfl) rfl ?_
    refine WL.yd (Yd.move rfl) rfl ?_
    refine WL.yd (Yd.subN rfl rfl (by (try dsimp only); omega) (by (try dsimp only); omega)) rfl ?_
    refine WL.yd (Yd.move rfl) rfl ?_
    refine WL.yd (Yd.move rfl) rfl ?_
    refine WL.yd (Yd.move rfl) rfl ?_
    refine WL.so (SO.alters (own := []) (hpc := [_]) (S1 := [bd]) (fun _ h => h) (fun h => h) (fun _ h => h) (fun _ h => h) (Enters.func Try.call119 rfl) (fun w1 hI => swapR_g l1 l' rest bd cap l.length D w1 hok1.1 (by omega) (m - i) m i cv (by omega) hsw hI)) rfl ?_
    rintro _ _ _ ⟨_, _, ⟨rfl, rfl, rfl⟩, rfl⟩
    refine WL.nil ?_
    refine WP.ret0 rfl rfl Try.results118  (fun w1 hI => ⟨_, D, _, rfl, DExt.refl _ _, hI, fun _ h => h, rfl, rfl, rfl⟩)

end Go.Proofs.Ytkhmmefgllbobaa
