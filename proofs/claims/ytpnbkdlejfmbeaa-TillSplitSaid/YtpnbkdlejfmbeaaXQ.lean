import Derived.Test.YtpnbkdlejfmbeaaXO
import Derived.Test.YtpnbkdlejfmbeaaXU
set_option linter.unusedSimpArgs false
set_option linter.unusedVariables false
set_option linter.all false
namespace Go.Proofs.Ytpnbkdlejfmbeaa
open Go.W Go.Ti

theorem zeroI : ∀ n, zeroL [.int .i64 0] (n * 1) = (List.replicate n (0 : Int)).map it ++ [] := by
  intro n
  rw [Nat.mul_one, List.append_nil]
  induction n with
  | zero => rfl
  | succ n ih => rw [List.replicate_succ', List.map_append, ← ih]; simp [zeroL, Nat.mod_one]
def restK (M A : Nat) (qs : List Nat) (k n : Nat) : List Int := (List.range n).map fun i => if i < k then (remN M A qs i : Int) else 0
theorem restK_len (M A : Nat) (qs : List Nat) (k n : Nat) : (restK M A qs k n).length = n := by simp [restK]
theorem restK_zero (M A : Nat) (qs : List Nat) (n : Nat) : restK M A qs 0 n = List.replicate n 0 := by
  apply List.ext_getElem
  · simp [restK]
  · intro i h1 h2; simp [restK]
theorem restK_step (M A : Nat) (qs : List Nat) {k n : Nat} : (restK M A qs k n).set k (remN M A qs k : Int) = restK M A qs (k + 1) n := by
  apply List.ext_getElem
  · simp [restK]
  · intro i h1 h2
    simp only [restK, List.getElem_set, List.getElem_map, List.getElem_range]
    by_cases e : k = i
    · subst e; rw [if_pos rfl, if_pos (by omega)]
    · rw [if_neg e]
      by_cases h : i < k
      · rw [if_pos h, if_pos (by omega)]
      · rw [if_neg h, if_neg (by omega)]
theorem restK_end (M : Nat) (qs : List Nat) : restK M qs.sum qs qs.length qs.length = restL M qs 0 qs.length := by
  unfold restK restL
  refine List.map_congr_left fun i hi => ?_
  rw [if_pos (List.mem_range.1 hi)]
  unfold restF
  rw [if_neg (by simp)]

set_option maxRecDepth 100000 in
set_option maxHeartbeats 1000000 in
theorem refSplit_e (m : Int) (ps : List Int) (ap : Option Addr) (np cp : Nat) (D : Imm) (w : World) (hS : SlL D 1 (ps.map intC) ap np) (hl : np ≤ 1000) (hH : Holds D w) (hv : splitB m ps = false) : Gives Try.prog 10 [it m, .slice ap np cp] w (.tuple #[.slice none 0 0, it 1]) := by
  unfold Gives
  obtain rfl := hS.len'
  refine enter Try.func10 rfl 116 Try.ntmps10 (Nat.le_of_ble_eq_true rfl) (Inv.start hH) ?_
  refine WC.seq ?_
  refine WC.ofFr [(0, _), (1, _)] ⟨rfl, rfl, trivial⟩ ?_
  refine WC.region ?_
  refine WL.yd (Yd.assign rfl) rfl ?_
  refine WL.yd (Yd.assign rfl) rfl ?_
  refine WL.nil ?_
  refine WP.thenC ?_
  refine WC.seq ?_
  refine WC.seq ?_
  refine WC.ofFr [(5, _), (4, _), (0, _), (1, _)] ⟨rfl, rfl, rfl, rfl, trivial⟩ ?_
  refine WC.region ?_
  refine WL.yd (Yd.move rfl) rfl ?_
  refine WL.so (SO.callP Try.call39 rfl (fun w hI => in13_g _ _ _ _)) rfl ?_
  rintro _ _ _ ⟨rfl, rfl, rfl⟩
  refine WL.yd (Yd.not rfl) rfl ?_
  refine WL.yd (Yd.move rfl) rfl ?_
  refine WL.part 17 rfl (fun g17 => ?_) (fun g17 => ?_)
  · try simp only [zq1, zq2, zq3, zq4, zq5, zq6, zq7, zq8] at g17
    refine WL.skip rfl rfl ?_
    refine WL.skip rfl rfl ?_
    refine WL.skip rfl rfl ?_
    refine WL.yd (Yd.pickT rfl rfl) rfl ?_
    refine WL.nil ?_
    refine WP.thenC ?_
    refine WC.condT rfl ?_
    refine WC.seq ?_
    refine WC.ofFr [(5, _), (4, _), (0, _), (1, _)] ⟨rfl, rfl, rfl, rfl, trivial⟩ ?_
    refine WC.region ?_
    refine WL.yd (Yd.assign rfl) rfl ?_
    refine WL.yd (Yd.assign rfl) rfl ?_
    refine WL.nil ?_
    refine WP.thenC ?_
    refine WC.ret ?_
    refine WP.thenRet ?_
    refine WP.ret2 rfl rfl Try.results10 (RV.tmp rfl) (RV.tmp rfl) (fun w hI => ⟨rfl, hI.keep⟩)
  · try simp only [zq1, zq2, zq3, zq4, zq5, zq6, zq7, zq8] at g17
    refine WL.ydg rfl (Yd.move rfl) rfl ?_
    refine WL.ydg rfl (Yd.lenS rfl Try.underlying22 rfl) rfl ?_
    refine WL.ydg rfl (Yd.gtr rfl rfl) rfl ?_
    refine WL.yd (Yd.pickF rfl rfl) rfl ?_
    refine WL.nil ?_
    refine WP.thenC ?_
    refine WC.cond rfl (fun c21 => ?_) (fun c21 => ?_)
    · try simp only [zq1, zq2, zq3, zq4, zq5, zq6, zq7, zq8] at c21
      refine WC.seq ?_
      refine WC.ofFr [(5, _), (4, _), (0, _), (1, _)] ⟨rfl, rfl, rfl, rfl, trivial⟩ ?_
      refine WC.region ?_
      refine WL.yd (Yd.assign rfl) rfl ?_
      refine WL.yd (Yd.assign rfl) rfl ?_
      refine WL.nil ?_
      refine WP.thenC ?_
      refine WC.ret ?_
      refine WP.thenRet ?_
      refine WP.ret2 rfl rfl Try.results10 (RV.tmp rfl) (RV.tmp rfl) (fun w hI => ⟨rfl, hI.keep⟩)
    · try simp only [zq1, zq2, zq3, zq4, zq5, zq6, zq7, zq8] at c21
      have hbm : inB m 0 5000 = true := by simp_all
      have h6 : ps.length ≤ 6 := by simp_all; try omega
      refine WC.skip ?_
      refine WP.thenC ?_
      refine WC.seq ?_
      refine WC.ofFr [(5, _), (4, _), (0, _), (1, _)] ⟨rfl, rfl, rfl, rfl, trivial⟩ ?_
      refine WC.region ?_
      refine WL.yd (Yd.assign rfl) rfl ?_
      refine WL.nil ?_
      refine WP.thenC ?_
      refine WC.seq ?_
      refine WC.seq ?_
      refine WC.ofFr [(6, _), (5, _), (4, _), (0, _), (1, _)] ⟨rfl, rfl, rfl, rfl, rfl, trivial⟩ ?_
      refine WC.region ?_
      refine WL.yd (Yd.assign rfl) rfl ?_
      refine WL.nil ?_
      refine WP.thenC ?_
      refine WC.block ?_
      refine WC.loopF (fun k : Nat => [(1, .slice ap ps.length cp), (4, .slice none 0 0), (5, it 0), (6, it (ps.take k).sum), (7, nt k)]) (fun k => k ≤ ps.length ∧ ∀ i, i < k → inB (gt ps i) 0 20 = true) (fun k => ps.length - k) 0 ⟨by omega, by intro i hi; omega⟩ ⟨rfl, rfl, rfl, rfl, rfl, trivial⟩ ?_
      intro k ⟨hk, hd⟩
      refine WC.seq ?_
      refine WC.seq ?_
      refine WC.ofFr [(1, _), (4, _), (5, _), (6, _), (7, _)] ⟨rfl, rfl, rfl, rfl, rfl, trivial⟩ ?_
      refine WC.region ?_
      refine WL.yd (Yd.move rfl) rfl ?_
      refine WL.yd (Yd.move rfl) rfl ?_
      refine WL.yd (Yd.lenS rfl Try.underlying22 rfl) rfl ?_
      refine WL.yd (Yd.lss rfl rfl) rfl ?_
      refine WL.nil ?_
      refine WP.thenC ?_
      refine WC.cond rfl (fun c25 => ?_) (fun c25 => ?_)
      · try simp only [zq1, zq2, zq3, zq4, zq5, zq6, zq7, zq8] at c25
        have hkn : k < ps.length := by omega
        refine WC.skip ?_
        refine WP.thenC ?_
        refine WC.seq ?_
        refine WC.block ?_
        refine WC.seq ?_
        refine WC.seq ?_
        refine WC.ofFr [(1, _), (4, _), (5, _), (6, _), (7, _)] ⟨rfl, rfl, rfl, rfl, rfl, trivial⟩ ?_
        refine WC.region ?_
        refine WL.yd (Yd.move rfl) rfl ?_
        refine WL.yd (Yd.move rfl) rfl ?_
        refine WL.yd (Yd.indexS Try.underlying22 Try.sizeOf3 rfl rfl (by omega) (by omega) (by first | exact hS.addr k (by omega))) rfl ?_
        refine WL.yd (Yd.load1 Try.isAgg3 rfl (by first | exact ((hS.at k (by omega)).rd 0 rfl))) rfl ?_
        refine WL.so (SO.callP Try.call39 rfl (fun w hI => in13_g _ _ _ _)) rfl ?_
        rintro _ _ _ ⟨rfl, rfl, rfl⟩
        refine WL.yd (Yd.not rfl) rfl ?_
        refine WL.nil ?_
        refine WP.thenC ?_
        refine WC.cond rfl (fun c33 => ?_) (fun c33 => ?_)
        · try simp only [zq1, zq2, zq3, zq4, zq5, zq6, zq7, zq8] at c33
          refine WC.seq ?_
          refine WC.ofFr [(1, _), (4, _), (5, _), (6, _), (7, _)] ⟨rfl, rfl, rfl, rfl, rfl, trivial⟩ ?_
          refine WC.region ?_
          refine WL.yd (Yd.assign rfl) rfl ?_
          refine WL.yd (Yd.assign rfl) rfl ?_
          refine WL.nil ?_
          refine WP.thenC ?_
          refine WC.ret ?_
          refine WP.thenRet ?_
          refine WP.blkRet ?_
          refine WP.thenRet ?_
          refine WP.thenRet ?_
          refine WP.blkRet ?_
          refine WP.thenRet ?_
          refine WP.ret2 rfl rfl Try.results10 (RV.tmp rfl) (RV.tmp rfl) (fun w hI => ⟨rfl, hI.keep⟩)
        · try simp only [zq1, zq2, zq3, zq4, zq5, zq6, zq7, zq8] at c33
          have hk20 : inB (gt ps k) 0 20 = true := by simp_all
          have hp20 : 0 ≤ gt ps k ∧ gt ps k ≤ 20 := of_decide_eq_true hk20
          have hsb := sumI_bound (l := ps) (n := k) (by omega) hd
          refine WC.skip ?_
          refine WP.thenC ?_
          refine WC.ofFr [(1, _), (4, _), (5, _), (6, _), (7, _)] ⟨rfl, rfl, rfl, rfl, rfl, trivial⟩ ?_
          refine WC.region ?_
          refine WL.yd (Yd.move rfl) rfl ?_
          refine WL.yd (Yd.move rfl) rfl ?_
          refine WL.yd (Yd.move rfl) rfl ?_
          refine WL.yd (Yd.indexS Try.underlying22 Try.sizeOf3 rfl rfl (by omega) (by omega) (by first | exact hS.addr k (by omega))) rfl ?_
          refine WL.yd (Yd.load1 Try.isAgg3 rfl (by first | exact ((hS.at k (by omega)).rd 0 rfl))) rfl ?_
          refine WL.know 34 (it (ps.take k).sum) rfl rfl ?_
          refine WL.yd (Yd.add rfl rfl (wr64 ⟨by omega, by omega⟩)) rfl ?_
          refine WL.yd (Yd.assign rfl) rfl ?_
          refine WL.nil ?_
          refine WP.blkNormal ?_
          refine WP.thenC ?_
          skip
          refine WC.ofFr [(6, _), (1, _), (4, _), (5, _), (7, _)] ⟨rfl, rfl, rfl, rfl, rfl, trivial⟩ ?_
          refine WC.region ?_
          refine WL.yd (Yd.move rfl) rfl ?_
          refine WL.yd (Yd.addN (i := k) (j := 1) rfl rfl (by omega)) rfl ?_
          refine WL.yd (Yd.assign rfl) rfl ?_
          refine WL.nil ?_
          exact WP.againF (k + 1) ⟨by omega, ext_round hd hk20⟩ (by omega) ⟨rfl, rfl, rfl, by rw [sum_take hkn]; rfl, rfl, trivial⟩ (fun _ h => h) (fun h => h)
      · try simp only [zq1, zq2, zq3, zq4, zq5, zq6, zq7, zq8] at c25
        exfalso
        obtain rfl : k = ps.length := by omega
        have hvt : splitB m ps = true := by
          unfold splitB
          rw [hbm, decide_eq_true (show ps.length ≤ 6 by omega), all_iff.2 hd]; rfl
        rw [hv] at hvt; cases hvt

set_option maxRecDepth 100000 in
set_option maxHeartbeats 1000000 in
theorem refSplit_ok (M : Nat) (hM : M ≤ 5000) (qs : List Nat) (h6 : qs.length ≤ 6) (hq : ∀ i, i < qs.length → gt qs i ≤ 20) (ap : Option Addr) (cp : Nat) (D : Imm) (hS : SlL D 1 (qs.map natC) ap qs.length) (w : World) (hH : Holds D w) : Makes Try.prog 10 [nt M, .slice ap qs.length cp] w D (fun v D' => ∃ a c, v = .tuple #[.slice a qs.length c, it 0] ∧ SlL D' 1 ((splitL M qs).map natC) a qs.length) := by
  unfold Makes
  refine enter Try.func10 rfl 116 Try.ntmps10 (Nat.le_of_ble_eq_true rfl) (Inv.start hH) ?_
  refine WC.seq ?_
  refine WC.ofFr [(0, _), (1, _)] ⟨rfl, rfl, trivial⟩ ?_
  refine WC.region ?_
  refine WL.yd (Yd.assign rfl) rfl ?_
  refine WL.yd (Yd.assign rfl) rfl ?_
  refine WL.nil ?_
  refine WP.thenC ?_
  refine WC.seq ?_
  refine WC.seq ?_
  refine WC.ofFr [(5, _), (4, _), (0, _), (1, _)] ⟨rfl, rfl, rfl, rfl, trivial⟩ ?_
  refine WC.region ?_
  refine WL.yd (Yd.move rfl) rfl ?_
  refine WL.so (SO.callP Try.call39 rfl (fun w hI => in13_g _ _ _ _)) rfl ?_
  rintro _ _ _ ⟨rfl, rfl, rfl⟩
  refine WL.know 15 (.bool true) rfl (congrArg Value.bool (decide_eq_true (show (0 : Int) ≤ (M : Int) ∧ (M : Int) ≤ 5000 by omega))) ?_
  refine WL.yd (Yd.not rfl) rfl ?_
  refine WL.yd (Yd.move rfl) rfl ?_
  refine WL.ydg rfl (Yd.move rfl) rfl ?_
  refine WL.ydg rfl (Yd.lenS rfl Try.underlying22 rfl) rfl ?_
  refine WL.ydg rfl (Yd.gtr rfl rfl) rfl ?_
  refine WL.know 20 (.bool false) rfl (congrArg Value.bool (decide_eq_false (show ¬ (((qs.length : Nat) : Int) > 6) by omega))) ?_
  refine WL.yd (Yd.pickF rfl rfl) rfl ?_
  refine WL.nil ?_
  refine WP.thenC ?_
  refine WC.condF rfl ?_
  refine WC.skip ?_
  refine WP.thenC ?_
  refine WC.seq ?_
  refine WC.ofFr [(5, _), (4, _), (0, _), (1, _)] ⟨rfl, rfl, rfl, rfl, trivial⟩ ?_
  refine WC.region ?_
  refine WL.yd (Yd.assign rfl) rfl ?_
  refine WL.nil ?_
  refine WP.thenC ?_
  refine WC.seq ?_
  refine WC.seq ?_
  refine WC.ofFr [(6, _), (5, _), (4, _), (0, _), (1, _)] ⟨rfl, rfl, rfl, rfl, rfl, trivial⟩ ?_
  refine WC.region ?_
  refine WL.yd (Yd.assign rfl) rfl ?_
  refine WL.nil ?_
  refine WP.thenC ?_
  refine WC.block ?_
  refine WC.loopF (fun k : Nat => [(0, nt M), (1, .slice ap qs.length cp), (4, .slice none 0 0), (5, it 0), (6, nt (qs.take k).sum), (7, nt k)]) (fun k => k ≤ qs.length) (fun k => qs.length - k) 0 (by omega) ⟨rfl, rfl, rfl, rfl, rfl, rfl, trivial⟩ ?_
  intro k hk
  refine WC.seq ?_
  refine WC.seq ?_
  refine WC.ofFr [(0, _), (1, _), (4, _), (5, _), (6, _), (7, _)] ⟨rfl, rfl, rfl, rfl, rfl, rfl, trivial⟩ ?_
  refine WC.region ?_
  refine WL.yd (Yd.move rfl) rfl ?_
  refine WL.yd (Yd.move rfl) rfl ?_
  refine WL.yd (Yd.lenS rfl Try.underlying22 rfl) rfl ?_
  refine WL.yd (Yd.lss rfl rfl) rfl ?_
  refine WL.nil ?_
  refine WP.thenC ?_
  refine WC.cond rfl (fun c25 => ?_) (fun c25 => ?_)
  · try simp only [zq1, zq2, zq3, zq4, zq5, zq6, zq7, zq8] at c25
    have hkn : k < qs.length := by omega
    have hqk := hq k hkn
    have hsk := sumN_bound hq k (by omega)
    refine WC.skip ?_
    refine WP.thenC ?_
    refine WC.seq ?_
    refine WC.block ?_
    refine WC.seq ?_
    refine WC.seq ?_
    refine WC.ofFr [(0, _), (1, _), (4, _), (5, _), (6, _), (7, _)] ⟨rfl, rfl, rfl, rfl, rfl, rfl, trivial⟩ ?_
    refine WC.region ?_
    refine WL.yd (Yd.move rfl) rfl ?_
    refine WL.yd (Yd.move rfl) rfl ?_
    refine WL.yd (Yd.indexS Try.underlying22 Try.sizeOf3 rfl rfl (by (try dsimp only); omega) (by (try dsimp only); omega) (by first | exact hS.addr k (by omega))) rfl ?_
    refine WL.yd (Yd.load1 Try.isAgg3 rfl (by first | exact ((hS.at k (by omega)).rd 0 rfl))) rfl ?_
    refine WL.so (SO.callP Try.call39 rfl (fun w hI => in13_g _ _ _ _)) rfl ?_
    rintro _ _ _ ⟨rfl, rfl, rfl⟩
    refine WL.know 32 (.bool true) rfl (congrArg Value.bool (decide_eq_true (show (0 : Int) ≤ ((gt qs k : Nat) : Int) ∧ ((gt qs k : Nat) : Int) ≤ 20 by omega))) ?_
    refine WL.yd (Yd.not rfl) rfl ?_
    refine WL.nil ?_
    refine WP.thenC ?_
    refine WC.condF rfl ?_
    refine WC.skip ?_
    refine WP.thenC ?_
    refine WC.ofFr [(0, _), (1, _), (4, _), (5, _), (6, _), (7, _)] ⟨rfl, rfl, rfl, rfl, rfl, rfl, trivial⟩ ?_
    refine WC.region ?_
    refine WL.yd (Yd.move rfl) rfl ?_
    refine WL.yd (Yd.move rfl) rfl ?_
    refine WL.yd (Yd.move rfl) rfl ?_
    refine WL.yd (Yd.indexS Try.underlying22 Try.sizeOf3 rfl rfl (by (try dsimp only); omega) (by (try dsimp only); omega) (by first | exact hS.addr k (by omega))) rfl ?_
    refine WL.yd (Yd.load1 Try.isAgg3 rfl (by first | exact ((hS.at k (by omega)).rd 0 rfl))) rfl ?_
    refine WL.know 34 (nt (qs.take k).sum) rfl rfl ?_
    refine WL.know 38 (nt (gt qs k)) rfl rfl ?_
    refine WL.yd (Yd.addN rfl rfl (by (try dsimp only); omega)) rfl ?_
    refine WL.yd (Yd.assign rfl) rfl ?_
    refine WL.nil ?_
    refine WP.blkNormal ?_
    refine WP.thenC ?_
    refine WC.ofFr [(6, _), (0, _), (1, _), (4, _), (5, _), (7, _)] ⟨rfl, rfl, rfl, rfl, rfl, rfl, trivial⟩ ?_
    refine WC.region ?_
    refine WL.yd (Yd.move rfl) rfl ?_
    refine WL.yd (Yd.addN rfl rfl (by (try dsimp only); omega)) rfl ?_
    refine WL.yd (Yd.assign rfl) rfl ?_
    refine WL.nil ?_
    exact WP.againF (k + 1) (by omega) (by omega) ⟨rfl, rfl, rfl, rfl, by rw [sumN_take hkn]; rfl, rfl, trivial⟩ (fun _ h => h) (fun h => h)
  · try simp only [zq1, zq2, zq3, zq4, zq5, zq6, zq7, zq8] at c25
    refine WC.exit ?_
    refine WP.thenExit ?_
    refine WP.thenExit ?_
    refine WP.blkHit ?_
    refine WP.thenC ?_
    refine WC.seq ?_
    obtain rfl : k = qs.length := by omega
    rw [List.take_length]
    refine WC.ofFr [(0, _), (1, _), (4, _), (5, _), (6, _)] ⟨rfl, rfl, rfl, rfl, rfl, trivial⟩ ?_
    refine WC.drawH [] (by kernel_rfl) (fun _ hI => hI.drop 99) ?_
    refine WH.yd (i := 0) (by kernel_rfl) (fun _ o v c a w _ h => (QuietPanic.then QuietPanic.body) c o.dst v a w h) rfl (Yd.move rfl) rfl ?_
    refine WH.yd (i := 1) (by kernel_rfl) (fun _ o v c a w _ h => (QuietPanic.then QuietPanic.body) c o.dst v a w h) rfl (Yd.lenS rfl Try.underlying22 rfl) rfl ?_
    refine WH.yd (i := 3) (by kernel_rfl) (fun _ o v c a w _ h => (QuietPanic.then QuietPanic.body) c o.dst v a w h) rfl (Yd.move rfl) rfl ?_
    refine WH.yd (i := 4) (by kernel_rfl) (fun _ o v c a w _ h => (QuietPanic.then QuietPanic.body) c o.dst v a w h) rfl (Yd.lenS rfl Try.underlying22 rfl) rfl ?_
    refine WH.two (i := 2) (j := 5) (by kernel_rfl) ?_ ?_
    · refine WHo.so rfl (SO.makeSlice Try.underlying22 Try.sizeOf3 Try.typeInfo3 Try.zeroValue3 rfl rfl rfl (by omega) (by show 8 * ((qs.length : Nat) : Int) ≤ 2 ^ 48; omega)) rfl ?_
      rintro _ _ _ ⟨b42, hb42, rfl, rfl, rfl⟩ -- NEW
      refine ⟨(fun _ hI => hI.drop 99), ?_⟩
      refine WH.yd (i := 6) (by kernel_rfl) (fun _ o v c a w _ h => (QuietPanic.then QuietPanic.body) c o.dst v a w h) rfl (Yd.assign rfl) rfl ?_
      refine WH.one (i := 5) (by kernel_rfl) (WHo.so rfl (SO.makeSlice Try.underlying22 Try.sizeOf3 Try.typeInfo3 Try.zeroValue3 rfl rfl rfl (by omega) (by show 8 * ((qs.length : Nat) : Int) ≤ 2 ^ 48; omega)) rfl ?_)
      rintro _ _ _ ⟨b45, hb45, rfl, rfl, rfl⟩ -- NEW
      refine ⟨(fun _ hI => hI.drop 99), ?_⟩
      refine WH.yd (i := 7) (by kernel_rfl) (fun _ o v c a w _ h => (QuietPanic.then QuietPanic.body) c o.dst v a w h) rfl (Yd.assign rfl) rfl ?_
      refine WH.nil (by kernel_rfl) ?_
      refine WP.thenC ?_
      refine WC.seq ?_
      refine WC.seq ?_
      refine WC.hpEq (hp' := [(b45, .cells (List.toArray ((List.replicate qs.length (0 : Int)).map it ++ [])) 3 (0, 0)), (b42, .cells (List.toArray ((List.replicate qs.length 0).map nt ++ [])) 3 (0, 0))]) (by rw [← zeroN, ← zeroI]) ?_
      refine WC.ofFr [(9, _), (8, _), (0, _), (1, _), (4, _), (5, _), (6, _)] ⟨rfl, rfl, rfl, rfl, rfl, rfl, rfl, trivial⟩ ?_
      refine WC.region ?_
      refine WL.yd (Yd.move rfl) rfl ?_
      refine WL.yd (Yd.eql rfl rfl) rfl ?_
      refine WL.nil ?_
      refine WP.thenC ?_
      refine WC.cond rfl (fun c47 => ?_) (fun c47 => ?_)
      · try simp only [zq1, zq2, zq3, zq4, zq5, zq6, zq7, zq8] at c47
        refine WC.seq ?_
        refine WC.freezeN 1 b42 (datN (List.replicate qs.length 0) []) rfl rfl hb42 (fun D41 hX41 h41 => ?_)
        
        refine WC.ofFr [(9, _), (8, _), (0, _), (1, _), (4, _), (5, _), (6, _)] ⟨rfl, rfl, rfl, rfl, rfl, rfl, rfl, trivial⟩ ?_
        refine WC.region ?_
        refine WL.yd (Yd.move rfl) rfl ?_
        refine WL.yd (Yd.assign rfl) rfl ?_
        refine WL.yd (Yd.assign rfl) rfl ?_
        refine WL.nil ?_
        refine WP.thenC ?_
        refine WC.ret ?_
        refine WP.thenRet ?_
        refine WP.ret2 rfl rfl Try.results10 (RV.tmp rfl) (RV.tmp rfl) (fun w1 hI => ⟨_, D41, rfl, hI.keep, hI.imm, hX41, _, _, rfl, by
          have h9 := natSl h41
          rw [List.length_replicate] at h9
          rw [show splitL M qs = List.replicate qs.length 0 by unfold splitL; rw [if_pos (by omega)]]
          exact h9⟩)
      · try simp only [zq1, zq2, zq3, zq4, zq5, zq6, zq7, zq8] at c47
        refine WC.skip ?_
        refine WP.thenC ?_
        refine WC.seq ?_
        have hA : 0 < qs.sum := by omega
        refine WC.ofFr [(9, _), (8, _), (0, _), (1, _), (4, _), (5, _), (6, _)] ⟨rfl, rfl, rfl, rfl, rfl, rfl, rfl, trivial⟩ ?_
        refine WC.region ?_
        refine WL.yd (Yd.move rfl) rfl ?_
        refine WL.yd (Yd.assign rfl) rfl ?_
        refine WL.nil ?_
        refine WP.thenC ?_
        refine WC.seq ?_
        refine WC.seq ?_
        refine WC.ofFr [(10, _), (9, _), (8, _), (0, _), (1, _), (4, _), (5, _), (6, _)] ⟨rfl, rfl, rfl, rfl, rfl, rfl, rfl, rfl, trivial⟩ ?_
        refine WC.region ?_
        refine WL.yd (Yd.assign rfl) rfl ?_
        refine WL.nil ?_
        refine WP.thenC ?_
        refine WC.block ?_
        refine WC.loop (fun k : Nat => [(0, nt M), (1, .slice ap qs.length cp), (4, .slice none 0 0), (5, it 0), (6, nt qs.sum), (8, .slice (some ⟨b42, 0, none⟩) qs.length qs.length), (9, .slice (some ⟨b45, 0, none⟩) qs.length qs.length), (10, nt (leftN M qs.sum qs k)), (11, nt k)]) (fun k => [(b45, .cells (List.toArray ((restK M qs.sum qs k qs.length).map it ++ [])) 3 (0, 0)), (b42, .cells (List.toArray ((downL M qs.sum qs k qs.length).map nt ++ [])) 3 (0, 0))]) (fun _ => D) (fun k => k ≤ qs.length) (fun k => qs.length - k) 0 (by omega) (fun a w h => by rw [downL_zero, restK_zero]; exact at_fr h ⟨rfl, rfl, rfl, rfl, rfl, rfl, rfl, rfl, rfl, trivial⟩) ?_
        intro k hk
        refine WC.seq ?_
        refine WC.seq ?_
        refine WC.ofFr [(0, _), (1, _), (4, _), (5, _), (6, _), (8, _), (9, _), (10, _), (11, _)] ⟨rfl, rfl, rfl, rfl, rfl, rfl, rfl, rfl, rfl, trivial⟩ ?_
        refine WC.region ?_
        refine WL.yd (Yd.move rfl) rfl ?_
        refine WL.yd (Yd.move rfl) rfl ?_
        refine WL.yd (Yd.lenS rfl Try.underlying22 rfl) rfl ?_
        refine WL.yd (Yd.lss rfl rfl) rfl ?_
        refine WL.nil ?_
        refine WP.thenC ?_
        refine WC.cond rfl (fun c53 => ?_) (fun c53 => ?_)
        · try simp only [zq1, zq2, zq3, zq4, zq5, zq6, zq7, zq8] at c53
          have hkn : k < qs.length := by omega
          have hpk : 0 ≤ (M : Int) * ((gt qs k : Nat) : Int) ∧ (M : Int) * ((gt qs k : Nat) : Int) ≤ 100000 := by have h1 := (down_num (A := qs.sum) hM hq hkn).1; rw [← Int.natCast_mul]; omega
          have hd1 : sumF (downN M qs.sum qs) (k + 1) ≤ M := down_le rfl hA (by omega)
          have hd2 : downN M qs.sum qs k ≤ leftN M qs.sum qs k := by unfold leftN; unfold sumF at hd1; omega
          have hd3 : leftN M qs.sum qs k ≤ 5000 := by unfold leftN; omega
          refine WC.skip ?_
          refine WP.thenC ?_
          refine WC.seq ?_
          refine WC.block ?_
          refine WC.seq ?_
          refine WC.ofFr [(0, _), (1, _), (4, _), (5, _), (6, _), (8, _), (9, _), (10, _), (11, _)] ⟨rfl, rfl, rfl, rfl, rfl, rfl, rfl, rfl, rfl, trivial⟩ ?_
          refine WC.drawO [] [(0, true), (1, true), (2, true), (3, true), (4, true), (5, true), (6, true), (7, true), (8, true), (9, true), (10, true), (11, true), (12, true), (13, true), (14, true), (15, true), (16, true), (17, true), (18, true), (19, true), (20, true), (21, false), (22, true), (23, false)] (by kernel_rfl) (by kernel_rfl) (QuietPanic.then (QuietPanic.blk (QuietPanic.then (QuietPanic.then (QuietPanic.blk (QuietPanic.then QuietPanic.body)))))) (fun _ hI => hI.drop 99) ?_
          refine WA.yd rfl (Yd.move rfl) rfl ?_
          refine WA.yd rfl (Yd.move rfl) rfl ?_
          refine WA.yd rfl (Yd.move rfl) rfl ?_
          refine WA.yd rfl (Yd.move rfl) rfl ?_
          refine WA.yd rfl (Yd.move rfl) rfl ?_
          refine WA.yd rfl (Yd.move rfl) rfl ?_
          refine WA.yd rfl (Yd.move rfl) rfl ?_
          refine WA.yd rfl (Yd.indexS Try.underlying22 Try.sizeOf3 rfl rfl (by (try dsimp only); omega) (by (try dsimp only); omega) (by first | exact hS.addr k (by omega) | exact rfl)) rfl ?_
          refine WA.yd rfl (Yd.load1 Try.isAgg3 rfl (by first | exact Rd.own (k := 0) rfl rfl | exact Rd.own (k := 1) rfl rfl | exact ((hS.at k (by omega)).rd 0 rfl))) rfl ?_
          refine WA.yd rfl (Yd.mul rfl rfl (wr64 ⟨by omega, by omega⟩)) rfl ?_
          refine WA.yd rfl (Yd.move rfl) rfl ?_
          refine WA.yd rfl (Yd.quoN (i := M * gt qs k) (j := qs.sum) rfl rfl hA (by have := (down_num (A := qs.sum) hM hq hkn).1; omega)) rfl ?_
          refine WA.yd rfl (Yd.move rfl) rfl ?_
          refine WA.yd rfl (Yd.move rfl) rfl ?_
          refine WA.yd rfl (Yd.move rfl) rfl ?_
          refine WA.yd rfl (Yd.indexS Try.underlying22 Try.sizeOf3 rfl rfl (by (try dsimp only); omega) (by (try dsimp only); omega) (by first | exact hS.addr k (by omega) | exact rfl)) rfl ?_
          refine WA.yd rfl (Yd.load1 Try.isAgg3 rfl (by first | exact Rd.own (k := 0) rfl rfl | exact Rd.own (k := 1) rfl rfl | exact ((hS.at k (by omega)).rd 0 rfl))) rfl ?_
          refine WA.yd rfl (Yd.mul rfl rfl (wr64 ⟨by omega, by omega⟩)) rfl ?_
          refine WA.yd rfl (Yd.move rfl) rfl ?_
          refine WA.yd rfl (Yd.remN (i := M * gt qs k) (j := qs.sum) rfl rfl hA) rfl ?_
          refine WA.yd rfl (Yd.indexS Try.underlying22 Try.sizeOf3 rfl rfl (by (try dsimp only); omega) (by (try dsimp only); omega) (by first | exact hS.addr k (by omega) | exact rfl)) rfl ?_
          refine WA.so rfl (SO.store 1 rfl Try.sizeOf3 rfl rfl rfl rfl (len_dataN _ _ (by rw [downL_len]; exact hkn)) (oneB_spec rfl)) rfl ?_
          rintro _ _ _ ⟨rfl, rfl, rfl⟩
          refine ⟨fun _ hI => hI.drop 99, ?_⟩
          refine WA.yd rfl (Yd.indexS Try.underlying22 Try.sizeOf3 rfl rfl (by (try dsimp only); omega) (by (try dsimp only); omega) (by first | exact hS.addr k (by omega) | exact rfl)) rfl ?_
          refine WA.so rfl (SO.store 0 rfl Try.sizeOf3 rfl rfl rfl rfl (len_dataI _ _ (by rw [restK_len]; exact hkn)) (oneB_spec rfl)) rfl ?_
          rintro _ _ _ ⟨rfl, rfl, rfl⟩
          refine ⟨fun _ hI => hI.drop 99, ?_⟩
          refine WA.nil ?_
          refine WP.thenC ?_
          refine WC.hpEq (hp' := [(b45, .cells (List.toArray ((restK M qs.sum qs (k + 1) qs.length).map it ++ [])) 3 (0, 0)), (b42, .cells (List.toArray ((downL M qs.sum qs (k + 1) qs.length).map nt ++ [])) 3 (0, 0))]) (by show ([(b45, .cells (List.toArray (splice ((restK M qs.sum qs k qs.length).map it ++ []) (0 + k * 1) [it (remN M qs.sum qs k : Int)])) 3 (0, 0)), (b42, .cells (List.toArray (splice ((downL M qs.sum qs k qs.length).map nt ++ []) (0 + k * 1) [nt (downN M qs.sum qs k)])) 3 (0, 0))] : Hp) = _; rw [splice_dataN _ _ _ _ (by rw [downL_len]; exact hkn), downL_step, splice_dataI _ _ _ _ (by rw [restK_len]; exact hkn), restK_step]) ?_
          refine WC.ofFr [(0, _), (1, _), (4, _), (5, _), (6, _), (8, _), (9, _), (10, _), (11, _)] ⟨rfl, rfl, rfl, rfl, rfl, rfl, rfl, rfl, rfl, trivial⟩ ?_
          refine WC.region ?_
          refine WL.yd (Yd.move rfl) rfl ?_
          refine WL.yd (Yd.move rfl) rfl ?_
          refine WL.yd (Yd.move rfl) rfl ?_
          refine WL.yd (Yd.indexS Try.underlying22 Try.sizeOf3 rfl rfl (by (try dsimp only); omega) (by (try dsimp only); omega) (by first | exact rfl)) rfl ?_
          refine WL.yd (Yd.load1 Try.isAgg3 rfl (by first | exact Rd.own (k := 0) rfl rfl | exact Rd.own (k := 1) rfl rfl | exact (rd_dataN (k := 1) rfl (by rw [downL_len]; exact hkn)))) rfl ?_
          refine WL.know 82 (nt (downN M qs.sum qs k)) rfl (by show nt (gt (downL M qs.sum qs (k + 1) qs.length) k) = _; rw [downL_at _ _ _ hkn, if_pos (by omega)]) ?_
          refine WL.yd (Yd.subN rfl rfl (by (try dsimp only); omega) (by (try dsimp only); omega)) rfl ?_
          refine WL.yd (Yd.assign rfl) rfl ?_
          refine WL.nil ?_
          refine WP.blkNormal ?_
          refine WP.thenC ?_
          refine WC.ofFr [(10, _), (0, _), (1, _), (4, _), (5, _), (6, _), (8, _), (9, _), (11, _)] ⟨rfl, rfl, rfl, rfl, rfl, rfl, rfl, rfl, rfl, trivial⟩ ?_
          refine WC.region ?_
          refine WL.yd (Yd.move rfl) rfl ?_
          refine WL.yd (Yd.addN rfl rfl (by (try dsimp only); omega)) rfl ?_
          refine WL.yd (Yd.assign rfl) rfl ?_
          refine WL.nil ?_
          exact WP.again (k + 1) (by omega) (by omega) (fun a w h => at_fr h ⟨rfl, rfl, rfl, rfl, rfl, rfl, rfl, by rw [left_step]; rfl, rfl, trivial⟩)
        · try simp only [zq1, zq2, zq3, zq4, zq5, zq6, zq7, zq8] at c53
          obtain rfl : k = qs.length := by omega
          have hlt := left_lt (M := M) (A := qs.sum) rfl hA
          rw [restK_end]
          refine WC.exit ?_
          refine WP.thenExit ?_
          refine WP.thenExit ?_
          refine WP.blkHit ?_
          refine WP.thenC ?_
          refine WC.seq ?_
          refine WC.block ?_
          refine WC.loop (fun j : Nat => [(1, .slice ap qs.length cp), (4, .slice none 0 0), (5, it 0), (8, .slice (some ⟨b42, 0, none⟩) qs.length qs.length), (9, .slice (some ⟨b45, 0, none⟩) qs.length qs.length), (10, nt ((leftN M qs.sum qs qs.length) - j))]) (fun j => [(b45, .cells (List.toArray ((restL M qs j qs.length).map it ++ [])) 3 (0, 0)), (b42, .cells (List.toArray (((incL (downL M qs.sum qs qs.length qs.length) ((ordS M qs).take j))).map nt ++ [])) 3 (0, 0))]) (fun _ => D) (fun j => j ≤ (leftN M qs.sum qs qs.length)) (fun j => (leftN M qs.sum qs qs.length) - j) 0 (by omega) (fun a w h => at_fr h ⟨rfl, rfl, rfl, rfl, rfl, rfl, trivial⟩) ?_
          intro j hj
          refine WC.seq ?_
          refine WC.seq ?_
          refine WC.ofFr [(1, _), (4, _), (5, _), (8, _), (9, _), (10, _)] ⟨rfl, rfl, rfl, rfl, rfl, rfl, trivial⟩ ?_
          refine WC.region ?_
          refine WL.yd (Yd.move rfl) rfl ?_
          refine WL.yd (Yd.gtr rfl rfl) rfl ?_
          refine WL.nil ?_
          refine WP.thenC ?_
          refine WC.cond rfl (fun c85 => ?_) (fun c85 => ?_)
          · try simp only [zq1, zq2, zq3, zq4, zq5, zq6, zq7, zq8] at c85
            have hjl : j < (leftN M qs.sum qs qs.length) := by omega
            have hib := fun (i : Nat) (hi : i < qs.length) => inc_bound (l := (downL M qs.sum qs qs.length qs.length)) (c := 100000) (fun i hi => by rw [downL_len] at hi; rw [downL_at _ _ _ hi]; split; exact (down_num hM hq hi).2; omega) (ordS M qs) (fun i hi => by rw [ordS_len] at hi; rw [downL_len]; exact ordS_lt hi) j (by rw [ordS_len]; omega) i (by rw [downL_len]; exact hi)
            have hib1 := hib (gt (ordS M qs) j) (ordS_lt (by omega))
            refine WC.skip ?_
            refine WP.thenC ?_
            refine WC.block ?_
            refine WC.seq ?_
            refine WC.ofFr [(1, _), (4, _), (5, _), (8, _), (9, _), (10, _)] ⟨rfl, rfl, rfl, rfl, rfl, rfl, trivial⟩ ?_
            refine WC.region ?_
            refine WL.yd (Yd.assign rfl) rfl ?_
            refine WL.nil ?_
            refine WP.thenC ?_
            refine WC.seq ?_
            refine WC.seq ?_
            refine WC.ofFr [(12, _), (1, _), (4, _), (5, _), (8, _), (9, _), (10, _)] ⟨rfl, rfl, rfl, rfl, rfl, rfl, rfl, trivial⟩ ?_
            refine WC.region ?_
            refine WL.yd (Yd.assign rfl) rfl ?_
            refine WL.nil ?_
            refine WP.thenC ?_
            refine WC.block ?_
            refine WC.loopF (fun i : Nat => [(1, .slice ap qs.length cp), (4, .slice none 0 0), (5, it 0), (8, .slice (some ⟨b42, 0, none⟩) qs.length qs.length), (9, .slice (some ⟨b45, 0, none⟩) qs.length qs.length), (10, nt ((leftN M qs.sum qs qs.length) - j)), (12, nt (bestJ (restF M qs j) i)), (13, nt i)]) (fun i => i ≤ qs.length) (fun i => qs.length - i) 0 (by omega) ⟨rfl, rfl, rfl, rfl, rfl, rfl, rfl, rfl, trivial⟩ ?_
            intro i hi
            refine WC.seq ?_
            refine WC.seq ?_
            refine WC.ofFr [(1, _), (4, _), (5, _), (8, _), (9, _), (10, _), (12, _), (13, _)] ⟨rfl, rfl, rfl, rfl, rfl, rfl, rfl, rfl, trivial⟩ ?_
            refine WC.region ?_
            refine WL.yd (Yd.move rfl) rfl ?_
            refine WL.yd (Yd.move rfl) rfl ?_
            refine WL.yd (Yd.lenS rfl Try.underlying22 rfl) rfl ?_
            refine WL.yd (Yd.lss rfl rfl) rfl ?_
            refine WL.nil ?_
            refine WP.thenC ?_
            refine WC.cond rfl (fun c89 => ?_) (fun c89 => ?_)
            · try simp only [zq1, zq2, zq3, zq4, zq5, zq6, zq7, zq8] at c89
              have hin : i < qs.length := by omega
              have hbb : bestJ (restF M qs j) i < qs.length := bestJ_lt _ hin
              refine WC.skip ?_
              refine WP.thenC ?_
              refine WC.seq ?_
              refine WC.block ?_
              refine WC.seq ?_
              refine WC.ofFr [(1, _), (4, _), (5, _), (8, _), (9, _), (10, _), (12, _), (13, _)] ⟨rfl, rfl, rfl, rfl, rfl, rfl, rfl, rfl, trivial⟩ ?_
              refine WC.tail 8 [0, 1, 2, 3, 4, 5, 6, 7] rfl (by kernel_rfl) (by kernel_rfl)  ?_
              refine WQ.q rfl (Yd.qt (Yd.move rfl)) rfl ?_
              refine WQ.q rfl (Yd.qt (Yd.move rfl)) rfl ?_
              refine WQ.q rfl (Yd.qt (Yd.indexS Try.underlying22 Try.sizeOf3 rfl rfl (by (try dsimp only); omega) (by (try dsimp only); omega) (by first | exact rfl))) rfl ?_
              refine WQ.q rfl (Yd.qt (Yd.load1 Try.isAgg3 rfl (by first | exact Rd.own (k := 0) rfl rfl | exact Rd.own (k := 1) rfl rfl | exact (rd_dataI (k := 0) rfl (by rw [restL_len]; omega))))) rfl ?_
              refine WQ.q rfl (Yd.qt (Yd.move rfl)) rfl ?_
              refine WQ.q rfl (Yd.qt (Yd.move rfl)) rfl ?_
              refine WQ.q rfl (Yd.qt (Yd.indexS Try.underlying22 Try.sizeOf3 rfl rfl (by (try dsimp only); omega) (by (try dsimp only); omega) (by first | exact rfl))) rfl ?_
              refine WQ.q rfl (Yd.qt (Yd.load1 Try.isAgg3 rfl (by first | exact Rd.own (k := 0) rfl rfl | exact Rd.own (k := 1) rfl rfl | exact (rd_dataI (k := 0) rfl (by rw [restL_len]; omega))))) rfl ?_
              refine WQ.tail ?_
              refine WL.know 95 (it (restF M qs j i)) rfl (by show it (gt (restL M qs j qs.length) i) = _; rw [restL_at hin]) ?_
              refine WL.know 99 (it (restF M qs j (bestJ (restF M qs j) i))) rfl (by show it (gt (restL M qs j qs.length) (bestJ (restF M qs j) i)) = _; rw [restL_at (by omega)]) ?_
              refine WL.yd (Yd.gtr rfl rfl) rfl ?_
              refine WL.nil ?_
              refine WP.thenC ?_
              refine WC.cond rfl (fun c100 => ?_) (fun c100 => ?_)
              · try simp only [zq1, zq2, zq3, zq4, zq5, zq6, zq7, zq8] at c100
                refine WC.ofFr [(1, _), (4, _), (5, _), (8, _), (9, _), (10, _), (12, _), (13, _)] ⟨rfl, rfl, rfl, rfl, rfl, rfl, rfl, rfl, trivial⟩ ?_
                refine WC.region ?_
                refine WL.yd (Yd.move rfl) rfl ?_
                refine WL.yd (Yd.assign rfl) rfl ?_
                refine WL.nil ?_
                refine WP.blkNormal ?_
                refine WP.thenC ?_
                refine WC.ofFr [(12, _), (1, _), (4, _), (5, _), (8, _), (9, _), (10, _), (13, _)] ⟨rfl, rfl, rfl, rfl, rfl, rfl, rfl, rfl, trivial⟩ ?_
                refine WC.region ?_
                refine WL.yd (Yd.move rfl) rfl ?_
                refine WL.yd (Yd.addN rfl rfl (by (try dsimp only); omega)) rfl ?_
                refine WL.yd (Yd.assign rfl) rfl ?_
                refine WL.nil ?_
                exact WP.againF (i + 1) (by omega) (by omega) ⟨rfl, rfl, rfl, rfl, rfl, rfl, by first | (rw [show bestJ (restF M qs j) (i + 1) = i by simp only [bestJ]; rw [if_pos c100]]; rfl) | (rw [show bestJ (restF M qs j) (i + 1) = bestJ (restF M qs j) i by simp only [bestJ]; rw [if_neg (Int.not_lt.2 c100)]]; rfl), rfl, trivial⟩ (fun _ h => h) (fun h => h)
              · try simp only [zq1, zq2, zq3, zq4, zq5, zq6, zq7, zq8] at c100
                refine WC.skip ?_
                refine WP.blkNormal ?_
                refine WP.thenC ?_
                refine WC.ofFr [(1, _), (4, _), (5, _), (8, _), (9, _), (10, _), (12, _), (13, _)] ⟨rfl, rfl, rfl, rfl, rfl, rfl, rfl, rfl, trivial⟩ ?_
                refine WC.region ?_
                refine WL.yd (Yd.move rfl) rfl ?_
                refine WL.yd (Yd.addN rfl rfl (by (try dsimp only); omega)) rfl ?_
                refine WL.yd (Yd.assign rfl) rfl ?_
                refine WL.nil ?_
                exact WP.againF (i + 1) (by omega) (by omega) ⟨rfl, rfl, rfl, rfl, rfl, rfl, by first | (rw [show bestJ (restF M qs j) (i + 1) = i by simp only [bestJ]; rw [if_pos c100]]; rfl) | (rw [show bestJ (restF M qs j) (i + 1) = bestJ (restF M qs j) i by simp only [bestJ]; rw [if_neg (Int.not_lt.2 c100)]]; rfl), rfl, trivial⟩ (fun _ h => h) (fun h => h)
            · try simp only [zq1, zq2, zq3, zq4, zq5, zq6, zq7, zq8] at c89
              refine WC.exit ?_
              refine WP.thenExit ?_
              refine WP.thenExit ?_
              refine WP.blkHit ?_
              refine WP.thenC ?_
              refine WC.seq ?_
              obtain rfl : i = qs.length := by omega
              have hoi : gt (ordS M qs) j < qs.length := ordS_lt (by omega)
              refine WC.ofFr [(1, _), (4, _), (5, _), (8, _), (9, _), (10, _), (12, _)] ⟨rfl, rfl, rfl, rfl, rfl, rfl, rfl, trivial⟩ ?_
              refine WC.region ?_
              refine WL.yd (Yd.move rfl) rfl ?_
              refine WL.yd (Yd.move rfl) rfl ?_
              refine WL.know 103 (nt (gt (ordS M qs) j)) rfl (by rw [best_ord (by omega)]) ?_
              refine WL.yd (Yd.move rfl) rfl ?_
              refine WL.yd (Yd.move rfl) rfl ?_
              refine WL.know 105 (nt (gt (ordS M qs) j)) rfl (by rw [best_ord (by omega)]) ?_
              refine WL.yd (Yd.move rfl) rfl ?_
              refine WL.yd (Yd.move rfl) rfl ?_
              refine WL.know 107 (nt (gt (ordS M qs) j)) rfl (by rw [best_ord (by omega)]) ?_
              refine WL.yd (Yd.indexS Try.underlying22 Try.sizeOf3 rfl rfl (by (try dsimp only); omega) (by (try dsimp only); omega) (by first | exact rfl)) rfl ?_
              refine WL.yd (Yd.load1 Try.isAgg3 rfl (by first | exact Rd.own (k := 0) rfl rfl | exact Rd.own (k := 1) rfl rfl | exact (rd_dataN (k := 1) rfl (by rw [inc_len, downL_len]; exact hoi)))) rfl ?_
              refine WL.know 109 (nt (gt (incL (downL M qs.sum qs qs.length qs.length) ((ordS M qs).take j)) (gt (ordS M qs) j))) rfl rfl ?_
              refine WL.yd (Yd.addN rfl rfl (by (try dsimp only); omega)) rfl ?_
              refine WL.yd (Yd.indexS Try.underlying22 Try.sizeOf3 rfl rfl (by (try dsimp only); omega) (by (try dsimp only); omega) (by first | exact rfl)) rfl ?_
              refine WL.so (SO.store 1 rfl Try.sizeOf3 rfl rfl rfl rfl (len_dataN _ _ (by rw [inc_len, downL_len]; exact hoi)) (oneB_spec rfl)) rfl ?_
              rintro _ _ _ ⟨rfl, rfl, rfl⟩
              refine WL.yd (Yd.indexS Try.underlying22 Try.sizeOf3 rfl rfl (by (try dsimp only); omega) (by (try dsimp only); omega) (by first | exact rfl)) rfl ?_
              refine WL.so (SO.store 0 rfl Try.sizeOf3 rfl rfl rfl rfl (len_dataI _ _ (by rw [restL_len]; exact hoi)) (oneB_spec rfl)) rfl ?_
              rintro _ _ _ ⟨rfl, rfl, rfl⟩
              refine WL.nil ?_
              refine WP.thenC ?_
              refine WC.hpEq (hp' := [(b45, .cells (List.toArray ((restL M qs (j + 1) qs.length).map it ++ [])) 3 (0, 0)), (b42, .cells (List.toArray (((incL (downL M qs.sum qs qs.length qs.length) ((ordS M qs).take (j + 1)))).map nt ++ [])) 3 (0, 0))]) (by show ([(b45, .cells (List.toArray (splice ((restL M qs j qs.length).map it ++ []) (0 + gt (ordS M qs) j * 1) [it (-1)])) 3 (0, 0)), (b42, .cells (List.toArray (splice ((incL (downL M qs.sum qs qs.length qs.length) ((ordS M qs).take j)).map nt ++ []) (0 + gt (ordS M qs) j * 1) [nt (gt (incL (downL M qs.sum qs qs.length qs.length) ((ordS M qs).take j)) (gt (ordS M qs) j) + 1)])) 3 (0, 0))] : Hp) = _; rw [splice_dataN _ _ _ _ (by rw [inc_len, downL_len]; exact hoi), ← inc_take (by rw [ordS_len]; omega), splice_dataI _ _ _ _ (by rw [restL_len]; exact hoi), restL_step (by omega)]) ?_
              refine WC.ofFr [(1, _), (4, _), (5, _), (8, _), (9, _), (10, _)] ⟨rfl, rfl, rfl, rfl, rfl, rfl, trivial⟩ ?_
              refine WC.region ?_
              refine WL.yd (Yd.move rfl) rfl ?_
              refine WL.yd (Yd.subN rfl rfl (by (try dsimp only); omega) (by (try dsimp only); omega)) rfl ?_
              refine WL.yd (Yd.assign rfl) rfl ?_
              refine WL.nil ?_
              refine WP.blkNormal ?_
              exact WP.again (j + 1) (by omega) (by omega) (fun a w h => at_fr h ⟨rfl, rfl, rfl, rfl, rfl, rfl, trivial⟩)
          · try simp only [zq1, zq2, zq3, zq4, zq5, zq6, zq7, zq8] at c85
            refine WC.exit ?_
            refine WP.thenExit ?_
            refine WP.thenExit ?_
            refine WP.blkHit ?_
            refine WP.thenC ?_
            refine WC.seq ?_
            obtain rfl : j = (leftN M qs.sum qs qs.length) := by omega
            refine WC.freezeN 1 b42 (datN (incL (downL M qs.sum qs qs.length qs.length) ((ordS M qs).take (leftN M qs.sum qs qs.length))) []) rfl rfl hb42 (fun D41 hX41 h41 => ?_)
            
            refine WC.ofFr [(4, _), (5, _), (8, _)] ⟨rfl, rfl, rfl, trivial⟩ ?_
            refine WC.region ?_
            refine WL.yd (Yd.move rfl) rfl ?_
            refine WL.yd (Yd.assign rfl) rfl ?_
            refine WL.yd (Yd.assign rfl) rfl ?_
            refine WL.nil ?_
            refine WP.thenC ?_
            refine WC.ret ?_
            refine WP.ret2 rfl rfl Try.results10 (RV.tmp rfl) (RV.tmp rfl) (fun w1 hI => ⟨_, D41, rfl, hI.keep, hI.imm, hX41, _, _, rfl, by
              have h9 := natSl h41
              rw [inc_len, downL_len] at h9
              rw [show splitL M qs = (incL (downL M qs.sum qs qs.length qs.length) ((ordS M qs).take (leftN M qs.sum qs qs.length))) by unfold splitL; rw [if_neg (by omega)]; rfl]
              exact h9⟩)
    · refine WHo.so rfl (SO.makeSlice Try.underlying22 Try.sizeOf3 Try.typeInfo3 Try.zeroValue3 rfl rfl rfl (by omega) (by show 8 * ((qs.length : Nat) : Int) ≤ 2 ^ 48; omega)) rfl ?_
      rintro _ _ _ ⟨b45, hb45, rfl, rfl, rfl⟩ -- NEW
      refine ⟨(fun _ hI => hI.drop 99), ?_⟩
      refine WH.one (i := 2) (by kernel_rfl) (WHo.so rfl (SO.makeSlice Try.underlying22 Try.sizeOf3 Try.typeInfo3 Try.zeroValue3 rfl rfl rfl (by omega) (by show 8 * ((qs.length : Nat) : Int) ≤ 2 ^ 48; omega)) rfl ?_)
      rintro _ _ _ ⟨b42, hb42, rfl, rfl, rfl⟩ -- NEW
      refine ⟨(fun _ hI => hI.drop 99), ?_⟩
      refine WH.yd (i := 6) (by kernel_rfl) (fun _ o v c a w _ h => (QuietPanic.then QuietPanic.body) c o.dst v a w h) rfl (Yd.assign rfl) rfl ?_
      refine WH.yd (i := 7) (by kernel_rfl) (fun _ o v c a w _ h => (QuietPanic.then QuietPanic.body) c o.dst v a w h) rfl (Yd.assign rfl) rfl ?_
      refine WH.nil (by kernel_rfl) ?_
      refine WP.thenC ?_
      refine WC.seq ?_
      refine WC.seq ?_
      refine WC.hpEq (hp' := [(b42, .cells (List.toArray ((List.replicate qs.length 0).map nt ++ [])) 3 (0, 0)), (b45, .cells (List.toArray ((List.replicate qs.length (0 : Int)).map it ++ [])) 3 (0, 0))]) (by rw [← zeroN, ← zeroI]) ?_
      refine WC.hpPerm [(b45, .cells (List.toArray ((List.replicate qs.length (0 : Int)).map it ++ [])) 3 (0, 0)), (b42, .cells (List.toArray ((List.replicate qs.length 0).map nt ++ [])) 3 (0, 0))] (List.Perm.swap _ _ _) ?_
      refine WC.ofFr [(9, _), (8, _), (0, _), (1, _), (4, _), (5, _), (6, _)] ⟨rfl, rfl, rfl, rfl, rfl, rfl, rfl, trivial⟩ ?_
      refine WC.region ?_
      refine WL.yd (Yd.move rfl) rfl ?_
      refine WL.yd (Yd.eql rfl rfl) rfl ?_
      refine WL.nil ?_
      refine WP.thenC ?_
      refine WC.cond rfl (fun c47 => ?_) (fun c47 => ?_)
      · try simp only [zq1, zq2, zq3, zq4, zq5, zq6, zq7, zq8] at c47
        refine WC.seq ?_
        refine WC.freezeN 1 b42 (datN (List.replicate qs.length 0) []) rfl rfl hb42 (fun D41 hX41 h41 => ?_)
        
        refine WC.ofFr [(9, _), (8, _), (0, _), (1, _), (4, _), (5, _), (6, _)] ⟨rfl, rfl, rfl, rfl, rfl, rfl, rfl, trivial⟩ ?_
        refine WC.region ?_
        refine WL.yd (Yd.move rfl) rfl ?_
        refine WL.yd (Yd.assign rfl) rfl ?_
        refine WL.yd (Yd.assign rfl) rfl ?_
        refine WL.nil ?_
        refine WP.thenC ?_
        refine WC.ret ?_
        refine WP.thenRet ?_
        refine WP.ret2 rfl rfl Try.results10 (RV.tmp rfl) (RV.tmp rfl) (fun w1 hI => ⟨_, D41, rfl, hI.keep, hI.imm, hX41, _, _, rfl, by
          have h9 := natSl h41
          rw [List.length_replicate] at h9
          rw [show splitL M qs = List.replicate qs.length 0 by unfold splitL; rw [if_pos (by omega)]]
          exact h9⟩)
      · try simp only [zq1, zq2, zq3, zq4, zq5, zq6, zq7, zq8] at c47
        refine WC.skip ?_
        refine WP.thenC ?_
        refine WC.seq ?_
        have hA : 0 < qs.sum := by omega
        refine WC.ofFr [(9, _), (8, _), (0, _), (1, _), (4, _), (5, _), (6, _)] ⟨rfl, rfl, rfl, rfl, rfl, rfl, rfl, trivial⟩ ?_
        refine WC.region ?_
        refine WL.yd (Yd.move rfl) rfl ?_
        refine WL.yd (Yd.assign rfl) rfl ?_
        refine WL.nil ?_
        refine WP.thenC ?_
        refine WC.seq ?_
        refine WC.seq ?_
        refine WC.ofFr [(10, _), (9, _), (8, _), (0, _), (1, _), (4, _), (5, _), (6, _)] ⟨rfl, rfl, rfl, rfl, rfl, rfl, rfl, rfl, trivial⟩ ?_
        refine WC.region ?_
        refine WL.yd (Yd.assign rfl) rfl ?_
        refine WL.nil ?_
        refine WP.thenC ?_
        refine WC.block ?_
        refine WC.loop (fun k : Nat => [(0, nt M), (1, .slice ap qs.length cp), (4, .slice none 0 0), (5, it 0), (6, nt qs.sum), (8, .slice (some ⟨b42, 0, none⟩) qs.length qs.length), (9, .slice (some ⟨b45, 0, none⟩) qs.length qs.length), (10, nt (leftN M qs.sum qs k)), (11, nt k)]) (fun k => [(b45, .cells (List.toArray ((restK M qs.sum qs k qs.length).map it ++ [])) 3 (0, 0)), (b42, .cells (List.toArray ((downL M qs.sum qs k qs.length).map nt ++ [])) 3 (0, 0))]) (fun _ => D) (fun k => k ≤ qs.length) (fun k => qs.length - k) 0 (by omega) (fun a w h => by rw [downL_zero, restK_zero]; exact at_fr h ⟨rfl, rfl, rfl, rfl, rfl, rfl, rfl, rfl, rfl, trivial⟩) ?_
        intro k hk
        refine WC.seq ?_
        refine WC.seq ?_
        refine WC.ofFr [(0, _), (1, _), (4, _), (5, _), (6, _), (8, _), (9, _), (10, _), (11, _)] ⟨rfl, rfl, rfl, rfl, rfl, rfl, rfl, rfl, rfl, trivial⟩ ?_
        refine WC.region ?_
        refine WL.yd (Yd.move rfl) rfl ?_
        refine WL.yd (Yd.move rfl) rfl ?_
        refine WL.yd (Yd.lenS rfl Try.underlying22 rfl) rfl ?_
        refine WL.yd (Yd.lss rfl rfl) rfl ?_
        refine WL.nil ?_
        refine WP.thenC ?_
        refine WC.cond rfl (fun c53 => ?_) (fun c53 => ?_)
        · try simp only [zq1, zq2, zq3, zq4, zq5, zq6, zq7, zq8] at c53
          have hkn : k < qs.length := by omega
          have hpk : 0 ≤ (M : Int) * ((gt qs k : Nat) : Int) ∧ (M : Int) * ((gt qs k : Nat) : Int) ≤ 100000 := by have h1 := (down_num (A := qs.sum) hM hq hkn).1; rw [← Int.natCast_mul]; omega
          have hd1 : sumF (downN M qs.sum qs) (k + 1) ≤ M := down_le rfl hA (by omega)
          have hd2 : downN M qs.sum qs k ≤ leftN M qs.sum qs k := by unfold leftN; unfold sumF at hd1; omega
          have hd3 : leftN M qs.sum qs k ≤ 5000 := by unfold leftN; omega
          refine WC.skip ?_
          refine WP.thenC ?_
          refine WC.seq ?_
          refine WC.block ?_
          refine WC.seq ?_
          refine WC.ofFr [(0, _), (1, _), (4, _), (5, _), (6, _), (8, _), (9, _), (10, _), (11, _)] ⟨rfl, rfl, rfl, rfl, rfl, rfl, rfl, rfl, rfl, trivial⟩ ?_
          refine WC.drawO [] [(0, true), (1, true), (2, true), (3, true), (4, true), (5, true), (6, true), (7, true), (8, true), (9, true), (10, true), (11, true), (12, true), (13, true), (14, true), (15, true), (16, true), (17, true), (18, true), (19, true), (20, true), (21, false), (22, true), (23, false)] (by kernel_rfl) (by kernel_rfl) (QuietPanic.then (QuietPanic.blk (QuietPanic.then (QuietPanic.then (QuietPanic.blk (QuietPanic.then QuietPanic.body)))))) (fun _ hI => hI.drop 99) ?_
          refine WA.yd rfl (Yd.move rfl) rfl ?_
          refine WA.yd rfl (Yd.move rfl) rfl ?_
          refine WA.yd rfl (Yd.move rfl) rfl ?_
          refine WA.yd rfl (Yd.move rfl) rfl ?_
          refine WA.yd rfl (Yd.move rfl) rfl ?_
          refine WA.yd rfl (Yd.move rfl) rfl ?_
          refine WA.yd rfl (Yd.move rfl) rfl ?_
          refine WA.yd rfl (Yd.indexS Try.underlying22 Try.sizeOf3 rfl rfl (by (try dsimp only); omega) (by (try dsimp only); omega) (by first | exact hS.addr k (by omega) | exact rfl)) rfl ?_
          refine WA.yd rfl (Yd.load1 Try.isAgg3 rfl (by first | exact Rd.own (k := 0) rfl rfl | exact Rd.own (k := 1) rfl rfl | exact ((hS.at k (by omega)).rd 0 rfl))) rfl ?_
          refine WA.yd rfl (Yd.mul rfl rfl (wr64 ⟨by omega, by omega⟩)) rfl ?_
          refine WA.yd rfl (Yd.move rfl) rfl ?_
          refine WA.yd rfl (Yd.quoN (i := M * gt qs k) (j := qs.sum) rfl rfl hA (by have := (down_num (A := qs.sum) hM hq hkn).1; omega)) rfl ?_
          refine WA.yd rfl (Yd.move rfl) rfl ?_
          refine WA.yd rfl (Yd.move rfl) rfl ?_
          refine WA.yd rfl (Yd.move rfl) rfl ?_
          refine WA.yd rfl (Yd.indexS Try.underlying22 Try.sizeOf3 rfl rfl (by (try dsimp only); omega) (by (try dsimp only); omega) (by first | exact hS.addr k (by omega) | exact rfl)) rfl ?_
          refine WA.yd rfl (Yd.load1 Try.isAgg3 rfl (by first | exact Rd.own (k := 0) rfl rfl | exact Rd.own (k := 1) rfl rfl | exact ((hS.at k (by omega)).rd 0 rfl))) rfl ?_
          refine WA.yd rfl (Yd.mul rfl rfl (wr64 ⟨by omega, by omega⟩)) rfl ?_
          refine WA.yd rfl (Yd.move rfl) rfl ?_
          refine WA.yd rfl (Yd.remN (i := M * gt qs k) (j := qs.sum) rfl rfl hA) rfl ?_
          refine WA.yd rfl (Yd.indexS Try.underlying22 Try.sizeOf3 rfl rfl (by (try dsimp only); omega) (by (try dsimp only); omega) (by first | exact hS.addr k (by omega) | exact rfl)) rfl ?_
          refine WA.so rfl (SO.store 1 rfl Try.sizeOf3 rfl rfl rfl rfl (len_dataN _ _ (by rw [downL_len]; exact hkn)) (oneB_spec rfl)) rfl ?_
          rintro _ _ _ ⟨rfl, rfl, rfl⟩
          refine ⟨fun _ hI => hI.drop 99, ?_⟩
          refine WA.yd rfl (Yd.indexS Try.underlying22 Try.sizeOf3 rfl rfl (by (try dsimp only); omega) (by (try dsimp only); omega) (by first | exact hS.addr k (by omega) | exact rfl)) rfl ?_
          refine WA.so rfl (SO.store 0 rfl Try.sizeOf3 rfl rfl rfl rfl (len_dataI _ _ (by rw [restK_len]; exact hkn)) (oneB_spec rfl)) rfl ?_
          rintro _ _ _ ⟨rfl, rfl, rfl⟩
          refine ⟨fun _ hI => hI.drop 99, ?_⟩
          refine WA.nil ?_
          refine WP.thenC ?_
          refine WC.hpEq (hp' := [(b45, .cells (List.toArray ((restK M qs.sum qs (k + 1) qs.length).map it ++ [])) 3 (0, 0)), (b42, .cells (List.toArray ((downL M qs.sum qs (k + 1) qs.length).map nt ++ [])) 3 (0, 0))]) (by show ([(b45, .cells (List.toArray (splice ((restK M qs.sum qs k qs.length).map it ++ []) (0 + k * 1) [it (remN M qs.sum qs k : Int)])) 3 (0, 0)), (b42, .cells (List.toArray (splice ((downL M qs.sum qs k qs.length).map nt ++ []) (0 + k * 1) [nt (downN M qs.sum qs k)])) 3 (0, 0))] : Hp) = _; rw [splice_dataN _ _ _ _ (by rw [downL_len]; exact hkn), downL_step, splice_dataI _ _ _ _ (by rw [restK_len]; exact hkn), restK_step]) ?_
          refine WC.ofFr [(0, _), (1, _), (4, _), (5, _), (6, _), (8, _), (9, _), (10, _), (11, _)] ⟨rfl, rfl, rfl, rfl, rfl, rfl, rfl, rfl, rfl, trivial⟩ ?_
          refine WC.region ?_
          refine WL.yd (Yd.move rfl) rfl ?_
          refine WL.yd (Yd.move rfl) rfl ?_
          refine WL.yd (Yd.move rfl) rfl ?_
          refine WL.yd (Yd.indexS Try.underlying22 Try.sizeOf3 rfl rfl (by (try dsimp only); omega) (by (try dsimp only); omega) (by first | exact rfl)) rfl ?_
          refine WL.yd (Yd.load1 Try.isAgg3 rfl (by first | exact Rd.own (k := 0) rfl rfl | exact Rd.own (k := 1) rfl rfl | exact (rd_dataN (k := 1) rfl (by rw [downL_len]; exact hkn)))) rfl ?_
          refine WL.know 82 (nt (downN M qs.sum qs k)) rfl (by show nt (gt (downL M qs.sum qs (k + 1) qs.length) k) = _; rw [downL_at _ _ _ hkn, if_pos (by omega)]) ?_
          refine WL.yd (Yd.subN rfl rfl (by (try dsimp only); omega) (by (try dsimp only); omega)) rfl ?_
          refine WL.yd (Yd.assign rfl) rfl ?_
          refine WL.nil ?_
          refine WP.blkNormal ?_
          refine WP.thenC ?_
          refine WC.ofFr [(10, _), (0, _), (1, _), (4, _), (5, _), (6, _), (8, _), (9, _), (11, _)] ⟨rfl, rfl, rfl, rfl, rfl, rfl, rfl, rfl, rfl, trivial⟩ ?_
          refine WC.region ?_
          refine WL.yd (Yd.move rfl) rfl ?_
          refine WL.yd (Yd.addN rfl rfl (by (try dsimp only); omega)) rfl ?_
          refine WL.yd (Yd.assign rfl) rfl ?_
          refine WL.nil ?_
          exact WP.again (k + 1) (by omega) (by omega) (fun a w h => at_fr h ⟨rfl, rfl, rfl, rfl, rfl, rfl, rfl, by rw [left_step]; rfl, rfl, trivial⟩)
        · try simp only [zq1, zq2, zq3, zq4, zq5, zq6, zq7, zq8] at c53
          obtain rfl : k = qs.length := by omega
          have hlt := left_lt (M := M) (A := qs.sum) rfl hA
          rw [restK_end]
          refine WC.exit ?_
          refine WP.thenExit ?_
          refine WP.thenExit ?_
          refine WP.blkHit ?_
          refine WP.thenC ?_
          refine WC.seq ?_
          refine WC.block ?_
          refine WC.loop (fun j : Nat => [(1, .slice ap qs.length cp), (4, .slice none 0 0), (5, it 0), (8, .slice (some ⟨b42, 0, none⟩) qs.length qs.length), (9, .slice (some ⟨b45, 0, none⟩) qs.length qs.length), (10, nt ((leftN M qs.sum qs qs.length) - j))]) (fun j => [(b45, .cells (List.toArray ((restL M qs j qs.length).map it ++ [])) 3 (0, 0)), (b42, .cells (List.toArray (((incL (downL M qs.sum qs qs.length qs.length) ((ordS M qs).take j))).map nt ++ [])) 3 (0, 0))]) (fun _ => D) (fun j => j ≤ (leftN M qs.sum qs qs.length)) (fun j => (leftN M qs.sum qs qs.length) - j) 0 (by omega) (fun a w h => at_fr h ⟨rfl, rfl, rfl, rfl, rfl, rfl, trivial⟩) ?_
          intro j hj
          refine WC.seq ?_
          refine WC.seq ?_
          refine WC.ofFr [(1, _), (4, _), (5, _), (8, _), (9, _), (10, _)] ⟨rfl, rfl, rfl, rfl, rfl, rfl, trivial⟩ ?_
          refine WC.region ?_
          refine WL.yd (Yd.move rfl) rfl ?_
          refine WL.yd (Yd.gtr rfl rfl) rfl ?_
          refine WL.nil ?_
          refine WP.thenC ?_
          refine WC.cond rfl (fun c85 => ?_) (fun c85 => ?_)
          · try simp only [zq1, zq2, zq3, zq4, zq5, zq6, zq7, zq8] at c85
            have hjl : j < (leftN M qs.sum qs qs.length) := by omega
            have hib := fun (i : Nat) (hi : i < qs.length) => inc_bound (l := (downL M qs.sum qs qs.length qs.length)) (c := 100000) (fun i hi => by rw [downL_len] at hi; rw [downL_at _ _ _ hi]; split; exact (down_num hM hq hi).2; omega) (ordS M qs) (fun i hi => by rw [ordS_len] at hi; rw [downL_len]; exact ordS_lt hi) j (by rw [ordS_len]; omega) i (by rw [downL_len]; exact hi)
            have hib1 := hib (gt (ordS M qs) j) (ordS_lt (by omega))
            refine WC.skip ?_
            refine WP.thenC ?_
            refine WC.block ?_
            refine WC.seq ?_
            refine WC.ofFr [(1, _), (4, _), (5, _), (8, _), (9, _), (10, _)] ⟨rfl, rfl, rfl, rfl, rfl, rfl, trivial⟩ ?_
            refine WC.region ?_
            refine WL.yd (Yd.assign rfl) rfl ?_
            refine WL.nil ?_
            refine WP.thenC ?_
            refine WC.seq ?_
            refine WC.seq ?_
            refine WC.ofFr [(12, _), (1, _), (4, _), (5, _), (8, _), (9, _), (10, _)] ⟨rfl, rfl, rfl, rfl, rfl, rfl, rfl, trivial⟩ ?_
            refine WC.region ?_
            refine WL.yd (Yd.assign rfl) rfl ?_
            refine WL.nil ?_
            refine WP.thenC ?_
            refine WC.block ?_
            refine WC.loopF (fun i : Nat => [(1, .slice ap qs.length cp), (4, .slice none 0 0), (5, it 0), (8, .slice (some ⟨b42, 0, none⟩) qs.length qs.length), (9, .slice (some ⟨b45, 0, none⟩) qs.length qs.length), (10, nt ((leftN M qs.sum qs qs.length) - j)), (12, nt (bestJ (restF M qs j) i)), (13, nt i)]) (fun i => i ≤ qs.length) (fun i => qs.length - i) 0 (by omega) ⟨rfl, rfl, rfl, rfl, rfl, rfl, rfl, rfl, trivial⟩ ?_
            intro i hi
            refine WC.seq ?_
            refine WC.seq ?_
            refine WC.ofFr [(1, _), (4, _), (5, _), (8, _), (9, _), (10, _), (12, _), (13, _)] ⟨rfl, rfl, rfl, rfl, rfl, rfl, rfl, rfl, trivial⟩ ?_
            refine WC.region ?_
            refine WL.yd (Yd.move rfl) rfl ?_
            refine WL.yd (Yd.move rfl) rfl ?_
            refine WL.yd (Yd.lenS rfl Try.underlying22 rfl) rfl ?_
            refine WL.yd (Yd.lss rfl rfl) rfl ?_
            refine WL.nil ?_
            refine WP.thenC ?_
            refine WC.cond rfl (fun c89 => ?_) (fun c89 => ?_)
            · try simp only [zq1, zq2, zq3, zq4, zq5, zq6, zq7, zq8] at c89
              have hin : i < qs.length := by omega
              have hbb : bestJ (restF M qs j) i < qs.length := bestJ_lt _ hin
              refine WC.skip ?_
              refine WP.thenC ?_
              refine WC.seq ?_
              refine WC.block ?_
              refine WC.seq ?_
              refine WC.ofFr [(1, _), (4, _), (5, _), (8, _), (9, _), (10, _), (12, _), (13, _)] ⟨rfl, rfl, rfl, rfl, rfl, rfl, rfl, rfl, trivial⟩ ?_
              refine WC.tail 8 [0, 1, 2, 3, 4, 5, 6, 7] rfl (by kernel_rfl) (by kernel_rfl)  ?_
              refine WQ.q rfl (Yd.qt (Yd.move rfl)) rfl ?_
              refine WQ.q rfl (Yd.qt (Yd.move rfl)) rfl ?_
              refine WQ.q rfl (Yd.qt (Yd.indexS Try.underlying22 Try.sizeOf3 rfl rfl (by (try dsimp only); omega) (by (try dsimp only); omega) (by first | exact rfl))) rfl ?_
              refine WQ.q rfl (Yd.qt (Yd.load1 Try.isAgg3 rfl (by first | exact Rd.own (k := 0) rfl rfl | exact Rd.own (k := 1) rfl rfl | exact (rd_dataI (k := 0) rfl (by rw [restL_len]; omega))))) rfl ?_
              refine WQ.q rfl (Yd.qt (Yd.move rfl)) rfl ?_
              refine WQ.q rfl (Yd.qt (Yd.move rfl)) rfl ?_
              refine WQ.q rfl (Yd.qt (Yd.indexS Try.underlying22 Try.sizeOf3 rfl rfl (by (try dsimp only); omega) (by (try dsimp only); omega) (by first | exact rfl))) rfl ?_
              refine WQ.q rfl (Yd.qt (Yd.load1 Try.isAgg3 rfl (by first | exact Rd.own (k := 0) rfl rfl | exact Rd.own (k := 1) rfl rfl | exact (rd_dataI (k := 0) rfl (by rw [restL_len]; omega))))) rfl ?_
              refine WQ.tail ?_
              refine WL.know 95 (it (restF M qs j i)) rfl (by show it (gt (restL M qs j qs.length) i) = _; rw [restL_at hin]) ?_
              refine WL.know 99 (it (restF M qs j (bestJ (restF M qs j) i))) rfl (by show it (gt (restL M qs j qs.length) (bestJ (restF M qs j) i)) = _; rw [restL_at (by omega)]) ?_
              refine WL.yd (Yd.gtr rfl rfl) rfl ?_
              refine WL.nil ?_
              refine WP.thenC ?_
              refine WC.cond rfl (fun c100 => ?_) (fun c100 => ?_)
              · try simp only [zq1, zq2, zq3, zq4, zq5, zq6, zq7, zq8] at c100
                refine WC.ofFr [(1, _), (4, _), (5, _), (8, _), (9, _), (10, _), (12, _), (13, _)] ⟨rfl, rfl, rfl, rfl, rfl, rfl, rfl, rfl, trivial⟩ ?_
                refine WC.region ?_
                refine WL.yd (Yd.move rfl) rfl ?_
                refine WL.yd (Yd.assign rfl) rfl ?_
                refine WL.nil ?_
                refine WP.blkNormal ?_
                refine WP.thenC ?_
                refine WC.ofFr [(12, _), (1, _), (4, _), (5, _), (8, _), (9, _), (10, _), (13, _)] ⟨rfl, rfl, rfl, rfl, rfl, rfl, rfl, rfl, trivial⟩ ?_
                refine WC.region ?_
                refine WL.yd (Yd.move rfl) rfl ?_
                refine WL.yd (Yd.addN rfl rfl (by (try dsimp only); omega)) rfl ?_
                refine WL.yd (Yd.assign rfl) rfl ?_
                refine WL.nil ?_
                exact WP.againF (i + 1) (by omega) (by omega) ⟨rfl, rfl, rfl, rfl, rfl, rfl, by first | (rw [show bestJ (restF M qs j) (i + 1) = i by simp only [bestJ]; rw [if_pos c100]]; rfl) | (rw [show bestJ (restF M qs j) (i + 1) = bestJ (restF M qs j) i by simp only [bestJ]; rw [if_neg (Int.not_lt.2 c100)]]; rfl), rfl, trivial⟩ (fun _ h => h) (fun h => h)
              · try simp only [zq1, zq2, zq3, zq4, zq5, zq6, zq7, zq8] at c100
                refine WC.skip ?_
                refine WP.blkNormal ?_
                refine WP.thenC ?_
                refine WC.ofFr [(1, _), (4, _), (5, _), (8, _), (9, _), (10, _), (12, _), (13, _)] ⟨rfl, rfl, rfl, rfl, rfl, rfl, rfl, rfl, trivial⟩ ?_
                refine WC.region ?_
                refine WL.yd (Yd.move rfl) rfl ?_
                refine WL.yd (Yd.addN rfl rfl (by (try dsimp only); omega)) rfl ?_
                refine WL.yd (Yd.assign rfl) rfl ?_
                refine WL.nil ?_
                exact WP.againF (i + 1) (by omega) (by omega) ⟨rfl, rfl, rfl, rfl, rfl, rfl, by first | (rw [show bestJ (restF M qs j) (i + 1) = i by simp only [bestJ]; rw [if_pos c100]]; rfl) | (rw [show bestJ (restF M qs j) (i + 1) = bestJ (restF M qs j) i by simp only [bestJ]; rw [if_neg (Int.not_lt.2 c100)]]; rfl), rfl, trivial⟩ (fun _ h => h) (fun h => h)
            · try simp only [zq1, zq2, zq3, zq4, zq5, zq6, zq7, zq8] at c89
              refine WC.exit ?_
              refine WP.thenExit ?_
              refine WP.thenExit ?_
              refine WP.blkHit ?_
              refine WP.thenC ?_
              refine WC.seq ?_
              obtain rfl : i = qs.length := by omega
              have hoi : gt (ordS M qs) j < qs.length := ordS_lt (by omega)
              refine WC.ofFr [(1, _), (4, _), (5, _), (8, _), (9, _), (10, _), (12, _)] ⟨rfl, rfl, rfl, rfl, rfl, rfl, rfl, trivial⟩ ?_
              refine WC.region ?_
              refine WL.yd (Yd.move rfl) rfl ?_
              refine WL.yd (Yd.move rfl) rfl ?_
              refine WL.know 103 (nt (gt (ordS M qs) j)) rfl (by rw [best_ord (by omega)]) ?_
              refine WL.yd (Yd.move rfl) rfl ?_
              refine WL.yd (Yd.move rfl) rfl ?_
              refine WL.know 105 (nt (gt (ordS M qs) j)) rfl (by rw [best_ord (by omega)]) ?_
              refine WL.yd (Yd.move rfl) rfl ?_
              refine WL.yd (Yd.move rfl) rfl ?_
              refine WL.know 107 (nt (gt (ordS M qs) j)) rfl (by rw [best_ord (by omega)]) ?_
              refine WL.yd (Yd.indexS Try.underlying22 Try.sizeOf3 rfl rfl (by (try dsimp only); omega) (by (try dsimp only); omega) (by first | exact rfl)) rfl ?_
              refine WL.yd (Yd.load1 Try.isAgg3 rfl (by first | exact Rd.own (k := 0) rfl rfl | exact Rd.own (k := 1) rfl rfl | exact (rd_dataN (k := 1) rfl (by rw [inc_len, downL_len]; exact hoi)))) rfl ?_
              refine WL.know 109 (nt (gt (incL (downL M qs.sum qs qs.length qs.length) ((ordS M qs).take j)) (gt (ordS M qs) j))) rfl rfl ?_
              refine WL.yd (Yd.addN rfl rfl (by (try dsimp only); omega)) rfl ?_
              refine WL.yd (Yd.indexS Try.underlying22 Try.sizeOf3 rfl rfl (by (try dsimp only); omega) (by (try dsimp only); omega) (by first | exact rfl)) rfl ?_
              refine WL.so (SO.store 1 rfl Try.sizeOf3 rfl rfl rfl rfl (len_dataN _ _ (by rw [inc_len, downL_len]; exact hoi)) (oneB_spec rfl)) rfl ?_
              rintro _ _ _ ⟨rfl, rfl, rfl⟩
              refine WL.yd (Yd.indexS Try.underlying22 Try.sizeOf3 rfl rfl (by (try dsimp only); omega) (by (try dsimp only); omega) (by first | exact rfl)) rfl ?_
              refine WL.so (SO.store 0 rfl Try.sizeOf3 rfl rfl rfl rfl (len_dataI _ _ (by rw [restL_len]; exact hoi)) (oneB_spec rfl)) rfl ?_
              rintro _ _ _ ⟨rfl, rfl, rfl⟩
              refine WL.nil ?_
              refine WP.thenC ?_
              refine WC.hpEq (hp' := [(b45, .cells (List.toArray ((restL M qs (j + 1) qs.length).map it ++ [])) 3 (0, 0)), (b42, .cells (List.toArray (((incL (downL M qs.sum qs qs.length qs.length) ((ordS M qs).take (j + 1)))).map nt ++ [])) 3 (0, 0))]) (by show ([(b45, .cells (List.toArray (splice ((restL M qs j qs.length).map it ++ []) (0 + gt (ordS M qs) j * 1) [it (-1)])) 3 (0, 0)), (b42, .cells (List.toArray (splice ((incL (downL M qs.sum qs qs.length qs.length) ((ordS M qs).take j)).map nt ++ []) (0 + gt (ordS M qs) j * 1) [nt (gt (incL (downL M qs.sum qs qs.length qs.length) ((ordS M qs).take j)) (gt (ordS M qs) j) + 1)])) 3 (0, 0))] : Hp) = _; rw [splice_dataN _ _ _ _ (by rw [inc_len, downL_len]; exact hoi), ← inc_take (by rw [ordS_len]; omega), splice_dataI _ _ _ _ (by rw [restL_len]; exact hoi), restL_step (by omega)]) ?_
              refine WC.ofFr [(1, _), (4, _), (5, _), (8, _), (9, _), (10, _)] ⟨rfl, rfl, rfl, rfl, rfl, rfl, trivial⟩ ?_
              refine WC.region ?_
              refine WL.yd (Yd.move rfl) rfl ?_
              refine WL.yd (Yd.subN rfl rfl (by (try dsimp only); omega) (by (try dsimp only); omega)) rfl ?_
              refine WL.yd (Yd.assign rfl) rfl ?_
              refine WL.nil ?_
              refine WP.blkNormal ?_
              exact WP.again (j + 1) (by omega) (by omega) (fun a w h => at_fr h ⟨rfl, rfl, rfl, rfl, rfl, rfl, trivial⟩)
          · try simp only [zq1, zq2, zq3, zq4, zq5, zq6, zq7, zq8] at c85
            refine WC.exit ?_
            refine WP.thenExit ?_
            refine WP.thenExit ?_
            refine WP.blkHit ?_
            refine WP.thenC ?_
            refine WC.seq ?_
            obtain rfl : j = (leftN M qs.sum qs qs.length) := by omega
            refine WC.freezeN 1 b42 (datN (incL (downL M qs.sum qs qs.length qs.length) ((ordS M qs).take (leftN M qs.sum qs qs.length))) []) rfl rfl hb42 (fun D41 hX41 h41 => ?_)
            
            refine WC.ofFr [(4, _), (5, _), (8, _)] ⟨rfl, rfl, rfl, trivial⟩ ?_
            refine WC.region ?_
            refine WL.yd (Yd.move rfl) rfl ?_
            refine WL.yd (Yd.assign rfl) rfl ?_
            refine WL.yd (Yd.assign rfl) rfl ?_
            refine WL.nil ?_
            refine WP.thenC ?_
            refine WC.ret ?_
            refine WP.ret2 rfl rfl Try.results10 (RV.tmp rfl) (RV.tmp rfl) (fun w1 hI => ⟨_, D41, rfl, hI.keep, hI.imm, hX41, _, _, rfl, by
              have h9 := natSl h41
              rw [inc_len, downL_len] at h9
              rw [show splitL M qs = (incL (downL M qs.sum qs qs.length qs.length) ((ordS M qs).take (leftN M qs.sum qs qs.length))) by unfold splitL; rw [if_neg (by omega)]; rfl]
              exact h9⟩)

end Go.Proofs.Ytpnbkdlejfmbeaa
/- Whole numbers that came in. -/
namespace Go.Proofs.Ytpnbkdlejfmbeaa
open Go.W Go.Ti Go.ChangeShapes Go.WideShapes Go.RowKit Go.Deep
section
variable {H : Type} {enc : TypeId × Value → H} {w : World} {spare : Nat → Bool} {held : Bool}
set_option maxRecDepth 100000 in
theorem open_ints {v : Value} {d : DataW H} {p : List MemPlace} (hv : Value.okWide Try.prog w .any 0 22 v) (h : DataW.Trod enc Try.prog w 0 spare held 22 v d p) :
    ∃ (l : List Int) (a : Option Addr) (n c : Nat), v = .slice a n c ∧ SlL (heapI w) 1 (l.map intC) a n ∧ n ≤ maxLen := by
  obtain ⟨fuel, hf⟩ := h
  obtain ⟨l, a, n, c, e, m, s⟩ := open_sl (m := 1) intC Try.underlying22 (by kernel_rfl) (by decide) (fun _ cs' y h _ => by
    obtain ⟨b, hb, _, _⟩ := DataW.trod_int Try.underlying3 h
    exact ⟨b, hb⟩) hf
  obtain ⟨_, _, _, rfl⟩ := okWide_slice Try.underlying22 hv
  simp only [Value.cells, List.cons.injEq, and_true] at e
  exact ⟨l, a, n, c, e, s, m⟩
end
end Go.Proofs.Ytpnbkdlejfmbeaa
