import Derived.Test.YtkhmmefgllbobaaXQ
import Derived.Test.YtkhmmefgllbobaaXO
set_option linter.unusedSimpArgs false
set_option linter.unusedVariables false
set_option linter.all false
namespace Go.Proofs.Ytkhmmefgllbobaa
open Go.W Go.Po

theorem shr_zero {a n : Nat} (ha : a < 2 ^ n) (hn : n ≤ 5) : ((a : Nat) : Int).fdiv (2 ^ (min ((n : Nat) : Int).toNat IntKind.i64.bits)) = 0 := by
  have e : min ((n : Nat) : Int).toNat IntKind.i64.bits = n := by
    show min n 64 = n; omega
  have h2 : (2 : Int) ^ n = ((2 ^ n : Nat) : Int) := by rw [Int.natCast_pow]; rfl
  rw [e, h2, Int.fdiv_eq_ediv_of_nonneg _ (by omega)]
  exact Int.ediv_eq_zero_of_lt (by omega) (by omega)
theorem brk_of {p : Post} {x : Nat → Int} {k : Nat} {u v : Int} (hu : u = x (k + 2)) (hv : v = x 1) {b : Bool} (h : (decide (u < v) != (gt p.bathers k).lady) = b) : decide (Brk p x k) = b := by
  subst hu; subst hv; rw [← h]; unfold Brk
  by_cases h1 : x (k + 2) < x 1 <;> by_cases h2 : (gt p.bathers k).lady = true <;> simp [h1, h2]
theorem kept_brS2 {p : Post} (hv : postB p = true) {x : Nat → Int} (hx : Sol p (allR p) x) (h : keptG p = 2) : brS p x = 0 := by
  have h1 := (kept_two hv (sol_ok hv hx)).1 h
  have h2 := le_hi (brk_mem hv hx)
  exact (pop_zero _ (brS_32 hv x)).1 (by omega)
theorem kept_brS0 {p : Post} (hv : postB p = true) {x : Nat → Int} (hx : Sol p (allR p) x) (h : keptG p = 0) : ¬ brS p x = 0 := by
  have h1 := (kept_zero hv (sol_ok hv hx)).1 h
  have h2 := lo_le (brk_mem hv hx)
  intro e
  rw [e] at h2
  have : pop 0 = 0 := rfl
  omega
theorem brS_nat (p : Post) (x : Nat → Int) (h : ((brS p x : Nat) : Int) = 0) : brS p x = 0 := by omega
theorem bef_two {p : Post} (hv : postB p = true) (hok : okA p = true) {a b : Int} (ha : whoP p a = true) (hb : whoP p b = true) {x : Nat → Int} (hx : Sol p (allR p) x) (h : gradeI (decide (0 < GA p (ix a) (ix b))) (decide (-GA p (ix b) (ix a) ≤ 0)) = 2) : x (ix a) < x (ix b) := by
  have h1 := of_decide_eq_false ((grade_two _ _).1 h)
  exact Classical.byContradiction fun hn => h1 ((before_not hv hok ha hb).2 ⟨x, hx, hn⟩)
theorem bef_zero {p : Post} (hv : postB p = true) (hok : okA p = true) {a b : Int} (ha : whoP p a = true) (hb : whoP p b = true) {x : Nat → Int} (hx : Sol p (allR p) x) (h : gradeI (decide (0 < GA p (ix a) (ix b))) (decide (-GA p (ix b) (ix a) ≤ 0)) = 0) : ¬ x (ix a) < x (ix b) := by
  have h1 := of_decide_eq_false ((grade_zero _ _).1 h).2
  exact fun hn => h1 ((before_some hv hok ha hb).2 ⟨x, hx, hn⟩)
theorem near_at {p : Post} (hv : postB p = true) (hok : okA p = true) {a b : Int} (ha : whoP p a = true) (hb : whoP p b = true) {x : Nat → Int} (hx : Sol p (allR p) x) : (nearS (-GA p (ix b) (ix a)) (GA p (ix a) (ix b))).lo ≤ max (x (ix b) - x (ix a)) (-(x (ix b) - x (ix a))) ∧ max (x (ix b) - x (ix a)) (-(x (ix b) - x (ix a))) ≤ (nearS (-GA p (ix b) (ix a)) (GA p (ix a) (ix b))).hi := by
  have h1 := (gap_in hv hok ha hb _).2 ⟨x, hx, rfl⟩
  exact (near_in (by omega) _).2 ⟨_, h1.1, h1.2, rfl⟩
theorem sol_num {p : Post} (hv : postB p = true) {x : Nat → Int} (hx : Sol p (allR p) x) {a : Int} (ha : whoP p a = true) : 0 ≤ x (ix a) ∧ x (ix a) ≤ 40 := by
  have hi := (ix_who ha).1
  have h1 := hx.place _ hi
  have h2 := place_num hv hi
  omega

set_option maxRecDepth 100000 in
set_option maxHeartbeats 1000000 in
theorem true_g (by_ : List Int) (a0 : Option Addr) (n0 c0 : Nat) (D : Imm) (w : World) (hS : SlL D 1 (by_.map u16C) a0 n0) (hn : ∀ i, i < by_.length → 0 ≤ gt by_ i ∧ gt by_ i ≤ 65535) (hH : Holds D w) : Gives Try.prog 6 [.slice a0 n0 c0] w (.bool true) := by
  unfold Gives
  refine enter Try.func6 rfl 283 Try.ntmps6 (Nat.le_of_ble_eq_true rfl) (Inv.start hH) ?_
  refine WC.seq ?_
  refine WC.ofFr [(0, _)] ⟨rfl, trivial⟩ ?_
  refine WC.region ?_
  refine WL.yd (Yd.assign rfl) rfl ?_
  refine WL.nil ?_
  refine WP.thenC ?_
  refine WC.seq ?_
  refine WC.ofFr [(2, _), (0, _)] ⟨rfl, rfl, trivial⟩ ?_
  refine WC.region ?_
  refine WL.yd (Yd.move rfl) rfl ?_
  refine WL.so (SO.news (Enters.func Try.call34 rfl) (fun w hI => draws_g by_ a0 n0 c0 _ w hS hn hI.imm)) rfl ?_
  rintro _ D1 _ ⟨_, hX1, ⟨bc, bb, rfl, hB, rfl⟩, rfl⟩
  refine WL.yd (Yd.assign rfl) rfl ?_
  refine WL.nil ?_
  refine WP.thenC ?_
  refine WC.seq ?_
  refine WC.ofFr [(3, _), (2, _)] ⟨rfl, rfl, trivial⟩ ?_
  refine WC.region ?_
  refine WL.yd (Yd.move rfl) rfl ?_
  refine WL.so (SO.altersN (own := []) (hpc := [(bc, cntO 0)]) (S1 := [bc]) (fun _ h => h) (fun h => h) (fun _ h => h) (fun _ h => h) (Enters.func Try.call35 rfl) (fun w hI => made_g by_ bc bb 0 D1 w hB (by omega) hI)) rfl ?_
  rintro _ D2 _ ⟨_, hX2, ⟨a1, c1, a2, c2, a3, c3, rfl, hR, hS3, rfl⟩, rfl⟩
  have hv := made_ok by_ 0
  have hx := made_sol by_ 0
  have hal := atsM_len by_ 0 (nB by_ 0)
  have hats : ∀ b, whoP (madeP by_ 0) b = true → gt (atsM by_ 0 (nB by_ 0)) (b + 1).toNat = xM by_ 0 (ix b) := fun b hb => (xM_ix by_ 0 (of_decide_eq_true hb).1).symm
  generalize madeP by_ 0 = p at hv hx hats hR ⊢
  generalize xM by_ 0 = x at hx hats
  generalize atsM by_ 0 (nB by_ 0) = ats at hal hats hS3
  generalize nB by_ 0 = n1 at hal hS3 hR ⊢
  generalize nC by_ 0 = n2 at hR ⊢
  obtain rfl := hR.bath.len'
  obtain rfl := hR.claim.len'
  have hok := sol_ok hv hx
  have hl1 := hR.len1
  have hl2 := hR.len2
  have h5 := (post_num hv).2.1
  refine WL.yd (Yd.move rfl) rfl ?_
  refine WL.yd (Yd.extract rfl rfl) rfl ?_
  refine WL.yd (Yd.extract rfl rfl) rfl ?_
  refine WL.so (SO.alloc Try.zeroValue27 rfl) rfl ?_
  rintro _ _ _ ⟨b4, hb4, rfl, rfl, rfl⟩ -- NEW
  refine WL.so (SO.store 0 rfl Try.sizeOf27 rfl rfl rfl rfl (Nat.le_of_ble_eq_true rfl) (oneB_spec rfl)) rfl ?_
  rintro _ _ _ ⟨rfl, rfl, rfl⟩
  refine WL.yd (Yd.assign rfl) rfl ?_
  refine WL.nil ?_
  refine WP.thenC ?_
  refine WC.seq ?_
  refine WC.ofFr [(5, _), (4, _), (2, _)] ⟨rfl, rfl, rfl, trivial⟩ ?_
  refine WC.region ?_
  refine WL.yd (Yd.loadN Try.isAgg27 Try.sizeOf27 rfl (vs := [_, _, _, _]) rfl (by first | exact RdN.own (k := 0) (n := 4) rfl rfl | exact (hR.bath.at k (by omega)).rdn 0 3 rfl)) rfl ?_
  refine WL.so (SO.callP Try.call27 rfl (fun w hI => Gives.cv (.tuple #[it 0, it 0, it 0]) (False_g p a1 _ c1 a2 _ c2 _ w hR hI.imm) (by rw [false_zero hv hx]))) rfl ?_
  rintro _ _ _ ⟨rfl, rfl, rfl⟩
  refine WL.yd (Yd.move rfl) rfl ?_
  refine WL.yd (Yd.extract rfl rfl) rfl ?_
  refine WL.yd (Yd.extract rfl rfl) rfl ?_
  refine WL.yd (Yd.extract rfl rfl) rfl ?_
  refine WL.yd (Yd.assign rfl) rfl ?_
  refine WL.yd (Yd.assign rfl) rfl ?_
  refine WL.yd (Yd.assign rfl) rfl ?_
  refine WL.nil ?_
  refine WP.thenC ?_
  refine WC.seq ?_
  refine WC.ofFr [(8, _), (7, _), (6, _), (5, _), (4, _), (2, _)] ⟨rfl, rfl, rfl, rfl, rfl, rfl, trivial⟩ ?_
  refine WC.region ?_
  refine WL.yd (Yd.loadN Try.isAgg27 Try.sizeOf27 rfl (vs := [_, _, _, _]) rfl (by first | exact RdN.own (k := 0) (n := 4) rfl rfl | exact (hR.bath.at k (by omega)).rdn 0 3 rfl)) rfl ?_
  refine WL.so (SO.callP Try.call29 rfl (fun w hI => Gives.cv (.tuple #[it 0, it 4]) (Clash_g p a1 _ c1 a2 _ c2 _ w hR hI.imm) (by rw [clash_four hv hx]))) rfl ?_
  rintro _ _ _ ⟨rfl, rfl, rfl⟩
  refine WL.yd (Yd.move rfl) rfl ?_
  refine WL.yd (Yd.extract rfl rfl) rfl ?_
  refine WL.yd (Yd.extract rfl rfl) rfl ?_
  refine WL.yd (Yd.assign rfl) rfl ?_
  refine WL.yd (Yd.assign rfl) rfl ?_
  refine WL.nil ?_
  refine WP.thenC ?_
  refine WC.seq ?_
  refine WC.seq ?_
  refine WC.ofFr [(10, _), (8, _), (7, _), (6, _), (5, _), (4, _), (2, _)] ⟨rfl, rfl, rfl, rfl, rfl, rfl, rfl, trivial⟩ ?_
  refine WC.region ?_
  refine WL.yd (Yd.move rfl) rfl ?_
  refine WL.yd (Yd.neq rfl rfl) rfl ?_
  refine WL.know 50 (.bool false) rfl (congrArg Value.bool (decide_eq_false (by simp))) ?_
  refine WL.yd (Yd.move rfl) rfl ?_
  refine WL.ydg rfl (Yd.move rfl) rfl ?_
  refine WL.ydg rfl (Yd.neq rfl rfl) rfl ?_
  refine WL.know 53 (.bool false) rfl (congrArg Value.bool (decide_eq_false (by simp))) ?_
  refine WL.yd (Yd.pickF rfl rfl) rfl ?_
  refine WL.yd (Yd.move rfl) rfl ?_
  refine WL.ydg rfl (Yd.move rfl) rfl ?_
  refine WL.ydg rfl (Yd.neq rfl rfl) rfl ?_
  refine WL.know 57 (.bool false) rfl (congrArg Value.bool (decide_eq_false (by simp))) ?_
  refine WL.yd (Yd.pickF rfl rfl) rfl ?_
  refine WL.yd (Yd.move rfl) rfl ?_
  refine WL.ydg rfl (Yd.move rfl) rfl ?_
  refine WL.ydg rfl (Yd.neq rfl rfl) rfl ?_
  refine WL.know 61 (.bool false) rfl (congrArg Value.bool (decide_eq_false (by simp))) ?_
  refine WL.yd (Yd.pickF rfl rfl) rfl ?_
  refine WL.nil ?_
  refine WP.thenC ?_
  refine WC.condF rfl ?_
  refine WC.skip ?_
  refine WP.thenC ?_
  refine WC.seq ?_
  refine WC.ofFr [(5, _), (4, _), (2, _)] ⟨rfl, rfl, rfl, trivial⟩ ?_
  refine WC.region ?_
  refine WL.yd (Yd.loadN Try.isAgg27 Try.sizeOf27 rfl (vs := [_, _, _, _]) rfl (by first | exact RdN.own (k := 0) (n := 4) rfl rfl | exact (hR.bath.at k (by omega)).rdn 0 3 rfl)) rfl ?_
  refine WL.so (SO.callP Try.call21 rfl (fun w hI => Gives.cv (.tuple #[nt (allS p), nt (someS p), it 0]) (Breaks_g p a1 _ c1 a2 _ c2 _ w hR hI.imm) (by rw [breaks_out hv hok]))) rfl ?_
  rintro _ _ _ ⟨rfl, rfl, rfl⟩
  refine WL.yd (Yd.move rfl) rfl ?_
  refine WL.yd (Yd.extract rfl rfl) rfl ?_
  refine WL.yd (Yd.extract rfl rfl) rfl ?_
  refine WL.yd (Yd.extract rfl rfl) rfl ?_
  refine WL.yd (Yd.assign rfl) rfl ?_
  refine WL.yd (Yd.assign rfl) rfl ?_
  refine WL.yd (Yd.assign rfl) rfl ?_
  refine WL.nil ?_
  refine WP.thenC ?_
  refine WC.seq ?_
  refine WC.ofFr [(13, _), (12, _), (11, _), (5, _), (4, _), (2, _)] ⟨rfl, rfl, rfl, rfl, rfl, rfl, trivial⟩ ?_
  refine WC.region ?_
  refine WL.yd (Yd.loadN Try.isAgg27 Try.sizeOf27 rfl (vs := [_, _, _, _]) rfl (by first | exact RdN.own (k := 0) (n := 4) rfl rfl | exact (hR.bath.at k (by omega)).rdn 0 3 rfl)) rfl ?_
  refine WL.so (SO.callP Try.call23 rfl (fun w hI => Gives.cv (.tuple #[it (keptG p), it 0]) (Kept_g p a1 _ c1 a2 _ c2 _ w hR hI.imm) (by rw [kept_out hv hok]))) rfl ?_
  rintro _ _ _ ⟨rfl, rfl, rfl⟩
  refine WL.yd (Yd.move rfl) rfl ?_
  refine WL.yd (Yd.extract rfl rfl) rfl ?_
  refine WL.yd (Yd.extract rfl rfl) rfl ?_
  refine WL.yd (Yd.assign rfl) rfl ?_
  refine WL.yd (Yd.assign rfl) rfl ?_
  refine WL.nil ?_
  refine WP.thenC ?_
  refine WC.seq ?_
  refine WC.ofFr [(15, _), (14, _), (13, _), (12, _), (11, _), (5, _), (4, _), (2, _)] ⟨rfl, rfl, rfl, rfl, rfl, rfl, rfl, rfl, trivial⟩ ?_
  refine WC.region ?_
  refine WL.yd (Yd.loadN Try.isAgg27 Try.sizeOf27 rfl (vs := [_, _, _, _]) rfl (by first | exact RdN.own (k := 0) (n := 4) rfl rfl | exact (hR.bath.at k (by omega)).rdn 0 3 rfl)) rfl ?_
  refine WL.so (SO.callP Try.call25 rfl (fun w hI => Gives.cv (.tuple #[.agg #[it (loF p), it (hiF p)], it 0]) (Fewest_g p a1 _ c1 a2 _ c2 _ w hR hI.imm) (by rw [few_out hv hok]))) rfl ?_
  rintro _ _ _ ⟨rfl, rfl, rfl⟩
  refine WL.yd (Yd.move rfl) rfl ?_
  refine WL.yd (Yd.extract rfl rfl) rfl ?_
  refine WL.yd (Yd.extract rfl rfl) rfl ?_
  refine WL.so (SO.alloc Try.zeroValue23 rfl) rfl ?_
  rintro _ _ _ ⟨b16, hb16, rfl, rfl, rfl⟩ -- NEW
  refine WL.so (SO.store 0 rfl Try.sizeOf23 rfl rfl rfl rfl (Nat.le_of_ble_eq_true rfl) (oneB_spec rfl)) rfl ?_
  rintro _ _ _ ⟨rfl, rfl, rfl⟩
  refine WL.yd (Yd.assign rfl) rfl ?_
  refine WL.nil ?_
  refine WP.thenC ?_
  refine WC.seq ?_
  refine WC.seq ?_
  refine WC.ofFr [(17, _), (16, _), (15, _), (14, _), (13, _), (12, _), (11, _), (5, _), (4, _), (2, _)] ⟨rfl, rfl, rfl, rfl, rfl, rfl, rfl, rfl, rfl, rfl, trivial⟩ ?_
  refine WC.region ?_
  refine WL.yd (Yd.move rfl) rfl ?_
  refine WL.yd (Yd.neq rfl rfl) rfl ?_
  refine WL.know 80 (.bool false) rfl (congrArg Value.bool (decide_eq_false (by simp))) ?_
  refine WL.yd (Yd.move rfl) rfl ?_
  refine WL.ydg rfl (Yd.move rfl) rfl ?_
  refine WL.ydg rfl (Yd.neq rfl rfl) rfl ?_
  refine WL.know 83 (.bool false) rfl (congrArg Value.bool (decide_eq_false (by simp))) ?_
  refine WL.yd (Yd.pickF rfl rfl) rfl ?_
  refine WL.yd (Yd.move rfl) rfl ?_
  refine WL.ydg rfl (Yd.move rfl) rfl ?_
  refine WL.ydg rfl (Yd.neq rfl rfl) rfl ?_
  refine WL.know 87 (.bool false) rfl (congrArg Value.bool (decide_eq_false (by simp))) ?_
  refine WL.yd (Yd.pickF rfl rfl) rfl ?_
  refine WL.yd (Yd.move rfl) rfl ?_
  refine WL.ydg rfl (Yd.move rfl) rfl ?_
  refine WL.ydg rfl (Yd.move rfl) rfl ?_
  refine WL.ydg rfl (Yd.andNotI (all_some hv hx) rfl rfl) rfl ?_
  refine WL.ydg rfl (Yd.neq rfl rfl) rfl ?_
  refine WL.know 93 (.bool false) rfl (congrArg Value.bool (decide_eq_false (by simp))) ?_
  refine WL.yd (Yd.pickF rfl rfl) rfl ?_
  refine WL.yd (Yd.move rfl) rfl ?_
  refine WL.ydg rfl (Yd.move rfl) rfl ?_
  refine WL.ydg rfl (Yd.fieldAddr FA27_1 rfl) rfl ?_
  refine WL.ydg rfl (Yd.load1 Try.isAgg24 rfl (by first | exact Rd.own (k := 0) rfl rfl | exact Rd.own (k := 1) rfl rfl)) rfl ?_
  refine WL.ydg rfl (Yd.lenS rfl Try.underlying24 rfl) rfl ?_
  refine WL.ydg rfl (Yd.shr rfl rfl (by omega)) rfl ?_
  refine WL.ydg rfl (Yd.neq rfl rfl) rfl ?_
  refine WL.know 101 (.bool false) rfl (congrArg Value.bool (decide_eq_false (by rw [shr_zero (someS_lt p) h5]; simp))) ?_
  refine WL.yd (Yd.pickF rfl rfl) rfl ?_
  refine WL.nil ?_
  refine WP.thenC ?_
  refine WC.condF rfl ?_
  refine WC.skip ?_
  refine WP.thenC ?_
  refine WC.seq ?_
  refine WC.ofFr [(16, _), (14, _), (12, _), (11, _), (5, _), (4, _), (2, _)] ⟨rfl, rfl, rfl, rfl, rfl, rfl, rfl, trivial⟩ ?_
  refine WC.region ?_
  refine WL.yd (Yd.assign rfl) rfl ?_
  refine WL.nil ?_
  refine WP.thenC ?_
  refine WC.seq ?_
  refine WC.seq ?_
  refine WC.ofFr [(18, _), (16, _), (14, _), (12, _), (11, _), (5, _), (4, _), (2, _)] ⟨rfl, rfl, rfl, rfl, rfl, rfl, rfl, rfl, trivial⟩ ?_
  refine WC.region ?_
  refine WL.yd (Yd.fieldAddr FA27_1 rfl) rfl ?_
  refine WL.yd (Yd.load1 Try.isAgg24 rfl (by first | exact Rd.own (k := 0) rfl rfl | exact Rd.own (k := 1) rfl rfl)) rfl ?_
  refine WL.yd (Yd.lenS rfl Try.underlying24 rfl) rfl ?_
  refine WL.yd (Yd.move rfl) rfl ?_
  refine WL.nil ?_
  refine WP.thenC ?_
  refine WC.block ?_
  refine WC.loopF (fun k : Nat => [(4, pt b4), (5, .slice a3 (p.bathers.length + 1) c3), (11, nt (allS p)), (12, nt (someS p)), (14, it (keptG p)), (16, pt b16), (18, nt (setTo (fun i => decide (Brk p x i)) k)), (104, .slice a1 p.bathers.length c1), (105, nt p.bathers.length), (106, nt k)]) (fun k => k ≤ p.bathers.length) (fun k => p.bathers.length - k) 0 (by omega) (by exact ⟨rfl, rfl, rfl, rfl, rfl, rfl, rfl, rfl, rfl, rfl, trivial⟩) ?_
  intro k hk
  refine WC.seq ?_
  refine WC.ofFr [(4, _), (5, _), (11, _), (12, _), (14, _), (16, _), (18, _), (104, _), (105, _), (106, _)] ⟨rfl, rfl, rfl, rfl, rfl, rfl, rfl, rfl, rfl, rfl, trivial⟩ ?_
  refine WC.region ?_
  refine WL.yd (Yd.lss rfl rfl) rfl ?_
  refine WL.nil ?_
  refine WP.thenC ?_
  refine WC.seq ?_
  refine WC.cond rfl (fun c107 => ?_) (fun c107 => ?_)
  · try simp only [zq1, zq2, zq3, zq4, zq5, zq6, zq7, zq8] at c107
    have hlb := setTo_lt (fun i => decide (Brk p x i)) k
    have hpw : 2 ^ k ≤ 2 ^ 4 := Nat.pow_le_pow_right (by omega) (by omega)
    have hxk : gt ats (k + 1) = x (k + 2) := hats (k : Int) (decide_eq_true ⟨by omega, by omega⟩)
    have hx0 : gt ats 0 = x 1 := by
      have h0 := hats (-1) (decide_eq_true ⟨by omega, by omega⟩)
      exact h0
    refine WC.skip ?_
    refine WP.thenC ?_
    refine WC.seq ?_
    refine WC.block ?_
    refine WC.seq ?_
    refine WC.ofFr [(4, _), (5, _), (11, _), (12, _), (14, _), (16, _), (18, _), (104, _), (105, _), (106, _)] ⟨rfl, rfl, rfl, rfl, rfl, rfl, rfl, rfl, rfl, rfl, trivial⟩ ?_
    refine WC.region ?_
    refine WL.yd (Yd.move rfl) rfl ?_
    refine WL.yd (Yd.indexS Try.underlying24 Try.sizeOf56 rfl rfl (by omega) (by omega) (by first | exact hR.bath.addr k (by omega))) rfl ?_
    refine WL.yd (Yd.loadN Try.isAgg56 Try.sizeOf56 rfl (vs := [_, _, _]) rfl (by first | exact RdN.own (k := 0) (n := 3) rfl rfl | exact RdN.own (k := 1) (n := 3) rfl rfl | exact (hR.bath.at k (by omega)).rdn 0 3 rfl)) rfl ?_
    refine WL.so (SO.alloc Try.zeroValue56 rfl) rfl ?_
    rintro _ _ _ ⟨b20, hb20, rfl, rfl, rfl⟩ -- NEW
    refine WL.yd (Yd.assign rfl) rfl ?_
    refine WL.so (SO.store 0 rfl Try.sizeOf56 rfl rfl rfl rfl (Nat.le_of_ble_eq_true rfl) (oneB_spec rfl)) rfl ?_
    rintro _ _ _ ⟨rfl, rfl, rfl⟩
    refine WL.nil ?_
    refine WP.thenC ?_
    refine WC.seq ?_
    refine WC.ofFr [(19, _), (20, _), (4, _), (5, _), (11, _), (12, _), (14, _), (16, _), (18, _), (104, _), (105, _), (106, _)] ⟨rfl, rfl, rfl, rfl, rfl, rfl, rfl, rfl, rfl, rfl, rfl, rfl, trivial⟩ ?_
    refine WC.tail 11 [0, 1, 2, 3, 4, 5, 6, 7, 8, 9, 10] rfl (by kernel_rfl) (by kernel_rfl)  ?_
    refine WQ.q rfl (Yd.qt (Yd.move rfl)) rfl ?_
    refine WQ.q rfl (Yd.qt (Yd.move rfl)) rfl ?_
    refine WQ.q rfl (Yd.qt (Yd.addN (j := 1) rfl rfl (by omega))) rfl ?_
    refine WQ.q rfl (Yd.qt (Yd.indexS Try.underlying52 Try.sizeOf3 rfl rfl (by omega) (by omega) (by first | exact hS3.addr (k + 1) (by omega)))) rfl ?_
    refine WQ.q rfl (Yd.qt (Yd.load1 Try.isAgg3 rfl (by first | exact Rd.own (k := 0) rfl rfl | exact Rd.own (k := 1) rfl rfl | exact Rd.own (k := 2) rfl rfl | exact ((hS3.at (k + 1) (by omega)).rd 0 rfl) | exact ((hS3.at 0 (by omega)).rd 0 rfl)))) rfl ?_
    refine WQ.q rfl (Yd.qt (Yd.move rfl)) rfl ?_
    refine WQ.q rfl (Yd.qt (Yd.indexS Try.underlying52 Try.sizeOf3 rfl rfl (by omega) (by omega) (by first | exact hS3.addr (k + 1) (by omega)))) rfl ?_
    refine WQ.q rfl (Yd.qt (Yd.load1 Try.isAgg3 rfl (by first | exact Rd.own (k := 0) rfl rfl | exact Rd.own (k := 1) rfl rfl | exact Rd.own (k := 2) rfl rfl | exact ((hS3.at (k + 1) (by omega)).rd 0 rfl) | exact ((hS3.at 0 (by omega)).rd 0 rfl)))) rfl ?_
    refine WQ.q rfl (Yd.qt (Yd.lss rfl rfl)) rfl ?_
    refine WQ.q rfl (Yd.qt (Yd.fieldAddr FA56_0 rfl)) rfl ?_
    refine WQ.q rfl (Yd.qt (Yd.load1 Try.isAgg4 rfl (by first | exact Rd.own (k := 0) rfl rfl | exact Rd.own (k := 1) rfl rfl | exact Rd.own (k := 2) rfl rfl | exact ((hS3.at (k + 1) (by omega)).rd 0 rfl) | exact ((hS3.at 0 (by omega)).rd 0 rfl)))) rfl ?_
    refine WQ.tail ?_
    refine WL.yd (Yd.neB Try.underlying4 rfl rfl) rfl ?_
    refine WL.nil ?_
    refine WP.thenC ?_
    refine WC.cond rfl (fun c122 => ?_) (fun c122 => ?_)
    · try simp only [zq1, zq2, zq3, zq4, zq5, zq6, zq7, zq8] at c122
      have hbk := brk_of hxk hx0 c122
      refine WC.ofFr [(19, _), (4, _), (5, _), (11, _), (12, _), (14, _), (16, _), (18, _), (104, _), (105, _), (106, _)] ⟨rfl, rfl, rfl, rfl, rfl, rfl, rfl, rfl, rfl, rfl, rfl, trivial⟩ ?_
      refine WC.region ?_
      refine WL.yd (Yd.move rfl) rfl ?_
      refine WL.yd (Yd.move rfl) rfl ?_
      refine WL.yd (Yd.shl rfl rfl (by omega) (shlN_w k (by omega))) rfl ?_
      refine WL.yd (Yd.orN (a := (setTo (fun i => decide (Brk p x i)) k)) (b := 2 ^ k) (by omega) (by omega) rfl rfl) rfl ?_
      refine WL.yd (Yd.assign rfl) rfl ?_
      refine WL.nil ?_
      refine WP.blkNormal ?_
      refine WP.thenC ?_
      refine WC.ofFr [(18, _), (4, _), (5, _), (11, _), (12, _), (14, _), (16, _), (104, _), (105, _), (106, _)] ⟨rfl, rfl, rfl, rfl, rfl, rfl, rfl, rfl, rfl, rfl, trivial⟩ ?_
      refine WC.region ?_
      refine WL.yd (Yd.add rfl rfl (wr64 ⟨by omega, by omega⟩)) rfl ?_
      refine WL.yd (Yd.move rfl) rfl ?_
      refine WL.nil ?_
      first
        | (have e1 := setTo_yes (f := fun i => decide (Brk p x i)) hbk
           have e2 := or_pow hlb
           refine WP.againF (k + 1) (by omega) (by omega) ?_ (fun _ h => .tail _ h) (fun h => (List.nodup_cons.1 h).2)
           rw [e1, ← e2]
           exact ⟨rfl, rfl, rfl, rfl, rfl, rfl, rfl, rfl, rfl, rfl, trivial⟩)
        | (have e1 := setTo_no (f := fun i => decide (Brk p x i)) hbk
           refine WP.againF (k + 1) (by omega) (by omega) ?_ (fun _ h => .tail _ h) (fun h => (List.nodup_cons.1 h).2)
           rw [e1]
           exact ⟨rfl, rfl, rfl, rfl, rfl, rfl, rfl, rfl, rfl, rfl, trivial⟩)
    · try simp only [zq1, zq2, zq3, zq4, zq5, zq6, zq7, zq8] at c122
      have hbk := brk_of hxk hx0 c122
      refine WC.skip ?_
      refine WP.blkNormal ?_
      refine WP.thenC ?_
      refine WC.ofFr [(4, _), (5, _), (11, _), (12, _), (14, _), (16, _), (18, _), (104, _), (105, _), (106, _)] ⟨rfl, rfl, rfl, rfl, rfl, rfl, rfl, rfl, rfl, rfl, trivial⟩ ?_
      refine WC.region ?_
      refine WL.yd (Yd.add rfl rfl (wr64 ⟨by omega, by omega⟩)) rfl ?_
      refine WL.yd (Yd.move rfl) rfl ?_
      refine WL.nil ?_
      first
        | (have e1 := setTo_yes (f := fun i => decide (Brk p x i)) hbk
           have e2 := or_pow hlb
           refine WP.againF (k + 1) (by omega) (by omega) ?_ (fun _ h => .tail _ h) (fun h => (List.nodup_cons.1 h).2)
           rw [e1, ← e2]
           exact ⟨rfl, rfl, rfl, rfl, rfl, rfl, rfl, rfl, rfl, rfl, trivial⟩)
        | (have e1 := setTo_no (f := fun i => decide (Brk p x i)) hbk
           refine WP.againF (k + 1) (by omega) (by omega) ?_ (fun _ h => .tail _ h) (fun h => (List.nodup_cons.1 h).2)
           rw [e1]
           exact ⟨rfl, rfl, rfl, rfl, rfl, rfl, rfl, rfl, rfl, rfl, trivial⟩)
  · try simp only [zq1, zq2, zq3, zq4, zq5, zq6, zq7, zq8] at c107
    refine WC.exit ?_
    refine WP.thenExit ?_
    refine WP.thenExit ?_
    refine WP.blkHit ?_
    refine WP.thenC ?_
    refine WC.seq ?_
    obtain rfl : k = p.bathers.length := by omega
    refine WC.know 18 (nt (brS p x)) rfl rfl ?_
    refine WC.ofFr [(4, _), (5, _), (11, _), (12, _), (14, _), (16, _), (18, _)] ⟨rfl, rfl, rfl, rfl, rfl, rfl, rfl, trivial⟩ ?_
    refine WC.region ?_
    refine WL.yd (Yd.assign rfl) rfl ?_
    refine WL.nil ?_
    refine WP.thenC ?_
    refine WC.seq ?_
    refine WC.seqJ (fun _ : Unit => [(4, pt b4), (5, .slice a3 (p.bathers.length + 1) c3), (193, .bool false)]) (fun _ => [(b16, .cells (List.toArray [it (loF p), it (hiF p)]) 23 (0, 0)), (b4, .cells (List.toArray [it p.post.lo, it p.post.hi, .slice a1 p.bathers.length c1, .slice a2 p.claims.length c2]) 27 (0, 0)), (bc, cntO (madeN by_ 0))]) (fun _ => D2) (fun _ => True) ?_ ?_
    · rintro _ _
      refine WC.condF rfl ?_
      refine WC.skip ?_
      refine WP.thenC ?_
      refine WC.seq ?_
      refine WC.seq ?_
      refine WC.ofFr [(4, _), (5, _)] ⟨rfl, rfl, trivial⟩ ?_
      refine WC.region ?_
      refine WL.yd (Yd.assign rfl) rfl ?_
      refine WL.nil ?_
      refine WP.thenC ?_
      refine WC.block ?_
      refine WC.loopF (fun a : Int => [(4, pt b4), (5, .slice a3 (p.bathers.length + 1) c3), (22, it a)]) (fun a => -1 ≤ a ∧ a ≤ p.bathers.length) (fun a => (p.bathers.length - a).toNat) (-1) ⟨by omega, by omega⟩ (by exact ⟨rfl, rfl, rfl, trivial⟩) ?_
      rintro a ⟨ha1, ha2⟩
      refine WC.seq ?_
      refine WC.seq ?_
      refine WC.ofFr [(4, _), (5, _), (22, _)] ⟨rfl, rfl, rfl, trivial⟩ ?_
      refine WC.region ?_
      refine WL.yd (Yd.move rfl) rfl ?_
      refine WL.yd (Yd.fieldAddr FA27_1 rfl) rfl ?_
      refine WL.yd (Yd.load1 Try.isAgg24 rfl (by first | exact Rd.own (k := 0) rfl rfl | exact Rd.own (k := 1) rfl rfl | exact Rd.own (k := 2) rfl rfl)) rfl ?_
      refine WL.yd (Yd.lenS rfl Try.underlying24 rfl) rfl ?_
      refine WL.yd (Yd.lss rfl rfl) rfl ?_
      refine WL.nil ?_
      refine WP.thenC ?_
      refine WC.cond rfl (fun c198 => ?_) (fun c198 => ?_)
      · try simp only [zq1, zq2, zq3, zq4, zq5, zq6, zq7, zq8] at c198
        have hwa : whoP p a = true := decide_eq_true ⟨by omega, by omega⟩
        have hna := sol_num hv hx hwa
        have hea := hats a hwa
        have hpl : -GA p (ix a) 0 ≤ gt ats (a + 1).toNat ∧ gt ats (a + 1).toNat ≤ GA p 0 (ix a) := (place_in hv hok hwa _).2 ⟨x, hx, hea.symm⟩
        refine WC.skip ?_
        refine WP.thenC ?_
        refine WC.seq ?_
        refine WC.block ?_
        refine WC.seq ?_
        refine WC.ofFr [(4, _), (5, _), (22, _)] ⟨rfl, rfl, rfl, trivial⟩ ?_
        refine WC.region ?_
        refine WL.yd (Yd.loadN Try.isAgg27 Try.sizeOf27 rfl (vs := [_, _, _, _]) rfl (by first | exact RdN.own (k := 0) (n := 4) rfl rfl | exact RdN.own (k := 1) (n := 4) rfl rfl | exact RdN.own (k := 2) (n := 4) rfl rfl | exact (hR.bath.at k (by omega)).rdn 0 3 rfl)) rfl ?_
        refine WL.yd (Yd.move rfl) rfl ?_
        refine WL.so (SO.callP Try.call15 rfl (fun w hI => Gives.cv (.tuple #[.agg #[it (-GA p (ix a) 0), it (GA p 0 (ix a))], it 0]) (Place_g p a1 _ c1 a2 _ c2 _ w hR hI.imm a) (by rw [place_out hv hok hwa]))) rfl ?_
        rintro _ _ _ ⟨rfl, rfl, rfl⟩
        refine WL.yd (Yd.move rfl) rfl ?_
        refine WL.yd (Yd.extract rfl rfl) rfl ?_
        refine WL.yd (Yd.extract rfl rfl) rfl ?_
        refine WL.so (SO.alloc Try.zeroValue23 rfl) rfl ?_
        rintro _ _ _ ⟨b23, hb23, rfl, rfl, rfl⟩ -- NEW
        refine WL.so (SO.store 0 rfl Try.sizeOf23 rfl rfl rfl rfl (Nat.le_of_ble_eq_true rfl) (oneB_spec rfl)) rfl ?_
        rintro _ _ _ ⟨rfl, rfl, rfl⟩
        refine WL.yd (Yd.assign rfl) rfl ?_
        refine WL.nil ?_
        refine WP.thenC ?_
        refine WC.seq ?_
        refine WC.seq ?_
        refine WC.ofFr [(24, _), (23, _), (4, _), (5, _), (22, _)] ⟨rfl, rfl, rfl, rfl, rfl, trivial⟩ ?_
        refine WC.tail 9 [0, 1, 2, 3, 4, 5, 6, 7, 8] rfl (by kernel_rfl) (by kernel_rfl)  ?_
        refine WQ.q rfl (Yd.qt (Yd.move rfl)) rfl ?_
        refine WQ.q rfl (Yd.qt (Yd.neq rfl rfl)) rfl ?_
        refine WQ.know 208 (.bool false) rfl (congrArg Value.bool (decide_eq_false (by simp))) ?_
        refine WQ.q rfl (Yd.qt (Yd.move rfl)) rfl ?_
        refine WQ.qg rfl rfl (Yd.qt (Yd.move rfl)) rfl ?_
        refine WQ.qg rfl rfl (Yd.qt (Yd.move rfl)) rfl ?_
        refine WQ.qg rfl rfl (Yd.qt (Yd.add rfl rfl (wr64 ⟨by omega, by omega⟩))) rfl ?_
        refine WQ.qg rfl rfl (Yd.qt (Yd.indexS Try.underlying52 Try.sizeOf3 rfl rfl (by omega) (by omega) (by first | exact hS3.addr (a + 1).toNat (by omega)))) rfl ?_
        refine WQ.qg rfl rfl (Yd.qt (Yd.load1 Try.isAgg3 rfl (by first | exact Rd.own (k := 0) rfl rfl | exact Rd.own (k := 1) rfl rfl | exact Rd.own (k := 2) rfl rfl | exact Rd.own (k := 3) rfl rfl | exact ((hS3.at (a + 1).toNat (by omega)).rd 0 rfl)))) rfl ?_
        refine WQ.qg rfl rfl (Yd.qt (Yd.loadN Try.isAgg23 Try.sizeOf23 rfl (vs := [_, _]) rfl (by first | exact RdN.own (k := 0) (n := 2) rfl rfl | exact RdN.own (k := 1) (n := 2) rfl rfl | exact RdN.own (k := 2) (n := 2) rfl rfl | exact RdN.own (k := 3) (n := 2) rfl rfl | exact (hR.bath.at k (by omega)).rdn 0 3 rfl))) rfl ?_
        refine WQ.tail ?_
        refine WL.sog rfl (SO.callP Try.call37 rfl (fun w hI => inside_g _ _ _ _)) rfl ?_
        rintro _ _ _ ⟨rfl, rfl, rfl⟩
        refine WL.know 216 (.bool true) rfl (congrArg Value.bool (and_t (decide_eq_true hpl.1) (decide_eq_true hpl.2))) ?_
        refine WL.ydg rfl (Yd.not rfl) rfl ?_
        refine WL.yd (Yd.pickF rfl rfl) rfl ?_
        refine WL.nil ?_
        refine WP.thenC ?_
        refine WC.condF rfl ?_
        refine WC.skip ?_
        refine WP.thenC ?_
        refine WC.seq ?_
        refine WC.ofFr [(4, _), (5, _), (22, _)] ⟨rfl, rfl, rfl, trivial⟩ ?_
        refine WC.region ?_
        refine WL.yd (Yd.assign rfl) rfl ?_
        refine WL.nil ?_
        refine WP.thenC ?_
        refine WC.block ?_
        refine WC.loopF (fun b : Int => [(4, pt b4), (5, .slice a3 (p.bathers.length + 1) c3), (22, it a), (25, it b)]) (fun b => -1 ≤ b ∧ b ≤ p.bathers.length) (fun b => (p.bathers.length - b).toNat) (-1) ⟨by omega, by omega⟩ (by exact ⟨rfl, rfl, rfl, rfl, trivial⟩) ?_
        rintro b ⟨hb1, hb2⟩
        refine WC.seq ?_
        refine WC.seq ?_
        refine WC.ofFr [(4, _), (5, _), (22, _), (25, _)] ⟨rfl, rfl, rfl, rfl, trivial⟩ ?_
        refine WC.region ?_
        refine WL.yd (Yd.move rfl) rfl ?_
        refine WL.yd (Yd.fieldAddr FA27_1 rfl) rfl ?_
        refine WL.yd (Yd.load1 Try.isAgg24 rfl (by first | exact Rd.own (k := 0) rfl rfl | exact Rd.own (k := 1) rfl rfl | exact Rd.own (k := 2) rfl rfl | exact Rd.own (k := 3) rfl rfl)) rfl ?_
        refine WL.yd (Yd.lenS rfl Try.underlying24 rfl) rfl ?_
        refine WL.yd (Yd.lss rfl rfl) rfl ?_
        refine WL.nil ?_
        refine WP.thenC ?_
        refine WC.cond rfl (fun c223 => ?_) (fun c223 => ?_)
        · try simp only [zq1, zq2, zq3, zq4, zq5, zq6, zq7, zq8] at c223
          have hwb : whoP p b = true := decide_eq_true ⟨by omega, by omega⟩
          have hnb := sol_num hv hx hwb
          have heb := hats b hwb
          have hnr := near_at hv hok hwa hwb hx
          rw [← hea, ← heb] at hnr
          refine WC.skip ?_
          refine WP.thenC ?_
          refine WC.seq ?_
          refine WC.block ?_
          refine WC.seq ?_
          refine WC.ofFr [(4, _), (5, _), (22, _), (25, _)] ⟨rfl, rfl, rfl, rfl, trivial⟩ ?_
          refine WC.region ?_
          refine WL.yd (Yd.loadN Try.isAgg27 Try.sizeOf27 rfl (vs := [_, _, _, _]) rfl (by first | exact RdN.own (k := 0) (n := 4) rfl rfl | exact RdN.own (k := 1) (n := 4) rfl rfl | exact RdN.own (k := 2) (n := 4) rfl rfl | exact RdN.own (k := 3) (n := 4) rfl rfl | exact (hR.bath.at k (by omega)).rdn 0 3 rfl)) rfl ?_
          refine WL.yd (Yd.move rfl) rfl ?_
          refine WL.yd (Yd.move rfl) rfl ?_
          refine WL.so (SO.callP Try.call17 rfl (fun w hI => Gives.cv (.tuple #[it (gradeI (decide (0 < GA p (ix a) (ix b))) (decide (-GA p (ix b) (ix a) ≤ 0))), it 0]) (Before_g p a1 _ c1 a2 _ c2 _ w hR hI.imm a b) (by rw [before_out hv hok hwa hwb]))) rfl ?_
          rintro _ _ _ ⟨rfl, rfl, rfl⟩
          refine WL.yd (Yd.move rfl) rfl ?_
          refine WL.yd (Yd.extract rfl rfl) rfl ?_
          refine WL.yd (Yd.extract rfl rfl) rfl ?_
          refine WL.yd (Yd.assign rfl) rfl ?_
          refine WL.yd (Yd.assign rfl) rfl ?_
          refine WL.nil ?_
          refine WP.thenC ?_
          refine WC.seq ?_
          refine WC.ofFr [(27, _), (26, _), (4, _), (5, _), (22, _), (25, _)] ⟨rfl, rfl, rfl, rfl, rfl, rfl, trivial⟩ ?_
          refine WC.region ?_
          refine WL.yd (Yd.loadN Try.isAgg27 Try.sizeOf27 rfl (vs := [_, _, _, _]) rfl (by first | exact RdN.own (k := 0) (n := 4) rfl rfl | exact RdN.own (k := 1) (n := 4) rfl rfl | exact RdN.own (k := 2) (n := 4) rfl rfl | exact RdN.own (k := 3) (n := 4) rfl rfl | exact (hR.bath.at k (by omega)).rdn 0 3 rfl)) rfl ?_
          refine WL.yd (Yd.move rfl) rfl ?_
          refine WL.yd (Yd.move rfl) rfl ?_
          refine WL.so (SO.callP Try.call19 rfl (fun w hI => Gives.cv (.tuple #[.agg #[it (nearS (-GA p (ix b) (ix a)) (GA p (ix a) (ix b))).lo, it (nearS (-GA p (ix b) (ix a)) (GA p (ix a) (ix b))).hi], it 0]) (Near_g p a1 _ c1 a2 _ c2 _ w hR hI.imm a b) (by rw [near_out hv hok hwa hwb]))) rfl ?_
          rintro _ _ _ ⟨rfl, rfl, rfl⟩
          refine WL.yd (Yd.move rfl) rfl ?_
          refine WL.yd (Yd.extract rfl rfl) rfl ?_
          refine WL.yd (Yd.extract rfl rfl) rfl ?_
          refine WL.so (SO.alloc Try.zeroValue23 rfl) rfl ?_
          rintro _ _ _ ⟨b28, hb28, rfl, rfl, rfl⟩ -- NEW
          refine WL.so (SO.store 0 rfl Try.sizeOf23 rfl rfl rfl rfl (Nat.le_of_ble_eq_true rfl) (oneB_spec rfl)) rfl ?_
          rintro _ _ _ ⟨rfl, rfl, rfl⟩
          refine WL.yd (Yd.assign rfl) rfl ?_
          refine WL.nil ?_
          refine WP.thenC ?_
          refine WC.seq ?_
          refine WC.ofFr [(29, _), (28, _), (27, _), (26, _), (4, _), (5, _), (22, _), (25, _)] ⟨rfl, rfl, rfl, rfl, rfl, rfl, rfl, rfl, trivial⟩ ?_
          refine WC.tail 10 [0, 1, 2, 3, 4, 5, 6, 7, 8, 9] rfl (by kernel_rfl) (by kernel_rfl)  ?_
          refine WQ.q rfl (Yd.qt (Yd.move rfl)) rfl ?_
          refine WQ.q rfl (Yd.qt (Yd.move rfl)) rfl ?_
          refine WQ.q rfl (Yd.qt (Yd.add rfl rfl (wr64 ⟨by omega, by omega⟩))) rfl ?_
          refine WQ.q rfl (Yd.qt (Yd.indexS Try.underlying52 Try.sizeOf3 rfl rfl (by omega) (by omega) (by first | exact hS3.addr (b + 1).toNat (by omega)))) rfl ?_
          refine WQ.q rfl (Yd.qt (Yd.load1 Try.isAgg3 rfl ((hS3.at (b + 1).toNat (by omega)).rd 0 rfl))) rfl ?_
          refine WQ.q rfl (Yd.qt (Yd.move rfl)) rfl ?_
          refine WQ.q rfl (Yd.qt (Yd.move rfl)) rfl ?_
          refine WQ.q rfl (Yd.qt (Yd.add rfl rfl (wr64 ⟨by omega, by omega⟩))) rfl ?_
          refine WQ.q rfl (Yd.qt (Yd.indexS Try.underlying52 Try.sizeOf3 rfl rfl (by omega) (by omega) (by first | exact hS3.addr (b + 1).toNat (by omega)))) rfl ?_
          refine WQ.q rfl (Yd.qt (Yd.load1 Try.isAgg3 rfl ((hS3.at (a + 1).toNat (by omega)).rd 0 rfl))) rfl ?_
          refine WQ.tail ?_
          refine WL.yd (Yd.sub rfl rfl (wr64 ⟨by omega, by omega⟩)) rfl ?_
          refine WL.yd (Yd.assign rfl) rfl ?_
          refine WL.nil ?_
          refine WP.thenC ?_
          refine WC.seqJ (fun _ : Unit => [(4, pt b4), (5, .slice a3 (p.bathers.length + 1) c3), (22, it a), (25, it b), (281, .bool false)]) (fun _ => [(b28, .cells (List.toArray [it (nearS (-GA p (ix b) (ix a)) (GA p (ix a) (ix b))).lo, it (nearS (-GA p (ix b) (ix a)) (GA p (ix a) (ix b))).hi]) 23 (0, 0)), (b23, .cells (List.toArray [it (-GA p (ix a) 0), it (GA p 0 (ix a))]) 23 (0, 0)), (b16, .cells (List.toArray [it (loF p), it (hiF p)]) 23 (0, 0)), (b4, .cells (List.toArray [it p.post.lo, it p.post.hi, .slice a1 p.bathers.length c1, .slice a2 p.claims.length c2]) 27 (0, 0)), (bc, cntO (madeN by_ 0))]) (fun _ => D2) (fun _ => True) ?_ ?_
          · rintro _ _
            refine WC.condF rfl ?_
            refine WC.skip ?_
            refine WP.blkNormal ?_
            refine WP.thenC ?_
            refine WC.ofFr [(4, _), (5, _), (22, _), (25, _)] ⟨rfl, rfl, rfl, rfl, trivial⟩ ?_
            refine WC.region ?_
            refine WL.yd (Yd.move rfl) rfl ?_
            refine WL.yd (Yd.add rfl rfl (wr64 ⟨by omega, by omega⟩)) rfl ?_
            refine WL.yd (Yd.assign rfl) rfl ?_
            refine WL.nil ?_
            exact WP.againF (b + 1) ⟨by omega, by omega⟩ (by omega) ⟨rfl, rfl, rfl, rfl, trivial⟩ (fun _ h => .tail _ h) (fun h => (List.nodup_cons.1 h).2)
          · skip
            refine WC.ofFr [(30, _), (29, _), (28, _), (27, _), (26, _), (4, _), (5, _), (22, _), (25, _)] ⟨rfl, rfl, rfl, rfl, rfl, rfl, rfl, rfl, rfl, trivial⟩ ?_
            refine WC.region ?_
            refine WL.yd (Yd.move rfl) rfl ?_
            refine WL.yd (Yd.neq rfl rfl) rfl ?_
            refine WL.know 252 (.bool false) rfl (congrArg Value.bool (decide_eq_false (by simp))) ?_
            refine WL.yd (Yd.move rfl) rfl ?_
            refine WL.ydg rfl (Yd.move rfl) rfl ?_
            refine WL.ydg rfl (Yd.neq rfl rfl) rfl ?_
            refine WL.know 255 (.bool false) rfl (congrArg Value.bool (decide_eq_false (by simp))) ?_
            refine WL.yd (Yd.pickF rfl rfl) rfl ?_
            refine WL.yd (Yd.move rfl) rfl ?_
            refine WL.ydg rfl (Yd.move rfl) rfl ?_
            refine WL.ydg rfl (Yd.eql rfl rfl) rfl ?_
            refine WL.ydg rfl (Yd.move rfl) rfl ?_
            refine WL.part 260 rfl (fun g260 => ?_) (fun g260 => ?_)
            · try simp only [zq1, zq2, zq3, zq4, zq5, zq6, zq7, zq8] at g260
              refine WL.ydg rfl (Yd.move rfl) rfl ?_
              refine WL.ydg rfl (Yd.leq rfl rfl) rfl ?_
              refine WL.know 262 (.bool false) rfl (congrArg Value.bool (decide_eq_false (by have := bef_two hv hok hwa hwb hx g260; omega))) ?_
              refine WL.ydg rfl (Yd.pickT rfl rfl) rfl ?_
              refine WL.yd (Yd.pickF rfl rfl) rfl ?_
              refine WL.yd (Yd.move rfl) rfl ?_
              refine WL.ydg rfl (Yd.move rfl) rfl ?_
              refine WL.ydg rfl (Yd.eql rfl rfl) rfl ?_
              refine WL.ydg rfl (Yd.move rfl) rfl ?_
              refine WL.part 268 rfl (fun g268 => ?_) (fun g268 => ?_)
              · try simp only [zq1, zq2, zq3, zq4, zq5, zq6, zq7, zq8] at g268
                refine WL.ydg rfl (Yd.move rfl) rfl ?_
                refine WL.ydg rfl (Yd.gtr rfl rfl) rfl ?_
                refine WL.know 270 (.bool false) rfl (congrArg Value.bool (decide_eq_false (by have := bef_zero hv hok hwa hwb hx g268; omega))) ?_
                refine WL.ydg rfl (Yd.pickT rfl rfl) rfl ?_
                refine WL.yd (Yd.pickF rfl rfl) rfl ?_
                refine WL.yd (Yd.move rfl) rfl ?_
                refine WL.ydg rfl (Yd.move rfl) rfl ?_
                refine WL.ydg rfl (Yd.move rfl) rfl ?_
                refine WL.ydg rfl (Yd.neg rfl (wr64 ⟨by omega, by omega⟩)) rfl ?_
                refine WL.ydg rfl (Yd.max2 rfl rfl) rfl ?_
                refine WL.ydg rfl (Yd.loadN Try.isAgg23 Try.sizeOf23 rfl (vs := [_, _]) rfl (by first | exact RdN.own (k := 0) (n := 2) rfl rfl | exact RdN.own (k := 1) (n := 2) rfl rfl | exact RdN.own (k := 2) (n := 2) rfl rfl | exact RdN.own (k := 3) (n := 2) rfl rfl | exact RdN.own (k := 4) (n := 2) rfl rfl | exact (hR.bath.at k (by omega)).rdn 0 3 rfl)) rfl ?_
                refine WL.sog rfl (SO.callP Try.call37 rfl (fun w hI => inside_g _ _ _ _)) rfl ?_
                rintro _ _ _ ⟨rfl, rfl, rfl⟩
                refine WL.know 279 (.bool true) rfl (congrArg Value.bool (and_t (decide_eq_true hnr.1) (decide_eq_true hnr.2))) ?_
                refine WL.ydg rfl (Yd.not rfl) rfl ?_
                refine WL.yd (Yd.pickF rfl rfl) rfl ?_
                refine WL.nil ?_
                exact WP.join () trivial (fun aa ww h => at_fr h ⟨rfl, rfl, rfl, rfl, rfl, trivial⟩)
              · try simp only [zq1, zq2, zq3, zq4, zq5, zq6, zq7, zq8] at g268
                refine WL.skip rfl rfl ?_
                refine WL.skip rfl rfl ?_
                refine WL.ydg rfl (Yd.pickF rfl rfl) rfl ?_
                refine WL.yd (Yd.pickF rfl rfl) rfl ?_
                refine WL.yd (Yd.move rfl) rfl ?_
                refine WL.ydg rfl (Yd.move rfl) rfl ?_
                refine WL.ydg rfl (Yd.move rfl) rfl ?_
                refine WL.ydg rfl (Yd.neg rfl (wr64 ⟨by omega, by omega⟩)) rfl ?_
                refine WL.ydg rfl (Yd.max2 rfl rfl) rfl ?_
                refine WL.ydg rfl (Yd.loadN Try.isAgg23 Try.sizeOf23 rfl (vs := [_, _]) rfl (by first | exact RdN.own (k := 0) (n := 2) rfl rfl | exact RdN.own (k := 1) (n := 2) rfl rfl | exact RdN.own (k := 2) (n := 2) rfl rfl | exact RdN.own (k := 3) (n := 2) rfl rfl | exact RdN.own (k := 4) (n := 2) rfl rfl | exact (hR.bath.at k (by omega)).rdn 0 3 rfl)) rfl ?_
                refine WL.sog rfl (SO.callP Try.call37 rfl (fun w hI => inside_g _ _ _ _)) rfl ?_
                rintro _ _ _ ⟨rfl, rfl, rfl⟩
                refine WL.know 279 (.bool true) rfl (congrArg Value.bool (and_t (decide_eq_true hnr.1) (decide_eq_true hnr.2))) ?_
                refine WL.ydg rfl (Yd.not rfl) rfl ?_
                refine WL.yd (Yd.pickF rfl rfl) rfl ?_
                refine WL.nil ?_
                exact WP.join () trivial (fun aa ww h => at_fr h ⟨rfl, rfl, rfl, rfl, rfl, trivial⟩)
            · try simp only [zq1, zq2, zq3, zq4, zq5, zq6, zq7, zq8] at g260
              refine WL.skip rfl rfl ?_
              refine WL.skip rfl rfl ?_
              refine WL.ydg rfl (Yd.pickF rfl rfl) rfl ?_
              refine WL.yd (Yd.pickF rfl rfl) rfl ?_
              refine WL.yd (Yd.move rfl) rfl ?_
              refine WL.ydg rfl (Yd.move rfl) rfl ?_
              refine WL.ydg rfl (Yd.eql rfl rfl) rfl ?_
              refine WL.ydg rfl (Yd.move rfl) rfl ?_
              refine WL.part 268 rfl (fun g268 => ?_) (fun g268 => ?_)
              · try simp only [zq1, zq2, zq3, zq4, zq5, zq6, zq7, zq8] at g268
                refine WL.ydg rfl (Yd.move rfl) rfl ?_
                refine WL.ydg rfl (Yd.gtr rfl rfl) rfl ?_
                refine WL.know 270 (.bool false) rfl (congrArg Value.bool (decide_eq_false (by have := bef_zero hv hok hwa hwb hx g268; omega))) ?_
                refine WL.ydg rfl (Yd.pickT rfl rfl) rfl ?_
                refine WL.yd (Yd.pickF rfl rfl) rfl ?_
                refine WL.yd (Yd.move rfl) rfl ?_
                refine WL.ydg rfl (Yd.move rfl) rfl ?_
                refine WL.ydg rfl (Yd.move rfl) rfl ?_
                refine WL.ydg rfl (Yd.neg rfl (wr64 ⟨by omega, by omega⟩)) rfl ?_
                refine WL.ydg rfl (Yd.max2 rfl rfl) rfl ?_
                refine WL.ydg rfl (Yd.loadN Try.isAgg23 Try.sizeOf23 rfl (vs := [_, _]) rfl (by first | exact RdN.own (k := 0) (n := 2) rfl rfl | exact RdN.own (k := 1) (n := 2) rfl rfl | exact RdN.own (k := 2) (n := 2) rfl rfl | exact RdN.own (k := 3) (n := 2) rfl rfl | exact RdN.own (k := 4) (n := 2) rfl rfl | exact (hR.bath.at k (by omega)).rdn 0 3 rfl)) rfl ?_
                refine WL.sog rfl (SO.callP Try.call37 rfl (fun w hI => inside_g _ _ _ _)) rfl ?_
                rintro _ _ _ ⟨rfl, rfl, rfl⟩
                refine WL.know 279 (.bool true) rfl (congrArg Value.bool (and_t (decide_eq_true hnr.1) (decide_eq_true hnr.2))) ?_
                refine WL.ydg rfl (Yd.not rfl) rfl ?_
                refine WL.yd (Yd.pickF rfl rfl) rfl ?_
                refine WL.nil ?_
                exact WP.join () trivial (fun aa ww h => at_fr h ⟨rfl, rfl, rfl, rfl, rfl, trivial⟩)
              · try simp only [zq1, zq2, zq3, zq4, zq5, zq6, zq7, zq8] at g268
                refine WL.skip rfl rfl ?_
                refine WL.skip rfl rfl ?_
                refine WL.ydg rfl (Yd.pickF rfl rfl) rfl ?_
                refine WL.yd (Yd.pickF rfl rfl) rfl ?_
                refine WL.yd (Yd.move rfl) rfl ?_
                refine WL.ydg rfl (Yd.move rfl) rfl ?_
                refine WL.ydg rfl (Yd.move rfl) rfl ?_
                refine WL.ydg rfl (Yd.neg rfl (wr64 ⟨by omega, by omega⟩)) rfl ?_
                refine WL.ydg rfl (Yd.max2 rfl rfl) rfl ?_
                refine WL.ydg rfl (Yd.loadN Try.isAgg23 Try.sizeOf23 rfl (vs := [_, _]) rfl (by first | exact RdN.own (k := 0) (n := 2) rfl rfl | exact RdN.own (k := 1) (n := 2) rfl rfl | exact RdN.own (k := 2) (n := 2) rfl rfl | exact RdN.own (k := 3) (n := 2) rfl rfl | exact RdN.own (k := 4) (n := 2) rfl rfl | exact (hR.bath.at k (by omega)).rdn 0 3 rfl)) rfl ?_
                refine WL.sog rfl (SO.callP Try.call37 rfl (fun w hI => inside_g _ _ _ _)) rfl ?_
                rintro _ _ _ ⟨rfl, rfl, rfl⟩
                refine WL.know 279 (.bool true) rfl (congrArg Value.bool (and_t (decide_eq_true hnr.1) (decide_eq_true hnr.2))) ?_
                refine WL.ydg rfl (Yd.not rfl) rfl ?_
                refine WL.yd (Yd.pickF rfl rfl) rfl ?_
                refine WL.nil ?_
                exact WP.join () trivial (fun aa ww h => at_fr h ⟨rfl, rfl, rfl, rfl, rfl, trivial⟩)
        · try simp only [zq1, zq2, zq3, zq4, zq5, zq6, zq7, zq8] at c223
          refine WC.exit ?_
          refine WP.thenExit ?_
          refine WP.thenExit ?_
          refine WP.blkHit ?_
          refine WP.blkNormal ?_
          refine WP.thenC ?_
          refine WC.ofFr [(4, _), (5, _), (22, _)] ⟨rfl, rfl, rfl, trivial⟩ ?_
          refine WC.region ?_
          refine WL.yd (Yd.move rfl) rfl ?_
          refine WL.yd (Yd.add rfl rfl (wr64 ⟨by omega, by omega⟩)) rfl ?_
          refine WL.yd (Yd.assign rfl) rfl ?_
          refine WL.nil ?_
          exact WP.againF (a + 1) ⟨by omega, by omega⟩ (by omega) ⟨rfl, rfl, rfl, trivial⟩ (fun _ h => .tail _ h) (fun h => (List.nodup_cons.1 h).2)
      · try simp only [zq1, zq2, zq3, zq4, zq5, zq6, zq7, zq8] at c198
        refine WC.exit ?_
        refine WP.thenExit ?_
        refine WP.thenExit ?_
        refine WP.blkHit ?_
        refine WP.thenC ?_
        refine WC.seq ?_
        refine WC.ofFr [] trivial ?_
        refine WC.region ?_
        refine WL.so (SO.callP Try.call14 rfl (fun w hI => alive_g _ _ hI.imm)) rfl ?_
        rintro _ _ _ ⟨rfl, rfl, rfl⟩
        refine WL.yd (Yd.assign rfl) rfl ?_
        refine WL.nil ?_
        refine WP.thenC ?_
        refine WC.ret ?_
        refine WP.ret1 rfl rfl Try.results6 (RV.tmp rfl) (fun w hI => ⟨rfl, hI.keep⟩)
    · skip
      refine WC.ofFr [(21, _), (4, _), (5, _), (11, _), (12, _), (14, _), (16, _), (18, _)] ⟨rfl, rfl, rfl, rfl, rfl, rfl, rfl, rfl, trivial⟩ ?_
      refine WC.tail 64 [0, 1, 2, 3, 4, 5, 6, 7, 8, 9, 10, 11, 12, 13, 14, 15, 16, 17, 18, 19, 20, 21, 22, 23, 24, 25, 26, 27, 28, 29, 30, 31, 32, 33, 34, 35, 36, 37, 38, 39, 40, 41, 42, 43, 44, 45, 46, 47, 48, 49, 50, 51, 52, 53, 54, 55, 56, 57, 58, 59, 60, 61, 62, 63] rfl (by kernel_rfl) (by kernel_rfl)  ?_
      refine WQ.q rfl (Yd.qt (Yd.move rfl)) rfl ?_
      refine WQ.q rfl (Yd.qt (Yd.move rfl)) rfl ?_
      refine WQ.q rfl (Yd.qt (Yd.andNotI (all_not hv hx) rfl rfl)) rfl ?_
      refine WQ.q rfl (Yd.qt (Yd.neq rfl rfl)) rfl ?_
      refine WQ.know 131 (.bool false) rfl (congrArg Value.bool (decide_eq_false (by simp))) ?_
      refine WQ.q rfl (Yd.qt (Yd.move rfl)) rfl ?_
      refine WQ.qg rfl rfl (Yd.qt (Yd.move rfl)) rfl ?_
      refine WQ.qg rfl rfl (Yd.qt (Yd.move rfl)) rfl ?_
      refine WQ.qg rfl rfl (Yd.qt (Yd.andNotI (some_not hv hx) rfl rfl)) rfl ?_
      refine WQ.qg rfl rfl (Yd.qt (Yd.neq rfl rfl)) rfl ?_
      refine WQ.know 136 (.bool false) rfl (congrArg Value.bool (decide_eq_false (by simp))) ?_
      refine WQ.q rfl (Yd.qt (Yd.pickF rfl rfl)) rfl ?_
      refine WQ.q rfl (Yd.qt (Yd.move rfl)) rfl ?_
      refine WQ.qg rfl rfl (Yd.qt (Yd.move rfl)) rfl ?_
      refine WQ.qg rfl rfl (Yd.qt (Yd.eql rfl rfl)) rfl ?_
      refine WQ.qg rfl rfl (Yd.qt (Yd.move rfl)) rfl ?_
      refine WQ.part 141 rfl (fun g141 => ?_) (fun g141 => ?_)
      · try simp only [zq1, zq2, zq3, zq4, zq5, zq6, zq7, zq8] at g141
        refine WQ.qg rfl rfl (Yd.qt (Yd.move rfl)) rfl ?_
        refine WQ.qg rfl rfl (Yd.qt (Yd.neq rfl rfl)) rfl ?_
        refine WQ.know 143 (.bool false) rfl (congrArg Value.bool (decide_eq_false (by rw [kept_brS2 hv hx g141]; simp))) ?_
        refine WQ.qg rfl rfl (Yd.qt (Yd.pickT rfl rfl)) rfl ?_
        refine WQ.q rfl (Yd.qt (Yd.pickF rfl rfl)) rfl ?_
        refine WQ.q rfl (Yd.qt (Yd.move rfl)) rfl ?_
        refine WQ.qg rfl rfl (Yd.qt (Yd.move rfl)) rfl ?_
        refine WQ.qg rfl rfl (Yd.qt (Yd.eql rfl rfl)) rfl ?_
        refine WQ.qg rfl rfl (Yd.qt (Yd.move rfl)) rfl ?_
        refine WQ.part 149 rfl (fun g149 => ?_) (fun g149 => ?_)
        · try simp only [zq1, zq2, zq3, zq4, zq5, zq6, zq7, zq8] at g149
          refine WQ.qg rfl rfl (Yd.qt (Yd.move rfl)) rfl ?_
          refine WQ.qg rfl rfl (Yd.qt (Yd.eql rfl rfl)) rfl ?_
          refine WQ.know 151 (.bool false) rfl (congrArg Value.bool (decide_eq_false (fun h => kept_brS0 hv hx g149 (brS_nat p x h)))) ?_
          refine WQ.qg rfl rfl (Yd.qt (Yd.pickT rfl rfl)) rfl ?_
          refine WQ.q rfl (Yd.qt (Yd.pickF rfl rfl)) rfl ?_
          refine WQ.q rfl (Yd.qt (Yd.move rfl)) rfl ?_
          refine WQ.qg rfl rfl (Yd.qt (Yd.move rfl)) rfl ?_
          refine WQ.qg rfl rfl (Yd.qt (Yd.move rfl)) rfl ?_
          refine WQ.qg rfl rfl (Qt.call (Enters.val Try.call36 rfl rfl) (fun w hI => size_g (brS p x) (by have := brS_32 hv x; omega) _)) rfl ?_
          refine WQ.qg rfl rfl (Yd.qt (Yd.loadN Try.isAgg23 Try.sizeOf23 rfl (vs := [_, _]) rfl (by first | exact RdN.own (k := 0) (n := 2) rfl rfl | exact RdN.own (k := 1) (n := 2) rfl rfl | exact (hR.bath.at k (by omega)).rdn 0 3 rfl))) rfl ?_
          refine WQ.qg rfl rfl (Qt.callP Try.call37 rfl (fun w hI => inside_g _ _ _ _)) rfl ?_
          refine WQ.know 159 (.bool true) rfl (congrArg Value.bool (and_t (decide_eq_true (lo_le (brk_mem hv hx))) (decide_eq_true (le_hi (brk_mem hv hx))))) ?_
          refine WQ.qg rfl rfl (Yd.qt (Yd.not rfl)) rfl ?_
          refine WQ.q rfl (Yd.qt (Yd.pickF rfl rfl)) rfl ?_
          refine WQ.q rfl (Yd.qt (Yd.move rfl)) rfl ?_
          refine WQ.qg rfl rfl (Yd.qt (Yd.move rfl)) rfl ?_
          refine WQ.qg rfl rfl (Yd.qt (Yd.move rfl)) rfl ?_
          refine WQ.qg rfl rfl (Qt.call (Enters.val Try.call36 rfl rfl) (fun w hI => size_g (allS p) (by have := setTo_32 (fun i => !canBreak p i false) h5; unfold allS; omega) _)) rfl ?_
          refine WQ.qg rfl rfl (Yd.qt (Yd.fieldAddr FA23_0 rfl)) rfl ?_
          refine WQ.qg rfl rfl (Yd.qt (Yd.load1 Try.isAgg3 rfl (by first | exact Rd.own (k := 0) rfl rfl | exact Rd.own (k := 1) rfl rfl))) rfl ?_
          refine WQ.qg rfl rfl (Yd.qt (Yd.gtr rfl rfl)) rfl ?_
          refine WQ.know 168 (.bool false) rfl (congrArg Value.bool (decide_eq_false (by have := lo_all hv hok; omega))) ?_
          refine WQ.q rfl (Yd.qt (Yd.pickF rfl rfl)) rfl ?_
          refine WQ.q rfl (Yd.qt (Yd.move rfl)) rfl ?_
          refine WQ.qg rfl rfl (Yd.qt (Yd.move rfl)) rfl ?_
          refine WQ.qg rfl rfl (Yd.qt (Yd.move rfl)) rfl ?_
          refine WQ.qg rfl rfl (Qt.call (Enters.val Try.call36 rfl rfl) (fun w hI => size_g (someS p) (by have := setTo_32 (fun i => canBreak p i true) h5; unfold someS; omega) _)) rfl ?_
          refine WQ.qg rfl rfl (Yd.qt (Yd.fieldAddr FA23_1 rfl)) rfl ?_
          refine WQ.qg rfl rfl (Yd.qt (Yd.load1 Try.isAgg3 rfl (by first | exact Rd.own (k := 0) rfl rfl | exact Rd.own (k := 1) rfl rfl))) rfl ?_
          refine WQ.qg rfl rfl (Yd.qt (Yd.lss rfl rfl)) rfl ?_
          refine WQ.know 176 (.bool false) rfl (congrArg Value.bool (decide_eq_false (by have := hi_some hv hok; omega))) ?_
          refine WQ.q rfl (Yd.qt (Yd.pickF rfl rfl)) rfl ?_
          refine WQ.q rfl (Yd.qt (Yd.move rfl)) rfl ?_
          refine WQ.qg rfl rfl (Yd.qt (Yd.move rfl)) rfl ?_
          refine WQ.qg rfl rfl (Yd.qt (Yd.eql rfl rfl)) rfl ?_
          refine WQ.qg rfl rfl (Yd.qt (Yd.fieldAddr FA23_1 rfl)) rfl ?_
          refine WQ.qg rfl rfl (Yd.qt (Yd.load1 Try.isAgg3 rfl (by first | exact Rd.own (k := 0) rfl rfl | exact Rd.own (k := 1) rfl rfl))) rfl ?_
          refine WQ.qg rfl rfl (Yd.qt (Yd.eql rfl rfl)) rfl ?_
          refine WQ.qg rfl rfl (Yd.qt (Yd.neB Try.underlying4 rfl rfl)) rfl ?_
          refine WQ.know 184 (.bool false) rfl (congrArg Value.bool (by rw [Bool.eq_iff_iff.2 (show decide (keptG p = 2) = true ↔ decide (hiF p = 0) = true by simpa using kept_two hv hok)]; simp)) ?_
          refine WQ.q rfl (Yd.qt (Yd.pickF rfl rfl)) rfl ?_
          refine WQ.q rfl (Yd.qt (Yd.move rfl)) rfl ?_
          refine WQ.qg rfl rfl (Yd.qt (Yd.move rfl)) rfl ?_
          refine WQ.qg rfl rfl (Yd.qt (Yd.eql rfl rfl)) rfl ?_
          refine WQ.qg rfl rfl (Yd.qt (Yd.fieldAddr FA23_0 rfl)) rfl ?_
          refine WQ.qg rfl rfl (Yd.qt (Yd.load1 Try.isAgg3 rfl (by first | exact Rd.own (k := 0) rfl rfl | exact Rd.own (k := 1) rfl rfl))) rfl ?_
          refine WQ.qg rfl rfl (Yd.qt (Yd.gtr rfl rfl)) rfl ?_
          refine WQ.tail ?_
          refine WL.ydg rfl (Yd.neB Try.underlying4 rfl rfl) rfl ?_
          refine WL.know 192 (.bool false) rfl (congrArg Value.bool (by rw [Bool.eq_iff_iff.2 (show decide (keptG p = 0) = true ↔ decide (0 < loF p) = true by simpa using kept_zero hv hok)]; simp)) ?_
          refine WL.yd (Yd.pickF rfl rfl) rfl ?_
          refine WL.nil ?_
          exact WP.join () trivial (fun aa ww h => at_fr h ⟨rfl, rfl, rfl, trivial⟩)
        · try simp only [zq1, zq2, zq3, zq4, zq5, zq6, zq7, zq8] at g149
          refine WQ.skip rfl rfl rfl ?_
          refine WQ.skip rfl rfl rfl ?_
          refine WQ.qg rfl rfl (Yd.qt (Yd.pickF rfl rfl)) rfl ?_
          refine WQ.q rfl (Yd.qt (Yd.pickF rfl rfl)) rfl ?_
          refine WQ.q rfl (Yd.qt (Yd.move rfl)) rfl ?_
          refine WQ.qg rfl rfl (Yd.qt (Yd.move rfl)) rfl ?_
          refine WQ.qg rfl rfl (Yd.qt (Yd.move rfl)) rfl ?_
          refine WQ.qg rfl rfl (Qt.call (Enters.val Try.call36 rfl rfl) (fun w hI => size_g (brS p x) (by have := brS_32 hv x; omega) _)) rfl ?_
          refine WQ.qg rfl rfl (Yd.qt (Yd.loadN Try.isAgg23 Try.sizeOf23 rfl (vs := [_, _]) rfl (by first | exact RdN.own (k := 0) (n := 2) rfl rfl | exact RdN.own (k := 1) (n := 2) rfl rfl | exact (hR.bath.at k (by omega)).rdn 0 3 rfl))) rfl ?_
          refine WQ.qg rfl rfl (Qt.callP Try.call37 rfl (fun w hI => inside_g _ _ _ _)) rfl ?_
          refine WQ.know 159 (.bool true) rfl (congrArg Value.bool (and_t (decide_eq_true (lo_le (brk_mem hv hx))) (decide_eq_true (le_hi (brk_mem hv hx))))) ?_
          refine WQ.qg rfl rfl (Yd.qt (Yd.not rfl)) rfl ?_
          refine WQ.q rfl (Yd.qt (Yd.pickF rfl rfl)) rfl ?_
          refine WQ.q rfl (Yd.qt (Yd.move rfl)) rfl ?_
          refine WQ.qg rfl rfl (Yd.qt (Yd.move rfl)) rfl ?_
          refine WQ.qg rfl rfl (Yd.qt (Yd.move rfl)) rfl ?_
          refine WQ.qg rfl rfl (Qt.call (Enters.val Try.call36 rfl rfl) (fun w hI => size_g (allS p) (by have := setTo_32 (fun i => !canBreak p i false) h5; unfold allS; omega) _)) rfl ?_
          refine WQ.qg rfl rfl (Yd.qt (Yd.fieldAddr FA23_0 rfl)) rfl ?_
          refine WQ.qg rfl rfl (Yd.qt (Yd.load1 Try.isAgg3 rfl (by first | exact Rd.own (k := 0) rfl rfl | exact Rd.own (k := 1) rfl rfl))) rfl ?_
          refine WQ.qg rfl rfl (Yd.qt (Yd.gtr rfl rfl)) rfl ?_
          refine WQ.know 168 (.bool false) rfl (congrArg Value.bool (decide_eq_false (by have := lo_all hv hok; omega))) ?_
          refine WQ.q rfl (Yd.qt (Yd.pickF rfl rfl)) rfl ?_
          refine WQ.q rfl (Yd.qt (Yd.move rfl)) rfl ?_
          refine WQ.qg rfl rfl (Yd.qt (Yd.move rfl)) rfl ?_
          refine WQ.qg rfl rfl (Yd.qt (Yd.move rfl)) rfl ?_
          refine WQ.qg rfl rfl (Qt.call (Enters.val Try.call36 rfl rfl) (fun w hI => size_g (someS p) (by have := setTo_32 (fun i => canBreak p i true) h5; unfold someS; omega) _)) rfl ?_
          refine WQ.qg rfl rfl (Yd.qt (Yd.fieldAddr FA23_1 rfl)) rfl ?_
          refine WQ.qg rfl rfl (Yd.qt (Yd.load1 Try.isAgg3 rfl (by first | exact Rd.own (k := 0) rfl rfl | exact Rd.own (k := 1) rfl rfl))) rfl ?_
          refine WQ.qg rfl rfl (Yd.qt (Yd.lss rfl rfl)) rfl ?_
          refine WQ.know 176 (.bool false) rfl (congrArg Value.bool (decide_eq_false (by have := hi_some hv hok; omega))) ?_
          refine WQ.q rfl (Yd.qt (Yd.pickF rfl rfl)) rfl ?_
          refine WQ.q rfl (Yd.qt (Yd.move rfl)) rfl ?_
          refine WQ.qg rfl rfl (Yd.qt (Yd.move rfl)) rfl ?_
          refine WQ.qg rfl rfl (Yd.qt (Yd.eql rfl rfl)) rfl ?_
          refine WQ.qg rfl rfl (Yd.qt (Yd.fieldAddr FA23_1 rfl)) rfl ?_
          refine WQ.qg rfl rfl (Yd.qt (Yd.load1 Try.isAgg3 rfl (by first | exact Rd.own (k := 0) rfl rfl | exact Rd.own (k := 1) rfl rfl))) rfl ?_
          refine WQ.qg rfl rfl (Yd.qt (Yd.eql rfl rfl)) rfl ?_
          refine WQ.qg rfl rfl (Yd.qt (Yd.neB Try.underlying4 rfl rfl)) rfl ?_
          refine WQ.know 184 (.bool false) rfl (congrArg Value.bool (by rw [Bool.eq_iff_iff.2 (show decide (keptG p = 2) = true ↔ decide (hiF p = 0) = true by simpa using kept_two hv hok)]; simp)) ?_
          refine WQ.q rfl (Yd.qt (Yd.pickF rfl rfl)) rfl ?_
          refine WQ.q rfl (Yd.qt (Yd.move rfl)) rfl ?_
          refine WQ.qg rfl rfl (Yd.qt (Yd.move rfl)) rfl ?_
          refine WQ.qg rfl rfl (Yd.qt (Yd.eql rfl rfl)) rfl ?_
          refine WQ.qg rfl rfl (Yd.qt (Yd.fieldAddr FA23_0 rfl)) rfl ?_
          refine WQ.qg rfl rfl (Yd.qt (Yd.load1 Try.isAgg3 rfl (by first | exact Rd.own (k := 0) rfl rfl | exact Rd.own (k := 1) rfl rfl))) rfl ?_
          refine WQ.qg rfl rfl (Yd.qt (Yd.gtr rfl rfl)) rfl ?_
          refine WQ.tail ?_
          refine WL.ydg rfl (Yd.neB Try.underlying4 rfl rfl) rfl ?_
          refine WL.know 192 (.bool false) rfl (congrArg Value.bool (by rw [Bool.eq_iff_iff.2 (show decide (keptG p = 0) = true ↔ decide (0 < loF p) = true by simpa using kept_zero hv hok)]; simp)) ?_
          refine WL.yd (Yd.pickF rfl rfl) rfl ?_
          refine WL.nil ?_
          exact WP.join () trivial (fun aa ww h => at_fr h ⟨rfl, rfl, rfl, trivial⟩)
      · try simp only [zq1, zq2, zq3, zq4, zq5, zq6, zq7, zq8] at g141
        refine WQ.skip rfl rfl rfl ?_
        refine WQ.skip rfl rfl rfl ?_
        refine WQ.qg rfl rfl (Yd.qt (Yd.pickF rfl rfl)) rfl ?_
        refine WQ.q rfl (Yd.qt (Yd.pickF rfl rfl)) rfl ?_
        refine WQ.q rfl (Yd.qt (Yd.move rfl)) rfl ?_
        refine WQ.qg rfl rfl (Yd.qt (Yd.move rfl)) rfl ?_
        refine WQ.qg rfl rfl (Yd.qt (Yd.eql rfl rfl)) rfl ?_
        refine WQ.qg rfl rfl (Yd.qt (Yd.move rfl)) rfl ?_
        refine WQ.part 149 rfl (fun g149 => ?_) (fun g149 => ?_)
        · try simp only [zq1, zq2, zq3, zq4, zq5, zq6, zq7, zq8] at g149
          refine WQ.qg rfl rfl (Yd.qt (Yd.move rfl)) rfl ?_
          refine WQ.qg rfl rfl (Yd.qt (Yd.eql rfl rfl)) rfl ?_
          refine WQ.know 151 (.bool false) rfl (congrArg Value.bool (decide_eq_false (fun h => kept_brS0 hv hx g149 (brS_nat p x h)))) ?_
          refine WQ.qg rfl rfl (Yd.qt (Yd.pickT rfl rfl)) rfl ?_
          refine WQ.q rfl (Yd.qt (Yd.pickF rfl rfl)) rfl ?_
          refine WQ.q rfl (Yd.qt (Yd.move rfl)) rfl ?_
          refine WQ.qg rfl rfl (Yd.qt (Yd.move rfl)) rfl ?_
          refine WQ.qg rfl rfl (Yd.qt (Yd.move rfl)) rfl ?_
          refine WQ.qg rfl rfl (Qt.call (Enters.val Try.call36 rfl rfl) (fun w hI => size_g (brS p x) (by have := brS_32 hv x; omega) _)) rfl ?_
          refine WQ.qg rfl rfl (Yd.qt (Yd.loadN Try.isAgg23 Try.sizeOf23 rfl (vs := [_, _]) rfl (by first | exact RdN.own (k := 0) (n := 2) rfl rfl | exact RdN.own (k := 1) (n := 2) rfl rfl | exact (hR.bath.at k (by omega)).rdn 0 3 rfl))) rfl ?_
          refine WQ.qg rfl rfl (Qt.callP Try.call37 rfl (fun w hI => inside_g _ _ _ _)) rfl ?_
          refine WQ.know 159 (.bool true) rfl (congrArg Value.bool (and_t (decide_eq_true (lo_le (brk_mem hv hx))) (decide_eq_true (le_hi (brk_mem hv hx))))) ?_
          refine WQ.qg rfl rfl (Yd.qt (Yd.not rfl)) rfl ?_
          refine WQ.q rfl (Yd.qt (Yd.pickF rfl rfl)) rfl ?_
          refine WQ.q rfl (Yd.qt (Yd.move rfl)) rfl ?_
          refine WQ.qg rfl rfl (Yd.qt (Yd.move rfl)) rfl ?_
          refine WQ.qg rfl rfl (Yd.qt (Yd.move rfl)) rfl ?_
          refine WQ.qg rfl rfl (Qt.call (Enters.val Try.call36 rfl rfl) (fun w hI => size_g (allS p) (by have := setTo_32 (fun i => !canBreak p i false) h5; unfold allS; omega) _)) rfl ?_
          refine WQ.qg rfl rfl (Yd.qt (Yd.fieldAddr FA23_0 rfl)) rfl ?_
          refine WQ.qg rfl rfl (Yd.qt (Yd.load1 Try.isAgg3 rfl (by first | exact Rd.own (k := 0) rfl rfl | exact Rd.own (k := 1) rfl rfl))) rfl ?_
          refine WQ.qg rfl rfl (Yd.qt (Yd.gtr rfl rfl)) rfl ?_
          refine WQ.know 168 (.bool false) rfl (congrArg Value.bool (decide_eq_false (by have := lo_all hv hok; omega))) ?_
          refine WQ.q rfl (Yd.qt (Yd.pickF rfl rfl)) rfl ?_
          refine WQ.q rfl (Yd.qt (Yd.move rfl)) rfl ?_
          refine WQ.qg rfl rfl (Yd.qt (Yd.move rfl)) rfl ?_
          refine WQ.qg rfl rfl (Yd.qt (Yd.move rfl)) rfl ?_
          refine WQ.qg rfl rfl (Qt.call (Enters.val Try.call36 rfl rfl) (fun w hI => size_g (someS p) (by have := setTo_32 (fun i => canBreak p i true) h5; unfold someS; omega) _)) rfl ?_
          refine WQ.qg rfl rfl (Yd.qt (Yd.fieldAddr FA23_1 rfl)) rfl ?_
          refine WQ.qg rfl rfl (Yd.qt (Yd.load1 Try.isAgg3 rfl (by first | exact Rd.own (k := 0) rfl rfl | exact Rd.own (k := 1) rfl rfl))) rfl ?_
          refine WQ.qg rfl rfl (Yd.qt (Yd.lss rfl rfl)) rfl ?_
          refine WQ.know 176 (.bool false) rfl (congrArg Value.bool (decide_eq_false (by have := hi_some hv hok; omega))) ?_
          refine WQ.q rfl (Yd.qt (Yd.pickF rfl rfl)) rfl ?_
          refine WQ.q rfl (Yd.qt (Yd.move rfl)) rfl ?_
          refine WQ.qg rfl rfl (Yd.qt (Yd.move rfl)) rfl ?_
          refine WQ.qg rfl rfl (Yd.qt (Yd.eql rfl rfl)) rfl ?_
          refine WQ.qg rfl rfl (Yd.qt (Yd.fieldAddr FA23_1 rfl)) rfl ?_
          refine WQ.qg rfl rfl (Yd.qt (Yd.load1 Try.isAgg3 rfl (by first | exact Rd.own (k := 0) rfl rfl | exact Rd.own (k := 1) rfl rfl))) rfl ?_
          refine WQ.qg rfl rfl (Yd.qt (Yd.eql rfl rfl)) rfl ?_
          refine WQ.qg rfl rfl (Yd.qt (Yd.neB Try.underlying4 rfl rfl)) rfl ?_
          refine WQ.know 184 (.bool false) rfl (congrArg Value.bool (by rw [Bool.eq_iff_iff.2 (show decide (keptG p = 2) = true ↔ decide (hiF p = 0) = true by simpa using kept_two hv hok)]; simp)) ?_
          refine WQ.q rfl (Yd.qt (Yd.pickF rfl rfl)) rfl ?_
          refine WQ.q rfl (Yd.qt (Yd.move rfl)) rfl ?_
          refine WQ.qg rfl rfl (Yd.qt (Yd.move rfl)) rfl ?_
          refine WQ.qg rfl rfl (Yd.qt (Yd.eql rfl rfl)) rfl ?_
          refine WQ.qg rfl rfl (Yd.qt (Yd.fieldAddr FA23_0 rfl)) rfl ?_
          refine WQ.qg rfl rfl (Yd.qt (Yd.load1 Try.isAgg3 rfl (by first | exact Rd.own (k := 0) rfl rfl | exact Rd.own (k := 1) rfl rfl))) rfl ?_
          refine WQ.qg rfl rfl (Yd.qt (Yd.gtr rfl rfl)) rfl ?_
          refine WQ.tail ?_
          refine WL.ydg rfl (Yd.neB Try.underlying4 rfl rfl) rfl ?_
          refine WL.know 192 (.bool false) rfl (congrArg Value.bool (by rw [Bool.eq_iff_iff.2 (show decide (keptG p = 0) = true ↔ decide (0 < loF p) = true by simpa using kept_zero hv hok)]; simp)) ?_
          refine WL.yd (Yd.pickF rfl rfl) rfl ?_
          refine WL.nil ?_
          exact WP.join () trivial (fun aa ww h => at_fr h ⟨rfl, rfl, rfl, trivial⟩)
        · try simp only [zq1, zq2, zq3, zq4, zq5, zq6, zq7, zq8] at g149
          refine WQ.skip rfl rfl rfl ?_
          refine WQ.skip rfl rfl rfl ?_
          refine WQ.qg rfl rfl (Yd.qt (Yd.pickF rfl rfl)) rfl ?_
          refine WQ.q rfl (Yd.qt (Yd.pickF rfl rfl)) rfl ?_
          refine WQ.q rfl (Yd.qt (Yd.move rfl)) rfl ?_
          refine WQ.qg rfl rfl (Yd.qt (Yd.move rfl)) rfl ?_
          refine WQ.qg rfl rfl (Yd.qt (Yd.move rfl)) rfl ?_
          refine WQ.qg rfl rfl (Qt.call (Enters.val Try.call36 rfl rfl) (fun w hI => size_g (brS p x) (by have := brS_32 hv x; omega) _)) rfl ?_
          refine WQ.qg rfl rfl (Yd.qt (Yd.loadN Try.isAgg23 Try.sizeOf23 rfl (vs := [_, _]) rfl (by first | exact RdN.own (k := 0) (n := 2) rfl rfl | exact RdN.own (k := 1) (n := 2) rfl rfl | exact (hR.bath.at k (by omega)).rdn 0 3 rfl))) rfl ?_
          refine WQ.qg rfl rfl (Qt.callP Try.call37 rfl (fun w hI => inside_g _ _ _ _)) rfl ?_
          refine WQ.know 159 (.bool true) rfl (congrArg Value.bool (and_t (decide_eq_true (lo_le (brk_mem hv hx))) (decide_eq_true (le_hi (brk_mem hv hx))))) ?_
          refine WQ.qg rfl rfl (Yd.qt (Yd.not rfl)) rfl ?_
          refine WQ.q rfl (Yd.qt (Yd.pickF rfl rfl)) rfl ?_
          refine WQ.q rfl (Yd.qt (Yd.move rfl)) rfl ?_
          refine WQ.qg rfl rfl (Yd.qt (Yd.move rfl)) rfl ?_
          refine WQ.qg rfl rfl (Yd.qt (Yd.move rfl)) rfl ?_
          refine WQ.qg rfl rfl (Qt.call (Enters.val Try.call36 rfl rfl) (fun w hI => size_g (allS p) (by have := setTo_32 (fun i => !canBreak p i false) h5; unfold allS; omega) _)) rfl ?_
          refine WQ.qg rfl rfl (Yd.qt (Yd.fieldAddr FA23_0 rfl)) rfl ?_
          refine WQ.qg rfl rfl (Yd.qt (Yd.load1 Try.isAgg3 rfl (by first | exact Rd.own (k := 0) rfl rfl | exact Rd.own (k := 1) rfl rfl))) rfl ?_
          refine WQ.qg rfl rfl (Yd.qt (Yd.gtr rfl rfl)) rfl ?_
          refine WQ.know 168 (.bool false) rfl (congrArg Value.bool (decide_eq_false (by have := lo_all hv hok; omega))) ?_
          refine WQ.q rfl (Yd.qt (Yd.pickF rfl rfl)) rfl ?_
          refine WQ.q rfl (Yd.qt (Yd.move rfl)) rfl ?_
          refine WQ.qg rfl rfl (Yd.qt (Yd.move rfl)) rfl ?_
          refine WQ.qg rfl rfl (Yd.qt (Yd.move rfl)) rfl ?_
          refine WQ.qg rfl rfl (Qt.call (Enters.val Try.call36 rfl rfl) (fun w hI => size_g (someS p) (by have := setTo_32 (fun i => canBreak p i true) h5; unfold someS; omega) _)) rfl ?_
          refine WQ.qg rfl rfl (Yd.qt (Yd.fieldAddr FA23_1 rfl)) rfl ?_
          refine WQ.qg rfl rfl (Yd.qt (Yd.load1 Try.isAgg3 rfl (by first | exact Rd.own (k := 0) rfl rfl | exact Rd.own (k := 1) rfl rfl))) rfl ?_
          refine WQ.qg rfl rfl (Yd.qt (Yd.lss rfl rfl)) rfl ?_
          refine WQ.know 176 (.bool false) rfl (congrArg Value.bool (decide_eq_false (by have := hi_some hv hok; omega))) ?_
          refine WQ.q rfl (Yd.qt (Yd.pickF rfl rfl)) rfl ?_
          refine WQ.q rfl (Yd.qt (Yd.move rfl)) rfl ?_
          refine WQ.qg rfl rfl (Yd.qt (Yd.move rfl)) rfl ?_
          refine WQ.qg rfl rfl (Yd.qt (Yd.eql rfl rfl)) rfl ?_
          refine WQ.qg rfl rfl (Yd.qt (Yd.fieldAddr FA23_1 rfl)) rfl ?_
          refine WQ.qg rfl rfl (Yd.qt (Yd.load1 Try.isAgg3 rfl (by first | exact Rd.own (k := 0) rfl rfl | exact Rd.own (k := 1) rfl rfl))) rfl ?_
          refine WQ.qg rfl rfl (Yd.qt (Yd.eql rfl rfl)) rfl ?_
          refine WQ.qg rfl rfl (Yd.qt (Yd.neB Try.underlying4 rfl rfl)) rfl ?_
          refine WQ.know 184 (.bool false) rfl (congrArg Value.bool (by rw [Bool.eq_iff_iff.2 (show decide (keptG p = 2) = true ↔ decide (hiF p = 0) = true by simpa using kept_two hv hok)]; simp)) ?_
          refine WQ.q rfl (Yd.qt (Yd.pickF rfl rfl)) rfl ?_
          refine WQ.q rfl (Yd.qt (Yd.move rfl)) rfl ?_
          refine WQ.qg rfl rfl (Yd.qt (Yd.move rfl)) rfl ?_
          refine WQ.qg rfl rfl (Yd.qt (Yd.eql rfl rfl)) rfl ?_
          refine WQ.qg rfl rfl (Yd.qt (Yd.fieldAddr FA23_0 rfl)) rfl ?_
          refine WQ.qg rfl rfl (Yd.qt (Yd.load1 Try.isAgg3 rfl (by first | exact Rd.own (k := 0) rfl rfl | exact Rd.own (k := 1) rfl rfl))) rfl ?_
          refine WQ.qg rfl rfl (Yd.qt (Yd.gtr rfl rfl)) rfl ?_
          refine WQ.tail ?_
          refine WL.ydg rfl (Yd.neB Try.underlying4 rfl rfl) rfl ?_
          refine WL.know 192 (.bool false) rfl (congrArg Value.bool (by rw [Bool.eq_iff_iff.2 (show decide (keptG p = 0) = true ↔ decide (0 < loF p) = true by simpa using kept_zero hv hok)]; simp)) ?_
          refine WL.yd (Yd.pickF rfl rfl) rfl ?_
          refine WL.nil ?_
          exact WP.join () trivial (fun aa ww h => at_fr h ⟨rfl, rfl, rfl, trivial⟩)

end Go.Proofs.Ytkhmmefgllbobaa
