import Derived.Test.YtkhmmefgllbobaaXZA
import Derived.Test.YtkhmmefgllbobaaXZB
set_option linter.unusedSimpArgs false
set_option linter.unusedVariables false
set_option linter.all false
/- Claims of a set alone; which clash. No program in sight. -/
namespace Go.Proofs.Ytkhmmefgllbobaa
open Go.W Go.Po
def selC (p : Post) (s : Nat) : Nat → List PClaim
  | 0 => []
  | k + 1 => if s / 2 ^ k % 2 = 1 then selC p s k ++ [gt p.claims k] else selC p s k
theorem selC_len (p : Post) (s : Nat) : ∀ k, (selC p s k).length ≤ k := by
  intro k
  induction k with
  | zero => exact Nat.le_refl _
  | succ k ih =>
    simp only [selC]
    split
    · rw [List.length_append]; simp; omega
    · omega
theorem selC_mem (p : Post) (s : Nat) (q : PClaim → Prop) : ∀ k, (∀ r ∈ selC p s k, q r) ↔ ∀ i, i < k → s / 2 ^ i % 2 = 1 → q (gt p.claims i) := by
  intro k
  induction k with
  | zero => simp [selC]
  | succ k ih =>
    simp only [selC]
    constructor
    · intro h i hi hb
      rcases Nat.lt_or_ge i k with h1 | h1
      · refine ih.1 (fun r hr => h r ?_) i h1 hb
        split
        · exact List.mem_append.2 (.inl hr)
        · exact hr
      · obtain rfl : i = k := by omega
        rw [if_pos hb] at h
        exact h _ (List.mem_append.2 (.inr (List.mem_singleton.2 rfl)))
    · intro h r hr
      split at hr
      · rename_i hb
        rcases List.mem_append.1 hr with h1 | h1
        · exact ih.2 (fun i hi => h i (by omega)) r h1
        · rw [List.mem_singleton.1 h1]; exact h k (by omega) hb
      · exact ih.2 (fun i hi => h i (by omega)) r hr
def selP (p : Post) (s : Nat) : Post := ⟨p.post, p.bathers, selC p s p.claims.length⟩
theorem sel_place (p : Post) (s : Nat) (i : Nat) : placeN (selP p s) i = placeN p i := by
  unfold selP placeN
  split <;> rfl
theorem sel_sol {p : Post} {s : Nat} {x : Nat → Int} : Sol (selP p s) (allR (selP p s)) x ↔ Sol p (selA p s) x := by
  rw [sol_all, sol_sel]
  refine and_congr ?_ (selC_mem p s (COk x) _)
  unfold InP
  simp only [sel_place]
  exact Iff.rfl
theorem sel_ok {p : Post} (hv : postB p = true) (s : Nat) : postB (selP p s) = true := by
  obtain ⟨h1, h2, h3, h4, h5⟩ := (postB_iff p).1 hv
  have hl := selC_len p s p.claims.length
  refine (postB_iff _).2 ⟨h1, h2, by show (selC p s p.claims.length).length ≤ 8; omega, h4, fun i hi => ?_⟩
  have := (selC_mem p s (fun c => claimP p c = true) p.claims.length).2 (fun i hi _ => h5 i hi)
  exact this _ (gt_mem hi)
theorem sel_clash {p : Post} (hv : postB p = true) (s : Nat) : decide ((PlaceOut (selP p s) (-1)).2 = 10) = clashB p s := by
  have hw : whoP (selP p s) (-1) = true := decide_eq_true ⟨by omega, by omega⟩
  have h1 : okA (selP p s) = farOk p (selA p s) := by
    rw [Bool.eq_iff_iff, ok_iff (sel_ok hv s), far_ok (selA_in hv s).in]
    exact exists_congr fun x => sel_sol
  unfold clashB
  rw [← h1]
  cases hok : okA (selP p s) with
  | true => rw [place_out (sel_ok hv s) hok hw]; rfl
  | false => rw [place_bad (sel_ok hv s) hok hw]; rfl
theorem clash_at {p : Post} (hv : postB p = true) (hok : okA p = false) : clashB p (clashS p) = true ∧ clashS p < 2 ^ p.claims.length ∧ ∀ y, y < 2 ^ p.claims.length → clashB p y = true → clashS p = y ∨ SetLt (clashS p) y := by
  have h8 := (post_num hv).2.2.1
  have h0 := Nat.two_pow_pos p.claims.length
  exact first_of (by omega) ⟨everyS p, by unfold everyS; omega, by show (!okA p) = true; rw [hok]; rfl⟩
theorem clash_none0 {p : Post} (hv : postB p = true) : clashB p 0 = false := by
  rw [clash_iff hv]
  obtain ⟨x, hx⟩ := inP_some hv
  exact ⟨x, sol_sel.2 ⟨hx, fun i _ h => by rw [Nat.zero_div] at h; cases h⟩⟩
theorem clash_pos {p : Post} (hv : postB p = true) (hok : okA p = false) : 1 ≤ clashS p := by
  have h1 := (clash_at hv hok).1
  have h2 := clash_none0 hv
  rcases Nat.eq_zero_or_pos (clashS p) with h | h
  · rw [h, h2] at h1; cases h1
  · exact h
theorem free_clash (p : Post) (s : Nat) : clashB p (everyS p - s) = !freeB p s := rfl
theorem free_left {p : Post} (hv : postB p = true) : clashB p (everyS p - falseS p) = false := by
  rw [free_clash, (false_at hv).1]; rfl
theorem and_bit {a b i : Nat} (h : a &&& b = 0) (ha : a / 2 ^ i % 2 = 1) : ¬ b / 2 ^ i % 2 = 1 := by
  intro hb
  have h1 : (a &&& b).testBit i = true := by
    rw [Nat.testBit_and, Nat.testBit_eq_decide_div_mod_eq, Nat.testBit_eq_decide_div_mod_eq, decide_eq_true ha, decide_eq_true hb]; rfl
  rw [h, Nat.zero_testBit] at h1
  cases h1
theorem clash_and {p : Post} (hv : postB p = true) (hok : okA p = false) : ¬ ((clashS p &&& falseS p : Nat) : Int) = 0 := by
  intro h
  have h0 : clashS p &&& falseS p = 0 := by omega
  have h8 := (post_num hv).2.2.1
  obtain ⟨x, hx⟩ := (clash_iff hv _).1 (free_left hv)
  have hc := (clash_at hv hok).1
  have : clashB p (clashS p) = false := (clash_iff hv _).2 ⟨x, by
    rw [sol_sel] at hx ⊢
    exact ⟨hx.1, fun i hi hb => hx.2 i hi ((left_bit _ (by omega) _ (false_at hv).2.1 i hi).2 (and_bit h0 hb))⟩⟩
  rw [this] at hc; cases hc
theorem pop_less : ∀ s, s < 256 → ∀ i, i < 8 → s / 2 ^ i % 2 = 1 → pop (s - 2 ^ i) < pop s ∧ 2 ^ i ≤ s := of_decide_eq_true (by kernel_rfl)
theorem lt_256 {n s : Nat} (hn : n ≤ 8) (h : s < 2 ^ n) : s < 256 := Nat.lt_of_lt_of_le h (Nat.pow_le_pow_right (n := 2) (by omega) hn)
theorem clash_less {p : Post} (hv : postB p = true) (hok : okA p = false) {i : Nat} (hi : i < p.claims.length) (hb : clashS p / 2 ^ i % 2 = 1) : clashB p (clashS p - 2 ^ i) = false := by
  have h8 := (post_num hv).2.2.1
  obtain ⟨h1, h2, h3⟩ := clash_at hv hok
  obtain ⟨h4, h5⟩ := pop_less _ (lt_256 h8 h2) i (by omega) hb
  have h6 := Nat.two_pow_pos i
  cases hc : clashB p (clashS p - 2 ^ i) with
  | false => rfl
  | true =>
    rcases h3 _ (by omega) hc with h | h
    · omega
    · unfold SetLt at h; omega
theorem nat_and {a b : Nat} (ha : a < 2 ^ 60) : IntKind.i64.wrap ((BitVec.ofInt 64 (a : Int) &&& BitVec.ofInt 64 (b : Int)).toNat) = ((a &&& b : Nat) : Int) := by
  rw [BitVec.ofInt_natCast, BitVec.ofInt_natCast, ← BitVec.ofNat_and, BitVec.toNat_ofNat]
  have h := Nat.and_le_left (n := a) (m := b)
  rw [Nat.mod_eq_of_lt (by omega)]
  exact wr64 (by omega)
theorem own_and : ∀ n, n < 9 → ∀ m : Nat, m < 256 → IntKind.i64.wrap ((BitVec.ofInt 64 (m : Int) &&& BitVec.ofInt 64 ((2 ^ n - 1 : Nat) : Int)).toNat) = ((m % 2 ^ n : Nat) : Int) := fun n hn m hm => by
  rw [nat_and (by omega)]
  rw [Nat.and_two_pow_sub_one_eq_mod]
theorem rest64 : ∀ n, n < 9 → ∀ s : Nat, s < 2 ^ n → IntKind.i64.wrap ((BitVec.ofInt 64 ((2 ^ n - 1 : Nat) : Int) &&& ~~~(BitVec.ofInt 64 (s : Int))).toNat) = ((2 ^ n - 1 - s : Nat) : Int) := of_decide_eq_true (by kernel_rfl)
theorem drop64 : ∀ s : Nat, s < 256 → ∀ i : Nat, i < 8 → s / 2 ^ i % 2 = 1 → IntKind.i64.wrap ((BitVec.ofInt 64 (s : Int) &&& ~~~(BitVec.ofInt 64 ((2 ^ i : Nat) : Int))).toNat) = ((s - 2 ^ i : Nat) : Int) := of_decide_eq_true (by kernel_rfl)
theorem free_least {p : Post} (hv : postB p = true) {s : Nat} (hs : s < 2 ^ p.claims.length) (h : clashB p (everyS p - s) = false) : pop (falseS p) ≤ pop s ∧ (pop s = pop (falseS p) → falseS p ≤ s) := by
  rw [free_clash] at h
  rcases (false_at hv).2.2 s hs (by simpa using h) with h1 | h1
  · exact ⟨Nat.le_of_eq (congrArg pop h1), fun _ => Nat.le_of_eq h1⟩
  · unfold SetLt at h1; omega
theorem clash_least {p : Post} (hv : postB p = true) (hok : okA p = false) {s : Nat} (hs : s < 2 ^ p.claims.length) (h : clashB p s = true) : pop (clashS p) ≤ pop s ∧ (pop s = pop (clashS p) → clashS p ≤ s) := by
  rcases (clash_at hv hok).2.2 s hs h with h1 | h1
  · exact ⟨Nat.le_of_eq (congrArg pop h1), fun _ => Nat.le_of_eq h1⟩
  · unfold SetLt at h1; omega
theorem every_clash (p : Post) : clashB p (2 ^ p.claims.length - 1) = !okA p := rfl
end Go.Proofs.Ytkhmmefgllbobaa
namespace Go.Proofs.Ytkhmmefgllbobaa
open Go.W Go.Po

set_option maxRecDepth 100000 in
set_option maxHeartbeats 1000000 in
theorem clashC_g (p : Post) (a1 : Option Addr) (n1 c1 : Nat) (a2 : Option Addr) (n2 c2 : Nat) (D : Imm) (w : World) (hR : PostR D p a1 n1 a2 n2) (hH : Holds D w) (hv : postB p = true) (b s : Nat) (hs : s < 2 ^ 8) (hP : D b = some (.cells (List.toArray [it p.post.lo, it p.post.hi, .slice a1 n1 c1, .slice a2 n2 c2]) 27 (0, 0))) : Gives Try.prog 44 [nt s, pt b] w (.bool (clashB p s)) := by
  unfold Gives
  obtain rfl := hR.bath.len'
  obtain rfl := hR.claim.len'
  have hl1 := hR.len1
  have hl2 := hR.len2
  have h8 := (post_num hv).2.2.1
  refine enter Try.func44 rfl 38 Try.ntmps44 (Nat.le_of_ble_eq_true rfl) (Inv.start hH) ?_
  refine WC.seq ?_
  refine WC.ofFr [(0, _), (1, _)] ⟨rfl, rfl, trivial⟩ ?_
  refine WC.region ?_
  refine WL.yd (Yd.assign rfl) rfl ?_
  refine WL.nil ?_
  refine WP.thenC ?_
  refine WC.seq ?_
  refine WC.ofFr [(3, _), (0, _), (1, _)] ⟨rfl, rfl, rfl, trivial⟩ ?_
  refine WC.region ?_
  refine WL.yd (Yd.loadN Try.isAgg27 Try.sizeOf27 rfl (vs := [_, _, _, _]) rfl (by first | exact (RdN.imm (n := 4) hP rfl))) rfl ?_
  refine WL.so (SO.alloc Try.zeroValue27 rfl) rfl ?_
  rintro _ _ _ ⟨b4, hb4, rfl, rfl, rfl⟩ -- NEW
  refine WL.so (SO.store 0 rfl Try.sizeOf27 rfl rfl rfl rfl (Nat.le_of_ble_eq_true rfl) (oneB_spec rfl)) rfl ?_
  rintro _ _ _ ⟨rfl, rfl, rfl⟩
  refine WL.nil ?_
  refine WP.thenC ?_
  refine WC.seq ?_
  refine WC.ofFr [(4, _), (3, _), (0, _), (1, _)] ⟨rfl, rfl, rfl, rfl, trivial⟩ ?_
  refine WC.region ?_
  refine WL.yd (Yd.fieldAddr FA27_2 rfl) rfl ?_
  refine WL.so (SO.store 0 rfl Try.sizeOf25 rfl rfl rfl rfl (Nat.le_of_ble_eq_true rfl) (oneB_spec rfl)) rfl ?_
  rintro _ _ _ ⟨rfl, rfl, rfl⟩
  refine WL.nil ?_
  refine WP.thenC ?_
  refine WC.seq ?_
  refine WC.seq ?_
  refine WC.ofFr [(4, _), (3, _), (0, _), (1, _)] ⟨rfl, rfl, rfl, rfl, trivial⟩ ?_
  refine WC.region ?_
  refine WL.yd (Yd.fieldAddr FA27_2 rfl) rfl ?_
  refine WL.yd (Yd.load1 Try.isAgg25 rfl (by first | exact Rd.own (k := 0) rfl rfl | exact (Rd.imm hP rfl))) rfl ?_
  refine WL.yd (Yd.lenS rfl Try.underlying25 rfl) rfl ?_
  refine WL.yd (Yd.move rfl) rfl ?_
  refine WL.nil ?_
  refine WP.thenC ?_
  refine WC.block ?_
  refine WC.loop (fun y : Nat × Option Ow => [(0, nt s), (1, pt b), (4, pt b4), (12, .slice a2 p.claims.length c2), (13, nt p.claims.length), (14, nt y.1)]) (fun y => ((b4, .cells (List.toArray [it p.post.lo, it p.post.hi, .slice a1 p.bathers.length c1, owV y.2 (selC p s y.1).length]) 27 (0, 0)) :: owH y.2 47 ((selC p s y.1).flatMap claimC) [])) (fun _ => D) (fun y => y.1 ≤ p.claims.length ∧ owP w y.2 (selC p s y.1).length 3) (fun y => p.claims.length - y.1) (0, none) ⟨by omega, rfl⟩ (fun a w h => at_fr h ⟨rfl, rfl, rfl, rfl, rfl, rfl, trivial⟩) ?_
  rintro ⟨k, o⟩ ⟨hk, ho⟩
  dsimp only at hk ho
  refine WC.seq ?_
  refine WC.ofFr [(0, _), (1, _), (4, _), (12, _), (13, _), (14, _)] ⟨rfl, rfl, rfl, rfl, rfl, rfl, trivial⟩ ?_
  refine WC.region ?_
  refine WL.yd (Yd.lss rfl rfl) rfl ?_
  refine WL.nil ?_
  refine WP.thenC ?_
  refine WC.seq ?_
  refine WC.cond rfl (fun c15 => ?_) (fun c15 => ?_)
  · try simp only [zq1, zq2, zq3, zq4, zq5, zq6, zq7, zq8] at c15
    have hsl := selC_len p s k
    refine WC.skip ?_
    refine WP.thenC ?_
    refine WC.seq ?_
    refine WC.block ?_
    refine WC.seq ?_
    refine WC.ofFr [(0, _), (1, _), (4, _), (12, _), (13, _), (14, _)] ⟨rfl, rfl, rfl, rfl, rfl, rfl, trivial⟩ ?_
    refine WC.region ?_
    refine WL.yd (Yd.move rfl) rfl ?_
    refine WL.yd (Yd.indexS Try.underlying25 Try.sizeOf47 rfl rfl (by omega) (by omega) (by first | exact hR.claim.addr k (by omega))) rfl ?_
    refine WL.yd (Yd.loadN Try.isAgg47 Try.sizeOf47 rfl (vs := [_, _, _]) rfl (by first | exact RdN.own (k := 0) (n := 3) rfl rfl | exact RdN.own (k := 1) (n := 3) rfl rfl | exact (hR.claim.at k (by omega)).rdn 0 3 rfl)) rfl ?_
    refine WL.so (SO.alloc Try.zeroValue47 rfl) rfl ?_
    rintro _ _ _ ⟨b6, hb6, rfl, rfl, rfl⟩ -- NEW
    refine WL.yd (Yd.assign rfl) rfl ?_
    refine WL.so (SO.store 0 rfl Try.sizeOf47 rfl rfl rfl rfl (Nat.le_of_ble_eq_true rfl) (oneB_spec rfl)) rfl ?_
    rintro _ _ _ ⟨rfl, rfl, rfl⟩
    refine WL.nil ?_
    refine WP.thenC ?_
    refine WC.seq ?_
    refine WC.ofFr [(5, _), (6, _), (0, _), (1, _), (4, _), (12, _), (13, _), (14, _)] ⟨rfl, rfl, rfl, rfl, rfl, rfl, rfl, rfl, trivial⟩ ?_
    refine WC.region ?_
    refine WL.yd (Yd.move rfl) rfl ?_
    refine WL.yd (Yd.move rfl) rfl ?_
    refine WL.yd (Yd.shrN rfl rfl (by omega)) rfl ?_
    refine WL.yd (Yd.and1N rfl rfl) rfl ?_
    refine WL.yd (Yd.eql rfl rfl) rfl ?_
    refine WL.nil ?_
    refine WP.thenC ?_
    refine WC.cond rfl (fun c23 => ?_) (fun c23 => ?_)
    · try simp only [zq1, zq2, zq3, zq4, zq5, zq6, zq7, zq8] at c23
      have hsr : selC p s (k + 1) = (selC p s k) ++ [gt p.claims k] := if_pos (nat_one.1 c23)
      have hsn : (selC p s (k + 1)).length = (selC p s k).length + 1 := by rw [hsr, List.length_append]; rfl
      have hsc : (selC p s (k + 1)).flatMap claimC = (selC p s k).flatMap claimC ++ claimC (gt p.claims k) := by rw [hsr, List.flatMap_append]; simp
      refine WC.ofFr [(6, _), (0, _), (1, _), (4, _), (12, _), (13, _), (14, _)] ⟨rfl, rfl, rfl, rfl, rfl, rfl, rfl, trivial⟩ ?_
      refine WC.region ?_
      refine WL.yd (Yd.fieldAddr FA27_2 rfl) rfl ?_
      refine WL.yd (Yd.load1 Try.isAgg25 rfl (by first | exact Rd.own (k := 0) rfl rfl | exact Rd.own (k := 1) rfl rfl | exact Rd.own (k := 2) rfl rfl | exact (Rd.imm hP rfl))) rfl ?_
      refine WL.yd (Yd.loadN Try.isAgg47 Try.sizeOf47 rfl (vs := [_, _, _]) rfl (by first | exact RdN.own (k := 0) (n := 3) rfl rfl | exact RdN.own (k := 1) (n := 3) rfl rfl | exact RdN.own (k := 2) (n := 3) rfl rfl | exact (hR.claim.at k (by omega)).rdn 0 3 rfl)) rfl ?_
      refine WL.so (SO.buildSlice Try.underlying25 Try.sizeOf47 Try.zeroValue47 rfl rfl rfl rfl (cs := [_, _, _]) rfl) rfl ?_
      rintro _ _ _ ⟨b27, hb27, rfl, rfl, rfl⟩ -- NEW
      refine WL.so (SO.appendOw (o := o) (len := (selC p s k).length) (n := 1) (xs := (selC p s k).flatMap claimC) (size := 3) [] [_, _, _] [] rfl rfl Try.underlying25 Try.sizeOf47 Try.typeInfo47 Try.zeroValue47 rfl rfl rfl rfl ⟨rfl, .inr ⟨_, _, _, rfl, RdN.own (k := 0) (n := 3) rfl rfl⟩⟩ (oneB_spec rfl) ho (flat_len claimC_len _) (by omega) (by show (2 * (_ + _) + 1000) * 24 ≤ 2 ^ 48; omega) (by omega)) rfl ?_
      rintro _ _ _ ⟨u1, hu1, rfl, rfl, rfl⟩
      refine WL.yd (Yd.fieldAddr FA27_2 rfl) rfl ?_
      refine WL.so (SO.store 2 rfl Try.sizeOf25 rfl rfl rfl rfl (Nat.le_of_ble_eq_true rfl) (oneB_spec rfl)) rfl ?_
      rintro _ _ _ ⟨rfl, rfl, rfl⟩
      refine WL.nil ?_
      refine WP.blkNormal ?_
      refine WP.thenC ?_
      refine WC.ofFr [(0, _), (1, _), (4, _), (12, _), (13, _), (14, _)] ⟨rfl, rfl, rfl, rfl, rfl, rfl, trivial⟩ ?_
      refine WC.region ?_
      refine WL.yd (Yd.add rfl rfl (wr64 ⟨by omega, by omega⟩)) rfl ?_
      refine WL.yd (Yd.move rfl) rfl ?_
      refine WL.nil ?_
      refine WP.again (⟨k + 1, some u1⟩ : Nat × Option Ow) ⟨by simp only; omega, by simp only; rw [hsn]; exact hu1⟩ (by simp only; omega) (fun aa ww h => ?_)
      show At _ [(0, nt s), (1, pt b), (4, pt b4), (12, .slice a2 p.claims.length c2), (13, nt p.claims.length), (14, nt (k + 1))] D ((b4, .cells (List.toArray [it p.post.lo, it p.post.hi, .slice a1 p.bathers.length c1, owV (some u1) (selC p s (k + 1)).length]) 27 (0, 0)) :: owH (some u1) 47 ((selC p s (k + 1)).flatMap claimC) []) aa ww
      rw [hsc, hsn]
      exact at_less h ⟨rfl, rfl, rfl, rfl, rfl, rfl, trivial⟩ (fun _ h => .tail _ (.tail _ h)) (fun h => (List.nodup_cons.1 (List.nodup_cons.1 h).2).2)
    · try simp only [zq1, zq2, zq3, zq4, zq5, zq6, zq7, zq8] at c23
      have hsr : selC p s (k + 1) = (selC p s k) := if_neg (fun h => c23 (nat_one.2 h))
      refine WC.skip ?_
      refine WP.blkNormal ?_
      refine WP.thenC ?_
      refine WC.ofFr [(0, _), (1, _), (4, _), (12, _), (13, _), (14, _)] ⟨rfl, rfl, rfl, rfl, rfl, rfl, trivial⟩ ?_
      refine WC.region ?_
      refine WL.yd (Yd.add rfl rfl (wr64 ⟨by omega, by omega⟩)) rfl ?_
      refine WL.yd (Yd.move rfl) rfl ?_
      refine WL.nil ?_
      refine WP.again (⟨k + 1, o⟩ : Nat × Option Ow) ⟨by simp only; omega, by simp only; rw [hsr]; exact ho⟩ (by simp only; omega) (fun aa ww h => ?_)
      show At _ [(0, nt s), (1, pt b), (4, pt b4), (12, .slice a2 p.claims.length c2), (13, nt p.claims.length), (14, nt (k + 1))] D ((b4, .cells (List.toArray [it p.post.lo, it p.post.hi, .slice a1 p.bathers.length c1, owV o (selC p s (k + 1)).length]) 27 (0, 0)) :: owH o 47 ((selC p s (k + 1)).flatMap claimC) []) aa ww
      rw [hsr]
      exact at_less h ⟨rfl, rfl, rfl, rfl, rfl, rfl, trivial⟩ (fun _ h => .tail _ h) (fun h => (List.nodup_cons.1 h).2)
  · try simp only [zq1, zq2, zq3, zq4, zq5, zq6, zq7, zq8] at c15
    refine WC.exit ?_
    refine WP.thenExit ?_
    refine WP.thenExit ?_
    refine WP.blkHit ?_
    refine WP.thenC ?_
    refine WC.seq ?_
    obtain rfl : k = p.claims.length := by omega
    have hsl := selC_len p s p.claims.length
    rw [owV_eqP ho]
    refine WC.freezeOw (f := claimC) claimC_len [_] [] o 47 (selC p s p.claims.length) rfl ho rfl (fun D2 hX2 hS2 => ?_)
    have hR2 : PostR D2 (selP p s) a1 p.bathers.length (owAt o) (selC p s p.claims.length).length := ⟨hR.bath.ext hX2, hS2, hl1, by omega⟩
    refine (?_ : WC Try.prog _ _ D2 [_] _ _)
    refine WC.ofFr [(4, _)] ⟨rfl, trivial⟩ ?_
    refine WC.region ?_
    refine WL.yd (Yd.loadN Try.isAgg27 Try.sizeOf27 rfl (vs := [_, _, _, _]) rfl (by first | exact RdN.own (k := 0) (n := 4) rfl rfl | exact (hR.claim.at k (by omega)).rdn 0 3 rfl)) rfl ?_
    refine WL.so (SO.callP Try.call15 rfl (fun w hI => Place_g (selP p s) a1 _ c1 (owAt o) _ (owCp o (selC p s p.claims.length).length) _ w hR2 hI.imm (-1))) rfl ?_
    rintro _ _ _ ⟨rfl, rfl, rfl⟩
    refine WL.yd (Yd.move rfl) rfl ?_
    refine WL.yd (Yd.extract rfl rfl) rfl ?_
    refine WL.yd (Yd.extract rfl rfl) rfl ?_
    refine WL.so (SO.alloc Try.zeroValue23 rfl) rfl ?_
    rintro _ _ _ ⟨b7, hb7, rfl, rfl, rfl⟩ -- NEW
    refine WL.so (SO.store 0 rfl Try.sizeOf23 rfl rfl rfl rfl (Nat.le_of_ble_eq_true rfl) (oneB_spec rfl)) rfl ?_
    rintro _ _ _ ⟨rfl, rfl, rfl⟩
    refine WL.yd (Yd.assign rfl) rfl ?_
    refine WL.nil ?_
    refine WP.thenC ?_
    refine WC.seq ?_
    refine WC.ofFr [(8, _)] ⟨rfl, trivial⟩ ?_
    refine WC.region ?_
    refine WL.yd (Yd.move rfl) rfl ?_
    refine WL.yd (Yd.eql rfl rfl) rfl ?_
    refine WL.yd (Yd.assign rfl) rfl ?_
    refine WL.nil ?_
    refine WP.thenC ?_
    refine WC.ret ?_
    refine WP.ret1 rfl rfl Try.results44 (RV.tmp rfl) (fun w hI => ⟨ret_bool (sel_clash hv s), hI.keep⟩)

set_option maxRecDepth 100000 in
set_option maxHeartbeats 1000000 in
theorem clash10_l (lo hi : Int) (a1 : Option Addr) (n1 c1 : Nat) (a2 : Option Addr) (n2 c2 : Nat) (m1 : Nat) (D : Imm) (w : World) (hH : Holds D w) (hl : max (n1 : Int) (n2 : Int) > 40) : Gives Try.prog 10 [.agg #[it lo, it hi, .slice a1 n1 c1, .slice a2 n2 c2], .int .u8 (m1 : Int)] w (.bool true) := by
  unfold Gives
  refine enter Try.func10 rfl 213 Try.ntmps10 (Nat.le_of_ble_eq_true rfl) (Inv.start hH) ?_
  refine WC.seq ?_
  refine WC.ofFr [(0, _), (1, _)] ⟨rfl, rfl, trivial⟩ ?_
  refine WC.region ?_
  refine WL.so (SO.box rfl rfl) rfl ?_
  rintro _ _ _ ⟨b2, hb2, rfl, rfl, rfl⟩ -- NEW
  refine WL.yd (Yd.assign rfl) rfl ?_
  refine WL.nil ?_
  refine WP.thenC ?_
  refine WC.seq ?_
  refine WC.seq ?_
  refine WC.ofFr [(4, _), (2, _), (1, _)] ⟨rfl, rfl, rfl, trivial⟩ ?_
  refine WC.region ?_
  refine WL.yd (Yd.loadN Try.isAgg27 Try.sizeOf27 rfl (vs := [_, _, _, _]) rfl (by first | exact RdN.own (k := 0) (n := 4) rfl rfl)) rfl ?_
  refine WL.so (SO.callP Try.call38 rfl (fun w hI => long_g _ _ _ _ _ _ _ _ _)) rfl ?_
  rintro _ _ _ ⟨rfl, rfl, rfl⟩
  refine WL.know 16 (.bool true) rfl (congrArg Value.bool (decide_eq_true hl)) ?_
  refine WL.nil ?_
  refine WP.thenC ?_
  refine WC.condT rfl ?_
  refine WC.seq ?_
  refine WC.ofFr [(4, _), (2, _), (1, _)] ⟨rfl, rfl, rfl, trivial⟩ ?_
  refine WC.region ?_
  refine WL.so (SO.callP Try.call14 rfl (fun w hI => alive_g _ _ hI.imm)) rfl ?_
  rintro _ _ _ ⟨rfl, rfl, rfl⟩
  refine WL.yd (Yd.assign rfl) rfl ?_
  refine WL.nil ?_
  refine WP.thenC ?_
  refine WC.ret ?_
  refine WP.thenRet ?_
  refine WP.ret1 rfl rfl Try.results10 (RV.tmp rfl) (fun w hI => ⟨rfl, hI.keep⟩)

set_option maxRecDepth 100000 in
set_option maxHeartbeats 1000000 in
theorem clash10_a (p : Post) (a1 : Option Addr) (n1 c1 : Nat) (a2 : Option Addr) (n2 c2 : Nat) (D : Imm) (w : World) (hR : PostR D p a1 n1 a2 n2) (hH : Holds D w) (m1 : Nat) (hl : ¬ (max (n1 : Int) (n2 : Int) > 40)) (hv : postB p = false) : Gives Try.prog 10 [.agg #[it p.post.lo, it p.post.hi, .slice a1 n1 c1, .slice a2 n2 c2], .int .u8 (m1 : Int)] w (.bool true) := by
  unfold Gives
  obtain rfl := hR.bath.len'
  obtain rfl := hR.claim.len'
  have hl1 := hR.len1
  have hl2 := hR.len2
  refine enter Try.func10 rfl 213 Try.ntmps10 (Nat.le_of_ble_eq_true rfl) (Inv.start hH) ?_
  refine WC.seq ?_
  refine WC.ofFr [(0, _), (1, _)] ⟨rfl, rfl, trivial⟩ ?_
  refine WC.region ?_
  refine WL.so (SO.box rfl rfl) rfl ?_
  rintro _ _ _ ⟨b2, hb2, rfl, rfl, rfl⟩ -- NEW
  refine WL.yd (Yd.assign rfl) rfl ?_
  refine WL.nil ?_
  refine WP.thenC ?_
  refine WC.seq ?_
  refine WC.seq ?_
  refine WC.ofFr [(4, _), (2, _), (1, _)] ⟨rfl, rfl, rfl, trivial⟩ ?_
  refine WC.region ?_
  refine WL.yd (Yd.loadN Try.isAgg27 Try.sizeOf27 rfl (vs := [_, _, _, _]) rfl (by first | exact RdN.own (k := 0) (n := 4) rfl rfl)) rfl ?_
  refine WL.so (SO.callP Try.call38 rfl (fun w hI => long_g _ _ _ _ _ _ _ _ _)) rfl ?_
  rintro _ _ _ ⟨rfl, rfl, rfl⟩
  refine WL.know 16 (.bool false) rfl (congrArg Value.bool (decide_eq_false hl)) ?_
  refine WL.nil ?_
  refine WP.thenC ?_
  refine WC.condF rfl ?_
  refine WC.skip ?_
  refine WP.thenC ?_
  refine WC.seq ?_
  refine WC.ofFr [(4, _), (2, _), (1, _)] ⟨rfl, rfl, rfl, trivial⟩ ?_
  refine WC.region ?_
  refine WL.yd (Yd.loadN Try.isAgg27 Try.sizeOf27 rfl (vs := [_, _, _, _]) rfl (by first | exact RdN.own (k := 0) (n := 4) rfl rfl)) rfl ?_
  refine WL.so (SO.callP Try.call29 rfl (fun w hI => Gives.cv (.tuple #[it 0, it 1]) (Clash_g p a1 _ c1 a2 _ c2 _ w hR hI.imm) (by rw [show ClashOut p = (0, 1) from if_pos hv]))) rfl ?_
  rintro _ _ _ ⟨rfl, rfl, rfl⟩
  refine WL.yd (Yd.move rfl) rfl ?_
  refine WL.yd (Yd.extract rfl rfl) rfl ?_
  refine WL.yd (Yd.extract rfl rfl) rfl ?_
  refine WL.yd (Yd.assign rfl) rfl ?_
  refine WL.yd (Yd.assign rfl) rfl ?_
  refine WL.nil ?_
  refine WP.thenC ?_
  refine WC.seq ?_
  refine WC.ofFr [(6, _), (5, _), (4, _), (2, _), (1, _)] ⟨rfl, rfl, rfl, rfl, rfl, trivial⟩ ?_
  refine WC.region ?_
  refine WL.yd (Yd.loadN Try.isAgg27 Try.sizeOf27 rfl (vs := [_, _, _, _]) rfl (by first | exact RdN.own (k := 0) (n := 4) rfl rfl)) rfl ?_
  refine WL.so (SO.callP Try.call27 rfl (fun w hI => Gives.cv (.tuple #[it 0, it 0, it 1]) (False_g p a1 _ c1 a2 _ c2 _ w hR hI.imm) (by rw [show FalseOut p = (0, 0, 1) from if_pos hv]))) rfl ?_
  rintro _ _ _ ⟨rfl, rfl, rfl⟩
  refine WL.yd (Yd.move rfl) rfl ?_
  refine WL.yd (Yd.extract rfl rfl) rfl ?_
  refine WL.yd (Yd.extract rfl rfl) rfl ?_
  refine WL.yd (Yd.extract rfl rfl) rfl ?_
  refine WL.yd (Yd.assign rfl) rfl ?_
  refine WL.yd (Yd.assign rfl) rfl ?_
  refine WL.yd (Yd.assign rfl) rfl ?_
  refine WL.nil ?_
  refine WP.thenC ?_
  refine WC.seq ?_
  refine WC.seq ?_
  refine WC.ofFr [(9, _), (8, _), (7, _), (6, _), (5, _), (4, _), (2, _), (1, _)] ⟨rfl, rfl, rfl, rfl, rfl, rfl, rfl, rfl, trivial⟩ ?_
  refine WC.region ?_
  refine WL.yd (Yd.loadN Try.isAgg27 Try.sizeOf27 rfl (vs := [_, _, _, _]) rfl (by first | exact RdN.own (k := 0) (n := 4) rfl rfl)) rfl ?_
  refine WL.so (SO.callP Try.call39 rfl (fun w hI => rpost_g p a1 _ c1 a2 _ c2 _ w hR hI.imm)) rfl ?_
  rintro _ _ _ ⟨rfl, rfl, rfl⟩
  refine WL.know 30 (.bool false) rfl (congrArg Value.bool hv) ?_
  refine WL.yd (Yd.not rfl) rfl ?_
  refine WL.nil ?_
  refine WP.thenC ?_
  refine WC.condT rfl ?_
  refine WC.seq ?_
  refine WC.ofFr [(9, _), (8, _), (7, _), (6, _), (5, _), (4, _), (2, _), (1, _)] ⟨rfl, rfl, rfl, rfl, rfl, rfl, rfl, rfl, trivial⟩ ?_
  refine WC.region ?_
  refine WL.yd (Yd.move rfl) rfl ?_
  refine WL.yd (Yd.eql rfl rfl) rfl ?_
  refine WL.know 33 (.bool true) rfl (congrArg Value.bool (by decide)) ?_
  refine WL.yd (Yd.move rfl) rfl ?_
  refine WL.ydg rfl (Yd.move rfl) rfl ?_
  refine WL.ydg rfl (Yd.move rfl) rfl ?_
  refine WL.ydg rfl (Yd.eql rfl rfl) rfl ?_
  refine WL.know 37 (.bool true) rfl (congrArg Value.bool (by decide)) ?_
  refine WL.yd (Yd.pickT rfl rfl) rfl ?_
  refine WL.yd (Yd.move rfl) rfl ?_
  refine WL.ydg rfl (Yd.move rfl) rfl ?_
  refine WL.ydg rfl (Yd.eql rfl rfl) rfl ?_
  refine WL.know 41 (.bool true) rfl (congrArg Value.bool (by decide)) ?_
  refine WL.yd (Yd.pickT rfl rfl) rfl ?_
  refine WL.yd (Yd.move rfl) rfl ?_
  refine WL.ydg rfl (Yd.move rfl) rfl ?_
  refine WL.ydg rfl (Yd.eql rfl rfl) rfl ?_
  refine WL.know 45 (.bool true) rfl (congrArg Value.bool (by decide)) ?_
  refine WL.yd (Yd.pickT rfl rfl) rfl ?_
  refine WL.yd (Yd.move rfl) rfl ?_
  refine WL.ydg rfl (Yd.move rfl) rfl ?_
  refine WL.ydg rfl (Yd.eql rfl rfl) rfl ?_
  refine WL.know 49 (.bool true) rfl (congrArg Value.bool (by decide)) ?_
  refine WL.yd (Yd.pickT rfl rfl) rfl ?_
  refine WL.yd (Yd.move rfl) rfl ?_
  refine WL.sog rfl (SO.callP Try.call14 rfl (fun w hI => alive_g _ _ hI.imm)) rfl ?_
  rintro _ _ _ ⟨rfl, rfl, rfl⟩
  refine WL.know 52 (.bool true) rfl rfl ?_
  refine WL.yd (Yd.pickT rfl rfl) rfl ?_
  refine WL.yd (Yd.assign rfl) rfl ?_
  refine WL.nil ?_
  refine WP.thenC ?_
  refine WC.ret ?_
  refine WP.thenRet ?_
  refine WP.ret1 rfl rfl Try.results10 (RV.tmp rfl) (fun w hI => ⟨rfl, hI.keep⟩)

set_option maxRecDepth 100000 in
set_option maxHeartbeats 1000000 in
theorem clash10_o (p : Post) (a1 : Option Addr) (n1 c1 : Nat) (a2 : Option Addr) (n2 c2 : Nat) (D : Imm) (w : World) (hR : PostR D p a1 n1 a2 n2) (hH : Holds D w) (m1 : Nat) (hm1 : m1 ≤ 255) (hl : ¬ (max (n1 : Int) (n2 : Int) > 40)) (hv : postB p = true) (hok : okA p = true) : Gives Try.prog 10 [.agg #[it p.post.lo, it p.post.hi, .slice a1 n1 c1, .slice a2 n2 c2], .int .u8 (m1 : Int)] w (.bool true) := by
  unfold Gives
  obtain rfl := hR.bath.len'
  obtain rfl := hR.claim.len'
  have hl1 := hR.len1
  have hl2 := hR.len2
  have h8 := (post_num hv).2.2.1
  have h0 := Nat.two_pow_pos p.claims.length
  have h256 : 2 ^ p.claims.length ≤ 2 ^ 8 := Nat.pow_le_pow_right (by omega) h8
  have hfl := (false_at hv).2.1
  have hown : m1 % 2 ^ p.claims.length < 2 ^ p.claims.length := Nat.mod_lt _ h0
  have hm0 := (ok_many hv).1 hok
  refine enter Try.func10 rfl 213 Try.ntmps10 (Nat.le_of_ble_eq_true rfl) (Inv.start hH) ?_
  refine WC.seq ?_
  refine WC.ofFr [(0, _), (1, _)] ⟨rfl, rfl, trivial⟩ ?_
  refine WC.region ?_
  refine WL.so (SO.box rfl rfl) rfl ?_
  rintro _ _ _ ⟨b2, hb2, rfl, rfl, rfl⟩ -- NEW
  refine WL.yd (Yd.assign rfl) rfl ?_
  refine WL.nil ?_
  refine WP.thenC ?_
  refine WC.seq ?_
  refine WC.seq ?_
  refine WC.ofFr [(4, _), (2, _), (1, _)] ⟨rfl, rfl, rfl, trivial⟩ ?_
  refine WC.region ?_
  refine WL.yd (Yd.loadN Try.isAgg27 Try.sizeOf27 rfl (vs := [_, _, _, _]) rfl (by first | exact RdN.own (k := 0) (n := 4) rfl rfl | exact (RdN.imm (n := 4) hP rfl))) rfl ?_
  refine WL.so (SO.callP Try.call38 rfl (fun w hI => long_g _ _ _ _ _ _ _ _ _)) rfl ?_
  rintro _ _ _ ⟨rfl, rfl, rfl⟩
  refine WL.know 16 (.bool false) rfl (congrArg Value.bool (decide_eq_false hl)) ?_
  refine WL.nil ?_
  refine WP.thenC ?_
  refine WC.condF rfl ?_
  refine WC.skip ?_
  refine WP.thenC ?_
  refine WC.seq ?_
  refine WC.ofFr [(4, _), (2, _), (1, _)] ⟨rfl, rfl, rfl, trivial⟩ ?_
  refine WC.region ?_
  refine WL.yd (Yd.loadN Try.isAgg27 Try.sizeOf27 rfl (vs := [_, _, _, _]) rfl (by first | exact RdN.own (k := 0) (n := 4) rfl rfl | exact (RdN.imm (n := 4) hP rfl))) rfl ?_
  refine WL.so (SO.callP Try.call29 rfl (fun w hI => Gives.cv (.tuple #[it 0, it 4]) (Clash_g p a1 _ c1 a2 _ c2 _ w hR hI.imm) (by rw [clash_none hv hok]))) rfl ?_
  rintro _ _ _ ⟨rfl, rfl, rfl⟩
  refine WL.yd (Yd.move rfl) rfl ?_
  refine WL.yd (Yd.extract rfl rfl) rfl ?_
  refine WL.yd (Yd.extract rfl rfl) rfl ?_
  refine WL.yd (Yd.assign rfl) rfl ?_
  refine WL.yd (Yd.assign rfl) rfl ?_
  refine WL.nil ?_
  refine WP.thenC ?_
  refine WC.seq ?_
  refine WC.ofFr [(6, _), (5, _), (4, _), (2, _), (1, _)] ⟨rfl, rfl, rfl, rfl, rfl, trivial⟩ ?_
  refine WC.region ?_
  refine WL.yd (Yd.loadN Try.isAgg27 Try.sizeOf27 rfl (vs := [_, _, _, _]) rfl (by first | exact RdN.own (k := 0) (n := 4) rfl rfl | exact (RdN.imm (n := 4) hP rfl))) rfl ?_
  refine WL.so (SO.callP Try.call27 rfl (fun w hI => Gives.cv (.tuple #[nt (pop (falseS p)), nt (falseS p), it 0]) (False_g p a1 _ c1 a2 _ c2 _ w hR hI.imm) (by rw [false_out hv]))) rfl ?_
  rintro _ _ _ ⟨rfl, rfl, rfl⟩
  refine WL.yd (Yd.move rfl) rfl ?_
  refine WL.yd (Yd.extract rfl rfl) rfl ?_
  refine WL.yd (Yd.extract rfl rfl) rfl ?_
  refine WL.yd (Yd.extract rfl rfl) rfl ?_
  refine WL.yd (Yd.assign rfl) rfl ?_
  refine WL.yd (Yd.assign rfl) rfl ?_
  refine WL.yd (Yd.assign rfl) rfl ?_
  refine WL.nil ?_
  refine WP.thenC ?_
  refine WC.seq ?_
  refine WC.seq ?_
  refine WC.ofFr [(9, _), (8, _), (7, _), (6, _), (5, _), (4, _), (2, _), (1, _)] ⟨rfl, rfl, rfl, rfl, rfl, rfl, rfl, rfl, trivial⟩ ?_
  refine WC.region ?_
  refine WL.yd (Yd.loadN Try.isAgg27 Try.sizeOf27 rfl (vs := [_, _, _, _]) rfl (by first | exact RdN.own (k := 0) (n := 4) rfl rfl | exact (RdN.imm (n := 4) hP rfl))) rfl ?_
  refine WL.so (SO.callP Try.call39 rfl (fun w hI => rpost_g p a1 _ c1 a2 _ c2 _ w hR hI.imm)) rfl ?_
  rintro _ _ _ ⟨rfl, rfl, rfl⟩
  refine WL.know 30 (.bool true) rfl (congrArg Value.bool hv) ?_
  refine WL.yd (Yd.not rfl) rfl ?_
  refine WL.nil ?_
  refine WP.thenC ?_
  refine WC.condF rfl ?_
  refine WC.skip ?_
  refine WP.thenC ?_
  refine WC.seq ?_
  refine WC.freezeK 0 rfl (fun hn2 => ?_)
  have hX2 : DExt w D (D.add b2 (.cells (List.toArray [it p.post.lo, it p.post.hi, .slice a1 p.bathers.length c1, .slice a2 p.claims.length c2]) 27 (0, 0))) := (DExt.refl w D).add hn2 hb2
  have hP : (D.add b2 (.cells (List.toArray [it p.post.lo, it p.post.hi, .slice a1 p.bathers.length c1, .slice a2 p.claims.length c2]) 27 (0, 0))) b2 = some (.cells (List.toArray [it p.post.lo, it p.post.hi, .slice a1 p.bathers.length c1, .slice a2 p.claims.length c2]) 27 (0, 0)) := Imm.add_self _ _ _
  replace hR := hR.ext hX2
  refine (?_ : WC Try.prog _ _ (D.add b2 (.cells (List.toArray [it p.post.lo, it p.post.hi, .slice a1 p.bathers.length c1, .slice a2 p.claims.length c2]) 27 (0, 0))) [] _ _)
  generalize D.add b2 (.cells (List.toArray [it p.post.lo, it p.post.hi, .slice a1 p.bathers.length c1, .slice a2 p.claims.length c2]) 27 (0, 0)) = D1 at hX2 hP hR ⊢
  refine WC.ofFr [(9, _), (8, _), (7, _), (6, _), (5, _), (4, _), (2, _), (1, _)] ⟨rfl, rfl, rfl, rfl, rfl, rfl, rfl, rfl, trivial⟩ ?_
  refine WC.region ?_
  refine WL.yd (Yd.func rfl rfl) rfl ?_
  refine WL.yd (Yd.assign rfl) rfl ?_
  refine WL.nil ?_
  refine WP.thenC ?_
  refine WC.seq ?_
  refine WC.ofFr [(10, _), (9, _), (8, _), (7, _), (6, _), (5, _), (4, _), (2, _), (1, _)] ⟨rfl, rfl, rfl, rfl, rfl, rfl, rfl, rfl, rfl, trivial⟩ ?_
  refine WC.region ?_
  refine WL.yd (Yd.fieldAddr FA27_2 rfl) rfl ?_
  refine WL.yd (Yd.load1 Try.isAgg25 rfl (by first | exact (Rd.imm hP rfl))) rfl ?_
  refine WL.yd (Yd.lenS rfl Try.underlying25 rfl) rfl ?_
  refine WL.yd (Yd.shl rfl rfl (by omega) (shlN_w p.claims.length (by omega))) rfl ?_
  refine WL.yd (Yd.subN (j := 1) rfl rfl Nat.one_le_two_pow (by omega)) rfl ?_
  refine WL.yd (Yd.assign rfl) rfl ?_
  refine WL.yd (Yd.assign rfl) rfl ?_
  refine WL.nil ?_
  refine WP.thenC ?_
  refine WC.seq ?_
  refine WC.ofFr [(12, _), (11, _), (10, _), (9, _), (8, _), (7, _), (6, _), (5, _), (4, _), (2, _), (1, _)] ⟨rfl, rfl, rfl, rfl, rfl, rfl, rfl, rfl, rfl, rfl, rfl, trivial⟩ ?_
  refine WC.region ?_
  refine WL.yd (Yd.move rfl) rfl ?_
  refine WL.yd (Yd.conv Try.underlying5 Try.underlying3 rfl (wr64 ⟨by omega, by omega⟩)) rfl ?_
  refine WL.yd (Yd.move rfl) rfl ?_
  refine WL.yd (Yd.andI (own_and _ (by omega) m1 (by omega)) rfl rfl) rfl ?_
  refine WL.yd (Yd.assign rfl) rfl ?_
  refine WL.nil ?_
  refine WP.thenC ?_
  refine WC.seq ?_
  refine WC.seq ?_
  refine WC.ofFr [(13, _), (12, _), (11, _), (10, _), (9, _), (8, _), (7, _), (6, _), (5, _), (4, _), (2, _)] ⟨rfl, rfl, rfl, rfl, rfl, rfl, rfl, rfl, rfl, rfl, rfl, trivial⟩ ?_
  refine WC.region ?_
  refine WL.yd (Yd.move rfl) rfl ?_
  refine WL.yd (Yd.neq rfl rfl) rfl ?_
  refine WL.know 65 (.bool false) rfl (congrArg Value.bool (decide_eq_false (by simp))) ?_
  refine WL.yd (Yd.move rfl) rfl ?_
  refine WL.ydg rfl (Yd.move rfl) rfl ?_
  refine WL.ydg rfl (Yd.lss rfl rfl) rfl ?_
  refine WL.know 68 (.bool false) rfl (congrArg Value.bool (decide_eq_false (by omega))) ?_
  refine WL.yd (Yd.pickF rfl rfl) rfl ?_
  refine WL.yd (Yd.move rfl) rfl ?_
  refine WL.ydg rfl (Yd.move rfl) rfl ?_
  refine WL.ydg rfl (Yd.move rfl) rfl ?_
  refine WL.ydg rfl (Yd.gtr rfl rfl) rfl ?_
  refine WL.know 73 (.bool false) rfl (congrArg Value.bool (decide_eq_false (by omega))) ?_
  refine WL.yd (Yd.pickF rfl rfl) rfl ?_
  refine WL.yd (Yd.move rfl) rfl ?_
  refine WL.ydg rfl (Yd.move rfl) rfl ?_
  refine WL.ydg rfl (Yd.move rfl) rfl ?_
  refine WL.sog rfl (SO.call (Enters.val Try.call36 rfl rfl) (fun w hI => size_g (falseS p) (by omega) _)) rfl ?_
  rintro _ _ _ ⟨rfl, rfl, rfl⟩
  refine WL.ydg rfl (Yd.move rfl) rfl ?_
  refine WL.ydg rfl (Yd.neq rfl rfl) rfl ?_
  refine WL.know 80 (.bool false) rfl (congrArg Value.bool (decide_eq_false (by simp))) ?_
  refine WL.yd (Yd.pickF rfl rfl) rfl ?_
  refine WL.yd (Yd.move rfl) rfl ?_
  refine WL.ydg rfl (Yd.move rfl) rfl ?_
  refine WL.ydg rfl (Yd.eql rfl rfl) rfl ?_
  refine WL.ydg rfl (Yd.move rfl) rfl ?_
  refine WL.ydg rfl (Yd.eql rfl rfl) rfl ?_
  refine WL.ydg rfl (Yd.neB Try.underlying4 rfl rfl) rfl ?_
  refine WL.know 87 (.bool false) rfl (congrArg Value.bool (by rw [hm0]; decide)) ?_
  refine WL.yd (Yd.pickF rfl rfl) rfl ?_
  refine WL.yd (Yd.move rfl) rfl ?_
  refine WL.ydg rfl (Yd.move rfl) rfl ?_
  refine WL.ydg rfl (Yd.eql rfl rfl) rfl ?_
  refine WL.ydg rfl (Yd.move rfl) rfl ?_
  refine WL.ydg rfl (Yd.move rfl) rfl ?_
  refine WL.sog rfl (SO.call (Enters.val Try.call44 rfl rfl) (fun w hI => clashC_g p a1 _ c1 a2 _ c2 _ _ hR hI.imm hv b2 (2 ^ p.claims.length - 1) (by omega) hP)) rfl ?_
  rintro _ _ _ ⟨rfl, rfl, rfl⟩
  refine WL.ydg rfl (Yd.neB Try.underlying4 rfl rfl) rfl ?_
  refine WL.know 95 (.bool false) rfl (congrArg Value.bool (by rw [every_clash, hok]; decide)) ?_
  refine WL.yd (Yd.pickF rfl rfl) rfl ?_
  refine WL.yd (Yd.move rfl) rfl ?_
  refine WL.ydg rfl (Yd.move rfl) rfl ?_
  refine WL.ydg rfl (Yd.neq rfl rfl) rfl ?_
  refine WL.know 99 (.bool true) rfl (congrArg Value.bool (by decide)) ?_
  refine WL.ydg rfl (Yd.move rfl) rfl ?_
  refine WL.ydg rfl (Yd.move rfl) rfl ?_
  refine WL.ydg rfl (Yd.neq rfl rfl) rfl ?_
  refine WL.know 102 (.bool false) rfl (congrArg Value.bool (by decide)) ?_
  refine WL.ydg rfl (Yd.move rfl) rfl ?_
  refine WL.ydg rfl (Yd.move rfl) rfl ?_
  refine WL.ydg rfl (Yd.neq rfl rfl) rfl ?_
  refine WL.know 105 (.bool false) rfl (congrArg Value.bool (by decide)) ?_
  refine WL.ydg rfl (Yd.pickF rfl rfl) rfl ?_
  refine WL.ydg rfl (Yd.pickT rfl rfl) rfl ?_
  refine WL.yd (Yd.pickF rfl rfl) rfl ?_
  refine WL.yd (Yd.move rfl) rfl ?_
  refine WL.ydg rfl (Yd.move rfl) rfl ?_
  refine WL.ydg rfl (Yd.move rfl) rfl ?_
  refine WL.ydg rfl (Yd.move rfl) rfl ?_
  refine WL.ydg rfl (Yd.andNotI (rest64 _ (by omega) _ (false_at hv).2.1) rfl rfl) rfl ?_
  refine WL.sog rfl (SO.call (Enters.val Try.call44 rfl rfl) (fun w hI => clashC_g p a1 _ c1 a2 _ c2 _ _ hR hI.imm hv b2 (2 ^ p.claims.length - 1 - falseS p) (by omega) hP)) rfl ?_
  rintro _ _ _ ⟨rfl, rfl, rfl⟩
  refine WL.know 114 (.bool false) rfl (congrArg Value.bool (free_left hv)) ?_
  refine WL.yd (Yd.pickF rfl rfl) rfl ?_
  refine WL.nil ?_
  refine WP.thenC ?_
  refine WC.condF rfl ?_
  refine WC.skip ?_
  refine WP.thenC ?_
  refine WC.seq ?_
  refine WC.seqJ (fun _ : Unit => [(2, pt b2), (5, it 0), (6, it 4), (7, nt (pop (falseS p))), (8, nt (falseS p)), (10, .func (.func 44) #[] #[pt b2]), (11, nt (2 ^ p.claims.length - 1)), (12, .func (.func 36) #[] #[]), (13, nt (m1 % 2 ^ p.claims.length)), (140, .bool false)]) (fun _ => []) (fun _ => D1) (fun _ => True) ?_ ?_
  · rintro _ _
    refine WC.condF rfl ?_
    refine WC.skip ?_
    refine WP.thenC ?_
    refine WC.seq ?_
    refine WC.seq ?_
    refine WC.ofFr [(2, _), (5, _), (6, _), (8, _), (10, _), (11, _), (12, _), (13, _)] ⟨rfl, rfl, rfl, rfl, rfl, rfl, rfl, rfl, trivial⟩ ?_
    refine WC.region ?_
    refine WL.yd (Yd.move rfl) rfl ?_
    refine WL.yd (Yd.neq rfl rfl) rfl ?_
    refine WL.know 142 (.bool true) rfl (congrArg Value.bool (by decide)) ?_
    refine WL.nil ?_
    refine WP.thenC ?_
    refine WC.condT rfl ?_
    refine WC.seq ?_
    refine WC.ofFr [(2, _), (5, _), (8, _), (10, _), (11, _), (12, _), (13, _)] ⟨rfl, rfl, rfl, rfl, rfl, rfl, rfl, trivial⟩ ?_
    refine WC.region ?_
    refine WL.so (SO.callP Try.call14 rfl (fun w hI => alive_g _ _ hI.imm)) rfl ?_
    rintro _ _ _ ⟨rfl, rfl, rfl⟩
    refine WL.yd (Yd.assign rfl) rfl ?_
    refine WL.nil ?_
    refine WP.thenC ?_
    refine WC.ret ?_
    refine WP.thenRet ?_
    refine WP.ret1 rfl rfl Try.results10 (RV.tmp rfl) (fun w hI => ⟨rfl, hI.keep⟩)
  · skip
    refine WC.ofFr [(13, _), (12, _), (11, _), (10, _), (8, _), (7, _), (6, _), (5, _), (4, _), (2, _)] ⟨rfl, rfl, rfl, rfl, rfl, rfl, rfl, rfl, rfl, rfl, trivial⟩ ?_
    refine WC.region ?_
    refine WL.yd (Yd.move rfl) rfl ?_
    refine WL.yd (Yd.move rfl) rfl ?_
    refine WL.yd (Yd.move rfl) rfl ?_
    refine WL.yd (Yd.andNotI (rest64 _ (by omega) _ hown) rfl rfl) rfl ?_
    refine WL.so (SO.call (Enters.val Try.call44 rfl rfl) (fun w hI => clashC_g p a1 _ c1 a2 _ c2 _ _ hR hI.imm hv b2 (2 ^ p.claims.length - 1 - (m1 % 2 ^ p.claims.length)) (by omega) hP)) rfl ?_
    rintro _ _ _ ⟨rfl, rfl, rfl⟩
    refine WL.yd (Yd.not rfl) rfl ?_
    refine WL.yd (Yd.move rfl) rfl ?_
    refine WL.part 122 rfl (fun g122 => ?_) (fun g122 => ?_)
    · try simp only [zq1, zq2, zq3, zq4, zq5, zq6, zq7, zq8] at g122
      have hfo : clashB p (everyS p - m1 % 2 ^ p.claims.length) = false := g122
      refine WL.ydg rfl (Yd.move rfl) rfl ?_
      refine WL.ydg rfl (Yd.move rfl) rfl ?_
      refine WL.sog rfl (SO.call (Enters.val Try.call36 rfl rfl) (fun w hI => size_g ((m1 % 2 ^ p.claims.length)) (by omega) _)) rfl ?_
      rintro _ _ _ ⟨rfl, rfl, rfl⟩
      refine WL.ydg rfl (Yd.move rfl) rfl ?_
      refine WL.ydg rfl (Yd.lss rfl rfl) rfl ?_
      refine WL.know 127 (.bool false) rfl (congrArg Value.bool (decide_eq_false (by have := free_least hv hown hfo; omega))) ?_
      refine WL.ydg rfl (Yd.move rfl) rfl ?_
      refine WL.ydg rfl (Yd.move rfl) rfl ?_
      refine WL.ydg rfl (Yd.move rfl) rfl ?_
      refine WL.sog rfl (SO.call (Enters.val Try.call36 rfl rfl) (fun w hI => size_g ((m1 % 2 ^ p.claims.length)) (by omega) _)) rfl ?_
      rintro _ _ _ ⟨rfl, rfl, rfl⟩
      refine WL.ydg rfl (Yd.move rfl) rfl ?_
      refine WL.ydg rfl (Yd.eql rfl rfl) rfl ?_
      refine WL.ydg rfl (Yd.move rfl) rfl ?_
      refine WL.part 134 rfl (fun g134 => ?_) (fun g134 => ?_)
      · try simp only [zq1, zq2, zq3, zq4, zq5, zq6, zq7, zq8] at g134
        refine WL.ydg rfl (Yd.move rfl) rfl ?_
        refine WL.ydg rfl (Yd.move rfl) rfl ?_
        refine WL.ydg rfl (Yd.lss rfl rfl) rfl ?_
        refine WL.know 137 (.bool false) rfl (congrArg Value.bool (decide_eq_false (by have := free_least hv hown hfo; omega))) ?_
        refine WL.ydg rfl (Yd.pickT rfl rfl) rfl ?_
        refine WL.ydg rfl (Yd.pickF rfl rfl) rfl ?_
        refine WL.yd (Yd.pickT rfl rfl) rfl ?_
        refine WL.nil ?_
        exact WP.join () trivial (fun aa ww h => at_fr h ⟨rfl, rfl, rfl, rfl, rfl, rfl, rfl, rfl, rfl, rfl, trivial⟩)
      · try simp only [zq1, zq2, zq3, zq4, zq5, zq6, zq7, zq8] at g134
        refine WL.skip rfl rfl ?_
        refine WL.skip rfl rfl ?_
        refine WL.skip rfl rfl ?_
        refine WL.ydg rfl (Yd.pickF rfl rfl) rfl ?_
        refine WL.ydg rfl (Yd.pickF rfl rfl) rfl ?_
        refine WL.yd (Yd.pickT rfl rfl) rfl ?_
        refine WL.nil ?_
        exact WP.join () trivial (fun aa ww h => at_fr h ⟨rfl, rfl, rfl, rfl, rfl, rfl, rfl, rfl, rfl, rfl, trivial⟩)
    · try simp only [zq1, zq2, zq3, zq4, zq5, zq6, zq7, zq8] at g122
      refine WL.skip rfl rfl ?_
      refine WL.skip rfl rfl ?_
      refine WL.skip rfl rfl ?_
      refine WL.skip rfl rfl ?_
      refine WL.skip rfl rfl ?_
      refine WL.skip rfl rfl ?_
      refine WL.skipU rfl rfl ?_
      refine WL.skipU rfl rfl ?_
      refine WL.skipU rfl rfl ?_
      refine WL.skipU rfl rfl ?_
      refine WL.skipU rfl rfl ?_
      refine WL.skipU rfl rfl ?_
      refine WL.skipU rfl rfl ?_
      refine WL.skipU rfl rfl ?_
      refine WL.skipU rfl rfl ?_
      refine WL.skipU rfl rfl ?_
      refine WL.skip rfl rfl ?_
      refine WL.yd (Yd.pickF rfl rfl) rfl ?_
      refine WL.nil ?_
      exact WP.join () trivial (fun aa ww h => at_fr h ⟨rfl, rfl, rfl, rfl, rfl, rfl, rfl, rfl, rfl, rfl, trivial⟩)

set_option maxRecDepth 100000 in
set_option maxHeartbeats 1000000 in
theorem clash10_b (p : Post) (a1 : Option Addr) (n1 c1 : Nat) (a2 : Option Addr) (n2 c2 : Nat) (D : Imm) (w : World) (hR : PostR D p a1 n1 a2 n2) (hH : Holds D w) (m1 : Nat) (hm1 : m1 ≤ 255) (hl : ¬ (max (n1 : Int) (n2 : Int) > 40)) (hv : postB p = true) (hok : okA p = false) : Gives Try.prog 10 [.agg #[it p.post.lo, it p.post.hi, .slice a1 n1 c1, .slice a2 n2 c2], .int .u8 (m1 : Int)] w (.bool true) := by
  unfold Gives
  obtain rfl := hR.bath.len'
  obtain rfl := hR.claim.len'
  have hl1 := hR.len1
  have hl2 := hR.len2
  have h8 := (post_num hv).2.2.1
  have h0 := Nat.two_pow_pos p.claims.length
  have h256 : 2 ^ p.claims.length ≤ 2 ^ 8 := Nat.pow_le_pow_right (by omega) h8
  have hfl := (false_at hv).2.1
  have hown : m1 % 2 ^ p.claims.length < 2 ^ p.claims.length := Nat.mod_lt _ h0
  have hm0 : ¬ ((pop (falseS p) : Nat) : Int) = 0 := fun h => by
    have := (ok_many hv).2 (by omega)
    rw [hok] at this; cases this
  have hca := clash_at hv hok
  have hcl := hca.2.1
  have hcp := clash_pos hv hok
  refine enter Try.func10 rfl 213 Try.ntmps10 (Nat.le_of_ble_eq_true rfl) (Inv.start hH) ?_
  refine WC.seq ?_
  refine WC.ofFr [(0, _), (1, _)] ⟨rfl, rfl, trivial⟩ ?_
  refine WC.region ?_
  refine WL.so (SO.box rfl rfl) rfl ?_
  rintro _ _ _ ⟨b2, hb2, rfl, rfl, rfl⟩ -- NEW
  refine WL.yd (Yd.assign rfl) rfl ?_
  refine WL.nil ?_
  refine WP.thenC ?_
  refine WC.seq ?_
  refine WC.seq ?_
  refine WC.ofFr [(4, _), (2, _), (1, _)] ⟨rfl, rfl, rfl, trivial⟩ ?_
  refine WC.region ?_
  refine WL.yd (Yd.loadN Try.isAgg27 Try.sizeOf27 rfl (vs := [_, _, _, _]) rfl (by first | exact RdN.own (k := 0) (n := 4) rfl rfl | exact (RdN.imm (n := 4) hP rfl))) rfl ?_
  refine WL.so (SO.callP Try.call38 rfl (fun w hI => long_g _ _ _ _ _ _ _ _ _)) rfl ?_
  rintro _ _ _ ⟨rfl, rfl, rfl⟩
  refine WL.know 16 (.bool false) rfl (congrArg Value.bool (decide_eq_false hl)) ?_
  refine WL.nil ?_
  refine WP.thenC ?_
  refine WC.condF rfl ?_
  refine WC.skip ?_
  refine WP.thenC ?_
  refine WC.seq ?_
  refine WC.ofFr [(4, _), (2, _), (1, _)] ⟨rfl, rfl, rfl, trivial⟩ ?_
  refine WC.region ?_
  refine WL.yd (Yd.loadN Try.isAgg27 Try.sizeOf27 rfl (vs := [_, _, _, _]) rfl (by first | exact RdN.own (k := 0) (n := 4) rfl rfl | exact (RdN.imm (n := 4) hP rfl))) rfl ?_
  refine WL.so (SO.callP Try.call29 rfl (fun w hI => Gives.cv (.tuple #[nt (clashS p), it 0]) (Clash_g p a1 _ c1 a2 _ c2 _ w hR hI.imm) (by rw [clash_out hv hok]))) rfl ?_
  rintro _ _ _ ⟨rfl, rfl, rfl⟩
  refine WL.yd (Yd.move rfl) rfl ?_
  refine WL.yd (Yd.extract rfl rfl) rfl ?_
  refine WL.yd (Yd.extract rfl rfl) rfl ?_
  refine WL.yd (Yd.assign rfl) rfl ?_
  refine WL.yd (Yd.assign rfl) rfl ?_
  refine WL.nil ?_
  refine WP.thenC ?_
  refine WC.seq ?_
  refine WC.ofFr [(6, _), (5, _), (4, _), (2, _), (1, _)] ⟨rfl, rfl, rfl, rfl, rfl, trivial⟩ ?_
  refine WC.region ?_
  refine WL.yd (Yd.loadN Try.isAgg27 Try.sizeOf27 rfl (vs := [_, _, _, _]) rfl (by first | exact RdN.own (k := 0) (n := 4) rfl rfl | exact (RdN.imm (n := 4) hP rfl))) rfl ?_
  refine WL.so (SO.callP Try.call27 rfl (fun w hI => Gives.cv (.tuple #[nt (pop (falseS p)), nt (falseS p), it 0]) (False_g p a1 _ c1 a2 _ c2 _ w hR hI.imm) (by rw [false_out hv]))) rfl ?_
  rintro _ _ _ ⟨rfl, rfl, rfl⟩
  refine WL.yd (Yd.move rfl) rfl ?_
  refine WL.yd (Yd.extract rfl rfl) rfl ?_
  refine WL.yd (Yd.extract rfl rfl) rfl ?_
  refine WL.yd (Yd.extract rfl rfl) rfl ?_
  refine WL.yd (Yd.assign rfl) rfl ?_
  refine WL.yd (Yd.assign rfl) rfl ?_
  refine WL.yd (Yd.assign rfl) rfl ?_
  refine WL.nil ?_
  refine WP.thenC ?_
  refine WC.seq ?_
  refine WC.seq ?_
  refine WC.ofFr [(9, _), (8, _), (7, _), (6, _), (5, _), (4, _), (2, _), (1, _)] ⟨rfl, rfl, rfl, rfl, rfl, rfl, rfl, rfl, trivial⟩ ?_
  refine WC.region ?_
  refine WL.yd (Yd.loadN Try.isAgg27 Try.sizeOf27 rfl (vs := [_, _, _, _]) rfl (by first | exact RdN.own (k := 0) (n := 4) rfl rfl | exact (RdN.imm (n := 4) hP rfl))) rfl ?_
  refine WL.so (SO.callP Try.call39 rfl (fun w hI => rpost_g p a1 _ c1 a2 _ c2 _ w hR hI.imm)) rfl ?_
  rintro _ _ _ ⟨rfl, rfl, rfl⟩
  refine WL.know 30 (.bool true) rfl (congrArg Value.bool hv) ?_
  refine WL.yd (Yd.not rfl) rfl ?_
  refine WL.nil ?_
  refine WP.thenC ?_
  refine WC.condF rfl ?_
  refine WC.skip ?_
  refine WP.thenC ?_
  refine WC.seq ?_
  refine WC.freezeK 0 rfl (fun hn2 => ?_)
  have hX2 : DExt w D (D.add b2 (.cells (List.toArray [it p.post.lo, it p.post.hi, .slice a1 p.bathers.length c1, .slice a2 p.claims.length c2]) 27 (0, 0))) := (DExt.refl w D).add hn2 hb2
  have hP : (D.add b2 (.cells (List.toArray [it p.post.lo, it p.post.hi, .slice a1 p.bathers.length c1, .slice a2 p.claims.length c2]) 27 (0, 0))) b2 = some (.cells (List.toArray [it p.post.lo, it p.post.hi, .slice a1 p.bathers.length c1, .slice a2 p.claims.length c2]) 27 (0, 0)) := Imm.add_self _ _ _
  replace hR := hR.ext hX2
  refine (?_ : WC Try.prog _ _ (D.add b2 (.cells (List.toArray [it p.post.lo, it p.post.hi, .slice a1 p.bathers.length c1, .slice a2 p.claims.length c2]) 27 (0, 0))) [] _ _)
  generalize D.add b2 (.cells (List.toArray [it p.post.lo, it p.post.hi, .slice a1 p.bathers.length c1, .slice a2 p.claims.length c2]) 27 (0, 0)) = D1 at hX2 hP hR ⊢
  refine WC.ofFr [(9, _), (8, _), (7, _), (6, _), (5, _), (4, _), (2, _), (1, _)] ⟨rfl, rfl, rfl, rfl, rfl, rfl, rfl, rfl, trivial⟩ ?_
  refine WC.region ?_
  refine WL.yd (Yd.func rfl rfl) rfl ?_
  refine WL.yd (Yd.assign rfl) rfl ?_
  refine WL.nil ?_
  refine WP.thenC ?_
  refine WC.seq ?_
  refine WC.ofFr [(10, _), (9, _), (8, _), (7, _), (6, _), (5, _), (4, _), (2, _), (1, _)] ⟨rfl, rfl, rfl, rfl, rfl, rfl, rfl, rfl, rfl, trivial⟩ ?_
  refine WC.region ?_
  refine WL.yd (Yd.fieldAddr FA27_2 rfl) rfl ?_
  refine WL.yd (Yd.load1 Try.isAgg25 rfl (by first | exact (Rd.imm hP rfl))) rfl ?_
  refine WL.yd (Yd.lenS rfl Try.underlying25 rfl) rfl ?_
  refine WL.yd (Yd.shl rfl rfl (by omega) (shlN_w p.claims.length (by omega))) rfl ?_
  refine WL.yd (Yd.subN (j := 1) rfl rfl Nat.one_le_two_pow (by omega)) rfl ?_
  refine WL.yd (Yd.assign rfl) rfl ?_
  refine WL.yd (Yd.assign rfl) rfl ?_
  refine WL.nil ?_
  refine WP.thenC ?_
  refine WC.seq ?_
  refine WC.ofFr [(12, _), (11, _), (10, _), (9, _), (8, _), (7, _), (6, _), (5, _), (4, _), (2, _), (1, _)] ⟨rfl, rfl, rfl, rfl, rfl, rfl, rfl, rfl, rfl, rfl, rfl, trivial⟩ ?_
  refine WC.region ?_
  refine WL.yd (Yd.move rfl) rfl ?_
  refine WL.yd (Yd.conv Try.underlying5 Try.underlying3 rfl (wr64 ⟨by omega, by omega⟩)) rfl ?_
  refine WL.yd (Yd.move rfl) rfl ?_
  refine WL.yd (Yd.andI (own_and _ (by omega) m1 (by omega)) rfl rfl) rfl ?_
  refine WL.yd (Yd.assign rfl) rfl ?_
  refine WL.nil ?_
  refine WP.thenC ?_
  refine WC.seq ?_
  refine WC.seq ?_
  refine WC.ofFr [(13, _), (12, _), (11, _), (10, _), (9, _), (8, _), (7, _), (6, _), (5, _), (4, _), (2, _)] ⟨rfl, rfl, rfl, rfl, rfl, rfl, rfl, rfl, rfl, rfl, rfl, trivial⟩ ?_
  refine WC.region ?_
  refine WL.yd (Yd.move rfl) rfl ?_
  refine WL.yd (Yd.neq rfl rfl) rfl ?_
  refine WL.know 65 (.bool false) rfl (congrArg Value.bool (decide_eq_false (by simp))) ?_
  refine WL.yd (Yd.move rfl) rfl ?_
  refine WL.ydg rfl (Yd.move rfl) rfl ?_
  refine WL.ydg rfl (Yd.lss rfl rfl) rfl ?_
  refine WL.know 68 (.bool false) rfl (congrArg Value.bool (decide_eq_false (by omega))) ?_
  refine WL.yd (Yd.pickF rfl rfl) rfl ?_
  refine WL.yd (Yd.move rfl) rfl ?_
  refine WL.ydg rfl (Yd.move rfl) rfl ?_
  refine WL.ydg rfl (Yd.move rfl) rfl ?_
  refine WL.ydg rfl (Yd.gtr rfl rfl) rfl ?_
  refine WL.know 73 (.bool false) rfl (congrArg Value.bool (decide_eq_false (by omega))) ?_
  refine WL.yd (Yd.pickF rfl rfl) rfl ?_
  refine WL.yd (Yd.move rfl) rfl ?_
  refine WL.ydg rfl (Yd.move rfl) rfl ?_
  refine WL.ydg rfl (Yd.move rfl) rfl ?_
  refine WL.sog rfl (SO.call (Enters.val Try.call36 rfl rfl) (fun w hI => size_g (falseS p) (by omega) _)) rfl ?_
  rintro _ _ _ ⟨rfl, rfl, rfl⟩
  refine WL.ydg rfl (Yd.move rfl) rfl ?_
  refine WL.ydg rfl (Yd.neq rfl rfl) rfl ?_
  refine WL.know 80 (.bool false) rfl (congrArg Value.bool (decide_eq_false (by simp))) ?_
  refine WL.yd (Yd.pickF rfl rfl) rfl ?_
  refine WL.yd (Yd.move rfl) rfl ?_
  refine WL.ydg rfl (Yd.move rfl) rfl ?_
  refine WL.ydg rfl (Yd.eql rfl rfl) rfl ?_
  refine WL.ydg rfl (Yd.move rfl) rfl ?_
  refine WL.ydg rfl (Yd.eql rfl rfl) rfl ?_
  refine WL.ydg rfl (Yd.neB Try.underlying4 rfl rfl) rfl ?_
  refine WL.know 87 (.bool false) rfl (congrArg Value.bool (by rw [decide_eq_false hm0]; decide)) ?_
  refine WL.yd (Yd.pickF rfl rfl) rfl ?_
  refine WL.yd (Yd.move rfl) rfl ?_
  refine WL.ydg rfl (Yd.move rfl) rfl ?_
  refine WL.ydg rfl (Yd.eql rfl rfl) rfl ?_
  refine WL.ydg rfl (Yd.move rfl) rfl ?_
  refine WL.ydg rfl (Yd.move rfl) rfl ?_
  refine WL.sog rfl (SO.call (Enters.val Try.call44 rfl rfl) (fun w hI => clashC_g p a1 _ c1 a2 _ c2 _ _ hR hI.imm hv b2 (2 ^ p.claims.length - 1) (by omega) hP)) rfl ?_
  rintro _ _ _ ⟨rfl, rfl, rfl⟩
  refine WL.ydg rfl (Yd.neB Try.underlying4 rfl rfl) rfl ?_
  refine WL.know 95 (.bool false) rfl (congrArg Value.bool (by rw [every_clash, hok]; decide)) ?_
  refine WL.yd (Yd.pickF rfl rfl) rfl ?_
  refine WL.yd (Yd.move rfl) rfl ?_
  refine WL.ydg rfl (Yd.move rfl) rfl ?_
  refine WL.ydg rfl (Yd.neq rfl rfl) rfl ?_
  refine WL.know 99 (.bool false) rfl (congrArg Value.bool (by decide)) ?_
  refine WL.ydg rfl (Yd.move rfl) rfl ?_
  refine WL.skip rfl rfl ?_
  refine WL.skip rfl rfl ?_
  refine WL.skip rfl rfl ?_
  refine WL.skipU rfl rfl ?_
  refine WL.skipU rfl rfl ?_
  refine WL.skip rfl rfl ?_
  refine WL.ydg rfl (Yd.pickF rfl rfl) rfl ?_
  refine WL.yd (Yd.pickF rfl rfl) rfl ?_
  refine WL.yd (Yd.move rfl) rfl ?_
  refine WL.ydg rfl (Yd.move rfl) rfl ?_
  refine WL.ydg rfl (Yd.move rfl) rfl ?_
  refine WL.ydg rfl (Yd.move rfl) rfl ?_
  refine WL.ydg rfl (Yd.andNotI (rest64 _ (by omega) _ (false_at hv).2.1) rfl rfl) rfl ?_
  refine WL.sog rfl (SO.call (Enters.val Try.call44 rfl rfl) (fun w hI => clashC_g p a1 _ c1 a2 _ c2 _ _ hR hI.imm hv b2 (2 ^ p.claims.length - 1 - falseS p) (by omega) hP)) rfl ?_
  rintro _ _ _ ⟨rfl, rfl, rfl⟩
  refine WL.know 114 (.bool false) rfl (congrArg Value.bool (free_left hv)) ?_
  refine WL.yd (Yd.pickF rfl rfl) rfl ?_
  refine WL.nil ?_
  refine WP.thenC ?_
  refine WC.condF rfl ?_
  refine WC.skip ?_
  refine WP.thenC ?_
  refine WC.seq ?_
  refine WC.seqJ (fun _ : Unit => [(2, pt b2), (5, nt (clashS p)), (6, it 0), (7, nt (pop (falseS p))), (8, nt (falseS p)), (10, .func (.func 44) #[] #[pt b2]), (11, nt (2 ^ p.claims.length - 1)), (12, .func (.func 36) #[] #[]), (13, nt (m1 % 2 ^ p.claims.length)), (140, .bool false)]) (fun _ => []) (fun _ => D1) (fun _ => True) ?_ ?_
  · rintro _ _
    refine WC.condF rfl ?_
    refine WC.skip ?_
    refine WP.thenC ?_
    refine WC.seq ?_
    refine WC.seq ?_
    refine WC.ofFr [(2, _), (5, _), (6, _), (8, _), (10, _), (11, _), (12, _), (13, _)] ⟨rfl, rfl, rfl, rfl, rfl, rfl, rfl, rfl, trivial⟩ ?_
    refine WC.region ?_
    refine WL.yd (Yd.move rfl) rfl ?_
    refine WL.yd (Yd.neq rfl rfl) rfl ?_
    refine WL.know 142 (.bool false) rfl (congrArg Value.bool (by decide)) ?_
    refine WL.nil ?_
    refine WP.thenC ?_
    refine WC.condF rfl ?_
    refine WC.skip ?_
    refine WP.thenC ?_
    refine WC.seq ?_
    refine WC.seq ?_
    refine WC.ofFr [(2, _), (5, _), (8, _), (10, _), (11, _), (12, _), (13, _)] ⟨rfl, rfl, rfl, rfl, rfl, rfl, rfl, trivial⟩ ?_
    refine WC.region ?_
    refine WL.yd (Yd.move rfl) rfl ?_
    refine WL.yd (Yd.lss rfl rfl) rfl ?_
    refine WL.know 145 (.bool false) rfl (congrArg Value.bool (decide_eq_false (by omega))) ?_
    refine WL.yd (Yd.move rfl) rfl ?_
    refine WL.ydg rfl (Yd.move rfl) rfl ?_
    refine WL.ydg rfl (Yd.move rfl) rfl ?_
    refine WL.ydg rfl (Yd.gtr rfl rfl) rfl ?_
    refine WL.know 149 (.bool false) rfl (congrArg Value.bool (decide_eq_false (by omega))) ?_
    refine WL.yd (Yd.pickF rfl rfl) rfl ?_
    refine WL.yd (Yd.move rfl) rfl ?_
    refine WL.ydg rfl (Yd.move rfl) rfl ?_
    refine WL.ydg rfl (Yd.move rfl) rfl ?_
    refine WL.sog rfl (SO.call (Enters.val Try.call44 rfl rfl) (fun w hI => clashC_g p a1 _ c1 a2 _ c2 _ _ hR hI.imm hv b2 (clashS p) (by omega) hP)) rfl ?_
    rintro _ _ _ ⟨rfl, rfl, rfl⟩
    refine WL.know 154 (.bool true) rfl (congrArg Value.bool hca.1) ?_
    refine WL.ydg rfl (Yd.not rfl) rfl ?_
    refine WL.yd (Yd.pickF rfl rfl) rfl ?_
    refine WL.yd (Yd.move rfl) rfl ?_
    refine WL.ydg rfl (Yd.move rfl) rfl ?_
    refine WL.ydg rfl (Yd.move rfl) rfl ?_
    refine WL.ydg rfl (Yd.andI (nat_and (by omega)) rfl rfl) rfl ?_
    refine WL.ydg rfl (Yd.eql rfl rfl) rfl ?_
    refine WL.know 161 (.bool false) rfl (congrArg Value.bool (decide_eq_false (clash_and hv hok))) ?_
    refine WL.yd (Yd.pickF rfl rfl) rfl ?_
    refine WL.nil ?_
    refine WP.thenC ?_
    refine WC.condF rfl ?_
    refine WC.skip ?_
    refine WP.thenC ?_
    refine WC.seq ?_
    refine WC.seq ?_
    refine WC.ofFr [(2, _), (5, _), (10, _), (12, _), (13, _)] ⟨rfl, rfl, rfl, rfl, rfl, trivial⟩ ?_
    refine WC.region ?_
    refine WL.yd (Yd.fieldAddr FA27_2 rfl) rfl ?_
    refine WL.yd (Yd.load1 Try.isAgg25 rfl (by first | exact (Rd.imm hP rfl))) rfl ?_
    refine WL.yd (Yd.lenS rfl Try.underlying25 rfl) rfl ?_
    refine WL.yd (Yd.move rfl) rfl ?_
    refine WL.nil ?_
    refine WP.thenC ?_
    refine WC.block ?_
    refine WC.loopF (fun k : Nat => [(5, nt (clashS p)), (10, .func (.func 44) #[] #[pt b2]), (12, .func (.func 36) #[] #[]), (13, nt (m1 % 2 ^ p.claims.length)), (165, nt p.claims.length), (166, nt k)]) (fun k => k ≤ p.claims.length) (fun k => p.claims.length - k) 0 (by omega) (by exact ⟨rfl, rfl, rfl, rfl, rfl, rfl, trivial⟩) ?_
    intro k hk
    refine WC.seq ?_
    refine WC.ofFr [(5, _), (10, _), (12, _), (13, _), (165, _), (166, _)] ⟨rfl, rfl, rfl, rfl, rfl, rfl, trivial⟩ ?_
    refine WC.region ?_
    refine WL.yd (Yd.lss rfl rfl) rfl ?_
    refine WL.nil ?_
    refine WP.thenC ?_
    refine WC.seq ?_
    refine WC.cond rfl (fun c167 => ?_) (fun c167 => ?_)
    · try simp only [zq1, zq2, zq3, zq4, zq5, zq6, zq7, zq8] at c167
      have hk2 := Nat.two_pow_pos k
      refine WC.skip ?_
      refine WP.thenC ?_
      refine WC.seq ?_
      refine WC.block ?_
      refine WC.seq ?_
      refine WC.ofFr [(5, _), (10, _), (12, _), (13, _), (165, _), (166, _)] ⟨rfl, rfl, rfl, rfl, rfl, rfl, trivial⟩ ?_
      refine WC.region ?_
      refine WL.yd (Yd.move rfl) rfl ?_
      refine WL.yd (Yd.assign rfl) rfl ?_
      refine WL.nil ?_
      refine WP.thenC ?_
      refine WC.seq ?_
      refine WC.ofFr [(14, _), (5, _), (10, _), (12, _), (13, _), (165, _), (166, _)] ⟨rfl, rfl, rfl, rfl, rfl, rfl, rfl, trivial⟩ ?_
      refine WC.region ?_
      refine WL.yd (Yd.move rfl) rfl ?_
      refine WL.yd (Yd.move rfl) rfl ?_
      refine WL.yd (Yd.shrN rfl rfl (by omega)) rfl ?_
      refine WL.yd (Yd.and1N rfl rfl) rfl ?_
      refine WL.yd (Yd.eql rfl rfl) rfl ?_
      refine WL.yd (Yd.move rfl) rfl ?_
      refine WL.part 174 rfl (fun g174 => ?_) (fun g174 => ?_)
      · try simp only [zq1, zq2, zq3, zq4, zq5, zq6, zq7, zq8] at g174
        have hbi : clashS p / 2 ^ k % 2 = 1 := nat_one.1 g174
        refine WL.ydg rfl (Yd.move rfl) rfl ?_
        refine WL.ydg rfl (Yd.move rfl) rfl ?_
        refine WL.ydg rfl (Yd.move rfl) rfl ?_
        refine WL.ydg rfl (Yd.shl rfl rfl (by omega) (shlN_w k (by omega))) rfl ?_
        refine WL.ydg rfl (Yd.andNotI (drop64 _ (by omega) k (by omega) hbi) rfl rfl) rfl ?_
        refine WL.sog rfl (SO.call (Enters.val Try.call44 rfl rfl) (fun w hI => clashC_g p a1 _ c1 a2 _ c2 _ _ hR hI.imm hv b2 (clashS p - 2 ^ k) (by omega) hP)) rfl ?_
        rintro _ _ _ ⟨rfl, rfl, rfl⟩
        refine WL.know 180 (.bool false) rfl (congrArg Value.bool (clash_less hv hok (by omega) hbi)) ?_
        refine WL.yd (Yd.pickT rfl rfl) rfl ?_
        refine WL.nil ?_
        refine WP.thenC ?_
        refine WC.condF rfl ?_
        refine WC.skip ?_
        refine WP.blkNormal ?_
        refine WP.thenC ?_
        refine WC.ofFr [(5, _), (10, _), (12, _), (13, _), (165, _), (166, _)] ⟨rfl, rfl, rfl, rfl, rfl, rfl, trivial⟩ ?_
        refine WC.region ?_
        refine WL.yd (Yd.add rfl rfl (wr64 ⟨by omega, by omega⟩)) rfl ?_
        refine WL.yd (Yd.move rfl) rfl ?_
        refine WL.nil ?_
        exact WP.againF (k + 1) (by omega) (by omega) ⟨rfl, rfl, rfl, rfl, rfl, rfl, trivial⟩ (fun _ h => h) (fun h => h)
      · try simp only [zq1, zq2, zq3, zq4, zq5, zq6, zq7, zq8] at g174
        refine WL.skip rfl rfl ?_
        refine WL.skip rfl rfl ?_
        refine WL.skip rfl rfl ?_
        refine WL.skip rfl rfl ?_
        refine WL.skip rfl rfl ?_
        refine WL.skip rfl rfl ?_
        refine WL.yd (Yd.pickF rfl rfl) rfl ?_
        refine WL.nil ?_
        refine WP.thenC ?_
        refine WC.condF rfl ?_
        refine WC.skip ?_
        refine WP.blkNormal ?_
        refine WP.thenC ?_
        refine WC.ofFr [(5, _), (10, _), (12, _), (13, _), (165, _), (166, _)] ⟨rfl, rfl, rfl, rfl, rfl, rfl, trivial⟩ ?_
        refine WC.region ?_
        refine WL.yd (Yd.add rfl rfl (wr64 ⟨by omega, by omega⟩)) rfl ?_
        refine WL.yd (Yd.move rfl) rfl ?_
        refine WL.nil ?_
        exact WP.againF (k + 1) (by omega) (by omega) ⟨rfl, rfl, rfl, rfl, rfl, rfl, trivial⟩ (fun _ h => h) (fun h => h)
    · try simp only [zq1, zq2, zq3, zq4, zq5, zq6, zq7, zq8] at c167
      refine WC.exit ?_
      refine WP.thenExit ?_
      refine WP.thenExit ?_
      refine WP.blkHit ?_
      refine WP.thenC ?_
      refine WC.seq ?_
      refine WC.ofFr [(5, _), (10, _), (12, _), (13, _)] ⟨rfl, rfl, rfl, rfl, trivial⟩ ?_
      refine WC.region ?_
      refine WL.yd (Yd.move rfl) rfl ?_
      refine WL.yd (Yd.move rfl) rfl ?_
      refine WL.so (SO.call (Enters.val Try.call44 rfl rfl) (fun w hI => clashC_g p a1 _ c1 a2 _ c2 _ _ hR hI.imm hv b2 ((m1 % 2 ^ p.claims.length)) (by omega) hP)) rfl ?_
      rintro _ _ _ ⟨rfl, rfl, rfl⟩
      refine WL.yd (Yd.not rfl) rfl ?_
      refine WL.yd (Yd.move rfl) rfl ?_
      refine WL.part 187 rfl (fun g187 => ?_) (fun g187 => ?_)
      · try simp only [zq1, zq2, zq3, zq4, zq5, zq6, zq7, zq8] at g187
        refine WL.skip rfl rfl ?_
        refine WL.skip rfl rfl ?_
        refine WL.skip rfl rfl ?_
        refine WL.skip rfl rfl ?_
        refine WL.skip rfl rfl ?_
        refine WL.skip rfl rfl ?_
        refine WL.skip rfl rfl ?_
        refine WL.yd (Yd.pickT rfl rfl) rfl ?_
        refine WL.yd (Yd.move rfl) rfl ?_
        refine WL.skip rfl rfl ?_
        refine WL.skip rfl rfl ?_
        refine WL.skip rfl rfl ?_
        refine WL.skip rfl rfl ?_
        refine WL.skip rfl rfl ?_
        refine WL.skip rfl rfl ?_
        refine WL.skip rfl rfl ?_
        refine WL.skip rfl rfl ?_
        refine WL.skipU rfl rfl ?_
        refine WL.skipU rfl rfl ?_
        refine WL.skipU rfl rfl ?_
        refine WL.skip rfl rfl ?_
        refine WL.yd (Yd.pickT rfl rfl) rfl ?_
        refine WL.yd (Yd.move rfl) rfl ?_
        refine WL.sog rfl (SO.callP Try.call14 rfl (fun w hI => alive_g _ _ hI.imm)) rfl ?_
        rintro _ _ _ ⟨rfl, rfl, rfl⟩
        refine WL.know 211 (.bool true) rfl rfl ?_
        refine WL.yd (Yd.pickT rfl rfl) rfl ?_
        refine WL.yd (Yd.assign rfl) rfl ?_
        refine WL.nil ?_
        refine WP.thenC ?_
        refine WC.ret ?_
        refine WP.ret1 rfl rfl Try.results10 (RV.tmp rfl) (fun w hI => ⟨rfl, hI.keep⟩)
      · try simp only [zq1, zq2, zq3, zq4, zq5, zq6, zq7, zq8] at g187
        have hco : clashB p (m1 % 2 ^ p.claims.length) = true := g187
        refine WL.ydg rfl (Yd.move rfl) rfl ?_
        refine WL.ydg rfl (Yd.move rfl) rfl ?_
        refine WL.sog rfl (SO.call (Enters.val Try.call36 rfl rfl) (fun w hI => size_g ((m1 % 2 ^ p.claims.length)) (by omega) _)) rfl ?_
        rintro _ _ _ ⟨rfl, rfl, rfl⟩
        refine WL.ydg rfl (Yd.move rfl) rfl ?_
        refine WL.ydg rfl (Yd.move rfl) rfl ?_
        refine WL.sog rfl (SO.call (Enters.val Try.call36 rfl rfl) (fun w hI => size_g (clashS p) (by omega) _)) rfl ?_
        rintro _ _ _ ⟨rfl, rfl, rfl⟩
        refine WL.ydg rfl (Yd.gtr rfl rfl) rfl ?_
        refine WL.yd (Yd.pickF rfl rfl) rfl ?_
        refine WL.yd (Yd.move rfl) rfl ?_
        refine WL.part 196 rfl (fun g196 => ?_) (fun g196 => ?_)
        · try simp only [zq1, zq2, zq3, zq4, zq5, zq6, zq7, zq8] at g196
          refine WL.skip rfl rfl ?_
          refine WL.skip rfl rfl ?_
          refine WL.skip rfl rfl ?_
          refine WL.skip rfl rfl ?_
          refine WL.skip rfl rfl ?_
          refine WL.skip rfl rfl ?_
          refine WL.skip rfl rfl ?_
          refine WL.skip rfl rfl ?_
          refine WL.skipU rfl rfl ?_
          refine WL.skipU rfl rfl ?_
          refine WL.skipU rfl rfl ?_
          refine WL.skip rfl rfl ?_
          refine WL.yd (Yd.pickT rfl rfl) rfl ?_
          refine WL.yd (Yd.move rfl) rfl ?_
          refine WL.sog rfl (SO.callP Try.call14 rfl (fun w hI => alive_g _ _ hI.imm)) rfl ?_
          rintro _ _ _ ⟨rfl, rfl, rfl⟩
          refine WL.know 211 (.bool true) rfl rfl ?_
          refine WL.yd (Yd.pickT rfl rfl) rfl ?_
          refine WL.yd (Yd.assign rfl) rfl ?_
          refine WL.nil ?_
          refine WP.thenC ?_
          refine WC.ret ?_
          refine WP.ret1 rfl rfl Try.results10 (RV.tmp rfl) (fun w hI => ⟨rfl, hI.keep⟩)
        · try simp only [zq1, zq2, zq3, zq4, zq5, zq6, zq7, zq8] at g196
          refine WL.ydg rfl (Yd.move rfl) rfl ?_
          refine WL.ydg rfl (Yd.move rfl) rfl ?_
          refine WL.sog rfl (SO.call (Enters.val Try.call36 rfl rfl) (fun w hI => size_g ((m1 % 2 ^ p.claims.length)) (by omega) _)) rfl ?_
          rintro _ _ _ ⟨rfl, rfl, rfl⟩
          refine WL.ydg rfl (Yd.move rfl) rfl ?_
          refine WL.ydg rfl (Yd.move rfl) rfl ?_
          refine WL.sog rfl (SO.call (Enters.val Try.call36 rfl rfl) (fun w hI => size_g (clashS p) (by omega) _)) rfl ?_
          rintro _ _ _ ⟨rfl, rfl, rfl⟩
          refine WL.ydg rfl (Yd.eql rfl rfl) rfl ?_
          refine WL.know 203 (.bool true) rfl (congrArg Value.bool (decide_eq_true (by have := clash_least hv hok hown hco; omega))) ?_
          refine WL.ydg rfl (Yd.move rfl) rfl ?_
          refine WL.ydg rfl (Yd.move rfl) rfl ?_
          refine WL.ydg rfl (Yd.move rfl) rfl ?_
          refine WL.ydg rfl (Yd.geq rfl rfl) rfl ?_
          refine WL.know 207 (.bool true) rfl (congrArg Value.bool (decide_eq_true (by have := clash_least hv hok hown hco; omega))) ?_
          refine WL.ydg rfl (Yd.pickT rfl rfl) rfl ?_
          refine WL.yd (Yd.pickF rfl rfl) rfl ?_
          refine WL.yd (Yd.move rfl) rfl ?_
          refine WL.sog rfl (SO.callP Try.call14 rfl (fun w hI => alive_g _ _ hI.imm)) rfl ?_
          rintro _ _ _ ⟨rfl, rfl, rfl⟩
          refine WL.know 211 (.bool true) rfl rfl ?_
          refine WL.yd (Yd.pickT rfl rfl) rfl ?_
          refine WL.yd (Yd.assign rfl) rfl ?_
          refine WL.nil ?_
          refine WP.thenC ?_
          refine WC.ret ?_
          refine WP.ret1 rfl rfl Try.results10 (RV.tmp rfl) (fun w hI => ⟨rfl, hI.keep⟩)
  · skip
    refine WC.ofFr [(13, _), (12, _), (11, _), (10, _), (8, _), (7, _), (6, _), (5, _), (4, _), (2, _)] ⟨rfl, rfl, rfl, rfl, rfl, rfl, rfl, rfl, rfl, rfl, trivial⟩ ?_
    refine WC.region ?_
    refine WL.yd (Yd.move rfl) rfl ?_
    refine WL.yd (Yd.move rfl) rfl ?_
    refine WL.yd (Yd.move rfl) rfl ?_
    refine WL.yd (Yd.andNotI (rest64 _ (by omega) _ hown) rfl rfl) rfl ?_
    refine WL.so (SO.call (Enters.val Try.call44 rfl rfl) (fun w hI => clashC_g p a1 _ c1 a2 _ c2 _ _ hR hI.imm hv b2 (2 ^ p.claims.length - 1 - (m1 % 2 ^ p.claims.length)) (by omega) hP)) rfl ?_
    rintro _ _ _ ⟨rfl, rfl, rfl⟩
    refine WL.yd (Yd.not rfl) rfl ?_
    refine WL.yd (Yd.move rfl) rfl ?_
    refine WL.part 122 rfl (fun g122 => ?_) (fun g122 => ?_)
    · try simp only [zq1, zq2, zq3, zq4, zq5, zq6, zq7, zq8] at g122
      have hfo : clashB p (everyS p - m1 % 2 ^ p.claims.length) = false := g122
      refine WL.ydg rfl (Yd.move rfl) rfl ?_
      refine WL.ydg rfl (Yd.move rfl) rfl ?_
      refine WL.sog rfl (SO.call (Enters.val Try.call36 rfl rfl) (fun w hI => size_g ((m1 % 2 ^ p.claims.length)) (by omega) _)) rfl ?_
      rintro _ _ _ ⟨rfl, rfl, rfl⟩
      refine WL.ydg rfl (Yd.move rfl) rfl ?_
      refine WL.ydg rfl (Yd.lss rfl rfl) rfl ?_
      refine WL.know 127 (.bool false) rfl (congrArg Value.bool (decide_eq_false (by have := free_least hv hown hfo; omega))) ?_
      refine WL.ydg rfl (Yd.move rfl) rfl ?_
      refine WL.ydg rfl (Yd.move rfl) rfl ?_
      refine WL.ydg rfl (Yd.move rfl) rfl ?_
      refine WL.sog rfl (SO.call (Enters.val Try.call36 rfl rfl) (fun w hI => size_g ((m1 % 2 ^ p.claims.length)) (by omega) _)) rfl ?_
      rintro _ _ _ ⟨rfl, rfl, rfl⟩
      refine WL.ydg rfl (Yd.move rfl) rfl ?_
      refine WL.ydg rfl (Yd.eql rfl rfl) rfl ?_
      refine WL.ydg rfl (Yd.move rfl) rfl ?_
      refine WL.part 134 rfl (fun g134 => ?_) (fun g134 => ?_)
      · try simp only [zq1, zq2, zq3, zq4, zq5, zq6, zq7, zq8] at g134
        refine WL.ydg rfl (Yd.move rfl) rfl ?_
        refine WL.ydg rfl (Yd.move rfl) rfl ?_
        refine WL.ydg rfl (Yd.lss rfl rfl) rfl ?_
        refine WL.know 137 (.bool false) rfl (congrArg Value.bool (decide_eq_false (by have := free_least hv hown hfo; omega))) ?_
        refine WL.ydg rfl (Yd.pickT rfl rfl) rfl ?_
        refine WL.ydg rfl (Yd.pickF rfl rfl) rfl ?_
        refine WL.yd (Yd.pickT rfl rfl) rfl ?_
        refine WL.nil ?_
        exact WP.join () trivial (fun aa ww h => at_fr h ⟨rfl, rfl, rfl, rfl, rfl, rfl, rfl, rfl, rfl, rfl, trivial⟩)
      · try simp only [zq1, zq2, zq3, zq4, zq5, zq6, zq7, zq8] at g134
        refine WL.skip rfl rfl ?_
        refine WL.skip rfl rfl ?_
        refine WL.skip rfl rfl ?_
        refine WL.ydg rfl (Yd.pickF rfl rfl) rfl ?_
        refine WL.ydg rfl (Yd.pickF rfl rfl) rfl ?_
        refine WL.yd (Yd.pickT rfl rfl) rfl ?_
        refine WL.nil ?_
        exact WP.join () trivial (fun aa ww h => at_fr h ⟨rfl, rfl, rfl, rfl, rfl, rfl, rfl, rfl, rfl, rfl, trivial⟩)
    · try simp only [zq1, zq2, zq3, zq4, zq5, zq6, zq7, zq8] at g122
      refine WL.skip rfl rfl ?_
      refine WL.skip rfl rfl ?_
      refine WL.skip rfl rfl ?_
      refine WL.skip rfl rfl ?_
      refine WL.skip rfl rfl ?_
      refine WL.skip rfl rfl ?_
      refine WL.skipU rfl rfl ?_
      refine WL.skipU rfl rfl ?_
      refine WL.skipU rfl rfl ?_
      refine WL.skipU rfl rfl ?_
      refine WL.skipU rfl rfl ?_
      refine WL.skipU rfl rfl ?_
      refine WL.skipU rfl rfl ?_
      refine WL.skipU rfl rfl ?_
      refine WL.skipU rfl rfl ?_
      refine WL.skipU rfl rfl ?_
      refine WL.skip rfl rfl ?_
      refine WL.yd (Yd.pickF rfl rfl) rfl ?_
      refine WL.nil ?_
      exact WP.join () trivial (fun aa ww h => at_fr h ⟨rfl, rfl, rfl, rfl, rfl, rfl, rfl, rfl, rfl, rfl, trivial⟩)

theorem clash10_g (p : Post) (a1 : Option Addr) (n1 c1 : Nat) (a2 : Option Addr) (n2 c2 : Nat) (D : Imm) (w : World) (s1 : SlL D 3 (p.bathers.map bathC) a1 n1) (s2 : SlL D 3 (p.claims.map claimC) a2 n2) (hH : Holds D w) (m1 : Nat) (hm1 : m1 ≤ 255) : Gives Try.prog 10 [.agg #[it p.post.lo, it p.post.hi, .slice a1 n1 c1, .slice a2 n2 c2], .int .u8 (m1 : Int)] w (.bool true) := by
  by_cases hl : max (n1 : Int) (n2 : Int) > 40
  · exact clash10_l _ _ a1 n1 c1 a2 n2 c2 m1 D w hH hl
  · have hR : PostR D p a1 n1 a2 n2 := ⟨s1, s2, by omega, by omega⟩
    cases hv : postB p with
    | false => exact clash10_a p a1 n1 c1 a2 n2 c2 D w hR hH m1 hl hv
    | true =>
      cases hok : okA p with
      | false => exact clash10_b p a1 n1 c1 a2 n2 c2 D w hR hH m1 hm1 hl hv hok
      | true => exact clash10_o p a1 n1 c1 a2 n2 c2 D w hR hH m1 hm1 hl hv hok

end Go.Proofs.Ytkhmmefgllbobaa
