import Derived.Test.YtkhmmefgllbobaaXZB
set_option linter.unusedSimpArgs false
set_option linter.unusedVariables false
set_option linter.all false
/- A claim more: nothing is told less exactly. No program in sight. -/
namespace Go.Proofs.Ytkhmmefgllbobaa
open Go.W Go.Po
theorem wrong_with (p : Post) (c : PClaim) (x : Nat → Int) : wrongN p x ≤ wrongN (withP p c) x ∧ wrongN (withP p c) x ≤ wrongN p x + 1 := by
  unfold wrongN withP
  dsimp only
  rw [List.countP_append]
  simp only [List.countP_cons, List.countP_nil]
  split <;> omega
theorem more_many {p : Post} (hv : postB p = true) {c : PClaim} (hv2 : postB (withP p c) = true) : pop (falseS p) ≤ pop (falseS (withP p c)) ∧ pop (falseS (withP p c)) ≤ pop (falseS p) + 1 := by
  obtain ⟨x, hx, ex⟩ := many_at hv2
  obtain ⟨y, hy, ey⟩ := many_at hv
  have h1 := many_le hv (inP_with.1 hx)
  have h2 := many_le hv2 (inP_with.2 hy)
  have h3 := wrong_with p c x
  have h4 := wrong_with p c y
  omega
theorem more_ok {p : Post} (hv : postB p = true) {c : PClaim} (hv2 : postB (withP p c) = true) (hok : okA (withP p c) = true) : okA p = true := by
  obtain ⟨x, hx⟩ := (ok_iff hv2).1 hok
  exact (ok_iff hv).2 ⟨x, (sol_with.1 hx).1⟩
def circP (p : Post) (a b d : Int) : Post := withP (withP (withP p ⟨a, b, false⟩) ⟨b, d, false⟩) ⟨d, a, false⟩
theorem more_circle {p : Post} (hv : postB p = true) (h5 : p.claims.length ≤ 5) {a b d : Int} (ha : whoP p a = true) (hb : whoP p b = true) (hd : whoP p d = true) : (ClashOut (circP p a b d)).2 = 0 := by
  have v1 := with_ok hv (by omega) (c := ⟨a, b, false⟩) (and_t ha hb)
  have v2 := with_ok v1 (by rw [with_len]; omega) (c := ⟨b, d, false⟩) (and_t hb hd)
  have v3 := with_ok v2 (by rw [with_len, with_len]; omega) (c := ⟨d, a, false⟩) (and_t hd ha)
  refine (clash_is0 v3).2 ?_
  rintro ⟨x, hx⟩
  rw [sol_with, sol_with, sol_with] at hx
  obtain ⟨⟨⟨_, h1⟩, h2⟩, h3⟩ := hx
  have := cok_bef.1 h1
  have := cok_bef.1 h2
  have := cok_bef.1 h3
  omega
section
variable {p : Post} {c : PClaim} (hv : postB p = true) (hv2 : postB (withP p c) = true) (hok : okA (withP p c) = true) {a b : Int} (ha : whoP p a = true) (hb : whoP p b = true)
include hv hv2 hok ha
theorem more_place : -GA p (ix a) 0 ≤ -GA (withP p c) (ix a) 0 ∧ GA (withP p c) 0 (ix a) ≤ GA p 0 (ix a) := by
  have hok1 := more_ok hv hv2 hok
  have ha2 : whoP (withP p c) a = true := ha
  obtain ⟨h1, _⟩ := own_in hv2 hok ha2
  obtain ⟨x, hx, ex⟩ := (place_in hv2 hok ha2 (-GA (withP p c) (ix a) 0)).1 ⟨Int.le_refl _, h1⟩
  obtain ⟨y, hy, ey⟩ := (place_in hv2 hok ha2 (GA (withP p c) 0 (ix a))).1 ⟨h1, Int.le_refl _⟩
  have h2 := (place_in hv hok1 ha _).2 ⟨x, (sol_with.1 hx).1, ex⟩
  have h3 := (place_in hv hok1 ha _).2 ⟨y, (sol_with.1 hy).1, ey⟩
  exact ⟨h2.1, h3.2⟩
include hb
theorem more_near : (nearS (-GA p (ix b) (ix a)) (GA p (ix a) (ix b))).lo ≤ (nearS (-GA (withP p c) (ix b) (ix a)) (GA (withP p c) (ix a) (ix b))).lo ∧ (nearS (-GA (withP p c) (ix b) (ix a)) (GA (withP p c) (ix a) (ix b))).hi ≤ (nearS (-GA p (ix b) (ix a)) (GA p (ix a) (ix b))).hi := by
  have hok1 := more_ok hv hv2 hok
  have ha2 : whoP (withP p c) a = true := ha
  have hb2 : whoP (withP p c) b = true := hb
  obtain ⟨z, hz⟩ := (ok_iff hv2).1 hok
  have h0 := near_at hv2 hok ha2 hb2 hz
  have hle := (gap_in hv2 hok ha2 hb2 _).2 ⟨z, hz, rfl⟩
  have key : ∀ m, (nearS (-GA (withP p c) (ix b) (ix a)) (GA (withP p c) (ix a) (ix b))).lo ≤ m ∧ m ≤ (nearS (-GA (withP p c) (ix b) (ix a)) (GA (withP p c) (ix a) (ix b))).hi → (nearS (-GA p (ix b) (ix a)) (GA p (ix a) (ix b))).lo ≤ m ∧ m ≤ (nearS (-GA p (ix b) (ix a)) (GA p (ix a) (ix b))).hi := fun m hm => by
    obtain ⟨v, h1, h2, rfl⟩ := (near_in (by omega) m).1 hm
    obtain ⟨x, hx, rfl⟩ := (gap_in hv2 hok ha2 hb2 v).1 ⟨h1, h2⟩
    exact near_at hv hok1 ha hb (sol_with.1 hx).1
  exact ⟨(key _ ⟨Int.le_refl _, by omega⟩).1, (key _ ⟨by omega, Int.le_refl _⟩).2⟩
theorem more_bef : befG p a b = 1 ∨ befG (withP p c) a b = befG p a b := by
  have hok1 := more_ok hv hv2 hok
  have ha2 : whoP (withP p c) a = true := ha
  have hb2 : whoP (withP p c) b = true := hb
  by_cases h2 : befG p a b = 2
  · refine .inr (h2 ▸ (bef_is2 hv2 hok ha2 hb2).2 ?_)
    rintro ⟨x, hx, hn⟩
    exact (bef_is2 hv hok1 ha hb).1 h2 ⟨x, (sol_with.1 hx).1, hn⟩
  · by_cases h0 : befG p a b = 0
    · refine .inr (h0 ▸ (bef_is0 hv2 hok ha2 hb2).2 ?_)
      rintro ⟨x, hx, hn⟩
      exact (bef_is0 hv hok1 ha hb).1 h0 ⟨x, (sol_with.1 hx).1, hn⟩
    · left
      unfold befG gradeI at *
      split at h2 <;> split at h0 <;> simp_all
end
theorem more_can {p : Post} {c : PClaim} (hv : postB p = true) (hv2 : postB (withP p c) = true) {i : Nat} (hi : i < p.bathers.length) (b : Bool) (h : canBreak (withP p c) i b = true) : canBreak p i b = true := by
  obtain ⟨x, hx, hb⟩ := (can_iff hv2 (i := i) hi b).1 h
  exact (can_iff hv hi b).2 ⟨x, (sol_with.1 hx).1, hb⟩
theorem more_all {p : Post} {c : PClaim} (hv : postB p = true) (hv2 : postB (withP p c) = true) : IntKind.i64.wrap ((BitVec.ofInt 64 ((allS p : Nat) : Int) &&& ~~~(BitVec.ofInt 64 ((allS (withP p c) : Nat) : Int))).toNat) = 0 :=
  sub_not _ (setTo_32 _ (post_num hv).2.1) _ (setTo_32 _ (post_num hv2).2.1) fun i _ => setTo_sub (f := fun i => !canBreak p i false) (g := fun i => !canBreak (withP p c) i false) (n := p.bathers.length) (fun i hi h => by
    cases hc : canBreak (withP p c) i false with
    | false => rfl
    | true => rw [more_can hv hv2 hi _ hc] at h; cases h) i
theorem more_some {p : Post} {c : PClaim} (hv : postB p = true) (hv2 : postB (withP p c) = true) : IntKind.i64.wrap ((BitVec.ofInt 64 ((someS (withP p c) : Nat) : Int) &&& ~~~(BitVec.ofInt 64 ((someS p : Nat) : Int))).toNat) = 0 :=
  sub_not _ (setTo_32 _ (post_num hv2).2.1) _ (setTo_32 _ (post_num hv).2.1) fun i _ => setTo_sub (f := fun i => canBreak (withP p c) i true) (g := fun i => canBreak p i true) (n := p.bathers.length) (fun i hi h => more_can hv hv2 hi _ h) i
end Go.Proofs.Ytkhmmefgllbobaa
namespace Go.Proofs.Ytkhmmefgllbobaa
open Go.W Go.Po

set_option maxRecDepth 100000 in
set_option maxHeartbeats 1000000 in
theorem in45_g (a b c d : Int) (w : World) : Gives Try.prog 45 [.agg #[it a, it b], .agg #[it c, it d]] w (.bool (decide (a ≥ c) && decide (b ≤ d))) := by
  unfold Gives
  refine enter Try.func45 rfl 17 Try.ntmps45 (Nat.le_of_ble_eq_true rfl) (Inv.start (D := fun _ => none) (by intro _ _ h; cases h)) ?_
  refine WC.seq ?_
  refine WC.ofFr [(0, _), (1, _)] ⟨rfl, rfl, trivial⟩ ?_
  refine WC.region ?_
  refine WL.so (SO.box rfl rfl) rfl ?_
  rintro _ _ _ ⟨b2, hb2, rfl, rfl, rfl⟩ -- NEW
  refine WL.so (SO.box rfl rfl) rfl ?_
  rintro _ _ _ ⟨b3, hb3, rfl, rfl, rfl⟩ -- NEW
  refine WL.yd (Yd.assign rfl) rfl ?_
  refine WL.nil ?_
  refine WP.thenC ?_
  refine WC.seq ?_
  refine WC.ofFr [(4, _), (3, _), (2, _)] ⟨rfl, rfl, rfl, trivial⟩ ?_
  refine WC.region ?_
  refine WL.yd (Yd.fieldAddr FA23_0 rfl) rfl ?_
  refine WL.yd (Yd.load1 Try.isAgg3 rfl (by first | exact Rd.own (k := 0) rfl rfl | exact Rd.own (k := 1) rfl rfl)) rfl ?_
  refine WL.yd (Yd.fieldAddr FA23_0 rfl) rfl ?_
  refine WL.yd (Yd.load1 Try.isAgg3 rfl (by first | exact Rd.own (k := 0) rfl rfl | exact Rd.own (k := 1) rfl rfl)) rfl ?_
  refine WL.yd (Yd.geq rfl rfl) rfl ?_
  refine WL.yd (Yd.move rfl) rfl ?_
  refine WL.part 10 rfl (fun g10 => ?_) (fun g10 => ?_)
  · try simp only [zq1, zq2, zq3, zq4, zq5, zq6, zq7, zq8] at g10
    refine WL.ydg rfl (Yd.fieldAddr FA23_1 rfl) rfl ?_
    refine WL.ydg rfl (Yd.load1 Try.isAgg3 rfl (by first | exact Rd.own (k := 0) rfl rfl | exact Rd.own (k := 1) rfl rfl)) rfl ?_
    refine WL.ydg rfl (Yd.fieldAddr FA23_1 rfl) rfl ?_
    refine WL.ydg rfl (Yd.load1 Try.isAgg3 rfl (by first | exact Rd.own (k := 0) rfl rfl | exact Rd.own (k := 1) rfl rfl)) rfl ?_
    refine WL.ydg rfl (Yd.leq rfl rfl) rfl ?_
    refine WL.yd (Yd.pickT rfl rfl) rfl ?_
    refine WL.yd (Yd.assign rfl) rfl ?_
    refine WL.nil ?_
    refine WP.thenC ?_
    refine WC.ret ?_
    refine WP.ret1 rfl rfl Try.results45 (RV.tmp rfl) (fun w hI => ⟨ret_bool (by simp_all <;> omega), hI.keep⟩)
  · try simp only [zq1, zq2, zq3, zq4, zq5, zq6, zq7, zq8] at g10
    refine WL.skip rfl rfl ?_
    refine WL.skip rfl rfl ?_
    refine WL.skip rfl rfl ?_
    refine WL.skip rfl rfl ?_
    refine WL.skip rfl rfl ?_
    refine WL.yd (Yd.pickF rfl rfl) rfl ?_
    refine WL.yd (Yd.assign rfl) rfl ?_
    refine WL.nil ?_
    refine WP.thenC ?_
    refine WC.ret ?_
    refine WP.ret1 rfl rfl Try.results45 (RV.tmp rfl) (fun w hI => ⟨ret_bool (by simp_all <;> omega), hI.keep⟩)

set_option maxRecDepth 100000 in
set_option maxHeartbeats 1000000 in
theorem more11_l (lo hi : Int) (a1 : Option Addr) (n1 c1 : Nat) (a2 : Option Addr) (n2 c2 : Nat) (c : PClaim) (m1 m2 m3 : Nat) (D : Imm) (w : World) (hH : Holds D w) (hl : max (n1 : Int) (n2 : Int) > 40) : Gives Try.prog 11 [.agg #[it lo, it hi, .slice a1 n1 c1, .slice a2 n2 c2], .agg #[it c.a, it c.b, .bool c.not], .int .u8 (m1 : Int), .int .u8 (m2 : Int), .int .u8 (m3 : Int)] w (.bool true) := by
  unfold Gives
  refine enter Try.func11 rfl 266 Try.ntmps11 (Nat.le_of_ble_eq_true rfl) (Inv.start hH) ?_
  refine WC.seq ?_
  refine WC.ofFr [(0, _), (1, _), (2, _), (3, _), (4, _)] ⟨rfl, rfl, rfl, rfl, rfl, trivial⟩ ?_
  refine WC.region ?_
  refine WL.so (SO.box rfl rfl) rfl ?_
  rintro _ _ _ ⟨b5, hb5, rfl, rfl, rfl⟩ -- NEW
  refine WL.so (SO.box rfl rfl) rfl ?_
  rintro _ _ _ ⟨b6, hb6, rfl, rfl, rfl⟩ -- NEW
  refine WL.yd (Yd.assign rfl) rfl ?_
  refine WL.nil ?_
  refine WP.thenC ?_
  refine WC.seq ?_
  refine WC.seq ?_
  refine WC.ofFr [(10, _), (6, _), (5, _), (2, _), (3, _), (4, _)] ⟨rfl, rfl, rfl, rfl, rfl, rfl, trivial⟩ ?_
  refine WC.region ?_
  refine WL.yd (Yd.loadN Try.isAgg27 Try.sizeOf27 rfl (vs := [_, _, _, _]) rfl (by first | exact RdN.own (k := 0) (n := 4) rfl rfl | exact RdN.own (k := 1) (n := 4) rfl rfl)) rfl ?_
  refine WL.so (SO.callP Try.call38 rfl (fun w hI => long_g _ _ _ _ _ _ _ _ _)) rfl ?_
  rintro _ _ _ ⟨rfl, rfl, rfl⟩
  refine WL.know 47 (.bool true) rfl (congrArg Value.bool (decide_eq_true hl)) ?_
  refine WL.yd (Yd.move rfl) rfl ?_
  refine WL.skip rfl rfl ?_
  refine WL.skip rfl rfl ?_
  refine WL.skip rfl rfl ?_
  refine WL.yd (Yd.pickT rfl rfl) rfl ?_
  refine WL.yd (Yd.move rfl) rfl ?_
  refine WL.skip rfl rfl ?_
  refine WL.skip rfl rfl ?_
  refine WL.skip rfl rfl ?_
  refine WL.skip rfl rfl ?_
  refine WL.yd (Yd.pickT rfl rfl) rfl ?_
  refine WL.nil ?_
  refine WP.thenC ?_
  refine WC.condT rfl ?_
  refine WC.seq ?_
  refine WC.ofFr [(10, _), (6, _), (5, _), (2, _), (3, _), (4, _)] ⟨rfl, rfl, rfl, rfl, rfl, rfl, trivial⟩ ?_
  refine WC.region ?_
  refine WL.so (SO.callP Try.call14 rfl (fun w hI => alive_g _ _ hI.imm)) rfl ?_
  rintro _ _ _ ⟨rfl, rfl, rfl⟩
  refine WL.yd (Yd.assign rfl) rfl ?_
  refine WL.nil ?_
  refine WP.thenC ?_
  refine WC.ret ?_
  refine WP.thenRet ?_
  refine WP.ret1 rfl rfl Try.results11 (RV.tmp rfl) (fun w hI => ⟨rfl, hI.keep⟩)

set_option maxRecDepth 100000 in
set_option maxHeartbeats 1000000 in
theorem more11_a (p : Post) (a1 : Option Addr) (n1 c1 : Nat) (a2 : Option Addr) (n2 c2 : Nat) (D : Imm) (w : World) (hR : PostR D p a1 n1 a2 n2) (hH : Holds D w) (c : PClaim) (m1 m2 m3 : Nat) (hl : ¬ (max (n1 : Int) (n2 : Int) > 40)) (hv : postB p = false) : Gives Try.prog 11 [.agg #[it p.post.lo, it p.post.hi, .slice a1 n1 c1, .slice a2 n2 c2], .agg #[it c.a, it c.b, .bool c.not], .int .u8 (m1 : Int), .int .u8 (m2 : Int), .int .u8 (m3 : Int)] w (.bool true) := by
  unfold Gives
  obtain rfl := hR.bath.len'
  obtain rfl := hR.claim.len'
  have hl1 := hR.len1
  have hl2 := hR.len2
  refine enter Try.func11 rfl 266 Try.ntmps11 (Nat.le_of_ble_eq_true rfl) (Inv.start hH) ?_
  refine WC.seq ?_
  refine WC.ofFr [(0, _), (1, _), (2, _), (3, _), (4, _)] ⟨rfl, rfl, rfl, rfl, rfl, trivial⟩ ?_
  refine WC.region ?_
  refine WL.so (SO.box rfl rfl) rfl ?_
  rintro _ _ _ ⟨b5, hb5, rfl, rfl, rfl⟩ -- NEW
  refine WL.so (SO.box rfl rfl) rfl ?_
  rintro _ _ _ ⟨b6, hb6, rfl, rfl, rfl⟩ -- NEW
  refine WL.yd (Yd.assign rfl) rfl ?_
  refine WL.nil ?_
  refine WP.thenC ?_
  refine WC.seq ?_
  refine WC.seq ?_
  refine WC.ofFr [(10, _), (6, _), (5, _), (2, _), (3, _), (4, _)] ⟨rfl, rfl, rfl, rfl, rfl, rfl, trivial⟩ ?_
  refine WC.region ?_
  refine WL.yd (Yd.loadN Try.isAgg27 Try.sizeOf27 rfl (vs := [_, _, _, _]) rfl (by first | exact RdN.own (k := 0) (n := 4) rfl rfl | exact RdN.own (k := 1) (n := 4) rfl rfl)) rfl ?_
  refine WL.so (SO.callP Try.call38 rfl (fun w hI => long_g _ _ _ _ _ _ _ _ _)) rfl ?_
  rintro _ _ _ ⟨rfl, rfl, rfl⟩
  refine WL.know 47 (.bool false) rfl (congrArg Value.bool (decide_eq_false hl)) ?_
  refine WL.yd (Yd.move rfl) rfl ?_
  refine WL.ydg rfl (Yd.loadN Try.isAgg27 Try.sizeOf27 rfl (vs := [_, _, _, _]) rfl (by first | exact RdN.own (k := 0) (n := 4) rfl rfl | exact RdN.own (k := 1) (n := 4) rfl rfl)) rfl ?_
  refine WL.sog rfl (SO.callP Try.call39 rfl (fun w hI => rpost_g p a1 _ c1 a2 _ c2 _ w hR hI.imm)) rfl ?_
  rintro _ _ _ ⟨rfl, rfl, rfl⟩
  refine WL.know 50 (.bool false) rfl (congrArg Value.bool hv) ?_
  refine WL.ydg rfl (Yd.not rfl) rfl ?_
  refine WL.yd (Yd.pickF rfl rfl) rfl ?_
  refine WL.yd (Yd.move rfl) rfl ?_
  refine WL.skip rfl rfl ?_
  refine WL.skip rfl rfl ?_
  refine WL.skip rfl rfl ?_
  refine WL.skip rfl rfl ?_
  refine WL.yd (Yd.pickT rfl rfl) rfl ?_
  refine WL.nil ?_
  refine WP.thenC ?_
  refine WC.condT rfl ?_
  refine WC.seq ?_
  refine WC.ofFr [(10, _), (6, _), (5, _), (2, _), (3, _), (4, _)] ⟨rfl, rfl, rfl, rfl, rfl, rfl, trivial⟩ ?_
  refine WC.region ?_
  refine WL.so (SO.callP Try.call14 rfl (fun w hI => alive_g _ _ hI.imm)) rfl ?_
  rintro _ _ _ ⟨rfl, rfl, rfl⟩
  refine WL.yd (Yd.assign rfl) rfl ?_
  refine WL.nil ?_
  refine WP.thenC ?_
  refine WC.ret ?_
  refine WP.thenRet ?_
  refine WP.ret1 rfl rfl Try.results11 (RV.tmp rfl) (fun w hI => ⟨rfl, hI.keep⟩)

set_option maxRecDepth 100000 in
set_option maxHeartbeats 1000000 in
theorem more11_m (p : Post) (a1 : Option Addr) (n1 c1 : Nat) (a2 : Option Addr) (n2 c2 : Nat) (D : Imm) (w : World) (hR : PostR D p a1 n1 a2 n2) (hH : Holds D w) (c : PClaim) (m1 m2 m3 : Nat) (hl : ¬ (max (n1 : Int) (n2 : Int) > 40)) (hv : postB p = true) (hm : 6 ≤ p.claims.length) : Gives Try.prog 11 [.agg #[it p.post.lo, it p.post.hi, .slice a1 n1 c1, .slice a2 n2 c2], .agg #[it c.a, it c.b, .bool c.not], .int .u8 (m1 : Int), .int .u8 (m2 : Int), .int .u8 (m3 : Int)] w (.bool true) := by
  unfold Gives
  obtain rfl := hR.bath.len'
  obtain rfl := hR.claim.len'
  have hl1 := hR.len1
  have hl2 := hR.len2
  refine enter Try.func11 rfl 266 Try.ntmps11 (Nat.le_of_ble_eq_true rfl) (Inv.start hH) ?_
  refine WC.seq ?_
  refine WC.ofFr [(0, _), (1, _), (2, _), (3, _), (4, _)] ⟨rfl, rfl, rfl, rfl, rfl, trivial⟩ ?_
  refine WC.region ?_
  refine WL.so (SO.box rfl rfl) rfl ?_
  rintro _ _ _ ⟨b5, hb5, rfl, rfl, rfl⟩ -- NEW
  refine WL.so (SO.box rfl rfl) rfl ?_
  rintro _ _ _ ⟨b6, hb6, rfl, rfl, rfl⟩ -- NEW
  refine WL.yd (Yd.assign rfl) rfl ?_
  refine WL.nil ?_
  refine WP.thenC ?_
  refine WC.seq ?_
  refine WC.seq ?_
  refine WC.ofFr [(10, _), (6, _), (5, _), (2, _), (3, _), (4, _)] ⟨rfl, rfl, rfl, rfl, rfl, rfl, trivial⟩ ?_
  refine WC.region ?_
  refine WL.yd (Yd.loadN Try.isAgg27 Try.sizeOf27 rfl (vs := [_, _, _, _]) rfl (by first | exact RdN.own (k := 0) (n := 4) rfl rfl | exact RdN.own (k := 1) (n := 4) rfl rfl)) rfl ?_
  refine WL.so (SO.callP Try.call38 rfl (fun w hI => long_g _ _ _ _ _ _ _ _ _)) rfl ?_
  rintro _ _ _ ⟨rfl, rfl, rfl⟩
  refine WL.know 47 (.bool false) rfl (congrArg Value.bool (decide_eq_false hl)) ?_
  refine WL.yd (Yd.move rfl) rfl ?_
  refine WL.ydg rfl (Yd.loadN Try.isAgg27 Try.sizeOf27 rfl (vs := [_, _, _, _]) rfl (by first | exact RdN.own (k := 0) (n := 4) rfl rfl | exact RdN.own (k := 1) (n := 4) rfl rfl)) rfl ?_
  refine WL.sog rfl (SO.callP Try.call39 rfl (fun w hI => rpost_g p a1 _ c1 a2 _ c2 _ w hR hI.imm)) rfl ?_
  rintro _ _ _ ⟨rfl, rfl, rfl⟩
  refine WL.know 50 (.bool true) rfl (congrArg Value.bool hv) ?_
  refine WL.ydg rfl (Yd.not rfl) rfl ?_
  refine WL.yd (Yd.pickF rfl rfl) rfl ?_
  refine WL.yd (Yd.move rfl) rfl ?_
  refine WL.ydg rfl (Yd.fieldAddr FA27_2 rfl) rfl ?_
  refine WL.ydg rfl (Yd.load1 Try.isAgg25 rfl (by first | exact Rd.own (k := 0) rfl rfl | exact Rd.own (k := 1) rfl rfl)) rfl ?_
  refine WL.ydg rfl (Yd.lenS rfl Try.underlying25 rfl) rfl ?_
  refine WL.ydg rfl (Yd.gtr rfl rfl) rfl ?_
  refine WL.know 57 (.bool true) rfl (congrArg Value.bool (decide_eq_true (by omega))) ?_
  refine WL.yd (Yd.pickF rfl rfl) rfl ?_
  refine WL.nil ?_
  refine WP.thenC ?_
  refine WC.condT rfl ?_
  refine WC.seq ?_
  refine WC.ofFr [(10, _), (6, _), (5, _), (2, _), (3, _), (4, _)] ⟨rfl, rfl, rfl, rfl, rfl, rfl, trivial⟩ ?_
  refine WC.region ?_
  refine WL.so (SO.callP Try.call14 rfl (fun w hI => alive_g _ _ hI.imm)) rfl ?_
  rintro _ _ _ ⟨rfl, rfl, rfl⟩
  refine WL.yd (Yd.assign rfl) rfl ?_
  refine WL.nil ?_
  refine WP.thenC ?_
  refine WC.ret ?_
  refine WP.thenRet ?_
  refine WP.ret1 rfl rfl Try.results11 (RV.tmp rfl) (fun w hI => ⟨rfl, hI.keep⟩)

set_option maxRecDepth 100000 in
set_option maxHeartbeats 1000000 in
theorem more11_x (p : Post) (a1 : Option Addr) (n1 c1 : Nat) (a2 : Option Addr) (n2 c2 : Nat) (D : Imm) (w : World) (hR : PostR D p a1 n1 a2 n2) (hH : Holds D w) (c : PClaim) (m1 m2 m3 : Nat) (hm1 : m1 ≤ 255) (hm2 : m2 ≤ 255) (hm3 : m3 ≤ 255) (hl : ¬ (max (n1 : Int) (n2 : Int) > 40)) (hv : postB p = true) (hm : p.claims.length ≤ 5) (hv2 : postB (withP p c) = false) : Gives Try.prog 11 [.agg #[it p.post.lo, it p.post.hi, .slice a1 n1 c1, .slice a2 n2 c2], .agg #[it c.a, it c.b, .bool c.not], .int .u8 (m1 : Int), .int .u8 (m2 : Int), .int .u8 (m3 : Int)] w (.bool true) := by
  unfold Gives
  obtain rfl := hR.bath.len'
  obtain rfl := hR.claim.len'
  have hl1 := hR.len1
  have hl2 := hR.len2
  have h5 := hm
  have hp8 := pop_8 (falseS p)
  have hx1 : 0 ≤ (m1 : Int) % ((p.bathers.length : Int) + 1) ∧ (m1 : Int) % ((p.bathers.length : Int) + 1) < (p.bathers.length : Int) + 1 := ⟨Int.emod_nonneg _ (by omega), Int.emod_lt_of_pos _ (by omega)⟩
  have hx2 : 0 ≤ (m2 : Int) % ((p.bathers.length : Int) + 1) ∧ (m2 : Int) % ((p.bathers.length : Int) + 1) < (p.bathers.length : Int) + 1 := ⟨Int.emod_nonneg _ (by omega), Int.emod_lt_of_pos _ (by omega)⟩
  have hx3 : 0 ≤ (m3 : Int) % ((p.bathers.length : Int) + 1) ∧ (m3 : Int) % ((p.bathers.length : Int) + 1) < (p.bathers.length : Int) + 1 := ⟨Int.emod_nonneg _ (by omega), Int.emod_lt_of_pos _ (by omega)⟩
  refine enter Try.func11 rfl 266 Try.ntmps11 (Nat.le_of_ble_eq_true rfl) (Inv.start hH) ?_
  refine WC.seq ?_
  refine WC.ofFr [(0, _), (1, _), (2, _), (3, _), (4, _)] ⟨rfl, rfl, rfl, rfl, rfl, trivial⟩ ?_
  refine WC.region ?_
  refine WL.so (SO.box rfl rfl) rfl ?_
  rintro _ _ _ ⟨b5, hb5, rfl, rfl, rfl⟩ -- NEW
  refine WL.so (SO.box rfl rfl) rfl ?_
  rintro _ _ _ ⟨b6, hb6, rfl, rfl, rfl⟩ -- NEW
  refine WL.yd (Yd.assign rfl) rfl ?_
  refine WL.nil ?_
  refine WP.thenC ?_
  refine WC.seq ?_
  refine WC.seq ?_
  refine WC.ofFr [(10, _), (6, _), (5, _), (2, _), (3, _), (4, _)] ⟨rfl, rfl, rfl, rfl, rfl, rfl, trivial⟩ ?_
  refine WC.region ?_
  refine WL.yd (Yd.loadN Try.isAgg27 Try.sizeOf27 rfl (vs := [_, _, _, _]) rfl (by first | exact RdN.own (k := 0) (n := 4) rfl rfl | exact RdN.own (k := 1) (n := 4) rfl rfl)) rfl ?_
  refine WL.so (SO.callP Try.call38 rfl (fun w hI => long_g _ _ _ _ _ _ _ _ _)) rfl ?_
  rintro _ _ _ ⟨rfl, rfl, rfl⟩
  refine WL.know 47 (.bool false) rfl (congrArg Value.bool (decide_eq_false hl)) ?_
  refine WL.yd (Yd.move rfl) rfl ?_
  refine WL.ydg rfl (Yd.loadN Try.isAgg27 Try.sizeOf27 rfl (vs := [_, _, _, _]) rfl (by first | exact RdN.own (k := 0) (n := 4) rfl rfl | exact RdN.own (k := 1) (n := 4) rfl rfl)) rfl ?_
  refine WL.sog rfl (SO.callP Try.call39 rfl (fun w hI => rpost_g p a1 _ c1 a2 _ c2 _ w hR hI.imm)) rfl ?_
  rintro _ _ _ ⟨rfl, rfl, rfl⟩
  refine WL.know 50 (.bool true) rfl (congrArg Value.bool hv) ?_
  refine WL.ydg rfl (Yd.not rfl) rfl ?_
  refine WL.yd (Yd.pickF rfl rfl) rfl ?_
  refine WL.yd (Yd.move rfl) rfl ?_
  refine WL.ydg rfl (Yd.fieldAddr FA27_2 rfl) rfl ?_
  refine WL.ydg rfl (Yd.load1 Try.isAgg25 rfl (by first | exact Rd.own (k := 0) rfl rfl | exact Rd.own (k := 1) rfl rfl)) rfl ?_
  refine WL.ydg rfl (Yd.lenS rfl Try.underlying25 rfl) rfl ?_
  refine WL.ydg rfl (Yd.gtr rfl rfl) rfl ?_
  refine WL.know 57 (.bool false) rfl (congrArg Value.bool (decide_eq_false (by omega))) ?_
  refine WL.yd (Yd.pickF rfl rfl) rfl ?_
  refine WL.nil ?_
  refine WP.thenC ?_
  refine WC.condF rfl ?_
  refine WC.skip ?_
  refine WP.thenC ?_
  refine WC.seq ?_
  refine WC.ofFr [(10, _), (6, _), (5, _), (2, _), (3, _), (4, _)] ⟨rfl, rfl, rfl, rfl, rfl, rfl, trivial⟩ ?_
  refine WC.region ?_
  refine WL.yd (Yd.fieldAddr FA27_1 rfl) rfl ?_
  refine WL.yd (Yd.load1 Try.isAgg24 rfl (by first | exact Rd.own (k := 0) rfl rfl | exact Rd.own (k := 1) rfl rfl)) rfl ?_
  refine WL.yd (Yd.lenS rfl Try.underlying24 rfl) rfl ?_
  refine WL.yd (Yd.add rfl rfl (wr64 ⟨by omega, by omega⟩)) rfl ?_
  refine WL.yd (Yd.assign rfl) rfl ?_
  refine WL.nil ?_
  refine WP.thenC ?_
  refine WC.seq ?_
  refine WC.ofFr [(11, _), (10, _), (6, _), (5, _), (2, _), (3, _), (4, _)] ⟨rfl, rfl, rfl, rfl, rfl, rfl, rfl, trivial⟩ ?_
  refine WC.tail 17 [0, 1, 2, 3, 4, 5, 6, 7, 8, 9, 10, 11, 12, 13, 14, 15, 16] rfl (by kernel_rfl) (by kernel_rfl)  ?_
  refine WQ.q rfl (Yd.qt (Yd.move rfl)) rfl ?_
  refine WQ.q rfl (Yd.qt (Yd.conv Try.underlying5 Try.underlying3 rfl (wr64 ⟨by omega, by omega⟩))) rfl ?_
  refine WQ.q rfl (Yd.qt (Yd.move rfl)) rfl ?_
  refine WQ.q rfl (Yd.qt (Yd.rem rfl rfl (by omega) (by omega))) rfl ?_
  refine WQ.q rfl (Yd.qt (Yd.sub rfl rfl (wr64 ⟨by omega, by omega⟩))) rfl ?_
  refine WQ.q rfl (Yd.qt (Yd.move rfl)) rfl ?_
  refine WQ.q rfl (Yd.qt (Yd.conv Try.underlying5 Try.underlying3 rfl (wr64 ⟨by omega, by omega⟩))) rfl ?_
  refine WQ.q rfl (Yd.qt (Yd.move rfl)) rfl ?_
  refine WQ.q rfl (Yd.qt (Yd.rem rfl rfl (by omega) (by omega))) rfl ?_
  refine WQ.q rfl (Yd.qt (Yd.sub rfl rfl (wr64 ⟨by omega, by omega⟩))) rfl ?_
  refine WQ.q rfl (Yd.qt (Yd.move rfl)) rfl ?_
  refine WQ.q rfl (Yd.qt (Yd.conv Try.underlying5 Try.underlying3 rfl (wr64 ⟨by omega, by omega⟩))) rfl ?_
  refine WQ.q rfl (Yd.qt (Yd.move rfl)) rfl ?_
  refine WQ.q rfl (Yd.qt (Yd.rem rfl rfl (by omega) (by omega))) rfl ?_
  refine WQ.q rfl (Yd.qt (Yd.sub rfl rfl (wr64 ⟨by omega, by omega⟩))) rfl ?_
  refine WQ.q rfl (Yd.qt (Yd.assign rfl)) rfl ?_
  refine WQ.q rfl (Yd.qt (Yd.assign rfl)) rfl ?_
  refine WQ.tail ?_
  refine WL.yd (Yd.assign rfl) rfl ?_
  refine WL.nil ?_
  refine WP.thenC ?_
  generalize hEa : (m1 : Int) % ((p.bathers.length : Int) + 1) - 1 = a
  have hwa : whoP p a = true := decide_eq_true ⟨by omega, by omega⟩
  generalize hEb : (m2 : Int) % ((p.bathers.length : Int) + 1) - 1 = b
  have hwb : whoP p b = true := decide_eq_true ⟨by omega, by omega⟩
  generalize hEd : (m3 : Int) % ((p.bathers.length : Int) + 1) - 1 = d
  have hwd : whoP p d = true := decide_eq_true ⟨by omega, by omega⟩
  refine WC.seqJ (fun y : Imm × Nat × Option Addr × Nat => [(5, pt b5), (6, pt b6), (12, it a), (13, it b), (15, pt y.2.1)]) (fun y => [(y.2.1, .cells (List.toArray [it p.post.lo, it p.post.hi, .slice a1 p.bathers.length c1, .slice y.2.2.1 (p.claims.length + 1 + 1 + 1) y.2.2.2]) 27 (0, 0)), (b6, .cells (List.toArray [it c.a, it c.b, .bool c.not]) 47 (0, 0)), (b5, .cells (List.toArray [it p.post.lo, it p.post.hi, .slice a1 p.bathers.length c1, .slice a2 p.claims.length c2]) 27 (0, 0))]) (fun y => y.1) (fun y => DExt w D y.1 ∧ PostR y.1 (circP p a b d) a1 p.bathers.length y.2.2.1 (p.claims.length + 1 + 1 + 1)) ?_ ?_
  · rintro ⟨Dn, b15, ad, cd⟩ ⟨hXn, hRd⟩
    dsimp only at hXn hRd
    replace hR := hR.ext hXn
    refine WC.seq ?_
    refine WC.seq ?_
    refine WC.ofFr [(5, _), (6, _), (12, _), (13, _), (15, _)] ⟨rfl, rfl, rfl, rfl, rfl, trivial⟩ ?_
    refine WC.region ?_
    refine WL.yd (Yd.loadN Try.isAgg27 Try.sizeOf27 rfl (vs := [_, _, _, _]) rfl (by first | exact RdN.own (k := 0) (n := 4) rfl rfl | exact RdN.own (k := 1) (n := 4) rfl rfl | exact RdN.own (k := 2) (n := 4) rfl rfl)) rfl ?_
    refine WL.so (SO.callP Try.call29 rfl (fun w hI => Clash_g (circP p a b d) a1 _ c1 ad _ cd _ w hRd hI.imm)) rfl ?_
    rintro _ _ _ ⟨rfl, rfl, rfl⟩
    refine WL.yd (Yd.move rfl) rfl ?_
    refine WL.yd (Yd.extract rfl rfl) rfl ?_
    refine WL.yd (Yd.extract rfl rfl) rfl ?_
    refine WL.yd (Yd.assign rfl) rfl ?_
    refine WL.yd (Yd.assign rfl) rfl ?_
    refine WL.nil ?_
    refine WP.thenC ?_
    refine WC.seq ?_
    refine WC.ofFr [(17, _), (5, _), (6, _), (12, _), (13, _)] ⟨rfl, rfl, rfl, rfl, rfl, trivial⟩ ?_
    refine WC.region ?_
    refine WL.yd (Yd.move rfl) rfl ?_
    refine WL.yd (Yd.neq rfl rfl) rfl ?_
    refine WL.know 98 (.bool false) rfl (congrArg Value.bool (decide_eq_false (fun h => h (more_circle hv hm hwa hwb hwd)))) ?_
    refine WL.nil ?_
    refine WP.thenC ?_
    refine WC.condF rfl ?_
    refine WC.skip ?_
    refine WP.thenC ?_
    refine WC.seq ?_
    refine WC.ofFr [(5, _), (6, _), (12, _), (13, _)] ⟨rfl, rfl, rfl, rfl, trivial⟩ ?_
    refine WC.region ?_
    refine WL.yd (Yd.loadN Try.isAgg27 Try.sizeOf27 rfl (vs := [_, _, _, _]) rfl (by first | exact RdN.own (k := 0) (n := 4) rfl rfl | exact RdN.own (k := 1) (n := 4) rfl rfl | exact RdN.own (k := 2) (n := 4) rfl rfl)) rfl ?_
    refine WL.yd (Yd.loadN Try.isAgg47 Try.sizeOf47 rfl (vs := [_, _, _]) rfl (by first | exact RdN.own (k := 0) (n := 3) rfl rfl | exact RdN.own (k := 1) (n := 3) rfl rfl | exact RdN.own (k := 2) (n := 3) rfl rfl)) rfl ?_
    refine WL.so (SO.makes (Enters.func Try.call41 rfl) (fun w hI => with_g p a1 _ c1 a2 _ c2 _ w hR hI.imm c)) rfl ?_
    rintro _ D31 _ ⟨hX31, ⟨a31, c31, rfl, hR31⟩, rfl⟩
    replace hR31 := hR31 (by omega)
    replace hR := hR.ext hX31
    refine WL.so (SO.alloc Try.zeroValue27 rfl) rfl ?_
    rintro _ _ _ ⟨b18, hb18, rfl, rfl, rfl⟩ -- NEW
    refine WL.so (SO.store 0 rfl Try.sizeOf27 rfl rfl rfl rfl (Nat.le_of_ble_eq_true rfl) (oneB_spec rfl)) rfl ?_
    rintro _ _ _ ⟨rfl, rfl, rfl⟩
    refine WL.nil ?_
    refine WP.thenC ?_
    refine WC.seq ?_
    refine WC.seq ?_
    refine WC.ofFr [(18, _), (5, _), (12, _), (13, _)] ⟨rfl, rfl, rfl, rfl, trivial⟩ ?_
    refine WC.region ?_
    refine WL.yd (Yd.loadN Try.isAgg27 Try.sizeOf27 rfl (vs := [_, _, _, _]) rfl (by first | exact RdN.own (k := 0) (n := 4) rfl rfl | exact RdN.own (k := 1) (n := 4) rfl rfl | exact RdN.own (k := 2) (n := 4) rfl rfl | exact RdN.own (k := 3) (n := 4) rfl rfl)) rfl ?_
    refine WL.so (SO.callP Try.call39 rfl (fun w hI => rpost_g (withP p c) a1 _ c1 a31 _ c31 _ w hR31 hI.imm)) rfl ?_
    rintro _ _ _ ⟨rfl, rfl, rfl⟩
    refine WL.know 103 (.bool false) rfl (congrArg Value.bool hv2) ?_
    refine WL.yd (Yd.not rfl) rfl ?_
    refine WL.nil ?_
    refine WP.thenC ?_
    refine WC.condT rfl ?_
    refine WC.seq ?_
    refine WC.ofFr [(18, _), (5, _), (12, _), (13, _)] ⟨rfl, rfl, rfl, rfl, trivial⟩ ?_
    refine WC.region ?_
    refine WL.so (SO.callP Try.call14 rfl (fun w hI => alive_g _ _ hI.imm)) rfl ?_
    rintro _ _ _ ⟨rfl, rfl, rfl⟩
    refine WL.yd (Yd.assign rfl) rfl ?_
    refine WL.nil ?_
    refine WP.thenC ?_
    refine WC.ret ?_
    refine WP.thenRet ?_
    refine WP.ret1 rfl rfl Try.results11 (RV.tmp rfl) (fun w hI => ⟨rfl, hI.keep⟩)
  · skip
    refine WC.ofFr [(14, _), (13, _), (12, _), (10, _), (6, _), (5, _)] ⟨rfl, rfl, rfl, rfl, rfl, rfl, trivial⟩ ?_
    refine WC.drawH [(b5, .cells (List.toArray [it p.post.lo, it p.post.hi, .slice a1 p.bathers.length c1, .slice a2 p.claims.length c2]) 27 (0, 0))] (by kernel_rfl) (fun _ hI => Inv.pick 1 rfl hI) ?_
    refine WH.yd (i := 0) (by kernel_rfl) (fun _ o v c a w _ h => (QuietPanic.then QuietPanic.body) c o.dst v a w h) rfl (Yd.loadN Try.isAgg27 Try.sizeOf27 rfl (vs := [_, _, _, _]) rfl (by first | exact RdN.own (k := 0) (n := 4) rfl rfl | exact RdN.own (k := 1) (n := 4) rfl rfl)) rfl ?_
    refine WH.yd (i := 1) (by kernel_rfl) (fun _ o v c a w _ h => (QuietPanic.then QuietPanic.body) c o.dst v a w h) rfl (Yd.move rfl) rfl ?_
    refine WH.yd (i := 2) (by kernel_rfl) (fun _ o v c a w _ h => (QuietPanic.then QuietPanic.body) c o.dst v a w h) rfl (Yd.move rfl) rfl ?_
    refine WH.yd (i := 5) (by kernel_rfl) (fun _ o v c a w _ h => (QuietPanic.then QuietPanic.body) c o.dst v a w h) rfl (Yd.move rfl) rfl ?_
    refine WH.yd (i := 6) (by kernel_rfl) (fun _ o v c a w _ h => (QuietPanic.then QuietPanic.body) c o.dst v a w h) rfl (Yd.move rfl) rfl ?_
    refine WH.yd (i := 9) (by kernel_rfl) (fun _ o v c a w _ h => (QuietPanic.then QuietPanic.body) c o.dst v a w h) rfl (Yd.move rfl) rfl ?_
    refine WH.yd (i := 10) (by kernel_rfl) (fun _ o v c a w _ h => (QuietPanic.then QuietPanic.body) c o.dst v a w h) rfl (Yd.move rfl) rfl ?_
    refine WH.two (i := 3) (j := 13) (by kernel_rfl) ?_ ?_
    · refine WHo.so rfl (SO.callP Try.call33 rfl (fun w hI => lbef_g _ _ _)) rfl ?_
      rintro _ _ _ ⟨rfl, rfl, rfl⟩
      refine ⟨(fun _ hI => Inv.pick 1 rfl hI), ?_⟩
      refine WH.two (i := 4) (j := 13) (by kernel_rfl) ?_ ?_
      · refine WHo.so rfl (SO.makes (Enters.func Try.call41 rfl) (fun w hI => with_g p a1 _ c1 a2 _ c2 _ w hR hI.imm ⟨a, b, false⟩)) rfl ?_
        rintro _ D21 _ ⟨hX21, ⟨a21, c21, rfl, hR21⟩, rfl⟩
        replace hR21 := hR21 (by omega)
        replace hR := hR.ext hX21
        refine ⟨(fun _ hI => (Inv.pick 1 rfl hI).shrink hX21.old), ?_⟩
        refine WH.two (i := 7) (j := 13) (by kernel_rfl) ?_ ?_
        · refine WHo.so rfl (SO.callP Try.call33 rfl (fun w hI => lbef_g _ _ _)) rfl ?_
          rintro _ _ _ ⟨rfl, rfl, rfl⟩
          refine ⟨(fun _ hI => (Inv.pick 1 rfl hI).shrink hX21.old), ?_⟩
          refine WH.two (i := 8) (j := 13) (by kernel_rfl) ?_ ?_
          · refine WHo.so rfl (SO.makes (Enters.func Try.call41 rfl) (fun w hI => with_g (withP p ⟨a, b, false⟩) a1 _ c1 a21 _ c21 _ w hR21 hI.imm ⟨b, d, false⟩)) rfl ?_
            rintro _ D22 _ ⟨hX22, ⟨a22, c22, rfl, hR22⟩, rfl⟩
            replace hR22 := hR22 (by omega)
            replace hR := hR.ext hX22
            refine ⟨(fun _ hI => (Inv.pick 1 rfl hI).shrink (hX21.trans hX22 (Nat.le_refl _)).old), ?_⟩
            refine WH.two (i := 11) (j := 13) (by kernel_rfl) ?_ ?_
            · refine WHo.so rfl (SO.callP Try.call33 rfl (fun w hI => lbef_g _ _ _)) rfl ?_
              rintro _ _ _ ⟨rfl, rfl, rfl⟩
              refine ⟨(fun _ hI => (Inv.pick 1 rfl hI).shrink (hX21.trans hX22 (Nat.le_refl _)).old), ?_⟩
              refine WH.two (i := 12) (j := 13) (by kernel_rfl) ?_ ?_
              · refine WHo.so rfl (SO.makes (Enters.func Try.call41 rfl) (fun w hI => with_g (withP (withP p ⟨a, b, false⟩) ⟨b, d, false⟩) a1 _ c1 a22 _ c22 _ w hR22 hI.imm ⟨d, a, false⟩)) rfl ?_
                rintro _ D23 _ ⟨hX23, ⟨a23, c23, rfl, hR23⟩, rfl⟩
                replace hR23 := hR23 (by omega)
                replace hR := hR.ext hX23
                refine ⟨(fun _ hI => (Inv.pick 1 rfl hI).shrink ((hX21.trans hX22 (Nat.le_refl _)).trans hX23 (Nat.le_refl _)).old), ?_⟩
                refine WH.one (i := 13) (by kernel_rfl) (WHo.so rfl (SO.alloc Try.zeroValue27 rfl) rfl ?_)
                rintro _ _ _ ⟨b15, hb15, rfl, rfl, rfl⟩ -- NEW
                refine ⟨(fun _ hI => (Inv.pick 2 rfl hI).shrink ((hX21.trans hX22 (Nat.le_refl _)).trans hX23 (Nat.le_refl _)).old), ?_⟩
                refine WH.one (i := 14) (by kernel_rfl) (WHo.so rfl (SO.store 0 rfl Try.sizeOf27 rfl rfl rfl rfl (Nat.le_of_ble_eq_true rfl) (oneB_spec rfl)) rfl ?_)
                rintro _ _ _ ⟨rfl, rfl, rfl⟩
                refine ⟨(fun _ hI => (Inv.pick 2 rfl hI).shrink ((hX21.trans hX22 (Nat.le_refl _)).trans hX23 (Nat.le_refl _)).old), ?_⟩
                refine WH.nil (by kernel_rfl) ?_
                exact WP.join (⟨D23, b15, a23, c23⟩ : Imm × Nat × Option Addr × Nat) ⟨(hX21.trans hX22 (Nat.le_refl _)).trans hX23 (Nat.le_refl _), hR23⟩ (fun aa ww h => at_fr h ⟨rfl, rfl, rfl, rfl, rfl, trivial⟩)
              · refine WHo.so rfl (SO.alloc Try.zeroValue27 rfl) rfl ?_
                rintro _ _ _ ⟨b15, hb15, rfl, rfl, rfl⟩ -- NEW
                refine ⟨(fun _ hI => (Inv.pick 2 rfl hI).shrink (hX21.trans hX22 (Nat.le_refl _)).old), ?_⟩
                refine WH.one (i := 12) (by kernel_rfl) (WHo.so rfl (SO.makes (Enters.func Try.call41 rfl) (fun w hI => with_g (withP (withP p ⟨a, b, false⟩) ⟨b, d, false⟩) a1 _ c1 a22 _ c22 _ w hR22 hI.imm ⟨d, a, false⟩)) rfl ?_)
                rintro _ D23 _ ⟨hX23, ⟨a23, c23, rfl, hR23⟩, rfl⟩
                replace hR23 := hR23 (by omega)
                replace hR := hR.ext hX23
                refine ⟨(fun _ hI => (Inv.pick 2 rfl hI).shrink ((hX21.trans hX22 (Nat.le_refl _)).trans hX23 (Nat.le_refl _)).old), ?_⟩
                refine WH.one (i := 14) (by kernel_rfl) (WHo.so rfl (SO.store 0 rfl Try.sizeOf27 rfl rfl rfl rfl (Nat.le_of_ble_eq_true rfl) (oneB_spec rfl)) rfl ?_)
                rintro _ _ _ ⟨rfl, rfl, rfl⟩
                refine ⟨(fun _ hI => (Inv.pick 2 rfl hI).shrink ((hX21.trans hX22 (Nat.le_refl _)).trans hX23 (Nat.le_refl _)).old), ?_⟩
                refine WH.nil (by kernel_rfl) ?_
                exact WP.join (⟨D23, b15, a23, c23⟩ : Imm × Nat × Option Addr × Nat) ⟨(hX21.trans hX22 (Nat.le_refl _)).trans hX23 (Nat.le_refl _), hR23⟩ (fun aa ww h => at_fr h ⟨rfl, rfl, rfl, rfl, rfl, trivial⟩)
            · refine WHo.so rfl (SO.alloc Try.zeroValue27 rfl) rfl ?_
              rintro _ _ _ ⟨b15, hb15, rfl, rfl, rfl⟩ -- NEW
              refine ⟨(fun _ hI => (Inv.pick 2 rfl hI).shrink (hX21.trans hX22 (Nat.le_refl _)).old), ?_⟩
              refine WH.one (i := 11) (by kernel_rfl) (WHo.so rfl (SO.callP Try.call33 rfl (fun w hI => lbef_g _ _ _)) rfl ?_)
              rintro _ _ _ ⟨rfl, rfl, rfl⟩
              refine ⟨(fun _ hI => (Inv.pick 2 rfl hI).shrink (hX21.trans hX22 (Nat.le_refl _)).old), ?_⟩
              refine WH.one (i := 12) (by kernel_rfl) (WHo.so rfl (SO.makes (Enters.func Try.call41 rfl) (fun w hI => with_g (withP (withP p ⟨a, b, false⟩) ⟨b, d, false⟩) a1 _ c1 a22 _ c22 _ w hR22 hI.imm ⟨d, a, false⟩)) rfl ?_)
              rintro _ D23 _ ⟨hX23, ⟨a23, c23, rfl, hR23⟩, rfl⟩
              replace hR23 := hR23 (by omega)
              replace hR := hR.ext hX23
              refine ⟨(fun _ hI => (Inv.pick 2 rfl hI).shrink ((hX21.trans hX22 (Nat.le_refl _)).trans hX23 (Nat.le_refl _)).old), ?_⟩
              refine WH.one (i := 14) (by kernel_rfl) (WHo.so rfl (SO.store 0 rfl Try.sizeOf27 rfl rfl rfl rfl (Nat.le_of_ble_eq_true rfl) (oneB_spec rfl)) rfl ?_)
              rintro _ _ _ ⟨rfl, rfl, rfl⟩
              refine ⟨(fun _ hI => (Inv.pick 2 rfl hI).shrink ((hX21.trans hX22 (Nat.le_refl _)).trans hX23 (Nat.le_refl _)).old), ?_⟩
              refine WH.nil (by kernel_rfl) ?_
              exact WP.join (⟨D23, b15, a23, c23⟩ : Imm × Nat × Option Addr × Nat) ⟨(hX21.trans hX22 (Nat.le_refl _)).trans hX23 (Nat.le_refl _), hR23⟩ (fun aa ww h => at_fr h ⟨rfl, rfl, rfl, rfl, rfl, trivial⟩)
          · refine WHo.so rfl (SO.alloc Try.zeroValue27 rfl) rfl ?_
            rintro _ _ _ ⟨b15, hb15, rfl, rfl, rfl⟩ -- NEW
            refine ⟨(fun _ hI => (Inv.pick 2 rfl hI).shrink hX21.old), ?_⟩
            refine WH.one (i := 8) (by kernel_rfl) (WHo.so rfl (SO.makes (Enters.func Try.call41 rfl) (fun w hI => with_g (withP p ⟨a, b, false⟩) a1 _ c1 a21 _ c21 _ w hR21 hI.imm ⟨b, d, false⟩)) rfl ?_)
            rintro _ D22 _ ⟨hX22, ⟨a22, c22, rfl, hR22⟩, rfl⟩
            replace hR22 := hR22 (by omega)
            replace hR := hR.ext hX22
            refine ⟨(fun _ hI => (Inv.pick 2 rfl hI).shrink (hX21.trans hX22 (Nat.le_refl _)).old), ?_⟩
            refine WH.one (i := 11) (by kernel_rfl) (WHo.so rfl (SO.callP Try.call33 rfl (fun w hI => lbef_g _ _ _)) rfl ?_)
            rintro _ _ _ ⟨rfl, rfl, rfl⟩
            refine ⟨(fun _ hI => (Inv.pick 2 rfl hI).shrink (hX21.trans hX22 (Nat.le_refl _)).old), ?_⟩
            refine WH.one (i := 12) (by kernel_rfl) (WHo.so rfl (SO.makes (Enters.func Try.call41 rfl) (fun w hI => with_g (withP (withP p ⟨a, b, false⟩) ⟨b, d, false⟩) a1 _ c1 a22 _ c22 _ w hR22 hI.imm ⟨d, a, false⟩)) rfl ?_)
            rintro _ D23 _ ⟨hX23, ⟨a23, c23, rfl, hR23⟩, rfl⟩
            replace hR23 := hR23 (by omega)
            replace hR := hR.ext hX23
            refine ⟨(fun _ hI => (Inv.pick 2 rfl hI).shrink ((hX21.trans hX22 (Nat.le_refl _)).trans hX23 (Nat.le_refl _)).old), ?_⟩
            refine WH.one (i := 14) (by kernel_rfl) (WHo.so rfl (SO.store 0 rfl Try.sizeOf27 rfl rfl rfl rfl (Nat.le_of_ble_eq_true rfl) (oneB_spec rfl)) rfl ?_)
            rintro _ _ _ ⟨rfl, rfl, rfl⟩
            refine ⟨(fun _ hI => (Inv.pick 2 rfl hI).shrink ((hX21.trans hX22 (Nat.le_refl _)).trans hX23 (Nat.le_refl _)).old), ?_⟩
            refine WH.nil (by kernel_rfl) ?_
            exact WP.join (⟨D23, b15, a23, c23⟩ : Imm × Nat × Option Addr × Nat) ⟨(hX21.trans hX22 (Nat.le_refl _)).trans hX23 (Nat.le_refl _), hR23⟩ (fun aa ww h => at_fr h ⟨rfl, rfl, rfl, rfl, rfl, trivial⟩)
        · refine WHo.so rfl (SO.alloc Try.zeroValue27 rfl) rfl ?_
          rintro _ _ _ ⟨b15, hb15, rfl, rfl, rfl⟩ -- NEW
          refine ⟨(fun _ hI => (Inv.pick 2 rfl hI).shrink hX21.old), ?_⟩
          refine WH.one (i := 7) (by kernel_rfl) (WHo.so rfl (SO.callP Try.call33 rfl (fun w hI => lbef_g _ _ _)) rfl ?_)
          rintro _ _ _ ⟨rfl, rfl, rfl⟩
          refine ⟨(fun _ hI => (Inv.pick 2 rfl hI).shrink hX21.old), ?_⟩
          refine WH.one (i := 8) (by kernel_rfl) (WHo.so rfl (SO.makes (Enters.func Try.call41 rfl) (fun w hI => with_g (withP p ⟨a, b, false⟩) a1 _ c1 a21 _ c21 _ w hR21 hI.imm ⟨b, d, false⟩)) rfl ?_)
          rintro _ D22 _ ⟨hX22, ⟨a22, c22, rfl, hR22⟩, rfl⟩
          replace hR22 := hR22 (by omega)
          replace hR := hR.ext hX22
          refine ⟨(fun _ hI => (Inv.pick 2 rfl hI).shrink (hX21.trans hX22 (Nat.le_refl _)).old), ?_⟩
          refine WH.one (i := 11) (by kernel_rfl) (WHo.so rfl (SO.callP Try.call33 rfl (fun w hI => lbef_g _ _ _)) rfl ?_)
          rintro _ _ _ ⟨rfl, rfl, rfl⟩
          refine ⟨(fun _ hI => (Inv.pick 2 rfl hI).shrink (hX21.trans hX22 (Nat.le_refl _)).old), ?_⟩
          refine WH.one (i := 12) (by kernel_rfl) (WHo.so rfl (SO.makes (Enters.func Try.call41 rfl) (fun w hI => with_g (withP (withP p ⟨a, b, false⟩) ⟨b, d, false⟩) a1 _ c1 a22 _ c22 _ w hR22 hI.imm ⟨d, a, false⟩)) rfl ?_)
          rintro _ D23 _ ⟨hX23, ⟨a23, c23, rfl, hR23⟩, rfl⟩
          replace hR23 := hR23 (by omega)
          replace hR := hR.ext hX23
          refine ⟨(fun _ hI => (Inv.pick 2 rfl hI).shrink ((hX21.trans hX22 (Nat.le_refl _)).trans hX23 (Nat.le_refl _)).old), ?_⟩
          refine WH.one (i := 14) (by kernel_rfl) (WHo.so rfl (SO.store 0 rfl Try.sizeOf27 rfl rfl rfl rfl (Nat.le_of_ble_eq_true rfl) (oneB_spec rfl)) rfl ?_)
          rintro _ _ _ ⟨rfl, rfl, rfl⟩
          refine ⟨(fun _ hI => (Inv.pick 2 rfl hI).shrink ((hX21.trans hX22 (Nat.le_refl _)).trans hX23 (Nat.le_refl _)).old), ?_⟩
          refine WH.nil (by kernel_rfl) ?_
          exact WP.join (⟨D23, b15, a23, c23⟩ : Imm × Nat × Option Addr × Nat) ⟨(hX21.trans hX22 (Nat.le_refl _)).trans hX23 (Nat.le_refl _), hR23⟩ (fun aa ww h => at_fr h ⟨rfl, rfl, rfl, rfl, rfl, trivial⟩)
      · refine WHo.so rfl (SO.alloc Try.zeroValue27 rfl) rfl ?_
        rintro _ _ _ ⟨b15, hb15, rfl, rfl, rfl⟩ -- NEW
        refine ⟨(fun _ hI => Inv.pick 2 rfl hI), ?_⟩
        refine WH.one (i := 4) (by kernel_rfl) (WHo.so rfl (SO.makes (Enters.func Try.call41 rfl) (fun w hI => with_g p a1 _ c1 a2 _ c2 _ w hR hI.imm ⟨a, b, false⟩)) rfl ?_)
        rintro _ D21 _ ⟨hX21, ⟨a21, c21, rfl, hR21⟩, rfl⟩
        replace hR21 := hR21 (by omega)
        replace hR := hR.ext hX21
        refine ⟨(fun _ hI => (Inv.pick 2 rfl hI).shrink hX21.old), ?_⟩
        refine WH.one (i := 7) (by kernel_rfl) (WHo.so rfl (SO.callP Try.call33 rfl (fun w hI => lbef_g _ _ _)) rfl ?_)
        rintro _ _ _ ⟨rfl, rfl, rfl⟩
        refine ⟨(fun _ hI => (Inv.pick 2 rfl hI).shrink hX21.old), ?_⟩
        refine WH.one (i := 8) (by kernel_rfl) (WHo.so rfl (SO.makes (Enters.func Try.call41 rfl) (fun w hI => with_g (withP p ⟨a, b, false⟩) a1 _ c1 a21 _ c21 _ w hR21 hI.imm ⟨b, d, false⟩)) rfl ?_)
        rintro _ D22 _ ⟨hX22, ⟨a22, c22, rfl, hR22⟩, rfl⟩
        replace hR22 := hR22 (by omega)
        replace hR := hR.ext hX22
        refine ⟨(fun _ hI => (Inv.pick 2 rfl hI).shrink (hX21.trans hX22 (Nat.le_refl _)).old), ?_⟩
        refine WH.one (i := 11) (by kernel_rfl) (WHo.so rfl (SO.callP Try.call33 rfl (fun w hI => lbef_g _ _ _)) rfl ?_)
        rintro _ _ _ ⟨rfl, rfl, rfl⟩
        refine ⟨(fun _ hI => (Inv.pick 2 rfl hI).shrink (hX21.trans hX22 (Nat.le_refl _)).old), ?_⟩
        refine WH.one (i := 12) (by kernel_rfl) (WHo.so rfl (SO.makes (Enters.func Try.call41 rfl) (fun w hI => with_g (withP (withP p ⟨a, b, false⟩) ⟨b, d, false⟩) a1 _ c1 a22 _ c22 _ w hR22 hI.imm ⟨d, a, false⟩)) rfl ?_)
        rintro _ D23 _ ⟨hX23, ⟨a23, c23, rfl, hR23⟩, rfl⟩
        replace hR23 := hR23 (by omega)
        replace hR := hR.ext hX23
        refine ⟨(fun _ hI => (Inv.pick 2 rfl hI).shrink ((hX21.trans hX22 (Nat.le_refl _)).trans hX23 (Nat.le_refl _)).old), ?_⟩
        refine WH.one (i := 14) (by kernel_rfl) (WHo.so rfl (SO.store 0 rfl Try.sizeOf27 rfl rfl rfl rfl (Nat.le_of_ble_eq_true rfl) (oneB_spec rfl)) rfl ?_)
        rintro _ _ _ ⟨rfl, rfl, rfl⟩
        refine ⟨(fun _ hI => (Inv.pick 2 rfl hI).shrink ((hX21.trans hX22 (Nat.le_refl _)).trans hX23 (Nat.le_refl _)).old), ?_⟩
        refine WH.nil (by kernel_rfl) ?_
        exact WP.join (⟨D23, b15, a23, c23⟩ : Imm × Nat × Option Addr × Nat) ⟨(hX21.trans hX22 (Nat.le_refl _)).trans hX23 (Nat.le_refl _), hR23⟩ (fun aa ww h => at_fr h ⟨rfl, rfl, rfl, rfl, rfl, trivial⟩)
    · refine WHo.so rfl (SO.alloc Try.zeroValue27 rfl) rfl ?_
      rintro _ _ _ ⟨b15, hb15, rfl, rfl, rfl⟩ -- NEW
      refine ⟨(fun _ hI => Inv.pick 2 rfl hI), ?_⟩
      refine WH.one (i := 3) (by kernel_rfl) (WHo.so rfl (SO.callP Try.call33 rfl (fun w hI => lbef_g _ _ _)) rfl ?_)
      rintro _ _ _ ⟨rfl, rfl, rfl⟩
      refine ⟨(fun _ hI => Inv.pick 2 rfl hI), ?_⟩
      refine WH.one (i := 4) (by kernel_rfl) (WHo.so rfl (SO.makes (Enters.func Try.call41 rfl) (fun w hI => with_g p a1 _ c1 a2 _ c2 _ w hR hI.imm ⟨a, b, false⟩)) rfl ?_)
      rintro _ D21 _ ⟨hX21, ⟨a21, c21, rfl, hR21⟩, rfl⟩
      replace hR21 := hR21 (by omega)
      replace hR := hR.ext hX21
      refine ⟨(fun _ hI => (Inv.pick 2 rfl hI).shrink hX21.old), ?_⟩
      refine WH.one (i := 7) (by kernel_rfl) (WHo.so rfl (SO.callP Try.call33 rfl (fun w hI => lbef_g _ _ _)) rfl ?_)
      rintro _ _ _ ⟨rfl, rfl, rfl⟩
      refine ⟨(fun _ hI => (Inv.pick 2 rfl hI).shrink hX21.old), ?_⟩
      refine WH.one (i := 8) (by kernel_rfl) (WHo.so rfl (SO.makes (Enters.func Try.call41 rfl) (fun w hI => with_g (withP p ⟨a, b, false⟩) a1 _ c1 a21 _ c21 _ w hR21 hI.imm ⟨b, d, false⟩)) rfl ?_)
      rintro _ D22 _ ⟨hX22, ⟨a22, c22, rfl, hR22⟩, rfl⟩
      replace hR22 := hR22 (by omega)
      replace hR := hR.ext hX22
      refine ⟨(fun _ hI => (Inv.pick 2 rfl hI).shrink (hX21.trans hX22 (Nat.le_refl _)).old), ?_⟩
      refine WH.one (i := 11) (by kernel_rfl) (WHo.so rfl (SO.callP Try.call33 rfl (fun w hI => lbef_g _ _ _)) rfl ?_)
      rintro _ _ _ ⟨rfl, rfl, rfl⟩
      refine ⟨(fun _ hI => (Inv.pick 2 rfl hI).shrink (hX21.trans hX22 (Nat.le_refl _)).old), ?_⟩
      refine WH.one (i := 12) (by kernel_rfl) (WHo.so rfl (SO.makes (Enters.func Try.call41 rfl) (fun w hI => with_g (withP (withP p ⟨a, b, false⟩) ⟨b, d, false⟩) a1 _ c1 a22 _ c22 _ w hR22 hI.imm ⟨d, a, false⟩)) rfl ?_)
      rintro _ D23 _ ⟨hX23, ⟨a23, c23, rfl, hR23⟩, rfl⟩
      replace hR23 := hR23 (by omega)
      replace hR := hR.ext hX23
      refine ⟨(fun _ hI => (Inv.pick 2 rfl hI).shrink ((hX21.trans hX22 (Nat.le_refl _)).trans hX23 (Nat.le_refl _)).old), ?_⟩
      refine WH.one (i := 14) (by kernel_rfl) (WHo.so rfl (SO.store 0 rfl Try.sizeOf27 rfl rfl rfl rfl (Nat.le_of_ble_eq_true rfl) (oneB_spec rfl)) rfl ?_)
      rintro _ _ _ ⟨rfl, rfl, rfl⟩
      refine ⟨(fun _ hI => (Inv.pick 2 rfl hI).shrink ((hX21.trans hX22 (Nat.le_refl _)).trans hX23 (Nat.le_refl _)).old), ?_⟩
      refine WH.nil (by kernel_rfl) ?_
      exact WP.join (⟨D23, b15, a23, c23⟩ : Imm × Nat × Option Addr × Nat) ⟨(hX21.trans hX22 (Nat.le_refl _)).trans hX23 (Nat.le_refl _), hR23⟩ (fun aa ww h => at_fr h ⟨rfl, rfl, rfl, rfl, rfl, trivial⟩)

set_option maxRecDepth 100000 in
set_option maxHeartbeats 1000000 in
theorem more11_f (p : Post) (a1 : Option Addr) (n1 c1 : Nat) (a2 : Option Addr) (n2 c2 : Nat) (D : Imm) (w : World) (hR : PostR D p a1 n1 a2 n2) (hH : Holds D w) (c : PClaim) (m1 m2 m3 : Nat) (hm1 : m1 ≤ 255) (hm2 : m2 ≤ 255) (hm3 : m3 ≤ 255) (hl : ¬ (max (n1 : Int) (n2 : Int) > 40)) (hv : postB p = true) (hm : p.claims.length ≤ 5) (hv2 : postB (withP p c) = true) (hok2 : okA (withP p c) = false) : Gives Try.prog 11 [.agg #[it p.post.lo, it p.post.hi, .slice a1 n1 c1, .slice a2 n2 c2], .agg #[it c.a, it c.b, .bool c.not], .int .u8 (m1 : Int), .int .u8 (m2 : Int), .int .u8 (m3 : Int)] w (.bool true) := by
  unfold Gives
  obtain rfl := hR.bath.len'
  obtain rfl := hR.claim.len'
  have hl1 := hR.len1
  have hl2 := hR.len2
  have h5 := hm
  have hp8 := pop_8 (falseS p)
  have hx1 : 0 ≤ (m1 : Int) % ((p.bathers.length : Int) + 1) ∧ (m1 : Int) % ((p.bathers.length : Int) + 1) < (p.bathers.length : Int) + 1 := ⟨Int.emod_nonneg _ (by omega), Int.emod_lt_of_pos _ (by omega)⟩
  have hx2 : 0 ≤ (m2 : Int) % ((p.bathers.length : Int) + 1) ∧ (m2 : Int) % ((p.bathers.length : Int) + 1) < (p.bathers.length : Int) + 1 := ⟨Int.emod_nonneg _ (by omega), Int.emod_lt_of_pos _ (by omega)⟩
  have hx3 : 0 ≤ (m3 : Int) % ((p.bathers.length : Int) + 1) ∧ (m3 : Int) % ((p.bathers.length : Int) + 1) < (p.bathers.length : Int) + 1 := ⟨Int.emod_nonneg _ (by omega), Int.emod_lt_of_pos _ (by omega)⟩
  have hom := ok_many hv2
  have hpf : ¬ pop (falseS (withP p c)) = 0 := fun h => by
    have := hom.2 h
    rw [hok2] at this; cases this
  refine enter Try.func11 rfl 266 Try.ntmps11 (Nat.le_of_ble_eq_true rfl) (Inv.start hH) ?_
  refine WC.seq ?_
  refine WC.ofFr [(0, _), (1, _), (2, _), (3, _), (4, _)] ⟨rfl, rfl, rfl, rfl, rfl, trivial⟩ ?_
  refine WC.region ?_
  refine WL.so (SO.box rfl rfl) rfl ?_
  rintro _ _ _ ⟨b5, hb5, rfl, rfl, rfl⟩ -- NEW
  refine WL.so (SO.box rfl rfl) rfl ?_
  rintro _ _ _ ⟨b6, hb6, rfl, rfl, rfl⟩ -- NEW
  refine WL.yd (Yd.assign rfl) rfl ?_
  refine WL.nil ?_
  refine WP.thenC ?_
  refine WC.seq ?_
  refine WC.seq ?_
  refine WC.ofFr [(10, _), (6, _), (5, _), (2, _), (3, _), (4, _)] ⟨rfl, rfl, rfl, rfl, rfl, rfl, trivial⟩ ?_
  refine WC.region ?_
  refine WL.yd (Yd.loadN Try.isAgg27 Try.sizeOf27 rfl (vs := [_, _, _, _]) rfl (by first | exact RdN.own (k := 0) (n := 4) rfl rfl | exact RdN.own (k := 1) (n := 4) rfl rfl)) rfl ?_
  refine WL.so (SO.callP Try.call38 rfl (fun w hI => long_g _ _ _ _ _ _ _ _ _)) rfl ?_
  rintro _ _ _ ⟨rfl, rfl, rfl⟩
  refine WL.know 47 (.bool false) rfl (congrArg Value.bool (decide_eq_false hl)) ?_
  refine WL.yd (Yd.move rfl) rfl ?_
  refine WL.ydg rfl (Yd.loadN Try.isAgg27 Try.sizeOf27 rfl (vs := [_, _, _, _]) rfl (by first | exact RdN.own (k := 0) (n := 4) rfl rfl | exact RdN.own (k := 1) (n := 4) rfl rfl)) rfl ?_
  refine WL.sog rfl (SO.callP Try.call39 rfl (fun w hI => rpost_g p a1 _ c1 a2 _ c2 _ w hR hI.imm)) rfl ?_
  rintro _ _ _ ⟨rfl, rfl, rfl⟩
  refine WL.know 50 (.bool true) rfl (congrArg Value.bool hv) ?_
  refine WL.ydg rfl (Yd.not rfl) rfl ?_
  refine WL.yd (Yd.pickF rfl rfl) rfl ?_
  refine WL.yd (Yd.move rfl) rfl ?_
  refine WL.ydg rfl (Yd.fieldAddr FA27_2 rfl) rfl ?_
  refine WL.ydg rfl (Yd.load1 Try.isAgg25 rfl (by first | exact Rd.own (k := 0) rfl rfl | exact Rd.own (k := 1) rfl rfl)) rfl ?_
  refine WL.ydg rfl (Yd.lenS rfl Try.underlying25 rfl) rfl ?_
  refine WL.ydg rfl (Yd.gtr rfl rfl) rfl ?_
  refine WL.know 57 (.bool false) rfl (congrArg Value.bool (decide_eq_false (by omega))) ?_
  refine WL.yd (Yd.pickF rfl rfl) rfl ?_
  refine WL.nil ?_
  refine WP.thenC ?_
  refine WC.condF rfl ?_
  refine WC.skip ?_
  refine WP.thenC ?_
  refine WC.seq ?_
  refine WC.ofFr [(10, _), (6, _), (5, _), (2, _), (3, _), (4, _)] ⟨rfl, rfl, rfl, rfl, rfl, rfl, trivial⟩ ?_
  refine WC.region ?_
  refine WL.yd (Yd.fieldAddr FA27_1 rfl) rfl ?_
  refine WL.yd (Yd.load1 Try.isAgg24 rfl (by first | exact Rd.own (k := 0) rfl rfl | exact Rd.own (k := 1) rfl rfl)) rfl ?_
  refine WL.yd (Yd.lenS rfl Try.underlying24 rfl) rfl ?_
  refine WL.yd (Yd.add rfl rfl (wr64 ⟨by omega, by omega⟩)) rfl ?_
  refine WL.yd (Yd.assign rfl) rfl ?_
  refine WL.nil ?_
  refine WP.thenC ?_
  refine WC.seq ?_
  refine WC.ofFr [(11, _), (10, _), (6, _), (5, _), (2, _), (3, _), (4, _)] ⟨rfl, rfl, rfl, rfl, rfl, rfl, rfl, trivial⟩ ?_
  refine WC.tail 17 [0, 1, 2, 3, 4, 5, 6, 7, 8, 9, 10, 11, 12, 13, 14, 15, 16] rfl (by kernel_rfl) (by kernel_rfl)  ?_
  refine WQ.q rfl (Yd.qt (Yd.move rfl)) rfl ?_
  refine WQ.q rfl (Yd.qt (Yd.conv Try.underlying5 Try.underlying3 rfl (wr64 ⟨by omega, by omega⟩))) rfl ?_
  refine WQ.q rfl (Yd.qt (Yd.move rfl)) rfl ?_
  refine WQ.q rfl (Yd.qt (Yd.rem rfl rfl (by omega) (by omega))) rfl ?_
  refine WQ.q rfl (Yd.qt (Yd.sub rfl rfl (wr64 ⟨by omega, by omega⟩))) rfl ?_
  refine WQ.q rfl (Yd.qt (Yd.move rfl)) rfl ?_
  refine WQ.q rfl (Yd.qt (Yd.conv Try.underlying5 Try.underlying3 rfl (wr64 ⟨by omega, by omega⟩))) rfl ?_
  refine WQ.q rfl (Yd.qt (Yd.move rfl)) rfl ?_
  refine WQ.q rfl (Yd.qt (Yd.rem rfl rfl (by omega) (by omega))) rfl ?_
  refine WQ.q rfl (Yd.qt (Yd.sub rfl rfl (wr64 ⟨by omega, by omega⟩))) rfl ?_
  refine WQ.q rfl (Yd.qt (Yd.move rfl)) rfl ?_
  refine WQ.q rfl (Yd.qt (Yd.conv Try.underlying5 Try.underlying3 rfl (wr64 ⟨by omega, by omega⟩))) rfl ?_
  refine WQ.q rfl (Yd.qt (Yd.move rfl)) rfl ?_
  refine WQ.q rfl (Yd.qt (Yd.rem rfl rfl (by omega) (by omega))) rfl ?_
  refine WQ.q rfl (Yd.qt (Yd.sub rfl rfl (wr64 ⟨by omega, by omega⟩))) rfl ?_
  refine WQ.q rfl (Yd.qt (Yd.assign rfl)) rfl ?_
  refine WQ.q rfl (Yd.qt (Yd.assign rfl)) rfl ?_
  refine WQ.tail ?_
  refine WL.yd (Yd.assign rfl) rfl ?_
  refine WL.nil ?_
  refine WP.thenC ?_
  generalize hEa : (m1 : Int) % ((p.bathers.length : Int) + 1) - 1 = a
  have hwa : whoP p a = true := decide_eq_true ⟨by omega, by omega⟩
  generalize hEb : (m2 : Int) % ((p.bathers.length : Int) + 1) - 1 = b
  have hwb : whoP p b = true := decide_eq_true ⟨by omega, by omega⟩
  generalize hEd : (m3 : Int) % ((p.bathers.length : Int) + 1) - 1 = d
  have hwd : whoP p d = true := decide_eq_true ⟨by omega, by omega⟩
  refine WC.seqJ (fun y : Imm × Nat × Option Addr × Nat => [(5, pt b5), (6, pt b6), (12, it a), (13, it b), (15, pt y.2.1)]) (fun y => [(y.2.1, .cells (List.toArray [it p.post.lo, it p.post.hi, .slice a1 p.bathers.length c1, .slice y.2.2.1 (p.claims.length + 1 + 1 + 1) y.2.2.2]) 27 (0, 0)), (b6, .cells (List.toArray [it c.a, it c.b, .bool c.not]) 47 (0, 0)), (b5, .cells (List.toArray [it p.post.lo, it p.post.hi, .slice a1 p.bathers.length c1, .slice a2 p.claims.length c2]) 27 (0, 0))]) (fun y => y.1) (fun y => DExt w D y.1 ∧ PostR y.1 (circP p a b d) a1 p.bathers.length y.2.2.1 (p.claims.length + 1 + 1 + 1)) ?_ ?_
  · rintro ⟨Dn, b15, ad, cd⟩ ⟨hXn, hRd⟩
    dsimp only at hXn hRd
    replace hR := hR.ext hXn
    refine WC.seq ?_
    refine WC.seq ?_
    refine WC.ofFr [(5, _), (6, _), (12, _), (13, _), (15, _)] ⟨rfl, rfl, rfl, rfl, rfl, trivial⟩ ?_
    refine WC.region ?_
    refine WL.yd (Yd.loadN Try.isAgg27 Try.sizeOf27 rfl (vs := [_, _, _, _]) rfl (by first | exact RdN.own (k := 0) (n := 4) rfl rfl | exact RdN.own (k := 1) (n := 4) rfl rfl | exact RdN.own (k := 2) (n := 4) rfl rfl)) rfl ?_
    refine WL.so (SO.callP Try.call29 rfl (fun w hI => Clash_g (circP p a b d) a1 _ c1 ad _ cd _ w hRd hI.imm)) rfl ?_
    rintro _ _ _ ⟨rfl, rfl, rfl⟩
    refine WL.yd (Yd.move rfl) rfl ?_
    refine WL.yd (Yd.extract rfl rfl) rfl ?_
    refine WL.yd (Yd.extract rfl rfl) rfl ?_
    refine WL.yd (Yd.assign rfl) rfl ?_
    refine WL.yd (Yd.assign rfl) rfl ?_
    refine WL.nil ?_
    refine WP.thenC ?_
    refine WC.seq ?_
    refine WC.ofFr [(17, _), (5, _), (6, _), (12, _), (13, _)] ⟨rfl, rfl, rfl, rfl, rfl, trivial⟩ ?_
    refine WC.region ?_
    refine WL.yd (Yd.move rfl) rfl ?_
    refine WL.yd (Yd.neq rfl rfl) rfl ?_
    refine WL.know 98 (.bool false) rfl (congrArg Value.bool (decide_eq_false (fun h => h (more_circle hv hm hwa hwb hwd)))) ?_
    refine WL.nil ?_
    refine WP.thenC ?_
    refine WC.condF rfl ?_
    refine WC.skip ?_
    refine WP.thenC ?_
    refine WC.seq ?_
    refine WC.ofFr [(5, _), (6, _), (12, _), (13, _)] ⟨rfl, rfl, rfl, rfl, trivial⟩ ?_
    refine WC.region ?_
    refine WL.yd (Yd.loadN Try.isAgg27 Try.sizeOf27 rfl (vs := [_, _, _, _]) rfl (by first | exact RdN.own (k := 0) (n := 4) rfl rfl | exact RdN.own (k := 1) (n := 4) rfl rfl | exact RdN.own (k := 2) (n := 4) rfl rfl)) rfl ?_
    refine WL.yd (Yd.loadN Try.isAgg47 Try.sizeOf47 rfl (vs := [_, _, _]) rfl (by first | exact RdN.own (k := 0) (n := 3) rfl rfl | exact RdN.own (k := 1) (n := 3) rfl rfl | exact RdN.own (k := 2) (n := 3) rfl rfl)) rfl ?_
    refine WL.so (SO.makes (Enters.func Try.call41 rfl) (fun w hI => with_g p a1 _ c1 a2 _ c2 _ w hR hI.imm c)) rfl ?_
    rintro _ D31 _ ⟨hX31, ⟨a31, c31, rfl, hR31⟩, rfl⟩
    replace hR31 := hR31 (by omega)
    replace hR := hR.ext hX31
    refine WL.so (SO.alloc Try.zeroValue27 rfl) rfl ?_
    rintro _ _ _ ⟨b18, hb18, rfl, rfl, rfl⟩ -- NEW
    refine WL.so (SO.store 0 rfl Try.sizeOf27 rfl rfl rfl rfl (Nat.le_of_ble_eq_true rfl) (oneB_spec rfl)) rfl ?_
    rintro _ _ _ ⟨rfl, rfl, rfl⟩
    refine WL.nil ?_
    refine WP.thenC ?_
    refine WC.seq ?_
    refine WC.seq ?_
    refine WC.ofFr [(18, _), (5, _), (12, _), (13, _)] ⟨rfl, rfl, rfl, rfl, trivial⟩ ?_
    refine WC.region ?_
    refine WL.yd (Yd.loadN Try.isAgg27 Try.sizeOf27 rfl (vs := [_, _, _, _]) rfl (by first | exact RdN.own (k := 0) (n := 4) rfl rfl | exact RdN.own (k := 1) (n := 4) rfl rfl | exact RdN.own (k := 2) (n := 4) rfl rfl | exact RdN.own (k := 3) (n := 4) rfl rfl)) rfl ?_
    refine WL.so (SO.callP Try.call39 rfl (fun w hI => rpost_g (withP p c) a1 _ c1 a31 _ c31 _ w hR31 hI.imm)) rfl ?_
    rintro _ _ _ ⟨rfl, rfl, rfl⟩
    refine WL.know 103 (.bool true) rfl (congrArg Value.bool hv2) ?_
    refine WL.yd (Yd.not rfl) rfl ?_
    refine WL.nil ?_
    refine WP.thenC ?_
    refine WC.condF rfl ?_
    refine WC.skip ?_
    refine WP.thenC ?_
    refine WC.seq ?_
    refine WC.ofFr [(18, _), (5, _), (12, _), (13, _)] ⟨rfl, rfl, rfl, rfl, trivial⟩ ?_
    refine WC.region ?_
    refine WL.yd (Yd.assign rfl) rfl ?_
    refine WL.nil ?_
    refine WP.thenC ?_
    refine WC.seq ?_
    refine WC.ofFr [(19, _), (18, _), (5, _), (12, _), (13, _)] ⟨rfl, rfl, rfl, rfl, rfl, trivial⟩ ?_
    refine WC.region ?_
    refine WL.yd (Yd.loadN Try.isAgg27 Try.sizeOf27 rfl (vs := [_, _, _, _]) rfl (by first | exact RdN.own (k := 0) (n := 4) rfl rfl | exact RdN.own (k := 1) (n := 4) rfl rfl | exact RdN.own (k := 2) (n := 4) rfl rfl | exact RdN.own (k := 3) (n := 4) rfl rfl)) rfl ?_
    refine WL.so (SO.callP Try.call27 rfl (fun w hI => Gives.cv (.tuple #[nt (pop (falseS p)), nt (falseS p), it 0]) (False_g p a1 _ c1 a2 _ c2 _ w hR hI.imm) (by rw [false_out hv]))) rfl ?_
    rintro _ _ _ ⟨rfl, rfl, rfl⟩
    refine WL.yd (Yd.move rfl) rfl ?_
    refine WL.yd (Yd.extract rfl rfl) rfl ?_
    refine WL.yd (Yd.extract rfl rfl) rfl ?_
    refine WL.yd (Yd.extract rfl rfl) rfl ?_
    refine WL.yd (Yd.assign rfl) rfl ?_
    refine WL.yd (Yd.assign rfl) rfl ?_
    refine WL.yd (Yd.assign rfl) rfl ?_
    refine WL.nil ?_
    refine WP.thenC ?_
    refine WC.seq ?_
    refine WC.ofFr [(22, _), (20, _), (19, _), (18, _), (5, _), (12, _), (13, _)] ⟨rfl, rfl, rfl, rfl, rfl, rfl, rfl, trivial⟩ ?_
    refine WC.region ?_
    refine WL.yd (Yd.loadN Try.isAgg27 Try.sizeOf27 rfl (vs := [_, _, _, _]) rfl (by first | exact RdN.own (k := 0) (n := 4) rfl rfl | exact RdN.own (k := 1) (n := 4) rfl rfl | exact RdN.own (k := 2) (n := 4) rfl rfl | exact RdN.own (k := 3) (n := 4) rfl rfl)) rfl ?_
    refine WL.so (SO.callP Try.call27 rfl (fun w hI => Gives.cv (.tuple #[nt (pop (falseS (withP p c))), nt (falseS (withP p c)), it 0]) (False_g (withP p c) a1 _ c1 a31 _ c31 _ w hR31 hI.imm) (by rw [false_out hv2]))) rfl ?_
    rintro _ _ _ ⟨rfl, rfl, rfl⟩
    refine WL.yd (Yd.move rfl) rfl ?_
    refine WL.yd (Yd.extract rfl rfl) rfl ?_
    refine WL.yd (Yd.extract rfl rfl) rfl ?_
    refine WL.yd (Yd.extract rfl rfl) rfl ?_
    refine WL.yd (Yd.assign rfl) rfl ?_
    refine WL.yd (Yd.assign rfl) rfl ?_
    refine WL.yd (Yd.assign rfl) rfl ?_
    refine WL.nil ?_
    refine WP.thenC ?_
    refine WC.seq ?_
    refine WC.seq ?_
    refine WC.ofFr [(25, _), (23, _), (22, _), (20, _), (19, _), (18, _), (5, _), (12, _), (13, _)] ⟨rfl, rfl, rfl, rfl, rfl, rfl, rfl, rfl, rfl, trivial⟩ ?_
    refine WC.region ?_
    refine WL.yd (Yd.move rfl) rfl ?_
    refine WL.yd (Yd.neq rfl rfl) rfl ?_
    refine WL.know 119 (.bool false) rfl (congrArg Value.bool (decide_eq_false (by simp))) ?_
    refine WL.yd (Yd.move rfl) rfl ?_
    refine WL.ydg rfl (Yd.move rfl) rfl ?_
    refine WL.ydg rfl (Yd.neq rfl rfl) rfl ?_
    refine WL.know 122 (.bool false) rfl (congrArg Value.bool (decide_eq_false (by simp))) ?_
    refine WL.yd (Yd.pickF rfl rfl) rfl ?_
    refine WL.yd (Yd.move rfl) rfl ?_
    refine WL.ydg rfl (Yd.move rfl) rfl ?_
    refine WL.ydg rfl (Yd.move rfl) rfl ?_
    refine WL.ydg rfl (Yd.lss rfl rfl) rfl ?_
    refine WL.know 127 (.bool false) rfl (congrArg Value.bool (decide_eq_false (by have := more_many hv hv2; omega))) ?_
    refine WL.yd (Yd.pickF rfl rfl) rfl ?_
    refine WL.yd (Yd.move rfl) rfl ?_
    refine WL.ydg rfl (Yd.move rfl) rfl ?_
    refine WL.ydg rfl (Yd.move rfl) rfl ?_
    refine WL.ydg rfl (Yd.add rfl rfl (wr64 ⟨by omega, by omega⟩)) rfl ?_
    refine WL.ydg rfl (Yd.gtr rfl rfl) rfl ?_
    refine WL.know 133 (.bool false) rfl (congrArg Value.bool (decide_eq_false (by have := more_many hv hv2; omega))) ?_
    refine WL.yd (Yd.pickF rfl rfl) rfl ?_
    refine WL.nil ?_
    refine WP.thenC ?_
    refine WC.condF rfl ?_
    refine WC.skip ?_
    refine WP.thenC ?_
    refine WC.seq ?_
    refine WC.seq ?_
    refine WC.ofFr [(23, _), (19, _), (18, _), (5, _), (12, _), (13, _)] ⟨rfl, rfl, rfl, rfl, rfl, rfl, trivial⟩ ?_
    refine WC.region ?_
    refine WL.yd (Yd.move rfl) rfl ?_
    refine WL.yd (Yd.gtr rfl rfl) rfl ?_
    refine WL.know 136 (.bool true) rfl (congrArg Value.bool (decide_eq_true (by omega))) ?_
    refine WL.nil ?_
    refine WP.thenC ?_
    refine WC.condT rfl ?_
    refine WC.seq ?_
    refine WC.ofFr [(19, _), (18, _), (5, _), (12, _), (13, _)] ⟨rfl, rfl, rfl, rfl, rfl, trivial⟩ ?_
    refine WC.region ?_
    refine WL.yd (Yd.loadN Try.isAgg27 Try.sizeOf27 rfl (vs := [_, _, _, _]) rfl (by first | exact RdN.own (k := 0) (n := 4) rfl rfl | exact RdN.own (k := 1) (n := 4) rfl rfl | exact RdN.own (k := 2) (n := 4) rfl rfl | exact RdN.own (k := 3) (n := 4) rfl rfl)) rfl ?_
    refine WL.yd (Yd.move rfl) rfl ?_
    refine WL.so (SO.callP Try.call15 rfl (fun w hI => Gives.cv (.tuple #[.agg #[it 0, it 0], it 10]) (Place_g (withP p c) a1 _ c1 a31 _ c31 _ w hR31 hI.imm a) (by rw [place_bad hv2 hok2 hwa]))) rfl ?_
    rintro _ _ _ ⟨rfl, rfl, rfl⟩
    refine WL.yd (Yd.move rfl) rfl ?_
    refine WL.yd (Yd.extract rfl rfl) rfl ?_
    refine WL.yd (Yd.extract rfl rfl) rfl ?_
    refine WL.so (SO.alloc Try.zeroValue23 rfl) rfl ?_
    rintro _ _ _ ⟨b26, hb26, rfl, rfl, rfl⟩ -- NEW
    refine WL.so (SO.store 0 rfl Try.sizeOf23 rfl rfl rfl rfl (Nat.le_of_ble_eq_true rfl) (oneB_spec rfl)) rfl ?_
    rintro _ _ _ ⟨rfl, rfl, rfl⟩
    refine WL.yd (Yd.assign rfl) rfl ?_
    refine WL.nil ?_
    refine WP.thenC ?_
    refine WC.seq ?_
    refine WC.ofFr [(27, _), (19, _), (18, _), (5, _), (12, _), (13, _)] ⟨rfl, rfl, rfl, rfl, rfl, rfl, trivial⟩ ?_
    refine WC.region ?_
    refine WL.yd (Yd.move rfl) rfl ?_
    refine WL.yd (Yd.eql rfl rfl) rfl ?_
    refine WL.know 144 (.bool true) rfl (congrArg Value.bool (by decide)) ?_
    refine WL.yd (Yd.move rfl) rfl ?_
    refine WL.sog rfl (SO.callP Try.call14 rfl (fun w hI => alive_g _ _ hI.imm)) rfl ?_
    rintro _ _ _ ⟨rfl, rfl, rfl⟩
    refine WL.know 146 (.bool true) rfl rfl ?_
    refine WL.yd (Yd.pickT rfl rfl) rfl ?_
    refine WL.yd (Yd.assign rfl) rfl ?_
    refine WL.nil ?_
    refine WP.thenC ?_
    refine WC.ret ?_
    refine WP.thenRet ?_
    refine WP.ret1 rfl rfl Try.results11 (RV.tmp rfl) (fun w hI => ⟨rfl, hI.keep⟩)
  · skip
    refine WC.ofFr [(14, _), (13, _), (12, _), (10, _), (6, _), (5, _)] ⟨rfl, rfl, rfl, rfl, rfl, rfl, trivial⟩ ?_
    refine WC.drawH [(b5, .cells (List.toArray [it p.post.lo, it p.post.hi, .slice a1 p.bathers.length c1, .slice a2 p.claims.length c2]) 27 (0, 0))] (by kernel_rfl) (fun _ hI => Inv.pick 1 rfl hI) ?_
    refine WH.yd (i := 0) (by kernel_rfl) (fun _ o v c a w _ h => (QuietPanic.then QuietPanic.body) c o.dst v a w h) rfl (Yd.loadN Try.isAgg27 Try.sizeOf27 rfl (vs := [_, _, _, _]) rfl (by first | exact RdN.own (k := 0) (n := 4) rfl rfl | exact RdN.own (k := 1) (n := 4) rfl rfl)) rfl ?_
    refine WH.yd (i := 1) (by kernel_rfl) (fun _ o v c a w _ h => (QuietPanic.then QuietPanic.body) c o.dst v a w h) rfl (Yd.move rfl) rfl ?_
    refine WH.yd (i := 2) (by kernel_rfl) (fun _ o v c a w _ h => (QuietPanic.then QuietPanic.body) c o.dst v a w h) rfl (Yd.move rfl) rfl ?_
    refine WH.yd (i := 5) (by kernel_rfl) (fun _ o v c a w _ h => (QuietPanic.then QuietPanic.body) c o.dst v a w h) rfl (Yd.move rfl) rfl ?_
    refine WH.yd (i := 6) (by kernel_rfl) (fun _ o v c a w _ h => (QuietPanic.then QuietPanic.body) c o.dst v a w h) rfl (Yd.move rfl) rfl ?_
    refine WH.yd (i := 9) (by kernel_rfl) (fun _ o v c a w _ h => (QuietPanic.then QuietPanic.body) c o.dst v a w h) rfl (Yd.move rfl) rfl ?_
    refine WH.yd (i := 10) (by kernel_rfl) (fun _ o v c a w _ h => (QuietPanic.then QuietPanic.body) c o.dst v a w h) rfl (Yd.move rfl) rfl ?_
    refine WH.two (i := 3) (j := 13) (by kernel_rfl) ?_ ?_
    · refine WHo.so rfl (SO.callP Try.call33 rfl (fun w hI => lbef_g _ _ _)) rfl ?_
      rintro _ _ _ ⟨rfl, rfl, rfl⟩
      refine ⟨(fun _ hI => Inv.pick 1 rfl hI), ?_⟩
      refine WH.two (i := 4) (j := 13) (by kernel_rfl) ?_ ?_
      · refine WHo.so rfl (SO.makes (Enters.func Try.call41 rfl) (fun w hI => with_g p a1 _ c1 a2 _ c2 _ w hR hI.imm ⟨a, b, false⟩)) rfl ?_
        rintro _ D21 _ ⟨hX21, ⟨a21, c21, rfl, hR21⟩, rfl⟩
        replace hR21 := hR21 (by omega)
        replace hR := hR.ext hX21
        refine ⟨(fun _ hI => (Inv.pick 1 rfl hI).shrink hX21.old), ?_⟩
        refine WH.two (i := 7) (j := 13) (by kernel_rfl) ?_ ?_
        · refine WHo.so rfl (SO.callP Try.call33 rfl (fun w hI => lbef_g _ _ _)) rfl ?_
          rintro _ _ _ ⟨rfl, rfl, rfl⟩
          refine ⟨(fun _ hI => (Inv.pick 1 rfl hI).shrink hX21.old), ?_⟩
          refine WH.two (i := 8) (j := 13) (by kernel_rfl) ?_ ?_
          · refine WHo.so rfl (SO.makes (Enters.func Try.call41 rfl) (fun w hI => with_g (withP p ⟨a, b, false⟩) a1 _ c1 a21 _ c21 _ w hR21 hI.imm ⟨b, d, false⟩)) rfl ?_
            rintro _ D22 _ ⟨hX22, ⟨a22, c22, rfl, hR22⟩, rfl⟩
            replace hR22 := hR22 (by omega)
            replace hR := hR.ext hX22
            refine ⟨(fun _ hI => (Inv.pick 1 rfl hI).shrink (hX21.trans hX22 (Nat.le_refl _)).old), ?_⟩
            refine WH.two (i := 11) (j := 13) (by kernel_rfl) ?_ ?_
            · refine WHo.so rfl (SO.callP Try.call33 rfl (fun w hI => lbef_g _ _ _)) rfl ?_
              rintro _ _ _ ⟨rfl, rfl, rfl⟩
              refine ⟨(fun _ hI => (Inv.pick 1 rfl hI).shrink (hX21.trans hX22 (Nat.le_refl _)).old), ?_⟩
              refine WH.two (i := 12) (j := 13) (by kernel_rfl) ?_ ?_
              · refine WHo.so rfl (SO.makes (Enters.func Try.call41 rfl) (fun w hI => with_g (withP (withP p ⟨a, b, false⟩) ⟨b, d, false⟩) a1 _ c1 a22 _ c22 _ w hR22 hI.imm ⟨d, a, false⟩)) rfl ?_
                rintro _ D23 _ ⟨hX23, ⟨a23, c23, rfl, hR23⟩, rfl⟩
                replace hR23 := hR23 (by omega)
                replace hR := hR.ext hX23
                refine ⟨(fun _ hI => (Inv.pick 1 rfl hI).shrink ((hX21.trans hX22 (Nat.le_refl _)).trans hX23 (Nat.le_refl _)).old), ?_⟩
                refine WH.one (i := 13) (by kernel_rfl) (WHo.so rfl (SO.alloc Try.zeroValue27 rfl) rfl ?_)
                rintro _ _ _ ⟨b15, hb15, rfl, rfl, rfl⟩ -- NEW
                refine ⟨(fun _ hI => (Inv.pick 2 rfl hI).shrink ((hX21.trans hX22 (Nat.le_refl _)).trans hX23 (Nat.le_refl _)).old), ?_⟩
                refine WH.one (i := 14) (by kernel_rfl) (WHo.so rfl (SO.store 0 rfl Try.sizeOf27 rfl rfl rfl rfl (Nat.le_of_ble_eq_true rfl) (oneB_spec rfl)) rfl ?_)
                rintro _ _ _ ⟨rfl, rfl, rfl⟩
                refine ⟨(fun _ hI => (Inv.pick 2 rfl hI).shrink ((hX21.trans hX22 (Nat.le_refl _)).trans hX23 (Nat.le_refl _)).old), ?_⟩
                refine WH.nil (by kernel_rfl) ?_
                exact WP.join (⟨D23, b15, a23, c23⟩ : Imm × Nat × Option Addr × Nat) ⟨(hX21.trans hX22 (Nat.le_refl _)).trans hX23 (Nat.le_refl _), hR23⟩ (fun aa ww h => at_fr h ⟨rfl, rfl, rfl, rfl, rfl, trivial⟩)
              · refine WHo.so rfl (SO.alloc Try.zeroValue27 rfl) rfl ?_
                rintro _ _ _ ⟨b15, hb15, rfl, rfl, rfl⟩ -- NEW
                refine ⟨(fun _ hI => (Inv.pick 2 rfl hI).shrink (hX21.trans hX22 (Nat.le_refl _)).old), ?_⟩
                refine WH.one (i := 12) (by kernel_rfl) (WHo.so rfl (SO.makes (Enters.func Try.call41 rfl) (fun w hI => with_g (withP (withP p ⟨a, b, false⟩) ⟨b, d, false⟩) a1 _ c1 a22 _ c22 _ w hR22 hI.imm ⟨d, a, false⟩)) rfl ?_)
                rintro _ D23 _ ⟨hX23, ⟨a23, c23, rfl, hR23⟩, rfl⟩
                replace hR23 := hR23 (by omega)
                replace hR := hR.ext hX23
                refine ⟨(fun _ hI => (Inv.pick 2 rfl hI).shrink ((hX21.trans hX22 (Nat.le_refl _)).trans hX23 (Nat.le_refl _)).old), ?_⟩
                refine WH.one (i := 14) (by kernel_rfl) (WHo.so rfl (SO.store 0 rfl Try.sizeOf27 rfl rfl rfl rfl (Nat.le_of_ble_eq_true rfl) (oneB_spec rfl)) rfl ?_)
                rintro _ _ _ ⟨rfl, rfl, rfl⟩
                refine ⟨(fun _ hI => (Inv.pick 2 rfl hI).shrink ((hX21.trans hX22 (Nat.le_refl _)).trans hX23 (Nat.le_refl _)).old), ?_⟩
                refine WH.nil (by kernel_rfl) ?_
                exact WP.join (⟨D23, b15, a23, c23⟩ : Imm × Nat × Option Addr × Nat) ⟨(hX21.trans hX22 (Nat.le_refl _)).trans hX23 (Nat.le_refl _), hR23⟩ (fun aa ww h => at_fr h ⟨rfl, rfl, rfl, rfl, rfl, trivial⟩)
            · refine WHo.so rfl (SO.alloc Try.zeroValue27 rfl) rfl ?_
              rintro _ _ _ ⟨b15, hb15, rfl, rfl, rfl⟩ -- NEW
              refine ⟨(fun _ hI => (Inv.pick 2 rfl hI).shrink (hX21.trans hX22 (Nat.le_refl _)).old), ?_⟩
              refine WH.one (i := 11) (by kernel_rfl) (WHo.so rfl (SO.callP Try.call33 rfl (fun w hI => lbef_g _ _ _)) rfl ?_)
              rintro _ _ _ ⟨rfl, rfl, rfl⟩
              refine ⟨(fun _ hI => (Inv.pick 2 rfl hI).shrink (hX21.trans hX22 (Nat.le_refl _)).old), ?_⟩
              refine WH.one (i := 12) (by kernel_rfl) (WHo.so rfl (SO.makes (Enters.func Try.call41 rfl) (fun w hI => with_g (withP (withP p ⟨a, b, false⟩) ⟨b, d, false⟩) a1 _ c1 a22 _ c22 _ w hR22 hI.imm ⟨d, a, false⟩)) rfl ?_)
              rintro _ D23 _ ⟨hX23, ⟨a23, c23, rfl, hR23⟩, rfl⟩
              replace hR23 := hR23 (by omega)
              replace hR := hR.ext hX23
              refine ⟨(fun _ hI => (Inv.pick 2 rfl hI).shrink ((hX21.trans hX22 (Nat.le_refl _)).trans hX23 (Nat.le_refl _)).old), ?_⟩
              refine WH.one (i := 14) (by kernel_rfl) (WHo.so rfl (SO.store 0 rfl Try.sizeOf27 rfl rfl rfl rfl (Nat.le_of_ble_eq_true rfl) (oneB_spec rfl)) rfl ?_)
              rintro _ _ _ ⟨rfl, rfl, rfl⟩
              refine ⟨(fun _ hI => (Inv.pick 2 rfl hI).shrink ((hX21.trans hX22 (Nat.le_refl _)).trans hX23 (Nat.le_refl _)).old), ?_⟩
              refine WH.nil (by kernel_rfl) ?_
              exact WP.join (⟨D23, b15, a23, c23⟩ : Imm × Nat × Option Addr × Nat) ⟨(hX21.trans hX22 (Nat.le_refl _)).trans hX23 (Nat.le_refl _), hR23⟩ (fun aa ww h => at_fr h ⟨rfl, rfl, rfl, rfl, rfl, trivial⟩)
          · refine WHo.so rfl (SO.alloc Try.zeroValue27 rfl) rfl ?_
            rintro _ _ _ ⟨b15, hb15, rfl, rfl, rfl⟩ -- NEW
            refine ⟨(fun _ hI => (Inv.pick 2 rfl hI).shrink hX21.old), ?_⟩
            refine WH.one (i := 8) (by kernel_rfl) (WHo.so rfl (SO.makes (Enters.func Try.call41 rfl) (fun w hI => with_g (withP p ⟨a, b, false⟩) a1 _ c1 a21 _ c21 _ w hR21 hI.imm ⟨b, d, false⟩)) rfl ?_)
            rintro _ D22 _ ⟨hX22, ⟨a22, c22, rfl, hR22⟩, rfl⟩
            replace hR22 := hR22 (by omega)
            replace hR := hR.ext hX22
            refine ⟨(fun _ hI => (Inv.pick 2 rfl hI).shrink (hX21.trans hX22 (Nat.le_refl _)).old), ?_⟩
            refine WH.one (i := 11) (by kernel_rfl) (WHo.so rfl (SO.callP Try.call33 rfl (fun w hI => lbef_g _ _ _)) rfl ?_)
            rintro _ _ _ ⟨rfl, rfl, rfl⟩
            refine ⟨(fun _ hI => (Inv.pick 2 rfl hI).shrink (hX21.trans hX22 (Nat.le_refl _)).old), ?_⟩
            refine WH.one (i := 12) (by kernel_rfl) (WHo.so rfl (SO.makes (Enters.func Try.call41 rfl) (fun w hI => with_g (withP (withP p ⟨a, b, false⟩) ⟨b, d, false⟩) a1 _ c1 a22 _ c22 _ w hR22 hI.imm ⟨d, a, false⟩)) rfl ?_)
            rintro _ D23 _ ⟨hX23, ⟨a23, c23, rfl, hR23⟩, rfl⟩
            replace hR23 := hR23 (by omega)
            replace hR := hR.ext hX23
            refine ⟨(fun _ hI => (Inv.pick 2 rfl hI).shrink ((hX21.trans hX22 (Nat.le_refl _)).trans hX23 (Nat.le_refl _)).old), ?_⟩
            refine WH.one (i := 14) (by kernel_rfl) (WHo.so rfl (SO.store 0 rfl Try.sizeOf27 rfl rfl rfl rfl (Nat.le_of_ble_eq_true rfl) (oneB_spec rfl)) rfl ?_)
            rintro _ _ _ ⟨rfl, rfl, rfl⟩
            refine ⟨(fun _ hI => (Inv.pick 2 rfl hI).shrink ((hX21.trans hX22 (Nat.le_refl _)).trans hX23 (Nat.le_refl _)).old), ?_⟩
            refine WH.nil (by kernel_rfl) ?_
            exact WP.join (⟨D23, b15, a23, c23⟩ : Imm × Nat × Option Addr × Nat) ⟨(hX21.trans hX22 (Nat.le_refl _)).trans hX23 (Nat.le_refl _), hR23⟩ (fun aa ww h => at_fr h ⟨rfl, rfl, rfl, rfl, rfl, trivial⟩)
        · refine WHo.so rfl (SO.alloc Try.zeroValue27 rfl) rfl ?_
          rintro _ _ _ ⟨b15, hb15, rfl, rfl, rfl⟩ -- NEW
          refine ⟨(fun _ hI => (Inv.pick 2 rfl hI).shrink hX21.old), ?_⟩
          refine WH.one (i := 7) (by kernel_rfl) (WHo.so rfl (SO.callP Try.call33 rfl (fun w hI => lbef_g _ _ _)) rfl ?_)
          rintro _ _ _ ⟨rfl, rfl, rfl⟩
          refine ⟨(fun _ hI => (Inv.pick 2 rfl hI).shrink hX21.old), ?_⟩
          refine WH.one (i := 8) (by kernel_rfl) (WHo.so rfl (SO.makes (Enters.func Try.call41 rfl) (fun w hI => with_g (withP p ⟨a, b, false⟩) a1 _ c1 a21 _ c21 _ w hR21 hI.imm ⟨b, d, false⟩)) rfl ?_)
          rintro _ D22 _ ⟨hX22, ⟨a22, c22, rfl, hR22⟩, rfl⟩
          replace hR22 := hR22 (by omega)
          replace hR := hR.ext hX22
          refine ⟨(fun _ hI => (Inv.pick 2 rfl hI).shrink (hX21.trans hX22 (Nat.le_refl _)).old), ?_⟩
          refine WH.one (i := 11) (by kernel_rfl) (WHo.so rfl (SO.callP Try.call33 rfl (fun w hI => lbef_g _ _ _)) rfl ?_)
          rintro _ _ _ ⟨rfl, rfl, rfl⟩
          refine ⟨(fun _ hI => (Inv.pick 2 rfl hI).shrink (hX21.trans hX22 (Nat.le_refl _)).old), ?_⟩
          refine WH.one (i := 12) (by kernel_rfl) (WHo.so rfl (SO.makes (Enters.func Try.call41 rfl) (fun w hI => with_g (withP (withP p ⟨a, b, false⟩) ⟨b, d, false⟩) a1 _ c1 a22 _ c22 _ w hR22 hI.imm ⟨d, a, false⟩)) rfl ?_)
          rintro _ D23 _ ⟨hX23, ⟨a23, c23, rfl, hR23⟩, rfl⟩
          replace hR23 := hR23 (by omega)
          replace hR := hR.ext hX23
          refine ⟨(fun _ hI => (Inv.pick 2 rfl hI).shrink ((hX21.trans hX22 (Nat.le_refl _)).trans hX23 (Nat.le_refl _)).old), ?_⟩
          refine WH.one (i := 14) (by kernel_rfl) (WHo.so rfl (SO.store 0 rfl Try.sizeOf27 rfl rfl rfl rfl (Nat.le_of_ble_eq_true rfl) (oneB_spec rfl)) rfl ?_)
          rintro _ _ _ ⟨rfl, rfl, rfl⟩
          refine ⟨(fun _ hI => (Inv.pick 2 rfl hI).shrink ((hX21.trans hX22 (Nat.le_refl _)).trans hX23 (Nat.le_refl _)).old), ?_⟩
          refine WH.nil (by kernel_rfl) ?_
          exact WP.join (⟨D23, b15, a23, c23⟩ : Imm × Nat × Option Addr × Nat) ⟨(hX21.trans hX22 (Nat.le_refl _)).trans hX23 (Nat.le_refl _), hR23⟩ (fun aa ww h => at_fr h ⟨rfl, rfl, rfl, rfl, rfl, trivial⟩)
      · refine WHo.so rfl (SO.alloc Try.zeroValue27 rfl) rfl ?_
        rintro _ _ _ ⟨b15, hb15, rfl, rfl, rfl⟩ -- NEW
        refine ⟨(fun _ hI => Inv.pick 2 rfl hI), ?_⟩
        refine WH.one (i := 4) (by kernel_rfl) (WHo.so rfl (SO.makes (Enters.func Try.call41 rfl) (fun w hI => with_g p a1 _ c1 a2 _ c2 _ w hR hI.imm ⟨a, b, false⟩)) rfl ?_)
        rintro _ D21 _ ⟨hX21, ⟨a21, c21, rfl, hR21⟩, rfl⟩
        replace hR21 := hR21 (by omega)
        replace hR := hR.ext hX21
        refine ⟨(fun _ hI => (Inv.pick 2 rfl hI).shrink hX21.old), ?_⟩
        refine WH.one (i := 7) (by kernel_rfl) (WHo.so rfl (SO.callP Try.call33 rfl (fun w hI => lbef_g _ _ _)) rfl ?_)
        rintro _ _ _ ⟨rfl, rfl, rfl⟩
        refine ⟨(fun _ hI => (Inv.pick 2 rfl hI).shrink hX21.old), ?_⟩
        refine WH.one (i := 8) (by kernel_rfl) (WHo.so rfl (SO.makes (Enters.func Try.call41 rfl) (fun w hI => with_g (withP p ⟨a, b, false⟩) a1 _ c1 a21 _ c21 _ w hR21 hI.imm ⟨b, d, false⟩)) rfl ?_)
        rintro _ D22 _ ⟨hX22, ⟨a22, c22, rfl, hR22⟩, rfl⟩
        replace hR22 := hR22 (by omega)
        replace hR := hR.ext hX22
        refine ⟨(fun _ hI => (Inv.pick 2 rfl hI).shrink (hX21.trans hX22 (Nat.le_refl _)).old), ?_⟩
        refine WH.one (i := 11) (by kernel_rfl) (WHo.so rfl (SO.callP Try.call33 rfl (fun w hI => lbef_g _ _ _)) rfl ?_)
        rintro _ _ _ ⟨rfl, rfl, rfl⟩
        refine ⟨(fun _ hI => (Inv.pick 2 rfl hI).shrink (hX21.trans hX22 (Nat.le_refl _)).old), ?_⟩
        refine WH.one (i := 12) (by kernel_rfl) (WHo.so rfl (SO.makes (Enters.func Try.call41 rfl) (fun w hI => with_g (withP (withP p ⟨a, b, false⟩) ⟨b, d, false⟩) a1 _ c1 a22 _ c22 _ w hR22 hI.imm ⟨d, a, false⟩)) rfl ?_)
        rintro _ D23 _ ⟨hX23, ⟨a23, c23, rfl, hR23⟩, rfl⟩
        replace hR23 := hR23 (by omega)
        replace hR := hR.ext hX23
        refine ⟨(fun _ hI => (Inv.pick 2 rfl hI).shrink ((hX21.trans hX22 (Nat.le_refl _)).trans hX23 (Nat.le_refl _)).old), ?_⟩
        refine WH.one (i := 14) (by kernel_rfl) (WHo.so rfl (SO.store 0 rfl Try.sizeOf27 rfl rfl rfl rfl (Nat.le_of_ble_eq_true rfl) (oneB_spec rfl)) rfl ?_)
        rintro _ _ _ ⟨rfl, rfl, rfl⟩
        refine ⟨(fun _ hI => (Inv.pick 2 rfl hI).shrink ((hX21.trans hX22 (Nat.le_refl _)).trans hX23 (Nat.le_refl _)).old), ?_⟩
        refine WH.nil (by kernel_rfl) ?_
        exact WP.join (⟨D23, b15, a23, c23⟩ : Imm × Nat × Option Addr × Nat) ⟨(hX21.trans hX22 (Nat.le_refl _)).trans hX23 (Nat.le_refl _), hR23⟩ (fun aa ww h => at_fr h ⟨rfl, rfl, rfl, rfl, rfl, trivial⟩)
    · refine WHo.so rfl (SO.alloc Try.zeroValue27 rfl) rfl ?_
      rintro _ _ _ ⟨b15, hb15, rfl, rfl, rfl⟩ -- NEW
      refine ⟨(fun _ hI => Inv.pick 2 rfl hI), ?_⟩
      refine WH.one (i := 3) (by kernel_rfl) (WHo.so rfl (SO.callP Try.call33 rfl (fun w hI => lbef_g _ _ _)) rfl ?_)
      rintro _ _ _ ⟨rfl, rfl, rfl⟩
      refine ⟨(fun _ hI => Inv.pick 2 rfl hI), ?_⟩
      refine WH.one (i := 4) (by kernel_rfl) (WHo.so rfl (SO.makes (Enters.func Try.call41 rfl) (fun w hI => with_g p a1 _ c1 a2 _ c2 _ w hR hI.imm ⟨a, b, false⟩)) rfl ?_)
      rintro _ D21 _ ⟨hX21, ⟨a21, c21, rfl, hR21⟩, rfl⟩
      replace hR21 := hR21 (by omega)
      replace hR := hR.ext hX21
      refine ⟨(fun _ hI => (Inv.pick 2 rfl hI).shrink hX21.old), ?_⟩
      refine WH.one (i := 7) (by kernel_rfl) (WHo.so rfl (SO.callP Try.call33 rfl (fun w hI => lbef_g _ _ _)) rfl ?_)
      rintro _ _ _ ⟨rfl, rfl, rfl⟩
      refine ⟨(fun _ hI => (Inv.pick 2 rfl hI).shrink hX21.old), ?_⟩
      refine WH.one (i := 8) (by kernel_rfl) (WHo.so rfl (SO.makes (Enters.func Try.call41 rfl) (fun w hI => with_g (withP p ⟨a, b, false⟩) a1 _ c1 a21 _ c21 _ w hR21 hI.imm ⟨b, d, false⟩)) rfl ?_)
      rintro _ D22 _ ⟨hX22, ⟨a22, c22, rfl, hR22⟩, rfl⟩
      replace hR22 := hR22 (by omega)
      replace hR := hR.ext hX22
      refine ⟨(fun _ hI => (Inv.pick 2 rfl hI).shrink (hX21.trans hX22 (Nat.le_refl _)).old), ?_⟩
      refine WH.one (i := 11) (by kernel_rfl) (WHo.so rfl (SO.callP Try.call33 rfl (fun w hI => lbef_g _ _ _)) rfl ?_)
      rintro _ _ _ ⟨rfl, rfl, rfl⟩
      refine ⟨(fun _ hI => (Inv.pick 2 rfl hI).shrink (hX21.trans hX22 (Nat.le_refl _)).old), ?_⟩
      refine WH.one (i := 12) (by kernel_rfl) (WHo.so rfl (SO.makes (Enters.func Try.call41 rfl) (fun w hI => with_g (withP (withP p ⟨a, b, false⟩) ⟨b, d, false⟩) a1 _ c1 a22 _ c22 _ w hR22 hI.imm ⟨d, a, false⟩)) rfl ?_)
      rintro _ D23 _ ⟨hX23, ⟨a23, c23, rfl, hR23⟩, rfl⟩
      replace hR23 := hR23 (by omega)
      replace hR := hR.ext hX23
      refine ⟨(fun _ hI => (Inv.pick 2 rfl hI).shrink ((hX21.trans hX22 (Nat.le_refl _)).trans hX23 (Nat.le_refl _)).old), ?_⟩
      refine WH.one (i := 14) (by kernel_rfl) (WHo.so rfl (SO.store 0 rfl Try.sizeOf27 rfl rfl rfl rfl (Nat.le_of_ble_eq_true rfl) (oneB_spec rfl)) rfl ?_)
      rintro _ _ _ ⟨rfl, rfl, rfl⟩
      refine ⟨(fun _ hI => (Inv.pick 2 rfl hI).shrink ((hX21.trans hX22 (Nat.le_refl _)).trans hX23 (Nat.le_refl _)).old), ?_⟩
      refine WH.nil (by kernel_rfl) ?_
      exact WP.join (⟨D23, b15, a23, c23⟩ : Imm × Nat × Option Addr × Nat) ⟨(hX21.trans hX22 (Nat.le_refl _)).trans hX23 (Nat.le_refl _), hR23⟩ (fun aa ww h => at_fr h ⟨rfl, rfl, rfl, rfl, rfl, trivial⟩)

set_option maxRecDepth 100000 in
set_option maxHeartbeats 1000000 in
theorem more11_o (p : Post) (a1 : Option Addr) (n1 c1 : Nat) (a2 : Option Addr) (n2 c2 : Nat) (D : Imm) (w : World) (hR : PostR D p a1 n1 a2 n2) (hH : Holds D w) (c : PClaim) (m1 m2 m3 : Nat) (hm1 : m1 ≤ 255) (hm2 : m2 ≤ 255) (hm3 : m3 ≤ 255) (hl : ¬ (max (n1 : Int) (n2 : Int) > 40)) (hv : postB p = true) (hm : p.claims.length ≤ 5) (hv2 : postB (withP p c) = true) (hok2 : okA (withP p c) = true) : Gives Try.prog 11 [.agg #[it p.post.lo, it p.post.hi, .slice a1 n1 c1, .slice a2 n2 c2], .agg #[it c.a, it c.b, .bool c.not], .int .u8 (m1 : Int), .int .u8 (m2 : Int), .int .u8 (m3 : Int)] w (.bool true) := by
  unfold Gives
  obtain rfl := hR.bath.len'
  obtain rfl := hR.claim.len'
  have hl1 := hR.len1
  have hl2 := hR.len2
  have h5 := hm
  have hp8 := pop_8 (falseS p)
  have hx1 : 0 ≤ (m1 : Int) % ((p.bathers.length : Int) + 1) ∧ (m1 : Int) % ((p.bathers.length : Int) + 1) < (p.bathers.length : Int) + 1 := ⟨Int.emod_nonneg _ (by omega), Int.emod_lt_of_pos _ (by omega)⟩
  have hx2 : 0 ≤ (m2 : Int) % ((p.bathers.length : Int) + 1) ∧ (m2 : Int) % ((p.bathers.length : Int) + 1) < (p.bathers.length : Int) + 1 := ⟨Int.emod_nonneg _ (by omega), Int.emod_lt_of_pos _ (by omega)⟩
  have hx3 : 0 ≤ (m3 : Int) % ((p.bathers.length : Int) + 1) ∧ (m3 : Int) % ((p.bathers.length : Int) + 1) < (p.bathers.length : Int) + 1 := ⟨Int.emod_nonneg _ (by omega), Int.emod_lt_of_pos _ (by omega)⟩
  have hpf := (ok_many hv2).1 hok2
  have hok := more_ok hv hv2 hok2
  refine enter Try.func11 rfl 266 Try.ntmps11 (Nat.le_of_ble_eq_true rfl) (Inv.start hH) ?_
  refine WC.seq ?_
  refine WC.ofFr [(0, _), (1, _), (2, _), (3, _), (4, _)] ⟨rfl, rfl, rfl, rfl, rfl, trivial⟩ ?_
  refine WC.region ?_
  refine WL.so (SO.box rfl rfl) rfl ?_
  rintro _ _ _ ⟨b5, hb5, rfl, rfl, rfl⟩ -- NEW
  refine WL.so (SO.box rfl rfl) rfl ?_
  rintro _ _ _ ⟨b6, hb6, rfl, rfl, rfl⟩ -- NEW
  refine WL.yd (Yd.assign rfl) rfl ?_
  refine WL.nil ?_
  refine WP.thenC ?_
  refine WC.seq ?_
  refine WC.seq ?_
  refine WC.ofFr [(10, _), (6, _), (5, _), (2, _), (3, _), (4, _)] ⟨rfl, rfl, rfl, rfl, rfl, rfl, trivial⟩ ?_
  refine WC.region ?_
  refine WL.yd (Yd.loadN Try.isAgg27 Try.sizeOf27 rfl (vs := [_, _, _, _]) rfl (by first | exact RdN.own (k := 0) (n := 4) rfl rfl | exact RdN.own (k := 1) (n := 4) rfl rfl)) rfl ?_
  refine WL.so (SO.callP Try.call38 rfl (fun w hI => long_g _ _ _ _ _ _ _ _ _)) rfl ?_
  rintro _ _ _ ⟨rfl, rfl, rfl⟩
  refine WL.know 47 (.bool false) rfl (congrArg Value.bool (decide_eq_false hl)) ?_
  refine WL.yd (Yd.move rfl) rfl ?_
  refine WL.ydg rfl (Yd.loadN Try.isAgg27 Try.sizeOf27 rfl (vs := [_, _, _, _]) rfl (by first | exact RdN.own (k := 0) (n := 4) rfl rfl | exact RdN.own (k := 1) (n := 4) rfl rfl)) rfl ?_
  refine WL.sog rfl (SO.callP Try.call39 rfl (fun w hI => rpost_g p a1 _ c1 a2 _ c2 _ w hR hI.imm)) rfl ?_
  rintro _ _ _ ⟨rfl, rfl, rfl⟩
  refine WL.know 50 (.bool true) rfl (congrArg Value.bool hv) ?_
  refine WL.ydg rfl (Yd.not rfl) rfl ?_
  refine WL.yd (Yd.pickF rfl rfl) rfl ?_
  refine WL.yd (Yd.move rfl) rfl ?_
  refine WL.ydg rfl (Yd.fieldAddr FA27_2 rfl) rfl ?_
  refine WL.ydg rfl (Yd.load1 Try.isAgg25 rfl (by first | exact Rd.own (k := 0) rfl rfl | exact Rd.own (k := 1) rfl rfl)) rfl ?_
  refine WL.ydg rfl (Yd.lenS rfl Try.underlying25 rfl) rfl ?_
  refine WL.ydg rfl (Yd.gtr rfl rfl) rfl ?_
  refine WL.know 57 (.bool false) rfl (congrArg Value.bool (decide_eq_false (by omega))) ?_
  refine WL.yd (Yd.pickF rfl rfl) rfl ?_
  refine WL.nil ?_
  refine WP.thenC ?_
  refine WC.condF rfl ?_
  refine WC.skip ?_
  refine WP.thenC ?_
  refine WC.seq ?_
  refine WC.ofFr [(10, _), (6, _), (5, _), (2, _), (3, _), (4, _)] ⟨rfl, rfl, rfl, rfl, rfl, rfl, trivial⟩ ?_
  refine WC.region ?_
  refine WL.yd (Yd.fieldAddr FA27_1 rfl) rfl ?_
  refine WL.yd (Yd.load1 Try.isAgg24 rfl (by first | exact Rd.own (k := 0) rfl rfl | exact Rd.own (k := 1) rfl rfl)) rfl ?_
  refine WL.yd (Yd.lenS rfl Try.underlying24 rfl) rfl ?_
  refine WL.yd (Yd.add rfl rfl (wr64 ⟨by omega, by omega⟩)) rfl ?_
  refine WL.yd (Yd.assign rfl) rfl ?_
  refine WL.nil ?_
  refine WP.thenC ?_
  refine WC.seq ?_
  refine WC.ofFr [(11, _), (10, _), (6, _), (5, _), (2, _), (3, _), (4, _)] ⟨rfl, rfl, rfl, rfl, rfl, rfl, rfl, trivial⟩ ?_
  refine WC.tail 17 [0, 1, 2, 3, 4, 5, 6, 7, 8, 9, 10, 11, 12, 13, 14, 15, 16] rfl (by kernel_rfl) (by kernel_rfl)  ?_
  refine WQ.q rfl (Yd.qt (Yd.move rfl)) rfl ?_
  refine WQ.q rfl (Yd.qt (Yd.conv Try.underlying5 Try.underlying3 rfl (wr64 ⟨by omega, by omega⟩))) rfl ?_
  refine WQ.q rfl (Yd.qt (Yd.move rfl)) rfl ?_
  refine WQ.q rfl (Yd.qt (Yd.rem rfl rfl (by omega) (by omega))) rfl ?_
  refine WQ.q rfl (Yd.qt (Yd.sub rfl rfl (wr64 ⟨by omega, by omega⟩))) rfl ?_
  refine WQ.q rfl (Yd.qt (Yd.move rfl)) rfl ?_
  refine WQ.q rfl (Yd.qt (Yd.conv Try.underlying5 Try.underlying3 rfl (wr64 ⟨by omega, by omega⟩))) rfl ?_
  refine WQ.q rfl (Yd.qt (Yd.move rfl)) rfl ?_
  refine WQ.q rfl (Yd.qt (Yd.rem rfl rfl (by omega) (by omega))) rfl ?_
  refine WQ.q rfl (Yd.qt (Yd.sub rfl rfl (wr64 ⟨by omega, by omega⟩))) rfl ?_
  refine WQ.q rfl (Yd.qt (Yd.move rfl)) rfl ?_
  refine WQ.q rfl (Yd.qt (Yd.conv Try.underlying5 Try.underlying3 rfl (wr64 ⟨by omega, by omega⟩))) rfl ?_
  refine WQ.q rfl (Yd.qt (Yd.move rfl)) rfl ?_
  refine WQ.q rfl (Yd.qt (Yd.rem rfl rfl (by omega) (by omega))) rfl ?_
  refine WQ.q rfl (Yd.qt (Yd.sub rfl rfl (wr64 ⟨by omega, by omega⟩))) rfl ?_
  refine WQ.q rfl (Yd.qt (Yd.assign rfl)) rfl ?_
  refine WQ.q rfl (Yd.qt (Yd.assign rfl)) rfl ?_
  refine WQ.tail ?_
  refine WL.yd (Yd.assign rfl) rfl ?_
  refine WL.nil ?_
  refine WP.thenC ?_
  generalize hEa : (m1 : Int) % ((p.bathers.length : Int) + 1) - 1 = a
  have hwa : whoP p a = true := decide_eq_true ⟨by omega, by omega⟩
  generalize hEb : (m2 : Int) % ((p.bathers.length : Int) + 1) - 1 = b
  have hwb : whoP p b = true := decide_eq_true ⟨by omega, by omega⟩
  generalize hEd : (m3 : Int) % ((p.bathers.length : Int) + 1) - 1 = d
  have hwd : whoP p d = true := decide_eq_true ⟨by omega, by omega⟩
  refine WC.seqJ (fun y : Imm × Nat × Option Addr × Nat => [(5, pt b5), (6, pt b6), (12, it a), (13, it b), (15, pt y.2.1)]) (fun y => [(y.2.1, .cells (List.toArray [it p.post.lo, it p.post.hi, .slice a1 p.bathers.length c1, .slice y.2.2.1 (p.claims.length + 1 + 1 + 1) y.2.2.2]) 27 (0, 0)), (b6, .cells (List.toArray [it c.a, it c.b, .bool c.not]) 47 (0, 0)), (b5, .cells (List.toArray [it p.post.lo, it p.post.hi, .slice a1 p.bathers.length c1, .slice a2 p.claims.length c2]) 27 (0, 0))]) (fun y => y.1) (fun y => DExt w D y.1 ∧ PostR y.1 (circP p a b d) a1 p.bathers.length y.2.2.1 (p.claims.length + 1 + 1 + 1)) ?_ ?_
  · rintro ⟨Dn, b15, ad, cd⟩ ⟨hXn, hRd⟩
    dsimp only at hXn hRd
    replace hR := hR.ext hXn
    refine WC.seq ?_
    refine WC.seq ?_
    refine WC.ofFr [(5, _), (6, _), (12, _), (13, _), (15, _)] ⟨rfl, rfl, rfl, rfl, rfl, trivial⟩ ?_
    refine WC.region ?_
    refine WL.yd (Yd.loadN Try.isAgg27 Try.sizeOf27 rfl (vs := [_, _, _, _]) rfl (by first | exact RdN.own (k := 0) (n := 4) rfl rfl | exact RdN.own (k := 1) (n := 4) rfl rfl | exact RdN.own (k := 2) (n := 4) rfl rfl)) rfl ?_
    refine WL.so (SO.callP Try.call29 rfl (fun w hI => Clash_g (circP p a b d) a1 _ c1 ad _ cd _ w hRd hI.imm)) rfl ?_
    rintro _ _ _ ⟨rfl, rfl, rfl⟩
    refine WL.yd (Yd.move rfl) rfl ?_
    refine WL.yd (Yd.extract rfl rfl) rfl ?_
    refine WL.yd (Yd.extract rfl rfl) rfl ?_
    refine WL.yd (Yd.assign rfl) rfl ?_
    refine WL.yd (Yd.assign rfl) rfl ?_
    refine WL.nil ?_
    refine WP.thenC ?_
    refine WC.seq ?_
    refine WC.ofFr [(17, _), (5, _), (6, _), (12, _), (13, _)] ⟨rfl, rfl, rfl, rfl, rfl, trivial⟩ ?_
    refine WC.region ?_
    refine WL.yd (Yd.move rfl) rfl ?_
    refine WL.yd (Yd.neq rfl rfl) rfl ?_
    refine WL.know 98 (.bool false) rfl (congrArg Value.bool (decide_eq_false (fun h => h (more_circle hv hm hwa hwb hwd)))) ?_
    refine WL.nil ?_
    refine WP.thenC ?_
    refine WC.condF rfl ?_
    refine WC.skip ?_
    refine WP.thenC ?_
    refine WC.seq ?_
    refine WC.ofFr [(5, _), (6, _), (12, _), (13, _)] ⟨rfl, rfl, rfl, rfl, trivial⟩ ?_
    refine WC.region ?_
    refine WL.yd (Yd.loadN Try.isAgg27 Try.sizeOf27 rfl (vs := [_, _, _, _]) rfl (by first | exact RdN.own (k := 0) (n := 4) rfl rfl | exact RdN.own (k := 1) (n := 4) rfl rfl | exact RdN.own (k := 2) (n := 4) rfl rfl)) rfl ?_
    refine WL.yd (Yd.loadN Try.isAgg47 Try.sizeOf47 rfl (vs := [_, _, _]) rfl (by first | exact RdN.own (k := 0) (n := 3) rfl rfl | exact RdN.own (k := 1) (n := 3) rfl rfl | exact RdN.own (k := 2) (n := 3) rfl rfl)) rfl ?_
    refine WL.so (SO.makes (Enters.func Try.call41 rfl) (fun w hI => with_g p a1 _ c1 a2 _ c2 _ w hR hI.imm c)) rfl ?_
    rintro _ D31 _ ⟨hX31, ⟨a31, c31, rfl, hR31⟩, rfl⟩
    replace hR31 := hR31 (by omega)
    replace hR := hR.ext hX31
    refine WL.so (SO.alloc Try.zeroValue27 rfl) rfl ?_
    rintro _ _ _ ⟨b18, hb18, rfl, rfl, rfl⟩ -- NEW
    refine WL.so (SO.store 0 rfl Try.sizeOf27 rfl rfl rfl rfl (Nat.le_of_ble_eq_true rfl) (oneB_spec rfl)) rfl ?_
    rintro _ _ _ ⟨rfl, rfl, rfl⟩
    refine WL.nil ?_
    refine WP.thenC ?_
    refine WC.seq ?_
    refine WC.seq ?_
    refine WC.ofFr [(18, _), (5, _), (12, _), (13, _)] ⟨rfl, rfl, rfl, rfl, trivial⟩ ?_
    refine WC.region ?_
    refine WL.yd (Yd.loadN Try.isAgg27 Try.sizeOf27 rfl (vs := [_, _, _, _]) rfl (by first | exact RdN.own (k := 0) (n := 4) rfl rfl | exact RdN.own (k := 1) (n := 4) rfl rfl | exact RdN.own (k := 2) (n := 4) rfl rfl | exact RdN.own (k := 3) (n := 4) rfl rfl)) rfl ?_
    refine WL.so (SO.callP Try.call39 rfl (fun w hI => rpost_g (withP p c) a1 _ c1 a31 _ c31 _ w hR31 hI.imm)) rfl ?_
    rintro _ _ _ ⟨rfl, rfl, rfl⟩
    refine WL.know 103 (.bool true) rfl (congrArg Value.bool hv2) ?_
    refine WL.yd (Yd.not rfl) rfl ?_
    refine WL.nil ?_
    refine WP.thenC ?_
    refine WC.condF rfl ?_
    refine WC.skip ?_
    refine WP.thenC ?_
    refine WC.seq ?_
    refine WC.ofFr [(18, _), (5, _), (12, _), (13, _)] ⟨rfl, rfl, rfl, rfl, trivial⟩ ?_
    refine WC.region ?_
    refine WL.yd (Yd.assign rfl) rfl ?_
    refine WL.nil ?_
    refine WP.thenC ?_
    refine WC.seq ?_
    refine WC.ofFr [(19, _), (18, _), (5, _), (12, _), (13, _)] ⟨rfl, rfl, rfl, rfl, rfl, trivial⟩ ?_
    refine WC.region ?_
    refine WL.yd (Yd.loadN Try.isAgg27 Try.sizeOf27 rfl (vs := [_, _, _, _]) rfl (by first | exact RdN.own (k := 0) (n := 4) rfl rfl | exact RdN.own (k := 1) (n := 4) rfl rfl | exact RdN.own (k := 2) (n := 4) rfl rfl | exact RdN.own (k := 3) (n := 4) rfl rfl)) rfl ?_
    refine WL.so (SO.callP Try.call27 rfl (fun w hI => Gives.cv (.tuple #[nt (pop (falseS p)), nt (falseS p), it 0]) (False_g p a1 _ c1 a2 _ c2 _ w hR hI.imm) (by rw [false_out hv]))) rfl ?_
    rintro _ _ _ ⟨rfl, rfl, rfl⟩
    refine WL.yd (Yd.move rfl) rfl ?_
    refine WL.yd (Yd.extract rfl rfl) rfl ?_
    refine WL.yd (Yd.extract rfl rfl) rfl ?_
    refine WL.yd (Yd.extract rfl rfl) rfl ?_
    refine WL.yd (Yd.assign rfl) rfl ?_
    refine WL.yd (Yd.assign rfl) rfl ?_
    refine WL.yd (Yd.assign rfl) rfl ?_
    refine WL.nil ?_
    refine WP.thenC ?_
    refine WC.seq ?_
    refine WC.ofFr [(22, _), (20, _), (19, _), (18, _), (5, _), (12, _), (13, _)] ⟨rfl, rfl, rfl, rfl, rfl, rfl, rfl, trivial⟩ ?_
    refine WC.region ?_
    refine WL.yd (Yd.loadN Try.isAgg27 Try.sizeOf27 rfl (vs := [_, _, _, _]) rfl (by first | exact RdN.own (k := 0) (n := 4) rfl rfl | exact RdN.own (k := 1) (n := 4) rfl rfl | exact RdN.own (k := 2) (n := 4) rfl rfl | exact RdN.own (k := 3) (n := 4) rfl rfl)) rfl ?_
    refine WL.so (SO.callP Try.call27 rfl (fun w hI => Gives.cv (.tuple #[nt (pop (falseS (withP p c))), nt (falseS (withP p c)), it 0]) (False_g (withP p c) a1 _ c1 a31 _ c31 _ w hR31 hI.imm) (by rw [false_out hv2]))) rfl ?_
    rintro _ _ _ ⟨rfl, rfl, rfl⟩
    refine WL.yd (Yd.move rfl) rfl ?_
    refine WL.yd (Yd.extract rfl rfl) rfl ?_
    refine WL.yd (Yd.extract rfl rfl) rfl ?_
    refine WL.yd (Yd.extract rfl rfl) rfl ?_
    refine WL.yd (Yd.assign rfl) rfl ?_
    refine WL.yd (Yd.assign rfl) rfl ?_
    refine WL.yd (Yd.assign rfl) rfl ?_
    refine WL.nil ?_
    refine WP.thenC ?_
    refine WC.seq ?_
    refine WC.seq ?_
    refine WC.ofFr [(25, _), (23, _), (22, _), (20, _), (19, _), (18, _), (5, _), (12, _), (13, _)] ⟨rfl, rfl, rfl, rfl, rfl, rfl, rfl, rfl, rfl, trivial⟩ ?_
    refine WC.region ?_
    refine WL.yd (Yd.move rfl) rfl ?_
    refine WL.yd (Yd.neq rfl rfl) rfl ?_
    refine WL.know 119 (.bool false) rfl (congrArg Value.bool (decide_eq_false (by simp))) ?_
    refine WL.yd (Yd.move rfl) rfl ?_
    refine WL.ydg rfl (Yd.move rfl) rfl ?_
    refine WL.ydg rfl (Yd.neq rfl rfl) rfl ?_
    refine WL.know 122 (.bool false) rfl (congrArg Value.bool (decide_eq_false (by simp))) ?_
    refine WL.yd (Yd.pickF rfl rfl) rfl ?_
    refine WL.yd (Yd.move rfl) rfl ?_
    refine WL.ydg rfl (Yd.move rfl) rfl ?_
    refine WL.ydg rfl (Yd.move rfl) rfl ?_
    refine WL.ydg rfl (Yd.lss rfl rfl) rfl ?_
    refine WL.know 127 (.bool false) rfl (congrArg Value.bool (decide_eq_false (by have := more_many hv hv2; omega))) ?_
    refine WL.yd (Yd.pickF rfl rfl) rfl ?_
    refine WL.yd (Yd.move rfl) rfl ?_
    refine WL.ydg rfl (Yd.move rfl) rfl ?_
    refine WL.ydg rfl (Yd.move rfl) rfl ?_
    refine WL.ydg rfl (Yd.add rfl rfl (wr64 ⟨by omega, by omega⟩)) rfl ?_
    refine WL.ydg rfl (Yd.gtr rfl rfl) rfl ?_
    refine WL.know 133 (.bool false) rfl (congrArg Value.bool (decide_eq_false (by have := more_many hv hv2; omega))) ?_
    refine WL.yd (Yd.pickF rfl rfl) rfl ?_
    refine WL.nil ?_
    refine WP.thenC ?_
    refine WC.condF rfl ?_
    refine WC.skip ?_
    refine WP.thenC ?_
    refine WC.seq ?_
    refine WC.seq ?_
    refine WC.ofFr [(23, _), (19, _), (18, _), (5, _), (12, _), (13, _)] ⟨rfl, rfl, rfl, rfl, rfl, rfl, trivial⟩ ?_
    refine WC.region ?_
    refine WL.yd (Yd.move rfl) rfl ?_
    refine WL.yd (Yd.gtr rfl rfl) rfl ?_
    refine WL.know 136 (.bool false) rfl (congrArg Value.bool (decide_eq_false (by omega))) ?_
    refine WL.nil ?_
    refine WP.thenC ?_
    refine WC.condF rfl ?_
    refine WC.skip ?_
    refine WP.thenC ?_
    refine WC.seq ?_
    refine WC.ofFr [(19, _), (18, _), (5, _), (12, _), (13, _)] ⟨rfl, rfl, rfl, rfl, rfl, trivial⟩ ?_
    refine WC.region ?_
    refine WL.yd (Yd.loadN Try.isAgg27 Try.sizeOf27 rfl (vs := [_, _, _, _]) rfl (by first | exact RdN.own (k := 0) (n := 4) rfl rfl | exact RdN.own (k := 1) (n := 4) rfl rfl | exact RdN.own (k := 2) (n := 4) rfl rfl | exact RdN.own (k := 3) (n := 4) rfl rfl)) rfl ?_
    refine WL.yd (Yd.move rfl) rfl ?_
    refine WL.so (SO.callP Try.call15 rfl (fun w hI => Gives.cv (.tuple #[.agg #[it (-GA p (ix a) 0), it (GA p 0 (ix a))], it 0]) (Place_g p a1 _ c1 a2 _ c2 _ w hR hI.imm a) (by rw [place_out hv hok hwa]))) rfl ?_
    rintro _ _ _ ⟨rfl, rfl, rfl⟩
    refine WL.yd (Yd.move rfl) rfl ?_
    refine WL.yd (Yd.extract rfl rfl) rfl ?_
    refine WL.yd (Yd.extract rfl rfl) rfl ?_
    refine WL.so (SO.alloc Try.zeroValue23 rfl) rfl ?_
    rintro _ _ _ ⟨b28, hb28, rfl, rfl, rfl⟩ -- NEW
    refine WL.so (SO.store 0 rfl Try.sizeOf23 rfl rfl rfl rfl (Nat.le_of_ble_eq_true rfl) (oneB_spec rfl)) rfl ?_
    rintro _ _ _ ⟨rfl, rfl, rfl⟩
    refine WL.yd (Yd.assign rfl) rfl ?_
    refine WL.nil ?_
    refine WP.thenC ?_
    refine WC.seq ?_
    refine WC.ofFr [(29, _), (28, _), (19, _), (18, _), (5, _), (12, _), (13, _)] ⟨rfl, rfl, rfl, rfl, rfl, rfl, rfl, trivial⟩ ?_
    refine WC.region ?_
    refine WL.yd (Yd.loadN Try.isAgg27 Try.sizeOf27 rfl (vs := [_, _, _, _]) rfl (by first | exact RdN.own (k := 0) (n := 4) rfl rfl | exact RdN.own (k := 1) (n := 4) rfl rfl | exact RdN.own (k := 2) (n := 4) rfl rfl | exact RdN.own (k := 3) (n := 4) rfl rfl | exact RdN.own (k := 4) (n := 4) rfl rfl)) rfl ?_
    refine WL.yd (Yd.move rfl) rfl ?_
    refine WL.so (SO.callP Try.call15 rfl (fun w hI => Gives.cv (.tuple #[.agg #[it (-GA (withP p c) (ix a) 0), it (GA (withP p c) 0 (ix a))], it 0]) (Place_g (withP p c) a1 _ c1 a31 _ c31 _ w hR31 hI.imm a) (by rw [place_out hv2 hok2 hwa]))) rfl ?_
    rintro _ _ _ ⟨rfl, rfl, rfl⟩
    refine WL.yd (Yd.move rfl) rfl ?_
    refine WL.yd (Yd.extract rfl rfl) rfl ?_
    refine WL.yd (Yd.extract rfl rfl) rfl ?_
    refine WL.so (SO.alloc Try.zeroValue23 rfl) rfl ?_
    rintro _ _ _ ⟨b30, hb30, rfl, rfl, rfl⟩ -- NEW
    refine WL.so (SO.store 0 rfl Try.sizeOf23 rfl rfl rfl rfl (Nat.le_of_ble_eq_true rfl) (oneB_spec rfl)) rfl ?_
    rintro _ _ _ ⟨rfl, rfl, rfl⟩
    refine WL.yd (Yd.assign rfl) rfl ?_
    refine WL.nil ?_
    refine WP.thenC ?_
    refine WC.seq ?_
    refine WC.ofFr [(31, _), (30, _), (29, _), (28, _), (19, _), (18, _), (5, _), (12, _), (13, _)] ⟨rfl, rfl, rfl, rfl, rfl, rfl, rfl, rfl, rfl, trivial⟩ ?_
    refine WC.region ?_
    refine WL.yd (Yd.loadN Try.isAgg27 Try.sizeOf27 rfl (vs := [_, _, _, _]) rfl (by first | exact RdN.own (k := 0) (n := 4) rfl rfl | exact RdN.own (k := 1) (n := 4) rfl rfl | exact RdN.own (k := 2) (n := 4) rfl rfl | exact RdN.own (k := 3) (n := 4) rfl rfl | exact RdN.own (k := 4) (n := 4) rfl rfl | exact RdN.own (k := 5) (n := 4) rfl rfl)) rfl ?_
    refine WL.yd (Yd.move rfl) rfl ?_
    refine WL.yd (Yd.move rfl) rfl ?_
    refine WL.so (SO.callP Try.call19 rfl (fun w hI => Gives.cv (.tuple #[.agg #[it (nearS (-GA p (ix b) (ix a)) (GA p (ix a) (ix b))).lo, it (nearS (-GA p (ix b) (ix a)) (GA p (ix a) (ix b))).hi], it 0]) (Near_g p a1 _ c1 a2 _ c2 _ w hR hI.imm a b) (by rw [near_out hv hok hwa hwb]))) rfl ?_
    rintro _ _ _ ⟨rfl, rfl, rfl⟩
    refine WL.yd (Yd.move rfl) rfl ?_
    refine WL.yd (Yd.extract rfl rfl) rfl ?_
    refine WL.yd (Yd.extract rfl rfl) rfl ?_
    refine WL.so (SO.alloc Try.zeroValue23 rfl) rfl ?_
    rintro _ _ _ ⟨b32, hb32, rfl, rfl, rfl⟩ -- NEW
    refine WL.so (SO.store 0 rfl Try.sizeOf23 rfl rfl rfl rfl (Nat.le_of_ble_eq_true rfl) (oneB_spec rfl)) rfl ?_
    rintro _ _ _ ⟨rfl, rfl, rfl⟩
    refine WL.yd (Yd.assign rfl) rfl ?_
    refine WL.nil ?_
    refine WP.thenC ?_
    refine WC.seq ?_
    refine WC.ofFr [(33, _), (32, _), (31, _), (30, _), (29, _), (28, _), (19, _), (18, _), (5, _), (12, _), (13, _)] ⟨rfl, rfl, rfl, rfl, rfl, rfl, rfl, rfl, rfl, rfl, rfl, trivial⟩ ?_
    refine WC.region ?_
    refine WL.yd (Yd.loadN Try.isAgg27 Try.sizeOf27 rfl (vs := [_, _, _, _]) rfl (by first | exact RdN.own (k := 0) (n := 4) rfl rfl | exact RdN.own (k := 1) (n := 4) rfl rfl | exact RdN.own (k := 2) (n := 4) rfl rfl | exact RdN.own (k := 3) (n := 4) rfl rfl | exact RdN.own (k := 4) (n := 4) rfl rfl | exact RdN.own (k := 5) (n := 4) rfl rfl | exact RdN.own (k := 6) (n := 4) rfl rfl)) rfl ?_
    refine WL.yd (Yd.move rfl) rfl ?_
    refine WL.yd (Yd.move rfl) rfl ?_
    refine WL.so (SO.callP Try.call19 rfl (fun w hI => Gives.cv (.tuple #[.agg #[it (nearS (-GA (withP p c) (ix b) (ix a)) (GA (withP p c) (ix a) (ix b))).lo, it (nearS (-GA (withP p c) (ix b) (ix a)) (GA (withP p c) (ix a) (ix b))).hi], it 0]) (Near_g (withP p c) a1 _ c1 a31 _ c31 _ w hR31 hI.imm a b) (by rw [near_out hv2 hok2 hwa hwb]))) rfl ?_
    rintro _ _ _ ⟨rfl, rfl, rfl⟩
    refine WL.yd (Yd.move rfl) rfl ?_
    refine WL.yd (Yd.extract rfl rfl) rfl ?_
    refine WL.yd (Yd.extract rfl rfl) rfl ?_
    refine WL.so (SO.alloc Try.zeroValue23 rfl) rfl ?_
    rintro _ _ _ ⟨b34, hb34, rfl, rfl, rfl⟩ -- NEW
    refine WL.so (SO.store 0 rfl Try.sizeOf23 rfl rfl rfl rfl (Nat.le_of_ble_eq_true rfl) (oneB_spec rfl)) rfl ?_
    rintro _ _ _ ⟨rfl, rfl, rfl⟩
    refine WL.yd (Yd.assign rfl) rfl ?_
    refine WL.nil ?_
    refine WP.thenC ?_
    refine WC.seq ?_
    refine WC.ofFr [(35, _), (34, _), (33, _), (32, _), (31, _), (30, _), (29, _), (28, _), (19, _), (18, _), (5, _), (12, _), (13, _)] ⟨rfl, rfl, rfl, rfl, rfl, rfl, rfl, rfl, rfl, rfl, rfl, rfl, rfl, trivial⟩ ?_
    refine WC.region ?_
    refine WL.yd (Yd.loadN Try.isAgg27 Try.sizeOf27 rfl (vs := [_, _, _, _]) rfl (by first | exact RdN.own (k := 0) (n := 4) rfl rfl | exact RdN.own (k := 1) (n := 4) rfl rfl | exact RdN.own (k := 2) (n := 4) rfl rfl | exact RdN.own (k := 3) (n := 4) rfl rfl | exact RdN.own (k := 4) (n := 4) rfl rfl | exact RdN.own (k := 5) (n := 4) rfl rfl | exact RdN.own (k := 6) (n := 4) rfl rfl | exact RdN.own (k := 7) (n := 4) rfl rfl)) rfl ?_
    refine WL.yd (Yd.move rfl) rfl ?_
    refine WL.yd (Yd.move rfl) rfl ?_
    refine WL.so (SO.callP Try.call17 rfl (fun w hI => Gives.cv (.tuple #[it (befG p a b), it 0]) (Before_g p a1 _ c1 a2 _ c2 _ w hR hI.imm a b) (by rw [before_out hv hok hwa hwb]; rfl))) rfl ?_
    rintro _ _ _ ⟨rfl, rfl, rfl⟩
    refine WL.yd (Yd.move rfl) rfl ?_
    refine WL.yd (Yd.extract rfl rfl) rfl ?_
    refine WL.yd (Yd.extract rfl rfl) rfl ?_
    refine WL.yd (Yd.assign rfl) rfl ?_
    refine WL.yd (Yd.assign rfl) rfl ?_
    refine WL.nil ?_
    refine WP.thenC ?_
    refine WC.seq ?_
    refine WC.ofFr [(37, _), (36, _), (35, _), (34, _), (33, _), (32, _), (31, _), (30, _), (29, _), (28, _), (19, _), (18, _), (5, _), (12, _), (13, _)] ⟨rfl, rfl, rfl, rfl, rfl, rfl, rfl, rfl, rfl, rfl, rfl, rfl, rfl, rfl, rfl, trivial⟩ ?_
    refine WC.region ?_
    refine WL.yd (Yd.loadN Try.isAgg27 Try.sizeOf27 rfl (vs := [_, _, _, _]) rfl (by first | exact RdN.own (k := 0) (n := 4) rfl rfl | exact RdN.own (k := 1) (n := 4) rfl rfl | exact RdN.own (k := 2) (n := 4) rfl rfl | exact RdN.own (k := 3) (n := 4) rfl rfl | exact RdN.own (k := 4) (n := 4) rfl rfl | exact RdN.own (k := 5) (n := 4) rfl rfl | exact RdN.own (k := 6) (n := 4) rfl rfl | exact RdN.own (k := 7) (n := 4) rfl rfl)) rfl ?_
    refine WL.yd (Yd.move rfl) rfl ?_
    refine WL.yd (Yd.move rfl) rfl ?_
    refine WL.so (SO.callP Try.call17 rfl (fun w hI => Gives.cv (.tuple #[it (befG (withP p c) a b), it 0]) (Before_g (withP p c) a1 _ c1 a31 _ c31 _ w hR31 hI.imm a b) (by rw [before_out hv2 hok2 hwa hwb]; rfl))) rfl ?_
    rintro _ _ _ ⟨rfl, rfl, rfl⟩
    refine WL.yd (Yd.move rfl) rfl ?_
    refine WL.yd (Yd.extract rfl rfl) rfl ?_
    refine WL.yd (Yd.extract rfl rfl) rfl ?_
    refine WL.yd (Yd.assign rfl) rfl ?_
    refine WL.yd (Yd.assign rfl) rfl ?_
    refine WL.nil ?_
    refine WP.thenC ?_
    refine WC.seq ?_
    refine WC.ofFr [(39, _), (38, _), (37, _), (36, _), (35, _), (34, _), (33, _), (32, _), (31, _), (30, _), (29, _), (28, _), (19, _), (18, _), (5, _)] ⟨rfl, rfl, rfl, rfl, rfl, rfl, rfl, rfl, rfl, rfl, rfl, rfl, rfl, rfl, rfl, trivial⟩ ?_
    refine WC.region ?_
    refine WL.yd (Yd.loadN Try.isAgg27 Try.sizeOf27 rfl (vs := [_, _, _, _]) rfl (by first | exact RdN.own (k := 0) (n := 4) rfl rfl | exact RdN.own (k := 1) (n := 4) rfl rfl | exact RdN.own (k := 2) (n := 4) rfl rfl | exact RdN.own (k := 3) (n := 4) rfl rfl | exact RdN.own (k := 4) (n := 4) rfl rfl | exact RdN.own (k := 5) (n := 4) rfl rfl | exact RdN.own (k := 6) (n := 4) rfl rfl | exact RdN.own (k := 7) (n := 4) rfl rfl)) rfl ?_
    refine WL.so (SO.callP Try.call21 rfl (fun w hI => Gives.cv (.tuple #[nt (allS p), nt (someS p), it 0]) (Breaks_g p a1 _ c1 a2 _ c2 _ w hR hI.imm) (by rw [breaks_out hv hok]))) rfl ?_
    rintro _ _ _ ⟨rfl, rfl, rfl⟩
    refine WL.yd (Yd.move rfl) rfl ?_
    refine WL.yd (Yd.extract rfl rfl) rfl ?_
    refine WL.yd (Yd.extract rfl rfl) rfl ?_
    refine WL.yd (Yd.extract rfl rfl) rfl ?_
    refine WL.yd (Yd.assign rfl) rfl ?_
    refine WL.yd (Yd.assign rfl) rfl ?_
    refine WL.yd (Yd.assign rfl) rfl ?_
    refine WL.nil ?_
    refine WP.thenC ?_
    refine WC.seq ?_
    refine WC.ofFr [(42, _), (41, _), (40, _), (39, _), (38, _), (37, _), (36, _), (35, _), (34, _), (33, _), (32, _), (31, _), (30, _), (29, _), (28, _), (19, _), (18, _)] ⟨rfl, rfl, rfl, rfl, rfl, rfl, rfl, rfl, rfl, rfl, rfl, rfl, rfl, rfl, rfl, rfl, rfl, trivial⟩ ?_
    refine WC.region ?_
    refine WL.yd (Yd.loadN Try.isAgg27 Try.sizeOf27 rfl (vs := [_, _, _, _]) rfl (by first | exact RdN.own (k := 0) (n := 4) rfl rfl | exact RdN.own (k := 1) (n := 4) rfl rfl | exact RdN.own (k := 2) (n := 4) rfl rfl | exact RdN.own (k := 3) (n := 4) rfl rfl | exact RdN.own (k := 4) (n := 4) rfl rfl | exact RdN.own (k := 5) (n := 4) rfl rfl | exact RdN.own (k := 6) (n := 4) rfl rfl | exact RdN.own (k := 7) (n := 4) rfl rfl)) rfl ?_
    refine WL.so (SO.callP Try.call21 rfl (fun w hI => Gives.cv (.tuple #[nt (allS (withP p c)), nt (someS (withP p c)), it 0]) (Breaks_g (withP p c) a1 _ c1 a31 _ c31 _ w hR31 hI.imm) (by rw [breaks_out hv2 hok2]))) rfl ?_
    rintro _ _ _ ⟨rfl, rfl, rfl⟩
    refine WL.yd (Yd.move rfl) rfl ?_
    refine WL.yd (Yd.extract rfl rfl) rfl ?_
    refine WL.yd (Yd.extract rfl rfl) rfl ?_
    refine WL.yd (Yd.extract rfl rfl) rfl ?_
    refine WL.yd (Yd.assign rfl) rfl ?_
    refine WL.yd (Yd.assign rfl) rfl ?_
    refine WL.yd (Yd.assign rfl) rfl ?_
    refine WL.nil ?_
    refine WP.thenC ?_
    refine WC.seq ?_
    refine WC.ofFr [(45, _), (44, _), (43, _), (42, _), (41, _), (40, _), (39, _), (38, _), (37, _), (36, _), (35, _), (34, _), (33, _), (32, _), (31, _), (30, _), (29, _), (28, _), (19, _)] ⟨rfl, rfl, rfl, rfl, rfl, rfl, rfl, rfl, rfl, rfl, rfl, rfl, rfl, rfl, rfl, rfl, rfl, rfl, rfl, trivial⟩ ?_
    refine WC.region ?_
    refine WL.yd (Yd.move rfl) rfl ?_
    refine WL.yd (Yd.eql rfl rfl) rfl ?_
    refine WL.know 201 (.bool true) rfl (congrArg Value.bool (by decide)) ?_
    refine WL.yd (Yd.move rfl) rfl ?_
    refine WL.ydg rfl (Yd.move rfl) rfl ?_
    refine WL.ydg rfl (Yd.eql rfl rfl) rfl ?_
    refine WL.know 204 (.bool true) rfl (congrArg Value.bool (by decide)) ?_
    refine WL.yd (Yd.pickT rfl rfl) rfl ?_
    refine WL.yd (Yd.move rfl) rfl ?_
    refine WL.ydg rfl (Yd.move rfl) rfl ?_
    refine WL.ydg rfl (Yd.loadN Try.isAgg23 Try.sizeOf23 rfl (vs := [_, _]) rfl (by first | exact RdN.own (k := 0) (n := 2) rfl rfl | exact RdN.own (k := 1) (n := 2) rfl rfl | exact RdN.own (k := 2) (n := 2) rfl rfl | exact RdN.own (k := 3) (n := 2) rfl rfl | exact RdN.own (k := 4) (n := 2) rfl rfl | exact RdN.own (k := 5) (n := 2) rfl rfl | exact RdN.own (k := 6) (n := 2) rfl rfl | exact RdN.own (k := 7) (n := 2) rfl rfl)) rfl ?_
    refine WL.ydg rfl (Yd.loadN Try.isAgg23 Try.sizeOf23 rfl (vs := [_, _]) rfl (by first | exact RdN.own (k := 0) (n := 2) rfl rfl | exact RdN.own (k := 1) (n := 2) rfl rfl | exact RdN.own (k := 2) (n := 2) rfl rfl | exact RdN.own (k := 3) (n := 2) rfl rfl | exact RdN.own (k := 4) (n := 2) rfl rfl | exact RdN.own (k := 5) (n := 2) rfl rfl | exact RdN.own (k := 6) (n := 2) rfl rfl | exact RdN.own (k := 7) (n := 2) rfl rfl)) rfl ?_
    refine WL.sog rfl (SO.call (Enters.val Try.call45 rfl rfl) (fun w hI => in45_g _ _ _ _ _)) rfl ?_
    rintro _ _ _ ⟨rfl, rfl, rfl⟩
    refine WL.know 210 (.bool true) rfl (congrArg Value.bool (and_t (decide_eq_true (more_place hv hv2 hok2 hwa).1) (decide_eq_true (more_place hv hv2 hok2 hwa).2))) ?_
    refine WL.yd (Yd.pickT rfl rfl) rfl ?_
    refine WL.yd (Yd.move rfl) rfl ?_
    refine WL.ydg rfl (Yd.move rfl) rfl ?_
    refine WL.ydg rfl (Yd.eql rfl rfl) rfl ?_
    refine WL.know 214 (.bool true) rfl (congrArg Value.bool (by decide)) ?_
    refine WL.yd (Yd.pickT rfl rfl) rfl ?_
    refine WL.yd (Yd.move rfl) rfl ?_
    refine WL.ydg rfl (Yd.move rfl) rfl ?_
    refine WL.ydg rfl (Yd.eql rfl rfl) rfl ?_
    refine WL.know 218 (.bool true) rfl (congrArg Value.bool (by decide)) ?_
    refine WL.yd (Yd.pickT rfl rfl) rfl ?_
    refine WL.yd (Yd.move rfl) rfl ?_
    refine WL.ydg rfl (Yd.move rfl) rfl ?_
    refine WL.ydg rfl (Yd.loadN Try.isAgg23 Try.sizeOf23 rfl (vs := [_, _]) rfl (by first | exact RdN.own (k := 0) (n := 2) rfl rfl | exact RdN.own (k := 1) (n := 2) rfl rfl | exact RdN.own (k := 2) (n := 2) rfl rfl | exact RdN.own (k := 3) (n := 2) rfl rfl | exact RdN.own (k := 4) (n := 2) rfl rfl | exact RdN.own (k := 5) (n := 2) rfl rfl | exact RdN.own (k := 6) (n := 2) rfl rfl | exact RdN.own (k := 7) (n := 2) rfl rfl)) rfl ?_
    refine WL.ydg rfl (Yd.loadN Try.isAgg23 Try.sizeOf23 rfl (vs := [_, _]) rfl (by first | exact RdN.own (k := 0) (n := 2) rfl rfl | exact RdN.own (k := 1) (n := 2) rfl rfl | exact RdN.own (k := 2) (n := 2) rfl rfl | exact RdN.own (k := 3) (n := 2) rfl rfl | exact RdN.own (k := 4) (n := 2) rfl rfl | exact RdN.own (k := 5) (n := 2) rfl rfl | exact RdN.own (k := 6) (n := 2) rfl rfl | exact RdN.own (k := 7) (n := 2) rfl rfl)) rfl ?_
    refine WL.sog rfl (SO.call (Enters.val Try.call45 rfl rfl) (fun w hI => in45_g _ _ _ _ _)) rfl ?_
    rintro _ _ _ ⟨rfl, rfl, rfl⟩
    refine WL.know 224 (.bool true) rfl (congrArg Value.bool (and_t (decide_eq_true (more_near hv hv2 hok2 hwa hwb).1) (decide_eq_true (more_near hv hv2 hok2 hwa hwb).2))) ?_
    refine WL.yd (Yd.pickT rfl rfl) rfl ?_
    refine WL.yd (Yd.move rfl) rfl ?_
    refine WL.ydg rfl (Yd.move rfl) rfl ?_
    refine WL.ydg rfl (Yd.eql rfl rfl) rfl ?_
    refine WL.know 228 (.bool true) rfl (congrArg Value.bool (by decide)) ?_
    refine WL.yd (Yd.pickT rfl rfl) rfl ?_
    refine WL.yd (Yd.move rfl) rfl ?_
    refine WL.ydg rfl (Yd.move rfl) rfl ?_
    refine WL.ydg rfl (Yd.eql rfl rfl) rfl ?_
    refine WL.know 232 (.bool true) rfl (congrArg Value.bool (by decide)) ?_
    refine WL.yd (Yd.pickT rfl rfl) rfl ?_
    refine WL.yd (Yd.move rfl) rfl ?_
    refine WL.ydg rfl (Yd.move rfl) rfl ?_
    refine WL.ydg rfl (Yd.eql rfl rfl) rfl ?_
    refine WL.ydg rfl (Yd.move rfl) rfl ?_
    refine WL.part 237 rfl (fun g237 => ?_) (fun g237 => ?_)
    · try simp only [zq1, zq2, zq3, zq4, zq5, zq6, zq7, zq8] at g237
      refine WL.skip rfl rfl ?_
      refine WL.skip rfl rfl ?_
      refine WL.skip rfl rfl ?_
      refine WL.ydg rfl (Yd.pickT rfl rfl) rfl ?_
      refine WL.yd (Yd.pickT rfl rfl) rfl ?_
      refine WL.yd (Yd.move rfl) rfl ?_
      refine WL.ydg rfl (Yd.move rfl) rfl ?_
      refine WL.ydg rfl (Yd.eql rfl rfl) rfl ?_
      refine WL.know 245 (.bool true) rfl (congrArg Value.bool (by decide)) ?_
      refine WL.yd (Yd.pickT rfl rfl) rfl ?_
      refine WL.yd (Yd.move rfl) rfl ?_
      refine WL.ydg rfl (Yd.move rfl) rfl ?_
      refine WL.ydg rfl (Yd.eql rfl rfl) rfl ?_
      refine WL.know 249 (.bool true) rfl (congrArg Value.bool (by decide)) ?_
      refine WL.yd (Yd.pickT rfl rfl) rfl ?_
      refine WL.yd (Yd.move rfl) rfl ?_
      refine WL.ydg rfl (Yd.move rfl) rfl ?_
      refine WL.ydg rfl (Yd.move rfl) rfl ?_
      refine WL.ydg rfl (Yd.andNotI (more_all hv hv2) rfl rfl) rfl ?_
      refine WL.ydg rfl (Yd.eql rfl rfl) rfl ?_
      refine WL.know 255 (.bool true) rfl (congrArg Value.bool (by decide)) ?_
      refine WL.yd (Yd.pickT rfl rfl) rfl ?_
      refine WL.yd (Yd.move rfl) rfl ?_
      refine WL.ydg rfl (Yd.move rfl) rfl ?_
      refine WL.ydg rfl (Yd.move rfl) rfl ?_
      refine WL.ydg rfl (Yd.andNotI (more_some hv hv2) rfl rfl) rfl ?_
      refine WL.ydg rfl (Yd.eql rfl rfl) rfl ?_
      refine WL.know 261 (.bool true) rfl (congrArg Value.bool (by decide)) ?_
      refine WL.yd (Yd.pickT rfl rfl) rfl ?_
      refine WL.yd (Yd.move rfl) rfl ?_
      refine WL.sog rfl (SO.callP Try.call14 rfl (fun w hI => alive_g _ _ hI.imm)) rfl ?_
      rintro _ _ _ ⟨rfl, rfl, rfl⟩
      refine WL.know 264 (.bool true) rfl rfl ?_
      refine WL.yd (Yd.pickT rfl rfl) rfl ?_
      refine WL.yd (Yd.assign rfl) rfl ?_
      refine WL.nil ?_
      refine WP.thenC ?_
      refine WC.ret ?_
      refine WP.ret1 rfl rfl Try.results11 (RV.tmp rfl) (fun w hI => ⟨rfl, hI.keep⟩)
    · try simp only [zq1, zq2, zq3, zq4, zq5, zq6, zq7, zq8] at g237
      refine WL.ydg rfl (Yd.move rfl) rfl ?_
      refine WL.ydg rfl (Yd.move rfl) rfl ?_
      refine WL.ydg rfl (Yd.eql rfl rfl) rfl ?_
      refine WL.know 240 (.bool true) rfl (congrArg Value.bool (decide_eq_true ((more_bef hv hv2 hok2 hwa hwb).resolve_left g237))) ?_
      refine WL.ydg rfl (Yd.pickF rfl rfl) rfl ?_
      refine WL.yd (Yd.pickT rfl rfl) rfl ?_
      refine WL.yd (Yd.move rfl) rfl ?_
      refine WL.ydg rfl (Yd.move rfl) rfl ?_
      refine WL.ydg rfl (Yd.eql rfl rfl) rfl ?_
      refine WL.know 245 (.bool true) rfl (congrArg Value.bool (by decide)) ?_
      refine WL.yd (Yd.pickT rfl rfl) rfl ?_
      refine WL.yd (Yd.move rfl) rfl ?_
      refine WL.ydg rfl (Yd.move rfl) rfl ?_
      refine WL.ydg rfl (Yd.eql rfl rfl) rfl ?_
      refine WL.know 249 (.bool true) rfl (congrArg Value.bool (by decide)) ?_
      refine WL.yd (Yd.pickT rfl rfl) rfl ?_
      refine WL.yd (Yd.move rfl) rfl ?_
      refine WL.ydg rfl (Yd.move rfl) rfl ?_
      refine WL.ydg rfl (Yd.move rfl) rfl ?_
      refine WL.ydg rfl (Yd.andNotI (more_all hv hv2) rfl rfl) rfl ?_
      refine WL.ydg rfl (Yd.eql rfl rfl) rfl ?_
      refine WL.know 255 (.bool true) rfl (congrArg Value.bool (by decide)) ?_
      refine WL.yd (Yd.pickT rfl rfl) rfl ?_
      refine WL.yd (Yd.move rfl) rfl ?_
      refine WL.ydg rfl (Yd.move rfl) rfl ?_
      refine WL.ydg rfl (Yd.move rfl) rfl ?_
      refine WL.ydg rfl (Yd.andNotI (more_some hv hv2) rfl rfl) rfl ?_
      refine WL.ydg rfl (Yd.eql rfl rfl) rfl ?_
      refine WL.know 261 (.bool true) rfl (congrArg Value.bool (by decide)) ?_
      refine WL.yd (Yd.pickT rfl rfl) rfl ?_
      refine WL.yd (Yd.move rfl) rfl ?_
      refine WL.sog rfl (SO.callP Try.call14 rfl (fun w hI => alive_g _ _ hI.imm)) rfl ?_
      rintro _ _ _ ⟨rfl, rfl, rfl⟩
      refine WL.know 264 (.bool true) rfl rfl ?_
      refine WL.yd (Yd.pickT rfl rfl) rfl ?_
      refine WL.yd (Yd.assign rfl) rfl ?_
      refine WL.nil ?_
      refine WP.thenC ?_
      refine WC.ret ?_
      refine WP.ret1 rfl rfl Try.results11 (RV.tmp rfl) (fun w hI => ⟨rfl, hI.keep⟩)
  · skip
    refine WC.ofFr [(14, _), (13, _), (12, _), (10, _), (6, _), (5, _)] ⟨rfl, rfl, rfl, rfl, rfl, rfl, trivial⟩ ?_
    refine WC.drawH [(b5, .cells (List.toArray [it p.post.lo, it p.post.hi, .slice a1 p.bathers.length c1, .slice a2 p.claims.length c2]) 27 (0, 0))] (by kernel_rfl) (fun _ hI => Inv.pick 1 rfl hI) ?_
    refine WH.yd (i := 0) (by kernel_rfl) (fun _ o v c a w _ h => (QuietPanic.then QuietPanic.body) c o.dst v a w h) rfl (Yd.loadN Try.isAgg27 Try.sizeOf27 rfl (vs := [_, _, _, _]) rfl (by first | exact RdN.own (k := 0) (n := 4) rfl rfl | exact RdN.own (k := 1) (n := 4) rfl rfl)) rfl ?_
    refine WH.yd (i := 1) (by kernel_rfl) (fun _ o v c a w _ h => (QuietPanic.then QuietPanic.body) c o.dst v a w h) rfl (Yd.move rfl) rfl ?_
    refine WH.yd (i := 2) (by kernel_rfl) (fun _ o v c a w _ h => (QuietPanic.then QuietPanic.body) c o.dst v a w h) rfl (Yd.move rfl) rfl ?_
    refine WH.yd (i := 5) (by kernel_rfl) (fun _ o v c a w _ h => (QuietPanic.then QuietPanic.body) c o.dst v a w h) rfl (Yd.move rfl) rfl ?_
    refine WH.yd (i := 6) (by kernel_rfl) (fun _ o v c a w _ h => (QuietPanic.then QuietPanic.body) c o.dst v a w h) rfl (Yd.move rfl) rfl ?_
    refine WH.yd (i := 9) (by kernel_rfl) (fun _ o v c a w _ h => (QuietPanic.then QuietPanic.body) c o.dst v a w h) rfl (Yd.move rfl) rfl ?_
    refine WH.yd (i := 10) (by kernel_rfl) (fun _ o v c a w _ h => (QuietPanic.then QuietPanic.body) c o.dst v a w h) rfl (Yd.move rfl) rfl ?_
    refine WH.two (i := 3) (j := 13) (by kernel_rfl) ?_ ?_
    · refine WHo.so rfl (SO.callP Try.call33 rfl (fun w hI => lbef_g _ _ _)) rfl ?_
      rintro _ _ _ ⟨rfl, rfl, rfl⟩
      refine ⟨(fun _ hI => Inv.pick 1 rfl hI), ?_⟩
      refine WH.two (i := 4) (j := 13) (by kernel_rfl) ?_ ?_
      · refine WHo.so rfl (SO.makes (Enters.func Try.call41 rfl) (fun w hI => with_g p a1 _ c1 a2 _ c2 _ w hR hI.imm ⟨a, b, false⟩)) rfl ?_
        rintro _ D21 _ ⟨hX21, ⟨a21, c21, rfl, hR21⟩, rfl⟩
        replace hR21 := hR21 (by omega)
        replace hR := hR.ext hX21
        refine ⟨(fun _ hI => (Inv.pick 1 rfl hI).shrink hX21.old), ?_⟩
        refine WH.two (i := 7) (j := 13) (by kernel_rfl) ?_ ?_
        · refine WHo.so rfl (SO.callP Try.call33 rfl (fun w hI => lbef_g _ _ _)) rfl ?_
          rintro _ _ _ ⟨rfl, rfl, rfl⟩
          refine ⟨(fun _ hI => (Inv.pick 1 rfl hI).shrink hX21.old), ?_⟩
          refine WH.two (i := 8) (j := 13) (by kernel_rfl) ?_ ?_
          · refine WHo.so rfl (SO.makes (Enters.func Try.call41 rfl) (fun w hI => with_g (withP p ⟨a, b, false⟩) a1 _ c1 a21 _ c21 _ w hR21 hI.imm ⟨b, d, false⟩)) rfl ?_
            rintro _ D22 _ ⟨hX22, ⟨a22, c22, rfl, hR22⟩, rfl⟩
            replace hR22 := hR22 (by omega)
            replace hR := hR.ext hX22
            refine ⟨(fun _ hI => (Inv.pick 1 rfl hI).shrink (hX21.trans hX22 (Nat.le_refl _)).old), ?_⟩
            refine WH.two (i := 11) (j := 13) (by kernel_rfl) ?_ ?_
            · refine WHo.so rfl (SO.callP Try.call33 rfl (fun w hI => lbef_g _ _ _)) rfl ?_
              rintro _ _ _ ⟨rfl, rfl, rfl⟩
              refine ⟨(fun _ hI => (Inv.pick 1 rfl hI).shrink (hX21.trans hX22 (Nat.le_refl _)).old), ?_⟩
              refine WH.two (i := 12) (j := 13) (by kernel_rfl) ?_ ?_
              · refine WHo.so rfl (SO.makes (Enters.func Try.call41 rfl) (fun w hI => with_g (withP (withP p ⟨a, b, false⟩) ⟨b, d, false⟩) a1 _ c1 a22 _ c22 _ w hR22 hI.imm ⟨d, a, false⟩)) rfl ?_
                rintro _ D23 _ ⟨hX23, ⟨a23, c23, rfl, hR23⟩, rfl⟩
                replace hR23 := hR23 (by omega)
                replace hR := hR.ext hX23
                refine ⟨(fun _ hI => (Inv.pick 1 rfl hI).shrink ((hX21.trans hX22 (Nat.le_refl _)).trans hX23 (Nat.le_refl _)).old), ?_⟩
                refine WH.one (i := 13) (by kernel_rfl) (WHo.so rfl (SO.alloc Try.zeroValue27 rfl) rfl ?_)
                rintro _ _ _ ⟨b15, hb15, rfl, rfl, rfl⟩ -- NEW
                refine ⟨(fun _ hI => (Inv.pick 2 rfl hI).shrink ((hX21.trans hX22 (Nat.le_refl _)).trans hX23 (Nat.le_refl _)).old), ?_⟩
                refine WH.one (i := 14) (by kernel_rfl) (WHo.so rfl (SO.store 0 rfl Try.sizeOf27 rfl rfl rfl rfl (Nat.le_of_ble_eq_true rfl) (oneB_spec rfl)) rfl ?_)
                rintro _ _ _ ⟨rfl, rfl, rfl⟩
                refine ⟨(fun _ hI => (Inv.pick 2 rfl hI).shrink ((hX21.trans hX22 (Nat.le_refl _)).trans hX23 (Nat.le_refl _)).old), ?_⟩
                refine WH.nil (by kernel_rfl) ?_
                exact WP.join (⟨D23, b15, a23, c23⟩ : Imm × Nat × Option Addr × Nat) ⟨(hX21.trans hX22 (Nat.le_refl _)).trans hX23 (Nat.le_refl _), hR23⟩ (fun aa ww h => at_fr h ⟨rfl, rfl, rfl, rfl, rfl, trivial⟩)
              · refine WHo.so rfl (SO.alloc Try.zeroValue27 rfl) rfl ?_
                rintro _ _ _ ⟨b15, hb15, rfl, rfl, rfl⟩ -- NEW
                refine ⟨(fun _ hI => (Inv.pick 2 rfl hI).shrink (hX21.trans hX22 (Nat.le_refl _)).old), ?_⟩
                refine WH.one (i := 12) (by kernel_rfl) (WHo.so rfl (SO.makes (Enters.func Try.call41 rfl) (fun w hI => with_g (withP (withP p ⟨a, b, false⟩) ⟨b, d, false⟩) a1 _ c1 a22 _ c22 _ w hR22 hI.imm ⟨d, a, false⟩)) rfl ?_)
                rintro _ D23 _ ⟨hX23, ⟨a23, c23, rfl, hR23⟩, rfl⟩
                replace hR23 := hR23 (by omega)
                replace hR := hR.ext hX23
                refine ⟨(fun _ hI => (Inv.pick 2 rfl hI).shrink ((hX21.trans hX22 (Nat.le_refl _)).trans hX23 (Nat.le_refl _)).old), ?_⟩
                refine WH.one (i := 14) (by kernel_rfl) (WHo.so rfl (SO.store 0 rfl Try.sizeOf27 rfl rfl rfl rfl (Nat.le_of_ble_eq_true rfl) (oneB_spec rfl)) rfl ?_)
                rintro _ _ _ ⟨rfl, rfl, rfl⟩
                refine ⟨(fun _ hI => (Inv.pick 2 rfl hI).shrink ((hX21.trans hX22 (Nat.le_refl _)).trans hX23 (Nat.le_refl _)).old), ?_⟩
                refine WH.nil (by kernel_rfl) ?_
                exact WP.join (⟨D23, b15, a23, c23⟩ : Imm × Nat × Option Addr × Nat) ⟨(hX21.trans hX22 (Nat.le_refl _)).trans hX23 (Nat.le_refl _), hR23⟩ (fun aa ww h => at_fr h ⟨rfl, rfl, rfl, rfl, rfl, trivial⟩)
            · refine WHo.so rfl (SO.alloc Try.zeroValue27 rfl) rfl ?_
              rintro _ _ _ ⟨b15, hb15, rfl, rfl, rfl⟩ -- NEW
              refine ⟨(fun _ hI => (Inv.pick 2 rfl hI).shrink (hX21.trans hX22 (Nat.le_refl _)).old), ?_⟩
              refine WH.one (i := 11) (by kernel_rfl) (WHo.so rfl (SO.callP Try.call33 rfl (fun w hI => lbef_g _ _ _)) rfl ?_)
              rintro _ _ _ ⟨rfl, rfl, rfl⟩
              refine ⟨(fun _ hI => (Inv.pick 2 rfl hI).shrink (hX21.trans hX22 (Nat.le_refl _)).old), ?_⟩
              refine WH.one (i := 12) (by kernel_rfl) (WHo.so rfl (SO.makes (Enters.func Try.call41 rfl) (fun w hI => with_g (withP (withP p ⟨a, b, false⟩) ⟨b, d, false⟩) a1 _ c1 a22 _ c22 _ w hR22 hI.imm ⟨d, a, false⟩)) rfl ?_)
              rintro _ D23 _ ⟨hX23, ⟨a23, c23, rfl, hR23⟩, rfl⟩
              replace hR23 := hR23 (by omega)
              replace hR := hR.ext hX23
              refine ⟨(fun _ hI => (Inv.pick 2 rfl hI).shrink ((hX21.trans hX22 (Nat.le_refl _)).trans hX23 (Nat.le_refl _)).old), ?_⟩
              refine WH.one (i := 14) (by kernel_rfl) (WHo.so rfl (SO.store 0 rfl Try.sizeOf27 rfl rfl rfl rfl (Nat.le_of_ble_eq_true rfl) (oneB_spec rfl)) rfl ?_)
              rintro _ _ _ ⟨rfl, rfl, rfl⟩
              refine ⟨(fun _ hI => (Inv.pick 2 rfl hI).shrink ((hX21.trans hX22 (Nat.le_refl _)).trans hX23 (Nat.le_refl _)).old), ?_⟩
              refine WH.nil (by kernel_rfl) ?_
              exact WP.join (⟨D23, b15, a23, c23⟩ : Imm × Nat × Option Addr × Nat) ⟨(hX21.trans hX22 (Nat.le_refl _)).trans hX23 (Nat.le_refl _), hR23⟩ (fun aa ww h => at_fr h ⟨rfl, rfl, rfl, rfl, rfl, trivial⟩)
          · refine WHo.so rfl (SO.alloc Try.zeroValue27 rfl) rfl ?_
            rintro _ _ _ ⟨b15, hb15, rfl, rfl, rfl⟩ -- NEW
            refine ⟨(fun _ hI => (Inv.pick 2 rfl hI).shrink hX21.old), ?_⟩
            refine WH.one (i := 8) (by kernel_rfl) (WHo.so rfl (SO.makes (Enters.func Try.call41 rfl) (fun w hI => with_g (withP p ⟨a, b, false⟩) a1 _ c1 a21 _ c21 _ w hR21 hI.imm ⟨b, d, false⟩)) rfl ?_)
            rintro _ D22 _ ⟨hX22, ⟨a22, c22, rfl, hR22⟩, rfl⟩
            replace hR22 := hR22 (by omega)
            replace hR := hR.ext hX22
            refine ⟨(fun _ hI => (Inv.pick 2 rfl hI).shrink (hX21.trans hX22 (Nat.le_refl _)).old), ?_⟩
            refine WH.one (i := 11) (by kernel_rfl) (WHo.so rfl (SO.callP Try.call33 rfl (fun w hI => lbef_g _ _ _)) rfl ?_)
            rintro _ _ _ ⟨rfl, rfl, rfl⟩
            refine ⟨(fun _ hI => (Inv.pick 2 rfl hI).shrink (hX21.trans hX22 (Nat.le_refl _)).old), ?_⟩
            refine WH.one (i := 12) (by kernel_rfl) (WHo.so rfl (SO.makes (Enters.func Try.call41 rfl) (fun w hI => with_g (withP (withP p ⟨a, b, false⟩) ⟨b, d, false⟩) a1 _ c1 a22 _ c22 _ w hR22 hI.imm ⟨d, a, false⟩)) rfl ?_)
            rintro _ D23 _ ⟨hX23, ⟨a23, c23, rfl, hR23⟩, rfl⟩
            replace hR23 := hR23 (by omega)
            replace hR := hR.ext hX23
            refine ⟨(fun _ hI => (Inv.pick 2 rfl hI).shrink ((hX21.trans hX22 (Nat.le_refl _)).trans hX23 (Nat.le_refl _)).old), ?_⟩
            refine WH.one (i := 14) (by kernel_rfl) (WHo.so rfl (SO.store 0 rfl Try.sizeOf27 rfl rfl rfl rfl (Nat.le_of_ble_eq_true rfl) (oneB_spec rfl)) rfl ?_)
            rintro _ _ _ ⟨rfl, rfl, rfl⟩
            refine ⟨(fun _ hI => (Inv.pick 2 rfl hI).shrink ((hX21.trans hX22 (Nat.le_refl _)).trans hX23 (Nat.le_refl _)).old), ?_⟩
            refine WH.nil (by kernel_rfl) ?_
            exact WP.join (⟨D23, b15, a23, c23⟩ : Imm × Nat × Option Addr × Nat) ⟨(hX21.trans hX22 (Nat.le_refl _)).trans hX23 (Nat.le_refl _), hR23⟩ (fun aa ww h => at_fr h ⟨rfl, rfl, rfl, rfl, rfl, trivial⟩)
        · refine WHo.so rfl (SO.alloc Try.zeroValue27 rfl) rfl ?_
          rintro _ _ _ ⟨b15, hb15, rfl, rfl, rfl⟩ -- NEW
          refine ⟨(fun _ hI => (Inv.pick 2 rfl hI).shrink hX21.old), ?_⟩
          refine WH.one (i := 7) (by kernel_rfl) (WHo.so rfl (SO.callP Try.call33 rfl (fun w hI => lbef_g _ _ _)) rfl ?_)
          rintro _ _ _ ⟨rfl, rfl, rfl⟩
          refine ⟨(fun _ hI => (Inv.pick 2 rfl hI).shrink hX21.old), ?_⟩
          refine WH.one (i := 8) (by kernel_rfl) (WHo.so rfl (SO.makes (Enters.func Try.call41 rfl) (fun w hI => with_g (withP p ⟨a, b, false⟩) a1 _ c1 a21 _ c21 _ w hR21 hI.imm ⟨b, d, false⟩)) rfl ?_)
          rintro _ D22 _ ⟨hX22, ⟨a22, c22, rfl, hR22⟩, rfl⟩
          replace hR22 := hR22 (by omega)
          replace hR := hR.ext hX22
          refine ⟨(fun _ hI => (Inv.pick 2 rfl hI).shrink (hX21.trans hX22 (Nat.le_refl _)).old), ?_⟩
          refine WH.one (i := 11) (by kernel_rfl) (WHo.so rfl (SO.callP Try.call33 rfl (fun w hI => lbef_g _ _ _)) rfl ?_)
          rintro _ _ _ ⟨rfl, rfl, rfl⟩
          refine ⟨(fun _ hI => (Inv.pick 2 rfl hI).shrink (hX21.trans hX22 (Nat.le_refl _)).old), ?_⟩
          refine WH.one (i := 12) (by kernel_rfl) (WHo.so rfl (SO.makes (Enters.func Try.call41 rfl) (fun w hI => with_g (withP (withP p ⟨a, b, false⟩) ⟨b, d, false⟩) a1 _ c1 a22 _ c22 _ w hR22 hI.imm ⟨d, a, false⟩)) rfl ?_)
          rintro _ D23 _ ⟨hX23, ⟨a23, c23, rfl, hR23⟩, rfl⟩
          replace hR23 := hR23 (by omega)
          replace hR := hR.ext hX23
          refine ⟨(fun _ hI => (Inv.pick 2 rfl hI).shrink ((hX21.trans hX22 (Nat.le_refl _)).trans hX23 (Nat.le_refl _)).old), ?_⟩
          refine WH.one (i := 14) (by kernel_rfl) (WHo.so rfl (SO.store 0 rfl Try.sizeOf27 rfl rfl rfl rfl (Nat.le_of_ble_eq_true rfl) (oneB_spec rfl)) rfl ?_)
          rintro _ _ _ ⟨rfl, rfl, rfl⟩
          refine ⟨(fun _ hI => (Inv.pick 2 rfl hI).shrink ((hX21.trans hX22 (Nat.le_refl _)).trans hX23 (Nat.le_refl _)).old), ?_⟩
          refine WH.nil (by kernel_rfl) ?_
          exact WP.join (⟨D23, b15, a23, c23⟩ : Imm × Nat × Option Addr × Nat) ⟨(hX21.trans hX22 (Nat.le_refl _)).trans hX23 (Nat.le_refl _), hR23⟩ (fun aa ww h => at_fr h ⟨rfl, rfl, rfl, rfl, rfl, trivial⟩)
      · refine WHo.so rfl (SO.alloc Try.zeroValue27 rfl) rfl ?_
        rintro _ _ _ ⟨b15, hb15, rfl, rfl, rfl⟩ -- NEW
        refine ⟨(fun _ hI => Inv.pick 2 rfl hI), ?_⟩
        refine WH.one (i := 4) (by kernel_rfl) (WHo.so rfl (SO.makes (Enters.func Try.call41 rfl) (fun w hI => with_g p a1 _ c1 a2 _ c2 _ w hR hI.imm ⟨a, b, false⟩)) rfl ?_)
        rintro _ D21 _ ⟨hX21, ⟨a21, c21, rfl, hR21⟩, rfl⟩
        replace hR21 := hR21 (by omega)
        replace hR := hR.ext hX21
        refine ⟨(fun _ hI => (Inv.pick 2 rfl hI).shrink hX21.old), ?_⟩
        refine WH.one (i := 7) (by kernel_rfl) (WHo.so rfl (SO.callP Try.call33 rfl (fun w hI => lbef_g _ _ _)) rfl ?_)
        rintro _ _ _ ⟨rfl, rfl, rfl⟩
        refine ⟨(fun _ hI => (Inv.pick 2 rfl hI).shrink hX21.old), ?_⟩
        refine WH.one (i := 8) (by kernel_rfl) (WHo.so rfl (SO.makes (Enters.func Try.call41 rfl) (fun w hI => with_g (withP p ⟨a, b, false⟩) a1 _ c1 a21 _ c21 _ w hR21 hI.imm ⟨b, d, false⟩)) rfl ?_)
        rintro _ D22 _ ⟨hX22, ⟨a22, c22, rfl, hR22⟩, rfl⟩
        replace hR22 := hR22 (by omega)
        replace hR := hR.ext hX22
        refine ⟨(fun _ hI => (Inv.pick 2 rfl hI).shrink (hX21.trans hX22 (Nat.le_refl _)).old), ?_⟩
        refine WH.one (i := 11) (by kernel_rfl) (WHo.so rfl (SO.callP Try.call33 rfl (fun w hI => lbef_g _ _ _)) rfl ?_)
        rintro _ _ _ ⟨rfl, rfl, rfl⟩
        refine ⟨(fun _ hI => (Inv.pick 2 rfl hI).shrink (hX21.trans hX22 (Nat.le_refl _)).old), ?_⟩
        refine WH.one (i := 12) (by kernel_rfl) (WHo.so rfl (SO.makes (Enters.func Try.call41 rfl) (fun w hI => with_g (withP (withP p ⟨a, b, false⟩) ⟨b, d, false⟩) a1 _ c1 a22 _ c22 _ w hR22 hI.imm ⟨d, a, false⟩)) rfl ?_)
        rintro _ D23 _ ⟨hX23, ⟨a23, c23, rfl, hR23⟩, rfl⟩
        replace hR23 := hR23 (by omega)
        replace hR := hR.ext hX23
        refine ⟨(fun _ hI => (Inv.pick 2 rfl hI).shrink ((hX21.trans hX22 (Nat.le_refl _)).trans hX23 (Nat.le_refl _)).old), ?_⟩
        refine WH.one (i := 14) (by kernel_rfl) (WHo.so rfl (SO.store 0 rfl Try.sizeOf27 rfl rfl rfl rfl (Nat.le_of_ble_eq_true rfl) (oneB_spec rfl)) rfl ?_)
        rintro _ _ _ ⟨rfl, rfl, rfl⟩
        refine ⟨(fun _ hI => (Inv.pick 2 rfl hI).shrink ((hX21.trans hX22 (Nat.le_refl _)).trans hX23 (Nat.le_refl _)).old), ?_⟩
        refine WH.nil (by kernel_rfl) ?_
        exact WP.join (⟨D23, b15, a23, c23⟩ : Imm × Nat × Option Addr × Nat) ⟨(hX21.trans hX22 (Nat.le_refl _)).trans hX23 (Nat.le_refl _), hR23⟩ (fun aa ww h => at_fr h ⟨rfl, rfl, rfl, rfl, rfl, trivial⟩)
    · refine WHo.so rfl (SO.alloc Try.zeroValue27 rfl) rfl ?_
      rintro _ _ _ ⟨b15, hb15, rfl, rfl, rfl⟩ -- NEW
      refine ⟨(fun _ hI => Inv.pick 2 rfl hI), ?_⟩
      refine WH.one (i := 3) (by kernel_rfl) (WHo.so rfl (SO.callP Try.call33 rfl (fun w hI => lbef_g _ _ _)) rfl ?_)
      rintro _ _ _ ⟨rfl, rfl, rfl⟩
      refine ⟨(fun _ hI => Inv.pick 2 rfl hI), ?_⟩
      refine WH.one (i := 4) (by kernel_rfl) (WHo.so rfl (SO.makes (Enters.func Try.call41 rfl) (fun w hI => with_g p a1 _ c1 a2 _ c2 _ w hR hI.imm ⟨a, b, false⟩)) rfl ?_)
      rintro _ D21 _ ⟨hX21, ⟨a21, c21, rfl, hR21⟩, rfl⟩
      replace hR21 := hR21 (by omega)
      replace hR := hR.ext hX21
      refine ⟨(fun _ hI => (Inv.pick 2 rfl hI).shrink hX21.old), ?_⟩
      refine WH.one (i := 7) (by kernel_rfl) (WHo.so rfl (SO.callP Try.call33 rfl (fun w hI => lbef_g _ _ _)) rfl ?_)
      rintro _ _ _ ⟨rfl, rfl, rfl⟩
      refine ⟨(fun _ hI => (Inv.pick 2 rfl hI).shrink hX21.old), ?_⟩
      refine WH.one (i := 8) (by kernel_rfl) (WHo.so rfl (SO.makes (Enters.func Try.call41 rfl) (fun w hI => with_g (withP p ⟨a, b, false⟩) a1 _ c1 a21 _ c21 _ w hR21 hI.imm ⟨b, d, false⟩)) rfl ?_)
      rintro _ D22 _ ⟨hX22, ⟨a22, c22, rfl, hR22⟩, rfl⟩
      replace hR22 := hR22 (by omega)
      replace hR := hR.ext hX22
      refine ⟨(fun _ hI => (Inv.pick 2 rfl hI).shrink (hX21.trans hX22 (Nat.le_refl _)).old), ?_⟩
      refine WH.one (i := 11) (by kernel_rfl) (WHo.so rfl (SO.callP Try.call33 rfl (fun w hI => lbef_g _ _ _)) rfl ?_)
      rintro _ _ _ ⟨rfl, rfl, rfl⟩
      refine ⟨(fun _ hI => (Inv.pick 2 rfl hI).shrink (hX21.trans hX22 (Nat.le_refl _)).old), ?_⟩
      refine WH.one (i := 12) (by kernel_rfl) (WHo.so rfl (SO.makes (Enters.func Try.call41 rfl) (fun w hI => with_g (withP (withP p ⟨a, b, false⟩) ⟨b, d, false⟩) a1 _ c1 a22 _ c22 _ w hR22 hI.imm ⟨d, a, false⟩)) rfl ?_)
      rintro _ D23 _ ⟨hX23, ⟨a23, c23, rfl, hR23⟩, rfl⟩
      replace hR23 := hR23 (by omega)
      replace hR := hR.ext hX23
      refine ⟨(fun _ hI => (Inv.pick 2 rfl hI).shrink ((hX21.trans hX22 (Nat.le_refl _)).trans hX23 (Nat.le_refl _)).old), ?_⟩
      refine WH.one (i := 14) (by kernel_rfl) (WHo.so rfl (SO.store 0 rfl Try.sizeOf27 rfl rfl rfl rfl (Nat.le_of_ble_eq_true rfl) (oneB_spec rfl)) rfl ?_)
      rintro _ _ _ ⟨rfl, rfl, rfl⟩
      refine ⟨(fun _ hI => (Inv.pick 2 rfl hI).shrink ((hX21.trans hX22 (Nat.le_refl _)).trans hX23 (Nat.le_refl _)).old), ?_⟩
      refine WH.nil (by kernel_rfl) ?_
      exact WP.join (⟨D23, b15, a23, c23⟩ : Imm × Nat × Option Addr × Nat) ⟨(hX21.trans hX22 (Nat.le_refl _)).trans hX23 (Nat.le_refl _), hR23⟩ (fun aa ww h => at_fr h ⟨rfl, rfl, rfl, rfl, rfl, trivial⟩)

theorem more11_g (p : Post) (a1 : Option Addr) (n1 c1 : Nat) (a2 : Option Addr) (n2 c2 : Nat) (D : Imm) (w : World) (s1 : SlL D 3 (p.bathers.map bathC) a1 n1) (s2 : SlL D 3 (p.claims.map claimC) a2 n2) (hH : Holds D w) (c : PClaim) (m1 m2 m3 : Nat) (hm1 : m1 ≤ 255) (hm2 : m2 ≤ 255) (hm3 : m3 ≤ 255) : Gives Try.prog 11 [.agg #[it p.post.lo, it p.post.hi, .slice a1 n1 c1, .slice a2 n2 c2], .agg #[it c.a, it c.b, .bool c.not], .int .u8 (m1 : Int), .int .u8 (m2 : Int), .int .u8 (m3 : Int)] w (.bool true) := by
  by_cases hl : max (n1 : Int) (n2 : Int) > 40
  · exact more11_l _ _ a1 n1 c1 a2 n2 c2 c m1 m2 m3 D w hH hl
  · have hR : PostR D p a1 n1 a2 n2 := ⟨s1, s2, by omega, by omega⟩
    cases hv : postB p with
    | false => exact more11_a p a1 n1 c1 a2 n2 c2 D w hR hH c m1 m2 m3 hl hv
    | true =>
      by_cases hm : 6 ≤ p.claims.length
      · exact more11_m p a1 n1 c1 a2 n2 c2 D w hR hH c m1 m2 m3 hl hv hm
      · cases hv2 : postB (withP p c) with
        | false => exact more11_x p a1 n1 c1 a2 n2 c2 D w hR hH c m1 m2 m3 hm1 hm2 hm3 hl hv (by omega) hv2
        | true =>
          cases hok2 : okA (withP p c) with
          | false => exact more11_f p a1 n1 c1 a2 n2 c2 D w hR hH c m1 m2 m3 hm1 hm2 hm3 hl hv (by omega) hv2 hok2
          | true => exact more11_o p a1 n1 c1 a2 n2 c2 D w hR hH c m1 m2 m3 hm1 hm2 hm3 hl hv (by omega) hv2 hok2

end Go.Proofs.Ytkhmmefgllbobaa
