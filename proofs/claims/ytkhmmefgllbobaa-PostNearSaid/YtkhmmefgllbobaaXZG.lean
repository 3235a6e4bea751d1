import Derived.Test.YtkhmmefgllbobaaXZA
import Derived.Test.YtkhmmefgllbobaaXZV
set_option linter.unusedSimpArgs false
set_option linter.unusedVariables false
set_option linter.all false
/- How near two were, each distance of a truth. No program in sight. -/
namespace Go.Proofs.Ytkhmmefgllbobaa
open Go.W Go.Po
theorem near_flip {lo hi : Int} (h : lo ≤ hi) : nearS (-hi) (-lo) = nearS lo hi := by
  unfold nearS
  split <;> split <;> (congr 1 <;> omega)
def nearG (p : Post) (a b : Int) : Sp := nearS (-GA p (ix b) (ix a)) (GA p (ix a) (ix b))
section
variable {p : Post} (hv : postB p = true) (hok : okA p = true) {a b : Int} (ha : whoP p a = true) (hb : whoP p b = true)
include hv hok ha hb
theorem gap_le : -GA p (ix b) (ix a) ≤ GA p (ix a) (ix b) := by
  obtain ⟨x, hx⟩ := (ok_iff hv).1 hok
  have := (gap_in hv hok ha hb _).2 ⟨x, hx, rfl⟩
  omega
theorem near_sym : nearG p b a = nearG p a b := by
  have h := near_flip (gap_le hv hok ha hb)
  rw [Int.neg_neg] at h
  exact h
theorem near_is (m : Int) : ((nearG p a b).lo ≤ m ∧ m ≤ (nearG p a b).hi) ↔ ∃ x, Sol p (allR p) x ∧ max (x (ix b) - x (ix a)) (-(x (ix b) - x (ix a))) = m := by
  unfold nearG
  rw [near_in (gap_le hv hok ha hb)]
  constructor
  · rintro ⟨v, h1, h2, rfl⟩
    obtain ⟨x, hx, rfl⟩ := (gap_in hv hok ha hb v).1 ⟨h1, h2⟩
    exact ⟨x, hx, rfl⟩
  · rintro ⟨x, hx, rfl⟩
    have := (gap_in hv hok ha hb _).2 ⟨x, hx, rfl⟩
    exact ⟨_, this.1, this.2, rfl⟩
theorem near_ends : 0 ≤ (nearG p a b).lo ∧ (nearG p a b).lo ≤ (nearG p a b).hi ∧ (nearG p a b).hi ≤ 40 := by
  obtain ⟨x, hx⟩ := (ok_iff hv).1 hok
  have h1 := (near_is hv hok ha hb _).2 ⟨x, hx, rfl⟩
  have hle : (nearG p a b).lo ≤ (nearG p a b).hi := by omega
  obtain ⟨y, hy, ey⟩ := (near_is hv hok ha hb (nearG p a b).lo).1 ⟨Int.le_refl _, hle⟩
  obtain ⟨z, hz, ez⟩ := (near_is hv hok ha hb (nearG p a b).hi).1 ⟨hle, Int.le_refl _⟩
  have h2 := sol_num hv hz ha
  have h3 := sol_num hv hz hb
  omega
theorem near_lo0 (h : (nearG p a b).lo = 0) : ¬ befG p a b = 2 ∧ ¬ befG p b a = 2 := by
  have h1 := near_ends hv hok ha hb
  obtain ⟨y, hy, ey⟩ := (near_is hv hok ha hb 0).1 ⟨by omega, by omega⟩
  exact ⟨fun e => (bef_is2 hv hok ha hb).1 e ⟨y, hy, by omega⟩, fun e => (bef_is2 hv hok hb ha).1 e ⟨y, hy, by omega⟩⟩
theorem near_x2 (h : befG p a b = 2) : befG p b a = 0 := by
  refine (bef_is0 hv hok hb ha).2 ?_
  rintro ⟨y, hy, hl⟩
  exact (bef_is2 hv hok ha hb).1 h ⟨y, hy, by omega⟩
theorem near_hi0 (h : (nearG p a b).hi = 0) : befG p a b = 0 ∧ befG p b a = 0 := by
  have h1 := near_ends hv hok ha hb
  have h2 : ∀ x, Sol p (allR p) x → x (ix b) = x (ix a) := fun x hx => by
    have := (near_is hv hok ha hb _).2 ⟨x, hx, rfl⟩
    omega
  refine ⟨(bef_is0 hv hok ha hb).2 ?_, (bef_is0 hv hok hb ha).2 ?_⟩
  · rintro ⟨y, hy, hl⟩; have := h2 y hy; omega
  · rintro ⟨y, hy, hl⟩; have := h2 y hy; omega
end
theorem near_self {p : Post} (hv : postB p = true) (hok : okA p = true) {a : Int} (ha : whoP p a = true) : nearG p a a = ⟨0, 0⟩ := by
  have h := (far_ends (allR_in hv).in hok (ix_who ha).1 (ix_who ha).1).2 rfl
  unfold nearG GA
  rw [h]; rfl
/-- of a place that can be, the other one's places -/
theorem spot_okA {p : Post} (hv : postB p = true) (hok : okA p = true) {a m : Int} (ha : whoP p a = true) (hm : -GA p (ix a) 0 ≤ m ∧ m ≤ GA p 0 (ix a)) : okA (spotP p a m) = true := by
  have h0 := own_in hv hok ha
  obtain ⟨x, hx, e⟩ := (place_in hv hok ha m).1 hm
  exact (ok_iff (spot_ok hv ha ⟨by omega, by omega⟩)).2 ⟨x, (sol_spot ha ⟨by omega, by omega⟩).2 ⟨hx, e⟩⟩
theorem spot_who {p : Post} {a m b : Int} (h : whoP p b = true) : whoP (spotP p a m) b = true := by
  have := spot_len p a m
  simpa only [whoP, this] using h
theorem spot_in {p : Post} (hv : postB p = true) (hok : okA p = true) {a b m : Int} (ha : whoP p a = true) (hb : whoP p b = true) (hm : -GA p (ix a) 0 ≤ m ∧ m ≤ GA p 0 (ix a)) (o : Int) : (-GA (spotP p a m) (ix b) 0 ≤ o ∧ o ≤ GA (spotP p a m) 0 (ix b)) ↔ ∃ x, Sol p (allR p) x ∧ x (ix a) = m ∧ x (ix b) = o := by
  have h0 := own_in hv hok ha
  rw [place_in (spot_ok hv ha ⟨by omega, by omega⟩) (spot_okA hv hok ha hm) (spot_who hb)]
  refine exists_congr fun x => ?_
  rw [sol_spot ha ⟨by omega, by omega⟩, and_assoc]
/-- distances of truths with the first one's place below k -/
def Fnd (p : Post) (a b k z : Int) : Prop := ∃ x, Sol p (allR p) x ∧ x (ix a) < k ∧ max (x (ix b) - x (ix a)) (-(x (ix b) - x (ix a))) = z
def FndAt (p : Post) (a b m o z : Int) : Prop := ∃ x, Sol p (allR p) x ∧ x (ix a) = m ∧ x (ix b) < o ∧ max (x (ix b) - x (ix a)) (-(x (ix b) - x (ix a))) = z
section
variable {p : Post} (hv : postB p = true) (hok : okA p = true) {a b : Int} (ha : whoP p a = true) (hb : whoP p b = true)
include hv hok ha
theorem fnd_start (z : Int) : ¬ Fnd p a b (-GA p (ix a) 0) z := by
  rintro ⟨x, hx, h, _⟩
  have := (place_in hv hok ha _).2 ⟨x, hx, rfl⟩
  omega
include hb
theorem fnd_all {k : Int} (h : GA p 0 (ix a) < k) (z : Int) : Fnd p a b k z ↔ ((nearG p a b).lo ≤ z ∧ z ≤ (nearG p a b).hi) := by
  rw [near_is hv hok ha hb]
  refine exists_congr fun x => and_congr_right fun hx => ?_
  have := (place_in hv hok ha _).2 ⟨x, hx, rfl⟩
  exact ⟨fun h => h.2, fun h2 => ⟨by omega, h2⟩⟩
theorem fndAt_start {m : Int} (hm : -GA p (ix a) 0 ≤ m ∧ m ≤ GA p 0 (ix a)) (z : Int) : ¬ FndAt p a b m (-GA (spotP p a m) (ix b) 0) z := by
  rintro ⟨x, hx, e, h, _⟩
  have := (spot_in hv hok ha hb hm _).2 ⟨x, hx, e, rfl⟩
  omega
theorem fnd_step {m o : Int} (hm : -GA p (ix a) 0 ≤ m ∧ m ≤ GA p 0 (ix a)) (ho : -GA (spotP p a m) (ix b) 0 ≤ o ∧ o ≤ GA (spotP p a m) 0 (ix b)) (z : Int) : FndAt p a b m (o + 1) z ↔ FndAt p a b m o z ∨ z = max (o - m) (m - o) := by
  constructor
  · rintro ⟨x, hx, e, h, rfl⟩
    by_cases h2 : x (ix b) < o
    · exact .inl ⟨x, hx, e, h2, rfl⟩
    · right; omega
  · rintro (⟨x, hx, e, h, rfl⟩ | rfl)
    · exact ⟨x, hx, e, by omega, rfl⟩
    · obtain ⟨x, hx, e, e2⟩ := (spot_in hv hok ha hb hm o).1 ho
      exact ⟨x, hx, e, by omega, by rw [e, e2]; congr 1; omega⟩
theorem fnd_next {m o : Int} (hm : -GA p (ix a) 0 ≤ m ∧ m ≤ GA p 0 (ix a)) (ho : GA (spotP p a m) 0 (ix b) < o) (z : Int) : Fnd p a b (m + 1) z ↔ Fnd p a b m z ∨ FndAt p a b m o z := by
  constructor
  · rintro ⟨x, hx, h, rfl⟩
    by_cases h2 : x (ix a) < m
    · exact .inl ⟨x, hx, h2, rfl⟩
    · have e : x (ix a) = m := by omega
      have := (spot_in hv hok ha hb hm _).2 ⟨x, hx, e, rfl⟩
      exact .inr ⟨x, hx, e, by omega, rfl⟩
  · rintro (⟨x, hx, h, rfl⟩ | ⟨x, hx, e, h, rfl⟩)
    · exact ⟨x, hx, by omega, rfl⟩
    · exact ⟨x, hx, by omega, rfl⟩
end
theorem bne_bool {c : Bool} {A B : Prop} [Decidable A] [Decidable B] (h : c = true ↔ A ∧ B) : (c != (decide A && decide B)) = false := by
  rw [← Bool.decide_and]
  cases c with
  | true => rw [decide_eq_true (h.1 rfl)]; rfl
  | false => rw [decide_eq_false (fun hh => by have := h.2 hh; cases this)]; rfl
def ntV (y : Fin 64) : Value := nt y.val
theorem ntV_inj (x y : Fin 64) (h : ntV x = ntV y) : x = y := by
  simp only [ntV, nt, Value.int.injEq, true_and] at h
  exact Fin.ext (by omega)
theorem law3 : Go.Maps.Keyed Try.prog 3 := Go.Maps.int_keyed Try.underlying3
noncomputable def keyAll3B : Bool := (List.range 64).all fun a => (keyOf Try.prog 3 (.int .i64 (a : Int))).isSome
theorem keyAll3 : keyAll3B = true := by kernel_rfl
theorem key_nt (y : Fin 64) : ∃ l, keyOf Try.prog 3 (ntV y) = some l := Option.isSome_iff_exists.1 (List.all_eq_true.1 keyAll3 y.val (List.mem_range.2 y.isLt))
end Go.Proofs.Ytkhmmefgllbobaa
namespace Go.Proofs.Ytkhmmefgllbobaa
open Go.W Go.Po

set_option maxRecDepth 100000 in
set_option maxHeartbeats 1000000 in
theorem near8_l (lo hi : Int) (a1 : Option Addr) (n1 c1 : Nat) (a2 : Option Addr) (n2 c2 : Nat) (m1 m2 : Nat) (D : Imm) (w : World) (hH : Holds D w) (hl : max (n1 : Int) (n2 : Int) > 40) : Gives Try.prog 8 [.agg #[it lo, it hi, .slice a1 n1 c1, .slice a2 n2 c2], .int .u8 (m1 : Int), .int .u8 (m2 : Int)] w (.bool true) := by
  unfold Gives
  refine enter Try.func8 rfl 230 Try.ntmps8 (Nat.le_of_ble_eq_true rfl) (Inv.start hH) ?_
  refine WC.seq ?_
  refine WC.ofFr [(0, _), (1, _), (2, _)] ⟨rfl, rfl, rfl, trivial⟩ ?_
  refine WC.region ?_
  refine WL.so (SO.box rfl rfl) rfl ?_
  rintro _ _ _ ⟨b3, hb3, rfl, rfl, rfl⟩ -- NEW
  refine WL.yd (Yd.assign rfl) rfl ?_
  refine WL.nil ?_
  refine WP.thenC ?_
  refine WC.seq ?_
  refine WC.seq ?_
  refine WC.ofFr [(6, _), (3, _), (1, _), (2, _)] ⟨rfl, rfl, rfl, rfl, trivial⟩ ?_
  refine WC.region ?_
  refine WL.yd (Yd.loadN Try.isAgg27 Try.sizeOf27 rfl (vs := [_, _, _, _]) rfl (by first | exact RdN.own (k := 0) (n := 4) rfl rfl)) rfl ?_
  refine WL.so (SO.callP Try.call38 rfl (fun w hI => long_g _ _ _ _ _ _ _ _ _)) rfl ?_
  rintro _ _ _ ⟨rfl, rfl, rfl⟩
  refine WL.know 29 (.bool true) rfl (congrArg Value.bool (decide_eq_true hl)) ?_
  refine WL.yd (Yd.move rfl) rfl ?_
  refine WL.skip rfl rfl ?_
  refine WL.skip rfl rfl ?_
  refine WL.skip rfl rfl ?_
  refine WL.yd (Yd.pickT rfl rfl) rfl ?_
  refine WL.nil ?_
  refine WP.thenC ?_
  refine WC.condT rfl ?_
  refine WC.seq ?_
  refine WC.ofFr [(6, _), (3, _), (1, _), (2, _)] ⟨rfl, rfl, rfl, rfl, trivial⟩ ?_
  refine WC.region ?_
  refine WL.so (SO.callP Try.call14 rfl (fun w hI => alive_g _ _ hI.imm)) rfl ?_
  rintro _ _ _ ⟨rfl, rfl, rfl⟩
  refine WL.yd (Yd.assign rfl) rfl ?_
  refine WL.nil ?_
  refine WP.thenC ?_
  refine WC.ret ?_
  refine WP.thenRet ?_
  refine WP.ret1 rfl rfl Try.results8 (RV.tmp rfl) (fun w hI => ⟨rfl, hI.keep⟩)

set_option maxRecDepth 100000 in
set_option maxHeartbeats 1000000 in
theorem near8_a (p : Post) (a1 : Option Addr) (n1 c1 : Nat) (a2 : Option Addr) (n2 c2 : Nat) (D : Imm) (w : World) (hR : PostR D p a1 n1 a2 n2) (hH : Holds D w) (m1 m2 : Nat) (hl : ¬ (max (n1 : Int) (n2 : Int) > 40)) (hv : postB p = false) : Gives Try.prog 8 [.agg #[it p.post.lo, it p.post.hi, .slice a1 n1 c1, .slice a2 n2 c2], .int .u8 (m1 : Int), .int .u8 (m2 : Int)] w (.bool true) := by
  unfold Gives
  obtain rfl := hR.bath.len'
  obtain rfl := hR.claim.len'
  have hl1 := hR.len1
  have hl2 := hR.len2
  refine enter Try.func8 rfl 230 Try.ntmps8 (Nat.le_of_ble_eq_true rfl) (Inv.start hH) ?_
  refine WC.seq ?_
  refine WC.ofFr [(0, _), (1, _), (2, _)] ⟨rfl, rfl, rfl, trivial⟩ ?_
  refine WC.region ?_
  refine WL.so (SO.box rfl rfl) rfl ?_
  rintro _ _ _ ⟨b3, hb3, rfl, rfl, rfl⟩ -- NEW
  refine WL.yd (Yd.assign rfl) rfl ?_
  refine WL.nil ?_
  refine WP.thenC ?_
  refine WC.seq ?_
  refine WC.seq ?_
  refine WC.ofFr [(6, _), (3, _), (1, _), (2, _)] ⟨rfl, rfl, rfl, rfl, trivial⟩ ?_
  refine WC.region ?_
  refine WL.yd (Yd.loadN Try.isAgg27 Try.sizeOf27 rfl (vs := [_, _, _, _]) rfl (by first | exact RdN.own (k := 0) (n := 4) rfl rfl)) rfl ?_
  refine WL.so (SO.callP Try.call38 rfl (fun w hI => long_g _ _ _ _ _ _ _ _ _)) rfl ?_
  rintro _ _ _ ⟨rfl, rfl, rfl⟩
  refine WL.know 29 (.bool false) rfl (congrArg Value.bool (decide_eq_false hl)) ?_
  refine WL.yd (Yd.move rfl) rfl ?_
  refine WL.ydg rfl (Yd.loadN Try.isAgg27 Try.sizeOf27 rfl (vs := [_, _, _, _]) rfl (by first | exact RdN.own (k := 0) (n := 4) rfl rfl)) rfl ?_
  refine WL.sog rfl (SO.callP Try.call39 rfl (fun w hI => rpost_g p a1 _ c1 a2 _ c2 _ w hR hI.imm)) rfl ?_
  rintro _ _ _ ⟨rfl, rfl, rfl⟩
  refine WL.know 32 (.bool false) rfl (congrArg Value.bool hv) ?_
  refine WL.ydg rfl (Yd.not rfl) rfl ?_
  refine WL.yd (Yd.pickF rfl rfl) rfl ?_
  refine WL.nil ?_
  refine WP.thenC ?_
  refine WC.condT rfl ?_
  refine WC.seq ?_
  refine WC.ofFr [(6, _), (3, _), (1, _), (2, _)] ⟨rfl, rfl, rfl, rfl, trivial⟩ ?_
  refine WC.region ?_
  refine WL.so (SO.callP Try.call14 rfl (fun w hI => alive_g _ _ hI.imm)) rfl ?_
  rintro _ _ _ ⟨rfl, rfl, rfl⟩
  refine WL.yd (Yd.assign rfl) rfl ?_
  refine WL.nil ?_
  refine WP.thenC ?_
  refine WC.ret ?_
  refine WP.thenRet ?_
  refine WP.ret1 rfl rfl Try.results8 (RV.tmp rfl) (fun w hI => ⟨rfl, hI.keep⟩)

set_option maxRecDepth 100000 in
set_option maxHeartbeats 1000000 in
theorem near8_b (p : Post) (a1 : Option Addr) (n1 c1 : Nat) (a2 : Option Addr) (n2 c2 : Nat) (D : Imm) (w : World) (hR : PostR D p a1 n1 a2 n2) (hH : Holds D w) (m1 m2 : Nat) (hm1 : m1 ≤ 255) (hm2 : m2 ≤ 255) (hl : ¬ (max (n1 : Int) (n2 : Int) > 40)) (hv : postB p = true) (hok : okA p = false) : Gives Try.prog 8 [.agg #[it p.post.lo, it p.post.hi, .slice a1 n1 c1, .slice a2 n2 c2], .int .u8 (m1 : Int), .int .u8 (m2 : Int)] w (.bool true) := by
  unfold Gives
  obtain rfl := hR.bath.len'
  obtain rfl := hR.claim.len'
  have hl1 := hR.len1
  have hl2 := hR.len2
  have hx1 : 0 ≤ (m1 : Int) % ((p.bathers.length : Int) + 1) ∧ (m1 : Int) % ((p.bathers.length : Int) + 1) < (p.bathers.length : Int) + 1 := ⟨Int.emod_nonneg _ (by omega), Int.emod_lt_of_pos _ (by omega)⟩
  have hx2 : 0 ≤ (m2 : Int) % ((p.bathers.length : Int) + 1) ∧ (m2 : Int) % ((p.bathers.length : Int) + 1) < (p.bathers.length : Int) + 1 := ⟨Int.emod_nonneg _ (by omega), Int.emod_lt_of_pos _ (by omega)⟩
  refine enter Try.func8 rfl 230 Try.ntmps8 (Nat.le_of_ble_eq_true rfl) (Inv.start hH) ?_
  refine WC.seq ?_
  refine WC.ofFr [(0, _), (1, _), (2, _)] ⟨rfl, rfl, rfl, trivial⟩ ?_
  refine WC.region ?_
  refine WL.so (SO.box rfl rfl) rfl ?_
  rintro _ _ _ ⟨b3, hb3, rfl, rfl, rfl⟩ -- NEW
  refine WL.yd (Yd.assign rfl) rfl ?_
  refine WL.nil ?_
  refine WP.thenC ?_
  refine WC.seq ?_
  refine WC.seq ?_
  refine WC.ofFr [(6, _), (3, _), (1, _), (2, _)] ⟨rfl, rfl, rfl, rfl, trivial⟩ ?_
  refine WC.region ?_
  refine WL.yd (Yd.loadN Try.isAgg27 Try.sizeOf27 rfl (vs := [_, _, _, _]) rfl (by first | exact RdN.own (k := 0) (n := 4) rfl rfl)) rfl ?_
  refine WL.so (SO.callP Try.call38 rfl (fun w hI => long_g _ _ _ _ _ _ _ _ _)) rfl ?_
  rintro _ _ _ ⟨rfl, rfl, rfl⟩
  refine WL.know 29 (.bool false) rfl (congrArg Value.bool (decide_eq_false hl)) ?_
  refine WL.yd (Yd.move rfl) rfl ?_
  refine WL.ydg rfl (Yd.loadN Try.isAgg27 Try.sizeOf27 rfl (vs := [_, _, _, _]) rfl (by first | exact RdN.own (k := 0) (n := 4) rfl rfl)) rfl ?_
  refine WL.sog rfl (SO.callP Try.call39 rfl (fun w hI => rpost_g p a1 _ c1 a2 _ c2 _ w hR hI.imm)) rfl ?_
  rintro _ _ _ ⟨rfl, rfl, rfl⟩
  refine WL.know 32 (.bool true) rfl (congrArg Value.bool hv) ?_
  refine WL.ydg rfl (Yd.not rfl) rfl ?_
  refine WL.yd (Yd.pickF rfl rfl) rfl ?_
  refine WL.nil ?_
  refine WP.thenC ?_
  refine WC.condF rfl ?_
  refine WC.skip ?_
  refine WP.thenC ?_
  refine WC.seq ?_
  refine WC.ofFr [(6, _), (3, _), (1, _), (2, _)] ⟨rfl, rfl, rfl, rfl, trivial⟩ ?_
  refine WC.region ?_
  refine WL.yd (Yd.fieldAddr FA27_1 rfl) rfl ?_
  refine WL.yd (Yd.load1 Try.isAgg24 rfl (by first | exact Rd.own (k := 0) rfl rfl)) rfl ?_
  refine WL.yd (Yd.lenS rfl Try.underlying24 rfl) rfl ?_
  refine WL.yd (Yd.add rfl rfl (wr64 ⟨by omega, by omega⟩)) rfl ?_
  refine WL.yd (Yd.assign rfl) rfl ?_
  refine WL.nil ?_
  refine WP.thenC ?_
  refine WC.seq ?_
  refine WC.ofFr [(7, _), (6, _), (3, _), (1, _), (2, _)] ⟨rfl, rfl, rfl, rfl, rfl, trivial⟩ ?_
  refine WC.tail 11 [0, 1, 2, 3, 4, 5, 6, 7, 8, 9, 10] rfl (by kernel_rfl) (by kernel_rfl)  ?_
  refine WQ.q rfl (Yd.qt (Yd.move rfl)) rfl ?_
  refine WQ.q rfl (Yd.qt (Yd.conv Try.underlying5 Try.underlying3 rfl (wr64 ⟨by omega, by omega⟩))) rfl ?_
  refine WQ.q rfl (Yd.qt (Yd.move rfl)) rfl ?_
  refine WQ.q rfl (Yd.qt (Yd.rem rfl rfl (by omega) (by omega))) rfl ?_
  refine WQ.q rfl (Yd.qt (Yd.sub rfl rfl (wr64 ⟨by omega, by omega⟩))) rfl ?_
  refine WQ.q rfl (Yd.qt (Yd.move rfl)) rfl ?_
  refine WQ.q rfl (Yd.qt (Yd.conv Try.underlying5 Try.underlying3 rfl (wr64 ⟨by omega, by omega⟩))) rfl ?_
  refine WQ.q rfl (Yd.qt (Yd.move rfl)) rfl ?_
  refine WQ.q rfl (Yd.qt (Yd.rem rfl rfl (by omega) (by omega))) rfl ?_
  refine WQ.q rfl (Yd.qt (Yd.sub rfl rfl (wr64 ⟨by omega, by omega⟩))) rfl ?_
  refine WQ.q rfl (Yd.qt (Yd.assign rfl)) rfl ?_
  refine WQ.tail ?_
  refine WL.yd (Yd.assign rfl) rfl ?_
  refine WL.nil ?_
  refine WP.thenC ?_
  refine WC.seq ?_
  generalize hEa : (m1 : Int) % ((p.bathers.length : Int) + 1) - 1 = a
  have hwa : whoP p a = true := decide_eq_true ⟨by omega, by omega⟩
  generalize hEb : (m2 : Int) % ((p.bathers.length : Int) + 1) - 1 = b
  have hwb : whoP p b = true := decide_eq_true ⟨by omega, by omega⟩
  refine WC.ofFr [(9, _), (8, _), (6, _), (3, _)] ⟨rfl, rfl, rfl, rfl, trivial⟩ ?_
  refine WC.region ?_
  refine WL.yd (Yd.loadN Try.isAgg27 Try.sizeOf27 rfl (vs := [_, _, _, _]) rfl (by first | exact RdN.own (k := 0) (n := 4) rfl rfl)) rfl ?_
  refine WL.yd (Yd.move rfl) rfl ?_
  refine WL.yd (Yd.move rfl) rfl ?_
  refine WL.so (SO.callP Try.call19 rfl (fun w hI => Gives.cv (.tuple #[.agg #[it 0, it 0], it 10]) (Near_g p a1 _ c1 a2 _ c2 _ w hR hI.imm a b) (by rw [near_bad hv hok hwa hwb]))) rfl ?_
  rintro _ _ _ ⟨rfl, rfl, rfl⟩
  refine WL.yd (Yd.move rfl) rfl ?_
  refine WL.yd (Yd.extract rfl rfl) rfl ?_
  refine WL.yd (Yd.extract rfl rfl) rfl ?_
  refine WL.so (SO.alloc Try.zeroValue23 rfl) rfl ?_
  rintro _ _ _ ⟨b10, hb10, rfl, rfl, rfl⟩ -- NEW
  refine WL.so (SO.store 0 rfl Try.sizeOf23 rfl rfl rfl rfl (Nat.le_of_ble_eq_true rfl) (oneB_spec rfl)) rfl ?_
  rintro _ _ _ ⟨rfl, rfl, rfl⟩
  refine WL.yd (Yd.assign rfl) rfl ?_
  refine WL.nil ?_
  refine WP.thenC ?_
  refine WC.seq ?_
  refine WC.ofFr [(11, _), (10, _), (9, _), (8, _), (6, _), (3, _)] ⟨rfl, rfl, rfl, rfl, rfl, rfl, trivial⟩ ?_
  refine WC.region ?_
  refine WL.yd (Yd.loadN Try.isAgg27 Try.sizeOf27 rfl (vs := [_, _, _, _]) rfl (by first | exact RdN.own (k := 0) (n := 4) rfl rfl | exact RdN.own (k := 1) (n := 4) rfl rfl)) rfl ?_
  refine WL.yd (Yd.move rfl) rfl ?_
  refine WL.yd (Yd.move rfl) rfl ?_
  refine WL.so (SO.callP Try.call19 rfl (fun w hI => Gives.cv (.tuple #[.agg #[it 0, it 0], it 10]) (Near_g p a1 _ c1 a2 _ c2 _ w hR hI.imm b a) (by rw [near_bad hv hok hwb hwa]))) rfl ?_
  rintro _ _ _ ⟨rfl, rfl, rfl⟩
  refine WL.yd (Yd.move rfl) rfl ?_
  refine WL.yd (Yd.extract rfl rfl) rfl ?_
  refine WL.yd (Yd.extract rfl rfl) rfl ?_
  refine WL.so (SO.alloc Try.zeroValue23 rfl) rfl ?_
  rintro _ _ _ ⟨b12, hb12, rfl, rfl, rfl⟩ -- NEW
  refine WL.so (SO.store 0 rfl Try.sizeOf23 rfl rfl rfl rfl (Nat.le_of_ble_eq_true rfl) (oneB_spec rfl)) rfl ?_
  rintro _ _ _ ⟨rfl, rfl, rfl⟩
  refine WL.yd (Yd.assign rfl) rfl ?_
  refine WL.nil ?_
  refine WP.thenC ?_
  refine WC.seq ?_
  refine WC.ofFr [(13, _), (12, _), (11, _), (10, _), (9, _), (8, _), (6, _), (3, _)] ⟨rfl, rfl, rfl, rfl, rfl, rfl, rfl, rfl, trivial⟩ ?_
  refine WC.region ?_
  refine WL.yd (Yd.loadN Try.isAgg27 Try.sizeOf27 rfl (vs := [_, _, _, _]) rfl (by first | exact RdN.own (k := 0) (n := 4) rfl rfl | exact RdN.own (k := 1) (n := 4) rfl rfl | exact RdN.own (k := 2) (n := 4) rfl rfl)) rfl ?_
  refine WL.yd (Yd.move rfl) rfl ?_
  refine WL.yd (Yd.move rfl) rfl ?_
  refine WL.so (SO.callP Try.call19 rfl (fun w hI => Gives.cv (.tuple #[.agg #[it 0, it 0], it 10]) (Near_g p a1 _ c1 a2 _ c2 _ w hR hI.imm a a) (by rw [near_bad hv hok hwa hwa]))) rfl ?_
  rintro _ _ _ ⟨rfl, rfl, rfl⟩
  refine WL.yd (Yd.move rfl) rfl ?_
  refine WL.yd (Yd.extract rfl rfl) rfl ?_
  refine WL.yd (Yd.extract rfl rfl) rfl ?_
  refine WL.so (SO.alloc Try.zeroValue23 rfl) rfl ?_
  rintro _ _ _ ⟨b14, hb14, rfl, rfl, rfl⟩ -- NEW
  refine WL.so (SO.store 0 rfl Try.sizeOf23 rfl rfl rfl rfl (Nat.le_of_ble_eq_true rfl) (oneB_spec rfl)) rfl ?_
  rintro _ _ _ ⟨rfl, rfl, rfl⟩
  refine WL.yd (Yd.assign rfl) rfl ?_
  refine WL.nil ?_
  refine WP.thenC ?_
  refine WC.seq ?_
  refine WC.ofFr [(15, _), (14, _), (13, _), (12, _), (11, _), (10, _), (9, _), (8, _), (6, _), (3, _)] ⟨rfl, rfl, rfl, rfl, rfl, rfl, rfl, rfl, rfl, rfl, trivial⟩ ?_
  refine WC.region ?_
  refine WL.yd (Yd.loadN Try.isAgg27 Try.sizeOf27 rfl (vs := [_, _, _, _]) rfl (by first | exact RdN.own (k := 0) (n := 4) rfl rfl | exact RdN.own (k := 1) (n := 4) rfl rfl | exact RdN.own (k := 2) (n := 4) rfl rfl | exact RdN.own (k := 3) (n := 4) rfl rfl)) rfl ?_
  refine WL.yd (Yd.move rfl) rfl ?_
  refine WL.yd (Yd.move rfl) rfl ?_
  refine WL.so (SO.callP Try.call17 rfl (fun w hI => Gives.cv (.tuple #[it 0, it 10]) (Before_g p a1 _ c1 a2 _ c2 _ w hR hI.imm a b) (by rw [before_bad hv hok hwa hwb]))) rfl ?_
  rintro _ _ _ ⟨rfl, rfl, rfl⟩
  refine WL.yd (Yd.move rfl) rfl ?_
  refine WL.yd (Yd.extract rfl rfl) rfl ?_
  refine WL.yd (Yd.extract rfl rfl) rfl ?_
  refine WL.yd (Yd.assign rfl) rfl ?_
  refine WL.yd (Yd.assign rfl) rfl ?_
  refine WL.nil ?_
  refine WP.thenC ?_
  refine WC.seq ?_
  refine WC.ofFr [(17, _), (16, _), (15, _), (14, _), (13, _), (12, _), (11, _), (10, _), (9, _), (8, _), (6, _), (3, _)] ⟨rfl, rfl, rfl, rfl, rfl, rfl, rfl, rfl, rfl, rfl, rfl, rfl, trivial⟩ ?_
  refine WC.region ?_
  refine WL.yd (Yd.loadN Try.isAgg27 Try.sizeOf27 rfl (vs := [_, _, _, _]) rfl (by first | exact RdN.own (k := 0) (n := 4) rfl rfl | exact RdN.own (k := 1) (n := 4) rfl rfl | exact RdN.own (k := 2) (n := 4) rfl rfl | exact RdN.own (k := 3) (n := 4) rfl rfl)) rfl ?_
  refine WL.yd (Yd.move rfl) rfl ?_
  refine WL.yd (Yd.move rfl) rfl ?_
  refine WL.so (SO.callP Try.call17 rfl (fun w hI => Gives.cv (.tuple #[it 0, it 10]) (Before_g p a1 _ c1 a2 _ c2 _ w hR hI.imm b a) (by rw [before_bad hv hok hwb hwa]))) rfl ?_
  rintro _ _ _ ⟨rfl, rfl, rfl⟩
  refine WL.yd (Yd.move rfl) rfl ?_
  refine WL.yd (Yd.extract rfl rfl) rfl ?_
  refine WL.yd (Yd.extract rfl rfl) rfl ?_
  refine WL.yd (Yd.assign rfl) rfl ?_
  refine WL.yd (Yd.assign rfl) rfl ?_
  refine WL.nil ?_
  refine WP.thenC ?_
  refine WC.seq ?_
  refine WC.seq ?_
  refine WC.ofFr [(19, _), (18, _), (17, _), (16, _), (15, _), (14, _), (13, _), (12, _), (11, _), (10, _), (9, _), (8, _), (6, _), (3, _)] ⟨rfl, rfl, rfl, rfl, rfl, rfl, rfl, rfl, rfl, rfl, rfl, rfl, rfl, rfl, trivial⟩ ?_
  refine WC.region ?_
  refine WL.yd (Yd.move rfl) rfl ?_
  refine WL.yd (Yd.move rfl) rfl ?_
  refine WL.yd (Yd.neq rfl rfl) rfl ?_
  refine WL.know 87 (.bool false) rfl (congrArg Value.bool (decide_eq_false (by simp))) ?_
  refine WL.yd (Yd.move rfl) rfl ?_
  refine WL.ydg rfl (Yd.move rfl) rfl ?_
  refine WL.ydg rfl (Yd.move rfl) rfl ?_
  refine WL.ydg rfl (Yd.neq rfl rfl) rfl ?_
  refine WL.know 91 (.bool false) rfl (congrArg Value.bool (decide_eq_false (by simp))) ?_
  refine WL.yd (Yd.pickF rfl rfl) rfl ?_
  refine WL.yd (Yd.move rfl) rfl ?_
  refine WL.ydg rfl (Yd.move rfl) rfl ?_
  refine WL.ydg rfl (Yd.move rfl) rfl ?_
  refine WL.ydg rfl (Yd.neq rfl rfl) rfl ?_
  refine WL.know 96 (.bool false) rfl (congrArg Value.bool (decide_eq_false (by simp))) ?_
  refine WL.yd (Yd.pickF rfl rfl) rfl ?_
  refine WL.yd (Yd.move rfl) rfl ?_
  refine WL.ydg rfl (Yd.move rfl) rfl ?_
  refine WL.ydg rfl (Yd.move rfl) rfl ?_
  refine WL.ydg rfl (Yd.neq rfl rfl) rfl ?_
  refine WL.know 101 (.bool false) rfl (congrArg Value.bool (decide_eq_false (by simp))) ?_
  refine WL.yd (Yd.pickF rfl rfl) rfl ?_
  refine WL.yd (Yd.move rfl) rfl ?_
  refine WL.ydg rfl (Yd.loadN Try.isAgg23 Try.sizeOf23 rfl (vs := [_, _]) rfl (by first | exact RdN.own (k := 0) (n := 2) rfl rfl | exact RdN.own (k := 1) (n := 2) rfl rfl | exact RdN.own (k := 2) (n := 2) rfl rfl | exact RdN.own (k := 3) (n := 2) rfl rfl)) rfl ?_
  refine WL.ydg rfl (Yd.loadN Try.isAgg23 Try.sizeOf23 rfl (vs := [_, _]) rfl (by first | exact RdN.own (k := 0) (n := 2) rfl rfl | exact RdN.own (k := 1) (n := 2) rfl rfl | exact RdN.own (k := 2) (n := 2) rfl rfl | exact RdN.own (k := 3) (n := 2) rfl rfl)) rfl ?_
  refine WL.ydg rfl (Yd.neS Try.eqGuardType23 (eq23 _ _ _ _) rfl rfl) rfl ?_
  refine WL.know 106 (.bool false) rfl (congrArg Value.bool (by simp)) ?_
  refine WL.yd (Yd.pickF rfl rfl) rfl ?_
  refine WL.yd (Yd.move rfl) rfl ?_
  refine WL.ydg rfl (Yd.loadN Try.isAgg23 Try.sizeOf23 rfl (vs := [_, _]) rfl (by first | exact RdN.own (k := 0) (n := 2) rfl rfl | exact RdN.own (k := 1) (n := 2) rfl rfl | exact RdN.own (k := 2) (n := 2) rfl rfl | exact RdN.own (k := 3) (n := 2) rfl rfl)) rfl ?_
  refine WL.ydg rfl (Yd.build SA23 rfl (cs := [_, _]) rfl) rfl ?_
  refine WL.ydg rfl (Yd.neS Try.eqGuardType23 (eq23 _ _ _ _) rfl rfl) rfl ?_
  refine WL.know 111 (.bool false) rfl (congrArg Value.bool (by simp)) ?_
  refine WL.yd (Yd.pickF rfl rfl) rfl ?_
  refine WL.nil ?_
  refine WP.thenC ?_
  refine WC.condF rfl ?_
  refine WC.skip ?_
  refine WP.thenC ?_
  refine WC.seq ?_
  refine WC.seq ?_
  refine WC.ofFr [(18, _), (16, _), (11, _), (10, _), (9, _), (8, _), (6, _), (3, _)] ⟨rfl, rfl, rfl, rfl, rfl, rfl, rfl, rfl, trivial⟩ ?_
  refine WC.region ?_
  refine WL.yd (Yd.move rfl) rfl ?_
  refine WL.yd (Yd.neq rfl rfl) rfl ?_
  refine WL.know 114 (.bool true) rfl (congrArg Value.bool (by decide)) ?_
  refine WL.nil ?_
  refine WP.thenC ?_
  refine WC.condT rfl ?_
  refine WC.seq ?_
  refine WC.ofFr [(18, _), (16, _), (11, _), (10, _), (9, _), (8, _), (6, _), (3, _)] ⟨rfl, rfl, rfl, rfl, rfl, rfl, rfl, rfl, trivial⟩ ?_
  refine WC.region ?_
  refine WL.yd (Yd.move rfl) rfl ?_
  refine WL.yd (Yd.eql rfl rfl) rfl ?_
  refine WL.know 116 (.bool true) rfl (congrArg Value.bool (by decide)) ?_
  refine WL.yd (Yd.move rfl) rfl ?_
  refine WL.ydg rfl (Yd.loadN Try.isAgg23 Try.sizeOf23 rfl (vs := [_, _]) rfl (by first | exact RdN.own (k := 0) (n := 2) rfl rfl | exact RdN.own (k := 1) (n := 2) rfl rfl | exact RdN.own (k := 2) (n := 2) rfl rfl | exact RdN.own (k := 3) (n := 2) rfl rfl)) rfl ?_
  refine WL.ydg rfl (Yd.build SA23 rfl (cs := [_, _]) rfl) rfl ?_
  refine WL.ydg rfl (Yd.eqS Try.eqGuardType23 (eq23 _ _ _ _) rfl rfl) rfl ?_
  refine WL.know 120 (.bool true) rfl (congrArg Value.bool (decide_eq_true rfl)) ?_
  refine WL.yd (Yd.pickT rfl rfl) rfl ?_
  refine WL.yd (Yd.move rfl) rfl ?_
  refine WL.sog rfl (SO.callP Try.call14 rfl (fun w hI => alive_g _ _ hI.imm)) rfl ?_
  rintro _ _ _ ⟨rfl, rfl, rfl⟩
  refine WL.know 123 (.bool true) rfl rfl ?_
  refine WL.yd (Yd.pickT rfl rfl) rfl ?_
  refine WL.yd (Yd.assign rfl) rfl ?_
  refine WL.nil ?_
  refine WP.thenC ?_
  refine WC.ret ?_
  refine WP.thenRet ?_
  refine WP.ret1 rfl rfl Try.results8 (RV.tmp rfl) (fun w hI => ⟨rfl, hI.keep⟩)

set_option maxRecDepth 100000 in
set_option maxHeartbeats 1000000 in
theorem near8_o (p : Post) (a1 : Option Addr) (n1 c1 : Nat) (a2 : Option Addr) (n2 c2 : Nat) (D : Imm) (w : World) (hR : PostR D p a1 n1 a2 n2) (hH : Holds D w) (m1 m2 : Nat) (hm1 : m1 ≤ 255) (hm2 : m2 ≤ 255) (hl : ¬ (max (n1 : Int) (n2 : Int) > 40)) (hv : postB p = true) (hok : okA p = true) : Gives Try.prog 8 [.agg #[it p.post.lo, it p.post.hi, .slice a1 n1 c1, .slice a2 n2 c2], .int .u8 (m1 : Int), .int .u8 (m2 : Int)] w (.bool true) := by
  unfold Gives
  obtain rfl := hR.bath.len'
  obtain rfl := hR.claim.len'
  have hl1 := hR.len1
  have hl2 := hR.len2
  have hx1 : 0 ≤ (m1 : Int) % ((p.bathers.length : Int) + 1) ∧ (m1 : Int) % ((p.bathers.length : Int) + 1) < (p.bathers.length : Int) + 1 := ⟨Int.emod_nonneg _ (by omega), Int.emod_lt_of_pos _ (by omega)⟩
  have hx2 : 0 ≤ (m2 : Int) % ((p.bathers.length : Int) + 1) ∧ (m2 : Int) % ((p.bathers.length : Int) + 1) < (p.bathers.length : Int) + 1 := ⟨Int.emod_nonneg _ (by omega), Int.emod_lt_of_pos _ (by omega)⟩
  refine enter Try.func8 rfl 230 Try.ntmps8 (Nat.le_of_ble_eq_true rfl) (Inv.start hH) ?_
  refine WC.seq ?_
  refine WC.ofFr [(0, _), (1, _), (2, _)] ⟨rfl, rfl, rfl, trivial⟩ ?_
  refine WC.region ?_
  refine WL.so (SO.box rfl rfl) rfl ?_
  rintro _ _ _ ⟨b3, hb3, rfl, rfl, rfl⟩ -- NEW
  refine WL.yd (Yd.assign rfl) rfl ?_
  refine WL.nil ?_
  refine WP.thenC ?_
  refine WC.seq ?_
  refine WC.seq ?_
  refine WC.ofFr [(6, _), (3, _), (1, _), (2, _)] ⟨rfl, rfl, rfl, rfl, trivial⟩ ?_
  refine WC.region ?_
  refine WL.yd (Yd.loadN Try.isAgg27 Try.sizeOf27 rfl (vs := [_, _, _, _]) rfl (by first | exact RdN.own (k := 0) (n := 4) rfl rfl)) rfl ?_
  refine WL.so (SO.callP Try.call38 rfl (fun w hI => long_g _ _ _ _ _ _ _ _ _)) rfl ?_
  rintro _ _ _ ⟨rfl, rfl, rfl⟩
  refine WL.know 29 (.bool false) rfl (congrArg Value.bool (decide_eq_false hl)) ?_
  refine WL.yd (Yd.move rfl) rfl ?_
  refine WL.ydg rfl (Yd.loadN Try.isAgg27 Try.sizeOf27 rfl (vs := [_, _, _, _]) rfl (by first | exact RdN.own (k := 0) (n := 4) rfl rfl)) rfl ?_
  refine WL.sog rfl (SO.callP Try.call39 rfl (fun w hI => rpost_g p a1 _ c1 a2 _ c2 _ w hR hI.imm)) rfl ?_
  rintro _ _ _ ⟨rfl, rfl, rfl⟩
  refine WL.know 32 (.bool true) rfl (congrArg Value.bool hv) ?_
  refine WL.ydg rfl (Yd.not rfl) rfl ?_
  refine WL.yd (Yd.pickF rfl rfl) rfl ?_
  refine WL.nil ?_
  refine WP.thenC ?_
  refine WC.condF rfl ?_
  refine WC.skip ?_
  refine WP.thenC ?_
  refine WC.seq ?_
  refine WC.ofFr [(6, _), (3, _), (1, _), (2, _)] ⟨rfl, rfl, rfl, rfl, trivial⟩ ?_
  refine WC.region ?_
  refine WL.yd (Yd.fieldAddr FA27_1 rfl) rfl ?_
  refine WL.yd (Yd.load1 Try.isAgg24 rfl (by first | exact Rd.own (k := 0) rfl rfl)) rfl ?_
  refine WL.yd (Yd.lenS rfl Try.underlying24 rfl) rfl ?_
  refine WL.yd (Yd.add rfl rfl (wr64 ⟨by omega, by omega⟩)) rfl ?_
  refine WL.yd (Yd.assign rfl) rfl ?_
  refine WL.nil ?_
  refine WP.thenC ?_
  refine WC.seq ?_
  refine WC.ofFr [(7, _), (6, _), (3, _), (1, _), (2, _)] ⟨rfl, rfl, rfl, rfl, rfl, trivial⟩ ?_
  refine WC.tail 11 [0, 1, 2, 3, 4, 5, 6, 7, 8, 9, 10] rfl (by kernel_rfl) (by kernel_rfl)  ?_
  refine WQ.q rfl (Yd.qt (Yd.move rfl)) rfl ?_
  refine WQ.q rfl (Yd.qt (Yd.conv Try.underlying5 Try.underlying3 rfl (wr64 ⟨by omega, by omega⟩))) rfl ?_
  refine WQ.q rfl (Yd.qt (Yd.move rfl)) rfl ?_
  refine WQ.q rfl (Yd.qt (Yd.rem rfl rfl (by omega) (by omega))) rfl ?_
  refine WQ.q rfl (Yd.qt (Yd.sub rfl rfl (wr64 ⟨by omega, by omega⟩))) rfl ?_
  refine WQ.q rfl (Yd.qt (Yd.move rfl)) rfl ?_
  refine WQ.q rfl (Yd.qt (Yd.conv Try.underlying5 Try.underlying3 rfl (wr64 ⟨by omega, by omega⟩))) rfl ?_
  refine WQ.q rfl (Yd.qt (Yd.move rfl)) rfl ?_
  refine WQ.q rfl (Yd.qt (Yd.rem rfl rfl (by omega) (by omega))) rfl ?_
  refine WQ.q rfl (Yd.qt (Yd.sub rfl rfl (wr64 ⟨by omega, by omega⟩))) rfl ?_
  refine WQ.q rfl (Yd.qt (Yd.assign rfl)) rfl ?_
  refine WQ.tail ?_
  refine WL.yd (Yd.assign rfl) rfl ?_
  refine WL.nil ?_
  refine WP.thenC ?_
  refine WC.seq ?_
  generalize hEa : (m1 : Int) % ((p.bathers.length : Int) + 1) - 1 = a
  have hwa : whoP p a = true := decide_eq_true ⟨by omega, by omega⟩
  generalize hEb : (m2 : Int) % ((p.bathers.length : Int) + 1) - 1 = b
  have hwb : whoP p b = true := decide_eq_true ⟨by omega, by omega⟩
  have hos := own_in hv hok hwa
  have hne := near_ends hv hok hwa hwb
  refine WC.ofFr [(9, _), (8, _), (6, _), (3, _)] ⟨rfl, rfl, rfl, rfl, trivial⟩ ?_
  refine WC.region ?_
  refine WL.yd (Yd.loadN Try.isAgg27 Try.sizeOf27 rfl (vs := [_, _, _, _]) rfl (by first | exact RdN.own (k := 0) (n := 4) rfl rfl)) rfl ?_
  refine WL.yd (Yd.move rfl) rfl ?_
  refine WL.yd (Yd.move rfl) rfl ?_
  refine WL.so (SO.callP Try.call19 rfl (fun w hI => Gives.cv (.tuple #[.agg #[it (nearG p a b).lo, it (nearG p a b).hi], it 0]) (Near_g p a1 _ c1 a2 _ c2 _ w hR hI.imm a b) (by rw [near_out hv hok hwa hwb]; rfl))) rfl ?_
  rintro _ _ _ ⟨rfl, rfl, rfl⟩
  refine WL.yd (Yd.move rfl) rfl ?_
  refine WL.yd (Yd.extract rfl rfl) rfl ?_
  refine WL.yd (Yd.extract rfl rfl) rfl ?_
  refine WL.so (SO.alloc Try.zeroValue23 rfl) rfl ?_
  rintro _ _ _ ⟨b10, hb10, rfl, rfl, rfl⟩ -- NEW
  refine WL.so (SO.store 0 rfl Try.sizeOf23 rfl rfl rfl rfl (Nat.le_of_ble_eq_true rfl) (oneB_spec rfl)) rfl ?_
  rintro _ _ _ ⟨rfl, rfl, rfl⟩
  refine WL.yd (Yd.assign rfl) rfl ?_
  refine WL.nil ?_
  refine WP.thenC ?_
  refine WC.seq ?_
  refine WC.ofFr [(11, _), (10, _), (9, _), (8, _), (6, _), (3, _)] ⟨rfl, rfl, rfl, rfl, rfl, rfl, trivial⟩ ?_
  refine WC.region ?_
  refine WL.yd (Yd.loadN Try.isAgg27 Try.sizeOf27 rfl (vs := [_, _, _, _]) rfl (by first | exact RdN.own (k := 0) (n := 4) rfl rfl | exact RdN.own (k := 1) (n := 4) rfl rfl)) rfl ?_
  refine WL.yd (Yd.move rfl) rfl ?_
  refine WL.yd (Yd.move rfl) rfl ?_
  refine WL.so (SO.callP Try.call19 rfl (fun w hI => Gives.cv (.tuple #[.agg #[it (nearG p a b).lo, it (nearG p a b).hi], it 0]) (Near_g p a1 _ c1 a2 _ c2 _ w hR hI.imm b a) (by rw [near_out hv hok hwb hwa, ← near_sym hv hok hwa hwb]; rfl))) rfl ?_
  rintro _ _ _ ⟨rfl, rfl, rfl⟩
  refine WL.yd (Yd.move rfl) rfl ?_
  refine WL.yd (Yd.extract rfl rfl) rfl ?_
  refine WL.yd (Yd.extract rfl rfl) rfl ?_
  refine WL.so (SO.alloc Try.zeroValue23 rfl) rfl ?_
  rintro _ _ _ ⟨b12, hb12, rfl, rfl, rfl⟩ -- NEW
  refine WL.so (SO.store 0 rfl Try.sizeOf23 rfl rfl rfl rfl (Nat.le_of_ble_eq_true rfl) (oneB_spec rfl)) rfl ?_
  rintro _ _ _ ⟨rfl, rfl, rfl⟩
  refine WL.yd (Yd.assign rfl) rfl ?_
  refine WL.nil ?_
  refine WP.thenC ?_
  refine WC.seq ?_
  refine WC.ofFr [(13, _), (12, _), (11, _), (10, _), (9, _), (8, _), (6, _), (3, _)] ⟨rfl, rfl, rfl, rfl, rfl, rfl, rfl, rfl, trivial⟩ ?_
  refine WC.region ?_
  refine WL.yd (Yd.loadN Try.isAgg27 Try.sizeOf27 rfl (vs := [_, _, _, _]) rfl (by first | exact RdN.own (k := 0) (n := 4) rfl rfl | exact RdN.own (k := 1) (n := 4) rfl rfl | exact RdN.own (k := 2) (n := 4) rfl rfl)) rfl ?_
  refine WL.yd (Yd.move rfl) rfl ?_
  refine WL.yd (Yd.move rfl) rfl ?_
  refine WL.so (SO.callP Try.call19 rfl (fun w hI => Gives.cv (.tuple #[.agg #[it 0, it 0], it 0]) (Near_g p a1 _ c1 a2 _ c2 _ w hR hI.imm a a) (by rw [near_out hv hok hwa hwa, show nearS (-GA p (ix a) (ix a)) (GA p (ix a) (ix a)) = ⟨0, 0⟩ from near_self hv hok hwa]))) rfl ?_
  rintro _ _ _ ⟨rfl, rfl, rfl⟩
  refine WL.yd (Yd.move rfl) rfl ?_
  refine WL.yd (Yd.extract rfl rfl) rfl ?_
  refine WL.yd (Yd.extract rfl rfl) rfl ?_
  refine WL.so (SO.alloc Try.zeroValue23 rfl) rfl ?_
  rintro _ _ _ ⟨b14, hb14, rfl, rfl, rfl⟩ -- NEW
  refine WL.so (SO.store 0 rfl Try.sizeOf23 rfl rfl rfl rfl (Nat.le_of_ble_eq_true rfl) (oneB_spec rfl)) rfl ?_
  rintro _ _ _ ⟨rfl, rfl, rfl⟩
  refine WL.yd (Yd.assign rfl) rfl ?_
  refine WL.nil ?_
  refine WP.thenC ?_
  refine WC.seq ?_
  refine WC.ofFr [(15, _), (14, _), (13, _), (12, _), (11, _), (10, _), (9, _), (8, _), (6, _), (3, _)] ⟨rfl, rfl, rfl, rfl, rfl, rfl, rfl, rfl, rfl, rfl, trivial⟩ ?_
  refine WC.region ?_
  refine WL.yd (Yd.loadN Try.isAgg27 Try.sizeOf27 rfl (vs := [_, _, _, _]) rfl (by first | exact RdN.own (k := 0) (n := 4) rfl rfl | exact RdN.own (k := 1) (n := 4) rfl rfl | exact RdN.own (k := 2) (n := 4) rfl rfl | exact RdN.own (k := 3) (n := 4) rfl rfl)) rfl ?_
  refine WL.yd (Yd.move rfl) rfl ?_
  refine WL.yd (Yd.move rfl) rfl ?_
  refine WL.so (SO.callP Try.call17 rfl (fun w hI => Gives.cv (.tuple #[it (befG p a b), it 0]) (Before_g p a1 _ c1 a2 _ c2 _ w hR hI.imm a b) (by rw [before_out hv hok hwa hwb]; rfl))) rfl ?_
  rintro _ _ _ ⟨rfl, rfl, rfl⟩
  refine WL.yd (Yd.move rfl) rfl ?_
  refine WL.yd (Yd.extract rfl rfl) rfl ?_
  refine WL.yd (Yd.extract rfl rfl) rfl ?_
  refine WL.yd (Yd.assign rfl) rfl ?_
  refine WL.yd (Yd.assign rfl) rfl ?_
  refine WL.nil ?_
  refine WP.thenC ?_
  refine WC.seq ?_
  refine WC.ofFr [(17, _), (16, _), (15, _), (14, _), (13, _), (12, _), (11, _), (10, _), (9, _), (8, _), (6, _), (3, _)] ⟨rfl, rfl, rfl, rfl, rfl, rfl, rfl, rfl, rfl, rfl, rfl, rfl, trivial⟩ ?_
  refine WC.region ?_
  refine WL.yd (Yd.loadN Try.isAgg27 Try.sizeOf27 rfl (vs := [_, _, _, _]) rfl (by first | exact RdN.own (k := 0) (n := 4) rfl rfl | exact RdN.own (k := 1) (n := 4) rfl rfl | exact RdN.own (k := 2) (n := 4) rfl rfl | exact RdN.own (k := 3) (n := 4) rfl rfl)) rfl ?_
  refine WL.yd (Yd.move rfl) rfl ?_
  refine WL.yd (Yd.move rfl) rfl ?_
  refine WL.so (SO.callP Try.call17 rfl (fun w hI => Gives.cv (.tuple #[it (befG p b a), it 0]) (Before_g p a1 _ c1 a2 _ c2 _ w hR hI.imm b a) (by rw [before_out hv hok hwb hwa]; rfl))) rfl ?_
  rintro _ _ _ ⟨rfl, rfl, rfl⟩
  refine WL.yd (Yd.move rfl) rfl ?_
  refine WL.yd (Yd.extract rfl rfl) rfl ?_
  refine WL.yd (Yd.extract rfl rfl) rfl ?_
  refine WL.yd (Yd.assign rfl) rfl ?_
  refine WL.yd (Yd.assign rfl) rfl ?_
  refine WL.nil ?_
  refine WP.thenC ?_
  refine WC.seq ?_
  refine WC.seq ?_
  refine WC.ofFr [(19, _), (18, _), (17, _), (16, _), (15, _), (14, _), (13, _), (12, _), (11, _), (10, _), (9, _), (8, _), (6, _), (3, _)] ⟨rfl, rfl, rfl, rfl, rfl, rfl, rfl, rfl, rfl, rfl, rfl, rfl, rfl, rfl, trivial⟩ ?_
  refine WC.region ?_
  refine WL.yd (Yd.move rfl) rfl ?_
  refine WL.yd (Yd.move rfl) rfl ?_
  refine WL.yd (Yd.neq rfl rfl) rfl ?_
  refine WL.know 87 (.bool false) rfl (congrArg Value.bool (decide_eq_false (by simp))) ?_
  refine WL.yd (Yd.move rfl) rfl ?_
  refine WL.ydg rfl (Yd.move rfl) rfl ?_
  refine WL.ydg rfl (Yd.move rfl) rfl ?_
  refine WL.ydg rfl (Yd.neq rfl rfl) rfl ?_
  refine WL.know 91 (.bool false) rfl (congrArg Value.bool (decide_eq_false (by simp))) ?_
  refine WL.yd (Yd.pickF rfl rfl) rfl ?_
  refine WL.yd (Yd.move rfl) rfl ?_
  refine WL.ydg rfl (Yd.move rfl) rfl ?_
  refine WL.ydg rfl (Yd.move rfl) rfl ?_
  refine WL.ydg rfl (Yd.neq rfl rfl) rfl ?_
  refine WL.know 96 (.bool false) rfl (congrArg Value.bool (decide_eq_false (by simp))) ?_
  refine WL.yd (Yd.pickF rfl rfl) rfl ?_
  refine WL.yd (Yd.move rfl) rfl ?_
  refine WL.ydg rfl (Yd.move rfl) rfl ?_
  refine WL.ydg rfl (Yd.move rfl) rfl ?_
  refine WL.ydg rfl (Yd.neq rfl rfl) rfl ?_
  refine WL.know 101 (.bool false) rfl (congrArg Value.bool (decide_eq_false (by simp))) ?_
  refine WL.yd (Yd.pickF rfl rfl) rfl ?_
  refine WL.yd (Yd.move rfl) rfl ?_
  refine WL.ydg rfl (Yd.loadN Try.isAgg23 Try.sizeOf23 rfl (vs := [_, _]) rfl (by first | exact RdN.own (k := 0) (n := 2) rfl rfl | exact RdN.own (k := 1) (n := 2) rfl rfl | exact RdN.own (k := 2) (n := 2) rfl rfl | exact RdN.own (k := 3) (n := 2) rfl rfl)) rfl ?_
  refine WL.ydg rfl (Yd.loadN Try.isAgg23 Try.sizeOf23 rfl (vs := [_, _]) rfl (by first | exact RdN.own (k := 0) (n := 2) rfl rfl | exact RdN.own (k := 1) (n := 2) rfl rfl | exact RdN.own (k := 2) (n := 2) rfl rfl | exact RdN.own (k := 3) (n := 2) rfl rfl)) rfl ?_
  refine WL.ydg rfl (Yd.neS Try.eqGuardType23 (eq23 _ _ _ _) rfl rfl) rfl ?_
  refine WL.know 106 (.bool false) rfl (congrArg Value.bool (by simp)) ?_
  refine WL.yd (Yd.pickF rfl rfl) rfl ?_
  refine WL.yd (Yd.move rfl) rfl ?_
  refine WL.ydg rfl (Yd.loadN Try.isAgg23 Try.sizeOf23 rfl (vs := [_, _]) rfl (by first | exact RdN.own (k := 0) (n := 2) rfl rfl | exact RdN.own (k := 1) (n := 2) rfl rfl | exact RdN.own (k := 2) (n := 2) rfl rfl | exact RdN.own (k := 3) (n := 2) rfl rfl)) rfl ?_
  refine WL.ydg rfl (Yd.build SA23 rfl (cs := [_, _]) rfl) rfl ?_
  refine WL.ydg rfl (Yd.neS Try.eqGuardType23 (eq23 _ _ _ _) rfl rfl) rfl ?_
  refine WL.know 111 (.bool false) rfl (congrArg Value.bool (by simp)) ?_
  refine WL.yd (Yd.pickF rfl rfl) rfl ?_
  refine WL.nil ?_
  refine WP.thenC ?_
  refine WC.condF rfl ?_
  refine WC.skip ?_
  refine WP.thenC ?_
  refine WC.seq ?_
  refine WC.seq ?_
  refine WC.ofFr [(18, _), (16, _), (11, _), (10, _), (9, _), (8, _), (6, _), (3, _)] ⟨rfl, rfl, rfl, rfl, rfl, rfl, rfl, rfl, trivial⟩ ?_
  refine WC.region ?_
  refine WL.yd (Yd.move rfl) rfl ?_
  refine WL.yd (Yd.neq rfl rfl) rfl ?_
  refine WL.know 114 (.bool false) rfl (congrArg Value.bool (decide_eq_false (by simp))) ?_
  refine WL.nil ?_
  refine WP.thenC ?_
  refine WC.condF rfl ?_
  refine WC.skip ?_
  refine WP.thenC ?_
  refine WC.seq ?_
  refine WC.seqJ (fun _ : Unit => [(3, pt b3), (8, it a), (9, it b), (10, pt b10), (173, .bool false)]) (fun _ => [(b14, .cells (List.toArray [it 0, it 0]) 23 (0, 0)), (b12, .cells (List.toArray [it (nearG p a b).lo, it (nearG p a b).hi]) 23 (0, 0)), (b10, .cells (List.toArray [it (nearG p a b).lo, it (nearG p a b).hi]) 23 (0, 0)), (b3, .cells (List.toArray [it p.post.lo, it p.post.hi, .slice a1 p.bathers.length c1, .slice a2 p.claims.length c2]) 27 (0, 0))]) (fun _ => D) (fun _ => True) ?_ ?_
  · rintro _ _
    refine WC.condF rfl ?_
    refine WC.skip ?_
    refine WP.thenC ?_
    refine WC.seq ?_
    refine WC.ofFr [(3, _), (8, _), (9, _), (10, _)] ⟨rfl, rfl, rfl, rfl, trivial⟩ ?_
    refine WC.region ?_
    refine WL.yd (Yd.loadN Try.isAgg27 Try.sizeOf27 rfl (vs := [_, _, _, _]) rfl (by first | exact RdN.own (k := 0) (n := 4) rfl rfl | exact RdN.own (k := 1) (n := 4) rfl rfl | exact RdN.own (k := 2) (n := 4) rfl rfl | exact RdN.own (k := 3) (n := 4) rfl rfl)) rfl ?_
    refine WL.yd (Yd.move rfl) rfl ?_
    refine WL.so (SO.callP Try.call15 rfl (fun w hI => Gives.cv (.tuple #[.agg #[it (-GA p (ix a) 0), it (GA p 0 (ix a))], it 0]) (Place_g p a1 _ c1 a2 _ c2 _ w hR hI.imm a) (by rw [place_out hv hok hwa]))) rfl ?_
    rintro _ _ _ ⟨rfl, rfl, rfl⟩
    refine WL.yd (Yd.move rfl) rfl ?_
    refine WL.yd (Yd.extract rfl rfl) rfl ?_
    refine WL.yd (Yd.extract rfl rfl) rfl ?_
    refine WL.so (SO.alloc Try.zeroValue23 rfl) rfl ?_
    rintro _ _ _ ⟨b20, hb20, rfl, rfl, rfl⟩ -- NEW
    refine WL.so (SO.store 0 rfl Try.sizeOf23 rfl rfl rfl rfl (Nat.le_of_ble_eq_true rfl) (oneB_spec rfl)) rfl ?_
    rintro _ _ _ ⟨rfl, rfl, rfl⟩
    refine WL.yd (Yd.assign rfl) rfl ?_
    refine WL.nil ?_
    refine WP.thenC ?_
    refine WC.seq ?_
    refine WC.seq ?_
    refine WC.ofFr [(21, _), (20, _), (3, _), (8, _), (9, _), (10, _)] ⟨rfl, rfl, rfl, rfl, rfl, rfl, trivial⟩ ?_
    refine WC.region ?_
    refine WL.yd (Yd.move rfl) rfl ?_
    refine WL.yd (Yd.neq rfl rfl) rfl ?_
    refine WL.know 181 (.bool false) rfl (congrArg Value.bool (decide_eq_false (by simp))) ?_
    refine WL.nil ?_
    refine WP.thenC ?_
    refine WC.condF rfl ?_
    refine WC.skip ?_
    refine WP.thenC ?_
    refine WC.seq ?_
    refine WC.ofFr [(20, _), (3, _), (8, _), (9, _), (10, _)] ⟨rfl, rfl, rfl, rfl, rfl, trivial⟩ ?_
    refine WC.region ?_
    refine WL.so SO.makeMap rfl ?_
    rintro _ _ _ ⟨b182, hb182, rfl, rfl, rfl⟩ -- NEW
    refine WL.yd (Yd.assign rfl) rfl ?_
    refine WL.nil ?_
    refine WP.thenC ?_
    refine WC.seq ?_
    refine WC.seq ?_
    refine WC.ofFr [(22, _), (20, _), (3, _), (8, _), (9, _), (10, _)] ⟨rfl, rfl, rfl, rfl, rfl, rfl, trivial⟩ ?_
    refine WC.region ?_
    refine WL.yd (Yd.fieldAddr FA23_0 rfl) rfl ?_
    refine WL.yd (Yd.load1 Try.isAgg3 rfl (by first | exact Rd.own (k := 0) rfl rfl | exact Rd.own (k := 1) rfl rfl | exact Rd.own (k := 2) rfl rfl | exact Rd.own (k := 3) rfl rfl | exact Rd.own (k := 4) rfl rfl | exact Rd.own (k := 5) rfl rfl)) rfl ?_
    refine WL.yd (Yd.assign rfl) rfl ?_
    refine WL.nil ?_
    refine WP.thenC ?_
    refine WC.block ?_
    refine WC.loop (fun y : Int × Array MapEntry × Nat × (Fin 64 → Bool) => [(3, pt b3), (8, it a), (9, it b), (10, pt b10), (20, pt b20), (22, .map (some b182)), (23, it y.1)]) (fun y => [(b182, .map y.2.1 y.2.2.1), (b20, .cells (List.toArray [it (-GA p (ix a) 0), it (GA p 0 (ix a))]) 23 (0, 0)), (b14, .cells (List.toArray [it 0, it 0]) 23 (0, 0)), (b12, .cells (List.toArray [it (nearG p a b).lo, it (nearG p a b).hi]) 23 (0, 0)), (b10, .cells (List.toArray [it (nearG p a b).lo, it (nearG p a b).hi]) 23 (0, 0)), (b3, .cells (List.toArray [it p.post.lo, it p.post.hi, .slice a1 p.bathers.length c1, .slice a2 p.claims.length c2]) 27 (0, 0))]) (fun _ => D) (fun y => (-GA p (ix a) 0 ≤ y.1 ∧ y.1 ≤ GA p 0 (ix a) + 1) ∧ MapB ntV y.2.1 y.2.2.1 y.2.2.2 ∧ ∀ z : Fin 64, y.2.2.2 z = true ↔ Fnd p a b y.1 z.val) (fun y => (GA p 0 (ix a) + 1 - y.1).toNat) (-GA p (ix a) 0, #[], 0, fun _ => false) ⟨⟨by simp only; omega, by simp only; omega⟩, MapB.empty _, fun z => ⟨fun h => (by cases h), fun h => absurd h (fnd_start hv hok hwa _)⟩⟩ (fun a w h => at_fr h ⟨rfl, rfl, rfl, rfl, rfl, rfl, rfl, trivial⟩) ?_
    rintro ⟨k, es, clock, F⟩ ⟨⟨hk1, hk2⟩, hM, hF⟩
    dsimp only at hk1 hk2 hM hF
    refine WC.seq ?_
    refine WC.seq ?_
    refine WC.ofFr [(3, _), (8, _), (9, _), (10, _), (20, _), (22, _), (23, _)] ⟨rfl, rfl, rfl, rfl, rfl, rfl, rfl, trivial⟩ ?_
    refine WC.region ?_
    refine WL.yd (Yd.move rfl) rfl ?_
    refine WL.yd (Yd.fieldAddr FA23_1 rfl) rfl ?_
    refine WL.yd (Yd.load1 Try.isAgg3 rfl (by first | exact Rd.own (k := 0) rfl rfl | exact Rd.own (k := 1) rfl rfl | exact Rd.own (k := 2) rfl rfl | exact Rd.own (k := 3) rfl rfl | exact Rd.own (k := 4) rfl rfl | exact Rd.own (k := 5) rfl rfl)) rfl ?_
    refine WL.yd (Yd.leq rfl rfl) rfl ?_
    refine WL.nil ?_
    refine WP.thenC ?_
    refine WC.cond rfl (fun c188 => ?_) (fun c188 => ?_)
    · try simp only [zq1, zq2, zq3, zq4, zq5, zq6, zq7, zq8] at c188
      refine WC.skip ?_
      refine WP.thenC ?_
      refine WC.seq ?_
      refine WC.block ?_
      refine WC.seq ?_
      refine WC.ofFr [(3, _), (8, _), (9, _), (10, _), (20, _), (22, _), (23, _)] ⟨rfl, rfl, rfl, rfl, rfl, rfl, rfl, trivial⟩ ?_
      refine WC.region ?_
      refine WL.yd (Yd.loadN Try.isAgg27 Try.sizeOf27 rfl (vs := [_, _, _, _]) rfl (by first | exact RdN.own (k := 0) (n := 4) rfl rfl | exact RdN.own (k := 1) (n := 4) rfl rfl | exact RdN.own (k := 2) (n := 4) rfl rfl | exact RdN.own (k := 3) (n := 4) rfl rfl | exact RdN.own (k := 4) (n := 4) rfl rfl | exact RdN.own (k := 5) (n := 4) rfl rfl)) rfl ?_
      refine WL.yd (Yd.move rfl) rfl ?_
      refine WL.yd (Yd.move rfl) rfl ?_
      refine WL.so (SO.makes (Enters.func Try.call40 rfl) (fun w hI => at_g p a1 _ c1 a2 _ c2 _ w hR hI.imm a k hwa)) rfl ?_
      rintro _ D8 _ ⟨hX8, ⟨a8, c8, rfl, hR8⟩, rfl⟩
      refine WL.yd (Yd.move rfl) rfl ?_
      refine WL.so (SO.callP Try.call15 rfl (fun w hI => Gives.cv (.tuple #[.agg #[it (-GA (spotP p a k) (ix b) 0), it (GA (spotP p a k) 0 (ix b))], it 0]) (Place_g (spotP p a k) a8 _ c8 a2 _ c2 _ w hR8 hI.imm b) (by rw [place_out (spot_ok hv hwa ⟨by omega, by omega⟩) (spot_okA hv hok hwa ⟨hk1, by omega⟩) (spot_who hwb)]))) rfl ?_
      rintro _ _ _ ⟨rfl, rfl, rfl⟩
      refine WL.yd (Yd.move rfl) rfl ?_
      refine WL.yd (Yd.extract rfl rfl) rfl ?_
      refine WL.yd (Yd.extract rfl rfl) rfl ?_
      refine WL.so (SO.alloc Try.zeroValue23 rfl) rfl ?_
      rintro _ _ _ ⟨b24, hb24, rfl, rfl, rfl⟩ -- NEW
      refine WL.so (SO.store 0 rfl Try.sizeOf23 rfl rfl rfl rfl (Nat.le_of_ble_eq_true rfl) (oneB_spec rfl)) rfl ?_
      rintro _ _ _ ⟨rfl, rfl, rfl⟩
      refine WL.yd (Yd.assign rfl) rfl ?_
      refine WL.nil ?_
      refine WP.thenC ?_
      refine WC.seq ?_
      refine WC.seq ?_
      refine WC.ofFr [(25, _), (24, _), (3, _), (8, _), (9, _), (10, _), (20, _), (22, _), (23, _)] ⟨rfl, rfl, rfl, rfl, rfl, rfl, rfl, rfl, rfl, trivial⟩ ?_
      refine WC.region ?_
      refine WL.yd (Yd.move rfl) rfl ?_
      refine WL.yd (Yd.neq rfl rfl) rfl ?_
      refine WL.know 201 (.bool false) rfl (congrArg Value.bool (decide_eq_false (by simp))) ?_
      refine WL.nil ?_
      refine WP.thenC ?_
      refine WC.condF rfl ?_
      refine WC.skip ?_
      refine WP.thenC ?_
      refine WC.seq ?_
      have hkm : -GA p (ix a) 0 ≤ k ∧ k ≤ GA p 0 (ix a) := ⟨hk1, by omega⟩
      have hds := own_in (spot_ok hv hwa ⟨by omega, by omega⟩) (spot_okA hv hok hwa hkm) (spot_who (m := k) hwb)
      have hMk := hM
      have hFk := hF
      refine WC.ofFr [(24, _), (3, _), (8, _), (9, _), (10, _), (20, _), (22, _), (23, _)] ⟨rfl, rfl, rfl, rfl, rfl, rfl, rfl, rfl, trivial⟩ ?_
      refine WC.region ?_
      refine WL.yd (Yd.fieldAddr FA23_0 rfl) rfl ?_
      refine WL.yd (Yd.load1 Try.isAgg3 rfl (by first | exact Rd.own (k := 0) rfl rfl | exact Rd.own (k := 1) rfl rfl | exact Rd.own (k := 2) rfl rfl | exact Rd.own (k := 3) rfl rfl | exact Rd.own (k := 4) rfl rfl | exact Rd.own (k := 5) rfl rfl | exact Rd.own (k := 6) rfl rfl)) rfl ?_
      refine WL.yd (Yd.assign rfl) rfl ?_
      refine WL.nil ?_
      refine WP.thenC ?_
      refine WC.block ?_
      refine WC.loop (fun y : Int × Array MapEntry × Nat × (Fin 64 → Bool) => [(3, pt b3), (8, it a), (9, it b), (10, pt b10), (20, pt b20), (22, .map (some b182)), (23, it k), (24, pt b24), (26, it y.1)]) (fun y => [(b24, .cells (List.toArray [it (-GA (spotP p a k) (ix b) 0), it (GA (spotP p a k) 0 (ix b))]) 23 (0, 0)), (b182, .map y.2.1 y.2.2.1), (b20, .cells (List.toArray [it (-GA p (ix a) 0), it (GA p 0 (ix a))]) 23 (0, 0)), (b14, .cells (List.toArray [it 0, it 0]) 23 (0, 0)), (b12, .cells (List.toArray [it (nearG p a b).lo, it (nearG p a b).hi]) 23 (0, 0)), (b10, .cells (List.toArray [it (nearG p a b).lo, it (nearG p a b).hi]) 23 (0, 0)), (b3, .cells (List.toArray [it p.post.lo, it p.post.hi, .slice a1 p.bathers.length c1, .slice a2 p.claims.length c2]) 27 (0, 0))]) (fun _ => D8) (fun y => ((-GA (spotP p a k) (ix b) 0) ≤ y.1 ∧ y.1 ≤ (GA (spotP p a k) 0 (ix b)) + 1) ∧ MapB ntV y.2.1 y.2.2.1 y.2.2.2 ∧ ∀ z : Fin 64, y.2.2.2 z = true ↔ (Fnd p a b k z.val ∨ FndAt p a b k y.1 z.val)) (fun y => ((GA (spotP p a k) 0 (ix b)) + 1 - y.1).toNat) ((-GA (spotP p a k) (ix b) 0), es, clock, F) ⟨⟨by simp only; omega, by simp only; omega⟩, hMk, fun z => (hFk z).trans ⟨fun h => .inl h, fun h => h.resolve_right (fndAt_start hv hok hwa hwb hkm _)⟩⟩ (fun a w h => at_fr h ⟨rfl, rfl, rfl, rfl, rfl, rfl, rfl, rfl, rfl, trivial⟩) ?_
      clear hM hF hMk hFk
      rintro ⟨o, es, clock, F⟩ ⟨⟨ho1, ho2⟩, hM, hF⟩
      dsimp only at ho1 ho2 hM hF
      refine WC.seq ?_
      refine WC.seq ?_
      refine WC.ofFr [(3, _), (8, _), (9, _), (10, _), (20, _), (22, _), (23, _), (24, _), (26, _)] ⟨rfl, rfl, rfl, rfl, rfl, rfl, rfl, rfl, rfl, trivial⟩ ?_
      refine WC.region ?_
      refine WL.yd (Yd.move rfl) rfl ?_
      refine WL.yd (Yd.fieldAddr FA23_1 rfl) rfl ?_
      refine WL.yd (Yd.load1 Try.isAgg3 rfl (by first | exact Rd.own (k := 0) rfl rfl | exact Rd.own (k := 1) rfl rfl | exact Rd.own (k := 2) rfl rfl | exact Rd.own (k := 3) rfl rfl | exact Rd.own (k := 4) rfl rfl | exact Rd.own (k := 5) rfl rfl | exact Rd.own (k := 6) rfl rfl)) rfl ?_
      refine WL.yd (Yd.leq rfl rfl) rfl ?_
      refine WL.nil ?_
      refine WP.thenC ?_
      refine WC.cond rfl (fun c207 => ?_) (fun c207 => ?_)
      · try simp only [zq1, zq2, zq3, zq4, zq5, zq6, zq7, zq8] at c207
        refine WC.skip ?_
        refine WP.thenC ?_
        refine WC.seq ?_
        refine WC.block ?_
        refine WC.ofFr [(3, _), (8, _), (9, _), (10, _), (20, _), (22, _), (23, _), (24, _), (26, _)] ⟨rfl, rfl, rfl, rfl, rfl, rfl, rfl, rfl, rfl, trivial⟩ ?_
        refine WC.region ?_
        refine WL.yd (Yd.move rfl) rfl ?_
        refine WL.yd (Yd.move rfl) rfl ?_
        refine WL.yd (Yd.move rfl) rfl ?_
        refine WL.yd (Yd.sub rfl rfl (wr64 ⟨by omega, by omega⟩)) rfl ?_
        refine WL.yd (Yd.move rfl) rfl ?_
        refine WL.yd (Yd.move rfl) rfl ?_
        refine WL.yd (Yd.sub rfl rfl (wr64 ⟨by omega, by omega⟩)) rfl ?_
        refine WL.yd (Yd.max2 rfl rfl) rfl ?_
        refine WL.know 217 (nt (max (o - k) (k - o)).toNat) rfl (by unfold nt; congr 1; omega) ?_
        refine WL.so (SO.putB (kv := ntV) (y := ⟨(max (o - k) (k - o)).toNat, by omega⟩) (j := 1) ntV_inj law3 key_nt Try.underlying62 rfl rfl rfl rfl hM) rfl ?_
        rintro _ _ _ ⟨rfl, es1, clock1, rfl, hM1⟩
        refine WL.nil ?_
        refine WP.blkNormal ?_
        refine WP.thenC ?_
        refine WC.ofFr [(3, _), (8, _), (9, _), (10, _), (20, _), (22, _), (23, _), (24, _), (26, _)] ⟨rfl, rfl, rfl, rfl, rfl, rfl, rfl, rfl, rfl, trivial⟩ ?_
        refine WC.region ?_
        refine WL.yd (Yd.move rfl) rfl ?_
        refine WL.yd (Yd.add rfl rfl (wr64 ⟨by omega, by omega⟩)) rfl ?_
        refine WL.yd (Yd.assign rfl) rfl ?_
        refine WL.nil ?_
        refine WP.again (⟨o + 1, es1, clock1, _⟩ : Int × Array MapEntry × Nat × (Fin 64 → Bool)) ⟨⟨by simp only; omega, by simp only; omega⟩, hM1, fun z => ?_⟩ (by simp only; omega) (fun aa ww h => at_fr h ⟨rfl, rfl, rfl, rfl, rfl, rfl, rfl, rfl, rfl, trivial⟩)
        have hst := fnd_step hv hok hwa hwb hkm (o := o) ⟨ho1, by omega⟩ (z.val : Int)
        have hz := hF z
        show (F z || decide (z = (⟨(max (o - k) (k - o)).toNat, by omega⟩ : Fin 64))) = true ↔ _
        rw [Bool.or_eq_true, decide_eq_true_eq]
        rw [hst, hz, or_assoc]
        refine or_congr_right (or_congr_right ⟨fun h => (by rw [h]; dsimp only; omega), fun h => Fin.ext (by dsimp only; omega)⟩)
      · try simp only [zq1, zq2, zq3, zq4, zq5, zq6, zq7, zq8] at c207
        refine WC.exit ?_
        refine WP.thenExit ?_
        refine WP.thenExit ?_
        refine WP.blkHit ?_
        refine WP.blkNormal ?_
        refine WP.thenC ?_
        refine WC.ofFr [(3, _), (8, _), (9, _), (10, _), (20, _), (22, _), (23, _)] ⟨rfl, rfl, rfl, rfl, rfl, rfl, rfl, trivial⟩ ?_
        refine WC.region ?_
        refine WL.yd (Yd.move rfl) rfl ?_
        refine WL.yd (Yd.add rfl rfl (wr64 ⟨by omega, by omega⟩)) rfl ?_
        refine WL.yd (Yd.assign rfl) rfl ?_
        refine WL.nil ?_
        refine WP.again (⟨k + 1, es, clock, F⟩ : Int × Array MapEntry × Nat × (Fin 64 → Bool)) ⟨⟨by simp only; omega, by simp only; omega⟩, hM, fun z => (hF z).trans (fnd_next hv hok hwa hwb hkm (by omega) _).symm⟩ (by simp only; omega) (fun aa ww h => at_less ⟨h.f, h.i.shrink hX8.old⟩ ⟨rfl, rfl, rfl, rfl, rfl, rfl, rfl, trivial⟩ (fun _ h => .tail _ h) (fun h => (List.nodup_cons.1 h).2))
    · try simp only [zq1, zq2, zq3, zq4, zq5, zq6, zq7, zq8] at c188
      refine WC.exit ?_
      refine WP.thenExit ?_
      refine WP.thenExit ?_
      refine WP.blkHit ?_
      refine WP.thenC ?_
      refine WC.seq ?_
      refine WC.seq ?_
      have hfa := fun z : Fin 64 => (hF z).trans (fnd_all hv hok hwa hwb (show GA p 0 (ix a) < k by omega) _)
      refine WC.ofFr [(10, _), (22, _)] ⟨rfl, rfl, trivial⟩ ?_
      refine WC.region ?_
      refine WL.yd (Yd.move rfl) rfl ?_
      refine WL.nil ?_
      refine WP.thenC ?_
      refine WC.block ?_
      refine WC.loopF (fun i : Nat => [(10, pt b10), (22, .map (some b182)), (218, nt i)]) (fun i => i ≤ 42) (fun i => 42 - i) 0 (by omega) (by exact ⟨rfl, rfl, rfl, trivial⟩) ?_
      intro i hi
      refine WC.seq ?_
      refine WC.ofFr [(10, _), (22, _), (218, _)] ⟨rfl, rfl, rfl, trivial⟩ ?_
      refine WC.region ?_
      refine WL.yd (Yd.lss rfl rfl) rfl ?_
      refine WL.nil ?_
      refine WP.thenC ?_
      refine WC.seq ?_
      refine WC.cond rfl (fun c219 => ?_) (fun c219 => ?_)
      · try simp only [zq1, zq2, zq3, zq4, zq5, zq6, zq7, zq8] at c219
        refine WC.skip ?_
        refine WP.thenC ?_
        refine WC.seq ?_
        refine WC.block ?_
        refine WC.seq ?_
        refine WC.ofFr [(10, _), (22, _), (218, _)] ⟨rfl, rfl, rfl, trivial⟩ ?_
        refine WC.region ?_
        refine WL.yd (Yd.move rfl) rfl ?_
        refine WL.yd (Yd.assign rfl) rfl ?_
        refine WL.nil ?_
        refine WP.thenC ?_
        refine WC.seq ?_
        refine WC.ofFr [(27, _), (10, _), (22, _), (218, _)] ⟨rfl, rfl, rfl, rfl, trivial⟩ ?_
        refine WC.tail 6 [0, 1, 2, 3, 4, 5] rfl (by kernel_rfl) (by kernel_rfl)  ?_
        refine WQ.q rfl (Yd.qt (Yd.move rfl)) rfl ?_
        refine WQ.q rfl (Yd.qt (Yd.move rfl)) rfl ?_
        refine WQ.q rfl (Yd.qt (Yd.lookB (kv := ntV) (F := F) (y := ⟨i, by omega⟩) (j := 0) ntV_inj law3 key_nt Try.underlying62 Try.zeroValue4 rfl rfl rfl hM)) rfl ?_
        refine WQ.q rfl (Yd.qt (Yd.move rfl)) rfl ?_
        refine WQ.q rfl (Yd.qt (Yd.loadN Try.isAgg23 Try.sizeOf23 rfl (vs := [_, _]) rfl (by first | exact RdN.own (k := 0) (n := 2) rfl rfl | exact RdN.own (k := 1) (n := 2) rfl rfl | exact RdN.own (k := 2) (n := 2) rfl rfl | exact RdN.own (k := 3) (n := 2) rfl rfl | exact RdN.own (k := 4) (n := 2) rfl rfl | exact RdN.own (k := 5) (n := 2) rfl rfl))) rfl ?_
        refine WQ.q rfl (Qt.callP Try.call37 rfl (fun w hI => inside_g _ _ _ _)) rfl ?_
        refine WQ.tail ?_
        refine WL.yd (Yd.neB Try.underlying4 rfl rfl) rfl ?_
        refine WL.know 227 (.bool false) rfl (congrArg Value.bool (bne_bool (hfa ⟨i, by omega⟩))) ?_
        refine WL.nil ?_
        refine WP.thenC ?_
        refine WC.condF rfl ?_
        refine WC.skip ?_
        refine WP.blkNormal ?_
        refine WP.thenC ?_
        refine WC.ofFr [(10, _), (22, _), (218, _)] ⟨rfl, rfl, rfl, trivial⟩ ?_
        refine WC.region ?_
        refine WL.yd (Yd.add rfl rfl (wr64 ⟨by omega, by omega⟩)) rfl ?_
        refine WL.yd (Yd.move rfl) rfl ?_
        refine WL.nil ?_
        exact WP.againF (i + 1) (by omega) (by omega) ⟨rfl, rfl, rfl, trivial⟩ (fun _ h => h) (fun h => h)
      · try simp only [zq1, zq2, zq3, zq4, zq5, zq6, zq7, zq8] at c219
        refine WC.exit ?_
        refine WP.thenExit ?_
        refine WP.thenExit ?_
        refine WP.blkHit ?_
        refine WP.thenC ?_
        refine WC.seq ?_
        refine WC.ofFr [] trivial ?_
        refine WC.region ?_
        refine WL.so (SO.callP Try.call14 rfl (fun w hI => alive_g _ _ hI.imm)) rfl ?_
        rintro _ _ _ ⟨rfl, rfl, rfl⟩
        refine WL.yd (Yd.assign rfl) rfl ?_
        refine WL.nil ?_
        refine WP.thenC ?_
        refine WC.ret ?_
        refine WP.ret1 rfl rfl Try.results8 (RV.tmp rfl) (fun w hI => ⟨rfl, hI.keep⟩)
  · skip
    refine WC.ofFr [(18, _), (16, _), (10, _), (9, _), (8, _), (6, _), (3, _)] ⟨rfl, rfl, rfl, rfl, rfl, rfl, rfl, trivial⟩ ?_
    refine WC.region ?_
    refine WL.yd (Yd.fieldAddr FA23_0 rfl) rfl ?_
    refine WL.yd (Yd.load1 Try.isAgg3 rfl (by first | exact Rd.own (k := 0) rfl rfl | exact Rd.own (k := 1) rfl rfl | exact Rd.own (k := 2) rfl rfl | exact Rd.own (k := 3) rfl rfl)) rfl ?_
    refine WL.yd (Yd.lss rfl rfl) rfl ?_
    refine WL.know 127 (.bool false) rfl (congrArg Value.bool (decide_eq_false (by omega))) ?_
    refine WL.yd (Yd.move rfl) rfl ?_
    refine WL.ydg rfl (Yd.fieldAddr FA23_0 rfl) rfl ?_
    refine WL.ydg rfl (Yd.load1 Try.isAgg3 rfl (by first | exact Rd.own (k := 0) rfl rfl | exact Rd.own (k := 1) rfl rfl | exact Rd.own (k := 2) rfl rfl | exact Rd.own (k := 3) rfl rfl)) rfl ?_
    refine WL.ydg rfl (Yd.fieldAddr FA23_1 rfl) rfl ?_
    refine WL.ydg rfl (Yd.load1 Try.isAgg3 rfl (by first | exact Rd.own (k := 0) rfl rfl | exact Rd.own (k := 1) rfl rfl | exact Rd.own (k := 2) rfl rfl | exact Rd.own (k := 3) rfl rfl)) rfl ?_
    refine WL.ydg rfl (Yd.gtr rfl rfl) rfl ?_
    refine WL.know 133 (.bool false) rfl (congrArg Value.bool (decide_eq_false (by omega))) ?_
    refine WL.yd (Yd.pickF rfl rfl) rfl ?_
    refine WL.yd (Yd.move rfl) rfl ?_
    refine WL.ydg rfl (Yd.fieldAddr FA23_1 rfl) rfl ?_
    refine WL.ydg rfl (Yd.load1 Try.isAgg3 rfl (by first | exact Rd.own (k := 0) rfl rfl | exact Rd.own (k := 1) rfl rfl | exact Rd.own (k := 2) rfl rfl | exact Rd.own (k := 3) rfl rfl)) rfl ?_
    refine WL.ydg rfl (Yd.gtr rfl rfl) rfl ?_
    refine WL.know 138 (.bool false) rfl (congrArg Value.bool (decide_eq_false (by omega))) ?_
    refine WL.yd (Yd.pickF rfl rfl) rfl ?_
    refine WL.yd (Yd.move rfl) rfl ?_
    refine WL.ydg rfl (Yd.fieldAddr FA23_0 rfl) rfl ?_
    refine WL.ydg rfl (Yd.load1 Try.isAgg3 rfl (by first | exact Rd.own (k := 0) rfl rfl | exact Rd.own (k := 1) rfl rfl | exact Rd.own (k := 2) rfl rfl | exact Rd.own (k := 3) rfl rfl)) rfl ?_
    refine WL.ydg rfl (Yd.eql rfl rfl) rfl ?_
    refine WL.ydg rfl (Yd.move rfl) rfl ?_
    refine WL.part 144 rfl (fun g144 => ?_) (fun g144 => ?_)
    · try simp only [zq1, zq2, zq3, zq4, zq5, zq6, zq7, zq8] at g144
      refine WL.ydg rfl (Yd.move rfl) rfl ?_
      refine WL.ydg rfl (Yd.eql rfl rfl) rfl ?_
      refine WL.know 146 (.bool false) rfl (congrArg Value.bool (decide_eq_false (near_lo0 hv hok hwa hwb g144).1)) ?_
      refine WL.ydg rfl (Yd.move rfl) rfl ?_
      refine WL.ydg rfl (Yd.move rfl) rfl ?_
      refine WL.ydg rfl (Yd.eql rfl rfl) rfl ?_
      refine WL.know 149 (.bool false) rfl (congrArg Value.bool (decide_eq_false (near_lo0 hv hok hwa hwb g144).2)) ?_
      refine WL.ydg rfl (Yd.pickF rfl rfl) rfl ?_
      refine WL.ydg rfl (Yd.pickT rfl rfl) rfl ?_
      refine WL.yd (Yd.pickF rfl rfl) rfl ?_
      refine WL.yd (Yd.move rfl) rfl ?_
      refine WL.ydg rfl (Yd.move rfl) rfl ?_
      refine WL.ydg rfl (Yd.eql rfl rfl) rfl ?_
      refine WL.ydg rfl (Yd.move rfl) rfl ?_
      refine WL.part 156 rfl (fun g156 => ?_) (fun g156 => ?_)
      · try simp only [zq1, zq2, zq3, zq4, zq5, zq6, zq7, zq8] at g156
        refine WL.ydg rfl (Yd.move rfl) rfl ?_
        refine WL.ydg rfl (Yd.neq rfl rfl) rfl ?_
        refine WL.know 158 (.bool false) rfl (congrArg Value.bool (decide_eq_false (fun h => h (near_x2 hv hok hwa hwb g156)))) ?_
        refine WL.ydg rfl (Yd.pickT rfl rfl) rfl ?_
        refine WL.yd (Yd.pickF rfl rfl) rfl ?_
        refine WL.yd (Yd.move rfl) rfl ?_
        refine WL.ydg rfl (Yd.fieldAddr FA23_1 rfl) rfl ?_
        refine WL.ydg rfl (Yd.load1 Try.isAgg3 rfl (by first | exact Rd.own (k := 0) rfl rfl | exact Rd.own (k := 1) rfl rfl | exact Rd.own (k := 2) rfl rfl | exact Rd.own (k := 3) rfl rfl)) rfl ?_
        refine WL.ydg rfl (Yd.eql rfl rfl) rfl ?_
        refine WL.ydg rfl (Yd.move rfl) rfl ?_
        refine WL.part 165 rfl (fun g165 => ?_) (fun g165 => ?_)
        · try simp only [zq1, zq2, zq3, zq4, zq5, zq6, zq7, zq8] at g165
          refine WL.ydg rfl (Yd.move rfl) rfl ?_
          refine WL.ydg rfl (Yd.neq rfl rfl) rfl ?_
          refine WL.know 167 (.bool false) rfl (congrArg Value.bool (decide_eq_false (fun h => h (near_hi0 hv hok hwa hwb g165).1))) ?_
          refine WL.ydg rfl (Yd.move rfl) rfl ?_
          refine WL.ydg rfl (Yd.move rfl) rfl ?_
          refine WL.ydg rfl (Yd.neq rfl rfl) rfl ?_
          refine WL.know 170 (.bool false) rfl (congrArg Value.bool (decide_eq_false (fun h => h (near_hi0 hv hok hwa hwb g165).2))) ?_
          refine WL.ydg rfl (Yd.pickF rfl rfl) rfl ?_
          refine WL.ydg rfl (Yd.pickT rfl rfl) rfl ?_
          refine WL.yd (Yd.pickF rfl rfl) rfl ?_
          refine WL.nil ?_
          exact WP.join () trivial (fun aa ww h => at_fr h ⟨rfl, rfl, rfl, rfl, rfl, trivial⟩)
        · try simp only [zq1, zq2, zq3, zq4, zq5, zq6, zq7, zq8] at g165
          refine WL.skip rfl rfl ?_
          refine WL.skip rfl rfl ?_
          refine WL.skip rfl rfl ?_
          refine WL.skipU rfl rfl ?_
          refine WL.skipU rfl rfl ?_
          refine WL.skip rfl rfl ?_
          refine WL.ydg rfl (Yd.pickF rfl rfl) rfl ?_
          refine WL.yd (Yd.pickF rfl rfl) rfl ?_
          refine WL.nil ?_
          exact WP.join () trivial (fun aa ww h => at_fr h ⟨rfl, rfl, rfl, rfl, rfl, trivial⟩)
      · try simp only [zq1, zq2, zq3, zq4, zq5, zq6, zq7, zq8] at g156
        refine WL.skip rfl rfl ?_
        refine WL.skip rfl rfl ?_
        refine WL.ydg rfl (Yd.pickF rfl rfl) rfl ?_
        refine WL.yd (Yd.pickF rfl rfl) rfl ?_
        refine WL.yd (Yd.move rfl) rfl ?_
        refine WL.ydg rfl (Yd.fieldAddr FA23_1 rfl) rfl ?_
        refine WL.ydg rfl (Yd.load1 Try.isAgg3 rfl (by first | exact Rd.own (k := 0) rfl rfl | exact Rd.own (k := 1) rfl rfl | exact Rd.own (k := 2) rfl rfl | exact Rd.own (k := 3) rfl rfl)) rfl ?_
        refine WL.ydg rfl (Yd.eql rfl rfl) rfl ?_
        refine WL.ydg rfl (Yd.move rfl) rfl ?_
        refine WL.part 165 rfl (fun g165 => ?_) (fun g165 => ?_)
        · try simp only [zq1, zq2, zq3, zq4, zq5, zq6, zq7, zq8] at g165
          refine WL.ydg rfl (Yd.move rfl) rfl ?_
          refine WL.ydg rfl (Yd.neq rfl rfl) rfl ?_
          refine WL.know 167 (.bool false) rfl (congrArg Value.bool (decide_eq_false (fun h => h (near_hi0 hv hok hwa hwb g165).1))) ?_
          refine WL.ydg rfl (Yd.move rfl) rfl ?_
          refine WL.ydg rfl (Yd.move rfl) rfl ?_
          refine WL.ydg rfl (Yd.neq rfl rfl) rfl ?_
          refine WL.know 170 (.bool false) rfl (congrArg Value.bool (decide_eq_false (fun h => h (near_hi0 hv hok hwa hwb g165).2))) ?_
          refine WL.ydg rfl (Yd.pickF rfl rfl) rfl ?_
          refine WL.ydg rfl (Yd.pickT rfl rfl) rfl ?_
          refine WL.yd (Yd.pickF rfl rfl) rfl ?_
          refine WL.nil ?_
          exact WP.join () trivial (fun aa ww h => at_fr h ⟨rfl, rfl, rfl, rfl, rfl, trivial⟩)
        · try simp only [zq1, zq2, zq3, zq4, zq5, zq6, zq7, zq8] at g165
          refine WL.skip rfl rfl ?_
          refine WL.skip rfl rfl ?_
          refine WL.skip rfl rfl ?_
          refine WL.skipU rfl rfl ?_
          refine WL.skipU rfl rfl ?_
          refine WL.skip rfl rfl ?_
          refine WL.ydg rfl (Yd.pickF rfl rfl) rfl ?_
          refine WL.yd (Yd.pickF rfl rfl) rfl ?_
          refine WL.nil ?_
          exact WP.join () trivial (fun aa ww h => at_fr h ⟨rfl, rfl, rfl, rfl, rfl, trivial⟩)
    · try simp only [zq1, zq2, zq3, zq4, zq5, zq6, zq7, zq8] at g144
      refine WL.skip rfl rfl ?_
      refine WL.skip rfl rfl ?_
      refine WL.skip rfl rfl ?_
      refine WL.skipU rfl rfl ?_
      refine WL.skipU rfl rfl ?_
      refine WL.skip rfl rfl ?_
      refine WL.ydg rfl (Yd.pickF rfl rfl) rfl ?_
      refine WL.yd (Yd.pickF rfl rfl) rfl ?_
      refine WL.yd (Yd.move rfl) rfl ?_
      refine WL.ydg rfl (Yd.move rfl) rfl ?_
      refine WL.ydg rfl (Yd.eql rfl rfl) rfl ?_
      refine WL.ydg rfl (Yd.move rfl) rfl ?_
      refine WL.part 156 rfl (fun g156 => ?_) (fun g156 => ?_)
      · try simp only [zq1, zq2, zq3, zq4, zq5, zq6, zq7, zq8] at g156
        refine WL.ydg rfl (Yd.move rfl) rfl ?_
        refine WL.ydg rfl (Yd.neq rfl rfl) rfl ?_
        refine WL.know 158 (.bool false) rfl (congrArg Value.bool (decide_eq_false (fun h => h (near_x2 hv hok hwa hwb g156)))) ?_
        refine WL.ydg rfl (Yd.pickT rfl rfl) rfl ?_
        refine WL.yd (Yd.pickF rfl rfl) rfl ?_
        refine WL.yd (Yd.move rfl) rfl ?_
        refine WL.ydg rfl (Yd.fieldAddr FA23_1 rfl) rfl ?_
        refine WL.ydg rfl (Yd.load1 Try.isAgg3 rfl (by first | exact Rd.own (k := 0) rfl rfl | exact Rd.own (k := 1) rfl rfl | exact Rd.own (k := 2) rfl rfl | exact Rd.own (k := 3) rfl rfl)) rfl ?_
        refine WL.ydg rfl (Yd.eql rfl rfl) rfl ?_
        refine WL.ydg rfl (Yd.move rfl) rfl ?_
        refine WL.part 165 rfl (fun g165 => ?_) (fun g165 => ?_)
        · try simp only [zq1, zq2, zq3, zq4, zq5, zq6, zq7, zq8] at g165
          refine WL.ydg rfl (Yd.move rfl) rfl ?_
          refine WL.ydg rfl (Yd.neq rfl rfl) rfl ?_
          refine WL.know 167 (.bool false) rfl (congrArg Value.bool (decide_eq_false (fun h => h (near_hi0 hv hok hwa hwb g165).1))) ?_
          refine WL.ydg rfl (Yd.move rfl) rfl ?_
          refine WL.ydg rfl (Yd.move rfl) rfl ?_
          refine WL.ydg rfl (Yd.neq rfl rfl) rfl ?_
          refine WL.know 170 (.bool false) rfl (congrArg Value.bool (decide_eq_false (fun h => h (near_hi0 hv hok hwa hwb g165).2))) ?_
          refine WL.ydg rfl (Yd.pickF rfl rfl) rfl ?_
          refine WL.ydg rfl (Yd.pickT rfl rfl) rfl ?_
          refine WL.yd (Yd.pickF rfl rfl) rfl ?_
          refine WL.nil ?_
          exact WP.join () trivial (fun aa ww h => at_fr h ⟨rfl, rfl, rfl, rfl, rfl, trivial⟩)
        · try simp only [zq1, zq2, zq3, zq4, zq5, zq6, zq7, zq8] at g165
          refine WL.skip rfl rfl ?_
          refine WL.skip rfl rfl ?_
          refine WL.skip rfl rfl ?_
          refine WL.skipU rfl rfl ?_
          refine WL.skipU rfl rfl ?_
          refine WL.skip rfl rfl ?_
          refine WL.ydg rfl (Yd.pickF rfl rfl) rfl ?_
          refine WL.yd (Yd.pickF rfl rfl) rfl ?_
          refine WL.nil ?_
          exact WP.join () trivial (fun aa ww h => at_fr h ⟨rfl, rfl, rfl, rfl, rfl, trivial⟩)
      · try simp only [zq1, zq2, zq3, zq4, zq5, zq6, zq7, zq8] at g156
        refine WL.skip rfl rfl ?_
        refine WL.skip rfl rfl ?_
        refine WL.ydg rfl (Yd.pickF rfl rfl) rfl ?_
        refine WL.yd (Yd.pickF rfl rfl) rfl ?_
        refine WL.yd (Yd.move rfl) rfl ?_
        refine WL.ydg rfl (Yd.fieldAddr FA23_1 rfl) rfl ?_
        refine WL.ydg rfl (Yd.load1 Try.isAgg3 rfl (by first | exact Rd.own (k := 0) rfl rfl | exact Rd.own (k := 1) rfl rfl | exact Rd.own (k := 2) rfl rfl | exact Rd.own (k := 3) rfl rfl)) rfl ?_
        refine WL.ydg rfl (Yd.eql rfl rfl) rfl ?_
        refine WL.ydg rfl (Yd.move rfl) rfl ?_
        refine WL.part 165 rfl (fun g165 => ?_) (fun g165 => ?_)
        · try simp only [zq1, zq2, zq3, zq4, zq5, zq6, zq7, zq8] at g165
          refine WL.ydg rfl (Yd.move rfl) rfl ?_
          refine WL.ydg rfl (Yd.neq rfl rfl) rfl ?_
          refine WL.know 167 (.bool false) rfl (congrArg Value.bool (decide_eq_false (fun h => h (near_hi0 hv hok hwa hwb g165).1))) ?_
          refine WL.ydg rfl (Yd.move rfl) rfl ?_
          refine WL.ydg rfl (Yd.move rfl) rfl ?_
          refine WL.ydg rfl (Yd.neq rfl rfl) rfl ?_
          refine WL.know 170 (.bool false) rfl (congrArg Value.bool (decide_eq_false (fun h => h (near_hi0 hv hok hwa hwb g165).2))) ?_
          refine WL.ydg rfl (Yd.pickF rfl rfl) rfl ?_
          refine WL.ydg rfl (Yd.pickT rfl rfl) rfl ?_
          refine WL.yd (Yd.pickF rfl rfl) rfl ?_
          refine WL.nil ?_
          exact WP.join () trivial (fun aa ww h => at_fr h ⟨rfl, rfl, rfl, rfl, rfl, trivial⟩)
        · try simp only [zq1, zq2, zq3, zq4, zq5, zq6, zq7, zq8] at g165
          refine WL.skip rfl rfl ?_
          refine WL.skip rfl rfl ?_
          refine WL.skip rfl rfl ?_
          refine WL.skipU rfl rfl ?_
          refine WL.skipU rfl rfl ?_
          refine WL.skip rfl rfl ?_
          refine WL.ydg rfl (Yd.pickF rfl rfl) rfl ?_
          refine WL.yd (Yd.pickF rfl rfl) rfl ?_
          refine WL.nil ?_
          exact WP.join () trivial (fun aa ww h => at_fr h ⟨rfl, rfl, rfl, rfl, rfl, trivial⟩)

theorem near8_g (p : Post) (a1 : Option Addr) (n1 c1 : Nat) (a2 : Option Addr) (n2 c2 : Nat) (D : Imm) (w : World) (s1 : SlL D 3 (p.bathers.map bathC) a1 n1) (s2 : SlL D 3 (p.claims.map claimC) a2 n2) (hH : Holds D w) (m1 m2 : Nat) (hm1 : m1 ≤ 255) (hm2 : m2 ≤ 255) : Gives Try.prog 8 [.agg #[it p.post.lo, it p.post.hi, .slice a1 n1 c1, .slice a2 n2 c2], .int .u8 (m1 : Int), .int .u8 (m2 : Int)] w (.bool true) := by
  by_cases hl : max (n1 : Int) (n2 : Int) > 40
  · exact near8_l _ _ a1 n1 c1 a2 n2 c2 m1 m2 D w hH hl
  · have hR : PostR D p a1 n1 a2 n2 := ⟨s1, s2, by omega, by omega⟩
    cases hv : postB p with
    | false => exact near8_a p a1 n1 c1 a2 n2 c2 D w hR hH m1 m2 hl hv
    | true =>
      cases hok : okA p with
      | false => exact near8_b p a1 n1 c1 a2 n2 c2 D w hR hH m1 m2 hm1 hm2 hl hv hok
      | true => exact near8_o p a1 n1 c1 a2 n2 c2 D w hR hH m1 m2 hm1 hm2 hl hv hok

end Go.Proofs.Ytkhmmefgllbobaa
