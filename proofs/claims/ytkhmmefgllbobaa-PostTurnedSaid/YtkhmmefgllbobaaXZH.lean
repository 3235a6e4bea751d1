import Derived.Test.YtkhmmefgllbobaaXZG
import Derived.Test.YtkhmmefgllbobaaXZB
set_option linter.unusedSimpArgs false
set_option linter.unusedVariables false
set_option linter.all false
/- Posts that are numbered otherwise, or further on. No program in sight. -/
namespace Go.Proofs.Ytkhmmefgllbobaa
open Go.W Go.Po
def RelP (p : Post) (π : Int → Int) (sh : Int) (x y : Nat → Int) : Prop := ∀ a, whoP p a = true → y (ix (π a)) = x (ix a) + sh
structure Same (p z : Post) (π : Int → Int) (sh : Int) : Prop where
  okp : postB p = true
  okz : postB z = true
  len : z.bathers.length = p.bathers.length
  who : ∀ a, whoP p a = true → whoP z (π a) = true
  wrong : ∀ x y, RelP p π sh x y → wrongN z y = wrongN p x
  brk : ∀ x y, RelP p π sh x y → pop (brS z y) = pop (brS p x)
  bit : ∀ x y, RelP p π sh x y → ∀ i : Nat, i < p.bathers.length → (π i).toNat < p.bathers.length ∧ (Brk z y (π i).toNat ↔ Brk p x i)
  fwd : ∀ x, InP p x → ∃ y, InP z y ∧ RelP p π sh x y
  bwd : ∀ y, InP z y → ∃ x, InP p x ∧ RelP p π sh x y
theorem sol_wrong {p : Post} {x : Nat → Int} : Sol p (allR p) x ↔ InP p x ∧ wrongN p x = 0 := by
  rw [sol_all]
  refine and_congr_right fun _ => ?_
  unfold wrongN
  rw [List.countP_eq_zero]
  refine forall_congr' fun c => forall_congr' fun _ => ?_
  rw [wrongB_iff]
  exact ⟨fun h h1 => h1 h, fun h => Classical.byContradiction h⟩
theorem ival {l h l' h' sh : Int} (hle : l ≤ h) (hle' : l' ≤ h') (H : ∀ v, (l ≤ v ∧ v ≤ h) ↔ (l' ≤ v + sh ∧ v + sh ≤ h')) : l' = l + sh ∧ h' = h + sh := by
  have h1 := (H l).1 ⟨Int.le_refl _, hle⟩
  have h2 := (H h).1 ⟨hle, Int.le_refl _⟩
  have h3 := (H (l' - sh)).2 ⟨by omega, by omega⟩
  have h4 := (H (h' - sh)).2 ⟨by omega, by omega⟩
  omega
theorem bef_vals (p : Post) (a b : Int) : befG p a b = 0 ∨ befG p a b = 1 ∨ befG p a b = 2 := by
  unfold befG gradeI
  split
  · exact .inr (.inr rfl)
  · split
    · exact .inl rfl
    · exact .inr (.inl rfl)
theorem kept_vals (p : Post) : keptG p = 0 ∨ keptG p = 1 ∨ keptG p = 2 := by
  unfold keptG gradeI
  split
  · exact .inr (.inr rfl)
  · split
    · exact .inl rfl
    · exact .inr (.inl rfl)
namespace Same
variable {p z : Post} {π : Int → Int} {sh : Int} (S : Same p z π sh)
include S
theorem fsol {x : Nat → Int} (hx : Sol p (allR p) x) : ∃ y, Sol z (allR z) y ∧ RelP p π sh x y := by
  obtain ⟨h1, h2⟩ := sol_wrong.1 hx
  obtain ⟨y, hy, r⟩ := S.fwd x h1
  exact ⟨y, sol_wrong.2 ⟨hy, by rw [S.wrong x y r]; exact h2⟩, r⟩
theorem bsol {y : Nat → Int} (hy : Sol z (allR z) y) : ∃ x, Sol p (allR p) x ∧ RelP p π sh x y := by
  obtain ⟨h1, h2⟩ := sol_wrong.1 hy
  obtain ⟨x, hx, r⟩ := S.bwd y h1
  exact ⟨x, sol_wrong.2 ⟨hx, by rw [← S.wrong x y r]; exact h2⟩, r⟩
theorem ok : okA z = okA p := by
  rw [Bool.eq_iff_iff, ok_iff S.okz, ok_iff S.okp]
  exact ⟨fun ⟨y, hy⟩ => let ⟨x, hx, _⟩ := S.bsol hy; ⟨x, hx⟩, fun ⟨x, hx⟩ => let ⟨y, hy, _⟩ := S.fsol hx; ⟨y, hy⟩⟩
theorem many : pop (falseS z) = pop (falseS p) := by
  obtain ⟨x, hx, ex⟩ := many_at S.okp
  obtain ⟨y, hy, ey⟩ := many_at S.okz
  obtain ⟨y2, hy2, r2⟩ := S.fwd x hx
  obtain ⟨x2, hx2, r3⟩ := S.bwd y hy
  have h1 := many_le S.okz hy2
  have h2 := many_le S.okp hx2
  rw [S.wrong _ _ r2] at h1
  rw [← S.wrong _ _ r3] at h2
  omega
variable (hok : okA p = true) {a b : Int} (ha : whoP p a = true) (hb : whoP p b = true)
include hok ha
theorem place : -GA z (ix (π a)) 0 = -GA p (ix a) 0 + sh ∧ GA z 0 (ix (π a)) = GA p 0 (ix a) + sh := by
  have hokz : okA z = true := by rw [S.ok, hok]
  refine ival (own_in S.okp hok ha).1 (own_in S.okz hokz (S.who a ha)).1 fun v => ?_
  rw [place_in S.okp hok ha, place_in S.okz hokz (S.who a ha)]
  constructor
  · rintro ⟨x, hx, rfl⟩
    obtain ⟨y, hy, r⟩ := S.fsol hx
    exact ⟨y, hy, r a ha⟩
  · rintro ⟨y, hy, e⟩
    obtain ⟨x, hx, r⟩ := S.bsol hy
    exact ⟨x, hx, by have := r a ha; omega⟩
include hb
theorem near : nearG z (π a) (π b) = nearG p a b := by
  have hokz : okA z = true := by rw [S.ok, hok]
  have h := ival (sh := 0) (near_ends S.okp hok ha hb).2.1 (near_ends S.okz hokz (S.who a ha) (S.who b hb)).2.1 fun v => by
    rw [near_is S.okp hok ha hb, near_is S.okz hokz (S.who a ha) (S.who b hb)]
    constructor
    · rintro ⟨x, hx, rfl⟩
      obtain ⟨y, hy, r⟩ := S.fsol hx
      exact ⟨y, hy, by have := r a ha; have := r b hb; omega⟩
    · rintro ⟨y, hy, e⟩
      obtain ⟨x, hx, r⟩ := S.bsol hy
      exact ⟨x, hx, by have := r a ha; have := r b hb; omega⟩
  cases hz : nearG z (π a) (π b)
  cases hp : nearG p a b
  rw [hz, hp] at h
  simp at h
  rw [h.1, h.2]
theorem bef : befG z (π a) (π b) = befG p a b := by
  have hokz : okA z = true := by rw [S.ok, hok]
  have h2 : befG z (π a) (π b) = 2 ↔ befG p a b = 2 := by
    rw [bef_is2 S.okz hokz (S.who a ha) (S.who b hb), bef_is2 S.okp hok ha hb]
    refine not_congr ⟨?_, ?_⟩
    · rintro ⟨y, hy, h⟩
      obtain ⟨x, hx, r⟩ := S.bsol hy
      exact ⟨x, hx, by have := r a ha; have := r b hb; omega⟩
    · rintro ⟨x, hx, h⟩
      obtain ⟨y, hy, r⟩ := S.fsol hx
      exact ⟨y, hy, by have := r a ha; have := r b hb; omega⟩
  have h0 : befG z (π a) (π b) = 0 ↔ befG p a b = 0 := by
    rw [bef_is0 S.okz hokz (S.who a ha) (S.who b hb), bef_is0 S.okp hok ha hb]
    refine not_congr ⟨?_, ?_⟩
    · rintro ⟨y, hy, h⟩
      obtain ⟨x, hx, r⟩ := S.bsol hy
      exact ⟨x, hx, by have := r a ha; have := r b hb; omega⟩
    · rintro ⟨x, hx, h⟩
      obtain ⟨y, hy, r⟩ := S.fsol hx
      exact ⟨y, hy, by have := r a ha; have := r b hb; omega⟩
  have h3 := bef_vals z (π a) (π b)
  have h4 := bef_vals p a b
  omega
omit ha hb
theorem lohi : loF z = loF p ∧ hiF z = hiF p := by
  have hokz : okA z = true := by rw [S.ok, hok]
  have h1 : ∀ v, v ∈ brokeL z ↔ v ∈ brokeL p := fun v => by
    constructor
    · intro h
      obtain ⟨y, hy, rfl⟩ := mem_brk S.okz h
      obtain ⟨x, hx, r⟩ := S.bsol hy
      rw [S.brk x y r]; exact brk_mem S.okp hx
    · intro h
      obtain ⟨x, hx, rfl⟩ := mem_brk S.okp h
      obtain ⟨y, hy, r⟩ := S.fsol hx
      rw [← S.brk x y r]; exact brk_mem S.okz hy
  have a1 := lo_le ((h1 _).2 (lo_mem S.okp hok))
  have a2 := lo_le ((h1 _).1 (lo_mem S.okz hokz))
  have a3 := le_hi ((h1 _).2 (hi_mem S.okp hok))
  have a4 := le_hi ((h1 _).1 (hi_mem S.okz hokz))
  omega
theorem kept : keptG z = keptG p := by
  have hokz : okA z = true := by rw [S.ok, hok]
  obtain ⟨h1, h2⟩ := S.lohi hok
  have k2 := kept_two S.okz hokz
  have k0 := kept_zero S.okz hokz
  have q2 := kept_two S.okp hok
  have q0 := kept_zero S.okp hok
  rw [h2, ← q2] at k2
  rw [h1, ← q0] at k0
  have h3 := kept_vals z
  have h4 := kept_vals p
  omega
omit hok
theorem allB {i : Nat} (hi : i < p.bathers.length) : allS z / 2 ^ (π i).toNat % 2 = allS p / 2 ^ i % 2 := by
  have hw : whoP p (i : Int) = true := decide_eq_true ⟨by omega, by omega⟩
  have hlt : (π i).toNat < p.bathers.length := by
    obtain ⟨x, hx⟩ := inP_some S.okp
    obtain ⟨y, hy, r⟩ := S.fwd x hx
    exact (S.bit x y r i hi).1
  have h : allS z / 2 ^ (π i).toNat % 2 = 1 ↔ allS p / 2 ^ i % 2 = 1 := by
    rw [all_bit S.okz (by rw [S.len]; exact hlt), all_bit S.okp hi]
    refine not_congr ⟨?_, ?_⟩
    · rintro ⟨y, hy, h⟩
      obtain ⟨x, hx, r⟩ := S.bsol hy
      exact ⟨x, hx, fun hb => h ((S.bit x y r i hi).2.2 hb)⟩
    · rintro ⟨x, hx, h⟩
      obtain ⟨y, hy, r⟩ := S.fsol hx
      exact ⟨y, hy, fun hb => h ((S.bit x y r i hi).2.1 hb)⟩
  omega
theorem someB {i : Nat} (hi : i < p.bathers.length) : someS z / 2 ^ (π i).toNat % 2 = someS p / 2 ^ i % 2 := by
  have hlt : (π i).toNat < p.bathers.length := by
    obtain ⟨x, hx⟩ := inP_some S.okp
    obtain ⟨y, hy, r⟩ := S.fwd x hx
    exact (S.bit x y r i hi).1
  have h : someS z / 2 ^ (π i).toNat % 2 = 1 ↔ someS p / 2 ^ i % 2 = 1 := by
    rw [some_bit S.okz (by rw [S.len]; exact hlt), some_bit S.okp hi]
    constructor
    · rintro ⟨y, hy, h⟩
      obtain ⟨x, hx, r⟩ := S.bsol hy
      exact ⟨x, hx, (S.bit x y r i hi).2.1 h⟩
    · rintro ⟨x, hx, h⟩
      obtain ⟨y, hy, r⟩ := S.fsol hx
      exact ⟨y, hy, (S.bit x y r i hi).2.2 h⟩
  omega
end Same
/-! ### the order is turned -/
def backI (n w : Int) : Int := if w < 0 then w else n - 1 - w
def turnC (n : Int) (c : PClaim) : PClaim := ⟨backI n c.a, backI n c.b, c.not⟩
def turnB (p : Post) (k : Nat) : List Bath := (List.range k).map fun i => gt p.bathers (p.bathers.length - 1 - i)
def turnCs (p : Post) (k : Nat) : List PClaim := (List.range k).map fun i => turnC (p.bathers.length : Int) (gt p.claims (p.claims.length - 1 - i))
def turnP (p : Post) : Post := ⟨p.post, turnB p p.bathers.length, turnCs p p.claims.length⟩
theorem gt_map {α : Type} [Inhabited α] (f : Nat → α) {n i : Nat} (h : i < n) : gt ((List.range n).map f) i = f i := by
  simp [gt, List.getD, h]
theorem turn_lenB (p : Post) (k : Nat) : (turnB p k).length = k := by simp [turnB]
theorem turn_lenC (p : Post) (k : Nat) : (turnCs p k).length = k := by simp [turnCs]
theorem back_who {p : Post} {w : Int} (h : whoP p w = true) : -1 ≤ backI (p.bathers.length : Int) w ∧ backI (p.bathers.length : Int) w ≤ (p.bathers.length : Int) - 1 := by
  have := of_decide_eq_true h
  unfold backI; split <;> omega
theorem turn_ok {p : Post} (hv : postB p = true) : postB (turnP p) = true := by
  obtain ⟨h1, h2, h3, h4, h5⟩ := (postB_iff p).1 hv
  refine (postB_iff _).2 ⟨h1, by show (turnB p _).length ≤ 5; rw [turn_lenB]; exact h2, by show (turnCs p _).length ≤ 8; rw [turn_lenC]; exact h3, fun i hi => ?_, fun i hi => ?_⟩
  · have hi' : i < p.bathers.length := by rw [← turn_lenB p p.bathers.length]; exact hi
    show spanP (gt (turnB p _) i).place = true
    rw [turnB, gt_map _ hi']; exact h4 _ (by omega)
  · have hi' : i < p.claims.length := by rw [← turn_lenC p p.claims.length]; exact hi
    show claimP (turnP p) (gt (turnCs p _) i) = true
    rw [turnCs, gt_map _ hi']
    have h6 := h5 (p.claims.length - 1 - i) (by omega)
    simp only [claimP, Bool.and_eq_true] at h6
    have a1 := back_who h6.1
    have a2 := back_who h6.2
    have hl : (turnP p).bathers.length = p.bathers.length := turn_lenB _ _
    exact and_t (decide_eq_true (by rw [hl]; exact a1)) (decide_eq_true (by rw [hl]; exact a2))
theorem countP_turn (q : Nat → Bool) (m : Nat) : (List.range m).countP (fun i => q (m - 1 - i)) = (List.range m).countP q := by
  have h : ((List.range m).map fun i => m - 1 - i) = (List.range m).reverse := by
    apply List.ext_getElem
    · simp
    · intro i h1 h2
      simp at h1 h2
      simp
  have h2 : (List.range m).countP (fun i => q (m - 1 - i)) = ((List.range m).map fun i => m - 1 - i).countP q := by rw [List.countP_map]; rfl
  rw [h2, h, List.countP_reverse]
theorem countP_congr' {m : Nat} {f g : Nat → Bool} (h : ∀ i, i < m → f i = g i) : (List.range m).countP f = (List.range m).countP g :=
  List.countP_congr fun i hi => by rw [h i (List.mem_range.1 hi)]
theorem wrongN_range (p : Post) (x : Nat → Int) : wrongN p x = (List.range p.claims.length).countP fun i => wrongB x (gt p.claims i) := (countP_gt p.claims (wrongB x)).symm
theorem wrongB_rel {p : Post} {π : Int → Int} {sh : Int} {x y : Nat → Int} (r : RelP p π sh x y) {c : PClaim} (hc : claimP p c = true) : wrongB y ⟨π c.a, π c.b, c.not⟩ = wrongB x c := by
  simp only [claimP, Bool.and_eq_true] at hc
  unfold wrongB
  dsimp only
  have h1 := r _ hc.1
  have h2 := r _ hc.2
  congr 1
  refine decide_eq_decide.2 ?_
  have : y (ix (π c.a)) < y (ix (π c.b)) ↔ x (ix c.a) < x (ix c.b) := by omega
  rw [this]
theorem brS_range (p : Post) (x : Nat → Int) (hv : postB p = true) : pop (brS p x) = (List.range p.bathers.length).countP fun i => decide (Brk p x i) := by
  unfold brS
  rw [setTo_pop _ _ (by have := (post_num hv).2.1; omega)]
theorem turn_wrong {p : Post} (hv : postB p = true) {x y : Nat → Int} (r : RelP p (backI p.bathers.length) 0 x y) : wrongN (turnP p) y = wrongN p x := by
  rw [wrongN_range, wrongN_range]
  have hl : (turnP p).claims.length = p.claims.length := turn_lenC _ _
  rw [hl, ← countP_turn (fun i => wrongB x (gt p.claims i)) p.claims.length]
  refine countP_congr' fun i hi => ?_
  show wrongB y (gt (turnCs p _) i) = _
  rw [turnCs, gt_map _ hi]
  exact wrongB_rel r ((postB_iff p).1 hv |>.2.2.2.2 _ (by omega))
theorem turn_ix {p : Post} {i : Nat} (hi : i < p.bathers.length) : (backI (p.bathers.length : Int) (i : Int)).toNat = p.bathers.length - 1 - i ∧ ix (backI (p.bathers.length : Int) (i : Int)) = p.bathers.length - 1 - i + 2 := by
  unfold backI ix
  rw [if_neg (by omega)]; omega
theorem turn_bit {p : Post} {x y : Nat → Int} (r : RelP p (backI p.bathers.length) 0 x y) {i : Nat} (hi : i < p.bathers.length) : Brk (turnP p) y (p.bathers.length - 1 - i) ↔ Brk p x i := by
  have h1 := r (i : Int) (decide_eq_true ⟨by omega, by omega⟩)
  have h0 := r (-1) (decide_eq_true ⟨by omega, by omega⟩)
  rw [(turn_ix hi).2, show ix ((i : Nat) : Int) = i + 2 by unfold ix; omega] at h1
  rw [show ix (backI (p.bathers.length : Int) (-1)) = 1 from rfl, show ix (-1) = 1 from rfl] at h0
  have hb : gt (turnP p).bathers (p.bathers.length - 1 - i) = gt p.bathers i := by
    show gt (turnB p _) _ = _
    rw [turnB, gt_map _ (by omega)]; congr 1; omega
  unfold Brk
  rw [hb, h1, h0, Int.add_zero, Int.add_zero]
def turnX (n : Nat) (x : Nat → Int) (j : Nat) : Int := if j < 2 then x j else x (n + 3 - j)
theorem turnX_lo (n : Nat) (x : Nat → Int) {j : Nat} (h : j < 2) : turnX n x j = x j := if_pos h
theorem turnX_hi (n : Nat) (x : Nat → Int) {j : Nat} (h : ¬ j < 2) : turnX n x j = x (n + 3 - j) := if_neg h
theorem turn_same {p : Post} (hv : postB p = true) : Same p (turnP p) (backI p.bathers.length) 0 where
  okp := hv
  okz := turn_ok hv
  len := turn_lenB _ _
  who a ha := by
    have := back_who ha
    have hl : (turnP p).bathers.length = p.bathers.length := turn_lenB _ _
    exact decide_eq_true (by rw [hl]; exact this)
  wrong x y r := turn_wrong hv r
  brk x y r := by
    have hl : (turnP p).bathers.length = p.bathers.length := turn_lenB _ _
    rw [brS_range _ _ (turn_ok hv), brS_range _ _ hv, hl, ← countP_turn (fun i => decide (Brk (turnP p) y i))]
    exact countP_congr' fun i hi => decide_eq_decide.2 (turn_bit r hi)
  bit x y r i hi := by
    rw [(turn_ix hi).1]
    exact ⟨by omega, turn_bit r hi⟩
  fwd x hx := by
    refine ⟨turnX p.bathers.length x, ⟨?_, fun i hi => ?_⟩, fun a ha => ?_⟩
    · rw [turnX_lo _ _ (by omega)]; exact hx.1
    · have hl : nodes (turnP p) = nodes p := by unfold nodes; rw [show (turnP p).bathers.length = p.bathers.length from turn_lenB _ _]
      rw [hl] at hi
      match i with
      | 0 => exact hx.2 0 hi
      | 1 => exact hx.2 1 hi
      | i + 2 =>
        have hi2 : i < p.bathers.length := by unfold nodes at hi; omega
        have e : placeN (turnP p) (i + 2) = placeN p (p.bathers.length - 1 - i + 2) := by
          show (gt (turnB p _) i).place = (gt p.bathers _).place
          rw [turnB, gt_map _ hi2]
        rw [e, turnX_hi _ _ (by omega), show p.bathers.length + 3 - (i + 2) = p.bathers.length - 1 - i + 2 by omega]
        exact hx.2 _ (by unfold nodes; omega)
    · have hb := of_decide_eq_true ha
      by_cases hn : a < 0
      · have : a = -1 := by omega
        subst this
        show turnX _ x 1 = x 1 + 0
        rw [turnX_lo _ _ (by omega), Int.add_zero]
      · obtain ⟨k, rfl⟩ := Int.eq_ofNat_of_zero_le (show 0 ≤ a by omega)
        rw [(turn_ix (by omega)).2, turnX_hi _ _ (by omega), show ix ((k : Nat) : Int) = k + 2 by unfold ix; omega, Int.add_zero]
        congr 1; omega
  bwd y hy := by
    refine ⟨turnX p.bathers.length y, ⟨?_, fun i hi => ?_⟩, fun a ha => ?_⟩
    · rw [turnX_lo _ _ (by omega)]; exact hy.1
    · have hl : nodes (turnP p) = nodes p := by unfold nodes; rw [show (turnP p).bathers.length = p.bathers.length from turn_lenB _ _]
      match i with
      | 0 => exact hy.2 0 (by rw [hl]; exact hi)
      | 1 => exact hy.2 1 (by rw [hl]; exact hi)
      | i + 2 =>
        have hi2 : i < p.bathers.length := by unfold nodes at hi; omega
        have e : placeN (turnP p) (p.bathers.length - 1 - i + 2) = placeN p (i + 2) := by
          show (gt (turnB p _) _).place = (gt p.bathers _).place
          rw [turnB, gt_map _ (by omega)]; congr 2; omega
        rw [← e, turnX_hi _ _ (by omega), show p.bathers.length + 3 - (i + 2) = p.bathers.length - 1 - i + 2 by omega]
        exact hy.2 _ (by rw [hl]; unfold nodes; omega)
    · have hb := of_decide_eq_true ha
      by_cases hn : a < 0
      · have : a = -1 := by omega
        subst this
        show y 1 = turnX _ y 1 + 0
        rw [turnX_lo _ _ (by omega), Int.add_zero]
      · obtain ⟨k, rfl⟩ := Int.eq_ofNat_of_zero_le (show 0 ≤ a by omega)
        rw [(turn_ix (by omega)).2, show ix ((k : Nat) : Int) = k + 2 by unfold ix; omega, turnX_hi _ _ (by omega), Int.add_zero]
        congr 1; omega
/-! ### all is further on -/
def shB (s : Int) (b : Bath) : Bath := ⟨b.lady, ⟨b.place.lo + s, b.place.hi + s⟩⟩
def shiftB (p : Post) (s : Int) (k : Nat) : List Bath := (List.range k).map fun i => shB s (gt p.bathers i)
def shiftP (p : Post) (s : Int) : Post := ⟨⟨p.post.lo + s, p.post.hi + s⟩, shiftB p s p.bathers.length, p.claims⟩
def fitTo (p : Post) (s : Int) : Nat → Bool
  | 0 => decide (p.post.hi + s ≤ 40)
  | k + 1 => fitTo p s k && decide ((gt p.bathers k).place.hi + s ≤ 40)
theorem fit_iff (p : Post) (s : Int) : ∀ k, fitTo p s k = true ↔ p.post.hi + s ≤ 40 ∧ ∀ i, i < k → (gt p.bathers i).place.hi + s ≤ 40 := by
  intro k
  induction k with
  | zero => simp [fitTo]
  | succ k ih =>
    simp only [fitTo, Bool.and_eq_true, ih, decide_eq_true_eq]
    exact ⟨fun ⟨⟨h1, h2⟩, h3⟩ => ⟨h1, ext_round h2 h3⟩, fun ⟨h1, h2⟩ => ⟨⟨h1, fun i hi => h2 i (by omega)⟩, h2 k (by omega)⟩⟩
theorem shift_len (p : Post) (s : Int) (k : Nat) : (shiftB p s k).length = k := by simp [shiftB]
theorem shift_place (p : Post) (s : Int) {i : Nat} (h1 : 1 ≤ i) (h : i < nodes p) : placeN (shiftP p s) i = ⟨(placeN p i).lo + s, (placeN p i).hi + s⟩ := by
  match i with
  | 0 => omega
  | 1 => rfl
  | i + 2 =>
    have hi2 : i < p.bathers.length := by unfold nodes at h; omega
    show (gt (shiftB p s _) i).place = _
    rw [shiftB, gt_map _ hi2]; rfl
theorem shift_ok {p : Post} (hv : postB p = true) {s : Int} (hs : 0 ≤ s) (hf : fitTo p s p.bathers.length = true) : postB (shiftP p s) = true := by
  obtain ⟨h1, h2, h3, h4, h5⟩ := (postB_iff p).1 hv
  obtain ⟨f1, f2⟩ := (fit_iff p s _).1 hf
  have hl : (shiftP p s).bathers.length = p.bathers.length := shift_len _ _ _
  refine (postB_iff _).2 ⟨?_, by rw [hl]; exact h2, h3, fun i hi => ?_, fun i hi => ?_⟩
  · have := of_decide_eq_true h1
    exact decide_eq_true (by show 0 ≤ p.post.lo + s ∧ p.post.lo + s ≤ p.post.hi + s ∧ p.post.hi + s ≤ 40; omega)
  · rw [hl] at hi
    show spanP (gt (shiftB p s _) i).place = true
    rw [shiftB, gt_map _ hi]
    have := of_decide_eq_true (h4 i hi)
    have := f2 i hi
    exact decide_eq_true (by show 0 ≤ (gt p.bathers i).place.lo + s ∧ (gt p.bathers i).place.lo + s ≤ (gt p.bathers i).place.hi + s ∧ (gt p.bathers i).place.hi + s ≤ 40; omega)
  · have := h5 i hi
    show claimP (shiftP p s) (gt p.claims i) = true
    simpa only [claimP, whoP, hl] using this
def shX (s : Int) (x : Nat → Int) (j : Nat) : Int := if j = 0 then 0 else x j + s
theorem shX_0 (s : Int) (x : Nat → Int) : shX s x 0 = 0 := if_pos rfl
theorem shX_n (s : Int) (x : Nat → Int) {j : Nat} (h : 1 ≤ j) : shX s x j = x j + s := if_neg (by omega)
theorem shift_same {p : Post} (hv : postB p = true) {s : Int} (hs : 0 ≤ s) (hf : fitTo p s p.bathers.length = true) : Same p (shiftP p s) id s where
  okp := hv
  okz := shift_ok hv hs hf
  len := shift_len _ _ _
  who a ha := by
    have hl : (shiftP p s).bathers.length = p.bathers.length := shift_len _ _ _
    simpa only [whoP, hl, id] using ha
  wrong x y r := by
    show p.claims.countP (wrongB y) = p.claims.countP (wrongB x)
    refine List.countP_congr fun c hc => ?_
    have h5 := (postB_iff p).1 hv |>.2.2.2.2
    obtain ⟨i, hi, e⟩ := List.getElem_of_mem hc
    have h6 := h5 i hi
    rw [show gt p.claims i = c by rw [← e]; simp [gt, List.getD, hi]] at h6
    rw [show wrongB y c = wrongB x c from wrongB_rel r h6]
  brk x y r := by
    have hl : (shiftP p s).bathers.length = p.bathers.length := shift_len _ _ _
    rw [brS_range _ _ (shift_ok hv hs hf), brS_range _ _ hv, hl]
    refine countP_congr' fun i hi => decide_eq_decide.2 ?_
    have h1 := r (i : Int) (decide_eq_true ⟨by omega, by omega⟩)
    have h0 := r (-1) (decide_eq_true ⟨by omega, by omega⟩)
    simp only [id] at h1 h0
    rw [show ix ((i : Nat) : Int) = i + 2 by unfold ix; omega] at h1
    rw [show ix (-1) = 1 from rfl] at h0
    have hb : (gt (shiftP p s).bathers i).lady = (gt p.bathers i).lady := by
      show (gt (shiftB p s _) i).lady = _
      rw [shiftB, gt_map _ hi]; rfl
    unfold Brk
    have hq : y (i + 2) < y 1 ↔ x (i + 2) < x 1 := by omega
    rw [hb, hq]
  bit x y r i hi := by
    refine ⟨by simp only [id]; omega, ?_⟩
    have h1 := r (i : Int) (decide_eq_true ⟨by omega, by omega⟩)
    have h0 := r (-1) (decide_eq_true ⟨by omega, by omega⟩)
    simp only [id] at h1 h0
    rw [show ix ((i : Nat) : Int) = i + 2 by unfold ix; omega] at h1
    rw [show ix (-1) = 1 from rfl] at h0
    have hb : (gt (shiftP p s).bathers i).lady = (gt p.bathers i).lady := by
      show (gt (shiftB p s _) i).lady = _
      rw [shiftB, gt_map _ hi]; rfl
    show Brk _ _ ((i : Nat) : Int).toNat ↔ _
    rw [Int.toNat_natCast]
    unfold Brk
    have hq : y (i + 2) < y 1 ↔ x (i + 2) < x 1 := by omega
    rw [hb, hq]
  fwd x hx := by
    refine ⟨shX s x, ⟨shX_0 _ _, fun i hi => ?_⟩, fun a ha => ?_⟩
    · have hl : nodes (shiftP p s) = nodes p := by unfold nodes; rw [show (shiftP p s).bathers.length = p.bathers.length from shift_len _ _ _]
      rw [hl] at hi
      rcases Nat.eq_zero_or_pos i with rfl | h
      · rw [shX_0]; exact ⟨Int.le_refl _, Int.le_refl _⟩
      · have := hx.2 i hi
        rw [shift_place p s h hi, shX_n _ _ h]; dsimp only; omega
    · have hi := ix_who ha
      simp only [id]
      rw [shX_n _ _ hi.2.1]
  bwd y hy := by
    refine ⟨shX (-s) y, ⟨shX_0 _ _, fun i hi => ?_⟩, fun a ha => ?_⟩
    · have hl : nodes (shiftP p s) = nodes p := by unfold nodes; rw [show (shiftP p s).bathers.length = p.bathers.length from shift_len _ _ _]
      rcases Nat.eq_zero_or_pos i with rfl | h
      · rw [shX_0]; exact ⟨Int.le_refl _, Int.le_refl _⟩
      · have := hy.2 i (by rw [hl]; exact hi)
        rw [shift_place p s h hi] at this
        rw [shX_n _ _ h]; dsimp only at this; omega
    · have hi := ix_who ha
      simp only [id]
      rw [shX_n _ _ hi.2.1]; omega
/-! ### what is told of the one, and of the other one -/
def shO (p : Post) (a sh : Int) : Int := if (PlaceOut p a).2 = 0 then sh else 0
def allO (p : Post) : Nat := if okA p = true then allS p else 0
def someO (p : Post) : Nat := if okA p = true then someS p else 0
theorem breaksO {p : Post} (hv : postB p = true) : BreaksOut p = (((allO p : Nat) : Int), ((someO p : Nat) : Int), toldE p true) := by
  unfold allO someO
  cases hok : okA p with
  | true => rw [breaks_out hv hok, told_zero hv hok]; rfl
  | false => rw [breaks_bad hv hok, told_bad hv hok rfl]; rfl
theorem placeO_num {p : Post} (hv : postB p = true) {a : Int} (ha : whoP p a = true) : (0 ≤ (PlaceOut p a).1.lo ∧ (PlaceOut p a).1.lo ≤ 40) ∧ (0 ≤ (PlaceOut p a).1.hi ∧ (PlaceOut p a).1.hi ≤ 40) := by
  cases hok : okA p with
  | true =>
    have := own_in hv hok ha
    rw [place_out hv hok ha]; dsimp only; omega
  | false => rw [place_bad hv hok ha]; dsimp only; omega
namespace Same
variable {p z : Post} {π : Int → Int} {sh : Int} (S : Same p z π sh)
include S
theorem toldO : toldE z true = toldE p true := by
  rw [told_if S.okz rfl, told_if S.okp rfl, S.ok]
theorem placeO {a : Int} (ha : whoP p a = true) : PlaceOut z (π a) = (⟨(PlaceOut p a).1.lo + shO p a sh, (PlaceOut p a).1.hi + shO p a sh⟩, (PlaceOut p a).2) := by
  unfold shO
  cases hok : okA p with
  | true =>
    have hokz : okA z = true := by rw [S.ok, hok]
    rw [place_out S.okz hokz (S.who a ha), place_out S.okp hok ha, (S.place hok ha).1, (S.place hok ha).2]; rfl
  | false =>
    have hokz : okA z = false := by rw [S.ok, hok]
    rw [place_bad S.okz hokz (S.who a ha), place_bad S.okp hok ha]; rfl
theorem beforeO {a b : Int} (ha : whoP p a = true) (hb : whoP p b = true) : BeforeOut z (π a) (π b) = BeforeOut p a b := by
  cases hok : okA p with
  | true =>
    have hokz : okA z = true := by rw [S.ok, hok]
    rw [before_out S.okz hokz (S.who a ha) (S.who b hb), before_out S.okp hok ha hb]
    exact congrArg (fun v : Int => (v, (0 : Int))) (S.bef hok ha hb)
  | false =>
    have hokz : okA z = false := by rw [S.ok, hok]
    rw [before_bad S.okz hokz (S.who a ha) (S.who b hb), before_bad S.okp hok ha hb]
theorem nearO {a b : Int} (ha : whoP p a = true) (hb : whoP p b = true) : NearOut z (π a) (π b) = NearOut p a b := by
  cases hok : okA p with
  | true =>
    have hokz : okA z = true := by rw [S.ok, hok]
    rw [near_out S.okz hokz (S.who a ha) (S.who b hb), near_out S.okp hok ha hb]
    exact congrArg (fun v : Sp => (v, (0 : Int))) (S.near hok ha hb)
  | false =>
    have hokz : okA z = false := by rw [S.ok, hok]
    rw [near_bad S.okz hokz (S.who a ha) (S.who b hb), near_bad S.okp hok ha hb]
theorem keptO : KeptOut z = KeptOut p := by
  cases hok : okA p with
  | true =>
    have hokz : okA z = true := by rw [S.ok, hok]
    rw [kept_out S.okz hokz, kept_out S.okp hok, S.kept hok]
  | false =>
    have hokz : okA z = false := by rw [S.ok, hok]
    rw [kept_bad S.okz hokz, kept_bad S.okp hok]
theorem fewO : FewestOut z = FewestOut p := by
  cases hok : okA p with
  | true =>
    have hokz : okA z = true := by rw [S.ok, hok]
    rw [few_out S.okz hokz, few_out S.okp hok, (S.lohi hok).1, (S.lohi hok).2]
  | false =>
    have hokz : okA z = false := by rw [S.ok, hok]
    rw [few_bad S.okz hokz, few_bad S.okp hok]
theorem ltO {i : Nat} (hi : i < p.bathers.length) : (π i).toNat < p.bathers.length := by
  obtain ⟨x, hx⟩ := inP_some S.okp
  obtain ⟨y, hy, r⟩ := S.fwd x hx
  exact (S.bit x y r i hi).1
theorem allOB {i : Nat} (hi : i < p.bathers.length) : allO z / 2 ^ (π i).toNat % 2 = allO p / 2 ^ i % 2 := by
  unfold allO
  rw [S.ok]
  split
  · exact S.allB hi
  · rw [Nat.zero_div, Nat.zero_div]
theorem someOB {i : Nat} (hi : i < p.bathers.length) : someO z / 2 ^ (π i).toNat % 2 = someO p / 2 ^ i % 2 := by
  unfold someO
  rw [S.ok]
  split
  · exact S.someB hi
  · rw [Nat.zero_div, Nat.zero_div]
end Same
end Go.Proofs.Ytkhmmefgllbobaa
