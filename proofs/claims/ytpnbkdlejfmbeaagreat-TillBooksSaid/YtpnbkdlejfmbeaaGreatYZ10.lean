import Derived.Test.YtpnbkdlejfmbeaaGreatYZ9
set_option linter.unusedSimpArgs false
set_option linter.unusedVariables false
set_option linter.all false
set_option maxRecDepth 100000
set_option maxHeartbeats 1000000
namespace Go.Proofs.YtpnbkdlejfmbeaaGreat
open Go.W Go.Ti

theorem opps1 {fr : Fr} {i a : Nat} {v : Value} (h : fr.get a = some v) : opps fr [(i, .tmp a)] = some [(i, v)] := by
  unfold opps; rw [show opv fr (.tmp a) = some v from h]; rfl
theorem opps2 {fr : Fr} {i j a b : Nat} {v u : Value} (h : fr.get a = some v) (h' : fr.get b = some u) : opps fr [(i, .tmp a), (j, .tmp b)] = some [(i, v), (j, u)] := by
  unfold opps; rw [show opv fr (.tmp a) = some v from h, opps1 h']
/-- which of a region's operations have been: the copies' chain, and the other new blocks -/
inductive Ch10 | c0 | c1 | c2 | c3 | c4 | c5
  deriving DecidableEq
structure D10 where
  b59 : Nat
  b64 : Nat
  b66 : Nat
  b71 : Nat
  b10 : Nat
  u61 : Ow
  u65 : Ow
  u69 : Ow
  u72 : Ow
def nul (b : Nat) : Nat × Obj := (b, .cells (List.toArray []) 3 (0, 0))
def one (b : Nat) (i : Int) : Nat × Obj := (b, .cells (List.toArray [it i]) 3 (0, 0))
def pA (y : List Pr) (A : Int) (d : D10) : Ch10 → Hp
  | .c0 => []
  | .c1 => [nul d.b59]
  | .c2 => owH (some d.u61) 3 (y.flatMap fstC) []
  | _ => owH (some d.u65) 3 (y.flatMap fstC ++ [it A]) []
def p5 (A : Int) (d : D10) : Bool → Hp
  | true => [one d.b64 A]
  | false => []
def pC (y : List Pr) (B : Int) (d : D10) : Ch10 → Bool → Hp
  | .c4, _ => owH (some d.u69) 3 (y.flatMap sndC) []
  | .c5, _ => owH (some d.u72) 3 (y.flatMap sndC ++ [it B]) []
  | _, true => [nul d.b66]
  | _, false => []
def p12 (B : Int) (d : D10) : Bool → Hp
  | true => [one d.b71 B]
  | false => []
def p15 (d : D10) : Bool → Hp
  | true => [(d.b10, .cells (List.toArray [.slice none 0 0, .slice none 0 0]) 87 (0, 0))]
  | false => []
def hp10 (y : List Pr) (A B : Int) (T : Hp) (c : Ch10) (f5 f7 f12 f15 : Bool) (d : D10) : Hp := pA y A d c ++ (p5 A d f5 ++ (pC y B d c f7 ++ (p12 B d f12 ++ (p15 d f15 ++ T))))
def ge10 : Ch10 → Nat → Bool
  | .c0, _ => false
  | .c1, k => Nat.ble k 1
  | .c2, k => Nat.ble k 2
  | .c3, k => Nat.ble k 3
  | .c4, k => Nat.ble k 4
  | .c5, _ => true
def lst10 (c : Ch10) (f5 f7 f12 f15 : Bool) : Array Bool := #[ge10 c 1, true, true, ge10 c 2, true, f5, ge10 c 3, f7, true, true, ge10 c 4, true, f12, ge10 c 5, ge10 c 5, f15, false]
def rdy10 (c : Ch10) (f5 f7 f12 f15 : Bool) : List Nat := ((List.range 17).zip [!ge10 c 1, false, false, ge10 c 1 && !ge10 c 2, false, !f5, ge10 c 2 && !ge10 c 3 && f5, !f7, false, false, ge10 c 3 && !ge10 c 4 && f7, false, !f12, ge10 c 4 && !ge10 c 5 && f12, false, !f15, ge10 c 5 && f15]).filterMap fun p => if p.2 then some p.1 else none
def cnt10 (c : Ch10) (f5 f7 f12 f15 : Bool) : Nat := ((lst10 c f5 f7 f12 f15).toList.filter (!·)).length
def val10 (c : Ch10) (f5 f7 f12 : Bool) : Bool := (!ge10 c 3 || f5) && (!ge10 c 4 || f7) && (!ge10 c 5 || f12)
def stA (w : World) (n : Nat) (d : D10) (fr : Fr) : Ch10 → Prop
  | .c0 => True
  | .c1 => w.heap.size ≤ d.b59 ∧ fr.get 59 = some (.slice (some ⟨d.b59, 0, none⟩) 0 0)
  | .c2 => owP w (some d.u61) n 1 ∧ fr.get 62 = some (owV (some d.u61) n)
  | _ => owP w (some d.u65) (n + 1) 1 ∧ fr.get 65 = some (owV (some d.u65) (n + 1))
def stC (w : World) (n : Nat) (d : D10) (fr : Fr) : Ch10 → Bool → Prop
  | .c4, _ => owP w (some d.u69) n 1 ∧ fr.get 69 = some (owV (some d.u69) n)
  | .c5, _ => owP w (some d.u72) (n + 1) 1 ∧ fr.get 73 = some (.agg #[owV (some d.u65) (n + 1), owV (some d.u72) (n + 1)])
  | _, true => w.heap.size ≤ d.b66 ∧ fr.get 66 = some (.slice (some ⟨d.b66, 0, none⟩) 0 0)
  | _, false => True
structure St10 (FR : Fr) (w : World) (n : Nat) (c : Ch10) (f5 f7 f12 f15 : Bool) (d : D10) (fr : Fr) : Prop where
  base : subB FR fr
  a : stA w n d fr c
  e5 : f5 = true → w.heap.size ≤ d.b64 ∧ fr.get 64 = some (.slice (some ⟨d.b64, 0, none⟩) 1 1)
  cc : stC w n d fr c f7
  e12 : f12 = true → w.heap.size ≤ d.b71 ∧ fr.get 71 = some (.slice (some ⟨d.b71, 0, none⟩) 1 1)
  e15 : f15 = true → w.heap.size ≤ d.b10 ∧ fr.get 10 = some (.pointer (some ⟨d.b10, 0, none⟩))

def HpK (y : List Pr) (A B : Int) (T : Hp) (c : Ch10) (f5 f7 f12 f15 : Bool) (d : D10) (hp : Hp) : Prop := hp.Perm (hp10 y A B T c f5 f7 f12 f15 d)
section
variable {FR : Fr} {w : World} {n : Nat} {c : Ch10} {f5 f7 f12 f15 : Bool} {d : D10} {fr : Fr} {y : List Pr} {A B : Int} {T : Hp} {b : Nat} {u : Ow}
theorem go0 (h : St10 FR w n .c0 f5 f7 f12 f15 d fr) (hF : subB FR ((59, .slice (some ⟨b, 0, none⟩) 0 0) :: fr)) (hb : w.heap.size ≤ b) : St10 FR w n .c1 f5 f7 f12 f15 { d with b59 := b } ((59, .slice (some ⟨b, 0, none⟩) 0 0) :: fr) ∧ HpK y A B T .c1 f5 f7 f12 f15 { d with b59 := b } (nul b :: hp10 y A B T .c0 f5 f7 f12 f15 d) :=
  ⟨⟨hF, ⟨hb, rfl⟩, h.e5, by cases f7 <;> exact h.cc, h.e12, h.e15⟩, by cases f5 <;> cases f7 <;> cases f12 <;> cases f15 <;> exact List.Perm.refl _⟩
theorem go3 (h : St10 FR w n .c1 f5 f7 f12 f15 d fr) (hF : subB FR ((62, owV (some u) n) :: fr)) (hb : owP w (some u) n 1) : St10 FR w n .c2 f5 f7 f12 f15 { d with u61 := u } ((62, owV (some u) n) :: fr) ∧ HpK y A B T .c2 f5 f7 f12 f15 { d with u61 := u } (owH (some u) 3 (y.flatMap fstC) (p5 A d f5 ++ (pC y B d .c1 f7 ++ (p12 B d f12 ++ (p15 d f15 ++ T))))) :=
  ⟨⟨hF, ⟨hb, rfl⟩, h.e5, by cases f7 <;> exact h.cc, h.e12, h.e15⟩, by cases f5 <;> cases f7 <;> cases f12 <;> cases f15 <;> exact List.Perm.refl _⟩
theorem go5 (h : St10 FR w n c false f7 f12 f15 d fr) (hF : subB FR ((64, .slice (some ⟨b, 0, none⟩) 1 1) :: fr)) (hb : w.heap.size ≤ b) : St10 FR w n c true f7 f12 f15 { d with b64 := b } ((64, .slice (some ⟨b, 0, none⟩) 1 1) :: fr) ∧ HpK y A B T c true f7 f12 f15 { d with b64 := b } (one b A :: hp10 y A B T c false f7 f12 f15 d) :=
  ⟨⟨hF, by cases c <;> exact h.a, fun _ => ⟨hb, rfl⟩, by cases c <;> cases f7 <;> exact h.cc, h.e12, h.e15⟩, by cases c <;> cases f7 <;> cases f12 <;> cases f15 <;> exact perm1 _ (pA y A d _) _⟩
theorem go6 (h : St10 FR w n .c2 true f7 f12 f15 d fr) (hF : subB FR ((65, owV (some u) (n + 1)) :: fr)) (hb : owP w (some u) (n + 1) 1) : St10 FR w n .c3 true f7 f12 f15 { d with u65 := u } ((65, owV (some u) (n + 1)) :: fr) ∧ HpK y A B T .c3 true f7 f12 f15 { d with u65 := u } (owH (some u) 3 (y.flatMap fstC ++ [it A]) (p5 A d true ++ (pC y B d .c2 f7 ++ (p12 B d f12 ++ (p15 d f15 ++ T))))) :=
  ⟨⟨hF, ⟨hb, rfl⟩, h.e5, by cases f7 <;> exact h.cc, h.e12, h.e15⟩, by cases f7 <;> cases f12 <;> cases f15 <;> exact List.Perm.refl _⟩
theorem go7 (h : St10 FR w n c f5 false f12 f15 d fr) (hc : ge10 c 4 = false) (hF : subB FR ((66, .slice (some ⟨b, 0, none⟩) 0 0) :: fr)) (hb : w.heap.size ≤ b) : St10 FR w n c f5 true f12 f15 { d with b66 := b } ((66, .slice (some ⟨b, 0, none⟩) 0 0) :: fr) ∧ HpK y A B T c f5 true f12 f15 { d with b66 := b } (nul b :: hp10 y A B T c f5 false f12 f15 d) := by
  cases c <;> first
    | exact absurd hc (by decide)
    | exact ⟨⟨hF, h.a, h.e5, ⟨hb, rfl⟩, h.e12, h.e15⟩, by cases f5 <;> cases f12 <;> cases f15 <;> exact perm2 _ (pA y A d _) (p5 A d _) _⟩
theorem go10 (h : St10 FR w n .c3 f5 true f12 f15 d fr) (hF : subB FR ((69, owV (some u) n) :: fr)) (hb : owP w (some u) n 1) : St10 FR w n .c4 f5 true f12 f15 { d with u69 := u } ((69, owV (some u) n) :: fr) ∧ HpK y A B T .c4 f5 true f12 f15 { d with u69 := u } (pA y A d .c3 ++ (p5 A d f5 ++ owH (some u) 3 (y.flatMap sndC) (p12 B d f12 ++ (p15 d f15 ++ T)))) :=
  ⟨⟨hF, h.a, h.e5, ⟨hb, rfl⟩, h.e12, h.e15⟩, by cases f5 <;> cases f12 <;> cases f15 <;> exact List.Perm.refl _⟩
theorem go12 (h : St10 FR w n c f5 f7 false f15 d fr) (hF : subB FR ((71, .slice (some ⟨b, 0, none⟩) 1 1) :: fr)) (hb : w.heap.size ≤ b) : St10 FR w n c f5 f7 true f15 { d with b71 := b } ((71, .slice (some ⟨b, 0, none⟩) 1 1) :: fr) ∧ HpK y A B T c f5 f7 true f15 { d with b71 := b } (one b B :: hp10 y A B T c f5 f7 false f15 d) :=
  ⟨⟨hF, by cases c <;> exact h.a, h.e5, by cases c <;> cases f7 <;> exact h.cc, fun _ => ⟨hb, rfl⟩, h.e15⟩, by cases c <;> cases f5 <;> cases f7 <;> cases f15 <;> exact perm3 _ (pA y A d _) (p5 A d _) (pC y B d _ _) _⟩
theorem go13 (h : St10 FR w n .c4 f5 f7 true f15 d fr) (hF : subB FR ((73, .agg #[owV (some d.u65) (n + 1), owV (some u) (n + 1)]) :: (72, owV (some u) (n + 1)) :: fr)) (hb : owP w (some u) (n + 1) 1) : St10 FR w n .c5 f5 f7 true f15 { d with u72 := u } ((73, .agg #[owV (some d.u65) (n + 1), owV (some u) (n + 1)]) :: (72, owV (some u) (n + 1)) :: fr) ∧ HpK y A B T .c5 f5 f7 true f15 { d with u72 := u } (pA y A d .c4 ++ (p5 A d f5 ++ owH (some u) 3 (y.flatMap sndC ++ [it B]) (p12 B d true ++ (p15 d f15 ++ T)))) :=
  ⟨⟨hF, h.a, h.e5, ⟨hb, rfl⟩, h.e12, h.e15⟩, by cases f5 <;> cases f7 <;> cases f15 <;> exact List.Perm.refl _⟩
theorem go15 (h : St10 FR w n c f5 f7 f12 false d fr) (hF : subB FR ((10, .pointer (some ⟨b, 0, none⟩)) :: fr)) (hb : w.heap.size ≤ b) : St10 FR w n c f5 f7 f12 true { d with b10 := b } ((10, .pointer (some ⟨b, 0, none⟩)) :: fr) ∧ HpK y A B T c f5 f7 f12 true { d with b10 := b } ((b, .cells (List.toArray [.slice none 0 0, .slice none 0 0]) 87 (0, 0)) :: hp10 y A B T c f5 f7 f12 false d) :=
  ⟨⟨hF, by cases c <;> exact h.a, h.e5, by cases c <;> cases f7 <;> exact h.cc, h.e12, fun _ => ⟨hb, rfl⟩⟩, by cases c <;> cases f5 <;> cases f7 <;> cases f12 <;> exact perm4 _ (pA y A d _) (p5 A d _) (pC y B d _ _) (p12 B d _) _⟩
end

theorem fin10 (c : Ch10) (f5 f7 f12 f15 : Bool) : (c = .c5 ∧ f5 = true ∧ f7 = true ∧ f12 = true ∧ f15 = true) ∨ (ge10 c 5 && f5 && f7 && f12 && f15) = false := by
  cases c <;> cases f5 <;> cases f7 <;> cases f12 <;> cases f15 <;> first
    | exact .inr rfl
    | exact .inl ⟨rfl, rfl, rfl, rfl, rfl⟩
def TrK (T : Tks) (rem : Nat) (b : List Pr) (rows : List TrR) (v : Value) (D' : Imm) (hpc' : Hp) : Prop :=
  ∃ (rows' : List TrR) (o' : Option Ow), v = owV o' rows'.length ∧ rows'.map TrR.y = rows.map TrR.y ++ refT T rem b ∧ (∀ r, r ∈ rows' → TrOk D' r) ∧ owL o' rows'.length 2 ∧ hpc' = owH o' 87 (rows'.flatMap trC) []
theorem go_len {T : Tks} (hv : tksB T = true) {rem : Nat} {b : List Pr} {a : Int} {k j R : Nat} (hb : b.length + (rem + 1) = T.l.length) (hk : k < nB T b.length) (hj : j < nD T b.length) (hL : R + 9 ^ (rem + 1) ≤ 59049) : R + (goA T (refT T rem) b k).length + (goB T (refT T rem) b a j).length + 9 ^ rem ≤ 59049 := by
  have hr : ∀ p, (refT T rem (b ++ [p])).length ≤ 9 ^ rem := fun p => ref_len hv rem _ (by rw [List.length_append, List.length_singleton]; omega)
  have h3 := wid3 hv (k := b.length) (by omega)
  have h1 := goA_len (T := T) hr h3.2 k
  have h2 := goB_len (T := T) (a := a) hr j
  have h4 : k * (3 * 9 ^ rem) ≤ 2 * (3 * 9 ^ rem) := Nat.mul_le_mul_right _ (by omega)
  have h5 : j * 9 ^ rem ≤ 2 * 9 ^ rem := Nat.mul_le_mul_right _ (by omega)
  have h6 : (9 : Nat) ^ (rem + 1) = 9 * 9 ^ rem := by rw [Nat.pow_succ, Nat.mul_comm]
  omega
theorem rowY_len {rows L : List TrR} {M : List (List Pr)} (h : rows.map TrR.y = L.map TrR.y ++ M) : rows.length = L.length + M.length := by
  have := congrArg List.length h
  simpa using this

theorem rdy_cases {c : Ch10} {f5 f7 f12 f15 : Bool} (hv : val10 c f5 f7 f12 = true) : ∀ i, i ∈ rdy10 c f5 f7 f12 f15 → (i = 0 ∧ c = .c0) ∨ (i = 3 ∧ c = .c1) ∨ (i = 5 ∧ f5 = false) ∨ (i = 6 ∧ c = .c2 ∧ f5 = true) ∨ (i = 7 ∧ f7 = false ∧ ge10 c 4 = false) ∨ (i = 10 ∧ c = .c3 ∧ f7 = true ∧ f5 = true) ∨ (i = 12 ∧ f12 = false) ∨ (i = 13 ∧ c = .c4 ∧ f12 = true ∧ f5 = true ∧ f7 = true) ∨ (i = 15 ∧ f15 = false) ∨ (i = 16 ∧ ge10 c 5 = true ∧ f5 = true ∧ f7 = true ∧ f12 = true ∧ f15 = true) := by
  revert hv; cases c <;> cases f5 <;> cases f7 <;> cases f12 <;> cases f15 <;> decide
theorem cnt_c {f5 f7 f12 f15 : Bool} : cnt10 .c0 f5 f7 f12 f15 = cnt10 .c1 f5 f7 f12 f15 + 1 ∧ cnt10 .c1 f5 f7 f12 f15 = cnt10 .c2 f5 f7 f12 f15 + 1 ∧ cnt10 .c2 f5 f7 f12 f15 = cnt10 .c3 f5 f7 f12 f15 + 1 ∧ cnt10 .c3 f5 f7 f12 f15 = cnt10 .c4 f5 f7 f12 f15 + 1 ∧ cnt10 .c4 f5 f7 f12 f15 = cnt10 .c5 f5 f7 f12 f15 + 1 + 1 := by
  cases f5 <;> cases f7 <;> cases f12 <;> cases f15 <;> exact ⟨rfl, rfl, rfl, rfl, rfl⟩
theorem cnt_5 {c : Ch10} {f7 f12 f15 : Bool} : cnt10 c false f7 f12 f15 = cnt10 c true f7 f12 f15 + 1 := by cases c <;> cases f7 <;> cases f12 <;> cases f15 <;> rfl
theorem cnt_7 {c : Ch10} {f5 f12 f15 : Bool} : cnt10 c f5 false f12 f15 = cnt10 c f5 true f12 f15 + 1 := by cases c <;> cases f5 <;> cases f12 <;> cases f15 <;> rfl
theorem cnt_12 {c : Ch10} {f5 f7 f15 : Bool} : cnt10 c f5 f7 false f15 = cnt10 c f5 f7 true f15 + 1 := by cases c <;> cases f5 <;> cases f7 <;> cases f15 <;> rfl
theorem cnt_15 {c : Ch10} {f5 f7 f12 : Bool} : cnt10 c f5 f7 f12 false = cnt10 c f5 f7 f12 true + 1 := by cases c <;> cases f5 <;> cases f7 <;> cases f12 <;> rfl
theorem val_5 {c : Ch10} {f7 f12 : Bool} (h : val10 c false f7 f12 = true) : val10 c true f7 f12 = true := by revert h; cases c <;> cases f7 <;> cases f12 <;> decide
theorem val_7 {c : Ch10} {f5 f12 : Bool} (h : val10 c f5 false f12 = true) : val10 c f5 true f12 = true := by revert h; cases c <;> cases f5 <;> cases f12 <;> decide
theorem val_12 {c : Ch10} {f5 f7 : Bool} (h : val10 c f5 f7 false = true) : val10 c f5 f7 true = true := by revert h; cases c <;> cases f5 <;> cases f7 <;> decide

end Go.Proofs.YtpnbkdlejfmbeaaGreat
