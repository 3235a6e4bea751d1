import Derived.Test.YtpnbkdlejfmbeaaXV
set_option linter.unusedSimpArgs false
set_option linter.unusedVariables false
set_option linter.all false
/- The first ones and the last ones of a slice. -/
namespace Go.W
theorem SlL.take {D : Imm} {size : Nat} {rows : List (List Value)} {a : Option Addr} {n k : Nat} (h : SlL D size rows a n) (hk : k ≤ n) : SlL D size (rows.take k) a k :=
  ⟨by rw [List.length_take, ← h.len]; omega, fun i r hr => by
    rw [List.getElem?_take] at hr
    split at hr
    · exact h.row i r hr
    · cases hr⟩
def fromA (a : Option Addr) (c k size : Nat) : Option Addr := if c = k then a else a.map (·.add (k * size))
theorem SlL.drop {D : Imm} {size : Nat} {rows : List (List Value)} {a : Option Addr} {n c k : Nat} (h : SlL D size rows a n) (hk : k ≤ n) (hc : n ≤ c) : SlL D size (rows.drop k) (fromA a c k size) (n - k) :=
  ⟨by rw [List.length_drop, ← h.len], fun i r hr => by
    rw [List.getElem?_drop] at hr
    have hlt : k + i < n := by
      rw [h.len]
      rcases Nat.lt_or_ge (k + i) rows.length with h1 | h1
      · exact h1
      · rw [List.getElem?_eq_none h1] at hr; cases hr
    obtain ⟨h1, h2⟩ := h.row (k + i) r hr
    unfold fromA
    rw [if_neg (by omega)]
    have e : (a.map (·.add (k * size))) = some ⟨sb a, so a + k * size, none⟩ := by
      rw [h1]
      show some (Addr.add ⟨sb a, so a, none⟩ (k * size)) = some _
      unfold Addr.add
      by_cases h0 : k * size = 0
      · rw [if_pos h0, h0]; rfl
      · rw [if_neg h0]; rfl
    rw [e]
    refine ⟨rfl, ?_⟩
    show RdD D (sb a) (so a + k * size + i * size) r
    rw [Nat.add_assoc, ← Nat.add_mul]
    exact h2⟩
section
variable {P : Program} {x : Cx} {fr : Fr} {D : Imm} {hp : Hp} {ty : TypeId}
/-- s[k:] -/
theorem Yd.sliceFrom {t e : TypeId} {n : Nat} {p q : Operand} {a : Option Addr} {len cap k : Nat} (hu : P.underlying t = some (.slice e)) (hz : ∀ w, (sizeOf e).run P w = .ok n w) (hp' : opv fr p = some (.slice a len cap)) (hq : opv fr q = some (nt k)) (hk : k ≤ len) :
    Yd P x fr D hp (.slice t p (some q) none none) ty (.slice (fromA a cap k n) (len - k) (cap - k)) := fun act w _ _ _ _ hA _ => by
  simp only [execOp, Option.map_none, Option.map_some, hA.eval hp', hA.eval hq]
  have hi : (asIntOf (nt k)).run P w = .ok (IntKind.i64, (k : Int)) w := rfl
  have : (Instr.slice t (.slice a len cap) (some (nt k)) none none).run P w = .ok (.slice (fromA a cap k n) (len - k) (cap - k)) w := by
    simp only [Instr.slice, Instr.sliceBounds, Instr.sliceBound, Sem.run_bind, run_underlying hu, hi, Result.andThen_ok, Sem.run_pure, hz]
    have hle : (0 : Int) ≤ (k : Int) ∧ (k : Int) ≤ (len : Int) := by omega
    simp only [Sem.run_ite, if_pos hle, Sem.run_pure, Result.andThen_ok, Sem.run_bind, hz]
    simp [fromA]
  simp [this, Instr.sliceAt, run_underlying hu]
end
end Go.W
/- Regions whose operations make several new blocks in any order: one proof for each set of operations that have been. -/
namespace Go.W
def AllL (p : Nat → Prop) : List Nat → Prop
  | [] => True
  | i :: l => p i ∧ AllL p l
theorem AllL.mem {p : Nat → Prop} : ∀ {l : List Nat}, AllL p l → ∀ i, i ∈ l → p i
  | j :: l, h, i, hi => by
    rcases List.mem_cons.1 hi with rfl | hi
    · exact h.1
    · exact h.2.mem i hi
section
variable {P : Program} {x : Cx} {fr : Fr} {D : Imm} {hp : Hp} {Q : Exit → Act → World → Prop} {ops : Array Oper} {D0 : Imm} {hp0 : Hp} {n : Nat} {listed : Array Bool}
theorem WH.share (h : ∀ G : Nat → Array Bool → Fr → Hp → Prop, (∀ n l fr hp, WH P x ops D0 hp0 n l fr D hp Q → G n l fr hp) → (∀ n l fr hp, G n l fr hp → WH P x ops D0 hp0 n l fr D hp Q) → G n listed fr hp) : WH P x ops D0 hp0 n listed fr D hp Q :=
  h (fun n l fr hp => WH P x ops D0 hp0 n l fr D hp Q) (fun _ _ _ _ h => h) (fun _ _ _ _ h => h)
theorem WH.all (rs : List Nat) (hr : decide (Region.ready .any ops listed = rs) = true) (hne : rs ≠ []) (h : AllL (WHo P x ops D0 hp0 n listed fr D hp Q) rs) : WH P x ops D0 hp0 (n + 1) listed fr D hp Q := fun a w hA hI =>
  wpAnyH_all (of_decide_eq_true hr) hne fun i hi => h.mem i hi a w hA hI
theorem WH.ofFr (fr' : Fr) (hf : subB fr' fr) (h : WH P x ops D0 hp0 n listed fr' D hp Q) : WH P x ops D0 hp0 n listed fr D hp Q := fun a w hA => h a w (at_fr hA hf)
theorem WH.perm {hp' : Hp} (hs : hp.Perm hp') (h : WH P x ops D0 hp0 n listed fr D hp' Q) : WH P x ops D0 hp0 n listed fr D hp Q := fun a w hA =>
  h a w ⟨hA.f, hA.i.sub (fun _ he => hs.mem_iff.2 he) ((hs.map Prod.fst).nodup_iff.1 hA.i.nodup)⟩
theorem perm1 {α : Type} (e : α) (A T : List α) : (e :: (A ++ T)).Perm (A ++ e :: T) := List.perm_middle.symm
theorem perm2 {α : Type} (e : α) (A B T : List α) : (e :: (A ++ (B ++ T))).Perm (A ++ (B ++ e :: T)) := by
  have h := perm1 e (A ++ B) T
  rwa [List.append_assoc, List.append_assoc] at h
theorem perm3 {α : Type} (e : α) (A B C T : List α) : (e :: (A ++ (B ++ (C ++ T)))).Perm (A ++ (B ++ (C ++ e :: T))) := by
  have h := perm2 e A (B ++ C) T
  rwa [List.append_assoc, List.append_assoc] at h
theorem perm4 {α : Type} (e : α) (A B C E T : List α) : (e :: (A ++ (B ++ (C ++ (E ++ T))))).Perm (A ++ (B ++ (C ++ (E ++ e :: T)))) := by
  have h := perm3 e A B (C ++ E) T
  rwa [List.append_assoc, List.append_assoc] at h
end
end Go.W
namespace Go.W
theorem Inv.none {D : Imm} {hp : Hp} {S : List Nat} {w0 w : World} (h : Inv D hp S w0 w) : Inv D [] S w0 w := h.sub (fun _ he => nomatch he) List.nodup_nil
theorem WH.allM {P : Program} {x : Cx} {fr : Fr} {D : Imm} {hp : Hp} {Q : Exit → Act → World → Prop} {ops : Array Oper} {D0 : Imm} {hp0 : Hp} {n : Nat} {listed : Array Bool} (rs : List Nat) (hr : decide (Region.ready .any ops listed = rs) = true) (hne : rs ≠ []) (h : ∀ i, i ∈ rs → WHo P x ops D0 hp0 n listed fr D hp Q i) : WH P x ops D0 hp0 (n + 1) listed fr D hp Q := fun a w hA hI =>
  wpAnyH_all (of_decide_eq_true hr) hne fun i hi => h i hi a w hA hI
end Go.W
/- Functions with four results. -/
namespace Go.W
variable {P : Program} {x : Cx} {fr : Fr} {D : Imm} {hp : Hp}
theorem WP.ret4 {e : Exit} {fn : Func} {R : Ending → World → Prop} {r s t q : ResultVar} {v u z y : Value} (he : isEnd e = true) (hd : x.ds = []) (hr : fn.results = #[r, s, t, q]) (h1 : RV P x fr D hp r v) (h2 : RV P x fr D hp s u) (h3 : RV P x fr D hp t z) (h4 : RV P x fr D hp q y) (hR : ∀ w, Inv D hp x.S x.w0 w → R (.returned (.tuple #[v, u, z, y])) w) : WP x fr D hp e (bodyPost P fn R) :=
  WP.end [r, s, t, q] [v, u, z, y] he hd hr ⟨h1, h2, h3, h4, trivial⟩ hR
end Go.W
/- Calls that alter the first of one's own blocks. -/
namespace Go.W
def AltF (w0 : World) (D : Imm) (own : Hp) (K : Value → Imm → Hp → Prop) (v : Value) (D' : Imm) (hp' : Hp) : Prop := ∃ hpc', DExt w0 D D' ∧ K v D' hpc' ∧ hp' = hpc' ++ own
section
variable {P : Program} {x : Cx} {fr : Fr} {D : Imm} {hp : Hp} {ty : TypeId} {Q : Exit → Act → World → Prop}
theorem Inv.turn {a b : Hp} {S : List Nat} {w0 w : World} (h : Inv D (a ++ b) S w0 w) : Inv D (b ++ a) S w0 w :=
  h.sub (fun e he => List.perm_append_comm.mem_iff.1 he) (((List.perm_append_comm (l₁ := a) (l₂ := b)).map Prod.fst).nodup_iff.1 h.nodup)
theorem SO.altersF {c : Call} {f : FuncId} {vals : List Value} {S1 : List Nat} {K : Value → Imm → Hp → Prop} (own hpc : Hp) (hhp : hp = hpc ++ own)
    (hS : ∀ b, b ∈ S1 → b ∈ keys hpc) (hS' : ∀ b, b ∈ keys hpc → b ∈ S1) (he : Enters P x fr D hp c ty f vals)
    (hk : ∀ w, Inv D hpc S1 w w → Alters P f vals w D S1 K) : SO P x fr D hp (.call c) ty Q (AltF x.w0 D own K) := fun a w dst pos af g next hA hn => by
  subst hhp
  exact SO.alters own hpc (fun e he => List.perm_append_comm.mem_iff.1 he) (fun h => ((List.perm_append_comm (l₁ := hpc) (l₂ := own)).map Prod.fst).nodup_iff.1 h) hS hS' he hk a w dst pos af g next hA (fun v D' hp' w' hK hI => by
    obtain ⟨hpc', h1, h2, rfl⟩ := hK
    exact hn v D' (hpc' ++ own) w' ⟨hpc', h1, h2, rfl⟩ hI.turn)
theorem SO.altersNF {c : Call} {f : FuncId} {vals : List Value} {S1 : List Nat} {K : Value → Imm → Hp → Prop} (own hpc : Hp) (hhp : hp = hpc ++ own)
    (hS : ∀ b, b ∈ S1 → b ∈ keys hpc) (hS' : ∀ b, b ∈ keys hpc → b ∈ S1) (he : Enters P x fr D hp c ty f vals)
    (hk : ∀ w, Inv D hpc S1 w w → AltersN P f vals w D S1 K) : SO P x fr D hp (.call c) ty Q (AltF x.w0 D own K) := fun a w dst pos af g next hA hn => by
  subst hhp
  exact SO.altersN own hpc (fun e he => List.perm_append_comm.mem_iff.1 he) (fun h => ((List.perm_append_comm (l₁ := hpc) (l₂ := own)).map Prod.fst).nodup_iff.1 h) hS hS' he hk a w dst pos af g next hA (fun v D' hp' w' hK hI => by
    obtain ⟨hpc', h1, h2, rfl⟩ := hK
    exact hn v D' (hpc' ++ own) w' ⟨hpc', h1, h2, rfl⟩ hI.turn)
end
end Go.W
