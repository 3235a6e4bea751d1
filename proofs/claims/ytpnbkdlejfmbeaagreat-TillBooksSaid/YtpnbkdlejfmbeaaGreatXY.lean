import Derived.Test.YtpnbkdlejfmbeaaGreatXV
set_option linter.unusedSimpArgs false
set_option linter.unusedVariables false
set_option linter.all false
set_option maxRecDepth 100000
set_option maxHeartbeats 1000000
/- Regions whose operations make several new blocks in any order: one proof for each set of operations that have been. -/
namespace Go.W
def AllL (p : Nat → Prop) : List Nat → Prop
  | [] => True
  | i :: l => p i ∧ AllL p l
theorem AllL.mem {p : Nat → Prop} : ∀ {l : List Nat}, AllL p l → ∀ i, i ∈ l → p i
  | j :: l, h, i, hi => by
    rcases List.mem_cons.1 hi with rfl | hi
    · exact h.1
    · exact h.2.mem i hi
section
variable {P : Program} {x : Cx} {fr : Fr} {D : Imm} {hp : Hp} {Q : Exit → Act → World → Prop} {ops : Array Oper} {D0 : Imm} {hp0 : Hp} {n : Nat} {listed : Array Bool}
theorem WH.share (h : ∀ G : Nat → Array Bool → Fr → Hp → Prop, (∀ n l fr hp, WH P x ops D0 hp0 n l fr D hp Q → G n l fr hp) → (∀ n l fr hp, G n l fr hp → WH P x ops D0 hp0 n l fr D hp Q) → G n listed fr hp) : WH P x ops D0 hp0 n listed fr D hp Q :=
  h (fun n l fr hp => WH P x ops D0 hp0 n l fr D hp Q) (fun _ _ _ _ h => h) (fun _ _ _ _ h => h)
theorem WH.all (rs : List Nat) (hr : decide (Region.ready .any ops listed = rs) = true) (hne : rs ≠ []) (h : AllL (WHo P x ops D0 hp0 n listed fr D hp Q) rs) : WH P x ops D0 hp0 (n + 1) listed fr D hp Q := fun a w hA hI =>
  wpAnyH_all (of_decide_eq_true hr) hne fun i hi => h.mem i hi a w hA hI
theorem WH.ofFr (fr' : Fr) (hf : subB fr' fr) (h : WH P x ops D0 hp0 n listed fr' D hp Q) : WH P x ops D0 hp0 n listed fr D hp Q := fun a w hA => h a w (at_fr hA hf)
theorem WH.perm {hp' : Hp} (hs : hp.Perm hp') (h : WH P x ops D0 hp0 n listed fr D hp' Q) : WH P x ops D0 hp0 n listed fr D hp Q := fun a w hA =>
  h a w ⟨hA.f, hA.i.sub (fun _ he => hs.mem_iff.2 he) ((hs.map Prod.fst).nodup_iff.1 hA.i.nodup)⟩
theorem perm1 {α : Type} (e : α) (A T : List α) : (e :: (A ++ T)).Perm (A ++ e :: T) := List.perm_middle.symm
theorem perm2 {α : Type} (e : α) (A B T : List α) : (e :: (A ++ (B ++ T))).Perm (A ++ (B ++ e :: T)) := by
  have h := perm1 e (A ++ B) T
  rwa [List.append_assoc, List.append_assoc] at h
theorem perm3 {α : Type} (e : α) (A B C T : List α) : (e :: (A ++ (B ++ (C ++ T)))).Perm (A ++ (B ++ (C ++ e :: T))) := by
  have h := perm2 e A (B ++ C) T
  rwa [List.append_assoc, List.append_assoc] at h
theorem perm4 {α : Type} (e : α) (A B C E T : List α) : (e :: (A ++ (B ++ (C ++ (E ++ T))))).Perm (A ++ (B ++ (C ++ (E ++ e :: T)))) := by
  have h := perm3 e A B (C ++ E) T
  rwa [List.append_assoc, List.append_assoc] at h
end
end Go.W
namespace Go.W
theorem Inv.none {D : Imm} {hp : Hp} {S : List Nat} {w0 w : World} (h : Inv D hp S w0 w) : Inv D [] S w0 w := h.sub (fun _ he => nomatch he) List.nodup_nil
theorem WH.allM {P : Program} {x : Cx} {fr : Fr} {D : Imm} {hp : Hp} {Q : Exit → Act → World → Prop} {ops : Array Oper} {D0 : Imm} {hp0 : Hp} {n : Nat} {listed : Array Bool} (rs : List Nat) (hr : decide (Region.ready .any ops listed = rs) = true) (hne : rs ≠ []) (h : ∀ i, i ∈ rs → WHo P x ops D0 hp0 n listed fr D hp Q i) : WH P x ops D0 hp0 (n + 1) listed fr D hp Q := fun a w hA hI =>
  wpAnyH_all (of_decide_eq_true hr) hne fun i hi => h i hi a w hA hI
end Go.W
/- Functions with four results. -/
namespace Go.W
variable {P : Program} {x : Cx} {fr : Fr} {D : Imm} {hp : Hp}
theorem WP.ret4 {e : Exit} {fn : Func} {R : Ending → World → Prop} {r s t q : ResultVar} {v u z y : Value} (he : isEnd e = true) (hd : x.ds = []) (hr : fn.results = #[r, s, t, q]) (h1 : RV P x fr D hp r v) (h2 : RV P x fr D hp s u) (h3 : RV P x fr D hp t z) (h4 : RV P x fr D hp q y) (hR : ∀ w, Inv D hp x.S x.w0 w → R (.returned (.tuple #[v, u, z, y])) w) : WP x fr D hp e (bodyPost P fn R) :=
  WP.end [r, s, t, q] [v, u, z, y] he hd hr ⟨h1, h2, h3, h4, trivial⟩ hR
end Go.W
