import Derived.Test.YtkhmmefgllbobaaXM
set_option linter.unusedSimpArgs false
set_option linter.unusedVariables false
set_option linter.all false
namespace Go.Po
open Go.W
/-- blocks of length s, each sorted by size, then by number -/
def stg (s n : Nat) : List Nat := (List.range ((n + s - 1) / s)).flatMap fun b => (List.range 9).flatMap fun c => ((List.range s).map (· + b * s)).filter fun x => decide (x < n) && decide (pop x = c)
theorem whl_go {σ : Type} {c : σ → Bool} {s : σ → Option σ} {n : Nat} {x y : σ} (hc : c x = true) (hs : s x = some y) : whl c s (n + 1) x = whl c s n y := by
  simp only [whl, hc, if_true, hs, Option.bind_some]
theorem whl_end {σ : Type} {c : σ → Bool} {s : σ → Option σ} {n : Nat} {x : σ} (hc : c x = false) : whl c s n x = some x := by
  cases n <;> simp [whl, hc]
set_option maxRecDepth 100000 in
theorem srt_small : ∀ k, k < 7 → sortS (List.range (2 ^ k)) = some (setsL k) := of_decide_eq_true (by kernel_rfl)
set_option maxRecDepth 100000 in
theorem srt7 : sortS (List.range (2 ^ 7)) = some (setsL 7) := of_decide_eq_true (by kernel_rfl)
end Go.Po
