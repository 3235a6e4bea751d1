import Derived.Test.YtkhmmefgllbobaaXS
set_option linter.unusedSimpArgs false
set_option linter.unusedVariables false
set_option linter.all false
namespace Go.Po
open Go.W
set_option maxRecDepth 100000 in
theorem stg160 : mrgS 80 (stg 80 256) = some (stg 160 256) := of_decide_eq_true (by kernel_rfl)
set_option maxRecDepth 100000 in
theorem stg320 : mrgS 160 (stg 160 256) = some (setsL 8) := of_decide_eq_true (by kernel_rfl)
set_option maxRecDepth 100000 in
theorem stg_len : (stg 20 256).length = 256 ∧ (stg 40 256).length = 256 ∧ (stg 80 256).length = 256 ∧ (stg 160 256).length = 256 ∧ (setsL 8).length = 256 := of_decide_eq_true (by kernel_rfl)
theorem srt8 : sortS (List.range (2 ^ 8)) = some (setsL 8) := by
  obtain ⟨h1, h2, h3, h4, h5⟩ := stg_len
  unfold sortS
  rw [stg20, Option.bind_some]
  have e : whl (fun x : Nat × List Nat => decide (x.1 < x.2.length)) (fun x => (mrgS x.1 x.2).map fun y => (2 * x.1, y)) (396 + 1 + 1 + 1 + 1) (20, stg 20 256) = some (320, setsL 8) := by
    rw [whl_go (y := (40, stg 40 256)) (by simp [h1]) (by simp [stg40]), whl_go (y := (80, stg 80 256)) (by simp [h2]) (by simp [stg80]), whl_go (y := (160, stg 160 256)) (by simp [h3]) (by simp [stg160]),
      whl_go (y := (320, setsL 8)) (by simp [h4]) (by simp [stg320]), whl_end (by simp [h5])]
  show (whl _ _ (396 + 1 + 1 + 1 + 1) _).map _ = _
  rw [e]; rfl
theorem srt (k : Nat) (hk : k ≤ 8) : sortS (List.range (2 ^ k)) = some (setsL k) := by
  rcases Nat.lt_or_ge k 7 with h | h
  · exact srt_small k h
  · rcases (show k = 7 ∨ k = 8 by omega) with rfl | rfl
    · exact srt7
    · exact srt8
end Go.Po
