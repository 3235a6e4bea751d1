/- DipTurned returns true for all dips and remainders, and changes no argument. No condition. -/
import Derived.Test.YtidjdonppfegiaaYB43
import Derived.Test.YtidjdonppfegiaaYL2
set_option linter.unusedSimpArgs false
set_option linter.unusedVariables false
set_option linter.all false
namespace Go.Proofs.Ytidjdonppfegiaa
open Go.W Go.Dp Go.ChangeShapes Go.WideShapes Go.ChangeAt Go.RowKit
theorem own_knob : ownKnob Try.prog.godebug = none := by kernel_rfl
theorem laid_out : laidOutB Try.prog = true := by kernel_rfl
set_option maxRecDepth 100000 in
theorem dipTurned_lifted (os : Os) (started : os.Started) (H : Type) (enc : TypeId × Value → H) :
    ReturnsInHanded {} Try.checked os 12 .any (Rows.dipTurnedSpec.pre6 enc Try.prog Try.f12 Rows.dipTurnedRow.domain false) (Rows.dipTurnedSpec.post enc Try.prog Try.f12 false true false false) := by
  refine returnsInHanded_of_change (C := Try.checked) own_knob started (by kernel_rfl) Try.func12
    (ChangeSpec.witness6 (enc := enc) (C := Try.checked) false ⟨#[], #[.agg #[.int .i64 0, .slice none 0 0, .slice none 0 0], .slice none 0 0], []⟩ 8 (by kernel_rfl) (by kernel_rfl) (by kernel_rfl) (by kernel_rfl)) ?_
  intro W base args ds gs before hval0 hW hcnd _
  have hval : ∀ (j : Nat) t v, Try.f12.params[j]? = some t → args[j]? = some v → Value.okWide Try.prog W .any base t v := hval0
  have hW' := hW
  obtain ⟨p, q, hA0, hV, rfl, hfz, hnd⟩ := hW
  have hA : DataW.TrodAll enc Try.prog W 0 (fun _ => true) true Try.f12.params.toList args.toList ds p := hA0
  rw [Try.params12] at hA hval
  obtain ⟨rfl, rfl⟩ := trodVars_none hV
  obtain ⟨v0, v1, d0, d1, p0, p1, rfl, rfl, rfl, h0, h1⟩ := trodAll_two hA
  obtain ⟨d, a1, n1, c1, a2, n2, c2, rfl, s1, s2, _, _⟩ := open_dips (hval 0 25 v0 rfl rfl) h0
  obtain ⟨by_, a4, n4, c4, rfl, s4, hby, _⟩ := open_u16s (hval 1 48 v1 rfl rfl) h1
  refine (turned_g d a1 n1 c1 a2 n2 c2 (heapI W) W s1 s2 (heapI_holds W) by_ a4 n4 c4 s4 hby).mono fun e W' ⟨he, hk⟩ => ?_
  exact ⟨_, he, law_post laid_out hW' rfl rfl rfl rfl rfl Try.underlying4 (by kernel_rfl) hk⟩
theorem dipTurned_holds : Rows.DipTurnedSaid :=
  OpenClaim.holds_of_wide 12 Try.f12 rfl rfl rfl rfl rfl rfl rfl ⟨rfl, rfl, rfl, rfl, rfl⟩ rfl rfl rfl rfl rfl (by kernel_rfl) Try.func12 (by kernel_rfl)
    (of_decide_eq_true (by kernel_rfl)) (by unfold Func.isWrapper; first | (rw [if_pos (by decide +kernel)]; kernel_rfl) | (rw [if_neg (by decide +kernel)]; exact ⟨rfl, rfl⟩))
    (fun os started H enc _ => dipTurned_lifted os started H enc)
end Go.Proofs.Ytidjdonppfegiaa
