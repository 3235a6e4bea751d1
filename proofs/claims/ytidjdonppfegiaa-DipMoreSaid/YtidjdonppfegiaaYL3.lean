/- A dipper that came in. -/
import Derived.Test.YtidjdonppfegiaaXL
import Derived.Carry
set_option linter.unusedSimpArgs false
set_option linter.unusedVariables false
set_option linter.all false
namespace Go.Proofs.Ytidjdonppfegiaa
open Go.W Go.Dp Go.ChangeShapes Go.WideShapes Go.RowKit Go.Deep
section
variable {H : Type} {enc : TypeId × Value → H} {w : World} {spare : Nat → Bool} {held : Bool}
set_option maxRecDepth 100000 in
theorem open_dipper {v : Value} {d : DataW H} {p : List MemPlace} (hv : Value.okWide Try.prog w .any 0 53 v) (h : DataW.Trod enc Try.prog w 0 spare held 53 v d p) :
    ∃ e : Dipper, v = .agg #[it e.hands.lo, it e.hands.hi, it e.hours] := by
  obtain ⟨fuel, hf⟩ := h
  obtain ⟨u, hu⟩ := el53 hf
  obtain ⟨cs, rfl, _⟩ := Go.WideShapes.okWide_struct Try.underlying53 hv
  have hc : cs.toList = dipperC u := hu
  obtain ⟨l⟩ := cs
  have hl : l = dipperC u := hc
  subst hl
  exact ⟨u, rfl⟩
end
end Go.Proofs.Ytidjdonppfegiaa
