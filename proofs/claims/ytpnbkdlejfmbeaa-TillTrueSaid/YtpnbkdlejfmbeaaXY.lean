import Derived.Test.YtpnbkdlejfmbeaaXO
import Derived.Test.YtpnbkdlejfmbeaaXX
set_option linter.unusedSimpArgs false
set_option linter.unusedVariables false
set_option linter.all false
/- Numbers of sixteen bits that came in. -/
namespace Go.Proofs.Ytpnbkdlejfmbeaa
open Go.W Go.Ti Go.ChangeShapes Go.WideShapes Go.RowKit Go.Deep
theorem wf_u16 {n : Int} (h : (Lit.int .u16 n).wf = true) : 0 ≤ n ∧ n ≤ 65535 := by
  simp [Lit.wf, IntKind.min, IntKind.max, IntKind.bits, IntKind.signed] at h
  omega
abbrev U16 := { x : Int // 0 ≤ x ∧ x ≤ 65535 }
instance : Inhabited U16 := ⟨⟨0, by omega⟩⟩
section
variable {H : Type} {enc : TypeId × Value → H} {w : World} {spare : Nat → Bool} {held : Bool}
set_option maxRecDepth 100000 in
theorem open_u16s {v : Value} {d : DataW H} {p : List MemPlace} (hv : Value.okWide Try.prog w .any 0 51 v) (h : DataW.Trod enc Try.prog w 0 spare held 51 v d p) :
    ∃ (l : List Int) (a : Option Addr) (n c : Nat), v = .slice a n c ∧ SlL (heapI w) 1 (l.map u16C) a n ∧ (∀ i, i < l.length → 0 ≤ gt l i ∧ gt l i ≤ 65535) ∧ n ≤ maxLen := by
  obtain ⟨fuel, hf⟩ := h
  obtain ⟨l, a, n, c, e, m, s⟩ := open_sl (m := 1) (fun x : U16 => u16C x.1) Try.underlying51 (by kernel_rfl) (by decide) (fun _ cs' y h _ => by
    obtain ⟨b, hb, _, hw⟩ := DataW.trod_int Try.underlying95 h
    exact ⟨⟨b, wf_u16 hw⟩, hb⟩) hf
  obtain ⟨_, _, _, rfl⟩ := okWide_slice Try.underlying51 hv
  simp only [Value.cells, List.cons.injEq, and_true] at e
  refine ⟨l.map (·.1), a, n, c, e, by rw [List.map_map]; exact s, fun i hi => ?_, m⟩
  rw [List.length_map] at hi
  have : gt (l.map (·.1)) i = (gt l i).1 := by simp [gt, List.getD, hi]
  rw [this]
  exact (gt l i).2
end
end Go.Proofs.Ytpnbkdlejfmbeaa
