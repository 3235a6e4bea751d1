import Derived.Test.YtejgofaeafphjaaGreatDoorXG33
import Derived.Test.YtejgofaeafphjaaGreatDoorXG7
set_option linter.all false
set_option maxRecDepth 100000
set_option maxHeartbeats 4000000
attribute [local irreducible] Go.W.WL Go.W.WLF Go.W.WC Go.W.WCF Go.W.WP Go.W.WA Go.W.WQ Go.W.WH Go.W.WHo Go.W.WCn Go.W.Yd Go.W.Qt Go.W.SO Go.Code.wp Go.Code.wpIn
namespace Go.Proofs.YtejgofaeafphjaaGreatDoor
open Go.W Go.Ti Go.ChangeShapes Go.WideShapes Go.RowKit Go.Deep
section
variable {H : Type} {enc : TypeId × Value → H} {w : World} {spare : Nat → Bool} {held : Bool}
theorem zml {t e : TypeId} {fuel : Nat} {a : Option Addr} {n c : Nat} {x : DataW H × List MemPlace} (ht : Tryz.prog.underlying t = some (.slice e)) (h : DataW.trod enc Tryz.prog w 0 spare held fuel t [.slice a n c] = some x) : n ≤ c := by
  rcases open_slice ht h with ⟨e, _⟩ | ⟨a, len, cap, m', n, D, Pl, e, hb, hl, hmx, hmm, _, hi⟩
  · cases e; exact Nat.le_refl _
  cases e; omega
set_option maxRecDepth 100000 in
theorem zlH {v : Value} {d : DataW H} {p : List MemPlace} (hv : Value.okWide Tryz.prog w .any 0 37 v) (h : DataW.Trod enc Tryz.prog w 0 spare held 37 v d p) : ∃ (l : List Bs) (a : Option Addr) (n c : Nat), v = .slice a n c ∧ SlL (wY w) 1 (l.map strC) a n ∧ n ≤ maxLen ∧ n ≤ c := by
  obtain ⟨_, _, _, rfl⟩ := okWide_slice Tryz.underlying37 hv;obtain ⟨fuel, hf⟩ := h;have hcap := zml Tryz.underlying37 hf;obtain ⟨l, a, n, c, e, m1, s1⟩ := YN (m := 1) strC Tryz.underlying37 zk (by decide) (fun _ _ _ h _ => zef h) hf;simp only [Value.cells, List.cons.injEq, and_true, Value.slice.injEq] at e;obtain ⟨rfl, rfl, rfl⟩ := e;exact ⟨l, _, _, _, rfl, s1, m1, hcap⟩
end
end Go.Proofs.YtejgofaeafphjaaGreatDoor
