import Derived.Test.YtejgofaeafphjaaGreatDoorXG5
import Derived.Test.YtejgofaeafphjaaGreatDoorXG29
import Derived.Test.YtejgofaeafphjaaGreatDoorXG7
set_option linter.all false
set_option maxRecDepth 100000
set_option maxHeartbeats 4000000
attribute [local irreducible] Go.W.WL Go.W.WLF Go.W.WC Go.W.WCF Go.W.WP Go.W.WA Go.W.WQ Go.W.WH Go.W.WHo Go.W.WCn Go.W.Yd Go.W.Qt Go.W.SO Go.Code.wp Go.Code.wpIn
namespace Go.Proofs.YtejgofaeafphjaaGreatDoor
open Go.W Go.Ti Go.ChangeShapes Go.WideShapes Go.RowKit Go.Deep
theorem len2 {α : Type} {l : List α} (h : l.length = 2) : ∃ a b, l = [a, b] := by
  match l, h with
  | [a, b], _ => exact ⟨a, b, rfl⟩
theorem len3 {α : Type} {l : List α} (h : l.length = 3) : ∃ a b c, l = [a, b, c] := by
  match l, h with
  | [a, b, c], _ => exact ⟨a, b, c, rfl⟩
theorem len6 {α : Type} {l : List α} (h : l.length = 6) : ∃ a b c d e f, l = [a, b, c, d, e, f] := by
  match l, h with
  | [a, b, c, d, e, f], _ => exact ⟨a, b, c, d, e, f, rfl⟩
section
variable {H : Type} {enc : TypeId × Value → H} {w : World} {spare : Nat → Bool} {held : Bool}
set_option maxRecDepth 100000 in
theorem Kk {n : Nat} {cs : List Value} {y : DataW H × List MemPlace} (h : DataW.trod enc Tryz.prog w 0 spare held n 39 cs = some y) : ∃ lo hi, cs = [it lo, it hi] := by
  obtain ⟨xs, n', _, _, hlen, hxl, hf⟩ := DataW.trod_struct Tryz.underlying39 h;have hc : Tryz.prog.cellsOf 39 = 2 := by kernel_rfl
  have hcI : Tryz.prog.cellsOf 3 = 1 := by kernel_rfl
  have hcS : Tryz.prog.cellsOf 39 = 2 := by kernel_rfl
  rw [hc] at hlen;obtain ⟨c0, c1, rfl⟩ := len2 hlen;have h0 : DataW.trod enc Tryz.prog w 0 spare held n' 3 (([c0, c1].drop 0).take (Tryz.prog.cellsOf 3)) = xs[0]? := hf 0 _ rfl;have h1 : DataW.trod enc Tryz.prog w 0 spare held n' 3 (([c0, c1].drop 1).take (Tryz.prog.cellsOf 3)) = xs[1]? := hf 1 _ rfl;have hx : xs.length = 2 := hxl;rw [List.getElem?_eq_getElem (by omega)] at h0 h1;simp only [hcI] at h0 h1;obtain ⟨a0, e0, _, _⟩ := DataW.trod_int Tryz.underlying3 h0;obtain ⟨a1, e1, _, _⟩ := DataW.trod_int Tryz.underlying3 h1;simp at e0 e1;subst e0;subst e1;exact ⟨a0, a1, rfl⟩
set_option maxRecDepth 100000 in
theorem zcj {n : Nat} {cs : List Value} {y : DataW H × List MemPlace} (h : DataW.trod enc Tryz.prog w 0 spare held n 62 cs = some y) : ∃ u : Go.Ti.Mark, cs = ub u := by
  obtain ⟨xs, n', _, _, hlen, hxl, hf⟩ := DataW.trod_struct Tryz.underlying62 h;have hc : Tryz.prog.cellsOf 62 = 3 := by kernel_rfl
  have hcI : Tryz.prog.cellsOf 3 = 1 := by kernel_rfl
  have hcS : Tryz.prog.cellsOf 39 = 2 := by kernel_rfl
  rw [hc] at hlen;obtain ⟨c0, c1, c2, rfl⟩ := len3 hlen;have h0 : DataW.trod enc Tryz.prog w 0 spare held n' 3 (([c0, c1, c2].drop 0).take (Tryz.prog.cellsOf 3)) = xs[0]? := hf 0 _ rfl;have h1 : DataW.trod enc Tryz.prog w 0 spare held n' 39 (([c0, c1, c2].drop 1).take (Tryz.prog.cellsOf 39)) = xs[1]? := hf 1 _ rfl;have hx : xs.length = 2 := hxl;rw [List.getElem?_eq_getElem (by omega)] at h0 h1;simp only [hcI, hcS] at h0 h1;obtain ⟨a0, e0, _, _⟩ := DataW.trod_int Tryz.underlying3 h0;obtain ⟨a1, b1, e1⟩ := Kk h1;simp at e0 e1;subst e0;obtain ⟨rfl, rfl⟩ := e1;exact ⟨⟨a0, ⟨a1, b1⟩⟩, rfl⟩
theorem elSp {n : Nat} {cs : List Value} {y : DataW H × List MemPlace} (h : DataW.trod enc Tryz.prog w 0 spare held n 39 cs = some y) : ∃ u : Sp, cs = ul u := by
  obtain ⟨lo, hi, e⟩ := Kk h;exact ⟨⟨lo, hi⟩, e⟩
theorem zef {n : Nat} {cs : List Value} {y : DataW H × List MemPlace} (h : DataW.trod enc Tryz.prog w 0 spare held n 9 cs = some y) : ∃ u : Bs, cs = strC u := by
  obtain ⟨s, e, _, _⟩ := DataW.trod_string Tryz.underlying9 h;exact ⟨s.data.toList, by rw [e]; cases s; rfl⟩
set_option maxRecDepth 100000 in
theorem uf {v : Value} {d : DataW H} {p : List MemPlace} (hv : Value.okWide Tryz.prog w .any 0 49 v) (h : DataW.Trod enc Tryz.prog w 0 spare held 49 v d p) : ∃ (x : Wick) (m s : Sl), v = yL x m s ∧ w9 (wY w) x m s := by
  obtain ⟨⟨cs⟩, rfl, hsz⟩ := okWide_struct Tryz.underlying49 hv;have hc : Tryz.prog.cellsOf 49 = 6 := by kernel_rfl
  have hcI : Tryz.prog.cellsOf 3 = 1 := by kernel_rfl
  have hcM : Tryz.prog.cellsOf 27 = 1 := by kernel_rfl
  have hcS : Tryz.prog.cellsOf 28 = 1 := by kernel_rfl
  rw [hc] at hsz;obtain ⟨c0, c1, c2, c3, c4, c5, rfl⟩ := len6 (by simpa using hsz);obtain ⟨fuel, hf⟩ := h;obtain ⟨xs, n', _, _, hlen, hxl, hff⟩ := DataW.trod_struct Tryz.underlying49 hf;have h0 : DataW.trod enc Tryz.prog w 0 spare held n' 3 (([c0, c1, c2, c3, c4, c5].drop 0).take (Tryz.prog.cellsOf 3)) = xs[0]? := hff 0 _ rfl;have h1 : DataW.trod enc Tryz.prog w 0 spare held n' 3 (([c0, c1, c2, c3, c4, c5].drop 1).take (Tryz.prog.cellsOf 3)) = xs[1]? := hff 1 _ rfl;have h2 : DataW.trod enc Tryz.prog w 0 spare held n' 3 (([c0, c1, c2, c3, c4, c5].drop 2).take (Tryz.prog.cellsOf 3)) = xs[2]? := hff 2 _ rfl;have h3 : DataW.trod enc Tryz.prog w 0 spare held n' 3 (([c0, c1, c2, c3, c4, c5].drop 3).take (Tryz.prog.cellsOf 3)) = xs[3]? := hff 3 _ rfl;have h4 : DataW.trod enc Tryz.prog w 0 spare held n' 27 (([c0, c1, c2, c3, c4, c5].drop 4).take (Tryz.prog.cellsOf 27)) = xs[4]? := hff 4 _ rfl;have h5 : DataW.trod enc Tryz.prog w 0 spare held n' 28 (([c0, c1, c2, c3, c4, c5].drop 5).take (Tryz.prog.cellsOf 28)) = xs[5]? := hff 5 _ rfl;have hx : xs.length = 6 := hxl;rw [List.getElem?_eq_getElem (by omega)] at h0 h1 h2 h3 h4 h5;simp only [hcI, hcM, hcS] at h0 h1 h2 h3 h4 h5;obtain ⟨a0, e0, _, _⟩ := DataW.trod_int Tryz.underlying3 h0;obtain ⟨a1, e1, _, _⟩ := DataW.trod_int Tryz.underlying3 h1;obtain ⟨a2, e2, _, _⟩ := DataW.trod_int Tryz.underlying3 h2;obtain ⟨a3, e3, _, _⟩ := DataW.trod_int Tryz.underlying3 h3;obtain ⟨l4, b4, n4, k4, e4, m4, s4⟩ := YN (m := 3) ub Tryz.underlying27 zk (by decide) (fun _ _ _ h _ => zcj h) h4;obtain ⟨l5, b5, n5, k5, e5, m5, s5⟩ := YN (m := 2) ul Tryz.underlying28 zk (by decide) (fun _ _ _ h _ => elSp h) h5;simp at e0 e1 e2 e3 e4 e5;subst e0; subst e1; subst e2; subst e3; subst e4; subst e5;exact ⟨⟨a0, a1, a2, a3, l4, l5⟩, ⟨b4, n4, k4⟩, ⟨b5, n5, k5⟩, rfl, s4, s5, m4, m5⟩
set_option maxRecDepth 100000 in
theorem x5 {v : Value} {d : DataW H} {p : List MemPlace} (hv : Value.okWide Tryz.prog w .any 0 5 v) (h : DataW.Trod enc Tryz.prog w 0 spare held 5 v d p) : ∃ b : Int, v = .int .u8 b ∧ 0 ≤ b ∧ b ≤ 255 := by
  obtain ⟨z, rfl, rfl, rfl, wz⟩ := open_int Tryz.underlying5 hv h;exact ⟨z, rfl, by simp [Lit.wf, IntKind.min, IntKind.max, IntKind.bits, IntKind.signed] at wz; omega⟩
end
end Go.Proofs.YtejgofaeafphjaaGreatDoor
