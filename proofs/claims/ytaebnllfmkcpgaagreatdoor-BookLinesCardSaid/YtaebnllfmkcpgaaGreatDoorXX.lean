import Derived.Test.YtaebnllfmkcpgaaGreatDoorXL
import Derived.Test.YtaebnllfmkcpgaaGreatDoorXT
set_option linter.unusedSimpArgs false
set_option linter.unusedVariables false
set_option linter.all false
set_option maxRecDepth 100000
set_option maxHeartbeats 1000000
namespace Go.Proofs.YtaebnllfmkcpgaaGreatDoor
open Go.W Go.Bk Go.ChangeShapes Go.WideShapes Go.RowKit Go.Deep

theorem len2 {α : Type} {l : List α} (h : l.length = 2) : ∃ x0 x1, l = [x0, x1] := by
  match l, h with
  | [x0, x1], _ => exact ⟨x0, x1, rfl⟩

theorem len3 {α : Type} {l : List α} (h : l.length = 3) : ∃ x0 x1 x2, l = [x0, x1, x2] := by
  match l, h with
  | [x0, x1, x2], _ => exact ⟨x0, x1, x2, rfl⟩

theorem len5 {α : Type} {l : List α} (h : l.length = 5) : ∃ x0 x1 x2 x3 x4, l = [x0, x1, x2, x3, x4] := by
  match l, h with
  | [x0, x1, x2, x3, x4], _ => exact ⟨x0, x1, x2, x3, x4, rfl⟩

section
variable {H : Type} {enc : TypeId × Value → H} {w : World} {spare : Nat → Bool} {held : Bool}
set_option maxRecDepth 100000 in
theorem el_span {n : Nat} {cs : List Value} {y : DataW H × List MemPlace} (h : DataW.trod enc Tryz.prog w 0 spare held n 114 cs = some y) : ∃ lo hi, cs = [it lo, it hi] := by
  obtain ⟨xs, n', _, _, hlen, hxl, hf⟩ := DataW.trod_struct Tryz.underlying114 h
  have hc : Tryz.prog.cellsOf 114 = 2 := by kernel_rfl
  rw [hc] at hlen
  obtain ⟨c0, c1, rfl⟩ := len2 hlen
  have hk0 : Tryz.prog.cellsOf 3 = 1 := by kernel_rfl
  have h0 : DataW.trod enc Tryz.prog w 0 spare held n' 3 (([c0, c1].drop 0).take (Tryz.prog.cellsOf 3)) = xs[0]? := hf 0 _ rfl
  have h1 : DataW.trod enc Tryz.prog w 0 spare held n' 3 (([c0, c1].drop 1).take (Tryz.prog.cellsOf 3)) = xs[1]? := hf 1 _ rfl
  have hx : xs.length = 2 := hxl
  rw [List.getElem?_eq_getElem (by omega)] at h0 h1
  simp only [hk0] at h0 h1
  obtain ⟨a0, e0, _, _⟩ := DataW.trod_int Tryz.underlying3 h0
  obtain ⟨a1, e1, _, _⟩ := DataW.trod_int Tryz.underlying3 h1
  simp at e0 e1
  subst e0
  subst e1
  exact ⟨a0, a1, rfl⟩

set_option maxRecDepth 100000 in
theorem el_hut {n : Nat} {cs : List Value} {y : DataW H × List MemPlace} (h : DataW.trod enc Tryz.prog w 0 spare held n 136 cs = some y) : ∃ u : Hut, cs = hutC u := by
  obtain ⟨xs, n', _, _, hlen, hxl, hf⟩ := DataW.trod_struct Tryz.underlying136 h
  have hc : Tryz.prog.cellsOf 136 = 3 := by kernel_rfl
  rw [hc] at hlen
  obtain ⟨c0, c1, c2, rfl⟩ := len3 hlen
  have hk0 : Tryz.prog.cellsOf 3 = 1 := by kernel_rfl
  have h0 : DataW.trod enc Tryz.prog w 0 spare held n' 3 (([c0, c1, c2].drop 0).take (Tryz.prog.cellsOf 3)) = xs[0]? := hf 0 _ rfl
  have h1 : DataW.trod enc Tryz.prog w 0 spare held n' 3 (([c0, c1, c2].drop 1).take (Tryz.prog.cellsOf 3)) = xs[1]? := hf 1 _ rfl
  have h2 : DataW.trod enc Tryz.prog w 0 spare held n' 3 (([c0, c1, c2].drop 2).take (Tryz.prog.cellsOf 3)) = xs[2]? := hf 2 _ rfl
  have hx : xs.length = 3 := hxl
  rw [List.getElem?_eq_getElem (by omega)] at h0 h1 h2
  simp only [hk0] at h0 h1 h2
  obtain ⟨a0, e0, _, _⟩ := DataW.trod_int Tryz.underlying3 h0
  obtain ⟨a1, e1, _, _⟩ := DataW.trod_int Tryz.underlying3 h1
  obtain ⟨a2, e2, _, _⟩ := DataW.trod_int Tryz.underlying3 h2
  simp at e0 e1 e2
  subst e0
  subst e1
  subst e2
  exact ⟨⟨a0, a1, a2⟩, rfl⟩

set_option maxRecDepth 100000 in
theorem el_hour {n : Nat} {cs : List Value} {y : DataW H × List MemPlace} (h : DataW.trod enc Tryz.prog w 0 spare held n 138 cs = some y) : ∃ u : FHour, cs = hourC u := by
  obtain ⟨xs, n', _, _, hlen, hxl, hf⟩ := DataW.trod_struct Tryz.underlying138 h
  have hc : Tryz.prog.cellsOf 138 = 3 := by kernel_rfl
  rw [hc] at hlen
  obtain ⟨c0, c1, c2, rfl⟩ := len3 hlen
  have hk0 : Tryz.prog.cellsOf 114 = 2 := by kernel_rfl
  have hk1 : Tryz.prog.cellsOf 3 = 1 := by kernel_rfl
  have h0 : DataW.trod enc Tryz.prog w 0 spare held n' 114 (([c0, c1, c2].drop 0).take (Tryz.prog.cellsOf 114)) = xs[0]? := hf 0 _ rfl
  have h1 : DataW.trod enc Tryz.prog w 0 spare held n' 3 (([c0, c1, c2].drop 2).take (Tryz.prog.cellsOf 3)) = xs[1]? := hf 1 _ rfl
  have hx : xs.length = 2 := hxl
  rw [List.getElem?_eq_getElem (by omega)] at h0 h1
  simp only [hk0, hk1] at h0 h1
  obtain ⟨a0, b0, e0⟩ := el_span h0
  obtain ⟨a1, e1, _, _⟩ := DataW.trod_int Tryz.underlying3 h1
  simp at e0 e1
  obtain ⟨rfl, rfl⟩ := e0
  subst e1
  exact ⟨⟨⟨a0, b0⟩, a1⟩, rfl⟩

set_option maxRecDepth 100000 in
theorem el_fseen {n : Nat} {cs : List Value} {y : DataW H × List MemPlace} (h : DataW.trod enc Tryz.prog w 0 spare held n 141 cs = some y) : ∃ u : FSeen, cs = seenC u := by
  obtain ⟨xs, n', _, _, hlen, hxl, hf⟩ := DataW.trod_struct Tryz.underlying141 h
  have hc : Tryz.prog.cellsOf 141 = 2 := by kernel_rfl
  rw [hc] at hlen
  obtain ⟨c0, c1, rfl⟩ := len2 hlen
  have hk0 : Tryz.prog.cellsOf 3 = 1 := by kernel_rfl
  have hk1 : Tryz.prog.cellsOf 4 = 1 := by kernel_rfl
  have h0 : DataW.trod enc Tryz.prog w 0 spare held n' 3 (([c0, c1].drop 0).take (Tryz.prog.cellsOf 3)) = xs[0]? := hf 0 _ rfl
  have h1 : DataW.trod enc Tryz.prog w 0 spare held n' 4 (([c0, c1].drop 1).take (Tryz.prog.cellsOf 4)) = xs[1]? := hf 1 _ rfl
  have hx : xs.length = 2 := hxl
  rw [List.getElem?_eq_getElem (by omega)] at h0 h1
  simp only [hk0, hk1] at h0 h1
  obtain ⟨a0, e0, _, _⟩ := DataW.trod_int Tryz.underlying3 h0
  obtain ⟨a1, e1, _⟩ := DataW.trod_bool Tryz.underlying4 h1
  simp at e0 e1
  subst e0
  subst e1
  exact ⟨⟨a0, a1⟩, rfl⟩

set_option maxRecDepth 100000 in
theorem el_bseen {n : Nat} {cs : List Value} {y : DataW H × List MemPlace} (h : DataW.trod enc Tryz.prog w 0 spare held n 143 cs = some y) : ∃ u : BSeen, cs = bsC u := by
  obtain ⟨xs, n', _, _, hlen, hxl, hf⟩ := DataW.trod_struct Tryz.underlying143 h
  have hc : Tryz.prog.cellsOf 143 = 5 := by kernel_rfl
  rw [hc] at hlen
  obtain ⟨c0, c1, c2, c3, c4, rfl⟩ := len5 hlen
  have hk0 : Tryz.prog.cellsOf 3 = 1 := by kernel_rfl
  have hk1 : Tryz.prog.cellsOf 114 = 2 := by kernel_rfl
  have h0 : DataW.trod enc Tryz.prog w 0 spare held n' 3 (([c0, c1, c2, c3, c4].drop 0).take (Tryz.prog.cellsOf 3)) = xs[0]? := hf 0 _ rfl
  have h1 : DataW.trod enc Tryz.prog w 0 spare held n' 114 (([c0, c1, c2, c3, c4].drop 1).take (Tryz.prog.cellsOf 114)) = xs[1]? := hf 1 _ rfl
  have h2 : DataW.trod enc Tryz.prog w 0 spare held n' 114 (([c0, c1, c2, c3, c4].drop 3).take (Tryz.prog.cellsOf 114)) = xs[2]? := hf 2 _ rfl
  have hx : xs.length = 3 := hxl
  rw [List.getElem?_eq_getElem (by omega)] at h0 h1 h2
  simp only [hk0, hk1] at h0 h1 h2
  obtain ⟨a0, e0, _, _⟩ := DataW.trod_int Tryz.underlying3 h0
  obtain ⟨a1, b1, e1⟩ := el_span h1
  obtain ⟨a2, b2, e2⟩ := el_span h2
  simp at e0 e1 e2
  subst e0
  obtain ⟨rfl, rfl⟩ := e1
  obtain ⟨rfl, rfl⟩ := e2
  exact ⟨⟨a0, ⟨a1, b1⟩, ⟨a2, b2⟩⟩, rfl⟩

theorem el_sp {n : Nat} {cs : List Value} {y : DataW H × List MemPlace} (h : DataW.trod enc Tryz.prog w 0 spare held n 114 cs = some y) : ∃ u : Sp, cs = spC u := by
  obtain ⟨lo, hi, e⟩ := el_span h
  exact ⟨⟨lo, hi⟩, e⟩
theorem wf_u8 {n : Int} (h : (Lit.int .u8 n).wf = true) : 0 ≤ n ∧ n ≤ 255 := by
  simp [Lit.wf, IntKind.min, IntKind.max, IntKind.bits, IntKind.signed] at h
  omega
set_option maxRecDepth 100000 in
theorem u8_bt {n : Int} (h : (Lit.int .u8 n).wf = true) : ∃ b : UInt8, Value.int .u8 n = bt b := by
  have := wf_u8 h
  refine ⟨UInt8.ofNat n.toNat, ?_⟩
  rw [btN (by omega)]; congr 1; omega
/-- a list of lists that came in: each with where it lies -/
abbrev RowsIn (w : World) := { x : List BSeen × Sl // SlL (heapI w) 5 (x.1.map bsC) x.2.a x.2.n ∧ x.2.n ≤ 9223372036854775807 }
instance (w : World) : Inhabited (RowsIn w) := ⟨⟨([], ⟨none, 0, 0⟩), SlL.nil _ _, Nat.zero_le _⟩⟩
set_option maxRecDepth 100000 in
theorem el_rows {n : Nat} {cs : List Value} {y : DataW H × List MemPlace} (h : DataW.trod enc Tryz.prog w 0 spare held n 79 cs = some y) : ∃ u : RowsIn w, cs = slC u.1.2 := by
  obtain ⟨l, a, n1, c1, e, m1, s1⟩ := open_sl (m := 5) bsC Tryz.underlying79 (by kernel_rfl) (by decide) (fun _ _ _ h _ => el_bseen h) h
  exact ⟨⟨(l, ⟨a, n1, c1⟩), s1, m1⟩, e⟩

set_option maxRecDepth 100000 in
theorem open_surf {v : Value} {d : DataW H} {p : List MemPlace} (hv : Value.okWide Tryz.prog w .any 0 25 v) (h : DataW.Trod enc Tryz.prog w 0 spare held 25 v d p) : ∃ (s : Surf) (m : SurfM), v = surfV s m ∧ SurfR (heapI w) s m := by
  obtain ⟨⟨cs⟩, rfl, hsz⟩ := okWide_struct Tryz.underlying25 hv
  have hc : Tryz.prog.cellsOf 25 = 5 := by kernel_rfl
  rw [hc] at hsz
  obtain ⟨c0, c1, c2, c3, c4, rfl⟩ := len5 (by simpa using hsz)
  obtain ⟨fuel, hf⟩ := h
  obtain ⟨xs, n', _, _, hlen, hxl, hff⟩ := DataW.trod_struct Tryz.underlying25 hf
  have hk0 : Tryz.prog.cellsOf 3 = 1 := by kernel_rfl
  have hk1 : Tryz.prog.cellsOf 22 = 1 := by kernel_rfl
  have hk2 : Tryz.prog.cellsOf 23 = 1 := by kernel_rfl
  have h0 : DataW.trod enc Tryz.prog w 0 spare held n' 3 (([c0, c1, c2, c3, c4].drop 0).take (Tryz.prog.cellsOf 3)) = xs[0]? := hff 0 _ rfl
  have h1 : DataW.trod enc Tryz.prog w 0 spare held n' 3 (([c0, c1, c2, c3, c4].drop 1).take (Tryz.prog.cellsOf 3)) = xs[1]? := hff 1 _ rfl
  have h2 : DataW.trod enc Tryz.prog w 0 spare held n' 22 (([c0, c1, c2, c3, c4].drop 2).take (Tryz.prog.cellsOf 22)) = xs[2]? := hff 2 _ rfl
  have h3 : DataW.trod enc Tryz.prog w 0 spare held n' 22 (([c0, c1, c2, c3, c4].drop 3).take (Tryz.prog.cellsOf 22)) = xs[3]? := hff 3 _ rfl
  have h4 : DataW.trod enc Tryz.prog w 0 spare held n' 23 (([c0, c1, c2, c3, c4].drop 4).take (Tryz.prog.cellsOf 23)) = xs[4]? := hff 4 _ rfl
  have hx : xs.length = 5 := hxl
  rw [List.getElem?_eq_getElem (by omega)] at h0 h1 h2 h3 h4
  simp only [hk0, hk1, hk2] at h0 h1 h2 h3 h4
  obtain ⟨a0, e0, _, _⟩ := DataW.trod_int Tryz.underlying3 h0
  obtain ⟨a1, e1, _, _⟩ := DataW.trod_int Tryz.underlying3 h1
  obtain ⟨l2, a2, n2, k2, e2, m2, s2⟩ := open_sl (m := 2) spC Tryz.underlying22 (by kernel_rfl) (by decide) (fun _ _ _ h _ => el_sp h) h2
  obtain ⟨l3, a3, n3, k3, e3, m3, s3⟩ := open_sl (m := 2) spC Tryz.underlying22 (by kernel_rfl) (by decide) (fun _ _ _ h _ => el_sp h) h3
  obtain ⟨l4, a4, n4, k4, e4, m4, s4⟩ := open_sl (m := 3) hutC Tryz.underlying23 (by kernel_rfl) (by decide) (fun _ _ _ h _ => el_hut h) h4
  simp at e0 e1 e2 e3 e4
  subst e0
  subst e1
  subst e2
  subst e3
  subst e4
  exact ⟨⟨a0, a1, l2, l3, l4⟩, ⟨⟨a2, n2, k2⟩, ⟨a3, n3, k3⟩, ⟨a4, n4, k4⟩⟩, rfl, ⟨s2, s3, s4, m2, m3, m4⟩⟩

set_option maxRecDepth 100000 in
theorem open_flag {v : Value} {d : DataW H} {p : List MemPlace} (hv : Value.okWide Tryz.prog w .any 0 29 v) (h : DataW.Trod enc Tryz.prog w 0 spare held 29 v d p) : ∃ (s : Flag) (m : FlagM), v = flagV s m ∧ FlagR (heapI w) s m := by
  obtain ⟨⟨cs⟩, rfl, hsz⟩ := okWide_struct Tryz.underlying29 hv
  have hc : Tryz.prog.cellsOf 29 = 5 := by kernel_rfl
  rw [hc] at hsz
  obtain ⟨c0, c1, c2, c3, c4, rfl⟩ := len5 (by simpa using hsz)
  obtain ⟨fuel, hf⟩ := h
  obtain ⟨xs, n', _, _, hlen, hxl, hff⟩ := DataW.trod_struct Tryz.underlying29 hf
  have hk0 : Tryz.prog.cellsOf 3 = 1 := by kernel_rfl
  have hk1 : Tryz.prog.cellsOf 26 = 1 := by kernel_rfl
  have hk2 : Tryz.prog.cellsOf 27 = 1 := by kernel_rfl
  have h0 : DataW.trod enc Tryz.prog w 0 spare held n' 3 (([c0, c1, c2, c3, c4].drop 0).take (Tryz.prog.cellsOf 3)) = xs[0]? := hff 0 _ rfl
  have h1 : DataW.trod enc Tryz.prog w 0 spare held n' 3 (([c0, c1, c2, c3, c4].drop 1).take (Tryz.prog.cellsOf 3)) = xs[1]? := hff 1 _ rfl
  have h2 : DataW.trod enc Tryz.prog w 0 spare held n' 3 (([c0, c1, c2, c3, c4].drop 2).take (Tryz.prog.cellsOf 3)) = xs[2]? := hff 2 _ rfl
  have h3 : DataW.trod enc Tryz.prog w 0 spare held n' 26 (([c0, c1, c2, c3, c4].drop 3).take (Tryz.prog.cellsOf 26)) = xs[3]? := hff 3 _ rfl
  have h4 : DataW.trod enc Tryz.prog w 0 spare held n' 27 (([c0, c1, c2, c3, c4].drop 4).take (Tryz.prog.cellsOf 27)) = xs[4]? := hff 4 _ rfl
  have hx : xs.length = 5 := hxl
  rw [List.getElem?_eq_getElem (by omega)] at h0 h1 h2 h3 h4
  simp only [hk0, hk1, hk2] at h0 h1 h2 h3 h4
  obtain ⟨a0, e0, _, _⟩ := DataW.trod_int Tryz.underlying3 h0
  obtain ⟨a1, e1, _, _⟩ := DataW.trod_int Tryz.underlying3 h1
  obtain ⟨a2, e2, _, _⟩ := DataW.trod_int Tryz.underlying3 h2
  obtain ⟨l3, a3, n3, k3, e3, m3, s3⟩ := open_sl (m := 3) hourC Tryz.underlying26 (by kernel_rfl) (by decide) (fun _ _ _ h _ => el_hour h) h3
  obtain ⟨l4, a4, n4, k4, e4, m4, s4⟩ := open_sl (m := 2) seenC Tryz.underlying27 (by kernel_rfl) (by decide) (fun _ _ _ h _ => el_fseen h) h4
  simp at e0 e1 e2 e3 e4
  subst e0
  subst e1
  subst e2
  subst e3
  subst e4
  exact ⟨⟨a0, a1, a2, l3, l4⟩, ⟨⟨a3, n3, k3⟩, ⟨a4, n4, k4⟩⟩, rfl, ⟨s3, s4, m3, m4⟩⟩

theorem rows_gt {w : World} (l : List (RowsIn w)) (i : Nat) (hi : i < l.length) : SlL (heapI w) 5 ((gt (l.map fun u : RowsIn w => u.1.1) i).map bsC) (gt (l.map fun u : RowsIn w => u.1.2) i).a (gt (l.map fun u : RowsIn w => u.1.2) i).n ∧ (gt (l.map fun u : RowsIn w => u.1.2) i).n ≤ 9223372036854775807 := by
  have h1 : gt (l.map fun u : RowsIn w => u.1.1) i = l[i].1.1 := by simp [gt, List.getD, hi]
  have h2 : gt (l.map fun u : RowsIn w => u.1.2) i = l[i].1.2 := by simp [gt, List.getD, hi]
  rw [h1, h2]
  exact l[i].2

set_option maxRecDepth 100000 in
theorem open_boats {v : Value} {d : DataW H} {p : List MemPlace} (hv : Value.okWide Tryz.prog w .any 0 32 v) (h : DataW.Trod enc Tryz.prog w 0 spare held 32 v d p) : ∃ (s : Boats) (m : BoatsM), v = boatsV s m ∧ BoatsR (heapI w) s m := by
  obtain ⟨⟨cs⟩, rfl, hsz⟩ := okWide_struct Tryz.underlying32 hv
  have hc : Tryz.prog.cellsOf 32 = 5 := by kernel_rfl
  rw [hc] at hsz
  obtain ⟨c0, c1, c2, c3, c4, rfl⟩ := len5 (by simpa using hsz)
  obtain ⟨fuel, hf⟩ := h
  obtain ⟨xs, n', _, _, hlen, hxl, hff⟩ := DataW.trod_struct Tryz.underlying32 hf
  have hk0 : Tryz.prog.cellsOf 3 = 1 := by kernel_rfl
  have hk1 : Tryz.prog.cellsOf 30 = 1 := by kernel_rfl
  have h0 : DataW.trod enc Tryz.prog w 0 spare held n' 3 (([c0, c1, c2, c3, c4].drop 0).take (Tryz.prog.cellsOf 3)) = xs[0]? := hff 0 _ rfl
  have h1 : DataW.trod enc Tryz.prog w 0 spare held n' 3 (([c0, c1, c2, c3, c4].drop 1).take (Tryz.prog.cellsOf 3)) = xs[1]? := hff 1 _ rfl
  have h2 : DataW.trod enc Tryz.prog w 0 spare held n' 3 (([c0, c1, c2, c3, c4].drop 2).take (Tryz.prog.cellsOf 3)) = xs[2]? := hff 2 _ rfl
  have h3 : DataW.trod enc Tryz.prog w 0 spare held n' 3 (([c0, c1, c2, c3, c4].drop 3).take (Tryz.prog.cellsOf 3)) = xs[3]? := hff 3 _ rfl
  have h4 : DataW.trod enc Tryz.prog w 0 spare held n' 30 (([c0, c1, c2, c3, c4].drop 4).take (Tryz.prog.cellsOf 30)) = xs[4]? := hff 4 _ rfl
  have hx : xs.length = 5 := hxl
  rw [List.getElem?_eq_getElem (by omega)] at h0 h1 h2 h3 h4
  simp only [hk0, hk1] at h0 h1 h2 h3 h4
  obtain ⟨a0, e0, _, _⟩ := DataW.trod_int Tryz.underlying3 h0
  obtain ⟨a1, e1, _, _⟩ := DataW.trod_int Tryz.underlying3 h1
  obtain ⟨a2, e2, _, _⟩ := DataW.trod_int Tryz.underlying3 h2
  obtain ⟨a3, e3, _, _⟩ := DataW.trod_int Tryz.underlying3 h3
  obtain ⟨l4, a4, n4, k4, e4, m4, s4⟩ := open_sl (m := 1) (fun u : RowsIn w => slC u.1.2) Tryz.underlying30 (by kernel_rfl) (by decide) (fun _ _ _ h _ => el_rows h) h4
  simp at e0 e1 e2 e3 e4
  subst e0
  subst e1
  subst e2
  subst e3
  subst e4
  exact ⟨⟨a0, a1, a2, a3, l4.map fun u => u.1.1⟩, ⟨⟨a4, n4, k4⟩, l4.map fun u => u.1.2⟩, rfl, ⟨by rw [List.map_map]; exact s4, by simp, fun i hi => (rows_gt l4 i (by simpa using hi)).1, m4, fun i hi => (rows_gt l4 i (by simpa using hi)).2⟩⟩

set_option maxRecDepth 100000 in
theorem open_u8 {v : Value} {d : DataW H} {p : List MemPlace} (hv : Value.okWide Tryz.prog w .any 0 5 v) (h : DataW.Trod enc Tryz.prog w 0 spare held 5 v d p) : ∃ b : UInt8, v = bt b := by
  obtain ⟨z, rfl, rfl, rfl, wz⟩ := open_int Tryz.underlying5 hv h
  exact u8_bt wz
end

end Go.Proofs.YtaebnllfmkcpgaaGreatDoor
namespace Go.Proofs.YtaebnllfmkcpgaaGreatDoor
open Go.W Go.Bk Go.ChangeShapes Go.WideShapes Go.ChangeAt Go.RowKit Go.Deep

abbrev laidL : List (String × DataW Unit) := Rows.bookWritesRow.laid
theorem star_err : "*errors.errorString" = "*" ++ "errors.errorString" := by decide
theorem row_err : ∀ u, Tryz.prog.typeName? 3 u = some "*errors.errorString" → u = 267 := fun u h =>
  typeName_ptr_named (nm := "errors.errorString") (by rw [← star_err]; kernel_rfl) (by kernel_rfl) (by decide) u (by rw [← star_err]; exact h)
set_option maxRecDepth 100000 in
theorem marks_at {W : World} {x : String × DataW Unit} {r : List (String × DataW Unit)} (hx : x = ("dipworks/book.marks", Rows.laid_dipworks_book_marks)) (h : laidMet Tryz.prog (x :: r) W) : ∃ t fz, heapI W 0 = some (.cells (List.toArray [st [], st [63], st [33]]) t fz) := by
  subst hx
  obtain ⟨ps, ⟨g, t, cs, fuel, p, q, hg, ht, hv, hd, _, _⟩, _, _⟩ := h
  obtain rfl := Option.some.inj ((show Tryz.prog.globalNamed "dipworks/book.marks" = some 0 by kernel_rfl).symm.trans hg)
  obtain rfl := Option.some.inj ((show (Tryz.prog.globals[0]?).map (·.type) = some 157 by kernel_rfl).symm.trans ht)
  obtain ⟨t', fz, hh⟩ := var_heapI hg hv
  refine ⟨t', fz, ?_⟩
  rw [hh]
  obtain ⟨l⟩ := cs
  obtain ⟨xs, m, rfl, hx, hlen, hxl, hel⟩ := DataW.trod_array (show Tryz.prog.underlying 157 = some (.array 3 9) by kernel_rfl) hd
  have hc : Tryz.prog.cellsOf 157 = 3 := by kernel_rfl
  have hcS : Tryz.prog.cellsOf 9 = 1 := by kernel_rfl
  rw [hc] at hlen
  obtain ⟨c0, c1, c2, rfl⟩ := len3 hlen
  have h0 := hel 0 (by omega)
  have h1 := hel 1 (by omega)
  have h2 := hel 2 (by omega)
  simp only [Prod.mk.injEq, DataW.agg.injEq, Rows.laid_dipworks_book_marks] at hx
  rw [hcS] at h0 h1 h2
  match xs, hxl, hx, h0, h1, h2 with
  | [x0, x1, x2], _, hx, h0, h1, h2 =>
    obtain ⟨s0, e0, f0, _⟩ := DataW.trod_string Tryz.underlying9 (show DataW.trod _ Tryz.prog W 0 _ false m 9 [c0] = some x0 from h0)
    obtain ⟨s1, e1, f1, _⟩ := DataW.trod_string Tryz.underlying9 (show DataW.trod _ Tryz.prog W 0 _ false m 9 [c1] = some x1 from h1)
    obtain ⟨s2, e2, f2, _⟩ := DataW.trod_string Tryz.underlying9 (show DataW.trod _ Tryz.prog W 0 _ false m 9 [c2] = some x2 from h2)
    subst f0; subst f1; subst f2
    simp only [List.map_cons, List.map_nil, List.cons.injEq, DataW.lit.injEq, Lit.string.injEq, and_true] at hx
    simp only [List.cons.injEq, and_true] at e0 e1 e2
    subst e0; subst e1; subst e2
    obtain ⟨q0, q1, q2⟩ := hx.1
    obtain ⟨⟨d0⟩⟩ := s0
    obtain ⟨⟨d1⟩⟩ := s1
    obtain ⟨⟨d2⟩⟩ := s2
    simp only at q0 q1 q2
    subst q0; subst q1; subst q2
    rfl
set_option maxRecDepth 100000 in
theorem libD_of {W : World} (hS : W.ShapedOpen Tryz.prog) (hL : laidMetH Tryz.prog laidL W) : LibD (heapI W) := by
  rw [MakeChecks.laidMetH_plain _ _ _ (by kernel_rfl)] at hL
  have h0 : laidMet Tryz.prog [("math/bits.deBruijn32tab", Rows.laid_math_bits_deBruijn32tab), ("math/bits.deBruijn64tab", Rows.laid_math_bits_deBruijn64tab), ("internal/strconv.uint64pow10", Lib.tabData .u64 Lib.pow10Tab), ("unicode/utf8.acceptRanges", Rows.laid_unicode_utf8_acceptRanges), ("strconv.ErrRange", Rows.laid_strconv_ErrRange), ("strconv.ErrSyntax", Rows.laid_strconv_ErrSyntax), ("dipworks/book.marks", Rows.laid_dipworks_book_marks), ("unicode/utf8.first", Rows.laid_unicode_utf8_first)] W := hL
  have h2 := h0.tail.tail
  have hp : Lib.TabIs Tryz.prog W "internal/strconv.uint64pow10" .u64 Lib.pow10Tab := Lib.tabIs_of_head (g := 4) (t := 261) (e := 245) (n := 20) (by kernel_rfl) (by kernel_rfl) (by kernel_rfl) (by kernel_rfl) (by kernel_rfl) (by kernel_rfl) h2
  have h4 := h2.tail.tail
  obtain ⟨a1, s1, hv1, _⟩ := laid_sentinel (g := 3) (ti := 210) (tp := 267) (te := 269) (ts := 9) h4 (by kernel_rfl) (by kernel_rfl) Tryz.underlying210 row_err Tryz.underlying267 Tryz.underlying269 rfl rfl Tryz.underlying9 (by kernel_rfl) (by kernel_rfl)
  have h5 := h4.tail
  obtain ⟨a2, s2, hv2, _⟩ := laid_sentinel (g := 2) (ti := 210) (tp := 267) (te := 269) (ts := 9) h5 (by kernel_rfl) (by kernel_rfl) Tryz.underlying210 row_err Tryz.underlying267 Tryz.underlying269 rfl rfl Tryz.underlying9 (by kernel_rfl) (by kernel_rfl)
  have h6 := h5.tail
  obtain ⟨m, hm⟩ := cell_of_shapedOpen_int (k := .i64) (zero := #[.int .i64 0]) (t := 3) (g := 1) hS (of_decide_eq_true (by kernel_rfl)) (by kernel_rfl) rfl (by kernel_rfl) (by kernel_rfl) Tryz.underlying3
  obtain ⟨r, tm, fm, hmm⟩ := cell_heapI hm
  obtain ⟨t1, f1, g1⟩ := var_heapI (g := 3) (by kernel_rfl) hv1
  obtain ⟨t2, f2, g2⟩ := var_heapI (g := 2) (by kernel_rfl) hv2
  obtain ⟨t3, f3, g3⟩ := var_heapI (g := 4) (by kernel_rfl) hp
  exact ⟨marks_at rfl h6, ⟨m, r, tm, fm, hmm⟩, ⟨_, _, t2, f2, g2⟩, ⟨_, _, t1, f1, g1⟩, ⟨t3, f3, g3⟩⟩
theorem own_knob : ownKnob Tryz.prog.godebug = none := by kernel_rfl
theorem laid_met (os : Os) (args : Array Value) : laidMetH Tryz.prog laidL ((World.laidAll Tryz.prog os laidL).forCall (fun _ _ => 0) ⟨#[], args, []⟩).memory := by
  rw [MakeChecks.laidMetH_plain _ _ _ (by kernel_rfl)]; exact laidMet_laidAll _ (by kernel_rfl) (by kernel_rfl)
theorem laid_shaped (os : Os) (args : Array Value) : ((World.laidAll Tryz.prog os laidL).forCall (fun _ _ => 0) ⟨#[], args, []⟩).Shaped Tryz.prog := World.shaped_of_ZipB (by kernel_rfl) (by kernel_rfl)
theorem laid_out : laidOutB Tryz.prog = true := by kernel_rfl

end Go.Proofs.YtaebnllfmkcpgaaGreatDoor
