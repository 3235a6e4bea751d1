import Derived.Test.YtaiegbjgfdhgaaaGreatDoorXG1
import Derived.Test.YtaiegbjgfdhgaaaGreatDoorXG4
import Derived.Test.YtaiegbjgfdhgaaaGreatDoorXG5
import Derived.Test.YtaiegbjgfdhgaaaGreatDoorXG2
set_option linter.all false
set_option maxRecDepth 100000
set_option maxHeartbeats 4000000
attribute [local irreducible] Go.W.WL Go.W.WLF Go.W.WC Go.W.WCF Go.W.WP Go.W.WA Go.W.WQ Go.W.WH Go.W.WHo Go.W.WCn Go.W.Yd Go.W.Qt Go.W.SO Go.Code.wp Go.Code.wpIn
namespace Go.Proofs.YtaiegbjgfdhgaaaGreatDoor
open Go.W Go.Bk Go.ChangeShapes Go.WideShapes Go.RowKit Go.Deep
section
variable {α : Type} {l : List α}
include α l
theorem len2 (h : l.length = 2) : ∃ x0 x1, l = [x0, x1] := by
  match l, h with
  | [x0, x1], _ => exact ⟨x0, x1, rfl⟩
theorem len3 (h : l.length = 3) : ∃ x0 x1 x2, l = [x0, x1, x2] := by
  match l, h with
  | [x0, x1, x2], _ => exact ⟨x0, x1, x2, rfl⟩
theorem len5 (h : l.length = 5) : ∃ x0 x1 x2 x3 x4, l = [x0, x1, x2, x3, x4] := by
  match l, h with
  | [x0, x1, x2, x3, x4], _ => exact ⟨x0, x1, x2, x3, x4, rfl⟩
end
section
variable {H : Type} {enc : TypeId × Value → H} {w : World} {spare : Nat → Bool} {held : Bool}
set_option maxRecDepth 100000 in
theorem zqn {n : Nat} {cs : List Value} {y : DataW H × List MemPlace} (h : DataW.trod enc Tryz.prog w 0 spare held n 81 cs = some y) : ∃ lo hi, cs = [it lo, it hi] := by
  obtain ⟨xs, n', _, _, hlen, hxl, hf⟩ := DataW.trod_struct Tryz.underlying81 h;have hc : Tryz.prog.cellsOf 81 = 2 := by kernel_rfl
  rw [hc] at hlen;obtain ⟨c0, c1, rfl⟩ := len2 hlen;have hk0 : Tryz.prog.cellsOf 3 = 1 := by kernel_rfl
  have h0 : DataW.trod enc Tryz.prog w 0 spare held n' 3 (([c0, c1].drop 0).take (Tryz.prog.cellsOf 3)) = xs[0]? := hf 0 _ rfl;have h1 : DataW.trod enc Tryz.prog w 0 spare held n' 3 (([c0, c1].drop 1).take (Tryz.prog.cellsOf 3)) = xs[1]? := hf 1 _ rfl;have hx : xs.length = 2 := hxl;rw [List.getElem?_eq_getElem (by omega)] at h0 h1;simp only [hk0] at h0 h1;obtain ⟨a0, e0, _, _⟩ := DataW.trod_int Tryz.underlying3 h0;obtain ⟨a1, e1, _, _⟩ := DataW.trod_int Tryz.underlying3 h1;simp at e0 e1;subst e0;subst e1;exact ⟨a0, a1, rfl⟩
set_option maxRecDepth 100000 in
theorem zAi {n : Nat} {cs : List Value} {y : DataW H × List MemPlace} (h : DataW.trod enc Tryz.prog w 0 spare held n 139 cs = some y) : ∃ u : Hut, cs = hutC u := by
  obtain ⟨xs, n', _, _, hlen, hxl, hf⟩ := DataW.trod_struct Tryz.underlying139 h;have hc : Tryz.prog.cellsOf 139 = 3 := by kernel_rfl
  rw [hc] at hlen;obtain ⟨c0, c1, c2, rfl⟩ := len3 hlen;have hk0 : Tryz.prog.cellsOf 3 = 1 := by kernel_rfl
  have h0 : DataW.trod enc Tryz.prog w 0 spare held n' 3 (([c0, c1, c2].drop 0).take (Tryz.prog.cellsOf 3)) = xs[0]? := hf 0 _ rfl;have h1 : DataW.trod enc Tryz.prog w 0 spare held n' 3 (([c0, c1, c2].drop 1).take (Tryz.prog.cellsOf 3)) = xs[1]? := hf 1 _ rfl;have h2 : DataW.trod enc Tryz.prog w 0 spare held n' 3 (([c0, c1, c2].drop 2).take (Tryz.prog.cellsOf 3)) = xs[2]? := hf 2 _ rfl;have hx : xs.length = 3 := hxl;rw [List.getElem?_eq_getElem (by omega)] at h0 h1 h2;simp only [hk0] at h0 h1 h2;obtain ⟨a0, e0, _, _⟩ := DataW.trod_int Tryz.underlying3 h0;obtain ⟨a1, e1, _, _⟩ := DataW.trod_int Tryz.underlying3 h1;obtain ⟨a2, e2, _, _⟩ := DataW.trod_int Tryz.underlying3 h2;simp at e0 e1 e2;subst e0;subst e1;subst e2;exact ⟨⟨a0, a1, a2⟩, rfl⟩
set_option maxRecDepth 100000 in
theorem zy6 {n : Nat} {cs : List Value} {y : DataW H × List MemPlace} (h : DataW.trod enc Tryz.prog w 0 spare held n 141 cs = some y) : ∃ u : zoq, cs = znU u := by
  obtain ⟨xs, n', _, _, hlen, hxl, hf⟩ := DataW.trod_struct Tryz.underlying141 h;have hc : Tryz.prog.cellsOf 141 = 3 := by kernel_rfl
  rw [hc] at hlen;obtain ⟨c0, c1, c2, rfl⟩ := len3 hlen;have hk0 : Tryz.prog.cellsOf 81 = 2 := by kernel_rfl
  have hk1 : Tryz.prog.cellsOf 3 = 1 := by kernel_rfl
  have h0 : DataW.trod enc Tryz.prog w 0 spare held n' 81 (([c0, c1, c2].drop 0).take (Tryz.prog.cellsOf 81)) = xs[0]? := hf 0 _ rfl;have h1 : DataW.trod enc Tryz.prog w 0 spare held n' 3 (([c0, c1, c2].drop 2).take (Tryz.prog.cellsOf 3)) = xs[1]? := hf 1 _ rfl;have hx : xs.length = 2 := hxl;rw [List.getElem?_eq_getElem (by omega)] at h0 h1;simp only [hk0, hk1] at h0 h1;obtain ⟨a0, b0, e0⟩ := zqn h0;obtain ⟨a1, e1, _, _⟩ := DataW.trod_int Tryz.underlying3 h1;simp at e0 e1;obtain ⟨rfl, rfl⟩ := e0;subst e1;exact ⟨⟨⟨a0, b0⟩, a1⟩, rfl⟩
set_option maxRecDepth 100000 in
theorem zwe {n : Nat} {cs : List Value} {y : DataW H × List MemPlace} (h : DataW.trod enc Tryz.prog w 0 spare held n 144 cs = some y) : ∃ u : zoD, cs = znc u := by
  obtain ⟨xs, n', _, _, hlen, hxl, hf⟩ := DataW.trod_struct Tryz.underlying144 h;have hc : Tryz.prog.cellsOf 144 = 2 := by kernel_rfl
  rw [hc] at hlen;obtain ⟨c0, c1, rfl⟩ := len2 hlen;have hk0 : Tryz.prog.cellsOf 3 = 1 := by kernel_rfl
  have hk1 : Tryz.prog.cellsOf 4 = 1 := by kernel_rfl
  have h0 : DataW.trod enc Tryz.prog w 0 spare held n' 3 (([c0, c1].drop 0).take (Tryz.prog.cellsOf 3)) = xs[0]? := hf 0 _ rfl;have h1 : DataW.trod enc Tryz.prog w 0 spare held n' 4 (([c0, c1].drop 1).take (Tryz.prog.cellsOf 4)) = xs[1]? := hf 1 _ rfl;have hx : xs.length = 2 := hxl;rw [List.getElem?_eq_getElem (by omega)] at h0 h1;simp only [hk0, hk1] at h0 h1;obtain ⟨a0, e0, _, _⟩ := DataW.trod_int Tryz.underlying3 h0;obtain ⟨a1, e1, _⟩ := DataW.trod_bool Tryz.underlying4 h1;simp at e0 e1;subst e0;subst e1;exact ⟨⟨a0, a1⟩, rfl⟩
set_option maxRecDepth 100000 in
section
variable {n : Nat} {cs : List Value} {y : DataW H × List MemPlace}
include n cs y
theorem zwd (h : DataW.trod enc Tryz.prog w 0 spare held n 146 cs = some y) : ∃ u : zmz, cs = bsC u := by
  obtain ⟨xs, n', _, _, hlen, hxl, hf⟩ := DataW.trod_struct Tryz.underlying146 h;have hc : Tryz.prog.cellsOf 146 = 5 := by kernel_rfl
  rw [hc] at hlen;obtain ⟨c0, c1, c2, c3, c4, rfl⟩ := len5 hlen;have hk0 : Tryz.prog.cellsOf 3 = 1 := by kernel_rfl
  have hk1 : Tryz.prog.cellsOf 81 = 2 := by kernel_rfl
  have h0 : DataW.trod enc Tryz.prog w 0 spare held n' 3 (([c0, c1, c2, c3, c4].drop 0).take (Tryz.prog.cellsOf 3)) = xs[0]? := hf 0 _ rfl;have h1 : DataW.trod enc Tryz.prog w 0 spare held n' 81 (([c0, c1, c2, c3, c4].drop 1).take (Tryz.prog.cellsOf 81)) = xs[1]? := hf 1 _ rfl;have h2 : DataW.trod enc Tryz.prog w 0 spare held n' 81 (([c0, c1, c2, c3, c4].drop 3).take (Tryz.prog.cellsOf 81)) = xs[2]? := hf 2 _ rfl;have hx : xs.length = 3 := hxl;rw [List.getElem?_eq_getElem (by omega)] at h0 h1 h2;simp only [hk0, hk1] at h0 h1 h2;obtain ⟨a0, e0, _, _⟩ := DataW.trod_int Tryz.underlying3 h0;obtain ⟨a1, b1, e1⟩ := zqn h1;obtain ⟨a2, b2, e2⟩ := zqn h2;simp at e0 e1 e2;subst e0;obtain ⟨rfl, rfl⟩ := e1;obtain ⟨rfl, rfl⟩ := e2;exact ⟨⟨a0, ⟨a1, b1⟩, ⟨a2, b2⟩⟩, rfl⟩
theorem zAj (h : DataW.trod enc Tryz.prog w 0 spare held n 81 cs = some y) : ∃ u : Sp, cs = spC u := by
  obtain ⟨lo, hi, e⟩ := zqn h;exact ⟨⟨lo, hi⟩, e⟩
end
theorem wf_u8 {n : Int} (h : (Lit.int .u8 n).wf = true) : 0 ≤ n ∧ n ≤ 255 := by
  simp [Lit.wf, IntKind.min, IntKind.max, IntKind.bits, IntKind.signed] at h;omega
set_option maxRecDepth 100000 in
theorem zHM {n : Int} (h : (Lit.int .u8 n).wf = true) : ∃ b : UInt8, Value.int .u8 n = bt b := by
  have := wf_u8 h;refine ⟨UInt8.ofNat n.toNat, ?_⟩;rw [btN (by omega)]; congr 1; omega
abbrev RowsIn (w : World) := { x : List zmz × Sl // SlL (wY w) 5 (x.1.map bsC) x.2.a x.2.n ∧ x.2.n ≤ 9223372036854775807 }
instance (w : World) : Inhabited (RowsIn w) := ⟨⟨([], ⟨none, 0, 0⟩), SlL.nil _ _, Nat.zero_le _⟩⟩
set_option maxRecDepth 100000 in
theorem zy7 {n : Nat} {cs : List Value} {y : DataW H × List MemPlace} (h : DataW.trod enc Tryz.prog w 0 spare held n 57 cs = some y) : ∃ u : RowsIn w, cs = slC u.1.2 := by
  obtain ⟨l, a, n1, c1, e, m1, s1⟩ := YN (m := 5) bsC Tryz.underlying57 zk (by decide) (fun _ _ _ h _ => zwd h) h;exact ⟨⟨(l, ⟨a, n1, c1⟩), s1, m1⟩, e⟩
set_option maxRecDepth 100000 in
theorem zv7 {v : Value} {d : DataW H} {p : List MemPlace} (hv : Value.okWide Tryz.prog w .any 0 49 v) (h : DataW.Trod enc Tryz.prog w 0 spare held 49 v d p) : ∃ (s : Surf) (m : zn4), v = zno s m ∧ zn1 (wY w) s m := by
  obtain ⟨⟨cs⟩, rfl, hsz⟩ := okWide_struct Tryz.underlying49 hv;have hc : Tryz.prog.cellsOf 49 = 5 := by kernel_rfl
  rw [hc] at hsz;obtain ⟨c0, c1, c2, c3, c4, rfl⟩ := len5 (by simpa using hsz);obtain ⟨fuel, hf⟩ := h;obtain ⟨xs, n', _, _, hlen, hxl, hff⟩ := DataW.trod_struct Tryz.underlying49 hf;have hk0 : Tryz.prog.cellsOf 3 = 1 := by kernel_rfl
  have hk1 : Tryz.prog.cellsOf 46 = 1 := by kernel_rfl
  have hk2 : Tryz.prog.cellsOf 47 = 1 := by kernel_rfl
  have h0 : DataW.trod enc Tryz.prog w 0 spare held n' 3 (([c0, c1, c2, c3, c4].drop 0).take (Tryz.prog.cellsOf 3)) = xs[0]? := hff 0 _ rfl;have h1 : DataW.trod enc Tryz.prog w 0 spare held n' 3 (([c0, c1, c2, c3, c4].drop 1).take (Tryz.prog.cellsOf 3)) = xs[1]? := hff 1 _ rfl;have h2 : DataW.trod enc Tryz.prog w 0 spare held n' 46 (([c0, c1, c2, c3, c4].drop 2).take (Tryz.prog.cellsOf 46)) = xs[2]? := hff 2 _ rfl;have h3 : DataW.trod enc Tryz.prog w 0 spare held n' 46 (([c0, c1, c2, c3, c4].drop 3).take (Tryz.prog.cellsOf 46)) = xs[3]? := hff 3 _ rfl;have h4 : DataW.trod enc Tryz.prog w 0 spare held n' 47 (([c0, c1, c2, c3, c4].drop 4).take (Tryz.prog.cellsOf 47)) = xs[4]? := hff 4 _ rfl;have hx : xs.length = 5 := hxl;rw [List.getElem?_eq_getElem (by omega)] at h0 h1 h2 h3 h4;simp only [hk0, hk1, hk2] at h0 h1 h2 h3 h4;obtain ⟨a0, e0, _, _⟩ := DataW.trod_int Tryz.underlying3 h0;obtain ⟨a1, e1, _, _⟩ := DataW.trod_int Tryz.underlying3 h1;obtain ⟨l2, a2, n2, k2, e2, m2, s2⟩ := YN (m := 2) spC Tryz.underlying46 zk (by decide) (fun _ _ _ h _ => zAj h) h2;obtain ⟨l3, a3, n3, k3, e3, m3, s3⟩ := YN (m := 2) spC Tryz.underlying46 zk (by decide) (fun _ _ _ h _ => zAj h) h3;obtain ⟨l4, a4, n4, k4, e4, m4, s4⟩ := YN (m := 3) hutC Tryz.underlying47 zk (by decide) (fun _ _ _ h _ => zAi h) h4;simp at e0 e1 e2 e3 e4;subst e0;subst e1;subst e2;subst e3;subst e4;exact ⟨⟨a0, a1, l2, l3, l4⟩, ⟨⟨a2, n2, k2⟩, ⟨a3, n3, k3⟩, ⟨a4, n4, k4⟩⟩, rfl, ⟨s2, s3, s4, m2, m3, m4⟩⟩
set_option maxRecDepth 100000 in
theorem zv6 {v : Value} {d : DataW H} {p : List MemPlace} (hv : Value.okWide Tryz.prog w .any 0 53 v) (h : DataW.Trod enc Tryz.prog w 0 spare held 53 v d p) : ∃ (s : Flag) (m : zmG), v = znT s m ∧ znr (wY w) s m := by
  obtain ⟨⟨cs⟩, rfl, hsz⟩ := okWide_struct Tryz.underlying53 hv;have hc : Tryz.prog.cellsOf 53 = 5 := by kernel_rfl
  rw [hc] at hsz;obtain ⟨c0, c1, c2, c3, c4, rfl⟩ := len5 (by simpa using hsz);obtain ⟨fuel, hf⟩ := h;obtain ⟨xs, n', _, _, hlen, hxl, hff⟩ := DataW.trod_struct Tryz.underlying53 hf;have hk0 : Tryz.prog.cellsOf 3 = 1 := by kernel_rfl
  have hk1 : Tryz.prog.cellsOf 50 = 1 := by kernel_rfl
  have hk2 : Tryz.prog.cellsOf 51 = 1 := by kernel_rfl
  have h0 : DataW.trod enc Tryz.prog w 0 spare held n' 3 (([c0, c1, c2, c3, c4].drop 0).take (Tryz.prog.cellsOf 3)) = xs[0]? := hff 0 _ rfl;have h1 : DataW.trod enc Tryz.prog w 0 spare held n' 3 (([c0, c1, c2, c3, c4].drop 1).take (Tryz.prog.cellsOf 3)) = xs[1]? := hff 1 _ rfl;have h2 : DataW.trod enc Tryz.prog w 0 spare held n' 3 (([c0, c1, c2, c3, c4].drop 2).take (Tryz.prog.cellsOf 3)) = xs[2]? := hff 2 _ rfl;have h3 : DataW.trod enc Tryz.prog w 0 spare held n' 50 (([c0, c1, c2, c3, c4].drop 3).take (Tryz.prog.cellsOf 50)) = xs[3]? := hff 3 _ rfl;have h4 : DataW.trod enc Tryz.prog w 0 spare held n' 51 (([c0, c1, c2, c3, c4].drop 4).take (Tryz.prog.cellsOf 51)) = xs[4]? := hff 4 _ rfl;have hx : xs.length = 5 := hxl;rw [List.getElem?_eq_getElem (by omega)] at h0 h1 h2 h3 h4;simp only [hk0, hk1, hk2] at h0 h1 h2 h3 h4;obtain ⟨a0, e0, _, _⟩ := DataW.trod_int Tryz.underlying3 h0;obtain ⟨a1, e1, _, _⟩ := DataW.trod_int Tryz.underlying3 h1;obtain ⟨a2, e2, _, _⟩ := DataW.trod_int Tryz.underlying3 h2;obtain ⟨l3, a3, n3, k3, e3, m3, s3⟩ := YN (m := 3) znU Tryz.underlying50 zk (by decide) (fun _ _ _ h _ => zy6 h) h3;obtain ⟨l4, a4, n4, k4, e4, m4, s4⟩ := YN (m := 2) znc Tryz.underlying51 zk (by decide) (fun _ _ _ h _ => zwe h) h4;simp at e0 e1 e2 e3 e4;subst e0;subst e1;subst e2;subst e3;subst e4;exact ⟨⟨a0, a1, a2, l3, l4⟩, ⟨⟨a3, n3, k3⟩, ⟨a4, n4, k4⟩⟩, rfl, ⟨s3, s4, m3, m4⟩⟩
theorem zvm {w : World} (l : List (RowsIn w)) (i : Nat) (hi : i < l.length) : SlL (wY w) 5 ((gt (l.map fun u : RowsIn w => u.1.1) i).map bsC) (gt (l.map fun u : RowsIn w => u.1.2) i).a (gt (l.map fun u : RowsIn w => u.1.2) i).n ∧ (gt (l.map fun u : RowsIn w => u.1.2) i).n ≤ 9223372036854775807 := by
  have h1 : gt (l.map fun u : RowsIn w => u.1.1) i = l[i].1.1 := by simp [gt, List.getD, hi]
  have h2 : gt (l.map fun u : RowsIn w => u.1.2) i = l[i].1.2 := by simp [gt, List.getD, hi]
  rw [h1, h2];exact l[i].2
set_option maxRecDepth 100000 in
theorem ztK {v : Value} {d : DataW H} {p : List MemPlace} (hv : Value.okWide Tryz.prog w .any 0 56 v) (h : DataW.Trod enc Tryz.prog w 0 spare held 56 v d p) : ∃ (s : xb) (m : zmn), v = zmP s m ∧ zmv (wY w) s m := by
  obtain ⟨⟨cs⟩, rfl, hsz⟩ := okWide_struct Tryz.underlying56 hv;have hc : Tryz.prog.cellsOf 56 = 5 := by kernel_rfl
  rw [hc] at hsz;obtain ⟨c0, c1, c2, c3, c4, rfl⟩ := len5 (by simpa using hsz);obtain ⟨fuel, hf⟩ := h;obtain ⟨xs, n', _, _, hlen, hxl, hff⟩ := DataW.trod_struct Tryz.underlying56 hf;have hk0 : Tryz.prog.cellsOf 3 = 1 := by kernel_rfl
  have hk1 : Tryz.prog.cellsOf 54 = 1 := by kernel_rfl
  have h0 : DataW.trod enc Tryz.prog w 0 spare held n' 3 (([c0, c1, c2, c3, c4].drop 0).take (Tryz.prog.cellsOf 3)) = xs[0]? := hff 0 _ rfl;have h1 : DataW.trod enc Tryz.prog w 0 spare held n' 3 (([c0, c1, c2, c3, c4].drop 1).take (Tryz.prog.cellsOf 3)) = xs[1]? := hff 1 _ rfl;have h2 : DataW.trod enc Tryz.prog w 0 spare held n' 3 (([c0, c1, c2, c3, c4].drop 2).take (Tryz.prog.cellsOf 3)) = xs[2]? := hff 2 _ rfl;have h3 : DataW.trod enc Tryz.prog w 0 spare held n' 3 (([c0, c1, c2, c3, c4].drop 3).take (Tryz.prog.cellsOf 3)) = xs[3]? := hff 3 _ rfl;have h4 : DataW.trod enc Tryz.prog w 0 spare held n' 54 (([c0, c1, c2, c3, c4].drop 4).take (Tryz.prog.cellsOf 54)) = xs[4]? := hff 4 _ rfl;have hx : xs.length = 5 := hxl;rw [List.getElem?_eq_getElem (by omega)] at h0 h1 h2 h3 h4;simp only [hk0, hk1] at h0 h1 h2 h3 h4;obtain ⟨a0, e0, _, _⟩ := DataW.trod_int Tryz.underlying3 h0;obtain ⟨a1, e1, _, _⟩ := DataW.trod_int Tryz.underlying3 h1;obtain ⟨a2, e2, _, _⟩ := DataW.trod_int Tryz.underlying3 h2;obtain ⟨a3, e3, _, _⟩ := DataW.trod_int Tryz.underlying3 h3;obtain ⟨l4, a4, n4, k4, e4, m4, s4⟩ := YN (m := 1) (fun u : RowsIn w => slC u.1.2) Tryz.underlying54 zk (by decide) (fun _ _ _ h _ => zy7 h) h4;simp at e0 e1 e2 e3 e4;subst e0;subst e1;subst e2;subst e3;subst e4;exact ⟨⟨a0, a1, a2, a3, l4.map fun u => u.1.1⟩, ⟨⟨a4, n4, k4⟩, l4.map fun u => u.1.2⟩, rfl, ⟨by rw [List.map_map]; exact s4, by simp, fun i hi => (zvm l4 i (by simpa using hi)).1, m4, fun i hi => (zvm l4 i (by simpa using hi)).2⟩⟩
set_option maxRecDepth 100000 in
theorem x5 {v : Value} {d : DataW H} {p : List MemPlace} (hv : Value.okWide Tryz.prog w .any 0 5 v) (h : DataW.Trod enc Tryz.prog w 0 spare held 5 v d p) : ∃ b : UInt8, v = bt b := by
  obtain ⟨z, rfl, rfl, rfl, wz⟩ := open_int Tryz.underlying5 hv h;exact zHM wz
end
theorem Y5 {H : Type} {enc : TypeId × Value → H} {P : Program} {w : World} {base : Nat} {spare : Nat → Bool} {held : Bool} {t0 t1 t2 t3 t4 : TypeId} {args : Array Value} {ds : List (DataW H)} {ps : List MemPlace} (h : DataW.TrodAll enc P w base spare held [t0, t1, t2, t3, t4] args.toList ds ps) :
    ∃ v0 v1 v2 v3 v4 d0 d1 d2 d3 d4 p0 p1 p2 p3 p4, args = #[v0, v1, v2, v3, v4] ∧ ds = [d0, d1, d2, d3, d4] ∧ ps = p0 ++ (p1 ++ (p2 ++ (p3 ++ p4))) ∧
      DataW.Trod enc P w base spare held t0 v0 d0 p0 ∧ DataW.Trod enc P w base spare held t1 v1 d1 p1 ∧ DataW.Trod enc P w base spare held t2 v2 d2 p2 ∧ DataW.Trod enc P w base spare held t3 v3 d3 p3 ∧ DataW.Trod enc P w base spare held t4 v4 d4 p4 := by
  obtain ⟨l⟩ := args;simp only at h;obtain ⟨v0, l0, d0, e0, p0, q0, rfl, rfl, rfl, h0, h⟩ := trodAll_cons h;obtain ⟨v1, l1, d1, e1, p1, q1, rfl, rfl, rfl, h1, h⟩ := trodAll_cons h;obtain ⟨v2, l2, d2, e2, p2, q2, rfl, rfl, rfl, h2, h⟩ := trodAll_cons h;obtain ⟨v3, l3, d3, e3, p3, q3, rfl, rfl, rfl, h3, h⟩ := trodAll_cons h;obtain ⟨v4, l4, d4, e4, p4, q4, rfl, rfl, rfl, h4, h⟩ := trodAll_cons h;obtain ⟨rfl, rfl, rfl⟩ := trodAll_nil h;exact ⟨v0, v1, v2, v3, v4, d0, d1, d2, d3, d4, p0, p1, p2, p3, p4, rfl, rfl, by simp, h0, h1, h2, h3, h4⟩
end Go.Proofs.YtaiegbjgfdhgaaaGreatDoor
namespace Go.Proofs.YtaiegbjgfdhgaaaGreatDoor
open Go.W Go.Bk Go.ChangeShapes Go.WideShapes Go.ChangeAt Go.RowKit Go.Deep
theorem XY : "*errors.errorString" = "*" ++ "errors.errorString" := by decide
theorem UI : ∀ u, Tryz.prog.typeName? 3 u = some "*errors.errorString" → u = 428 := fun u h =>
  typeName_ptr_named (nm := "errors.errorString") (by rw [← XY]; kernel_rfl) zk (by decide) u (by rw [← XY]; exact h)
set_option maxRecDepth 100000 in
theorem zwL {W : World} {x : String × DataW Unit} {r : List (String × DataW Unit)} (hx : x = ("dipworks/book.marks", Rows.laid_dipworks_book_marks)) (h : laidMet Tryz.prog (x :: r) W) : ∃ t fz, wY W 0 = some (.cells (List.toArray [st [], st [63], st [33]]) t fz) := by
  subst hx;obtain ⟨ps, ⟨g, t, cs, fuel, p, q, hg, ht, hv, hd, _, _⟩, _, _⟩ := h;obtain rfl := Option.some.inj ((show Tryz.prog.globalNamed "dipworks/book.marks" = some 0 by kernel_rfl).symm.trans hg);obtain rfl := Option.some.inj ((show (Tryz.prog.globals[0]?).map (·.type) = some 231 by kernel_rfl).symm.trans ht)
  obtain ⟨t', fz, hh⟩ := wu hg hv;refine ⟨t', fz, ?_⟩;rw [hh];obtain ⟨l⟩ := cs;obtain ⟨xs, m, rfl, hx, hlen, hxl, hel⟩ := DataW.trod_array (show Tryz.prog.underlying 231 = some (.array 3 9) by kernel_rfl) hd;have hc : Tryz.prog.cellsOf 231 = 3 := by kernel_rfl
  have hcS : Tryz.prog.cellsOf 9 = 1 := by kernel_rfl
  rw [hc] at hlen;obtain ⟨c0, c1, c2, rfl⟩ := len3 hlen;have h0 := hel 0 (by omega);have h1 := hel 1 (by omega);have h2 := hel 2 (by omega);simp only [Prod.mk.injEq, DataW.agg.injEq, Rows.laid_dipworks_book_marks] at hx;rw [hcS] at h0 h1 h2
  match xs, hxl, hx, h0, h1, h2 with
  | [x0, x1, x2], _, hx, h0, h1, h2 =>
    obtain ⟨s0, e0, f0, _⟩ := DataW.trod_string Tryz.underlying9 (show DataW.trod _ Tryz.prog W 0 _ false m 9 [c0] = some x0 from h0);obtain ⟨s1, e1, f1, _⟩ := DataW.trod_string Tryz.underlying9 (show DataW.trod _ Tryz.prog W 0 _ false m 9 [c1] = some x1 from h1);obtain ⟨s2, e2, f2, _⟩ := DataW.trod_string Tryz.underlying9 (show DataW.trod _ Tryz.prog W 0 _ false m 9 [c2] = some x2 from h2);subst f0; subst f1; subst f2;simp only [List.map_cons, List.map_nil, List.cons.injEq, DataW.lit.injEq, Lit.string.injEq, and_true] at hx;simp only [List.cons.injEq, and_true] at e0 e1 e2;subst e0; subst e1; subst e2;obtain ⟨q0, q1, q2⟩ := hx.1;obtain ⟨⟨d0⟩⟩ := s0;obtain ⟨⟨d1⟩⟩ := s1;obtain ⟨⟨d2⟩⟩ := s2;simp only at q0 q1 q2;subst q0; subst q1; subst q2;rfl
theorem qv : ownKnob Tryz.prog.godebug = none := by kernel_rfl
theorem qp : laidOutB Tryz.prog = true := by kernel_rfl
abbrev laidB : List (String × DataW Unit) := Rows.topBooksRow.laid
set_option maxRecDepth 100000 in
theorem zuK {W : World} (hS : W.ShapedOpen Tryz.prog) (hL : laidMetH Tryz.prog laidB W) : LibD true (wY W) ∧ LibT (wY W) := by
  rw [MakeChecks.laidMetH_plain _ _ _ zk] at hL;have h0 : laidMet Tryz.prog [("math/bits.deBruijn32tab", Rows.laid_math_bits_deBruijn32tab), ("math/bits.deBruijn64tab", Lib.tabData .u8 (Lib.deBruijn64tab.map fun n : Nat => (n : Int))), ("internal/strconv.uint64pow10", Lib.tabData .u64 Lib.pow10Tab), ("unicode/utf8.acceptRanges", Rows.laid_unicode_utf8_acceptRanges), ("strconv.ErrRange", Rows.laid_strconv_ErrRange), ("strconv.ErrSyntax", Rows.laid_strconv_ErrSyntax), ("dipworks/book.marks", Rows.laid_dipworks_book_marks), ("unicode/utf8.first", Rows.laid_unicode_utf8_first)] W := hL;have h1 := h0.tail;have hb : Lib.TabIs Tryz.prog W "math/bits.deBruijn64tab" .u8 (Lib.deBruijn64tab.map fun n : Nat => (n : Int)) := Lib.tabIs_of_head (g := 1) (t := 395) (e := 5) (n := 64) zk zk zk zk zk zk h1;have h2 := h1.tail;have hp : Lib.TabIs Tryz.prog W "internal/strconv.uint64pow10" .u64 Lib.pow10Tab := Lib.tabIs_of_head (g := 6) (t := 424) (e := 191) (n := 20) zk zk zk zk zk zk h2;have h4 := h2.tail.tail;obtain ⟨a1, s1, hv1, _⟩ := laid_sentinel (g := 4) (ti := 311) (tp := 428) (te := 430) (ts := 9) h4 zk zk Tryz.underlying311 UI Tryz.underlying428 Tryz.underlying430 rfl rfl Tryz.underlying9 zk zk;have h5 := h4.tail;obtain ⟨a2, s2, hv2, _⟩ := laid_sentinel (g := 3) (ti := 311) (tp := 428) (te := 430) (ts := 9) h5 zk zk Tryz.underlying311 UI Tryz.underlying428 Tryz.underlying430 rfl rfl Tryz.underlying9 zk zk;have h6 := h5.tail;obtain ⟨m, hm⟩ := cell_of_shapedOpen_int (k := .i64) (zero := #[.int .i64 0]) (t := 3) (g := 2) hS (of_decide_eq_true zk) zk rfl zk zk Tryz.underlying3;obtain ⟨r, tm, fm, hmm⟩ := Wu hm;obtain ⟨t1, f1, g1⟩ := wu (g := 4) zk hv1;obtain ⟨t2, f2, g2⟩ := wu (g := 3) zk hv2;obtain ⟨t3, f3, g3⟩ := wu (g := 6) zk hp;obtain ⟨t5, f5, g5⟩ := wu (g := 1) zk hb;exact ⟨⟨fun _ => zwL rfl h6, ⟨m, r, tm, fm, hmm⟩, ⟨_, _, t2, f2, g2⟩, ⟨_, _, t1, f1, g1⟩, ⟨t3, f3, g3⟩⟩, ⟨t5, f5, by rw [g5]; unfold tabV; rw [List.map_map]; rfl⟩⟩
theorem zuJ (os : Os) (args : Array Value) : laidMetH Tryz.prog laidB ((World.laidAll Tryz.prog os laidB).forCall (fun _ _ => 0) ⟨#[], args, []⟩).memory := by
  rw [MakeChecks.laidMetH_plain _ _ _ zk]; exact laidMet_laidAll _ zk zk
theorem zre (os : Os) (args : Array Value) : ((World.laidAll Tryz.prog os laidB).forCall (fun _ _ => 0) ⟨#[], args, []⟩).Shaped Tryz.prog := World.shaped_of_ZipB zk zk
end Go.Proofs.YtaiegbjgfdhgaaaGreatDoor
