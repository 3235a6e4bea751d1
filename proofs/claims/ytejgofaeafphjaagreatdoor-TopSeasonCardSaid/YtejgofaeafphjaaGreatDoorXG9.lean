import Derived.Test.YtejgofaeafphjaaGreatDoorXG1
import Derived.Test.YtejgofaeafphjaaGreatDoorXG7
import Derived.Test.YtejgofaeafphjaaGreatDoorXG5
import Derived.Test.YtejgofaeafphjaaGreatDoorXG6
import Derived.Test.YtejgofaeafphjaaGreatDoorXG2
set_option linter.all false
set_option maxRecDepth 100000
set_option maxHeartbeats 4000000
attribute [local irreducible] Go.W.WL Go.W.WLF Go.W.WC Go.W.WCF Go.W.WP Go.W.WA Go.W.WQ Go.W.WH Go.W.WHo Go.W.WCn Go.W.Yd Go.W.Qt Go.W.SO Go.Code.wp Go.Code.wpIn
namespace Go.Proofs.YtejgofaeafphjaaGreatDoor
open Go.W Go.Ti Go.ChangeShapes Go.WideShapes Go.RowKit Go.Deep
theorem Y5 {H : Type} {enc : TypeId × Value → H} {P : Program} {w : World} {base : Nat} {spare : Nat → Bool} {held : Bool} {t0 t1 t2 t3 t4 : TypeId} {args : Array Value} {ds : List (DataW H)} {ps : List MemPlace} (h : DataW.TrodAll enc P w base spare held [t0, t1, t2, t3, t4] args.toList ds ps) :
    ∃ v0 v1 v2 v3 v4 d0 d1 d2 d3 d4 p0 p1 p2 p3 p4, args = #[v0, v1, v2, v3, v4] ∧ ds = [d0, d1, d2, d3, d4] ∧ ps = p0 ++ (p1 ++ (p2 ++ (p3 ++ p4))) ∧
      DataW.Trod enc P w base spare held t0 v0 d0 p0 ∧ DataW.Trod enc P w base spare held t1 v1 d1 p1 ∧ DataW.Trod enc P w base spare held t2 v2 d2 p2 ∧ DataW.Trod enc P w base spare held t3 v3 d3 p3 ∧ DataW.Trod enc P w base spare held t4 v4 d4 p4 := by
  obtain ⟨l⟩ := args;simp only at h;obtain ⟨v0, l0, d0, e0, p0, q0, rfl, rfl, rfl, h0, h⟩ := trodAll_cons h;obtain ⟨v1, l1, d1, e1, p1, q1, rfl, rfl, rfl, h1, h⟩ := trodAll_cons h;obtain ⟨v2, l2, d2, e2, p2, q2, rfl, rfl, rfl, h2, h⟩ := trodAll_cons h;obtain ⟨v3, l3, d3, e3, p3, q3, rfl, rfl, rfl, h3, h⟩ := trodAll_cons h;obtain ⟨v4, l4, d4, e4, p4, q4, rfl, rfl, rfl, h4, h⟩ := trodAll_cons h;obtain ⟨rfl, rfl, rfl⟩ := trodAll_nil h;exact ⟨v0, v1, v2, v3, v4, d0, d1, d2, d3, d4, p0, p1, p2, p3, p4, rfl, rfl, by simp, h0, h1, h2, h3, h4⟩
theorem len2 {α : Type} {l : List α} (h : l.length = 2) : ∃ a b, l = [a, b] := by
  match l, h with
  | [a, b], _ => exact ⟨a, b, rfl⟩
theorem len3 {α : Type} {l : List α} (h : l.length = 3) : ∃ a b c, l = [a, b, c] := by
  match l, h with
  | [a, b, c], _ => exact ⟨a, b, c, rfl⟩
section
variable {H : Type} {enc : TypeId × Value → H} {w : World} {spare : Nat → Bool} {held : Bool}
set_option maxRecDepth 100000 in
theorem Kk {n : Nat} {cs : List Value} {y : DataW H × List MemPlace} (h : DataW.trod enc Tryz.prog w 0 spare held n 39 cs = some y) : ∃ lo hi, cs = [it lo, it hi] := by
  obtain ⟨xs, n', _, _, hlen, hxl, hf⟩ := DataW.trod_struct Tryz.underlying39 h;have hc : Tryz.prog.cellsOf 39 = 2 := by kernel_rfl
  have hcI : Tryz.prog.cellsOf 3 = 1 := by kernel_rfl
  have hcS : Tryz.prog.cellsOf 39 = 2 := by kernel_rfl
  rw [hc] at hlen;obtain ⟨c0, c1, rfl⟩ := len2 hlen;have h0 : DataW.trod enc Tryz.prog w 0 spare held n' 3 (([c0, c1].drop 0).take (Tryz.prog.cellsOf 3)) = xs[0]? := hf 0 _ rfl;have h1 : DataW.trod enc Tryz.prog w 0 spare held n' 3 (([c0, c1].drop 1).take (Tryz.prog.cellsOf 3)) = xs[1]? := hf 1 _ rfl;have hx : xs.length = 2 := hxl;rw [List.getElem?_eq_getElem (by omega)] at h0 h1;simp only [hcI] at h0 h1;obtain ⟨a0, e0, _, _⟩ := DataW.trod_int Tryz.underlying3 h0;obtain ⟨a1, e1, _, _⟩ := DataW.trod_int Tryz.underlying3 h1;simp at e0 e1;subst e0;subst e1;exact ⟨a0, a1, rfl⟩
set_option maxRecDepth 100000 in
section
variable {n : Nat} {cs : List Value} {y : DataW H × List MemPlace}
include n cs y
theorem zcj (h : DataW.trod enc Tryz.prog w 0 spare held n 62 cs = some y) : ∃ u : Go.Ti.Mark, cs = ub u := by
  obtain ⟨xs, n', _, _, hlen, hxl, hf⟩ := DataW.trod_struct Tryz.underlying62 h;have hc : Tryz.prog.cellsOf 62 = 3 := by kernel_rfl
  have hcI : Tryz.prog.cellsOf 3 = 1 := by kernel_rfl
  have hcS : Tryz.prog.cellsOf 39 = 2 := by kernel_rfl
  rw [hc] at hlen;obtain ⟨c0, c1, c2, rfl⟩ := len3 hlen;have h0 : DataW.trod enc Tryz.prog w 0 spare held n' 3 (([c0, c1, c2].drop 0).take (Tryz.prog.cellsOf 3)) = xs[0]? := hf 0 _ rfl;have h1 : DataW.trod enc Tryz.prog w 0 spare held n' 39 (([c0, c1, c2].drop 1).take (Tryz.prog.cellsOf 39)) = xs[1]? := hf 1 _ rfl;have hx : xs.length = 2 := hxl;rw [List.getElem?_eq_getElem (by omega)] at h0 h1;simp only [hcI, hcS] at h0 h1;obtain ⟨a0, e0, _, _⟩ := DataW.trod_int Tryz.underlying3 h0;obtain ⟨a1, b1, e1⟩ := Kk h1;simp at e0 e1;subst e0;obtain ⟨rfl, rfl⟩ := e1;exact ⟨⟨a0, ⟨a1, b1⟩⟩, rfl⟩
theorem elSp (h : DataW.trod enc Tryz.prog w 0 spare held n 39 cs = some y) : ∃ u : Sp, cs = ul u := by
  obtain ⟨lo, hi, e⟩ := Kk h;exact ⟨⟨lo, hi⟩, e⟩
end
set_option maxRecDepth 100000 in
theorem x5 {v : Value} {d : DataW H} {p : List MemPlace} (hv : Value.okWide Tryz.prog w .any 0 5 v) (h : DataW.Trod enc Tryz.prog w 0 spare held 5 v d p) : ∃ b : Int, v = .int .u8 b ∧ 0 ≤ b ∧ b ≤ 255 := by
  obtain ⟨z, rfl, rfl, rfl, wz⟩ := open_int Tryz.underlying5 hv h;exact ⟨z, rfl, by simp [Lit.wf, IntKind.min, IntKind.max, IntKind.bits, IntKind.signed] at wz; omega⟩
end
section
variable {H : Type} {enc : TypeId × Value → H} {w : World} {spare : Nat → Bool} {held : Bool}
theorem zml {t e : TypeId} {fuel : Nat} {a : Option Addr} {n c : Nat} {x : DataW H × List MemPlace} (ht : Tryz.prog.underlying t = some (.slice e)) (h : DataW.trod enc Tryz.prog w 0 spare held fuel t [.slice a n c] = some x) : n ≤ c := by
  rcases open_slice ht h with ⟨e, _⟩ | ⟨a, len, cap, m', n, D, Pl, e, hb, hl, hmx, hmm, _, hi⟩
  · cases e; exact Nat.le_refl _
  cases e; omega
end
theorem len5 {α : Type} {l : List α} (h : l.length = 5) : ∃ a b c d e, l = [a, b, c, d, e] := by
  match l, h with
  | [a, b, c, d, e], _ => exact ⟨a, b, c, d, e, rfl⟩
theorem zo3 {α : Type} {l : List α} (h : l.length = 4) : ∃ a b c d, l = [a, b, c, d] := by
  match l, h with
  | [a, b, c, d], _ => exact ⟨a, b, c, d, rfl⟩
section
variable {H : Type} {enc : TypeId × Value → H} {w : World} {spare : Nat → Bool} {held : Bool}
set_option maxRecDepth 100000 in
theorem znJ {n : Nat} {cs : List Value} {y : DataW H × List MemPlace} (h : DataW.trod enc Tryz.prog w 0 spare held n 41 cs = some y) : ∃ u : Tick, cs = yc u := by
  obtain ⟨xs, n', _, _, hlen, hxl, hf⟩ := DataW.trod_struct Tryz.underlying41 h;have hc : Tryz.prog.cellsOf 41 = 5 := by kernel_rfl
  have hcI : Tryz.prog.cellsOf 3 = 1 := by kernel_rfl
  have hcS : Tryz.prog.cellsOf 39 = 2 := by kernel_rfl
  rw [hc] at hlen;obtain ⟨c0, c1, c2, c3, c4, rfl⟩ := len5 hlen;have h0 : DataW.trod enc Tryz.prog w 0 spare held n' 39 (([c0, c1, c2, c3, c4].drop 0).take (Tryz.prog.cellsOf 39)) = xs[0]? := hf 0 _ rfl;have h1 : DataW.trod enc Tryz.prog w 0 spare held n' 3 (([c0, c1, c2, c3, c4].drop 2).take (Tryz.prog.cellsOf 3)) = xs[1]? := hf 1 _ rfl;have h2 : DataW.trod enc Tryz.prog w 0 spare held n' 39 (([c0, c1, c2, c3, c4].drop 3).take (Tryz.prog.cellsOf 39)) = xs[2]? := hf 2 _ rfl;have hx : xs.length = 3 := hxl;rw [List.getElem?_eq_getElem (by omega)] at h0 h1 h2;simp only [hcI, hcS] at h0 h1 h2;obtain ⟨a0, b0, e0⟩ := Kk h0;obtain ⟨a1, e1, _, _⟩ := DataW.trod_int Tryz.underlying3 h1;obtain ⟨a2, b2, e2⟩ := Kk h2;simp at e0 e1 e2;obtain ⟨rfl, rfl⟩ := e0;subst e1;obtain ⟨rfl, rfl⟩ := e2;exact ⟨⟨⟨a0, b0⟩, a1, ⟨a2, b2⟩⟩, rfl⟩
set_option maxRecDepth 100000 in
theorem znI {n : Nat} {cs : List Value} {y : DataW H × List MemPlace} (h : DataW.trod enc Tryz.prog w 0 spare held n 44 cs = some y) : ∃ u : Look, cs = ym u := by
  obtain ⟨xs, n', _, _, hlen, hxl, hf⟩ := DataW.trod_struct Tryz.underlying44 h;have hc : Tryz.prog.cellsOf 44 = 4 := by kernel_rfl
  have hcI : Tryz.prog.cellsOf 3 = 1 := by kernel_rfl
  have hcS : Tryz.prog.cellsOf 39 = 2 := by kernel_rfl
  rw [hc] at hlen;obtain ⟨c0, c1, c2, c3, rfl⟩ := zo3 hlen;have h0 : DataW.trod enc Tryz.prog w 0 spare held n' 3 (([c0, c1, c2, c3].drop 0).take (Tryz.prog.cellsOf 3)) = xs[0]? := hf 0 _ rfl;have h1 : DataW.trod enc Tryz.prog w 0 spare held n' 3 (([c0, c1, c2, c3].drop 1).take (Tryz.prog.cellsOf 3)) = xs[1]? := hf 1 _ rfl;have h2 : DataW.trod enc Tryz.prog w 0 spare held n' 39 (([c0, c1, c2, c3].drop 2).take (Tryz.prog.cellsOf 39)) = xs[2]? := hf 2 _ rfl;have hx : xs.length = 3 := hxl;rw [List.getElem?_eq_getElem (by omega)] at h0 h1 h2;simp only [hcI, hcS] at h0 h1 h2;obtain ⟨a0, e0, _, _⟩ := DataW.trod_int Tryz.underlying3 h0;obtain ⟨a1, e1, _, _⟩ := DataW.trod_int Tryz.underlying3 h1;obtain ⟨a2, b2, e2⟩ := Kk h2;simp at e0 e1 e2;subst e0;subst e1;obtain ⟨rfl, rfl⟩ := e2;exact ⟨⟨a0, a1, ⟨a2, b2⟩⟩, rfl⟩
set_option maxRecDepth 100000 in
theorem znS {n : Nat} {cs : List Value} {y : DataW H × List MemPlace} (h : DataW.trod enc Tryz.prog w 0 spare held n 46 cs = some y) : ∃ u : Ent, cs = entC u := by
  obtain ⟨xs, n', _, _, hlen, hxl, hf⟩ := DataW.trod_struct Tryz.underlying46 h;have hc : Tryz.prog.cellsOf 46 = 3 := by kernel_rfl
  have hcI : Tryz.prog.cellsOf 3 = 1 := by kernel_rfl
  have hcS : Tryz.prog.cellsOf 39 = 2 := by kernel_rfl
  rw [hc] at hlen;obtain ⟨c0, c1, c2, rfl⟩ := len3 hlen;have h0 : DataW.trod enc Tryz.prog w 0 spare held n' 3 (([c0, c1, c2].drop 0).take (Tryz.prog.cellsOf 3)) = xs[0]? := hf 0 _ rfl;have h1 : DataW.trod enc Tryz.prog w 0 spare held n' 3 (([c0, c1, c2].drop 1).take (Tryz.prog.cellsOf 3)) = xs[1]? := hf 1 _ rfl;have h2 : DataW.trod enc Tryz.prog w 0 spare held n' 3 (([c0, c1, c2].drop 2).take (Tryz.prog.cellsOf 3)) = xs[2]? := hf 2 _ rfl;have hx : xs.length = 3 := hxl;rw [List.getElem?_eq_getElem (by omega)] at h0 h1 h2;simp only [hcI] at h0 h1 h2;obtain ⟨a0, e0, _, _⟩ := DataW.trod_int Tryz.underlying3 h0;obtain ⟨a1, e1, _, _⟩ := DataW.trod_int Tryz.underlying3 h1;obtain ⟨a2, e2, _, _⟩ := DataW.trod_int Tryz.underlying3 h2;simp at e0 e1 e2;subst e0;subst e1;subst e2;exact ⟨⟨a0, a1, a2⟩, rfl⟩
set_option maxRecDepth 100000 in
theorem zmR {v : Value} {d : DataW H} {p : List MemPlace} (hv : Value.okWide Tryz.prog w .any 0 32 v) (h : DataW.Trod enc Tryz.prog w 0 spare held 32 v d p) : ∃ (l : List Ent) (b : Sl), v = b.v ∧ SlL (wY w) 3 (l.map entC) b.a b.n ∧ b.n ≤ maxLen := by
  obtain ⟨_, _, _, rfl⟩ := okWide_slice Tryz.underlying32 hv;obtain ⟨fuel, hf⟩ := h;obtain ⟨l, a, n, c, e, m1, s1⟩ := YN (m := 3) entC Tryz.underlying32 zk (by decide) (fun _ _ _ h _ => znS h) hf;simp only [Value.cells, List.cons.injEq, and_true, Value.slice.injEq] at e;obtain ⟨rfl, rfl, rfl⟩ := e;exact ⟨l, ⟨_, _, _⟩, rfl, s1, m1⟩
theorem zmx {α : Type} [Inhabited α] {m : Nat} (f : α → List Value) {t e : TypeId} {fuel : Nat} {cs : List Value} {x : DataW H × List MemPlace} (hu : Tryz.prog.underlying t = some (.slice e)) (hh : DataW.trod enc Tryz.prog w 0 spare held fuel t cs = some x) (ho : ∃ (l : List α) (a : Option Addr) (n c : Nat), cs = [.slice a n c] ∧ n ≤ maxLen ∧ SlL (wY w) m (l.map f) a n) : ∃ (l : List α) (s : Sl), cs = [s.v] ∧ s.n ≤ maxLen ∧ s.n ≤ s.c ∧ SlL (wY w) m (l.map f) s.a s.n := by
  obtain ⟨l, a, n, c, rfl, h1, h2⟩ := ho;exact ⟨l, ⟨a, n, c⟩, rfl, h1, zml hu hh, h2⟩
set_option maxRecDepth 100000 in
theorem znT {n : Nat} {cs : List Value} {y : DataW H × List MemPlace} (h : DataW.trod enc Tryz.prog w 0 spare held n 24 cs = some y) : ∃ (T : Tks) (t : Sl), cs = [it T.huts, t.v] ∧ SlL (wY w) 5 (T.l.map yc) t.a t.n ∧ t.n ≤ maxLen ∧ t.n ≤ t.c := by
  obtain ⟨xs, n', _, _, hlen, hxl, hf⟩ := DataW.trod_struct Tryz.underlying24 h;have hc : Tryz.prog.cellsOf 24 = 2 := by kernel_rfl
  have hcI : Tryz.prog.cellsOf 3 = 1 := by kernel_rfl
  have hcL : Tryz.prog.cellsOf 22 = 1 := by kernel_rfl
  rw [hc] at hlen;obtain ⟨c0, c1, rfl⟩ := len2 hlen;have h0 : DataW.trod enc Tryz.prog w 0 spare held n' 3 (([c0, c1].drop 0).take (Tryz.prog.cellsOf 3)) = xs[0]? := hf 0 _ rfl;have h1 : DataW.trod enc Tryz.prog w 0 spare held n' 22 (([c0, c1].drop 1).take (Tryz.prog.cellsOf 22)) = xs[1]? := hf 1 _ rfl;have hx : xs.length = 2 := hxl;rw [List.getElem?_eq_getElem (by omega)] at h0 h1;simp only [hcI, hcL] at h0 h1;obtain ⟨a, e0, _, _⟩ := DataW.trod_int Tryz.underlying3 h0;obtain ⟨l1, t1, e1, m1, k1, s1⟩ := zmx (m := 5) yc Tryz.underlying22 h1 (YN (m := 5) yc Tryz.underlying22 zk (by decide) (fun _ _ _ h _ => znJ h) h1);simp at e0 e1;subst e0; subst e1;exact ⟨⟨a, l1⟩, t1, rfl, s1, m1, k1⟩
set_option maxRecDepth 100000 in
theorem zmT {v : Value} {d : DataW H} {p : List MemPlace} (hv : Value.okWide Tryz.prog w .any 0 26 v) (h : DataW.Trod enc Tryz.prog w 0 spare held 26 v d p) : ∃ (X : Till) (t : Sl), v = .agg #[it X.tk.huts, t.v, it X.price, it X.fine, it X.wait] ∧ SlL (wY w) 5 (X.tk.l.map yc) t.a t.n ∧ t.n ≤ maxLen ∧ t.n ≤ t.c := by
  obtain ⟨⟨cs⟩, rfl, hsz⟩ := okWide_struct Tryz.underlying26 hv;have hc : Tryz.prog.cellsOf 26 = 5 := by kernel_rfl
  have hcI : Tryz.prog.cellsOf 3 = 1 := by kernel_rfl
  have hcT : Tryz.prog.cellsOf 24 = 2 := by kernel_rfl
  rw [hc] at hsz;obtain ⟨c0, c1, c2, c3, c4, rfl⟩ := len5 (by simpa using hsz);obtain ⟨fuel, hf⟩ := h;obtain ⟨xs, n', _, _, hlen, hxl, hff⟩ := DataW.trod_struct Tryz.underlying26 hf;have h0 : DataW.trod enc Tryz.prog w 0 spare held n' 24 (([c0, c1, c2, c3, c4].drop 0).take (Tryz.prog.cellsOf 24)) = xs[0]? := hff 0 _ rfl;have h1 : DataW.trod enc Tryz.prog w 0 spare held n' 3 (([c0, c1, c2, c3, c4].drop 2).take (Tryz.prog.cellsOf 3)) = xs[1]? := hff 1 _ rfl;have h2 : DataW.trod enc Tryz.prog w 0 spare held n' 3 (([c0, c1, c2, c3, c4].drop 3).take (Tryz.prog.cellsOf 3)) = xs[2]? := hff 2 _ rfl;have h3 : DataW.trod enc Tryz.prog w 0 spare held n' 3 (([c0, c1, c2, c3, c4].drop 4).take (Tryz.prog.cellsOf 3)) = xs[3]? := hff 3 _ rfl;have hx : xs.length = 4 := hxl;rw [List.getElem?_eq_getElem (by omega)] at h0 h1 h2 h3;simp only [hcI, hcT] at h0 h1 h2 h3;obtain ⟨T, t, e0, s1, m1, k1⟩ := znT h0;obtain ⟨a, e1, _, _⟩ := DataW.trod_int Tryz.underlying3 h1;obtain ⟨b, e2, _, _⟩ := DataW.trod_int Tryz.underlying3 h2;obtain ⟨c, e3, _, _⟩ := DataW.trod_int Tryz.underlying3 h3;simp at e0 e1 e2 e3;obtain ⟨rfl, rfl⟩ := e0;subst e1; subst e2; subst e3;exact ⟨⟨T, a, b, c⟩, t, rfl, s1, m1, k1⟩
set_option maxRecDepth 100000 in
theorem zmS {v : Value} {d : DataW H} {p : List MemPlace} (hv : Value.okWide Tryz.prog w .any 0 31 v) (h : DataW.Trod enc Tryz.prog w 0 spare held 31 v d p) : ∃ (T : Tide) (m s l : Sl), v = .agg #[m.v, s.v, l.v] ∧ SlL (wY w) 3 (T.marks.map ub) m.a m.n ∧ SlL (wY w) 2 (T.sand.map ul) s.a s.n ∧ SlL (wY w) 4 (T.looks.map ym) l.a l.n ∧ m.n ≤ maxLen ∧ s.n ≤ maxLen ∧ l.n ≤ maxLen ∧ l.n ≤ l.c := by
  obtain ⟨⟨cs⟩, rfl, hsz⟩ := okWide_struct Tryz.underlying31 hv;have hc : Tryz.prog.cellsOf 31 = 3 := by kernel_rfl
  have hcM : Tryz.prog.cellsOf 27 = 1 := by kernel_rfl
  have hcS : Tryz.prog.cellsOf 28 = 1 := by kernel_rfl
  have hcL : Tryz.prog.cellsOf 29 = 1 := by kernel_rfl
  rw [hc] at hsz;obtain ⟨c0, c1, c2, rfl⟩ := len3 (by simpa using hsz);obtain ⟨fuel, hf⟩ := h;obtain ⟨xs, n', _, _, hlen, hxl, hff⟩ := DataW.trod_struct Tryz.underlying31 hf;have h0 : DataW.trod enc Tryz.prog w 0 spare held n' 27 (([c0, c1, c2].drop 0).take (Tryz.prog.cellsOf 27)) = xs[0]? := hff 0 _ rfl;have h1 : DataW.trod enc Tryz.prog w 0 spare held n' 28 (([c0, c1, c2].drop 1).take (Tryz.prog.cellsOf 28)) = xs[1]? := hff 1 _ rfl;have h2 : DataW.trod enc Tryz.prog w 0 spare held n' 29 (([c0, c1, c2].drop 2).take (Tryz.prog.cellsOf 29)) = xs[2]? := hff 2 _ rfl;have hx : xs.length = 3 := hxl;rw [List.getElem?_eq_getElem (by omega)] at h0 h1 h2;simp only [hcM, hcS, hcL] at h0 h1 h2;obtain ⟨l0, m, e0, m0, _, s0⟩ := zmx (m := 3) ub Tryz.underlying27 h0 (YN (m := 3) ub Tryz.underlying27 zk (by decide) (fun _ _ _ h _ => zcj h) h0);obtain ⟨l1, s, e1, m1, _, s1⟩ := zmx (m := 2) ul Tryz.underlying28 h1 (YN (m := 2) ul Tryz.underlying28 zk (by decide) (fun _ _ _ h _ => elSp h) h1);obtain ⟨l2, l, e2, m2, k2, s2⟩ := zmx (m := 4) ym Tryz.underlying29 h2 (YN (m := 4) ym Tryz.underlying29 zk (by decide) (fun _ _ _ h _ => znI h) h2);simp at e0 e1 e2;subst e0; subst e1; subst e2;exact ⟨⟨l0, l1, l2⟩, m, s, l, rfl, s0, s1, s2, m0, m1, m2, k2⟩
end
end Go.Proofs.YtejgofaeafphjaaGreatDoor
namespace Go.Proofs.YtejgofaeafphjaaGreatDoor
open Go.W Go.Ti Go.ChangeShapes Go.WideShapes Go.ChangeAt Go.RowKit Go.Deep
abbrev vG : List (String × DataW Unit) := Rows.wicketNamesRow.laid
theorem XY : "*errors.errorString" = "*" ++ "errors.errorString" := by decide
theorem UI : ∀ u, Tryz.prog.typeName? 3 u = some "*errors.errorString" → u = 417 := fun u h =>
  typeName_ptr_named (nm := "errors.errorString") (by rw [← XY]; kernel_rfl) zk (by decide) u (by rw [← XY]; exact h)
theorem zla {l : List Value} (h : l.length = 4) : ∃ a b c d, l = [a, b, c, d] := by
  match l, h with
  | [a, b, c, d], _ => exact ⟨a, b, c, d, rfl⟩
set_option maxRecDepth 100000 in
theorem zah {W : World} {x : String × DataW Unit} {r : List (String × DataW Unit)} (hx : x = ("dipworks/wicket.entries", Rows.laid_dipworks_wicket_entries)) (h : laidMet Tryz.prog (x :: r) W) : ∃ t fz, wY W 0 = some (.cells (List.toArray [st [], st payS, st xw, st xE]) t fz) := by
  subst hx;obtain ⟨ps, ⟨g, t, cs, fuel, p, q, hg, ht, hv, hd, _, _⟩, _, _⟩ := h;obtain rfl := Option.some.inj ((show Tryz.prog.globalNamed "dipworks/wicket.entries" = some 0 by kernel_rfl).symm.trans hg);obtain rfl := Option.some.inj ((show (Tryz.prog.globals[0]?).map (·.type) = some 216 by kernel_rfl).symm.trans ht);obtain ⟨t', fz, hh⟩ := wu hg hv;refine ⟨t', fz, ?_⟩;rw [hh];obtain ⟨l⟩ := cs;obtain ⟨xs, m, rfl, hx, hlen, hxl, hel⟩ := DataW.trod_array (show Tryz.prog.underlying 216 = some (.array 4 9) by kernel_rfl) hd;have hc : Tryz.prog.cellsOf 216 = 4 := by kernel_rfl
  have hcS : Tryz.prog.cellsOf 9 = 1 := by kernel_rfl
  rw [hc] at hlen;obtain ⟨c0, c1, c2, c3, rfl⟩ := zla hlen;have h0 := hel 0 (by omega);have h1 := hel 1 (by omega);have h2 := hel 2 (by omega);have h3 := hel 3 (by omega);simp only [Prod.mk.injEq, DataW.agg.injEq, Rows.laid_dipworks_wicket_entries] at hx;rw [hcS] at h0 h1 h2 h3
  match xs, hxl, hx, h0, h1, h2, h3 with
  | [x0, x1, x2, x3], _, hx, h0, h1, h2, h3 =>
    obtain ⟨s0, e0, f0, _⟩ := DataW.trod_string Tryz.underlying9 (show DataW.trod _ Tryz.prog W 0 _ false m 9 [c0] = some x0 from h0);obtain ⟨s1, e1, f1, _⟩ := DataW.trod_string Tryz.underlying9 (show DataW.trod _ Tryz.prog W 0 _ false m 9 [c1] = some x1 from h1);obtain ⟨s2, e2, f2, _⟩ := DataW.trod_string Tryz.underlying9 (show DataW.trod _ Tryz.prog W 0 _ false m 9 [c2] = some x2 from h2);obtain ⟨s3, e3, f3, _⟩ := DataW.trod_string Tryz.underlying9 (show DataW.trod _ Tryz.prog W 0 _ false m 9 [c3] = some x3 from h3);subst f0; subst f1; subst f2; subst f3;simp only [List.map_cons, List.map_nil, List.cons.injEq, DataW.lit.injEq, Lit.string.injEq, and_true] at hx;simp only [List.cons.injEq, and_true] at e0 e1 e2 e3;subst e0; subst e1; subst e2; subst e3;obtain ⟨q0, q1, q2, q3⟩ := hx.1;obtain ⟨⟨d0⟩⟩ := s0;obtain ⟨⟨d1⟩⟩ := s1;obtain ⟨⟨d2⟩⟩ := s2;obtain ⟨⟨d3⟩⟩ := s3;simp only at q0 q1 q2 q3;subst q0; subst q1; subst q2; subst q3;rfl
set_option maxRecDepth 100000 in
theorem kA {W : World} (hS : W.ShapedOpen Tryz.prog) (hL : laidMetH Tryz.prog vG W) : LibW (wY W) := by
  rw [MakeChecks.laidMetH_plain _ _ _ zk] at hL;have h0 : laidMet Tryz.prog [("math/bits.deBruijn32tab", Rows.laid_math_bits_deBruijn32tab), ("math/bits.deBruijn64tab", Lib.tabData .u8 (Lib.deBruijn64tab.map fun n : Nat => (n : Int))), ("internal/strconv.uint64pow10", Lib.tabData .u64 Lib.pow10Tab), ("unicode/utf8.acceptRanges", Rows.laid_unicode_utf8_acceptRanges), ("dipworks/tide.done", Lib.tabData .i64 donL), ("strconv.ErrRange", Rows.laid_strconv_ErrRange), ("strconv.ErrSyntax", Rows.laid_strconv_ErrSyntax), ("dipworks/wicket.entries", Rows.laid_dipworks_wicket_entries), ("unicode/utf8.first", Rows.laid_unicode_utf8_first)] W := hL;have h1 := h0.tail;have hb : Lib.TabIs Tryz.prog W "math/bits.deBruijn64tab" .u8 (Lib.deBruijn64tab.map fun n : Nat => (n : Int)) := Lib.tabIs_of_head (g := 6) (t := 361) (e := 5) (n := 64) zk zk zk zk zk zk h1;have h2 := h1.tail;have hp : Lib.TabIs Tryz.prog W "internal/strconv.uint64pow10" .u64 Lib.pow10Tab := Lib.tabIs_of_head (g := 7) (t := 386) (e := 233) (n := 20) zk zk zk zk zk zk h2;have h3 := h2.tail.tail;have hq : Lib.TabIs Tryz.prog W "dipworks/tide.done" .i64 donL := Lib.tabIs_of_head (g := 2) (t := 308) (e := 3) (n := 7) zk zk zk zk zk zk h3;have h4 := h3.tail;obtain ⟨a1, s1, hv1, _⟩ := laid_sentinel (g := 9) (ti := 193) (tp := 417) (te := 419) (ts := 9) h4 zk zk Tryz.underlying193 UI Tryz.underlying417 Tryz.underlying419 rfl rfl Tryz.underlying9 zk zk;have h5 := h4.tail;obtain ⟨a2, s2, hv2, _⟩ := laid_sentinel (g := 8) (ti := 193) (tp := 417) (te := 419) (ts := 9) h5 zk zk Tryz.underlying193 UI Tryz.underlying417 Tryz.underlying419 rfl rfl Tryz.underlying9 zk zk;have h6 := h5.tail;obtain ⟨m, hm⟩ := cell_of_shapedOpen_int (k := .i64) (zero := #[.int .i64 0]) (t := 3) (g := 1) hS (of_decide_eq_true zk) zk rfl zk zk Tryz.underlying3;obtain ⟨r, tm, fm, hmm⟩ := Wu hm;obtain ⟨t1, f1, g1⟩ := wu (g := 9) zk hv1;obtain ⟨t2, f2, g2⟩ := wu (g := 8) zk hv2;obtain ⟨t3, f3, g3⟩ := wu (g := 7) zk hp;obtain ⟨t4, f4, g4⟩ := wu (g := 2) zk hq;obtain ⟨t5, f5, g5⟩ := wu (g := 6) zk hb;exact ⟨⟨t4, f4, g4⟩, zah rfl h6, ⟨m, r, tm, fm, hmm⟩, ⟨_, _, t2, f2, g2⟩, ⟨_, _, t1, f1, g1⟩, ⟨t3, f3, g3⟩, ⟨t5, f5, by rw [g5]; unfold tabV; rw [List.map_map]; rfl⟩⟩
theorem qv : ownKnob Tryz.prog.godebug = none := by kernel_rfl
theorem qo (os : Os) (args : Array Value) : laidMetH Tryz.prog vG ((World.laidAll Tryz.prog os vG).forCall (fun _ _ => 0) ⟨#[], args, []⟩).memory := by
  rw [MakeChecks.laidMetH_plain _ _ _ zk]; exact laidMet_laidAll _ zk zk
theorem wA (os : Os) (args : Array Value) : ((World.laidAll Tryz.prog os vG).forCall (fun _ _ => 0) ⟨#[], args, []⟩).Shaped Tryz.prog := World.shaped_of_ZipB zk zk
theorem qp : laidOutB Tryz.prog = true := by kernel_rfl
end Go.Proofs.YtejgofaeafphjaaGreatDoor
