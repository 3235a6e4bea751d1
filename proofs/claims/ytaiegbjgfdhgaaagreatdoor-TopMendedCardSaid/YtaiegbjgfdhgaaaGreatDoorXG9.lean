import Derived.Test.YtaiegbjgfdhgaaaGreatDoorXG1
import Derived.Test.YtaiegbjgfdhgaaaGreatDoorXG4
import Derived.Test.YtaiegbjgfdhgaaaGreatDoorXG5
import Derived.Test.YtaiegbjgfdhgaaaGreatDoorXG2
set_option linter.all false
set_option maxRecDepth 100000
set_option maxHeartbeats 4000000
attribute [local irreducible] Go.W.WL Go.W.WLF Go.W.WC Go.W.WCF Go.W.WP Go.W.WA Go.W.WQ Go.W.WH Go.W.WHo Go.W.WCn Go.W.Yd Go.W.Qt Go.W.SO Go.Code.wp Go.Code.wpIn
namespace Go.Proofs.YtaiegbjgfdhgaaaGreatDoor
open Go.W Go.Bk Go.ChangeShapes Go.WideShapes Go.RowKit Go.Deep
theorem len2 {α : Type} {l : List α} (h : l.length = 2) : ∃ x0 x1, l = [x0, x1] := by
  match l, h with
  | [x0, x1], _ => exact ⟨x0, x1, rfl⟩
theorem len4 {α : Type} {l : List α} (h : l.length = 4) : ∃ x0 x1 x2 x3, l = [x0, x1, x2, x3] := by
  match l, h with
  | [x0, x1, x2, x3], _ => exact ⟨x0, x1, x2, x3, rfl⟩
section
variable {H : Type} {enc : TypeId × Value → H} {w : World} {spare : Nat → Bool} {held : Bool}
set_option maxRecDepth 100000 in
theorem zv6 {n : Nat} {cs : List Value} {y : DataW H × List MemPlace} (h : DataW.trod enc Tryz.prog w 0 spare held n 81 cs = some y) : ∃ lo hi, cs = [it lo, it hi] := by
  obtain ⟨xs, n', _, _, hlen, hxl, hf⟩ := DataW.trod_struct Tryz.underlying81 h;have hc : Tryz.prog.cellsOf 81 = 2 := by kernel_rfl
  rw [hc] at hlen;obtain ⟨c0, c1, rfl⟩ := len2 hlen;have hk0 : Tryz.prog.cellsOf 3 = 1 := by kernel_rfl
  have h0 : DataW.trod enc Tryz.prog w 0 spare held n' 3 (([c0, c1].drop 0).take (Tryz.prog.cellsOf 3)) = xs[0]? := hf 0 _ rfl;have h1 : DataW.trod enc Tryz.prog w 0 spare held n' 3 (([c0, c1].drop 1).take (Tryz.prog.cellsOf 3)) = xs[1]? := hf 1 _ rfl;have hx : xs.length = 2 := hxl;rw [List.getElem?_eq_getElem (by omega)] at h0 h1;simp only [hk0] at h0 h1;obtain ⟨a0, e0, _, _⟩ := DataW.trod_int Tryz.underlying3 h0;obtain ⟨a1, e1, _, _⟩ := DataW.trod_int Tryz.underlying3 h1;simp at e0 e1;subst e0;subst e1;exact ⟨a0, a1, rfl⟩
set_option maxRecDepth 100000 in
theorem zv5 {n : Nat} {cs : List Value} {y : DataW H × List MemPlace} (h : DataW.trod enc Tryz.prog w 0 spare held n 111 cs = some y) : ∃ u : Mv, cs = mvC u := by
  obtain ⟨xs, n', _, _, hlen, hxl, hf⟩ := DataW.trod_struct Tryz.underlying111 h;have hc : Tryz.prog.cellsOf 111 = 4 := by kernel_rfl
  rw [hc] at hlen;obtain ⟨c0, c1, c2, c3, rfl⟩ := len4 hlen;have hk0 : Tryz.prog.cellsOf 3 = 1 := by kernel_rfl
  have hk1 : Tryz.prog.cellsOf 81 = 2 := by kernel_rfl
  have h0 : DataW.trod enc Tryz.prog w 0 spare held n' 3 (([c0, c1, c2, c3].drop 0).take (Tryz.prog.cellsOf 3)) = xs[0]? := hf 0 _ rfl;have h1 : DataW.trod enc Tryz.prog w 0 spare held n' 3 (([c0, c1, c2, c3].drop 1).take (Tryz.prog.cellsOf 3)) = xs[1]? := hf 1 _ rfl;have h2 : DataW.trod enc Tryz.prog w 0 spare held n' 81 (([c0, c1, c2, c3].drop 2).take (Tryz.prog.cellsOf 81)) = xs[2]? := hf 2 _ rfl;have hx : xs.length = 3 := hxl;rw [List.getElem?_eq_getElem (by omega)] at h0 h1 h2;simp only [hk0, hk1] at h0 h1 h2;obtain ⟨a0, e0, _, _⟩ := DataW.trod_int Tryz.underlying3 h0;obtain ⟨a1, e1, _, _⟩ := DataW.trod_int Tryz.underlying3 h1;obtain ⟨a2, b2, e2⟩ := zv6 h2;simp at e0 e1 e2;subst e0;subst e1;obtain ⟨rfl, rfl⟩ := e2;exact ⟨⟨a0, a1, ⟨a2, b2⟩⟩, rfl⟩
theorem wf_u8 {n : Int} (h : (Lit.int .u8 n).wf = true) : 0 ≤ n ∧ n ≤ 255 := by
  simp [Lit.wf, IntKind.min, IntKind.max, IntKind.bits, IntKind.signed] at h;omega
theorem wf_u16 {n : Int} (h : (Lit.int .u16 n).wf = true) : 0 ≤ n ∧ n ≤ 65535 := by
  simp [Lit.wf, IntKind.min, IntKind.max, IntKind.bits, IntKind.signed] at h;omega
set_option maxRecDepth 100000 in
theorem zDx {n : Int} (h : (Lit.int .u8 n).wf = true) : ∃ b : UInt8, Value.int .u8 n = bt b := by
  have := wf_u8 h;refine ⟨UInt8.ofNat n.toNat, ?_⟩;rw [btN (by omega)]; congr 1; omega
abbrev RowsIn (w : World) := { x : List zms × Sl // SlL (wY w) 5 (x.1.map bsC) x.2.a x.2.n ∧ x.2.n ≤ 9223372036854775807 }
instance (w : World) : Inhabited (RowsIn w) := ⟨⟨([], ⟨none, 0, 0⟩), SlL.nil _ _, Nat.zero_le _⟩⟩
set_option maxRecDepth 100000 in
theorem zq2 {v : Value} {d : DataW H} {p : List MemPlace} (hv : Value.okWide Tryz.prog w .any 0 24 v) (h : DataW.Trod enc Tryz.prog w 0 spare held 24 v d p) : ∃ (s : Hors) (m : Sl), v = k3 s m ∧ Ky (wY w) s m := by
  obtain ⟨⟨cs⟩, rfl, hsz⟩ := okWide_struct Tryz.underlying24 hv;have hc : Tryz.prog.cellsOf 24 = 2 := by kernel_rfl
  rw [hc] at hsz;obtain ⟨c0, c1, rfl⟩ := len2 (by simpa using hsz);obtain ⟨fuel, hf⟩ := h;obtain ⟨xs, n', _, _, hlen, hxl, hff⟩ := DataW.trod_struct Tryz.underlying24 hf;have hk0 : Tryz.prog.cellsOf 3 = 1 := by kernel_rfl
  have hk1 : Tryz.prog.cellsOf 22 = 1 := by kernel_rfl
  have h0 : DataW.trod enc Tryz.prog w 0 spare held n' 3 (([c0, c1].drop 0).take (Tryz.prog.cellsOf 3)) = xs[0]? := hff 0 _ rfl;have h1 : DataW.trod enc Tryz.prog w 0 spare held n' 22 (([c0, c1].drop 1).take (Tryz.prog.cellsOf 22)) = xs[1]? := hff 1 _ rfl;have hx : xs.length = 2 := hxl;rw [List.getElem?_eq_getElem (by omega)] at h0 h1;simp only [hk0, hk1] at h0 h1;obtain ⟨a0, e0, _, _⟩ := DataW.trod_int Tryz.underlying3 h0;obtain ⟨l1, a1, n1, k1, e1, m1, s1⟩ := YN (m := 4) mvC Tryz.underlying22 zk (by decide) (fun _ _ _ h _ => zv5 h) h1;simp at e0 e1;subst e0;subst e1;exact ⟨⟨a0, l1⟩, ⟨a1, n1, k1⟩, rfl, ⟨s1, m1⟩⟩
set_option maxRecDepth 100000 in
theorem x5 {v : Value} {d : DataW H} {p : List MemPlace} (hv : Value.okWide Tryz.prog w .any 0 5 v) (h : DataW.Trod enc Tryz.prog w 0 spare held 5 v d p) : ∃ b : UInt8, v = bt b := by
  obtain ⟨z, rfl, rfl, rfl, wz⟩ := open_int Tryz.underlying5 hv h;exact zDx wz
set_option maxRecDepth 100000 in
theorem ztN {v : Value} {d : DataW H} {p : List MemPlace} (hv : Value.okWide Tryz.prog w .any 0 25 v) (h : DataW.Trod enc Tryz.prog w 0 spare held 25 v d p) : ∃ n : Nat, n < 65536 ∧ v = .int .u16 (n : Int) := by
  obtain ⟨z, rfl, rfl, rfl, wz⟩ := open_int Tryz.underlying25 hv h;have := wf_u16 wz;exact ⟨z.toNat, by omega, by rw [Int.toNat_of_nonneg this.1]⟩
end
theorem Y5 {H : Type} {enc : TypeId × Value → H} {P : Program} {w : World} {base : Nat} {spare : Nat → Bool} {held : Bool} {t0 t1 t2 t3 t4 : TypeId} {args : Array Value} {ds : List (DataW H)} {ps : List MemPlace} (h : DataW.TrodAll enc P w base spare held [t0, t1, t2, t3, t4] args.toList ds ps) :
    ∃ v0 v1 v2 v3 v4 d0 d1 d2 d3 d4 p0 p1 p2 p3 p4, args = #[v0, v1, v2, v3, v4] ∧ ds = [d0, d1, d2, d3, d4] ∧ ps = p0 ++ (p1 ++ (p2 ++ (p3 ++ p4))) ∧
      DataW.Trod enc P w base spare held t0 v0 d0 p0 ∧ DataW.Trod enc P w base spare held t1 v1 d1 p1 ∧ DataW.Trod enc P w base spare held t2 v2 d2 p2 ∧ DataW.Trod enc P w base spare held t3 v3 d3 p3 ∧ DataW.Trod enc P w base spare held t4 v4 d4 p4 := by
  obtain ⟨l⟩ := args;simp only at h;obtain ⟨v0, l0, d0, e0, p0, q0, rfl, rfl, rfl, h0, h⟩ := trodAll_cons h;obtain ⟨v1, l1, d1, e1, p1, q1, rfl, rfl, rfl, h1, h⟩ := trodAll_cons h;obtain ⟨v2, l2, d2, e2, p2, q2, rfl, rfl, rfl, h2, h⟩ := trodAll_cons h;obtain ⟨v3, l3, d3, e3, p3, q3, rfl, rfl, rfl, h3, h⟩ := trodAll_cons h;obtain ⟨v4, l4, d4, e4, p4, q4, rfl, rfl, rfl, h4, h⟩ := trodAll_cons h;obtain ⟨rfl, rfl, rfl⟩ := trodAll_nil h;exact ⟨v0, v1, v2, v3, v4, d0, d1, d2, d3, d4, p0, p1, p2, p3, p4, rfl, rfl, by simp, h0, h1, h2, h3, h4⟩
set_option maxRecDepth 100000 in
theorem zvV {H : Type} {enc : TypeId × Value → H} {w : World} {spare : Nat → Bool} {held : Bool} {v : Value} {d : DataW H} {p : List MemPlace} (hv : Value.okWide Tryz.prog w .any 0 4 v) (h : DataW.Trod enc Tryz.prog w 0 spare held 4 v d p) : ∃ b : Bool, v = .bool b := by
  obtain ⟨b, rfl, _⟩ := open_bool Tryz.underlying4 hv h;exact ⟨b, rfl⟩
end Go.Proofs.YtaiegbjgfdhgaaaGreatDoor
namespace Go.Proofs.YtaiegbjgfdhgaaaGreatDoor
open Go.W Go.Bk Go.ChangeShapes Go.WideShapes Go.ChangeAt Go.RowKit Go.Deep
theorem XY : "*errors.errorString" = "*" ++ "errors.errorString" := by decide
theorem UI : ∀ u, Tryz.prog.typeName? 3 u = some "*errors.errorString" → u = 428 := fun u h =>
  typeName_ptr_named (nm := "errors.errorString") (by rw [← XY]; kernel_rfl) zk (by decide) u (by rw [← XY]; exact h)
theorem qv : ownKnob Tryz.prog.godebug = none := by kernel_rfl
theorem qp : laidOutB Tryz.prog = true := by kernel_rfl
abbrev zpW : List (String × DataW Unit) := Rows.topMendedRow.laid
set_option maxRecDepth 100000 in
theorem zrP {W : World} (hS : W.ShapedOpen Tryz.prog) (hL : laidMetH Tryz.prog zpW W) : LibD false (wY W) ∧ LibT (wY W) := by
  rw [MakeChecks.laidMetH_plain _ _ _ zk] at hL;have h0 : laidMet Tryz.prog [("math/bits.deBruijn32tab", Rows.laid_math_bits_deBruijn32tab), ("math/bits.deBruijn64tab", Lib.tabData .u8 (Lib.deBruijn64tab.map fun n : Nat => (n : Int))), ("internal/strconv.uint64pow10", Lib.tabData .u64 Lib.pow10Tab), ("unicode/utf8.acceptRanges", Rows.laid_unicode_utf8_acceptRanges), ("strconv.ErrRange", Rows.laid_strconv_ErrRange), ("strconv.ErrSyntax", Rows.laid_strconv_ErrSyntax), ("unicode/utf8.first", Rows.laid_unicode_utf8_first)] W := hL;have h1 := h0.tail;have hb : Lib.TabIs Tryz.prog W "math/bits.deBruijn64tab" .u8 (Lib.deBruijn64tab.map fun n : Nat => (n : Int)) := Lib.tabIs_of_head (g := 1) (t := 395) (e := 5) (n := 64) zk zk zk zk zk zk h1;have h2 := h1.tail;have hp : Lib.TabIs Tryz.prog W "internal/strconv.uint64pow10" .u64 Lib.pow10Tab := Lib.tabIs_of_head (g := 6) (t := 424) (e := 191) (n := 20) zk zk zk zk zk zk h2;have h4 := h2.tail.tail;obtain ⟨a1, s1, hv1, _⟩ := laid_sentinel (g := 4) (ti := 311) (tp := 428) (te := 430) (ts := 9) h4 zk zk Tryz.underlying311 UI Tryz.underlying428 Tryz.underlying430 rfl rfl Tryz.underlying9 zk zk;have h5 := h4.tail;obtain ⟨a2, s2, hv2, _⟩ := laid_sentinel (g := 3) (ti := 311) (tp := 428) (te := 430) (ts := 9) h5 zk zk Tryz.underlying311 UI Tryz.underlying428 Tryz.underlying430 rfl rfl Tryz.underlying9 zk zk;obtain ⟨m, hm⟩ := cell_of_shapedOpen_int (k := .i64) (zero := #[.int .i64 0]) (t := 3) (g := 2) hS (of_decide_eq_true zk) zk rfl zk zk Tryz.underlying3;obtain ⟨r, tm, fm, hmm⟩ := Wu hm;obtain ⟨t1, f1, g1⟩ := wu (g := 4) zk hv1;obtain ⟨t2, f2, g2⟩ := wu (g := 3) zk hv2;obtain ⟨t3, f3, g3⟩ := wu (g := 6) zk hp;obtain ⟨t5, f5, g5⟩ := wu (g := 1) zk hb;exact ⟨⟨fun h => Bool.noConfusion h, ⟨m, r, tm, fm, hmm⟩, ⟨_, _, t2, f2, g2⟩, ⟨_, _, t1, f1, g1⟩, ⟨t3, f3, g3⟩⟩, ⟨t5, f5, by rw [g5]; unfold tabV; rw [List.map_map]; rfl⟩⟩
theorem zrN (os : Os) (args : Array Value) : laidMetH Tryz.prog zpW ((World.laidAll Tryz.prog os zpW).forCall (fun _ _ => 0) ⟨#[], args, []⟩).memory := by
  rw [MakeChecks.laidMetH_plain _ _ _ zk]; exact laidMet_laidAll _ zk zk
theorem zpu (os : Os) (args : Array Value) : ((World.laidAll Tryz.prog os zpW).forCall (fun _ _ => 0) ⟨#[], args, []⟩).Shaped Tryz.prog := World.shaped_of_ZipB zk zk
end Go.Proofs.YtaiegbjgfdhgaaaGreatDoor
