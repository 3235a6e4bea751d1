import Derived.Test.YtejgofaeafphjaaGreatDoorXG18
import Derived.Test.YtejgofaeafphjaaGreatDoorXG6
import Derived.Test.YtejgofaeafphjaaGreatDoorXG29
import Derived.Test.YtejgofaeafphjaaGreatDoorXG7
set_option linter.all false
set_option maxRecDepth 100000
set_option maxHeartbeats 4000000
attribute [local irreducible] Go.W.WL Go.W.WLF Go.W.WC Go.W.WCF Go.W.WP Go.W.WA Go.W.WQ Go.W.WH Go.W.WHo Go.W.WCn Go.W.Yd Go.W.Qt Go.W.SO Go.Code.wp Go.Code.wpIn
namespace Go.Proofs.YtejgofaeafphjaaGreatDoor
open Go.W Go.Ti Go.ChangeShapes Go.WideShapes Go.ChangeAt Go.RowKit Go.Deep
abbrev vG : List (String × DataW Unit) := Rows.wicketNamesRow.laid
theorem XY : "*errors.errorString" = "*" ++ "errors.errorString" := by decide
theorem UI : ∀ u, Tryz.prog.typeName? 3 u = some "*errors.errorString" → u = 417 := fun u h =>
  typeName_ptr_named (nm := "errors.errorString") (by rw [← XY]; kernel_rfl) zk (by decide) u (by rw [← XY]; exact h)
theorem zla {l : List Value} (h : l.length = 4) : ∃ a b c d, l = [a, b, c, d] := by
  match l, h with
  | [a, b, c, d], _ => exact ⟨a, b, c, d, rfl⟩
set_option maxRecDepth 100000 in
theorem zah {W : World} {x : String × DataW Unit} {r : List (String × DataW Unit)} (hx : x = ("dipworks/wicket.entries", Rows.laid_dipworks_wicket_entries)) (h : laidMet Tryz.prog (x :: r) W) : ∃ t fz, wY W 0 = some (.cells (List.toArray [st [], st payS, st xw, st xE]) t fz) := by
  subst hx;obtain ⟨ps, ⟨g, t, cs, fuel, p, q, hg, ht, hv, hd, _, _⟩, _, _⟩ := h;obtain rfl := Option.some.inj ((show Tryz.prog.globalNamed "dipworks/wicket.entries" = some 0 by kernel_rfl).symm.trans hg);obtain rfl := Option.some.inj ((show (Tryz.prog.globals[0]?).map (·.type) = some 216 by kernel_rfl).symm.trans ht);obtain ⟨t', fz, hh⟩ := wu hg hv;refine ⟨t', fz, ?_⟩;rw [hh];obtain ⟨l⟩ := cs;obtain ⟨xs, m, rfl, hx, hlen, hxl, hel⟩ := DataW.trod_array (show Tryz.prog.underlying 216 = some (.array 4 9) by kernel_rfl) hd;have hc : Tryz.prog.cellsOf 216 = 4 := by kernel_rfl
  have hcS : Tryz.prog.cellsOf 9 = 1 := by kernel_rfl
  rw [hc] at hlen;obtain ⟨c0, c1, c2, c3, rfl⟩ := zla hlen;have h0 := hel 0 (by omega);have h1 := hel 1 (by omega);have h2 := hel 2 (by omega);have h3 := hel 3 (by omega);simp only [Prod.mk.injEq, DataW.agg.injEq, Rows.laid_dipworks_wicket_entries] at hx;rw [hcS] at h0 h1 h2 h3
  match xs, hxl, hx, h0, h1, h2, h3 with
  | [x0, x1, x2, x3], _, hx, h0, h1, h2, h3 =>
    obtain ⟨s0, e0, f0, _⟩ := DataW.trod_string Tryz.underlying9 (show DataW.trod _ Tryz.prog W 0 _ false m 9 [c0] = some x0 from h0);obtain ⟨s1, e1, f1, _⟩ := DataW.trod_string Tryz.underlying9 (show DataW.trod _ Tryz.prog W 0 _ false m 9 [c1] = some x1 from h1);obtain ⟨s2, e2, f2, _⟩ := DataW.trod_string Tryz.underlying9 (show DataW.trod _ Tryz.prog W 0 _ false m 9 [c2] = some x2 from h2);obtain ⟨s3, e3, f3, _⟩ := DataW.trod_string Tryz.underlying9 (show DataW.trod _ Tryz.prog W 0 _ false m 9 [c3] = some x3 from h3);subst f0; subst f1; subst f2; subst f3;simp only [List.map_cons, List.map_nil, List.cons.injEq, DataW.lit.injEq, Lit.string.injEq, and_true] at hx;simp only [List.cons.injEq, and_true] at e0 e1 e2 e3;subst e0; subst e1; subst e2; subst e3;obtain ⟨q0, q1, q2, q3⟩ := hx.1;obtain ⟨⟨d0⟩⟩ := s0;obtain ⟨⟨d1⟩⟩ := s1;obtain ⟨⟨d2⟩⟩ := s2;obtain ⟨⟨d3⟩⟩ := s3;simp only at q0 q1 q2 q3;subst q0; subst q1; subst q2; subst q3;rfl
set_option maxRecDepth 100000 in
theorem kA {W : World} (hS : W.ShapedOpen Tryz.prog) (hL : laidMetH Tryz.prog vG W) : LibW (wY W) := by
  rw [MakeChecks.laidMetH_plain _ _ _ zk] at hL;have h0 : laidMet Tryz.prog [("math/bits.deBruijn32tab", Rows.laid_math_bits_deBruijn32tab), ("math/bits.deBruijn64tab", Lib.tabData .u8 (Lib.deBruijn64tab.map fun n : Nat => (n : Int))), ("internal/strconv.uint64pow10", Lib.tabData .u64 Lib.pow10Tab), ("unicode/utf8.acceptRanges", Rows.laid_unicode_utf8_acceptRanges), ("dipworks/tide.done", Lib.tabData .i64 donL), ("strconv.ErrRange", Rows.laid_strconv_ErrRange), ("strconv.ErrSyntax", Rows.laid_strconv_ErrSyntax), ("dipworks/wicket.entries", Rows.laid_dipworks_wicket_entries), ("unicode/utf8.first", Rows.laid_unicode_utf8_first)] W := hL;have h1 := h0.tail;have hb : Lib.TabIs Tryz.prog W "math/bits.deBruijn64tab" .u8 (Lib.deBruijn64tab.map fun n : Nat => (n : Int)) := Lib.tabIs_of_head (g := 6) (t := 361) (e := 5) (n := 64) zk zk zk zk zk zk h1;have h2 := h1.tail;have hp : Lib.TabIs Tryz.prog W "internal/strconv.uint64pow10" .u64 Lib.pow10Tab := Lib.tabIs_of_head (g := 7) (t := 386) (e := 233) (n := 20) zk zk zk zk zk zk h2;have h3 := h2.tail.tail;have hq : Lib.TabIs Tryz.prog W "dipworks/tide.done" .i64 donL := Lib.tabIs_of_head (g := 2) (t := 308) (e := 3) (n := 7) zk zk zk zk zk zk h3;have h4 := h3.tail;obtain ⟨a1, s1, hv1, _⟩ := laid_sentinel (g := 9) (ti := 193) (tp := 417) (te := 419) (ts := 9) h4 zk zk Tryz.underlying193 UI Tryz.underlying417 Tryz.underlying419 rfl rfl Tryz.underlying9 zk zk;have h5 := h4.tail;obtain ⟨a2, s2, hv2, _⟩ := laid_sentinel (g := 8) (ti := 193) (tp := 417) (te := 419) (ts := 9) h5 zk zk Tryz.underlying193 UI Tryz.underlying417 Tryz.underlying419 rfl rfl Tryz.underlying9 zk zk;have h6 := h5.tail;obtain ⟨m, hm⟩ := cell_of_shapedOpen_int (k := .i64) (zero := #[.int .i64 0]) (t := 3) (g := 1) hS (of_decide_eq_true zk) zk rfl zk zk Tryz.underlying3;obtain ⟨r, tm, fm, hmm⟩ := Wu hm;obtain ⟨t1, f1, g1⟩ := wu (g := 9) zk hv1;obtain ⟨t2, f2, g2⟩ := wu (g := 8) zk hv2;obtain ⟨t3, f3, g3⟩ := wu (g := 7) zk hp;obtain ⟨t4, f4, g4⟩ := wu (g := 2) zk hq;obtain ⟨t5, f5, g5⟩ := wu (g := 6) zk hb;exact ⟨⟨t4, f4, g4⟩, zah rfl h6, ⟨m, r, tm, fm, hmm⟩, ⟨_, _, t2, f2, g2⟩, ⟨_, _, t1, f1, g1⟩, ⟨t3, f3, g3⟩, ⟨t5, f5, by rw [g5]; unfold tabV; rw [List.map_map]; rfl⟩⟩
theorem qv : ownKnob Tryz.prog.godebug = none := by kernel_rfl
theorem qo (os : Os) (args : Array Value) : laidMetH Tryz.prog vG ((World.laidAll Tryz.prog os vG).forCall (fun _ _ => 0) ⟨#[], args, []⟩).memory := by
  rw [MakeChecks.laidMetH_plain _ _ _ zk]; exact laidMet_laidAll _ zk zk
theorem wA (os : Os) (args : Array Value) : ((World.laidAll Tryz.prog os vG).forCall (fun _ _ => 0) ⟨#[], args, []⟩).Shaped Tryz.prog := World.shaped_of_ZipB zk zk
theorem qp : laidOutB Tryz.prog = true := by kernel_rfl
end Go.Proofs.YtejgofaeafphjaaGreatDoor
