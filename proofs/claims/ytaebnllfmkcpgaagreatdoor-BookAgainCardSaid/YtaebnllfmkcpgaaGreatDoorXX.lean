import Derived.Test.YtaebnllfmkcpgaaGreatDoorXL
import Derived.Test.YtaebnllfmkcpgaaGreatDoorXT
set_option linter.unusedSimpArgs false
set_option linter.unusedVariables false
set_option linter.all false
set_option maxRecDepth 100000
set_option maxHeartbeats 1000000
namespace Go.Proofs.YtaebnllfmkcpgaaGreatDoor
open Go.W Go.Bk Go.ChangeShapes Go.WideShapes Go.RowKit Go.Deep

theorem len3 {α : Type} {l : List α} (h : l.length = 3) : ∃ x0 x1 x2, l = [x0, x1, x2] := by
  match l, h with
  | [x0, x1, x2], _ => exact ⟨x0, x1, x2, rfl⟩

section
variable {H : Type} {enc : TypeId × Value → H} {w : World} {spare : Nat → Bool} {held : Bool}
theorem sl_cap {t e : TypeId} {fuel : Nat} {a : Option Addr} {n c : Nat} {x : DataW H × List MemPlace} (ht : Tryz.prog.underlying t = some (.slice e)) (h : DataW.trod enc Tryz.prog w 0 spare held fuel t [.slice a n c] = some x) : n ≤ c := by
  rcases open_slice ht h with ⟨e, _⟩ | ⟨a, len, cap, m', n, D, Pl, e, hb, hl, hmx, hmm, _, hi⟩
  · cases e; exact Nat.le_refl _
  · cases e; omega

theorem wf_u8 {n : Int} (h : (Lit.int .u8 n).wf = true) : 0 ≤ n ∧ n ≤ 255 := by
  simp [Lit.wf, IntKind.min, IntKind.max, IntKind.bits, IntKind.signed] at h
  omega
set_option maxRecDepth 100000 in
theorem u8_bt {n : Int} (h : (Lit.int .u8 n).wf = true) : ∃ b : UInt8, Value.int .u8 n = bt b := by
  have := wf_u8 h
  refine ⟨UInt8.ofNat n.toNat, ?_⟩
  rw [btN (by omega)]; congr 1; omega
set_option maxRecDepth 100000 in
theorem el_byte {n : Nat} {cs : List Value} {y : DataW H × List MemPlace} (h : DataW.trod enc Tryz.prog w 0 spare held n 5 cs = some y) : ∃ u : UInt8, cs = btC u := by
  obtain ⟨z, e, _, hw⟩ := DataW.trod_int Tryz.underlying5 h
  obtain ⟨b, hb⟩ := u8_bt hw
  exact ⟨b, by rw [e, hb]; rfl⟩
/-- a list of lists that came in: each with where it lies -/
abbrev RowsIn (w : World) := { x : List BSeen × Sl // SlL (heapI w) 5 (x.1.map bsC) x.2.a x.2.n ∧ x.2.n ≤ 9223372036854775807 }
instance (w : World) : Inhabited (RowsIn w) := ⟨⟨([], ⟨none, 0, 0⟩), SlL.nil _ _, Nat.zero_le _⟩⟩
set_option maxRecDepth 100000 in
theorem open_bytes {v : Value} {d : DataW H} {p : List MemPlace} (hv : Value.okWide Tryz.prog w .any 0 43 v) (h : DataW.Trod enc Tryz.prog w 0 spare held 43 v d p) : ∃ (l : Bs) (a : Option Addr) (n c : Nat), v = .slice a n c ∧ SlL (heapI w) 1 (l.map btC) a n ∧ n ≤ c := by
  obtain ⟨_, _, _, rfl⟩ := okWide_slice Tryz.underlying43 hv
  obtain ⟨fuel, hf⟩ := h
  have hcap := sl_cap Tryz.underlying43 hf
  obtain ⟨l, a, n, c, e, m1, s1⟩ := open_sl (m := 1) btC Tryz.underlying43 (by kernel_rfl) (by decide) (fun _ _ _ h _ => el_byte h) hf
  simp only [Value.cells, List.cons.injEq, and_true, Value.slice.injEq] at e
  obtain ⟨rfl, rfl, rfl⟩ := e
  exact ⟨l, _, _, _, rfl, s1, hcap⟩
set_option maxRecDepth 100000 in
theorem open_text {v : Value} {d : DataW H} {p : List MemPlace} (hv : Value.okWide Tryz.prog w .any 0 9 v) (h : DataW.Trod enc Tryz.prog w 0 spare held 9 v d p) : ∃ s : Bs, v = st s := by
  obtain ⟨s, rfl, _, _, _⟩ := ChangeMaps.open_string Tryz.underlying9 hv h
  exact ⟨s.data.toList, by cases s; rfl⟩
end

end Go.Proofs.YtaebnllfmkcpgaaGreatDoor
namespace Go.Proofs.YtaebnllfmkcpgaaGreatDoor
open Go.W Go.Bk Go.ChangeShapes Go.WideShapes Go.ChangeAt Go.RowKit Go.Deep

abbrev laidL : List (String × DataW Unit) := Rows.bookWritesRow.laid
theorem star_err : "*errors.errorString" = "*" ++ "errors.errorString" := by decide
theorem row_err : ∀ u, Tryz.prog.typeName? 3 u = some "*errors.errorString" → u = 267 := fun u h =>
  typeName_ptr_named (nm := "errors.errorString") (by rw [← star_err]; kernel_rfl) (by kernel_rfl) (by decide) u (by rw [← star_err]; exact h)
set_option maxRecDepth 100000 in
theorem marks_at {W : World} {x : String × DataW Unit} {r : List (String × DataW Unit)} (hx : x = ("dipworks/book.marks", Rows.laid_dipworks_book_marks)) (h : laidMet Tryz.prog (x :: r) W) : ∃ t fz, heapI W 0 = some (.cells (List.toArray [st [], st [63], st [33]]) t fz) := by
  subst hx
  obtain ⟨ps, ⟨g, t, cs, fuel, p, q, hg, ht, hv, hd, _, _⟩, _, _⟩ := h
  obtain rfl := Option.some.inj ((show Tryz.prog.globalNamed "dipworks/book.marks" = some 0 by kernel_rfl).symm.trans hg)
  obtain rfl := Option.some.inj ((show (Tryz.prog.globals[0]?).map (·.type) = some 157 by kernel_rfl).symm.trans ht)
  obtain ⟨t', fz, hh⟩ := var_heapI hg hv
  refine ⟨t', fz, ?_⟩
  rw [hh]
  obtain ⟨l⟩ := cs
  obtain ⟨xs, m, rfl, hx, hlen, hxl, hel⟩ := DataW.trod_array (show Tryz.prog.underlying 157 = some (.array 3 9) by kernel_rfl) hd
  have hc : Tryz.prog.cellsOf 157 = 3 := by kernel_rfl
  have hcS : Tryz.prog.cellsOf 9 = 1 := by kernel_rfl
  rw [hc] at hlen
  obtain ⟨c0, c1, c2, rfl⟩ := len3 hlen
  have h0 := hel 0 (by omega)
  have h1 := hel 1 (by omega)
  have h2 := hel 2 (by omega)
  simp only [Prod.mk.injEq, DataW.agg.injEq, Rows.laid_dipworks_book_marks] at hx
  rw [hcS] at h0 h1 h2
  match xs, hxl, hx, h0, h1, h2 with
  | [x0, x1, x2], _, hx, h0, h1, h2 =>
    obtain ⟨s0, e0, f0, _⟩ := DataW.trod_string Tryz.underlying9 (show DataW.trod _ Tryz.prog W 0 _ false m 9 [c0] = some x0 from h0)
    obtain ⟨s1, e1, f1, _⟩ := DataW.trod_string Tryz.underlying9 (show DataW.trod _ Tryz.prog W 0 _ false m 9 [c1] = some x1 from h1)
    obtain ⟨s2, e2, f2, _⟩ := DataW.trod_string Tryz.underlying9 (show DataW.trod _ Tryz.prog W 0 _ false m 9 [c2] = some x2 from h2)
    subst f0; subst f1; subst f2
    simp only [List.map_cons, List.map_nil, List.cons.injEq, DataW.lit.injEq, Lit.string.injEq, and_true] at hx
    simp only [List.cons.injEq, and_true] at e0 e1 e2
    subst e0; subst e1; subst e2
    obtain ⟨q0, q1, q2⟩ := hx.1
    obtain ⟨⟨d0⟩⟩ := s0
    obtain ⟨⟨d1⟩⟩ := s1
    obtain ⟨⟨d2⟩⟩ := s2
    simp only at q0 q1 q2
    subst q0; subst q1; subst q2
    rfl
set_option maxRecDepth 100000 in
theorem libD_of {W : World} (hS : W.ShapedOpen Tryz.prog) (hL : laidMetH Tryz.prog laidL W) : LibD (heapI W) := by
  rw [MakeChecks.laidMetH_plain _ _ _ (by kernel_rfl)] at hL
  have h0 : laidMet Tryz.prog [("math/bits.deBruijn32tab", Rows.laid_math_bits_deBruijn32tab), ("math/bits.deBruijn64tab", Rows.laid_math_bits_deBruijn64tab), ("internal/strconv.uint64pow10", Lib.tabData .u64 Lib.pow10Tab), ("unicode/utf8.acceptRanges", Rows.laid_unicode_utf8_acceptRanges), ("strconv.ErrRange", Rows.laid_strconv_ErrRange), ("strconv.ErrSyntax", Rows.laid_strconv_ErrSyntax), ("dipworks/book.marks", Rows.laid_dipworks_book_marks), ("unicode/utf8.first", Rows.laid_unicode_utf8_first)] W := hL
  have h2 := h0.tail.tail
  have hp : Lib.TabIs Tryz.prog W "internal/strconv.uint64pow10" .u64 Lib.pow10Tab := Lib.tabIs_of_head (g := 4) (t := 261) (e := 245) (n := 20) (by kernel_rfl) (by kernel_rfl) (by kernel_rfl) (by kernel_rfl) (by kernel_rfl) (by kernel_rfl) h2
  have h4 := h2.tail.tail
  obtain ⟨a1, s1, hv1, _⟩ := laid_sentinel (g := 3) (ti := 210) (tp := 267) (te := 269) (ts := 9) h4 (by kernel_rfl) (by kernel_rfl) Tryz.underlying210 row_err Tryz.underlying267 Tryz.underlying269 rfl rfl Tryz.underlying9 (by kernel_rfl) (by kernel_rfl)
  have h5 := h4.tail
  obtain ⟨a2, s2, hv2, _⟩ := laid_sentinel (g := 2) (ti := 210) (tp := 267) (te := 269) (ts := 9) h5 (by kernel_rfl) (by kernel_rfl) Tryz.underlying210 row_err Tryz.underlying267 Tryz.underlying269 rfl rfl Tryz.underlying9 (by kernel_rfl) (by kernel_rfl)
  have h6 := h5.tail
  obtain ⟨m, hm⟩ := cell_of_shapedOpen_int (k := .i64) (zero := #[.int .i64 0]) (t := 3) (g := 1) hS (of_decide_eq_true (by kernel_rfl)) (by kernel_rfl) rfl (by kernel_rfl) (by kernel_rfl) Tryz.underlying3
  obtain ⟨r, tm, fm, hmm⟩ := cell_heapI hm
  obtain ⟨t1, f1, g1⟩ := var_heapI (g := 3) (by kernel_rfl) hv1
  obtain ⟨t2, f2, g2⟩ := var_heapI (g := 2) (by kernel_rfl) hv2
  obtain ⟨t3, f3, g3⟩ := var_heapI (g := 4) (by kernel_rfl) hp
  exact ⟨marks_at rfl h6, ⟨m, r, tm, fm, hmm⟩, ⟨_, _, t2, f2, g2⟩, ⟨_, _, t1, f1, g1⟩, ⟨t3, f3, g3⟩⟩
theorem own_knob : ownKnob Tryz.prog.godebug = none := by kernel_rfl
theorem laid_met (os : Os) (args : Array Value) : laidMetH Tryz.prog laidL ((World.laidAll Tryz.prog os laidL).forCall (fun _ _ => 0) ⟨#[], args, []⟩).memory := by
  rw [MakeChecks.laidMetH_plain _ _ _ (by kernel_rfl)]; exact laidMet_laidAll _ (by kernel_rfl) (by kernel_rfl)
theorem laid_shaped (os : Os) (args : Array Value) : ((World.laidAll Tryz.prog os laidL).forCall (fun _ _ => 0) ⟨#[], args, []⟩).Shaped Tryz.prog := World.shaped_of_ZipB (by kernel_rfl) (by kernel_rfl)
theorem laid_out : laidOutB Tryz.prog = true := by kernel_rfl

end Go.Proofs.YtaebnllfmkcpgaaGreatDoor
