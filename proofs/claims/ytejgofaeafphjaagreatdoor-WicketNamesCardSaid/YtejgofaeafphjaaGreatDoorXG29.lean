import Derived.Test.YtejgofaeafphjaaGreatDoorXG16
import Derived.Test.YtejgofaeafphjaaGreatDoorXG28
import Derived.Test.YtejgofaeafphjaaGreatDoorXG18
import Derived.Test.YtejgofaeafphjaaGreatDoorXG5
import Derived.Test.YtejgofaeafphjaaGreatDoorXG7
set_option linter.unusedSimpArgs false
set_option linter.unusedVariables false
set_option linter.all false
set_option maxRecDepth 100000
set_option maxHeartbeats 4000000
attribute [local irreducible] Go.W.WL Go.W.WLF Go.W.WC Go.W.WCF Go.W.WP Go.W.WA Go.W.WQ Go.W.WH Go.W.WHo Go.W.WCn Go.W.Yd Go.W.Qt Go.W.SO Go.Code.wp Go.Code.wpIn
namespace Go.Ti
open Go.W
end Go.Ti
namespace Go.Ti
open Go.W
def sampW : Wick := ⟨2, 12, 5, 2, [⟨0, ⟨10, 12⟩⟩, ⟨60, ⟨40, 41⟩⟩, ⟨120, ⟨12, 12⟩⟩], [⟨5, 6⟩, ⟨20, 20⟩]⟩
def aliveL : List Bs := [[116, 105, 99, 107, 101, 116, 32, 48, 32, 48, 32, 48, 32, 49, 48, 32, 49, 49], [116, 105, 99, 107, 101, 116, 32, 50, 32, 51, 32, 49, 32, 56, 32, 56], [116, 105, 99, 107, 101, 116, 32, 51, 32, 52, 32, 48, 32, 52, 48, 32, 52, 49], [116, 105, 99, 107, 101, 116, 32, 48, 32, 48, 32, 50, 32, 57, 32, 57], [116, 117, 114, 110, 32, 49], [119, 104, 111, 115, 101, 32, 49, 49], [102, 114, 101, 101, 32, 48, 32, 52, 48], [108, 111, 111, 107, 32, 49, 32, 51, 48, 32, 54, 32, 54], [100, 101, 112, 116, 104, 32, 48, 32, 49, 48], [102, 105, 114, 115, 116, 32, 49, 32, 53, 32, 48], [112, 97, 121, 32, 48], [112, 97, 121, 32, 49], [102, 105, 110, 101, 32, 49], [98, 97, 99, 107, 32, 50, 32, 54], [112, 97, 121, 32, 49], [98, 111, 111, 107], [115, 117, 109], [102, 105, 110, 101, 32, 48], [98, 111, 111, 107], [115, 117, 109]]
def aliveR : List Bs := [[116, 105, 99, 107, 101, 116, 32, 48], [116, 105, 99, 107, 101, 116, 32, 49], [116, 105, 99, 107, 101, 116, 32, 50], [], [116, 117, 114, 110, 32, 48], [119, 104, 111, 115, 101, 32, 53, 32, 48], [102, 114, 101, 101, 32, 49], [108, 111, 111, 107, 32, 48], [100, 101, 112, 116, 104, 32, 55, 32, 57], [102, 105, 114, 115, 116, 32, 50, 57], [112, 97, 105, 100, 32, 48], [112, 97, 105, 100, 32, 49], [112, 97, 105, 100, 32, 50], [112, 97, 105, 100, 32, 51], [], [98, 111, 111, 107], [115, 117, 109, 32, 50, 51], [112, 97, 105, 100, 32, 52], [98, 111, 111, 107, 32, 52, 32, 50], []]
def namesL : List (Bs × Bs × Int) := [([116, 105, 99, 107, 101, 116, 32, 48, 32, 48, 32, 48, 32, 49, 48, 32, 49, 49], [116, 105, 99, 107, 101, 116, 32, 48], 0), ([116, 105, 99, 107, 101, 116, 32, 48, 32, 48, 32, 50, 32, 57, 32, 57], [], 2), ([116, 117, 114, 110, 32, 51], [], 2), ([108, 111, 111, 107, 32, 50, 32, 51, 48, 32, 54, 32, 54], [], 2), ([112, 97, 121, 32, 48], [112, 97, 105, 100, 32, 48], 0), ([112, 97, 121, 32, 48], [], 5), ([102, 105, 110, 101, 32, 48], [112, 97, 105, 100, 32, 49], 0), ([98, 111, 111, 107], [98, 111, 111, 107, 32, 49, 32, 50], 0), ([115, 117, 109], [], 11), ([112, 97, 121], [], 8)]
set_option maxRecDepth 1000000 in
theorem alive_play : PlayOut sampW aliveL = (aliveR, 3, 0) := by decide +kernel
set_option maxRecDepth 1000000 in
theorem samp_ok : wickB sampW = true := by decide +kernel
set_option maxRecDepth 1000000 in
theorem names_ok : ∀ i, i < 10 → (lineD sampW (linesD sampW day0 ((namesL.take i).map (·.1))) (gt namesL i).1).2 = (gt namesL i).2 := by decide +kernel
end Go.Ti
namespace Go.Proofs.YtejgofaeafphjaaGreatDoor
open Go.W Go.Ti
theorem SA49 : StructAt Tryz.prog 49 [.int .i64 0, .int .i64 0, .int .i64 0, .int .i64 0, .slice none 0 0, .slice none 0 0] [(0, 1), (1, 1), (2, 1), (3, 1), (4, 1), (5, 1)] := ⟨⟨_, Tryz.zeroValue49, rfl⟩, _, Tryz.underlying49, fun w => by simp [Tryz.sizeOf3, Tryz.sizeOf27, Tryz.sizeOf28]⟩
@[reducible, instance] def ISA49 := SaF.mk SA49
theorem SA62 : StructAt Tryz.prog 62 [.int .i64 0, .int .i64 0, .int .i64 0] [(0, 1), (1, 2)] := ⟨⟨_, Tryz.zeroValue62, rfl⟩, _, Tryz.underlying62, fun w => by simp [Tryz.sizeOf3, Tryz.sizeOf39]⟩
@[reducible, instance] def ISA62 := SaF.mk SA62
theorem alive_pk {v : Value} {D : Imm} (h : PlayK sampW aliveL v D) : ∃ a n c, v = .tuple #[.slice a n c, it 3, it 0] ∧ SlL D 1 (aliveR.map strC) a n := by
  unfold PlayK at h; rw [alive_play] at h; exact h
theorem alive_len : ∀ q ∈ aliveL, q.length ≤ 2 ^ 20 := by decide
theorem lspan_g (a b : Int) (w : World) : Gives Tryz.prog 44 [it a, it b] w (.agg #[it a, it b]) := by
  unfold Gives
  refine en Tryz.func44 rfl Tryz.ntmps44 zI (g [[1],[1,0,1]] ?_)
  refine WL.so (SO.alloc ZvF.h rfl) rfl (zw fun b4 hb4 => ?_)
  refine g [[3],[8,4,0,1]] ?_
  refine WP.ret1 rfl rfl rfl (RV.cellN AgF.h SzF.h rfl (vs := [_, _]) rfl (RdN.own (k := 0) (n := 2) rfl rfl)) (fun w hI => ⟨rfl, hI.keep⟩)
theorem sample_g (D : Imm) (w : World) (hH : Holds D w) : Makes Tryz.prog 33 [] w D (fun v D' => ∃ m s, v = wickV sampW m s ∧ WickR D' sampW m s) := by
  unfold Makes
  refine en Tryz.func33 rfl Tryz.ntmps33 (Inv.start hH) (g [[1]] ?_)
  refine WC.ofFr [] trivial (g [[1]] ?_)
  refine WL.so (SO.alloc ZvF.h rfl) rfl (zw fun b0 hb0 => ?_)
  refine g [[3],[1,0]] ?_
  refine WL.cl rfl (fun w hI => lspan_g _ _ _) (g [[1]] ?_)
  refine WL.cl rfl (fun w hI => lspan_g _ _ _) (g [[1]] ?_)
  refine WL.cl rfl (fun w hI => lspan_g _ _ _) (g [[1]] ?_)
  refine WL.so (SO.buildSlice UnF.h SzF.h ZvF.h rfl rfl rfl rfl (cs := [_, _, _, _, _, _, _, _, _]) rfl) rfl ?_
  rintro _ _ _ ⟨b7, hb7, rfl, rfl, rfl⟩
  refine WL.cl rfl (fun w hI => lspan_g _ _ _) (WL.cl rfl (fun w hI => lspan_g _ _ _) ?_)
  refine WL.so (SO.buildSlice UnF.h SzF.h ZvF.h rfl rfl rfl rfl (cs := [_, _, _, _]) rfl) rfl ?_
  rintro _ _ _ ⟨b10, hb10, rfl, rfl, rfl⟩
  refine WL.freezeN 1 b7 (.cells (List.toArray (sampW.marks.flatMap markC ++ [])) 62 (0, 0)) rfl rfl hb7 (fun D1 hX1 h7 => ?_)
  refine WL.freezeN 0 b10 (.cells (List.toArray (sampW.sand.flatMap spanC ++ [])) 39 (0, 0)) rfl rfl hb10 (fun D2 hX2 h10 => ?_)
  refine g [[5]] ?_
  refine WP.ret1 rfl rfl rfl (RV.cellN AgF.h SzF.h rfl (vs := [_, _, _, _, _, _]) rfl (RdN.own (k := 0) (n := 6) rfl rfl)) (fun w1 hI => ⟨_, D2, rfl, hI.keep, hI.imm, hX1.trans hX2 (Nat.le_refl _), ⟨some ⟨b7, 0, none⟩, 3, 3⟩, ⟨some ⟨b10, 0, none⟩, 2, 2⟩, rfl, ⟨(SlL.ofBlock markC_len h7).ext hX2, SlL.ofBlock spanC_len h10, Nat.le_of_ble_eq_true rfl, Nat.le_of_ble_eq_true rfl⟩⟩)
theorem alive_g (D : Imm) (hL : LibW D) (w : World) (hH : Holds D w) : Gives Tryz.prog 29 [] w (.bool true) := by
  unfold Gives
  refine en Tryz.func29 rfl Tryz.ntmps29 (Inv.start hH) (g [[1]] ?_)
  refine WC.ofFr [] trivial (g [[5],[1,0]] ?_)
  refine WL.so (SO.buildSlice1 UnF.h SzF.h ZvF.h rfl rfl rfl (vs := [_, _, _, _, _, _, _, _, _, _, _, _, _, _, _, _, _, _, _, _]) rfl rfl rfl) rfl ?_
  rintro _ _ _ ⟨b6, hb6, rfl, rfl, rfl⟩
  refine g [[4],[1,1,0]] ?_
  refine WL.so (SO.buildSlice1 UnF.h SzF.h ZvF.h rfl rfl rfl (vs := [_, _, _, _, _, _, _, _, _, _, _, _, _, _, _, _, _, _, _, _]) rfl rfl rfl) rfl ?_
  rintro _ _ _ ⟨b7, hb7, rfl, rfl, rfl⟩
  refine g [[4]] ?_
  refine WC.freezeN 0 b7 (.cells (List.toArray (aliveR.flatMap strC ++ [])) 9 (0, 0)) rfl rfl hb7 (fun D1 hX1 h7 => ?_)
  refine WC.freezeN 0 b6 (.cells (List.toArray (aliveL.flatMap strC ++ [])) 9 (0, 0)) rfl rfl hb6 (fun D2 hX2 h6 => ?_)
  have hL2 := (hL.ext hX1).ext hX2
  refine g [[1,2,1,0]] ?_
  refine WL.so (SO.makes (Enters.func Tryz.call33 rfl) (fun w1 hI => sample_g D2 _ hI.imm)) rfl ?_
  rintro _ D3 _ ⟨hX3, ⟨m, s, rfl, hWs⟩, rfl⟩
  refine g [[1]] ?_
  refine WL.so (SO.makes (Enters.func Tryz.call30 rfl) (fun w1 hI => play_g sampW m s aliveL (some ⟨b6, 0, none⟩) 20 20 D3 _ hWs ((SlL.ofBlock strC_len h6).ext hX3) alive_len (hL2.ext hX3) hI.imm)) rfl ?_
  rintro _ D4 _ ⟨hX4, hPK, rfl⟩
  obtain ⟨a, n, c, rfl, hS4⟩ := alive_pk hPK
  obtain rfl := hS4.len'
  refine g [[10],[3,5,4,3,2,0]] ?_
  refine WL.cl rfl (fun w hI => Strings_g aliveR aliveR a (some ⟨b7, 0, none⟩) _ 20 c 20 D4 hS4 ((((SlL.ofBlock strC_len h7).ext hX2).ext hX3).ext hX4) (by decide) _ hI.imm) (WL.know 17 (.bool true) rfl (congrArg Value.bool (decide_eq_true rfl)) (g [[3]] ?_))
  refine WL.know 20 (.bool true) rfl rfl (g [[4]] ?_)
  refine WL.know 24 (.bool true) rfl rfl (g [[5]] ?_)
  refine WP.ret1 rfl rfl rfl (RV.tmp rfl) (fun w1 hI => ⟨rfl, hI.keep⟩)
end Go.Proofs.YtejgofaeafphjaaGreatDoor
namespace Go.Proofs.YtejgofaeafphjaaGreatDoor
open Go.W Go.Ti
theorem SA77 : StructAt Tryz.prog 77 [.string .empty, .string .empty, .int .i64 0] [(0, 1), (1, 1), (2, 1)] := ⟨⟨_, Tryz.zeroValue77, rfl⟩, _, Tryz.underlying77, fun w => by simp [Tryz.sizeOf9, Tryz.sizeOf51]⟩
@[reducible, instance] def ISA77 := SaF.mk SA77
def namC (x : Bs × Bs × Int) : List Value := [st x.1, st x.2.1, it x.2.2]
theorem namC_len (x : Bs × Bs × Int) : (namC x).length = 3 := rfl
theorem names_q : ∀ i, i < 10 → (gt namesL i).1.length ≤ 2 ^ 20 := by decide
theorem names_tk {k : Nat} (h : k < 10) : linesD sampW day0 ((namesL.take (k + 1)).map (·.1)) = (lineD sampW (linesD sampW day0 ((namesL.take k).map (·.1))) (gt namesL k).1).1 := by
  rw [take_gt (show k < namesL.length from h), List.map_append, lines_app]; rfl
theorem WicketNames_g (D : Imm) (hL : LibW D) (w : World) (hH : Holds D w) : Gives Tryz.prog 5 [] w (.bool true) := by
  unfold Gives
  refine en Tryz.func5 rfl Tryz.ntmps5 (Inv.start hH) (g [[1]] ?_)
  refine WC.ofFr [] trivial (g [[5],[1,0]] ?_)
  refine WL.so (SO.makes (Enters.func Tryz.call33 rfl) (fun w1 hI => sample_g D _ hI.imm)) rfl ?_
  rintro _ D2 _ ⟨hX2, ⟨m, s, rfl, hWs⟩, rfl⟩
  refine WL.so (SO.news (Enters.func CaF.h rfl) (fun w1 hI => New_g sampW m s D2 _ hWs hI.imm (hL.ext hX2))) rfl ?_
  rintro _ D3 _ ⟨hp3, hX3, (⟨hv1, xb, m', s', rfl, rfl, hWr⟩ | ⟨hv1, rfl⟩), rfl⟩
  rotate_left
  · rw [samp_ok] at hv1; cases hv1
  refine g [[9],[2,2,1,0]] ?_
  refine WL.yd (Yd.eqP UnF.h rfl) rfl (WL.know 13 (.bool false) rfl rfl (g [[3]] ?_))
  refine WL.know 16 (.bool false) rfl rfl (g [[8],[11,1,0]] ?_)
  refine WL.so (SO.buildSlice UnF.h SzF.h ZvF.h rfl rfl rfl rfl (cs := [_, _, _, _, _, _, _, _, _, _, _, _, _, _, _, _, _, _, _, _, _, _, _, _, _, _, _, _, _, _]) rfl) rfl ?_
  rintro _ _ _ ⟨b28, hb28, rfl, rfl, rfl⟩
  refine WL.freezeN 0 b28 (.cells (List.toArray (namesL.flatMap namC ++ [])) 77 (0, 0)) rfl rfl hb28 (fun D5 hX5 h28 => ?_)
  have hN : SlL D5 3 (namesL.map namC) (some ⟨b28, 0, none⟩) 10 := SlL.ofBlock namC_len h28
  refine g [[5]] ?_
  refine WC.loop (fun y : Nat × Imm × Sl × Sl × Sl => [(1, pt xb), (28, .slice (some ⟨b28, 0, none⟩) 10 10), (29, nt 10), (30, nt y.1)]) (fun y => [(xb, womO sampW m' s' y.2.2.1 y.2.2.2.1 y.2.2.2.2)]) (fun y => y.2.1) (fun y => y.1 ≤ 10 ∧ DExt w D5 y.2.1 ∧ DayR y.2.1 (linesD sampW day0 ((namesL.take y.1).map (·.1))) y.2.2.1 y.2.2.2.1 y.2.2.2.2) (fun y => 10 - y.1) ⟨0, D5, nilS, nilS, nilS⟩ ⟨by omega, DExt.refl _ _, DayR.nil _⟩ (fun a w h => at_fr h ⟨rfl, rfl, rfl, rfl, trivial⟩) ?_
  rintro ⟨k, D1, t, l, b⟩ ⟨hk7, hX1, hd1⟩
  dsimp only at hk7 hX1 hd1
  refine g [[1],[5,1,28,29,30]] ?_
  refine WC.cond rfl (fun c31 => ?_) (fun c31 => ?_)
  · try simp only [zq] at c31
    have hkl : k < 10 := by omega
    refine g [[5],[1,1,28,29,30]] ?_
    refine WL.yd (Yd.ix rfl rfl ((hN.ext hX1).addr k (by omega))) rfl (WL.yd (Yd.lV [_, _, _] rfl (((hN.ext hX1).at k (by omega)).rdn 0 3 rfl)) rfl ?_)
    refine WL.so (SO.alloc ZvF.h rfl) rfl (zw fun b4 hb4 => ?_)
    refine g [[4],[4,4,1,28,29,30]] ?_
    refine WL.so (SO.altersN (own := [_]) (hpc := [(xb, womO sampW m' s' t l b)]) (S1 := [xb]) (fun _ h => h) (fun h => h) (fun _ h => h) (fun _ h => h) (Enters.func CaF.h rfl) (fun w1 hI => line_g sampW (linesD sampW day0 ((namesL.take k).map (·.1))) m' s' t l b xb (gt namesL k).1 D1 w1 samp_ok (lines_ok _ (day0_ok samp_ok)) ((hWr.ext hX5).ext hX1) hd1 ((((hL.ext hX2).ext hX3).ext hX5).ext hX1) (names_q k hkl) hI)) rfl ?_
    rintro _ D6 _ ⟨hp6, hX6, ⟨hv6, t1, l1, b1, rfl, hd6⟩, rfl⟩
    have hnk := names_ok k hkl
    rw [show (lineD sampW (linesD sampW day0 ((namesL.take k).map (·.1))) (gt namesL k).1).2.1 = (gt namesL k).2.1 from congrArg Prod.fst hnk, show (lineD sampW (linesD sampW day0 ((namesL.take k).map (·.1))) (gt namesL k).1).2.2 = (gt namesL k).2.2 from congrArg Prod.snd hnk] at hv6
    subst hv6
    refine g [[8],[4,6,5,4,1,28,29,30]] ?_
    refine WL.yd (Yd.neS' rfl rfl) rfl ?_
    refine WL.know 44 (.bool false) rfl (congrArg Value.bool (by simp)) (g [[5]] ?_)
    refine WL.know 49 (.bool false) rfl (congrArg Value.bool (by simp)) (g [[7],[4,1,28,29,30]] ?_)
    exact WP.again (⟨k + 1, D6, t1, l1, b1⟩ : Nat × Imm × Sl × Sl × Sl) ⟨by simp only; omega, hX1.trans hX6 (Nat.le_refl _), by dsimp only; rw [names_tk hkl]; exact hd6⟩ (by simp only; omega) (fun aa ww h => at_drop 1 h ⟨rfl, rfl, rfl, rfl, trivial⟩ (List.Perm.refl _))
  try simp only [zq] at c31
  obtain rfl : k = 10 := by omega
  refine g [[6]] ?_
  refine WC.ofFr [] trivial (g [[2]] ?_)
  refine WL.sog rfl (SO.callP CaF.h rfl (fun w hI => alive_g D1 ((((hL.ext hX2).ext hX3).ext hX5).ext hX1) _ hI.imm)) rfl (zs (g [[5]] ?_))
  refine WP.ret1 rfl rfl rfl (RV.tmp rfl) (fun w1 hI => ⟨rfl, hI.keep⟩)
end Go.Proofs.YtejgofaeafphjaaGreatDoor
namespace Go.Proofs.YtejgofaeafphjaaGreatDoor
open Go.W Go.Ti Go.ChangeShapes Go.WideShapes Go.ChangeAt Go.RowKit Go.Deep
abbrev laidL : List (String × DataW Unit) := Rows.wicketNamesRow.laid
theorem star_err : "*errors.errorString" = "*" ++ "errors.errorString" := by decide
theorem row_err : ∀ u, Tryz.prog.typeName? 3 u = some "*errors.errorString" → u = 417 := fun u h =>
  typeName_ptr_named (nm := "errors.errorString") (by rw [← star_err]; kernel_rfl) zk (by decide) u (by rw [← star_err]; exact h)
theorem len4c {l : List Value} (h : l.length = 4) : ∃ a b c d, l = [a, b, c, d] := by
  match l, h with
  | [a, b, c, d], _ => exact ⟨a, b, c, d, rfl⟩
set_option maxRecDepth 100000 in
theorem ents_at {W : World} {x : String × DataW Unit} {r : List (String × DataW Unit)} (hx : x = ("dipworks/wicket.entries", Rows.laid_dipworks_wicket_entries)) (h : laidMet Tryz.prog (x :: r) W) : ∃ t fz, heapI W 0 = some (.cells (List.toArray [st [], st payS, st fineS, st backS]) t fz) := by
  subst hx
  obtain ⟨ps, ⟨g, t, cs, fuel, p, q, hg, ht, hv, hd, _, _⟩, _, _⟩ := h
  obtain rfl := Option.some.inj ((show Tryz.prog.globalNamed "dipworks/wicket.entries" = some 0 by kernel_rfl).symm.trans hg)
  obtain rfl := Option.some.inj ((show (Tryz.prog.globals[0]?).map (·.type) = some 216 by kernel_rfl).symm.trans ht)
  obtain ⟨t', fz, hh⟩ := var_heapI hg hv
  refine ⟨t', fz, ?_⟩
  rw [hh]
  obtain ⟨l⟩ := cs
  obtain ⟨xs, m, rfl, hx, hlen, hxl, hel⟩ := DataW.trod_array (show Tryz.prog.underlying 216 = some (.array 4 9) by kernel_rfl) hd
  have hc : Tryz.prog.cellsOf 216 = 4 := by kernel_rfl
  have hcS : Tryz.prog.cellsOf 9 = 1 := by kernel_rfl
  rw [hc] at hlen
  obtain ⟨c0, c1, c2, c3, rfl⟩ := len4c hlen
  have h0 := hel 0 (by omega)
  have h1 := hel 1 (by omega)
  have h2 := hel 2 (by omega)
  have h3 := hel 3 (by omega)
  simp only [Prod.mk.injEq, DataW.agg.injEq, Rows.laid_dipworks_wicket_entries] at hx
  rw [hcS] at h0 h1 h2 h3
  match xs, hxl, hx, h0, h1, h2, h3 with
  | [x0, x1, x2, x3], _, hx, h0, h1, h2, h3 =>
    obtain ⟨s0, e0, f0, _⟩ := DataW.trod_string Tryz.underlying9 (show DataW.trod _ Tryz.prog W 0 _ false m 9 [c0] = some x0 from h0)
    obtain ⟨s1, e1, f1, _⟩ := DataW.trod_string Tryz.underlying9 (show DataW.trod _ Tryz.prog W 0 _ false m 9 [c1] = some x1 from h1)
    obtain ⟨s2, e2, f2, _⟩ := DataW.trod_string Tryz.underlying9 (show DataW.trod _ Tryz.prog W 0 _ false m 9 [c2] = some x2 from h2)
    obtain ⟨s3, e3, f3, _⟩ := DataW.trod_string Tryz.underlying9 (show DataW.trod _ Tryz.prog W 0 _ false m 9 [c3] = some x3 from h3)
    subst f0; subst f1; subst f2; subst f3
    simp only [List.map_cons, List.map_nil, List.cons.injEq, DataW.lit.injEq, Lit.string.injEq, and_true] at hx
    simp only [List.cons.injEq, and_true] at e0 e1 e2 e3
    subst e0; subst e1; subst e2; subst e3
    obtain ⟨q0, q1, q2, q3⟩ := hx.1
    obtain ⟨⟨d0⟩⟩ := s0
    obtain ⟨⟨d1⟩⟩ := s1
    obtain ⟨⟨d2⟩⟩ := s2
    obtain ⟨⟨d3⟩⟩ := s3
    simp only at q0 q1 q2 q3
    subst q0; subst q1; subst q2; subst q3
    rfl
set_option maxRecDepth 100000 in
theorem libW_of {W : World} (hS : W.ShapedOpen Tryz.prog) (hL : laidMetH Tryz.prog laidL W) : LibW (heapI W) := by
  rw [MakeChecks.laidMetH_plain _ _ _ zk] at hL
  have h0 : laidMet Tryz.prog [("math/bits.deBruijn32tab", Rows.laid_math_bits_deBruijn32tab), ("math/bits.deBruijn64tab", Lib.tabData .u8 (Lib.deBruijn64tab.map fun n : Nat => (n : Int))), ("internal/strconv.uint64pow10", Lib.tabData .u64 Lib.pow10Tab), ("unicode/utf8.acceptRanges", Rows.laid_unicode_utf8_acceptRanges), ("dipworks/tide.done", Lib.tabData .i64 donL), ("strconv.ErrRange", Rows.laid_strconv_ErrRange), ("strconv.ErrSyntax", Rows.laid_strconv_ErrSyntax), ("dipworks/wicket.entries", Rows.laid_dipworks_wicket_entries), ("unicode/utf8.first", Rows.laid_unicode_utf8_first)] W := hL
  have h1 := h0.tail
  have hb : Lib.TabIs Tryz.prog W "math/bits.deBruijn64tab" .u8 (Lib.deBruijn64tab.map fun n : Nat => (n : Int)) := Lib.tabIs_of_head (g := 6) (t := 361) (e := 5) (n := 64) zk zk zk zk zk zk h1
  have h2 := h1.tail
  have hp : Lib.TabIs Tryz.prog W "internal/strconv.uint64pow10" .u64 Lib.pow10Tab := Lib.tabIs_of_head (g := 7) (t := 386) (e := 233) (n := 20) zk zk zk zk zk zk h2
  have h3 := h2.tail.tail
  have hq : Lib.TabIs Tryz.prog W "dipworks/tide.done" .i64 donL := Lib.tabIs_of_head (g := 2) (t := 308) (e := 3) (n := 7) zk zk zk zk zk zk h3
  have h4 := h3.tail
  obtain ⟨a1, s1, hv1, _⟩ := laid_sentinel (g := 9) (ti := 193) (tp := 417) (te := 419) (ts := 9) h4 zk zk Tryz.underlying193 row_err Tryz.underlying417 Tryz.underlying419 rfl rfl Tryz.underlying9 zk zk
  have h5 := h4.tail
  obtain ⟨a2, s2, hv2, _⟩ := laid_sentinel (g := 8) (ti := 193) (tp := 417) (te := 419) (ts := 9) h5 zk zk Tryz.underlying193 row_err Tryz.underlying417 Tryz.underlying419 rfl rfl Tryz.underlying9 zk zk
  have h6 := h5.tail
  obtain ⟨m, hm⟩ := cell_of_shapedOpen_int (k := .i64) (zero := #[.int .i64 0]) (t := 3) (g := 1) hS (of_decide_eq_true zk) zk rfl zk zk Tryz.underlying3
  obtain ⟨r, tm, fm, hmm⟩ := cell_heapI hm
  obtain ⟨t1, f1, g1⟩ := var_heapI (g := 9) zk hv1
  obtain ⟨t2, f2, g2⟩ := var_heapI (g := 8) zk hv2
  obtain ⟨t3, f3, g3⟩ := var_heapI (g := 7) zk hp
  obtain ⟨t4, f4, g4⟩ := var_heapI (g := 2) zk hq
  obtain ⟨t5, f5, g5⟩ := var_heapI (g := 6) zk hb
  exact ⟨⟨t4, f4, g4⟩, ents_at rfl h6, ⟨m, r, tm, fm, hmm⟩, ⟨_, _, t2, f2, g2⟩, ⟨_, _, t1, f1, g1⟩, ⟨t3, f3, g3⟩, ⟨t5, f5, by rw [g5]; unfold tabV; rw [List.map_map]; rfl⟩⟩
theorem own_knob : ownKnob Tryz.prog.godebug = none := by kernel_rfl
theorem laid_met (os : Os) (args : Array Value) : laidMetH Tryz.prog laidL ((World.laidAll Tryz.prog os laidL).forCall (fun _ _ => 0) ⟨#[], args, []⟩).memory := by
  rw [MakeChecks.laidMetH_plain _ _ _ zk]; exact laidMet_laidAll _ zk zk
theorem laid_shaped (os : Os) (args : Array Value) : ((World.laidAll Tryz.prog os laidL).forCall (fun _ _ => 0) ⟨#[], args, []⟩).Shaped Tryz.prog := World.shaped_of_ZipB zk zk
theorem laid_out : laidOutB Tryz.prog = true := by kernel_rfl
end Go.Proofs.YtejgofaeafphjaaGreatDoor
