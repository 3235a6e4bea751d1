import Derived.Test.YtaebnllfmkcpgaaGreatDoorXD
import Derived.Test.YtaebnllfmkcpgaaGreatDoorXU
set_option linter.unusedSimpArgs false
set_option linter.unusedVariables false
set_option linter.all false
set_option maxRecDepth 100000
set_option maxHeartbeats 1000000
namespace Go.Proofs.YtaebnllfmkcpgaaGreatDoor
open Go.W Go.Bk
theorem FA25_0 : FieldAt Tryz.prog 25 0 0 := FieldAt.mk (t := 3) (off := 0) Tryz.underlying25 rfl Tryz.sizeOf3 (by decide)
theorem FA25_1 : FieldAt Tryz.prog 25 1 1 := FieldAt.mk (t := 3) (off := 1) Tryz.underlying25 rfl Tryz.sizeOf3 (by decide)
theorem FA25_2 : FieldAt Tryz.prog 25 2 2 := FieldAt.mk (t := 22) (off := 2) Tryz.underlying25 rfl Tryz.sizeOf22 (by decide)
theorem FA25_3 : FieldAt Tryz.prog 25 3 3 := FieldAt.mk (t := 22) (off := 3) Tryz.underlying25 rfl Tryz.sizeOf22 (by decide)
theorem FA25_4 : FieldAt Tryz.prog 25 4 4 := FieldAt.mk (t := 23) (off := 4) Tryz.underlying25 rfl Tryz.sizeOf23 (by decide)
theorem FA29_0 : FieldAt Tryz.prog 29 0 0 := FieldAt.mk (t := 3) (off := 0) Tryz.underlying29 rfl Tryz.sizeOf3 (by decide)
theorem FA29_1 : FieldAt Tryz.prog 29 1 1 := FieldAt.mk (t := 3) (off := 1) Tryz.underlying29 rfl Tryz.sizeOf3 (by decide)
theorem FA29_2 : FieldAt Tryz.prog 29 2 2 := FieldAt.mk (t := 3) (off := 2) Tryz.underlying29 rfl Tryz.sizeOf3 (by decide)
theorem FA29_3 : FieldAt Tryz.prog 29 3 3 := FieldAt.mk (t := 26) (off := 3) Tryz.underlying29 rfl Tryz.sizeOf26 (by decide)
theorem FA29_4 : FieldAt Tryz.prog 29 4 4 := FieldAt.mk (t := 27) (off := 4) Tryz.underlying29 rfl Tryz.sizeOf27 (by decide)
theorem FA32_0 : FieldAt Tryz.prog 32 0 0 := FieldAt.mk (t := 3) (off := 0) Tryz.underlying32 rfl Tryz.sizeOf3 (by decide)
theorem FA32_1 : FieldAt Tryz.prog 32 1 1 := FieldAt.mk (t := 3) (off := 1) Tryz.underlying32 rfl Tryz.sizeOf3 (by decide)
theorem FA32_2 : FieldAt Tryz.prog 32 2 2 := FieldAt.mk (t := 3) (off := 2) Tryz.underlying32 rfl Tryz.sizeOf3 (by decide)
theorem FA32_3 : FieldAt Tryz.prog 32 3 3 := FieldAt.mk (t := 3) (off := 3) Tryz.underlying32 rfl Tryz.sizeOf3 (by decide)
theorem FA32_4 : FieldAt Tryz.prog 32 4 4 := FieldAt.mk (t := 30) (off := 4) Tryz.underlying32 rfl Tryz.sizeOf30 (by decide)
theorem FA136_0 : FieldAt Tryz.prog 136 0 0 := FieldAt.mk (t := 3) (off := 0) Tryz.underlying136 rfl Tryz.sizeOf3 (by decide)
theorem FA136_1 : FieldAt Tryz.prog 136 1 1 := FieldAt.mk (t := 3) (off := 1) Tryz.underlying136 rfl Tryz.sizeOf3 (by decide)
theorem FA136_2 : FieldAt Tryz.prog 136 2 2 := FieldAt.mk (t := 3) (off := 2) Tryz.underlying136 rfl Tryz.sizeOf3 (by decide)
theorem FA138_0 : FieldAt Tryz.prog 138 0 0 := FieldAt.mk (t := 114) (off := 0) Tryz.underlying138 rfl Tryz.sizeOf114 (by decide)
theorem FA138_1 : FieldAt Tryz.prog 138 1 2 := FieldAt.mk (t := 3) (off := 2) Tryz.underlying138 rfl Tryz.sizeOf3 (by decide)
theorem FA141_0 : FieldAt Tryz.prog 141 0 0 := FieldAt.mk (t := 3) (off := 0) Tryz.underlying141 rfl Tryz.sizeOf3 (by decide)
theorem FA143_0 : FieldAt Tryz.prog 143 0 0 := FieldAt.mk (t := 3) (off := 0) Tryz.underlying143 rfl Tryz.sizeOf3 (by decide)
theorem FA143_1 : FieldAt Tryz.prog 143 1 1 := FieldAt.mk (t := 114) (off := 1) Tryz.underlying143 rfl Tryz.sizeOf114 (by decide)
theorem FA143_2 : FieldAt Tryz.prog 143 2 3 := FieldAt.mk (t := 114) (off := 3) Tryz.underlying143 rfl Tryz.sizeOf114 (by decide)
structure Sl where
  a : Option Addr
  n : Nat
  c : Nat
deriving Inhabited
abbrev slV (s : Sl) : Value := .slice s.a s.n s.c
def hutC (h : Hut) : List Value := [it h.floor, it h.brake, it h.row]
theorem hutC_len : ∀ s, (hutC s).length = 3 := fun _ => rfl
structure SurfM where
  w : Sl
  v : Sl
  h : Sl
deriving Inhabited
abbrev surfV (s : Surf) (m : SurfM) : Value := .agg #[it s.rows, it s.step, slV m.w, slV m.v, slV m.h]
abbrev surfCs (s : Surf) (m : SurfM) : List Value := [it s.rows, it s.step, slV m.w, slV m.v, slV m.h]
structure SurfR (D : Imm) (s : Surf) (m : SurfM) : Prop where
  w : SlL D 2 (s.water.map spC) m.w.a m.w.n
  v : SlL D 2 (s.waves.map spC) m.v.a m.v.n
  h : SlL D 3 (s.huts.map hutC) m.h.a m.h.n
  nw : m.w.n ≤ 9223372036854775807
  nv : m.v.n ≤ 9223372036854775807
  nh : m.h.n ≤ 9223372036854775807
theorem SurfR.ext {w : World} {D D' : Imm} (hD : DExt w D D') {s : Surf} {m : SurfM} (h : SurfR D s m) : SurfR D' s m := ⟨h.w.ext hD, h.v.ext hD, h.h.ext hD, h.nw, h.nv, h.nh⟩
structure FlagM where
  h : Sl
  s : Sl
deriving Inhabited
abbrev flagV (f : Flag) (m : FlagM) : Value := .agg #[it f.low, it f.high, it f.quiet, slV m.h, slV m.s]
abbrev flagCs (f : Flag) (m : FlagM) : List Value := [it f.low, it f.high, it f.quiet, slV m.h, slV m.s]
structure FlagR (D : Imm) (f : Flag) (m : FlagM) : Prop where
  h : SlL D 3 (f.hours.map hourC) m.h.a m.h.n
  s : SlL D 2 (f.seen.map seenC) m.s.a m.s.n
  nh : m.h.n ≤ 9223372036854775807
  ns : m.s.n ≤ 9223372036854775807
theorem FlagR.ext {w : World} {D D' : Imm} (hD : DExt w D D') {s : Flag} {m : FlagM} (h : FlagR D s m) : FlagR D' s m := ⟨h.h.ext hD, h.s.ext hD, h.nh, h.ns⟩
structure BoatsM where
  sl : Sl
  l : List Sl
deriving Inhabited
def slC (s : Sl) : List Value := [slV s]
abbrev boatsV (b : Boats) (m : BoatsM) : Value := .agg #[it b.wide, it b.deep, it b.speed, it b.last, slV m.sl]
abbrev boatsCs (b : Boats) (m : BoatsM) : List Value := [it b.wide, it b.deep, it b.speed, it b.last, slV m.sl]
structure BoatsR (D : Imm) (b : Boats) (m : BoatsM) : Prop where
  sl : SlL D 1 (m.l.map slC) m.sl.a m.sl.n
  len : m.l.length = b.seen.length
  row : ∀ i, i < b.seen.length → SlL D 5 ((gt b.seen i).map bsC) (gt m.l i).a (gt m.l i).n
  n : m.sl.n ≤ 9223372036854775807
  nr : ∀ i, i < b.seen.length → (gt m.l i).n ≤ 9223372036854775807
theorem BoatsR.ext {w : World} {D D' : Imm} (hD : DExt w D D') {s : Boats} {m : BoatsM} (h : BoatsR D s m) : BoatsR D' s m := ⟨h.sl.ext hD, h.len, fun i hi => (h.row i hi).ext hD, h.n, h.nr⟩
theorem all_succ {α : Type} [Inhabited α] {l : List α} {p : α → Bool} {k : Nat} (h : k < l.length) : (l.take (k + 1)).all p = ((l.take k).all p && p (gt l k)) := by
  have : gt l k = l[k] := by simp [gt, List.getD, h]
  rw [List.take_succ_eq_append_getElem h, List.all_append, this]
  simp
theorem bs1 {A P p r : Bool} (h : (A && P) = true → r = p) (h2 : (A && P) = false → r = false) : r = (A && (P && p)) := by
  cases A <;> cases P <;> cases p <;> simp_all
theorem bs2 {A P Q p q r : Bool} (h : (A && P && Q) = true → p = true → r = q) (h1 : (A && P && Q) = true → p = false → r = false) (h2 : (A && P && Q) = false → r = false) : r = (A && (P && p) && (Q && q)) := by
  cases A <;> cases P <;> cases Q <;> cases p <;> cases q <;> simp_all
theorem bs3 {A P p q u r : Bool} (h : (A && P) = true → p = true → q = true → r = u) (h1 : (A && P) = true → p = true → q = false → r = false) (h2 : (A && P) = true → p = false → r = false) (h3 : (A && P) = false → r = false) : r = (A && (P && (p && q && u))) := by
  cases A <;> cases P <;> cases p <;> cases q <;> cases u <;> simp_all
theorem bs4 {A P p q r : Bool} (h : (A && P) = true → p = true → r = q) (h1 : (A && P) = true → p = false → r = false) (h2 : (A && P) = false → r = false) : r = (A && (P && (p && q))) := by
  cases A <;> cases P <;> cases p <;> cases q <;> simp_all
theorem bs5 {X P p q u r : Bool} (h : (X && P) = true → p = true → q = true → r = u) (h1 : (X && P) = true → p = true → q = false → r = false) (h2 : (X && P) = true → p = false → r = false) (h3 : (X && P) = false → r = false) : r = (X && (P && (p && q && u))) := by
  cases X <;> cases P <;> cases p <;> cases q <;> cases u <;> simp_all
theorem bjF {X Y : Bool} (h : X = false) : false = (X && Y) := by simp [h]
theorem some_bool {a b : Bool} (h : a = b) : some (Value.bool a) = some (Value.bool b) := by rw [h]

theorem within_g (n lo hi : Int) (w : World) : Gives Tryz.prog 120 [it n, it lo, it hi] w (.bool (inB n lo hi)) := by
  unfold Gives
  refine enter Tryz.func120 rfl 15 Tryz.ntmps120 (zqb rfl) (Inv.start (D := fun _ => none) (by intro _ _ h; cases h)) ?_
  refine WC.seq (WC.ofFr [(0, _), (1, _), (2, _)] ⟨rfl, rfl, rfl, trivial⟩ (WC.region ?_))
  refine zya rfl rfl ?_
  refine WL.nil (WP.thenC (WC.seq (WC.ofFr [(6, _), (0, _), (1, _), (2, _)] ⟨rfl, rfl, rfl, rfl, trivial⟩ (WC.region ?_))))
  refine zym rfl rfl ?_
  refine zym rfl rfl ?_
  refine WL.yd (Yd.leq rfl rfl) rfl ?_
  refine zym rfl rfl ?_
  refine WL.part 10 rfl (fun g10 => ?_) (fun g10 => ?_)
  · try simp only [zq1, zq2, zq3, zq4, zq5, zq6, zq7, zq8] at g10
    refine WL.ydg rfl (Yd.move rfl) rfl ?_
    refine WL.ydg rfl (Yd.move rfl) rfl ?_
    refine WL.ydg rfl (Yd.leq rfl rfl) rfl ?_
    refine WL.yd (Yd.pickT rfl rfl) rfl ?_
    refine zya rfl rfl ?_
    refine WL.nil (WP.thenC (WC.ret ?_))
    refine WP.ret1 rfl rfl Tryz.results120 (RV.tmp rfl) (fun w hI => ⟨ret_bool (by rw [Bool.eq_iff_iff]; simp [inB]; omega), hI.keep⟩)
  · try simp only [zq1, zq2, zq3, zq4, zq5, zq6, zq7, zq8] at g10
    refine WL.skip rfl rfl ?_
    refine WL.skip rfl rfl ?_
    refine WL.skip rfl rfl ?_
    refine WL.yd (Yd.pickF rfl rfl) rfl ?_
    refine zya rfl rfl ?_
    refine WL.nil (WP.thenC (WC.ret ?_))
    refine WP.ret1 rfl rfl Tryz.results120 (RV.tmp rfl) (fun w hI => ⟨ret_bool (by rw [Bool.eq_iff_iff]; simp [inB]; omega), hI.keep⟩)

theorem isSpan_g (s : Sp) (lo hi : Int) (w : World) : Gives Tryz.prog 121 [.agg #[it s.lo, it s.hi], it lo, it hi] w (.bool (spB s lo hi)) := by
  unfold Gives
  refine enter Tryz.func121 rfl 24 Tryz.ntmps121 (zqb rfl) (Inv.start (D := fun _ => none) (by intro _ _ h; cases h)) ?_
  refine WC.seq (WC.ofFr [(0, _), (1, _), (2, _)] ⟨rfl, rfl, rfl, trivial⟩ (WC.region ?_))
  refine WL.so (SO.box rfl rfl) rfl ?_
  rintro _ _ _ ⟨b3, hb3, rfl, rfl, rfl⟩
  refine zya rfl rfl ?_
  refine WL.nil (WP.thenC (WC.seq (WC.ofFr [(6, _), (3, _), (1, _), (2, _)] ⟨rfl, rfl, rfl, rfl, trivial⟩ (WC.region ?_))))
  refine zym rfl rfl ?_
  refine WL.yd (Yd.fieldAddr FA114_0 rfl) rfl ?_
  refine WL.yd (Yd.load1 Tryz.isAgg3 rfl (by first | exact ro0 rfl rfl)) rfl ?_
  refine WL.yd (Yd.leq rfl rfl) rfl ?_
  refine zym rfl rfl ?_
  refine WL.part 11 rfl (fun g11 => ?_) (fun g11 => ?_)
  · try simp only [zq1, zq2, zq3, zq4, zq5, zq6, zq7, zq8] at g11
    refine WL.ydg rfl (Yd.fieldAddr FA114_0 rfl) rfl ?_
    refine WL.ydg rfl (Yd.load1 Tryz.isAgg3 rfl (by first | exact ro0 rfl rfl)) rfl ?_
    refine WL.ydg rfl (Yd.fieldAddr FA114_1 rfl) rfl ?_
    refine WL.ydg rfl (Yd.load1 Tryz.isAgg3 rfl (by first | exact ro0 rfl rfl)) rfl ?_
    refine WL.ydg rfl (Yd.leq rfl rfl) rfl ?_
    refine WL.yd (Yd.pickT rfl rfl) rfl ?_
    refine zym rfl rfl ?_
    refine WL.part 18 rfl (fun g18 => ?_) (fun g18 => ?_)
    · try simp only [zq1, zq2, zq3, zq4, zq5, zq6, zq7, zq8] at g18
      refine WL.ydg rfl (Yd.fieldAddr FA114_1 rfl) rfl ?_
      refine WL.ydg rfl (Yd.load1 Tryz.isAgg3 rfl (by first | exact ro0 rfl rfl)) rfl ?_
      refine WL.ydg rfl (Yd.move rfl) rfl ?_
      refine WL.ydg rfl (Yd.leq rfl rfl) rfl ?_
      refine WL.yd (Yd.pickT rfl rfl) rfl ?_
      refine zya rfl rfl ?_
      refine WL.nil (WP.thenC (WC.ret ?_))
      refine WP.ret1 rfl rfl Tryz.results121 (RV.tmp rfl) (fun w hI => ⟨ret_bool (by rw [Bool.eq_iff_iff]; simp [spB]; omega), hI.keep⟩)
    · try simp only [zq1, zq2, zq3, zq4, zq5, zq6, zq7, zq8] at g18
      refine WL.skip rfl rfl ?_
      refine WL.skip rfl rfl ?_
      refine WL.skip rfl rfl ?_
      refine WL.skip rfl rfl ?_
      refine WL.yd (Yd.pickF rfl rfl) rfl ?_
      refine zya rfl rfl ?_
      refine WL.nil (WP.thenC (WC.ret ?_))
      refine WP.ret1 rfl rfl Tryz.results121 (RV.tmp rfl) (fun w hI => ⟨ret_bool (by rw [Bool.eq_iff_iff]; simp [spB]; omega), hI.keep⟩)
  · try simp only [zq1, zq2, zq3, zq4, zq5, zq6, zq7, zq8] at g11
    refine WL.skip rfl rfl ?_
    refine WL.skip rfl rfl ?_
    refine WL.skip rfl rfl ?_
    refine WL.skip rfl rfl ?_
    refine WL.skip rfl rfl ?_
    refine WL.yd (Yd.pickF rfl rfl) rfl ?_
    refine zym rfl rfl ?_
    refine WL.skip rfl rfl ?_
    refine WL.skip rfl rfl ?_
    refine WL.skip rfl rfl ?_
    refine WL.skip rfl rfl ?_
    refine WL.yd (Yd.pickF rfl rfl) rfl ?_
    refine zya rfl rfl ?_
    refine WL.nil (WP.thenC (WC.ret ?_))
    refine WP.ret1 rfl rfl Tryz.results121 (RV.tmp rfl) (fun w hI => ⟨ret_bool (by rw [Bool.eq_iff_iff]; simp [spB]; omega), hI.keep⟩)

theorem near_g (s : Sp) (hi : Int) (hh : hi ≤ 100) (w : World) : Gives Tryz.prog 141 [.agg #[it s.lo, it s.hi], it hi] w (.bool (nearB s hi)) := by
  unfold Gives
  refine enter Tryz.func141 rfl 16 Tryz.ntmps141 (zqb rfl) (Inv.start (D := fun _ => none) (by intro _ _ h; cases h)) ?_
  refine WC.seq (WC.ofFr [(0, _), (1, _)] ⟨rfl, rfl, trivial⟩ (WC.region ?_))
  refine WL.so (SO.box rfl rfl) rfl ?_
  rintro _ _ _ ⟨b2, hb2, rfl, rfl, rfl⟩
  refine zya rfl rfl ?_
  refine WL.nil (WP.thenC (WC.seq (WC.ofFr [(4, _), (2, _), (1, _)] ⟨rfl, rfl, rfl, trivial⟩ (WC.region ?_))))
  refine WL.yd (Yd.loadN Tryz.isAgg114 Tryz.sizeOf114 rfl (vs := [_, _]) rfl (by first | exact rn0 (n := 2) rfl rfl)) rfl ?_
  refine zym rfl rfl ?_
  refine WL.so (SO.callP Tryz.call121 rfl (fun w hI => isSpan_g s 0 hi _)) rfl ?_
  rintro _ _ _ ⟨rfl, rfl, rfl⟩
  refine zym rfl rfl ?_
  refine WL.part 8 rfl (fun g8 => ?_) (fun g8 => ?_)
  · try simp only [zq1, zq2, zq3, zq4, zq5, zq6, zq7, zq8] at g8
    have hsp := spB_iff.1 g8
    refine WL.ydg rfl (Yd.fieldAddr FA114_1 rfl) rfl ?_
    refine WL.ydg rfl (Yd.load1 Tryz.isAgg3 rfl (by first | exact ro0 rfl rfl)) rfl ?_
    refine WL.ydg rfl (Yd.fieldAddr FA114_0 rfl) rfl ?_
    refine WL.ydg rfl (Yd.load1 Tryz.isAgg3 rfl (by first | exact ro0 rfl rfl)) rfl ?_
    refine WL.ydg rfl (Yd.sub rfl rfl (wr64 ⟨by omega, by omega⟩)) rfl ?_
    refine WL.ydg rfl (Yd.leq rfl rfl) rfl ?_
    refine WL.yd (Yd.pickT rfl rfl) rfl ?_
    refine zya rfl rfl ?_
    refine WL.nil (WP.thenC (WC.ret ?_))
    refine WP.ret1 rfl rfl Tryz.results141 (RV.tmp rfl) (fun w hI => ⟨ret_bool (by simp_all [nearB]), hI.keep⟩)
  · try simp only [zq1, zq2, zq3, zq4, zq5, zq6, zq7, zq8] at g8
    refine WL.skip rfl rfl ?_
    refine WL.skip rfl rfl ?_
    refine WL.skip rfl rfl ?_
    refine WL.skip rfl rfl ?_
    refine WL.skip rfl rfl ?_
    refine WL.skip rfl rfl ?_
    refine WL.yd (Yd.pickF rfl rfl) rfl ?_
    refine zya rfl rfl ?_
    refine WL.nil (WP.thenC (WC.ret ?_))
    refine WP.ret1 rfl rfl Tryz.results141 (RV.tmp rfl) (fun w hI => ⟨ret_bool (by simp_all [nearB]), hI.keep⟩)

theorem isSurf_fin (s : Surf) (h : s.waves.length = s.water.length) : (((inB s.rows 1 6 && inB s.step 0 4 && decide (s.water.length ≤ 8) && decide (s.huts.length ≤ 5)) && (s.water.take s.water.length).all (nearB · 30) && (s.waves.take s.water.length).all (nearB · 10)) && (s.huts.take s.huts.length).all (hutB s.rows)) = surfB s := by
  have e : decide (s.waves.length = s.water.length) = true := by simp [h]
  simp only [surfB, e, Bool.and_true, List.take_length]
  rw [List.take_of_length_le (l := s.waves) (by omega)]
  first | done | ac_rfl
theorem isSurf_no (s : Surf) (h : s.water.length ≠ s.waves.length) : false = surfB s := by
  have e : decide (s.waves.length = s.water.length) = false := by simp; omega
  simp [surfB, e]

theorem isSurf_g (s : Surf) (m : SurfM) (D : Imm) (w : World) (hR : SurfR D s m) (hH : Holds D w) : Gives Tryz.prog 90 [surfV s m] w (.bool (surfB s)) := by
  unfold Gives
  obtain ⟨⟨wa, wn, wc⟩, ⟨va, vn, vc⟩, ⟨ha, hn, hc⟩⟩ := m
  obtain rfl : wn = s.water.length := hR.w.len'
  obtain rfl : vn = s.waves.length := hR.v.len'
  obtain rfl : hn = s.huts.length := hR.h.len'
  have hRw : SlL D 2 (s.water.map spC) wa s.water.length := hR.w
  have hRv : SlL D 2 (s.waves.map spC) va s.waves.length := hR.v
  have hRh : SlL D 3 (s.huts.map hutC) ha s.huts.length := hR.h
  have nw : s.water.length ≤ 9223372036854775807 := hR.nw
  have nv : s.waves.length ≤ 9223372036854775807 := hR.nv
  have nh : s.huts.length ≤ 9223372036854775807 := hR.nh
  refine enter Tryz.func90 rfl 88 Tryz.ntmps90 (zqb rfl) (Inv.start hH) ?_
  refine WC.seq (WC.ofFr [(0, _)] ⟨rfl, trivial⟩ (WC.region ?_))
  refine WL.so (SO.box rfl rfl) rfl ?_
  rintro _ _ _ ⟨b1, hb1, rfl, rfl, rfl⟩
  refine zya rfl rfl ?_
  refine WL.nil (WP.thenC (WC.seq (WC.seq (WC.ofFr [(2, _), (1, _)] ⟨rfl, rfl, trivial⟩ (WC.region ?_)))))
  refine WL.yd (Yd.fieldAddr FA25_2 rfl) rfl ?_
  refine WL.yd (Yd.load1 Tryz.isAgg22 rfl (Rd.own (k := 0) rfl rfl)) rfl ?_
  refine WL.yd (Yd.lenS rfl Tryz.underlying22 rfl) rfl ?_
  refine WL.yd (Yd.fieldAddr FA25_3 rfl) rfl ?_
  refine WL.yd (Yd.load1 Tryz.isAgg22 rfl (Rd.own (k := 0) rfl rfl)) rfl ?_
  refine WL.yd (Yd.lenS rfl Tryz.underlying22 rfl) rfl ?_
  refine WL.yd (Yd.neq rfl rfl) rfl ?_
  refine WL.nil (WP.thenC ?_)
  refine WC.cond rfl (fun c15 => ?_) (fun c15 => ?_)
  · try simp only [zq1, zq2, zq3, zq4, zq5, zq6, zq7, zq8] at c15
    refine WC.seq (WC.ofFr [(2, _), (1, _)] ⟨rfl, rfl, trivial⟩ (WC.region ?_))
    refine zya rfl rfl ?_
    refine WL.nil (WP.thenC (WC.ret (WP.thenRet ?_)))
    refine WP.ret1 rfl rfl Tryz.results90 (RV.tmp rfl) (fun w hI => ⟨ret_bool (isSurf_no s (by omega)), hI.keep⟩)
  · try simp only [zq1, zq2, zq3, zq4, zq5, zq6, zq7, zq8] at c15
    refine WC.skip (WP.thenC ?_)
    refine WC.seqJ (α := Unit) (fun _ => [(1, pt b1), (3, .bool (inB s.rows 1 6 && inB s.step 0 4 && decide (s.water.length ≤ 8) && decide (s.huts.length ≤ 5)))]) (fun _ => [(b1, .cells (List.toArray [it s.rows, it s.step, .slice wa s.water.length wc, .slice va s.waves.length vc, .slice ha s.huts.length hc]) 25 (0, 0))]) (fun _ => D) (fun _ => True) ?_ ?_
    · rintro _ -
      refine WC.seq ?_
      skip
      refine WC.ofFr [(1, _), (3, _)] ⟨rfl, rfl, trivial⟩ (WC.region ?_)
      refine zya rfl rfl ?_
      refine WL.nil (WP.thenC (WC.seq (WC.seq (WC.ofFr [(4, _), (1, _), (3, _)] ⟨rfl, rfl, rfl, trivial⟩ (WC.region ?_)))))
      refine WL.yd (Yd.fieldAddr FA25_2 rfl) rfl ?_
      refine WL.yd (Yd.load1 Tryz.isAgg22 rfl (Rd.own (k := 0) rfl rfl)) rfl ?_
      refine WL.yd (Yd.lenS rfl Tryz.underlying22 rfl) rfl ?_
      refine zym rfl rfl ?_
      refine WL.nil (WP.thenC (WC.block ?_))
      refine WC.loopF (fun k : Nat => [(1, pt b1), (3, .bool ((inB s.rows 1 6 && inB s.step 0 4 && decide (s.water.length ≤ 8) && decide (s.huts.length ≤ 5)) && (s.water.take k).all (nearB · 30) && (s.waves.take k).all (nearB · 10))), (4, .func (.func 141) #[] #[]), (37, .slice wa s.water.length wc), (38, nt s.water.length), (39, nt k)]) (fun k => k ≤ s.water.length) (fun k => s.water.length - k) 0 (Nat.zero_le _) ⟨rfl, some_bool (by simp), rfl, rfl, rfl, rfl, trivial⟩ ?_
      intro k hk
      refine WC.seq (WC.ofFr [(1, _), (3, _), (4, _), (37, _), (38, _), (39, _)] ⟨rfl, rfl, rfl, rfl, rfl, rfl, trivial⟩ (WC.region ?_))
      refine WL.yd (Yd.lss rfl rfl) rfl ?_
      refine WL.nil (WP.thenC (WC.seq ?_))
      refine WC.cond rfl (fun c40 => ?_) (fun c40 => ?_)
      · try simp only [zq1, zq2, zq3, zq4, zq5, zq6, zq7, zq8] at c40
        have hkl : k < s.water.length := by omega
        refine WC.skip (WP.thenC (WC.seq (WC.block (WC.seq (WC.ofFr [(1, _), (3, _), (4, _), (37, _), (38, _), (39, _)] ⟨rfl, rfl, rfl, rfl, rfl, rfl, trivial⟩ (WC.region ?_))))))
        refine zym rfl rfl ?_
        refine WL.yd (Yd.indexS Tryz.underlying22 Tryz.sizeOf114 rfl rfl (by omega) (by omega) (by first | exact hRw.addr k (by omega))) rfl ?_
        refine WL.yd (Yd.loadN Tryz.isAgg114 Tryz.sizeOf114 rfl (vs := [_, _]) rfl ((hRw.at k (by omega)).rdn 0 2 rfl)) rfl ?_
        refine WL.so (SO.alloc Tryz.zeroValue114 rfl) rfl ?_
        rintro _ _ _ ⟨b6, hb6, rfl, rfl, rfl⟩
        refine zya rfl rfl ?_
        refine WL.so (SO.store 0 rfl Tryz.sizeOf114 rfl rfl rfl rfl (zqb rfl) (oneB_spec rfl)) rfl ?_
        rintro _ _ _ ⟨rfl, rfl, rfl⟩
        refine WL.nil (WP.thenC (WC.ofFr [(5, _), (6, _), (1, _), (3, _), (4, _), (37, _), (38, _), (39, _)] ⟨rfl, rfl, rfl, rfl, rfl, rfl, rfl, rfl, trivial⟩ (WC.region ?_)))
        refine zym rfl rfl ?_
        refine zym rfl rfl ?_
        refine WL.part 45 rfl (fun g45 => ?_) (fun g45 => ?_)
        · try simp only [zq1, zq2, zq3, zq4, zq5, zq6, zq7, zq8] at g45
          refine WL.ydg rfl (Yd.move rfl) rfl ?_
          refine WL.ydg rfl (Yd.loadN Tryz.isAgg114 Tryz.sizeOf114 rfl (vs := [_, _]) rfl (RdN.own (k := 0) (n := 2) rfl rfl)) rfl ?_
          refine WL.sog rfl (SO.call (Enters.val Tryz.call141 rfl rfl) (fun w hI => near_g (gt s.water k) 30 (by omega) _)) rfl ?_
          rintro _ _ _ ⟨rfl, rfl, rfl⟩
          refine WL.yd (Yd.pickT rfl rfl) rfl ?_
          refine zym rfl rfl ?_
          refine WL.part 50 rfl (fun g50 => ?_) (fun g50 => ?_)
          · try simp only [zq1, zq2, zq3, zq4, zq5, zq6, zq7, zq8] at g50
            refine WL.ydg rfl (Yd.move rfl) rfl ?_
            refine WL.ydg rfl (Yd.fieldAddr FA25_3 rfl) rfl ?_
            refine WL.ydg rfl (Yd.load1 Tryz.isAgg22 rfl (Rd.own (k := 1) rfl rfl)) rfl ?_
            refine WL.ydg rfl (Yd.move rfl) rfl ?_
            refine WL.ydg rfl (Yd.indexS Tryz.underlying22 Tryz.sizeOf114 rfl rfl (by omega) (by omega) (by first | exact hRv.addr k (by omega))) rfl ?_
            refine WL.ydg rfl (Yd.loadN Tryz.isAgg114 Tryz.sizeOf114 rfl (vs := [_, _]) rfl ((hRv.at k (by omega)).rdn 0 2 rfl)) rfl ?_
            refine WL.sog rfl (SO.call (Enters.val Tryz.call141 rfl rfl) (fun w hI => near_g (gt s.waves k) 10 (by omega) _)) rfl ?_
            rintro _ _ _ ⟨rfl, rfl, rfl⟩
            refine WL.yd (Yd.pickT rfl rfl) rfl ?_
            refine zya rfl rfl ?_
            refine WL.nil (WP.blkNormal (WP.thenC (WC.ofFr [(3, _), (1, _), (4, _), (37, _), (38, _), (39, _)] ⟨rfl, rfl, rfl, rfl, rfl, rfl, trivial⟩ (WC.region ?_))))
            refine WL.yd (Yd.add rfl rfl (wr64 ⟨by omega, by omega⟩)) rfl ?_
            refine zym rfl rfl ?_
            refine WL.nil ?_
            exact WP.againF (k + 1) hkl (by omega) ⟨rfl, some_bool (by rw [all_succ hkl, all_succ (l := s.waves) (by omega)]; exact bs2 (fun a b => by first | rfl | assumption | (exact bnc a (by assumption)) | (exact bnc (by assumption) a) | (exact bnc b (by assumption)) | (exact bnc (by assumption) b) | (exact bnc c (by assumption)) | (exact bnc (by assumption) c)) (fun a b => by first | rfl | assumption | (exact bnc a (by assumption)) | (exact bnc (by assumption) a) | (exact bnc b (by assumption)) | (exact bnc (by assumption) b) | (exact bnc c (by assumption)) | (exact bnc (by assumption) c)) (fun a => by first | rfl | assumption | (exact bnc a (by assumption)) | (exact bnc (by assumption) a) | (exact bnc b (by assumption)) | (exact bnc (by assumption) b) | (exact bnc c (by assumption)) | (exact bnc (by assumption) c))), rfl, rfl, rfl, rfl, trivial⟩ (fun _ h => List.mem_cons_of_mem _ h) (fun h => (List.nodup_cons.1 h).2)
          · try simp only [zq1, zq2, zq3, zq4, zq5, zq6, zq7, zq8] at g50
            refine WL.skip rfl rfl ?_
            refine WL.skip rfl rfl ?_
            refine WL.skip rfl rfl ?_
            refine WL.skip rfl rfl ?_
            refine WL.skip rfl rfl ?_
            refine WL.skip rfl rfl ?_
            refine WL.skip rfl rfl ?_
            refine WL.yd (Yd.pickF rfl rfl) rfl ?_
            refine zya rfl rfl ?_
            refine WL.nil (WP.blkNormal (WP.thenC (WC.ofFr [(3, _), (1, _), (4, _), (37, _), (38, _), (39, _)] ⟨rfl, rfl, rfl, rfl, rfl, rfl, trivial⟩ (WC.region ?_))))
            refine WL.yd (Yd.add rfl rfl (wr64 ⟨by omega, by omega⟩)) rfl ?_
            refine zym rfl rfl ?_
            refine WL.nil ?_
            exact WP.againF (k + 1) hkl (by omega) ⟨rfl, some_bool (by rw [all_succ hkl, all_succ (l := s.waves) (by omega)]; exact bs2 (fun a b => by first | rfl | assumption | (exact bnc a (by assumption)) | (exact bnc (by assumption) a) | (exact bnc b (by assumption)) | (exact bnc (by assumption) b) | (exact bnc c (by assumption)) | (exact bnc (by assumption) c)) (fun a b => by first | rfl | assumption | (exact bnc a (by assumption)) | (exact bnc (by assumption) a) | (exact bnc b (by assumption)) | (exact bnc (by assumption) b) | (exact bnc c (by assumption)) | (exact bnc (by assumption) c)) (fun a => by first | rfl | assumption | (exact bnc a (by assumption)) | (exact bnc (by assumption) a) | (exact bnc b (by assumption)) | (exact bnc (by assumption) b) | (exact bnc c (by assumption)) | (exact bnc (by assumption) c))), rfl, rfl, rfl, rfl, trivial⟩ (fun _ h => List.mem_cons_of_mem _ h) (fun h => (List.nodup_cons.1 h).2)
        · try simp only [zq1, zq2, zq3, zq4, zq5, zq6, zq7, zq8] at g45
          refine WL.skip rfl rfl ?_
          refine WL.skip rfl rfl ?_
          refine WL.skip rfl rfl ?_
          refine WL.yd (Yd.pickF rfl rfl) rfl ?_
          refine zym rfl rfl ?_
          refine WL.skip rfl rfl ?_
          refine WL.skip rfl rfl ?_
          refine WL.skip rfl rfl ?_
          refine WL.skip rfl rfl ?_
          refine WL.skip rfl rfl ?_
          refine WL.skip rfl rfl ?_
          refine WL.skip rfl rfl ?_
          refine WL.yd (Yd.pickF rfl rfl) rfl ?_
          refine zya rfl rfl ?_
          refine WL.nil (WP.blkNormal (WP.thenC (WC.ofFr [(3, _), (1, _), (4, _), (37, _), (38, _), (39, _)] ⟨rfl, rfl, rfl, rfl, rfl, rfl, trivial⟩ (WC.region ?_))))
          refine WL.yd (Yd.add rfl rfl (wr64 ⟨by omega, by omega⟩)) rfl ?_
          refine zym rfl rfl ?_
          refine WL.nil ?_
          exact WP.againF (k + 1) hkl (by omega) ⟨rfl, some_bool (by rw [all_succ hkl, all_succ (l := s.waves) (by omega)]; exact bs2 (fun a b => by first | rfl | assumption | (exact bnc a (by assumption)) | (exact bnc (by assumption) a) | (exact bnc b (by assumption)) | (exact bnc (by assumption) b) | (exact bnc c (by assumption)) | (exact bnc (by assumption) c)) (fun a b => by first | rfl | assumption | (exact bnc a (by assumption)) | (exact bnc (by assumption) a) | (exact bnc b (by assumption)) | (exact bnc (by assumption) b) | (exact bnc c (by assumption)) | (exact bnc (by assumption) c)) (fun a => by first | rfl | assumption | (exact bnc a (by assumption)) | (exact bnc (by assumption) a) | (exact bnc b (by assumption)) | (exact bnc (by assumption) b) | (exact bnc c (by assumption)) | (exact bnc (by assumption) c))), rfl, rfl, rfl, rfl, trivial⟩ (fun _ h => List.mem_cons_of_mem _ h) (fun h => (List.nodup_cons.1 h).2)
      · try simp only [zq1, zq2, zq3, zq4, zq5, zq6, zq7, zq8] at c40
        obtain rfl : k = s.water.length := by omega
        refine WC.exit ?_
        refine WP.thenExit ?_
        refine WP.thenExit ?_
        refine WP.blkHit ?_
        refine WP.thenC (WC.seq (WC.seq (WC.ofFr [(1, _), (3, _)] ⟨rfl, rfl, trivial⟩ (WC.region ?_))))
        refine WL.yd (Yd.fieldAddr FA25_4 rfl) rfl ?_
        refine WL.yd (Yd.load1 Tryz.isAgg23 rfl (Rd.own (k := 0) rfl rfl)) rfl ?_
        refine WL.yd (Yd.lenS rfl Tryz.underlying23 rfl) rfl ?_
        refine zym rfl rfl ?_
        refine WL.nil (WP.thenC (WC.block ?_))
        refine WC.loopF (fun k : Nat => [(1, pt b1), (3, .bool (((inB s.rows 1 6 && inB s.step 0 4 && decide (s.water.length ≤ 8) && decide (s.huts.length ≤ 5)) && (s.water.take s.water.length).all (nearB · 30) && (s.waves.take s.water.length).all (nearB · 10)) && (s.huts.take k).all (hutB s.rows))), (61, .slice ha s.huts.length hc), (62, nt s.huts.length), (63, nt k)]) (fun k => k ≤ s.huts.length) (fun k => s.huts.length - k) 0 (Nat.zero_le _) ⟨rfl, some_bool (by simp), rfl, rfl, rfl, trivial⟩ ?_
        intro k hk
        refine WC.seq (WC.ofFr [(1, _), (3, _), (61, _), (62, _), (63, _)] ⟨rfl, rfl, rfl, rfl, rfl, trivial⟩ (WC.region ?_))
        refine WL.yd (Yd.lss rfl rfl) rfl ?_
        refine WL.nil (WP.thenC (WC.seq ?_))
        refine WC.cond rfl (fun c64 => ?_) (fun c64 => ?_)
        · try simp only [zq1, zq2, zq3, zq4, zq5, zq6, zq7, zq8] at c64
          have hkl : k < s.huts.length := by omega
          refine WC.skip (WP.thenC (WC.seq (WC.block (WC.seq (WC.ofFr [(1, _), (3, _), (61, _), (62, _), (63, _)] ⟨rfl, rfl, rfl, rfl, rfl, trivial⟩ (WC.region ?_))))))
          refine WL.yd (Yd.indexS Tryz.underlying23 Tryz.sizeOf136 rfl rfl (by omega) (by omega) (by first | exact hRh.addr k (by omega))) rfl ?_
          refine WL.yd (Yd.loadN Tryz.isAgg136 Tryz.sizeOf136 rfl (vs := [_, _, _]) rfl ((hRh.at k (by omega)).rdn 0 3 rfl)) rfl ?_
          refine WL.so (SO.alloc Tryz.zeroValue136 rfl) rfl ?_
          rintro _ _ _ ⟨b8, hb8, rfl, rfl, rfl⟩
          refine WL.so (SO.store 0 rfl Tryz.sizeOf136 rfl rfl rfl rfl (zqb rfl) (oneB_spec rfl)) rfl ?_
          rintro _ _ _ ⟨rfl, rfl, rfl⟩
          refine WL.nil (WP.thenC (WC.ofFr [(8, _), (1, _), (3, _), (61, _), (62, _), (63, _)] ⟨rfl, rfl, rfl, rfl, rfl, rfl, trivial⟩ (WC.region ?_)))
          refine zym rfl rfl ?_
          refine zym rfl rfl ?_
          refine WL.part 68 rfl (fun g68 => ?_) (fun g68 => ?_)
          · try simp only [zq1, zq2, zq3, zq4, zq5, zq6, zq7, zq8] at g68
            refine WL.ydg rfl (Yd.fieldAddr FA136_0 rfl) rfl ?_
            refine WL.ydg rfl (Yd.load1 Tryz.isAgg3 rfl (Rd.own (k := 0) rfl rfl)) rfl ?_
            refine WL.sog rfl (SO.callP Tryz.call120 rfl (fun w hI => within_g _ _ _ _)) rfl ?_
            rintro _ _ _ ⟨rfl, rfl, rfl⟩
            refine WL.yd (Yd.pickT rfl rfl) rfl ?_
            refine zym rfl rfl ?_
            refine WL.part 73 rfl (fun g73 => ?_) (fun g73 => ?_)
            · try simp only [zq1, zq2, zq3, zq4, zq5, zq6, zq7, zq8] at g73
              refine WL.ydg rfl (Yd.fieldAddr FA136_1 rfl) rfl ?_
              refine WL.ydg rfl (Yd.load1 Tryz.isAgg3 rfl (Rd.own (k := 0) rfl rfl)) rfl ?_
              refine WL.sog rfl (SO.callP Tryz.call120 rfl (fun w hI => within_g _ _ _ _)) rfl ?_
              rintro _ _ _ ⟨rfl, rfl, rfl⟩
              refine WL.yd (Yd.pickT rfl rfl) rfl ?_
              refine zym rfl rfl ?_
              refine WL.part 78 rfl (fun g78 => ?_) (fun g78 => ?_)
              · try simp only [zq1, zq2, zq3, zq4, zq5, zq6, zq7, zq8] at g78
                have hrw : 1 ≤ s.rows ∧ s.rows ≤ 6 := by simp only [Bool.and_eq_true, inB_iff] at *; omega
                refine WL.ydg rfl (Yd.fieldAddr FA136_2 rfl) rfl ?_
                refine WL.ydg rfl (Yd.load1 Tryz.isAgg3 rfl (Rd.own (k := 0) rfl rfl)) rfl ?_
                refine WL.ydg rfl (Yd.fieldAddr FA25_0 rfl) rfl ?_
                refine WL.ydg rfl (Yd.load1 Tryz.isAgg3 rfl (Rd.own (k := 1) rfl rfl)) rfl ?_
                refine WL.ydg rfl (Yd.sub rfl rfl (wr64 ⟨by omega, by omega⟩)) rfl ?_
                refine WL.sog rfl (SO.callP Tryz.call120 rfl (fun w hI => within_g _ _ _ _)) rfl ?_
                rintro _ _ _ ⟨rfl, rfl, rfl⟩
                refine WL.yd (Yd.pickT rfl rfl) rfl ?_
                refine zya rfl rfl ?_
                refine WL.nil (WP.blkNormal (WP.thenC (WC.ofFr [(3, _), (1, _), (61, _), (62, _), (63, _)] ⟨rfl, rfl, rfl, rfl, rfl, trivial⟩ (WC.region ?_))))
                refine WL.yd (Yd.add rfl rfl (wr64 ⟨by omega, by omega⟩)) rfl ?_
                refine zym rfl rfl ?_
                refine WL.nil ?_
                exact WP.againF (k + 1) hkl (by omega) ⟨rfl, some_bool (by rw [all_succ hkl]; exact bs3 (fun a b c => by first | rfl | assumption | (exact bnc a (by assumption)) | (exact bnc (by assumption) a) | (exact bnc b (by assumption)) | (exact bnc (by assumption) b) | (exact bnc c (by assumption)) | (exact bnc (by assumption) c)) (fun a b c => by first | rfl | assumption | (exact bnc a (by assumption)) | (exact bnc (by assumption) a) | (exact bnc b (by assumption)) | (exact bnc (by assumption) b) | (exact bnc c (by assumption)) | (exact bnc (by assumption) c)) (fun a b => by first | rfl | assumption | (exact bnc a (by assumption)) | (exact bnc (by assumption) a) | (exact bnc b (by assumption)) | (exact bnc (by assumption) b) | (exact bnc c (by assumption)) | (exact bnc (by assumption) c)) (fun a => by first | rfl | assumption | (exact bnc a (by assumption)) | (exact bnc (by assumption) a) | (exact bnc b (by assumption)) | (exact bnc (by assumption) b) | (exact bnc c (by assumption)) | (exact bnc (by assumption) c))), rfl, rfl, rfl, trivial⟩ (fun _ h => List.mem_cons_of_mem _ h) (fun h => (List.nodup_cons.1 h).2)
              · try simp only [zq1, zq2, zq3, zq4, zq5, zq6, zq7, zq8] at g78
                refine WL.skip rfl rfl ?_
                refine WL.skip rfl rfl ?_
                refine WL.skip rfl rfl ?_
                refine WL.skip rfl rfl ?_
                refine WL.skip rfl rfl ?_
                refine WL.skip rfl rfl ?_
                refine WL.yd (Yd.pickF rfl rfl) rfl ?_
                refine zya rfl rfl ?_
                refine WL.nil (WP.blkNormal (WP.thenC (WC.ofFr [(3, _), (1, _), (61, _), (62, _), (63, _)] ⟨rfl, rfl, rfl, rfl, rfl, trivial⟩ (WC.region ?_))))
                refine WL.yd (Yd.add rfl rfl (wr64 ⟨by omega, by omega⟩)) rfl ?_
                refine zym rfl rfl ?_
                refine WL.nil ?_
                exact WP.againF (k + 1) hkl (by omega) ⟨rfl, some_bool (by rw [all_succ hkl]; exact bs3 (fun a b c => by first | rfl | assumption | (exact bnc a (by assumption)) | (exact bnc (by assumption) a) | (exact bnc b (by assumption)) | (exact bnc (by assumption) b) | (exact bnc c (by assumption)) | (exact bnc (by assumption) c)) (fun a b c => by first | rfl | assumption | (exact bnc a (by assumption)) | (exact bnc (by assumption) a) | (exact bnc b (by assumption)) | (exact bnc (by assumption) b) | (exact bnc c (by assumption)) | (exact bnc (by assumption) c)) (fun a b => by first | rfl | assumption | (exact bnc a (by assumption)) | (exact bnc (by assumption) a) | (exact bnc b (by assumption)) | (exact bnc (by assumption) b) | (exact bnc c (by assumption)) | (exact bnc (by assumption) c)) (fun a => by first | rfl | assumption | (exact bnc a (by assumption)) | (exact bnc (by assumption) a) | (exact bnc b (by assumption)) | (exact bnc (by assumption) b) | (exact bnc c (by assumption)) | (exact bnc (by assumption) c))), rfl, rfl, rfl, trivial⟩ (fun _ h => List.mem_cons_of_mem _ h) (fun h => (List.nodup_cons.1 h).2)
            · try simp only [zq1, zq2, zq3, zq4, zq5, zq6, zq7, zq8] at g73
              refine WL.skip rfl rfl ?_
              refine WL.skip rfl rfl ?_
              refine WL.skip rfl rfl ?_
              refine WL.yd (Yd.pickF rfl rfl) rfl ?_
              refine zym rfl rfl ?_
              refine WL.skip rfl rfl ?_
              refine WL.skip rfl rfl ?_
              refine WL.skip rfl rfl ?_
              refine WL.skip rfl rfl ?_
              refine WL.skip rfl rfl ?_
              refine WL.skip rfl rfl ?_
              refine WL.yd (Yd.pickF rfl rfl) rfl ?_
              refine zya rfl rfl ?_
              refine WL.nil (WP.blkNormal (WP.thenC (WC.ofFr [(3, _), (1, _), (61, _), (62, _), (63, _)] ⟨rfl, rfl, rfl, rfl, rfl, trivial⟩ (WC.region ?_))))
              refine WL.yd (Yd.add rfl rfl (wr64 ⟨by omega, by omega⟩)) rfl ?_
              refine zym rfl rfl ?_
              refine WL.nil ?_
              exact WP.againF (k + 1) hkl (by omega) ⟨rfl, some_bool (by rw [all_succ hkl]; exact bs3 (fun a b c => by first | rfl | assumption | (exact bnc a (by assumption)) | (exact bnc (by assumption) a) | (exact bnc b (by assumption)) | (exact bnc (by assumption) b) | (exact bnc c (by assumption)) | (exact bnc (by assumption) c)) (fun a b c => by first | rfl | assumption | (exact bnc a (by assumption)) | (exact bnc (by assumption) a) | (exact bnc b (by assumption)) | (exact bnc (by assumption) b) | (exact bnc c (by assumption)) | (exact bnc (by assumption) c)) (fun a b => by first | rfl | assumption | (exact bnc a (by assumption)) | (exact bnc (by assumption) a) | (exact bnc b (by assumption)) | (exact bnc (by assumption) b) | (exact bnc c (by assumption)) | (exact bnc (by assumption) c)) (fun a => by first | rfl | assumption | (exact bnc a (by assumption)) | (exact bnc (by assumption) a) | (exact bnc b (by assumption)) | (exact bnc (by assumption) b) | (exact bnc c (by assumption)) | (exact bnc (by assumption) c))), rfl, rfl, rfl, trivial⟩ (fun _ h => List.mem_cons_of_mem _ h) (fun h => (List.nodup_cons.1 h).2)
          · try simp only [zq1, zq2, zq3, zq4, zq5, zq6, zq7, zq8] at g68
            refine WL.skip rfl rfl ?_
            refine WL.skip rfl rfl ?_
            refine WL.skip rfl rfl ?_
            refine WL.yd (Yd.pickF rfl rfl) rfl ?_
            refine zym rfl rfl ?_
            refine WL.skip rfl rfl ?_
            refine WL.skip rfl rfl ?_
            refine WL.skip rfl rfl ?_
            refine WL.yd (Yd.pickF rfl rfl) rfl ?_
            refine zym rfl rfl ?_
            refine WL.skip rfl rfl ?_
            refine WL.skip rfl rfl ?_
            refine WL.skip rfl rfl ?_
            refine WL.skip rfl rfl ?_
            refine WL.skip rfl rfl ?_
            refine WL.skip rfl rfl ?_
            refine WL.yd (Yd.pickF rfl rfl) rfl ?_
            refine zya rfl rfl ?_
            refine WL.nil (WP.blkNormal (WP.thenC (WC.ofFr [(3, _), (1, _), (61, _), (62, _), (63, _)] ⟨rfl, rfl, rfl, rfl, rfl, trivial⟩ (WC.region ?_))))
            refine WL.yd (Yd.add rfl rfl (wr64 ⟨by omega, by omega⟩)) rfl ?_
            refine zym rfl rfl ?_
            refine WL.nil ?_
            exact WP.againF (k + 1) hkl (by omega) ⟨rfl, some_bool (by rw [all_succ hkl]; exact bs3 (fun a b c => by first | rfl | assumption | (exact bnc a (by assumption)) | (exact bnc (by assumption) a) | (exact bnc b (by assumption)) | (exact bnc (by assumption) b) | (exact bnc c (by assumption)) | (exact bnc (by assumption) c)) (fun a b c => by first | rfl | assumption | (exact bnc a (by assumption)) | (exact bnc (by assumption) a) | (exact bnc b (by assumption)) | (exact bnc (by assumption) b) | (exact bnc c (by assumption)) | (exact bnc (by assumption) c)) (fun a b => by first | rfl | assumption | (exact bnc a (by assumption)) | (exact bnc (by assumption) a) | (exact bnc b (by assumption)) | (exact bnc (by assumption) b) | (exact bnc c (by assumption)) | (exact bnc (by assumption) c)) (fun a => by first | rfl | assumption | (exact bnc a (by assumption)) | (exact bnc (by assumption) a) | (exact bnc b (by assumption)) | (exact bnc (by assumption) b) | (exact bnc c (by assumption)) | (exact bnc (by assumption) c))), rfl, rfl, rfl, trivial⟩ (fun _ h => List.mem_cons_of_mem _ h) (fun h => (List.nodup_cons.1 h).2)
        · try simp only [zq1, zq2, zq3, zq4, zq5, zq6, zq7, zq8] at c64
          obtain rfl : k = s.huts.length := by omega
          refine WC.exit ?_
          refine WP.thenExit ?_
          refine WP.thenExit ?_
          refine WP.blkHit ?_
          refine WP.thenC (WC.seq (WC.ofFr [(3, _)] ⟨rfl, trivial⟩ (WC.region ?_)))
          refine zym rfl rfl ?_
          refine zya rfl rfl ?_
          refine WL.nil (WP.thenC (WC.ret ?_))
          refine WP.ret1 rfl rfl Tryz.results90 (RV.tmp rfl) (fun w hI => ⟨ret_bool (isSurf_fin s (by omega)), hI.keep⟩)
    · skip
      refine WC.ofFr [(2, _), (1, _)] ⟨rfl, rfl, trivial⟩ (WC.region ?_)
      refine WL.yd (Yd.fieldAddr FA25_0 rfl) rfl ?_
      refine WL.yd (Yd.load1 Tryz.isAgg3 rfl (Rd.own (k := 0) rfl rfl)) rfl ?_
      refine WL.so (SO.callP Tryz.call120 rfl (fun w hI => within_g _ _ _ _)) rfl ?_
      rintro _ _ _ ⟨rfl, rfl, rfl⟩
      refine zym rfl rfl ?_
      refine WL.part 19 rfl (fun g19 => ?_) (fun g19 => ?_)
      · try simp only [zq1, zq2, zq3, zq4, zq5, zq6, zq7, zq8] at g19
        refine WL.ydg rfl (Yd.fieldAddr FA25_1 rfl) rfl ?_
        refine WL.ydg rfl (Yd.load1 Tryz.isAgg3 rfl (Rd.own (k := 0) rfl rfl)) rfl ?_
        refine WL.sog rfl (SO.callP Tryz.call120 rfl (fun w hI => within_g _ _ _ _)) rfl ?_
        rintro _ _ _ ⟨rfl, rfl, rfl⟩
        refine WL.yd (Yd.pickT rfl rfl) rfl ?_
        refine zym rfl rfl ?_
        refine WL.part 24 rfl (fun g24 => ?_) (fun g24 => ?_)
        · try simp only [zq1, zq2, zq3, zq4, zq5, zq6, zq7, zq8] at g24
          refine WL.ydg rfl (Yd.fieldAddr FA25_2 rfl) rfl ?_
          refine WL.ydg rfl (Yd.load1 Tryz.isAgg22 rfl (Rd.own (k := 0) rfl rfl)) rfl ?_
          refine WL.ydg rfl (Yd.lenS rfl Tryz.underlying22 rfl) rfl ?_
          refine WL.ydg rfl (Yd.leq rfl rfl) rfl ?_
          refine WL.yd (Yd.pickT rfl rfl) rfl ?_
          refine zym rfl rfl ?_
          refine WL.part 30 rfl (fun g30 => ?_) (fun g30 => ?_)
          · try simp only [zq1, zq2, zq3, zq4, zq5, zq6, zq7, zq8] at g30
            refine WL.ydg rfl (Yd.fieldAddr FA25_4 rfl) rfl ?_
            refine WL.ydg rfl (Yd.load1 Tryz.isAgg23 rfl (Rd.own (k := 0) rfl rfl)) rfl ?_
            refine WL.ydg rfl (Yd.lenS rfl Tryz.underlying23 rfl) rfl ?_
            refine WL.ydg rfl (Yd.leq rfl rfl) rfl ?_
            refine WL.yd (Yd.pickT rfl rfl) rfl ?_
            refine zya rfl rfl ?_
            refine WL.nil ?_
            exact WP.join () trivial (fun a w h => at_less h ⟨rfl, some_bool (by first | (simp_all; done) | (rw [Bool.eq_iff_iff]; simp_all; done) | (rw [Bool.eq_iff_iff]; simp_all; omega)), trivial⟩ (fun _ h => h) (fun h => h))
          · try simp only [zq1, zq2, zq3, zq4, zq5, zq6, zq7, zq8] at g30
            refine WL.skip rfl rfl ?_
            refine WL.skip rfl rfl ?_
            refine WL.skip rfl rfl ?_
            refine WL.skip rfl rfl ?_
            refine WL.yd (Yd.pickF rfl rfl) rfl ?_
            refine zya rfl rfl ?_
            refine WL.nil ?_
            exact WP.join () trivial (fun a w h => at_less h ⟨rfl, some_bool (by first | (simp_all; done) | (rw [Bool.eq_iff_iff]; simp_all; done) | (rw [Bool.eq_iff_iff]; simp_all; omega)), trivial⟩ (fun _ h => h) (fun h => h))
        · try simp only [zq1, zq2, zq3, zq4, zq5, zq6, zq7, zq8] at g24
          refine WL.skip rfl rfl ?_
          refine WL.skip rfl rfl ?_
          refine WL.skip rfl rfl ?_
          refine WL.skip rfl rfl ?_
          refine WL.yd (Yd.pickF rfl rfl) rfl ?_
          refine zym rfl rfl ?_
          refine WL.skip rfl rfl ?_
          refine WL.skip rfl rfl ?_
          refine WL.skip rfl rfl ?_
          refine WL.skip rfl rfl ?_
          refine WL.yd (Yd.pickF rfl rfl) rfl ?_
          refine zya rfl rfl ?_
          refine WL.nil ?_
          exact WP.join () trivial (fun a w h => at_less h ⟨rfl, some_bool (by first | (simp_all; done) | (rw [Bool.eq_iff_iff]; simp_all; done) | (rw [Bool.eq_iff_iff]; simp_all; omega)), trivial⟩ (fun _ h => h) (fun h => h))
      · try simp only [zq1, zq2, zq3, zq4, zq5, zq6, zq7, zq8] at g19
        refine WL.skip rfl rfl ?_
        refine WL.skip rfl rfl ?_
        refine WL.skip rfl rfl ?_
        refine WL.yd (Yd.pickF rfl rfl) rfl ?_
        refine zym rfl rfl ?_
        refine WL.skip rfl rfl ?_
        refine WL.skip rfl rfl ?_
        refine WL.skip rfl rfl ?_
        refine WL.skip rfl rfl ?_
        refine WL.yd (Yd.pickF rfl rfl) rfl ?_
        refine zym rfl rfl ?_
        refine WL.skip rfl rfl ?_
        refine WL.skip rfl rfl ?_
        refine WL.skip rfl rfl ?_
        refine WL.skip rfl rfl ?_
        refine WL.yd (Yd.pickF rfl rfl) rfl ?_
        refine zya rfl rfl ?_
        refine WL.nil ?_
        exact WP.join () trivial (fun a w h => at_less h ⟨rfl, some_bool (by first | (simp_all; done) | (rw [Bool.eq_iff_iff]; simp_all; done) | (rw [Bool.eq_iff_iff]; simp_all; omega)), trivial⟩ (fun _ h => h) (fun h => h))

theorem isFlag_fin (f : Flag) : (((decide (1 ≤ f.low) && decide (f.low ≤ f.high) && decide (f.high ≤ 12) && inB f.quiet 1 4 && decide (f.hours.length ≤ 9) && decide (f.seen.length ≤ 8)) && (f.hours.take f.hours.length).all hourB) && (f.seen.take f.seen.length).all fun s => inB s.hour 0 ((f.hours.length : Int) - 1)) = flagB f := by
  have e : decide (1 ≤ f.low ∧ f.low ≤ f.high ∧ f.high ≤ 12) = (decide (1 ≤ f.low) && decide (f.low ≤ f.high) && decide (f.high ≤ 12)) := by
    rw [Bool.eq_iff_iff]; simp; omega
  simp only [flagB, e, List.take_length]

theorem isFlag_g (f : Flag) (m : FlagM) (D : Imm) (w : World) (hR : FlagR D f m) (hH : Holds D w) : Gives Tryz.prog 100 [flagV f m] w (.bool (flagB f)) := by
  unfold Gives
  obtain ⟨⟨ha, hn, hc⟩, ⟨sa, sn, sc⟩⟩ := m
  obtain rfl : hn = f.hours.length := hR.h.len'
  obtain rfl : sn = f.seen.length := hR.s.len'
  have hRh : SlL D 3 (f.hours.map hourC) ha f.hours.length := hR.h
  have hRs : SlL D 2 (f.seen.map seenC) sa f.seen.length := hR.s
  have nh : f.hours.length ≤ 9223372036854775807 := hR.nh
  have ns : f.seen.length ≤ 9223372036854775807 := hR.ns
  refine enter Tryz.func100 rfl 78 Tryz.ntmps100 (zqb rfl) (Inv.start hH) ?_
  refine WC.seq (WC.ofFr [(0, _)] ⟨rfl, trivial⟩ (WC.region ?_))
  refine WL.so (SO.box rfl rfl) rfl ?_
  rintro _ _ _ ⟨b1, hb1, rfl, rfl, rfl⟩
  refine zya rfl rfl ?_
  refine WL.nil (WP.thenC ?_)
  refine WC.seqJ (α := Unit) (fun _ => [(1, pt b1), (3, .bool (decide (1 ≤ f.low) && decide (f.low ≤ f.high) && decide (f.high ≤ 12) && inB f.quiet 1 4 && decide (f.hours.length ≤ 9) && decide (f.seen.length ≤ 8)))]) (fun _ => [(b1, .cells (List.toArray [it f.low, it f.high, it f.quiet, .slice ha f.hours.length hc, .slice sa f.seen.length sc]) 29 (0, 0))]) (fun _ => D) (fun _ => True) ?_ ?_
  · rintro _ -
    refine WC.seq (WC.seq (WC.ofFr [(1, _), (3, _)] ⟨rfl, rfl, trivial⟩ (WC.region ?_)))
    refine WL.yd (Yd.fieldAddr FA29_3 rfl) rfl ?_
    refine WL.yd (Yd.load1 Tryz.isAgg26 rfl (Rd.own (k := 0) rfl rfl)) rfl ?_
    refine WL.yd (Yd.lenS rfl Tryz.underlying26 rfl) rfl ?_
    refine zym rfl rfl ?_
    refine WL.nil (WP.thenC (WC.block ?_))
    refine WC.loopF (fun k : Nat => [(1, pt b1), (3, .bool ((decide (1 ≤ f.low) && decide (f.low ≤ f.high) && decide (f.high ≤ 12) && inB f.quiet 1 4 && decide (f.hours.length ≤ 9) && decide (f.seen.length ≤ 8)) && (f.hours.take k).all hourB)), (41, .slice ha f.hours.length hc), (42, nt f.hours.length), (43, nt k)]) (fun k => k ≤ f.hours.length) (fun k => f.hours.length - k) 0 (Nat.zero_le _) ⟨rfl, some_bool (by simp), rfl, rfl, rfl, trivial⟩ ?_
    intro k hk
    refine WC.seq (WC.ofFr [(1, _), (3, _), (41, _), (42, _), (43, _)] ⟨rfl, rfl, rfl, rfl, rfl, trivial⟩ (WC.region ?_))
    refine WL.yd (Yd.lss rfl rfl) rfl ?_
    refine WL.nil (WP.thenC (WC.seq ?_))
    refine WC.cond rfl (fun c44 => ?_) (fun c44 => ?_)
    · try simp only [zq1, zq2, zq3, zq4, zq5, zq6, zq7, zq8] at c44
      have hkl : k < f.hours.length := by omega
      refine WC.skip (WP.thenC (WC.seq (WC.block (WC.seq (WC.ofFr [(1, _), (3, _), (41, _), (42, _), (43, _)] ⟨rfl, rfl, rfl, rfl, rfl, trivial⟩ (WC.region ?_))))))
      refine WL.yd (Yd.indexS Tryz.underlying26 Tryz.sizeOf138 rfl rfl (by omega) (by omega) (by first | exact hRh.addr k (by omega))) rfl ?_
      refine WL.yd (Yd.loadN Tryz.isAgg138 Tryz.sizeOf138 rfl (vs := [_, _, _]) rfl ((hRh.at k (by omega)).rdn 0 3 rfl)) rfl ?_
      refine WL.so (SO.alloc Tryz.zeroValue138 rfl) rfl ?_
      rintro _ _ _ ⟨b5, hb5, rfl, rfl, rfl⟩
      refine WL.so (SO.store 0 rfl Tryz.sizeOf138 rfl rfl rfl rfl (zqb rfl) (oneB_spec rfl)) rfl ?_
      rintro _ _ _ ⟨rfl, rfl, rfl⟩
      refine WL.nil (WP.thenC (WC.ofFr [(5, _), (1, _), (3, _), (41, _), (42, _), (43, _)] ⟨rfl, rfl, rfl, rfl, rfl, rfl, trivial⟩ (WC.region ?_)))
      refine zym rfl rfl ?_
      refine zym rfl rfl ?_
      refine WL.part 48 rfl (fun g48 => ?_) (fun g48 => ?_)
      · try simp only [zq1, zq2, zq3, zq4, zq5, zq6, zq7, zq8] at g48
        refine WL.ydg rfl (Yd.fieldAddr FA138_0 rfl) rfl ?_
        refine WL.ydg rfl (Yd.loadN Tryz.isAgg114 Tryz.sizeOf114 rfl (vs := [_, _]) rfl (RdN.own (k := 0) (n := 2) rfl rfl)) rfl ?_
        refine WL.sog rfl (SO.callP Tryz.call121 rfl (fun w hI => isSpan_g (gt f.hours k).wind 0 12 _)) rfl ?_
        rintro _ _ _ ⟨rfl, rfl, rfl⟩
        refine WL.yd (Yd.pickT rfl rfl) rfl ?_
        refine zym rfl rfl ?_
        refine WL.part 53 rfl (fun g53 => ?_) (fun g53 => ?_)
        · try simp only [zq1, zq2, zq3, zq4, zq5, zq6, zq7, zq8] at g53
          refine WL.ydg rfl (Yd.fieldAddr FA138_1 rfl) rfl ?_
          refine WL.ydg rfl (Yd.load1 Tryz.isAgg3 rfl (Rd.own (k := 0) rfl rfl)) rfl ?_
          refine WL.sog rfl (SO.callP Tryz.call120 rfl (fun w hI => within_g _ _ _ _)) rfl ?_
          rintro _ _ _ ⟨rfl, rfl, rfl⟩
          refine WL.yd (Yd.pickT rfl rfl) rfl ?_
          refine zya rfl rfl ?_
          refine WL.nil (WP.blkNormal (WP.thenC (WC.ofFr [(3, _), (1, _), (41, _), (42, _), (43, _)] ⟨rfl, rfl, rfl, rfl, rfl, trivial⟩ (WC.region ?_))))
          refine WL.yd (Yd.add rfl rfl (wr64 ⟨by omega, by omega⟩)) rfl ?_
          refine zym rfl rfl ?_
          refine WL.nil ?_
          exact WP.againF (k + 1) hkl (by omega) ⟨rfl, some_bool (by rw [all_succ hkl]; exact bs4 (fun a b => by first | rfl | assumption | (exact bnc a (by assumption)) | (exact bnc (by assumption) a) | (exact bnc b (by assumption)) | (exact bnc (by assumption) b) | (exact bnc c (by assumption)) | (exact bnc (by assumption) c)) (fun a b => by first | rfl | assumption | (exact bnc a (by assumption)) | (exact bnc (by assumption) a) | (exact bnc b (by assumption)) | (exact bnc (by assumption) b) | (exact bnc c (by assumption)) | (exact bnc (by assumption) c)) (fun a => by first | rfl | assumption | (exact bnc a (by assumption)) | (exact bnc (by assumption) a) | (exact bnc b (by assumption)) | (exact bnc (by assumption) b) | (exact bnc c (by assumption)) | (exact bnc (by assumption) c))), rfl, rfl, rfl, trivial⟩ (fun _ h => List.mem_cons_of_mem _ h) (fun h => (List.nodup_cons.1 h).2)
        · try simp only [zq1, zq2, zq3, zq4, zq5, zq6, zq7, zq8] at g53
          refine WL.skip rfl rfl ?_
          refine WL.skip rfl rfl ?_
          refine WL.skip rfl rfl ?_
          refine WL.yd (Yd.pickF rfl rfl) rfl ?_
          refine zya rfl rfl ?_
          refine WL.nil (WP.blkNormal (WP.thenC (WC.ofFr [(3, _), (1, _), (41, _), (42, _), (43, _)] ⟨rfl, rfl, rfl, rfl, rfl, trivial⟩ (WC.region ?_))))
          refine WL.yd (Yd.add rfl rfl (wr64 ⟨by omega, by omega⟩)) rfl ?_
          refine zym rfl rfl ?_
          refine WL.nil ?_
          exact WP.againF (k + 1) hkl (by omega) ⟨rfl, some_bool (by rw [all_succ hkl]; exact bs4 (fun a b => by first | rfl | assumption | (exact bnc a (by assumption)) | (exact bnc (by assumption) a) | (exact bnc b (by assumption)) | (exact bnc (by assumption) b) | (exact bnc c (by assumption)) | (exact bnc (by assumption) c)) (fun a b => by first | rfl | assumption | (exact bnc a (by assumption)) | (exact bnc (by assumption) a) | (exact bnc b (by assumption)) | (exact bnc (by assumption) b) | (exact bnc c (by assumption)) | (exact bnc (by assumption) c)) (fun a => by first | rfl | assumption | (exact bnc a (by assumption)) | (exact bnc (by assumption) a) | (exact bnc b (by assumption)) | (exact bnc (by assumption) b) | (exact bnc c (by assumption)) | (exact bnc (by assumption) c))), rfl, rfl, rfl, trivial⟩ (fun _ h => List.mem_cons_of_mem _ h) (fun h => (List.nodup_cons.1 h).2)
      · try simp only [zq1, zq2, zq3, zq4, zq5, zq6, zq7, zq8] at g48
        refine WL.skip rfl rfl ?_
        refine WL.skip rfl rfl ?_
        refine WL.skip rfl rfl ?_
        refine WL.yd (Yd.pickF rfl rfl) rfl ?_
        refine zym rfl rfl ?_
        refine WL.skip rfl rfl ?_
        refine WL.skip rfl rfl ?_
        refine WL.skip rfl rfl ?_
        refine WL.yd (Yd.pickF rfl rfl) rfl ?_
        refine zya rfl rfl ?_
        refine WL.nil (WP.blkNormal (WP.thenC (WC.ofFr [(3, _), (1, _), (41, _), (42, _), (43, _)] ⟨rfl, rfl, rfl, rfl, rfl, trivial⟩ (WC.region ?_))))
        refine WL.yd (Yd.add rfl rfl (wr64 ⟨by omega, by omega⟩)) rfl ?_
        refine zym rfl rfl ?_
        refine WL.nil ?_
        exact WP.againF (k + 1) hkl (by omega) ⟨rfl, some_bool (by rw [all_succ hkl]; exact bs4 (fun a b => by first | rfl | assumption | (exact bnc a (by assumption)) | (exact bnc (by assumption) a) | (exact bnc b (by assumption)) | (exact bnc (by assumption) b) | (exact bnc c (by assumption)) | (exact bnc (by assumption) c)) (fun a b => by first | rfl | assumption | (exact bnc a (by assumption)) | (exact bnc (by assumption) a) | (exact bnc b (by assumption)) | (exact bnc (by assumption) b) | (exact bnc c (by assumption)) | (exact bnc (by assumption) c)) (fun a => by first | rfl | assumption | (exact bnc a (by assumption)) | (exact bnc (by assumption) a) | (exact bnc b (by assumption)) | (exact bnc (by assumption) b) | (exact bnc c (by assumption)) | (exact bnc (by assumption) c))), rfl, rfl, rfl, trivial⟩ (fun _ h => List.mem_cons_of_mem _ h) (fun h => (List.nodup_cons.1 h).2)
    · try simp only [zq1, zq2, zq3, zq4, zq5, zq6, zq7, zq8] at c44
      obtain rfl : k = f.hours.length := by omega
      refine WC.exit ?_
      refine WP.thenExit ?_
      refine WP.thenExit ?_
      refine WP.blkHit ?_
      refine WP.thenC (WC.seq (WC.seq (WC.ofFr [(1, _), (3, _)] ⟨rfl, rfl, trivial⟩ (WC.region ?_))))
      refine WL.yd (Yd.fieldAddr FA29_4 rfl) rfl ?_
      refine WL.yd (Yd.load1 Tryz.isAgg27 rfl (Rd.own (k := 0) rfl rfl)) rfl ?_
      refine WL.yd (Yd.lenS rfl Tryz.underlying27 rfl) rfl ?_
      refine zym rfl rfl ?_
      refine WL.nil (WP.thenC (WC.block ?_))
      refine WC.loopF (fun k : Nat => [(1, pt b1), (3, .bool (((decide (1 ≤ f.low) && decide (f.low ≤ f.high) && decide (f.high ≤ 12) && inB f.quiet 1 4 && decide (f.hours.length ≤ 9) && decide (f.seen.length ≤ 8)) && (f.hours.take f.hours.length).all hourB) && (f.seen.take k).all fun s => inB s.hour 0 ((f.hours.length : Int) - 1))), (60, .slice sa f.seen.length sc), (61, nt f.seen.length), (62, nt k)]) (fun k => k ≤ f.seen.length) (fun k => f.seen.length - k) 0 (Nat.zero_le _) ⟨rfl, some_bool (by simp), rfl, rfl, rfl, trivial⟩ ?_
      intro k hk
      refine WC.seq (WC.ofFr [(1, _), (3, _), (60, _), (61, _), (62, _)] ⟨rfl, rfl, rfl, rfl, rfl, trivial⟩ (WC.region ?_))
      refine WL.yd (Yd.lss rfl rfl) rfl ?_
      refine WL.nil (WP.thenC (WC.seq ?_))
      refine WC.cond rfl (fun c63 => ?_) (fun c63 => ?_)
      · try simp only [zq1, zq2, zq3, zq4, zq5, zq6, zq7, zq8] at c63
        have hkl : k < f.seen.length := by omega
        refine WC.skip (WP.thenC (WC.seq (WC.block (WC.seq (WC.ofFr [(1, _), (3, _), (60, _), (61, _), (62, _)] ⟨rfl, rfl, rfl, rfl, rfl, trivial⟩ (WC.region ?_))))))
        refine WL.yd (Yd.indexS Tryz.underlying27 Tryz.sizeOf141 rfl rfl (by omega) (by omega) (by first | exact hRs.addr k (by omega))) rfl ?_
        refine WL.yd (Yd.loadN Tryz.isAgg141 Tryz.sizeOf141 rfl (vs := [_, _]) rfl ((hRs.at k (by omega)).rdn 0 2 rfl)) rfl ?_
        refine WL.so (SO.alloc Tryz.zeroValue141 rfl) rfl ?_
        rintro _ _ _ ⟨b7, hb7, rfl, rfl, rfl⟩
        refine WL.so (SO.store 0 rfl Tryz.sizeOf141 rfl rfl rfl rfl (zqb rfl) (oneB_spec rfl)) rfl ?_
        rintro _ _ _ ⟨rfl, rfl, rfl⟩
        refine WL.nil (WP.thenC (WC.ofFr [(7, _), (1, _), (3, _), (60, _), (61, _), (62, _)] ⟨rfl, rfl, rfl, rfl, rfl, rfl, trivial⟩ (WC.region ?_)))
        refine zym rfl rfl ?_
        refine zym rfl rfl ?_
        refine WL.part 67 rfl (fun g67 => ?_) (fun g67 => ?_)
        · try simp only [zq1, zq2, zq3, zq4, zq5, zq6, zq7, zq8] at g67
          refine WL.ydg rfl (Yd.fieldAddr FA141_0 rfl) rfl ?_
          refine WL.ydg rfl (Yd.load1 Tryz.isAgg3 rfl (Rd.own (k := 0) rfl rfl)) rfl ?_
          refine WL.ydg rfl (Yd.fieldAddr FA29_3 rfl) rfl ?_
          refine WL.ydg rfl (Yd.load1 Tryz.isAgg26 rfl (Rd.own (k := 1) rfl rfl)) rfl ?_
          refine WL.ydg rfl (Yd.lenS rfl Tryz.underlying26 rfl) rfl ?_
          refine WL.ydg rfl (Yd.sub rfl rfl (wr64 ⟨by omega, by omega⟩)) rfl ?_
          refine WL.sog rfl (SO.callP Tryz.call120 rfl (fun w hI => within_g _ _ _ _)) rfl ?_
          rintro _ _ _ ⟨rfl, rfl, rfl⟩
          refine WL.yd (Yd.pickT rfl rfl) rfl ?_
          refine zya rfl rfl ?_
          refine WL.nil (WP.blkNormal (WP.thenC (WC.ofFr [(3, _), (1, _), (60, _), (61, _), (62, _)] ⟨rfl, rfl, rfl, rfl, rfl, trivial⟩ (WC.region ?_))))
          refine WL.yd (Yd.add rfl rfl (wr64 ⟨by omega, by omega⟩)) rfl ?_
          refine zym rfl rfl ?_
          refine WL.nil ?_
          exact WP.againF (k + 1) hkl (by omega) ⟨rfl, some_bool (by rw [all_succ hkl]; exact bs1 (fun a => by first | rfl | assumption | (exact bnc a (by assumption)) | (exact bnc (by assumption) a) | (exact bnc b (by assumption)) | (exact bnc (by assumption) b) | (exact bnc c (by assumption)) | (exact bnc (by assumption) c)) (fun a => by first | rfl | assumption | (exact bnc a (by assumption)) | (exact bnc (by assumption) a) | (exact bnc b (by assumption)) | (exact bnc (by assumption) b) | (exact bnc c (by assumption)) | (exact bnc (by assumption) c))), rfl, rfl, rfl, trivial⟩ (fun _ h => List.mem_cons_of_mem _ h) (fun h => (List.nodup_cons.1 h).2)
        · try simp only [zq1, zq2, zq3, zq4, zq5, zq6, zq7, zq8] at g67
          refine WL.skip rfl rfl ?_
          refine WL.skip rfl rfl ?_
          refine WL.skip rfl rfl ?_
          refine WL.skip rfl rfl ?_
          refine WL.skip rfl rfl ?_
          refine WL.skip rfl rfl ?_
          refine WL.skip rfl rfl ?_
          refine WL.yd (Yd.pickF rfl rfl) rfl ?_
          refine zya rfl rfl ?_
          refine WL.nil (WP.blkNormal (WP.thenC (WC.ofFr [(3, _), (1, _), (60, _), (61, _), (62, _)] ⟨rfl, rfl, rfl, rfl, rfl, trivial⟩ (WC.region ?_))))
          refine WL.yd (Yd.add rfl rfl (wr64 ⟨by omega, by omega⟩)) rfl ?_
          refine zym rfl rfl ?_
          refine WL.nil ?_
          exact WP.againF (k + 1) hkl (by omega) ⟨rfl, some_bool (by rw [all_succ hkl]; exact bs1 (fun a => by first | rfl | assumption | (exact bnc a (by assumption)) | (exact bnc (by assumption) a) | (exact bnc b (by assumption)) | (exact bnc (by assumption) b) | (exact bnc c (by assumption)) | (exact bnc (by assumption) c)) (fun a => by first | rfl | assumption | (exact bnc a (by assumption)) | (exact bnc (by assumption) a) | (exact bnc b (by assumption)) | (exact bnc (by assumption) b) | (exact bnc c (by assumption)) | (exact bnc (by assumption) c))), rfl, rfl, rfl, trivial⟩ (fun _ h => List.mem_cons_of_mem _ h) (fun h => (List.nodup_cons.1 h).2)
      · try simp only [zq1, zq2, zq3, zq4, zq5, zq6, zq7, zq8] at c63
        obtain rfl : k = f.seen.length := by omega
        refine WC.exit ?_
        refine WP.thenExit ?_
        refine WP.thenExit ?_
        refine WP.blkHit ?_
        refine WP.thenC (WC.seq (WC.ofFr [(3, _)] ⟨rfl, trivial⟩ (WC.region ?_)))
        refine zym rfl rfl ?_
        refine zya rfl rfl ?_
        refine WL.nil (WP.thenC (WC.ret ?_))
        refine WP.ret1 rfl rfl Tryz.results100 (RV.tmp rfl) (fun w hI => ⟨ret_bool (isFlag_fin f), hI.keep⟩)
  · skip
    refine WC.ofFr [(2, _), (1, _)] ⟨rfl, rfl, trivial⟩ (WC.region ?_)
    refine WL.yd (Yd.fieldAddr FA29_0 rfl) rfl ?_
    refine WL.yd (Yd.load1 Tryz.isAgg3 rfl (Rd.own (k := 0) rfl rfl)) rfl ?_
    refine WL.yd (Yd.leq rfl rfl) rfl ?_
    refine zym rfl rfl ?_
    refine WL.part 11 rfl (fun g11 => ?_) (fun g11 => ?_)
    · try simp only [zq1, zq2, zq3, zq4, zq5, zq6, zq7, zq8] at g11
      refine WL.ydg rfl (Yd.fieldAddr FA29_0 rfl) rfl ?_
      refine WL.ydg rfl (Yd.load1 Tryz.isAgg3 rfl (Rd.own (k := 0) rfl rfl)) rfl ?_
      refine WL.ydg rfl (Yd.fieldAddr FA29_1 rfl) rfl ?_
      refine WL.ydg rfl (Yd.load1 Tryz.isAgg3 rfl (Rd.own (k := 0) rfl rfl)) rfl ?_
      refine WL.ydg rfl (Yd.leq rfl rfl) rfl ?_
      refine WL.yd (Yd.pickT rfl rfl) rfl ?_
      refine zym rfl rfl ?_
      refine WL.part 18 rfl (fun g18 => ?_) (fun g18 => ?_)
      · try simp only [zq1, zq2, zq3, zq4, zq5, zq6, zq7, zq8] at g18
        refine WL.ydg rfl (Yd.fieldAddr FA29_1 rfl) rfl ?_
        refine WL.ydg rfl (Yd.load1 Tryz.isAgg3 rfl (Rd.own (k := 0) rfl rfl)) rfl ?_
        refine WL.ydg rfl (Yd.leq rfl rfl) rfl ?_
        refine WL.yd (Yd.pickT rfl rfl) rfl ?_
        refine zym rfl rfl ?_
        refine WL.part 23 rfl (fun g23 => ?_) (fun g23 => ?_)
        · try simp only [zq1, zq2, zq3, zq4, zq5, zq6, zq7, zq8] at g23
          refine WL.ydg rfl (Yd.fieldAddr FA29_2 rfl) rfl ?_
          refine WL.ydg rfl (Yd.load1 Tryz.isAgg3 rfl (Rd.own (k := 0) rfl rfl)) rfl ?_
          refine WL.sog rfl (SO.callP Tryz.call120 rfl (fun w hI => within_g _ _ _ _)) rfl ?_
          rintro _ _ _ ⟨rfl, rfl, rfl⟩
          refine WL.yd (Yd.pickT rfl rfl) rfl ?_
          refine zym rfl rfl ?_
          refine WL.part 28 rfl (fun g28 => ?_) (fun g28 => ?_)
          · try simp only [zq1, zq2, zq3, zq4, zq5, zq6, zq7, zq8] at g28
            refine WL.ydg rfl (Yd.fieldAddr FA29_3 rfl) rfl ?_
            refine WL.ydg rfl (Yd.load1 Tryz.isAgg26 rfl (Rd.own (k := 0) rfl rfl)) rfl ?_
            refine WL.ydg rfl (Yd.lenS rfl Tryz.underlying26 rfl) rfl ?_
            refine WL.ydg rfl (Yd.leq rfl rfl) rfl ?_
            refine WL.yd (Yd.pickT rfl rfl) rfl ?_
            refine zym rfl rfl ?_
            refine WL.part 34 rfl (fun g34 => ?_) (fun g34 => ?_)
            · try simp only [zq1, zq2, zq3, zq4, zq5, zq6, zq7, zq8] at g34
              refine WL.ydg rfl (Yd.fieldAddr FA29_4 rfl) rfl ?_
              refine WL.ydg rfl (Yd.load1 Tryz.isAgg27 rfl (Rd.own (k := 0) rfl rfl)) rfl ?_
              refine WL.ydg rfl (Yd.lenS rfl Tryz.underlying27 rfl) rfl ?_
              refine WL.ydg rfl (Yd.leq rfl rfl) rfl ?_
              refine WL.yd (Yd.pickT rfl rfl) rfl ?_
              refine zya rfl rfl ?_
              refine WL.nil ?_
              exact WP.join () trivial (fun a w h => at_less h ⟨rfl, some_bool (by first | (simp_all; done) | (rw [Bool.eq_iff_iff]; simp_all; done) | (rw [Bool.eq_iff_iff]; simp_all; omega)), trivial⟩ (fun _ h => h) (fun h => h))
            · try simp only [zq1, zq2, zq3, zq4, zq5, zq6, zq7, zq8] at g34
              refine WL.skip rfl rfl ?_
              refine WL.skip rfl rfl ?_
              refine WL.skip rfl rfl ?_
              refine WL.skip rfl rfl ?_
              refine WL.yd (Yd.pickF rfl rfl) rfl ?_
              refine zya rfl rfl ?_
              refine WL.nil ?_
              exact WP.join () trivial (fun a w h => at_less h ⟨rfl, some_bool (by first | (simp_all; done) | (rw [Bool.eq_iff_iff]; simp_all; done) | (rw [Bool.eq_iff_iff]; simp_all; omega)), trivial⟩ (fun _ h => h) (fun h => h))
          · try simp only [zq1, zq2, zq3, zq4, zq5, zq6, zq7, zq8] at g28
            refine WL.skip rfl rfl ?_
            refine WL.skip rfl rfl ?_
            refine WL.skip rfl rfl ?_
            refine WL.skip rfl rfl ?_
            refine WL.yd (Yd.pickF rfl rfl) rfl ?_
            refine zym rfl rfl ?_
            refine WL.skip rfl rfl ?_
            refine WL.skip rfl rfl ?_
            refine WL.skip rfl rfl ?_
            refine WL.skip rfl rfl ?_
            refine WL.yd (Yd.pickF rfl rfl) rfl ?_
            refine zya rfl rfl ?_
            refine WL.nil ?_
            exact WP.join () trivial (fun a w h => at_less h ⟨rfl, some_bool (by first | (simp_all; done) | (rw [Bool.eq_iff_iff]; simp_all; done) | (rw [Bool.eq_iff_iff]; simp_all; omega)), trivial⟩ (fun _ h => h) (fun h => h))
        · try simp only [zq1, zq2, zq3, zq4, zq5, zq6, zq7, zq8] at g23
          refine WL.skip rfl rfl ?_
          refine WL.skip rfl rfl ?_
          refine WL.skip rfl rfl ?_
          refine WL.yd (Yd.pickF rfl rfl) rfl ?_
          refine zym rfl rfl ?_
          refine WL.skip rfl rfl ?_
          refine WL.skip rfl rfl ?_
          refine WL.skip rfl rfl ?_
          refine WL.skip rfl rfl ?_
          refine WL.yd (Yd.pickF rfl rfl) rfl ?_
          refine zym rfl rfl ?_
          refine WL.skip rfl rfl ?_
          refine WL.skip rfl rfl ?_
          refine WL.skip rfl rfl ?_
          refine WL.skip rfl rfl ?_
          refine WL.yd (Yd.pickF rfl rfl) rfl ?_
          refine zya rfl rfl ?_
          refine WL.nil ?_
          exact WP.join () trivial (fun a w h => at_less h ⟨rfl, some_bool (by first | (simp_all; done) | (rw [Bool.eq_iff_iff]; simp_all; done) | (rw [Bool.eq_iff_iff]; simp_all; omega)), trivial⟩ (fun _ h => h) (fun h => h))
      · try simp only [zq1, zq2, zq3, zq4, zq5, zq6, zq7, zq8] at g18
        refine WL.skip rfl rfl ?_
        refine WL.skip rfl rfl ?_
        refine WL.skip rfl rfl ?_
        refine WL.yd (Yd.pickF rfl rfl) rfl ?_
        refine zym rfl rfl ?_
        refine WL.skip rfl rfl ?_
        refine WL.skip rfl rfl ?_
        refine WL.skip rfl rfl ?_
        refine WL.yd (Yd.pickF rfl rfl) rfl ?_
        refine zym rfl rfl ?_
        refine WL.skip rfl rfl ?_
        refine WL.skip rfl rfl ?_
        refine WL.skip rfl rfl ?_
        refine WL.skip rfl rfl ?_
        refine WL.yd (Yd.pickF rfl rfl) rfl ?_
        refine zym rfl rfl ?_
        refine WL.skip rfl rfl ?_
        refine WL.skip rfl rfl ?_
        refine WL.skip rfl rfl ?_
        refine WL.skip rfl rfl ?_
        refine WL.yd (Yd.pickF rfl rfl) rfl ?_
        refine zya rfl rfl ?_
        refine WL.nil ?_
        exact WP.join () trivial (fun a w h => at_less h ⟨rfl, some_bool (by first | (simp_all; done) | (rw [Bool.eq_iff_iff]; simp_all; done) | (rw [Bool.eq_iff_iff]; simp_all; omega)), trivial⟩ (fun _ h => h) (fun h => h))
    · try simp only [zq1, zq2, zq3, zq4, zq5, zq6, zq7, zq8] at g11
      refine WL.skip rfl rfl ?_
      refine WL.skip rfl rfl ?_
      refine WL.skip rfl rfl ?_
      refine WL.skip rfl rfl ?_
      refine WL.skip rfl rfl ?_
      refine WL.yd (Yd.pickF rfl rfl) rfl ?_
      refine zym rfl rfl ?_
      refine WL.skip rfl rfl ?_
      refine WL.skip rfl rfl ?_
      refine WL.skip rfl rfl ?_
      refine WL.yd (Yd.pickF rfl rfl) rfl ?_
      refine zym rfl rfl ?_
      refine WL.skip rfl rfl ?_
      refine WL.skip rfl rfl ?_
      refine WL.skip rfl rfl ?_
      refine WL.yd (Yd.pickF rfl rfl) rfl ?_
      refine zym rfl rfl ?_
      refine WL.skip rfl rfl ?_
      refine WL.skip rfl rfl ?_
      refine WL.skip rfl rfl ?_
      refine WL.skip rfl rfl ?_
      refine WL.yd (Yd.pickF rfl rfl) rfl ?_
      refine zym rfl rfl ?_
      refine WL.skip rfl rfl ?_
      refine WL.skip rfl rfl ?_
      refine WL.skip rfl rfl ?_
      refine WL.skip rfl rfl ?_
      refine WL.yd (Yd.pickF rfl rfl) rfl ?_
      refine zya rfl rfl ?_
      refine WL.nil ?_
      exact WP.join () trivial (fun a w h => at_less h ⟨rfl, some_bool (by first | (simp_all; done) | (rw [Bool.eq_iff_iff]; simp_all; done) | (rw [Bool.eq_iff_iff]; simp_all; omega)), trivial⟩ (fun _ h => h) (fun h => h))

def stepB (b : Boats) (m : Int) (s : BSeen) : Bool := inB s.minute m b.last && spB s.cols 0 (b.wide - 1) && spB s.rows 0 (b.deep - 1)
def prevM (m : Int) (l : List BSeen) (j : Nat) : Int := match j with | 0 => m | j + 1 => (gt l j).minute
theorem rowB_succ {b : Boats} : ∀ (l : List BSeen) (m : Int) (j : Nat), j < l.length → rowB b m (l.take (j + 1)) = (rowB b m (l.take j) && stepB b (prevM m l j) (gt l j))
  | s :: l, m, 0, _ => by simp [rowB, stepB, prevM, gt]
  | s :: l, m, j + 1, h => by
    have ih := rowB_succ (b := b) l s.minute j (by simpa using h)
    have e1 : gt (s :: l) (j + 1) = gt l j := by simp [gt, List.getD]
    have e2 : prevM m (s :: l) (j + 1) = prevM s.minute l j := by
      cases j with
      | zero => rfl
      | succ j => simp [prevM, gt, List.getD]
    rw [List.take_succ_cons, List.take_succ_cons, rowB, rowB, ih, e1, e2]
    simp only [Bool.and_assoc]

theorem isBoats_fin (b : Boats) : ((inB b.wide 1 8 && inB b.deep 1 6 && inB b.speed 0 3 && inB b.last 0 12 && decide (b.seen.length ≤ 4)) && (b.seen.take b.seen.length).all (fun l => decide (l.length ≤ 5) && rowB b 0 l)) = boatsB b := by
  simp only [boatsB, List.take_length]

theorem isBoats_g (b : Boats) (m : BoatsM) (D : Imm) (w : World) (hR : BoatsR D b m) (hH : Holds D w) : Gives Tryz.prog 115 [boatsV b m] w (.bool (boatsB b)) := by
  unfold Gives
  obtain ⟨⟨ba, bn, bc⟩, ml⟩ := m
  have hml : ml.length = b.seen.length := hR.len
  have hRs0 : SlL D 1 (ml.map slC) ba bn := hR.sl
  obtain rfl : bn = b.seen.length := by have := hRs0.len'; omega
  have hRr : ∀ i, i < b.seen.length → SlL D 5 ((gt b.seen i).map bsC) (gt ml i).a (gt ml i).n := hR.row
  have hRn : ∀ i, i < b.seen.length → (gt ml i).n ≤ 9223372036854775807 := hR.nr
  have nb : b.seen.length ≤ 9223372036854775807 := hR.n
  refine enter Tryz.func115 rfl 82 Tryz.ntmps115 (zqb rfl) (Inv.start hH) ?_
  refine WC.seq (WC.ofFr [(0, _)] ⟨rfl, trivial⟩ (WC.region ?_))
  refine WL.so (SO.box rfl rfl) rfl ?_
  rintro _ _ _ ⟨b1, hb1, rfl, rfl, rfl⟩
  refine zya rfl rfl ?_
  refine WL.nil (WP.thenC ?_)
  refine WC.seqJ (α := Unit) (fun _ => [(1, pt b1), (3, .bool (inB b.wide 1 8 && inB b.deep 1 6 && inB b.speed 0 3 && inB b.last 0 12 && decide (b.seen.length ≤ 4)))]) (fun _ => [(b1, .cells (List.toArray [it b.wide, it b.deep, it b.speed, it b.last, .slice ba b.seen.length bc]) 32 (0, 0))]) (fun _ => D) (fun _ => True) ?_ ?_
  · rintro _ -
    refine WC.seq (WC.seq (WC.ofFr [(1, _), (3, _)] ⟨rfl, rfl, trivial⟩ (WC.region ?_)))
    refine WL.yd (Yd.fieldAddr FA32_4 rfl) rfl ?_
    refine WL.yd (Yd.load1 Tryz.isAgg30 rfl (Rd.own (k := 0) rfl rfl)) rfl ?_
    refine WL.yd (Yd.lenS rfl Tryz.underlying30 rfl) rfl ?_
    refine zym rfl rfl ?_
    refine WL.nil (WP.thenC (WC.block ?_))
    refine WC.loopF (fun k : Nat => [(1, pt b1), (3, .bool ((inB b.wide 1 8 && inB b.deep 1 6 && inB b.speed 0 3 && inB b.last 0 12 && decide (b.seen.length ≤ 4)) && (b.seen.take k).all (fun l => decide (l.length ≤ 5) && rowB b 0 l))), (34, .slice ba b.seen.length bc), (35, nt b.seen.length), (36, nt k)]) (fun k => k ≤ b.seen.length) (fun k => b.seen.length - k) 0 (Nat.zero_le _) ⟨rfl, some_bool (by simp), rfl, rfl, rfl, trivial⟩ ?_
    intro k hk
    refine WC.seq (WC.ofFr [(1, _), (3, _), (34, _), (35, _), (36, _)] ⟨rfl, rfl, rfl, rfl, rfl, trivial⟩ (WC.region ?_))
    refine WL.yd (Yd.lss rfl rfl) rfl ?_
    refine WL.nil (WP.thenC (WC.seq ?_))
    refine WC.cond rfl (fun c37 => ?_) (fun c37 => ?_)
    · try simp only [zq1, zq2, zq3, zq4, zq5, zq6, zq7, zq8] at c37
      have hkl : k < b.seen.length := by omega
      refine WC.skip (WP.thenC (WC.seq (WC.block (WC.seq (WC.ofFr [(1, _), (3, _), (34, _), (35, _), (36, _)] ⟨rfl, rfl, rfl, rfl, rfl, trivial⟩ (WC.region ?_))))))
      refine WL.yd (Yd.indexS Tryz.underlying30 Tryz.sizeOf79 rfl rfl (by omega) (by omega) (by first | exact hRs0.addr k (by omega))) rfl ?_
      refine WL.yd (Yd.load1 Tryz.isAgg79 rfl ((hRs0.at k (by omega)).rd 0 rfl)) rfl ?_
      refine zya rfl rfl ?_
      refine WL.nil (WP.thenC ?_)
      have hrow := hRr k hkl
      have hrn := hRn k hkl
      generalize gt ml k = q at hrow hrn ⊢
      obtain ⟨ra, rn, rc⟩ := q
      obtain rfl : rn = (gt b.seen k).length := hrow.len'
      dsimp only at hrow hrn
      refine WC.seqJ (α := Unit) (fun _ => [(1, pt b1), (3, .bool (((inB b.wide 1 8 && inB b.deep 1 6 && inB b.speed 0 3 && inB b.last 0 12 && decide (b.seen.length ≤ 4)) && (b.seen.take k).all (fun l => decide (l.length ≤ 5) && rowB b 0 l)) && decide ((gt b.seen k).length ≤ 5))), (5, .slice ra (gt b.seen k).length rc), (34, .slice ba b.seen.length bc), (35, nt b.seen.length), (36, nt k)]) (fun _ => [(b1, .cells (List.toArray [it b.wide, it b.deep, it b.speed, it b.last, .slice ba b.seen.length bc]) 32 (0, 0))]) (fun _ => D) (fun _ => True) ?_ ?_
      · rintro _ -
        refine WC.seq (WC.ofFr [(1, _), (3, _), (5, _), (34, _), (35, _), (36, _)] ⟨rfl, rfl, rfl, rfl, rfl, rfl, trivial⟩ (WC.region ?_))
        refine zya rfl rfl ?_
        refine WL.nil (WP.thenC (WC.seq (WC.ofFr [(6, _), (1, _), (3, _), (5, _), (34, _), (35, _), (36, _)] ⟨rfl, rfl, rfl, rfl, rfl, rfl, rfl, trivial⟩ (WC.region ?_))))
        refine zym rfl rfl ?_
        refine WL.yd (Yd.lenS rfl Tryz.underlying79 rfl) rfl ?_
        refine zym rfl rfl ?_
        refine WL.nil (WP.thenC (WC.block ?_))
        refine WC.loopF (fun j : Nat => [(1, pt b1), (3, .bool (((inB b.wide 1 8 && inB b.deep 1 6 && inB b.speed 0 3 && inB b.last 0 12 && decide (b.seen.length ≤ 4)) && (b.seen.take k).all (fun l => decide (l.length ≤ 5) && rowB b 0 l)) && decide ((gt b.seen k).length ≤ 5) && rowB b 0 ((gt b.seen k).take j))), (6, it (prevM 0 (gt b.seen k) j)), (34, .slice ba b.seen.length bc), (35, nt b.seen.length), (36, nt k), (46, .slice ra (gt b.seen k).length rc), (47, nt (gt b.seen k).length), (48, nt j)]) (fun j => j ≤ (gt b.seen k).length) (fun j => (gt b.seen k).length - j) 0 (Nat.zero_le _) ⟨rfl, some_bool (by simp [rowB]), rfl, rfl, rfl, rfl, rfl, rfl, rfl, trivial⟩ ?_
        intro j hj
        refine WC.seq (WC.ofFr [(1, _), (3, _), (6, _), (34, _), (35, _), (36, _), (46, _), (47, _), (48, _)] ⟨rfl, rfl, rfl, rfl, rfl, rfl, rfl, rfl, rfl, trivial⟩ (WC.region ?_))
        refine WL.yd (Yd.lss rfl rfl) rfl ?_
        refine WL.nil (WP.thenC (WC.seq ?_))
        refine WC.cond rfl (fun c49 => ?_) (fun c49 => ?_)
        · try simp only [zq1, zq2, zq3, zq4, zq5, zq6, zq7, zq8] at c49
          have hjl : j < (gt b.seen k).length := by omega
          refine WC.skip (WP.thenC (WC.seq (WC.block (WC.seq (WC.ofFr [(1, _), (3, _), (6, _), (34, _), (35, _), (36, _), (46, _), (47, _), (48, _)] ⟨rfl, rfl, rfl, rfl, rfl, rfl, rfl, rfl, rfl, trivial⟩ (WC.region ?_))))))
          refine WL.yd (Yd.indexS Tryz.underlying79 Tryz.sizeOf143 rfl rfl (by omega) (by omega) (by first | exact hrow.addr j (by omega))) rfl ?_
          refine WL.yd (Yd.loadN Tryz.isAgg143 Tryz.sizeOf143 rfl (vs := [_, _, _, _, _]) rfl ((hrow.at j (by omega)).rdn 0 5 rfl)) rfl ?_
          refine WL.so (SO.alloc Tryz.zeroValue143 rfl) rfl ?_
          rintro _ _ _ ⟨b8, hb8, rfl, rfl, rfl⟩
          refine WL.so (SO.store 0 rfl Tryz.sizeOf143 rfl rfl rfl rfl (zqb rfl) (oneB_spec rfl)) rfl ?_
          rintro _ _ _ ⟨rfl, rfl, rfl⟩
          refine WL.nil (WP.thenC (WC.seq (WC.ofFr [(8, _), (1, _), (3, _), (6, _), (34, _), (35, _), (36, _), (46, _), (47, _), (48, _)] ⟨rfl, rfl, rfl, rfl, rfl, rfl, rfl, rfl, rfl, rfl, trivial⟩ (WC.region ?_))))
          refine zym rfl rfl ?_
          refine zym rfl rfl ?_
          refine WL.part 53 rfl (fun g53 => ?_) (fun g53 => ?_)
          · try simp only [zq1, zq2, zq3, zq4, zq5, zq6, zq7, zq8] at g53
            have hwd : 1 ≤ b.wide ∧ b.wide ≤ 8 ∧ 1 ≤ b.deep ∧ b.deep ≤ 6 := by simp only [Bool.and_eq_true, inB_iff] at g53; omega
            refine WL.ydg rfl (Yd.fieldAddr FA143_0 rfl) rfl ?_
            refine WL.ydg rfl (Yd.load1 Tryz.isAgg3 rfl (Rd.own (k := 0) rfl rfl)) rfl ?_
            refine WL.ydg rfl (Yd.move rfl) rfl ?_
            refine WL.ydg rfl (Yd.fieldAddr FA32_3 rfl) rfl ?_
            refine WL.ydg rfl (Yd.load1 Tryz.isAgg3 rfl (Rd.own (k := 1) rfl rfl)) rfl ?_
            refine WL.sog rfl (SO.callP Tryz.call120 rfl (fun w hI => within_g _ _ _ _)) rfl ?_
            rintro _ _ _ ⟨rfl, rfl, rfl⟩
            refine WL.yd (Yd.pickT rfl rfl) rfl ?_
            refine zym rfl rfl ?_
            refine WL.part 61 rfl (fun g61 => ?_) (fun g61 => ?_)
            · try simp only [zq1, zq2, zq3, zq4, zq5, zq6, zq7, zq8] at g61
              refine WL.ydg rfl (Yd.fieldAddr FA143_1 rfl) rfl ?_
              refine WL.ydg rfl (Yd.loadN Tryz.isAgg114 Tryz.sizeOf114 rfl (vs := [_, _]) rfl (RdN.own (k := 0) (n := 2) rfl rfl)) rfl ?_
              refine WL.ydg rfl (Yd.fieldAddr FA32_0 rfl) rfl ?_
              refine WL.ydg rfl (Yd.load1 Tryz.isAgg3 rfl (Rd.own (k := 1) rfl rfl)) rfl ?_
              refine WL.ydg rfl (Yd.sub rfl rfl (wr64 ⟨by omega, by omega⟩)) rfl ?_
              refine WL.sog rfl (SO.callP Tryz.call121 rfl (fun w hI => isSpan_g (gt (gt b.seen k) j).cols 0 (b.wide - 1) _)) rfl ?_
              rintro _ _ _ ⟨rfl, rfl, rfl⟩
              refine WL.yd (Yd.pickT rfl rfl) rfl ?_
              refine zym rfl rfl ?_
              refine WL.part 69 rfl (fun g69 => ?_) (fun g69 => ?_)
              · try simp only [zq1, zq2, zq3, zq4, zq5, zq6, zq7, zq8] at g69
                refine WL.ydg rfl (Yd.fieldAddr FA143_2 rfl) rfl ?_
                refine WL.ydg rfl (Yd.loadN Tryz.isAgg114 Tryz.sizeOf114 rfl (vs := [_, _]) rfl (RdN.own (k := 0) (n := 2) rfl rfl)) rfl ?_
                refine WL.ydg rfl (Yd.fieldAddr FA32_1 rfl) rfl ?_
                refine WL.ydg rfl (Yd.load1 Tryz.isAgg3 rfl (Rd.own (k := 1) rfl rfl)) rfl ?_
                refine WL.ydg rfl (Yd.sub rfl rfl (wr64 ⟨by omega, by omega⟩)) rfl ?_
                refine WL.sog rfl (SO.callP Tryz.call121 rfl (fun w hI => isSpan_g (gt (gt b.seen k) j).rows 0 (b.deep - 1) _)) rfl ?_
                rintro _ _ _ ⟨rfl, rfl, rfl⟩
                refine WL.yd (Yd.pickT rfl rfl) rfl ?_
                refine zya rfl rfl ?_
                refine WL.nil (WP.thenC (WC.ofFr [(3, _), (8, _), (1, _), (6, _), (34, _), (35, _), (36, _), (46, _), (47, _), (48, _)] ⟨rfl, rfl, rfl, rfl, rfl, rfl, rfl, rfl, rfl, rfl, trivial⟩ (WC.region ?_)))
                refine WL.yd (Yd.fieldAddr FA143_0 rfl) rfl ?_
                refine WL.yd (Yd.load1 Tryz.isAgg3 rfl (Rd.own (k := 0) rfl rfl)) rfl ?_
                refine zya rfl rfl ?_
                refine WL.nil (WP.blkNormal (WP.thenC (WC.ofFr [(6, _), (3, _), (1, _), (34, _), (35, _), (36, _), (46, _), (47, _), (48, _)] ⟨rfl, rfl, rfl, rfl, rfl, rfl, rfl, rfl, rfl, trivial⟩ (WC.region ?_))))
                refine WL.yd (Yd.add rfl rfl (wr64 ⟨by omega, by omega⟩)) rfl ?_
                refine zym rfl rfl ?_
                refine WL.nil ?_
                exact WP.againF (j + 1) hjl (by omega) ⟨rfl, some_bool (by rw [rowB_succ _ _ _ hjl]; exact bs5 (fun a b c => by first | rfl | assumption | (exact bnc a (by assumption)) | (exact bnc (by assumption) a) | (exact bnc b (by assumption)) | (exact bnc (by assumption) b) | (exact bnc c (by assumption)) | (exact bnc (by assumption) c)) (fun a b c => by first | rfl | assumption | (exact bnc a (by assumption)) | (exact bnc (by assumption) a) | (exact bnc b (by assumption)) | (exact bnc (by assumption) b) | (exact bnc c (by assumption)) | (exact bnc (by assumption) c)) (fun a b => by first | rfl | assumption | (exact bnc a (by assumption)) | (exact bnc (by assumption) a) | (exact bnc b (by assumption)) | (exact bnc (by assumption) b) | (exact bnc c (by assumption)) | (exact bnc (by assumption) c)) (fun a => by first | rfl | assumption | (exact bnc a (by assumption)) | (exact bnc (by assumption) a) | (exact bnc b (by assumption)) | (exact bnc (by assumption) b) | (exact bnc c (by assumption)) | (exact bnc (by assumption) c))), rfl, rfl, rfl, rfl, rfl, rfl, rfl, trivial⟩ (fun _ h => List.mem_cons_of_mem _ h) (fun h => (List.nodup_cons.1 h).2)
              · try simp only [zq1, zq2, zq3, zq4, zq5, zq6, zq7, zq8] at g69
                refine WL.skip rfl rfl ?_
                refine WL.skip rfl rfl ?_
                refine WL.skip rfl rfl ?_
                refine WL.skip rfl rfl ?_
                refine WL.skip rfl rfl ?_
                refine WL.skip rfl rfl ?_
                refine WL.yd (Yd.pickF rfl rfl) rfl ?_
                refine zya rfl rfl ?_
                refine WL.nil (WP.thenC (WC.ofFr [(3, _), (8, _), (1, _), (6, _), (34, _), (35, _), (36, _), (46, _), (47, _), (48, _)] ⟨rfl, rfl, rfl, rfl, rfl, rfl, rfl, rfl, rfl, rfl, trivial⟩ (WC.region ?_)))
                refine WL.yd (Yd.fieldAddr FA143_0 rfl) rfl ?_
                refine WL.yd (Yd.load1 Tryz.isAgg3 rfl (Rd.own (k := 0) rfl rfl)) rfl ?_
                refine zya rfl rfl ?_
                refine WL.nil (WP.blkNormal (WP.thenC (WC.ofFr [(6, _), (3, _), (1, _), (34, _), (35, _), (36, _), (46, _), (47, _), (48, _)] ⟨rfl, rfl, rfl, rfl, rfl, rfl, rfl, rfl, rfl, trivial⟩ (WC.region ?_))))
                refine WL.yd (Yd.add rfl rfl (wr64 ⟨by omega, by omega⟩)) rfl ?_
                refine zym rfl rfl ?_
                refine WL.nil ?_
                exact WP.againF (j + 1) hjl (by omega) ⟨rfl, some_bool (by rw [rowB_succ _ _ _ hjl]; exact bs5 (fun a b c => by first | rfl | assumption | (exact bnc a (by assumption)) | (exact bnc (by assumption) a) | (exact bnc b (by assumption)) | (exact bnc (by assumption) b) | (exact bnc c (by assumption)) | (exact bnc (by assumption) c)) (fun a b c => by first | rfl | assumption | (exact bnc a (by assumption)) | (exact bnc (by assumption) a) | (exact bnc b (by assumption)) | (exact bnc (by assumption) b) | (exact bnc c (by assumption)) | (exact bnc (by assumption) c)) (fun a b => by first | rfl | assumption | (exact bnc a (by assumption)) | (exact bnc (by assumption) a) | (exact bnc b (by assumption)) | (exact bnc (by assumption) b) | (exact bnc c (by assumption)) | (exact bnc (by assumption) c)) (fun a => by first | rfl | assumption | (exact bnc a (by assumption)) | (exact bnc (by assumption) a) | (exact bnc b (by assumption)) | (exact bnc (by assumption) b) | (exact bnc c (by assumption)) | (exact bnc (by assumption) c))), rfl, rfl, rfl, rfl, rfl, rfl, rfl, trivial⟩ (fun _ h => List.mem_cons_of_mem _ h) (fun h => (List.nodup_cons.1 h).2)
            · try simp only [zq1, zq2, zq3, zq4, zq5, zq6, zq7, zq8] at g61
              refine WL.skip rfl rfl ?_
              refine WL.skip rfl rfl ?_
              refine WL.skip rfl rfl ?_
              refine WL.skip rfl rfl ?_
              refine WL.skip rfl rfl ?_
              refine WL.skip rfl rfl ?_
              refine WL.yd (Yd.pickF rfl rfl) rfl ?_
              refine zym rfl rfl ?_
              refine WL.skip rfl rfl ?_
              refine WL.skip rfl rfl ?_
              refine WL.skip rfl rfl ?_
              refine WL.skip rfl rfl ?_
              refine WL.skip rfl rfl ?_
              refine WL.skip rfl rfl ?_
              refine WL.yd (Yd.pickF rfl rfl) rfl ?_
              refine zya rfl rfl ?_
              refine WL.nil (WP.thenC (WC.ofFr [(3, _), (8, _), (1, _), (6, _), (34, _), (35, _), (36, _), (46, _), (47, _), (48, _)] ⟨rfl, rfl, rfl, rfl, rfl, rfl, rfl, rfl, rfl, rfl, trivial⟩ (WC.region ?_)))
              refine WL.yd (Yd.fieldAddr FA143_0 rfl) rfl ?_
              refine WL.yd (Yd.load1 Tryz.isAgg3 rfl (Rd.own (k := 0) rfl rfl)) rfl ?_
              refine zya rfl rfl ?_
              refine WL.nil (WP.blkNormal (WP.thenC (WC.ofFr [(6, _), (3, _), (1, _), (34, _), (35, _), (36, _), (46, _), (47, _), (48, _)] ⟨rfl, rfl, rfl, rfl, rfl, rfl, rfl, rfl, rfl, trivial⟩ (WC.region ?_))))
              refine WL.yd (Yd.add rfl rfl (wr64 ⟨by omega, by omega⟩)) rfl ?_
              refine zym rfl rfl ?_
              refine WL.nil ?_
              exact WP.againF (j + 1) hjl (by omega) ⟨rfl, some_bool (by rw [rowB_succ _ _ _ hjl]; exact bs5 (fun a b c => by first | rfl | assumption | (exact bnc a (by assumption)) | (exact bnc (by assumption) a) | (exact bnc b (by assumption)) | (exact bnc (by assumption) b) | (exact bnc c (by assumption)) | (exact bnc (by assumption) c)) (fun a b c => by first | rfl | assumption | (exact bnc a (by assumption)) | (exact bnc (by assumption) a) | (exact bnc b (by assumption)) | (exact bnc (by assumption) b) | (exact bnc c (by assumption)) | (exact bnc (by assumption) c)) (fun a b => by first | rfl | assumption | (exact bnc a (by assumption)) | (exact bnc (by assumption) a) | (exact bnc b (by assumption)) | (exact bnc (by assumption) b) | (exact bnc c (by assumption)) | (exact bnc (by assumption) c)) (fun a => by first | rfl | assumption | (exact bnc a (by assumption)) | (exact bnc (by assumption) a) | (exact bnc b (by assumption)) | (exact bnc (by assumption) b) | (exact bnc c (by assumption)) | (exact bnc (by assumption) c))), rfl, rfl, rfl, rfl, rfl, rfl, rfl, trivial⟩ (fun _ h => List.mem_cons_of_mem _ h) (fun h => (List.nodup_cons.1 h).2)
          · try simp only [zq1, zq2, zq3, zq4, zq5, zq6, zq7, zq8] at g53
            refine WL.skip rfl rfl ?_
            refine WL.skip rfl rfl ?_
            refine WL.skip rfl rfl ?_
            refine WL.skip rfl rfl ?_
            refine WL.skip rfl rfl ?_
            refine WL.skip rfl rfl ?_
            refine WL.yd (Yd.pickF rfl rfl) rfl ?_
            refine zym rfl rfl ?_
            refine WL.skip rfl rfl ?_
            refine WL.skip rfl rfl ?_
            refine WL.skip rfl rfl ?_
            refine WL.skip rfl rfl ?_
            refine WL.skip rfl rfl ?_
            refine WL.skip rfl rfl ?_
            refine WL.yd (Yd.pickF rfl rfl) rfl ?_
            refine zym rfl rfl ?_
            refine WL.skip rfl rfl ?_
            refine WL.skip rfl rfl ?_
            refine WL.skip rfl rfl ?_
            refine WL.skip rfl rfl ?_
            refine WL.skip rfl rfl ?_
            refine WL.skip rfl rfl ?_
            refine WL.yd (Yd.pickF rfl rfl) rfl ?_
            refine zya rfl rfl ?_
            refine WL.nil (WP.thenC (WC.ofFr [(3, _), (8, _), (1, _), (6, _), (34, _), (35, _), (36, _), (46, _), (47, _), (48, _)] ⟨rfl, rfl, rfl, rfl, rfl, rfl, rfl, rfl, rfl, rfl, trivial⟩ (WC.region ?_)))
            refine WL.yd (Yd.fieldAddr FA143_0 rfl) rfl ?_
            refine WL.yd (Yd.load1 Tryz.isAgg3 rfl (Rd.own (k := 0) rfl rfl)) rfl ?_
            refine zya rfl rfl ?_
            refine WL.nil (WP.blkNormal (WP.thenC (WC.ofFr [(6, _), (3, _), (1, _), (34, _), (35, _), (36, _), (46, _), (47, _), (48, _)] ⟨rfl, rfl, rfl, rfl, rfl, rfl, rfl, rfl, rfl, trivial⟩ (WC.region ?_))))
            refine WL.yd (Yd.add rfl rfl (wr64 ⟨by omega, by omega⟩)) rfl ?_
            refine zym rfl rfl ?_
            refine WL.nil ?_
            exact WP.againF (j + 1) hjl (by omega) ⟨rfl, some_bool (by rw [rowB_succ _ _ _ hjl]; exact bs5 (fun a b c => by first | rfl | assumption | (exact bnc a (by assumption)) | (exact bnc (by assumption) a) | (exact bnc b (by assumption)) | (exact bnc (by assumption) b) | (exact bnc c (by assumption)) | (exact bnc (by assumption) c)) (fun a b c => by first | rfl | assumption | (exact bnc a (by assumption)) | (exact bnc (by assumption) a) | (exact bnc b (by assumption)) | (exact bnc (by assumption) b) | (exact bnc c (by assumption)) | (exact bnc (by assumption) c)) (fun a b => by first | rfl | assumption | (exact bnc a (by assumption)) | (exact bnc (by assumption) a) | (exact bnc b (by assumption)) | (exact bnc (by assumption) b) | (exact bnc c (by assumption)) | (exact bnc (by assumption) c)) (fun a => by first | rfl | assumption | (exact bnc a (by assumption)) | (exact bnc (by assumption) a) | (exact bnc b (by assumption)) | (exact bnc (by assumption) b) | (exact bnc c (by assumption)) | (exact bnc (by assumption) c))), rfl, rfl, rfl, rfl, rfl, rfl, rfl, trivial⟩ (fun _ h => List.mem_cons_of_mem _ h) (fun h => (List.nodup_cons.1 h).2)
        · try simp only [zq1, zq2, zq3, zq4, zq5, zq6, zq7, zq8] at c49
          obtain rfl : j = (gt b.seen k).length := by omega
          refine WC.exit ?_
          refine WP.thenExit ?_
          refine WP.thenExit ?_
          refine WP.blkHit ?_
          refine WP.blkNormal (WP.thenC (WC.ofFr [(1, _), (3, _), (34, _), (35, _), (36, _)] ⟨rfl, rfl, rfl, rfl, rfl, trivial⟩ (WC.region ?_)))
          refine WL.yd (Yd.add rfl rfl (wr64 ⟨by omega, by omega⟩)) rfl ?_
          refine zym rfl rfl ?_
          refine WL.nil ?_
          exact WP.againF (k + 1) hkl (by omega) ⟨rfl, some_bool (by rw [all_succ hkl, List.take_length]; simp only [Bool.and_assoc]), rfl, rfl, rfl, trivial⟩ (fun _ h => h) (fun h => h)
      · skip
        refine WC.ofFr [(5, _), (1, _), (3, _), (34, _), (35, _), (36, _)] ⟨rfl, rfl, rfl, rfl, rfl, rfl, trivial⟩ (WC.region ?_)
        refine zym rfl rfl ?_
        refine zym rfl rfl ?_
        refine WL.part 41 rfl (fun g41 => ?_) (fun g41 => ?_)
        · try simp only [zq1, zq2, zq3, zq4, zq5, zq6, zq7, zq8] at g41
          refine WL.ydg rfl (Yd.move rfl) rfl ?_
          refine WL.ydg rfl (Yd.lenS rfl Tryz.underlying79 rfl) rfl ?_
          refine WL.ydg rfl (Yd.leq rfl rfl) rfl ?_
          refine WL.yd (Yd.pickT rfl rfl) rfl ?_
          refine zya rfl rfl ?_
          refine WL.nil ?_
          exact WP.join () trivial (fun a w h => at_less h ⟨rfl, some_bool (by first | exact bjF g41 | exact bjF (by first | rfl | assumption | (exact bnc a (by assumption)) | (exact bnc (by assumption) a) | (exact bnc b (by assumption)) | (exact bnc (by assumption) b) | (exact bnc c (by assumption)) | (exact bnc (by assumption) c)) | (simp_all; done) | (rw [Bool.eq_iff_iff]; simp_all; done) | (rw [Bool.eq_iff_iff]; simp_all; omega)), rfl, rfl, rfl, rfl, trivial⟩ (fun _ h => h) (fun h => h))
        · try simp only [zq1, zq2, zq3, zq4, zq5, zq6, zq7, zq8] at g41
          refine WL.skip rfl rfl ?_
          refine WL.skip rfl rfl ?_
          refine WL.skip rfl rfl ?_
          refine WL.yd (Yd.pickF rfl rfl) rfl ?_
          refine zya rfl rfl ?_
          refine WL.nil ?_
          exact WP.join () trivial (fun a w h => at_less h ⟨rfl, some_bool (by first | exact bjF g41 | exact bjF (by first | rfl | assumption | (exact bnc a (by assumption)) | (exact bnc (by assumption) a) | (exact bnc b (by assumption)) | (exact bnc (by assumption) b) | (exact bnc c (by assumption)) | (exact bnc (by assumption) c)) | (simp_all; done) | (rw [Bool.eq_iff_iff]; simp_all; done) | (rw [Bool.eq_iff_iff]; simp_all; omega)), rfl, rfl, rfl, rfl, trivial⟩ (fun _ h => h) (fun h => h))
    · try simp only [zq1, zq2, zq3, zq4, zq5, zq6, zq7, zq8] at c37
      obtain rfl : k = b.seen.length := by omega
      refine WC.exit ?_
      refine WP.thenExit ?_
      refine WP.thenExit ?_
      refine WP.blkHit ?_
      refine WP.thenC (WC.seq (WC.ofFr [(3, _)] ⟨rfl, trivial⟩ (WC.region ?_)))
      refine zym rfl rfl ?_
      refine zya rfl rfl ?_
      refine WL.nil (WP.thenC (WC.ret ?_))
      refine WP.ret1 rfl rfl Tryz.results115 (RV.tmp rfl) (fun w hI => ⟨ret_bool (isBoats_fin b), hI.keep⟩)
  · skip
    refine WC.ofFr [(2, _), (1, _)] ⟨rfl, rfl, trivial⟩ (WC.region ?_)
    refine WL.yd (Yd.fieldAddr FA32_0 rfl) rfl ?_
    refine WL.yd (Yd.load1 Tryz.isAgg3 rfl (Rd.own (k := 0) rfl rfl)) rfl ?_
    refine WL.so (SO.callP Tryz.call120 rfl (fun w hI => within_g _ _ _ _)) rfl ?_
    rintro _ _ _ ⟨rfl, rfl, rfl⟩
    refine zym rfl rfl ?_
    refine WL.part 12 rfl (fun g12 => ?_) (fun g12 => ?_)
    · try simp only [zq1, zq2, zq3, zq4, zq5, zq6, zq7, zq8] at g12
      refine WL.ydg rfl (Yd.fieldAddr FA32_1 rfl) rfl ?_
      refine WL.ydg rfl (Yd.load1 Tryz.isAgg3 rfl (Rd.own (k := 0) rfl rfl)) rfl ?_
      refine WL.sog rfl (SO.callP Tryz.call120 rfl (fun w hI => within_g _ _ _ _)) rfl ?_
      rintro _ _ _ ⟨rfl, rfl, rfl⟩
      refine WL.yd (Yd.pickT rfl rfl) rfl ?_
      refine zym rfl rfl ?_
      refine WL.part 17 rfl (fun g17 => ?_) (fun g17 => ?_)
      · try simp only [zq1, zq2, zq3, zq4, zq5, zq6, zq7, zq8] at g17
        refine WL.ydg rfl (Yd.fieldAddr FA32_2 rfl) rfl ?_
        refine WL.ydg rfl (Yd.load1 Tryz.isAgg3 rfl (Rd.own (k := 0) rfl rfl)) rfl ?_
        refine WL.sog rfl (SO.callP Tryz.call120 rfl (fun w hI => within_g _ _ _ _)) rfl ?_
        rintro _ _ _ ⟨rfl, rfl, rfl⟩
        refine WL.yd (Yd.pickT rfl rfl) rfl ?_
        refine zym rfl rfl ?_
        refine WL.part 22 rfl (fun g22 => ?_) (fun g22 => ?_)
        · try simp only [zq1, zq2, zq3, zq4, zq5, zq6, zq7, zq8] at g22
          refine WL.ydg rfl (Yd.fieldAddr FA32_3 rfl) rfl ?_
          refine WL.ydg rfl (Yd.load1 Tryz.isAgg3 rfl (Rd.own (k := 0) rfl rfl)) rfl ?_
          refine WL.sog rfl (SO.callP Tryz.call120 rfl (fun w hI => within_g _ _ _ _)) rfl ?_
          rintro _ _ _ ⟨rfl, rfl, rfl⟩
          refine WL.yd (Yd.pickT rfl rfl) rfl ?_
          refine zym rfl rfl ?_
          refine WL.part 27 rfl (fun g27 => ?_) (fun g27 => ?_)
          · try simp only [zq1, zq2, zq3, zq4, zq5, zq6, zq7, zq8] at g27
            refine WL.ydg rfl (Yd.fieldAddr FA32_4 rfl) rfl ?_
            refine WL.ydg rfl (Yd.load1 Tryz.isAgg30 rfl (Rd.own (k := 0) rfl rfl)) rfl ?_
            refine WL.ydg rfl (Yd.lenS rfl Tryz.underlying30 rfl) rfl ?_
            refine WL.ydg rfl (Yd.leq rfl rfl) rfl ?_
            refine WL.yd (Yd.pickT rfl rfl) rfl ?_
            refine zya rfl rfl ?_
            refine WL.nil ?_
            exact WP.join () trivial (fun a w h => at_less h ⟨rfl, some_bool (by first | (simp_all; done) | (rw [Bool.eq_iff_iff]; simp_all; done) | (rw [Bool.eq_iff_iff]; simp_all; omega)), trivial⟩ (fun _ h => h) (fun h => h))
          · try simp only [zq1, zq2, zq3, zq4, zq5, zq6, zq7, zq8] at g27
            refine WL.skip rfl rfl ?_
            refine WL.skip rfl rfl ?_
            refine WL.skip rfl rfl ?_
            refine WL.skip rfl rfl ?_
            refine WL.yd (Yd.pickF rfl rfl) rfl ?_
            refine zya rfl rfl ?_
            refine WL.nil ?_
            exact WP.join () trivial (fun a w h => at_less h ⟨rfl, some_bool (by first | (simp_all; done) | (rw [Bool.eq_iff_iff]; simp_all; done) | (rw [Bool.eq_iff_iff]; simp_all; omega)), trivial⟩ (fun _ h => h) (fun h => h))
        · try simp only [zq1, zq2, zq3, zq4, zq5, zq6, zq7, zq8] at g22
          refine WL.skip rfl rfl ?_
          refine WL.skip rfl rfl ?_
          refine WL.skip rfl rfl ?_
          refine WL.yd (Yd.pickF rfl rfl) rfl ?_
          refine zym rfl rfl ?_
          refine WL.skip rfl rfl ?_
          refine WL.skip rfl rfl ?_
          refine WL.skip rfl rfl ?_
          refine WL.skip rfl rfl ?_
          refine WL.yd (Yd.pickF rfl rfl) rfl ?_
          refine zya rfl rfl ?_
          refine WL.nil ?_
          exact WP.join () trivial (fun a w h => at_less h ⟨rfl, some_bool (by first | (simp_all; done) | (rw [Bool.eq_iff_iff]; simp_all; done) | (rw [Bool.eq_iff_iff]; simp_all; omega)), trivial⟩ (fun _ h => h) (fun h => h))
      · try simp only [zq1, zq2, zq3, zq4, zq5, zq6, zq7, zq8] at g17
        refine WL.skip rfl rfl ?_
        refine WL.skip rfl rfl ?_
        refine WL.skip rfl rfl ?_
        refine WL.yd (Yd.pickF rfl rfl) rfl ?_
        refine zym rfl rfl ?_
        refine WL.skip rfl rfl ?_
        refine WL.skip rfl rfl ?_
        refine WL.skip rfl rfl ?_
        refine WL.yd (Yd.pickF rfl rfl) rfl ?_
        refine zym rfl rfl ?_
        refine WL.skip rfl rfl ?_
        refine WL.skip rfl rfl ?_
        refine WL.skip rfl rfl ?_
        refine WL.skip rfl rfl ?_
        refine WL.yd (Yd.pickF rfl rfl) rfl ?_
        refine zya rfl rfl ?_
        refine WL.nil ?_
        exact WP.join () trivial (fun a w h => at_less h ⟨rfl, some_bool (by first | (simp_all; done) | (rw [Bool.eq_iff_iff]; simp_all; done) | (rw [Bool.eq_iff_iff]; simp_all; omega)), trivial⟩ (fun _ h => h) (fun h => h))
    · try simp only [zq1, zq2, zq3, zq4, zq5, zq6, zq7, zq8] at g12
      refine WL.skip rfl rfl ?_
      refine WL.skip rfl rfl ?_
      refine WL.skip rfl rfl ?_
      refine WL.yd (Yd.pickF rfl rfl) rfl ?_
      refine zym rfl rfl ?_
      refine WL.skip rfl rfl ?_
      refine WL.skip rfl rfl ?_
      refine WL.skip rfl rfl ?_
      refine WL.yd (Yd.pickF rfl rfl) rfl ?_
      refine zym rfl rfl ?_
      refine WL.skip rfl rfl ?_
      refine WL.skip rfl rfl ?_
      refine WL.skip rfl rfl ?_
      refine WL.yd (Yd.pickF rfl rfl) rfl ?_
      refine zym rfl rfl ?_
      refine WL.skip rfl rfl ?_
      refine WL.skip rfl rfl ?_
      refine WL.skip rfl rfl ?_
      refine WL.skip rfl rfl ?_
      refine WL.yd (Yd.pickF rfl rfl) rfl ?_
      refine zya rfl rfl ?_
      refine WL.nil ?_
      exact WP.join () trivial (fun a w h => at_less h ⟨rfl, some_bool (by first | (simp_all; done) | (rw [Bool.eq_iff_iff]; simp_all; done) | (rw [Bool.eq_iff_iff]; simp_all; omega)), trivial⟩ (fun _ h => h) (fun h => h))

end Go.Proofs.YtaebnllfmkcpgaaGreatDoor
namespace Go.Proofs.YtaebnllfmkcpgaaGreatDoor
open Go.W Go.Bk

theorem i100 {n : Int} (h : In100 n) : i64B n := ⟨by have := h.1; omega, by have := h.2; omega⟩
theorem fm_len {α : Type} {f : α → Bs} {c : Nat} : ∀ {l : List α}, (∀ x ∈ l, (f x).length ≤ c) → (l.flatMap f).length ≤ l.length * c
  | [], _ => by simp
  | x :: l, h => by
    have h1 := h x (by simp); have h2 := fm_len (l := l) (f := f) (c := c) fun y hy => h y (by simp [hy])
    simp only [List.flatMap_cons, List.length_append, List.length_cons, Nat.succ_mul]
    omega
theorem fm_le {α : Type} {f : α → Bs} {c m : Nat} {l : List α} (h : ∀ x ∈ l, (f x).length ≤ c) (hm : l.length ≤ m) (k : Nat) : ((l.take k).flatMap f).length ≤ m * c := by
  have h1 := fm_len (l := l.take k) (f := f) (c := c) fun x hx => h x (List.mem_of_mem_take hx)
  have h2 : (l.take k).length * c ≤ m * c := Nat.mul_le_mul_right c (by rw [List.length_take]; omega)
  omega
theorem fm_succ {α : Type} [Inhabited α] {f : α → Bs} {l : List α} {k : Nat} (h : k < l.length) : (l.take (k + 1)).flatMap f = (l.take k).flatMap f ++ f (gt l k) := by
  have e : gt l k = l[k] := by simp [gt, List.getD, h]
  rw [List.take_succ_eq_append_getElem h, List.flatMap_append, e]
  simp
theorem colT_len {x : Sp} (h : Sp100 x) : (colT x).length ≤ 6 := by
  have := two_len h.1; have := two_len h.2
  simp [colT]; omega
theorem hutT_len {h : Hut} (h1 : In100 h.floor) (h2 : In100 h.brake) (h3 : In100 h.row) : (hutT h ++ [10]).length ≤ 13 := by
  have := two_len h1; have := two_len h2; have := (num_len h3).2
  simp [hutT, hutW]; omega
theorem spanT_len {x : Sp} (h : Sp100 x) : (spanT x).length ≤ 6 := by
  have := (num_len h.1).2; have := (num_len h.2).2
  unfold spanT; split <;> simp <;> omega
end Go.Proofs.YtaebnllfmkcpgaaGreatDoor
namespace Go.Bk
open Go.W Go.Bk Go.Proofs.YtaebnllfmkcpgaaGreatDoor
theorem SurfOk.w100 {s : Surf} (h : SurfOk s) : ∀ x ∈ s.water, Sp100 x := fun x hx => sp100 (h.water x hx).1 (by omega)
theorem SurfOk.v100 {s : Surf} (h : SurfOk s) : ∀ x ∈ s.waves, Sp100 x := fun x hx => sp100 (h.waves x hx).1 (by omega)
theorem SurfOk.h100 {s : Surf} (h : SurfOk s) : ∀ x ∈ s.huts, In100 x.floor ∧ In100 x.brake ∧ In100 x.row := fun x hx => by
  have h1 := h.huts x hx; have := h.rows
  exact ⟨⟨by omega, by omega⟩, ⟨by omega, by omega⟩, ⟨by omega, by omega⟩⟩
end Go.Bk
namespace Go.Proofs.YtaebnllfmkcpgaaGreatDoor
open Go.W Go.Bk
def sT1 (s : Surf) (k : Nat) : Bs := (surf0 s ++ 10 :: waterW) ++ (s.water.take k).flatMap colT
def sT2 (s : Surf) (k : Nat) : Bs := (sT1 s s.water.length ++ 10 :: wavesW) ++ (s.waves.take k).flatMap colT
def sT3 (s : Surf) (k : Nat) : Bs := (sT2 s s.waves.length ++ [10]) ++ (s.huts.take k).flatMap fun h => hutT h ++ [10]
theorem sT1_len {s : Surf} (h : SurfOk s) (k : Nat) : (sT1 s k).length ≤ 100 := by
  have h1 := fm_le (f := colT) (c := 6) (fun x hx => colT_len (h.w100 x hx)) h.nwater k
  have := (num_len (n := s.rows) ⟨by have := h.rows; omega, by have := h.rows; omega⟩).2
  have := (num_len (n := s.step) ⟨by have := h.step; omega, by have := h.step; omega⟩).2
  simp only [sT1, surf0, surfW, waterW, List.length_append, List.length_cons, List.length_nil]; omega
theorem sT2_len {s : Surf} (h : SurfOk s) (k : Nat) : (sT2 s k).length ≤ 200 := by
  have h1 := fm_le (f := colT) (c := 6) (fun x hx => colT_len (h.v100 x hx)) (m := 8) (by have := h.same; have := h.nwater; omega) k
  have := sT1_len h s.water.length
  simp only [sT2, wavesW, List.length_append, List.length_cons, List.length_nil]; omega
theorem sT3_len {s : Surf} (h : SurfOk s) (k : Nat) : (sT3 s k).length ≤ 300 := by
  have h1 := fm_le (f := fun h => hutT h ++ [10]) (c := 13) (fun x hx => hutT_len (h.h100 x hx).1 (h.h100 x hx).2.1 (h.h100 x hx).2.2) h.nhuts k
  have := sT2_len h s.waves.length
  simp only [sT3, List.length_append, List.length_cons, List.length_nil]; omega
theorem sT1_zero (s : Surf) : joinT [.s surfW, .i s.rows, .s [120], .i s.step, .s (10 :: waterW)] = sT1 s 0 := by simp [joinT, partT, sT1, surf0]
theorem sT1_succ {s : Surf} {k : Nat} (h : k < s.water.length) : sT1 s k ++ colT (gt s.water k) = sT1 s (k + 1) := by unfold sT1; rw [fm_succ h]; simp
theorem sT2_zero (s : Surf) : sT1 s s.water.length ++ 10 :: wavesW = sT2 s 0 := by simp [sT2]
theorem sT2_succ {s : Surf} {k : Nat} (h : k < s.waves.length) : sT2 s k ++ colT (gt s.waves k) = sT2 s (k + 1) := by unfold sT2; rw [fm_succ h]; simp
theorem sT3_zero (s : Surf) : sT2 s s.waves.length ++ [10] = sT3 s 0 := by simp [sT3]
theorem sT3_succ {s : Surf} {k : Nat} (h : k < s.huts.length) : sT3 s k ++ (hutT (gt s.huts k) ++ [10]) = sT3 s (k + 1) := by unfold sT3; rw [fm_succ h]; simp
theorem sT3_fin (s : Surf) : sT3 s s.huts.length = putSurf s := by
  have e : ∀ l : List Hut, (l.flatMap fun h => hutT h ++ [10]) = unl (l.map hutT) := by
    intro l; simp [unl, List.flatMap_map]
  simp only [sT3, sT2, sT1, List.take_length, putSurf, surfL, unl_cons, heightsT, e]
  simp
theorem col_join (x : Sp) : joinT [.s [32], .c x.lo, .s [45], .c x.hi] = colT x := by simp [joinT, partT, colT]
theorem hut_join (h : Hut) : joinT [.s hutW, .c h.floor, .s [32], .c h.brake, .s [32], .i h.row, .s [10]] = hutT h ++ [10] := by simp [joinT, partT, hutT]
theorem okn : ∀ p ∈ ([] : List Part), partOk p := fun _ h => nomatch h
theorem oks {p : Part} {l : List Part} (h : partOk p) (hl : ∀ q ∈ l, partOk q) : ∀ q ∈ p :: l, partOk q := fun q hq => (List.mem_cons.1 hq).elim (fun e => e ▸ h) (hl q)
theorem st_eq {a b : Bs} (h : a = b) : some (st a) = some (st b) := by rw [h]

theorem putSurf_g (s : Surf) (m : SurfM) (hok : SurfOk s) (D : Imm) (hL : LibD D) (hR : SurfR D s m) (w : World) (hH : Holds D w) : Gives Tryz.prog 88 [surfV s m] w (st (putSurf s)) := by
  unfold Gives
  obtain ⟨⟨wa, wn, wc⟩, ⟨va, vn, vc⟩, ⟨ha, hn, hc⟩⟩ := m
  obtain rfl : wn = s.water.length := hR.w.len'
  obtain rfl : vn = s.waves.length := hR.v.len'
  obtain rfl : hn = s.huts.length := hR.h.len'
  have hRw : SlL D 2 (s.water.map spC) wa s.water.length := hR.w
  have hRv : SlL D 2 (s.waves.map spC) va s.waves.length := hR.v
  have hRh : SlL D 3 (s.huts.map hutC) ha s.huts.length := hR.h
  have nw : s.water.length ≤ 9223372036854775807 := hR.nw
  have nv : s.waves.length ≤ 9223372036854775807 := hR.nv
  have nh : s.huts.length ≤ 9223372036854775807 := hR.nh
  have i64r : i64B s.rows := by have := hok.rows; exact ⟨by omega, by omega⟩
  have i64s : i64B s.step := by have := hok.step; exact ⟨by omega, by omega⟩
  refine enter Tryz.func88 rfl 91 Tryz.ntmps88 (zqb rfl) (Inv.start hH) ?_
  refine WC.seq (WC.ofFr [(0, _)] ⟨rfl, trivial⟩ (WC.region ?_))
  refine WL.so (SO.box rfl rfl) rfl ?_
  rintro _ _ _ ⟨b1, hb1, rfl, rfl, rfl⟩
  refine zya rfl rfl ?_
  refine WL.nil (WP.thenC (WC.seq (WC.ofFr [(2, _), (1, _)] ⟨rfl, rfl, trivial⟩ (WC.region ?_))))
  refine WL.yd (Yd.iface Tryz.underlying9 (by intro _ h; cases h) rfl) rfl ?_
  refine WL.yd (Yd.fieldAddr FA25_0 rfl) rfl ?_
  refine WL.yd (Yd.load1 Tryz.isAgg3 rfl (Rd.own (k := 0) rfl rfl)) rfl ?_
  refine WL.yd (Yd.iface Tryz.underlying3 (by intro _ h; cases h) rfl) rfl ?_
  refine WL.yd (Yd.iface Tryz.underlying9 (by intro _ h; cases h) rfl) rfl ?_
  refine WL.yd (Yd.fieldAddr FA25_1 rfl) rfl ?_
  refine WL.yd (Yd.load1 Tryz.isAgg3 rfl (Rd.own (k := 0) rfl rfl)) rfl ?_
  refine WL.yd (Yd.iface Tryz.underlying3 (by intro _ h; cases h) rfl) rfl ?_
  refine WL.yd (Yd.iface Tryz.underlying9 (by intro _ h; cases h) rfl) rfl ?_
  refine WL.so (SO.buildSlice1 Tryz.underlying208 Tryz.sizeOf20 Tryz.zeroValue20 rfl rfl rfl (vs := [_, _, _, _, _]) rfl rfl rfl) rfl ?_
  rintro _ _ _ ⟨b19, hb19, rfl, rfl, rfl⟩
  refine WL.so (SO.callP Tryz.call89 rfl (fun w hI => show Gives Tryz.prog 89 _ w (st (sT1 s 0)) from sT1_zero s ▸ join_g [.s surfW, .i s.rows, .s [120], .i s.step, .s (10 :: waterW)] _ _ _ _ (hL.ext ((DExt.refl _ D).add (hI.apart _ _ (List.mem_of_getElem? (i := 0) rfl)) hb19)) (SlL.ofBlock (l := [.s surfW, .i s.rows, .s [120], .i s.step, .s (10 :: waterW)]) (f := partC) (m := 1) (rest := []) (fun _ => rfl) (Imm.add_self _ _ _)) (oks (zqb rfl) (oks i64r (oks (zqb rfl) (oks i64s (oks (zqb rfl) (okn)))))) (by simp) _ (hI.freezeK 0 rfl).2.imm)) rfl ?_
  rintro _ _ _ ⟨rfl, rfl, rfl⟩
  refine zya rfl rfl ?_
  refine WL.nil (WP.thenC (WC.seq (WC.seq (WC.ofFr [(3, _), (2, _), (1, _)] ⟨rfl, rfl, rfl, trivial⟩ (WC.region ?_)))))
  refine WL.yd (Yd.fieldAddr FA25_2 rfl) rfl ?_
  refine WL.yd (Yd.load1 Tryz.isAgg22 rfl (Rd.own (k := 1) rfl rfl)) rfl ?_
  refine WL.yd (Yd.lenS rfl Tryz.underlying22 rfl) rfl ?_
  refine zym rfl rfl ?_
  refine WL.nil (WP.thenC (WC.block ?_))
  refine WC.drop 1 ?_
  refine WC.loopT [] (fun k : Nat => [(1, pt b1), (3, st (sT1 s k)), (22, .slice wa s.water.length wc), (23, nt s.water.length), (24, nt k)]) (fun _ => [(b1, .cells (List.toArray [it s.rows, it s.step, .slice wa s.water.length wc, .slice va s.waves.length vc, .slice ha s.huts.length hc]) 25 (0, 0))]) (fun k => k ≤ s.water.length) (fun k => s.water.length - k) 0 (Nat.zero_le _) rfl ⟨rfl, rfl, rfl, rfl, rfl, trivial⟩ ?_
  intro k hk
  have hl1 := sT1_len hok k
  refine WC.seq (WC.ofFr [(1, _), (3, _), (22, _), (23, _), (24, _)] ⟨rfl, rfl, rfl, rfl, rfl, trivial⟩ (WC.region ?_))
  refine WL.yd (Yd.lss rfl rfl) rfl ?_
  refine WL.nil (WP.thenC (WC.seq ?_))
  refine WC.cond rfl (fun c25 => ?_) (fun c25 => ?_)
  · try simp only [zq1, zq2, zq3, zq4, zq5, zq6, zq7, zq8] at c25
    have hkl : k < s.water.length := by omega
    have hx := hok.w100 _ (gtB_mem hkl)
    have hl2 := colT_len hx
    refine WC.skip (WP.thenC (WC.seq (WC.block (WC.seq (WC.ofFr [(1, _), (3, _), (22, _), (23, _), (24, _)] ⟨rfl, rfl, rfl, rfl, rfl, trivial⟩ (WC.region ?_))))))
    refine WL.yd (Yd.indexS Tryz.underlying22 Tryz.sizeOf114 rfl rfl (by omega) (by omega) (by first | exact hRw.addr k (by omega))) rfl ?_
    refine WL.yd (Yd.loadN Tryz.isAgg114 Tryz.sizeOf114 rfl (vs := [_, _]) rfl ((hRw.at k (by omega)).rdn 0 2 rfl)) rfl ?_
    refine WL.so (SO.alloc Tryz.zeroValue114 rfl) rfl ?_
    rintro _ _ _ ⟨b5, hb5, rfl, rfl, rfl⟩
    refine WL.so (SO.store 0 rfl Tryz.sizeOf114 rfl rfl rfl rfl (zqb rfl) (oneB_spec rfl)) rfl ?_
    rintro _ _ _ ⟨rfl, rfl, rfl⟩
    refine WL.nil (WP.thenC (WC.ofFr [(5, _), (1, _), (3, _), (22, _), (23, _), (24, _)] ⟨rfl, rfl, rfl, rfl, rfl, rfl, trivial⟩ (WC.region ?_)))
    refine zym rfl rfl ?_
    refine WL.yd (Yd.iface Tryz.underlying9 (by intro _ h; cases h) rfl) rfl ?_
    refine WL.yd (Yd.fieldAddr FA114_0 rfl) rfl ?_
    refine WL.yd (Yd.load1 Tryz.isAgg3 rfl (Rd.own (k := 0) rfl rfl)) rfl ?_
    refine WL.yd (Yd.iface Tryz.underlying148 (by intro _ h; cases h) rfl) rfl ?_
    refine WL.yd (Yd.iface Tryz.underlying9 (by intro _ h; cases h) rfl) rfl ?_
    refine WL.yd (Yd.fieldAddr FA114_1 rfl) rfl ?_
    refine WL.yd (Yd.load1 Tryz.isAgg3 rfl (Rd.own (k := 0) rfl rfl)) rfl ?_
    refine WL.yd (Yd.iface Tryz.underlying148 (by intro _ h; cases h) rfl) rfl ?_
    refine WL.so (SO.buildSlice1 Tryz.underlying208 Tryz.sizeOf20 Tryz.zeroValue20 rfl rfl rfl (vs := [_, _, _, _]) rfl rfl rfl) rfl ?_
    rintro _ _ _ ⟨b37, hb37, rfl, rfl, rfl⟩
    refine WL.so (SO.callP Tryz.call89 rfl (fun w hI => show Gives Tryz.prog 89 _ w (st (colT (gt s.water k))) from col_join (gt s.water k) ▸ join_g [.s [32], .c (gt s.water k).lo, .s [45], .c (gt s.water k).hi] _ _ _ _ (hL.ext ((DExt.refl _ D).add (hI.apart _ _ (List.mem_of_getElem? (i := 0) rfl)) hb37)) (SlL.ofBlock (l := [.s [32], .c (gt s.water k).lo, .s [45], .c (gt s.water k).hi]) (f := partC) (m := 1) (rest := []) (fun _ => rfl) (Imm.add_self _ _ _)) (oks (zqb rfl) (oks (i100 hx.1) (oks (zqb rfl) (oks (i100 hx.2) (okn))))) (by simp) _ (hI.freezeK 0 rfl).2.imm)) rfl ?_
    rintro _ _ _ ⟨rfl, rfl, rfl⟩
    refine WL.yd (Yd.addS rfl rfl (by first | omega | ((try simp only [List.length_append, List.length_cons, List.length_nil]); omega))) rfl ?_
    refine zya rfl rfl ?_
    refine WL.nil (WP.blkNormal (WP.thenC (WC.ofFr [(3, _), (1, _), (22, _), (23, _), (24, _)] ⟨rfl, rfl, rfl, rfl, rfl, trivial⟩ (WC.region ?_))))
    refine WL.yd (Yd.add rfl rfl (wr64 ⟨by omega, by omega⟩)) rfl ?_
    refine zym rfl rfl ?_
    refine WL.nil ?_
    exact WP.againT (k + 1) hkl (by omega) [_, _] _ rfl rfl ⟨rfl, st_eq (sT1_succ hkl), rfl, rfl, rfl, trivial⟩
  · try simp only [zq1, zq2, zq3, zq4, zq5, zq6, zq7, zq8] at c25
    obtain rfl : k = s.water.length := by omega
    refine WC.exit ?_
    refine WP.thenExit ?_
    refine WP.thenExit ?_
    refine WP.blkHit ?_
    refine WP.thenC (WC.seq (WC.ofFr [(1, _), (3, _)] ⟨rfl, rfl, trivial⟩ (WC.region ?_)))
    refine zym rfl rfl ?_
    have hl1 := sT1_len hok s.water.length
    have hl2 : (10 :: wavesW).length = 6 := rfl
    refine WL.yd (Yd.addS rfl rfl (by first | omega | ((try simp only [List.length_append, List.length_cons, List.length_nil]); omega))) rfl ?_
    refine zya rfl rfl ?_
    refine WL.nil (WP.thenC (WC.seq (WC.seq (WC.ofFr [(3, _), (1, _)] ⟨rfl, rfl, trivial⟩ (WC.region ?_)))))
    refine WL.yd (Yd.fieldAddr FA25_3 rfl) rfl ?_
    refine WL.yd (Yd.load1 Tryz.isAgg22 rfl (Rd.own (k := 0) rfl rfl)) rfl ?_
    refine WL.yd (Yd.lenS rfl Tryz.underlying22 rfl) rfl ?_
    refine zym rfl rfl ?_
    refine WL.nil (WP.thenC (WC.block ?_))
    refine WC.loopT [] (fun k : Nat => [(1, pt b1), (3, st (sT2 s k)), (44, .slice va s.waves.length vc), (45, nt s.waves.length), (46, nt k)]) (fun _ => [(b1, .cells (List.toArray [it s.rows, it s.step, .slice wa s.water.length wc, .slice va s.waves.length vc, .slice ha s.huts.length hc]) 25 (0, 0))]) (fun k => k ≤ s.waves.length) (fun k => s.waves.length - k) 0 (Nat.zero_le _) rfl ⟨rfl, st_eq (sT2_zero s), rfl, rfl, rfl, trivial⟩ ?_
    intro k hk
    have hl1 := sT2_len hok k
    refine WC.seq (WC.ofFr [(1, _), (3, _), (44, _), (45, _), (46, _)] ⟨rfl, rfl, rfl, rfl, rfl, trivial⟩ (WC.region ?_))
    refine WL.yd (Yd.lss rfl rfl) rfl ?_
    refine WL.nil (WP.thenC (WC.seq ?_))
    refine WC.cond rfl (fun c47 => ?_) (fun c47 => ?_)
    · try simp only [zq1, zq2, zq3, zq4, zq5, zq6, zq7, zq8] at c47
      have hkl : k < s.waves.length := by omega
      have hx := hok.v100 _ (gtB_mem hkl)
      have hl2 := colT_len hx
      refine WC.skip (WP.thenC (WC.seq (WC.block (WC.seq (WC.ofFr [(1, _), (3, _), (44, _), (45, _), (46, _)] ⟨rfl, rfl, rfl, rfl, rfl, trivial⟩ (WC.region ?_))))))
      refine WL.yd (Yd.indexS Tryz.underlying22 Tryz.sizeOf114 rfl rfl (by omega) (by omega) (by first | exact hRv.addr k (by omega))) rfl ?_
      refine WL.yd (Yd.loadN Tryz.isAgg114 Tryz.sizeOf114 rfl (vs := [_, _]) rfl ((hRv.at k (by omega)).rdn 0 2 rfl)) rfl ?_
      refine WL.so (SO.alloc Tryz.zeroValue114 rfl) rfl ?_
      rintro _ _ _ ⟨b7, hb7, rfl, rfl, rfl⟩
      refine WL.so (SO.store 0 rfl Tryz.sizeOf114 rfl rfl rfl rfl (zqb rfl) (oneB_spec rfl)) rfl ?_
      rintro _ _ _ ⟨rfl, rfl, rfl⟩
      refine WL.nil (WP.thenC (WC.ofFr [(7, _), (1, _), (3, _), (44, _), (45, _), (46, _)] ⟨rfl, rfl, rfl, rfl, rfl, rfl, trivial⟩ (WC.region ?_)))
      refine zym rfl rfl ?_
      refine WL.yd (Yd.iface Tryz.underlying9 (by intro _ h; cases h) rfl) rfl ?_
      refine WL.yd (Yd.fieldAddr FA114_0 rfl) rfl ?_
      refine WL.yd (Yd.load1 Tryz.isAgg3 rfl (Rd.own (k := 0) rfl rfl)) rfl ?_
      refine WL.yd (Yd.iface Tryz.underlying148 (by intro _ h; cases h) rfl) rfl ?_
      refine WL.yd (Yd.iface Tryz.underlying9 (by intro _ h; cases h) rfl) rfl ?_
      refine WL.yd (Yd.fieldAddr FA114_1 rfl) rfl ?_
      refine WL.yd (Yd.load1 Tryz.isAgg3 rfl (Rd.own (k := 0) rfl rfl)) rfl ?_
      refine WL.yd (Yd.iface Tryz.underlying148 (by intro _ h; cases h) rfl) rfl ?_
      refine WL.so (SO.buildSlice1 Tryz.underlying208 Tryz.sizeOf20 Tryz.zeroValue20 rfl rfl rfl (vs := [_, _, _, _]) rfl rfl rfl) rfl ?_
      rintro _ _ _ ⟨b59, hb59, rfl, rfl, rfl⟩
      refine WL.so (SO.callP Tryz.call89 rfl (fun w hI => show Gives Tryz.prog 89 _ w (st (colT (gt s.waves k))) from col_join (gt s.waves k) ▸ join_g [.s [32], .c (gt s.waves k).lo, .s [45], .c (gt s.waves k).hi] _ _ _ _ (hL.ext ((DExt.refl _ D).add (hI.apart _ _ (List.mem_of_getElem? (i := 0) rfl)) hb59)) (SlL.ofBlock (l := [.s [32], .c (gt s.waves k).lo, .s [45], .c (gt s.waves k).hi]) (f := partC) (m := 1) (rest := []) (fun _ => rfl) (Imm.add_self _ _ _)) (oks (zqb rfl) (oks (i100 hx.1) (oks (zqb rfl) (oks (i100 hx.2) (okn))))) (by simp) _ (hI.freezeK 0 rfl).2.imm)) rfl ?_
      rintro _ _ _ ⟨rfl, rfl, rfl⟩
      refine WL.yd (Yd.addS rfl rfl (by first | omega | ((try simp only [List.length_append, List.length_cons, List.length_nil]); omega))) rfl ?_
      refine zya rfl rfl ?_
      refine WL.nil (WP.blkNormal (WP.thenC (WC.ofFr [(3, _), (1, _), (44, _), (45, _), (46, _)] ⟨rfl, rfl, rfl, rfl, rfl, trivial⟩ (WC.region ?_))))
      refine WL.yd (Yd.add rfl rfl (wr64 ⟨by omega, by omega⟩)) rfl ?_
      refine zym rfl rfl ?_
      refine WL.nil ?_
      exact WP.againT (k + 1) hkl (by omega) [_, _] _ rfl rfl ⟨rfl, st_eq (sT2_succ hkl), rfl, rfl, rfl, trivial⟩
    · try simp only [zq1, zq2, zq3, zq4, zq5, zq6, zq7, zq8] at c47
      obtain rfl : k = s.waves.length := by omega
      refine WC.exit ?_
      refine WP.thenExit ?_
      refine WP.thenExit ?_
      refine WP.blkHit ?_
      refine WP.thenC (WC.seq (WC.ofFr [(1, _), (3, _)] ⟨rfl, rfl, trivial⟩ (WC.region ?_)))
      refine zym rfl rfl ?_
      have hl1 := sT2_len hok s.waves.length
      refine WL.yd (Yd.addS rfl rfl (by first | omega | ((try simp only [List.length_append, List.length_cons, List.length_nil]); omega))) rfl ?_
      refine zya rfl rfl ?_
      refine WL.nil (WP.thenC (WC.seq (WC.seq (WC.ofFr [(3, _), (1, _)] ⟨rfl, rfl, trivial⟩ (WC.region ?_)))))
      refine WL.yd (Yd.fieldAddr FA25_4 rfl) rfl ?_
      refine WL.yd (Yd.load1 Tryz.isAgg23 rfl (Rd.own (k := 0) rfl rfl)) rfl ?_
      refine WL.yd (Yd.lenS rfl Tryz.underlying23 rfl) rfl ?_
      refine zym rfl rfl ?_
      refine WL.nil (WP.thenC (WC.block ?_))
      refine WC.loopT [] (fun k : Nat => [(1, pt b1), (3, st (sT3 s k)), (66, .slice ha s.huts.length hc), (67, nt s.huts.length), (68, nt k)]) (fun _ => [(b1, .cells (List.toArray [it s.rows, it s.step, .slice wa s.water.length wc, .slice va s.waves.length vc, .slice ha s.huts.length hc]) 25 (0, 0))]) (fun k => k ≤ s.huts.length) (fun k => s.huts.length - k) 0 (Nat.zero_le _) rfl ⟨rfl, st_eq (sT3_zero s), rfl, rfl, rfl, trivial⟩ ?_
      intro k hk
      have hl1 := sT3_len hok k
      refine WC.seq (WC.ofFr [(1, _), (3, _), (66, _), (67, _), (68, _)] ⟨rfl, rfl, rfl, rfl, rfl, trivial⟩ (WC.region ?_))
      refine WL.yd (Yd.lss rfl rfl) rfl ?_
      refine WL.nil (WP.thenC (WC.seq ?_))
      refine WC.cond rfl (fun c69 => ?_) (fun c69 => ?_)
      · try simp only [zq1, zq2, zq3, zq4, zq5, zq6, zq7, zq8] at c69
        have hkl : k < s.huts.length := by omega
        have hx := hok.h100 _ (gtB_mem hkl)
        have hl2 := hutT_len hx.1 hx.2.1 hx.2.2
        refine WC.skip (WP.thenC (WC.seq (WC.block (WC.seq (WC.ofFr [(1, _), (3, _), (66, _), (67, _), (68, _)] ⟨rfl, rfl, rfl, rfl, rfl, trivial⟩ (WC.region ?_))))))
        refine WL.yd (Yd.indexS Tryz.underlying23 Tryz.sizeOf136 rfl rfl (by omega) (by omega) (by first | exact hRh.addr k (by omega))) rfl ?_
        refine WL.yd (Yd.loadN Tryz.isAgg136 Tryz.sizeOf136 rfl (vs := [_, _, _]) rfl ((hRh.at k (by omega)).rdn 0 3 rfl)) rfl ?_
        refine WL.so (SO.alloc Tryz.zeroValue136 rfl) rfl ?_
        rintro _ _ _ ⟨b9, hb9, rfl, rfl, rfl⟩
        refine WL.so (SO.store 0 rfl Tryz.sizeOf136 rfl rfl rfl rfl (zqb rfl) (oneB_spec rfl)) rfl ?_
        rintro _ _ _ ⟨rfl, rfl, rfl⟩
        refine WL.nil (WP.thenC (WC.ofFr [(9, _), (1, _), (3, _), (66, _), (67, _), (68, _)] ⟨rfl, rfl, rfl, rfl, rfl, rfl, trivial⟩ (WC.region ?_)))
        refine zym rfl rfl ?_
        refine WL.yd (Yd.iface Tryz.underlying9 (by intro _ h; cases h) rfl) rfl ?_
        refine WL.yd (Yd.fieldAddr FA136_0 rfl) rfl ?_
        refine WL.yd (Yd.load1 Tryz.isAgg3 rfl (Rd.own (k := 0) rfl rfl)) rfl ?_
        refine WL.yd (Yd.iface Tryz.underlying148 (by intro _ h; cases h) rfl) rfl ?_
        refine WL.yd (Yd.iface Tryz.underlying9 (by intro _ h; cases h) rfl) rfl ?_
        refine WL.yd (Yd.fieldAddr FA136_1 rfl) rfl ?_
        refine WL.yd (Yd.load1 Tryz.isAgg3 rfl (Rd.own (k := 0) rfl rfl)) rfl ?_
        refine WL.yd (Yd.iface Tryz.underlying148 (by intro _ h; cases h) rfl) rfl ?_
        refine WL.yd (Yd.iface Tryz.underlying9 (by intro _ h; cases h) rfl) rfl ?_
        refine WL.yd (Yd.fieldAddr FA136_2 rfl) rfl ?_
        refine WL.yd (Yd.load1 Tryz.isAgg3 rfl (Rd.own (k := 0) rfl rfl)) rfl ?_
        refine WL.yd (Yd.iface Tryz.underlying3 (by intro _ h; cases h) rfl) rfl ?_
        refine WL.yd (Yd.iface Tryz.underlying9 (by intro _ h; cases h) rfl) rfl ?_
        refine WL.so (SO.buildSlice1 Tryz.underlying208 Tryz.sizeOf20 Tryz.zeroValue20 rfl rfl rfl (vs := [_, _, _, _, _, _, _]) rfl rfl rfl) rfl ?_
        rintro _ _ _ ⟨b86, hb86, rfl, rfl, rfl⟩
        refine WL.so (SO.callP Tryz.call89 rfl (fun w hI => show Gives Tryz.prog 89 _ w (st (hutT (gt s.huts k) ++ [10])) from hut_join (gt s.huts k) ▸ join_g [.s hutW, .c (gt s.huts k).floor, .s [32], .c (gt s.huts k).brake, .s [32], .i (gt s.huts k).row, .s [10]] _ _ _ _ (hL.ext ((DExt.refl _ D).add (hI.apart _ _ (List.mem_of_getElem? (i := 0) rfl)) hb86)) (SlL.ofBlock (l := [.s hutW, .c (gt s.huts k).floor, .s [32], .c (gt s.huts k).brake, .s [32], .i (gt s.huts k).row, .s [10]]) (f := partC) (m := 1) (rest := []) (fun _ => rfl) (Imm.add_self _ _ _)) (oks (zqb rfl) (oks (i100 hx.1) (oks (zqb rfl) (oks (i100 hx.2.1) (oks (zqb rfl) (oks (i100 hx.2.2) (oks (zqb rfl) (okn)))))))) (by simp) _ (hI.freezeK 0 rfl).2.imm)) rfl ?_
        rintro _ _ _ ⟨rfl, rfl, rfl⟩
        refine WL.yd (Yd.addS rfl rfl (by first | omega | ((try simp only [List.length_append, List.length_cons, List.length_nil]); omega))) rfl ?_
        refine zya rfl rfl ?_
        refine WL.nil (WP.blkNormal (WP.thenC (WC.ofFr [(3, _), (1, _), (66, _), (67, _), (68, _)] ⟨rfl, rfl, rfl, rfl, rfl, trivial⟩ (WC.region ?_))))
        refine WL.yd (Yd.add rfl rfl (wr64 ⟨by omega, by omega⟩)) rfl ?_
        refine zym rfl rfl ?_
        refine WL.nil ?_
        exact WP.againT (k + 1) hkl (by omega) [_, _] _ rfl rfl ⟨rfl, st_eq (sT3_succ hkl), rfl, rfl, rfl, trivial⟩
      · try simp only [zq1, zq2, zq3, zq4, zq5, zq6, zq7, zq8] at c69
        obtain rfl : k = s.huts.length := by omega
        refine WC.exit ?_
        refine WP.thenExit ?_
        refine WP.thenExit ?_
        refine WP.blkHit ?_
        refine WP.thenC (WC.seq (WC.ofFr [(3, _)] ⟨rfl, trivial⟩ (WC.region ?_)))
        refine zym rfl rfl ?_
        refine zya rfl rfl ?_
        refine WL.nil (WP.thenC (WC.ret ?_))
        refine WP.ret1 rfl rfl Tryz.results88 (RV.tmp rfl) (fun w hI => ⟨by rw [sT3_fin], hI.keep⟩)

end Go.Proofs.YtaebnllfmkcpgaaGreatDoor
namespace Go.Proofs.YtaebnllfmkcpgaaGreatDoor
open Go.W Go.Bk
theorem FA141_1 : FieldAt Tryz.prog 141 1 1 := FieldAt.mk (t := 4) (off := 1) Tryz.underlying141 rfl Tryz.sizeOf4 (by decide)
def fT1 (f : Flag) (k : Nat) : Bs := (flag0 f ++ 10 :: hoursW) ++ (f.hours.take k).flatMap fun h => 32 :: hourT h
def fT2 (f : Flag) (k : Nat) : Bs := (fT1 f f.hours.length ++ 10 :: seenW) ++ (f.seen.take k).flatMap fun s => 32 :: seenT s
theorem markT_len (t : Int) : (markT t).length ≤ 1 := by unfold markT; split; · simp
                                                         split <;> simp
theorem hourT_len {h : FHour} (hx : Sp100 h.wind) : (32 :: hourT h).length ≤ 8 := by
  have := spanT_len hx; have := markT_len h.thunder
  simp [hourT]; omega
theorem seenT_len {s : FSeen} (hx : In100 s.hour) : (32 :: seenT s).length ≤ 4 := by
  have := (num_len hx).2
  simp [seenT]; omega
end Go.Proofs.YtaebnllfmkcpgaaGreatDoor
namespace Go.Bk
open Go.W Go.Bk Go.Proofs.YtaebnllfmkcpgaaGreatDoor
theorem FlagOk.h100 {f : Flag} (h : FlagOk f) : ∀ x ∈ f.hours, Sp100 x.wind := fun x hx => sp100 (h.hours x hx).1 (by omega)
theorem FlagOk.s100 {f : Flag} (h : FlagOk f) : ∀ x ∈ f.seen, In100 x.hour := fun x hx => by
  have := h.seen x hx; have := h.nhours
  exact ⟨by omega, by omega⟩
theorem FlagOk.n100 {f : Flag} (h : FlagOk f) : In100 f.low ∧ In100 f.high ∧ In100 f.quiet := by
  have := h.low; have := h.quiet
  exact ⟨⟨by omega, by omega⟩, ⟨by omega, by omega⟩, ⟨by omega, by omega⟩⟩
end Go.Bk
namespace Go.Proofs.YtaebnllfmkcpgaaGreatDoor
open Go.W Go.Bk
theorem fT1_len {f : Flag} (h : FlagOk f) (k : Nat) : (fT1 f k).length ≤ 100 := by
  have h1 := fm_le (f := fun h => 32 :: hourT h) (c := 8) (fun x hx => hourT_len (h.h100 x hx)) h.nhours k
  have := (num_len h.n100.1).2; have := (num_len h.n100.2.1).2; have := (num_len h.n100.2.2).2
  simp only [fT1, flag0, flagW, hoursW, List.length_append, List.length_cons, List.length_nil]; omega
theorem fT2_len {f : Flag} (h : FlagOk f) (k : Nat) : (fT2 f k).length ≤ 200 := by
  have h1 := fm_le (f := fun s => 32 :: seenT s) (c := 4) (fun x hx => seenT_len (h.s100 x hx)) h.nseen k
  have := fT1_len h f.hours.length
  simp only [fT2, seenW, List.length_append, List.length_cons, List.length_nil]; omega
theorem fT1_zero (f : Flag) : joinT [.s flagW, .i f.low, .s [45], .i f.high, .s [47], .i f.quiet, .s (10 :: hoursW)] = fT1 f 0 := by simp [joinT, partT, fT1, flag0]
theorem fT1_succ {f : Flag} {k : Nat} (h : k < f.hours.length) : fT1 f k ++ (32 :: hourT (gt f.hours k)) = fT1 f (k + 1) := by unfold fT1; rw [fm_succ h]; simp
theorem fT2_zero (f : Flag) : fT1 f f.hours.length ++ 10 :: seenW = fT2 f 0 := by simp [fT2]
theorem fT2_succ {f : Flag} {k : Nat} (h : k < f.seen.length) : fT2 f k ++ (32 :: seenT (gt f.seen k)) = fT2 f (k + 1) := by unfold fT2; rw [fm_succ h]; simp
theorem fT2_fin (f : Flag) : fT2 f f.seen.length ++ [10] = putFlag f := by
  simp [fT2, fT1, List.take_length, putFlag, flagL, unl, behind]
theorem hour_join (h : FHour) : joinT [.s [32], .p h.wind, .s (markT h.thunder)] = 32 :: hourT h := by simp [joinT, partT, hourT]
theorem seen_joinT {s : FSeen} (h : s.up = true) : joinT [.s [32], .i s.hour, .s [43]] = 32 :: seenT s := by simp [joinT, partT, seenT, h]
theorem seen_joinF {s : FSeen} (h : s.up = false) : joinT [.s [32], .i s.hour, .s [45]] = 32 :: seenT s := by simp [joinT, partT, seenT, h]
theorem mark_at {t : Int} (h : 0 ≤ t ∧ t ≤ 2) : ([st [], st [63], st [33]] : List Value)[0 + t.toNat * 1]? = some (st (markT t)) := by
  obtain ⟨h1, h2⟩ := h
  have : t = 0 ∨ t = 1 ∨ t = 2 := by omega
  rcases this with rfl | rfl | rfl <;> rfl
def bT1 (b : Boats) (k : Nat) : Bs := (boats0 b ++ [10]) ++ (b.seen.take k).flatMap fun l => behind boatW bseenT l ++ [10]
def bT2 (b : Boats) (k j : Nat) : Bs := (bT1 b k ++ boatW) ++ ((gt b.seen k).take j).flatMap fun s => 32 :: bseenT s
theorem bseenT_len {s : BSeen} (h : In100 s.minute ∧ Sp100 s.cols ∧ Sp100 s.rows) : (32 :: bseenT s).length ≤ 17 := by
  have := (num_len h.1).2; have := spanT_len h.2.1; have := spanT_len h.2.2
  simp [bseenT]; omega
end Go.Proofs.YtaebnllfmkcpgaaGreatDoor
namespace Go.Bk
open Go.W Go.Bk Go.Proofs.YtaebnllfmkcpgaaGreatDoor
theorem BoatsOk.s100 {b : Boats} (h : BoatsOk b) : ∀ l ∈ b.seen, ∀ s ∈ l, In100 s.minute ∧ Sp100 s.cols ∧ Sp100 s.rows := fun _ hl _ hs => bseen100 h (h.sn hl hs)
theorem BoatsOk.n100 {b : Boats} (h : BoatsOk b) : In100 b.wide ∧ In100 b.deep ∧ In100 b.speed ∧ In100 b.last := by
  have := h.wide; have := h.deep; have := h.speed; have := h.last
  exact ⟨⟨by omega, by omega⟩, ⟨by omega, by omega⟩, ⟨by omega, by omega⟩, ⟨by omega, by omega⟩⟩
end Go.Bk
namespace Go.Proofs.YtaebnllfmkcpgaaGreatDoor
open Go.W Go.Bk
theorem row_len {b : Boats} (h : BoatsOk b) : ∀ l ∈ b.seen, (behind boatW bseenT l ++ [10]).length ≤ 90 := fun l hl => by
  have h1 := fm_len (l := l) (f := fun s => 32 :: bseenT s) (c := 17) fun s hs => bseenT_len (h.s100 l hl s hs)
  have h2 : l.length * 17 ≤ 5 * 17 := Nat.mul_le_mul_right 17 (h.rows l hl).1
  simp only [behind, boatW, List.length_append, List.length_cons, List.length_nil]; omega
theorem bT1_len {b : Boats} (h : BoatsOk b) (k : Nat) : (bT1 b k).length ≤ 400 := by
  have h1 := fm_le (f := fun l => behind boatW bseenT l ++ [10]) (c := 90) (row_len h) h.n k
  have := (num_len h.n100.1).2; have := (num_len h.n100.2.1).2; have := (num_len h.n100.2.2.1).2; have := (num_len h.n100.2.2.2).2
  simp only [bT1, boats0, boatsW, List.length_append, List.length_cons, List.length_nil]; omega
theorem bT2_len {b : Boats} (h : BoatsOk b) {k : Nat} (hk : k < b.seen.length) (j : Nat) : (bT2 b k j).length ≤ 500 := by
  have h1 := fm_le (f := fun s => 32 :: bseenT s) (c := 17) (fun s hs => bseenT_len (h.s100 _ (gtB_mem hk) s hs)) (h.rows _ (gtB_mem hk)).1 j
  have := bT1_len h k
  simp only [bT2, boatW, List.length_append, List.length_cons, List.length_nil]; omega
theorem bT1_zero (b : Boats) : joinT [.s (boatsW ++ [32]), .i b.wide, .s [120], .i b.deep, .s [32, 118], .i b.speed, .s [32, 116], .i b.last, .s [10]] = bT1 b 0 := by simp [joinT, partT, bT1, boats0]
theorem bT2_zero (b : Boats) (k : Nat) : bT1 b k ++ boatW = bT2 b k 0 := by simp [bT2]
theorem bT2_succ {b : Boats} {k j : Nat} (h : j < (gt b.seen k).length) : bT2 b k j ++ (32 :: bseenT (gt (gt b.seen k) j)) = bT2 b k (j + 1) := by unfold bT2; rw [fm_succ h]; simp
theorem bT1_succ {b : Boats} {k : Nat} (h : k < b.seen.length) : bT2 b k (gt b.seen k).length ++ [10] = bT1 b (k + 1) := by
  unfold bT2 bT1; rw [fm_succ h, List.take_length]; simp [behind]
theorem bT1_fin (b : Boats) : bT1 b b.seen.length = putBoats b := by
  simp [bT1, List.take_length, putBoats, boatsL, unl, List.flatMap_map]
theorem bseen_join (s : BSeen) : joinT [.s [32], .i s.minute, .s [64], .p s.cols, .s [44], .p s.rows] = 32 :: bseenT s := by simp [joinT, partT, bseenT]

theorem putFlag_g (f : Flag) (m : FlagM) (hok : FlagOk f) (D : Imm) (hL : LibD D) (hR : FlagR D f m) (w : World) (hH : Holds D w) : Gives Tryz.prog 99 [flagV f m] w (st (putFlag f)) := by
  unfold Gives
  obtain ⟨mt, mfz, hmk⟩ := hL.marks
  obtain ⟨⟨ha, hn, hc⟩, ⟨sa, sn, sc⟩⟩ := m
  obtain rfl : hn = f.hours.length := hR.h.len'
  obtain rfl : sn = f.seen.length := hR.s.len'
  have hRh : SlL D 3 (f.hours.map hourC) ha f.hours.length := hR.h
  have hRs : SlL D 2 (f.seen.map seenC) sa f.seen.length := hR.s
  have nh : f.hours.length ≤ 9223372036854775807 := hR.nh
  have ns : f.seen.length ≤ 9223372036854775807 := hR.ns
  refine enter Tryz.func99 rfl 69 Tryz.ntmps99 (zqb rfl) (Inv.start hH) ?_
  refine WC.seq (WC.ofFr [(0, _)] ⟨rfl, trivial⟩ (WC.region ?_))
  refine WL.so (SO.box rfl rfl) rfl ?_
  rintro _ _ _ ⟨b1, hb1, rfl, rfl, rfl⟩
  refine zya rfl rfl ?_
  refine WL.nil (WP.thenC (WC.seq (WC.ofFr [(2, _), (1, _)] ⟨rfl, rfl, trivial⟩ (WC.region ?_))))
  refine WL.yd (Yd.iface Tryz.underlying9 (by intro _ h; cases h) rfl) rfl ?_
  refine WL.yd (Yd.fieldAddr FA29_0 rfl) rfl ?_
  refine WL.yd (Yd.load1 Tryz.isAgg3 rfl (Rd.own (k := 0) rfl rfl)) rfl ?_
  refine WL.yd (Yd.iface Tryz.underlying3 (by intro _ h; cases h) rfl) rfl ?_
  refine WL.yd (Yd.iface Tryz.underlying9 (by intro _ h; cases h) rfl) rfl ?_
  refine WL.yd (Yd.fieldAddr FA29_1 rfl) rfl ?_
  refine WL.yd (Yd.load1 Tryz.isAgg3 rfl (Rd.own (k := 0) rfl rfl)) rfl ?_
  refine WL.yd (Yd.iface Tryz.underlying3 (by intro _ h; cases h) rfl) rfl ?_
  refine WL.yd (Yd.iface Tryz.underlying9 (by intro _ h; cases h) rfl) rfl ?_
  refine WL.yd (Yd.fieldAddr FA29_2 rfl) rfl ?_
  refine WL.yd (Yd.load1 Tryz.isAgg3 rfl (Rd.own (k := 0) rfl rfl)) rfl ?_
  refine WL.yd (Yd.iface Tryz.underlying3 (by intro _ h; cases h) rfl) rfl ?_
  refine WL.yd (Yd.iface Tryz.underlying9 (by intro _ h; cases h) rfl) rfl ?_
  refine WL.so (SO.buildSlice1 Tryz.underlying208 Tryz.sizeOf20 Tryz.zeroValue20 rfl rfl rfl (vs := [_, _, _, _, _, _, _]) rfl rfl rfl) rfl ?_
  rintro _ _ _ ⟨b22, hb22, rfl, rfl, rfl⟩
  refine WL.so (SO.callP Tryz.call89 rfl (fun w hI => show Gives Tryz.prog 89 _ w (st (fT1 f 0)) from fT1_zero f ▸ join_g [.s flagW, .i f.low, .s [45], .i f.high, .s [47], .i f.quiet, .s (10 :: hoursW)] _ _ _ _ (hL.ext ((DExt.refl _ D).add (hI.apart _ _ (List.mem_of_getElem? (i := 0) rfl)) hb22)) (SlL.ofBlock (l := [.s flagW, .i f.low, .s [45], .i f.high, .s [47], .i f.quiet, .s (10 :: hoursW)]) (f := partC) (m := 1) (rest := []) (fun _ => rfl) (Imm.add_self _ _ _)) (oks (zqb rfl) (oks (i100 hok.n100.1) (oks (zqb rfl) (oks (i100 hok.n100.2.1) (oks (zqb rfl) (oks (i100 hok.n100.2.2) (oks (zqb rfl) (okn)))))))) (by simp) _ (hI.freezeK 0 rfl).2.imm)) rfl ?_
  rintro _ _ _ ⟨rfl, rfl, rfl⟩
  refine zya rfl rfl ?_
  refine WL.nil (WP.thenC (WC.seq (WC.seq (WC.ofFr [(3, _), (2, _), (1, _)] ⟨rfl, rfl, rfl, trivial⟩ (WC.region ?_)))))
  refine WL.yd (Yd.fieldAddr FA29_3 rfl) rfl ?_
  refine WL.yd (Yd.load1 Tryz.isAgg26 rfl (Rd.own (k := 1) rfl rfl)) rfl ?_
  refine WL.yd (Yd.lenS rfl Tryz.underlying26 rfl) rfl ?_
  refine zym rfl rfl ?_
  refine WL.nil (WP.thenC (WC.block ?_))
  refine WC.drop 1 ?_
  refine WC.loopT [] (fun k : Nat => [(1, pt b1), (3, st (fT1 f k)), (25, .slice ha f.hours.length hc), (26, nt f.hours.length), (27, nt k)]) (fun _ => [(b1, .cells (List.toArray [it f.low, it f.high, it f.quiet, .slice ha f.hours.length hc, .slice sa f.seen.length sc]) 29 (0, 0))]) (fun k => k ≤ f.hours.length) (fun k => f.hours.length - k) 0 (Nat.zero_le _) rfl ⟨rfl, rfl, rfl, rfl, rfl, trivial⟩ ?_
  intro k hk
  have hl1 := fT1_len hok k
  refine WC.seq (WC.ofFr [(1, _), (3, _), (25, _), (26, _), (27, _)] ⟨rfl, rfl, rfl, rfl, rfl, trivial⟩ (WC.region ?_))
  refine WL.yd (Yd.lss rfl rfl) rfl ?_
  refine WL.nil (WP.thenC (WC.seq ?_))
  refine WC.cond rfl (fun c28 => ?_) (fun c28 => ?_)
  · try simp only [zq1, zq2, zq3, zq4, zq5, zq6, zq7, zq8] at c28
    have hkl : k < f.hours.length := by omega
    have hx := hok.h100 _ (gtB_mem hkl)
    have ht := (hok.hours _ (gtB_mem hkl)).2
    have hl2 := hourT_len hx
    refine WC.skip (WP.thenC (WC.seq (WC.block (WC.seq (WC.ofFr [(1, _), (3, _), (25, _), (26, _), (27, _)] ⟨rfl, rfl, rfl, rfl, rfl, trivial⟩ (WC.region ?_))))))
    refine WL.yd (Yd.indexS Tryz.underlying26 Tryz.sizeOf138 rfl rfl (by omega) (by omega) (by first | exact hRh.addr k (by omega))) rfl ?_
    refine WL.yd (Yd.loadN Tryz.isAgg138 Tryz.sizeOf138 rfl (vs := [_, _, _]) rfl ((hRh.at k (by omega)).rdn 0 3 rfl)) rfl ?_
    refine WL.so (SO.alloc Tryz.zeroValue138 rfl) rfl ?_
    rintro _ _ _ ⟨b5, hb5, rfl, rfl, rfl⟩
    refine WL.so (SO.store 0 rfl Tryz.sizeOf138 rfl rfl rfl rfl (zqb rfl) (oneB_spec rfl)) rfl ?_
    rintro _ _ _ ⟨rfl, rfl, rfl⟩
    refine WL.nil (WP.thenC (WC.ofFr [(5, _), (1, _), (3, _), (25, _), (26, _), (27, _)] ⟨rfl, rfl, rfl, rfl, rfl, rfl, trivial⟩ ?_))
    refine WC.draw [(0, true), (1, true), (2, true), (3, true), (4, true), (5, true), (6, true), (7, true), (8, true), (9, true), (10, false), (11, false), (12, true), (13, true)] (by kernel_rfl) (by kernel_rfl) (QuietPanic.blk (QuietPanic.then (QuietPanic.then (QuietPanic.blk (QuietPanic.then QuietPanic.body))))) ?_
    refine WA.yd rfl (Yd.move rfl) rfl ?_
    refine WA.yd rfl (Yd.iface Tryz.underlying9 (by intro _ h; cases h) rfl) rfl ?_
    refine WA.yd rfl (Yd.fieldAddr FA138_0 rfl) rfl ?_
    refine WA.yd rfl (Yd.loadN Tryz.isAgg114 Tryz.sizeOf114 rfl (vs := [_, _]) rfl (RdN.own (k := 0) (n := 2) rfl rfl)) rfl ?_
    refine WA.yd rfl (Yd.iface Tryz.underlying114 (by intro _ h; cases h) rfl) rfl ?_
    refine WA.yd rfl (Yd.fieldAddr FA138_1 rfl) rfl ?_
    refine WA.yd rfl (Yd.load1 Tryz.isAgg3 rfl (Rd.own (k := 0) rfl rfl)) rfl ?_
    refine WA.yd rfl (Yd.indexA Tryz.underlying157 Tryz.sizeOf9 rfl rfl (by omega) (by omega)) rfl ?_
    refine WA.yd rfl (Yd.load1 Tryz.isAgg9 rfl (Rd.imm hmk (mark_at ht))) rfl ?_
    refine WA.yd rfl (Yd.iface Tryz.underlying9 (by intro _ h; cases h) rfl) rfl ?_
    refine WA.so rfl (SO.buildSlice1 Tryz.underlying208 Tryz.sizeOf20 Tryz.zeroValue20 rfl rfl rfl (vs := [_, _, _]) rfl rfl rfl) rfl ?_
    rintro _ _ _ ⟨b41, hb41, rfl, rfl, rfl⟩
    refine ⟨fun _ hI => hI.tail, ?_⟩
    refine WA.so rfl (SO.callP Tryz.call89 rfl (fun w hI => show Gives Tryz.prog 89 _ w (st (32 :: hourT (gt f.hours k))) from hour_join (gt f.hours k) ▸ join_g [.s [32], .p (gt f.hours k).wind, .s (markT (gt f.hours k).thunder)] _ _ _ _ (hL.ext ((DExt.refl _ D).add (hI.apart _ _ (List.mem_of_getElem? (i := 0) rfl)) hb41)) (SlL.ofBlock (l := [.s [32], .p (gt f.hours k).wind, .s (markT (gt f.hours k).thunder)]) (f := partC) (m := 1) (rest := []) (fun _ => rfl) (Imm.add_self _ _ _)) (oks (zqb rfl) (oks ⟨i100 hx.1, i100 hx.2⟩ (oks (by have := markT_len (gt f.hours k).thunder; show (_ : Nat) ≤ 10000; omega) (okn)))) (by simp) _ (hI.freezeK 0 rfl).2.imm)) rfl ?_
    rintro _ _ _ ⟨rfl, rfl, rfl⟩
    refine ⟨fun _ hI => hI.tail, ?_⟩
    refine WA.yd rfl (Yd.addS rfl rfl (by first | omega | ((try simp only [List.length_append, List.length_cons, List.length_nil]); omega))) rfl ?_
    refine WA.yd rfl (Yd.assign rfl) rfl ?_
    refine WA.nil (WP.blkNormal (WP.thenC (WC.ofFr [(3, _), (1, _), (25, _), (26, _), (27, _)] ⟨rfl, rfl, rfl, rfl, rfl, trivial⟩ (WC.region ?_))))
    refine WL.yd (Yd.add rfl rfl (wr64 ⟨by omega, by omega⟩)) rfl ?_
    refine zym rfl rfl ?_
    refine WL.nil ?_
    exact WP.againT (k + 1) hkl (by omega) [_, _] _ rfl rfl ⟨rfl, st_eq (fT1_succ hkl), rfl, rfl, rfl, trivial⟩
  · try simp only [zq1, zq2, zq3, zq4, zq5, zq6, zq7, zq8] at c28
    obtain rfl : k = f.hours.length := by omega
    refine WC.exit ?_
    refine WP.thenExit ?_
    refine WP.thenExit ?_
    refine WP.blkHit ?_
    refine WP.thenC (WC.seq (WC.ofFr [(1, _), (3, _)] ⟨rfl, rfl, trivial⟩ (WC.region ?_)))
    refine zym rfl rfl ?_
    have hl1 := fT1_len hok f.hours.length
    have hl2 : (10 :: seenW).length = 5 := rfl
    refine WL.yd (Yd.addS rfl rfl (by first | omega | ((try simp only [List.length_append, List.length_cons, List.length_nil]); omega))) rfl ?_
    refine zya rfl rfl ?_
    refine WL.nil (WP.thenC (WC.seq (WC.seq (WC.ofFr [(3, _), (1, _)] ⟨rfl, rfl, trivial⟩ (WC.region ?_)))))
    refine WL.yd (Yd.fieldAddr FA29_4 rfl) rfl ?_
    refine WL.yd (Yd.load1 Tryz.isAgg27 rfl (Rd.own (k := 0) rfl rfl)) rfl ?_
    refine WL.yd (Yd.lenS rfl Tryz.underlying27 rfl) rfl ?_
    refine zym rfl rfl ?_
    refine WL.nil (WP.thenC (WC.block ?_))
    refine WC.loopT [] (fun k : Nat => [(1, pt b1), (3, st (fT2 f k)), (48, .slice sa f.seen.length sc), (49, nt f.seen.length), (50, nt k)]) (fun _ => [(b1, .cells (List.toArray [it f.low, it f.high, it f.quiet, .slice ha f.hours.length hc, .slice sa f.seen.length sc]) 29 (0, 0))]) (fun k => k ≤ f.seen.length) (fun k => f.seen.length - k) 0 (Nat.zero_le _) rfl ⟨rfl, st_eq (fT2_zero f), rfl, rfl, rfl, trivial⟩ ?_
    intro k hk
    have hl1 := fT2_len hok k
    refine WC.seq (WC.ofFr [(1, _), (3, _), (48, _), (49, _), (50, _)] ⟨rfl, rfl, rfl, rfl, rfl, trivial⟩ (WC.region ?_))
    refine WL.yd (Yd.lss rfl rfl) rfl ?_
    refine WL.nil (WP.thenC (WC.seq ?_))
    refine WC.cond rfl (fun c51 => ?_) (fun c51 => ?_)
    · try simp only [zq1, zq2, zq3, zq4, zq5, zq6, zq7, zq8] at c51
      have hkl : k < f.seen.length := by omega
      have hx := hok.s100 _ (gtB_mem hkl)
      have hl2 := seenT_len hx
      refine WC.skip (WP.thenC (WC.seq (WC.block (WC.seq (WC.ofFr [(1, _), (3, _), (48, _), (49, _), (50, _)] ⟨rfl, rfl, rfl, rfl, rfl, trivial⟩ (WC.region ?_))))))
      refine WL.yd (Yd.indexS Tryz.underlying27 Tryz.sizeOf141 rfl rfl (by omega) (by omega) (by first | exact hRs.addr k (by omega))) rfl ?_
      refine WL.yd (Yd.loadN Tryz.isAgg141 Tryz.sizeOf141 rfl (vs := [_, _]) rfl ((hRs.at k (by omega)).rdn 0 2 rfl)) rfl ?_
      refine WL.so (SO.alloc Tryz.zeroValue141 rfl) rfl ?_
      rintro _ _ _ ⟨b7, hb7, rfl, rfl, rfl⟩
      refine WL.so (SO.store 0 rfl Tryz.sizeOf141 rfl rfl rfl rfl (zqb rfl) (oneB_spec rfl)) rfl ?_
      rintro _ _ _ ⟨rfl, rfl, rfl⟩
      refine WL.nil (WP.thenC (WC.seq (WC.ofFr [(7, _), (1, _), (3, _), (48, _), (49, _), (50, _)] ⟨rfl, rfl, rfl, rfl, rfl, rfl, trivial⟩ (WC.region ?_))))
      refine zya rfl rfl ?_
      refine WL.nil (WP.thenC (WC.seq (WC.seq (WC.ofFr [(8, _), (7, _), (1, _), (3, _), (48, _), (49, _), (50, _)] ⟨rfl, rfl, rfl, rfl, rfl, rfl, rfl, trivial⟩ (WC.region ?_)))))
      refine WL.yd (Yd.fieldAddr FA141_1 rfl) rfl ?_
      refine WL.yd (Yd.load1 Tryz.isAgg4 rfl (Rd.own (k := 0) rfl rfl)) rfl ?_
      refine WL.nil (WP.thenC ?_)
      refine WC.cond rfl (fun c55 => ?_) (fun c55 => ?_)
      · try simp only [zq1, zq2, zq3, zq4, zq5, zq6, zq7, zq8] at c55
        refine WC.ofFr [(8, _), (7, _), (1, _), (3, _), (48, _), (49, _), (50, _)] ⟨rfl, rfl, rfl, rfl, rfl, rfl, rfl, trivial⟩ (WC.region ?_)
        refine zya rfl rfl ?_
        refine WL.nil (WP.thenC (WC.ofFr [(8, _), (7, _), (1, _), (3, _), (48, _), (49, _), (50, _)] ⟨rfl, rfl, rfl, rfl, rfl, rfl, rfl, trivial⟩ (WC.region ?_)))
        refine zym rfl rfl ?_
        refine WL.yd (Yd.iface Tryz.underlying9 (by intro _ h; cases h) rfl) rfl ?_
        refine WL.yd (Yd.fieldAddr FA141_0 rfl) rfl ?_
        refine WL.yd (Yd.load1 Tryz.isAgg3 rfl (Rd.own (k := 0) rfl rfl)) rfl ?_
        refine WL.yd (Yd.iface Tryz.underlying3 (by intro _ h; cases h) rfl) rfl ?_
        refine zym rfl rfl ?_
        refine WL.yd (Yd.iface Tryz.underlying9 (by intro _ h; cases h) rfl) rfl ?_
        refine WL.so (SO.buildSlice1 Tryz.underlying208 Tryz.sizeOf20 Tryz.zeroValue20 rfl rfl rfl (vs := [_, _, _]) rfl rfl rfl) rfl ?_
        rintro _ _ _ ⟨b63, hb63, rfl, rfl, rfl⟩
        refine WL.so (SO.callP Tryz.call89 rfl (fun w hI => show Gives Tryz.prog 89 _ w (st (32 :: seenT (gt f.seen k))) from seen_joinT c55 ▸ join_g [.s [32], .i (gt f.seen k).hour, .s [43]] _ _ _ _ (hL.ext ((DExt.refl _ D).add (hI.apart _ _ (List.mem_of_getElem? (i := 0) rfl)) hb63)) (SlL.ofBlock (l := [.s [32], .i (gt f.seen k).hour, .s [43]]) (f := partC) (m := 1) (rest := []) (fun _ => rfl) (Imm.add_self _ _ _)) (oks (zqb rfl) (oks (i100 hx) (oks (zqb rfl) (okn)))) (by simp) _ (hI.freezeK 0 rfl).2.imm)) rfl ?_
        rintro _ _ _ ⟨rfl, rfl, rfl⟩
        refine WL.yd (Yd.addS rfl rfl (by first | omega | ((try simp only [List.length_append, List.length_cons, List.length_nil]); omega))) rfl ?_
        refine zya rfl rfl ?_
        refine WL.nil (WP.blkNormal (WP.thenC (WC.ofFr [(3, _), (1, _), (48, _), (49, _), (50, _)] ⟨rfl, rfl, rfl, rfl, rfl, trivial⟩ (WC.region ?_))))
        refine WL.yd (Yd.add rfl rfl (wr64 ⟨by omega, by omega⟩)) rfl ?_
        refine zym rfl rfl ?_
        refine WL.nil ?_
        exact WP.againT (k + 1) hkl (by omega) [_, _] _ rfl rfl ⟨rfl, st_eq (fT2_succ hkl), rfl, rfl, rfl, trivial⟩
      · try simp only [zq1, zq2, zq3, zq4, zq5, zq6, zq7, zq8] at c55
        refine WC.skip (WP.thenC (WC.ofFr [(8, _), (7, _), (1, _), (3, _), (48, _), (49, _), (50, _)] ⟨rfl, rfl, rfl, rfl, rfl, rfl, rfl, trivial⟩ (WC.region ?_)))
        refine zym rfl rfl ?_
        refine WL.yd (Yd.iface Tryz.underlying9 (by intro _ h; cases h) rfl) rfl ?_
        refine WL.yd (Yd.fieldAddr FA141_0 rfl) rfl ?_
        refine WL.yd (Yd.load1 Tryz.isAgg3 rfl (Rd.own (k := 0) rfl rfl)) rfl ?_
        refine WL.yd (Yd.iface Tryz.underlying3 (by intro _ h; cases h) rfl) rfl ?_
        refine zym rfl rfl ?_
        refine WL.yd (Yd.iface Tryz.underlying9 (by intro _ h; cases h) rfl) rfl ?_
        refine WL.so (SO.buildSlice1 Tryz.underlying208 Tryz.sizeOf20 Tryz.zeroValue20 rfl rfl rfl (vs := [_, _, _]) rfl rfl rfl) rfl ?_
        rintro _ _ _ ⟨b63, hb63, rfl, rfl, rfl⟩
        refine WL.so (SO.callP Tryz.call89 rfl (fun w hI => show Gives Tryz.prog 89 _ w (st (32 :: seenT (gt f.seen k))) from seen_joinF c55 ▸ join_g [.s [32], .i (gt f.seen k).hour, .s [45]] _ _ _ _ (hL.ext ((DExt.refl _ D).add (hI.apart _ _ (List.mem_of_getElem? (i := 0) rfl)) hb63)) (SlL.ofBlock (l := [.s [32], .i (gt f.seen k).hour, .s [45]]) (f := partC) (m := 1) (rest := []) (fun _ => rfl) (Imm.add_self _ _ _)) (oks (zqb rfl) (oks (i100 hx) (oks (zqb rfl) (okn)))) (by simp) _ (hI.freezeK 0 rfl).2.imm)) rfl ?_
        rintro _ _ _ ⟨rfl, rfl, rfl⟩
        refine WL.yd (Yd.addS rfl rfl (by first | omega | ((try simp only [List.length_append, List.length_cons, List.length_nil]); omega))) rfl ?_
        refine zya rfl rfl ?_
        refine WL.nil (WP.blkNormal (WP.thenC (WC.ofFr [(3, _), (1, _), (48, _), (49, _), (50, _)] ⟨rfl, rfl, rfl, rfl, rfl, trivial⟩ (WC.region ?_))))
        refine WL.yd (Yd.add rfl rfl (wr64 ⟨by omega, by omega⟩)) rfl ?_
        refine zym rfl rfl ?_
        refine WL.nil ?_
        exact WP.againT (k + 1) hkl (by omega) [_, _] _ rfl rfl ⟨rfl, st_eq (fT2_succ hkl), rfl, rfl, rfl, trivial⟩
    · try simp only [zq1, zq2, zq3, zq4, zq5, zq6, zq7, zq8] at c51
      obtain rfl : k = f.seen.length := by omega
      refine WC.exit ?_
      refine WP.thenExit ?_
      refine WP.thenExit ?_
      refine WP.blkHit ?_
      refine WP.thenC (WC.seq (WC.ofFr [(3, _)] ⟨rfl, trivial⟩ (WC.region ?_)))
      refine zym rfl rfl ?_
      have hl1 := fT2_len hok f.seen.length
      refine WL.yd (Yd.addS rfl rfl (by first | omega | ((try simp only [List.length_append, List.length_cons, List.length_nil]); omega))) rfl ?_
      refine zya rfl rfl ?_
      refine WL.nil (WP.thenC (WC.ret ?_))
      refine WP.ret1 rfl rfl Tryz.results99 (RV.tmp rfl) (fun w hI => ⟨by rw [fT2_fin], hI.keep⟩)

end Go.Proofs.YtaebnllfmkcpgaaGreatDoor
namespace Go.Proofs.YtaebnllfmkcpgaaGreatDoor
open Go.W Go.Bk

theorem putBoats_g (b : Boats) (m : BoatsM) (hok : BoatsOk b) (D : Imm) (hL : LibD D) (hR : BoatsR D b m) (w : World) (hH : Holds D w) : Gives Tryz.prog 114 [boatsV b m] w (st (putBoats b)) := by
  unfold Gives
  obtain ⟨⟨ba, bn, bc⟩, ml⟩ := m
  have hml : ml.length = b.seen.length := hR.len
  have hRs0 : SlL D 1 (ml.map slC) ba bn := hR.sl
  obtain rfl : bn = b.seen.length := by have := hRs0.len'; omega
  have hRr : ∀ i, i < b.seen.length → SlL D 5 ((gt b.seen i).map bsC) (gt ml i).a (gt ml i).n := hR.row
  have hRn : ∀ i, i < b.seen.length → (gt ml i).n ≤ 9223372036854775807 := hR.nr
  have nb : b.seen.length ≤ 9223372036854775807 := hR.n
  refine enter Tryz.func114 rfl 63 Tryz.ntmps114 (zqb rfl) (Inv.start hH) ?_
  refine WC.seq (WC.ofFr [(0, _)] ⟨rfl, trivial⟩ (WC.region ?_))
  refine WL.so (SO.box rfl rfl) rfl ?_
  rintro _ _ _ ⟨b1, hb1, rfl, rfl, rfl⟩
  refine zya rfl rfl ?_
  refine WL.nil (WP.thenC (WC.seq (WC.ofFr [(2, _), (1, _)] ⟨rfl, rfl, trivial⟩ (WC.region ?_))))
  refine WL.yd (Yd.iface Tryz.underlying9 (by intro _ h; cases h) rfl) rfl ?_
  refine WL.yd (Yd.fieldAddr FA32_0 rfl) rfl ?_
  refine WL.yd (Yd.load1 Tryz.isAgg3 rfl (Rd.own (k := 0) rfl rfl)) rfl ?_
  refine WL.yd (Yd.iface Tryz.underlying3 (by intro _ h; cases h) rfl) rfl ?_
  refine WL.yd (Yd.iface Tryz.underlying9 (by intro _ h; cases h) rfl) rfl ?_
  refine WL.yd (Yd.fieldAddr FA32_1 rfl) rfl ?_
  refine WL.yd (Yd.load1 Tryz.isAgg3 rfl (Rd.own (k := 0) rfl rfl)) rfl ?_
  refine WL.yd (Yd.iface Tryz.underlying3 (by intro _ h; cases h) rfl) rfl ?_
  refine WL.yd (Yd.iface Tryz.underlying9 (by intro _ h; cases h) rfl) rfl ?_
  refine WL.yd (Yd.fieldAddr FA32_2 rfl) rfl ?_
  refine WL.yd (Yd.load1 Tryz.isAgg3 rfl (Rd.own (k := 0) rfl rfl)) rfl ?_
  refine WL.yd (Yd.iface Tryz.underlying3 (by intro _ h; cases h) rfl) rfl ?_
  refine WL.yd (Yd.iface Tryz.underlying9 (by intro _ h; cases h) rfl) rfl ?_
  refine WL.yd (Yd.fieldAddr FA32_3 rfl) rfl ?_
  refine WL.yd (Yd.load1 Tryz.isAgg3 rfl (Rd.own (k := 0) rfl rfl)) rfl ?_
  refine WL.yd (Yd.iface Tryz.underlying3 (by intro _ h; cases h) rfl) rfl ?_
  refine WL.yd (Yd.iface Tryz.underlying9 (by intro _ h; cases h) rfl) rfl ?_
  refine WL.so (SO.buildSlice1 Tryz.underlying208 Tryz.sizeOf20 Tryz.zeroValue20 rfl rfl rfl (vs := [_, _, _, _, _, _, _, _, _]) rfl rfl rfl) rfl ?_
  rintro _ _ _ ⟨b25, hb25, rfl, rfl, rfl⟩
  refine WL.so (SO.callP Tryz.call89 rfl (fun w hI => show Gives Tryz.prog 89 _ w (st (bT1 b 0)) from bT1_zero b ▸ join_g [.s (boatsW ++ [32]), .i b.wide, .s [120], .i b.deep, .s [32, 118], .i b.speed, .s [32, 116], .i b.last, .s [10]] _ _ _ _ (hL.ext ((DExt.refl _ D).add (hI.apart _ _ (List.mem_of_getElem? (i := 0) rfl)) hb25)) (SlL.ofBlock (l := [.s (boatsW ++ [32]), .i b.wide, .s [120], .i b.deep, .s [32, 118], .i b.speed, .s [32, 116], .i b.last, .s [10]]) (f := partC) (m := 1) (rest := []) (fun _ => rfl) (Imm.add_self _ _ _)) (oks (zqb rfl) (oks (i100 hok.n100.1) (oks (zqb rfl) (oks (i100 hok.n100.2.1) (oks (zqb rfl) (oks (i100 hok.n100.2.2.1) (oks (zqb rfl) (oks (i100 hok.n100.2.2.2) (oks (zqb rfl) (okn)))))))))) (by simp) _ (hI.freezeK 0 rfl).2.imm)) rfl ?_
  rintro _ _ _ ⟨rfl, rfl, rfl⟩
  refine zya rfl rfl ?_
  refine WL.nil (WP.thenC (WC.seq (WC.seq (WC.ofFr [(3, _), (2, _), (1, _)] ⟨rfl, rfl, rfl, trivial⟩ (WC.region ?_)))))
  refine WL.yd (Yd.fieldAddr FA32_4 rfl) rfl ?_
  refine WL.yd (Yd.load1 Tryz.isAgg30 rfl (Rd.own (k := 1) rfl rfl)) rfl ?_
  refine WL.yd (Yd.lenS rfl Tryz.underlying30 rfl) rfl ?_
  refine zym rfl rfl ?_
  refine WL.nil (WP.thenC (WC.block ?_))
  refine WC.drop 1 ?_
  refine WC.loopT [] (fun k : Nat => [(1, pt b1), (3, st (bT1 b k)), (28, .slice ba b.seen.length bc), (29, nt b.seen.length), (30, nt k)]) (fun _ => [(b1, .cells (List.toArray [it b.wide, it b.deep, it b.speed, it b.last, .slice ba b.seen.length bc]) 32 (0, 0))]) (fun k => k ≤ b.seen.length) (fun k => b.seen.length - k) 0 (Nat.zero_le _) rfl ⟨rfl, rfl, rfl, rfl, rfl, trivial⟩ ?_
  intro k hk
  have hl1 := bT1_len hok k
  refine WC.seq (WC.ofFr [(1, _), (3, _), (28, _), (29, _), (30, _)] ⟨rfl, rfl, rfl, rfl, rfl, trivial⟩ (WC.region ?_))
  refine WL.yd (Yd.lss rfl rfl) rfl ?_
  refine WL.nil (WP.thenC (WC.seq ?_))
  refine WC.cond rfl (fun c31 => ?_) (fun c31 => ?_)
  · try simp only [zq1, zq2, zq3, zq4, zq5, zq6, zq7, zq8] at c31
    have hkl : k < b.seen.length := by omega
    have hr5 := (hok.rows _ (gtB_mem hkl)).1
    refine WC.skip (WP.thenC (WC.seq (WC.block (WC.seq (WC.ofFr [(1, _), (3, _), (28, _), (29, _), (30, _)] ⟨rfl, rfl, rfl, rfl, rfl, trivial⟩ (WC.region ?_))))))
    refine WL.yd (Yd.indexS Tryz.underlying30 Tryz.sizeOf79 rfl rfl (by omega) (by omega) (by first | exact hRs0.addr k (by omega))) rfl ?_
    refine WL.yd (Yd.load1 Tryz.isAgg79 rfl ((hRs0.at k (by omega)).rd 0 rfl)) rfl ?_
    refine zya rfl rfl ?_
    refine WL.nil (WP.thenC (WC.seq (WC.ofFr [(5, _), (1, _), (3, _), (28, _), (29, _), (30, _)] ⟨rfl, rfl, rfl, rfl, rfl, rfl, trivial⟩ (WC.region ?_))))
    have hrow := hRr k hkl
    have hrn := hRn k hkl
    generalize gt ml k = q at hrow hrn ⊢
    obtain ⟨ra, rn, rc⟩ := q
    obtain rfl : rn = (gt b.seen k).length := hrow.len'
    dsimp only at hrow hrn
    have hl2 : boatW.length = 4 := rfl
    refine zym rfl rfl ?_
    refine WL.yd (Yd.addS rfl rfl (by first | omega | ((try simp only [List.length_append, List.length_cons, List.length_nil]); omega))) rfl ?_
    refine zya rfl rfl ?_
    refine WL.nil (WP.thenC (WC.seq (WC.seq (WC.ofFr [(3, _), (5, _), (1, _), (28, _), (29, _), (30, _)] ⟨rfl, rfl, rfl, rfl, rfl, rfl, trivial⟩ (WC.region ?_)))))
    skip
    refine zym rfl rfl ?_
    refine WL.yd (Yd.lenS rfl Tryz.underlying79 rfl) rfl ?_
    refine zym rfl rfl ?_
    refine WL.nil (WP.thenC (WC.block ?_))
    refine WC.loopT [] (fun j : Nat => [(1, pt b1), (3, st (bT2 b k j)), (28, .slice ba b.seen.length bc), (29, nt b.seen.length), (30, nt k), (36, .slice ra (gt b.seen k).length rc), (37, nt (gt b.seen k).length), (38, nt j)]) (fun _ => [(b1, .cells (List.toArray [it b.wide, it b.deep, it b.speed, it b.last, .slice ba b.seen.length bc]) 32 (0, 0))]) (fun j => j ≤ (gt b.seen k).length) (fun j => (gt b.seen k).length - j) 0 (Nat.zero_le _) rfl ⟨rfl, st_eq (bT2_zero b k), rfl, rfl, rfl, rfl, rfl, rfl, trivial⟩ ?_
    intro j hj
    have hl2 := bT2_len hok hkl j
    refine WC.seq (WC.ofFr [(1, _), (3, _), (28, _), (29, _), (30, _), (36, _), (37, _), (38, _)] ⟨rfl, rfl, rfl, rfl, rfl, rfl, rfl, rfl, trivial⟩ (WC.region ?_))
    refine WL.yd (Yd.lss rfl rfl) rfl ?_
    refine WL.nil (WP.thenC (WC.seq ?_))
    refine WC.cond rfl (fun c39 => ?_) (fun c39 => ?_)
    · try simp only [zq1, zq2, zq3, zq4, zq5, zq6, zq7, zq8] at c39
      have hjl : j < (gt b.seen k).length := by omega
      have hx := hok.s100 _ (gtB_mem hkl) _ (gtB_mem hjl)
      have hl3 := bseenT_len hx
      refine WC.skip (WP.thenC (WC.seq (WC.block (WC.seq (WC.ofFr [(1, _), (3, _), (28, _), (29, _), (30, _), (36, _), (37, _), (38, _)] ⟨rfl, rfl, rfl, rfl, rfl, rfl, rfl, rfl, trivial⟩ (WC.region ?_))))))
      refine WL.yd (Yd.indexS Tryz.underlying79 Tryz.sizeOf143 rfl rfl (by omega) (by omega) (by first | exact hrow.addr j (by omega))) rfl ?_
      refine WL.yd (Yd.loadN Tryz.isAgg143 Tryz.sizeOf143 rfl (vs := [_, _, _, _, _]) rfl ((hrow.at j (by omega)).rdn 0 5 rfl)) rfl ?_
      refine WL.so (SO.alloc Tryz.zeroValue143 rfl) rfl ?_
      rintro _ _ _ ⟨b7, hb7, rfl, rfl, rfl⟩
      refine WL.so (SO.store 0 rfl Tryz.sizeOf143 rfl rfl rfl rfl (zqb rfl) (oneB_spec rfl)) rfl ?_
      rintro _ _ _ ⟨rfl, rfl, rfl⟩
      refine WL.nil (WP.thenC (WC.ofFr [(7, _), (1, _), (3, _), (28, _), (29, _), (30, _), (36, _), (37, _), (38, _)] ⟨rfl, rfl, rfl, rfl, rfl, rfl, rfl, rfl, rfl, trivial⟩ (WC.region ?_)))
      refine zym rfl rfl ?_
      refine WL.yd (Yd.iface Tryz.underlying9 (by intro _ h; cases h) rfl) rfl ?_
      refine WL.yd (Yd.fieldAddr FA143_0 rfl) rfl ?_
      refine WL.yd (Yd.load1 Tryz.isAgg3 rfl (Rd.own (k := 0) rfl rfl)) rfl ?_
      refine WL.yd (Yd.iface Tryz.underlying3 (by intro _ h; cases h) rfl) rfl ?_
      refine WL.yd (Yd.iface Tryz.underlying9 (by intro _ h; cases h) rfl) rfl ?_
      refine WL.yd (Yd.fieldAddr FA143_1 rfl) rfl ?_
      refine WL.yd (Yd.loadN Tryz.isAgg114 Tryz.sizeOf114 rfl (vs := [_, _]) rfl (RdN.own (k := 0) (n := 2) rfl rfl)) rfl ?_
      refine WL.yd (Yd.iface Tryz.underlying114 (by intro _ h; cases h) rfl) rfl ?_
      refine WL.yd (Yd.iface Tryz.underlying9 (by intro _ h; cases h) rfl) rfl ?_
      refine WL.yd (Yd.fieldAddr FA143_2 rfl) rfl ?_
      refine WL.yd (Yd.loadN Tryz.isAgg114 Tryz.sizeOf114 rfl (vs := [_, _]) rfl (RdN.own (k := 0) (n := 2) rfl rfl)) rfl ?_
      refine WL.yd (Yd.iface Tryz.underlying114 (by intro _ h; cases h) rfl) rfl ?_
      refine WL.so (SO.buildSlice1 Tryz.underlying208 Tryz.sizeOf20 Tryz.zeroValue20 rfl rfl rfl (vs := [_, _, _, _, _, _]) rfl rfl rfl) rfl ?_
      rintro _ _ _ ⟨b55, hb55, rfl, rfl, rfl⟩
      refine WL.so (SO.callP Tryz.call89 rfl (fun w hI => show Gives Tryz.prog 89 _ w (st (32 :: bseenT (gt (gt b.seen k) j))) from bseen_join (gt (gt b.seen k) j) ▸ join_g [.s [32], .i (gt (gt b.seen k) j).minute, .s [64], .p (gt (gt b.seen k) j).cols, .s [44], .p (gt (gt b.seen k) j).rows] _ _ _ _ (hL.ext ((DExt.refl _ D).add (hI.apart _ _ (List.mem_of_getElem? (i := 0) rfl)) hb55)) (SlL.ofBlock (l := [.s [32], .i (gt (gt b.seen k) j).minute, .s [64], .p (gt (gt b.seen k) j).cols, .s [44], .p (gt (gt b.seen k) j).rows]) (f := partC) (m := 1) (rest := []) (fun _ => rfl) (Imm.add_self _ _ _)) (oks (zqb rfl) (oks (i100 hx.1) (oks (zqb rfl) (oks ⟨i100 hx.2.1.1, i100 hx.2.1.2⟩ (oks (zqb rfl) (oks ⟨i100 hx.2.2.1, i100 hx.2.2.2⟩ (okn))))))) (by simp) _ (hI.freezeK 0 rfl).2.imm)) rfl ?_
      rintro _ _ _ ⟨rfl, rfl, rfl⟩
      refine WL.yd (Yd.addS rfl rfl (by first | omega | ((try simp only [List.length_append, List.length_cons, List.length_nil]); omega))) rfl ?_
      refine zya rfl rfl ?_
      refine WL.nil (WP.blkNormal (WP.thenC (WC.ofFr [(3, _), (1, _), (28, _), (29, _), (30, _), (36, _), (37, _), (38, _)] ⟨rfl, rfl, rfl, rfl, rfl, rfl, rfl, rfl, trivial⟩ (WC.region ?_))))
      refine WL.yd (Yd.add rfl rfl (wr64 ⟨by omega, by omega⟩)) rfl ?_
      refine zym rfl rfl ?_
      refine WL.nil ?_
      exact WP.againT (j + 1) hjl (by omega) [_, _] _ rfl rfl ⟨rfl, st_eq (bT2_succ hjl), rfl, rfl, rfl, rfl, rfl, rfl, trivial⟩
    · try simp only [zq1, zq2, zq3, zq4, zq5, zq6, zq7, zq8] at c39
      obtain rfl : j = (gt b.seen k).length := by omega
      refine WC.exit ?_
      refine WP.thenExit ?_
      refine WP.thenExit ?_
      refine WP.blkHit ?_
      refine WP.thenC (WC.ofFr [(1, _), (3, _), (28, _), (29, _), (30, _)] ⟨rfl, rfl, rfl, rfl, rfl, trivial⟩ (WC.region ?_))
      have hl2 := bT2_len hok hkl (gt b.seen k).length
      refine zym rfl rfl ?_
      refine WL.yd (Yd.addS rfl rfl (by first | omega | ((try simp only [List.length_append, List.length_cons, List.length_nil]); omega))) rfl ?_
      refine zya rfl rfl ?_
      refine WL.nil (WP.blkNormal (WP.thenC (WC.ofFr [(3, _), (1, _), (28, _), (29, _), (30, _)] ⟨rfl, rfl, rfl, rfl, rfl, trivial⟩ (WC.region ?_))))
      refine WL.yd (Yd.add rfl rfl (wr64 ⟨by omega, by omega⟩)) rfl ?_
      refine zym rfl rfl ?_
      refine WL.nil ?_
      exact WP.againT (k + 1) hkl (by omega) [] _ rfl rfl ⟨rfl, st_eq (bT1_succ hkl), rfl, rfl, rfl, trivial⟩
  · try simp only [zq1, zq2, zq3, zq4, zq5, zq6, zq7, zq8] at c31
    obtain rfl : k = b.seen.length := by omega
    refine WC.exit ?_
    refine WP.thenExit ?_
    refine WP.thenExit ?_
    refine WP.blkHit ?_
    refine WP.thenC (WC.seq (WC.ofFr [(3, _)] ⟨rfl, trivial⟩ (WC.region ?_)))
    refine zym rfl rfl ?_
    refine zya rfl rfl ?_
    refine WL.nil (WP.thenC (WC.ret ?_))
    refine WP.ret1 rfl rfl Tryz.results114 (RV.tmp rfl) (fun w hI => ⟨by rw [bT1_fin], hI.keep⟩)

end Go.Proofs.YtaebnllfmkcpgaaGreatDoor
