import Derived.Test.YtaebnllfmkcpgaaGreatDoorXD
import Derived.Test.YtaebnllfmkcpgaaGreatDoorXE
import Derived.Test.YtaebnllfmkcpgaaGreatDoorXU
set_option linter.unusedSimpArgs false
set_option linter.unusedVariables false
set_option linter.all false
set_option maxRecDepth 100000
set_option maxHeartbeats 1000000
namespace Go.Proofs.YtaebnllfmkcpgaaGreatDoor
open Go.W Go.Bk
theorem SA136 : StructAt Tryz.prog 136 [.int .i64 0, .int .i64 0, .int .i64 0] [(0, 1), (1, 1), (2, 1)] := ⟨⟨_, Tryz.zeroValue136, rfl⟩, _, Tryz.underlying136, fun w => by simp [Tryz.sizeOf3]⟩
theorem colsP_cnt : ∀ (n : Nat) (s : Bs) (l : List Sp), colsP n s = some l → l.length ≤ s.length
  | 0, s, l, h => by cases h; simp
  | n + 1, s, l, h => by
    rw [colsP] at h
    split at h
    · cases h; simp
    · rename_i hs
      split at h
      · cases h
      · cases e : colsP n (s.drop 6) with
        | none => rw [e] at h; cases h
        | some l2 =>
          rw [e] at h; cases h
          have h1 := colsP_cnt n _ _ e
          have h2 : 0 < s.length := List.length_pos_iff.2 hs
          simp only [List.length_cons, List.length_drop] at h1 ⊢; omega
theorem columnsP_cnt {s w : Bs} {l : List Sp} (h : columnsP s w = some l) : l.length ≤ s.length := by
  unfold columnsP at h
  split at h
  · have := colsP_cnt _ _ _ h; simp at this; omega
  · cases h
theorem takenP_cnt {α : Type} {take : Bs → Option α} : ∀ (n : Nat) (s : Bs) (l : List α), takenP take n s = some l → l.length ≤ s.length
  | 0, s, l, h => by cases h; simp
  | n + 1, [], l, h => by cases h; simp
  | n + 1, c :: r, l, h => by
    rw [takenP] at h
    split at h
    · split at h
      · cases h
      · cases e : takenP take n (r.dropWhile (· != 32)) with
        | none => rw [e] at h; cases h
        | some l2 =>
          rw [e] at h; cases h
          have h1 := takenP_cnt n _ _ e
          have := tw_len r
          simp only [List.length_cons]; omega
    · cases h
theorem listP_cnt {α : Type} {take : Bs → Option α} {s w : Bs} {l : List α} (h : listP take s w = some l) : l.length ≤ s.length := by
  unfold listP at h
  split at h
  · have := takenP_cnt _ _ _ h; simp at this; omega
  · cases h
def surfTV (x : Surf) (W V : Sl) (o : Option Ow) : List Value := [it x.rows, it x.step, slV W, slV V, owV o x.huts.length]
/-- a surf that is being read: its block, and the huts' -/
structure surfH (w0 : World) (b : Nat) (k : Nat) (x : Surf) (W V : Sl) (o : Option Ow) (D : Imm) (h : Hp) : Prop where
  rw : SlL D 2 (x.water.map spC) W.a W.n
  rv : SlL D 2 (x.waves.map spC) V.a V.n
  ro : owP w0 o x.huts.length 3
  nw : W.n ≤ 2 ^ 30
  nv : V.n ≤ 2 ^ 30
  n : x.huts.length ≤ k
  e : h = (b, .cells (surfTV x W V o).toArray 25 (0, 0)) :: owH o 136 (x.huts.flatMap hutC) []
def surfT (w0 : World) (b : Nat) (k : Nat) (x : Surf) (D : Imm) (h : Hp) : Prop := ∃ W V o, surfH w0 b k x W V o D h
theorem surfT.ext {w w0 : World} {b k : Nat} {x : Surf} {D D' : Imm} {h : Hp} (hD : DExt w D D') (hS : surfT w0 b k x D h) : surfT w0 b k x D' h := by
  obtain ⟨W, V, o, hS⟩ := hS
  exact ⟨W, V, o, hS.rw.ext hD, hS.rv.ext hD, hS.ro, hS.nw, hS.nv, hS.n, hS.e⟩
/-- what a line makes of a thing that is being read; or it is refused -/
def takeK {X : Type} (T : Nat → X → Imm → Hp → Prop) (r : Option X) (k : Nat) (D : Imm) (h : Hp) : Prop := ∃ x, r = some x ∧ T (k + 1) x D h
def takeC {X : Type} (r : Option X) (ch : List PanicEntry) (_ : Imm) (h : Hp) : Prop := ch = stopB 8 ∧ r = none ∧ h = []

theorem takeSurf_g (w0 : World) (b : Nat) (x : Surf) (k : Nat) (hk : k ≤ 2 ^ 20) (l : Bs) (hl : l.length ≤ 2 ^ 20) (D : Imm) (hL : LibD D) (w1 : World) (hw : w0.heap.size ≤ w1.heap.size) (h : Hp) (hS : surfT w0 b k x D h) (hI : Inv D h (keys h) w1 w1) : AltersP Tryz.prog 91 [pt b, nt k, st l] w1 D (keys h) (takeK (surfT w0 b) (surfP x k l) k) (takeC (surfP x k l)) := by
  unfold AltersP
  obtain ⟨W, V, o, hW, hV, ho, hWn, hVn, hxn, rfl⟩ := hS
  refine enter Tryz.func91 rfl 58 Tryz.ntmps91 (zqb rfl) hI ?_
  refine WC.seq (WC.ofFr [(0, _), (1, _), (2, _)] ⟨rfl, rfl, rfl, trivial⟩ (WC.region ?_))
  refine zym rfl rfl ?_
  refine WL.nil (WP.thenC (WC.block (WC.seq (WC.ofFr [(6, _), (0, _), (2, _)] ⟨rfl, rfl, rfl, trivial⟩ (WC.region ?_)))))
  refine WL.yd (Yd.eql rfl rfl) rfl ?_
  refine zya rfl rfl ?_
  refine WL.nil (WP.thenC ?_)
  refine WC.cond rfl (fun c30 => ?_) (fun c30 => ?_)
  · try simp only [zq1, zq2, zq3, zq4, zq5, zq6, zq7, zq8] at c30
    obtain rfl : k = 0 := by omega
    refine WC.ofFr [(0, _), (2, _)] ⟨rfl, rfl, trivial⟩ (WC.region ?_)
    refine zym rfl rfl ?_
    refine zym rfl rfl ?_
    refine zym rfl rfl ?_
    refine WL.so (SO.callP Tryz.call93 rfl (fun w hI => trimP_g l surfW _)) rfl ?_
    rintro _ _ _ ⟨rfl, rfl, rfl⟩
    rcases h37 : pairP (Lib.trimPrefix l surfW) [120] with _ | p
    · refine WL.no (SO.fail (Enters.func Tryz.call92 rfl) (fun w hI => (pair_g _ _ (by have := trimP_len l surfW; omega) D hL _ hI.imm).no (by rw [h37]; rfl)) ?_)
      refine WP.blkPanic ?_
      refine WP.panicBody rfl (fun w hI => ⟨D, [], DExt.refl _ _, Inv.nil hI, .inr ⟨_, rfl, rfl, ?_, rfl⟩⟩)
      first
        | (exact (congrArg (Option.map _) h37).trans rfl)
        | (exact (congrArg (Option.map _) h48).trans rfl)
        | (exact (congrArg (Option.map _) h55).trans rfl)
        | (simp only [surfP]; rw [if_neg (by omega)])
        | (simp_all [surfP])
    · skip
      refine WL.so (SO.callP Tryz.call92 rfl (fun w hI => (pair_g _ _ (by have := trimP_len l surfW; omega) D hL _ hI.imm).ok (by rw [h37]; rfl))) rfl ?_
      rintro _ _ _ ⟨rfl, rfl, rfl⟩
      refine zym rfl rfl ?_
      refine WL.yd (Yd.extract rfl rfl) rfl ?_
      refine WL.yd (Yd.extract rfl rfl) rfl ?_
      refine WL.yd (Yd.nilCheck rfl) rfl ?_
      refine WL.yd (Yd.fieldAddr FA25_0 rfl) rfl ?_
      refine WL.so (SO.store 0 rfl Tryz.sizeOf3 rfl rfl rfl rfl (zqb rfl) (oneB_spec rfl)) rfl ?_
      rintro _ _ _ ⟨rfl, rfl, rfl⟩
      refine WL.yd (Yd.nilCheck rfl) rfl ?_
      refine WL.yd (Yd.fieldAddr FA25_1 rfl) rfl ?_
      refine WL.so (SO.store 0 rfl Tryz.sizeOf3 rfl rfl rfl rfl (zqb rfl) (oneB_spec rfl)) rfl ?_
      rintro _ _ _ ⟨rfl, rfl, rfl⟩
      refine WL.nil (WP.blkNormal ?_)
      refine WP.ret0 rfl rfl Tryz.results91  (fun w hI => ⟨_, _, DExt.refl _ _, hI, .inl ⟨_, rfl, ⟨{ x with rows := p.1, step := p.2 }, (congrArg (Option.map _) h37).trans rfl, W, V, o, hW, hV, ho, hWn, hVn, by show x.huts.length ≤ _; omega, rfl⟩⟩⟩)
  · try simp only [zq1, zq2, zq3, zq4, zq5, zq6, zq7, zq8] at c30
    refine WC.seq (WC.ofFr [(6, _), (0, _), (2, _)] ⟨rfl, rfl, rfl, trivial⟩ (WC.region ?_))
    refine WL.yd (Yd.eql rfl rfl) rfl ?_
    refine zya rfl rfl ?_
    refine WL.nil (WP.thenC ?_)
    refine WC.cond rfl (fun c44 => ?_) (fun c44 => ?_)
    · try simp only [zq1, zq2, zq3, zq4, zq5, zq6, zq7, zq8] at c44
      obtain rfl : k = 1 := by omega
      refine WC.ofFr [(0, _), (2, _)] ⟨rfl, rfl, trivial⟩ (WC.region ?_)
      refine zym rfl rfl ?_
      refine zym rfl rfl ?_
      rcases h48 : columnsP l waterW with _ | c
      · refine WL.no (SO.fail (Enters.func Tryz.call94 rfl) (fun w hI => (columns_g _ _ hl D hL _ hI.imm).no h48) ?_)
        refine WP.blkPanic ?_
        refine WP.panicBody rfl (fun w hI => ⟨D, [], DExt.refl _ _, Inv.nil hI, .inr ⟨_, rfl, rfl, ?_, rfl⟩⟩)
        first
          | (exact (congrArg (Option.map _) h37).trans rfl)
          | (exact (congrArg (Option.map _) h48).trans rfl)
          | (exact (congrArg (Option.map _) h55).trans rfl)
          | (simp only [surfP]; rw [if_neg (by omega)])
          | (simp_all [surfP])
      · skip
        refine WL.so (SO.makes (Enters.func Tryz.call94 rfl) (fun w hI => (columns_g _ _ hl D hL _ hI.imm).ok h48)) rfl ?_
        rintro _ D1 _ ⟨hX1, ⟨a1, n1, c1, rfl, hS1⟩, rfl⟩
        refine WL.yd (Yd.nilCheck rfl) rfl ?_
        refine WL.yd (Yd.fieldAddr FA25_2 rfl) rfl ?_
        refine WL.so (SO.store 0 rfl Tryz.sizeOf22 rfl rfl rfl rfl (zqb rfl) (oneB_spec rfl)) rfl ?_
        rintro _ _ _ ⟨rfl, rfl, rfl⟩
        refine WL.nil (WP.blkNormal ?_)
        refine WP.ret0 rfl rfl Tryz.results91  (fun w hI => ⟨_, _, hX1, hI, .inl ⟨_, rfl, ⟨{ x with water := c }, (congrArg (Option.map _) h48).trans rfl, ⟨a1, n1, c1⟩, V, o, hS1, hV.ext hX1, ho, by have := columnsP_cnt h48; have := hS1.len'; show n1 ≤ _; omega, hVn, by show x.huts.length ≤ _; omega, rfl⟩⟩⟩)
    · try simp only [zq1, zq2, zq3, zq4, zq5, zq6, zq7, zq8] at c44
      refine WC.seq (WC.ofFr [(6, _), (0, _), (2, _)] ⟨rfl, rfl, rfl, trivial⟩ (WC.region ?_))
      refine WL.yd (Yd.eql rfl rfl) rfl ?_
      refine zya rfl rfl ?_
      refine WL.nil (WP.thenC ?_)
      refine WC.cond rfl (fun c51 => ?_) (fun c51 => ?_)
      · try simp only [zq1, zq2, zq3, zq4, zq5, zq6, zq7, zq8] at c51
        obtain rfl : k = 2 := by omega
        refine WC.ofFr [(0, _), (2, _)] ⟨rfl, rfl, trivial⟩ (WC.region ?_)
        refine zym rfl rfl ?_
        refine zym rfl rfl ?_
        rcases h55 : columnsP l wavesW with _ | c
        · refine WL.no (SO.fail (Enters.func Tryz.call94 rfl) (fun w hI => (columns_g _ _ hl D hL _ hI.imm).no h55) ?_)
          refine WP.blkPanic ?_
          refine WP.panicBody rfl (fun w hI => ⟨D, [], DExt.refl _ _, Inv.nil hI, .inr ⟨_, rfl, rfl, ?_, rfl⟩⟩)
          first
            | (exact (congrArg (Option.map _) h37).trans rfl)
            | (exact (congrArg (Option.map _) h48).trans rfl)
            | (exact (congrArg (Option.map _) h55).trans rfl)
            | (simp only [surfP]; rw [if_neg (by omega)])
            | (simp_all [surfP])
        · skip
          refine WL.so (SO.makes (Enters.func Tryz.call94 rfl) (fun w hI => (columns_g _ _ hl D hL _ hI.imm).ok h55)) rfl ?_
          rintro _ D1 _ ⟨hX1, ⟨a1, n1, c1, rfl, hS1⟩, rfl⟩
          refine WL.yd (Yd.nilCheck rfl) rfl ?_
          refine WL.yd (Yd.fieldAddr FA25_3 rfl) rfl ?_
          refine WL.so (SO.store 0 rfl Tryz.sizeOf22 rfl rfl rfl rfl (zqb rfl) (oneB_spec rfl)) rfl ?_
          rintro _ _ _ ⟨rfl, rfl, rfl⟩
          refine WL.nil (WP.blkNormal ?_)
          refine WP.ret0 rfl rfl Tryz.results91  (fun w hI => ⟨_, _, hX1, hI, .inl ⟨_, rfl, ⟨{ x with waves := c }, (congrArg (Option.map _) h55).trans rfl, W, ⟨a1, n1, c1⟩, o, hW.ext hX1, hS1, ho, hWn, by have := columnsP_cnt h55; have := hS1.len'; show n1 ≤ _; omega, by show x.huts.length ≤ _; omega, rfl⟩⟩⟩)
      · try simp only [zq1, zq2, zq3, zq4, zq5, zq6, zq7, zq8] at c51
        obtain ⟨j, rfl⟩ : ∃ j, k = j + 3 := ⟨k - 3, by omega⟩
        refine WC.seq (WC.ofFr [(0, _), (2, _)] ⟨rfl, rfl, trivial⟩ (WC.region ?_))
        refine zym rfl rfl ?_
        refine WL.yd (Yd.lenStr rfl Tryz.underlying9 rfl) rfl ?_
        refine WL.yd (Yd.eql rfl rfl) rfl ?_
        refine WL.part 9 rfl (fun g9 => ?_) (fun g9 => ?_)
        · try simp only [zq1, zq2, zq3, zq4, zq5, zq6, zq7, zq8] at g9
          have hl11 : l.length = 11 := by omega
          refine WL.so (SO.call (Enters.func Tryz.call61 rfl) (fun w hI => must_ok _ _)) rfl ?_
          rintro _ _ _ ⟨rfl, rfl, rfl⟩
          refine WL.nil (WP.thenC (WC.ofFr [(0, _), (2, _)] ⟨rfl, rfl, trivial⟩ ?_))
          refine WC.drawH [] (by kernel_rfl) (fun _ hI => Inv.nil hI) ?_
          refine WH.yd (i := 0) (by kernel_rfl) (fun _ o v c a w _ h => (QuietPanic.blk QuietPanic.body) c o.dst v a w h) rfl (Yd.move rfl) rfl ?_
          refine WH.yd (i := 1) (by kernel_rfl) (fun _ o v c a w _ h => (QuietPanic.blk QuietPanic.body) c o.dst v a w h) rfl (Yd.move rfl) rfl ?_
          refine WH.yd (i := 2) (by kernel_rfl) (fun _ o v c a w _ h => (QuietPanic.blk QuietPanic.body) c o.dst v a w h) rfl (Yd.nilCheck rfl) rfl ?_
          refine WH.yd (i := 3) (by kernel_rfl) (fun _ o v c a w _ h => (QuietPanic.blk QuietPanic.body) c o.dst v a w h) rfl (Yd.fieldAddr FA25_4 rfl) rfl ?_
          refine WH.yd (i := 5) (by kernel_rfl) (fun _ o v c a w _ h => (QuietPanic.blk QuietPanic.body) c o.dst v a w h) rfl (Yd.move rfl) rfl ?_
          refine WH.yd (i := 6) (by kernel_rfl) (fun _ o v c a w _ h => (QuietPanic.blk QuietPanic.body) c o.dst v a w h) rfl (Yd.sliceMidS (i := 4) (j := 6) Tryz.underlying9 rfl rfl rfl (by omega) (by omega)) rfl ?_
          refine WH.yd (i := 8) (by kernel_rfl) (fun _ o v c a w _ h => (QuietPanic.blk QuietPanic.body) c o.dst v a w h) rfl (Yd.move rfl) rfl ?_
          refine WH.yd (i := 9) (by kernel_rfl) (fun _ o v c a w _ h => (QuietPanic.blk QuietPanic.body) c o.dst v a w h) rfl (Yd.sliceMidS (i := 7) (j := 9) Tryz.underlying9 rfl rfl rfl (by omega) (by omega)) rfl ?_
          refine WH.yd (i := 11) (by kernel_rfl) (fun _ o v c a w _ h => (QuietPanic.blk QuietPanic.body) c o.dst v a w h) rfl (Yd.move rfl) rfl ?_
          refine WH.yd (i := 12) (by kernel_rfl) (fun _ o v c a w _ h => (QuietPanic.blk QuietPanic.body) c o.dst v a w h) rfl (Yd.sliceFromS (i := 10) Tryz.underlying9 rfl rfl (by omega)) rfl ?_
          refine WH.two (i := 4) (j := 7) (by kernel_rfl) ?_ ?_
          · refine WHo.yd rfl (Yd.load1 Tryz.isAgg23 rfl (by first | exact ro0 rfl rfl)) rfl ?_
            rcases h18 : numP ((l.drop 4).take 2) with _ | n1
            · refine WH.one (i := 7) (by kernel_rfl) (WHo.no rfl (SO.fail (Enters.func Tryz.call95 rfl) (fun w hI => (number_g _ (by simp; omega) D hL _ hI.imm).no (by rw [h18]; rfl)) ?_))
              refine WP.blkPanic ?_
              refine WP.panicBody rfl (fun w hI => ⟨D, [], DExt.refl _ _, Inv.nil hI, .inr ⟨_, rfl, rfl, ?_, rfl⟩⟩)
              first
                | (exact (congrArg (Option.map _) h37).trans rfl)
                | (exact (congrArg (Option.map _) h48).trans rfl)
                | (exact (congrArg (Option.map _) h55).trans rfl)
                | (simp only [surfP]; rw [if_neg (by omega)])
                | (simp_all [surfP])
            · skip
              refine WH.one (i := 7) (by kernel_rfl) (WHo.so rfl (SO.callP Tryz.call95 rfl (fun w hI => (number_g _ (by simp; omega) D hL _ hI.imm).ok (by rw [h18]; rfl))) rfl ?_)
              rintro _ _ _ ⟨rfl, rfl, rfl⟩
              refine ⟨(fun _ hI => Inv.nil hI), ?_⟩
              rcases h21 : numP ((l.drop 7).take 2) with _ | n2
              · refine WH.one (i := 10) (by kernel_rfl) (WHo.no rfl (SO.fail (Enters.func Tryz.call95 rfl) (fun w hI => (number_g _ (by simp; omega) D hL _ hI.imm).no (by rw [h21]; rfl)) ?_))
                refine WP.blkPanic ?_
                refine WP.panicBody rfl (fun w hI => ⟨D, [], DExt.refl _ _, Inv.nil hI, .inr ⟨_, rfl, rfl, ?_, rfl⟩⟩)
                first
                  | (exact (congrArg (Option.map _) h37).trans rfl)
                  | (exact (congrArg (Option.map _) h48).trans rfl)
                  | (exact (congrArg (Option.map _) h55).trans rfl)
                  | (simp only [surfP]; rw [if_neg (by omega)])
                  | (simp_all [surfP])
              · skip
                refine WH.one (i := 10) (by kernel_rfl) (WHo.so rfl (SO.callP Tryz.call95 rfl (fun w hI => (number_g _ (by simp; omega) D hL _ hI.imm).ok (by rw [h21]; rfl))) rfl ?_)
                rintro _ _ _ ⟨rfl, rfl, rfl⟩
                refine ⟨(fun _ hI => Inv.nil hI), ?_⟩
                rcases h24 : numP (l.drop 10) with _ | n3
                · refine WH.one (i := 13) (by kernel_rfl) (WHo.no rfl (SO.fail (Enters.func Tryz.call95 rfl) (fun w hI => (number_g _ (by simp; omega) D hL _ hI.imm).no (by rw [h24]; rfl)) ?_))
                  refine WP.blkPanic ?_
                  refine WP.panicBody rfl (fun w hI => ⟨D, [], DExt.refl _ _, Inv.nil hI, .inr ⟨_, rfl, rfl, ?_, rfl⟩⟩)
                  first
                    | (exact (congrArg (Option.map _) h37).trans rfl)
                    | (exact (congrArg (Option.map _) h48).trans rfl)
                    | (exact (congrArg (Option.map _) h55).trans rfl)
                    | (simp only [surfP]; rw [if_neg (by omega)])
                    | (simp_all [surfP])
                · skip
                  refine WH.one (i := 13) (by kernel_rfl) (WHo.so rfl (SO.callP Tryz.call95 rfl (fun w hI => (number_g _ (by simp; omega) D hL _ hI.imm).ok (by rw [h24]; rfl))) rfl ?_)
                  rintro _ _ _ ⟨rfl, rfl, rfl⟩
                  refine ⟨(fun _ hI => Inv.nil hI), ?_⟩
                  refine WH.yd (i := 14) (by kernel_rfl) (fun _ o v c a w _ h => (QuietPanic.blk QuietPanic.body) c o.dst v a w h) rfl (Yd.build SA136 rfl (cs := [_, _, _]) rfl) rfl ?_
                  refine WH.one (i := 15) (by kernel_rfl) (WHo.so rfl (SO.buildSlice Tryz.underlying23 Tryz.sizeOf136 Tryz.zeroValue136 rfl rfl rfl rfl (cs := [_, _, _]) rfl) rfl ?_)
                  rintro _ _ _ ⟨b26, hb26, rfl, rfl, rfl⟩
                  refine ⟨(fun _ hI => Inv.nil hI), ?_⟩
                  refine WH.one (i := 16) (by kernel_rfl) (WHo.so rfl (SO.appendOwW (W := w0) hw (o := o) (len := x.huts.length) (n := 1) (xs := (x.huts.flatMap hutC)) (size := 3) [_] [_] [] rfl rfl Tryz.underlying23 Tryz.sizeOf136 Tryz.typeInfo136 Tryz.zeroValue136 rfl rfl rfl rfl ⟨rfl, .inr ⟨_, _, _, rfl, RdN.own (k := 0) (n := 3) rfl rfl⟩⟩ (oneB_spec rfl) ho (flat_len hutC_len _) (by omega) (by show (2 * (_ + _) + 1000) * 24 ≤ 2 ^ 48; omega) (by omega)) rfl ?_)
                  rintro _ _ _ ⟨u1, hu1, rfl, rfl, rfl⟩
                  refine ⟨(fun _ hI => Inv.nil hI), ?_⟩
                  refine WH.yd (i := 17) (by kernel_rfl) (fun _ o v c a w _ h => (QuietPanic.blk QuietPanic.body) c o.dst v a w h) rfl (Yd.nilCheck rfl) rfl ?_
                  refine WH.yd (i := 18) (by kernel_rfl) (fun _ o v c a w _ h => (QuietPanic.blk QuietPanic.body) c o.dst v a w h) rfl (Yd.fieldAddr FA25_4 rfl) rfl ?_
                  refine WH.one (i := 19) (by kernel_rfl) (WHo.so rfl (SO.store 0 rfl Tryz.sizeOf23 rfl rfl rfl rfl (zqb rfl) (oneB_spec rfl)) rfl ?_)
                  rintro _ _ _ ⟨rfl, rfl, rfl⟩
                  refine ⟨(fun _ hI => Inv.nil hI), ?_⟩
                  refine WH.nil (by kernel_rfl) ?_
                  refine WP.blkNormal ?_
                  refine WP.ret0 rfl rfl Tryz.results91  (fun w hI => ⟨_, _, DExt.refl _ _, hI, .inl ⟨_, rfl, ⟨{ x with huts := x.huts ++ [⟨n1, n2, n3⟩] }, by simp only [surfP]; rw [if_pos hl11, h18, h21, h24], W, V, some u1, hW, hV, by simpa using hu1, hWn, hVn, by simp; omega, by show _ = (b, Obj.cells (List.toArray [it x.rows, it x.step, slV W, slV V, owV (some u1) (x.huts ++ [_]).length]) _ _) :: owH (some u1) _ ((x.huts ++ [_]).flatMap hutC) []; rw [List.flatMap_append, List.length_append]; rfl⟩⟩⟩)
          · rcases h18 : numP ((l.drop 4).take 2) with _ | n1
            · refine WHo.no rfl (SO.fail (Enters.func Tryz.call95 rfl) (fun w hI => (number_g _ (by simp; omega) D hL _ hI.imm).no (by rw [h18]; rfl)) ?_)
              refine WP.blkPanic ?_
              refine WP.panicBody rfl (fun w hI => ⟨D, [], DExt.refl _ _, Inv.nil hI, .inr ⟨_, rfl, rfl, ?_, rfl⟩⟩)
              first
                | (exact (congrArg (Option.map _) h37).trans rfl)
                | (exact (congrArg (Option.map _) h48).trans rfl)
                | (exact (congrArg (Option.map _) h55).trans rfl)
                | (simp only [surfP]; rw [if_neg (by omega)])
                | (simp_all [surfP])
            · skip
              refine WHo.so rfl (SO.callP Tryz.call95 rfl (fun w hI => (number_g _ (by simp; omega) D hL _ hI.imm).ok (by rw [h18]; rfl))) rfl ?_
              rintro _ _ _ ⟨rfl, rfl, rfl⟩
              refine ⟨(fun _ hI => Inv.nil hI), ?_⟩
              refine WH.two (i := 4) (j := 10) (by kernel_rfl) ?_ ?_
              · refine WHo.yd rfl (Yd.load1 Tryz.isAgg23 rfl (by first | exact ro0 rfl rfl)) rfl ?_
                rcases h21 : numP ((l.drop 7).take 2) with _ | n2
                · refine WH.one (i := 10) (by kernel_rfl) (WHo.no rfl (SO.fail (Enters.func Tryz.call95 rfl) (fun w hI => (number_g _ (by simp; omega) D hL _ hI.imm).no (by rw [h21]; rfl)) ?_))
                  refine WP.blkPanic ?_
                  refine WP.panicBody rfl (fun w hI => ⟨D, [], DExt.refl _ _, Inv.nil hI, .inr ⟨_, rfl, rfl, ?_, rfl⟩⟩)
                  first
                    | (exact (congrArg (Option.map _) h37).trans rfl)
                    | (exact (congrArg (Option.map _) h48).trans rfl)
                    | (exact (congrArg (Option.map _) h55).trans rfl)
                    | (simp only [surfP]; rw [if_neg (by omega)])
                    | (simp_all [surfP])
                · skip
                  refine WH.one (i := 10) (by kernel_rfl) (WHo.so rfl (SO.callP Tryz.call95 rfl (fun w hI => (number_g _ (by simp; omega) D hL _ hI.imm).ok (by rw [h21]; rfl))) rfl ?_)
                  rintro _ _ _ ⟨rfl, rfl, rfl⟩
                  refine ⟨(fun _ hI => Inv.nil hI), ?_⟩
                  rcases h24 : numP (l.drop 10) with _ | n3
                  · refine WH.one (i := 13) (by kernel_rfl) (WHo.no rfl (SO.fail (Enters.func Tryz.call95 rfl) (fun w hI => (number_g _ (by simp; omega) D hL _ hI.imm).no (by rw [h24]; rfl)) ?_))
                    refine WP.blkPanic ?_
                    refine WP.panicBody rfl (fun w hI => ⟨D, [], DExt.refl _ _, Inv.nil hI, .inr ⟨_, rfl, rfl, ?_, rfl⟩⟩)
                    first
                      | (exact (congrArg (Option.map _) h37).trans rfl)
                      | (exact (congrArg (Option.map _) h48).trans rfl)
                      | (exact (congrArg (Option.map _) h55).trans rfl)
                      | (simp only [surfP]; rw [if_neg (by omega)])
                      | (simp_all [surfP])
                  · skip
                    refine WH.one (i := 13) (by kernel_rfl) (WHo.so rfl (SO.callP Tryz.call95 rfl (fun w hI => (number_g _ (by simp; omega) D hL _ hI.imm).ok (by rw [h24]; rfl))) rfl ?_)
                    rintro _ _ _ ⟨rfl, rfl, rfl⟩
                    refine ⟨(fun _ hI => Inv.nil hI), ?_⟩
                    refine WH.yd (i := 14) (by kernel_rfl) (fun _ o v c a w _ h => (QuietPanic.blk QuietPanic.body) c o.dst v a w h) rfl (Yd.build SA136 rfl (cs := [_, _, _]) rfl) rfl ?_
                    refine WH.one (i := 15) (by kernel_rfl) (WHo.so rfl (SO.buildSlice Tryz.underlying23 Tryz.sizeOf136 Tryz.zeroValue136 rfl rfl rfl rfl (cs := [_, _, _]) rfl) rfl ?_)
                    rintro _ _ _ ⟨b26, hb26, rfl, rfl, rfl⟩
                    refine ⟨(fun _ hI => Inv.nil hI), ?_⟩
                    refine WH.one (i := 16) (by kernel_rfl) (WHo.so rfl (SO.appendOwW (W := w0) hw (o := o) (len := x.huts.length) (n := 1) (xs := (x.huts.flatMap hutC)) (size := 3) [_] [_] [] rfl rfl Tryz.underlying23 Tryz.sizeOf136 Tryz.typeInfo136 Tryz.zeroValue136 rfl rfl rfl rfl ⟨rfl, .inr ⟨_, _, _, rfl, RdN.own (k := 0) (n := 3) rfl rfl⟩⟩ (oneB_spec rfl) ho (flat_len hutC_len _) (by omega) (by show (2 * (_ + _) + 1000) * 24 ≤ 2 ^ 48; omega) (by omega)) rfl ?_)
                    rintro _ _ _ ⟨u1, hu1, rfl, rfl, rfl⟩
                    refine ⟨(fun _ hI => Inv.nil hI), ?_⟩
                    refine WH.yd (i := 17) (by kernel_rfl) (fun _ o v c a w _ h => (QuietPanic.blk QuietPanic.body) c o.dst v a w h) rfl (Yd.nilCheck rfl) rfl ?_
                    refine WH.yd (i := 18) (by kernel_rfl) (fun _ o v c a w _ h => (QuietPanic.blk QuietPanic.body) c o.dst v a w h) rfl (Yd.fieldAddr FA25_4 rfl) rfl ?_
                    refine WH.one (i := 19) (by kernel_rfl) (WHo.so rfl (SO.store 0 rfl Tryz.sizeOf23 rfl rfl rfl rfl (zqb rfl) (oneB_spec rfl)) rfl ?_)
                    rintro _ _ _ ⟨rfl, rfl, rfl⟩
                    refine ⟨(fun _ hI => Inv.nil hI), ?_⟩
                    refine WH.nil (by kernel_rfl) ?_
                    refine WP.blkNormal ?_
                    refine WP.ret0 rfl rfl Tryz.results91  (fun w hI => ⟨_, _, DExt.refl _ _, hI, .inl ⟨_, rfl, ⟨{ x with huts := x.huts ++ [⟨n1, n2, n3⟩] }, by simp only [surfP]; rw [if_pos hl11, h18, h21, h24], W, V, some u1, hW, hV, by simpa using hu1, hWn, hVn, by simp; omega, by show _ = (b, Obj.cells (List.toArray [it x.rows, it x.step, slV W, slV V, owV (some u1) (x.huts ++ [_]).length]) _ _) :: owH (some u1) _ ((x.huts ++ [_]).flatMap hutC) []; rw [List.flatMap_append, List.length_append]; rfl⟩⟩⟩)
              · rcases h21 : numP ((l.drop 7).take 2) with _ | n2
                · refine WHo.no rfl (SO.fail (Enters.func Tryz.call95 rfl) (fun w hI => (number_g _ (by simp; omega) D hL _ hI.imm).no (by rw [h21]; rfl)) ?_)
                  refine WP.blkPanic ?_
                  refine WP.panicBody rfl (fun w hI => ⟨D, [], DExt.refl _ _, Inv.nil hI, .inr ⟨_, rfl, rfl, ?_, rfl⟩⟩)
                  first
                    | (exact (congrArg (Option.map _) h37).trans rfl)
                    | (exact (congrArg (Option.map _) h48).trans rfl)
                    | (exact (congrArg (Option.map _) h55).trans rfl)
                    | (simp only [surfP]; rw [if_neg (by omega)])
                    | (simp_all [surfP])
                · skip
                  refine WHo.so rfl (SO.callP Tryz.call95 rfl (fun w hI => (number_g _ (by simp; omega) D hL _ hI.imm).ok (by rw [h21]; rfl))) rfl ?_
                  rintro _ _ _ ⟨rfl, rfl, rfl⟩
                  refine ⟨(fun _ hI => Inv.nil hI), ?_⟩
                  refine WH.two (i := 4) (j := 13) (by kernel_rfl) ?_ ?_
                  · refine WHo.yd rfl (Yd.load1 Tryz.isAgg23 rfl (by first | exact ro0 rfl rfl)) rfl ?_
                    rcases h24 : numP (l.drop 10) with _ | n3
                    · refine WH.one (i := 13) (by kernel_rfl) (WHo.no rfl (SO.fail (Enters.func Tryz.call95 rfl) (fun w hI => (number_g _ (by simp; omega) D hL _ hI.imm).no (by rw [h24]; rfl)) ?_))
                      refine WP.blkPanic ?_
                      refine WP.panicBody rfl (fun w hI => ⟨D, [], DExt.refl _ _, Inv.nil hI, .inr ⟨_, rfl, rfl, ?_, rfl⟩⟩)
                      first
                        | (exact (congrArg (Option.map _) h37).trans rfl)
                        | (exact (congrArg (Option.map _) h48).trans rfl)
                        | (exact (congrArg (Option.map _) h55).trans rfl)
                        | (simp only [surfP]; rw [if_neg (by omega)])
                        | (simp_all [surfP])
                    · skip
                      refine WH.one (i := 13) (by kernel_rfl) (WHo.so rfl (SO.callP Tryz.call95 rfl (fun w hI => (number_g _ (by simp; omega) D hL _ hI.imm).ok (by rw [h24]; rfl))) rfl ?_)
                      rintro _ _ _ ⟨rfl, rfl, rfl⟩
                      refine ⟨(fun _ hI => Inv.nil hI), ?_⟩
                      refine WH.yd (i := 14) (by kernel_rfl) (fun _ o v c a w _ h => (QuietPanic.blk QuietPanic.body) c o.dst v a w h) rfl (Yd.build SA136 rfl (cs := [_, _, _]) rfl) rfl ?_
                      refine WH.one (i := 15) (by kernel_rfl) (WHo.so rfl (SO.buildSlice Tryz.underlying23 Tryz.sizeOf136 Tryz.zeroValue136 rfl rfl rfl rfl (cs := [_, _, _]) rfl) rfl ?_)
                      rintro _ _ _ ⟨b26, hb26, rfl, rfl, rfl⟩
                      refine ⟨(fun _ hI => Inv.nil hI), ?_⟩
                      refine WH.one (i := 16) (by kernel_rfl) (WHo.so rfl (SO.appendOwW (W := w0) hw (o := o) (len := x.huts.length) (n := 1) (xs := (x.huts.flatMap hutC)) (size := 3) [_] [_] [] rfl rfl Tryz.underlying23 Tryz.sizeOf136 Tryz.typeInfo136 Tryz.zeroValue136 rfl rfl rfl rfl ⟨rfl, .inr ⟨_, _, _, rfl, RdN.own (k := 0) (n := 3) rfl rfl⟩⟩ (oneB_spec rfl) ho (flat_len hutC_len _) (by omega) (by show (2 * (_ + _) + 1000) * 24 ≤ 2 ^ 48; omega) (by omega)) rfl ?_)
                      rintro _ _ _ ⟨u1, hu1, rfl, rfl, rfl⟩
                      refine ⟨(fun _ hI => Inv.nil hI), ?_⟩
                      refine WH.yd (i := 17) (by kernel_rfl) (fun _ o v c a w _ h => (QuietPanic.blk QuietPanic.body) c o.dst v a w h) rfl (Yd.nilCheck rfl) rfl ?_
                      refine WH.yd (i := 18) (by kernel_rfl) (fun _ o v c a w _ h => (QuietPanic.blk QuietPanic.body) c o.dst v a w h) rfl (Yd.fieldAddr FA25_4 rfl) rfl ?_
                      refine WH.one (i := 19) (by kernel_rfl) (WHo.so rfl (SO.store 0 rfl Tryz.sizeOf23 rfl rfl rfl rfl (zqb rfl) (oneB_spec rfl)) rfl ?_)
                      rintro _ _ _ ⟨rfl, rfl, rfl⟩
                      refine ⟨(fun _ hI => Inv.nil hI), ?_⟩
                      refine WH.nil (by kernel_rfl) ?_
                      refine WP.blkNormal ?_
                      refine WP.ret0 rfl rfl Tryz.results91  (fun w hI => ⟨_, _, DExt.refl _ _, hI, .inl ⟨_, rfl, ⟨{ x with huts := x.huts ++ [⟨n1, n2, n3⟩] }, by simp only [surfP]; rw [if_pos hl11, h18, h21, h24], W, V, some u1, hW, hV, by simpa using hu1, hWn, hVn, by simp; omega, by show _ = (b, Obj.cells (List.toArray [it x.rows, it x.step, slV W, slV V, owV (some u1) (x.huts ++ [_]).length]) _ _) :: owH (some u1) _ ((x.huts ++ [_]).flatMap hutC) []; rw [List.flatMap_append, List.length_append]; rfl⟩⟩⟩)
                  · rcases h24 : numP (l.drop 10) with _ | n3
                    · refine WHo.no rfl (SO.fail (Enters.func Tryz.call95 rfl) (fun w hI => (number_g _ (by simp; omega) D hL _ hI.imm).no (by rw [h24]; rfl)) ?_)
                      refine WP.blkPanic ?_
                      refine WP.panicBody rfl (fun w hI => ⟨D, [], DExt.refl _ _, Inv.nil hI, .inr ⟨_, rfl, rfl, ?_, rfl⟩⟩)
                      first
                        | (exact (congrArg (Option.map _) h37).trans rfl)
                        | (exact (congrArg (Option.map _) h48).trans rfl)
                        | (exact (congrArg (Option.map _) h55).trans rfl)
                        | (simp only [surfP]; rw [if_neg (by omega)])
                        | (simp_all [surfP])
                    · skip
                      refine WHo.so rfl (SO.callP Tryz.call95 rfl (fun w hI => (number_g _ (by simp; omega) D hL _ hI.imm).ok (by rw [h24]; rfl))) rfl ?_
                      rintro _ _ _ ⟨rfl, rfl, rfl⟩
                      refine ⟨(fun _ hI => Inv.nil hI), ?_⟩
                      refine WH.yd (i := 14) (by kernel_rfl) (fun _ o v c a w _ h => (QuietPanic.blk QuietPanic.body) c o.dst v a w h) rfl (Yd.build SA136 rfl (cs := [_, _, _]) rfl) rfl ?_
                      refine WH.two (i := 4) (j := 15) (by kernel_rfl) ?_ ?_
                      · refine WHo.yd rfl (Yd.load1 Tryz.isAgg23 rfl (by first | exact ro0 rfl rfl)) rfl ?_
                        refine WH.one (i := 15) (by kernel_rfl) (WHo.so rfl (SO.buildSlice Tryz.underlying23 Tryz.sizeOf136 Tryz.zeroValue136 rfl rfl rfl rfl (cs := [_, _, _]) rfl) rfl ?_)
                        rintro _ _ _ ⟨b26, hb26, rfl, rfl, rfl⟩
                        refine ⟨(fun _ hI => Inv.nil hI), ?_⟩
                        refine WH.one (i := 16) (by kernel_rfl) (WHo.so rfl (SO.appendOwW (W := w0) hw (o := o) (len := x.huts.length) (n := 1) (xs := (x.huts.flatMap hutC)) (size := 3) [_] [_] [] rfl rfl Tryz.underlying23 Tryz.sizeOf136 Tryz.typeInfo136 Tryz.zeroValue136 rfl rfl rfl rfl ⟨rfl, .inr ⟨_, _, _, rfl, RdN.own (k := 0) (n := 3) rfl rfl⟩⟩ (oneB_spec rfl) ho (flat_len hutC_len _) (by omega) (by show (2 * (_ + _) + 1000) * 24 ≤ 2 ^ 48; omega) (by omega)) rfl ?_)
                        rintro _ _ _ ⟨u1, hu1, rfl, rfl, rfl⟩
                        refine ⟨(fun _ hI => Inv.nil hI), ?_⟩
                        refine WH.yd (i := 17) (by kernel_rfl) (fun _ o v c a w _ h => (QuietPanic.blk QuietPanic.body) c o.dst v a w h) rfl (Yd.nilCheck rfl) rfl ?_
                        refine WH.yd (i := 18) (by kernel_rfl) (fun _ o v c a w _ h => (QuietPanic.blk QuietPanic.body) c o.dst v a w h) rfl (Yd.fieldAddr FA25_4 rfl) rfl ?_
                        refine WH.one (i := 19) (by kernel_rfl) (WHo.so rfl (SO.store 0 rfl Tryz.sizeOf23 rfl rfl rfl rfl (zqb rfl) (oneB_spec rfl)) rfl ?_)
                        rintro _ _ _ ⟨rfl, rfl, rfl⟩
                        refine ⟨(fun _ hI => Inv.nil hI), ?_⟩
                        refine WH.nil (by kernel_rfl) ?_
                        refine WP.blkNormal ?_
                        refine WP.ret0 rfl rfl Tryz.results91  (fun w hI => ⟨_, _, DExt.refl _ _, hI, .inl ⟨_, rfl, ⟨{ x with huts := x.huts ++ [⟨n1, n2, n3⟩] }, by simp only [surfP]; rw [if_pos hl11, h18, h21, h24], W, V, some u1, hW, hV, by simpa using hu1, hWn, hVn, by simp; omega, by show _ = (b, Obj.cells (List.toArray [it x.rows, it x.step, slV W, slV V, owV (some u1) (x.huts ++ [_]).length]) _ _) :: owH (some u1) _ ((x.huts ++ [_]).flatMap hutC) []; rw [List.flatMap_append, List.length_append]; rfl⟩⟩⟩)
                      · refine WHo.so rfl (SO.buildSlice Tryz.underlying23 Tryz.sizeOf136 Tryz.zeroValue136 rfl rfl rfl rfl (cs := [_, _, _]) rfl) rfl ?_
                        rintro _ _ _ ⟨b26, hb26, rfl, rfl, rfl⟩
                        refine ⟨(fun _ hI => Inv.nil hI), ?_⟩
                        refine WH.one (i := 4) (by kernel_rfl) (WHo.yd rfl (Yd.load1 Tryz.isAgg23 rfl (by first | exact ro0 rfl rfl | exact ro1 rfl rfl)) rfl ?_)
                        refine WH.one (i := 16) (by kernel_rfl) (WHo.so rfl (SO.appendOwW (W := w0) hw (o := o) (len := x.huts.length) (n := 1) (xs := (x.huts.flatMap hutC)) (size := 3) [_] [_] [] rfl rfl Tryz.underlying23 Tryz.sizeOf136 Tryz.typeInfo136 Tryz.zeroValue136 rfl rfl rfl rfl ⟨rfl, .inr ⟨_, _, _, rfl, RdN.own (k := 0) (n := 3) rfl rfl⟩⟩ (oneB_spec rfl) ho (flat_len hutC_len _) (by omega) (by show (2 * (_ + _) + 1000) * 24 ≤ 2 ^ 48; omega) (by omega)) rfl ?_)
                        rintro _ _ _ ⟨u1, hu1, rfl, rfl, rfl⟩
                        refine ⟨(fun _ hI => Inv.nil hI), ?_⟩
                        refine WH.yd (i := 17) (by kernel_rfl) (fun _ o v c a w _ h => (QuietPanic.blk QuietPanic.body) c o.dst v a w h) rfl (Yd.nilCheck rfl) rfl ?_
                        refine WH.yd (i := 18) (by kernel_rfl) (fun _ o v c a w _ h => (QuietPanic.blk QuietPanic.body) c o.dst v a w h) rfl (Yd.fieldAddr FA25_4 rfl) rfl ?_
                        refine WH.one (i := 19) (by kernel_rfl) (WHo.so rfl (SO.store 0 rfl Tryz.sizeOf23 rfl rfl rfl rfl (zqb rfl) (oneB_spec rfl)) rfl ?_)
                        rintro _ _ _ ⟨rfl, rfl, rfl⟩
                        refine ⟨(fun _ hI => Inv.nil hI), ?_⟩
                        refine WH.nil (by kernel_rfl) ?_
                        refine WP.blkNormal ?_
                        refine WP.ret0 rfl rfl Tryz.results91  (fun w hI => ⟨_, _, DExt.refl _ _, hI, .inl ⟨_, rfl, ⟨{ x with huts := x.huts ++ [⟨n1, n2, n3⟩] }, by simp only [surfP]; rw [if_pos hl11, h18, h21, h24], W, V, some u1, hW, hV, by simpa using hu1, hWn, hVn, by simp; omega, by show _ = (b, Obj.cells (List.toArray [it x.rows, it x.step, slV W, slV V, owV (some u1) (x.huts ++ [_]).length]) _ _) :: owH (some u1) _ ((x.huts ++ [_]).flatMap hutC) []; rw [List.flatMap_append, List.length_append]; rfl⟩⟩⟩)
        · try simp only [zq1, zq2, zq3, zq4, zq5, zq6, zq7, zq8] at g9
          refine WL.no (SO.fail (Enters.func Tryz.call61 rfl) (fun w hI => must_no _ _) ?_)
          refine WP.thenPanic ?_
          refine WP.blkPanic ?_
          refine WP.panicBody rfl (fun w hI => ⟨D, [], DExt.refl _ _, Inv.nil hI, .inr ⟨_, rfl, rfl, ?_, rfl⟩⟩)
          first
            | (exact (congrArg (Option.map _) h37).trans rfl)
            | (exact (congrArg (Option.map _) h48).trans rfl)
            | (exact (congrArg (Option.map _) h55).trans rfl)
            | (simp only [surfP]; rw [if_neg (by omega)])
            | (simp_all [surfP])

end Go.Proofs.YtaebnllfmkcpgaaGreatDoor
namespace Go.Proofs.YtaebnllfmkcpgaaGreatDoor
open Go.W Go.Bk
theorem SA168 : StructAt Tryz.prog 168 [.nilFunc] [(0, 1)] := ⟨⟨_, Tryz.zeroValue168, rfl⟩, _, Tryz.underlying168, fun w => by simp [Tryz.sizeOf166]⟩
theorem SA174 : StructAt Tryz.prog 174 [.nilFunc] [(0, 1)] := ⟨⟨_, Tryz.zeroValue174, rfl⟩, _, Tryz.underlying174, fun w => by simp [Tryz.sizeOf172]⟩
def flagTV (x : Flag) (H S : Sl) : List Value := [it x.low, it x.high, it x.quiet, slV H, slV S]
structure flagH (b : Nat) (x : Flag) (H S : Sl) (D : Imm) (h : Hp) : Prop where
  rh : SlL D 3 (x.hours.map hourC) H.a H.n
  rs : SlL D 2 (x.seen.map seenC) S.a S.n
  nh : H.n ≤ 2 ^ 30
  ns : S.n ≤ 2 ^ 30
  e : h = [(b, .cells (flagTV x H S).toArray 29 (0, 0))]
def flagT (_ : World) (b : Nat) (_ : Nat) (x : Flag) (D : Imm) (h : Hp) : Prop := ∃ H S, flagH b x H S D h
theorem flagT.ext {w w0 : World} {b k : Nat} {x : Flag} {D D' : Imm} {h : Hp} (hD : DExt w D D') (hS : flagT w0 b k x D h) : flagT w0 b k x D' h := by
  obtain ⟨H, S, hS⟩ := hS
  exact ⟨H, S, hS.rh.ext hD, hS.rs.ext hD, hS.nh, hS.ns, hS.e⟩

theorem takeFlag_g (w0 : World) (b : Nat) (x : Flag) (k : Nat) (hk : k ≤ 2 ^ 20) (l : Bs) (hl : l.length ≤ 2 ^ 20) (D : Imm) (hL : LibD D) (w1 : World) (hw : w0.heap.size ≤ w1.heap.size) (h : Hp) (hS : flagT w0 b k x D h) (hI : Inv D h (keys h) w1 w1) : AltersP Tryz.prog 101 [pt b, nt k, st l] w1 D (keys h) (takeK (flagT w0 b) (flagP x k l) k) (takeC (flagP x k l)) := by
  unfold AltersP
  obtain ⟨H, S, hH, hS, hHn, hSn, rfl⟩ := hS
  refine enter Tryz.func101 rfl 54 Tryz.ntmps101 (zqb rfl) hI ?_
  refine WC.seq (WC.ofFr [(0, _), (1, _), (2, _)] ⟨rfl, rfl, rfl, trivial⟩ (WC.region ?_))
  refine zym rfl rfl ?_
  refine WL.nil (WP.thenC (WC.block (WC.seq (WC.ofFr [(9, _), (0, _), (2, _)] ⟨rfl, rfl, rfl, trivial⟩ (WC.region ?_)))))
  refine WL.yd (Yd.eql rfl rfl) rfl ?_
  refine zya rfl rfl ?_
  refine WL.nil (WP.thenC ?_)
  refine WC.cond rfl (fun c11 => ?_) (fun c11 => ?_)
  · try simp only [zq1, zq2, zq3, zq4, zq5, zq6, zq7, zq8] at c11
    obtain rfl : k = 0 := by omega
    refine WC.seq (WC.ofFr [(0, _), (2, _)] ⟨rfl, rfl, trivial⟩ (WC.region ?_))
    refine zym rfl rfl ?_
    refine WL.so (SO.callP Tryz.call93 rfl (fun w hI => trimP_g l flagW _)) rfl ?_
    rintro _ _ _ ⟨rfl, rfl, rfl⟩
    refine WL.so (SO.callP Tryz.call102 rfl (fun w hI => cut_g _ [45] (by have := trimP_len l flagW; omega) D hL _ hI.imm)) rfl ?_
    rintro _ _ _ ⟨rfl, rfl, rfl⟩
    refine zym rfl rfl ?_
    refine WL.yd (Yd.extract rfl rfl) rfl ?_
    refine WL.yd (Yd.extract rfl rfl) rfl ?_
    refine WL.yd (Yd.extract rfl rfl) rfl ?_
    refine zya rfl rfl ?_
    refine zya rfl rfl ?_
    refine zya rfl rfl ?_
    refine WL.nil (WP.thenC (WC.seq (WC.ofFr [(8, _), (7, _), (6, _), (0, _)] ⟨rfl, rfl, rfl, rfl, trivial⟩ (WC.region ?_))))
    refine zym rfl rfl ?_
    refine WL.part 20 rfl (fun g20 => ?_) (fun g20 => ?_)
    · try simp only [zq1, zq2, zq3, zq4, zq5, zq6, zq7, zq8] at g20
      refine WL.so (SO.call (Enters.func Tryz.call61 rfl) (fun w hI => must_ok _ _)) rfl ?_
      rintro _ _ _ ⟨rfl, rfl, rfl⟩
      refine WL.nil (WP.thenC (WC.seq (WC.ofFr [(7, _), (6, _), (0, _)] ⟨rfl, rfl, rfl, trivial⟩ (WC.region ?_))))
      have hc1 := trimP_len l flagW
      have hc2 := cut_len (Lib.trimPrefix l flagW) [45]
      refine zym rfl rfl ?_
      refine zym rfl rfl ?_
      rcases h24 : numP (Lib.cut (Lib.trimPrefix l flagW) [45]).1 with _ | n1
      · refine WL.no (SO.fail (Enters.func Tryz.call95 rfl) (fun w hI => (number_g _ (by omega) D hL _ hI.imm).no (by rw [h24]; rfl)) ?_)
        refine WP.thenPanic ?_
        refine WP.blkPanic ?_
        refine WP.panicBody rfl (fun w hI => ⟨D, [], DExt.refl _ _, Inv.nil hI, .inr ⟨_, rfl, rfl, ?_, rfl⟩⟩)
        first
          | (exact (congrArg (Option.map _) h43).trans rfl)
          | (exact (congrArg (Option.map _) h51).trans rfl)
          | (simp_all [flagP])
          | (rfl)
      · skip
        refine WL.so (SO.callP Tryz.call95 rfl (fun w hI => (number_g _ (by omega) D hL _ hI.imm).ok (by rw [h24]; rfl))) rfl ?_
        rintro _ _ _ ⟨rfl, rfl, rfl⟩
        refine WL.yd (Yd.nilCheck rfl) rfl ?_
        refine WL.yd (Yd.fieldAddr FA29_0 rfl) rfl ?_
        refine WL.so (SO.store 0 rfl Tryz.sizeOf3 rfl rfl rfl rfl (zqb rfl) (oneB_spec rfl)) rfl ?_
        rintro _ _ _ ⟨rfl, rfl, rfl⟩
        refine WL.nil (WP.thenC (WC.ofFr [(7, _), (0, _)] ⟨rfl, rfl, trivial⟩ (WC.region ?_)))
        refine zym rfl rfl ?_
        refine zym rfl rfl ?_
        refine zym rfl rfl ?_
        rcases h31 : pairP (Lib.cut (Lib.trimPrefix l flagW) [45]).2.1 [47] with _ | p
        · refine WL.no (SO.fail (Enters.func Tryz.call92 rfl) (fun w hI => (pair_g _ _ (by omega) D hL _ hI.imm).no (by rw [h31]; rfl)) ?_)
          refine WP.blkPanic ?_
          refine WP.panicBody rfl (fun w hI => ⟨D, [], DExt.refl _ _, Inv.nil hI, .inr ⟨_, rfl, rfl, ?_, rfl⟩⟩)
          first
            | (exact (congrArg (Option.map _) h43).trans rfl)
            | (exact (congrArg (Option.map _) h51).trans rfl)
            | (simp_all [flagP])
            | (rfl)
        · skip
          refine WL.so (SO.callP Tryz.call92 rfl (fun w hI => (pair_g _ _ (by omega) D hL _ hI.imm).ok (by rw [h31]; rfl))) rfl ?_
          rintro _ _ _ ⟨rfl, rfl, rfl⟩
          refine zym rfl rfl ?_
          refine WL.yd (Yd.extract rfl rfl) rfl ?_
          refine WL.yd (Yd.extract rfl rfl) rfl ?_
          refine WL.yd (Yd.nilCheck rfl) rfl ?_
          refine WL.yd (Yd.fieldAddr FA29_1 rfl) rfl ?_
          refine WL.so (SO.store 0 rfl Tryz.sizeOf3 rfl rfl rfl rfl (zqb rfl) (oneB_spec rfl)) rfl ?_
          rintro _ _ _ ⟨rfl, rfl, rfl⟩
          refine WL.yd (Yd.nilCheck rfl) rfl ?_
          refine WL.yd (Yd.fieldAddr FA29_2 rfl) rfl ?_
          refine WL.so (SO.store 0 rfl Tryz.sizeOf3 rfl rfl rfl rfl (zqb rfl) (oneB_spec rfl)) rfl ?_
          rintro _ _ _ ⟨rfl, rfl, rfl⟩
          refine WL.nil (WP.blkNormal ?_)
          refine WP.ret0 rfl rfl Tryz.results101  (fun w hI => ⟨_, _, DExt.refl _ _, hI, .inl ⟨_, rfl, ⟨{ x with low := n1, high := p.1, quiet := p.2 }, by simp_all [flagP], H, S, hH, hS, hHn, hSn, rfl⟩⟩⟩)
    · try simp only [zq1, zq2, zq3, zq4, zq5, zq6, zq7, zq8] at g20
      refine WL.no (SO.fail (Enters.func Tryz.call61 rfl) (fun w hI => must_no _ _) ?_)
      refine WP.thenPanic ?_
      refine WP.blkPanic ?_
      refine WP.panicBody rfl (fun w hI => ⟨D, [], DExt.refl _ _, Inv.nil hI, .inr ⟨_, rfl, rfl, ?_, rfl⟩⟩)
      first
        | (exact (congrArg (Option.map _) h43).trans rfl)
        | (exact (congrArg (Option.map _) h51).trans rfl)
        | (simp_all [flagP])
        | (rfl)
  · try simp only [zq1, zq2, zq3, zq4, zq5, zq6, zq7, zq8] at c11
    refine WC.seq (WC.ofFr [(9, _), (0, _), (2, _)] ⟨rfl, rfl, rfl, trivial⟩ (WC.region ?_))
    refine WL.yd (Yd.eql rfl rfl) rfl ?_
    refine zya rfl rfl ?_
    refine WL.nil (WP.thenC ?_)
    refine WC.cond rfl (fun c38 => ?_) (fun c38 => ?_)
    · try simp only [zq1, zq2, zq3, zq4, zq5, zq6, zq7, zq8] at c38
      obtain rfl : k = 1 := by omega
      refine WC.ofFr [(0, _), (2, _)] ⟨rfl, rfl, trivial⟩ (WC.region ?_)
      refine zym rfl rfl ?_
      refine zym rfl rfl ?_
      refine WL.yd (Yd.build SA168 rfl (cs := [_]) rfl) rfl ?_
      rcases h43 : listP hourP l hoursW with _ | c
      · refine WL.no (SO.fail (Enters.func Tryz.call103 rfl) (fun w hI => (taken_hour _ _ hl 104 _ D _ hI.imm Tryz.call104 (fun p hp w' hH' => hourP_g p hp D hL w' hH')).no h43) ?_)
        refine WP.blkPanic ?_
        refine WP.panicBody rfl (fun w hI => ⟨D, [], DExt.refl _ _, Inv.nil hI, .inr ⟨_, rfl, rfl, ?_, rfl⟩⟩)
        first
          | (exact (congrArg (Option.map _) h43).trans rfl)
          | (exact (congrArg (Option.map _) h51).trans rfl)
          | (simp_all [flagP])
          | (rfl)
      · skip
        refine WL.so (SO.makes (Enters.func Tryz.call103 rfl) (fun w hI => (taken_hour _ _ hl 104 _ D _ hI.imm Tryz.call104 (fun p hp w' hH' => hourP_g p hp D hL w' hH')).ok h43)) rfl ?_
        rintro _ D1 _ ⟨hX1, ⟨a1, n1, c1, rfl, hS1⟩, rfl⟩
        refine WL.yd (Yd.nilCheck rfl) rfl ?_
        refine WL.yd (Yd.fieldAddr FA29_3 rfl) rfl ?_
        refine WL.so (SO.store 0 rfl Tryz.sizeOf26 rfl rfl rfl rfl (zqb rfl) (oneB_spec rfl)) rfl ?_
        rintro _ _ _ ⟨rfl, rfl, rfl⟩
        refine WL.nil (WP.blkNormal ?_)
        refine WP.ret0 rfl rfl Tryz.results101  (fun w hI => ⟨_, _, hX1, hI, .inl ⟨_, rfl, ⟨{ x with hours := c }, (congrArg (Option.map _) h43).trans rfl, ⟨a1, n1, c1⟩, S, hS1, hS.ext hX1, by have := listP_cnt h43; have := hS1.len'; show n1 ≤ _; omega, hSn, rfl⟩⟩⟩)
    · try simp only [zq1, zq2, zq3, zq4, zq5, zq6, zq7, zq8] at c38
      refine WC.seq (WC.ofFr [(9, _), (0, _), (2, _)] ⟨rfl, rfl, rfl, trivial⟩ (WC.region ?_))
      refine WL.yd (Yd.eql rfl rfl) rfl ?_
      refine zya rfl rfl ?_
      refine WL.nil (WP.thenC ?_)
      refine WC.cond rfl (fun c46 => ?_) (fun c46 => ?_)
      · try simp only [zq1, zq2, zq3, zq4, zq5, zq6, zq7, zq8] at c46
        obtain rfl : k = 2 := by omega
        refine WC.ofFr [(0, _), (2, _)] ⟨rfl, rfl, trivial⟩ (WC.region ?_)
        refine zym rfl rfl ?_
        refine zym rfl rfl ?_
        refine WL.yd (Yd.build SA174 rfl (cs := [_]) rfl) rfl ?_
        rcases h51 : listP fseenP l seenW with _ | c
        · refine WL.no (SO.fail (Enters.func Tryz.call108 rfl) (fun w hI => (taken_fseen _ _ hl 109 _ D _ hI.imm Tryz.call109 (fun p hp w' hH' => fseenP_g p hp D hL w' hH')).no h51) ?_)
          refine WP.blkPanic ?_
          refine WP.panicBody rfl (fun w hI => ⟨D, [], DExt.refl _ _, Inv.nil hI, .inr ⟨_, rfl, rfl, ?_, rfl⟩⟩)
          first
            | (exact (congrArg (Option.map _) h43).trans rfl)
            | (exact (congrArg (Option.map _) h51).trans rfl)
            | (simp_all [flagP])
            | (rfl)
        · skip
          refine WL.so (SO.makes (Enters.func Tryz.call108 rfl) (fun w hI => (taken_fseen _ _ hl 109 _ D _ hI.imm Tryz.call109 (fun p hp w' hH' => fseenP_g p hp D hL w' hH')).ok h51)) rfl ?_
          rintro _ D1 _ ⟨hX1, ⟨a1, n1, c1, rfl, hS1⟩, rfl⟩
          refine WL.yd (Yd.nilCheck rfl) rfl ?_
          refine WL.yd (Yd.fieldAddr FA29_4 rfl) rfl ?_
          refine WL.so (SO.store 0 rfl Tryz.sizeOf27 rfl rfl rfl rfl (zqb rfl) (oneB_spec rfl)) rfl ?_
          rintro _ _ _ ⟨rfl, rfl, rfl⟩
          refine WL.nil (WP.blkNormal ?_)
          refine WP.ret0 rfl rfl Tryz.results101  (fun w hI => ⟨_, _, hX1, hI, .inl ⟨_, rfl, ⟨{ x with seen := c }, (congrArg (Option.map _) h51).trans rfl, H, ⟨a1, n1, c1⟩, hH.ext hX1, hS1, hHn, by have := listP_cnt h51; have := hS1.len'; show n1 ≤ _; omega, rfl⟩⟩⟩)
      · try simp only [zq1, zq2, zq3, zq4, zq5, zq6, zq7, zq8] at c46
        obtain ⟨j, rfl⟩ : ∃ j, k = j + 3 := ⟨k - 3, by omega⟩
        refine WC.ofFr [] trivial (WC.region ?_)
        refine WL.no (SO.fail (Enters.func Tryz.call61 rfl) (fun w hI => must_no _ _) ?_)
        refine WP.blkPanic ?_
        refine WP.panicBody rfl (fun w hI => ⟨D, [], DExt.refl _ _, Inv.nil hI, .inr ⟨_, rfl, rfl, ?_, rfl⟩⟩)
        first
          | (exact (congrArg (Option.map _) h43).trans rfl)
          | (exact (congrArg (Option.map _) h51).trans rfl)
          | (simp_all [flagP])
          | (rfl)

end Go.Proofs.YtaebnllfmkcpgaaGreatDoor
namespace Go.Proofs.YtaebnllfmkcpgaaGreatDoor
open Go.W Go.Bk
theorem SA181 : StructAt Tryz.prog 181 [.nilFunc] [(0, 1)] := ⟨⟨_, Tryz.zeroValue181, rfl⟩, _, Tryz.underlying181, fun w => by simp [Tryz.sizeOf179]⟩
def boatsTV (x : Boats) (o : Option Ow) : List Value := [it x.wide, it x.deep, it x.speed, it x.last, owV o x.seen.length]
structure boatsH (w0 : World) (b : Nat) (k : Nat) (x : Boats) (M : List Sl) (o : Option Ow) (D : Imm) (h : Hp) : Prop where
  len : M.length = x.seen.length
  row : ∀ i, i < x.seen.length → SlL D 5 ((gt x.seen i).map bsC) (gt M i).a (gt M i).n ∧ (gt M i).n ≤ 2 ^ 30
  ro : owP w0 o x.seen.length 1
  n : x.seen.length ≤ k
  e : h = (b, .cells (boatsTV x o).toArray 32 (0, 0)) :: owH o 79 (M.flatMap slC) []
theorem slC_len : ∀ s, (slC s).length = 1 := fun _ => rfl
def boatsT (w0 : World) (b : Nat) (k : Nat) (x : Boats) (D : Imm) (h : Hp) : Prop := ∃ M o, boatsH w0 b k x M o D h
theorem boatsT.ext {w w0 : World} {b k : Nat} {x : Boats} {D D' : Imm} {h : Hp} (hD : DExt w D D') (hS : boatsT w0 b k x D h) : boatsT w0 b k x D' h := by
  obtain ⟨M, o, hS⟩ := hS
  exact ⟨M, o, hS.len, fun i hi => ⟨(hS.row i hi).1.ext hD, (hS.row i hi).2⟩, hS.ro, hS.n, hS.e⟩
theorem splitK_le (c : UInt8) : ∀ (k : Nat) (s p : Bs), p ∈ Lib.splitK [c] 0 k s → p.length ≤ s.length
  | 0, s, p, h => by
    simp only [Lib.splitK, List.mem_singleton] at h
    rw [h]; exact Nat.le_refl _
  | k + 1, s, p, h => by
    rw [Lib.splitK] at h
    split at h
    · simp only [List.mem_singleton] at h
      rw [h]; exact Nat.le_refl _
    · rcases List.mem_cons.1 h with rfl | h
      · simp; omega
      · have := splitK_le c k _ p h
        simp at this; omega
theorem split_le {s p : Bs} (h : p ∈ Lib.split s [32]) : p.length ≤ s.length := splitK_le 32 _ _ _ h
theorem len_four {α : Type} : ∀ {l : List α}, l.length = 4 → ∃ a b c d, l = [a, b, c, d]
  | [a, b, c, d], _ => ⟨a, b, c, d, rfl⟩
theorem boatsP_four {x : Boats} {l : Bs} (h : ¬ (Lib.split l [32]).length = 4) : boatsP x 0 l = none := by
  simp only [boatsP]
  split
  · rename_i e; rw [e] at h; exact absurd rfl h
  · rfl
theorem gt_last {α : Type} [Inhabited α] (l : List α) (x : α) : gt (l ++ [x]) l.length = x := by simp [gt, List.getD]
theorem gt_left {α : Type} [Inhabited α] {l : List α} {x : α} {i : Nat} (h : i < l.length) : gt (l ++ [x]) i = gt l i := by
  simp only [gt, List.getD]; rw [List.getElem?_append_left h]
theorem row_snoc {D : Imm} {seen : List (List BSeen)} {M : List Sl} {c : List BSeen} {s : Sl} (hM : M.length = seen.length) (hr : ∀ i, i < seen.length → SlL D 5 ((gt seen i).map bsC) (gt M i).a (gt M i).n ∧ (gt M i).n ≤ 2 ^ 30) (hs : SlL D 5 (c.map bsC) s.a s.n) (hn : s.n ≤ 2 ^ 30) :
    ∀ i, i < (seen ++ [c]).length → SlL D 5 ((gt (seen ++ [c]) i).map bsC) (gt (M ++ [s]) i).a (gt (M ++ [s]) i).n ∧ (gt (M ++ [s]) i).n ≤ 2 ^ 30 := fun i hi => by
  rw [List.length_append, List.length_singleton] at hi
  rcases Nat.lt_or_ge i seen.length with h1 | h1
  · rw [gt_left h1, gt_left (by omega)]; exact hr i h1
  · obtain rfl : i = seen.length := by omega
    have e : gt (M ++ [s]) seen.length = s := by rw [← hM]; exact gt_last M s
    rw [gt_last, e]; exact ⟨hs, hn⟩

theorem takeBoats_g (w0 : World) (b : Nat) (x : Boats) (k : Nat) (hk : k ≤ 2 ^ 20) (l : Bs) (hl : l.length ≤ 2 ^ 20) (D : Imm) (hL : LibD D) (w1 : World) (hw : w0.heap.size ≤ w1.heap.size) (h : Hp) (hS : boatsT w0 b k x D h) (hI : Inv D h (keys h) w1 w1) : AltersP Tryz.prog 116 [pt b, nt k, st l] w1 D (keys h) (takeK (boatsT w0 b) (boatsP x k l) k) (takeC (boatsP x k l)) := by
  unfold AltersP
  obtain ⟨M, o, hM, hr, ho, hxn, rfl⟩ := hS
  refine enter Tryz.func116 rfl 56 Tryz.ntmps116 (zqb rfl) hI ?_
  refine WC.seq (WC.seq (WC.ofFr [(0, _), (1, _), (2, _)] ⟨rfl, rfl, rfl, trivial⟩ (WC.region ?_)))
  refine zym rfl rfl ?_
  refine WL.yd (Yd.eql rfl rfl) rfl ?_
  refine WL.nil (WP.thenC ?_)
  refine WC.cond rfl (fun c8 => ?_) (fun c8 => ?_)
  · try simp only [zq1, zq2, zq3, zq4, zq5, zq6, zq7, zq8] at c8
    obtain rfl : k = 0 := by omega
    refine WC.seq (WC.ofFr [(0, _), (2, _)] ⟨rfl, rfl, trivial⟩ (WC.region ?_))
    refine zym rfl rfl ?_
    refine WL.so (SO.makes (Enters.func Tryz.call117 rfl) (fun w hI => split_g l 32 hl D hL _ hI.imm)) rfl ?_
    rintro _ D1 _ ⟨hX1, ⟨a1, n1, c1, rfl, hS1⟩, rfl⟩
    refine zya rfl rfl ?_
    refine WL.nil (WP.thenC (WC.seq (WC.ofFr [(6, _), (0, _), (2, _)] ⟨rfl, rfl, rfl, trivial⟩ (WC.region ?_))))
    refine zym rfl rfl ?_
    refine WL.yd (Yd.lenS rfl Tryz.underlying76 rfl) rfl ?_
    refine WL.yd (Yd.eql rfl rfl) rfl ?_
    refine WL.part 13 rfl (fun g13 => ?_) (fun g13 => ?_)
    · try simp only [zq1, zq2, zq3, zq4, zq5, zq6, zq7, zq8] at g13
      refine WL.so (SO.call (Enters.func Tryz.call61 rfl) (fun w hI => must_ok _ _)) rfl ?_
      rintro _ _ _ ⟨rfl, rfl, rfl⟩
      refine WL.nil (WP.thenC (WC.seq (WC.ofFr [(6, _), (0, _), (2, _)] ⟨rfl, rfl, rfl, trivial⟩ (WC.region ?_))))
      obtain ⟨q0, q1, q2, q3, hsp⟩ := len_four (l := Lib.split l [32]) (by have := hS1.len'; omega)
      have hq : ∀ p ∈ [q0, q1, q2, q3], p.length ≤ l.length := fun p hp => split_le (hsp ▸ hp)
      have hq1 := hq q1 (by simp)
      have hq2 := hq q2 (by simp)
      have hq3 := hq q3 (by simp)
      rw [hsp] at hS1
      obtain rfl : n1 = 4 := hS1.len'
      refine zym rfl rfl ?_
      refine zym rfl rfl ?_
      refine zym rfl rfl ?_
      refine WL.yd (Yd.indexS Tryz.underlying76 Tryz.sizeOf9 rfl rfl (by omega) (by omega) (by first | exact hS1.addr 1 (by omega))) rfl ?_
      refine WL.yd (Yd.load1 Tryz.isAgg9 rfl (by first | exact ro0 rfl rfl | exact ((hS1.at 1 (by omega)).rd 0 (v := st q1) rfl))) rfl ?_
      rcases h21 : pairP q1 [120] with _ | p
      · refine WL.no (SO.fail (Enters.func Tryz.call92 rfl) (fun w hI => (pair_g q1 _ (by omega) D1 (hL.ext hX1) _ hI.imm).no (by rw [h21]; rfl)) ?_)
        refine WP.thenPanic ?_
        refine WP.thenPanic ?_
        refine WP.panicBody rfl (fun w hI => ⟨_, [], (by first | exact hX1 | exact DExt.refl _ _), Inv.nil hI, .inr ⟨_, rfl, rfl, ?_, rfl⟩⟩)
        first
          | (exact (congrArg (Option.map _) h51).trans rfl)
          | (exact boatsP_four (by have := hS1.len'; omega))
          | (simp only [boatsP]; rw [hsp]; simp_all)
      · skip
        refine WL.so (SO.callP Tryz.call92 rfl (fun w hI => (pair_g q1 _ (by omega) D1 (hL.ext hX1) _ hI.imm).ok (by rw [h21]; rfl))) rfl ?_
        rintro _ _ _ ⟨rfl, rfl, rfl⟩
        refine zym rfl rfl ?_
        refine WL.yd (Yd.extract rfl rfl) rfl ?_
        refine WL.yd (Yd.extract rfl rfl) rfl ?_
        refine WL.yd (Yd.nilCheck rfl) rfl ?_
        refine WL.yd (Yd.fieldAddr FA32_0 rfl) rfl ?_
        refine WL.so (SO.store 0 rfl Tryz.sizeOf3 rfl rfl rfl rfl (zqb rfl) (oneB_spec rfl)) rfl ?_
        rintro _ _ _ ⟨rfl, rfl, rfl⟩
        refine WL.yd (Yd.nilCheck rfl) rfl ?_
        refine WL.yd (Yd.fieldAddr FA32_1 rfl) rfl ?_
        refine WL.so (SO.store 0 rfl Tryz.sizeOf3 rfl rfl rfl rfl (zqb rfl) (oneB_spec rfl)) rfl ?_
        rintro _ _ _ ⟨rfl, rfl, rfl⟩
        refine WL.nil (WP.thenC (WC.seq (WC.ofFr [(6, _), (0, _), (2, _)] ⟨rfl, rfl, rfl, trivial⟩ ?_)))
        refine WC.drawO [] [(0, true), (1, true), (2, true), (3, true), (4, true), (7, true), (8, true), (9, true), (5, false), (6, false), (10, false), (11, false), (12, true), (13, true), (14, false), (15, true), (16, true), (17, false)] (by kernel_rfl) (by kernel_rfl) (QuietPanic.then (QuietPanic.then QuietPanic.body)) (fun _ hI => Inv.nil hI) ?_
        refine WA.yd rfl (Yd.move rfl) rfl ?_
        refine WA.yd rfl (Yd.move rfl) rfl ?_
        refine WA.yd rfl (Yd.move rfl) rfl ?_
        refine WA.yd rfl (Yd.indexS Tryz.underlying76 Tryz.sizeOf9 rfl rfl (by omega) (by omega) (by first | exact hS1.addr 2 (by omega) | exact hS1.addr 3 (by omega))) rfl ?_
        refine WA.yd rfl (Yd.load1 Tryz.isAgg9 rfl (by first | exact ro0 rfl rfl | exact ((hS1.at 2 (by omega)).rd 0 (v := st q2) rfl) | exact ((hS1.at 3 (by omega)).rd 0 (v := st q3) rfl))) rfl ?_
        refine WA.yd rfl (Yd.move rfl) rfl ?_
        refine WA.yd rfl (Yd.indexS Tryz.underlying76 Tryz.sizeOf9 rfl rfl (by omega) (by omega) (by first | exact hS1.addr 2 (by omega) | exact hS1.addr 3 (by omega))) rfl ?_
        refine WA.yd rfl (Yd.load1 Tryz.isAgg9 rfl (by first | exact ro0 rfl rfl | exact ((hS1.at 2 (by omega)).rd 0 (v := st q2) rfl) | exact ((hS1.at 3 (by omega)).rd 0 (v := st q3) rfl))) rfl ?_
        refine WA.so rfl (SO.callP Tryz.call93 rfl (fun w hI => trimP_g _ [118] _)) rfl ?_
        rintro _ _ _ ⟨rfl, rfl, rfl⟩
        refine ⟨fun _ hI => Inv.nil hI, ?_⟩
        rcases h34 : numP (Lib.trimPrefix q2 [118]) with _ | n2
        · refine WA.no rfl (SO.fail (Enters.func Tryz.call95 rfl) (fun w hI => (number_g _ (by have := trimP_len q2 [118]; omega) D1 (hL.ext hX1) _ hI.imm).no (by rw [h34]; rfl)) ?_)
          refine WP.thenPanic ?_
          refine WP.thenPanic ?_
          refine WP.panicBody rfl (fun w hI => ⟨_, [], (by first | exact hX1 | exact DExt.refl _ _), Inv.nil hI, .inr ⟨_, rfl, rfl, ?_, rfl⟩⟩)
          first
            | (exact (congrArg (Option.map _) h51).trans rfl)
            | (exact boatsP_four (by have := hS1.len'; omega))
            | (simp only [boatsP]; rw [hsp]; simp_all)
        · skip
          refine WA.so rfl (SO.callP Tryz.call95 rfl (fun w hI => (number_g _ (by have := trimP_len q2 [118]; omega) D1 (hL.ext hX1) _ hI.imm).ok (by rw [h34]; rfl))) rfl ?_
          rintro _ _ _ ⟨rfl, rfl, rfl⟩
          refine ⟨fun _ hI => Inv.nil hI, ?_⟩
          refine WA.so rfl (SO.callP Tryz.call93 rfl (fun w hI => trimP_g _ [116] _)) rfl ?_
          rintro _ _ _ ⟨rfl, rfl, rfl⟩
          refine ⟨fun _ hI => Inv.nil hI, ?_⟩
          rcases h39 : numP (Lib.trimPrefix q3 [116]) with _ | n3
          · refine WA.no rfl (SO.fail (Enters.func Tryz.call95 rfl) (fun w hI => (number_g _ (by have := trimP_len q3 [116]; omega) D1 (hL.ext hX1) _ hI.imm).no (by rw [h39]; rfl)) ?_)
            refine WP.thenPanic ?_
            refine WP.thenPanic ?_
            refine WP.panicBody rfl (fun w hI => ⟨_, [], (by first | exact hX1 | exact DExt.refl _ _), Inv.nil hI, .inr ⟨_, rfl, rfl, ?_, rfl⟩⟩)
            first
              | (exact (congrArg (Option.map _) h51).trans rfl)
              | (exact boatsP_four (by have := hS1.len'; omega))
              | (simp only [boatsP]; rw [hsp]; simp_all)
          · skip
            refine WA.so rfl (SO.callP Tryz.call95 rfl (fun w hI => (number_g _ (by have := trimP_len q3 [116]; omega) D1 (hL.ext hX1) _ hI.imm).ok (by rw [h39]; rfl))) rfl ?_
            rintro _ _ _ ⟨rfl, rfl, rfl⟩
            refine ⟨fun _ hI => Inv.nil hI, ?_⟩
            refine WA.yd rfl (Yd.nilCheck rfl) rfl ?_
            refine WA.yd rfl (Yd.fieldAddr FA32_2 rfl) rfl ?_
            refine WA.so rfl (SO.store 0 rfl Tryz.sizeOf3 rfl rfl rfl rfl (zqb rfl) (oneB_spec rfl)) rfl ?_
            rintro _ _ _ ⟨rfl, rfl, rfl⟩
            refine ⟨fun _ hI => Inv.nil hI, ?_⟩
            refine WA.yd rfl (Yd.nilCheck rfl) rfl ?_
            refine WA.yd rfl (Yd.fieldAddr FA32_3 rfl) rfl ?_
            refine WA.so rfl (SO.store 0 rfl Tryz.sizeOf3 rfl rfl rfl rfl (zqb rfl) (oneB_spec rfl)) rfl ?_
            rintro _ _ _ ⟨rfl, rfl, rfl⟩
            refine ⟨fun _ hI => Inv.nil hI, ?_⟩
            refine WA.nil (WP.thenC (WC.ret (WP.thenRet ?_)))
            refine WP.ret0 rfl rfl Tryz.results116  (fun w hI => ⟨_, _, hX1, hI, .inl ⟨_, rfl, ⟨{ x with wide := p.1, deep := p.2, speed := n2, last := n3 }, by simp only [boatsP]; rw [hsp]; simp_all, M, o, hM, fun i hi => ⟨(hr i hi).1.ext hX1, (hr i hi).2⟩, ho, by show x.seen.length ≤ _; omega, rfl⟩⟩⟩)
    · try simp only [zq1, zq2, zq3, zq4, zq5, zq6, zq7, zq8] at g13
      refine WL.no (SO.fail (Enters.func Tryz.call61 rfl) (fun w hI => must_no _ _) ?_)
      refine WP.thenPanic ?_
      refine WP.thenPanic ?_
      refine WP.panicBody rfl (fun w hI => ⟨_, [], (by first | exact hX1 | exact DExt.refl _ _), Inv.nil hI, .inr ⟨_, rfl, rfl, ?_, rfl⟩⟩)
      first
        | (exact (congrArg (Option.map _) h51).trans rfl)
        | (exact boatsP_four (by have := hS1.len'; omega))
        | (simp only [boatsP]; rw [hsp]; simp_all)
  · try simp only [zq1, zq2, zq3, zq4, zq5, zq6, zq7, zq8] at c8
    obtain ⟨j, rfl⟩ : ∃ j, k = j + 1 := ⟨k - 1, by omega⟩
    refine WC.skip (WP.thenC (WC.ofFr [(0, _), (2, _)] ⟨rfl, rfl, trivial⟩ ?_))
    refine WC.drawH [] (by kernel_rfl) (fun _ hI => Inv.nil hI) ?_
    refine WH.yd (i := 0) (by kernel_rfl) (fun _ o v c a w _ h => QuietPanic.body c o.dst v a w h) rfl (Yd.move rfl) rfl ?_
    refine WH.yd (i := 1) (by kernel_rfl) (fun _ o v c a w _ h => QuietPanic.body c o.dst v a w h) rfl (Yd.move rfl) rfl ?_
    refine WH.yd (i := 2) (by kernel_rfl) (fun _ o v c a w _ h => QuietPanic.body c o.dst v a w h) rfl (Yd.nilCheck rfl) rfl ?_
    refine WH.yd (i := 3) (by kernel_rfl) (fun _ o v c a w _ h => QuietPanic.body c o.dst v a w h) rfl (Yd.fieldAddr FA32_4 rfl) rfl ?_
    refine WH.yd (i := 5) (by kernel_rfl) (fun _ o v c a w _ h => QuietPanic.body c o.dst v a w h) rfl (Yd.move rfl) rfl ?_
    refine WH.yd (i := 6) (by kernel_rfl) (fun _ o v c a w _ h => QuietPanic.body c o.dst v a w h) rfl (Yd.build SA181 rfl (cs := [_]) rfl) rfl ?_
    refine WH.two (i := 4) (j := 7) (by kernel_rfl) ?_ ?_
    · refine WHo.yd rfl (Yd.load1 Tryz.isAgg30 rfl (by first | exact ro0 rfl rfl | exact ((hS1.at 2 (by omega)).rd 0 (v := st q2) rfl) | exact ((hS1.at 3 (by omega)).rd 0 (v := st q3) rfl))) rfl ?_
      rcases h51 : listP bseenP l boatW with _ | c
      · refine WH.one (i := 7) (by kernel_rfl) (WHo.no rfl (SO.fail (Enters.func Tryz.call118 rfl) (fun w hI => (taken_bseen _ _ hl 119 _ D _ hI.imm Tryz.call119 (fun p hp w' hH' => bseenP_g p hp D hL w' hH')).no h51) ?_))
        refine WP.panicBody rfl (fun w hI => ⟨_, [], (by first | exact hX1 | exact DExt.refl _ _), Inv.nil hI, .inr ⟨_, rfl, rfl, ?_, rfl⟩⟩)
        first
          | (exact (congrArg (Option.map _) h51).trans rfl)
          | (exact boatsP_four (by have := hS1.len'; omega))
          | (simp only [boatsP]; rw [hsp]; simp_all)
      · skip
        refine WH.one (i := 7) (by kernel_rfl) (WHo.so rfl (SO.makes (Enters.func Tryz.call118 rfl) (fun w hI => (taken_bseen _ _ hl 119 _ D _ hI.imm Tryz.call119 (fun p hp w' hH' => bseenP_g p hp D hL w' hH')).ok h51)) rfl ?_)
        rintro _ D1 _ ⟨hX1, ⟨a1, n1, c1, rfl, hS1⟩, rfl⟩
        refine ⟨(fun _ hI => (Inv.nil hI).shrink hX1.old), ?_⟩
        refine WH.one (i := 8) (by kernel_rfl) (WHo.so rfl (SO.buildSlice1 Tryz.underlying30 Tryz.sizeOf79 Tryz.zeroValue79 rfl rfl rfl (vs := [_]) rfl rfl rfl) rfl ?_)
        rintro _ _ _ ⟨b52, hb52, rfl, rfl, rfl⟩
        refine ⟨(fun _ hI => (Inv.nil hI).shrink hX1.old), ?_⟩
        refine WH.one (i := 9) (by kernel_rfl) (WHo.so rfl (SO.appendOwW (W := w0) hw (o := o) (len := x.seen.length) (n := 1) (xs := (M.flatMap slC)) (size := 1) [_] [_] [] rfl rfl Tryz.underlying30 Tryz.sizeOf79 Tryz.typeInfo79 Tryz.zeroValue79 rfl rfl rfl rfl ⟨rfl, .inr ⟨_, _, _, rfl, RdN.own (k := 0) (n := 1) rfl rfl⟩⟩ (oneB_spec rfl) ho (by rw [flat_len slC_len, hM]) (by omega) (by show (2 * (_ + _) + 1000) * 24 ≤ 2 ^ 48; omega) (by omega)) rfl ?_)
        rintro _ _ _ ⟨u1, hu1, rfl, rfl, rfl⟩
        refine ⟨(fun _ hI => (Inv.nil hI).shrink hX1.old), ?_⟩
        refine WH.yd (i := 10) (by kernel_rfl) (fun _ o v c a w _ h => QuietPanic.body c o.dst v a w h) rfl (Yd.nilCheck rfl) rfl ?_
        refine WH.yd (i := 11) (by kernel_rfl) (fun _ o v c a w _ h => QuietPanic.body c o.dst v a w h) rfl (Yd.fieldAddr FA32_4 rfl) rfl ?_
        refine WH.one (i := 12) (by kernel_rfl) (WHo.so rfl (SO.store 0 rfl Tryz.sizeOf30 rfl rfl rfl rfl (zqb rfl) (oneB_spec rfl)) rfl ?_)
        rintro _ _ _ ⟨rfl, rfl, rfl⟩
        refine ⟨(fun _ hI => (Inv.nil hI).shrink hX1.old), ?_⟩
        refine WH.nil (by kernel_rfl) ?_
        refine WP.ret0 rfl rfl Tryz.results116  (fun w hI => ⟨_, _, hX1, hI, .inl ⟨_, rfl, ⟨{ x with seen := x.seen ++ [c] }, (congrArg (Option.map _) h51).trans rfl, M ++ [⟨a1, n1, c1⟩], some u1, by simp [hM], row_snoc hM (fun i hi => ⟨(hr i hi).1.ext hX1, (hr i hi).2⟩) hS1 (by have := listP_cnt h51; have := hS1.len'; show n1 ≤ _; omega), by simpa using hu1, by simp; omega, by show _ = (b, Obj.cells (List.toArray [it x.wide, it x.deep, it x.speed, it x.last, owV (some u1) (x.seen ++ [_]).length]) _ _) :: owH (some u1) _ ((M ++ [_]).flatMap slC) []; rw [List.flatMap_append, List.length_append]; rfl⟩⟩⟩)
    · rcases h51 : listP bseenP l boatW with _ | c
      · refine WHo.no rfl (SO.fail (Enters.func Tryz.call118 rfl) (fun w hI => (taken_bseen _ _ hl 119 _ D _ hI.imm Tryz.call119 (fun p hp w' hH' => bseenP_g p hp D hL w' hH')).no h51) ?_)
        refine WP.panicBody rfl (fun w hI => ⟨_, [], (by first | exact hX1 | exact DExt.refl _ _), Inv.nil hI, .inr ⟨_, rfl, rfl, ?_, rfl⟩⟩)
        first
          | (exact (congrArg (Option.map _) h51).trans rfl)
          | (exact boatsP_four (by have := hS1.len'; omega))
          | (simp only [boatsP]; rw [hsp]; simp_all)
      · skip
        refine WHo.so rfl (SO.makes (Enters.func Tryz.call118 rfl) (fun w hI => (taken_bseen _ _ hl 119 _ D _ hI.imm Tryz.call119 (fun p hp w' hH' => bseenP_g p hp D hL w' hH')).ok h51)) rfl ?_
        rintro _ D1 _ ⟨hX1, ⟨a1, n1, c1, rfl, hS1⟩, rfl⟩
        refine ⟨(fun _ hI => (Inv.nil hI).shrink hX1.old), ?_⟩
        refine WH.two (i := 4) (j := 8) (by kernel_rfl) ?_ ?_
        · refine WHo.yd rfl (Yd.load1 Tryz.isAgg30 rfl (by first | exact ro0 rfl rfl | exact ((hS1.at 2 (by omega)).rd 0 (v := st q2) rfl) | exact ((hS1.at 3 (by omega)).rd 0 (v := st q3) rfl))) rfl ?_
          refine WH.one (i := 8) (by kernel_rfl) (WHo.so rfl (SO.buildSlice1 Tryz.underlying30 Tryz.sizeOf79 Tryz.zeroValue79 rfl rfl rfl (vs := [_]) rfl rfl rfl) rfl ?_)
          rintro _ _ _ ⟨b52, hb52, rfl, rfl, rfl⟩
          refine ⟨(fun _ hI => (Inv.nil hI).shrink hX1.old), ?_⟩
          refine WH.one (i := 9) (by kernel_rfl) (WHo.so rfl (SO.appendOwW (W := w0) hw (o := o) (len := x.seen.length) (n := 1) (xs := (M.flatMap slC)) (size := 1) [_] [_] [] rfl rfl Tryz.underlying30 Tryz.sizeOf79 Tryz.typeInfo79 Tryz.zeroValue79 rfl rfl rfl rfl ⟨rfl, .inr ⟨_, _, _, rfl, RdN.own (k := 0) (n := 1) rfl rfl⟩⟩ (oneB_spec rfl) ho (by rw [flat_len slC_len, hM]) (by omega) (by show (2 * (_ + _) + 1000) * 24 ≤ 2 ^ 48; omega) (by omega)) rfl ?_)
          rintro _ _ _ ⟨u1, hu1, rfl, rfl, rfl⟩
          refine ⟨(fun _ hI => (Inv.nil hI).shrink hX1.old), ?_⟩
          refine WH.yd (i := 10) (by kernel_rfl) (fun _ o v c a w _ h => QuietPanic.body c o.dst v a w h) rfl (Yd.nilCheck rfl) rfl ?_
          refine WH.yd (i := 11) (by kernel_rfl) (fun _ o v c a w _ h => QuietPanic.body c o.dst v a w h) rfl (Yd.fieldAddr FA32_4 rfl) rfl ?_
          refine WH.one (i := 12) (by kernel_rfl) (WHo.so rfl (SO.store 0 rfl Tryz.sizeOf30 rfl rfl rfl rfl (zqb rfl) (oneB_spec rfl)) rfl ?_)
          rintro _ _ _ ⟨rfl, rfl, rfl⟩
          refine ⟨(fun _ hI => (Inv.nil hI).shrink hX1.old), ?_⟩
          refine WH.nil (by kernel_rfl) ?_
          refine WP.ret0 rfl rfl Tryz.results116  (fun w hI => ⟨_, _, hX1, hI, .inl ⟨_, rfl, ⟨{ x with seen := x.seen ++ [c] }, (congrArg (Option.map _) h51).trans rfl, M ++ [⟨a1, n1, c1⟩], some u1, by simp [hM], row_snoc hM (fun i hi => ⟨(hr i hi).1.ext hX1, (hr i hi).2⟩) hS1 (by have := listP_cnt h51; have := hS1.len'; show n1 ≤ _; omega), by simpa using hu1, by simp; omega, by show _ = (b, Obj.cells (List.toArray [it x.wide, it x.deep, it x.speed, it x.last, owV (some u1) (x.seen ++ [_]).length]) _ _) :: owH (some u1) _ ((M ++ [_]).flatMap slC) []; rw [List.flatMap_append, List.length_append]; rfl⟩⟩⟩)
        · refine WHo.so rfl (SO.buildSlice1 Tryz.underlying30 Tryz.sizeOf79 Tryz.zeroValue79 rfl rfl rfl (vs := [_]) rfl rfl rfl) rfl ?_
          rintro _ _ _ ⟨b52, hb52, rfl, rfl, rfl⟩
          refine ⟨(fun _ hI => (Inv.nil hI).shrink hX1.old), ?_⟩
          refine WH.one (i := 4) (by kernel_rfl) (WHo.yd rfl (Yd.load1 Tryz.isAgg30 rfl (by first | exact ro0 rfl rfl | exact ro1 rfl rfl | exact ((hS1.at 2 (by omega)).rd 0 (v := st q2) rfl) | exact ((hS1.at 3 (by omega)).rd 0 (v := st q3) rfl))) rfl ?_)
          refine WH.one (i := 9) (by kernel_rfl) (WHo.so rfl (SO.appendOwW (W := w0) hw (o := o) (len := x.seen.length) (n := 1) (xs := (M.flatMap slC)) (size := 1) [_] [_] [] rfl rfl Tryz.underlying30 Tryz.sizeOf79 Tryz.typeInfo79 Tryz.zeroValue79 rfl rfl rfl rfl ⟨rfl, .inr ⟨_, _, _, rfl, RdN.own (k := 0) (n := 1) rfl rfl⟩⟩ (oneB_spec rfl) ho (by rw [flat_len slC_len, hM]) (by omega) (by show (2 * (_ + _) + 1000) * 24 ≤ 2 ^ 48; omega) (by omega)) rfl ?_)
          rintro _ _ _ ⟨u1, hu1, rfl, rfl, rfl⟩
          refine ⟨(fun _ hI => (Inv.nil hI).shrink hX1.old), ?_⟩
          refine WH.yd (i := 10) (by kernel_rfl) (fun _ o v c a w _ h => QuietPanic.body c o.dst v a w h) rfl (Yd.nilCheck rfl) rfl ?_
          refine WH.yd (i := 11) (by kernel_rfl) (fun _ o v c a w _ h => QuietPanic.body c o.dst v a w h) rfl (Yd.fieldAddr FA32_4 rfl) rfl ?_
          refine WH.one (i := 12) (by kernel_rfl) (WHo.so rfl (SO.store 0 rfl Tryz.sizeOf30 rfl rfl rfl rfl (zqb rfl) (oneB_spec rfl)) rfl ?_)
          rintro _ _ _ ⟨rfl, rfl, rfl⟩
          refine ⟨(fun _ hI => (Inv.nil hI).shrink hX1.old), ?_⟩
          refine WH.nil (by kernel_rfl) ?_
          refine WP.ret0 rfl rfl Tryz.results116  (fun w hI => ⟨_, _, hX1, hI, .inl ⟨_, rfl, ⟨{ x with seen := x.seen ++ [c] }, (congrArg (Option.map _) h51).trans rfl, M ++ [⟨a1, n1, c1⟩], some u1, by simp [hM], row_snoc hM (fun i hi => ⟨(hr i hi).1.ext hX1, (hr i hi).2⟩) hS1 (by have := listP_cnt h51; have := hS1.len'; show n1 ≤ _; omega), by simpa using hu1, by simp; omega, by show _ = (b, Obj.cells (List.toArray [it x.wide, it x.deep, it x.speed, it x.last, owV (some u1) (x.seen ++ [_]).length]) _ _) :: owH (some u1) _ ((M ++ [_]).flatMap slC) []; rw [List.flatMap_append, List.length_append]; rfl⟩⟩⟩)

end Go.Proofs.YtaebnllfmkcpgaaGreatDoor
namespace Go.Proofs.YtaebnllfmkcpgaaGreatDoor
open Go.W Go.Bk

theorem lnsB_at {r : Bs} {j : Nat} (h : Lib.indexByte r 10 = (j : Int)) : lnsB [] r = r.take (j + 1) :: lnsB [] (r.drop (j + 1)) := by
  obtain ⟨h1, h2, h3, h4⟩ := idx_at h
  have hf : flat (r.take j) := fun hm => by
    rw [← h2] at hm
    have := List.all_eq_true.1 List.all_takeWhile _ hm
    simp at this
  have h5 := lnsB_flat (r.take j) [] (r.drop (j + 1)) hf
  rw [← h4] at h5
  have h6 : (r.take j ++ 10 :: r.drop (j + 1)).take (j + 1) = r.take j ++ [10] := by
    have hl : (r.take j).length = j := by rw [List.length_take]; omega
    rw [List.take_append, List.take_of_length_le (by omega), hl, show j + 1 - j = 1 by omega]; rfl
  rw [← h4] at h6
  rw [h5, List.nil_append, h6]
theorem lnsB_acc : ∀ (r acc : Bs), (10 : UInt8) ∉ r → acc ++ r ≠ [] → lnsB acc r = [acc ++ r]
  | [], acc, _, h => by
    rw [List.append_nil] at h ⊢
    rw [lnsB, if_neg h]
  | c :: r, acc, h, _ => by
    rw [lnsB, if_neg (fun e => h (by simp [e])), lnsB_acc r (acc ++ [c]) (fun hm => h (by simp [hm])) (by simp)]
    simp
theorem lnsB_no {r : Bs} (h : Lib.indexByte r 10 = -1) (h0 : r ≠ []) : lnsB [] r = r :: lnsB [] [] := by
  rw [lnsB_acc r [] (idx_no h).2.2 (by simpa using h0)]
  rfl
theorem drop_cons {α : Type} [Inhabited α] {l r : List α} {k : Nat} {x : α} (h : l.drop k = x :: r) : k < l.length ∧ gt l k = x ∧ l.drop (k + 1) = r := by
  have hk : k < l.length := by
    rcases Nat.lt_or_ge k l.length with h1 | h1
    · exact h1
    · rw [List.drop_of_length_le h1] at h; cases h
  rw [List.drop_eq_getElem_cons hk] at h
  cases h
  exact ⟨hk, by simp [gt, List.getD, hk], rfl⟩
theorem WP.againI {x : Cx} {fr : Fr} {D : Imm} {hp : Hp} {Q : Exit → Act → World → Prop} {α : Type} {F : α → Fr} {H : α → Hp} {I : α → Imm} {φ : α → Prop} {m : α → Nat} {k : Nat} (z : α) (hz : φ z) (hm : m z < k) (hf : subB (F z) fr) (hhp : hp = H z) (hD : D = I z) :
    WP x fr D hp .normal (Exit.then (fun a w => ∃ z, φ z ∧ m z < k ∧ At x (F z) (I z) (H z) a w) Q) := fun a w h => ⟨z, hz, hm, by subst hhp; subst hD; exact at_fr h hf⟩

theorem lines0_iter (s : Bs) (hs : s.length ≤ 2 ^ 20) (bs : Nat) (D : Imm) (w : World) : IterP Tryz.prog 177 [pt bs] (lnsB [] s).length (fun k => st (gt (lnsB [] s) k)) D [(bs, .cells (List.toArray [st s]) 9 (0, 0))] w := by
  intro l St C hm hround h0 hS0 hI
  unfold AltersP
  refine enter Tryz.func177 rfl 25 Tryz.ntmps177 (zqb rfl) hI ?_
  refine WC.block ?_
  refine WC.loop (fun y : Nat × Bs × Imm × Hp => [(0, .func (.yield l) #[] #[]), (1, pt bs)]) (fun y => (bs, .cells (List.toArray [st y.2.1]) 9 (0, 0)) :: y.2.2.2) (fun y => y.2.2.1) (fun y => y.1 ≤ (lnsB [] s).length ∧ (lnsB [] s).drop y.1 = lnsB [] y.2.1 ∧ y.2.1.length ≤ 2 ^ 20 ∧ DExt w D y.2.2.1 ∧ St y.1 y.2.2.1 y.2.2.2) (fun y => y.2.1.length) (0, s, D, h0) ⟨Nat.zero_le _, rfl, hs, DExt.refl _ _, hS0⟩ (fun a w' hA => ⟨hA.f.weaken (subB_get ⟨rfl, rfl, trivial⟩), hA.i⟩) ?_
  rintro ⟨k, r, D1, h1⟩ ⟨hkn, hk, hr, hX, hS⟩
  dsimp only at hkn hk hr hX hS
  refine WC.seq (WC.seq (WC.ofFr [(0, _), (1, _)] ⟨rfl, rfl, trivial⟩ (WC.region ?_)))
  refine WL.yd (Yd.load1 Tryz.isAgg9 rfl (by first | exact ro0 rfl rfl | exact ro1 rfl rfl)) rfl ?_
  refine WL.yd (Yd.lenStr rfl Tryz.underlying9 rfl) rfl ?_
  refine WL.yd (Yd.gtr rfl rfl) rfl ?_
  refine WL.nil (WP.thenC ?_)
  refine WC.cond rfl (fun c7 => ?_) (fun c7 => ?_)
  · try simp only [zq1, zq2, zq3, zq4, zq5, zq6, zq7, zq8] at c7
    have hr0 : r ≠ [] := fun e => by subst e; simp at c7
    have hrp : 0 < r.length := List.length_pos_iff.2 hr0
    refine WC.skip (WP.thenC (WC.block (WC.seq (WC.ofFr [(0, _), (1, _)] ⟨rfl, rfl, trivial⟩ (WC.region ?_)))))
    refine zya rfl rfl ?_
    refine WL.nil (WP.thenC (WC.seq (WC.seq (WC.ofFr [(3, _), (0, _), (1, _)] ⟨rfl, rfl, rfl, trivial⟩ (WC.region ?_)))))
    refine WL.yd (Yd.load1 Tryz.isAgg9 rfl (by first | exact ro0 rfl rfl | exact ro1 rfl rfl)) rfl ?_
    refine WL.so (SO.callP Tryz.call169 rfl (fun w hI => idx_g r 10 _)) rfl ?_
    rintro _ _ _ ⟨rfl, rfl, rfl⟩
    refine zya rfl rfl ?_
    refine WL.nil (WP.thenC (WC.seq (WC.ofFr [(4, _), (3, _), (0, _), (1, _)] ⟨rfl, rfl, rfl, rfl, trivial⟩ (WC.region ?_))))
    refine zym rfl rfl ?_
    refine WL.yd (Yd.geq rfl rfl) rfl ?_
    refine WL.nil (WP.thenC ?_)
    refine WC.cond rfl (fun c11 => ?_) (fun c11 => ?_)
    · try simp only [zq1, zq2, zq3, zq4, zq5, zq6, zq7, zq8] at c11
      obtain ⟨j, hj⟩ : ∃ j : Nat, Lib.indexByte r 10 = (j : Int) := ⟨(Lib.indexByte r 10).toNat, by omega⟩
      have hjr := (idx_at hj).1
      obtain ⟨hkN, hgk, hk2⟩ := drop_cons (hk.trans (lnsB_at hj))
      refine WC.know 4 (nt j) rfl (by rw [hj]) ?_
      refine WC.ofFr [(4, _), (3, _), (0, _), (1, _)] ⟨rfl, rfl, rfl, rfl, trivial⟩ ?_
      refine WC.drawH [] (by kernel_rfl) (fun _ hI => Inv.nil hI) ?_
      refine WH.yd (i := 1) (by kernel_rfl) (fun _ o v c a w _ h => (QuietPanic.then (QuietPanic.blk (QuietPanic.then (QuietPanic.blk QuietPanic.body)))) c o.dst v a w h) rfl (Yd.move rfl) rfl ?_
      refine WH.yd (i := 2) (by kernel_rfl) (fun _ o v c a w _ h => (QuietPanic.then (QuietPanic.blk (QuietPanic.then (QuietPanic.blk QuietPanic.body)))) c o.dst v a w h) rfl (Yd.add rfl rfl (wr64 ⟨by (try dsimp only); omega, by (try dsimp only); omega⟩)) rfl ?_
      refine WH.yd (i := 5) (by kernel_rfl) (fun _ o v c a w _ h => (QuietPanic.then (QuietPanic.blk (QuietPanic.then (QuietPanic.blk QuietPanic.body)))) c o.dst v a w h) rfl (Yd.move rfl) rfl ?_
      refine WH.yd (i := 6) (by kernel_rfl) (fun _ o v c a w _ h => (QuietPanic.then (QuietPanic.blk (QuietPanic.then (QuietPanic.blk QuietPanic.body)))) c o.dst v a w h) rfl (Yd.add rfl rfl (wr64 ⟨by (try dsimp only); omega, by (try dsimp only); omega⟩)) rfl ?_
      refine WH.two (i := 0) (j := 4) (by kernel_rfl) ?_ ?_
      · refine WHo.yd rfl (Yd.load1 Tryz.isAgg9 rfl (by first | exact ro0 rfl rfl | exact ro1 rfl rfl)) rfl ?_
        refine WH.know 14 (nt (j + 1)) rfl (by simp) ?_
        refine WH.yd (i := 3) (by kernel_rfl) (fun _ o v c a w _ h => (QuietPanic.then (QuietPanic.blk (QuietPanic.then (QuietPanic.blk QuietPanic.body)))) c o.dst v a w h) rfl (Yd.sliceToS Tryz.underlying9 rfl rfl (by (try dsimp only); omega)) rfl ?_
        refine WH.yd (i := 8) (by kernel_rfl) (fun _ o v c a w _ h => (QuietPanic.then (QuietPanic.blk (QuietPanic.then (QuietPanic.blk QuietPanic.body)))) c o.dst v a w h) rfl (Yd.assign rfl) rfl ?_
        refine WH.one (i := 4) (by kernel_rfl) (WHo.yd rfl (Yd.load1 Tryz.isAgg9 rfl (by first | exact ro0 rfl rfl | exact ro1 rfl rfl)) rfl ?_)
        refine WH.know 18 (nt (j + 1)) rfl (by simp) ?_
        refine WH.yd (i := 7) (by kernel_rfl) (fun _ o v c a w _ h => (QuietPanic.then (QuietPanic.blk (QuietPanic.then (QuietPanic.blk QuietPanic.body)))) c o.dst v a w h) rfl (Yd.sliceFromS Tryz.underlying9 rfl rfl (by (try dsimp only); omega)) rfl ?_
        refine WH.one (i := 9) (by kernel_rfl) (WHo.so rfl (SO.store 0 rfl Tryz.sizeOf9 rfl rfl rfl rfl (zqb rfl) (oneB_spec rfl)) rfl ?_)
        rintro _ _ _ ⟨rfl, rfl, rfl⟩
        refine ⟨(fun _ hI => Inv.nil hI), ?_⟩
        refine WH.nil (by kernel_rfl) ?_
        refine WP.thenC (WC.seq (WC.ofFr [(3, _), (0, _), (1, _)] ⟨rfl, rfl, rfl, trivial⟩ ?_))
        refine WC.ofF ?_
        refine WCF.region ?_
        refine WLF.yd (by intro _ h; cases h) (Yd.move rfl) rfl ?_
        refine WLF.yd (by intro _ h; cases h) (Yd.move rfl) rfl ?_
        refine WLF.yieldP [(bs, _)] h1 (fun _ h => h) (fun h => h) rfl rfl rfl (fun w' hsz hI' => by have h9 := hround k D1 h1 w' hkN hsz hX hS hI'; dsimp only at h9; rw [hgk] at h9; exact h9) ?_ ?_
        · intro D2 h2 hS2 hX2
          refine WLF.yd (by intro _ h; cases h) (Yd.not rfl) rfl ?_
          refine WLF.nil (WP.thenC ?_)
          refine WC.condF rfl ?_
          refine WC.skip (WP.blkNormal ?_)
          exact WP.againI (k + 1, r.drop (j + 1), D2, h2) ⟨hkN, hk2, by simp <;> omega, hX.trans hX2 (Nat.le_refl _), hS2⟩ (by simp <;> omega) ⟨rfl, rfl, trivial⟩ rfl rfl
        · intro ch D2 h2 hC hX2
          refine WP.thenPanic ?_
          refine WP.blkPanic ?_
          refine WP.thenPanic ?_
          refine WP.blkPanic ?_
          refine WP.panicBody rfl (fun w' hI => ⟨D2, h2, hX.trans hX2 (Nat.le_refl _), hI.tail, .inr ⟨_, rfl, hC⟩⟩)
      · refine WHo.yd rfl (Yd.load1 Tryz.isAgg9 rfl (by first | exact ro0 rfl rfl | exact ro1 rfl rfl)) rfl ?_
        refine WH.know 18 (nt (j + 1)) rfl (by simp) ?_
        refine WH.yd (i := 7) (by kernel_rfl) (fun _ o v c a w _ h => (QuietPanic.then (QuietPanic.blk (QuietPanic.then (QuietPanic.blk QuietPanic.body)))) c o.dst v a w h) rfl (Yd.sliceFromS Tryz.underlying9 rfl rfl (by (try dsimp only); omega)) rfl ?_
        refine WH.one (i := 0) (by kernel_rfl) (WHo.yd rfl (Yd.load1 Tryz.isAgg9 rfl (by first | exact ro0 rfl rfl | exact ro1 rfl rfl)) rfl ?_)
        refine WH.know 14 (nt (j + 1)) rfl (by simp) ?_
        refine WH.yd (i := 3) (by kernel_rfl) (fun _ o v c a w _ h => (QuietPanic.then (QuietPanic.blk (QuietPanic.then (QuietPanic.blk QuietPanic.body)))) c o.dst v a w h) rfl (Yd.sliceToS Tryz.underlying9 rfl rfl (by (try dsimp only); omega)) rfl ?_
        refine WH.yd (i := 8) (by kernel_rfl) (fun _ o v c a w _ h => (QuietPanic.then (QuietPanic.blk (QuietPanic.then (QuietPanic.blk QuietPanic.body)))) c o.dst v a w h) rfl (Yd.assign rfl) rfl ?_
        refine WH.one (i := 9) (by kernel_rfl) (WHo.so rfl (SO.store 0 rfl Tryz.sizeOf9 rfl rfl rfl rfl (zqb rfl) (oneB_spec rfl)) rfl ?_)
        rintro _ _ _ ⟨rfl, rfl, rfl⟩
        refine ⟨(fun _ hI => Inv.nil hI), ?_⟩
        refine WH.nil (by kernel_rfl) ?_
        refine WP.thenC (WC.seq (WC.ofFr [(3, _), (0, _), (1, _)] ⟨rfl, rfl, rfl, trivial⟩ ?_))
        refine WC.ofF ?_
        refine WCF.region ?_
        refine WLF.yd (by intro _ h; cases h) (Yd.move rfl) rfl ?_
        refine WLF.yd (by intro _ h; cases h) (Yd.move rfl) rfl ?_
        refine WLF.yieldP [(bs, _)] h1 (fun _ h => h) (fun h => h) rfl rfl rfl (fun w' hsz hI' => by have h9 := hround k D1 h1 w' hkN hsz hX hS hI'; dsimp only at h9; rw [hgk] at h9; exact h9) ?_ ?_
        · intro D2 h2 hS2 hX2
          refine WLF.yd (by intro _ h; cases h) (Yd.not rfl) rfl ?_
          refine WLF.nil (WP.thenC ?_)
          refine WC.condF rfl ?_
          refine WC.skip (WP.blkNormal ?_)
          exact WP.againI (k + 1, r.drop (j + 1), D2, h2) ⟨hkN, hk2, by simp <;> omega, hX.trans hX2 (Nat.le_refl _), hS2⟩ (by simp <;> omega) ⟨rfl, rfl, trivial⟩ rfl rfl
        · intro ch D2 h2 hC hX2
          refine WP.thenPanic ?_
          refine WP.blkPanic ?_
          refine WP.thenPanic ?_
          refine WP.blkPanic ?_
          refine WP.panicBody rfl (fun w' hI => ⟨D2, h2, hX.trans hX2 (Nat.le_refl _), hI.tail, .inr ⟨_, rfl, hC⟩⟩)
    · try simp only [zq1, zq2, zq3, zq4, zq5, zq6, zq7, zq8] at c11
      have hge := Lib.indexByte_ge r 10
      obtain ⟨hkN, hgk, hk2⟩ := drop_cons (hk.trans (lnsB_no (by omega) hr0))
      refine WC.ofFr [(3, _), (0, _), (1, _)] ⟨rfl, rfl, rfl, trivial⟩ (WC.region ?_)
      refine WL.yd (Yd.load1 Tryz.isAgg9 rfl (by first | exact ro0 rfl rfl | exact ro1 rfl rfl)) rfl ?_
      refine zya rfl rfl ?_
      refine WL.so (SO.store 0 rfl Tryz.sizeOf9 rfl rfl rfl rfl (zqb rfl) (oneB_spec rfl)) rfl ?_
      rintro _ _ _ ⟨rfl, rfl, rfl⟩
      refine WL.nil (WP.thenC (WC.seq (WC.ofFr [(3, _), (0, _), (1, _)] ⟨rfl, rfl, rfl, trivial⟩ ?_)))
      refine WC.ofF ?_
      refine WCF.region ?_
      refine WLF.yd (by intro _ h; cases h) (Yd.move rfl) rfl ?_
      refine WLF.yd (by intro _ h; cases h) (Yd.move rfl) rfl ?_
      refine WLF.yieldP [(bs, _)] h1 (fun _ h => h) (fun h => h) rfl rfl rfl (fun w' hsz hI' => by have h9 := hround k D1 h1 w' hkN hsz hX hS hI'; dsimp only at h9; rw [hgk] at h9; exact h9) ?_ ?_
      · intro D2 h2 hS2 hX2
        refine WLF.yd (by intro _ h; cases h) (Yd.not rfl) rfl ?_
        refine WLF.nil (WP.thenC ?_)
        refine WC.condF rfl ?_
        refine WC.skip (WP.blkNormal ?_)
        exact WP.againI (k + 1, [], D2, h2) ⟨hkN, hk2, by simp <;> omega, hX.trans hX2 (Nat.le_refl _), hS2⟩ (by simp <;> omega) ⟨rfl, rfl, trivial⟩ rfl rfl
      · intro ch D2 h2 hC hX2
        refine WP.thenPanic ?_
        refine WP.blkPanic ?_
        refine WP.thenPanic ?_
        refine WP.blkPanic ?_
        refine WP.panicBody rfl (fun w' hI => ⟨D2, h2, hX.trans hX2 (Nat.le_refl _), hI.tail, .inr ⟨_, rfl, hC⟩⟩)
  · try simp only [zq1, zq2, zq3, zq4, zq5, zq6, zq7, zq8] at c7
    obtain rfl : r = [] := List.length_eq_zero_iff.1 (by omega)
    refine WC.exit ?_
    refine WP.thenExit ?_
    refine WP.thenExit ?_
    refine WP.blkHit ?_
    refine WP.ret0 rfl rfl Tryz.results177  (fun w' hI => ⟨D1, h1, hX, hI.tail, .inl ⟨_, rfl, (by have h1 := congrArg List.length hk; rw [List.length_drop, show (lnsB [] []).length = 0 from rfl] at h1; omega : k = (lnsB [] s).length) ▸ hS⟩⟩)

end Go.Proofs.YtaebnllfmkcpgaaGreatDoor
namespace Go.Proofs.YtaebnllfmkcpgaaGreatDoor
open Go.W Go.Bk

theorem lns_len (s : Bs) : (lns s).length = (lnsB [] s).length := by simp [lns]
theorem gt_lns {s : Bs} {k : Nat} (h : k < (lnsB [] s).length) : gt (lns s) k = Lib.trimSuffix (gt (lnsB [] s) k) [10] := by
  simp [gt, List.getD, lns, List.getElem?_map, List.getElem?_eq_getElem h]
theorem lnsB_le : ∀ (s acc : Bs), ∀ l ∈ lnsB acc s, l.length ≤ acc.length + s.length
  | [], acc, l, h => by
    rw [lnsB] at h
    split at h
    · cases h
    · simp at h; simp [h]
  | c :: r, acc, l, h => by
    rw [lnsB] at h
    split at h
    · rcases List.mem_cons.1 h with rfl | h
      · simp
      · have := lnsB_le r [] l h; simp at this ⊢; omega
    · have := lnsB_le r (acc ++ [c]) l h; simp at this ⊢; omega
theorem lnsB_cnt : ∀ (s acc : Bs), (lnsB acc s).length ≤ s.length + 1
  | [], acc => by rw [lnsB]; split <;> simp
  | c :: r, acc => by
    rw [lnsB]; split
    · have := lnsB_cnt r []; simp; omega
    · have := lnsB_cnt r (acc ++ [c]); simp; omega

theorem lines0_g (s : Bs) (D : Imm) (w : World) (hH : Holds D w) : News Tryz.prog 159 [st s] w D (fun v D' h' => D = D' ∧ ∃ b, v = .func (.func 177) #[] #[pt b] ∧ h' = [(b, .cells (List.toArray [st s]) 9 (0, 0))]) := by
  unfold News
  refine enter Tryz.func159 rfl 4 Tryz.ntmps159 (zqb rfl) (Inv.start hH) ?_
  refine WC.seq (WC.ofFr [(0, _)] ⟨rfl, trivial⟩ (WC.region ?_))
  refine WL.so (SO.box rfl rfl) rfl ?_
  rintro _ _ _ ⟨b1, hb1, rfl, rfl, rfl⟩
  refine zya rfl rfl ?_
  refine WL.nil (WP.thenC (WC.seq (WC.ofFr [(2, _), (1, _)] ⟨rfl, rfl, trivial⟩ (WC.region ?_))))
  refine WL.yd (Yd.func rfl rfl) rfl ?_
  refine zya rfl rfl ?_
  refine WL.nil (WP.thenC (WC.ret ?_))
  refine WP.ret1 rfl rfl Tryz.results159 (RV.tmp rfl) (fun w1 hI => ⟨_, D, _, rfl, DExt.refl _ _, hI, rfl, b1, rfl, rfl⟩)

theorem lines_g (s : Bs) (D : Imm) (w : World) (hH : Holds D w) : News Tryz.prog 131 [st s] w D (fun v D' h' => D = D' ∧ ∃ b, v = .func (.func 158) #[] #[pt b] ∧ h' = [(b, .cells (List.toArray [st s]) 9 (0, 0))]) := by
  unfold News
  refine enter Tryz.func131 rfl 4 Tryz.ntmps131 (zqb rfl) (Inv.start hH) ?_
  refine WC.seq (WC.ofFr [(0, _)] ⟨rfl, trivial⟩ (WC.region ?_))
  refine WL.so (SO.box rfl rfl) rfl ?_
  rintro _ _ _ ⟨b1, hb1, rfl, rfl, rfl⟩
  refine zya rfl rfl ?_
  refine WL.nil (WP.thenC (WC.seq (WC.ofFr [(2, _), (1, _)] ⟨rfl, rfl, trivial⟩ (WC.region ?_))))
  refine WL.yd (Yd.func rfl rfl) rfl ?_
  refine zya rfl rfl ?_
  refine WL.nil (WP.thenC (WC.ret ?_))
  refine WP.ret1 rfl rfl Tryz.results131 (RV.tmp rfl) (fun w1 hI => ⟨_, D, _, rfl, DExt.refl _ _, hI, rfl, b1, rfl, rfl⟩)

theorem lines_iter (s : Bs) (hs : s.length ≤ 2 ^ 20) (bt : Nat) (D : Imm) (w : World) : IterP Tryz.prog 158 [pt bt] (lns s).length (fun k => st (gt (lns s) k)) D [(bt, .cells (List.toArray [st s]) 9 (0, 0))] w := by
  intro l St C hm hround h0 hS0 hI
  unfold AltersP
  refine enterMn Tryz.func158 rfl 12 Tryz.ntmps158 (zqb rfl) hI ?_
  refine WCn.seq ?_
  refine WCn.of ?_
  refine WC.ofFr [(0, _), (1, _)] ⟨rfl, rfl, trivial⟩ (WC.region ?_)
  refine WL.so (SO.box rfl rfl) rfl ?_
  rintro _ _ _ ⟨b2, hb2, rfl, rfl, rfl⟩
  refine WL.nil ?_
  refine WP.thenCn ?_
  refine WCn.seq ?_
  refine WCn.of ?_
  refine WC.ofFr [(2, _), (1, _)] ⟨rfl, rfl, trivial⟩ (WC.region ?_)
  refine WL.yd (Yd.load1 Tryz.isAgg9 rfl (by first | exact ro0 rfl rfl | exact ro1 rfl rfl | exact ro2 rfl rfl)) rfl ?_
  refine WL.so (SO.newsF (Enters.func Tryz.call159 rfl) (fun w hI => lines0_g s D w hI.imm)) rfl ?_
  rintro _ _ _ ⟨_, hX0, ⟨rfl, bl, rfl, rfl⟩, rfl⟩
  refine WL.nil ?_
  refine WP.thenCn ?_
  refine WCn.block ?_
  refine WCn.ofFr [(5, _), (2, _), (1, _)] ⟨rfl, rfl, rfl, trivial⟩ ?_
  refine WCn.rangeIterP (gf := 177) (lb := [pt bl]) (N := (lnsB [] s).length) (arg := fun k => st (gt (lnsB [] s) k)) [(bl, .cells (List.toArray [st s]) 9 (0, 0))] ((b2, .cells (List.toArray [.func (.yield l) #[] #[]]) 68 (0, 0)) :: (bt, .cells (List.toArray [st s]) 9 (0, 0)) :: h0) rfl Tryz.func158 (fun w' _ _ => lines0_iter s hs bl D w') rfl Tryz.call177 rfl (fun k D' h => ∃ h1, h = (b2, .cells (List.toArray [.func (.yield l) #[] #[]]) 68 (0, 0)) :: (bt, .cells (List.toArray [st s]) 9 (0, 0)) :: h1 ∧ St k D' h1) C (fun k D1 D2 h hX ⟨h1, e, hS⟩ => ⟨h1, e, hm k D1 D2 h1 hX hS⟩) ⟨h0, rfl, hS0⟩ ?_ ?_ ?_
  · rintro rec l2 Dn k D1 _ w1 hrec hkN ⟨h1, rfl, hS⟩ hX hsz
    unfold RoundGP
    refine WCF.ofFr [(6, _), (2, _)] ⟨rfl, rfl, trivial⟩ (WCF.region ?_)
    refine WLF.yd (by intro _ h; cases h) (Yd.assign rfl) rfl ?_
    refine WLF.nil ?_
    refine WP.iterBegin 0 rfl hrec ?_
    refine WCF.block (WCF.seq (WCF.ofFr [(3, _), (2, _)] ⟨rfl, rfl, trivial⟩ ?_))
    refine WCF.tail 3 [0, 1, 2] rfl (by kernel_rfl) (by kernel_rfl) (noLets.then (noLets.blk noLets.roundP)) ?_
    refine WQ.q rfl (Yd.qt (Yd.load1 Tryz.isAgg68 rfl (by first | exact ro0 rfl rfl | exact ro1 rfl rfl | exact ro2 rfl rfl | exact ro3 rfl rfl | exact ro4 rfl rfl))) rfl ?_
    refine WQ.q rfl (Yd.qt (Yd.move rfl)) rfl ?_
    refine WQ.q rfl (Qt.callP Tryz.call111 rfl (fun w hI => trimS_g _ [10] (by have h1 := lnsB_le s [] _ (gtB_mem hkN); rw [List.length_nil] at h1; omega) _)) rfl ?_
    refine WQ.tailR ?_
    refine WLF.yieldP [(l2, _), (Dn, _), (b2, _), (bt, _)] h1 (fun _ h => h) (fun h => h) rfl rfl rfl (fun w' hsz' hI' => by have h9 := hround k D1 h1 w' (by rw [lns_len]; exact hkN) (Nat.le_trans hsz hsz') hX hS hI'; dsimp only at h9; rw [gt_lns hkN] at h9; exact h9) ?_ ?_
    · intro D2 h2 hS2 hX2
      refine WLF.yd (by intro _ h; cases h) (Yd.not rfl) rfl ?_
      refine WLF.nil (WP.thenCF ?_)
      refine WCF.condF rfl ?_
      refine WCF.skip (WP.blkNormal ?_)
      exact WP.iterOnP hrec (pre := [(Dn, _)]) (h1 := (b2, _) :: (bt, _) :: h2) (fun _ h => h) (fun h => h) hX2 ⟨h2, rfl, hS2⟩
    · intro ch D2 h2 hC hX2
      refine WP.thenPanic ?_
      refine WP.blkPanic ?_
      exact WP.iterPanic (pre := [(Dn, _)]) rfl (subS (by repeat first | exact List.nil_sublist _ | exact List.Sublist.refl _ | apply List.Sublist.cons_cons | apply List.Sublist.cons)).1 (subS (by repeat first | exact List.nil_sublist _ | exact List.Sublist.refl _ | apply List.Sublist.cons_cons | apply List.Sublist.cons)).2 hX2 hC
  · rintro Dn D2 _ hsz hX2 ⟨h2, rfl, hS2⟩
    refine WP.blkNormal ?_
    refine WP.retMs [Dn] h2 [] [] rfl rfl (subS (by repeat first | exact List.nil_sublist _ | exact List.Sublist.refl _ | apply List.Sublist.cons_cons | apply List.Sublist.cons)).1 (subS (by repeat first | exact List.nil_sublist _ | exact List.Sublist.refl _ | apply List.Sublist.cons_cons | apply List.Sublist.cons)).2 Tryz.results158 trivial (fun w' hI => ⟨D2, h2, hX2, hI, .inl ⟨_, rfl, by rw [lns_len]; exact hS2⟩⟩)
  · rintro Dn ch D2 h2 hsz hX2 hC
    refine WP.blkPanic ?_
    refine WP.panicMs [Dn] h2 rfl (subS (by repeat first | exact List.nil_sublist _ | exact List.Sublist.refl _ | apply List.Sublist.cons_cons | apply List.Sublist.cons)).1 (subS (by repeat first | exact List.nil_sublist _ | exact List.Sublist.refl _ | apply List.Sublist.cons_cons | apply List.Sublist.cons)).2 (fun w' hI => ⟨D2, h2, hX2, hI, .inr ⟨_, rfl, hC⟩⟩)

end Go.Proofs.YtaebnllfmkcpgaaGreatDoor
namespace Go.Proofs.YtaebnllfmkcpgaaGreatDoor
open Go.W Go.Bk
theorem FA90_2 : FieldAt Tryz.prog 90 2 2 := FieldAt.mk (t := 88) (off := 2) Tryz.underlying90 rfl Tryz.sizeOf88 (by decide)
theorem FA96_2 : FieldAt Tryz.prog 96 2 2 := FieldAt.mk (t := 94) (off := 2) Tryz.underlying96 rfl Tryz.sizeOf94 (by decide)
theorem FA102_2 : FieldAt Tryz.prog 102 2 2 := FieldAt.mk (t := 100) (off := 2) Tryz.underlying102 rfl Tryz.sizeOf100 (by decide)
theorem lns_le {s l : Bs} (h : l ∈ lns s) : l.length ≤ s.length := by
  unfold lns at h
  obtain ⟨a, ha, rfl⟩ := List.mem_map.1 h
  have h1 := lnsB_le s [] a ha
  have h2 := trimS_len a [10]
  rw [List.length_nil] at h1; omega
theorem lns_cnt (s : Bs) : (lns s).length ≤ s.length + 1 := by rw [lns_len]; exact lnsB_cnt s []
theorem foldT_app {X : Type} {take : X → Nat → Bs → Option X} : ∀ (a b : List Bs) (x : X) (k : Nat), foldT take x k (a ++ b) = (foldT take x k a).bind fun y => foldT take y (k + a.length) b
  | [], b, x, k => by simp [foldT]
  | l :: a, b, x, k => by
    rw [List.cons_append, foldT, foldT]
    cases take x k l with
    | none => rfl
    | some y => simp only [foldT_app a b y (k + 1), List.length_cons]; congr 1; funext z; congr 1; omega
theorem foldT_step {X : Type} {take : X → Nat → Bs → Option X} {z x y : X} {ls : List Bs} {k : Nat} (hk : k < ls.length) (h : foldT take z 0 (ls.take k) = some x) (h2 : take x k (gt ls k) = some y) : foldT take z 0 (ls.take (k + 1)) = some y := by
  have e : gt ls k = ls[k] := by simp [gt, List.getD, hk]
  rw [List.take_succ_eq_append_getElem hk, foldT_app, h, ← e, List.length_take, Nat.min_eq_left (by omega), Option.bind_some, foldT, Nat.zero_add, h2]; rfl
theorem foldT_fail {X : Type} {take : X → Nat → Bs → Option X} {z x : X} {ls : List Bs} {k : Nat} (hk : k < ls.length) (h : foldT take z 0 (ls.take k) = some x) (h2 : take x k (gt ls k) = none) : foldT take z 0 ls = none := by
  have e : gt ls k = ls[k] := by simp [gt, List.getD, hk]
  have h3 : ls = ls.take k ++ ls[k] :: ls.drop (k + 1) := by rw [← List.drop_eq_getElem_cons hk, List.take_append_drop]
  rw [h3, foldT_app, h, ← e, List.length_take, Nat.min_eq_left (by omega), Option.bind_some, foldT, Nat.zero_add, h2]
/-- a thing is read, or the text is refused with an error -/
def TryE {α : Type} (f : FuncId) (vals : List Value) (w : World) (D : Imm) (r : α × Int) (φ : α → Value → Imm → Prop) : Prop := Calls Tryz.prog f vals.toArray w fun e w' =>
  (∃ x v D', r = (x, 0) ∧ e = .returned v ∧ Keep [] w w' ∧ Holds D' w' ∧ DExt w D D' ∧ φ x v D') ∨ ∃ z c, r = (z, c) ∧ c ≠ 0 ∧ e = .panicked (stopB c) ∧ Keep [] w w'
theorem readX_long {X : Type} {z : X} {take : X → Nat → Bs → Option X} {is : X → Bool} {put : X → Bs} {s : Bs} (h : 1200 < s.length) : readX z take is put s = (z, 3) := by unfold readX; rw [if_pos h]
theorem readX_none {X : Type} {z : X} {take : X → Nat → Bs → Option X} {is : X → Bool} {put : X → Bs} {s : Bs} (h : s.length ≤ 1200) (h2 : foldT take z 0 (lns s) = none) : readX z take is put s = (z, 8) := by
  unfold readX; rw [if_neg (by omega), h2]
theorem readX_yes {X : Type} {z x : X} {take : X → Nat → Bs → Option X} {is : X → Bool} {put : X → Bs} {s : Bs} (h : s.length ≤ 1200) (h2 : foldT take z 0 (lns s) = some x) (h3 : is x = true) (h4 : put x = s) : readX z take is put s = (x, 0) := by
  unfold readX; rw [if_neg (by omega), h2]; simp only; rw [if_pos ⟨h3, h4⟩]
theorem readX_bad {X : Type} {z x : X} {take : X → Nat → Bs → Option X} {is : X → Bool} {put : X → Bs} {s : Bs} (h : s.length ≤ 1200) (h2 : foldT take z 0 (lns s) = some x) (h3 : is x = true → put x ≠ s) : readX z take is put s = (z, 8) := by
  unfold readX; rw [if_neg (by omega), h2]; simp only; rw [if_neg (fun h => h3 h.1 h.2)]
theorem surfTV_eq {w : World} {x : Surf} {W V : Sl} {o : Option Ow} (h : owP w o x.huts.length 3) : surfTV x W V o = surfCs x ⟨W, V, ⟨owAt o, x.huts.length, owCp o x.huts.length⟩⟩ := by
  unfold surfTV; rw [owV_owL (owL_of h)]
theorem boatsTV_eq {w : World} {x : Boats} {M : List Sl} {o : Option Ow} (h : owP w o x.seen.length 1) : boatsTV x o = boatsCs x ⟨⟨owAt o, x.seen.length, owCp o x.seen.length⟩, M⟩ := by
  unfold boatsTV; rw [owV_owL (owL_of h)]

theorem nextSurf_g (w0 : World) (bx ba bt : Nat) (x : Surf) (k : Nat) (hk : k ≤ 2 ^ 20) (l : Bs) (hl : l.length ≤ 2 ^ 20) (D : Imm) (hL : LibD D) (hT : D bt = some (.cells (List.toArray [.func (.func 88) #[] #[], .func (.func 90) #[] #[], .func (.func 91) #[] #[]]) 90 (0, 0))) (w1 : World) (hw : w0.heap.size ≤ w1.heap.size) (h : Hp) (hS : surfT w0 bx k x D h) (hI : Inv D ((ba, .cells (List.toArray [nt k]) 3 (0, 0)) :: h) (keys ((ba, .cells (List.toArray [nt k]) 3 (0, 0)) :: h)) w1 w1) : AltersP Tryz.prog 130 [st l, pt bt, pt bx, pt ba] w1 D (keys ((ba, .cells (List.toArray [nt k]) 3 (0, 0)) :: h)) (fun D' h' => ∃ x' h2, surfP x k l = some x' ∧ h' = (ba, .cells (List.toArray [nt (k + 1)]) 3 (0, 0)) :: h2 ∧ surfT w0 bx (k + 1) x' D' h2) (takeC (surfP x k l)) := by
  unfold AltersP
  refine enter Tryz.func130 rfl 12 Tryz.ntmps130 (zqb rfl) hI ?_
  refine WC.seq (WC.ofFr [(0, _), (1, _), (2, _), (3, _)] ⟨rfl, rfl, rfl, rfl, trivial⟩ (WC.region ?_))
  refine WL.yd (Yd.fieldAddr FA90_2 rfl) rfl ?_
  refine WL.yd (Yd.load1 Tryz.isAgg88 rfl (by first | exact ro0 rfl rfl | exact ro1 rfl rfl | exact (Rd.imm hT rfl))) rfl ?_
  refine WL.yd (Yd.load1 Tryz.isAgg3 rfl (by first | exact ro0 rfl rfl | exact ro1 rfl rfl | exact (Rd.imm hT rfl))) rfl ?_
  refine zym rfl rfl ?_
  refine WL.so (SO.altersP [(ba, _)] h (fun _ h => h) (fun h => h) (fun _ h => h) (fun _ h => h) (Enters.val Tryz.call91 rfl rfl) (fun w' hsz hI' => takeSurf_g w0 bx x k hk l hl D hL w' (Nat.le_trans hw hsz) h hS hI') ?_) rfl ?_
  · rintro ch D2 _ ⟨rfl, hno, rfl⟩ hX2
    refine WP.thenPanic ?_
    refine WP.panicBody rfl (fun w hI => ⟨D2, [], hX2, Inv.nil hI, .inr ⟨_, rfl, rfl, hno, rfl⟩⟩)
  · rintro _ D2 _ ⟨h2, hX2, ⟨x2, hx2, hS2⟩, rfl⟩
    refine WL.nil (WP.thenC (WC.ofFr [(3, _)] ⟨rfl, trivial⟩ (WC.region ?_)))
    refine WL.yd (Yd.load1 Tryz.isAgg3 rfl (by first | exact ro0 rfl rfl | exact ro1 rfl rfl | exact (Rd.imm hT rfl))) rfl ?_
    refine WL.yd (Yd.add rfl rfl (wr64 ⟨by omega, by omega⟩)) rfl ?_
    refine WL.so (SO.store 0 rfl Tryz.sizeOf3 rfl rfl rfl rfl (zqb rfl) (oneB_spec rfl)) rfl ?_
    rintro _ _ _ ⟨rfl, rfl, rfl⟩
    refine WL.nil ?_
    refine WP.ret0 rfl rfl Tryz.results130  (fun w hI => ⟨D2, _, hX2, hI, .inl ⟨_, rfl, x2, h2, hx2, rfl, hS2⟩⟩)

theorem nextFlag_g (w0 : World) (bx ba bt : Nat) (x : Flag) (k : Nat) (hk : k ≤ 2 ^ 20) (l : Bs) (hl : l.length ≤ 2 ^ 20) (D : Imm) (hL : LibD D) (hT : D bt = some (.cells (List.toArray [.func (.func 99) #[] #[], .func (.func 100) #[] #[], .func (.func 101) #[] #[]]) 96 (0, 0))) (w1 : World) (hw : w0.heap.size ≤ w1.heap.size) (h : Hp) (hS : flagT w0 bx k x D h) (hI : Inv D ((ba, .cells (List.toArray [nt k]) 3 (0, 0)) :: h) (keys ((ba, .cells (List.toArray [nt k]) 3 (0, 0)) :: h)) w1 w1) : AltersP Tryz.prog 136 [st l, pt bt, pt bx, pt ba] w1 D (keys ((ba, .cells (List.toArray [nt k]) 3 (0, 0)) :: h)) (fun D' h' => ∃ x' h2, flagP x k l = some x' ∧ h' = (ba, .cells (List.toArray [nt (k + 1)]) 3 (0, 0)) :: h2 ∧ flagT w0 bx (k + 1) x' D' h2) (takeC (flagP x k l)) := by
  unfold AltersP
  refine enter Tryz.func136 rfl 12 Tryz.ntmps136 (zqb rfl) hI ?_
  refine WC.seq (WC.ofFr [(0, _), (1, _), (2, _), (3, _)] ⟨rfl, rfl, rfl, rfl, trivial⟩ (WC.region ?_))
  refine WL.yd (Yd.fieldAddr FA96_2 rfl) rfl ?_
  refine WL.yd (Yd.load1 Tryz.isAgg94 rfl (by first | exact ro0 rfl rfl | exact ro1 rfl rfl | exact (Rd.imm hT rfl))) rfl ?_
  refine WL.yd (Yd.load1 Tryz.isAgg3 rfl (by first | exact ro0 rfl rfl | exact ro1 rfl rfl | exact (Rd.imm hT rfl))) rfl ?_
  refine zym rfl rfl ?_
  refine WL.so (SO.altersP [(ba, _)] h (fun _ h => h) (fun h => h) (fun _ h => h) (fun _ h => h) (Enters.val Tryz.call101 rfl rfl) (fun w' hsz hI' => takeFlag_g w0 bx x k hk l hl D hL w' (Nat.le_trans hw hsz) h hS hI') ?_) rfl ?_
  · rintro ch D2 _ ⟨rfl, hno, rfl⟩ hX2
    refine WP.thenPanic ?_
    refine WP.panicBody rfl (fun w hI => ⟨D2, [], hX2, Inv.nil hI, .inr ⟨_, rfl, rfl, hno, rfl⟩⟩)
  · rintro _ D2 _ ⟨h2, hX2, ⟨x2, hx2, hS2⟩, rfl⟩
    refine WL.nil (WP.thenC (WC.ofFr [(3, _)] ⟨rfl, trivial⟩ (WC.region ?_)))
    refine WL.yd (Yd.load1 Tryz.isAgg3 rfl (by first | exact ro0 rfl rfl | exact ro1 rfl rfl | exact (Rd.imm hT rfl))) rfl ?_
    refine WL.yd (Yd.add rfl rfl (wr64 ⟨by omega, by omega⟩)) rfl ?_
    refine WL.so (SO.store 0 rfl Tryz.sizeOf3 rfl rfl rfl rfl (zqb rfl) (oneB_spec rfl)) rfl ?_
    rintro _ _ _ ⟨rfl, rfl, rfl⟩
    refine WL.nil ?_
    refine WP.ret0 rfl rfl Tryz.results136  (fun w hI => ⟨D2, _, hX2, hI, .inl ⟨_, rfl, x2, h2, hx2, rfl, hS2⟩⟩)

theorem nextBoats_g (w0 : World) (bx ba bt : Nat) (x : Boats) (k : Nat) (hk : k ≤ 2 ^ 20) (l : Bs) (hl : l.length ≤ 2 ^ 20) (D : Imm) (hL : LibD D) (hT : D bt = some (.cells (List.toArray [.func (.func 114) #[] #[], .func (.func 115) #[] #[], .func (.func 116) #[] #[]]) 102 (0, 0))) (w1 : World) (hw : w0.heap.size ≤ w1.heap.size) (h : Hp) (hS : boatsT w0 bx k x D h) (hI : Inv D ((ba, .cells (List.toArray [nt k]) 3 (0, 0)) :: h) (keys ((ba, .cells (List.toArray [nt k]) 3 (0, 0)) :: h)) w1 w1) : AltersP Tryz.prog 139 [st l, pt bt, pt bx, pt ba] w1 D (keys ((ba, .cells (List.toArray [nt k]) 3 (0, 0)) :: h)) (fun D' h' => ∃ x' h2, boatsP x k l = some x' ∧ h' = (ba, .cells (List.toArray [nt (k + 1)]) 3 (0, 0)) :: h2 ∧ boatsT w0 bx (k + 1) x' D' h2) (takeC (boatsP x k l)) := by
  unfold AltersP
  refine enter Tryz.func139 rfl 12 Tryz.ntmps139 (zqb rfl) hI ?_
  refine WC.seq (WC.ofFr [(0, _), (1, _), (2, _), (3, _)] ⟨rfl, rfl, rfl, rfl, trivial⟩ (WC.region ?_))
  refine WL.yd (Yd.fieldAddr FA102_2 rfl) rfl ?_
  refine WL.yd (Yd.load1 Tryz.isAgg100 rfl (by first | exact ro0 rfl rfl | exact ro1 rfl rfl | exact (Rd.imm hT rfl))) rfl ?_
  refine WL.yd (Yd.load1 Tryz.isAgg3 rfl (by first | exact ro0 rfl rfl | exact ro1 rfl rfl | exact (Rd.imm hT rfl))) rfl ?_
  refine zym rfl rfl ?_
  refine WL.so (SO.altersP [(ba, _)] h (fun _ h => h) (fun h => h) (fun _ h => h) (fun _ h => h) (Enters.val Tryz.call116 rfl rfl) (fun w' hsz hI' => takeBoats_g w0 bx x k hk l hl D hL w' (Nat.le_trans hw hsz) h hS hI') ?_) rfl ?_
  · rintro ch D2 _ ⟨rfl, hno, rfl⟩ hX2
    refine WP.thenPanic ?_
    refine WP.panicBody rfl (fun w hI => ⟨D2, [], hX2, Inv.nil hI, .inr ⟨_, rfl, rfl, hno, rfl⟩⟩)
  · rintro _ D2 _ ⟨h2, hX2, ⟨x2, hx2, hS2⟩, rfl⟩
    refine WL.nil (WP.thenC (WC.ofFr [(3, _)] ⟨rfl, trivial⟩ (WC.region ?_)))
    refine WL.yd (Yd.load1 Tryz.isAgg3 rfl (by first | exact ro0 rfl rfl | exact ro1 rfl rfl | exact (Rd.imm hT rfl))) rfl ?_
    refine WL.yd (Yd.add rfl rfl (wr64 ⟨by omega, by omega⟩)) rfl ?_
    refine WL.so (SO.store 0 rfl Tryz.sizeOf3 rfl rfl rfl rfl (zqb rfl) (oneB_spec rfl)) rfl ?_
    rintro _ _ _ ⟨rfl, rfl, rfl⟩
    refine WL.nil ?_
    refine WP.ret0 rfl rfl Tryz.results139  (fun w hI => ⟨D2, _, hX2, hI, .inl ⟨_, rfl, x2, h2, hx2, rfl, hS2⟩⟩)

end Go.Proofs.YtaebnllfmkcpgaaGreatDoor
