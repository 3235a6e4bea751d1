import Derived.Test.YtpnbkdlejfmbeaaGreatXR
import Derived.Test.YtpnbkdlejfmbeaaGreatXW
import Derived.Test.YtpnbkdlejfmbeaaGreatXY
set_option linter.unusedSimpArgs false
set_option linter.unusedVariables false
set_option linter.all false
set_option maxRecDepth 100000
set_option maxHeartbeats 1000000
namespace Go.Proofs.YtpnbkdlejfmbeaaGreat
open Go.W Go.Ti
theorem FA87_0 : FieldAt Tryz.prog 87 0 0 := FieldAt.mk (t := 52) (off := 0) Tryz.underlying87 rfl Tryz.sizeOf52 (by decide)
theorem FA87_1 : FieldAt Tryz.prog 87 1 1 := FieldAt.mk (t := 52) (off := 1) Tryz.underlying87 rfl Tryz.sizeOf52 (by decide)
/-- a truth as it lies: two slices -/
structure TrR where
  a : Option Addr
  c : Nat
  d : Option Addr
  e : Nat
  y : List Pr
  deriving Inhabited
def fstC (p : Pr) : List Value := [it p.1]
def sndC (p : Pr) : List Value := [it p.2]
theorem fstC_len : ∀ p, (fstC p).length = 1 := fun _ => rfl
theorem sndC_len : ∀ p, (sndC p).length = 1 := fun _ => rfl
theorem fstC_ones : ∀ p, ∀ v ∈ fstC p, v.oneCell' = true := fun p v hv => by rw [List.mem_singleton.1 hv]; rfl
theorem sndC_ones : ∀ p, ∀ v ∈ sndC p, v.oneCell' = true := fun p v hv => by rw [List.mem_singleton.1 hv]; rfl
def trC (r : TrR) : List Value := [.slice r.a r.y.length r.c, .slice r.d r.y.length r.e]
theorem trC_len : ∀ r, (trC r).length = 2 := fun _ => rfl
structure TrOk (D : Imm) (r : TrR) : Prop where
  b : SlL D 1 (r.y.map fstC) r.a r.y.length
  d : SlL D 1 (r.y.map sndC) r.d r.y.length
theorem TrOk.ext {w : World} {D D' : Imm} (hD : DExt w D D') {r : TrR} (h : TrOk D r) : TrOk D' r := ⟨h.b.ext hD, h.d.ext hD⟩
theorem fits_yes {T : Tks} {y : List Pr} (h1 : (gt y (y.length - 1)).1 ≤ (gt y (y.length - 1)).2) (h2 : ∀ i, i < y.length - 1 → (gt T.l i).hut = (gt T.l (y.length - 1)).hut → nearB (gt y i).2 (gt y (y.length - 1)).2 = false) : fitsB T y = true := by
  unfold fitsB
  rw [Bool.and_eq_true, List.all_eq_true]
  refine ⟨decide_eq_true h1, fun i hi => ?_⟩
  by_cases h : (gt T.l i).hut = (gt T.l (y.length - 1)).hut
  · rw [h2 i (List.mem_range.1 hi) h]; simp
  · rw [decide_eq_false h]; rfl
theorem fits_no1 {T : Tks} {y : List Pr} (h : (gt y (y.length - 1)).2 < (gt y (y.length - 1)).1) : fitsB T y = false := by
  unfold fitsB; rw [decide_eq_false (by omega)]; rfl
theorem fits_no2 {T : Tks} {y : List Pr} {k : Nat} (hk : k < y.length - 1) (h1 : (gt T.l k).hut = (gt T.l (y.length - 1)).hut) (h2 : nearB (gt y k).2 (gt y (y.length - 1)).2 = true) : fitsB T y = false := by
  cases h : fitsB T y with
  | false => rfl
  | true =>
    unfold fitsB at h
    rw [Bool.and_eq_true, List.all_eq_true] at h
    have h3 := h.2 k (List.mem_range.2 hk)
    rw [decide_eq_true h1, h2] at h3
    cases h3
theorem near_in (a b : Int) : inB (a - b) (-29) 29 = nearB a b := rfl

theorem fits_g (T : Tks) (a1 : Option Addr) (n1 c1 : Nat) (D : Imm) (w : World) (hR : TksR D T a1 n1) (hH : Holds D w) (r : TrR) (hq : TrOk D r) (h0 : 0 < r.y.length) (h1 : r.y.length ≤ T.l.length) (hy : ∀ i, i < r.y.length → 0 ≤ (gt r.y i).2 ∧ (gt r.y i).2 ≤ 240) : Gives Tryz.prog 110 [.agg #[it T.huts, .slice a1 n1 c1], .agg #[.slice r.a r.y.length r.c, .slice r.d r.y.length r.e]] w (.bool (fitsB T r.y)) := by
  unfold Gives
  obtain rfl := hR.tick.len'
  have hl1 := hR.len
  refine enter Tryz.func110 rfl 54 Tryz.ntmps110 (zqb rfl) (Inv.start hH) ?_
  refine WC.seq (WC.ofFr [(0, _), (1, _)] ⟨rfl, rfl, trivial⟩ (WC.region ?_))
  refine WL.so (SO.box rfl rfl) rfl ?_
  rintro _ _ _ ⟨b2, hb2, rfl, rfl, rfl⟩
  refine WL.so (SO.box rfl rfl) rfl ?_
  rintro _ _ _ ⟨b3, hb3, rfl, rfl, rfl⟩
  refine WL.yd (Yd.assign rfl) rfl ?_
  refine WL.nil (WP.thenC (WC.seq (WC.ofFr [(4, _), (3, _), (2, _)] ⟨rfl, rfl, rfl, trivial⟩ (WC.region ?_))))
  refine WL.yd (Yd.fieldAddr FA87_1 rfl) rfl ?_
  refine WL.yd (Yd.load1 Tryz.isAgg52 rfl (by first | exact ro0 rfl rfl | exact ro1 rfl rfl | exact ((hq.b.at k (by omega)).rd 0 rfl) | exact ((hq.d.at k (by omega)).rd 0 rfl) | exact ((hq.b.at (r.y.length - 1) (by omega)).rd 0 rfl) | exact ((hq.d.at (r.y.length - 1) (by omega)).rd 0 rfl) | exact ((hR.tick.at k (by omega)).rd 2 rfl) | exact ((hR.tick.at (r.y.length - 1) (by omega)).rd 2 rfl))) rfl ?_
  refine WL.yd (Yd.lenS rfl Tryz.underlying52 rfl) rfl ?_
  refine WL.yd (Yd.subN (j := 1) rfl rfl (by omega) (by omega)) rfl ?_
  refine WL.yd (Yd.assign rfl) rfl ?_
  refine WL.nil (WP.thenC (WC.seq (WC.seq (WC.ofFr [(5, _), (4, _), (3, _), (2, _)] ⟨rfl, rfl, rfl, rfl, trivial⟩ ?_))))
  refine WC.tail 10 [0, 1, 2, 3, 4, 5, 6, 7, 8, 9] rfl (by kernel_rfl) (by kernel_rfl)  ?_
  refine WQ.q rfl (Yd.qt (Yd.fieldAddr FA87_0 rfl)) rfl ?_
  refine WQ.q rfl (Yd.qt (Yd.load1 Tryz.isAgg52 rfl (by first | exact ro0 rfl rfl | exact ro1 rfl rfl | exact ((hq.b.at (r.y.length - 1) (by omega)).rd 0 rfl) | exact ((hq.d.at (r.y.length - 1) (by omega)).rd 0 rfl)))) rfl ?_
  refine WQ.q rfl (Yd.qt (Yd.move rfl)) rfl ?_
  refine WQ.q rfl (Yd.qt (Yd.indexS Tryz.underlying52 Tryz.sizeOf3 rfl rfl (by (try dsimp only); omega) (by (try dsimp only); omega) (by first | exact hq.b.addr (r.y.length - 1) (by omega) | exact hq.d.addr (r.y.length - 1) (by omega)))) rfl ?_
  refine WQ.q rfl (Yd.qt (Yd.load1 Tryz.isAgg3 rfl (by first | exact ro0 rfl rfl | exact ro1 rfl rfl | exact ((hq.b.at (r.y.length - 1) (by omega)).rd 0 rfl) | exact ((hq.d.at (r.y.length - 1) (by omega)).rd 0 rfl)))) rfl ?_
  refine WQ.q rfl (Yd.qt (Yd.fieldAddr FA87_1 rfl)) rfl ?_
  refine WQ.q rfl (Yd.qt (Yd.load1 Tryz.isAgg52 rfl (by first | exact ro0 rfl rfl | exact ro1 rfl rfl | exact ((hq.b.at (r.y.length - 1) (by omega)).rd 0 rfl) | exact ((hq.d.at (r.y.length - 1) (by omega)).rd 0 rfl)))) rfl ?_
  refine WQ.q rfl (Yd.qt (Yd.move rfl)) rfl ?_
  refine WQ.q rfl (Yd.qt (Yd.indexS Tryz.underlying52 Tryz.sizeOf3 rfl rfl (by (try dsimp only); omega) (by (try dsimp only); omega) (by first | exact hq.b.addr (r.y.length - 1) (by omega) | exact hq.d.addr (r.y.length - 1) (by omega)))) rfl ?_
  refine WQ.q rfl (Yd.qt (Yd.load1 Tryz.isAgg3 rfl (by first | exact ro0 rfl rfl | exact ro1 rfl rfl | exact ((hq.b.at (r.y.length - 1) (by omega)).rd 0 rfl) | exact ((hq.d.at (r.y.length - 1) (by omega)).rd 0 rfl)))) rfl ?_
  refine WQ.tail ?_
  refine WL.yd (Yd.gtr rfl rfl) rfl ?_
  refine WL.nil (WP.thenC ?_)
  refine WC.cond rfl (fun c21 => ?_) (fun c21 => ?_)
  · try simp only [zq1, zq2, zq3, zq4, zq5, zq6, zq7, zq8] at c21
    refine WC.seq (WC.ofFr [(5, _), (4, _), (3, _), (2, _)] ⟨rfl, rfl, rfl, rfl, trivial⟩ (WC.region ?_))
    refine WL.yd (Yd.assign rfl) rfl ?_
    refine WL.nil (WP.thenC (WC.ret (WP.thenRet ?_)))
    refine WP.ret1 rfl rfl Tryz.results110 (RV.tmp rfl) (fun w hI => ⟨ret_bool ?_, hI.keep⟩)
    symm
    first
      | exact fits_no1 (by omega)
      | exact fits_yes (by omega) (fun i hi => hd i (by omega))
      | exact fits_no2 (k := k) (by omega) (by simp_all) (by simp_all [near_in])
  · try simp only [zq1, zq2, zq3, zq4, zq5, zq6, zq7, zq8] at c21
    refine WC.skip (WP.thenC (WC.seq (WC.seq (WC.ofFr [(5, _), (4, _), (3, _), (2, _)] ⟨rfl, rfl, rfl, rfl, trivial⟩ (WC.region ?_)))))
    refine WL.yd (Yd.assign rfl) rfl ?_
    refine WL.nil (WP.thenC (WC.block ?_))
    refine WC.loopF (fun k : Nat => [(2, pt b2), (3, pt b3), (5, nt (r.y.length - 1)), (6, nt k)]) (fun k => k ≤ (r.y.length - 1) ∧ ∀ i, i < k → (gt T.l i).hut = (gt T.l (r.y.length - 1)).hut → nearB (gt r.y i).2 (gt r.y (r.y.length - 1)).2 = false) (fun k => (r.y.length - 1) - k) 0 ⟨by omega, by intro i hi; omega⟩ ⟨rfl, rfl, rfl, rfl, trivial⟩ ?_
    intro k ⟨hk, hd⟩
    refine WC.seq (WC.seq (WC.ofFr [(2, _), (3, _), (5, _), (6, _)] ⟨rfl, rfl, rfl, rfl, trivial⟩ (WC.region ?_)))
    refine WL.yd (Yd.move rfl) rfl ?_
    refine WL.yd (Yd.move rfl) rfl ?_
    refine WL.yd (Yd.lss rfl rfl) rfl ?_
    refine WL.nil (WP.thenC ?_)
    refine WC.cond rfl (fun c24 => ?_) (fun c24 => ?_)
    · try simp only [zq1, zq2, zq3, zq4, zq5, zq6, zq7, zq8] at c24
      have hkl : k < (r.y.length - 1) := by omega
      have hyk := hy k (by omega)
      have hyl := hy (r.y.length - 1) (by omega)
      refine WC.skip (WP.thenC (WC.seq (WC.block (WC.seq (WC.ofFr [(2, _), (3, _), (5, _), (6, _)] ⟨rfl, rfl, rfl, rfl, trivial⟩ ?_)))))
      refine WC.tail 24 [0, 1, 2, 3, 4, 5, 6, 7, 8, 9, 10, 11, 12, 13, 14, 15, 16, 17, 18, 19, 20, 21, 22, 23] rfl (by kernel_rfl) (by kernel_rfl)  ?_
      refine WQ.q rfl (Yd.qt (Yd.fieldAddr FA24_1 rfl)) rfl ?_
      refine WQ.q rfl (Yd.qt (Yd.load1 Tryz.isAgg22 rfl (by first | exact ro0 rfl rfl | exact ro1 rfl rfl | exact ((hq.b.at k (by omega)).rd 0 rfl) | exact ((hq.d.at k (by omega)).rd 0 rfl) | exact ((hq.b.at (r.y.length - 1) (by omega)).rd 0 rfl) | exact ((hq.d.at (r.y.length - 1) (by omega)).rd 0 rfl) | exact ((hR.tick.at k (by omega)).rd 2 rfl) | exact ((hR.tick.at (r.y.length - 1) (by omega)).rd 2 rfl)))) rfl ?_
      refine WQ.q rfl (Yd.qt (Yd.move rfl)) rfl ?_
      refine WQ.q rfl (Yd.qt (Yd.indexS Tryz.underlying22 Tryz.sizeOf57 rfl rfl (by (try dsimp only); omega) (by (try dsimp only); omega) (by first | exact hq.b.addr k (by omega) | exact hq.d.addr k (by omega) | exact hq.b.addr (r.y.length - 1) (by omega) | exact hq.d.addr (r.y.length - 1) (by omega) | exact hR.tick.addr k (by omega) | exact hR.tick.addr (r.y.length - 1) (by omega)))) rfl ?_
      refine WQ.q rfl (Yd.qt (Yd.fieldAddr FA57_1 rfl)) rfl ?_
      refine WQ.q rfl (Yd.qt (Yd.load1 Tryz.isAgg3 rfl (by first | exact ro0 rfl rfl | exact ro1 rfl rfl | exact ((hq.b.at k (by omega)).rd 0 rfl) | exact ((hq.d.at k (by omega)).rd 0 rfl) | exact ((hq.b.at (r.y.length - 1) (by omega)).rd 0 rfl) | exact ((hq.d.at (r.y.length - 1) (by omega)).rd 0 rfl) | exact ((hR.tick.at k (by omega)).rd 2 rfl) | exact ((hR.tick.at (r.y.length - 1) (by omega)).rd 2 rfl)))) rfl ?_
      refine WQ.q rfl (Yd.qt (Yd.fieldAddr FA24_1 rfl)) rfl ?_
      refine WQ.q rfl (Yd.qt (Yd.load1 Tryz.isAgg22 rfl (by first | exact ro0 rfl rfl | exact ro1 rfl rfl | exact ((hq.b.at k (by omega)).rd 0 rfl) | exact ((hq.d.at k (by omega)).rd 0 rfl) | exact ((hq.b.at (r.y.length - 1) (by omega)).rd 0 rfl) | exact ((hq.d.at (r.y.length - 1) (by omega)).rd 0 rfl) | exact ((hR.tick.at k (by omega)).rd 2 rfl) | exact ((hR.tick.at (r.y.length - 1) (by omega)).rd 2 rfl)))) rfl ?_
      refine WQ.q rfl (Yd.qt (Yd.move rfl)) rfl ?_
      refine WQ.q rfl (Yd.qt (Yd.indexS Tryz.underlying22 Tryz.sizeOf57 rfl rfl (by (try dsimp only); omega) (by (try dsimp only); omega) (by first | exact hq.b.addr k (by omega) | exact hq.d.addr k (by omega) | exact hq.b.addr (r.y.length - 1) (by omega) | exact hq.d.addr (r.y.length - 1) (by omega) | exact hR.tick.addr k (by omega) | exact hR.tick.addr (r.y.length - 1) (by omega)))) rfl ?_
      refine WQ.q rfl (Yd.qt (Yd.fieldAddr FA57_1 rfl)) rfl ?_
      refine WQ.q rfl (Yd.qt (Yd.load1 Tryz.isAgg3 rfl (by first | exact ro0 rfl rfl | exact ro1 rfl rfl | exact ((hq.b.at k (by omega)).rd 0 rfl) | exact ((hq.d.at k (by omega)).rd 0 rfl) | exact ((hq.b.at (r.y.length - 1) (by omega)).rd 0 rfl) | exact ((hq.d.at (r.y.length - 1) (by omega)).rd 0 rfl) | exact ((hR.tick.at k (by omega)).rd 2 rfl) | exact ((hR.tick.at (r.y.length - 1) (by omega)).rd 2 rfl)))) rfl ?_
      refine WQ.q rfl (Yd.qt (Yd.eql rfl rfl)) rfl ?_
      refine WQ.q rfl (Yd.qt (Yd.move rfl)) rfl ?_
      refine WQ.part 40 rfl (fun g40 => ?_) (fun g40 => ?_)
      · try simp only [zq1, zq2, zq3, zq4, zq5, zq6, zq7, zq8] at g40
        refine WQ.qg rfl rfl (Yd.qt (Yd.fieldAddr FA87_1 rfl)) rfl ?_
        refine WQ.qg rfl rfl (Yd.qt (Yd.load1 Tryz.isAgg52 rfl (by first | exact ro0 rfl rfl | exact ro1 rfl rfl | exact ((hq.b.at k (by omega)).rd 0 rfl) | exact ((hq.d.at k (by omega)).rd 0 rfl) | exact ((hq.b.at (r.y.length - 1) (by omega)).rd 0 rfl) | exact ((hq.d.at (r.y.length - 1) (by omega)).rd 0 rfl) | exact ((hR.tick.at k (by omega)).rd 2 rfl) | exact ((hR.tick.at (r.y.length - 1) (by omega)).rd 2 rfl)))) rfl ?_
        refine WQ.qg rfl rfl (Yd.qt (Yd.move rfl)) rfl ?_
        refine WQ.qg rfl rfl (Yd.qt (Yd.indexS Tryz.underlying52 Tryz.sizeOf3 rfl rfl (by (try dsimp only); omega) (by (try dsimp only); omega) (by first | exact hq.b.addr k (by omega) | exact hq.d.addr k (by omega) | exact hq.b.addr (r.y.length - 1) (by omega) | exact hq.d.addr (r.y.length - 1) (by omega) | exact hR.tick.addr k (by omega) | exact hR.tick.addr (r.y.length - 1) (by omega)))) rfl ?_
        refine WQ.qg rfl rfl (Yd.qt (Yd.load1 Tryz.isAgg3 rfl (by first | exact ro0 rfl rfl | exact ro1 rfl rfl | exact ((hq.b.at k (by omega)).rd 0 rfl) | exact ((hq.d.at k (by omega)).rd 0 rfl) | exact ((hq.b.at (r.y.length - 1) (by omega)).rd 0 rfl) | exact ((hq.d.at (r.y.length - 1) (by omega)).rd 0 rfl) | exact ((hR.tick.at k (by omega)).rd 2 rfl) | exact ((hR.tick.at (r.y.length - 1) (by omega)).rd 2 rfl)))) rfl ?_
        refine WQ.qg rfl rfl (Yd.qt (Yd.fieldAddr FA87_1 rfl)) rfl ?_
        refine WQ.qg rfl rfl (Yd.qt (Yd.load1 Tryz.isAgg52 rfl (by first | exact ro0 rfl rfl | exact ro1 rfl rfl | exact ((hq.b.at k (by omega)).rd 0 rfl) | exact ((hq.d.at k (by omega)).rd 0 rfl) | exact ((hq.b.at (r.y.length - 1) (by omega)).rd 0 rfl) | exact ((hq.d.at (r.y.length - 1) (by omega)).rd 0 rfl) | exact ((hR.tick.at k (by omega)).rd 2 rfl) | exact ((hR.tick.at (r.y.length - 1) (by omega)).rd 2 rfl)))) rfl ?_
        refine WQ.qg rfl rfl (Yd.qt (Yd.move rfl)) rfl ?_
        refine WQ.qg rfl rfl (Yd.qt (Yd.indexS Tryz.underlying52 Tryz.sizeOf3 rfl rfl (by (try dsimp only); omega) (by (try dsimp only); omega) (by first | exact hq.b.addr k (by omega) | exact hq.d.addr k (by omega) | exact hq.b.addr (r.y.length - 1) (by omega) | exact hq.d.addr (r.y.length - 1) (by omega) | exact hR.tick.addr k (by omega) | exact hR.tick.addr (r.y.length - 1) (by omega)))) rfl ?_
        refine WQ.qg rfl rfl (Yd.qt (Yd.load1 Tryz.isAgg3 rfl (by first | exact ro0 rfl rfl | exact ro1 rfl rfl | exact ((hq.b.at k (by omega)).rd 0 rfl) | exact ((hq.d.at k (by omega)).rd 0 rfl) | exact ((hq.b.at (r.y.length - 1) (by omega)).rd 0 rfl) | exact ((hq.d.at (r.y.length - 1) (by omega)).rd 0 rfl) | exact ((hR.tick.at k (by omega)).rd 2 rfl) | exact ((hR.tick.at (r.y.length - 1) (by omega)).rd 2 rfl)))) rfl ?_
        refine WQ.tail ?_
        refine WL.ydg rfl (Yd.sub rfl rfl (wr64 ⟨by (try dsimp only); omega, by (try dsimp only); omega⟩)) rfl ?_
        refine WL.sog rfl (SO.callP Tryz.call71 rfl (fun w hI => in03_g _ _ _ _)) rfl ?_
        rintro _ _ _ ⟨rfl, rfl, rfl⟩
        refine WL.yd (Yd.pickT rfl rfl) rfl ?_
        refine WL.nil (WP.thenC ?_)
        refine WC.cond rfl (fun c53 => ?_) (fun c53 => ?_)
        · try simp only [zq1, zq2, zq3, zq4, zq5, zq6, zq7, zq8] at c53
          refine WC.seq (WC.ofFr [(2, _), (3, _), (5, _), (6, _)] ⟨rfl, rfl, rfl, rfl, trivial⟩ (WC.region ?_))
          refine WL.yd (Yd.assign rfl) rfl ?_
          refine WL.nil (WP.thenC (WC.ret (WP.blkRet (WP.thenRet (WP.thenRet (WP.blkRet (WP.thenRet ?_)))))))
          refine WP.ret1 rfl rfl Tryz.results110 (RV.tmp rfl) (fun w hI => ⟨ret_bool ?_, hI.keep⟩)
          symm
          first
            | exact fits_no1 (by omega)
            | exact fits_yes (by omega) (fun i hi => hd i (by omega))
            | exact fits_no2 (k := k) (by omega) (by simp_all) (by simp_all [near_in])
        · try simp only [zq1, zq2, zq3, zq4, zq5, zq6, zq7, zq8] at c53
          refine WC.skip (WP.blkNormal (WP.thenC (WC.ofFr [(2, _), (3, _), (5, _), (6, _)] ⟨rfl, rfl, rfl, rfl, trivial⟩ (WC.region ?_))))
          refine WL.yd (Yd.move rfl) rfl ?_
          refine WL.yd (Yd.addN (i := k) (j := 1) rfl rfl (by omega)) rfl ?_
          refine WL.yd (Yd.assign rfl) rfl ?_
          refine WL.nil ?_
          exact WP.againF (k + 1) ⟨by omega, ext_round hd (by first | (intro hh; simp_all; done) | (intro hh; simp_all [near_in]))⟩ (by omega) ⟨rfl, rfl, rfl, rfl, trivial⟩ (fun _ h => h) (fun h => h)
      · try simp only [zq1, zq2, zq3, zq4, zq5, zq6, zq7, zq8] at g40
        refine WQ.skip rfl rfl rfl ?_
        refine WQ.skip rfl rfl rfl ?_
        refine WQ.skip rfl rfl rfl ?_
        refine WQ.skip rfl rfl rfl ?_
        refine WQ.skip rfl rfl rfl ?_
        refine WQ.skip rfl rfl rfl ?_
        refine WQ.skip rfl rfl rfl ?_
        refine WQ.skip rfl rfl rfl ?_
        refine WQ.skip rfl rfl rfl ?_
        refine WQ.skip rfl rfl rfl ?_
        refine WQ.tail ?_
        refine WL.skip rfl rfl ?_
        refine WL.skip rfl rfl ?_
        refine WL.yd (Yd.pickF rfl rfl) rfl ?_
        refine WL.nil (WP.thenC ?_)
        refine WC.condF rfl ?_
        refine WC.skip (WP.blkNormal (WP.thenC (WC.ofFr [(2, _), (3, _), (5, _), (6, _)] ⟨rfl, rfl, rfl, rfl, trivial⟩ (WC.region ?_))))
        refine WL.yd (Yd.move rfl) rfl ?_
        refine WL.yd (Yd.addN (i := k) (j := 1) rfl rfl (by omega)) rfl ?_
        refine WL.yd (Yd.assign rfl) rfl ?_
        refine WL.nil ?_
        exact WP.againF (k + 1) ⟨by omega, ext_round hd (by first | (intro hh; simp_all; done) | (intro hh; simp_all [near_in]))⟩ (by omega) ⟨rfl, rfl, rfl, rfl, trivial⟩ (fun _ h => h) (fun h => h)
    · try simp only [zq1, zq2, zq3, zq4, zq5, zq6, zq7, zq8] at c24
      refine WC.exit ?_
      refine WP.thenExit ?_
      refine WP.thenExit ?_
      refine WP.blkHit ?_
      refine WP.thenC (WC.seq (WC.ofFr [] trivial (WC.region ?_)))
      refine WL.yd (Yd.assign rfl) rfl ?_
      refine WL.nil (WP.thenC (WC.ret ?_))
      refine WP.ret1 rfl rfl Tryz.results110 (RV.tmp rfl) (fun w hI => ⟨ret_bool ?_, hI.keep⟩)
      symm
      first
        | exact fits_no1 (by omega)
        | exact fits_yes (by omega) (fun i hi => hd i (by omega))
        | exact fits_no2 (k := k) (by omega) (by simp_all) (by simp_all [near_in])

theorem bef03_g (r : TrR) (D : Imm) (w : World) (hq : TrOk D r) (hH : Holds D w) (a b : Nat) (ha : a < r.y.length) (hb : b < r.y.length) : Gives Tryz.prog 111 [.agg #[.slice r.a r.y.length r.c, .slice r.d r.y.length r.e], nt a, nt b] w (.bool (befT (gt r.y) a b)) := by
  unfold Gives
  refine enter Tryz.func111 rfl 36 Tryz.ntmps111 (zqb rfl) (Inv.start hH) ?_
  refine WC.seq (WC.ofFr [(0, _), (1, _), (2, _)] ⟨rfl, rfl, rfl, trivial⟩ (WC.region ?_))
  refine WL.so (SO.box rfl rfl) rfl ?_
  rintro _ _ _ ⟨b3, hb3, rfl, rfl, rfl⟩
  refine WL.yd (Yd.assign rfl) rfl ?_
  refine WL.nil (WP.thenC (WC.seq (WC.ofFr [(6, _), (3, _), (1, _), (2, _)] ⟨rfl, rfl, rfl, rfl, trivial⟩ ?_)))
  refine WC.tail 26 [0, 1, 2, 3, 4, 5, 6, 7, 8, 9, 10, 11, 12, 13, 14, 15, 16, 17, 18, 19, 20, 21, 22, 23, 24, 25] rfl (by kernel_rfl) (by kernel_rfl)  ?_
  refine WQ.q rfl (Yd.qt (Yd.fieldAddr FA87_0 rfl)) rfl ?_
  refine WQ.q rfl (Yd.qt (Yd.load1 Tryz.isAgg52 rfl (by first | exact ro0 rfl rfl | exact ((hq.b.at a (by omega)).rd 0 rfl) | exact ((hq.d.at a (by omega)).rd 0 rfl) | exact ((hq.b.at b (by omega)).rd 0 rfl) | exact ((hq.d.at b (by omega)).rd 0 rfl)))) rfl ?_
  refine WQ.q rfl (Yd.qt (Yd.move rfl)) rfl ?_
  refine WQ.q rfl (Yd.qt (Yd.indexS Tryz.underlying52 Tryz.sizeOf3 rfl rfl (by (try dsimp only); omega) (by (try dsimp only); omega) (by first | exact hq.b.addr a (by omega) | exact hq.d.addr a (by omega) | exact hq.b.addr b (by omega) | exact hq.d.addr b (by omega)))) rfl ?_
  refine WQ.q rfl (Yd.qt (Yd.load1 Tryz.isAgg3 rfl (by first | exact ro0 rfl rfl | exact ((hq.b.at a (by omega)).rd 0 rfl) | exact ((hq.d.at a (by omega)).rd 0 rfl) | exact ((hq.b.at b (by omega)).rd 0 rfl) | exact ((hq.d.at b (by omega)).rd 0 rfl)))) rfl ?_
  refine WQ.q rfl (Yd.qt (Yd.fieldAddr FA87_0 rfl)) rfl ?_
  refine WQ.q rfl (Yd.qt (Yd.load1 Tryz.isAgg52 rfl (by first | exact ro0 rfl rfl | exact ((hq.b.at a (by omega)).rd 0 rfl) | exact ((hq.d.at a (by omega)).rd 0 rfl) | exact ((hq.b.at b (by omega)).rd 0 rfl) | exact ((hq.d.at b (by omega)).rd 0 rfl)))) rfl ?_
  refine WQ.q rfl (Yd.qt (Yd.move rfl)) rfl ?_
  refine WQ.q rfl (Yd.qt (Yd.indexS Tryz.underlying52 Tryz.sizeOf3 rfl rfl (by (try dsimp only); omega) (by (try dsimp only); omega) (by first | exact hq.b.addr a (by omega) | exact hq.d.addr a (by omega) | exact hq.b.addr b (by omega) | exact hq.d.addr b (by omega)))) rfl ?_
  refine WQ.q rfl (Yd.qt (Yd.load1 Tryz.isAgg3 rfl (by first | exact ro0 rfl rfl | exact ((hq.b.at a (by omega)).rd 0 rfl) | exact ((hq.d.at a (by omega)).rd 0 rfl) | exact ((hq.b.at b (by omega)).rd 0 rfl) | exact ((hq.d.at b (by omega)).rd 0 rfl)))) rfl ?_
  refine WQ.q rfl (Yd.qt (Yd.lss rfl rfl)) rfl ?_
  refine WQ.q rfl (Yd.qt (Yd.move rfl)) rfl ?_
  refine WQ.part 18 rfl (fun g18 => ?_) (fun g18 => ?_)
  · try simp only [zq1, zq2, zq3, zq4, zq5, zq6, zq7, zq8] at g18
    refine WQ.skip rfl rfl rfl ?_
    refine WQ.skip rfl rfl rfl ?_
    refine WQ.skip rfl rfl rfl ?_
    refine WQ.skip rfl rfl rfl ?_
    refine WQ.skip rfl rfl rfl ?_
    refine WQ.skip rfl rfl rfl ?_
    refine WQ.skip rfl rfl rfl ?_
    refine WQ.skip rfl rfl rfl ?_
    refine WQ.skip rfl rfl rfl ?_
    refine WQ.skip rfl rfl rfl ?_
    refine WQ.skip rfl rfl rfl ?_
    refine WQ.skip rfl rfl rfl ?_
    refine WQ.skipU rfl rfl rfl ?_
    refine WQ.skipU rfl rfl rfl ?_
    refine WQ.tail ?_
    refine WL.skipU rfl rfl ?_
    refine WL.skip rfl rfl ?_
    refine WL.yd (Yd.pickT rfl rfl) rfl ?_
    refine WL.yd (Yd.assign rfl) rfl ?_
    refine WL.nil (WP.thenC (WC.ret ?_))
    refine WP.ret1 rfl rfl Tryz.results111 (RV.tmp rfl) (fun w hI => ⟨ret_bool (by unfold befT; rw [Bool.eq_iff_iff]; simp_all <;> omega), hI.keep⟩)
  · try simp only [zq1, zq2, zq3, zq4, zq5, zq6, zq7, zq8] at g18
    refine WQ.qg rfl rfl (Yd.qt (Yd.fieldAddr FA87_0 rfl)) rfl ?_
    refine WQ.qg rfl rfl (Yd.qt (Yd.load1 Tryz.isAgg52 rfl (by first | exact ro0 rfl rfl | exact ((hq.b.at a (by omega)).rd 0 rfl) | exact ((hq.d.at a (by omega)).rd 0 rfl) | exact ((hq.b.at b (by omega)).rd 0 rfl) | exact ((hq.d.at b (by omega)).rd 0 rfl)))) rfl ?_
    refine WQ.qg rfl rfl (Yd.qt (Yd.move rfl)) rfl ?_
    refine WQ.qg rfl rfl (Yd.qt (Yd.indexS Tryz.underlying52 Tryz.sizeOf3 rfl rfl (by (try dsimp only); omega) (by (try dsimp only); omega) (by first | exact hq.b.addr a (by omega) | exact hq.d.addr a (by omega) | exact hq.b.addr b (by omega) | exact hq.d.addr b (by omega)))) rfl ?_
    refine WQ.qg rfl rfl (Yd.qt (Yd.load1 Tryz.isAgg3 rfl (by first | exact ro0 rfl rfl | exact ((hq.b.at a (by omega)).rd 0 rfl) | exact ((hq.d.at a (by omega)).rd 0 rfl) | exact ((hq.b.at b (by omega)).rd 0 rfl) | exact ((hq.d.at b (by omega)).rd 0 rfl)))) rfl ?_
    refine WQ.qg rfl rfl (Yd.qt (Yd.fieldAddr FA87_0 rfl)) rfl ?_
    refine WQ.qg rfl rfl (Yd.qt (Yd.load1 Tryz.isAgg52 rfl (by first | exact ro0 rfl rfl | exact ((hq.b.at a (by omega)).rd 0 rfl) | exact ((hq.d.at a (by omega)).rd 0 rfl) | exact ((hq.b.at b (by omega)).rd 0 rfl) | exact ((hq.d.at b (by omega)).rd 0 rfl)))) rfl ?_
    refine WQ.qg rfl rfl (Yd.qt (Yd.move rfl)) rfl ?_
    refine WQ.qg rfl rfl (Yd.qt (Yd.indexS Tryz.underlying52 Tryz.sizeOf3 rfl rfl (by (try dsimp only); omega) (by (try dsimp only); omega) (by first | exact hq.b.addr a (by omega) | exact hq.d.addr a (by omega) | exact hq.b.addr b (by omega) | exact hq.d.addr b (by omega)))) rfl ?_
    refine WQ.qg rfl rfl (Yd.qt (Yd.load1 Tryz.isAgg3 rfl (by first | exact ro0 rfl rfl | exact ((hq.b.at a (by omega)).rd 0 rfl) | exact ((hq.d.at a (by omega)).rd 0 rfl) | exact ((hq.b.at b (by omega)).rd 0 rfl) | exact ((hq.d.at b (by omega)).rd 0 rfl)))) rfl ?_
    refine WQ.qg rfl rfl (Yd.qt (Yd.eql rfl rfl)) rfl ?_
    refine WQ.qg rfl rfl (Yd.qt (Yd.move rfl)) rfl ?_
    refine WQ.part 30 rfl (fun g30 => ?_) (fun g30 => ?_)
    · try simp only [zq1, zq2, zq3, zq4, zq5, zq6, zq7, zq8] at g30
      refine WQ.qg rfl rfl (Yd.qt (Yd.move rfl)) rfl ?_
      refine WQ.qg rfl rfl (Yd.qt (Yd.move rfl)) rfl ?_
      refine WQ.tail ?_
      refine WL.ydg rfl (Yd.lss rfl rfl) rfl ?_
      refine WL.ydg rfl (Yd.pickT rfl rfl) rfl ?_
      refine WL.yd (Yd.pickF rfl rfl) rfl ?_
      refine WL.yd (Yd.assign rfl) rfl ?_
      refine WL.nil (WP.thenC (WC.ret ?_))
      refine WP.ret1 rfl rfl Tryz.results111 (RV.tmp rfl) (fun w hI => ⟨ret_bool (by unfold befT; rw [Bool.eq_iff_iff]; simp_all <;> omega), hI.keep⟩)
    · try simp only [zq1, zq2, zq3, zq4, zq5, zq6, zq7, zq8] at g30
      refine WQ.skip rfl rfl rfl ?_
      refine WQ.skip rfl rfl rfl ?_
      refine WQ.tail ?_
      refine WL.skip rfl rfl ?_
      refine WL.ydg rfl (Yd.pickF rfl rfl) rfl ?_
      refine WL.yd (Yd.pickF rfl rfl) rfl ?_
      refine WL.yd (Yd.assign rfl) rfl ?_
      refine WL.nil (WP.thenC (WC.ret ?_))
      refine WP.ret1 rfl rfl Tryz.results111 (RV.tmp rfl) (fun w hI => ⟨ret_bool (by unfold befT; rw [Bool.eq_iff_iff]; simp_all <;> omega), hI.keep⟩)

theorem over03_g (r : TrR) (D : Imm) (w : World) (hq : TrOk D r) (hH : Holds D w) (a b : Nat) (ha : a < r.y.length) (hb : b < r.y.length) : Gives Tryz.prog 103 [.agg #[.slice r.a r.y.length r.c, .slice r.d r.y.length r.e], nt a, nt b] w (.bool (overT (gt r.y) a b)) := by
  unfold Gives
  refine enter Tryz.func103 rfl 24 Tryz.ntmps103 (zqb rfl) (Inv.start hH) ?_
  refine WC.seq (WC.ofFr [(0, _), (1, _), (2, _)] ⟨rfl, rfl, rfl, trivial⟩ (WC.region ?_))
  refine WL.so (SO.box rfl rfl) rfl ?_
  rintro _ _ _ ⟨b3, hb3, rfl, rfl, rfl⟩
  refine WL.yd (Yd.assign rfl) rfl ?_
  refine WL.nil (WP.thenC (WC.seq (WC.ofFr [(6, _), (3, _), (1, _), (2, _)] ⟨rfl, rfl, rfl, rfl, trivial⟩ ?_)))
  refine WC.tail 15 [0, 1, 2, 3, 4, 5, 6, 7, 8, 9, 10, 11, 12, 13, 14] rfl (by kernel_rfl) (by kernel_rfl)  ?_
  refine WQ.q rfl (Yd.qt (Yd.loadN Tryz.isAgg87 Tryz.sizeOf87 rfl (vs := [_, _]) rfl (by first | exact rn0 (n := 2) rfl rfl))) rfl ?_
  refine WQ.q rfl (Yd.qt (Yd.move rfl)) rfl ?_
  refine WQ.q rfl (Yd.qt (Yd.move rfl)) rfl ?_
  refine WQ.q rfl (Qt.callP Tryz.call111 rfl (fun w hI => bef03_g r _ _ hq hI.imm b a (by omega) (by omega))) rfl ?_
  refine WQ.q rfl (Yd.qt (Yd.move rfl)) rfl ?_
  refine WQ.part 11 rfl (fun g11 => ?_) (fun g11 => ?_)
  · try simp only [zq1, zq2, zq3, zq4, zq5, zq6, zq7, zq8] at g11
    refine WQ.qg rfl rfl (Yd.qt (Yd.fieldAddr FA87_1 rfl)) rfl ?_
    refine WQ.qg rfl rfl (Yd.qt (Yd.load1 Tryz.isAgg52 rfl (by first | exact ro0 rfl rfl | exact ((hq.b.at a (by omega)).rd 0 rfl) | exact ((hq.d.at a (by omega)).rd 0 rfl) | exact ((hq.b.at b (by omega)).rd 0 rfl) | exact ((hq.d.at b (by omega)).rd 0 rfl)))) rfl ?_
    refine WQ.qg rfl rfl (Yd.qt (Yd.move rfl)) rfl ?_
    refine WQ.qg rfl rfl (Yd.qt (Yd.indexS Tryz.underlying52 Tryz.sizeOf3 rfl rfl (by (try dsimp only); omega) (by (try dsimp only); omega) (by first | exact hq.b.addr a (by omega) | exact hq.d.addr a (by omega) | exact hq.b.addr b (by omega) | exact hq.d.addr b (by omega)))) rfl ?_
    refine WQ.qg rfl rfl (Yd.qt (Yd.load1 Tryz.isAgg3 rfl (by first | exact ro0 rfl rfl | exact ((hq.b.at a (by omega)).rd 0 rfl) | exact ((hq.d.at a (by omega)).rd 0 rfl) | exact ((hq.b.at b (by omega)).rd 0 rfl) | exact ((hq.d.at b (by omega)).rd 0 rfl)))) rfl ?_
    refine WQ.qg rfl rfl (Yd.qt (Yd.fieldAddr FA87_1 rfl)) rfl ?_
    refine WQ.qg rfl rfl (Yd.qt (Yd.load1 Tryz.isAgg52 rfl (by first | exact ro0 rfl rfl | exact ((hq.b.at a (by omega)).rd 0 rfl) | exact ((hq.d.at a (by omega)).rd 0 rfl) | exact ((hq.b.at b (by omega)).rd 0 rfl) | exact ((hq.d.at b (by omega)).rd 0 rfl)))) rfl ?_
    refine WQ.qg rfl rfl (Yd.qt (Yd.move rfl)) rfl ?_
    refine WQ.qg rfl rfl (Yd.qt (Yd.indexS Tryz.underlying52 Tryz.sizeOf3 rfl rfl (by (try dsimp only); omega) (by (try dsimp only); omega) (by first | exact hq.b.addr a (by omega) | exact hq.d.addr a (by omega) | exact hq.b.addr b (by omega) | exact hq.d.addr b (by omega)))) rfl ?_
    refine WQ.qg rfl rfl (Yd.qt (Yd.load1 Tryz.isAgg3 rfl (by first | exact ro0 rfl rfl | exact ((hq.b.at a (by omega)).rd 0 rfl) | exact ((hq.d.at a (by omega)).rd 0 rfl) | exact ((hq.b.at b (by omega)).rd 0 rfl) | exact ((hq.d.at b (by omega)).rd 0 rfl)))) rfl ?_
    refine WQ.tail ?_
    refine WL.ydg rfl (Yd.gtr rfl rfl) rfl ?_
    refine WL.yd (Yd.pickT rfl rfl) rfl ?_
    refine WL.yd (Yd.assign rfl) rfl ?_
    refine WL.nil (WP.thenC (WC.ret ?_))
    refine WP.ret1 rfl rfl Tryz.results103 (RV.tmp rfl) (fun w hI => ⟨ret_bool (by unfold overT; rw [Bool.eq_iff_iff]; simp_all), hI.keep⟩)
  · try simp only [zq1, zq2, zq3, zq4, zq5, zq6, zq7, zq8] at g11
    refine WQ.skip rfl rfl rfl ?_
    refine WQ.skip rfl rfl rfl ?_
    refine WQ.skip rfl rfl rfl ?_
    refine WQ.skip rfl rfl rfl ?_
    refine WQ.skip rfl rfl rfl ?_
    refine WQ.skip rfl rfl rfl ?_
    refine WQ.skip rfl rfl rfl ?_
    refine WQ.skip rfl rfl rfl ?_
    refine WQ.skip rfl rfl rfl ?_
    refine WQ.skip rfl rfl rfl ?_
    refine WQ.tail ?_
    refine WL.skip rfl rfl ?_
    refine WL.yd (Yd.pickF rfl rfl) rfl ?_
    refine WL.yd (Yd.assign rfl) rfl ?_
    refine WL.nil (WP.thenC (WC.ret ?_))
    refine WP.ret1 rfl rfl Tryz.results103 (RV.tmp rfl) (fun w hI => ⟨ret_bool (by unfold overT; rw [Bool.eq_iff_iff]; simp_all), hI.keep⟩)

theorem turn03_g (r : TrR) (D : Imm) (w : World) (hq : TrOk D r) (hH : Holds D w) (a : Nat) (ha : a < r.y.length) (hl : r.y.length ≤ 1000) : Gives Tryz.prog 86 [.agg #[.slice r.a r.y.length r.c, .slice r.d r.y.length r.e], nt a] w (.bool (turnT r.y.length (gt r.y) a)) := by
  unfold Gives
  refine enter Tryz.func86 rfl 17 Tryz.ntmps86 (zqb rfl) (Inv.start hH) ?_
  refine WC.seq (WC.ofFr [(0, _), (1, _)] ⟨rfl, rfl, trivial⟩ (WC.region ?_))
  refine WL.so (SO.box rfl rfl) rfl ?_
  rintro _ _ _ ⟨b2, hb2, rfl, rfl, rfl⟩
  refine WL.yd (Yd.assign rfl) rfl ?_
  refine WL.nil (WP.thenC (WC.seq (WC.seq (WC.ofFr [(4, _), (2, _), (1, _)] ⟨rfl, rfl, rfl, trivial⟩ (WC.region ?_)))))
  refine WL.yd (Yd.assign rfl) rfl ?_
  refine WL.nil (WP.thenC (WC.block ?_))
  refine WC.loopF (fun k : Nat => [(1, nt a), (2, pt b2), (5, nt k)]) (fun k => k ≤ r.y.length ∧ ∀ i, i < k → overT (gt r.y) a i = false) (fun k => r.y.length - k) 0 ⟨by omega, by intro i hi; omega⟩ ⟨rfl, rfl, rfl, trivial⟩ ?_
  intro k ⟨hk, hd⟩
  refine WC.seq (WC.seq (WC.ofFr [(1, _), (2, _), (5, _)] ⟨rfl, rfl, rfl, trivial⟩ (WC.region ?_)))
  refine WL.yd (Yd.move rfl) rfl ?_
  refine WL.yd (Yd.fieldAddr FA87_1 rfl) rfl ?_
  refine WL.yd (Yd.load1 Tryz.isAgg52 rfl (by first | exact ro0 rfl rfl)) rfl ?_
  refine WL.yd (Yd.lenS rfl Tryz.underlying52 rfl) rfl ?_
  refine WL.yd (Yd.lss rfl rfl) rfl ?_
  refine WL.nil (WP.thenC ?_)
  refine WC.cond rfl (fun c10 => ?_) (fun c10 => ?_)
  · try simp only [zq1, zq2, zq3, zq4, zq5, zq6, zq7, zq8] at c10
    refine WC.skip (WP.thenC (WC.seq (WC.block (WC.seq (WC.ofFr [(1, _), (2, _), (5, _)] ⟨rfl, rfl, rfl, trivial⟩ (WC.region ?_))))))
    refine WL.yd (Yd.loadN Tryz.isAgg87 Tryz.sizeOf87 rfl (vs := [_, _]) rfl (by first | exact rn0 (n := 2) rfl rfl)) rfl ?_
    refine WL.yd (Yd.move rfl) rfl ?_
    refine WL.yd (Yd.move rfl) rfl ?_
    refine WL.so (SO.callP Tryz.call103 rfl (fun w hI => over03_g r _ _ hq hI.imm a k (by omega) (by omega))) rfl ?_
    rintro _ _ _ ⟨rfl, rfl, rfl⟩
    refine WL.nil (WP.thenC ?_)
    refine WC.cond rfl (fun c16 => ?_) (fun c16 => ?_)
    · try simp only [zq1, zq2, zq3, zq4, zq5, zq6, zq7, zq8] at c16
      refine WC.seq (WC.ofFr [(1, _), (2, _), (5, _)] ⟨rfl, rfl, rfl, trivial⟩ (WC.region ?_))
      refine WL.yd (Yd.assign rfl) rfl ?_
      refine WL.nil (WP.thenC (WC.ret (WP.blkRet (WP.thenRet (WP.thenRet (WP.blkRet (WP.thenRet ?_)))))))
      refine WP.ret1 rfl rfl Tryz.results86 (RV.tmp rfl) (fun w hI => ⟨ret_bool ?_, hI.keep⟩)
      symm
      first
        | (unfold turnT
           rw [Bool.not_eq_true', List.any_eq_false]
           intro i hi
           rw [hd i (by have := List.mem_range.1 hi; omega)]
           simp)
        | (unfold turnT
           rw [Bool.not_eq_false']
           exact List.any_eq_true.2 ⟨k, List.mem_range.2 (by omega), by simp_all⟩)
    · try simp only [zq1, zq2, zq3, zq4, zq5, zq6, zq7, zq8] at c16
      refine WC.skip (WP.blkNormal (WP.thenC (WC.ofFr [(1, _), (2, _), (5, _)] ⟨rfl, rfl, rfl, trivial⟩ (WC.region ?_))))
      refine WL.yd (Yd.move rfl) rfl ?_
      refine WL.yd (Yd.addN (i := k) (j := 1) rfl rfl (by omega)) rfl ?_
      refine WL.yd (Yd.assign rfl) rfl ?_
      refine WL.nil ?_
      exact WP.againF (k + 1) ⟨by omega, ext_round hd (by simp_all)⟩ (by omega) ⟨rfl, rfl, rfl, trivial⟩ (fun _ h => h) (fun h => h)
  · try simp only [zq1, zq2, zq3, zq4, zq5, zq6, zq7, zq8] at c10
    refine WC.exit ?_
    refine WP.thenExit ?_
    refine WP.thenExit ?_
    refine WP.blkHit ?_
    refine WP.thenC (WC.seq (WC.ofFr [] trivial (WC.region ?_)))
    refine WL.yd (Yd.assign rfl) rfl ?_
    refine WL.nil (WP.thenC (WC.ret ?_))
    refine WP.ret1 rfl rfl Tryz.results86 (RV.tmp rfl) (fun w hI => ⟨ret_bool ?_, hI.keep⟩)
    symm
    first
      | (unfold turnT
         rw [Bool.not_eq_true', List.any_eq_false]
         intro i hi
         rw [hd i (by have := List.mem_range.1 hi; omega)]
         simp)
      | (unfold turnT
         rw [Bool.not_eq_false']
         exact List.any_eq_true.2 ⟨k, List.mem_range.2 (by omega), by simp_all⟩)

theorem fineOf_g (X : Till) (a1 : Option Addr) (n1 c1 : Nat) (r : TrR) (D : Imm) (w : World) (hq : TrOk D r) (hH : Holds D w) (a : Nat) (ha : a < r.y.length) (hl : r.y.length ≤ 1000) : Gives Tryz.prog 49 [.agg #[it X.tk.huts, .slice a1 n1 c1, it X.price, it X.fine, it X.wait], .agg #[.slice r.a r.y.length r.c, .slice r.d r.y.length r.e], nt a] w (it (fineY X r.y a)) := by
  unfold Gives
  refine enter Tryz.func49 rfl 12 Tryz.ntmps49 (zqb rfl) (Inv.start hH) ?_
  refine WC.seq (WC.ofFr [(0, _), (1, _), (2, _)] ⟨rfl, rfl, rfl, trivial⟩ (WC.region ?_))
  refine WL.so (SO.box rfl rfl) rfl ?_
  rintro _ _ _ ⟨b3, hb3, rfl, rfl, rfl⟩
  refine WL.so (SO.box rfl rfl) rfl ?_
  rintro _ _ _ ⟨b4, hb4, rfl, rfl, rfl⟩
  refine WL.yd (Yd.assign rfl) rfl ?_
  refine WL.nil (WP.thenC (WC.seq (WC.seq (WC.ofFr [(6, _), (4, _), (3, _), (2, _)] ⟨rfl, rfl, rfl, rfl, trivial⟩ (WC.region ?_)))))
  refine WL.yd (Yd.loadN Tryz.isAgg87 Tryz.sizeOf87 rfl (vs := [_, _]) rfl (by first | exact rn0 (n := 2) rfl rfl | exact rn1 (n := 2) rfl rfl)) rfl ?_
  refine WL.yd (Yd.move rfl) rfl ?_
  refine WL.so (SO.callP Tryz.call86 rfl (fun w hI => turn03_g r _ _ hq hI.imm a ha hl)) rfl ?_
  rintro _ _ _ ⟨rfl, rfl, rfl⟩
  refine WL.nil (WP.thenC ?_)
  refine WC.cond rfl (fun c9 => ?_) (fun c9 => ?_)
  · try simp only [zq1, zq2, zq3, zq4, zq5, zq6, zq7, zq8] at c9
    refine WC.seq (WC.ofFr [(6, _), (3, _)] ⟨rfl, rfl, trivial⟩ (WC.region ?_))
    refine WL.yd (Yd.assign rfl) rfl ?_
    refine WL.nil (WP.thenC (WC.ret (WP.thenRet ?_)))
    refine WP.ret1 rfl rfl Tryz.results49 (RV.tmp rfl) (fun w hI => ⟨?_, hI.keep⟩)
    first
      | (unfold fineY; rw [if_pos c9])
      | (unfold fineY; rw [if_neg (by rw [c9]; simp)])
  · try simp only [zq1, zq2, zq3, zq4, zq5, zq6, zq7, zq8] at c9
    refine WC.skip (WP.thenC (WC.seq (WC.ofFr [(6, _), (3, _)] ⟨rfl, rfl, trivial⟩ (WC.region ?_))))
    refine WL.yd (Yd.fieldAddr FA26_2 rfl) rfl ?_
    refine WL.yd (Yd.load1 Tryz.isAgg3 rfl (by first | exact ro0 rfl rfl | exact ro1 rfl rfl)) rfl ?_
    refine WL.yd (Yd.assign rfl) rfl ?_
    refine WL.nil (WP.thenC (WC.ret ?_))
    refine WP.ret1 rfl rfl Tryz.results49 (RV.tmp rfl) (fun w hI => ⟨?_, hI.keep⟩)
    first
      | (unfold fineY; rw [if_pos c9])
      | (unfold fineY; rw [if_neg (by rw [c9]; simp)])

theorem backOf_g (X : Till) (a1 : Option Addr) (n1 c1 : Nat) (r : TrR) (D : Imm) (w : World) (hq : TrOk D r) (hH : Holds D w) (a : Nat) (ha : a < r.y.length) (hw : 0 ≤ X.wait ∧ X.wait ≤ 100) (hy : (0 ≤ (gt r.y a).1 ∧ (gt r.y a).1 ≤ 240) ∧ (0 ≤ (gt r.y a).2 ∧ (gt r.y a).2 ≤ 240) ∧ (gt r.y a).1 ≤ (gt r.y a).2) : Gives Tryz.prog 55 [.agg #[it X.tk.huts, .slice a1 n1 c1, it X.price, it X.fine, it X.wait], .agg #[.slice r.a r.y.length r.c, .slice r.d r.y.length r.e], nt a] w (it (backY X r.y a)) := by
  unfold Gives
  have hmq := mul_100 hw (k := ((gt r.y a).2 - (gt r.y a).1) / 10) (by omega)
  rw [Int.mul_comm] at hmq
  refine enter Tryz.func55 rfl 22 Tryz.ntmps55 (zqb rfl) (Inv.start hH) ?_
  refine WC.seq (WC.ofFr [(0, _), (1, _), (2, _)] ⟨rfl, rfl, rfl, trivial⟩ (WC.region ?_))
  refine WL.so (SO.box rfl rfl) rfl ?_
  rintro _ _ _ ⟨b3, hb3, rfl, rfl, rfl⟩
  refine WL.so (SO.box rfl rfl) rfl ?_
  rintro _ _ _ ⟨b4, hb4, rfl, rfl, rfl⟩
  refine WL.yd (Yd.assign rfl) rfl ?_
  refine WL.nil (WP.thenC (WC.seq (WC.ofFr [(6, _), (4, _), (3, _), (2, _)] ⟨rfl, rfl, rfl, rfl, trivial⟩ ?_)))
  refine WC.tail 14 [0, 1, 2, 3, 4, 5, 6, 7, 8, 9, 10, 11, 12, 13] rfl (by kernel_rfl) (by kernel_rfl)  ?_
  refine WQ.q rfl (Yd.qt (Yd.fieldAddr FA87_1 rfl)) rfl ?_
  refine WQ.q rfl (Yd.qt (Yd.load1 Tryz.isAgg52 rfl (by first | exact ro0 rfl rfl | exact ro1 rfl rfl | exact ((hq.b.at a (by omega)).rd 0 rfl) | exact ((hq.d.at a (by omega)).rd 0 rfl)))) rfl ?_
  refine WQ.q rfl (Yd.qt (Yd.move rfl)) rfl ?_
  refine WQ.q rfl (Yd.qt (Yd.indexS Tryz.underlying52 Tryz.sizeOf3 rfl rfl (by (try dsimp only); omega) (by (try dsimp only); omega) (by first | exact hq.b.addr a (by omega) | exact hq.d.addr a (by omega)))) rfl ?_
  refine WQ.q rfl (Yd.qt (Yd.load1 Tryz.isAgg3 rfl (by first | exact ro0 rfl rfl | exact ro1 rfl rfl | exact ((hq.b.at a (by omega)).rd 0 rfl) | exact ((hq.d.at a (by omega)).rd 0 rfl)))) rfl ?_
  refine WQ.q rfl (Yd.qt (Yd.fieldAddr FA87_0 rfl)) rfl ?_
  refine WQ.q rfl (Yd.qt (Yd.load1 Tryz.isAgg52 rfl (by first | exact ro0 rfl rfl | exact ro1 rfl rfl | exact ((hq.b.at a (by omega)).rd 0 rfl) | exact ((hq.d.at a (by omega)).rd 0 rfl)))) rfl ?_
  refine WQ.q rfl (Yd.qt (Yd.move rfl)) rfl ?_
  refine WQ.q rfl (Yd.qt (Yd.indexS Tryz.underlying52 Tryz.sizeOf3 rfl rfl (by (try dsimp only); omega) (by (try dsimp only); omega) (by first | exact hq.b.addr a (by omega) | exact hq.d.addr a (by omega)))) rfl ?_
  refine WQ.q rfl (Yd.qt (Yd.load1 Tryz.isAgg3 rfl (by first | exact ro0 rfl rfl | exact ro1 rfl rfl | exact ((hq.b.at a (by omega)).rd 0 rfl) | exact ((hq.d.at a (by omega)).rd 0 rfl)))) rfl ?_
  refine WQ.q rfl (Yd.qt (Yd.sub rfl rfl (wr64 ⟨by (try dsimp only); omega, by (try dsimp only); omega⟩))) rfl ?_
  refine WQ.q rfl (Yd.qt (Yd.quo (i := (gt r.y a).2 - (gt r.y a).1) (j := 10) rfl rfl (by omega) (by omega) (wr64 ⟨by omega, by omega⟩))) rfl ?_
  refine WQ.q rfl (Yd.qt (Yd.fieldAddr FA26_3 rfl)) rfl ?_
  refine WQ.q rfl (Yd.qt (Yd.load1 Tryz.isAgg3 rfl (by first | exact ro0 rfl rfl | exact ro1 rfl rfl | exact ((hq.b.at a (by omega)).rd 0 rfl) | exact ((hq.d.at a (by omega)).rd 0 rfl)))) rfl ?_
  refine WQ.tail ?_
  refine WL.yd (Yd.mul (i := ((gt r.y a).2 - (gt r.y a).1) / 10) (j := X.wait) rfl rfl (wr64 ⟨by omega, by omega⟩)) rfl ?_
  refine WL.yd (Yd.assign rfl) rfl ?_
  refine WL.nil (WP.thenC (WC.ret ?_))
  refine WP.ret1 rfl rfl Tryz.results55 (RV.tmp rfl) (fun w hI => ⟨rfl, hI.keep⟩)

end Go.Proofs.YtpnbkdlejfmbeaaGreat
