import Derived.Test.YtpnbkdlejfmbeaaGreatXO
import Derived.Test.YtpnbkdlejfmbeaaGreatXU
set_option linter.unusedSimpArgs false
set_option linter.unusedVariables false
set_option linter.all false
set_option maxRecDepth 100000
set_option maxHeartbeats 1000000
namespace Go.Proofs.YtpnbkdlejfmbeaaGreat
open Go.W Go.Ti

theorem tillE_nil {X : Till} (h : tillB X = true) (is : Bool) : tillE X [] is = if is then 0 else 2 := by
  cases is with
  | false => rw [tillE_2 h (by simp) rfl]; rfl
  | true => rw [tillE_0 h (by simp) rfl (by intro k hk; simp at hk)]; rfl
theorem told_nil {X : Till} (h : tillB X = true) : toldE X [] = tksE X.tk true := toldE_2 (tillE_nil h true)
theorem finesE_2 {X : Till} (h : tillB X = true) (hW : tksE X.tk true ≠ 0) : FinesOut X = (⟨0, 0⟩, tksE X.tk true) := by
  unfold FinesOut; rw [told_nil h, if_pos hW]
theorem finesE_0 {X : Till} (h : tillB X = true) (hW : tksE X.tk true = 0) : FinesOut X = (⟨(WrongOut X.tk).1.lo * X.fine, (WrongOut X.tk).1.hi * X.fine⟩, 0) := by
  unfold FinesOut; rw [told_nil h, if_neg (by rw [hW]; simp)]
theorem tks_e10 {T : Tks} (hv : tksB T = true) : tksE T true = 0 ∨ tksE T true = 10 := by
  unfold tksE; rw [if_neg (by rw [hv]; simp), if_neg (by simp)]
  split
  · exact .inr rfl
  · exact .inl rfl
theorem spanE_is {X : Till} (h : tillB X = true) {n : Int} : (isT X.tk n = false → spanE X n = 2) ∧ (isT X.tk n = true → spanE X n = tksE X.tk true) := by
  unfold spanE
  rw [tillE_nil h]
  constructor
  · intro hn; rw [hn]; rfl
  · intro hn; rw [hn]; rfl
theorem fineE {X : Till} {n : Int} : (spanE X n ≠ 0 → FineOut X n = (⟨0, 0⟩, spanE X n)) ∧ (spanE X n = 0 → FineOut X n = (fineSp X n, 0)) := by
  unfold FineOut
  constructor
  · intro h; rw [if_pos h]
  · intro h; rw [if_neg (by rw [h]; simp)]
theorem backE {X : Till} {n : Int} : (spanE X n ≠ 0 → BackOut X n = (⟨0, 0⟩, spanE X n)) ∧ (spanE X n = 0 → BackOut X n = (backSp X n, 0)) := by
  unfold BackOut
  constructor
  · intro h; rw [if_pos h]
  · intro h; rw [if_neg (by rw [h]; simp)]

theorem tick03_g (T : Tks) (a1 : Option Addr) (n1 c1 : Nat) (n : Int) (w : World) (hn : n1 = T.l.length) (hl : n1 ≤ 1000) : Gives Tryz.prog 48 [.agg #[it T.huts, .slice a1 n1 c1], it n] w (.bool (isT T n)) := by
  unfold Gives
  refine enter Tryz.func48 rfl 11 Tryz.ntmps48 (zqb rfl) (Inv.start (D := fun _ => none) (by intro _ _ h; cases h)) ?_
  refine WC.seq (WC.ofFr [(0, _), (1, _)] ⟨rfl, rfl, trivial⟩ (WC.region ?_))
  refine WL.so (SO.box rfl rfl) rfl ?_
  rintro _ _ _ ⟨b2, hb2, rfl, rfl, rfl⟩
  refine WL.yd (Yd.assign rfl) rfl ?_
  refine WL.nil (WP.thenC (WC.seq (WC.ofFr [(4, _), (2, _), (1, _)] ⟨rfl, rfl, rfl, trivial⟩ (WC.region ?_))))
  refine WL.yd (Yd.move rfl) rfl ?_
  refine WL.yd (Yd.fieldAddr FA24_1 rfl) rfl ?_
  refine WL.yd (Yd.load1 Tryz.isAgg22 rfl (by first | exact ro0 rfl rfl)) rfl ?_
  refine WL.yd (Yd.lenS rfl Tryz.underlying22 rfl) rfl ?_
  refine WL.yd (Yd.sub rfl rfl (wr64 ⟨by omega, by omega⟩)) rfl ?_
  refine WL.so (SO.callP Tryz.call71 rfl (fun w hI => in03_g _ _ _ _)) rfl ?_
  rintro _ _ _ ⟨rfl, rfl, rfl⟩
  refine WL.yd (Yd.assign rfl) rfl ?_
  refine WL.nil (WP.thenC (WC.ret ?_))
  refine WP.ret1 rfl rfl Tryz.results48 (RV.tmp rfl) (fun w hI => ⟨ret_bool (by subst hn; rfl), hI.keep⟩)

theorem book13_g (X : Till) (a1 : Option Addr) (n1 c1 : Nat) (D : Imm) (w : World) (hR : TksR D X.tk a1 n1) (hH : Holds D w) (l : List Ent) (ab : Option Addr) (nb cb : Nat) (hB : BookR D l ab nb) : Gives Tryz.prog 26 [.agg #[it X.tk.huts, .slice a1 n1 c1, it X.price, it X.fine, it X.wait], .slice ab nb cb] w (.bool (l.all (entB X))) := by
  unfold Gives
  obtain rfl := hR.tick.len'
  have hl1 := hR.len
  obtain rfl := hB.ent.len'
  have hlb := hB.len
  refine enter Tryz.func26 rfl 30 Tryz.ntmps26 (zqb rfl) (Inv.start hH) ?_
  refine WC.seq (WC.ofFr [(0, _), (1, _)] ⟨rfl, rfl, trivial⟩ (WC.region ?_))
  refine WL.so (SO.box rfl rfl) rfl ?_
  rintro _ _ _ ⟨b2, hb2, rfl, rfl, rfl⟩
  refine WL.yd (Yd.assign rfl) rfl ?_
  refine WL.nil (WP.thenC (WC.seq (WC.seq (WC.ofFr [(4, _), (2, _), (1, _)] ⟨rfl, rfl, rfl, trivial⟩ (WC.region ?_)))))
  refine WL.yd (Yd.assign rfl) rfl ?_
  refine WL.nil (WP.thenC (WC.block ?_))
  refine WC.loopF (fun k : Nat => [(1, .slice ab l.length cb), (2, pt b2), (5, nt k)]) (fun k => k ≤ l.length ∧ ∀ i, i < k → entB X (gt l i) = true) (fun k => l.length - k) 0 ⟨by omega, by intro i hi; omega⟩ ⟨rfl, rfl, rfl, trivial⟩ ?_
  intro k ⟨hk, hd⟩
  refine WC.seq (WC.seq (WC.ofFr [(1, _), (2, _), (5, _)] ⟨rfl, rfl, rfl, trivial⟩ (WC.region ?_)))
  refine WL.yd (Yd.move rfl) rfl ?_
  refine WL.yd (Yd.move rfl) rfl ?_
  refine WL.yd (Yd.lenS rfl Tryz.underlying38 rfl) rfl ?_
  refine WL.yd (Yd.lss rfl rfl) rfl ?_
  refine WL.nil (WP.thenC ?_)
  refine WC.cond rfl (fun c9 => ?_) (fun c9 => ?_)
  · try simp only [zq1, zq2, zq3, zq4, zq5, zq6, zq7, zq8] at c9
    have hkl : k < l.length := by omega
    refine WC.skip (WP.thenC (WC.seq (WC.block (WC.seq (WC.ofFr [(1, _), (2, _), (5, _)] ⟨rfl, rfl, rfl, trivial⟩ ?_)))))
    refine WC.tail 12 [0, 1, 2, 3, 4, 5, 6, 7, 8, 9, 10, 11] rfl (by kernel_rfl) (by kernel_rfl)  ?_
    refine WQ.q rfl (Yd.qt (Yd.fieldAddr FA26_0 rfl)) rfl ?_
    refine WQ.q rfl (Yd.qt (Yd.loadN Tryz.isAgg24 Tryz.sizeOf24 rfl (vs := [_, _]) rfl (by first | exact rn0 (n := 2) rfl rfl))) rfl ?_
    refine WQ.q rfl (Yd.qt (Yd.move rfl)) rfl ?_
    refine WQ.q rfl (Yd.qt (Yd.move rfl)) rfl ?_
    refine WQ.q rfl (Yd.qt (Yd.indexS Tryz.underlying38 Tryz.sizeOf49 rfl rfl (by (try dsimp only); omega) (by (try dsimp only); omega) (by first | exact hB.ent.addr k (by omega)))) rfl ?_
    refine WQ.q rfl (Yd.qt (Yd.fieldAddr FA49_0 rfl)) rfl ?_
    refine WQ.q rfl (Yd.qt (Yd.load1 Tryz.isAgg3 rfl (by first | exact ro0 rfl rfl | exact ((hB.ent.at k (by omega)).rd 0 rfl) | exact ((hB.ent.at k (by omega)).rd 1 rfl)))) rfl ?_
    refine WQ.q rfl (Qt.callP Tryz.call48 rfl (fun w hI => tick03_g X.tk a1 _ c1 _ _ rfl hl1)) rfl ?_
    refine WQ.q rfl (Yd.qt (Yd.not rfl)) rfl ?_
    refine WQ.q rfl (Yd.qt (Yd.move rfl)) rfl ?_
    refine WQ.part 21 rfl (fun g21 => ?_) (fun g21 => ?_)
    · try simp only [zq1, zq2, zq3, zq4, zq5, zq6, zq7, zq8] at g21
      refine WQ.skip rfl rfl rfl ?_
      refine WQ.skip rfl rfl rfl ?_
      refine WQ.tail ?_
      refine WL.skip rfl rfl ?_
      refine WL.skip rfl rfl ?_
      refine WL.skip rfl rfl ?_
      refine WL.skip rfl rfl ?_
      refine WL.skip rfl rfl ?_
      refine WL.yd (Yd.pickT rfl rfl) rfl ?_
      refine WL.nil (WP.thenC ?_)
      refine WC.condT rfl ?_
      refine WC.seq (WC.ofFr [(1, _), (2, _), (5, _)] ⟨rfl, rfl, rfl, trivial⟩ (WC.region ?_))
      refine WL.yd (Yd.assign rfl) rfl ?_
      refine WL.nil (WP.thenC (WC.ret (WP.blkRet (WP.thenRet (WP.thenRet (WP.blkRet (WP.thenRet ?_)))))))
      refine WP.ret1 rfl rfl Tryz.results26 (RV.tmp rfl) (fun w hI => ⟨ret_bool ?_, hI.keep⟩)
      symm
      first
        | exact all_iff.2 hd
        | (rw [List.all_eq_false]
           exact ⟨gt l k, gt_mem hkl, by unfold entB; simp_all⟩)
    · try simp only [zq1, zq2, zq3, zq4, zq5, zq6, zq7, zq8] at g21
      refine WQ.qg rfl rfl (Yd.qt (Yd.move rfl)) rfl ?_
      refine WQ.qg rfl rfl (Yd.qt (Yd.move rfl)) rfl ?_
      refine WQ.tail ?_
      refine WL.ydg rfl (Yd.indexS Tryz.underlying38 Tryz.sizeOf49 rfl rfl (by (try dsimp only); omega) (by (try dsimp only); omega) (by first | exact hB.ent.addr k (by omega))) rfl ?_
      refine WL.ydg rfl (Yd.fieldAddr FA49_1 rfl) rfl ?_
      refine WL.ydg rfl (Yd.load1 Tryz.isAgg3 rfl (by first | exact ro0 rfl rfl | exact ((hB.ent.at k (by omega)).rd 0 rfl) | exact ((hB.ent.at k (by omega)).rd 1 rfl))) rfl ?_
      refine WL.sog rfl (SO.callP Tryz.call65 rfl (fun w hI => in13_g _ _ _ _)) rfl ?_
      rintro _ _ _ ⟨rfl, rfl, rfl⟩
      refine WL.ydg rfl (Yd.not rfl) rfl ?_
      refine WL.yd (Yd.pickF rfl rfl) rfl ?_
      refine WL.nil (WP.thenC ?_)
      refine WC.cond rfl (fun c29 => ?_) (fun c29 => ?_)
      · try simp only [zq1, zq2, zq3, zq4, zq5, zq6, zq7, zq8] at c29
        have hek : entB X (gt l k) = false := by unfold entB; simp_all
        refine WC.seq (WC.ofFr [(1, _), (2, _), (5, _)] ⟨rfl, rfl, rfl, trivial⟩ (WC.region ?_))
        refine WL.yd (Yd.assign rfl) rfl ?_
        refine WL.nil (WP.thenC (WC.ret (WP.blkRet (WP.thenRet (WP.thenRet (WP.blkRet (WP.thenRet ?_)))))))
        refine WP.ret1 rfl rfl Tryz.results26 (RV.tmp rfl) (fun w hI => ⟨ret_bool ?_, hI.keep⟩)
        symm
        first
          | exact all_iff.2 hd
          | (rw [List.all_eq_false]
             exact ⟨gt l k, gt_mem hkl, by unfold entB; simp_all⟩)
      · try simp only [zq1, zq2, zq3, zq4, zq5, zq6, zq7, zq8] at c29
        have hek : entB X (gt l k) = true := by unfold entB; simp_all
        refine WC.skip (WP.blkNormal (WP.thenC (WC.ofFr [(1, _), (2, _), (5, _)] ⟨rfl, rfl, rfl, trivial⟩ (WC.region ?_))))
        refine WL.yd (Yd.move rfl) rfl ?_
        refine WL.yd (Yd.addN rfl rfl (by (try dsimp only); omega)) rfl ?_
        refine WL.yd (Yd.assign rfl) rfl ?_
        refine WL.nil ?_
        exact WP.againF (k + 1) ⟨by omega, ext_round hd (by unfold entB; simp_all)⟩ (by omega) ⟨rfl, rfl, rfl, trivial⟩ (fun _ h => h) (fun h => h)
  · try simp only [zq1, zq2, zq3, zq4, zq5, zq6, zq7, zq8] at c9
    obtain rfl : k = l.length := by omega
    refine WC.exit ?_
    refine WP.thenExit ?_
    refine WP.thenExit ?_
    refine WP.blkHit ?_
    refine WP.thenC (WC.seq (WC.ofFr [] trivial (WC.region ?_)))
    refine WL.yd (Yd.assign rfl) rfl ?_
    refine WL.nil (WP.thenC (WC.ret ?_))
    refine WP.ret1 rfl rfl Tryz.results26 (RV.tmp rfl) (fun w hI => ⟨ret_bool ?_, hI.keep⟩)
    symm
    first
      | exact all_iff.2 hd
      | (rw [List.all_eq_false]
         exact ⟨gt l k, gt_mem hkl, by unfold entB; simp_all⟩)

theorem booked_g (D : Imm) (l : List Ent) (ab : Option Addr) (nb cb : Nat) (hB : BookR D l ab nb) (t k : Int) (w : World) (hH : Holds D w) : Gives Tryz.prog 28 [.slice ab nb cb, it t, it k] w (.bool (bookedB l t k)) := by
  unfold Gives
  obtain rfl := hB.ent.len'
  have hlb := hB.len
  refine enter Tryz.func28 rfl 30 Tryz.ntmps28 (zqb rfl) (Inv.start hH) ?_
  refine WC.seq (WC.ofFr [(0, _), (1, _), (2, _)] ⟨rfl, rfl, rfl, trivial⟩ (WC.region ?_))
  refine WL.yd (Yd.assign rfl) rfl ?_
  refine WL.nil (WP.thenC (WC.seq (WC.seq (WC.ofFr [(6, _), (0, _), (1, _), (2, _)] ⟨rfl, rfl, rfl, rfl, trivial⟩ (WC.region ?_)))))
  refine WL.yd (Yd.assign rfl) rfl ?_
  refine WL.nil (WP.thenC (WC.block ?_))
  refine WC.loopF (fun j : Nat => [(0, .slice ab l.length cb), (1, it t), (2, it k), (7, nt j)]) (fun j => j ≤ l.length ∧ bookedB (l.take j) t k = false) (fun j => l.length - j) 0 ⟨by omega, rfl⟩ ⟨rfl, rfl, rfl, rfl, trivial⟩ ?_
  intro j ⟨hj, hd⟩
  refine WC.seq (WC.seq (WC.ofFr [(0, _), (1, _), (2, _), (7, _)] ⟨rfl, rfl, rfl, rfl, trivial⟩ (WC.region ?_)))
  refine WL.yd (Yd.move rfl) rfl ?_
  refine WL.yd (Yd.move rfl) rfl ?_
  refine WL.yd (Yd.lenS rfl Tryz.underlying38 rfl) rfl ?_
  refine WL.yd (Yd.lss rfl rfl) rfl ?_
  refine WL.nil (WP.thenC ?_)
  refine WC.cond rfl (fun c11 => ?_) (fun c11 => ?_)
  · try simp only [zq1, zq2, zq3, zq4, zq5, zq6, zq7, zq8] at c11
    have hjl : j < l.length := by omega
    refine WC.skip (WP.thenC (WC.seq (WC.block (WC.seq (WC.ofFr [(0, _), (1, _), (2, _), (7, _)] ⟨rfl, rfl, rfl, rfl, trivial⟩ (WC.region ?_))))))
    refine WL.yd (Yd.move rfl) rfl ?_
    refine WL.yd (Yd.move rfl) rfl ?_
    refine WL.yd (Yd.indexS Tryz.underlying38 Tryz.sizeOf49 rfl rfl (by (try dsimp only); omega) (by (try dsimp only); omega) (by first | exact hB.ent.addr j (by omega))) rfl ?_
    refine WL.yd (Yd.fieldAddr FA49_0 rfl) rfl ?_
    refine WL.yd (Yd.load1 Tryz.isAgg3 rfl (by first | exact ((hB.ent.at j (by omega)).rd 0 rfl) | exact ((hB.ent.at j (by omega)).rd 1 rfl))) rfl ?_
    refine WL.yd (Yd.move rfl) rfl ?_
    refine WL.yd (Yd.eql rfl rfl) rfl ?_
    refine WL.yd (Yd.move rfl) rfl ?_
    refine WL.part 21 rfl (fun g21 => ?_) (fun g21 => ?_)
    · try simp only [zq1, zq2, zq3, zq4, zq5, zq6, zq7, zq8] at g21
      refine WL.ydg rfl (Yd.move rfl) rfl ?_
      refine WL.ydg rfl (Yd.move rfl) rfl ?_
      refine WL.ydg rfl (Yd.indexS Tryz.underlying38 Tryz.sizeOf49 rfl rfl (by (try dsimp only); omega) (by (try dsimp only); omega) (by first | exact hB.ent.addr j (by omega))) rfl ?_
      refine WL.ydg rfl (Yd.fieldAddr FA49_1 rfl) rfl ?_
      refine WL.ydg rfl (Yd.load1 Tryz.isAgg3 rfl (by first | exact ((hB.ent.at j (by omega)).rd 0 rfl) | exact ((hB.ent.at j (by omega)).rd 1 rfl))) rfl ?_
      refine WL.ydg rfl (Yd.move rfl) rfl ?_
      refine WL.ydg rfl (Yd.eql rfl rfl) rfl ?_
      refine WL.yd (Yd.pickT rfl rfl) rfl ?_
      refine WL.nil (WP.thenC ?_)
      refine WC.cond rfl (fun c29 => ?_) (fun c29 => ?_)
      · try simp only [zq1, zq2, zq3, zq4, zq5, zq6, zq7, zq8] at c29
        refine WC.seq (WC.ofFr [(0, _), (1, _), (2, _), (7, _)] ⟨rfl, rfl, rfl, rfl, trivial⟩ (WC.region ?_))
        refine WL.yd (Yd.assign rfl) rfl ?_
        refine WL.nil (WP.thenC (WC.ret (WP.blkRet (WP.thenRet (WP.thenRet (WP.blkRet (WP.thenRet ?_)))))))
        refine WP.ret1 rfl rfl Tryz.results28 (RV.tmp rfl) (fun w hI => ⟨ret_bool ?_, hI.keep⟩)
        symm
        first
          | (rw [List.take_length] at hd; exact hd)
          | (unfold bookedB
             exact List.any_eq_true.2 ⟨gt l j, gt_mem hjl, by simp_all⟩)
      · try simp only [zq1, zq2, zq3, zq4, zq5, zq6, zq7, zq8] at c29
        refine WC.skip (WP.blkNormal (WP.thenC (WC.ofFr [(0, _), (1, _), (2, _), (7, _)] ⟨rfl, rfl, rfl, rfl, trivial⟩ (WC.region ?_))))
        refine WL.yd (Yd.move rfl) rfl ?_
        refine WL.yd (Yd.addN rfl rfl (by (try dsimp only); omega)) rfl ?_
        refine WL.yd (Yd.assign rfl) rfl ?_
        refine WL.nil ?_
        exact WP.againF (j + 1) ⟨by omega, by rw [booked_take hjl, hd]; simp_all⟩ (by omega) ⟨rfl, rfl, rfl, rfl, trivial⟩ (fun _ h => h) (fun h => h)
    · try simp only [zq1, zq2, zq3, zq4, zq5, zq6, zq7, zq8] at g21
      refine WL.skip rfl rfl ?_
      refine WL.skip rfl rfl ?_
      refine WL.skip rfl rfl ?_
      refine WL.skip rfl rfl ?_
      refine WL.skip rfl rfl ?_
      refine WL.skip rfl rfl ?_
      refine WL.skip rfl rfl ?_
      refine WL.yd (Yd.pickF rfl rfl) rfl ?_
      refine WL.nil (WP.thenC ?_)
      refine WC.condF rfl ?_
      refine WC.skip (WP.blkNormal (WP.thenC (WC.ofFr [(0, _), (1, _), (2, _), (7, _)] ⟨rfl, rfl, rfl, rfl, trivial⟩ (WC.region ?_))))
      refine WL.yd (Yd.move rfl) rfl ?_
      refine WL.yd (Yd.addN rfl rfl (by (try dsimp only); omega)) rfl ?_
      refine WL.yd (Yd.assign rfl) rfl ?_
      refine WL.nil ?_
      exact WP.againF (j + 1) ⟨by omega, by rw [booked_take hjl, hd]; simp_all⟩ (by omega) ⟨rfl, rfl, rfl, rfl, trivial⟩ (fun _ h => h) (fun h => h)
  · try simp only [zq1, zq2, zq3, zq4, zq5, zq6, zq7, zq8] at c11
    obtain rfl : j = l.length := by omega
    refine WC.exit ?_
    refine WP.thenExit ?_
    refine WP.thenExit ?_
    refine WP.blkHit ?_
    refine WP.thenC (WC.seq (WC.ofFr [] trivial (WC.region ?_)))
    refine WL.yd (Yd.assign rfl) rfl ?_
    refine WL.nil (WP.thenC (WC.ret ?_))
    refine WP.ret1 rfl rfl Tryz.results28 (RV.tmp rfl) (fun w hI => ⟨ret_bool ?_, hI.keep⟩)
    symm
    first
      | (rw [List.take_length] at hd; exact hd)
      | (unfold bookedB
         exact List.any_eq_true.2 ⟨gt l j, gt_mem hjl, by simp_all⟩)

theorem moreIn_g (a b : Sp) (w : World) : Gives Tryz.prog 30 [.agg #[it a.lo, it a.hi], .agg #[it b.lo, it b.hi]] w (.bool (inS a b)) := by
  unfold Gives
  refine enter Tryz.func30 rfl 17 Tryz.ntmps30 (zqb rfl) (Inv.start (D := fun _ => none) (by intro _ _ h; cases h)) ?_
  refine WC.seq (WC.ofFr [(0, _), (1, _)] ⟨rfl, rfl, trivial⟩ (WC.region ?_))
  refine WL.so (SO.box rfl rfl) rfl ?_
  rintro _ _ _ ⟨b2, hb2, rfl, rfl, rfl⟩
  refine WL.so (SO.box rfl rfl) rfl ?_
  rintro _ _ _ ⟨b3, hb3, rfl, rfl, rfl⟩
  refine WL.yd (Yd.assign rfl) rfl ?_
  refine WL.nil (WP.thenC (WC.seq (WC.ofFr [(4, _), (3, _), (2, _)] ⟨rfl, rfl, rfl, trivial⟩ (WC.region ?_))))
  refine WL.yd (Yd.fieldAddr FA33_0 rfl) rfl ?_
  refine WL.yd (Yd.load1 Tryz.isAgg3 rfl (by first | exact ro0 rfl rfl | exact ro1 rfl rfl)) rfl ?_
  refine WL.yd (Yd.fieldAddr FA33_0 rfl) rfl ?_
  refine WL.yd (Yd.load1 Tryz.isAgg3 rfl (by first | exact ro0 rfl rfl | exact ro1 rfl rfl)) rfl ?_
  refine WL.yd (Yd.geq rfl rfl) rfl ?_
  refine WL.yd (Yd.move rfl) rfl ?_
  refine WL.part 10 rfl (fun g10 => ?_) (fun g10 => ?_)
  · try simp only [zq1, zq2, zq3, zq4, zq5, zq6, zq7, zq8] at g10
    refine WL.ydg rfl (Yd.fieldAddr FA33_1 rfl) rfl ?_
    refine WL.ydg rfl (Yd.load1 Tryz.isAgg3 rfl (by first | exact ro0 rfl rfl | exact ro1 rfl rfl)) rfl ?_
    refine WL.ydg rfl (Yd.fieldAddr FA33_1 rfl) rfl ?_
    refine WL.ydg rfl (Yd.load1 Tryz.isAgg3 rfl (by first | exact ro0 rfl rfl | exact ro1 rfl rfl)) rfl ?_
    refine WL.ydg rfl (Yd.leq rfl rfl) rfl ?_
    refine WL.yd (Yd.pickT rfl rfl) rfl ?_
    refine WL.yd (Yd.assign rfl) rfl ?_
    refine WL.nil (WP.thenC (WC.ret ?_))
    refine WP.ret1 rfl rfl Tryz.results30 (RV.tmp rfl) (fun w hI => ⟨ret_bool (by unfold inS; rw [Bool.eq_iff_iff]; simp_all <;> (try (intros; omega))), hI.keep⟩)
  · try simp only [zq1, zq2, zq3, zq4, zq5, zq6, zq7, zq8] at g10
    refine WL.skip rfl rfl ?_
    refine WL.skip rfl rfl ?_
    refine WL.skip rfl rfl ?_
    refine WL.skip rfl rfl ?_
    refine WL.skip rfl rfl ?_
    refine WL.yd (Yd.pickF rfl rfl) rfl ?_
    refine WL.yd (Yd.assign rfl) rfl ?_
    refine WL.nil (WP.thenC (WC.ret ?_))
    refine WP.ret1 rfl rfl Tryz.results30 (RV.tmp rfl) (fun w hI => ⟨ret_bool (by unfold inS; rw [Bool.eq_iff_iff]; simp_all <;> (try (intros; omega))), hI.keep⟩)

end Go.Proofs.YtpnbkdlejfmbeaaGreat
/- Books that came in. -/
namespace Go.Proofs.YtpnbkdlejfmbeaaGreat
open Go.W Go.Ti Go.ChangeShapes Go.WideShapes Go.RowKit Go.Deep
section
variable {H : Type} {enc : TypeId × Value → H} {w : World} {spare : Nat → Bool} {held : Bool}
set_option maxRecDepth 100000 in
theorem open_ents {v : Value} {d : DataW H} {p : List MemPlace} (hv : Value.okWide Tryz.prog w .any 0 38 v) (h : DataW.Trod enc Tryz.prog w 0 spare held 38 v d p) :
    ∃ (l : List Ent) (a : Option Addr) (n c : Nat), v = .slice a n c ∧ SlL (heapI w) 3 (l.map entC) a n ∧ n ≤ maxLen := by
  obtain ⟨fuel, hf⟩ := h
  obtain ⟨l, a, n, c, e, m, s⟩ := open_sl (m := 3) entC Tryz.underlying38 (by kernel_rfl) (by decide) (fun _ cs' y h _ => elEnt h) hf
  obtain ⟨_, _, _, rfl⟩ := okWide_slice Tryz.underlying38 hv
  simp only [Value.cells, List.cons.injEq, and_true] at e
  exact ⟨l, a, n, c, e, s, m⟩
end
end Go.Proofs.YtpnbkdlejfmbeaaGreat
/- Books that came in: their capacity. -/
namespace Go.Proofs.YtpnbkdlejfmbeaaGreat
open Go.W Go.Ti Go.ChangeShapes Go.WideShapes Go.RowKit Go.Deep
section
variable {H : Type} {enc : TypeId × Value → H} {w : World} {spare : Nat → Bool} {held : Bool}
set_option maxRecDepth 100000 in
theorem cap_ents {a : Option Addr} {n c : Nat} (hv : Value.okWide Tryz.prog w .any 0 38 (.slice a n c)) : n ≤ c := by
  simp only [Value.okWide, Tryz.underlying38, Cell.okWide] at hv
  cases a
  · cases n <;> cases c <;> simp_all [Cell.ok]
  · simp_all [Cell.ok]
end
end Go.Proofs.YtpnbkdlejfmbeaaGreat
