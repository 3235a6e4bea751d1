import Derived.Test.YtpnbkdlejfmbeaaGreatYZ14
set_option linter.unusedSimpArgs false
set_option linter.unusedVariables false
set_option linter.all false
set_option maxRecDepth 100000
set_option maxHeartbeats 1000000
namespace Go.Proofs.YtpnbkdlejfmbeaaGreat
open Go.W Go.Ti

theorem anyR_no {D : Imm} {T : Tks} {rows : List TrR} {a : Option Addr} {n : Nat} (h : RowsM D T rows a n) {f : List Pr → Bool} (hd : ∀ i, i < rows.length → f (gt rows i).y = false) : (RF T).any f = false := by
  rw [← h.ys, List.any_map, List.any_eq_false]
  intro r hr
  obtain ⟨i, hi, e⟩ := List.mem_iff_getElem.1 hr
  have h1 := hd i hi
  rw [show gt rows i = rows[i] by simp [gt, List.getD, hi], e] at h1
  simp [h1]
theorem anyR_yes {D : Imm} {T : Tks} {rows : List TrR} {a : Option Addr} {n : Nat} (h : RowsM D T rows a n) {f : List Pr → Bool} {i : Nat} (hi : i < rows.length) (hf : f (gt rows i).y = true) : (RF T).any f = true := List.any_eq_true.2 ⟨_, (h.mem hi).2, hf⟩
theorem canY_1 {X : Till} {t m k : Int} {y : List Pr} (h : k = 1) : canY X t m k y = decide (m = X.price) := by unfold canY; rw [if_pos h]
theorem canY_2 {X : Till} {t m k : Int} {y : List Pr} (h : k = 2) : canY X t m k y = (decide (m = X.fine) && !turnT y.length (gt y) t.toNat) := by unfold canY; rw [if_neg (by omega), if_pos h]
theorem canY_3 {X : Till} {t m k : Int} {y : List Pr} (h1 : ¬ k = 1) (h2 : ¬ k = 2) : canY X t m k y = decide (m = backY X y t.toNat) := by unfold canY; rw [if_neg h1, if_neg h2]
theorem booked_hit {l : List Ent} {j n : Nat} {t k : Int} (hj : j < n) (hn : n ≤ l.length) (h1 : (gt l j).ticket = t) (h2 : (gt l j).kind = k) : bookedB (l.take n) t k = true := by
  have hjl : j < (l.take n).length := by rw [List.length_take]; omega
  refine List.any_eq_true.2 ⟨(l.take n)[j], List.getElem_mem hjl, ?_⟩
  rw [List.getElem_take]
  have e : gt l j = l[j] := by simp [gt, List.getD, show j < l.length by omega]
  rw [← e]
  exact decide_eq_true ⟨h1, h2⟩

theorem can13_g (X : Till) (a1 : Option Addr) (n1 c1 : Nat) (D : Imm) (w : World) (hR : TksR D X.tk a1 n1) (hH : Holds D w) (rows : List TrR) (a6 : Option Addr) (n6 c6 : Nat) (hM : RowsM D X.tk rows a6 n6) (hb : tillB X = true) (hW : tksE X.tk true = 0) (a : Nat) (kd m : Int) (hn : isT X.tk (a : Int) = true) (hkd : 1 ≤ kd ∧ kd ≤ 3) : Gives Tryz.prog 90 [.agg #[it X.tk.huts, .slice a1 n1 c1, it X.price, it X.fine, it X.wait], .slice a6 n6 c6, .agg #[nt a, it kd, it m]] w (.bool (canOf X (a : Int) m kd.toNat)) := by
  unfold Gives
  obtain rfl := hR.tick.len'
  have hl1 := hR.len
  obtain rfl := hM.sl.len'
  have hn6l := hM.nn
  have hv := (tillB_num hb).1
  have hal := (isT_lt hn).1
  rw [Int.toNat_natCast] at hal
  have h5 := (tks_num hv).2.1
  refine enter Tryz.func90 rfl 51 Tryz.ntmps90 (zqb rfl) (Inv.start hH) ?_
  refine WC.seq (WC.ofFr [(0, _), (1, _), (2, _)] ⟨rfl, rfl, rfl, trivial⟩ (WC.region ?_))
  refine WL.so (SO.box rfl rfl) rfl ?_
  rintro _ _ _ ⟨b3, hb3, rfl, rfl, rfl⟩
  refine WL.so (SO.box rfl rfl) rfl ?_
  rintro _ _ _ ⟨b5, hb5, rfl, rfl, rfl⟩
  refine WL.yd (Yd.assign rfl) rfl ?_
  refine WL.nil (WP.thenC (WC.seq (WC.seq ?_)))
  refine WC.freezeN 1 b3 (.cells (List.toArray (tillC X (.slice a1 X.tk.l.length c1))) 26 (0, 0)) rfl rfl hb3 (fun D3 hX3 h3 => ?_)
  replace hR := hR.ext hX3
  replace hM := hM.ext hX3
  refine WC.freezeN 0 b5 (.cells (List.toArray [nt a, it kd, it m]) 49 (0, 0)) rfl rfl hb5 (fun D5 hX5 h5 => ?_)
  replace hR := hR.ext hX5
  replace hM := hM.ext hX5
  replace h3 := hX5.old _ _ h3
  refine WC.ofFr [(6, _), (5, _), (3, _), (1, _)] ⟨rfl, rfl, rfl, rfl, trivial⟩ (WC.region ?_)
  refine WL.yd (Yd.assign rfl) rfl ?_
  refine WL.nil (WP.thenC (WC.block ?_))
  refine WC.loopF (fun k : Nat => [(1, .slice a6 rows.length c6), (3, pt b3), (5, pt b5), (7, nt k)]) (fun k => k ≤ rows.length ∧ ∀ i, i < k → canY X (a : Int) m kd (gt rows i).y = false) (fun k => rows.length - k) 0 ⟨by omega, by intro i hi; omega⟩ ⟨rfl, rfl, rfl, rfl, trivial⟩ ?_
  intro k ⟨hk, hd⟩
  refine WC.seq (WC.seq (WC.ofFr [(1, _), (3, _), (5, _), (7, _)] ⟨rfl, rfl, rfl, rfl, trivial⟩ (WC.region ?_)))
  refine WL.yd (Yd.move rfl) rfl ?_
  refine WL.yd (Yd.move rfl) rfl ?_
  refine WL.yd (Yd.lenS rfl Tryz.underlying81 rfl) rfl ?_
  refine WL.yd (Yd.lss rfl rfl) rfl ?_
  refine WL.nil (WP.thenC ?_)
  refine WC.cond rfl (fun c11 => ?_) (fun c11 => ?_)
  · try simp only [zq1, zq2, zq3, zq4, zq5, zq6, zq7, zq8] at c11
    have hkr : k < rows.length := by omega
    have hqn := hM.num hv hkr
    refine WC.skip (WP.thenC (WC.seq (WC.block (WC.seq (WC.ofFr [(1, _), (3, _), (5, _), (7, _)] ⟨rfl, rfl, rfl, rfl, trivial⟩ (WC.region ?_))))))
    refine WL.yd (Yd.fieldAddr FA49_1 rfl) rfl ?_
    refine WL.yd (Yd.load1 Tryz.isAgg3 rfl (by first | exact (Rd.imm h5 rfl) | exact (Rd.imm h3 rfl))) rfl ?_
    refine WL.nil (WP.thenC (WC.block (WC.seq (WC.ofFr [(15, _), (1, _), (3, _), (5, _), (7, _)] ⟨rfl, rfl, rfl, rfl, rfl, trivial⟩ (WC.region ?_)))))
    refine WL.yd (Yd.eql rfl rfl) rfl ?_
    refine WL.yd (Yd.assign rfl) rfl ?_
    refine WL.nil (WP.thenC ?_)
    refine WC.cond rfl (fun c27 => ?_) (fun c27 => ?_)
    · try simp only [zq1, zq2, zq3, zq4, zq5, zq6, zq7, zq8] at c27
      refine WC.seq (WC.ofFr [(1, _), (3, _), (5, _), (7, _)] ⟨rfl, rfl, rfl, rfl, trivial⟩ (WC.region ?_))
      refine WL.yd (Yd.fieldAddr FA49_2 rfl) rfl ?_
      refine WL.yd (Yd.load1 Tryz.isAgg3 rfl (by first | exact (Rd.imm h5 rfl) | exact (Rd.imm h3 rfl))) rfl ?_
      refine WL.yd (Yd.fieldAddr FA26_1 rfl) rfl ?_
      refine WL.yd (Yd.load1 Tryz.isAgg3 rfl (by first | exact (Rd.imm h5 rfl) | exact (Rd.imm h3 rfl))) rfl ?_
      refine WL.yd (Yd.eql rfl rfl) rfl ?_
      refine WL.nil (WP.thenC ?_)
      refine WC.cond rfl (fun c33 => ?_) (fun c33 => ?_)
      · try simp only [zq1, zq2, zq3, zq4, zq5, zq6, zq7, zq8] at c33
        refine WC.seq (WC.ofFr [(1, _), (3, _), (5, _), (7, _)] ⟨rfl, rfl, rfl, rfl, trivial⟩ (WC.region ?_))
        refine WL.yd (Yd.assign rfl) rfl ?_
        refine WL.nil (WP.thenC (WC.ret (WP.blkRet (WP.blkRet (WP.thenRet (WP.thenRet (WP.blkRet (WP.thenRet ?_))))))))
        refine WP.ret1 rfl rfl Tryz.results90 (RV.tmp rfl) (fun w hI => ⟨ret_bool ?_, hI.keep⟩)
        rw [← can_ref hb hW hn hkd m]
        symm
        first
          | exact anyR_no hM hd
          | exact anyR_yes hM hkr (by first | (rw [canY_1 (by omega)]; simp_all; done) | (rw [canY_2 (by omega), Int.toNat_natCast]; simp_all; done) | (rw [canY_3 (by omega) (by omega), Int.toNat_natCast]; simp_all; done))
      · try simp only [zq1, zq2, zq3, zq4, zq5, zq6, zq7, zq8] at c33
        refine WC.skip (WP.blkNormal (WP.blkNormal (WP.thenC (WC.ofFr [(1, _), (3, _), (5, _), (7, _)] ⟨rfl, rfl, rfl, rfl, trivial⟩ (WC.region ?_)))))
        refine WL.yd (Yd.move rfl) rfl ?_
        refine WL.yd (Yd.addN (i := k) (j := 1) rfl rfl (by omega)) rfl ?_
        refine WL.yd (Yd.assign rfl) rfl ?_
        refine WL.nil ?_
        exact WP.againF (k + 1) ⟨by omega, ext_round hd (by first | (rw [canY_1 (by omega)]; simp_all; done) | (rw [canY_2 (by omega), Int.toNat_natCast]; simp_all; done) | (rw [canY_3 (by omega) (by omega), Int.toNat_natCast]; simp_all; done))⟩ (by omega) ⟨rfl, rfl, rfl, rfl, trivial⟩ (fun _ h => h) (fun h => h)
    · try simp only [zq1, zq2, zq3, zq4, zq5, zq6, zq7, zq8] at c27
      refine WC.seq (WC.ofFr [(15, _), (1, _), (3, _), (5, _), (7, _)] ⟨rfl, rfl, rfl, rfl, rfl, trivial⟩ (WC.region ?_))
      refine WL.yd (Yd.eql rfl rfl) rfl ?_
      refine WL.yd (Yd.assign rfl) rfl ?_
      refine WL.nil (WP.thenC ?_)
      refine WC.cond rfl (fun c34 => ?_) (fun c34 => ?_)
      · try simp only [zq1, zq2, zq3, zq4, zq5, zq6, zq7, zq8] at c34
        refine WC.seq (WC.ofFr [(1, _), (3, _), (5, _), (7, _)] ⟨rfl, rfl, rfl, rfl, trivial⟩ ?_)
        refine WC.tail 12 [0, 1, 2, 3, 4, 5, 6, 7, 8, 9, 10, 11] rfl (by kernel_rfl) (by kernel_rfl)  ?_
        refine WQ.q rfl (Yd.qt (Yd.fieldAddr FA49_2 rfl)) rfl ?_
        refine WQ.q rfl (Yd.qt (Yd.load1 Tryz.isAgg3 rfl (by first | exact (Rd.imm h5 rfl) | exact (Rd.imm h3 rfl)))) rfl ?_
        refine WQ.q rfl (Yd.qt (Yd.fieldAddr FA26_2 rfl)) rfl ?_
        refine WQ.q rfl (Yd.qt (Yd.load1 Tryz.isAgg3 rfl (by first | exact (Rd.imm h5 rfl) | exact (Rd.imm h3 rfl)))) rfl ?_
        refine WQ.q rfl (Yd.qt (Yd.eql rfl rfl)) rfl ?_
        refine WQ.q rfl (Yd.qt (Yd.move rfl)) rfl ?_
        refine WQ.part 41 rfl (fun g41 => ?_) (fun g41 => ?_)
        · try simp only [zq1, zq2, zq3, zq4, zq5, zq6, zq7, zq8] at g41
          refine WQ.qg rfl rfl (Yd.qt (Yd.move rfl)) rfl ?_
          refine WQ.qg rfl rfl (Yd.qt (Yd.move rfl)) rfl ?_
          refine WQ.qg rfl rfl (Yd.qt (Yd.indexS Tryz.underlying81 Tryz.sizeOf87 rfl rfl (by (try dsimp only); omega) (by (try dsimp only); omega) (by first | exact hM.sl.addr k (by omega)))) rfl ?_
          refine WQ.qg rfl rfl (Yd.qt (Yd.loadN Tryz.isAgg87 Tryz.sizeOf87 rfl (vs := [_, _]) rfl (by first | exact (RdN.imm (n := 5) h3 rfl) | exact ((hM.sl.at k (by omega)).rdn 0 2 rfl)))) rfl ?_
          refine WQ.qg rfl rfl (Yd.qt (Yd.fieldAddr FA49_0 rfl)) rfl ?_
          refine WQ.qg rfl rfl (Yd.qt (Yd.load1 Tryz.isAgg3 rfl (by first | exact (Rd.imm h5 rfl) | exact (Rd.imm h3 rfl)))) rfl ?_
          refine WQ.tail ?_
          refine WL.sog rfl (SO.callP Tryz.call86 rfl (fun w hI => turn03_g (gt rows k) _ _ (hM.mem (by omega)).1 hI.imm a (by omega) (by omega))) rfl ?_
          rintro _ _ _ ⟨rfl, rfl, rfl⟩
          refine WL.ydg rfl (Yd.not rfl) rfl ?_
          refine WL.yd (Yd.pickT rfl rfl) rfl ?_
          refine WL.nil (WP.thenC ?_)
          refine WC.cond rfl (fun c50 => ?_) (fun c50 => ?_)
          · try simp only [zq1, zq2, zq3, zq4, zq5, zq6, zq7, zq8] at c50
            refine WC.seq (WC.ofFr [(1, _), (3, _), (5, _), (7, _)] ⟨rfl, rfl, rfl, rfl, trivial⟩ (WC.region ?_))
            refine WL.yd (Yd.assign rfl) rfl ?_
            refine WL.nil (WP.thenC (WC.ret (WP.blkRet (WP.blkRet (WP.thenRet (WP.thenRet (WP.blkRet (WP.thenRet ?_))))))))
            refine WP.ret1 rfl rfl Tryz.results90 (RV.tmp rfl) (fun w hI => ⟨ret_bool ?_, hI.keep⟩)
            rw [← can_ref hb hW hn hkd m]
            symm
            first
              | exact anyR_no hM hd
              | exact anyR_yes hM hkr (by first | (rw [canY_1 (by omega)]; simp_all; done) | (rw [canY_2 (by omega), Int.toNat_natCast]; simp_all; done) | (rw [canY_3 (by omega) (by omega), Int.toNat_natCast]; simp_all; done))
          · try simp only [zq1, zq2, zq3, zq4, zq5, zq6, zq7, zq8] at c50
            refine WC.skip (WP.blkNormal (WP.blkNormal (WP.thenC (WC.ofFr [(1, _), (3, _), (5, _), (7, _)] ⟨rfl, rfl, rfl, rfl, trivial⟩ (WC.region ?_)))))
            refine WL.yd (Yd.move rfl) rfl ?_
            refine WL.yd (Yd.addN (i := k) (j := 1) rfl rfl (by omega)) rfl ?_
            refine WL.yd (Yd.assign rfl) rfl ?_
            refine WL.nil ?_
            exact WP.againF (k + 1) ⟨by omega, ext_round hd (by first | (rw [canY_1 (by omega)]; simp_all; done) | (rw [canY_2 (by omega), Int.toNat_natCast]; simp_all; done) | (rw [canY_3 (by omega) (by omega), Int.toNat_natCast]; simp_all; done))⟩ (by omega) ⟨rfl, rfl, rfl, rfl, trivial⟩ (fun _ h => h) (fun h => h)
        · try simp only [zq1, zq2, zq3, zq4, zq5, zq6, zq7, zq8] at g41
          refine WQ.skip rfl rfl rfl ?_
          refine WQ.skip rfl rfl rfl ?_
          refine WQ.skip rfl rfl rfl ?_
          refine WQ.skip rfl rfl rfl ?_
          refine WQ.skip rfl rfl rfl ?_
          refine WQ.skip rfl rfl rfl ?_
          refine WQ.tail ?_
          refine WL.skip rfl rfl ?_
          refine WL.skip rfl rfl ?_
          refine WL.yd (Yd.pickF rfl rfl) rfl ?_
          refine WL.nil (WP.thenC ?_)
          refine WC.condF rfl ?_
          refine WC.skip (WP.blkNormal (WP.blkNormal (WP.thenC (WC.ofFr [(1, _), (3, _), (5, _), (7, _)] ⟨rfl, rfl, rfl, rfl, trivial⟩ (WC.region ?_)))))
          refine WL.yd (Yd.move rfl) rfl ?_
          refine WL.yd (Yd.addN (i := k) (j := 1) rfl rfl (by omega)) rfl ?_
          refine WL.yd (Yd.assign rfl) rfl ?_
          refine WL.nil ?_
          exact WP.againF (k + 1) ⟨by omega, ext_round hd (by first | (rw [canY_1 (by omega)]; simp_all; done) | (rw [canY_2 (by omega), Int.toNat_natCast]; simp_all; done) | (rw [canY_3 (by omega) (by omega), Int.toNat_natCast]; simp_all; done))⟩ (by omega) ⟨rfl, rfl, rfl, rfl, trivial⟩ (fun _ h => h) (fun h => h)
      · try simp only [zq1, zq2, zq3, zq4, zq5, zq6, zq7, zq8] at c34
        refine WC.seq (WC.ofFr [(1, _), (3, _), (5, _), (7, _)] ⟨rfl, rfl, rfl, rfl, trivial⟩ ?_)
        refine WC.tail 10 [0, 1, 2, 3, 4, 5, 6, 7, 8, 9] rfl (by kernel_rfl) (by kernel_rfl)  ?_
        refine WQ.q rfl (Yd.qt (Yd.fieldAddr FA49_2 rfl)) rfl ?_
        refine WQ.q rfl (Yd.qt (Yd.load1 Tryz.isAgg3 rfl (by first | exact (Rd.imm h5 rfl) | exact (Rd.imm h3 rfl)))) rfl ?_
        refine WQ.q rfl (Yd.qt (Yd.loadN Tryz.isAgg26 Tryz.sizeOf26 rfl (vs := [_, _, _, _, _]) rfl (by first | exact (RdN.imm (n := 5) h3 rfl) | exact ((hM.sl.at k (by omega)).rdn 0 2 rfl)))) rfl ?_
        refine WQ.q rfl (Yd.qt (Yd.move rfl)) rfl ?_
        refine WQ.q rfl (Yd.qt (Yd.move rfl)) rfl ?_
        refine WQ.q rfl (Yd.qt (Yd.indexS Tryz.underlying81 Tryz.sizeOf87 rfl rfl (by (try dsimp only); omega) (by (try dsimp only); omega) (by first | exact hM.sl.addr k (by omega)))) rfl ?_
        refine WQ.q rfl (Yd.qt (Yd.loadN Tryz.isAgg87 Tryz.sizeOf87 rfl (vs := [_, _]) rfl (by first | exact (RdN.imm (n := 5) h3 rfl) | exact ((hM.sl.at k (by omega)).rdn 0 2 rfl)))) rfl ?_
        refine WQ.q rfl (Yd.qt (Yd.fieldAddr FA49_0 rfl)) rfl ?_
        refine WQ.q rfl (Yd.qt (Yd.load1 Tryz.isAgg3 rfl (by first | exact (Rd.imm h5 rfl) | exact (Rd.imm h3 rfl)))) rfl ?_
        refine WQ.q rfl (Qt.callP Tryz.call55 rfl (fun w hI => backOf_g X a1 _ c1 (gt rows k) _ _ (hM.mem (by omega)).1 hI.imm a (by omega) (tillB_num hb).2.2.2 (hqn.2 a (by omega)))) rfl ?_
        refine WQ.tail ?_
        refine WL.yd (Yd.eql rfl rfl) rfl ?_
        refine WL.nil (WP.thenC ?_)
        refine WC.cond rfl (fun c26 => ?_) (fun c26 => ?_)
        · try simp only [zq1, zq2, zq3, zq4, zq5, zq6, zq7, zq8] at c26
          refine WC.seq (WC.ofFr [(1, _), (3, _), (5, _), (7, _)] ⟨rfl, rfl, rfl, rfl, trivial⟩ (WC.region ?_))
          refine WL.yd (Yd.assign rfl) rfl ?_
          refine WL.nil (WP.thenC (WC.ret (WP.blkRet (WP.blkRet (WP.thenRet (WP.thenRet (WP.blkRet (WP.thenRet ?_))))))))
          refine WP.ret1 rfl rfl Tryz.results90 (RV.tmp rfl) (fun w hI => ⟨ret_bool ?_, hI.keep⟩)
          rw [← can_ref hb hW hn hkd m]
          symm
          first
            | exact anyR_no hM hd
            | exact anyR_yes hM hkr (by first | (rw [canY_1 (by omega)]; simp_all; done) | (rw [canY_2 (by omega), Int.toNat_natCast]; simp_all; done) | (rw [canY_3 (by omega) (by omega), Int.toNat_natCast]; simp_all; done))
        · try simp only [zq1, zq2, zq3, zq4, zq5, zq6, zq7, zq8] at c26
          refine WC.skip (WP.blkNormal (WP.blkNormal (WP.thenC (WC.ofFr [(1, _), (3, _), (5, _), (7, _)] ⟨rfl, rfl, rfl, rfl, trivial⟩ (WC.region ?_)))))
          refine WL.yd (Yd.move rfl) rfl ?_
          refine WL.yd (Yd.addN (i := k) (j := 1) rfl rfl (by omega)) rfl ?_
          refine WL.yd (Yd.assign rfl) rfl ?_
          refine WL.nil ?_
          exact WP.againF (k + 1) ⟨by omega, ext_round hd (by first | (rw [canY_1 (by omega)]; simp_all; done) | (rw [canY_2 (by omega), Int.toNat_natCast]; simp_all; done) | (rw [canY_3 (by omega) (by omega), Int.toNat_natCast]; simp_all; done))⟩ (by omega) ⟨rfl, rfl, rfl, rfl, trivial⟩ (fun _ h => h) (fun h => h)
  · try simp only [zq1, zq2, zq3, zq4, zq5, zq6, zq7, zq8] at c11
    obtain rfl : k = rows.length := by omega
    refine WC.exit ?_
    refine WP.thenExit ?_
    refine WP.thenExit ?_
    refine WP.blkHit ?_
    refine WP.thenC (WC.seq (WC.ofFr [] trivial (WC.region ?_)))
    refine WL.yd (Yd.assign rfl) rfl ?_
    refine WL.nil (WP.thenC (WC.ret ?_))
    refine WP.ret1 rfl rfl Tryz.results90 (RV.tmp rfl) (fun w hI => ⟨ret_bool ?_, hI.keep⟩)
    rw [← can_ref hb hW hn hkd m]
    symm
    first
      | exact anyR_no hM hd
      | exact anyR_yes hM hkr (by first | (rw [canY_1 (by omega)]; simp_all; done) | (rw [canY_2 (by omega), Int.toNat_natCast]; simp_all; done) | (rw [canY_3 (by omega) (by omega), Int.toNat_natCast]; simp_all; done))

theorem can13_e (X : Till) (a1 : Option Addr) (n1 c1 : Nat) (D : Imm) (w : World) (hR : TksR D X.tk a1 n1) (hH : Holds D w) (rows : List TrR) (a6 : Option Addr) (n6 c6 : Nat) (hM : RowsM D X.tk rows a6 n6) (hb : tillB X = true) (hW : tksE X.tk true = 0) (e : Ent) (he : entB X e = true) : Gives Tryz.prog 90 [.agg #[it X.tk.huts, .slice a1 n1 c1, it X.price, it X.fine, it X.wait], .slice a6 n6 c6, .agg #[it e.ticket, it e.kind, it e.pence]] w (.bool (canOf X e.ticket e.pence e.kind.toNat)) := by
  unfold entB at he
  rw [Bool.and_eq_true] at he
  obtain ⟨t, k, m⟩ := e
  have hk : 1 ≤ k ∧ k ≤ 3 := of_decide_eq_true he.2
  obtain ⟨a, ha⟩ : ∃ a : Nat, t = (a : Int) := ⟨t.toNat, (isT_lt he.1).2⟩
  subst ha
  exact can13_g X a1 n1 c1 D w hR hH rows a6 n6 c6 hM hb hW a k m he.1 hk

theorem broken13_g (X : Till) (a1 : Option Addr) (n1 c1 : Nat) (D : Imm) (w : World) (hR : TksR D X.tk a1 n1) (hH : Holds D w) (rows : List TrR) (a6 : Option Addr) (n6 c6 : Nat) (hM : RowsM D X.tk rows a6 n6) (hb : tillB X = true) (hW : tksE X.tk true = 0) (l : List Ent) (ab : Option Addr) (nb cb : Nat) (hB : BookR D l ab nb) (hA : l.all (entB X) = true) (n : Nat) (hn : n < l.length) : Gives Tryz.prog 58 [.agg #[it X.tk.huts, .slice a1 n1 c1, it X.price, it X.fine, it X.wait], .slice a6 n6 c6, .slice ab nb cb, nt n] w (it (ruleI X l n)) := by
  unfold Gives
  obtain rfl := hR.tick.len'
  have hl1 := hR.len
  obtain rfl := hM.sl.len'
  have hn6l := hM.nn
  have hv := (tillB_num hb).1
  obtain rfl := hB.ent.len'
  have hlb := hB.len
  have hen := all_iff.1 hA n hn
  refine enter Tryz.func58 rfl 47 Tryz.ntmps58 (zqb rfl) (Inv.start hH) ?_
  refine WC.seq (WC.ofFr [(0, _), (1, _), (2, _), (3, _)] ⟨rfl, rfl, rfl, rfl, trivial⟩ (WC.region ?_))
  refine WL.so (SO.box rfl rfl) rfl ?_
  rintro _ _ _ ⟨b4, hb4, rfl, rfl, rfl⟩
  refine WL.yd (Yd.assign rfl) rfl ?_
  refine WL.nil (WP.thenC (WC.seq (WC.seq ?_)))
  refine WC.freezeN 0 b4 (.cells (List.toArray (tillC X (.slice a1 X.tk.l.length c1))) 26 (0, 0)) rfl rfl hb4 (fun D4 hX4 h4 => ?_)
  replace hR := hR.ext hX4
  replace hM := hM.ext hX4
  replace hB := hB.ext hX4
  refine WC.ofFr [(8, _), (4, _), (1, _), (2, _), (3, _)] ⟨rfl, rfl, rfl, rfl, rfl, trivial⟩ (WC.region ?_)
  refine WL.yd (Yd.assign rfl) rfl ?_
  refine WL.nil (WP.thenC (WC.block ?_))
  refine WC.loopF (fun j : Nat => [(1, .slice a6 rows.length c6), (2, .slice ab l.length cb), (3, nt n), (4, pt b4), (9, nt j)]) (fun j => j ≤ n ∧ bookedB (l.take j) (gt l n).ticket (gt l n).kind = false) (fun j => n - j) 0 ⟨by omega, rfl⟩ ⟨rfl, rfl, rfl, rfl, rfl, trivial⟩ ?_
  intro j ⟨hj, hd⟩
  refine WC.seq (WC.seq (WC.ofFr [(1, _), (2, _), (3, _), (4, _), (9, _)] ⟨rfl, rfl, rfl, rfl, rfl, trivial⟩ (WC.region ?_)))
  refine WL.yd (Yd.move rfl) rfl ?_
  refine WL.yd (Yd.move rfl) rfl ?_
  refine WL.yd (Yd.lss rfl rfl) rfl ?_
  refine WL.nil (WP.thenC ?_)
  refine WC.cond rfl (fun c12 => ?_) (fun c12 => ?_)
  · try simp only [zq1, zq2, zq3, zq4, zq5, zq6, zq7, zq8] at c12
    have hjn : j < n := by omega
    refine WC.skip (WP.thenC (WC.seq (WC.block (WC.seq (WC.ofFr [(1, _), (2, _), (3, _), (4, _), (9, _)] ⟨rfl, rfl, rfl, rfl, rfl, trivial⟩ ?_)))))
    refine WC.tail 22 [0, 1, 2, 3, 4, 5, 6, 7, 8, 9, 10, 11, 12, 13, 14, 15, 16, 17, 18, 19, 20, 21] rfl (by kernel_rfl) (by kernel_rfl)  ?_
    refine WQ.q rfl (Yd.qt (Yd.move rfl)) rfl ?_
    refine WQ.q rfl (Yd.qt (Yd.move rfl)) rfl ?_
    refine WQ.q rfl (Yd.qt (Yd.indexS Tryz.underlying38 Tryz.sizeOf49 rfl rfl (by (try dsimp only); omega) (by (try dsimp only); omega) (by first | exact hB.ent.addr j (by omega) | exact hB.ent.addr n (by omega)))) rfl ?_
    refine WQ.q rfl (Yd.qt (Yd.fieldAddr FA49_0 rfl)) rfl ?_
    refine WQ.q rfl (Yd.qt (Yd.load1 Tryz.isAgg3 rfl (by first | exact ((hB.ent.at j (by omega)).rd 0 rfl) | exact ((hB.ent.at n (by omega)).rd 0 rfl) | exact ((hB.ent.at j (by omega)).rd 1 rfl) | exact ((hB.ent.at n (by omega)).rd 1 rfl)))) rfl ?_
    refine WQ.q rfl (Yd.qt (Yd.move rfl)) rfl ?_
    refine WQ.q rfl (Yd.qt (Yd.move rfl)) rfl ?_
    refine WQ.q rfl (Yd.qt (Yd.indexS Tryz.underlying38 Tryz.sizeOf49 rfl rfl (by (try dsimp only); omega) (by (try dsimp only); omega) (by first | exact hB.ent.addr j (by omega) | exact hB.ent.addr n (by omega)))) rfl ?_
    refine WQ.q rfl (Yd.qt (Yd.fieldAddr FA49_0 rfl)) rfl ?_
    refine WQ.q rfl (Yd.qt (Yd.load1 Tryz.isAgg3 rfl (by first | exact ((hB.ent.at j (by omega)).rd 0 rfl) | exact ((hB.ent.at n (by omega)).rd 0 rfl) | exact ((hB.ent.at j (by omega)).rd 1 rfl) | exact ((hB.ent.at n (by omega)).rd 1 rfl)))) rfl ?_
    refine WQ.q rfl (Yd.qt (Yd.eql rfl rfl)) rfl ?_
    refine WQ.q rfl (Yd.qt (Yd.move rfl)) rfl ?_
    refine WQ.part 26 rfl (fun g26 => ?_) (fun g26 => ?_)
    · try simp only [zq1, zq2, zq3, zq4, zq5, zq6, zq7, zq8] at g26
      refine WQ.qg rfl rfl (Yd.qt (Yd.move rfl)) rfl ?_
      refine WQ.qg rfl rfl (Yd.qt (Yd.move rfl)) rfl ?_
      refine WQ.qg rfl rfl (Yd.qt (Yd.indexS Tryz.underlying38 Tryz.sizeOf49 rfl rfl (by (try dsimp only); omega) (by (try dsimp only); omega) (by first | exact hB.ent.addr j (by omega) | exact hB.ent.addr n (by omega)))) rfl ?_
      refine WQ.qg rfl rfl (Yd.qt (Yd.fieldAddr FA49_1 rfl)) rfl ?_
      refine WQ.qg rfl rfl (Yd.qt (Yd.load1 Tryz.isAgg3 rfl (by first | exact ((hB.ent.at j (by omega)).rd 0 rfl) | exact ((hB.ent.at n (by omega)).rd 0 rfl) | exact ((hB.ent.at j (by omega)).rd 1 rfl) | exact ((hB.ent.at n (by omega)).rd 1 rfl)))) rfl ?_
      refine WQ.qg rfl rfl (Yd.qt (Yd.move rfl)) rfl ?_
      refine WQ.qg rfl rfl (Yd.qt (Yd.move rfl)) rfl ?_
      refine WQ.qg rfl rfl (Yd.qt (Yd.indexS Tryz.underlying38 Tryz.sizeOf49 rfl rfl (by (try dsimp only); omega) (by (try dsimp only); omega) (by first | exact hB.ent.addr j (by omega) | exact hB.ent.addr n (by omega)))) rfl ?_
      refine WQ.qg rfl rfl (Yd.qt (Yd.fieldAddr FA49_1 rfl)) rfl ?_
      refine WQ.qg rfl rfl (Yd.qt (Yd.load1 Tryz.isAgg3 rfl (by first | exact ((hB.ent.at j (by omega)).rd 0 rfl) | exact ((hB.ent.at n (by omega)).rd 0 rfl) | exact ((hB.ent.at j (by omega)).rd 1 rfl) | exact ((hB.ent.at n (by omega)).rd 1 rfl)))) rfl ?_
      refine WQ.tail ?_
      refine WL.ydg rfl (Yd.eql rfl rfl) rfl ?_
      refine WL.yd (Yd.pickT rfl rfl) rfl ?_
      refine WL.nil (WP.thenC ?_)
      refine WC.cond rfl (fun c38 => ?_) (fun c38 => ?_)
      · try simp only [zq1, zq2, zq3, zq4, zq5, zq6, zq7, zq8] at c38
        refine WC.seq (WC.ofFr [(1, _), (2, _), (3, _), (4, _), (9, _)] ⟨rfl, rfl, rfl, rfl, rfl, trivial⟩ (WC.region ?_))
        refine WL.yd (Yd.assign rfl) rfl ?_
        refine WL.nil (WP.thenC (WC.ret (WP.blkRet (WP.thenRet (WP.thenRet (WP.blkRet (WP.thenRet ?_)))))))
        refine WP.ret1 rfl rfl Tryz.results58 (RV.tmp rfl) (fun w hI => ⟨ret_int ?_, hI.keep⟩)
        symm
        unfold ruleI
        first
          | (rw [if_pos (booked_hit hjn (by omega) (by simp_all) (by simp_all))]; done)
          | (rw [if_neg (by rw [hd]; simp), if_pos (by simp_all)]; done)
          | (rw [if_neg (by rw [hd]; simp), if_neg (by simp_all)]; done)
      · try simp only [zq1, zq2, zq3, zq4, zq5, zq6, zq7, zq8] at c38
        refine WC.skip (WP.blkNormal (WP.thenC (WC.ofFr [(1, _), (2, _), (3, _), (4, _), (9, _)] ⟨rfl, rfl, rfl, rfl, rfl, trivial⟩ (WC.region ?_))))
        refine WL.yd (Yd.move rfl) rfl ?_
        refine WL.yd (Yd.addN (i := j) (j := 1) rfl rfl (by omega)) rfl ?_
        refine WL.yd (Yd.assign rfl) rfl ?_
        refine WL.nil ?_
        exact WP.againF (j + 1) ⟨by omega, by rw [booked_take (by omega), hd]; simp_all⟩ (by omega) ⟨rfl, rfl, rfl, rfl, rfl, trivial⟩ (fun _ h => h) (fun h => h)
    · try simp only [zq1, zq2, zq3, zq4, zq5, zq6, zq7, zq8] at g26
      refine WQ.skip rfl rfl rfl ?_
      refine WQ.skip rfl rfl rfl ?_
      refine WQ.skip rfl rfl rfl ?_
      refine WQ.skip rfl rfl rfl ?_
      refine WQ.skip rfl rfl rfl ?_
      refine WQ.skip rfl rfl rfl ?_
      refine WQ.skip rfl rfl rfl ?_
      refine WQ.skip rfl rfl rfl ?_
      refine WQ.skip rfl rfl rfl ?_
      refine WQ.skip rfl rfl rfl ?_
      refine WQ.tail ?_
      refine WL.skip rfl rfl ?_
      refine WL.yd (Yd.pickF rfl rfl) rfl ?_
      refine WL.nil (WP.thenC ?_)
      refine WC.condF rfl ?_
      refine WC.skip (WP.blkNormal (WP.thenC (WC.ofFr [(1, _), (2, _), (3, _), (4, _), (9, _)] ⟨rfl, rfl, rfl, rfl, rfl, trivial⟩ (WC.region ?_))))
      refine WL.yd (Yd.move rfl) rfl ?_
      refine WL.yd (Yd.addN (i := j) (j := 1) rfl rfl (by omega)) rfl ?_
      refine WL.yd (Yd.assign rfl) rfl ?_
      refine WL.nil ?_
      exact WP.againF (j + 1) ⟨by omega, by rw [booked_take (by omega), hd]; simp_all⟩ (by omega) ⟨rfl, rfl, rfl, rfl, rfl, trivial⟩ (fun _ h => h) (fun h => h)
  · try simp only [zq1, zq2, zq3, zq4, zq5, zq6, zq7, zq8] at c12
    obtain rfl : n = j := by omega
    refine WC.exit ?_
    refine WP.thenExit ?_
    refine WP.thenExit ?_
    refine WP.blkHit ?_
    refine WP.thenC (WC.seq (WC.seq (WC.ofFr [(1, _), (2, _), (3, _), (4, _)] ⟨rfl, rfl, rfl, rfl, trivial⟩ ?_)))
    refine WC.tail 6 [0, 1, 2, 3, 4, 5] rfl (by kernel_rfl) (by kernel_rfl)  ?_
    refine WQ.q rfl (Yd.qt (Yd.loadN Tryz.isAgg26 Tryz.sizeOf26 rfl (vs := [_, _, _, _, _]) rfl (by first | exact (RdN.imm (n := 5) h4 rfl) | exact ((hB.ent.at n (by omega)).rdn 0 3 rfl)))) rfl ?_
    refine WQ.q rfl (Yd.qt (Yd.move rfl)) rfl ?_
    refine WQ.q rfl (Yd.qt (Yd.move rfl)) rfl ?_
    refine WQ.q rfl (Yd.qt (Yd.move rfl)) rfl ?_
    refine WQ.q rfl (Yd.qt (Yd.indexS Tryz.underlying38 Tryz.sizeOf49 rfl rfl (by (try dsimp only); omega) (by (try dsimp only); omega) (by first | exact hB.ent.addr j (by omega) | exact hB.ent.addr n (by omega)))) rfl ?_
    refine WQ.q rfl (Yd.qt (Yd.loadN Tryz.isAgg49 Tryz.sizeOf49 rfl (vs := [_, _, _]) rfl (by first | exact (RdN.imm (n := 5) h4 rfl) | exact ((hB.ent.at n (by omega)).rdn 0 3 rfl)))) rfl ?_
    refine WQ.tail ?_
    refine WL.so (SO.callP Tryz.call90 rfl (fun w hI => can13_e X a1 _ c1 _ _ hR hI.imm rows a6 _ c6 hM hb hW (gt l n) hen)) rfl ?_
    rintro _ _ _ ⟨rfl, rfl, rfl⟩
    refine WL.yd (Yd.not rfl) rfl ?_
    refine WL.nil (WP.thenC ?_)
    refine WC.cond rfl (fun c46 => ?_) (fun c46 => ?_)
    · try simp only [zq1, zq2, zq3, zq4, zq5, zq6, zq7, zq8] at c46
      refine WC.seq (WC.ofFr [] trivial (WC.region ?_))
      refine WL.yd (Yd.assign rfl) rfl ?_
      refine WL.nil (WP.thenC (WC.ret (WP.thenRet ?_)))
      refine WP.ret1 rfl rfl Tryz.results58 (RV.tmp rfl) (fun w hI => ⟨ret_int ?_, hI.keep⟩)
      symm
      unfold ruleI
      first
        | (rw [if_pos (booked_hit hjn (by omega) (by simp_all) (by simp_all))]; done)
        | (rw [if_neg (by rw [hd]; simp), if_pos (by simp_all)]; done)
        | (rw [if_neg (by rw [hd]; simp), if_neg (by simp_all)]; done)
    · try simp only [zq1, zq2, zq3, zq4, zq5, zq6, zq7, zq8] at c46
      refine WC.skip (WP.thenC (WC.seq (WC.ofFr [] trivial (WC.region ?_))))
      refine WL.yd (Yd.assign rfl) rfl ?_
      refine WL.nil (WP.thenC (WC.ret ?_))
      refine WP.ret1 rfl rfl Tryz.results58 (RV.tmp rfl) (fun w hI => ⟨ret_int ?_, hI.keep⟩)
      symm
      unfold ruleI
      first
        | (rw [if_pos (booked_hit hjn (by omega) (by simp_all) (by simp_all))]; done)
        | (rw [if_neg (by rw [hd]; simp), if_pos (by simp_all)]; done)
        | (rw [if_neg (by rw [hd]; simp), if_neg (by simp_all)]; done)

end Go.Proofs.YtpnbkdlejfmbeaaGreat
