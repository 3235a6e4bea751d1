import Derived.Test.YtaebnllfmkcpgaaGreatDoorYFJ
set_option linter.unusedSimpArgs false
set_option linter.unusedVariables false
set_option linter.all false
set_option maxRecDepth 100000
set_option maxHeartbeats 1000000
namespace Go.Proofs.YtaebnllfmkcpgaaGreatDoor
open Go.W Go.Bk

set_option maxRecDepth 100000 in
set_option maxHeartbeats 8000000 in
theorem bookLines_g (s : Surf) (f : Flag) (b : Boats) (m1 : SurfM) (m2 : FlagM) (m3 : BoatsM) (D : Imm) (hL : LibD D) (hR1 : SurfR D s m1) (hR2 : FlagR D f m2) (hR3 : BoatsR D b m3) (by_ : UInt8) (w : World) (hH : Holds D w) : Gives Tryz.prog 11 [surfV s m1, flagV f m2, boatsV b m3, bt by_] w (.bool true) := by
  unfold Gives
  refine enter Tryz.func11 rfl 165 Tryz.ntmps11 (zqb rfl) (Inv.start hH) ?_
  refine WC.seq (WC.ofFr [(0, _), (1, _), (2, _), (3, _)] ⟨rfl, rfl, rfl, rfl, trivial⟩ (WC.region ?_))
  refine WL.so (SO.box rfl rfl) rfl ?_
  rintro _ _ _ ⟨b4, hb4, rfl, rfl, rfl⟩
  refine WL.so (SO.box rfl rfl) rfl ?_
  rintro _ _ _ ⟨b5, hb5, rfl, rfl, rfl⟩
  refine WL.so (SO.box rfl rfl) rfl ?_
  rintro _ _ _ ⟨b6, hb6, rfl, rfl, rfl⟩
  refine zya rfl rfl ?_
  refine WL.nil (WP.thenC (WC.seq (WC.seq (WC.ofFr [(8, _), (6, _), (5, _), (4, _), (3, _)] ⟨rfl, rfl, rfl, rfl, rfl, trivial⟩ (WC.region ?_)))))
  refine WL.yd (Yd.loadN Tryz.isAgg25 Tryz.sizeOf25 rfl (vs := [_, _, _, _, _]) rfl (RdN.own (k := 2) (n := 5) rfl rfl)) rfl ?_
  refine WL.yd (Yd.loadN Tryz.isAgg29 Tryz.sizeOf29 rfl (vs := [_, _, _, _, _]) rfl (RdN.own (k := 1) (n := 5) rfl rfl)) rfl ?_
  refine WL.yd (Yd.loadN Tryz.isAgg32 Tryz.sizeOf32 rfl (vs := [_, _, _, _, _]) rfl (RdN.own (k := 0) (n := 5) rfl rfl)) rfl ?_
  refine WL.yd (Yd.build SA35 rfl (cs := [_, _]) rfl) rfl ?_
  refine WL.so (SO.callP Tryz.call12 rfl (fun w hI => far_g s f b horsZ m1 m2 m3 ⟨none, 0, 0⟩ D hR1 hR2 hR3 ⟨SlL.nil _ _, Nat.zero_le _⟩ _ hI.imm)) rfl ?_
  rintro _ _ _ ⟨rfl, rfl, rfl⟩
  refine WL.nil (WP.thenC ?_)
  refine WC.cond rfl (fun c32 => ?_) (fun c32 => ?_)
  · try simp only [zq1, zq2, zq3, zq4, zq5, zq6, zq7, zq8] at c32
    refine WC.seq (WC.ofFr [(8, _), (6, _), (5, _), (4, _), (3, _)] ⟨rfl, rfl, rfl, rfl, rfl, trivial⟩ (WC.region ?_))
    refine WL.so (SO.callP Tryz.call13 rfl (fun w hI => awake_g D hL _ hI.imm)) rfl ?_
    rintro _ _ _ ⟨rfl, rfl, rfl⟩
    refine zya rfl rfl ?_
    refine WL.nil (WP.thenC (WC.ret (WP.thenRet ?_)))
    refine WP.ret1 rfl rfl Tryz.results11 (RV.tmp rfl) (fun w hI => ⟨rfl, hI.keep⟩)
  · try simp only [zq1, zq2, zq3, zq4, zq5, zq6, zq7, zq8] at c32
    refine WC.skip (WP.thenC (WC.seq (WC.ofFr [(8, _), (6, _), (5, _), (4, _), (3, _)] ⟨rfl, rfl, rfl, rfl, rfl, trivial⟩ (WC.region ?_))))
    refine WL.yd (Yd.loadN Tryz.isAgg25 Tryz.sizeOf25 rfl (vs := [_, _, _, _, _]) rfl (RdN.own (k := 2) (n := 5) rfl rfl)) rfl ?_
    refine WL.so (SO.callP Tryz.call14 rfl (fun w hI => WriteSurf_g s m1 D hL hR1 _ hI.imm)) rfl ?_
    rintro _ _ _ ⟨rfl, rfl, rfl⟩
    refine zym rfl rfl ?_
    refine WL.yd (Yd.extract rfl rfl) rfl ?_
    refine WL.yd (Yd.extract rfl rfl) rfl ?_
    refine zya rfl rfl ?_
    refine zya rfl rfl ?_
    refine WL.nil (WP.thenC (WC.seq (WC.ofFr [(10, _), (9, _), (8, _), (6, _), (5, _), (3, _)] ⟨rfl, rfl, rfl, rfl, rfl, rfl, trivial⟩ (WC.region ?_))))
    refine WL.yd (Yd.loadN Tryz.isAgg29 Tryz.sizeOf29 rfl (vs := [_, _, _, _, _]) rfl (RdN.own (k := 1) (n := 5) rfl rfl)) rfl ?_
    refine WL.so (SO.callP Tryz.call16 rfl (fun w hI => WriteFlag_g f m2 D hL hR2 _ hI.imm)) rfl ?_
    rintro _ _ _ ⟨rfl, rfl, rfl⟩
    refine zym rfl rfl ?_
    refine WL.yd (Yd.extract rfl rfl) rfl ?_
    refine WL.yd (Yd.extract rfl rfl) rfl ?_
    refine zya rfl rfl ?_
    refine zya rfl rfl ?_
    refine WL.nil (WP.thenC (WC.seq (WC.ofFr [(12, _), (11, _), (10, _), (9, _), (8, _), (6, _), (3, _)] ⟨rfl, rfl, rfl, rfl, rfl, rfl, rfl, trivial⟩ (WC.region ?_))))
    refine WL.yd (Yd.loadN Tryz.isAgg32 Tryz.sizeOf32 rfl (vs := [_, _, _, _, _]) rfl (RdN.own (k := 0) (n := 5) rfl rfl)) rfl ?_
    refine WL.so (SO.callP Tryz.call18 rfl (fun w hI => WriteBoats_g b m3 D hL hR3 _ hI.imm)) rfl ?_
    rintro _ _ _ ⟨rfl, rfl, rfl⟩
    refine zym rfl rfl ?_
    refine WL.yd (Yd.extract rfl rfl) rfl ?_
    refine WL.yd (Yd.extract rfl rfl) rfl ?_
    refine zya rfl rfl ?_
    refine zya rfl rfl ?_
    refine WL.nil (WP.thenC (WC.seq (WC.ofFr [(14, _), (13, _), (12, _), (11, _), (10, _), (9, _), (8, _), (3, _)] ⟨rfl, rfl, rfl, rfl, rfl, rfl, rfl, rfl, trivial⟩ (WC.region ?_))))
    refine zym rfl rfl ?_
    refine WL.so (SO.buildSlice1 Tryz.underlying43 Tryz.sizeOf5 Tryz.zeroValue5 rfl rfl rfl (vs := [_]) rfl rfl rfl) rfl ?_
    rintro _ _ _ ⟨b50, hb50, rfl, rfl, rfl⟩
    refine WL.freezeK 0 rfl (fun hn50 => ?_)
    have hX1 := (DExt.refl w D).add (o := (.cells (([by_]).flatMap btC ++ []).toArray 5 (0, 0))) hn50 hb50
    have hSB : SlL (Imm.add D b50 (.cells (([by_]).flatMap btC ++ []).toArray 5 (0, 0))) 1 (([by_]).map btC) (some ⟨b50, 0, none⟩) 1 := SlL.ofBlock (f := btC) (m := 1) (rest := []) (fun _ => rfl) (Imm.add_self _ _ _)
    change WL _ _ _ _ (Imm.add D b50 (.cells (([by_]).flatMap btC ++ []).toArray 5 (0, 0))) _ _ _
    generalize Imm.add D b50 (.cells (([by_]).flatMap btC ++ []).toArray 5 (0, 0)) = D1 at hX1 hSB ⊢
    refine WL.yd (Yd.convBytes (l := [by_]) Tryz.underlying43 Tryz.underlying5 Tryz.underlying9 rfl hSB) rfl ?_
    refine zya rfl rfl ?_
    refine WL.nil (WP.thenC (WC.seq (WC.ofFr [(15, _), (14, _), (13, _), (12, _), (11, _), (10, _), (9, _), (8, _), (3, _)] ⟨rfl, rfl, rfl, rfl, rfl, rfl, rfl, rfl, rfl, trivial⟩ (WC.region ?_))))
    refine WL.so (SO.buildSlice1 Tryz.underlying75 Tryz.sizeOf74 Tryz.zeroValue74 rfl rfl rfl (vs := [_, _, _]) rfl rfl rfl) rfl ?_
    rintro _ _ _ ⟨b52, hb52, rfl, rfl, rfl⟩
    refine WL.freezeK 0 rfl (fun hn52 => ?_)
    have hX2 := (DExt.refl w D1).add (o := (.cells ((fnsL).flatMap fnC ++ []).toArray 74 (0, 0))) hn52 hb52
    have hSF : SlL (Imm.add D1 b52 (.cells ((fnsL).flatMap fnC ++ []).toArray 74 (0, 0))) 1 ((fnsL).map fnC) (some ⟨b52, 0, none⟩) 3 := SlL.ofBlock (f := fnC) (m := 1) (rest := []) (fun _ => rfl) (Imm.add_self _ _ _)
    change WL _ _ _ _ (Imm.add D1 b52 (.cells ((fnsL).flatMap fnC ++ []).toArray 74 (0, 0))) _ _ _
    generalize Imm.add D1 b52 (.cells ((fnsL).flatMap fnC ++ []).toArray 74 (0, 0)) = D2 at hX2 hSF ⊢
    refine zya rfl rfl ?_
    refine WL.nil (WP.thenC (WC.seq (WC.seq (WC.ofFr [(16, _), (15, _), (14, _), (13, _), (12, _), (11, _), (10, _), (9, _), (8, _), (3, _)] ⟨rfl, rfl, rfl, rfl, rfl, rfl, rfl, rfl, rfl, rfl, trivial⟩ (WC.region ?_)))))
    refine zym rfl rfl ?_
    refine zym rfl rfl ?_
    refine zym rfl rfl ?_
    refine WL.so (SO.buildSlice1 Tryz.underlying76 Tryz.sizeOf9 Tryz.zeroValue9 rfl rfl rfl (vs := [_, _, _]) rfl rfl rfl) rfl ?_
    rintro _ _ _ ⟨b56, hb56, rfl, rfl, rfl⟩
    refine WL.freezeK 0 rfl (fun hn56 => ?_)
    have hX3 := (DExt.refl w D2).add (o := (.cells ((tsL s f b).flatMap stC ++ []).toArray 9 (0, 0))) hn56 hb56
    have hST : SlL (Imm.add D2 b56 (.cells ((tsL s f b).flatMap stC ++ []).toArray 9 (0, 0))) 1 ((tsL s f b).map stC) (some ⟨b56, 0, none⟩) 3 := SlL.ofBlock (f := stC) (m := 1) (rest := []) (fun _ => rfl) (Imm.add_self _ _ _)
    change WL _ _ _ _ (Imm.add D2 b56 (.cells ((tsL s f b).flatMap stC ++ []).toArray 9 (0, 0))) _ _ _
    generalize Imm.add D2 b56 (.cells ((tsL s f b).flatMap stC ++ []).toArray 9 (0, 0)) = D3 at hX3 hST ⊢
    refine WL.yd (Yd.lenS rfl Tryz.underlying76 rfl) rfl ?_
    refine zym rfl rfl ?_
    refine WL.nil (WP.thenC (WC.block ?_))
    have hL3 := ((hL.ext hX1).ext hX2).ext hX3
    refine WC.drop 99 ?_
    refine WC.loopF (fun k : Nat => [(3, bt by_), (10, it (wrO surfB putSurf s).2), (12, it (wrO flagB putFlag f).2), (14, it (wrO boatsB putBoats b).2), (15, st [by_]), (16, .slice (some ⟨b52, 0, none⟩) 3 3), (56, .slice (some ⟨b56, 0, none⟩) 3 3), (57, nt 3), (58, nt k)]) (fun k => k ≤ 3) (fun k => 3 - k) 0 (Nat.zero_le _) ⟨rfl, rfl, rfl, rfl, rfl, rfl, rfl, rfl, rfl, trivial⟩ ?_
    intro k hk
    refine WC.seq (WC.ofFr [(3, _), (10, _), (12, _), (14, _), (15, _), (16, _), (56, _), (57, _), (58, _)] ⟨rfl, rfl, rfl, rfl, rfl, rfl, rfl, rfl, rfl, trivial⟩ (WC.region ?_))
    refine WL.yd (Yd.lss rfl rfl) rfl ?_
    refine WL.nil (WP.thenC (WC.seq ?_))
    refine WC.cond rfl (fun c59 => ?_) (fun c59 => ?_)
    · try simp only [zq1, zq2, zq3, zq4, zq5, zq6, zq7, zq8] at c59
      have hk3 : k < 3 := by omega
      refine WC.skip (WP.thenC (WC.seq (WC.block (WC.seq (WC.ofFr [(3, _), (10, _), (12, _), (14, _), (15, _), (16, _), (56, _), (57, _), (58, _)] ⟨rfl, rfl, rfl, rfl, rfl, rfl, rfl, rfl, rfl, trivial⟩ (WC.region ?_))))))
      refine zym rfl rfl ?_
      refine WL.yd (Yd.indexS Tryz.underlying76 Tryz.sizeOf9 rfl rfl (by omega) (by omega) (by first | exact hST.addr k (by omega) | exact hSE.addr k (by omega) | exact hSQ.addr j (by omega) | exact (hSF.ext (hX3.trans (hX4.trans hX5 (Nat.le_refl _)) (Nat.le_refl _))).addr k (by omega) | exact (hSF.ext (hX3.trans (hX4.trans hX5 (Nat.le_refl _)) (Nat.le_refl _))).addr i (by omega) | exact rfl)) rfl ?_
      refine WL.yd (Yd.load1 Tryz.isAgg9 rfl ((hST.at k (by omega)).rd 0 rfl)) rfl ?_
      refine zya rfl rfl ?_
      refine zya rfl rfl ?_
      refine WL.nil (WP.thenC (WC.seq (WC.seq (WC.ofFr [(18, _), (17, _), (3, _), (10, _), (12, _), (14, _), (15, _), (16, _), (56, _), (57, _), (58, _)] ⟨rfl, rfl, rfl, rfl, rfl, rfl, rfl, rfl, rfl, rfl, rfl, trivial⟩ (WC.region ?_)))))
      refine zym rfl rfl ?_
      refine zym rfl rfl ?_
      refine zym rfl rfl ?_
      refine WL.so (SO.buildSlice1 Tryz.underlying72 Tryz.sizeOf38 Tryz.zeroValue38 rfl rfl rfl (vs := [_, _, _]) rfl rfl rfl) rfl ?_
      rintro _ _ _ ⟨b66, hb66, rfl, rfl, rfl⟩
      refine WL.freezeK 0 rfl (fun hn66 => ?_)
      have hX4 := (DExt.refl w D3).add (o := (.cells ((esL s f b).flatMap eC ++ []).toArray 38 (0, 0))) hn66 hb66
      have hSE : SlL (Imm.add D3 b66 (.cells ((esL s f b).flatMap eC ++ []).toArray 38 (0, 0))) 1 ((esL s f b).map eC) (some ⟨b66, 0, none⟩) 3 := SlL.ofBlock (f := eC) (m := 1) (rest := []) (fun _ => rfl) (Imm.add_self _ _ _)
      change WL _ _ _ _ (Imm.add D3 b66 (.cells ((esL s f b).flatMap eC ++ []).toArray 38 (0, 0))) _ _ _
      generalize Imm.add D3 b66 (.cells ((esL s f b).flatMap eC ++ []).toArray 38 (0, 0)) = D4 at hX4 hSE ⊢
      refine zym rfl rfl ?_
      refine WL.yd (Yd.indexS Tryz.underlying72 Tryz.sizeOf38 rfl rfl (by omega) (by omega) (by first | exact hST.addr k (by omega) | exact hSE.addr k (by omega) | exact hSQ.addr j (by omega) | exact (hSF.ext (hX3.trans (hX4.trans hX5 (Nat.le_refl _)) (Nat.le_refl _))).addr k (by omega) | exact (hSF.ext (hX3.trans (hX4.trans hX5 (Nat.le_refl _)) (Nat.le_refl _))).addr i (by omega) | exact rfl)) rfl ?_
      refine WL.yd (Yd.load1 Tryz.isAgg38 rfl ((hSE.at k (by omega)).rd 0 rfl)) rfl ?_
      refine WL.yd (Yd.neq rfl rfl) rfl ?_
      refine WL.nil (WP.thenC ?_)
      refine WC.cond rfl (fun c70 => ?_) (fun c70 => ?_)
      · try simp only [zq1, zq2, zq3, zq4, zq5, zq6, zq7, zq8] at c70
        refine WC.exit ?_
        refine WP.thenExit ?_
        refine WP.blkHit ?_
        refine WP.thenC (WC.ofFr [(3, _), (10, _), (12, _), (14, _), (15, _), (16, _), (56, _), (57, _), (58, _)] ⟨rfl, rfl, rfl, rfl, rfl, rfl, rfl, rfl, rfl, trivial⟩ (WC.region ?_))
        refine WL.yd (Yd.add rfl rfl (wr64 ⟨by omega, by omega⟩)) rfl ?_
        refine zym rfl rfl ?_
        refine WL.nil ?_
        exact WP.againS (k + 1) hk3 (by omega) ⟨rfl, rfl, rfl, rfl, rfl, rfl, rfl, rfl, rfl, trivial⟩ (fun _ h => nomatch h) (fun _ => List.nodup_nil) hX4.old
      · try simp only [zq1, zq2, zq3, zq4, zq5, zq6, zq7, zq8] at c70
        refine WC.skip (WP.thenC (WC.seq (WC.seq (WC.ofFr [(18, _), (17, _), (3, _), (10, _), (12, _), (14, _), (15, _), (16, _), (56, _), (57, _), (58, _)] ⟨rfl, rfl, rfl, rfl, rfl, rfl, rfl, rfl, rfl, rfl, rfl, trivial⟩ (WC.region ?_)))))
        have hfac := lines_facts s f b by_ k hk3 (by have h9 := c70; omega)
        obtain ⟨pp, hpp⟩ := hfac.1
        have hTl := hfac.2.1
        have hTp : (gt (tsL s f b) k).length = pp.length + 1 := by rw [hpp]; simp
        have hlast : gt (gt (tsL s f b) k) ((gt (tsL s f b) k).length - 1) = 10 := by rw [hTp, hpp]; simp [gt, List.getD]
        refine zym rfl rfl ?_
        refine WL.yd (Yd.lenStr rfl Tryz.underlying9 rfl) rfl ?_
        refine WL.yd (Yd.eql rfl rfl) rfl ?_
        refine WL.know 73 (.bool false) rfl (congrArg Value.bool (decide_eq_false (by omega))) ?_
        refine zym rfl rfl ?_
        refine WL.ydg rfl (Yd.move rfl) rfl ?_
        refine WL.ydg rfl (Yd.move rfl) rfl ?_
        refine WL.ydg rfl (Yd.lenStr rfl Tryz.underlying9 rfl) rfl ?_
        refine WL.ydg rfl (Yd.sub rfl rfl (wr64 ⟨by omega, by omega⟩)) rfl ?_
        refine WL.know 78 (nt ((gt (tsL s f b) k).length - 1)) rfl (by congr 1; omega) ?_
        refine WL.ydg rfl (Yd.indexStr Tryz.underlying9 rfl rfl (by omega)) rfl ?_
        refine WL.ydg rfl (Yd.neq rfl rfl) rfl ?_
        refine WL.know 80 (.bool false) rfl (congrArg Value.bool (decide_eq_false (fun h9 => h9 (by rw [hlast]; rfl)))) ?_
        refine WL.yd (Yd.pickF rfl rfl) rfl ?_
        refine WL.nil (WP.thenC ?_)
        refine WC.condF rfl ?_
        refine WC.skip (WP.thenC (WC.seq (WC.seq (WC.ofFr [(18, _), (17, _), (3, _), (10, _), (12, _), (14, _), (15, _), (16, _), (56, _), (57, _), (58, _)] ⟨rfl, rfl, rfl, rfl, rfl, rfl, rfl, rfl, rfl, rfl, rfl, trivial⟩ (WC.region ?_)))))
        refine zym rfl rfl ?_
        refine zym rfl rfl ?_
        refine WL.yd (Yd.addS rfl rfl (by (try simp only [List.length_cons, List.length_nil]); omega)) rfl ?_
        refine zym rfl rfl ?_
        refine zym rfl rfl ?_
        refine WL.yd (Yd.addS rfl rfl (by (try simp only [List.length_cons, List.length_nil]); omega)) rfl ?_
        refine zym rfl rfl ?_
        refine zym rfl rfl ?_
        refine WL.yd (Yd.lenStr rfl Tryz.underlying9 rfl) rfl ?_
        refine WL.yd (Yd.sub rfl rfl (wr64 ⟨by omega, by omega⟩)) rfl ?_
        refine WL.know 91 (nt ((gt (tsL s f b) k).length - 1)) rfl (by congr 1; omega) ?_
        refine WL.yd (Yd.sliceToS Tryz.underlying9 rfl rfl (by omega)) rfl ?_
        refine zym rfl rfl ?_
        refine WL.yd (Yd.addS rfl rfl (by (try simp only [List.length_cons, List.length_nil]); omega)) rfl ?_
        refine zym rfl rfl ?_
        refine WL.yd (Yd.addS rfl rfl (by (try simp only [List.length_cons, List.length_nil]); omega)) rfl ?_
        refine WL.so (SO.buildSlice1 Tryz.underlying76 Tryz.sizeOf9 Tryz.zeroValue9 rfl rfl rfl (vs := [_, _, _, _, _]) rfl rfl rfl) rfl ?_
        rintro _ _ _ ⟨b97, hb97, rfl, rfl, rfl⟩
        refine WL.freezeK 0 rfl (fun hn97 => ?_)
        have hX5 := (DExt.refl w D4).add (o := (.cells ((badsL (gt (tsL s f b) k) by_).flatMap stC ++ []).toArray 9 (0, 0))) hn97 hb97
        have hSQ : SlL (Imm.add D4 b97 (.cells ((badsL (gt (tsL s f b) k) by_).flatMap stC ++ []).toArray 9 (0, 0))) 1 ((badsL (gt (tsL s f b) k) by_).map stC) (some ⟨b97, 0, none⟩) 5 := SlL.ofBlock (f := stC) (m := 1) (rest := []) (fun _ => rfl) (Imm.add_self _ _ _)
        change WL _ _ _ _ (Imm.add D4 b97 (.cells ((badsL (gt (tsL s f b) k) by_).flatMap stC ++ []).toArray 9 (0, 0))) _ _ _
        generalize Imm.add D4 b97 (.cells ((badsL (gt (tsL s f b) k) by_).flatMap stC ++ []).toArray 9 (0, 0)) = D5 at hX5 hSQ ⊢
        refine WL.yd (Yd.lenS rfl Tryz.underlying76 rfl) rfl ?_
        refine zym rfl rfl ?_
        refine WL.nil (WP.thenC (WC.block ?_))
        refine WC.loopF (fun j : Nat => [(3, bt by_), (10, it (wrO surfB putSurf s).2), (12, it (wrO flagB putFlag f).2), (14, it (wrO boatsB putBoats b).2), (15, st [by_]), (16, .slice (some ⟨b52, 0, none⟩) 3 3), (56, .slice (some ⟨b56, 0, none⟩) 3 3), (57, nt 3), (58, nt k), (17, nt k), (18, st (gt (tsL s f b) k)), (97, .slice (some ⟨b97, 0, none⟩) 5 5), (98, nt 5), (99, nt j)]) (fun j => j ≤ 5) (fun j => 5 - j) 0 (Nat.zero_le _) ⟨rfl, rfl, rfl, rfl, rfl, rfl, rfl, rfl, rfl, rfl, rfl, rfl, rfl, rfl, trivial⟩ ?_
        intro j hj
        refine WC.seq (WC.ofFr [(3, _), (10, _), (12, _), (14, _), (15, _), (16, _), (56, _), (57, _), (58, _), (17, _), (18, _), (97, _), (98, _), (99, _)] ⟨rfl, rfl, rfl, rfl, rfl, rfl, rfl, rfl, rfl, rfl, rfl, rfl, rfl, rfl, trivial⟩ (WC.region ?_))
        refine WL.yd (Yd.lss rfl rfl) rfl ?_
        refine WL.nil (WP.thenC (WC.seq ?_))
        refine WC.cond rfl (fun c100 => ?_) (fun c100 => ?_)
        · try simp only [zq1, zq2, zq3, zq4, zq5, zq6, zq7, zq8] at c100
          have hj5 : j < 5 := by omega
          refine WC.skip (WP.thenC (WC.seq (WC.block (WC.seq (WC.ofFr [(3, _), (10, _), (12, _), (14, _), (15, _), (16, _), (56, _), (57, _), (58, _), (17, _), (18, _), (97, _), (98, _), (99, _)] ⟨rfl, rfl, rfl, rfl, rfl, rfl, rfl, rfl, rfl, rfl, rfl, rfl, rfl, rfl, trivial⟩ (WC.region ?_))))))
          refine WL.yd (Yd.indexS Tryz.underlying76 Tryz.sizeOf9 rfl rfl (by omega) (by omega) (by first | exact hST.addr k (by omega) | exact hSE.addr k (by omega) | exact hSQ.addr j (by omega) | exact (hSF.ext (hX3.trans (hX4.trans hX5 (Nat.le_refl _)) (Nat.le_refl _))).addr k (by omega) | exact (hSF.ext (hX3.trans (hX4.trans hX5 (Nat.le_refl _)) (Nat.le_refl _))).addr i (by omega) | exact rfl)) rfl ?_
          refine WL.yd (Yd.load1 Tryz.isAgg9 rfl ((hSQ.at j (by omega)).rd 0 rfl)) rfl ?_
          refine zya rfl rfl ?_
          refine WL.nil (WP.thenC (WC.seq (WC.ofFr [(20, _), (3, _), (10, _), (12, _), (14, _), (15, _), (16, _), (56, _), (57, _), (58, _), (17, _), (18, _), (97, _), (98, _), (99, _)] ⟨rfl, rfl, rfl, rfl, rfl, rfl, rfl, rfl, rfl, rfl, rfl, rfl, rfl, rfl, rfl, trivial⟩ (WC.region ?_))))
          refine zym rfl rfl ?_
          refine WL.yd (Yd.lenStr rfl Tryz.underlying9 rfl) rfl ?_
          refine WL.yd (Yd.leq rfl rfl) rfl ?_
          refine zym rfl rfl ?_
          refine WL.part 106 rfl (fun g106 => ?_) (fun g106 => ?_)
          · try simp only [zq1, zq2, zq3, zq4, zq5, zq6, zq7, zq8] at g106
            refine WL.ydg rfl (Yd.move rfl) rfl ?_
            refine WL.ydg rfl (Yd.move rfl) rfl ?_
            refine WL.ydg rfl (Yd.indexS Tryz.underlying75 Tryz.sizeOf74 rfl rfl (by omega) (by omega) (by first | exact hST.addr k (by omega) | exact hSE.addr k (by omega) | exact hSQ.addr j (by omega) | exact (hSF.ext (hX3.trans (hX4.trans hX5 (Nat.le_refl _)) (Nat.le_refl _))).addr k (by omega) | exact (hSF.ext (hX3.trans (hX4.trans hX5 (Nat.le_refl _)) (Nat.le_refl _))).addr i (by omega) | exact rfl)) rfl ?_
            refine WL.ydg rfl (Yd.load1 Tryz.isAgg74 rfl (((hSF.ext (hX3.trans (hX4.trans hX5 (Nat.le_refl _)) (Nat.le_refl _))).at k (by omega)).rd 0 rfl)) rfl ?_
            refine WL.ydg rfl (Yd.move rfl) rfl ?_
            refine WL.sog rfl (SO.call (Enters.val (f := gt fnsL k) (va := []) (vb := []) (clos_call k hk3) rfl rfl) (fun w hI => closK_g k hk3 (gt (badsL (gt (tsL s f b) k) by_) j) (by omega) D5 ((hL3.ext hX4).ext hX5) w hI.imm)) rfl ?_
            rintro _ _ _ ⟨rfl, rfl, rfl⟩
            refine WL.ydg rfl (Yd.neq rfl rfl) rfl ?_
            refine WL.know 113 (.bool false) rfl (congrArg Value.bool (decide_eq_false (fun h9 => h9 (hfac.2.2.1 j hj5 (by omega))))) ?_
            refine WL.yd (Yd.pickT rfl rfl) rfl ?_
            refine WL.nil (WP.thenC ?_)
            refine WC.condF rfl ?_
            refine WC.skip (WP.blkNormal (WP.thenC (WC.ofFr [(3, _), (10, _), (12, _), (14, _), (15, _), (16, _), (56, _), (57, _), (58, _), (17, _), (18, _), (97, _), (98, _), (99, _)] ⟨rfl, rfl, rfl, rfl, rfl, rfl, rfl, rfl, rfl, rfl, rfl, rfl, rfl, rfl, trivial⟩ (WC.region ?_))))
            refine WL.yd (Yd.add rfl rfl (wr64 ⟨by omega, by omega⟩)) rfl ?_
            refine zym rfl rfl ?_
            refine WL.nil ?_
            exact WP.againF (j + 1) hj5 (by omega) ⟨rfl, rfl, rfl, rfl, rfl, rfl, rfl, rfl, rfl, rfl, rfl, rfl, rfl, rfl, trivial⟩ (fun _ h => nomatch h) (fun _ => List.nodup_nil)
          · try simp only [zq1, zq2, zq3, zq4, zq5, zq6, zq7, zq8] at g106
            refine WL.skip rfl rfl ?_
            refine WL.skip rfl rfl ?_
            refine WL.skip rfl rfl ?_
            refine WL.skip rfl rfl ?_
            refine WL.skip rfl rfl ?_
            refine WL.skip rfl rfl ?_
            refine WL.skip rfl rfl ?_
            refine WL.yd (Yd.pickF rfl rfl) rfl ?_
            refine WL.nil (WP.thenC ?_)
            refine WC.condF rfl ?_
            refine WC.skip (WP.blkNormal (WP.thenC (WC.ofFr [(3, _), (10, _), (12, _), (14, _), (15, _), (16, _), (56, _), (57, _), (58, _), (17, _), (18, _), (97, _), (98, _), (99, _)] ⟨rfl, rfl, rfl, rfl, rfl, rfl, rfl, rfl, rfl, rfl, rfl, rfl, rfl, rfl, trivial⟩ (WC.region ?_))))
            refine WL.yd (Yd.add rfl rfl (wr64 ⟨by omega, by omega⟩)) rfl ?_
            refine zym rfl rfl ?_
            refine WL.nil ?_
            exact WP.againF (j + 1) hj5 (by omega) ⟨rfl, rfl, rfl, rfl, rfl, rfl, rfl, rfl, rfl, rfl, rfl, rfl, rfl, rfl, trivial⟩ (fun _ h => nomatch h) (fun _ => List.nodup_nil)
        · try simp only [zq1, zq2, zq3, zq4, zq5, zq6, zq7, zq8] at c100
          refine WC.exit ?_
          refine WP.thenExit ?_
          refine WP.thenExit ?_
          refine WP.blkHit ?_
          refine WP.thenC (WC.seq (WC.ofFr [(3, _), (10, _), (12, _), (14, _), (15, _), (16, _), (56, _), (57, _), (58, _), (17, _), (18, _)] ⟨rfl, rfl, rfl, rfl, rfl, rfl, rfl, rfl, rfl, rfl, rfl, trivial⟩ (WC.region ?_)))
          refine zym rfl rfl ?_
          refine WL.yd (Yd.lenS rfl Tryz.underlying75 rfl) rfl ?_
          refine zym rfl rfl ?_
          refine WL.nil (WP.thenC (WC.block ?_))
          refine WC.loopF (fun i : Nat => [(3, bt by_), (10, it (wrO surfB putSurf s).2), (12, it (wrO flagB putFlag f).2), (14, it (wrO boatsB putBoats b).2), (15, st [by_]), (16, .slice (some ⟨b52, 0, none⟩) 3 3), (56, .slice (some ⟨b56, 0, none⟩) 3 3), (57, nt 3), (58, nt k), (17, nt k), (18, st (gt (tsL s f b) k)), (116, .slice (some ⟨b52, 0, none⟩) 3 3), (117, nt 3), (118, nt i)]) (fun i => i ≤ 3) (fun i => 3 - i) 0 (Nat.zero_le _) ⟨rfl, rfl, rfl, rfl, rfl, rfl, rfl, rfl, rfl, rfl, rfl, rfl, rfl, rfl, trivial⟩ ?_
          intro i hi
          refine WC.seq (WC.ofFr [(3, _), (10, _), (12, _), (14, _), (15, _), (16, _), (56, _), (57, _), (58, _), (17, _), (18, _), (116, _), (117, _), (118, _)] ⟨rfl, rfl, rfl, rfl, rfl, rfl, rfl, rfl, rfl, rfl, rfl, rfl, rfl, rfl, trivial⟩ (WC.region ?_))
          refine WL.yd (Yd.lss rfl rfl) rfl ?_
          refine WL.nil (WP.thenC (WC.seq ?_))
          refine WC.cond rfl (fun c119 => ?_) (fun c119 => ?_)
          · try simp only [zq1, zq2, zq3, zq4, zq5, zq6, zq7, zq8] at c119
            have hi3 : i < 3 := by omega
            refine WC.skip (WP.thenC (WC.seq (WC.block (WC.seq (WC.ofFr [(3, _), (10, _), (12, _), (14, _), (15, _), (16, _), (56, _), (57, _), (58, _), (17, _), (18, _), (116, _), (117, _), (118, _)] ⟨rfl, rfl, rfl, rfl, rfl, rfl, rfl, rfl, rfl, rfl, rfl, rfl, rfl, rfl, trivial⟩ (WC.region ?_))))))
            refine zym rfl rfl ?_
            refine WL.yd (Yd.indexS Tryz.underlying75 Tryz.sizeOf74 rfl rfl (by omega) (by omega) (by first | exact hST.addr k (by omega) | exact hSE.addr k (by omega) | exact hSQ.addr j (by omega) | exact (hSF.ext (hX3.trans (hX4.trans hX5 (Nat.le_refl _)) (Nat.le_refl _))).addr k (by omega) | exact (hSF.ext (hX3.trans (hX4.trans hX5 (Nat.le_refl _)) (Nat.le_refl _))).addr i (by omega) | exact rfl)) rfl ?_
            refine WL.yd (Yd.load1 Tryz.isAgg74 rfl (((hSF.ext (hX3.trans (hX4.trans hX5 (Nat.le_refl _)) (Nat.le_refl _))).at i (by omega)).rd 0 rfl)) rfl ?_
            refine zya rfl rfl ?_
            refine zya rfl rfl ?_
            refine WL.nil (WP.thenC (WC.seq (WC.ofFr [(22, _), (21, _), (3, _), (10, _), (12, _), (14, _), (15, _), (16, _), (56, _), (57, _), (58, _), (17, _), (18, _), (116, _), (117, _), (118, _)] ⟨rfl, rfl, rfl, rfl, rfl, rfl, rfl, rfl, rfl, rfl, rfl, rfl, rfl, rfl, rfl, rfl, trivial⟩ (WC.region ?_))))
            refine zym rfl rfl ?_
            refine zym rfl rfl ?_
            refine WL.so (SO.call (Enters.val (f := gt fnsL i) (va := []) (vb := []) (clos_call i hi3) rfl rfl) (fun w hI => closK_g i hi3 (gt (tsL s f b) k) (by have := hfac.2.1; omega) D5 ((hL3.ext hX4).ext hX5) w hI.imm)) rfl ?_
            rintro _ _ _ ⟨rfl, rfl, rfl⟩
            refine WL.yd (Yd.eql rfl rfl) rfl ?_
            refine zym rfl rfl ?_
            refine zym rfl rfl ?_
            refine WL.yd (Yd.eql rfl rfl) rfl ?_
            refine WL.yd (Yd.neB Tryz.underlying4 rfl rfl) rfl ?_
            refine WL.know 130 (.bool false) rfl (congrArg Value.bool (neSelf (decide_eq_decide.2 ⟨fun h9 => (hfac.2.2.2 i hi3).2 (by omega), fun h9 => by have := (hfac.2.2.2 i hi3).1 h9; omega⟩))) ?_
            refine WL.nil (WP.thenC ?_)
            refine WC.condF rfl ?_
            refine WC.skip (WP.blkNormal (WP.thenC (WC.ofFr [(3, _), (10, _), (12, _), (14, _), (15, _), (16, _), (56, _), (57, _), (58, _), (17, _), (18, _), (116, _), (117, _), (118, _)] ⟨rfl, rfl, rfl, rfl, rfl, rfl, rfl, rfl, rfl, rfl, rfl, rfl, rfl, rfl, trivial⟩ (WC.region ?_))))
            refine WL.yd (Yd.add rfl rfl (wr64 ⟨by omega, by omega⟩)) rfl ?_
            refine zym rfl rfl ?_
            refine WL.nil ?_
            exact WP.againF (i + 1) hi3 (by omega) ⟨rfl, rfl, rfl, rfl, rfl, rfl, rfl, rfl, rfl, rfl, rfl, rfl, rfl, rfl, trivial⟩ (fun _ h => nomatch h) (fun _ => List.nodup_nil)
          · try simp only [zq1, zq2, zq3, zq4, zq5, zq6, zq7, zq8] at c119
            refine WC.exit ?_
            refine WP.thenExit ?_
            refine WP.thenExit ?_
            refine WP.blkHit ?_
            refine WP.blkNormal (WP.thenC (WC.ofFr [(3, _), (10, _), (12, _), (14, _), (15, _), (16, _), (56, _), (57, _), (58, _)] ⟨rfl, rfl, rfl, rfl, rfl, rfl, rfl, rfl, rfl, trivial⟩ (WC.region ?_)))
            refine WL.yd (Yd.add rfl rfl (wr64 ⟨by omega, by omega⟩)) rfl ?_
            refine zym rfl rfl ?_
            refine WL.nil ?_
            exact WP.againS (k + 1) hk3 (by omega) ⟨rfl, rfl, rfl, rfl, rfl, rfl, rfl, rfl, rfl, trivial⟩ (fun _ h => nomatch h) (fun _ => List.nodup_nil) (fun b o h => hX5.old b o (hX4.old b o h))
    · try simp only [zq1, zq2, zq3, zq4, zq5, zq6, zq7, zq8] at c59
      obtain rfl : k = 3 := by omega
      refine WC.exit ?_
      refine WP.thenExit ?_
      refine WP.thenExit ?_
      refine WP.blkHit ?_
      refine WP.thenC (WC.seq (WC.ofFr [(3, _)] ⟨rfl, trivial⟩ (WC.region ?_)))
      have hb8 := by_.toNat_lt
      refine WL.so (SO.newsF (Enters.func Tryz.call46 rfl) (fun w1 hI => sealN_g _ w1 hI.imm)) rfl ?_
      rintro _ _ _ ⟨_, _, ⟨rfl, s27, rfl, rfl⟩, rfl⟩
      refine zym rfl rfl ?_
      refine WL.yd (Yd.conv Tryz.underlying5 Tryz.underlying3 rfl (wr64 ⟨by omega, by omega⟩)) rfl ?_
      refine WL.yd (Yd.remN (j := 9) rfl rfl (by omega)) rfl ?_
      refine WL.freezeK 0 rfl (fun hns27 => ?_)
      have hEs27 := DExt.n (w := w) (o := .cells ((sealS).flatMap btC ++ []).toArray 5 (0, 0)) hns27
      generalize hGs27 : Imm.add D3 s27 (.cells ((sealS).flatMap btC ++ []).toArray 5 (0, 0)) = D6 at hEs27 ⊢
      have hSls27 : SlL D6 1 ((sealS).map btC) (some ⟨s27, 0, none⟩) 9 := block_sl (l := sealS) (by rw [← hGs27]; exact Imm.add_self _ _ _)
      have hL6 := hL3.ext hEs27
      refine WL.so (SO.makes (Enters.func Tryz.call32 rfl) (fun w1 hI => put_g sealS _ 9 9 D6 hSls27 (by decide) (by_.toNat % 9) 9 (by show _ < 9; omega) w1 hI.imm)) rfl ?_
      rintro _ D7 _ ⟨hX7, ⟨a7, n7, c7, rfl, hS7, hc7⟩, rfl⟩
      obtain rfl : n7 = 9 := by have h9 := hS7.len'; rw [List.length_set] at h9; exact h9
      refine zya rfl rfl ?_
      refine WL.nil (WP.thenC (WC.seq (WC.ofFr [(23, _)] ⟨rfl, trivial⟩ (WC.region ?_))))
      refine WL.so (SO.buildSlice0 Tryz.underlying43 Tryz.sizeOf5) rfl ?_
      rintro _ _ _ ⟨b138, hb138, rfl, rfl, rfl⟩
      refine zym rfl rfl ?_
      refine WL.so (SO.appendOw (o := some ⟨b138, 0, []⟩) (len := 0) (n := 9) (xs := []) (size := 1) [] [] [] rfl rfl Tryz.underlying43 Tryz.sizeOf5 Tryz.typeInfo5 Tryz.zeroValue5 rfl rfl rfl rfl (hS7.rdS btC_len (fun e => by have h9 := congrArg List.length e; rw [List.length_set] at h9; cases h9)) (btC_one _) ⟨hb138, Nat.le_refl _, rfl⟩ rfl (by simp) (by show (2 * (_ + _) + 1000) * 1 ≤ 2 ^ 48; omega) (by omega)) rfl ?_
      rintro _ _ _ ⟨u1, hu1, rfl, rfl, rfl⟩
      rw [Nat.zero_add] at hu1 ⊢
      rw [List.nil_append]
      refine WL.freezeOw (f := btC) (m := 1) btC_len [] [] (some u1) 5 (sealS.set (by_.toNat % 9) 9) rfl (by rw [List.length_set]; exact hu1) rfl (fun D8 hX8 hS8 => ?_)
      replace hS8 : SlL D8 1 ((sealS.set (by_.toNat % 9) 9).map btC) (some ⟨u1.b, 0, none⟩) 9 := by rw [List.length_set] at hS8; exact hS8
      refine zya rfl rfl ?_
      refine WL.nil (WP.thenC (WC.seq (WC.ofFr [(24, _), (23, _)] ⟨rfl, rfl, trivial⟩ (WC.region ?_))))
      refine zym rfl rfl ?_
      refine WL.so (SO.newsF (Enters.func Tryz.call25 rfl) (fun w1 hI => mendN_g (sealS.set (by_.toNat % 9) 9) sealS (spo ⟨by_.toNat % 9, Nat.mod_lt _ (by omega)⟩) a7 9 c7 D8 (hS7.ext hX8) (by decide) hc7 w1 hI.imm)) rfl ?_
      rintro _ _ _ ⟨_, _, ⟨rfl, s29, rfl, rfl⟩, rfl⟩
      refine zym rfl rfl ?_
      refine WL.yd (Yd.extract rfl rfl) rfl ?_
      refine WL.yd (Yd.extract rfl rfl) rfl ?_
      refine zya rfl rfl ?_
      refine zya rfl rfl ?_
      refine WL.nil (WP.thenC (WC.seq (WC.seq (WC.ofFr [(26, _), (25, _), (24, _), (23, _)] ⟨rfl, rfl, rfl, rfl, trivial⟩ (WC.region ?_)))))
      refine zym rfl rfl ?_
      refine WL.yd (Yd.lenS rfl Tryz.underlying43 rfl) rfl ?_
      refine zym rfl rfl ?_
      refine WL.nil (WP.thenC (WC.block ?_))
      refine WC.loopT [] (fun y : Nat × Bs => [(23, .slice a7 9 c7), (24, .slice (some ⟨u1.b, 0, none⟩) 9 u1.cap), (25, .slice (some ⟨s29, 0, none⟩) 9 9), (26, it 0), (146, .slice (some ⟨s29, 0, none⟩) 9 9), (147, nt 9), (148, nt y.1)]) (fun y => [(s29, .cells (y.2.flatMap btC ++ []).toArray 5 (0, 0))]) (fun y => y.1 ≤ 9 ∧ y.2.length = 9) (fun y => 9 - y.1) (0, sealS) ⟨Nat.zero_le _, rfl⟩ rfl ⟨rfl, rfl, rfl, rfl, rfl, rfl, rfl, trivial⟩ ?_
      rintro ⟨k, l⟩ ⟨hk, hl9⟩
      dsimp only at hk hl9
      refine WC.seq (WC.ofFr [(23, _), (24, _), (25, _), (26, _), (146, _), (147, _), (148, _)] ⟨rfl, rfl, rfl, rfl, rfl, rfl, rfl, trivial⟩ (WC.region ?_))
      refine WL.yd (Yd.lss rfl rfl) rfl ?_
      refine WL.nil (WP.thenC (WC.seq ?_))
      refine WC.cond rfl (fun c149 => ?_) (fun c149 => ?_)
      · try simp only [zq1, zq2, zq3, zq4, zq5, zq6, zq7, zq8] at c149
        have hk9 : k < 9 := by omega
        refine WC.skip (WP.thenC (WC.seq (WC.block (WC.seq (WC.ofFr [(23, _), (24, _), (25, _), (26, _), (146, _), (147, _), (148, _)] ⟨rfl, rfl, rfl, rfl, rfl, rfl, rfl, trivial⟩ (WC.region ?_))))))
        refine zym rfl rfl ?_
        refine zya rfl rfl ?_
        refine WL.nil (WP.thenC (WC.ofFr [(27, _), (23, _), (24, _), (25, _), (26, _), (146, _), (147, _), (148, _)] ⟨rfl, rfl, rfl, rfl, rfl, rfl, rfl, rfl, trivial⟩ (WC.region ?_)))
        refine zym rfl rfl ?_
        refine zym rfl rfl ?_
        refine WL.yd (Yd.indexS Tryz.underlying43 Tryz.sizeOf5 rfl rfl (by omega) (by omega) (by first | exact hST.addr k (by omega) | exact hSE.addr k (by omega) | exact hSQ.addr j (by omega) | exact (hSF.ext (hX3.trans (hX4.trans hX5 (Nat.le_refl _)) (Nat.le_refl _))).addr k (by omega) | exact (hSF.ext (hX3.trans (hX4.trans hX5 (Nat.le_refl _)) (Nat.le_refl _))).addr i (by omega) | exact rfl)) rfl ?_
        refine WL.so (SO.storeRow (f := btC) (m := 1) btC_len (l := l) (i := k) (y := 3) (rest := []) 0 rfl Tryz.sizeOf5 rfl rfl rfl (by omega) (oneB_spec rfl)) rfl ?_
        rintro _ _ _ ⟨rfl, rfl, rfl⟩
        refine WL.nil (WP.blkNormal (WP.thenC (WC.ofFr [(23, _), (24, _), (25, _), (26, _), (146, _), (147, _), (148, _)] ⟨rfl, rfl, rfl, rfl, rfl, rfl, rfl, trivial⟩ (WC.region ?_))))
        refine WL.yd (Yd.add rfl rfl (wr64 ⟨by omega, by omega⟩)) rfl ?_
        refine zym rfl rfl ?_
        refine WL.nil ?_
        exact WP.againT (k + 1, l.set k 3) ⟨by omega, by rw [List.length_set]; exact hl9⟩ (by dsimp only; omega) [] _ rfl rfl ⟨rfl, rfl, rfl, rfl, rfl, rfl, rfl, trivial⟩
      · try simp only [zq1, zq2, zq3, zq4, zq5, zq6, zq7, zq8] at c149
        refine WC.exit ?_
        refine WP.thenExit ?_
        refine WP.thenExit ?_
        refine WP.blkHit ?_
        refine WP.thenC (WC.seq (WC.ofFr [(23, _), (24, _), (26, _)] ⟨rfl, rfl, rfl, trivial⟩ (WC.region ?_)))
        refine zym rfl rfl ?_
        refine WL.yd (Yd.eql rfl rfl) rfl ?_
        refine WL.know 156 (.bool true) rfl (congrArg Value.bool (decide_eq_true rfl)) ?_
        refine zym rfl rfl ?_
        refine WL.ydg rfl (Yd.move rfl) rfl ?_
        refine WL.ydg rfl (Yd.move rfl) rfl ?_
        refine WL.sog rfl (SO.callP Tryz.call22 rfl (fun w hI => bytes_g (sealS.set (by_.toNat % 9) 9) (sealS.set (by_.toNat % 9) 9) a7 (some ⟨u1.b, 0, none⟩) 9 9 c7 u1.cap D8 (hS7.ext hX8) hS8 _ hI.imm)) rfl ?_
        rintro _ _ _ ⟨rfl, rfl, rfl⟩
        refine WL.know 160 (.bool true) rfl (congrArg Value.bool (decide_eq_true rfl)) ?_
        refine WL.yd (Yd.pickT rfl rfl) rfl ?_
        refine zym rfl rfl ?_
        refine WL.sog rfl (SO.callP Tryz.call13 rfl (fun w hI => awake_g D8 ((hL6.ext hX7).ext hX8) _ hI.imm)) rfl ?_
        rintro _ _ _ ⟨rfl, rfl, rfl⟩
        refine WL.yd (Yd.pickT rfl rfl) rfl ?_
        refine zya rfl rfl ?_
        refine WL.nil (WP.thenC (WC.ret ?_))
        refine WP.ret1 rfl rfl Tryz.results11 (RV.tmp rfl) (fun w hI => ⟨rfl, hI.keep⟩)

end Go.Proofs.YtaebnllfmkcpgaaGreatDoor
