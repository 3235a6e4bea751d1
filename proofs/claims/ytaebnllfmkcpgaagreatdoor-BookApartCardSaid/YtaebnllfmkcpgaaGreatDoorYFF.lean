import Derived.Test.YtaebnllfmkcpgaaGreatDoorYFE
set_option linter.unusedSimpArgs false
set_option linter.unusedVariables false
set_option linter.all false
set_option maxRecDepth 100000
set_option maxHeartbeats 1000000
namespace Go.Proofs.YtaebnllfmkcpgaaGreatDoor
open Go.W Go.Bk

theorem neSelf {a b : Bool} (h : b = a) : (a != b) = false := by subst h; cases b <;> rfl
theorem eqSelf {a b : Bool} (h : b = a) : (a == b) = true := by subst h; cases b <;> rfl
theorem apSurf {a b : Surf} (ha : (wrO surfB putSurf a).2 = 0) (hb : (wrO surfB putSurf b).2 = 0) : sameSurf a b = decide ((wrO surfB putSurf a).1 = (wrO surfB putSurf b).1) := by
  have ha := wr_ok.1 ha
  have hb := wr_ok.1 hb
  rw [wrO_yes ha, wrO_yes hb, Bool.eq_iff_iff]
  simp only [sameSurf, Bool.and_eq_true, decide_eq_true_eq]
  exact ⟨fun h => h.2.2, fun h => by have := putSurf_inj ha hb h; subst this; exact ⟨rfl, rfl, rfl⟩⟩
theorem apFlag {a b : Flag} (ha : (wrO flagB putFlag a).2 = 0) (hb : (wrO flagB putFlag b).2 = 0) : decide (putFlag a = putFlag b) = decide ((wrO flagB putFlag a).1 = (wrO flagB putFlag b).1) := by
  rw [wrO_yes (wr_ok.1 ha), wrO_yes (wr_ok.1 hb)]
theorem apBoats {a b : Boats} (ha : (wrO boatsB putBoats a).2 = 0) (hb : (wrO boatsB putBoats b).2 = 0) : decide (putBoats a = putBoats b) = decide ((wrO boatsB putBoats a).1 = (wrO boatsB putBoats b).1) := by
  rw [wrO_yes (wr_ok.1 ha), wrO_yes (wr_ok.1 hb)]
theorem apHors {a b : Hors} (ha : (wrH a).2 = 0) (hb : (wrH b).2 = 0) : decide (a = b) = decide ((wrH a).1 = (wrH b).1) := by
  have ha := wrh_ok.1 ha
  have hb := wrh_ok.1 hb
  rw [wrH_yes ha, wrH_yes hb, Bool.eq_iff_iff]
  simp only [decide_eq_true_eq]
  exact ⟨fun h => by rw [h], fun h => book_inj ha hb h⟩

set_option maxRecDepth 100000 in
set_option maxHeartbeats 8000000 in
theorem bookApart_g (s s' : Surf) (f f' : Flag) (b b' : Boats) (h h' : Hors) (m1 m1' : SurfM) (m2 m2' : FlagM) (m3 m3' : BoatsM) (m4 m4' : Sl) (D : Imm) (hL : LibD D) (hR1 : SurfR D s m1) (hR1' : SurfR D s' m1') (hR2 : FlagR D f m2) (hR2' : FlagR D f' m2') (hR3 : BoatsR D b m3) (hR3' : BoatsR D b' m3') (hR4 : HorsR D h m4) (hR4' : HorsR D h' m4') (w : World) (hH : Holds D w) : Gives Tryz.prog 5 [surfV s m1, surfV s' m1', flagV f m2, flagV f' m2', boatsV b m3, boatsV b' m3', horsV h m4, horsV h' m4'] w (.bool true) := by
  unfold Gives
  refine enter Tryz.func5 rfl 153 Tryz.ntmps5 (zqb rfl) (Inv.start hH) ?_
  refine WC.seq (WC.ofFr [(0, _), (1, _), (2, _), (3, _), (4, _), (5, _), (6, _), (7, _)] ⟨rfl, rfl, rfl, rfl, rfl, rfl, rfl, rfl, trivial⟩ (WC.region ?_))
  refine WL.so (SO.box rfl rfl) rfl ?_
  rintro _ _ _ ⟨b8, hb8, rfl, rfl, rfl⟩
  refine WL.so (SO.box rfl rfl) rfl ?_
  rintro _ _ _ ⟨b9, hb9, rfl, rfl, rfl⟩
  refine WL.so (SO.box rfl rfl) rfl ?_
  rintro _ _ _ ⟨b10, hb10, rfl, rfl, rfl⟩
  refine WL.so (SO.box rfl rfl) rfl ?_
  rintro _ _ _ ⟨b11, hb11, rfl, rfl, rfl⟩
  refine WL.so (SO.box rfl rfl) rfl ?_
  rintro _ _ _ ⟨b12, hb12, rfl, rfl, rfl⟩
  refine WL.so (SO.box rfl rfl) rfl ?_
  rintro _ _ _ ⟨b13, hb13, rfl, rfl, rfl⟩
  refine WL.so (SO.box rfl rfl) rfl ?_
  rintro _ _ _ ⟨b14, hb14, rfl, rfl, rfl⟩
  refine WL.so (SO.box rfl rfl) rfl ?_
  rintro _ _ _ ⟨b15, hb15, rfl, rfl, rfl⟩
  refine zya rfl rfl ?_
  refine WL.nil (WP.thenC (WC.seq (WC.seq (WC.ofFr [(16, _), (15, _), (14, _), (13, _), (12, _), (11, _), (10, _), (9, _), (8, _)] ⟨rfl, rfl, rfl, rfl, rfl, rfl, rfl, rfl, rfl, trivial⟩ (WC.region ?_)))))
  refine WL.yd (Yd.loadN Tryz.isAgg25 Tryz.sizeOf25 rfl (vs := [_, _, _, _, _]) rfl (RdN.own (k := 7) (n := 5) rfl rfl)) rfl ?_
  refine WL.yd (Yd.loadN Tryz.isAgg29 Tryz.sizeOf29 rfl (vs := [_, _, _, _, _]) rfl (RdN.own (k := 5) (n := 5) rfl rfl)) rfl ?_
  refine WL.yd (Yd.loadN Tryz.isAgg32 Tryz.sizeOf32 rfl (vs := [_, _, _, _, _]) rfl (RdN.own (k := 3) (n := 5) rfl rfl)) rfl ?_
  refine WL.yd (Yd.loadN Tryz.isAgg35 Tryz.sizeOf35 rfl (vs := [_, _]) rfl (RdN.own (k := 1) (n := 2) rfl rfl)) rfl ?_
  refine WL.so (SO.callP Tryz.call12 rfl (fun w hI => far_g s f b h m1 m2 m3 m4 D hR1 hR2 hR3 hR4 _ hI.imm)) rfl ?_
  rintro _ _ _ ⟨rfl, rfl, rfl⟩
  refine zym rfl rfl ?_
  refine WL.part 38 rfl (fun g38 => ?_) (fun g38 => ?_)
  · try simp only [zq1, zq2, zq3, zq4, zq5, zq6, zq7, zq8] at g38
    refine WL.skip rfl rfl ?_
    refine WL.skip rfl rfl ?_
    refine WL.skip rfl rfl ?_
    refine WL.skip rfl rfl ?_
    refine WL.skip rfl rfl ?_
    refine WL.yd (Yd.pickT rfl rfl) rfl ?_
    refine WL.nil (WP.thenC ?_)
    refine WC.condT rfl ?_
    refine WC.seq (WC.ofFr [(16, _), (15, _), (14, _), (13, _), (12, _), (11, _), (10, _), (9, _), (8, _)] ⟨rfl, rfl, rfl, rfl, rfl, rfl, rfl, rfl, rfl, trivial⟩ (WC.region ?_))
    refine WL.so (SO.callP Tryz.call13 rfl (fun w hI => awake_g D hL _ hI.imm)) rfl ?_
    rintro _ _ _ ⟨rfl, rfl, rfl⟩
    refine zya rfl rfl ?_
    refine WL.nil (WP.thenC (WC.ret (WP.thenRet ?_)))
    refine WP.ret1 rfl rfl Tryz.results5 (RV.tmp rfl) (fun w hI => ⟨rfl, hI.keep⟩)
  · try simp only [zq1, zq2, zq3, zq4, zq5, zq6, zq7, zq8] at g38
    refine WL.ydg rfl (Yd.loadN Tryz.isAgg25 Tryz.sizeOf25 rfl (vs := [_, _, _, _, _]) rfl (RdN.own (k := 6) (n := 5) rfl rfl)) rfl ?_
    refine WL.ydg rfl (Yd.loadN Tryz.isAgg29 Tryz.sizeOf29 rfl (vs := [_, _, _, _, _]) rfl (RdN.own (k := 4) (n := 5) rfl rfl)) rfl ?_
    refine WL.ydg rfl (Yd.loadN Tryz.isAgg32 Tryz.sizeOf32 rfl (vs := [_, _, _, _, _]) rfl (RdN.own (k := 2) (n := 5) rfl rfl)) rfl ?_
    refine WL.ydg rfl (Yd.loadN Tryz.isAgg35 Tryz.sizeOf35 rfl (vs := [_, _]) rfl (RdN.own (k := 0) (n := 2) rfl rfl)) rfl ?_
    refine WL.sog rfl (SO.callP Tryz.call12 rfl (fun w hI => far_g s' f' b' h' m1' m2' m3' m4' D hR1' hR2' hR3' hR4' _ hI.imm)) rfl ?_
    rintro _ _ _ ⟨rfl, rfl, rfl⟩
    refine WL.yd (Yd.pickF rfl rfl) rfl ?_
    refine WL.nil (WP.thenC ?_)
    refine WC.cond rfl (fun c44 => ?_) (fun c44 => ?_)
    · try simp only [zq1, zq2, zq3, zq4, zq5, zq6, zq7, zq8] at c44
      refine WC.seq (WC.ofFr [(16, _), (15, _), (14, _), (13, _), (12, _), (11, _), (10, _), (9, _), (8, _)] ⟨rfl, rfl, rfl, rfl, rfl, rfl, rfl, rfl, rfl, trivial⟩ (WC.region ?_))
      refine WL.so (SO.callP Tryz.call13 rfl (fun w hI => awake_g D hL _ hI.imm)) rfl ?_
      rintro _ _ _ ⟨rfl, rfl, rfl⟩
      refine zya rfl rfl ?_
      refine WL.nil (WP.thenC (WC.ret (WP.thenRet ?_)))
      refine WP.ret1 rfl rfl Tryz.results5 (RV.tmp rfl) (fun w hI => ⟨rfl, hI.keep⟩)
    · try simp only [zq1, zq2, zq3, zq4, zq5, zq6, zq7, zq8] at c44
      refine WC.skip (WP.thenC (WC.seq (WC.ofFr [(16, _), (15, _), (14, _), (13, _), (12, _), (11, _), (10, _), (9, _), (8, _)] ⟨rfl, rfl, rfl, rfl, rfl, rfl, rfl, rfl, rfl, trivial⟩ (WC.region ?_))))
      refine WL.yd (Yd.loadN Tryz.isAgg25 Tryz.sizeOf25 rfl (vs := [_, _, _, _, _]) rfl (RdN.own (k := 7) (n := 5) rfl rfl)) rfl ?_
      refine WL.so (SO.callP Tryz.call14 rfl (fun w hI => WriteSurf_g s m1 D hL hR1 _ hI.imm)) rfl ?_
      rintro _ _ _ ⟨rfl, rfl, rfl⟩
      refine zym rfl rfl ?_
      refine WL.yd (Yd.extract rfl rfl) rfl ?_
      refine WL.yd (Yd.extract rfl rfl) rfl ?_
      refine zya rfl rfl ?_
      refine zya rfl rfl ?_
      refine WL.nil (WP.thenC (WC.seq (WC.ofFr [(18, _), (17, _), (16, _), (15, _), (14, _), (13, _), (12, _), (11, _), (10, _), (9, _), (8, _)] ⟨rfl, rfl, rfl, rfl, rfl, rfl, rfl, rfl, rfl, rfl, rfl, trivial⟩ (WC.region ?_))))
      refine WL.yd (Yd.loadN Tryz.isAgg25 Tryz.sizeOf25 rfl (vs := [_, _, _, _, _]) rfl (RdN.own (k := 6) (n := 5) rfl rfl)) rfl ?_
      refine WL.so (SO.callP Tryz.call14 rfl (fun w hI => WriteSurf_g s' m1' D hL hR1' _ hI.imm)) rfl ?_
      rintro _ _ _ ⟨rfl, rfl, rfl⟩
      refine zym rfl rfl ?_
      refine WL.yd (Yd.extract rfl rfl) rfl ?_
      refine WL.yd (Yd.extract rfl rfl) rfl ?_
      refine zya rfl rfl ?_
      refine zya rfl rfl ?_
      refine WL.nil (WP.thenC (WC.seq (WC.ofFr [(20, _), (19, _), (18, _), (17, _), (16, _), (15, _), (14, _), (13, _), (12, _), (11, _), (10, _), (9, _), (8, _)] ⟨rfl, rfl, rfl, rfl, rfl, rfl, rfl, rfl, rfl, rfl, rfl, rfl, rfl, trivial⟩ (WC.region ?_))))
      refine WL.yd (Yd.loadN Tryz.isAgg29 Tryz.sizeOf29 rfl (vs := [_, _, _, _, _]) rfl (RdN.own (k := 5) (n := 5) rfl rfl)) rfl ?_
      refine WL.so (SO.callP Tryz.call16 rfl (fun w hI => WriteFlag_g f m2 D hL hR2 _ hI.imm)) rfl ?_
      rintro _ _ _ ⟨rfl, rfl, rfl⟩
      refine zym rfl rfl ?_
      refine WL.yd (Yd.extract rfl rfl) rfl ?_
      refine WL.yd (Yd.extract rfl rfl) rfl ?_
      refine zya rfl rfl ?_
      refine zya rfl rfl ?_
      refine WL.nil (WP.thenC (WC.seq (WC.ofFr [(22, _), (21, _), (20, _), (19, _), (18, _), (17, _), (16, _), (15, _), (14, _), (13, _), (12, _), (11, _), (10, _), (9, _), (8, _)] ⟨rfl, rfl, rfl, rfl, rfl, rfl, rfl, rfl, rfl, rfl, rfl, rfl, rfl, rfl, rfl, trivial⟩ (WC.region ?_))))
      refine WL.yd (Yd.loadN Tryz.isAgg29 Tryz.sizeOf29 rfl (vs := [_, _, _, _, _]) rfl (RdN.own (k := 4) (n := 5) rfl rfl)) rfl ?_
      refine WL.so (SO.callP Tryz.call16 rfl (fun w hI => WriteFlag_g f' m2' D hL hR2' _ hI.imm)) rfl ?_
      rintro _ _ _ ⟨rfl, rfl, rfl⟩
      refine zym rfl rfl ?_
      refine WL.yd (Yd.extract rfl rfl) rfl ?_
      refine WL.yd (Yd.extract rfl rfl) rfl ?_
      refine zya rfl rfl ?_
      refine zya rfl rfl ?_
      refine WL.nil (WP.thenC (WC.seq (WC.ofFr [(24, _), (23, _), (22, _), (21, _), (20, _), (19, _), (18, _), (17, _), (16, _), (15, _), (14, _), (13, _), (12, _), (11, _), (10, _), (9, _), (8, _)] ⟨rfl, rfl, rfl, rfl, rfl, rfl, rfl, rfl, rfl, rfl, rfl, rfl, rfl, rfl, rfl, rfl, rfl, trivial⟩ (WC.region ?_))))
      refine WL.yd (Yd.loadN Tryz.isAgg32 Tryz.sizeOf32 rfl (vs := [_, _, _, _, _]) rfl (RdN.own (k := 3) (n := 5) rfl rfl)) rfl ?_
      refine WL.so (SO.callP Tryz.call18 rfl (fun w hI => WriteBoats_g b m3 D hL hR3 _ hI.imm)) rfl ?_
      rintro _ _ _ ⟨rfl, rfl, rfl⟩
      refine zym rfl rfl ?_
      refine WL.yd (Yd.extract rfl rfl) rfl ?_
      refine WL.yd (Yd.extract rfl rfl) rfl ?_
      refine zya rfl rfl ?_
      refine zya rfl rfl ?_
      refine WL.nil (WP.thenC (WC.seq (WC.ofFr [(26, _), (25, _), (24, _), (23, _), (22, _), (21, _), (20, _), (19, _), (18, _), (17, _), (16, _), (15, _), (14, _), (13, _), (12, _), (11, _), (10, _), (9, _), (8, _)] ⟨rfl, rfl, rfl, rfl, rfl, rfl, rfl, rfl, rfl, rfl, rfl, rfl, rfl, rfl, rfl, rfl, rfl, rfl, rfl, trivial⟩ (WC.region ?_))))
      refine WL.yd (Yd.loadN Tryz.isAgg32 Tryz.sizeOf32 rfl (vs := [_, _, _, _, _]) rfl (RdN.own (k := 2) (n := 5) rfl rfl)) rfl ?_
      refine WL.so (SO.callP Tryz.call18 rfl (fun w hI => WriteBoats_g b' m3' D hL hR3' _ hI.imm)) rfl ?_
      rintro _ _ _ ⟨rfl, rfl, rfl⟩
      refine zym rfl rfl ?_
      refine WL.yd (Yd.extract rfl rfl) rfl ?_
      refine WL.yd (Yd.extract rfl rfl) rfl ?_
      refine zya rfl rfl ?_
      refine zya rfl rfl ?_
      refine WL.nil (WP.thenC (WC.seq (WC.ofFr [(28, _), (27, _), (26, _), (25, _), (24, _), (23, _), (22, _), (21, _), (20, _), (19, _), (18, _), (17, _), (16, _), (15, _), (14, _), (13, _), (12, _), (11, _), (10, _), (9, _), (8, _)] ⟨rfl, rfl, rfl, rfl, rfl, rfl, rfl, rfl, rfl, rfl, rfl, rfl, rfl, rfl, rfl, rfl, rfl, rfl, rfl, rfl, rfl, trivial⟩ (WC.region ?_))))
      refine WL.yd (Yd.loadN Tryz.isAgg35 Tryz.sizeOf35 rfl (vs := [_, _]) rfl (RdN.own (k := 1) (n := 2) rfl rfl)) rfl ?_
      refine WL.so (SO.makes (Enters.func Tryz.call20 rfl) (fun w1 hI => WriteHorses_g h m4 D hR4 w1 hI.imm)) rfl ?_
      rintro _ D1 _ ⟨hX1, ⟨a1, n1, c1, rfl, hS1, hc1⟩, rfl⟩
      refine zym rfl rfl ?_
      refine WL.yd (Yd.extract rfl rfl) rfl ?_
      refine WL.yd (Yd.extract rfl rfl) rfl ?_
      refine zya rfl rfl ?_
      refine zya rfl rfl ?_
      refine WL.nil (WP.thenC (WC.seq (WC.ofFr [(30, _), (29, _), (28, _), (27, _), (26, _), (25, _), (24, _), (23, _), (22, _), (21, _), (20, _), (19, _), (18, _), (17, _), (16, _), (15, _), (14, _), (13, _), (12, _), (11, _), (10, _), (9, _), (8, _)] ⟨rfl, rfl, rfl, rfl, rfl, rfl, rfl, rfl, rfl, rfl, rfl, rfl, rfl, rfl, rfl, rfl, rfl, rfl, rfl, rfl, rfl, rfl, rfl, trivial⟩ (WC.region ?_))))
      refine WL.yd (Yd.loadN Tryz.isAgg35 Tryz.sizeOf35 rfl (vs := [_, _]) rfl (RdN.own (k := 0) (n := 2) rfl rfl)) rfl ?_
      refine WL.so (SO.makes (Enters.func Tryz.call20 rfl) (fun w1 hI => WriteHorses_g h' m4' D1 (hR4'.ext hX1) w1 hI.imm)) rfl ?_
      rintro _ D2 _ ⟨hX2, ⟨a2, n2, c2, rfl, hS2, hc2⟩, rfl⟩
      have hL2 := hL.ext (hX1.trans hX2 (Nat.le_refl _))
      refine zym rfl rfl ?_
      refine WL.yd (Yd.extract rfl rfl) rfl ?_
      refine WL.yd (Yd.extract rfl rfl) rfl ?_
      refine zya rfl rfl ?_
      refine zya rfl rfl ?_
      refine WL.nil (WP.thenC (WC.seq (WC.seq (WC.ofFr [(32, _), (31, _), (30, _), (29, _), (28, _), (27, _), (26, _), (25, _), (24, _), (23, _), (22, _), (21, _), (20, _), (19, _), (18, _), (17, _), (16, _), (15, _), (14, _), (13, _), (12, _), (11, _), (10, _), (9, _), (8, _)] ⟨rfl, rfl, rfl, rfl, rfl, rfl, rfl, rfl, rfl, rfl, rfl, rfl, rfl, rfl, rfl, rfl, rfl, rfl, rfl, rfl, rfl, rfl, rfl, rfl, rfl, trivial⟩ (WC.region ?_)))))
      refine WL.ofFr [(20, _), (19, _), (18, _), (17, _), (9, _), (8, _), (32, _), (31, _), (30, _), (29, _), (28, _), (27, _), (26, _), (25, _), (24, _), (23, _), (22, _), (21, _), (16, _), (15, _), (14, _), (13, _), (12, _), (11, _), (10, _)] ⟨rfl, rfl, rfl, rfl, rfl, rfl, rfl, rfl, rfl, rfl, rfl, rfl, rfl, rfl, rfl, rfl, rfl, rfl, rfl, rfl, rfl, rfl, rfl, rfl, rfl, trivial⟩ ?_
      refine WL.cutD 16 6 101 (.bool false) ?_ ?_
      · skip
        refine zym rfl rfl ?_
        refine WL.yd (Yd.eql rfl rfl) rfl ?_
        refine zym rfl rfl ?_
        refine WL.part 88 rfl (fun g88 => ?_) (fun g88 => ?_)
        · try simp only [zq1, zq2, zq3, zq4, zq5, zq6, zq7, zq8] at g88
          refine WL.ydg rfl (Yd.move rfl) rfl ?_
          refine WL.ydg rfl (Yd.eql rfl rfl) rfl ?_
          refine WL.yd (Yd.pickT rfl rfl) rfl ?_
          refine zym rfl rfl ?_
          refine WL.part 92 rfl (fun g92 => ?_) (fun g92 => ?_)
          · try simp only [zq1, zq2, zq3, zq4, zq5, zq6, zq7, zq8] at g92
            refine WL.ydg rfl (Yd.move rfl) rfl ?_
            refine WL.ydg rfl (Yd.move rfl) rfl ?_
            refine WL.ydg rfl (Yd.eqS' rfl rfl) rfl ?_
            refine WL.ydg rfl (Yd.loadN Tryz.isAgg25 Tryz.sizeOf25 rfl (vs := [_, _, _, _, _]) rfl (RdN.own (k := 7) (n := 5) rfl rfl)) rfl ?_
            refine WL.ydg rfl (Yd.loadN Tryz.isAgg25 Tryz.sizeOf25 rfl (vs := [_, _, _, _, _]) rfl (RdN.own (k := 6) (n := 5) rfl rfl)) rfl ?_
            refine WL.sog rfl (SO.callP Tryz.call28 rfl (fun w hI => sameSurf_g s s' m1 m1' (SurfN.of (surfB_iff.1 ((wr_ok (put := putSurf)).1 (by omega)))) (SurfN.of (surfB_iff.1 ((wr_ok (put := putSurf)).1 (by omega)))) D2 hL2 (hR1.ext (hX1.trans hX2 (Nat.le_refl _))) (hR1'.ext (hX1.trans hX2 (Nat.le_refl _))) _ hI.imm)) rfl ?_
            rintro _ _ _ ⟨rfl, rfl, rfl⟩
            refine WL.ydg rfl (Yd.neB Tryz.underlying4 rfl rfl) rfl ?_
            refine WL.know 99 (.bool false) rfl (congrArg Value.bool (neSelf (apSurf (by omega) (by omega)))) ?_
            refine WL.yd (Yd.pickT rfl rfl) rfl ?_
            refine zym rfl rfl ?_
            refine WL.nil ?_
            exact WP.cutEnd ⟨rfl, rfl, rfl, rfl, rfl, rfl, rfl, rfl, rfl, rfl, rfl, rfl, rfl, rfl, rfl, rfl, rfl, rfl, rfl, rfl, trivial⟩
          · try simp only [zq1, zq2, zq3, zq4, zq5, zq6, zq7, zq8] at g92
            refine WL.skip rfl rfl ?_
            refine WL.skip rfl rfl ?_
            refine WL.skip rfl rfl ?_
            refine WL.skip rfl rfl ?_
            refine WL.skip rfl rfl ?_
            refine WL.skip rfl rfl ?_
            refine WL.skip rfl rfl ?_
            refine WL.yd (Yd.pickF rfl rfl) rfl ?_
            refine zym rfl rfl ?_
            refine WL.nil ?_
            exact WP.cutEnd ⟨rfl, rfl, rfl, rfl, rfl, rfl, rfl, rfl, rfl, rfl, rfl, rfl, rfl, rfl, rfl, rfl, rfl, rfl, rfl, rfl, trivial⟩
        · try simp only [zq1, zq2, zq3, zq4, zq5, zq6, zq7, zq8] at g88
          refine WL.skip rfl rfl ?_
          refine WL.skip rfl rfl ?_
          refine WL.yd (Yd.pickF rfl rfl) rfl ?_
          refine zym rfl rfl ?_
          refine WL.skip rfl rfl ?_
          refine WL.skip rfl rfl ?_
          refine WL.skip rfl rfl ?_
          refine WL.skip rfl rfl ?_
          refine WL.skip rfl rfl ?_
          refine WL.skip rfl rfl ?_
          refine WL.skip rfl rfl ?_
          refine WL.yd (Yd.pickF rfl rfl) rfl ?_
          refine zym rfl rfl ?_
          refine WL.nil ?_
          exact WP.cutEnd ⟨rfl, rfl, rfl, rfl, rfl, rfl, rfl, rfl, rfl, rfl, rfl, rfl, rfl, rfl, rfl, rfl, rfl, rfl, rfl, rfl, trivial⟩
      · skip
        refine WL.ofFr [(101, _), (24, _), (23, _), (22, _), (21, _), (11, _), (10, _), (32, _), (31, _), (30, _), (29, _), (28, _), (27, _), (26, _), (25, _), (16, _), (15, _), (14, _), (13, _), (12, _)] ⟨rfl, rfl, rfl, rfl, rfl, rfl, rfl, rfl, rfl, rfl, rfl, rfl, rfl, rfl, rfl, rfl, rfl, rfl, rfl, rfl, trivial⟩ ?_
        refine WL.cutD 16 7 117 (.bool false) ?_ ?_
        · skip
          refine WL.ydg rfl (Yd.move rfl) rfl ?_
          refine WL.ydg rfl (Yd.eql rfl rfl) rfl ?_
          refine WL.ydg rfl (Yd.move rfl) rfl ?_
          refine WL.part 104 rfl (fun g104 => ?_) (fun g104 => ?_)
          · try simp only [zq1, zq2, zq3, zq4, zq5, zq6, zq7, zq8] at g104
            refine WL.ydg rfl (Yd.move rfl) rfl ?_
            refine WL.ydg rfl (Yd.eql rfl rfl) rfl ?_
            refine WL.ydg rfl (Yd.pickT rfl rfl) rfl ?_
            refine WL.ydg rfl (Yd.move rfl) rfl ?_
            refine WL.part 108 rfl (fun g108 => ?_) (fun g108 => ?_)
            · try simp only [zq1, zq2, zq3, zq4, zq5, zq6, zq7, zq8] at g108
              refine WL.ydg rfl (Yd.move rfl) rfl ?_
              refine WL.ydg rfl (Yd.move rfl) rfl ?_
              refine WL.ydg rfl (Yd.eqS' rfl rfl) rfl ?_
              refine WL.ydg rfl (Yd.loadN Tryz.isAgg29 Tryz.sizeOf29 rfl (vs := [_, _, _, _, _]) rfl (RdN.own (k := 5) (n := 5) rfl rfl)) rfl ?_
              refine WL.ydg rfl (Yd.loadN Tryz.isAgg29 Tryz.sizeOf29 rfl (vs := [_, _, _, _, _]) rfl (RdN.own (k := 4) (n := 5) rfl rfl)) rfl ?_
              refine WL.sog rfl (SO.callP Tryz.call29 rfl (fun w hI => sameFlag_g f f' m2 m2' (FlagN.of (flagB_iff.1 ((wr_ok (put := putFlag)).1 (by omega)))) (FlagN.of (flagB_iff.1 ((wr_ok (put := putFlag)).1 (by omega)))) D2 hL2 (hR2.ext (hX1.trans hX2 (Nat.le_refl _))) (hR2'.ext (hX1.trans hX2 (Nat.le_refl _))) _ hI.imm)) rfl ?_
              rintro _ _ _ ⟨rfl, rfl, rfl⟩
              refine WL.ydg rfl (Yd.neB Tryz.underlying4 rfl rfl) rfl ?_
              refine WL.know 115 (.bool false) rfl (congrArg Value.bool (neSelf (apFlag (by omega) (by omega)))) ?_
              refine WL.ydg rfl (Yd.pickT rfl rfl) rfl ?_
              refine WL.yd (Yd.pickF rfl rfl) rfl ?_
              refine WL.nil ?_
              exact WP.cutEnd ⟨rfl, rfl, rfl, rfl, rfl, rfl, rfl, rfl, rfl, rfl, rfl, rfl, rfl, rfl, trivial⟩
            · try simp only [zq1, zq2, zq3, zq4, zq5, zq6, zq7, zq8] at g108
              refine WL.skip rfl rfl ?_
              refine WL.skip rfl rfl ?_
              refine WL.skip rfl rfl ?_
              refine WL.skip rfl rfl ?_
              refine WL.skip rfl rfl ?_
              refine WL.skip rfl rfl ?_
              refine WL.skip rfl rfl ?_
              refine WL.ydg rfl (Yd.pickF rfl rfl) rfl ?_
              refine WL.yd (Yd.pickF rfl rfl) rfl ?_
              refine WL.nil ?_
              exact WP.cutEnd ⟨rfl, rfl, rfl, rfl, rfl, rfl, rfl, rfl, rfl, rfl, rfl, rfl, rfl, rfl, trivial⟩
          · try simp only [zq1, zq2, zq3, zq4, zq5, zq6, zq7, zq8] at g104
            refine WL.skip rfl rfl ?_
            refine WL.skip rfl rfl ?_
            refine WL.ydg rfl (Yd.pickF rfl rfl) rfl ?_
            refine WL.ydg rfl (Yd.move rfl) rfl ?_
            refine WL.skip rfl rfl ?_
            refine WL.skip rfl rfl ?_
            refine WL.skip rfl rfl ?_
            refine WL.skip rfl rfl ?_
            refine WL.skip rfl rfl ?_
            refine WL.skip rfl rfl ?_
            refine WL.skip rfl rfl ?_
            refine WL.ydg rfl (Yd.pickF rfl rfl) rfl ?_
            refine WL.yd (Yd.pickF rfl rfl) rfl ?_
            refine WL.nil ?_
            exact WP.cutEnd ⟨rfl, rfl, rfl, rfl, rfl, rfl, rfl, rfl, rfl, rfl, rfl, rfl, rfl, rfl, trivial⟩
        · skip
          refine WL.nil (WP.thenC ?_)
          refine WC.condF rfl ?_
          refine WC.skip (WP.thenC (WC.seq (WC.ofFr [(32, _), (31, _), (30, _), (29, _), (28, _), (27, _), (26, _), (25, _), (16, _), (15, _), (14, _), (13, _), (12, _)] ⟨rfl, rfl, rfl, rfl, rfl, rfl, rfl, rfl, rfl, rfl, rfl, rfl, rfl, trivial⟩ ?_)))
          refine WC.tail 28 [0, 1, 2, 3, 4, 5, 6, 7, 8, 9, 10, 11, 12, 13, 14, 15, 16, 17, 18, 19, 20, 21, 22, 23, 24, 25, 26, 27] rfl (by kernel_rfl) (by kernel_rfl)  ?_
          refine WQ.q rfl (Yd.qt (Yd.move rfl)) rfl ?_
          refine WQ.q rfl (Yd.qt (Yd.neq rfl rfl)) rfl ?_
          refine WQ.q rfl (Yd.qt (Yd.move rfl)) rfl ?_
          refine WQ.part 120 rfl (fun g120 => ?_) (fun g120 => ?_)
          · try simp only [zq1, zq2, zq3, zq4, zq5, zq6, zq7, zq8] at g120
            refine WQ.skip rfl rfl rfl ?_
            refine WQ.skip rfl rfl rfl ?_
            refine WQ.q rfl (Yd.qt (Yd.pickT rfl rfl)) rfl ?_
            refine WQ.q rfl (Yd.qt (Yd.move rfl)) rfl ?_
            refine WQ.skip rfl rfl rfl ?_
            refine WQ.skip rfl rfl rfl ?_
            refine WQ.skip rfl rfl rfl ?_
            refine WQ.skip rfl rfl rfl ?_
            refine WQ.skip rfl rfl rfl ?_
            refine WQ.skip rfl rfl rfl ?_
            refine WQ.skip rfl rfl rfl ?_
            refine WQ.q rfl (Yd.qt (Yd.pickT rfl rfl)) rfl ?_
            refine WQ.q rfl (Yd.qt (Yd.move rfl)) rfl ?_
            refine WQ.qg rfl rfl (Yd.qt (Yd.move rfl)) rfl ?_
            refine WQ.qg rfl rfl (Yd.qt (Yd.neq rfl rfl)) rfl ?_
            refine WQ.qg rfl rfl (Yd.qt (Yd.move rfl)) rfl ?_
            refine WQ.part 136 rfl (fun g136 => ?_) (fun g136 => ?_)
            · try simp only [zq1, zq2, zq3, zq4, zq5, zq6, zq7, zq8] at g136
              refine WQ.skip rfl rfl rfl ?_
              refine WQ.skip rfl rfl rfl ?_
              refine WQ.qg rfl rfl (Yd.qt (Yd.pickT rfl rfl)) rfl ?_
              refine WQ.qg rfl rfl (Yd.qt (Yd.move rfl)) rfl ?_
              refine WQ.skip rfl rfl rfl ?_
              refine WQ.skip rfl rfl rfl ?_
              refine WQ.skip rfl rfl rfl ?_
              refine WQ.skip rfl rfl rfl ?_
              refine WQ.skip rfl rfl rfl ?_
              refine WQ.tail ?_
              refine WL.skip rfl rfl ?_
              refine WL.skip rfl rfl ?_
              refine WL.ydg rfl (Yd.pickT rfl rfl) rfl ?_
              refine WL.yd (Yd.pickT rfl rfl) rfl ?_
              refine zym rfl rfl ?_
              refine WL.sog rfl (SO.callP Tryz.call13 rfl (fun w hI => awake_g D2 hL2 _ hI.imm)) rfl ?_
              rintro _ _ _ ⟨rfl, rfl, rfl⟩
              refine WL.yd (Yd.pickT rfl rfl) rfl ?_
              refine zya rfl rfl ?_
              refine WL.nil (WP.thenC (WC.ret ?_))
              refine WP.ret1 rfl rfl Tryz.results5 (RV.tmp rfl) (fun w hI => ⟨rfl, hI.keep⟩)
            · try simp only [zq1, zq2, zq3, zq4, zq5, zq6, zq7, zq8] at g136
              refine WQ.qg rfl rfl (Yd.qt (Yd.move rfl)) rfl ?_
              refine WQ.qg rfl rfl (Yd.qt (Yd.neq rfl rfl)) rfl ?_
              refine WQ.qg rfl rfl (Yd.qt (Yd.pickF rfl rfl)) rfl ?_
              refine WQ.qg rfl rfl (Yd.qt (Yd.move rfl)) rfl ?_
              refine WQ.part 140 rfl (fun g140 => ?_) (fun g140 => ?_)
              · try simp only [zq1, zq2, zq3, zq4, zq5, zq6, zq7, zq8] at g140
                refine WQ.skip rfl rfl rfl ?_
                refine WQ.skip rfl rfl rfl ?_
                refine WQ.skip rfl rfl rfl ?_
                refine WQ.skip rfl rfl rfl ?_
                refine WQ.skip rfl rfl rfl ?_
                refine WQ.tail ?_
                refine WL.skip rfl rfl ?_
                refine WL.skip rfl rfl ?_
                refine WL.ydg rfl (Yd.pickT rfl rfl) rfl ?_
                refine WL.yd (Yd.pickT rfl rfl) rfl ?_
                refine zym rfl rfl ?_
                refine WL.sog rfl (SO.callP Tryz.call13 rfl (fun w hI => awake_g D2 hL2 _ hI.imm)) rfl ?_
                rintro _ _ _ ⟨rfl, rfl, rfl⟩
                refine WL.yd (Yd.pickT rfl rfl) rfl ?_
                refine zya rfl rfl ?_
                refine WL.nil (WP.thenC (WC.ret ?_))
                refine WP.ret1 rfl rfl Tryz.results5 (RV.tmp rfl) (fun w hI => ⟨rfl, hI.keep⟩)
              · try simp only [zq1, zq2, zq3, zq4, zq5, zq6, zq7, zq8] at g140
                refine WQ.qg rfl rfl (Yd.qt (Yd.move rfl)) rfl ?_
                refine WQ.qg rfl rfl (Yd.qt (Yd.move rfl)) rfl ?_
                refine WQ.qg rfl rfl (Qt.callP Tryz.call22 rfl (fun w hI => bytes_g (wrH h).1 (wrH h').1 a1 a2 n1 n2 c1 c2 D2 (hS1.ext hX2) hS2 _ hI.imm)) rfl ?_
                refine WQ.qg rfl rfl (Yd.qt (Yd.loadN Tryz.isAgg35 Tryz.sizeOf35 rfl (vs := [_, _]) rfl (RdN.own (k := 1) (n := 2) rfl rfl))) rfl ?_
                refine WQ.qg rfl rfl (Yd.qt (Yd.loadN Tryz.isAgg35 Tryz.sizeOf35 rfl (vs := [_, _]) rfl (RdN.own (k := 0) (n := 2) rfl rfl))) rfl ?_
                refine WQ.tail ?_
                refine WL.sog rfl (SO.callP Tryz.call27 rfl (fun w hI => sameHors_g h h' m4 m4' D2 (hR4.ext (hX1.trans hX2 (Nat.le_refl _))) (hR4'.ext (hX1.trans hX2 (Nat.le_refl _))) _ hI.imm)) rfl ?_
                rintro _ _ _ ⟨rfl, rfl, rfl⟩
                refine WL.ydg rfl (Yd.eqB Tryz.underlying4 rfl rfl) rfl ?_
                refine WL.know 147 (.bool true) rfl (congrArg Value.bool (eqSelf (apHors (by omega) (by omega)))) ?_
                refine WL.ydg rfl (Yd.pickF rfl rfl) rfl ?_
                refine WL.yd (Yd.pickT rfl rfl) rfl ?_
                refine zym rfl rfl ?_
                refine WL.sog rfl (SO.callP Tryz.call13 rfl (fun w hI => awake_g D2 hL2 _ hI.imm)) rfl ?_
                rintro _ _ _ ⟨rfl, rfl, rfl⟩
                refine WL.yd (Yd.pickT rfl rfl) rfl ?_
                refine zya rfl rfl ?_
                refine WL.nil (WP.thenC (WC.ret ?_))
                refine WP.ret1 rfl rfl Tryz.results5 (RV.tmp rfl) (fun w hI => ⟨rfl, hI.keep⟩)
          · try simp only [zq1, zq2, zq3, zq4, zq5, zq6, zq7, zq8] at g120
            refine WQ.qg rfl rfl (Yd.qt (Yd.move rfl)) rfl ?_
            refine WQ.qg rfl rfl (Yd.qt (Yd.neq rfl rfl)) rfl ?_
            refine WQ.q rfl (Yd.qt (Yd.pickF rfl rfl)) rfl ?_
            refine WQ.q rfl (Yd.qt (Yd.move rfl)) rfl ?_
            refine WQ.part 124 rfl (fun g124 => ?_) (fun g124 => ?_)
            · try simp only [zq1, zq2, zq3, zq4, zq5, zq6, zq7, zq8] at g124
              refine WQ.skip rfl rfl rfl ?_
              refine WQ.skip rfl rfl rfl ?_
              refine WQ.skip rfl rfl rfl ?_
              refine WQ.skip rfl rfl rfl ?_
              refine WQ.skip rfl rfl rfl ?_
              refine WQ.skip rfl rfl rfl ?_
              refine WQ.skip rfl rfl rfl ?_
              refine WQ.q rfl (Yd.qt (Yd.pickT rfl rfl)) rfl ?_
              refine WQ.q rfl (Yd.qt (Yd.move rfl)) rfl ?_
              refine WQ.qg rfl rfl (Yd.qt (Yd.move rfl)) rfl ?_
              refine WQ.qg rfl rfl (Yd.qt (Yd.neq rfl rfl)) rfl ?_
              refine WQ.qg rfl rfl (Yd.qt (Yd.move rfl)) rfl ?_
              refine WQ.part 136 rfl (fun g136 => ?_) (fun g136 => ?_)
              · try simp only [zq1, zq2, zq3, zq4, zq5, zq6, zq7, zq8] at g136
                refine WQ.skip rfl rfl rfl ?_
                refine WQ.skip rfl rfl rfl ?_
                refine WQ.qg rfl rfl (Yd.qt (Yd.pickT rfl rfl)) rfl ?_
                refine WQ.qg rfl rfl (Yd.qt (Yd.move rfl)) rfl ?_
                refine WQ.skip rfl rfl rfl ?_
                refine WQ.skip rfl rfl rfl ?_
                refine WQ.skip rfl rfl rfl ?_
                refine WQ.skip rfl rfl rfl ?_
                refine WQ.skip rfl rfl rfl ?_
                refine WQ.tail ?_
                refine WL.skip rfl rfl ?_
                refine WL.skip rfl rfl ?_
                refine WL.ydg rfl (Yd.pickT rfl rfl) rfl ?_
                refine WL.yd (Yd.pickT rfl rfl) rfl ?_
                refine zym rfl rfl ?_
                refine WL.sog rfl (SO.callP Tryz.call13 rfl (fun w hI => awake_g D2 hL2 _ hI.imm)) rfl ?_
                rintro _ _ _ ⟨rfl, rfl, rfl⟩
                refine WL.yd (Yd.pickT rfl rfl) rfl ?_
                refine zya rfl rfl ?_
                refine WL.nil (WP.thenC (WC.ret ?_))
                refine WP.ret1 rfl rfl Tryz.results5 (RV.tmp rfl) (fun w hI => ⟨rfl, hI.keep⟩)
              · try simp only [zq1, zq2, zq3, zq4, zq5, zq6, zq7, zq8] at g136
                refine WQ.qg rfl rfl (Yd.qt (Yd.move rfl)) rfl ?_
                refine WQ.qg rfl rfl (Yd.qt (Yd.neq rfl rfl)) rfl ?_
                refine WQ.qg rfl rfl (Yd.qt (Yd.pickF rfl rfl)) rfl ?_
                refine WQ.qg rfl rfl (Yd.qt (Yd.move rfl)) rfl ?_
                refine WQ.part 140 rfl (fun g140 => ?_) (fun g140 => ?_)
                · try simp only [zq1, zq2, zq3, zq4, zq5, zq6, zq7, zq8] at g140
                  refine WQ.skip rfl rfl rfl ?_
                  refine WQ.skip rfl rfl rfl ?_
                  refine WQ.skip rfl rfl rfl ?_
                  refine WQ.skip rfl rfl rfl ?_
                  refine WQ.skip rfl rfl rfl ?_
                  refine WQ.tail ?_
                  refine WL.skip rfl rfl ?_
                  refine WL.skip rfl rfl ?_
                  refine WL.ydg rfl (Yd.pickT rfl rfl) rfl ?_
                  refine WL.yd (Yd.pickT rfl rfl) rfl ?_
                  refine zym rfl rfl ?_
                  refine WL.sog rfl (SO.callP Tryz.call13 rfl (fun w hI => awake_g D2 hL2 _ hI.imm)) rfl ?_
                  rintro _ _ _ ⟨rfl, rfl, rfl⟩
                  refine WL.yd (Yd.pickT rfl rfl) rfl ?_
                  refine zya rfl rfl ?_
                  refine WL.nil (WP.thenC (WC.ret ?_))
                  refine WP.ret1 rfl rfl Tryz.results5 (RV.tmp rfl) (fun w hI => ⟨rfl, hI.keep⟩)
                · try simp only [zq1, zq2, zq3, zq4, zq5, zq6, zq7, zq8] at g140
                  refine WQ.qg rfl rfl (Yd.qt (Yd.move rfl)) rfl ?_
                  refine WQ.qg rfl rfl (Yd.qt (Yd.move rfl)) rfl ?_
                  refine WQ.qg rfl rfl (Qt.callP Tryz.call22 rfl (fun w hI => bytes_g (wrH h).1 (wrH h').1 a1 a2 n1 n2 c1 c2 D2 (hS1.ext hX2) hS2 _ hI.imm)) rfl ?_
                  refine WQ.qg rfl rfl (Yd.qt (Yd.loadN Tryz.isAgg35 Tryz.sizeOf35 rfl (vs := [_, _]) rfl (RdN.own (k := 1) (n := 2) rfl rfl))) rfl ?_
                  refine WQ.qg rfl rfl (Yd.qt (Yd.loadN Tryz.isAgg35 Tryz.sizeOf35 rfl (vs := [_, _]) rfl (RdN.own (k := 0) (n := 2) rfl rfl))) rfl ?_
                  refine WQ.tail ?_
                  refine WL.sog rfl (SO.callP Tryz.call27 rfl (fun w hI => sameHors_g h h' m4 m4' D2 (hR4.ext (hX1.trans hX2 (Nat.le_refl _))) (hR4'.ext (hX1.trans hX2 (Nat.le_refl _))) _ hI.imm)) rfl ?_
                  rintro _ _ _ ⟨rfl, rfl, rfl⟩
                  refine WL.ydg rfl (Yd.eqB Tryz.underlying4 rfl rfl) rfl ?_
                  refine WL.know 147 (.bool true) rfl (congrArg Value.bool (eqSelf (apHors (by omega) (by omega)))) ?_
                  refine WL.ydg rfl (Yd.pickF rfl rfl) rfl ?_
                  refine WL.yd (Yd.pickT rfl rfl) rfl ?_
                  refine zym rfl rfl ?_
                  refine WL.sog rfl (SO.callP Tryz.call13 rfl (fun w hI => awake_g D2 hL2 _ hI.imm)) rfl ?_
                  rintro _ _ _ ⟨rfl, rfl, rfl⟩
                  refine WL.yd (Yd.pickT rfl rfl) rfl ?_
                  refine zya rfl rfl ?_
                  refine WL.nil (WP.thenC (WC.ret ?_))
                  refine WP.ret1 rfl rfl Tryz.results5 (RV.tmp rfl) (fun w hI => ⟨rfl, hI.keep⟩)
            · try simp only [zq1, zq2, zq3, zq4, zq5, zq6, zq7, zq8] at g124
              refine WQ.qg rfl rfl (Yd.qt (Yd.move rfl)) rfl ?_
              refine WQ.qg rfl rfl (Yd.qt (Yd.move rfl)) rfl ?_
              refine WQ.qg rfl rfl (Yd.qt (Yd.eqS' rfl rfl)) rfl ?_
              refine WQ.qg rfl rfl (Yd.qt (Yd.loadN Tryz.isAgg32 Tryz.sizeOf32 rfl (vs := [_, _, _, _, _]) rfl (RdN.own (k := 3) (n := 5) rfl rfl))) rfl ?_
              refine WQ.qg rfl rfl (Yd.qt (Yd.loadN Tryz.isAgg32 Tryz.sizeOf32 rfl (vs := [_, _, _, _, _]) rfl (RdN.own (k := 2) (n := 5) rfl rfl))) rfl ?_
              refine WQ.qg rfl rfl (Qt.callP Tryz.call30 rfl (fun w hI => sameBoats_g b b' m3 m3' (BoatsN.of (boatsB_iff.1 ((wr_ok (put := putBoats)).1 (by omega)))) (BoatsN.of (boatsB_iff.1 ((wr_ok (put := putBoats)).1 (by omega)))) D2 hL2 (hR3.ext (hX1.trans hX2 (Nat.le_refl _))) (hR3'.ext (hX1.trans hX2 (Nat.le_refl _))) _ hI.imm)) rfl ?_
              refine WQ.qg rfl rfl (Yd.qt (Yd.eqB Tryz.underlying4 rfl rfl)) rfl ?_
              refine WQ.know 131 (.bool true) rfl (congrArg Value.bool (eqSelf (apBoats (by omega) (by omega)))) ?_
              refine WQ.q rfl (Yd.qt (Yd.pickF rfl rfl)) rfl ?_
              refine WQ.q rfl (Yd.qt (Yd.move rfl)) rfl ?_
              refine WQ.qg rfl rfl (Yd.qt (Yd.move rfl)) rfl ?_
              refine WQ.qg rfl rfl (Yd.qt (Yd.neq rfl rfl)) rfl ?_
              refine WQ.qg rfl rfl (Yd.qt (Yd.move rfl)) rfl ?_
              refine WQ.part 136 rfl (fun g136 => ?_) (fun g136 => ?_)
              · try simp only [zq1, zq2, zq3, zq4, zq5, zq6, zq7, zq8] at g136
                refine WQ.skip rfl rfl rfl ?_
                refine WQ.skip rfl rfl rfl ?_
                refine WQ.qg rfl rfl (Yd.qt (Yd.pickT rfl rfl)) rfl ?_
                refine WQ.qg rfl rfl (Yd.qt (Yd.move rfl)) rfl ?_
                refine WQ.skip rfl rfl rfl ?_
                refine WQ.skip rfl rfl rfl ?_
                refine WQ.skip rfl rfl rfl ?_
                refine WQ.skip rfl rfl rfl ?_
                refine WQ.skip rfl rfl rfl ?_
                refine WQ.tail ?_
                refine WL.skip rfl rfl ?_
                refine WL.skip rfl rfl ?_
                refine WL.ydg rfl (Yd.pickT rfl rfl) rfl ?_
                refine WL.yd (Yd.pickT rfl rfl) rfl ?_
                refine zym rfl rfl ?_
                refine WL.sog rfl (SO.callP Tryz.call13 rfl (fun w hI => awake_g D2 hL2 _ hI.imm)) rfl ?_
                rintro _ _ _ ⟨rfl, rfl, rfl⟩
                refine WL.yd (Yd.pickT rfl rfl) rfl ?_
                refine zya rfl rfl ?_
                refine WL.nil (WP.thenC (WC.ret ?_))
                refine WP.ret1 rfl rfl Tryz.results5 (RV.tmp rfl) (fun w hI => ⟨rfl, hI.keep⟩)
              · try simp only [zq1, zq2, zq3, zq4, zq5, zq6, zq7, zq8] at g136
                refine WQ.qg rfl rfl (Yd.qt (Yd.move rfl)) rfl ?_
                refine WQ.qg rfl rfl (Yd.qt (Yd.neq rfl rfl)) rfl ?_
                refine WQ.qg rfl rfl (Yd.qt (Yd.pickF rfl rfl)) rfl ?_
                refine WQ.qg rfl rfl (Yd.qt (Yd.move rfl)) rfl ?_
                refine WQ.part 140 rfl (fun g140 => ?_) (fun g140 => ?_)
                · try simp only [zq1, zq2, zq3, zq4, zq5, zq6, zq7, zq8] at g140
                  refine WQ.skip rfl rfl rfl ?_
                  refine WQ.skip rfl rfl rfl ?_
                  refine WQ.skip rfl rfl rfl ?_
                  refine WQ.skip rfl rfl rfl ?_
                  refine WQ.skip rfl rfl rfl ?_
                  refine WQ.tail ?_
                  refine WL.skip rfl rfl ?_
                  refine WL.skip rfl rfl ?_
                  refine WL.ydg rfl (Yd.pickT rfl rfl) rfl ?_
                  refine WL.yd (Yd.pickT rfl rfl) rfl ?_
                  refine zym rfl rfl ?_
                  refine WL.sog rfl (SO.callP Tryz.call13 rfl (fun w hI => awake_g D2 hL2 _ hI.imm)) rfl ?_
                  rintro _ _ _ ⟨rfl, rfl, rfl⟩
                  refine WL.yd (Yd.pickT rfl rfl) rfl ?_
                  refine zya rfl rfl ?_
                  refine WL.nil (WP.thenC (WC.ret ?_))
                  refine WP.ret1 rfl rfl Tryz.results5 (RV.tmp rfl) (fun w hI => ⟨rfl, hI.keep⟩)
                · try simp only [zq1, zq2, zq3, zq4, zq5, zq6, zq7, zq8] at g140
                  refine WQ.qg rfl rfl (Yd.qt (Yd.move rfl)) rfl ?_
                  refine WQ.qg rfl rfl (Yd.qt (Yd.move rfl)) rfl ?_
                  refine WQ.qg rfl rfl (Qt.callP Tryz.call22 rfl (fun w hI => bytes_g (wrH h).1 (wrH h').1 a1 a2 n1 n2 c1 c2 D2 (hS1.ext hX2) hS2 _ hI.imm)) rfl ?_
                  refine WQ.qg rfl rfl (Yd.qt (Yd.loadN Tryz.isAgg35 Tryz.sizeOf35 rfl (vs := [_, _]) rfl (RdN.own (k := 1) (n := 2) rfl rfl))) rfl ?_
                  refine WQ.qg rfl rfl (Yd.qt (Yd.loadN Tryz.isAgg35 Tryz.sizeOf35 rfl (vs := [_, _]) rfl (RdN.own (k := 0) (n := 2) rfl rfl))) rfl ?_
                  refine WQ.tail ?_
                  refine WL.sog rfl (SO.callP Tryz.call27 rfl (fun w hI => sameHors_g h h' m4 m4' D2 (hR4.ext (hX1.trans hX2 (Nat.le_refl _))) (hR4'.ext (hX1.trans hX2 (Nat.le_refl _))) _ hI.imm)) rfl ?_
                  rintro _ _ _ ⟨rfl, rfl, rfl⟩
                  refine WL.ydg rfl (Yd.eqB Tryz.underlying4 rfl rfl) rfl ?_
                  refine WL.know 147 (.bool true) rfl (congrArg Value.bool (eqSelf (apHors (by omega) (by omega)))) ?_
                  refine WL.ydg rfl (Yd.pickF rfl rfl) rfl ?_
                  refine WL.yd (Yd.pickT rfl rfl) rfl ?_
                  refine zym rfl rfl ?_
                  refine WL.sog rfl (SO.callP Tryz.call13 rfl (fun w hI => awake_g D2 hL2 _ hI.imm)) rfl ?_
                  rintro _ _ _ ⟨rfl, rfl, rfl⟩
                  refine WL.yd (Yd.pickT rfl rfl) rfl ?_
                  refine zya rfl rfl ?_
                  refine WL.nil (WP.thenC (WC.ret ?_))
                  refine WP.ret1 rfl rfl Tryz.results5 (RV.tmp rfl) (fun w hI => ⟨rfl, hI.keep⟩)

end Go.Proofs.YtaebnllfmkcpgaaGreatDoor
