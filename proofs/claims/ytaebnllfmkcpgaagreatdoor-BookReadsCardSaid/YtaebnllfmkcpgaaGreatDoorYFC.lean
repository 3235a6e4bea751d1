import Derived.Test.YtaebnllfmkcpgaaGreatDoorXW
import Derived.Test.YtaebnllfmkcpgaaGreatDoorXI
set_option linter.unusedSimpArgs false
set_option linter.unusedVariables false
set_option linter.all false
set_option maxRecDepth 100000
set_option maxHeartbeats 1000000
namespace Go.Proofs.YtaebnllfmkcpgaaGreatDoor
open Go.W Go.Bk

theorem readSurf_N (s : Bs) {x : Surf} {c : Int} (h : readSurf s = (x, c)) : SurfN x := by
  by_cases e : c = 0
  · subst e; exact SurfN.of (surfB_iff.1 (readX_of h).1)
  · have h2 := readX_no (s := s) (z := surfZ) (take := surfP) (is := surfB) (put := putSurf) (by rw [show readX surfZ surfP surfB putSurf s = (x, c) from h]; exact e)
    rw [show readX surfZ surfP surfB putSurf s = (x, c) from h] at h2
    cases h2; exact SurfN.zero
theorem readFlag_N (s : Bs) {x : Flag} {c : Int} (h : readFlag s = (x, c)) : FlagN x := by
  by_cases e : c = 0
  · subst e; exact FlagN.of (flagB_iff.1 (readX_of h).1)
  · have h2 := readX_no (s := s) (z := flagZ) (take := flagP) (is := flagB) (put := putFlag) (by rw [show readX flagZ flagP flagB putFlag s = (x, c) from h]; exact e)
    rw [show readX flagZ flagP flagB putFlag s = (x, c) from h] at h2
    cases h2; exact FlagN.zero
theorem readBoats_N (s : Bs) {x : Boats} {c : Int} (h : readBoats s = (x, c)) : BoatsN x := by
  by_cases e : c = 0
  · subst e; exact BoatsN.of (boatsB_iff.1 (readX_of h).1)
  · have h2 := readX_no (s := s) (z := boatsZ) (take := boatsP) (is := boatsB) (put := putBoats) (by rw [show readX boatsZ boatsP boatsB putBoats s = (x, c) from h]; exact e)
    rw [show readX boatsZ boatsP boatsB putBoats s = (x, c) from h] at h2
    cases h2; exact BoatsN.zero
theorem sameSurf_refl (x : Surf) : sameSurf x x = true := by simp [sameSurf]

set_option maxRecDepth 100000 in
set_option maxHeartbeats 4000000 in
theorem bookReads_g (s : Bs) (D : Imm) (hL : LibD D) (w : World) (hH : Holds D w) : Gives Tryz.prog 8 [st s] w (.bool true) := by
  unfold Gives
  refine enter Tryz.func8 rfl 80 Tryz.ntmps8 (zqb rfl) (Inv.start hH) ?_
  refine WC.seq (WC.ofFr [(0, _)] ⟨rfl, trivial⟩ (WC.region ?_))
  refine zya rfl rfl ?_
  refine WL.nil (WP.thenC (WC.seq (WC.seq (WC.ofFr [(2, _), (0, _)] ⟨rfl, rfl, trivial⟩ (WC.region ?_)))))
  refine zym rfl rfl ?_
  refine WL.yd (Yd.lenStr rfl Tryz.underlying9 rfl) rfl ?_
  refine WL.yd (Yd.gtr rfl rfl) rfl ?_
  refine WL.nil (WP.thenC ?_)
  refine WC.cond rfl (fun c17 => ?_) (fun c17 => ?_)
  · try simp only [zq1, zq2, zq3, zq4, zq5, zq6, zq7, zq8] at c17
    refine WC.seq (WC.ofFr [(2, _), (0, _)] ⟨rfl, rfl, trivial⟩ (WC.region ?_))
    refine WL.so (SO.callP Tryz.call13 rfl (fun w hI => awake_g D hL _ hI.imm)) rfl ?_
    rintro _ _ _ ⟨rfl, rfl, rfl⟩
    refine zya rfl rfl ?_
    refine WL.nil (WP.thenC (WC.ret (WP.thenRet ?_)))
    refine WP.ret1 rfl rfl Tryz.results8 (RV.tmp rfl) (fun w hI => ⟨rfl, hI.keep⟩)
  · try simp only [zq1, zq2, zq3, zq4, zq5, zq6, zq7, zq8] at c17
    have hs : s.length ≤ 2 ^ 20 := by omega
    refine WC.skip (WP.thenC (WC.seq (WC.ofFr [(2, _), (0, _)] ⟨rfl, rfl, trivial⟩ (WC.region ?_))))
    refine zym rfl rfl ?_
    refine WL.so (SO.makes (Enters.func Tryz.call34 rfl) (fun w1 hI => ReadSurf_g s hs D hL w1 hI.imm)) rfl ?_
    rintro _ D1 _ ⟨hX1, ⟨x1, m1, e1, hx1, rfl, hR1⟩, rfl⟩
    have hL1 := hL.ext hX1
    refine zym rfl rfl ?_
    refine WL.yd (Yd.extract rfl rfl) rfl ?_
    refine WL.yd (Yd.extract rfl rfl) rfl ?_
    refine WL.so (SO.alloc Tryz.zeroValue25 rfl) rfl ?_
    rintro _ _ _ ⟨b3, hb3, rfl, rfl, rfl⟩
    refine WL.so (SO.store 0 rfl Tryz.sizeOf25 rfl rfl rfl rfl (zqb rfl) (oneB_spec rfl)) rfl ?_
    rintro _ _ _ ⟨rfl, rfl, rfl⟩
    refine zya rfl rfl ?_
    refine WL.nil (WP.thenC (WC.seq (WC.ofFr [(4, _), (3, _), (2, _), (0, _)] ⟨rfl, rfl, rfl, rfl, trivial⟩ (WC.region ?_))))
    refine zym rfl rfl ?_
    refine WL.so (SO.makes (Enters.func Tryz.call35 rfl) (fun w1 hI => rReadSurf_g s hs D1 hL1 w1 hI.imm)) rfl ?_
    rintro _ D2 _ ⟨hX2, ⟨x2, m2, e2, hx2, rfl, hR2⟩, rfl⟩
    have hL2 := hL1.ext hX2
    rw [← readSurf_same] at hx2
    obtain ⟨rfl, rfl⟩ : x2 = x1 ∧ e2 = e1 := by have h9 := hx2.symm.trans hx1; cases h9; exact ⟨rfl, rfl⟩
    refine zym rfl rfl ?_
    refine WL.yd (Yd.extract rfl rfl) rfl ?_
    refine WL.yd (Yd.extract rfl rfl) rfl ?_
    refine WL.so (SO.alloc Tryz.zeroValue25 rfl) rfl ?_
    rintro _ _ _ ⟨b5, hb5, rfl, rfl, rfl⟩
    refine WL.so (SO.store 0 rfl Tryz.sizeOf25 rfl rfl rfl rfl (zqb rfl) (oneB_spec rfl)) rfl ?_
    rintro _ _ _ ⟨rfl, rfl, rfl⟩
    refine zya rfl rfl ?_
    refine WL.nil (WP.thenC (WC.seq (WC.ofFr [(6, _), (5, _), (4, _), (3, _), (2, _), (0, _)] ⟨rfl, rfl, rfl, rfl, rfl, rfl, trivial⟩ (WC.region ?_))))
    refine zym rfl rfl ?_
    refine WL.so (SO.makes (Enters.func Tryz.call36 rfl) (fun w1 hI => ReadFlag_g s hs D2 hL2 w1 hI.imm)) rfl ?_
    rintro _ D3 _ ⟨hX3, ⟨x3, m3, e3, hx3, rfl, hR3⟩, rfl⟩
    have hL3 := hL2.ext hX3
    refine zym rfl rfl ?_
    refine WL.yd (Yd.extract rfl rfl) rfl ?_
    refine WL.yd (Yd.extract rfl rfl) rfl ?_
    refine WL.so (SO.alloc Tryz.zeroValue29 rfl) rfl ?_
    rintro _ _ _ ⟨b7, hb7, rfl, rfl, rfl⟩
    refine WL.so (SO.store 0 rfl Tryz.sizeOf29 rfl rfl rfl rfl (zqb rfl) (oneB_spec rfl)) rfl ?_
    rintro _ _ _ ⟨rfl, rfl, rfl⟩
    refine zya rfl rfl ?_
    refine WL.nil (WP.thenC (WC.seq (WC.ofFr [(8, _), (7, _), (6, _), (5, _), (4, _), (3, _), (2, _), (0, _)] ⟨rfl, rfl, rfl, rfl, rfl, rfl, rfl, rfl, trivial⟩ (WC.region ?_))))
    refine zym rfl rfl ?_
    refine WL.so (SO.makes (Enters.func Tryz.call37 rfl) (fun w1 hI => rReadFlag_g s hs D3 hL3 w1 hI.imm)) rfl ?_
    rintro _ D4 _ ⟨hX4, ⟨x4, m4, e4, hx4, rfl, hR4⟩, rfl⟩
    have hL4 := hL3.ext hX4
    rw [← readFlag_same] at hx4
    obtain ⟨rfl, rfl⟩ : x4 = x3 ∧ e4 = e3 := by have h9 := hx4.symm.trans hx3; cases h9; exact ⟨rfl, rfl⟩
    refine zym rfl rfl ?_
    refine WL.yd (Yd.extract rfl rfl) rfl ?_
    refine WL.yd (Yd.extract rfl rfl) rfl ?_
    refine WL.so (SO.alloc Tryz.zeroValue29 rfl) rfl ?_
    rintro _ _ _ ⟨b9, hb9, rfl, rfl, rfl⟩
    refine WL.so (SO.store 0 rfl Tryz.sizeOf29 rfl rfl rfl rfl (zqb rfl) (oneB_spec rfl)) rfl ?_
    rintro _ _ _ ⟨rfl, rfl, rfl⟩
    refine zya rfl rfl ?_
    refine WL.nil (WP.thenC (WC.seq (WC.ofFr [(10, _), (9, _), (8, _), (7, _), (6, _), (5, _), (4, _), (3, _), (2, _), (0, _)] ⟨rfl, rfl, rfl, rfl, rfl, rfl, rfl, rfl, rfl, rfl, trivial⟩ (WC.region ?_))))
    refine zym rfl rfl ?_
    refine WL.so (SO.makes (Enters.func Tryz.call38 rfl) (fun w1 hI => ReadBoats_g s hs D4 hL4 w1 hI.imm)) rfl ?_
    rintro _ D5 _ ⟨hX5, ⟨x5, m5, e5, hx5, rfl, hR5⟩, rfl⟩
    have hL5 := hL4.ext hX5
    refine zym rfl rfl ?_
    refine WL.yd (Yd.extract rfl rfl) rfl ?_
    refine WL.yd (Yd.extract rfl rfl) rfl ?_
    refine WL.so (SO.alloc Tryz.zeroValue32 rfl) rfl ?_
    rintro _ _ _ ⟨b11, hb11, rfl, rfl, rfl⟩
    refine WL.so (SO.store 0 rfl Tryz.sizeOf32 rfl rfl rfl rfl (zqb rfl) (oneB_spec rfl)) rfl ?_
    rintro _ _ _ ⟨rfl, rfl, rfl⟩
    refine zya rfl rfl ?_
    refine WL.nil (WP.thenC (WC.seq (WC.ofFr [(12, _), (11, _), (10, _), (9, _), (8, _), (7, _), (6, _), (5, _), (4, _), (3, _), (2, _), (0, _)] ⟨rfl, rfl, rfl, rfl, rfl, rfl, rfl, rfl, rfl, rfl, rfl, rfl, trivial⟩ (WC.region ?_))))
    refine zym rfl rfl ?_
    refine WL.so (SO.makes (Enters.func Tryz.call39 rfl) (fun w1 hI => rReadBoats_g s hs D5 hL5 w1 hI.imm)) rfl ?_
    rintro _ D6 _ ⟨hX6, ⟨x6, m6, e6, hx6, rfl, hR6⟩, rfl⟩
    have hL6 := hL5.ext hX6
    rw [← readBoats_same] at hx6
    obtain ⟨rfl, rfl⟩ : x6 = x5 ∧ e6 = e5 := by have h9 := hx6.symm.trans hx5; cases h9; exact ⟨rfl, rfl⟩
    refine zym rfl rfl ?_
    refine WL.yd (Yd.extract rfl rfl) rfl ?_
    refine WL.yd (Yd.extract rfl rfl) rfl ?_
    refine WL.so (SO.alloc Tryz.zeroValue32 rfl) rfl ?_
    rintro _ _ _ ⟨b13, hb13, rfl, rfl, rfl⟩
    refine WL.so (SO.store 0 rfl Tryz.sizeOf32 rfl rfl rfl rfl (zqb rfl) (oneB_spec rfl)) rfl ?_
    rintro _ _ _ ⟨rfl, rfl, rfl⟩
    refine zya rfl rfl ?_
    refine WL.nil (WP.thenC (WC.seq (WC.ofFr [(14, _), (13, _), (12, _), (11, _), (10, _), (9, _), (8, _), (7, _), (6, _), (5, _), (4, _), (3, _), (2, _)] ⟨rfl, rfl, rfl, rfl, rfl, rfl, rfl, rfl, rfl, rfl, rfl, rfl, rfl, trivial⟩ (WC.region ?_))))
    refine WL.yd (Yd.loadN Tryz.isAgg25 Tryz.sizeOf25 rfl (vs := [_, _, _, _, _]) rfl (RdN.own (k := 5) (n := 5) rfl rfl)) rfl ?_
    refine WL.yd (Yd.loadN Tryz.isAgg25 Tryz.sizeOf25 rfl (vs := [_, _, _, _, _]) rfl (RdN.own (k := 4) (n := 5) rfl rfl)) rfl ?_
    refine WL.so (SO.callP Tryz.call28 rfl (fun w hI => sameSurf_g x2 x2 m1 m2 (readSurf_N s hx2) (readSurf_N s hx2) D6 hL6 (hR1.ext ((((hX2.trans hX3 (Nat.le_refl _)).trans hX4 (Nat.le_refl _)).trans hX5 (Nat.le_refl _)).trans hX6 (Nat.le_refl _))) (hR2.ext (((hX3.trans hX4 (Nat.le_refl _)).trans hX5 (Nat.le_refl _)).trans hX6 (Nat.le_refl _))) _ hI.imm)) rfl ?_
    rintro _ _ _ ⟨rfl, rfl, rfl⟩
    refine WL.know 51 (.bool true) rfl (congrArg Value.bool (sameSurf_refl _)) ?_
    refine zym rfl rfl ?_
    refine WL.ydg rfl (Yd.move rfl) rfl ?_
    refine WL.ydg rfl (Yd.move rfl) rfl ?_
    refine WL.ydg rfl (Yd.eql rfl rfl) rfl ?_
    refine WL.know 55 (.bool true) rfl (congrArg Value.bool (decide_eq_true rfl)) ?_
    refine WL.yd (Yd.pickT rfl rfl) rfl ?_
    refine zym rfl rfl ?_
    refine WL.ydg rfl (Yd.loadN Tryz.isAgg29 Tryz.sizeOf29 rfl (vs := [_, _, _, _, _]) rfl (RdN.own (k := 3) (n := 5) rfl rfl)) rfl ?_
    refine WL.ydg rfl (Yd.loadN Tryz.isAgg29 Tryz.sizeOf29 rfl (vs := [_, _, _, _, _]) rfl (RdN.own (k := 2) (n := 5) rfl rfl)) rfl ?_
    refine WL.sog rfl (SO.callP Tryz.call29 rfl (fun w hI => sameFlag_g x4 x4 m3 m4 (readFlag_N s hx4) (readFlag_N s hx4) D6 hL6 (hR3.ext ((hX4.trans hX5 (Nat.le_refl _)).trans hX6 (Nat.le_refl _))) (hR4.ext (hX5.trans hX6 (Nat.le_refl _))) _ hI.imm)) rfl ?_
    rintro _ _ _ ⟨rfl, rfl, rfl⟩
    refine WL.know 60 (.bool true) rfl (congrArg Value.bool (decide_eq_true rfl)) ?_
    refine WL.yd (Yd.pickT rfl rfl) rfl ?_
    refine zym rfl rfl ?_
    refine WL.ydg rfl (Yd.move rfl) rfl ?_
    refine WL.ydg rfl (Yd.move rfl) rfl ?_
    refine WL.ydg rfl (Yd.eql rfl rfl) rfl ?_
    refine WL.know 65 (.bool true) rfl (congrArg Value.bool (decide_eq_true rfl)) ?_
    refine WL.yd (Yd.pickT rfl rfl) rfl ?_
    refine zym rfl rfl ?_
    refine WL.ydg rfl (Yd.loadN Tryz.isAgg32 Tryz.sizeOf32 rfl (vs := [_, _, _, _, _]) rfl (RdN.own (k := 1) (n := 5) rfl rfl)) rfl ?_
    refine WL.ydg rfl (Yd.loadN Tryz.isAgg32 Tryz.sizeOf32 rfl (vs := [_, _, _, _, _]) rfl (RdN.own (k := 0) (n := 5) rfl rfl)) rfl ?_
    refine WL.sog rfl (SO.callP Tryz.call30 rfl (fun w hI => sameBoats_g x6 x6 m5 m6 (readBoats_N s hx6) (readBoats_N s hx6) D6 hL6 (hR5.ext hX6) hR6 _ hI.imm)) rfl ?_
    rintro _ _ _ ⟨rfl, rfl, rfl⟩
    refine WL.know 70 (.bool true) rfl (congrArg Value.bool (decide_eq_true rfl)) ?_
    refine WL.yd (Yd.pickT rfl rfl) rfl ?_
    refine zym rfl rfl ?_
    refine WL.ydg rfl (Yd.move rfl) rfl ?_
    refine WL.ydg rfl (Yd.move rfl) rfl ?_
    refine WL.ydg rfl (Yd.eql rfl rfl) rfl ?_
    refine WL.know 75 (.bool true) rfl (congrArg Value.bool (decide_eq_true rfl)) ?_
    refine WL.yd (Yd.pickT rfl rfl) rfl ?_
    refine zym rfl rfl ?_
    refine WL.sog rfl (SO.callP Tryz.call13 rfl (fun w hI => awake_g D6 hL6 _ hI.imm)) rfl ?_
    rintro _ _ _ ⟨rfl, rfl, rfl⟩
    refine WL.yd (Yd.pickT rfl rfl) rfl ?_
    refine zya rfl rfl ?_
    refine WL.nil (WP.thenC (WC.ret ?_))
    refine WP.ret1 rfl rfl Tryz.results8 (RV.tmp rfl) (fun w hI => ⟨rfl, hI.keep⟩)

end Go.Proofs.YtaebnllfmkcpgaaGreatDoor
