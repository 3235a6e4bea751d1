import Derived.Test.YtpnbkdlejfmbeaaGreatYZ6
set_option linter.unusedSimpArgs false
set_option linter.unusedVariables false
set_option linter.all false
set_option maxRecDepth 100000
set_option maxHeartbeats 1000000
namespace Go.Proofs.YtpnbkdlejfmbeaaGreat
open Go.W Go.Ti

theorem miss_g (X : Till) (a1 : Option Addr) (n1 c1 : Nat) (D : Imm) (w : World) (hS : SlL D 5 (X.tk.l.map tickC) a1 n1) (hH : Holds D w) (l : List Ent) (ab : Option Addr) (nb cb : Nat) (hL : SlL D 3 (l.map entC) ab nb) (m v : Nat) (hm : m < 256) (hv : v < 256) (hlo : max n1 nb ≤ 60) (h1 : tillB X = true) (h3l : nb ≤ 20) (h4 : l.all (entB X) = true) (hW : tksE X.tk true = 0) : Gives Tryz.prog 6 [.agg #[it X.tk.huts, .slice a1 n1 c1, it X.price, it X.fine, it X.wait], .slice ab nb cb, .int .u8 m, .int .u8 v] w (.bool true) := by
  unfold Gives
  have hR : TksR D X.tk a1 n1 := ⟨hS, by omega⟩
  have hB : BookR D l ab nb := ⟨hL, by omega⟩
  obtain rfl := hR.tick.len'
  have hl1 := hR.len
  obtain rfl := hB.ent.len'
  have hT0 := tillE_0 (is := true) h1 h3l rfl (all_iff.1 h4)
  have hT1 := toldE_ok h1 h3l h4
  rw [hW] at hT1
  have h5 := (tks_num (tillB_num h1).1).2.1
  have hbA := bits_lt (missB X l 1) X.tk.l.length
  have hbB := bits_lt (missB X l 2) X.tk.l.length
  have hbC := bits_lt (missB X l 3) X.tk.l.length
  have hp5 : (2 : Nat) ^ X.tk.l.length ≤ 2 ^ 5 := Nat.pow_le_pow_right (by omega) h5
  refine enter Tryz.func6 rfl 317 Tryz.ntmps6 (zqb rfl) (Inv.start hH) ?_
  refine WC.seq (WC.ofFr [(0, _), (1, _), (2, _), (3, _)] ⟨rfl, rfl, rfl, rfl, trivial⟩ (WC.region ?_))
  refine WL.so (SO.box rfl rfl) rfl ?_
  rintro _ _ _ ⟨b4, hb4, rfl, rfl, rfl⟩
  refine WL.yd (Yd.assign rfl) rfl ?_
  refine WL.nil (WP.thenC (WC.seq (WC.seq ?_)))
  refine WC.freezeN 0 b4 (.cells (List.toArray (tillC X (.slice a1 X.tk.l.length c1))) 26 (0, 0)) rfl rfl hb4 (fun D4 hX4 h4b => ?_)
  have h4' := h4b
  replace hR := hR.ext hX4
  replace hB := hB.ext hX4
  refine WC.ofFr [(8, _), (4, _), (1, _), (2, _), (3, _)] ⟨rfl, rfl, rfl, rfl, rfl, trivial⟩ (WC.region ?_)
  refine WL.yd (Yd.loadN Tryz.isAgg26 Tryz.sizeOf26 rfl (vs := [_, _, _, _, _]) rfl (by first | exact (RdN.imm (n := 5) h4' rfl) | exact (RdN.imm (n := 2) h4' rfl))) rfl ?_
  refine WL.yd (Yd.move rfl) rfl ?_
  refine WL.so (SO.callP Tryz.call24 rfl (fun w hI => long_g X a1 ab _ c1 _ cb _)) rfl ?_
  rintro _ _ _ ⟨rfl, rfl, rfl⟩
  refine WL.know 43 (.bool false) rfl (congrArg Value.bool (decide_eq_false (by (try dsimp only); omega))) ?_
  refine WL.yd (Yd.move rfl) rfl ?_
  refine WL.ydg rfl (Yd.loadN Tryz.isAgg26 Tryz.sizeOf26 rfl (vs := [_, _, _, _, _]) rfl (by first | exact (RdN.imm (n := 5) h4' rfl) | exact (RdN.imm (n := 2) h4' rfl))) rfl ?_
  refine WL.sog rfl (SO.callP Tryz.call25 rfl (fun w hI => till13_g X a1 _ c1 _ _ hR hI.imm)) rfl ?_
  rintro _ _ _ ⟨rfl, rfl, rfl⟩
  refine WL.know 46 (.bool true) rfl (congrArg Value.bool h1) ?_
  refine WL.ydg rfl (Yd.not rfl) rfl ?_
  refine WL.yd (Yd.pickF rfl rfl) rfl ?_
  refine WL.yd (Yd.move rfl) rfl ?_
  refine WL.ydg rfl (Yd.move rfl) rfl ?_
  refine WL.ydg rfl (Yd.lenS rfl Tryz.underlying38 rfl) rfl ?_
  refine WL.ydg rfl (Yd.gtr rfl rfl) rfl ?_
  refine WL.know 52 (.bool false) rfl (congrArg Value.bool (decide_eq_false (by (try dsimp only); omega))) ?_
  refine WL.yd (Yd.pickF rfl rfl) rfl ?_
  refine WL.yd (Yd.move rfl) rfl ?_
  refine WL.ydg rfl (Yd.loadN Tryz.isAgg26 Tryz.sizeOf26 rfl (vs := [_, _, _, _, _]) rfl (by first | exact (RdN.imm (n := 5) h4' rfl) | exact (RdN.imm (n := 2) h4' rfl))) rfl ?_
  refine WL.ydg rfl (Yd.move rfl) rfl ?_
  refine WL.sog rfl (SO.callP Tryz.call26 rfl (fun w hI => book13_g X a1 _ c1 _ _ hR hI.imm l ab _ cb hB)) rfl ?_
  rintro _ _ _ ⟨rfl, rfl, rfl⟩
  refine WL.know 57 (.bool true) rfl (congrArg Value.bool h4) ?_
  refine WL.ydg rfl (Yd.not rfl) rfl ?_
  refine WL.yd (Yd.pickF rfl rfl) rfl ?_
  refine WL.nil (WP.thenC ?_)
  refine WC.condF rfl ?_
  refine WC.skip (WP.thenC (WC.seq (WC.ofFr [(8, _), (4, _), (1, _), (2, _), (3, _)] ⟨rfl, rfl, rfl, rfl, rfl, trivial⟩ (WC.region ?_))))
  refine WL.so (SO.buildSlice0 Tryz.underlying38 Tryz.sizeOf49) rfl ?_
  rintro _ _ _ ⟨b61, hb61, rfl, rfl, rfl⟩
  refine WL.yd (Yd.move rfl) rfl ?_
  refine WL.so (SO.appendAll entC_len entC_ones (l := l) [] [] rfl rfl Tryz.underlying38 Tryz.sizeOf49 Tryz.typeInfo49 Tryz.zeroValue49 rfl rfl rfl rfl hb61 hB.ent (by show (2 * (_ + _) + 1000) * 24 ≤ 2 ^ 48; omega) (by omega)) rfl ?_
  rintro _ _ _ ⟨k1, hk1, rfl, rfl, rfl⟩
  refine WL.yd (Yd.assign rfl) rfl ?_
  refine WL.nil (WP.thenC (WC.seq ?_))
  refine WC.freezeN 0 k1.b (.cells (List.toArray (l.flatMap entC ++ k1.rest)) 49 (0, 0)) rfl rfl hk1.1 (fun D9 hX9 h9 => ?_)
  have hK : BookR D9 l (some ⟨k1.b, 0, none⟩) l.length := ⟨SlL.ofBlock entC_len h9, by omega⟩
  replace hR := hR.ext hX9
  replace hB := hB.ext hX9
  replace h4' := hX9.old _ _ h4'
  refine WC.ofFr [(9, _), (8, _), (4, _), (1, _), (2, _), (3, _)] ⟨rfl, rfl, rfl, rfl, rfl, rfl, trivial⟩ (WC.region ?_)
  refine WL.yd (Yd.loadN Tryz.isAgg26 Tryz.sizeOf26 rfl (vs := [_, _, _, _, _]) rfl (by first | exact (RdN.imm (n := 5) h4' rfl) | exact (RdN.imm (n := 2) h4' rfl))) rfl ?_
  refine WL.yd (Yd.move rfl) rfl ?_
  refine WL.so (SO.callP Tryz.call20 rfl (fun w hI => Gives.cv (.tuple #[nt (bitsI (missB X l 1) X.tk.l.length), nt (bitsI (missB X l 2) X.tk.l.length), nt (bitsI (missB X l 3) X.tk.l.length), it 0]) (Missing_g X a1 _ c1 _ _ hR hI.imm l ab _ cb hB) (by rw [missO_0 hT1]; first | done | rfl))) rfl ?_
  rintro _ _ _ ⟨rfl, rfl, rfl⟩
  refine WL.yd (Yd.move rfl) rfl ?_
  refine WL.yd (Yd.extract rfl rfl) rfl ?_
  refine WL.yd (Yd.extract rfl rfl) rfl ?_
  refine WL.yd (Yd.extract rfl rfl) rfl ?_
  refine WL.yd (Yd.extract rfl rfl) rfl ?_
  refine WL.yd (Yd.assign rfl) rfl ?_
  refine WL.yd (Yd.assign rfl) rfl ?_
  refine WL.yd (Yd.assign rfl) rfl ?_
  refine WL.yd (Yd.assign rfl) rfl ?_
  refine WL.nil (WP.thenC (WC.seq (WC.seq (WC.ofFr [(13, _), (12, _), (11, _), (10, _), (9, _), (8, _), (4, _), (1, _), (2, _), (3, _)] ⟨rfl, rfl, rfl, rfl, rfl, rfl, rfl, rfl, rfl, rfl, trivial⟩ (WC.region ?_)))))
  refine WL.yd (Yd.move rfl) rfl ?_
  refine WL.yd (Yd.neq rfl rfl) rfl ?_
  refine WL.know 73 (.bool false) rfl (congrArg Value.bool (by decide)) ?_
  refine WL.nil (WP.thenC ?_)
  refine WC.condF rfl ?_
  refine WC.skip (WP.thenC (WC.seq (WC.ofFr [(12, _), (11, _), (10, _), (9, _), (8, _), (4, _), (1, _), (2, _), (3, _)] ⟨rfl, rfl, rfl, rfl, rfl, rfl, rfl, rfl, rfl, trivial⟩ (WC.region ?_))))
  refine WL.yd (Yd.fieldAddr FA26_0 rfl) rfl ?_
  refine WL.yd (Yd.fieldAddr FA24_1 rfl) rfl ?_
  refine WL.yd (Yd.load1 Tryz.isAgg22 rfl (Rd.imm h4' rfl)) rfl ?_
  refine WL.yd (Yd.lenS rfl Tryz.underlying22 rfl) rfl ?_
  refine WL.yd (Yd.assign rfl) rfl ?_
  refine WL.nil (WP.thenC (WC.seq (WC.seq (WC.ofFr [(16, _), (12, _), (11, _), (10, _), (9, _), (8, _), (4, _), (1, _), (2, _), (3, _)] ⟨rfl, rfl, rfl, rfl, rfl, rfl, rfl, rfl, rfl, rfl, trivial⟩ (WC.region ?_)))))
  refine WL.yd (Yd.move rfl) rfl ?_
  refine WL.yd (Yd.lss rfl rfl) rfl ?_
  refine WL.know 107 (.bool false) rfl (congrArg Value.bool (decide_eq_false (by (try dsimp only); omega))) ?_
  refine WL.yd (Yd.move rfl) rfl ?_
  refine WL.ydg rfl (Yd.move rfl) rfl ?_
  refine WL.ydg rfl (Yd.lss rfl rfl) rfl ?_
  refine WL.know 110 (.bool false) rfl (congrArg Value.bool (decide_eq_false (by (try dsimp only); omega))) ?_
  refine WL.yd (Yd.pickF rfl rfl) rfl ?_
  refine WL.yd (Yd.move rfl) rfl ?_
  refine WL.ydg rfl (Yd.move rfl) rfl ?_
  refine WL.ydg rfl (Yd.lss rfl rfl) rfl ?_
  refine WL.know 114 (.bool false) rfl (congrArg Value.bool (decide_eq_false (by (try dsimp only); omega))) ?_
  refine WL.yd (Yd.pickF rfl rfl) rfl ?_
  refine WL.yd (Yd.move rfl) rfl ?_
  refine WL.ydg rfl (Yd.move rfl) rfl ?_
  refine WL.ydg rfl (Yd.move rfl) rfl ?_
  refine WL.ydg rfl (Yd.move rfl) rfl ?_
  refine WL.ydg rfl (Yd.max3 rfl rfl rfl) rfl ?_
  refine WL.know 120 (nt (max (max (bitsI (missB X l 1) X.tk.l.length) (bitsI (missB X l 2) X.tk.l.length)) (bitsI (missB X l 3) X.tk.l.length))) rfl (congrArg it (by omega)) ?_
  refine WL.ydg rfl (Yd.move rfl) rfl ?_
  refine WL.ydg rfl (Yd.shrN rfl rfl (by omega)) rfl ?_
  refine WL.ydg rfl (Yd.neq rfl rfl) rfl ?_
  refine WL.know 123 (.bool false) rfl (congrArg Value.bool (decide_eq_false (by (try dsimp only); rw [max_bits hbA hbB hbC]; decide))) ?_
  refine WL.yd (Yd.pickF rfl rfl) rfl ?_
  refine WL.nil (WP.thenC ?_)
  refine WC.condF rfl ?_
  refine WC.skip (WP.thenC (WC.seq (WC.ofFr [(16, _), (12, _), (11, _), (10, _), (9, _), (8, _), (4, _), (1, _), (2, _), (3, _)] ⟨rfl, rfl, rfl, rfl, rfl, rfl, rfl, rfl, rfl, rfl, trivial⟩ (WC.region ?_))))
  refine WL.so (SO.buildSlice0 Tryz.underlying38 Tryz.sizeOf49) rfl ?_
  rintro _ _ _ ⟨b125, hb125, rfl, rfl, rfl⟩
  refine WL.yd (Yd.move rfl) rfl ?_
  refine WL.so (SO.appendAll entC_len entC_ones (l := l) [] [] rfl rfl Tryz.underlying38 Tryz.sizeOf49 Tryz.typeInfo49 Tryz.zeroValue49 rfl rfl rfl rfl hb125 hB.ent (by show (2 * (_ + _) + 1000) * 24 ≤ 2 ^ 48; omega) (by omega)) rfl ?_
  rintro _ _ _ ⟨f0, hf0, rfl, rfl, rfl⟩
  refine WL.yd (Yd.assign rfl) rfl ?_
  refine WL.nil (WP.thenC (WC.seq (WC.seq (WC.ofFr [(17, _), (16, _), (12, _), (11, _), (10, _), (9, _), (8, _), (4, _), (1, _), (2, _), (3, _)] ⟨rfl, rfl, rfl, rfl, rfl, rfl, rfl, rfl, rfl, rfl, rfl, trivial⟩ (WC.region ?_)))))
  refine WL.yd (Yd.move rfl) rfl ?_
  refine WL.yd (Yd.move rfl) rfl ?_
  refine WL.nil (WP.thenC (WC.block ?_))
  refine WC.loopT [] (fun y : Nat × Ow => [(1, .slice ab l.length cb), (2, .int .u8 m), (3, .int .u8 v), (4, pt b4), (9, .slice (some ⟨k1.b, 0, none⟩) l.length k1.cap), (10, nt (bitsI (missB X l 1) X.tk.l.length)), (11, nt (bitsI (missB X l 2) X.tk.l.length)), (12, nt (bitsI (missB X l 3) X.tk.l.length)), (16, nt X.tk.l.length), (17, owV (some y.2) (fullL X l y.1).length), (128, nt X.tk.l.length), (129, nt y.1)]) (fun y => owH (some y.2) 49 ((fullL X l y.1).flatMap entC) []) (fun y => y.1 ≤ X.tk.l.length ∧ owP w (some y.2) (fullL X l y.1).length 3) (fun y => X.tk.l.length - y.1) (0, f0) ⟨by omega, hf0⟩ rfl ⟨rfl, rfl, rfl, rfl, rfl, rfl, rfl, rfl, rfl, rfl, rfl, rfl, trivial⟩ ?_
  rintro ⟨i, u⟩ ⟨hi, hu⟩
  dsimp only at hi hu
  refine WC.seq (WC.ofFr [(1, _), (2, _), (3, _), (4, _), (9, _), (10, _), (11, _), (12, _), (16, _), (17, _), (128, _), (129, _)] ⟨rfl, rfl, rfl, rfl, rfl, rfl, rfl, rfl, rfl, rfl, rfl, rfl, trivial⟩ (WC.region ?_))
  refine WL.yd (Yd.lss rfl rfl) rfl ?_
  refine WL.nil (WP.thenC (WC.seq ?_))
  refine WC.cond rfl (fun c130 => ?_) (fun c130 => ?_)
  · try simp only [zq1, zq2, zq3, zq4, zq5, zq6, zq7, zq8] at c130
    have hin : i < X.tk.l.length := by omega
    have his : isT X.tk (i : Int) = true := decide_eq_true (by omega)
    have hsp : spanE X (i : Int) = 0 := ((spanE_is h1).2 his).trans hW
    have hFi := full_law h1 h4 i (by omega)
    refine WC.skip (WP.thenC (WC.seq (WC.block (WC.seq (WC.ofFr [(1, _), (2, _), (3, _), (4, _), (9, _), (10, _), (11, _), (12, _), (16, _), (17, _), (128, _), (129, _)] ⟨rfl, rfl, rfl, rfl, rfl, rfl, rfl, rfl, rfl, rfl, rfl, rfl, trivial⟩ (WC.region ?_))))))
    refine WL.yd (Yd.move rfl) rfl ?_
    refine WL.yd (Yd.assign rfl) rfl ?_
    refine WL.nil (WP.thenC (WC.seq (WC.ofFr [(18, _), (1, _), (2, _), (3, _), (4, _), (9, _), (10, _), (11, _), (12, _), (16, _), (17, _), (128, _), (129, _)] ⟨rfl, rfl, rfl, rfl, rfl, rfl, rfl, rfl, rfl, rfl, rfl, rfl, rfl, trivial⟩ (WC.region ?_))))
    refine WL.yd (Yd.loadN Tryz.isAgg26 Tryz.sizeOf26 rfl (vs := [_, _, _, _, _]) rfl (by first | exact (RdN.imm (n := 5) h4' rfl) | exact (RdN.imm (n := 2) h4' rfl))) rfl ?_
    refine WL.yd (Yd.move rfl) rfl ?_
    refine WL.so (SO.callP Tryz.call12 rfl (fun w hI => Gives.cv (.tuple #[spV (fineSp X (i : Int)), it 0]) (Fine_g X a1 _ c1 _ _ hR hI.imm (i : Int)) (by rw [fineE.2 hsp]; first | done | rfl))) rfl ?_
    rintro _ _ _ ⟨rfl, rfl, rfl⟩
    refine WL.yd (Yd.move rfl) rfl ?_
    refine WL.yd (Yd.extract rfl rfl) rfl ?_
    refine WL.yd (Yd.extract rfl rfl) rfl ?_
    refine WL.so (SO.alloc Tryz.zeroValue33 rfl) rfl ?_
    rintro _ _ _ ⟨b19, hb19, rfl, rfl, rfl⟩
    refine WL.so (SO.store 0 rfl Tryz.sizeOf33 rfl rfl rfl rfl (zqb rfl) (oneB_spec rfl)) rfl ?_
    rintro _ _ _ ⟨rfl, rfl, rfl⟩
    refine WL.yd (Yd.assign rfl) rfl ?_
    refine WL.nil (WP.thenC (WC.seq (WC.ofFr [(20, _), (19, _), (18, _), (1, _), (2, _), (3, _), (4, _), (9, _), (10, _), (11, _), (12, _), (16, _), (17, _), (128, _), (129, _)] ⟨rfl, rfl, rfl, rfl, rfl, rfl, rfl, rfl, rfl, rfl, rfl, rfl, rfl, rfl, rfl, trivial⟩ (WC.region ?_))))
    refine WL.yd (Yd.loadN Tryz.isAgg26 Tryz.sizeOf26 rfl (vs := [_, _, _, _, _]) rfl (by first | exact (RdN.imm (n := 5) h4' rfl) | exact (RdN.imm (n := 2) h4' rfl))) rfl ?_
    refine WL.yd (Yd.move rfl) rfl ?_
    refine WL.so (SO.callP Tryz.call16 rfl (fun w hI => Gives.cv (.tuple #[spV (backSp X (i : Int)), it 0]) (Back_g X a1 _ c1 _ _ hR hI.imm (i : Int)) (by rw [backE.2 hsp]; first | done | rfl))) rfl ?_
    rintro _ _ _ ⟨rfl, rfl, rfl⟩
    refine WL.yd (Yd.move rfl) rfl ?_
    refine WL.yd (Yd.extract rfl rfl) rfl ?_
    refine WL.yd (Yd.extract rfl rfl) rfl ?_
    refine WL.so (SO.alloc Tryz.zeroValue33 rfl) rfl ?_
    rintro _ _ _ ⟨b21, hb21, rfl, rfl, rfl⟩
    refine WL.so (SO.store 0 rfl Tryz.sizeOf33 rfl rfl rfl rfl (zqb rfl) (oneB_spec rfl)) rfl ?_
    rintro _ _ _ ⟨rfl, rfl, rfl⟩
    refine WL.yd (Yd.assign rfl) rfl ?_
    refine WL.nil (WP.thenC (WC.seq (WC.seq (WC.ofFr [(22, _), (21, _), (20, _), (19, _), (18, _), (1, _), (2, _), (3, _), (4, _), (9, _), (10, _), (11, _), (12, _), (16, _), (17, _), (128, _), (129, _)] ⟨rfl, rfl, rfl, rfl, rfl, rfl, rfl, rfl, rfl, rfl, rfl, rfl, rfl, rfl, rfl, rfl, rfl, trivial⟩ (WC.region ?_)))))
    refine WL.yd (Yd.move rfl) rfl ?_
    refine WL.yd (Yd.neq rfl rfl) rfl ?_
    refine WL.know 145 (.bool false) rfl (congrArg Value.bool (by decide)) ?_
    refine WL.yd (Yd.move rfl) rfl ?_
    refine WL.ydg rfl (Yd.move rfl) rfl ?_
    refine WL.ydg rfl (Yd.neq rfl rfl) rfl ?_
    refine WL.know 148 (.bool false) rfl (congrArg Value.bool (by decide)) ?_
    refine WL.yd (Yd.pickF rfl rfl) rfl ?_
    refine WL.nil (WP.thenC ?_)
    refine WC.condF rfl ?_
    refine WC.skip (WP.thenC (WC.seq (WC.ofFr [(21, _), (19, _), (18, _), (1, _), (2, _), (3, _), (4, _), (9, _), (10, _), (11, _), (12, _), (16, _), (17, _), (128, _), (129, _)] ⟨rfl, rfl, rfl, rfl, rfl, rfl, rfl, rfl, rfl, rfl, rfl, rfl, rfl, rfl, rfl, trivial⟩ (WC.region ?_))))
    refine WL.yd (Yd.fieldAddr FA33_0 rfl) rfl ?_
    refine WL.yd (Yd.load1 Tryz.isAgg3 rfl (Rd.own (k := 1) rfl rfl)) rfl ?_
    refine WL.yd (Yd.gtr rfl rfl) rfl ?_
    refine WL.yd (Yd.fieldAddr FA33_0 rfl) rfl ?_
    refine WL.yd (Yd.load1 Tryz.isAgg3 rfl (Rd.own (k := 0) rfl rfl)) rfl ?_
    refine WL.yd (Yd.gtr rfl rfl) rfl ?_
    refine WL.yd (Yd.buildA (zs := [.bool false, .bool false, .bool false, .bool false]) ⟨_, Tryz.zeroValue51, rfl⟩ Tryz.underlying51 Tryz.sizeOf4 rfl (cs := [_, _, _, _]) rfl) rfl ?_
    refine WL.so (SO.alloc Tryz.zeroValue51 rfl) rfl ?_
    rintro _ _ _ ⟨b23, hb23, rfl, rfl, rfl⟩
    refine WL.so (SO.store 0 rfl Tryz.sizeOf51 rfl rfl rfl rfl (zqb rfl) (oneB_spec rfl)) rfl ?_
    rintro _ _ _ ⟨rfl, rfl, rfl⟩
    refine WL.nil (WP.thenC (WC.seq (WC.ofFr [(23, _), (21, _), (19, _), (18, _), (1, _), (2, _), (3, _), (4, _), (9, _), (10, _), (11, _), (12, _), (16, _), (17, _), (128, _), (129, _)] ⟨rfl, rfl, rfl, rfl, rfl, rfl, rfl, rfl, rfl, rfl, rfl, rfl, rfl, rfl, rfl, rfl, trivial⟩ (WC.region ?_))))
    refine WL.yd (Yd.move rfl) rfl ?_
    refine WL.yd (Yd.move rfl) rfl ?_
    refine WL.yd (Yd.move rfl) rfl ?_
    refine WL.so (SO.buildSlice Tryz.underlying52 Tryz.sizeOf3 Tryz.zeroValue3 rfl rfl rfl rfl (cs := [_, _, _]) rfl) rfl ?_
    rintro _ _ _ ⟨b160, hb160, rfl, rfl, rfl⟩
    refine WL.yd (Yd.lenS rfl Tryz.underlying52 rfl) rfl ?_
    refine WL.yd (Yd.move rfl) rfl ?_
    refine WL.nil (WP.thenC (WC.block ?_))
    refine WC.loopT [_, _, _, _] (fun y : Nat × Ow => [(1, .slice ab l.length cb), (2, .int .u8 m), (3, .int .u8 v), (4, pt b4), (9, .slice (some ⟨k1.b, 0, none⟩) l.length k1.cap), (10, nt (bitsI (missB X l 1) X.tk.l.length)), (11, nt (bitsI (missB X l 2) X.tk.l.length)), (12, nt (bitsI (missB X l 3) X.tk.l.length)), (16, nt X.tk.l.length), (17, owV (some y.2) (fullK X l i (fullL X l i) y.1).length), (18, nt i), (19, pt b19), (21, pt b21), (23, pt b23), (128, nt X.tk.l.length), (129, nt i), (160, .slice (some ⟨b160, 0, none⟩) 3 3), (161, nt 3), (162, nt y.1)]) (fun y => owH (some y.2) 49 ((fullK X l i (fullL X l i) y.1).flatMap entC) []) (fun y => y.1 ≤ 3 ∧ owP w (some y.2) (fullK X l i (fullL X l i) y.1).length 3) (fun y => 3 - y.1) (0, u) ⟨by omega, hu⟩ rfl ⟨rfl, rfl, rfl, rfl, rfl, rfl, rfl, rfl, rfl, rfl, rfl, rfl, rfl, rfl, rfl, rfl, rfl, rfl, rfl, trivial⟩ ?_
    rintro ⟨j, u⟩ ⟨hj, hu⟩
    dsimp only at hj hu
    refine WC.seq (WC.ofFr [(1, _), (2, _), (3, _), (4, _), (9, _), (10, _), (11, _), (12, _), (16, _), (17, _), (18, _), (19, _), (21, _), (23, _), (128, _), (129, _), (160, _), (161, _), (162, _)] ⟨rfl, rfl, rfl, rfl, rfl, rfl, rfl, rfl, rfl, rfl, rfl, rfl, rfl, rfl, rfl, rfl, rfl, rfl, rfl, trivial⟩ (WC.region ?_))
    refine WL.yd (Yd.lss rfl rfl) rfl ?_
    refine WL.nil (WP.thenC (WC.seq ?_))
    refine WC.cond rfl (fun c163 => ?_) (fun c163 => ?_)
    · try simp only [zq1, zq2, zq3, zq4, zq5, zq6, zq7, zq8] at c163
      have hj3 : j < 3 := by omega
      have hFk := full_k h1 hin hFi j (by omega)
      have hFl := hFk.len
      refine WC.skip (WP.thenC (WC.seq (WC.block (WC.seq (WC.ofFr [(1, _), (2, _), (3, _), (4, _), (9, _), (10, _), (11, _), (12, _), (16, _), (17, _), (18, _), (19, _), (21, _), (23, _), (128, _), (129, _), (160, _), (161, _), (162, _)] ⟨rfl, rfl, rfl, rfl, rfl, rfl, rfl, rfl, rfl, rfl, rfl, rfl, rfl, rfl, rfl, rfl, rfl, rfl, rfl, trivial⟩ (WC.region ?_))))))
      refine WL.yd (Yd.move rfl) rfl ?_
      refine WL.yd (Yd.indexS Tryz.underlying52 Tryz.sizeOf3 rfl rfl (by (try dsimp only); omega) (by (try dsimp only); omega) (by first | exact rfl)) rfl ?_
      refine WL.yd (Yd.load1 Tryz.isAgg3 rfl (Rd.own (k := 0) rfl (set_at X l _ j hj3))) rfl ?_
      refine WL.yd (Yd.assign rfl) rfl ?_
      refine WL.yd (Yd.assign rfl) rfl ?_
      refine WL.nil (WP.thenC (WC.seq (WC.seq (WC.ofFr [(25, _), (24, _), (1, _), (2, _), (3, _), (4, _), (9, _), (10, _), (11, _), (12, _), (16, _), (17, _), (18, _), (19, _), (21, _), (23, _), (128, _), (129, _), (160, _), (161, _), (162, _)] ⟨rfl, rfl, rfl, rfl, rfl, rfl, rfl, rfl, rfl, rfl, rfl, rfl, rfl, rfl, rfl, rfl, rfl, rfl, rfl, rfl, rfl, trivial⟩ ?_))))
      refine WC.tail 17 [0, 1, 2, 3, 4, 5, 6, 7, 8, 9, 10, 11, 12, 13, 14, 15, 16] rfl (by kernel_rfl) (by kernel_rfl)  ?_
      refine WQ.q rfl (Yd.qt (Yd.move rfl)) rfl ?_
      refine WQ.q rfl (Yd.qt (Yd.move rfl)) rfl ?_
      refine WQ.q rfl (Yd.qt (Yd.shrN rfl rfl (by omega))) rfl ?_
      refine WQ.q rfl (Yd.qt (Yd.and1N rfl rfl)) rfl ?_
      refine WQ.q rfl (Yd.qt (Yd.eql rfl rfl)) rfl ?_
      refine WQ.q rfl (Yd.qt (Yd.move rfl)) rfl ?_
      refine WQ.q rfl (Yd.qt (Yd.addN (i := j) (j := 1) rfl rfl (by omega))) rfl ?_
      refine WQ.q rfl (Yd.qt (Yd.indexA Tryz.underlying51 Tryz.sizeOf4 rfl rfl (by (try dsimp only); omega) (by (try dsimp only); omega))) rfl ?_
      refine WQ.q rfl (Yd.qt (Yd.load1 Tryz.isAgg4 rfl (Rd.own (k := 1) rfl (due_at X i j hj3)))) rfl ?_
      refine WQ.q rfl (Yd.qt (Yd.move rfl)) rfl ?_
      refine WQ.part 176 rfl (fun g176 => ?_) (fun g176 => ?_)
      · try simp only [zq1, zq2, zq3, zq4, zq5, zq6, zq7, zq8] at g176
        have hdq : dueB X i (j + 1) = true := g176
        refine WQ.qg rfl rfl (Yd.qt (Yd.move rfl)) rfl ?_
        refine WQ.qg rfl rfl (Yd.qt (Yd.move rfl)) rfl ?_
        refine WQ.qg rfl rfl (Yd.qt (Yd.move rfl)) rfl ?_
        refine WQ.qg rfl rfl (Yd.qt (Yd.addN (i := j) (j := 1) rfl rfl (by omega))) rfl ?_
        refine WQ.qg rfl rfl (Qt.callP Tryz.call28 rfl (fun w hI => booked_g _ l ab _ cb hB (i : Int) ((j + 1 : Nat) : Int) _ hI.imm)) rfl ?_
        refine WQ.qg rfl rfl (Yd.qt (Yd.not rfl)) rfl ?_
        refine WQ.q rfl (Yd.qt (Yd.pickT rfl rfl)) rfl ?_
        refine WQ.tail ?_
        refine WL.yd (Yd.neB Tryz.underlying4 rfl rfl) rfl ?_
        refine WL.know 184 (.bool false) rfl (congrArg Value.bool (by first | exact due_1 hin hdq | exact due_0 hin hdq)) ?_
        refine WL.nil (WP.thenC ?_)
        refine WC.condF rfl ?_
        refine WC.skip (WP.thenC (WC.seq (WC.ofFr [(25, _), (24, _), (1, _), (2, _), (3, _), (4, _), (9, _), (10, _), (11, _), (12, _), (16, _), (17, _), (18, _), (19, _), (21, _), (23, _), (128, _), (129, _), (160, _), (161, _), (162, _)] ⟨rfl, rfl, rfl, rfl, rfl, rfl, rfl, rfl, rfl, rfl, rfl, rfl, rfl, rfl, rfl, rfl, rfl, rfl, rfl, rfl, rfl, trivial⟩ (WC.region ?_))))
        refine WL.yd (Yd.move rfl) rfl ?_
        refine WL.yd (Yd.move rfl) rfl ?_
        refine WL.yd (Yd.shrN rfl rfl (by omega)) rfl ?_
        refine WL.yd (Yd.and1N rfl rfl) rfl ?_
        refine WL.yd (Yd.eql rfl rfl) rfl ?_
        refine WL.nil (WP.thenC ?_)
        refine WC.cond rfl (fun c189 => ?_) (fun c189 => ?_)
        · try simp only [zq1, zq2, zq3, zq4, zq5, zq6, zq7, zq8] at c189
          have hmt : missB X l (j + 1) i = true := (bit_is hin).1 c189
          have hFq : (fullK X l i (fullL X l i) (j + 1)) = (fullK X l i (fullL X l i) j) ++ [dueE X i (j + 1)] := by show (fullK X l i (fullL X l i) j) ++ addT X l i (j + 1) = _; unfold addT; rw [if_pos hmt]
          have hFn : (fullK X l i (fullL X l i) (j + 1)).length = (fullK X l i (fullL X l i) j).length + 1 := by rw [hFq, List.length_append]; rfl
          refine WC.ofFr [(24, _), (1, _), (2, _), (3, _), (4, _), (9, _), (10, _), (11, _), (12, _), (16, _), (17, _), (18, _), (19, _), (21, _), (23, _), (128, _), (129, _), (160, _), (161, _), (162, _)] ⟨rfl, rfl, rfl, rfl, rfl, rfl, rfl, rfl, rfl, rfl, rfl, rfl, rfl, rfl, rfl, rfl, rfl, rfl, rfl, rfl, trivial⟩ (WC.region ?_)
          refine WL.yd (Yd.move rfl) rfl ?_
          refine WL.yd (Yd.move rfl) rfl ?_
          refine WL.yd (Yd.move rfl) rfl ?_
          refine WL.yd (Yd.addN (i := j) (j := 1) rfl rfl (by omega)) rfl ?_
          refine WL.yd (Yd.fieldAddr FA26_1 rfl) rfl ?_
          refine WL.yd (Yd.load1 Tryz.isAgg3 rfl (by first | exact (Rd.own (k := 0) rfl (val_at X i j hj3)) | exact (Rd.imm h4' rfl))) rfl ?_
          refine WL.yd (Yd.fieldAddr FA33_0 rfl) rfl ?_
          refine WL.yd (Yd.load1 Tryz.isAgg3 rfl (Rd.own (k := 3) rfl rfl)) rfl ?_
          refine WL.yd (Yd.fieldAddr FA33_0 rfl) rfl ?_
          refine WL.yd (Yd.load1 Tryz.isAgg3 rfl (Rd.own (k := 2) rfl rfl)) rfl ?_
          refine WL.so (SO.buildSlice Tryz.underlying52 Tryz.sizeOf3 Tryz.zeroValue3 rfl rfl rfl rfl (cs := [_, _, _]) rfl) rfl ?_
          rintro _ _ _ ⟨b200, hb200, rfl, rfl, rfl⟩
          refine WL.yd (Yd.move rfl) rfl ?_
          refine WL.yd (Yd.indexS Tryz.underlying52 Tryz.sizeOf3 rfl rfl (by (try dsimp only); omega) (by (try dsimp only); omega) (by first | exact rfl)) rfl ?_
          refine WL.yd (Yd.load1 Tryz.isAgg3 rfl (by first | exact (Rd.own (k := 0) rfl (val_at X i j hj3)) | exact (Rd.imm h4' rfl))) rfl ?_
          refine WL.so (SO.callP Tryz.call29 rfl (fun w hI => lent_g _ _ _ _)) rfl ?_
          rintro _ _ _ ⟨rfl, rfl, rfl⟩
          refine WL.so (SO.buildSlice Tryz.underlying38 Tryz.sizeOf49 Tryz.zeroValue49 rfl rfl rfl rfl (cs := [_, _, _]) rfl) rfl ?_
          rintro _ _ _ ⟨b205, hb205, rfl, rfl, rfl⟩
          refine WL.so (SO.appendOw (o := (some u)) (len := (fullK X l i (fullL X l i) j).length) (n := 1) (xs := ((fullK X l i (fullL X l i) j).flatMap entC)) (size := 3) [_] [_, _, _, _, _] [] rfl rfl Tryz.underlying38 Tryz.sizeOf49 Tryz.typeInfo49 Tryz.zeroValue49 rfl rfl rfl rfl ⟨rfl, .inr ⟨_, _, _, rfl, RdN.own (k := 0) (n := 3) rfl rfl⟩⟩ (oneB_spec rfl) hu (flat_len entC_len _) (by omega) (by show (2 * (_ + _) + 1000) * 24 ≤ 2 ^ 48; omega) (by omega)) rfl ?_
          rintro _ _ _ ⟨u1, hu1, rfl, rfl, rfl⟩
          refine WL.yd (Yd.assign rfl) rfl ?_
          refine WL.nil (WP.blkNormal (WP.thenC (WC.ofFr [(17, _), (1, _), (2, _), (3, _), (4, _), (9, _), (10, _), (11, _), (12, _), (16, _), (18, _), (19, _), (21, _), (23, _), (128, _), (129, _), (160, _), (161, _), (162, _)] ⟨rfl, rfl, rfl, rfl, rfl, rfl, rfl, rfl, rfl, rfl, rfl, rfl, rfl, rfl, rfl, rfl, rfl, rfl, rfl, trivial⟩ (WC.region ?_))))
          refine WL.yd (Yd.addN (i := j) (j := 1) rfl rfl (by omega)) rfl ?_
          refine WL.yd (Yd.move rfl) rfl ?_
          refine WL.nil ?_
          first
            | exact WP.againT (⟨j + 1, u1⟩ : Nat × Ow) ⟨by simp only; omega, by show owP w (some u1) (fullK X l i (fullL X l i) (j + 1)).length 3; rw [hFn]; exact hu1⟩ (by simp only; omega) [_] _ rfl (by show _ = _ ++ owH (some u1) _ ((fullK X l i (fullL X l i) (j + 1)).flatMap entC) []; rw [hFq, List.flatMap_append]; rfl) ⟨rfl, rfl, rfl, rfl, rfl, rfl, rfl, rfl, rfl, congrArg (fun q => some (owV (some u1) q)) hFn.symm, rfl, rfl, rfl, rfl, rfl, rfl, rfl, rfl, rfl, trivial⟩
            | exact WP.againT (⟨j + 1, u⟩ : Nat × Ow) ⟨by simp only; omega, by show owP w (some u) (fullK X l i (fullL X l i) (j + 1)).length 3; rw [hFq]; exact hu⟩ (by simp only; omega) [] _ rfl (by show _ = _ ++ owH (some u) _ ((fullK X l i (fullL X l i) (j + 1)).flatMap entC) []; rw [hFq]; rfl) ⟨rfl, rfl, rfl, rfl, rfl, rfl, rfl, rfl, rfl, congrArg (fun q => some (owV (some u) (List.length q))) hFq.symm, rfl, rfl, rfl, rfl, rfl, rfl, rfl, rfl, rfl, trivial⟩
        · try simp only [zq1, zq2, zq3, zq4, zq5, zq6, zq7, zq8] at c189
          have hFq : (fullK X l i (fullL X l i) (j + 1)) = (fullK X l i (fullL X l i) j) := by show (fullK X l i (fullL X l i) j) ++ addT X l i (j + 1) = _; unfold addT; rw [if_neg (fun e => c189 ((bit_is hin).2 e)), List.append_nil]
          refine WC.skip (WP.blkNormal (WP.thenC (WC.ofFr [(1, _), (2, _), (3, _), (4, _), (9, _), (10, _), (11, _), (12, _), (16, _), (17, _), (18, _), (19, _), (21, _), (23, _), (128, _), (129, _), (160, _), (161, _), (162, _)] ⟨rfl, rfl, rfl, rfl, rfl, rfl, rfl, rfl, rfl, rfl, rfl, rfl, rfl, rfl, rfl, rfl, rfl, rfl, rfl, trivial⟩ (WC.region ?_))))
          refine WL.yd (Yd.addN (i := j) (j := 1) rfl rfl (by omega)) rfl ?_
          refine WL.yd (Yd.move rfl) rfl ?_
          refine WL.nil ?_
          first
            | exact WP.againT (⟨j + 1, u1⟩ : Nat × Ow) ⟨by simp only; omega, by show owP w (some u1) (fullK X l i (fullL X l i) (j + 1)).length 3; rw [hFn]; exact hu1⟩ (by simp only; omega) [_] _ rfl (by show _ = _ ++ owH (some u1) _ ((fullK X l i (fullL X l i) (j + 1)).flatMap entC) []; rw [hFq, List.flatMap_append]; rfl) ⟨rfl, rfl, rfl, rfl, rfl, rfl, rfl, rfl, rfl, congrArg (fun q => some (owV (some u1) q)) hFn.symm, rfl, rfl, rfl, rfl, rfl, rfl, rfl, rfl, rfl, trivial⟩
            | exact WP.againT (⟨j + 1, u⟩ : Nat × Ow) ⟨by simp only; omega, by show owP w (some u) (fullK X l i (fullL X l i) (j + 1)).length 3; rw [hFq]; exact hu⟩ (by simp only; omega) [] _ rfl (by show _ = _ ++ owH (some u) _ ((fullK X l i (fullL X l i) (j + 1)).flatMap entC) []; rw [hFq]; rfl) ⟨rfl, rfl, rfl, rfl, rfl, rfl, rfl, rfl, rfl, congrArg (fun q => some (owV (some u) (List.length q))) hFq.symm, rfl, rfl, rfl, rfl, rfl, rfl, rfl, rfl, rfl, trivial⟩
      · try simp only [zq1, zq2, zq3, zq4, zq5, zq6, zq7, zq8] at g176
        have hdq : dueB X i (j + 1) = false := g176
        refine WQ.skip rfl rfl rfl ?_
        refine WQ.skip rfl rfl rfl ?_
        refine WQ.skip rfl rfl rfl ?_
        refine WQ.skip rfl rfl rfl ?_
        refine WQ.skip rfl rfl rfl ?_
        refine WQ.skip rfl rfl rfl ?_
        refine WQ.q rfl (Yd.qt (Yd.pickF rfl rfl)) rfl ?_
        refine WQ.tail ?_
        refine WL.yd (Yd.neB Tryz.underlying4 rfl rfl) rfl ?_
        refine WL.know 184 (.bool false) rfl (congrArg Value.bool (by first | exact due_1 hin hdq | exact due_0 hin hdq)) ?_
        refine WL.nil (WP.thenC ?_)
        refine WC.condF rfl ?_
        refine WC.skip (WP.thenC (WC.seq (WC.ofFr [(25, _), (24, _), (1, _), (2, _), (3, _), (4, _), (9, _), (10, _), (11, _), (12, _), (16, _), (17, _), (18, _), (19, _), (21, _), (23, _), (128, _), (129, _), (160, _), (161, _), (162, _)] ⟨rfl, rfl, rfl, rfl, rfl, rfl, rfl, rfl, rfl, rfl, rfl, rfl, rfl, rfl, rfl, rfl, rfl, rfl, rfl, rfl, rfl, trivial⟩ (WC.region ?_))))
        refine WL.yd (Yd.move rfl) rfl ?_
        refine WL.yd (Yd.move rfl) rfl ?_
        refine WL.yd (Yd.shrN rfl rfl (by omega)) rfl ?_
        refine WL.yd (Yd.and1N rfl rfl) rfl ?_
        refine WL.yd (Yd.eql rfl rfl) rfl ?_
        refine WL.nil (WP.thenC ?_)
        refine WC.cond rfl (fun c189 => ?_) (fun c189 => ?_)
        · try simp only [zq1, zq2, zq3, zq4, zq5, zq6, zq7, zq8] at c189
          have hmt : missB X l (j + 1) i = true := (bit_is hin).1 c189
          have hFq : (fullK X l i (fullL X l i) (j + 1)) = (fullK X l i (fullL X l i) j) ++ [dueE X i (j + 1)] := by show (fullK X l i (fullL X l i) j) ++ addT X l i (j + 1) = _; unfold addT; rw [if_pos hmt]
          have hFn : (fullK X l i (fullL X l i) (j + 1)).length = (fullK X l i (fullL X l i) j).length + 1 := by rw [hFq, List.length_append]; rfl
          refine WC.ofFr [(24, _), (1, _), (2, _), (3, _), (4, _), (9, _), (10, _), (11, _), (12, _), (16, _), (17, _), (18, _), (19, _), (21, _), (23, _), (128, _), (129, _), (160, _), (161, _), (162, _)] ⟨rfl, rfl, rfl, rfl, rfl, rfl, rfl, rfl, rfl, rfl, rfl, rfl, rfl, rfl, rfl, rfl, rfl, rfl, rfl, rfl, trivial⟩ (WC.region ?_)
          refine WL.yd (Yd.move rfl) rfl ?_
          refine WL.yd (Yd.move rfl) rfl ?_
          refine WL.yd (Yd.move rfl) rfl ?_
          refine WL.yd (Yd.addN (i := j) (j := 1) rfl rfl (by omega)) rfl ?_
          refine WL.yd (Yd.fieldAddr FA26_1 rfl) rfl ?_
          refine WL.yd (Yd.load1 Tryz.isAgg3 rfl (by first | exact (Rd.own (k := 0) rfl (val_at X i j hj3)) | exact (Rd.imm h4' rfl))) rfl ?_
          refine WL.yd (Yd.fieldAddr FA33_0 rfl) rfl ?_
          refine WL.yd (Yd.load1 Tryz.isAgg3 rfl (Rd.own (k := 3) rfl rfl)) rfl ?_
          refine WL.yd (Yd.fieldAddr FA33_0 rfl) rfl ?_
          refine WL.yd (Yd.load1 Tryz.isAgg3 rfl (Rd.own (k := 2) rfl rfl)) rfl ?_
          refine WL.so (SO.buildSlice Tryz.underlying52 Tryz.sizeOf3 Tryz.zeroValue3 rfl rfl rfl rfl (cs := [_, _, _]) rfl) rfl ?_
          rintro _ _ _ ⟨b200, hb200, rfl, rfl, rfl⟩
          refine WL.yd (Yd.move rfl) rfl ?_
          refine WL.yd (Yd.indexS Tryz.underlying52 Tryz.sizeOf3 rfl rfl (by (try dsimp only); omega) (by (try dsimp only); omega) (by first | exact rfl)) rfl ?_
          refine WL.yd (Yd.load1 Tryz.isAgg3 rfl (by first | exact (Rd.own (k := 0) rfl (val_at X i j hj3)) | exact (Rd.imm h4' rfl))) rfl ?_
          refine WL.so (SO.callP Tryz.call29 rfl (fun w hI => lent_g _ _ _ _)) rfl ?_
          rintro _ _ _ ⟨rfl, rfl, rfl⟩
          refine WL.so (SO.buildSlice Tryz.underlying38 Tryz.sizeOf49 Tryz.zeroValue49 rfl rfl rfl rfl (cs := [_, _, _]) rfl) rfl ?_
          rintro _ _ _ ⟨b205, hb205, rfl, rfl, rfl⟩
          refine WL.so (SO.appendOw (o := (some u)) (len := (fullK X l i (fullL X l i) j).length) (n := 1) (xs := ((fullK X l i (fullL X l i) j).flatMap entC)) (size := 3) [_] [_, _, _, _, _] [] rfl rfl Tryz.underlying38 Tryz.sizeOf49 Tryz.typeInfo49 Tryz.zeroValue49 rfl rfl rfl rfl ⟨rfl, .inr ⟨_, _, _, rfl, RdN.own (k := 0) (n := 3) rfl rfl⟩⟩ (oneB_spec rfl) hu (flat_len entC_len _) (by omega) (by show (2 * (_ + _) + 1000) * 24 ≤ 2 ^ 48; omega) (by omega)) rfl ?_
          rintro _ _ _ ⟨u1, hu1, rfl, rfl, rfl⟩
          refine WL.yd (Yd.assign rfl) rfl ?_
          refine WL.nil (WP.blkNormal (WP.thenC (WC.ofFr [(17, _), (1, _), (2, _), (3, _), (4, _), (9, _), (10, _), (11, _), (12, _), (16, _), (18, _), (19, _), (21, _), (23, _), (128, _), (129, _), (160, _), (161, _), (162, _)] ⟨rfl, rfl, rfl, rfl, rfl, rfl, rfl, rfl, rfl, rfl, rfl, rfl, rfl, rfl, rfl, rfl, rfl, rfl, rfl, trivial⟩ (WC.region ?_))))
          refine WL.yd (Yd.addN (i := j) (j := 1) rfl rfl (by omega)) rfl ?_
          refine WL.yd (Yd.move rfl) rfl ?_
          refine WL.nil ?_
          first
            | exact WP.againT (⟨j + 1, u1⟩ : Nat × Ow) ⟨by simp only; omega, by show owP w (some u1) (fullK X l i (fullL X l i) (j + 1)).length 3; rw [hFn]; exact hu1⟩ (by simp only; omega) [_] _ rfl (by show _ = _ ++ owH (some u1) _ ((fullK X l i (fullL X l i) (j + 1)).flatMap entC) []; rw [hFq, List.flatMap_append]; rfl) ⟨rfl, rfl, rfl, rfl, rfl, rfl, rfl, rfl, rfl, congrArg (fun q => some (owV (some u1) q)) hFn.symm, rfl, rfl, rfl, rfl, rfl, rfl, rfl, rfl, rfl, trivial⟩
            | exact WP.againT (⟨j + 1, u⟩ : Nat × Ow) ⟨by simp only; omega, by show owP w (some u) (fullK X l i (fullL X l i) (j + 1)).length 3; rw [hFq]; exact hu⟩ (by simp only; omega) [] _ rfl (by show _ = _ ++ owH (some u) _ ((fullK X l i (fullL X l i) (j + 1)).flatMap entC) []; rw [hFq]; rfl) ⟨rfl, rfl, rfl, rfl, rfl, rfl, rfl, rfl, rfl, congrArg (fun q => some (owV (some u) (List.length q))) hFq.symm, rfl, rfl, rfl, rfl, rfl, rfl, rfl, rfl, rfl, trivial⟩
        · try simp only [zq1, zq2, zq3, zq4, zq5, zq6, zq7, zq8] at c189
          have hFq : (fullK X l i (fullL X l i) (j + 1)) = (fullK X l i (fullL X l i) j) := by show (fullK X l i (fullL X l i) j) ++ addT X l i (j + 1) = _; unfold addT; rw [if_neg (fun e => c189 ((bit_is hin).2 e)), List.append_nil]
          refine WC.skip (WP.blkNormal (WP.thenC (WC.ofFr [(1, _), (2, _), (3, _), (4, _), (9, _), (10, _), (11, _), (12, _), (16, _), (17, _), (18, _), (19, _), (21, _), (23, _), (128, _), (129, _), (160, _), (161, _), (162, _)] ⟨rfl, rfl, rfl, rfl, rfl, rfl, rfl, rfl, rfl, rfl, rfl, rfl, rfl, rfl, rfl, rfl, rfl, rfl, rfl, trivial⟩ (WC.region ?_))))
          refine WL.yd (Yd.addN (i := j) (j := 1) rfl rfl (by omega)) rfl ?_
          refine WL.yd (Yd.move rfl) rfl ?_
          refine WL.nil ?_
          first
            | exact WP.againT (⟨j + 1, u1⟩ : Nat × Ow) ⟨by simp only; omega, by show owP w (some u1) (fullK X l i (fullL X l i) (j + 1)).length 3; rw [hFn]; exact hu1⟩ (by simp only; omega) [_] _ rfl (by show _ = _ ++ owH (some u1) _ ((fullK X l i (fullL X l i) (j + 1)).flatMap entC) []; rw [hFq, List.flatMap_append]; rfl) ⟨rfl, rfl, rfl, rfl, rfl, rfl, rfl, rfl, rfl, congrArg (fun q => some (owV (some u1) q)) hFn.symm, rfl, rfl, rfl, rfl, rfl, rfl, rfl, rfl, rfl, trivial⟩
            | exact WP.againT (⟨j + 1, u⟩ : Nat × Ow) ⟨by simp only; omega, by show owP w (some u) (fullK X l i (fullL X l i) (j + 1)).length 3; rw [hFq]; exact hu⟩ (by simp only; omega) [] _ rfl (by show _ = _ ++ owH (some u) _ ((fullK X l i (fullL X l i) (j + 1)).flatMap entC) []; rw [hFq]; rfl) ⟨rfl, rfl, rfl, rfl, rfl, rfl, rfl, rfl, rfl, congrArg (fun q => some (owV (some u) (List.length q))) hFq.symm, rfl, rfl, rfl, rfl, rfl, rfl, rfl, rfl, rfl, trivial⟩
    · try simp only [zq1, zq2, zq3, zq4, zq5, zq6, zq7, zq8] at c163
      obtain rfl : j = 3 := by omega
      refine WC.exit ?_
      refine WP.thenExit ?_
      refine WP.thenExit ?_
      refine WP.blkHit ?_
      refine WP.blkNormal (WP.thenC (WC.ofFr [(1, _), (2, _), (3, _), (4, _), (9, _), (10, _), (11, _), (12, _), (16, _), (17, _), (128, _), (129, _)] ⟨rfl, rfl, rfl, rfl, rfl, rfl, rfl, rfl, rfl, rfl, rfl, rfl, trivial⟩ (WC.region ?_)))
      refine WL.yd (Yd.addN (i := i) (j := 1) rfl rfl (by omega)) rfl ?_
      refine WL.yd (Yd.move rfl) rfl ?_
      refine WL.nil ?_
      exact WP.againT (⟨i + 1, u⟩ : Nat × Ow) ⟨by simp only; omega, hu⟩ (by simp only; omega) [_, _, _, _] _ rfl rfl ⟨rfl, rfl, rfl, rfl, rfl, rfl, rfl, rfl, rfl, rfl, rfl, rfl, trivial⟩
  · try simp only [zq1, zq2, zq3, zq4, zq5, zq6, zq7, zq8] at c130
    obtain rfl : i = X.tk.l.length := by omega
    have hFI := full_law h1 h4 X.tk.l.length (Nat.le_refl _)
    have hFl := hFI.len
    refine WC.exit ?_
    refine WP.thenExit ?_
    refine WP.thenExit ?_
    refine WP.blkHit ?_
    refine WP.thenC ?_
    refine WC.seqJ (fun _ : Unit => [(1, .slice ab l.length cb), (2, .int .u8 m), (3, .int .u8 v), (4, pt b4), (9, .slice (some ⟨k1.b, 0, none⟩) l.length k1.cap), (10, nt (bitsI (missB X l 1) X.tk.l.length)), (11, nt (bitsI (missB X l 2) X.tk.l.length)), (12, nt (bitsI (missB X l 3) X.tk.l.length)), (16, nt X.tk.l.length)]) (fun _ => []) (fun _ => D9) (fun _ => True) ?_ ?_
    · rintro ⟨⟩ -
      refine WC.seqJ (fun _ : Unit => [(1, .slice ab l.length cb), (9, .slice (some ⟨k1.b, 0, none⟩) l.length k1.cap)]) (fun _ => []) (fun _ => D9) (fun _ => True) ?_ ?_
      · rintro ⟨⟩ -
        refine WC.seq (WC.seq (WC.ofFr [(1, _), (9, _)] ⟨rfl, rfl, trivial⟩ (WC.region ?_)))
        refine WL.yd (Yd.move rfl) rfl ?_
        refine WL.yd (Yd.lenS rfl Tryz.underlying38 rfl) rfl ?_
        refine WL.yd (Yd.move rfl) rfl ?_
        refine WL.nil (WP.thenC (WC.block ?_))
        refine WC.loopF (fun k : Nat => [(1, .slice ab l.length cb), (9, .slice (some ⟨k1.b, 0, none⟩) l.length k1.cap), (302, nt l.length), (303, nt k)]) (fun k => k ≤ l.length) (fun k => l.length - k) 0 (by omega) ⟨rfl, rfl, rfl, rfl, trivial⟩ ?_
        intro k hk
        refine WC.seq (WC.ofFr [(1, _), (9, _), (302, _), (303, _)] ⟨rfl, rfl, rfl, rfl, trivial⟩ (WC.region ?_))
        refine WL.yd (Yd.lss rfl rfl) rfl ?_
        refine WL.nil (WP.thenC (WC.seq ?_))
        refine WC.cond rfl (fun c304 => ?_) (fun c304 => ?_)
        · try simp only [zq1, zq2, zq3, zq4, zq5, zq6, zq7, zq8] at c304
          refine WC.skip (WP.thenC (WC.seq (WC.block (WC.seq (WC.ofFr [(1, _), (9, _), (302, _), (303, _)] ⟨rfl, rfl, rfl, rfl, trivial⟩ (WC.region ?_))))))
          refine WL.yd (Yd.move rfl) rfl ?_
          refine WL.yd (Yd.assign rfl) rfl ?_
          refine WL.nil (WP.thenC (WC.seq (WC.ofFr [(40, _), (1, _), (9, _), (302, _), (303, _)] ⟨rfl, rfl, rfl, rfl, rfl, trivial⟩ ?_)))
          refine WC.tail 8 [0, 1, 2, 3, 4, 5, 6, 7] rfl (by kernel_rfl) (by kernel_rfl)  ?_
          refine WQ.q rfl (Yd.qt (Yd.move rfl)) rfl ?_
          refine WQ.q rfl (Yd.qt (Yd.move rfl)) rfl ?_
          refine WQ.q rfl (Yd.qt (Yd.indexS Tryz.underlying38 Tryz.sizeOf49 rfl rfl (by (try dsimp only); omega) (by (try dsimp only); omega) (by first | exact hK.ent.addr k (by omega) | exact hB.ent.addr k (by omega)))) rfl ?_
          refine WQ.q rfl (Yd.qt (Yd.loadN Tryz.isAgg49 Tryz.sizeOf49 rfl (vs := [_, _, _]) rfl (by first | exact ((hK.ent.at k (by omega)).rdn 0 3 rfl) | exact ((hB.ent.at k (by omega)).rdn 0 3 rfl)))) rfl ?_
          refine WQ.q rfl (Yd.qt (Yd.move rfl)) rfl ?_
          refine WQ.q rfl (Yd.qt (Yd.move rfl)) rfl ?_
          refine WQ.q rfl (Yd.qt (Yd.indexS Tryz.underlying38 Tryz.sizeOf49 rfl rfl (by (try dsimp only); omega) (by (try dsimp only); omega) (by first | exact hK.ent.addr k (by omega) | exact hB.ent.addr k (by omega)))) rfl ?_
          refine WQ.q rfl (Yd.qt (Yd.loadN Tryz.isAgg49 Tryz.sizeOf49 rfl (vs := [_, _, _]) rfl (by first | exact ((hK.ent.at k (by omega)).rdn 0 3 rfl) | exact ((hB.ent.at k (by omega)).rdn 0 3 rfl)))) rfl ?_
          refine WQ.tail ?_
          refine WL.yd (Yd.neS Tryz.eqGuardType49 (eqEn _ _ _) rfl rfl) rfl ?_
          refine WL.know 314 (.bool false) rfl rfl ?_
          refine WL.nil (WP.thenC ?_)
          refine WC.condF rfl ?_
          refine WC.skip (WP.blkNormal (WP.thenC (WC.ofFr [(1, _), (9, _), (302, _), (303, _)] ⟨rfl, rfl, rfl, rfl, trivial⟩ (WC.region ?_))))
          refine WL.yd (Yd.addN (i := k) (j := 1) rfl rfl (by omega)) rfl ?_
          refine WL.yd (Yd.move rfl) rfl ?_
          refine WL.nil ?_
          exact WP.againF (k + 1) (by omega) (by omega) ⟨rfl, rfl, rfl, rfl, trivial⟩ (fun _ h => h) (fun h => h)
        · try simp only [zq1, zq2, zq3, zq4, zq5, zq6, zq7, zq8] at c304
          refine WC.exit ?_
          refine WP.thenExit ?_
          refine WP.thenExit ?_
          refine WP.blkHit ?_
          refine WP.thenC (WC.seq (WC.ofFr [] trivial (WC.region ?_)))
          refine WL.so (SO.callP Tryz.call9 rfl (fun w hI => alive_g _ _ hI.imm)) rfl ?_
          rintro _ _ _ ⟨rfl, rfl, rfl⟩
          refine WL.yd (Yd.assign rfl) rfl ?_
          refine WL.nil (WP.thenC (WC.ret ?_))
          refine WP.ret1 rfl rfl Tryz.results6 (RV.tmp rfl) (fun w hI => ⟨rfl, hI.keep⟩)
      · skip
        refine WC.seq (WC.ofFr [(1, _), (2, _), (3, _), (4, _), (9, _), (10, _), (11, _), (12, _), (16, _)] ⟨rfl, rfl, rfl, rfl, rfl, rfl, rfl, rfl, rfl, trivial⟩ (WC.region ?_))
        refine WL.yd (Yd.move rfl) rfl ?_
        refine WL.yd (Yd.gtr rfl rfl) rfl ?_
        refine WL.yd (Yd.move rfl) rfl ?_
        refine WL.part 253 rfl (fun g253 => ?_) (fun g253 => ?_)
        · try simp only [zq1, zq2, zq3, zq4, zq5, zq6, zq7, zq8] at g253
          have hEE : entB X (⟨((m % X.tk.l.length : Nat) : Int), ((1 + v % 3 : Nat) : Int), (m : Int)⟩ : Ent) = true := by
            have hd1 : isT X.tk ((m % X.tk.l.length : Nat) : Int) = true := decide_eq_true (by have := Nat.mod_lt m (show 0 < X.tk.l.length by omega); omega)
            have hd2 : inB ((1 + v % 3 : Nat) : Int) 1 3 = true := decide_eq_true (by omega)
            show (isT X.tk ((m % X.tk.l.length : Nat) : Int) && inB ((1 + v % 3 : Nat) : Int) 1 3) = true
            rw [hd1, hd2]; rfl
          refine WL.ydg rfl (Yd.move rfl) rfl ?_
          refine WL.ydg rfl (Yd.lenS rfl Tryz.underlying38 rfl) rfl ?_
          refine WL.ydg rfl (Yd.lss rfl rfl) rfl ?_
          refine WL.yd (Yd.pickT rfl rfl) rfl ?_
          refine WL.nil (WP.thenC ?_)
          refine WC.cond rfl (fun c257 => ?_) (fun c257 => ?_)
          · try simp only [zq1, zq2, zq3, zq4, zq5, zq6, zq7, zq8] at c257
            refine WC.seq (WC.ofFr [(1, _), (2, _), (3, _), (4, _), (9, _), (10, _), (11, _), (12, _), (16, _)] ⟨rfl, rfl, rfl, rfl, rfl, rfl, rfl, rfl, rfl, trivial⟩ ?_)
            refine WC.drawH [] (by kernel_rfl) (fun _ hI => hI.drop 99) ?_
            refine WH.yd (i := 0) (by kernel_rfl) (fun _ o v c a w _ h => (QuietPanic.then (QuietPanic.then QuietPanic.body)) c o.dst v a w h) rfl (Yd.loadN Tryz.isAgg26 Tryz.sizeOf26 rfl (vs := [_, _, _, _, _]) rfl (by first | exact (RdN.imm (n := 5) h4' rfl) | exact (RdN.imm (n := 2) h4' rfl))) rfl ?_
            refine WH.yd (i := 2) (by kernel_rfl) (fun _ o v c a w _ h => (QuietPanic.then (QuietPanic.then QuietPanic.body)) c o.dst v a w h) rfl (Yd.move rfl) rfl ?_
            refine WH.yd (i := 4) (by kernel_rfl) (fun _ o v c a w _ h => (QuietPanic.then (QuietPanic.then QuietPanic.body)) c o.dst v a w h) rfl (Yd.move rfl) rfl ?_
            refine WH.yd (i := 5) (by kernel_rfl) (fun _ o v c a w _ h => (QuietPanic.then (QuietPanic.then QuietPanic.body)) c o.dst v a w h) rfl (Yd.conv Tryz.underlying5 Tryz.underlying3 rfl (wr64 ⟨by omega, by omega⟩)) rfl ?_
            refine WH.yd (i := 6) (by kernel_rfl) (fun _ o v c a w _ h => (QuietPanic.then (QuietPanic.then QuietPanic.body)) c o.dst v a w h) rfl (Yd.move rfl) rfl ?_
            refine WH.yd (i := 7) (by kernel_rfl) (fun _ o v c a w _ h => (QuietPanic.then (QuietPanic.then QuietPanic.body)) c o.dst v a w h) rfl (Yd.remN (i := m) (j := X.tk.l.length) rfl rfl (by omega)) rfl ?_
            refine WH.yd (i := 8) (by kernel_rfl) (fun _ o v c a w _ h => (QuietPanic.then (QuietPanic.then QuietPanic.body)) c o.dst v a w h) rfl (Yd.move rfl) rfl ?_
            refine WH.yd (i := 9) (by kernel_rfl) (fun _ o v c a w _ h => (QuietPanic.then (QuietPanic.then QuietPanic.body)) c o.dst v a w h) rfl (Yd.conv Tryz.underlying5 Tryz.underlying3 rfl (wr64 ⟨by omega, by omega⟩)) rfl ?_
            refine WH.yd (i := 10) (by kernel_rfl) (fun _ o v c a w _ h => (QuietPanic.then (QuietPanic.then QuietPanic.body)) c o.dst v a w h) rfl (Yd.remN (i := v) (j := 3) rfl rfl (by omega)) rfl ?_
            refine WH.yd (i := 11) (by kernel_rfl) (fun _ o v c a w _ h => (QuietPanic.then (QuietPanic.then QuietPanic.body)) c o.dst v a w h) rfl (Yd.addN (i := 1) (j := v % 3) rfl rfl (by omega)) rfl ?_
            refine WH.yd (i := 12) (by kernel_rfl) (fun _ o v c a w _ h => (QuietPanic.then (QuietPanic.then QuietPanic.body)) c o.dst v a w h) rfl (Yd.move rfl) rfl ?_
            refine WH.yd (i := 13) (by kernel_rfl) (fun _ o v c a w _ h => (QuietPanic.then (QuietPanic.then QuietPanic.body)) c o.dst v a w h) rfl (Yd.conv Tryz.underlying5 Tryz.underlying3 rfl (wr64 ⟨by omega, by omega⟩)) rfl ?_
            refine WH.one (i := 1) (by kernel_rfl) (WHo.so rfl (SO.buildSlice0 Tryz.underlying38 Tryz.sizeOf49) rfl ?_)
            rintro _ _ _ ⟨b260, hb260, rfl, rfl, rfl⟩
            refine ⟨(by first | exact (fun _ hI => hI.drop 99) | exact (fun _ hI => (hI.drop 99).shrink hX7.old)), ?_⟩
            refine WH.one (i := 3) (by kernel_rfl) (WHo.so rfl (SO.appendAll entC_len entC_ones (l := l) [] [] rfl rfl Tryz.underlying38 Tryz.sizeOf49 Tryz.typeInfo49 Tryz.zeroValue49 rfl rfl rfl rfl hb260 hB.ent (by show (2 * (_ + _) + 1000) * 24 ≤ 2 ^ 48; omega) (by omega)) rfl ?_)
            rintro _ _ _ ⟨u1, hu1, rfl, rfl, rfl⟩
            refine ⟨(by first | exact (fun _ hI => hI.drop 99) | exact (fun _ hI => (hI.drop 99).shrink hX7.old)), ?_⟩
            refine WH.one (i := 14) (by kernel_rfl) (WHo.so rfl (SO.callP Tryz.call29 rfl (fun w hI => lent_g _ _ _ _)) rfl ?_)
            rintro _ _ _ ⟨rfl, rfl, rfl⟩
            refine ⟨(by first | exact (fun _ hI => hI.drop 99) | exact (fun _ hI => (hI.drop 99).shrink hX7.old)), ?_⟩
            refine WH.one (i := 15) (by kernel_rfl) (WHo.so rfl (SO.buildSlice Tryz.underlying38 Tryz.sizeOf49 Tryz.zeroValue49 rfl rfl rfl rfl (cs := [_, _, _]) rfl) rfl ?_)
            rintro _ _ _ ⟨b274, hb274, rfl, rfl, rfl⟩
            refine ⟨(by first | exact (fun _ hI => hI.drop 99) | exact (fun _ hI => (hI.drop 99).shrink hX7.old)), ?_⟩
            refine WH.one (i := 16) (by kernel_rfl) (WHo.so rfl (SO.appendSome (o := u1) (len := l.length) (n := 1) (xs := (l.flatMap entC)) (ys := (entC (⟨((m % X.tk.l.length : Nat) : Int), ((1 + v % 3 : Nat) : Int), (m : Int)⟩ : Ent))) (size := 3) [_] [] rfl rfl Tryz.underlying38 Tryz.sizeOf49 Tryz.typeInfo49 Tryz.zeroValue49 rfl rfl rfl rfl (⟨rfl, .inr ⟨_, _, _, rfl, RdN.own (k := 0) (n := 3) rfl rfl⟩⟩) (by first | exact ents_ones _ | exact entC_ones _) hu1 (by first | rfl | exact flat_len entC_len _ | (rw [flat_len entC_len, List.length_take]; omega)) (by show (2 * (_ + _) + 1000) * 24 ≤ 2 ^ 48; omega) (by omega)) rfl ?_)
            rintro _ _ _ ⟨u2, hu2, rfl, rfl, rfl⟩
            refine ⟨(by first | exact (fun _ hI => hI.drop 99) | exact (fun _ hI => (hI.drop 99).shrink hX7.old)), ?_⟩
            refine WH.freezeN 1 _ _ rfl rfl hu2.1 (fun D7 hX7 h7 => ?_)
            have hB7 : BookR D7 (l ++ [(⟨((m % X.tk.l.length : Nat) : Int), ((1 + v % 3 : Nat) : Int), (m : Int)⟩ : Ent)]) (some ⟨u2.b, 0, none⟩) (l.length + 1) := ⟨by have h8 := SlL.ofBlock (l := l ++ [(⟨((m % X.tk.l.length : Nat) : Int), ((1 + v % 3 : Nat) : Int), (m : Int)⟩ : Ent)]) entC_len (by rw [List.flatMap_append]; exact h7); rw [List.length_append, List.length_singleton] at h8; exact h8, by omega⟩
            replace hR := hR.ext hX7
            refine WH.one (i := 17) (by kernel_rfl) (WHo.so rfl (SO.callP Tryz.call20 rfl (fun w hI => Gives.cv (.tuple #[nt (bitsI (missB X (l ++ [(⟨((m % X.tk.l.length : Nat) : Int), ((1 + v % 3 : Nat) : Int), (m : Int)⟩ : Ent)]) 1) X.tk.l.length), nt (bitsI (missB X (l ++ [(⟨((m % X.tk.l.length : Nat) : Int), ((1 + v % 3 : Nat) : Int), (m : Int)⟩ : Ent)]) 2) X.tk.l.length), nt (bitsI (missB X (l ++ [(⟨((m % X.tk.l.length : Nat) : Int), ((1 + v % 3 : Nat) : Int), (m : Int)⟩ : Ent)]) 3) X.tk.l.length), it 0]) (Missing_g X a1 _ c1 _ _ hR hI.imm (l ++ [(⟨((m % X.tk.l.length : Nat) : Int), ((1 + v % 3 : Nat) : Int), (m : Int)⟩ : Ent)]) (some ⟨u2.b, 0, none⟩) _ u2.cap hB7) (by rw [missO_0 (toldE_app h1 hW (by omega) h4 hEE)]; first | done | rfl))) rfl ?_)
            rintro _ _ _ ⟨rfl, rfl, rfl⟩
            refine ⟨(by first | exact (fun _ hI => hI.drop 99) | exact (fun _ hI => (hI.drop 99).shrink hX7.old)), ?_⟩
            refine WH.yd (i := 18) (by kernel_rfl) (fun _ o v c a w _ h => (QuietPanic.then (QuietPanic.then QuietPanic.body)) c o.dst v a w h) rfl (Yd.move rfl) rfl ?_
            refine WH.yd (i := 19) (by kernel_rfl) (fun _ o v c a w _ h => (QuietPanic.then (QuietPanic.then QuietPanic.body)) c o.dst v a w h) rfl (Yd.extract rfl rfl) rfl ?_
            refine WH.yd (i := 20) (by kernel_rfl) (fun _ o v c a w _ h => (QuietPanic.then (QuietPanic.then QuietPanic.body)) c o.dst v a w h) rfl (Yd.extract rfl rfl) rfl ?_
            refine WH.yd (i := 21) (by kernel_rfl) (fun _ o v c a w _ h => (QuietPanic.then (QuietPanic.then QuietPanic.body)) c o.dst v a w h) rfl (Yd.extract rfl rfl) rfl ?_
            refine WH.yd (i := 22) (by kernel_rfl) (fun _ o v c a w _ h => (QuietPanic.then (QuietPanic.then QuietPanic.body)) c o.dst v a w h) rfl (Yd.extract rfl rfl) rfl ?_
            refine WH.yd (i := 23) (by kernel_rfl) (fun _ o v c a w _ h => (QuietPanic.then (QuietPanic.then QuietPanic.body)) c o.dst v a w h) rfl (Yd.assign rfl) rfl ?_
            refine WH.yd (i := 24) (by kernel_rfl) (fun _ o v c a w _ h => (QuietPanic.then (QuietPanic.then QuietPanic.body)) c o.dst v a w h) rfl (Yd.assign rfl) rfl ?_
            refine WH.yd (i := 25) (by kernel_rfl) (fun _ o v c a w _ h => (QuietPanic.then (QuietPanic.then QuietPanic.body)) c o.dst v a w h) rfl (Yd.assign rfl) rfl ?_
            refine WH.yd (i := 26) (by kernel_rfl) (fun _ o v c a w _ h => (QuietPanic.then (QuietPanic.then QuietPanic.body)) c o.dst v a w h) rfl (Yd.assign rfl) rfl ?_
            refine WH.nil (by kernel_rfl) ?_
            refine WP.thenC (WC.seq (WC.ofFr [(39, _), (38, _), (37, _), (36, _), (1, _), (9, _), (10, _), (11, _), (12, _)] ⟨rfl, rfl, rfl, rfl, rfl, rfl, rfl, rfl, rfl, trivial⟩ (WC.region ?_)))
            refine WL.yd (Yd.move rfl) rfl ?_
            refine WL.yd (Yd.neq rfl rfl) rfl ?_
            refine WL.know 282 (.bool false) rfl (congrArg Value.bool (by decide)) ?_
            refine WL.yd (Yd.move rfl) rfl ?_
            refine WL.ydg rfl (Yd.move rfl) rfl ?_
            refine WL.ydg rfl (Yd.move rfl) rfl ?_
            refine WL.ydg rfl (Yd.andNotI (v := 0) (bits_app (X := X) (l := l) (e := (⟨((m % X.tk.l.length : Nat) : Int), ((1 + v % 3 : Nat) : Int), (m : Int)⟩ : Ent)) (k := 1) (n := X.tk.l.length)) rfl rfl) rfl ?_
            refine WL.ydg rfl (Yd.neq rfl rfl) rfl ?_
            refine WL.know 287 (.bool false) rfl (congrArg Value.bool (by decide)) ?_
            refine WL.yd (Yd.pickF rfl rfl) rfl ?_
            refine WL.yd (Yd.move rfl) rfl ?_
            refine WL.ydg rfl (Yd.move rfl) rfl ?_
            refine WL.ydg rfl (Yd.move rfl) rfl ?_
            refine WL.ydg rfl (Yd.andNotI (v := 0) (bits_app (X := X) (l := l) (e := (⟨((m % X.tk.l.length : Nat) : Int), ((1 + v % 3 : Nat) : Int), (m : Int)⟩ : Ent)) (k := 2) (n := X.tk.l.length)) rfl rfl) rfl ?_
            refine WL.ydg rfl (Yd.neq rfl rfl) rfl ?_
            refine WL.know 293 (.bool false) rfl (congrArg Value.bool (by decide)) ?_
            refine WL.yd (Yd.pickF rfl rfl) rfl ?_
            refine WL.yd (Yd.move rfl) rfl ?_
            refine WL.ydg rfl (Yd.move rfl) rfl ?_
            refine WL.ydg rfl (Yd.move rfl) rfl ?_
            refine WL.ydg rfl (Yd.andNotI (v := 0) (bits_app (X := X) (l := l) (e := (⟨((m % X.tk.l.length : Nat) : Int), ((1 + v % 3 : Nat) : Int), (m : Int)⟩ : Ent)) (k := 3) (n := X.tk.l.length)) rfl rfl) rfl ?_
            refine WL.ydg rfl (Yd.neq rfl rfl) rfl ?_
            refine WL.know 299 (.bool false) rfl (congrArg Value.bool (by decide)) ?_
            refine WL.yd (Yd.pickF rfl rfl) rfl ?_
            refine WL.nil (WP.thenC ?_)
            refine WC.condF rfl ?_
            refine WC.skip ?_
            first
              | exact WP.join () trivial (fun aa ww h => at_fr h ⟨rfl, rfl, trivial⟩)
              | exact WP.join () trivial (fun aa ww h => at_fr (⟨h.f, (h.i.drop 99).shrink hX7.old⟩ : At _ _ D9 [] _ _) ⟨rfl, rfl, trivial⟩)
          · try simp only [zq1, zq2, zq3, zq4, zq5, zq6, zq7, zq8] at c257
            refine WC.skip ?_
            first
              | exact WP.join () trivial (fun aa ww h => at_fr h ⟨rfl, rfl, trivial⟩)
              | exact WP.join () trivial (fun aa ww h => at_fr (⟨h.f, (h.i.drop 99).shrink hX7.old⟩ : At _ _ D9 [] _ _) ⟨rfl, rfl, trivial⟩)
        · try simp only [zq1, zq2, zq3, zq4, zq5, zq6, zq7, zq8] at g253
          refine WL.skip rfl rfl ?_
          refine WL.skip rfl rfl ?_
          refine WL.skip rfl rfl ?_
          refine WL.yd (Yd.pickF rfl rfl) rfl ?_
          refine WL.nil (WP.thenC ?_)
          refine WC.condF rfl ?_
          refine WC.skip ?_
          first
            | exact WP.join () trivial (fun aa ww h => at_fr h ⟨rfl, rfl, trivial⟩)
            | exact WP.join () trivial (fun aa ww h => at_fr (⟨h.f, (h.i.drop 99).shrink hX7.old⟩ : At _ _ D9 [] _ _) ⟨rfl, rfl, trivial⟩)
    · skip
      refine WC.seq ?_
      refine WC.freezeN 0 u.b (.cells (List.toArray ((fullL X l X.tk.l.length).flatMap entC ++ u.rest)) 49 (0, 0)) rfl rfl hu.1 (fun D8 hX8 h8 => ?_)
      have hFB : BookR D8 (fullL X l X.tk.l.length) (some ⟨u.b, 0, none⟩) (fullL X l X.tk.l.length).length := ⟨SlL.ofBlock entC_len h8, by omega⟩
      replace hR := hR.ext hX8
      replace hB := hB.ext hX8
      replace hK := hK.ext hX8
      replace h4' := hX8.old _ _ h4'
      refine WC.ofFr [(1, _), (2, _), (3, _), (4, _), (9, _), (10, _), (11, _), (12, _), (16, _), (17, _)] ⟨rfl, rfl, rfl, rfl, rfl, rfl, rfl, rfl, rfl, rfl, trivial⟩ (WC.region ?_)
      refine WL.yd (Yd.move rfl) rfl ?_
      refine WL.yd (Yd.lenS rfl Tryz.underlying38 rfl) rfl ?_
      refine WL.yd (Yd.leq rfl rfl) rfl ?_
      refine WL.nil (WP.thenC ?_)
      refine WC.cond rfl (fun c211 => ?_) (fun c211 => ?_)
      · try simp only [zq1, zq2, zq3, zq4, zq5, zq6, zq7, zq8] at c211
        refine WC.seq (WC.ofFr [(1, _), (2, _), (3, _), (4, _), (9, _), (10, _), (11, _), (12, _), (16, _), (17, _)] ⟨rfl, rfl, rfl, rfl, rfl, rfl, rfl, rfl, rfl, rfl, trivial⟩ (WC.region ?_))
        refine WL.yd (Yd.loadN Tryz.isAgg26 Tryz.sizeOf26 rfl (vs := [_, _, _, _, _]) rfl (by first | exact (RdN.imm (n := 5) h4' rfl) | exact (RdN.imm (n := 2) h4' rfl))) rfl ?_
        refine WL.yd (Yd.move rfl) rfl ?_
        refine WL.so (SO.callP Tryz.call20 rfl (fun w hI => Gives.cv (.tuple #[it 0, it 0, it 0, it 0]) (Missing_g X a1 _ c1 _ _ hR hI.imm (fullL X l X.tk.l.length) (some ⟨u.b, 0, none⟩) _ u.cap hFB) (by rw [miss_full h1 hW hFI (by omega)]; first | done | rfl))) rfl ?_
        rintro _ _ _ ⟨rfl, rfl, rfl⟩
        refine WL.yd (Yd.move rfl) rfl ?_
        refine WL.yd (Yd.extract rfl rfl) rfl ?_
        refine WL.yd (Yd.extract rfl rfl) rfl ?_
        refine WL.yd (Yd.extract rfl rfl) rfl ?_
        refine WL.yd (Yd.extract rfl rfl) rfl ?_
        refine WL.yd (Yd.assign rfl) rfl ?_
        refine WL.yd (Yd.assign rfl) rfl ?_
        refine WL.yd (Yd.assign rfl) rfl ?_
        refine WL.yd (Yd.assign rfl) rfl ?_
        refine WL.nil (WP.thenC (WC.seq (WC.seq (WC.ofFr [(29, _), (28, _), (27, _), (26, _), (1, _), (2, _), (3, _), (4, _), (9, _), (10, _), (11, _), (12, _), (16, _), (17, _)] ⟨rfl, rfl, rfl, rfl, rfl, rfl, rfl, rfl, rfl, rfl, rfl, rfl, rfl, rfl, trivial⟩ (WC.region ?_)))))
        refine WL.yd (Yd.move rfl) rfl ?_
        refine WL.yd (Yd.neq rfl rfl) rfl ?_
        refine WL.know 221 (.bool false) rfl (congrArg Value.bool (by decide)) ?_
        refine WL.yd (Yd.move rfl) rfl ?_
        refine WL.ydg rfl (Yd.move rfl) rfl ?_
        refine WL.ydg rfl (Yd.neq rfl rfl) rfl ?_
        refine WL.know 224 (.bool false) rfl (congrArg Value.bool (by decide)) ?_
        refine WL.yd (Yd.pickF rfl rfl) rfl ?_
        refine WL.yd (Yd.move rfl) rfl ?_
        refine WL.ydg rfl (Yd.move rfl) rfl ?_
        refine WL.ydg rfl (Yd.neq rfl rfl) rfl ?_
        refine WL.know 228 (.bool false) rfl (congrArg Value.bool (by decide)) ?_
        refine WL.yd (Yd.pickF rfl rfl) rfl ?_
        refine WL.yd (Yd.move rfl) rfl ?_
        refine WL.ydg rfl (Yd.move rfl) rfl ?_
        refine WL.ydg rfl (Yd.neq rfl rfl) rfl ?_
        refine WL.know 232 (.bool false) rfl (congrArg Value.bool (by decide)) ?_
        refine WL.yd (Yd.pickF rfl rfl) rfl ?_
        refine WL.nil (WP.thenC ?_)
        refine WC.condF rfl ?_
        refine WC.skip (WP.thenC (WC.seq (WC.ofFr [(1, _), (2, _), (3, _), (4, _), (9, _), (10, _), (11, _), (12, _), (16, _), (17, _)] ⟨rfl, rfl, rfl, rfl, rfl, rfl, rfl, rfl, rfl, rfl, trivial⟩ (WC.region ?_))))
        refine WL.yd (Yd.loadN Tryz.isAgg26 Tryz.sizeOf26 rfl (vs := [_, _, _, _, _]) rfl (by first | exact (RdN.imm (n := 5) h4' rfl) | exact (RdN.imm (n := 2) h4' rfl))) rfl ?_
        refine WL.yd (Yd.move rfl) rfl ?_
        refine WL.so (SO.callP Tryz.call18 rfl (fun w hI => Check_g X a1 _ c1 _ _ hR hI.imm (fullL X l X.tk.l.length) (some ⟨u.b, 0, none⟩) _ u.cap hFB)) rfl ?_
        rintro _ _ _ ⟨rfl, rfl, rfl⟩
        refine WL.yd (Yd.move rfl) rfl ?_
        refine WL.yd (Yd.extract rfl rfl) rfl ?_
        refine WL.yd (Yd.extract rfl rfl) rfl ?_
        refine WL.yd (Yd.extract rfl rfl) rfl ?_
        refine WL.yd (Yd.assign rfl) rfl ?_
        refine WL.yd (Yd.assign rfl) rfl ?_
        refine WL.yd (Yd.assign rfl) rfl ?_
        refine WL.nil (WP.thenC (WC.seq (WC.ofFr [(32, _), (1, _), (2, _), (3, _), (4, _), (9, _), (10, _), (11, _), (12, _), (16, _)] ⟨rfl, rfl, rfl, rfl, rfl, rfl, rfl, rfl, rfl, rfl, trivial⟩ (WC.region ?_))))
        refine WL.yd (Yd.loadN Tryz.isAgg26 Tryz.sizeOf26 rfl (vs := [_, _, _, _, _]) rfl (by first | exact (RdN.imm (n := 5) h4' rfl) | exact (RdN.imm (n := 2) h4' rfl))) rfl ?_
        refine WL.yd (Yd.move rfl) rfl ?_
        refine WL.so (SO.callP Tryz.call18 rfl (fun w hI => Check_g X a1 _ c1 _ _ hR hI.imm l ab _ cb hB)) rfl ?_
        rintro _ _ _ ⟨rfl, rfl, rfl⟩
        refine WL.yd (Yd.move rfl) rfl ?_
        refine WL.yd (Yd.extract rfl rfl) rfl ?_
        refine WL.yd (Yd.extract rfl rfl) rfl ?_
        refine WL.yd (Yd.extract rfl rfl) rfl ?_
        refine WL.yd (Yd.assign rfl) rfl ?_
        refine WL.yd (Yd.assign rfl) rfl ?_
        refine WL.yd (Yd.assign rfl) rfl ?_
        refine WL.nil (WP.thenC (WC.seq (WC.ofFr [(35, _), (32, _), (1, _), (2, _), (3, _), (4, _), (9, _), (10, _), (11, _), (12, _), (16, _)] ⟨rfl, rfl, rfl, rfl, rfl, rfl, rfl, rfl, rfl, rfl, rfl, trivial⟩ (WC.region ?_))))
        refine WL.yd (Yd.move rfl) rfl ?_
        refine WL.yd (Yd.move rfl) rfl ?_
        refine WL.yd (Yd.neq rfl rfl) rfl ?_
        refine WL.know 250 (.bool false) rfl (congrArg Value.bool (decide_eq_false (by (try dsimp only); intro hc; exact hc (check_full h1 hW h4 hFI (by omega))))) ?_
        refine WL.nil (WP.thenC ?_)
        refine WC.condF rfl ?_
        refine WC.skip ?_
        exact WP.join () trivial (fun aa ww h => at_fr (⟨h.f, h.i.shrink hX8.old⟩ : At _ _ D9 _ _ _) ⟨rfl, rfl, rfl, rfl, rfl, rfl, rfl, rfl, rfl, trivial⟩)
      · try simp only [zq1, zq2, zq3, zq4, zq5, zq6, zq7, zq8] at c211
        refine WC.skip ?_
        exact WP.join () trivial (fun aa ww h => at_fr (⟨h.f, h.i.shrink hX8.old⟩ : At _ _ D9 _ _ _) ⟨rfl, rfl, rfl, rfl, rfl, rfl, rfl, rfl, rfl, trivial⟩)

end Go.Proofs.YtpnbkdlejfmbeaaGreat
