import Derived.Test.YtpnbkdlejfmbeaaGreatYZ4
set_option linter.unusedSimpArgs false
set_option linter.unusedVariables false
set_option linter.all false
set_option maxRecDepth 100000
set_option maxHeartbeats 1000000
namespace Go.Proofs.YtpnbkdlejfmbeaaGreat
open Go.W Go.Ti

theorem check_g (X : Till) (a1 : Option Addr) (n1 c1 : Nat) (D : Imm) (w : World) (hS : SlL D 5 (X.tk.l.map tickC) a1 n1) (hH : Holds D w) (l : List Ent) (ab : Option Addr) (nb cb : Nat) (hL : SlL D 3 (l.map entC) ab nb) (hcap : nb ≤ cb) (m : Nat) (hm : m < 256) (hlo : max n1 nb ≤ 60) (h1 : tillB X = true) (h3l : nb ≤ 20) (h4 : l.all (entB X) = true) (hW : tksE X.tk true = 0) (hbr : brokL X l l.length = []) (hz : nb = 0) : Gives Tryz.prog 5 [.agg #[it X.tk.huts, .slice a1 n1 c1, it X.price, it X.fine, it X.wait], .slice ab nb cb, .int .u8 m] w (.bool true) := by
  unfold Gives
  have hR : TksR D X.tk a1 n1 := ⟨hS, by omega⟩
  have hB : BookR D l ab nb := ⟨hL, by omega⟩
  obtain rfl := hR.tick.len'
  have hl1 := hR.len
  obtain rfl := hB.ent.len'
  have hrt := brok_right.1 hbr
  have hCO := check_right h1 h3l h4 hW hrt
  have hSO : SumOut X l = (ownS l l.length, 0) := sum_right h1 h3l h4 hW hrt
  have hSR := sum_rev h1 h3l h4 hW hrt
  have hpn : ∀ i, i < l.length → 0 ≤ (gt l i).pence ∧ (gt l i).pence ≤ 2400 := fun i hi => can_num h1 (hrt.2 _ (gt_mem hi))
  refine enter Tryz.func5 rfl 345 Tryz.ntmps5 (zqb rfl) (Inv.start hH) ?_
  refine WC.seq (WC.ofFr [(0, _), (1, _), (2, _)] ⟨rfl, rfl, rfl, trivial⟩ (WC.region ?_))
  refine WL.so (SO.box rfl rfl) rfl ?_
  rintro _ _ _ ⟨b3, hb3, rfl, rfl, rfl⟩
  refine WL.yd (Yd.assign rfl) rfl ?_
  refine WL.nil (WP.thenC (WC.seq (WC.seq ?_)))
  refine WC.freezeN 0 b3 (.cells (List.toArray (tillC X (.slice a1 X.tk.l.length c1))) 26 (0, 0)) rfl rfl hb3 (fun D3 hX3 h3 => ?_)
  replace hR := hR.ext hX3
  replace hB := hB.ext hX3
  refine WC.ofFr [(6, _), (3, _), (1, _), (2, _)] ⟨rfl, rfl, rfl, rfl, trivial⟩ (WC.region ?_)
  refine WL.yd (Yd.loadN Tryz.isAgg26 Tryz.sizeOf26 rfl (vs := [_, _, _, _, _]) rfl (by first | exact (RdN.imm (n := 5) h3 rfl) | exact (RdN.imm (n := 2) h3 rfl))) rfl ?_
  refine WL.yd (Yd.move rfl) rfl ?_
  refine WL.so (SO.callP Tryz.call24 rfl (fun w hI => long_g X a1 ab _ c1 _ cb _)) rfl ?_
  rintro _ _ _ ⟨rfl, rfl, rfl⟩
  refine WL.know 36 (.bool false) rfl (congrArg Value.bool (decide_eq_false (by (try dsimp only); omega))) ?_
  refine WL.yd (Yd.move rfl) rfl ?_
  refine WL.ydg rfl (Yd.loadN Tryz.isAgg26 Tryz.sizeOf26 rfl (vs := [_, _, _, _, _]) rfl (by first | exact (RdN.imm (n := 5) h3 rfl) | exact (RdN.imm (n := 2) h3 rfl))) rfl ?_
  refine WL.sog rfl (SO.callP Tryz.call25 rfl (fun w hI => till13_g X a1 _ c1 _ _ hR hI.imm)) rfl ?_
  rintro _ _ _ ⟨rfl, rfl, rfl⟩
  refine WL.know 39 (.bool true) rfl (congrArg Value.bool h1) ?_
  refine WL.ydg rfl (Yd.not rfl) rfl ?_
  refine WL.yd (Yd.pickF rfl rfl) rfl ?_
  refine WL.nil (WP.thenC ?_)
  refine WC.condF rfl ?_
  refine WC.skip (WP.thenC (WC.seq (WC.ofFr [(6, _), (3, _), (1, _), (2, _)] ⟨rfl, rfl, rfl, rfl, trivial⟩ (WC.region ?_))))
  refine WL.yd (Yd.loadN Tryz.isAgg26 Tryz.sizeOf26 rfl (vs := [_, _, _, _, _]) rfl (by first | exact (RdN.imm (n := 5) h3 rfl) | exact (RdN.imm (n := 2) h3 rfl))) rfl ?_
  refine WL.yd (Yd.move rfl) rfl ?_
  refine WL.so (SO.callP Tryz.call18 rfl (fun w hI => Gives.cv (.tuple #[it 0, it 0, it 4]) (Check_g X a1 _ c1 _ _ hR hI.imm l ab _ cb hB) (by rw [hCO]; first | done | rfl))) rfl ?_
  rintro _ _ _ ⟨rfl, rfl, rfl⟩
  refine WL.yd (Yd.move rfl) rfl ?_
  refine WL.yd (Yd.extract rfl rfl) rfl ?_
  refine WL.yd (Yd.extract rfl rfl) rfl ?_
  refine WL.yd (Yd.extract rfl rfl) rfl ?_
  refine WL.yd (Yd.assign rfl) rfl ?_
  refine WL.yd (Yd.assign rfl) rfl ?_
  refine WL.yd (Yd.assign rfl) rfl ?_
  refine WL.nil (WP.thenC (WC.seq (WC.ofFr [(9, _), (8, _), (7, _), (6, _), (3, _), (1, _), (2, _)] ⟨rfl, rfl, rfl, rfl, rfl, rfl, rfl, trivial⟩ (WC.region ?_))))
  refine WL.yd (Yd.loadN Tryz.isAgg26 Tryz.sizeOf26 rfl (vs := [_, _, _, _, _]) rfl (by first | exact (RdN.imm (n := 5) h3 rfl) | exact (RdN.imm (n := 2) h3 rfl))) rfl ?_
  refine WL.yd (Yd.move rfl) rfl ?_
  refine WL.so (SO.callP Tryz.call22 rfl (fun w hI => Gives.cv (.tuple #[it (ownS l l.length), it 0]) (Sum_g X a1 _ c1 _ _ hR hI.imm l ab _ cb hB) (by rw [hSO]; first | done | rfl))) rfl ?_
  rintro _ _ _ ⟨rfl, rfl, rfl⟩
  refine WL.yd (Yd.move rfl) rfl ?_
  refine WL.yd (Yd.extract rfl rfl) rfl ?_
  refine WL.yd (Yd.extract rfl rfl) rfl ?_
  refine WL.yd (Yd.assign rfl) rfl ?_
  refine WL.yd (Yd.assign rfl) rfl ?_
  refine WL.nil (WP.thenC (WC.seq (WC.block (WC.seq (WC.ofFr [(11, _), (10, _), (9, _), (8, _), (7, _), (6, _), (3, _), (1, _), (2, _)] ⟨rfl, rfl, rfl, rfl, rfl, rfl, rfl, rfl, rfl, trivial⟩ (WC.region ?_))))))
  refine WL.yd (Yd.move rfl) rfl ?_
  refine WL.yd (Yd.lenS rfl Tryz.underlying38 rfl) rfl ?_
  refine WL.yd (Yd.gtr rfl rfl) rfl ?_
  refine WL.know 59 (.bool false) rfl (congrArg Value.bool (decide_eq_false (by (try dsimp only); omega))) ?_
  refine WL.yd (Yd.assign rfl) rfl ?_
  refine WL.nil (WP.thenC ?_)
  refine WC.condF rfl ?_
  refine WC.seq (WC.ofFr [(11, _), (10, _), (9, _), (8, _), (7, _), (6, _), (3, _), (1, _), (2, _)] ⟨rfl, rfl, rfl, rfl, rfl, rfl, rfl, rfl, rfl, trivial⟩ (WC.region ?_))
  refine WL.yd (Yd.loadN Tryz.isAgg26 Tryz.sizeOf26 rfl (vs := [_, _, _, _, _]) rfl (by first | exact (RdN.imm (n := 5) h3 rfl) | exact (RdN.imm (n := 2) h3 rfl))) rfl ?_
  refine WL.yd (Yd.move rfl) rfl ?_
  refine WL.so (SO.callP Tryz.call26 rfl (fun w hI => book13_g X a1 _ c1 _ _ hR hI.imm l ab _ cb hB)) rfl ?_
  rintro _ _ _ ⟨rfl, rfl, rfl⟩
  refine WL.know 85 (.bool true) rfl (congrArg Value.bool h4) ?_
  refine WL.yd (Yd.not rfl) rfl ?_
  refine WL.yd (Yd.assign rfl) rfl ?_
  refine WL.nil (WP.thenC ?_)
  refine WC.condF rfl ?_
  refine WC.seq (WC.ofFr [(11, _), (10, _), (9, _), (8, _), (7, _), (6, _), (3, _), (1, _), (2, _)] ⟨rfl, rfl, rfl, rfl, rfl, rfl, rfl, rfl, rfl, trivial⟩ (WC.region ?_))
  refine WL.yd (Yd.move rfl) rfl ?_
  refine WL.yd (Yd.eql rfl rfl) rfl ?_
  refine WL.know 111 (.bool false) rfl (congrArg Value.bool (by decide)) ?_
  refine WL.yd (Yd.assign rfl) rfl ?_
  refine WL.nil (WP.thenC ?_)
  refine WC.condF rfl ?_
  refine WC.skip (WP.blkNormal (WP.thenC (WC.seq (WC.seq (WC.ofFr [(11, _), (10, _), (9, _), (8, _), (7, _), (6, _), (3, _), (1, _), (2, _)] ⟨rfl, rfl, rfl, rfl, rfl, rfl, rfl, rfl, rfl, trivial⟩ (WC.region ?_))))))
  refine WL.yd (Yd.move rfl) rfl ?_
  refine WL.yd (Yd.eql rfl rfl) rfl ?_
  refine WL.know 142 (.bool false) rfl (congrArg Value.bool (by decide)) ?_
  refine WL.nil (WP.thenC ?_)
  refine WC.condF rfl ?_
  refine WC.skip (WP.thenC (WC.seq (WC.seq (WC.ofFr [(11, _), (10, _), (9, _), (8, _), (7, _), (6, _), (3, _), (1, _), (2, _)] ⟨rfl, rfl, rfl, rfl, rfl, rfl, rfl, rfl, rfl, trivial⟩ (WC.region ?_)))))
  refine WL.yd (Yd.move rfl) rfl ?_
  refine WL.yd (Yd.neq rfl rfl) rfl ?_
  refine WL.know 226 (.bool false) rfl (congrArg Value.bool (by decide)) ?_
  refine WL.yd (Yd.move rfl) rfl ?_
  refine WL.ydg rfl (Yd.move rfl) rfl ?_
  refine WL.ydg rfl (Yd.neq rfl rfl) rfl ?_
  refine WL.know 229 (.bool false) rfl (congrArg Value.bool (by decide)) ?_
  refine WL.yd (Yd.pickF rfl rfl) rfl ?_
  refine WL.yd (Yd.move rfl) rfl ?_
  refine WL.ydg rfl (Yd.move rfl) rfl ?_
  refine WL.ydg rfl (Yd.neq rfl rfl) rfl ?_
  refine WL.know 233 (.bool false) rfl (congrArg Value.bool (by decide)) ?_
  refine WL.yd (Yd.pickF rfl rfl) rfl ?_
  refine WL.yd (Yd.move rfl) rfl ?_
  refine WL.ydg rfl (Yd.move rfl) rfl ?_
  refine WL.ydg rfl (Yd.neq rfl rfl) rfl ?_
  refine WL.know 237 (.bool false) rfl (congrArg Value.bool (by decide)) ?_
  refine WL.yd (Yd.pickF rfl rfl) rfl ?_
  refine WL.nil (WP.thenC ?_)
  refine WC.condF rfl ?_
  refine WC.skip (WP.thenC (WC.seq (WC.ofFr [(10, _), (6, _), (3, _), (1, _), (2, _)] ⟨rfl, rfl, rfl, rfl, rfl, trivial⟩ (WC.region ?_))))
  refine WL.yd (Yd.assign rfl) rfl ?_
  refine WL.nil (WP.thenC (WC.seq (WC.ofFr [(21, _), (10, _), (6, _), (3, _), (1, _), (2, _)] ⟨rfl, rfl, rfl, rfl, rfl, rfl, trivial⟩ (WC.region ?_))))
  refine WL.yd (Yd.assign rfl) rfl ?_
  refine WL.nil (WP.thenC (WC.seq (WC.seq (WC.ofFr [(22, _), (21, _), (10, _), (6, _), (3, _), (1, _), (2, _)] ⟨rfl, rfl, rfl, rfl, rfl, rfl, rfl, trivial⟩ (WC.region ?_)))))
  refine WL.yd (Yd.move rfl) rfl ?_
  refine WL.yd (Yd.lenS rfl Tryz.underlying38 rfl) rfl ?_
  refine WL.yd (Yd.move rfl) rfl ?_
  refine WL.nil (WP.thenC (WC.block ?_))
  refine WC.loopT [] (fun y : Nat × Option Ow => [(1, .slice ab l.length cb), (2, .int .u8 m), (3, pt b3), (6, .bool false), (10, it (ownS l l.length)), (21, it (ownS l y.1)), (22, owV y.2 y.1), (239, .slice ab l.length cb), (240, nt l.length), (241, nt y.1)]) (fun y => owH y.2 49 ((revN l y.1).flatMap entC) []) (fun y => y.1 ≤ l.length ∧ owP w y.2 y.1 3) (fun y => l.length - y.1) (0, none) ⟨by omega, rfl⟩ rfl ⟨rfl, rfl, rfl, rfl, rfl, rfl, rfl, rfl, rfl, rfl, trivial⟩ ?_
  rintro ⟨k, o⟩ ⟨hk, ho⟩
  dsimp only at hk ho
  refine WC.seq (WC.ofFr [(1, _), (2, _), (3, _), (6, _), (10, _), (21, _), (22, _), (239, _), (240, _), (241, _)] ⟨rfl, rfl, rfl, rfl, rfl, rfl, rfl, rfl, rfl, rfl, trivial⟩ (WC.region ?_))
  refine WL.yd (Yd.lss rfl rfl) rfl ?_
  refine WL.nil (WP.thenC (WC.seq ?_))
  refine WC.cond rfl (fun c242 => ?_) (fun c242 => ?_)
  · try simp only [zq1, zq2, zq3, zq4, zq5, zq6, zq7, zq8] at c242
    have hkl : k < l.length := by omega
    have hon := ownS_num hpn k (by omega)
    have hpk := hpn k hkl
    refine WC.skip (WP.thenC (WC.seq (WC.block (WC.seq (WC.ofFr [(1, _), (2, _), (3, _), (6, _), (10, _), (21, _), (22, _), (239, _), (240, _), (241, _)] ⟨rfl, rfl, rfl, rfl, rfl, rfl, rfl, rfl, rfl, rfl, trivial⟩ (WC.region ?_))))))
    refine WL.yd (Yd.move rfl) rfl ?_
    refine WL.yd (Yd.indexS Tryz.underlying38 Tryz.sizeOf49 rfl rfl (by omega) (by omega) (by first | exact hB.ent.addr k (by omega))) rfl ?_
    refine WL.yd (Yd.loadN Tryz.isAgg49 Tryz.sizeOf49 rfl (vs := [_, _, _]) rfl ((hB.ent.at k (by omega)).rdn 0 3 rfl)) rfl ?_
    refine WL.so (SO.alloc Tryz.zeroValue49 rfl) rfl ?_
    rintro _ _ _ ⟨b24, hb24, rfl, rfl, rfl⟩
    refine WL.yd (Yd.assign rfl) rfl ?_
    refine WL.so (SO.store 0 rfl Tryz.sizeOf49 rfl rfl rfl rfl (zqb rfl) (oneB_spec rfl)) rfl ?_
    rintro _ _ _ ⟨rfl, rfl, rfl⟩
    refine WL.nil (WP.thenC (WC.seq (WC.ofFr [(23, _), (24, _), (1, _), (2, _), (3, _), (6, _), (10, _), (21, _), (22, _), (239, _), (240, _), (241, _)] ⟨rfl, rfl, rfl, rfl, rfl, rfl, rfl, rfl, rfl, rfl, rfl, rfl, trivial⟩ (WC.region ?_))))
    refine WL.yd (Yd.move rfl) rfl ?_
    refine WL.yd (Yd.move rfl) rfl ?_
    refine WL.yd (Yd.move rfl) rfl ?_
    refine WL.yd (Yd.lenS rfl Tryz.underlying38 rfl) rfl ?_
    refine WL.yd (Yd.subN (i := l.length) (j := 1) rfl rfl (by omega) (by omega)) rfl ?_
    refine WL.yd (Yd.move rfl) rfl ?_
    refine WL.yd (Yd.subN (i := l.length - 1) (j := k) rfl rfl (by omega) (by omega)) rfl ?_
    refine WL.yd (Yd.indexS Tryz.underlying38 Tryz.sizeOf49 rfl rfl (by omega) (by omega) (by first | exact hB.ent.addr (l.length - 1 - k) (by omega))) rfl ?_
    refine WL.yd (Yd.loadN Tryz.isAgg49 Tryz.sizeOf49 rfl (vs := [_, _, _]) rfl ((hB.ent.at (l.length - 1 - k) (by omega)).rdn 0 3 rfl)) rfl ?_
    refine WL.so (SO.buildSlice Tryz.underlying38 Tryz.sizeOf49 Tryz.zeroValue49 rfl rfl rfl rfl (cs := [_, _, _]) rfl) rfl ?_
    rintro _ _ _ ⟨b255, hb255, rfl, rfl, rfl⟩
    refine WL.so (SO.appendOw (o := o) (len := k) (n := 1) (xs := ((revN l k).flatMap entC)) (size := 3) [_] [_] [] rfl rfl Tryz.underlying38 Tryz.sizeOf49 Tryz.typeInfo49 Tryz.zeroValue49 rfl rfl rfl rfl ⟨rfl, .inr ⟨_, _, _, rfl, RdN.own (k := 0) (n := 3) rfl rfl⟩⟩ (oneB_spec rfl) ho (by rw [flat_len entC_len, revN_len]) (by omega) (by show (2 * (_ + _) + 1000) * 24 ≤ 2 ^ 48; omega) (by omega)) rfl ?_
    rintro _ _ _ ⟨u1, hu1, rfl, rfl, rfl⟩
    refine WL.yd (Yd.assign rfl) rfl ?_
    refine WL.nil (WP.thenC (WC.seq (WC.ofFr [(22, _), (24, _), (1, _), (2, _), (3, _), (6, _), (10, _), (21, _), (239, _), (240, _), (241, _)] ⟨rfl, rfl, rfl, rfl, rfl, rfl, rfl, rfl, rfl, rfl, rfl, trivial⟩ (WC.region ?_))))
    refine WL.yd (Yd.fieldAddr FA49_1 rfl) rfl ?_
    refine WL.yd (Yd.load1 Tryz.isAgg3 rfl (Rd.own (k := 0) rfl rfl)) rfl ?_
    refine WL.yd (Yd.eql rfl rfl) rfl ?_
    refine WL.nil (WP.thenC ?_)
    refine WC.cond rfl (fun c259 => ?_) (fun c259 => ?_)
    · try simp only [zq1, zq2, zq3, zq4, zq5, zq6, zq7, zq8] at c259
      refine WC.ofFr [(22, _), (24, _), (1, _), (2, _), (3, _), (6, _), (10, _), (21, _), (239, _), (240, _), (241, _)] ⟨rfl, rfl, rfl, rfl, rfl, rfl, rfl, rfl, rfl, rfl, rfl, trivial⟩ (WC.region ?_)
      refine WL.yd (Yd.move rfl) rfl ?_
      refine WL.yd (Yd.fieldAddr FA49_2 rfl) rfl ?_
      refine WL.yd (Yd.load1 Tryz.isAgg3 rfl (Rd.own (k := 0) rfl rfl)) rfl ?_
      refine WL.know 260 (it (ownS l k)) rfl rfl ?_
      refine WL.know 262 (it (gt l k).pence) rfl rfl ?_
      refine WL.yd (Yd.sub rfl rfl (wr64 ⟨by omega, by omega⟩)) rfl ?_
      refine WL.yd (Yd.assign rfl) rfl ?_
      refine WL.nil (WP.blkNormal (WP.thenC (WC.ofFr [(21, _), (22, _), (1, _), (2, _), (3, _), (6, _), (10, _), (239, _), (240, _), (241, _)] ⟨rfl, rfl, rfl, rfl, rfl, rfl, rfl, rfl, rfl, rfl, trivial⟩ (WC.region ?_))))
      refine WL.yd (Yd.addN (i := k) (j := 1) rfl rfl (by omega)) rfl ?_
      refine WL.yd (Yd.move rfl) rfl ?_
      refine WL.nil ?_
      exact WP.againT (⟨k + 1, some u1⟩ : Nat × Option Ow) ⟨by simp only; omega, hu1⟩ (by simp only; omega) [_] _ rfl (by show _ = _ ++ owH (some u1) _ ((revN l (k + 1)).flatMap entC) []; rw [revN_succ, List.flatMap_append]; rfl) ⟨rfl, rfl, rfl, rfl, rfl, by rw [ownS_succ]; unfold signI; first | (rw [if_pos c259]; exact congrArg (fun x => some (it x)) (show ownS l k - (gt l k).pence = ownS l k + (gt l k).pence * -1 by omega)) | (rw [if_neg c259]; rfl), rfl, rfl, rfl, rfl, trivial⟩
    · try simp only [zq1, zq2, zq3, zq4, zq5, zq6, zq7, zq8] at c259
      refine WC.ofFr [(22, _), (24, _), (1, _), (2, _), (3, _), (6, _), (10, _), (21, _), (239, _), (240, _), (241, _)] ⟨rfl, rfl, rfl, rfl, rfl, rfl, rfl, rfl, rfl, rfl, rfl, trivial⟩ (WC.region ?_)
      refine WL.yd (Yd.move rfl) rfl ?_
      refine WL.yd (Yd.fieldAddr FA49_2 rfl) rfl ?_
      refine WL.yd (Yd.load1 Tryz.isAgg3 rfl (Rd.own (k := 0) rfl rfl)) rfl ?_
      refine WL.know 264 (it (ownS l k)) rfl rfl ?_
      refine WL.know 266 (it (gt l k).pence) rfl rfl ?_
      refine WL.yd (Yd.add rfl rfl (wr64 ⟨by omega, by omega⟩)) rfl ?_
      refine WL.yd (Yd.assign rfl) rfl ?_
      refine WL.nil (WP.blkNormal (WP.thenC (WC.ofFr [(21, _), (22, _), (1, _), (2, _), (3, _), (6, _), (10, _), (239, _), (240, _), (241, _)] ⟨rfl, rfl, rfl, rfl, rfl, rfl, rfl, rfl, rfl, rfl, trivial⟩ (WC.region ?_))))
      refine WL.yd (Yd.addN (i := k) (j := 1) rfl rfl (by omega)) rfl ?_
      refine WL.yd (Yd.move rfl) rfl ?_
      refine WL.nil ?_
      exact WP.againT (⟨k + 1, some u1⟩ : Nat × Option Ow) ⟨by simp only; omega, hu1⟩ (by simp only; omega) [_] _ rfl (by show _ = _ ++ owH (some u1) _ ((revN l (k + 1)).flatMap entC) []; rw [revN_succ, List.flatMap_append]; rfl) ⟨rfl, rfl, rfl, rfl, rfl, by rw [ownS_succ]; unfold signI; first | (rw [if_pos c259]; exact congrArg (fun x => some (it x)) (show ownS l k - (gt l k).pence = ownS l k + (gt l k).pence * -1 by omega)) | (rw [if_neg c259]; rfl), rfl, rfl, rfl, rfl, trivial⟩
  · try simp only [zq1, zq2, zq3, zq4, zq5, zq6, zq7, zq8] at c242
    refine WC.exit ?_
    refine WP.thenExit ?_
    refine WP.thenExit ?_
    refine WP.blkHit ?_
    refine WP.thenC (WC.seq ?_)
    obtain rfl : k = l.length := by omega
    refine WC.freezeOw (f := entC) (m := 3) entC_len [] [] o 49 (revN l l.length) rfl (by rw [revN_len]; exact ho) rfl (fun DR hXR hSlR => ?_)
    rw [revN_len] at hSlR
    have hBR : BookR DR (revN l l.length) (owAt o) l.length := ⟨hSlR, by omega⟩
    replace hR := hR.ext hXR
    replace hB := hB.ext hXR
    replace h3 := hXR.old _ _ h3
    refine WC.ofFr [(1, _), (2, _), (3, _), (6, _), (10, _), (21, _), (22, _)] ⟨rfl, rfl, rfl, rfl, rfl, rfl, rfl, trivial⟩ (WC.region ?_)
    refine WL.yd (Yd.loadN Tryz.isAgg26 Tryz.sizeOf26 rfl (vs := [_, _, _, _, _]) rfl (by first | exact (RdN.imm (n := 5) h3 rfl) | exact (RdN.imm (n := 2) h3 rfl))) rfl ?_
    refine WL.yd (Yd.move rfl) rfl ?_
    refine WL.know 271 (.slice (owAt o) l.length (owCp o l.length)) rfl (owV_owL (owL_of ho)) ?_
    refine WL.so (SO.callP Tryz.call22 rfl (fun w hI => Gives.cv (.tuple #[it (ownS l l.length), it 0]) (Sum_g X a1 _ c1 _ _ hR hI.imm (revN l l.length) (owAt o) l.length (owCp o l.length) hBR) (by rw [hSR]; first | done | rfl))) rfl ?_
    rintro _ _ _ ⟨rfl, rfl, rfl⟩
    refine WL.yd (Yd.move rfl) rfl ?_
    refine WL.yd (Yd.extract rfl rfl) rfl ?_
    refine WL.yd (Yd.extract rfl rfl) rfl ?_
    refine WL.yd (Yd.assign rfl) rfl ?_
    refine WL.yd (Yd.assign rfl) rfl ?_
    refine WL.nil (WP.thenC (WC.seq (WC.seq (WC.ofFr [(26, _), (25, _), (1, _), (2, _), (3, _), (6, _), (10, _), (21, _)] ⟨rfl, rfl, rfl, rfl, rfl, rfl, rfl, rfl, trivial⟩ (WC.region ?_)))))
    refine WL.yd (Yd.move rfl) rfl ?_
    refine WL.yd (Yd.move rfl) rfl ?_
    refine WL.yd (Yd.neq rfl rfl) rfl ?_
    refine WL.know 277 (.bool false) rfl (congrArg Value.bool (by simp)) ?_
    refine WL.yd (Yd.move rfl) rfl ?_
    refine WL.ydg rfl (Yd.move rfl) rfl ?_
    refine WL.ydg rfl (Yd.move rfl) rfl ?_
    refine WL.ydg rfl (Yd.neq rfl rfl) rfl ?_
    refine WL.know 281 (.bool false) rfl (congrArg Value.bool (by simp)) ?_
    refine WL.yd (Yd.pickF rfl rfl) rfl ?_
    refine WL.yd (Yd.move rfl) rfl ?_
    refine WL.ydg rfl (Yd.move rfl) rfl ?_
    refine WL.ydg rfl (Yd.neq rfl rfl) rfl ?_
    refine WL.know 285 (.bool false) rfl (congrArg Value.bool (by decide)) ?_
    refine WL.yd (Yd.pickF rfl rfl) rfl ?_
    refine WL.nil (WP.thenC ?_)
    refine WC.condF rfl ?_
    refine WC.skip (WP.thenC (WC.seq (WC.seq (WC.ofFr [(1, _), (2, _), (3, _), (6, _)] ⟨rfl, rfl, rfl, rfl, trivial⟩ (WC.region ?_)))))
    refine WL.yd (Yd.move rfl) rfl ?_
    refine WL.yd (Yd.lenS rfl Tryz.underlying38 rfl) rfl ?_
    refine WL.yd (Yd.eql rfl rfl) rfl ?_
    refine WL.know 289 (.bool true) rfl (congrArg Value.bool (decide_eq_true (by (try dsimp only); omega))) ?_
    refine WL.nil (WP.thenC ?_)
    refine WC.condT rfl ?_
    refine WC.seq (WC.ofFr [(1, _), (2, _), (3, _), (6, _)] ⟨rfl, rfl, rfl, rfl, trivial⟩ (WC.region ?_))
    refine WL.so (SO.callP Tryz.call9 rfl (fun w hI => alive_g _ _ hI.imm)) rfl ?_
    rintro _ _ _ ⟨rfl, rfl, rfl⟩
    refine WL.yd (Yd.assign rfl) rfl ?_
    refine WL.nil (WP.thenC (WC.ret (WP.thenRet ?_)))
    refine WP.ret1 rfl rfl Tryz.results5 (RV.tmp rfl) (fun w hI => ⟨rfl, hI.keep⟩)

theorem check_h (X : Till) (a1 : Option Addr) (n1 c1 : Nat) (D : Imm) (w : World) (hS : SlL D 5 (X.tk.l.map tickC) a1 n1) (hH : Holds D w) (l : List Ent) (ab : Option Addr) (nb cb : Nat) (hL : SlL D 3 (l.map entC) ab nb) (hcap : nb ≤ cb) (m : Nat) (hm : m < 256) (hlo : max n1 nb ≤ 60) (h1 : tillB X = true) (h3l : nb ≤ 20) (h4 : l.all (entB X) = true) (hW : tksE X.tk true = 0) (hbr : brokL X l l.length = []) (hz : 0 < nb) : Gives Tryz.prog 5 [.agg #[it X.tk.huts, .slice a1 n1 c1, it X.price, it X.fine, it X.wait], .slice ab nb cb, .int .u8 m] w (.bool true) := by
  unfold Gives
  have hR : TksR D X.tk a1 n1 := ⟨hS, by omega⟩
  have hB : BookR D l ab nb := ⟨hL, by omega⟩
  obtain rfl := hR.tick.len'
  have hl1 := hR.len
  obtain rfl := hB.ent.len'
  have hrt := brok_right.1 hbr
  have hCO := check_right h1 h3l h4 hW hrt
  have hSO : SumOut X l = (ownS l l.length, 0) := sum_right h1 h3l h4 hW hrt
  have hSR := sum_rev h1 h3l h4 hW hrt
  have hpn : ∀ i, i < l.length → 0 ≤ (gt l i).pence ∧ (gt l i).pence ≤ 2400 := fun i hi => can_num h1 (hrt.2 _ (gt_mem hi))
  have hAl : (m % l.length) < l.length := Nat.mod_lt _ hz
  have hsub : (l.take (m % l.length) ++ l.drop ((m % l.length) + 1)).Sublist l := by rw [← List.eraseIdx_eq_take_drop_succ]; exact List.eraseIdx_sublist _ _
  have hlen2 : (l.take (m % l.length) ++ l.drop ((m % l.length) + 1)).length = l.length - 1 := by rw [List.length_append, List.length_take, List.length_drop]; omega
  have hCE := check_right h1 (by rw [hlen2]; omega) (all_subl hsub h4) hW (right_sub hsub hrt)
  refine enter Tryz.func5 rfl 345 Tryz.ntmps5 (zqb rfl) (Inv.start hH) ?_
  refine WC.seq (WC.ofFr [(0, _), (1, _), (2, _)] ⟨rfl, rfl, rfl, trivial⟩ (WC.region ?_))
  refine WL.so (SO.box rfl rfl) rfl ?_
  rintro _ _ _ ⟨b3, hb3, rfl, rfl, rfl⟩
  refine WL.yd (Yd.assign rfl) rfl ?_
  refine WL.nil (WP.thenC (WC.seq (WC.seq ?_)))
  refine WC.freezeN 0 b3 (.cells (List.toArray (tillC X (.slice a1 X.tk.l.length c1))) 26 (0, 0)) rfl rfl hb3 (fun D3 hX3 h3 => ?_)
  replace hR := hR.ext hX3
  replace hB := hB.ext hX3
  refine WC.ofFr [(6, _), (3, _), (1, _), (2, _)] ⟨rfl, rfl, rfl, rfl, trivial⟩ (WC.region ?_)
  refine WL.yd (Yd.loadN Tryz.isAgg26 Tryz.sizeOf26 rfl (vs := [_, _, _, _, _]) rfl (by first | exact (RdN.imm (n := 5) h3 rfl) | exact (RdN.imm (n := 2) h3 rfl))) rfl ?_
  refine WL.yd (Yd.move rfl) rfl ?_
  refine WL.so (SO.callP Tryz.call24 rfl (fun w hI => long_g X a1 ab _ c1 _ cb _)) rfl ?_
  rintro _ _ _ ⟨rfl, rfl, rfl⟩
  refine WL.know 36 (.bool false) rfl (congrArg Value.bool (decide_eq_false (by (try dsimp only); omega))) ?_
  refine WL.yd (Yd.move rfl) rfl ?_
  refine WL.ydg rfl (Yd.loadN Tryz.isAgg26 Tryz.sizeOf26 rfl (vs := [_, _, _, _, _]) rfl (by first | exact (RdN.imm (n := 5) h3 rfl) | exact (RdN.imm (n := 2) h3 rfl))) rfl ?_
  refine WL.sog rfl (SO.callP Tryz.call25 rfl (fun w hI => till13_g X a1 _ c1 _ _ hR hI.imm)) rfl ?_
  rintro _ _ _ ⟨rfl, rfl, rfl⟩
  refine WL.know 39 (.bool true) rfl (congrArg Value.bool h1) ?_
  refine WL.ydg rfl (Yd.not rfl) rfl ?_
  refine WL.yd (Yd.pickF rfl rfl) rfl ?_
  refine WL.nil (WP.thenC ?_)
  refine WC.condF rfl ?_
  refine WC.skip (WP.thenC (WC.seq (WC.ofFr [(6, _), (3, _), (1, _), (2, _)] ⟨rfl, rfl, rfl, rfl, trivial⟩ (WC.region ?_))))
  refine WL.yd (Yd.loadN Tryz.isAgg26 Tryz.sizeOf26 rfl (vs := [_, _, _, _, _]) rfl (by first | exact (RdN.imm (n := 5) h3 rfl) | exact (RdN.imm (n := 2) h3 rfl))) rfl ?_
  refine WL.yd (Yd.move rfl) rfl ?_
  refine WL.so (SO.callP Tryz.call18 rfl (fun w hI => Gives.cv (.tuple #[it 0, it 0, it 4]) (Check_g X a1 _ c1 _ _ hR hI.imm l ab _ cb hB) (by rw [hCO]; first | done | rfl))) rfl ?_
  rintro _ _ _ ⟨rfl, rfl, rfl⟩
  refine WL.yd (Yd.move rfl) rfl ?_
  refine WL.yd (Yd.extract rfl rfl) rfl ?_
  refine WL.yd (Yd.extract rfl rfl) rfl ?_
  refine WL.yd (Yd.extract rfl rfl) rfl ?_
  refine WL.yd (Yd.assign rfl) rfl ?_
  refine WL.yd (Yd.assign rfl) rfl ?_
  refine WL.yd (Yd.assign rfl) rfl ?_
  refine WL.nil (WP.thenC (WC.seq (WC.ofFr [(9, _), (8, _), (7, _), (6, _), (3, _), (1, _), (2, _)] ⟨rfl, rfl, rfl, rfl, rfl, rfl, rfl, trivial⟩ (WC.region ?_))))
  refine WL.yd (Yd.loadN Tryz.isAgg26 Tryz.sizeOf26 rfl (vs := [_, _, _, _, _]) rfl (by first | exact (RdN.imm (n := 5) h3 rfl) | exact (RdN.imm (n := 2) h3 rfl))) rfl ?_
  refine WL.yd (Yd.move rfl) rfl ?_
  refine WL.so (SO.callP Tryz.call22 rfl (fun w hI => Gives.cv (.tuple #[it (ownS l l.length), it 0]) (Sum_g X a1 _ c1 _ _ hR hI.imm l ab _ cb hB) (by rw [hSO]; first | done | rfl))) rfl ?_
  rintro _ _ _ ⟨rfl, rfl, rfl⟩
  refine WL.yd (Yd.move rfl) rfl ?_
  refine WL.yd (Yd.extract rfl rfl) rfl ?_
  refine WL.yd (Yd.extract rfl rfl) rfl ?_
  refine WL.yd (Yd.assign rfl) rfl ?_
  refine WL.yd (Yd.assign rfl) rfl ?_
  refine WL.nil (WP.thenC (WC.seq (WC.block (WC.seq (WC.ofFr [(11, _), (10, _), (9, _), (8, _), (7, _), (6, _), (3, _), (1, _), (2, _)] ⟨rfl, rfl, rfl, rfl, rfl, rfl, rfl, rfl, rfl, trivial⟩ (WC.region ?_))))))
  refine WL.yd (Yd.move rfl) rfl ?_
  refine WL.yd (Yd.lenS rfl Tryz.underlying38 rfl) rfl ?_
  refine WL.yd (Yd.gtr rfl rfl) rfl ?_
  refine WL.know 59 (.bool false) rfl (congrArg Value.bool (decide_eq_false (by (try dsimp only); omega))) ?_
  refine WL.yd (Yd.assign rfl) rfl ?_
  refine WL.nil (WP.thenC ?_)
  refine WC.condF rfl ?_
  refine WC.seq (WC.ofFr [(11, _), (10, _), (9, _), (8, _), (7, _), (6, _), (3, _), (1, _), (2, _)] ⟨rfl, rfl, rfl, rfl, rfl, rfl, rfl, rfl, rfl, trivial⟩ (WC.region ?_))
  refine WL.yd (Yd.loadN Tryz.isAgg26 Tryz.sizeOf26 rfl (vs := [_, _, _, _, _]) rfl (by first | exact (RdN.imm (n := 5) h3 rfl) | exact (RdN.imm (n := 2) h3 rfl))) rfl ?_
  refine WL.yd (Yd.move rfl) rfl ?_
  refine WL.so (SO.callP Tryz.call26 rfl (fun w hI => book13_g X a1 _ c1 _ _ hR hI.imm l ab _ cb hB)) rfl ?_
  rintro _ _ _ ⟨rfl, rfl, rfl⟩
  refine WL.know 85 (.bool true) rfl (congrArg Value.bool h4) ?_
  refine WL.yd (Yd.not rfl) rfl ?_
  refine WL.yd (Yd.assign rfl) rfl ?_
  refine WL.nil (WP.thenC ?_)
  refine WC.condF rfl ?_
  refine WC.seq (WC.ofFr [(11, _), (10, _), (9, _), (8, _), (7, _), (6, _), (3, _), (1, _), (2, _)] ⟨rfl, rfl, rfl, rfl, rfl, rfl, rfl, rfl, rfl, trivial⟩ (WC.region ?_))
  refine WL.yd (Yd.move rfl) rfl ?_
  refine WL.yd (Yd.eql rfl rfl) rfl ?_
  refine WL.know 111 (.bool false) rfl (congrArg Value.bool (by decide)) ?_
  refine WL.yd (Yd.assign rfl) rfl ?_
  refine WL.nil (WP.thenC ?_)
  refine WC.condF rfl ?_
  refine WC.skip (WP.blkNormal (WP.thenC (WC.seq (WC.seq (WC.ofFr [(11, _), (10, _), (9, _), (8, _), (7, _), (6, _), (3, _), (1, _), (2, _)] ⟨rfl, rfl, rfl, rfl, rfl, rfl, rfl, rfl, rfl, trivial⟩ (WC.region ?_))))))
  refine WL.yd (Yd.move rfl) rfl ?_
  refine WL.yd (Yd.eql rfl rfl) rfl ?_
  refine WL.know 142 (.bool false) rfl (congrArg Value.bool (by decide)) ?_
  refine WL.nil (WP.thenC ?_)
  refine WC.condF rfl ?_
  refine WC.skip (WP.thenC (WC.seq (WC.seq (WC.ofFr [(11, _), (10, _), (9, _), (8, _), (7, _), (6, _), (3, _), (1, _), (2, _)] ⟨rfl, rfl, rfl, rfl, rfl, rfl, rfl, rfl, rfl, trivial⟩ (WC.region ?_)))))
  refine WL.yd (Yd.move rfl) rfl ?_
  refine WL.yd (Yd.neq rfl rfl) rfl ?_
  refine WL.know 226 (.bool false) rfl (congrArg Value.bool (by decide)) ?_
  refine WL.yd (Yd.move rfl) rfl ?_
  refine WL.ydg rfl (Yd.move rfl) rfl ?_
  refine WL.ydg rfl (Yd.neq rfl rfl) rfl ?_
  refine WL.know 229 (.bool false) rfl (congrArg Value.bool (by decide)) ?_
  refine WL.yd (Yd.pickF rfl rfl) rfl ?_
  refine WL.yd (Yd.move rfl) rfl ?_
  refine WL.ydg rfl (Yd.move rfl) rfl ?_
  refine WL.ydg rfl (Yd.neq rfl rfl) rfl ?_
  refine WL.know 233 (.bool false) rfl (congrArg Value.bool (by decide)) ?_
  refine WL.yd (Yd.pickF rfl rfl) rfl ?_
  refine WL.yd (Yd.move rfl) rfl ?_
  refine WL.ydg rfl (Yd.move rfl) rfl ?_
  refine WL.ydg rfl (Yd.neq rfl rfl) rfl ?_
  refine WL.know 237 (.bool false) rfl (congrArg Value.bool (by decide)) ?_
  refine WL.yd (Yd.pickF rfl rfl) rfl ?_
  refine WL.nil (WP.thenC ?_)
  refine WC.condF rfl ?_
  refine WC.skip (WP.thenC (WC.seq (WC.ofFr [(10, _), (6, _), (3, _), (1, _), (2, _)] ⟨rfl, rfl, rfl, rfl, rfl, trivial⟩ (WC.region ?_))))
  refine WL.yd (Yd.assign rfl) rfl ?_
  refine WL.nil (WP.thenC (WC.seq (WC.ofFr [(21, _), (10, _), (6, _), (3, _), (1, _), (2, _)] ⟨rfl, rfl, rfl, rfl, rfl, rfl, trivial⟩ (WC.region ?_))))
  refine WL.yd (Yd.assign rfl) rfl ?_
  refine WL.nil (WP.thenC (WC.seq (WC.seq (WC.ofFr [(22, _), (21, _), (10, _), (6, _), (3, _), (1, _), (2, _)] ⟨rfl, rfl, rfl, rfl, rfl, rfl, rfl, trivial⟩ (WC.region ?_)))))
  refine WL.yd (Yd.move rfl) rfl ?_
  refine WL.yd (Yd.lenS rfl Tryz.underlying38 rfl) rfl ?_
  refine WL.yd (Yd.move rfl) rfl ?_
  refine WL.nil (WP.thenC (WC.block ?_))
  refine WC.loopT [] (fun y : Nat × Option Ow => [(1, .slice ab l.length cb), (2, .int .u8 m), (3, pt b3), (6, .bool false), (10, it (ownS l l.length)), (21, it (ownS l y.1)), (22, owV y.2 y.1), (239, .slice ab l.length cb), (240, nt l.length), (241, nt y.1)]) (fun y => owH y.2 49 ((revN l y.1).flatMap entC) []) (fun y => y.1 ≤ l.length ∧ owP w y.2 y.1 3) (fun y => l.length - y.1) (0, none) ⟨by omega, rfl⟩ rfl ⟨rfl, rfl, rfl, rfl, rfl, rfl, rfl, rfl, rfl, rfl, trivial⟩ ?_
  rintro ⟨k, o⟩ ⟨hk, ho⟩
  dsimp only at hk ho
  refine WC.seq (WC.ofFr [(1, _), (2, _), (3, _), (6, _), (10, _), (21, _), (22, _), (239, _), (240, _), (241, _)] ⟨rfl, rfl, rfl, rfl, rfl, rfl, rfl, rfl, rfl, rfl, trivial⟩ (WC.region ?_))
  refine WL.yd (Yd.lss rfl rfl) rfl ?_
  refine WL.nil (WP.thenC (WC.seq ?_))
  refine WC.cond rfl (fun c242 => ?_) (fun c242 => ?_)
  · try simp only [zq1, zq2, zq3, zq4, zq5, zq6, zq7, zq8] at c242
    have hkl : k < l.length := by omega
    have hon := ownS_num hpn k (by omega)
    have hpk := hpn k hkl
    refine WC.skip (WP.thenC (WC.seq (WC.block (WC.seq (WC.ofFr [(1, _), (2, _), (3, _), (6, _), (10, _), (21, _), (22, _), (239, _), (240, _), (241, _)] ⟨rfl, rfl, rfl, rfl, rfl, rfl, rfl, rfl, rfl, rfl, trivial⟩ (WC.region ?_))))))
    refine WL.yd (Yd.move rfl) rfl ?_
    refine WL.yd (Yd.indexS Tryz.underlying38 Tryz.sizeOf49 rfl rfl (by omega) (by omega) (by first | exact hB.ent.addr k (by omega))) rfl ?_
    refine WL.yd (Yd.loadN Tryz.isAgg49 Tryz.sizeOf49 rfl (vs := [_, _, _]) rfl ((hB.ent.at k (by omega)).rdn 0 3 rfl)) rfl ?_
    refine WL.so (SO.alloc Tryz.zeroValue49 rfl) rfl ?_
    rintro _ _ _ ⟨b24, hb24, rfl, rfl, rfl⟩
    refine WL.yd (Yd.assign rfl) rfl ?_
    refine WL.so (SO.store 0 rfl Tryz.sizeOf49 rfl rfl rfl rfl (zqb rfl) (oneB_spec rfl)) rfl ?_
    rintro _ _ _ ⟨rfl, rfl, rfl⟩
    refine WL.nil (WP.thenC (WC.seq (WC.ofFr [(23, _), (24, _), (1, _), (2, _), (3, _), (6, _), (10, _), (21, _), (22, _), (239, _), (240, _), (241, _)] ⟨rfl, rfl, rfl, rfl, rfl, rfl, rfl, rfl, rfl, rfl, rfl, rfl, trivial⟩ (WC.region ?_))))
    refine WL.yd (Yd.move rfl) rfl ?_
    refine WL.yd (Yd.move rfl) rfl ?_
    refine WL.yd (Yd.move rfl) rfl ?_
    refine WL.yd (Yd.lenS rfl Tryz.underlying38 rfl) rfl ?_
    refine WL.yd (Yd.subN (i := l.length) (j := 1) rfl rfl (by omega) (by omega)) rfl ?_
    refine WL.yd (Yd.move rfl) rfl ?_
    refine WL.yd (Yd.subN (i := l.length - 1) (j := k) rfl rfl (by omega) (by omega)) rfl ?_
    refine WL.yd (Yd.indexS Tryz.underlying38 Tryz.sizeOf49 rfl rfl (by omega) (by omega) (by first | exact hB.ent.addr (l.length - 1 - k) (by omega))) rfl ?_
    refine WL.yd (Yd.loadN Tryz.isAgg49 Tryz.sizeOf49 rfl (vs := [_, _, _]) rfl ((hB.ent.at (l.length - 1 - k) (by omega)).rdn 0 3 rfl)) rfl ?_
    refine WL.so (SO.buildSlice Tryz.underlying38 Tryz.sizeOf49 Tryz.zeroValue49 rfl rfl rfl rfl (cs := [_, _, _]) rfl) rfl ?_
    rintro _ _ _ ⟨b255, hb255, rfl, rfl, rfl⟩
    refine WL.so (SO.appendOw (o := o) (len := k) (n := 1) (xs := ((revN l k).flatMap entC)) (size := 3) [_] [_] [] rfl rfl Tryz.underlying38 Tryz.sizeOf49 Tryz.typeInfo49 Tryz.zeroValue49 rfl rfl rfl rfl ⟨rfl, .inr ⟨_, _, _, rfl, RdN.own (k := 0) (n := 3) rfl rfl⟩⟩ (oneB_spec rfl) ho (by rw [flat_len entC_len, revN_len]) (by omega) (by show (2 * (_ + _) + 1000) * 24 ≤ 2 ^ 48; omega) (by omega)) rfl ?_
    rintro _ _ _ ⟨u1, hu1, rfl, rfl, rfl⟩
    refine WL.yd (Yd.assign rfl) rfl ?_
    refine WL.nil (WP.thenC (WC.seq (WC.ofFr [(22, _), (24, _), (1, _), (2, _), (3, _), (6, _), (10, _), (21, _), (239, _), (240, _), (241, _)] ⟨rfl, rfl, rfl, rfl, rfl, rfl, rfl, rfl, rfl, rfl, rfl, trivial⟩ (WC.region ?_))))
    refine WL.yd (Yd.fieldAddr FA49_1 rfl) rfl ?_
    refine WL.yd (Yd.load1 Tryz.isAgg3 rfl (Rd.own (k := 0) rfl rfl)) rfl ?_
    refine WL.yd (Yd.eql rfl rfl) rfl ?_
    refine WL.nil (WP.thenC ?_)
    refine WC.cond rfl (fun c259 => ?_) (fun c259 => ?_)
    · try simp only [zq1, zq2, zq3, zq4, zq5, zq6, zq7, zq8] at c259
      refine WC.ofFr [(22, _), (24, _), (1, _), (2, _), (3, _), (6, _), (10, _), (21, _), (239, _), (240, _), (241, _)] ⟨rfl, rfl, rfl, rfl, rfl, rfl, rfl, rfl, rfl, rfl, rfl, trivial⟩ (WC.region ?_)
      refine WL.yd (Yd.move rfl) rfl ?_
      refine WL.yd (Yd.fieldAddr FA49_2 rfl) rfl ?_
      refine WL.yd (Yd.load1 Tryz.isAgg3 rfl (Rd.own (k := 0) rfl rfl)) rfl ?_
      refine WL.know 260 (it (ownS l k)) rfl rfl ?_
      refine WL.know 262 (it (gt l k).pence) rfl rfl ?_
      refine WL.yd (Yd.sub rfl rfl (wr64 ⟨by omega, by omega⟩)) rfl ?_
      refine WL.yd (Yd.assign rfl) rfl ?_
      refine WL.nil (WP.blkNormal (WP.thenC (WC.ofFr [(21, _), (22, _), (1, _), (2, _), (3, _), (6, _), (10, _), (239, _), (240, _), (241, _)] ⟨rfl, rfl, rfl, rfl, rfl, rfl, rfl, rfl, rfl, rfl, trivial⟩ (WC.region ?_))))
      refine WL.yd (Yd.addN (i := k) (j := 1) rfl rfl (by omega)) rfl ?_
      refine WL.yd (Yd.move rfl) rfl ?_
      refine WL.nil ?_
      exact WP.againT (⟨k + 1, some u1⟩ : Nat × Option Ow) ⟨by simp only; omega, hu1⟩ (by simp only; omega) [_] _ rfl (by show _ = _ ++ owH (some u1) _ ((revN l (k + 1)).flatMap entC) []; rw [revN_succ, List.flatMap_append]; rfl) ⟨rfl, rfl, rfl, rfl, rfl, by rw [ownS_succ]; unfold signI; first | (rw [if_pos c259]; exact congrArg (fun x => some (it x)) (show ownS l k - (gt l k).pence = ownS l k + (gt l k).pence * -1 by omega)) | (rw [if_neg c259]; rfl), rfl, rfl, rfl, rfl, trivial⟩
    · try simp only [zq1, zq2, zq3, zq4, zq5, zq6, zq7, zq8] at c259
      refine WC.ofFr [(22, _), (24, _), (1, _), (2, _), (3, _), (6, _), (10, _), (21, _), (239, _), (240, _), (241, _)] ⟨rfl, rfl, rfl, rfl, rfl, rfl, rfl, rfl, rfl, rfl, rfl, trivial⟩ (WC.region ?_)
      refine WL.yd (Yd.move rfl) rfl ?_
      refine WL.yd (Yd.fieldAddr FA49_2 rfl) rfl ?_
      refine WL.yd (Yd.load1 Tryz.isAgg3 rfl (Rd.own (k := 0) rfl rfl)) rfl ?_
      refine WL.know 264 (it (ownS l k)) rfl rfl ?_
      refine WL.know 266 (it (gt l k).pence) rfl rfl ?_
      refine WL.yd (Yd.add rfl rfl (wr64 ⟨by omega, by omega⟩)) rfl ?_
      refine WL.yd (Yd.assign rfl) rfl ?_
      refine WL.nil (WP.blkNormal (WP.thenC (WC.ofFr [(21, _), (22, _), (1, _), (2, _), (3, _), (6, _), (10, _), (239, _), (240, _), (241, _)] ⟨rfl, rfl, rfl, rfl, rfl, rfl, rfl, rfl, rfl, rfl, trivial⟩ (WC.region ?_))))
      refine WL.yd (Yd.addN (i := k) (j := 1) rfl rfl (by omega)) rfl ?_
      refine WL.yd (Yd.move rfl) rfl ?_
      refine WL.nil ?_
      exact WP.againT (⟨k + 1, some u1⟩ : Nat × Option Ow) ⟨by simp only; omega, hu1⟩ (by simp only; omega) [_] _ rfl (by show _ = _ ++ owH (some u1) _ ((revN l (k + 1)).flatMap entC) []; rw [revN_succ, List.flatMap_append]; rfl) ⟨rfl, rfl, rfl, rfl, rfl, by rw [ownS_succ]; unfold signI; first | (rw [if_pos c259]; exact congrArg (fun x => some (it x)) (show ownS l k - (gt l k).pence = ownS l k + (gt l k).pence * -1 by omega)) | (rw [if_neg c259]; rfl), rfl, rfl, rfl, rfl, trivial⟩
  · try simp only [zq1, zq2, zq3, zq4, zq5, zq6, zq7, zq8] at c242
    refine WC.exit ?_
    refine WP.thenExit ?_
    refine WP.thenExit ?_
    refine WP.blkHit ?_
    refine WP.thenC (WC.seq ?_)
    obtain rfl : k = l.length := by omega
    refine WC.freezeOw (f := entC) (m := 3) entC_len [] [] o 49 (revN l l.length) rfl (by rw [revN_len]; exact ho) rfl (fun DR hXR hSlR => ?_)
    rw [revN_len] at hSlR
    have hBR : BookR DR (revN l l.length) (owAt o) l.length := ⟨hSlR, by omega⟩
    replace hR := hR.ext hXR
    replace hB := hB.ext hXR
    replace h3 := hXR.old _ _ h3
    refine WC.ofFr [(1, _), (2, _), (3, _), (6, _), (10, _), (21, _), (22, _)] ⟨rfl, rfl, rfl, rfl, rfl, rfl, rfl, trivial⟩ (WC.region ?_)
    refine WL.yd (Yd.loadN Tryz.isAgg26 Tryz.sizeOf26 rfl (vs := [_, _, _, _, _]) rfl (by first | exact (RdN.imm (n := 5) h3 rfl) | exact (RdN.imm (n := 2) h3 rfl))) rfl ?_
    refine WL.yd (Yd.move rfl) rfl ?_
    refine WL.know 271 (.slice (owAt o) l.length (owCp o l.length)) rfl (owV_owL (owL_of ho)) ?_
    refine WL.so (SO.callP Tryz.call22 rfl (fun w hI => Gives.cv (.tuple #[it (ownS l l.length), it 0]) (Sum_g X a1 _ c1 _ _ hR hI.imm (revN l l.length) (owAt o) l.length (owCp o l.length) hBR) (by rw [hSR]; first | done | rfl))) rfl ?_
    rintro _ _ _ ⟨rfl, rfl, rfl⟩
    refine WL.yd (Yd.move rfl) rfl ?_
    refine WL.yd (Yd.extract rfl rfl) rfl ?_
    refine WL.yd (Yd.extract rfl rfl) rfl ?_
    refine WL.yd (Yd.assign rfl) rfl ?_
    refine WL.yd (Yd.assign rfl) rfl ?_
    refine WL.nil (WP.thenC (WC.seq (WC.seq (WC.ofFr [(26, _), (25, _), (1, _), (2, _), (3, _), (6, _), (10, _), (21, _)] ⟨rfl, rfl, rfl, rfl, rfl, rfl, rfl, rfl, trivial⟩ (WC.region ?_)))))
    refine WL.yd (Yd.move rfl) rfl ?_
    refine WL.yd (Yd.move rfl) rfl ?_
    refine WL.yd (Yd.neq rfl rfl) rfl ?_
    refine WL.know 277 (.bool false) rfl (congrArg Value.bool (by simp)) ?_
    refine WL.yd (Yd.move rfl) rfl ?_
    refine WL.ydg rfl (Yd.move rfl) rfl ?_
    refine WL.ydg rfl (Yd.move rfl) rfl ?_
    refine WL.ydg rfl (Yd.neq rfl rfl) rfl ?_
    refine WL.know 281 (.bool false) rfl (congrArg Value.bool (by simp)) ?_
    refine WL.yd (Yd.pickF rfl rfl) rfl ?_
    refine WL.yd (Yd.move rfl) rfl ?_
    refine WL.ydg rfl (Yd.move rfl) rfl ?_
    refine WL.ydg rfl (Yd.neq rfl rfl) rfl ?_
    refine WL.know 285 (.bool false) rfl (congrArg Value.bool (by decide)) ?_
    refine WL.yd (Yd.pickF rfl rfl) rfl ?_
    refine WL.nil (WP.thenC ?_)
    refine WC.condF rfl ?_
    refine WC.skip (WP.thenC (WC.seq (WC.seq (WC.ofFr [(1, _), (2, _), (3, _), (6, _)] ⟨rfl, rfl, rfl, rfl, trivial⟩ (WC.region ?_)))))
    refine WL.yd (Yd.move rfl) rfl ?_
    refine WL.yd (Yd.lenS rfl Tryz.underlying38 rfl) rfl ?_
    refine WL.yd (Yd.eql rfl rfl) rfl ?_
    refine WL.know 289 (.bool false) rfl (congrArg Value.bool (decide_eq_false (by (try dsimp only); omega))) ?_
    refine WL.nil (WP.thenC ?_)
    refine WC.condF rfl ?_
    refine WC.skip (WP.thenC (WC.seq (WC.ofFr [(1, _), (2, _), (3, _), (6, _)] ⟨rfl, rfl, rfl, rfl, trivial⟩ (WC.region ?_))))
    refine WL.yd (Yd.move rfl) rfl ?_
    refine WL.yd (Yd.conv Tryz.underlying5 Tryz.underlying3 rfl (wr64 ⟨by omega, by omega⟩)) rfl ?_
    refine WL.yd (Yd.move rfl) rfl ?_
    refine WL.yd (Yd.lenS rfl Tryz.underlying38 rfl) rfl ?_
    refine WL.yd (Yd.remN (i := m) (j := l.length) rfl rfl (by omega)) rfl ?_
    refine WL.yd (Yd.assign rfl) rfl ?_
    refine WL.nil (WP.thenC (WC.seq (WC.ofFr [(27, _), (1, _), (3, _), (6, _)] ⟨rfl, rfl, rfl, rfl, trivial⟩ ?_)))
    refine WC.drawH [] (by kernel_rfl) (fun _ hI => hI.drop 99) ?_
    refine WH.yd (i := 0) (by kernel_rfl) (fun _ o v c a w _ h => (QuietPanic.then QuietPanic.body) c o.dst v a w h) rfl (Yd.loadN Tryz.isAgg26 Tryz.sizeOf26 rfl (vs := [_, _, _, _, _]) rfl (by first | exact (RdN.imm (n := 5) h3 rfl) | exact (RdN.imm (n := 2) h3 rfl))) rfl ?_
    refine WH.yd (i := 2) (by kernel_rfl) (fun _ o v c a w _ h => (QuietPanic.then QuietPanic.body) c o.dst v a w h) rfl (Yd.move rfl) rfl ?_
    refine WH.yd (i := 3) (by kernel_rfl) (fun _ o v c a w _ h => (QuietPanic.then QuietPanic.body) c o.dst v a w h) rfl (Yd.move rfl) rfl ?_
    refine WH.yd (i := 4) (by kernel_rfl) (fun _ o v c a w _ h => (QuietPanic.then QuietPanic.body) c o.dst v a w h) rfl (Yd.sliceTo (h := (m % l.length)) Tryz.underlying38 Tryz.sizeOf49 rfl rfl (by omega)) rfl ?_
    refine WH.yd (i := 6) (by kernel_rfl) (fun _ o v c a w _ h => (QuietPanic.then QuietPanic.body) c o.dst v a w h) rfl (Yd.move rfl) rfl ?_
    refine WH.yd (i := 7) (by kernel_rfl) (fun _ o v c a w _ h => (QuietPanic.then QuietPanic.body) c o.dst v a w h) rfl (Yd.move rfl) rfl ?_
    refine WH.yd (i := 8) (by kernel_rfl) (fun _ o v c a w _ h => (QuietPanic.then QuietPanic.body) c o.dst v a w h) rfl (Yd.addN (i := (m % l.length)) (j := 1) rfl rfl (by omega)) rfl ?_
    refine WH.yd (i := 9) (by kernel_rfl) (fun _ o v c a w _ h => (QuietPanic.then QuietPanic.body) c o.dst v a w h) rfl (Yd.sliceFrom (k := (m % l.length) + 1) Tryz.underlying38 Tryz.sizeOf49 rfl rfl (by omega)) rfl ?_
    refine WH.one (i := 1) (by kernel_rfl) (WHo.so rfl (SO.buildSlice0 Tryz.underlying38 Tryz.sizeOf49) rfl ?_)
    rintro _ _ _ ⟨b298, hb298, rfl, rfl, rfl⟩
    refine ⟨(by first | exact (fun _ hI => hI.drop 99) | exact (fun _ hI => (hI.drop 99).shrink hX7.old) | exact (fun _ hI => (hI.drop 99).shrink hX9.old)), ?_⟩
    refine WH.one (i := 5) (by kernel_rfl) (WHo.so rfl (SO.appendSome (o := ⟨b298, 0, []⟩) (len := 0) (n := (m % l.length)) (xs := (([] : List Ent).flatMap entC)) (ys := ((l.take (m % l.length)).flatMap entC)) (size := 3) [] [] rfl rfl Tryz.underlying38 Tryz.sizeOf49 Tryz.typeInfo49 Tryz.zeroValue49 rfl rfl rfl rfl (rdS_of (bookTake hB (by omega)).ent (addr_some hB hz)) (by first | exact ents_ones _ | exact entC_ones _) ⟨hb298, Nat.le_refl 0, rfl⟩ (by first | rfl | exact flat_len entC_len _ | (rw [flat_len entC_len, List.length_take]; omega)) (by show (2 * (_ + _) + 1000) * 24 ≤ 2 ^ 48; omega) (by omega)) rfl ?_)
    rintro _ _ _ ⟨u1, hu1, rfl, rfl, rfl⟩
    rw [Nat.zero_add (m % l.length), List.flatMap_nil, List.nil_append]
    rw [Nat.zero_add] at hu1
    refine ⟨(by first | exact (fun _ hI => hI.drop 99) | exact (fun _ hI => (hI.drop 99).shrink hX7.old) | exact (fun _ hI => (hI.drop 99).shrink hX9.old)), ?_⟩
    refine WH.one (i := 10) (by kernel_rfl) (WHo.so rfl (SO.appendSome (o := u1) (len := (m % l.length)) (n := (l.length - ((m % l.length) + 1))) (xs := ((l.take (m % l.length)).flatMap entC)) (ys := ((l.drop ((m % l.length) + 1)).flatMap entC)) (size := 3) [] [] rfl rfl Tryz.underlying38 Tryz.sizeOf49 Tryz.typeInfo49 Tryz.zeroValue49 rfl rfl rfl rfl (rdS_of (dropS hB (by omega) hcap) (fromA_some (addr_some hB hz))) (by first | exact ents_ones _ | exact entC_ones _) hu1 (by first | rfl | exact flat_len entC_len _ | (rw [flat_len entC_len, List.length_take]; omega)) (by show (2 * (_ + _) + 1000) * 24 ≤ 2 ^ 48; omega) (by omega)) rfl ?_)
    rintro _ _ _ ⟨u2, hu2, rfl, rfl, rfl⟩
    rw [show (m % l.length) + (l.length - ((m % l.length) + 1)) = l.length - 1 by omega]
    refine ⟨(by first | exact (fun _ hI => hI.drop 99) | exact (fun _ hI => (hI.drop 99).shrink hX7.old) | exact (fun _ hI => (hI.drop 99).shrink hX9.old)), ?_⟩
    refine WH.freezeN 0 _ _ rfl rfl hu2.1 (fun D7 hX7 h7 => ?_)
    have hB7 : BookR D7 (l.take (m % l.length) ++ l.drop ((m % l.length) + 1)) (some ⟨u2.b, 0, none⟩) (l.length - 1) := ⟨by have h9 := SlL.ofBlock (l := l.take (m % l.length) ++ l.drop ((m % l.length) + 1)) entC_len (by rw [List.flatMap_append]; exact h7); rw [hlen2] at h9; exact h9, by omega⟩
    replace hR := hR.ext hX7
    replace hB := hB.ext hX7
    replace h3 := hX7.old _ _ h3
    refine WH.one (i := 11) (by kernel_rfl) (WHo.so rfl (SO.callP Tryz.call18 rfl (fun w hI => Gives.cv (.tuple #[it 0, it 0, it 4]) (Check_g X a1 _ c1 _ _ hR hI.imm (l.take (m % l.length) ++ l.drop ((m % l.length) + 1)) (some ⟨u2.b, 0, none⟩) _ u2.cap hB7) (by rw [hCE]; first | done | rfl))) rfl ?_)
    rintro _ _ _ ⟨rfl, rfl, rfl⟩
    refine ⟨(by first | exact (fun _ hI => hI.drop 99) | exact (fun _ hI => (hI.drop 99).shrink hX7.old) | exact (fun _ hI => (hI.drop 99).shrink hX9.old)), ?_⟩
    refine WH.yd (i := 12) (by kernel_rfl) (fun _ o v c a w _ h => (QuietPanic.then QuietPanic.body) c o.dst v a w h) rfl (Yd.move rfl) rfl ?_
    refine WH.yd (i := 13) (by kernel_rfl) (fun _ o v c a w _ h => (QuietPanic.then QuietPanic.body) c o.dst v a w h) rfl (Yd.extract rfl rfl) rfl ?_
    refine WH.yd (i := 14) (by kernel_rfl) (fun _ o v c a w _ h => (QuietPanic.then QuietPanic.body) c o.dst v a w h) rfl (Yd.extract rfl rfl) rfl ?_
    refine WH.yd (i := 15) (by kernel_rfl) (fun _ o v c a w _ h => (QuietPanic.then QuietPanic.body) c o.dst v a w h) rfl (Yd.extract rfl rfl) rfl ?_
    refine WH.yd (i := 16) (by kernel_rfl) (fun _ o v c a w _ h => (QuietPanic.then QuietPanic.body) c o.dst v a w h) rfl (Yd.assign rfl) rfl ?_
    refine WH.yd (i := 17) (by kernel_rfl) (fun _ o v c a w _ h => (QuietPanic.then QuietPanic.body) c o.dst v a w h) rfl (Yd.assign rfl) rfl ?_
    refine WH.yd (i := 18) (by kernel_rfl) (fun _ o v c a w _ h => (QuietPanic.then QuietPanic.body) c o.dst v a w h) rfl (Yd.assign rfl) rfl ?_
    refine WH.nil (by kernel_rfl) ?_
    refine WP.thenC (WC.seq (WC.seq (WC.ofFr [(30, _), (27, _), (1, _), (3, _), (6, _)] ⟨rfl, rfl, rfl, rfl, rfl, trivial⟩ (WC.region ?_))))
    refine WL.yd (Yd.move rfl) rfl ?_
    refine WL.yd (Yd.neq rfl rfl) rfl ?_
    refine WL.know 313 (.bool false) rfl (congrArg Value.bool (by decide)) ?_
    refine WL.nil (WP.thenC ?_)
    refine WC.condF rfl ?_
    refine WC.skip (WP.thenC (WC.seq (WC.seq (WC.ofFr [(27, _), (1, _), (3, _), (6, _)] ⟨rfl, rfl, rfl, rfl, trivial⟩ (WC.region ?_)))))
    refine WL.yd (Yd.move rfl) rfl ?_
    refine WL.yd (Yd.lenS rfl Tryz.underlying38 rfl) rfl ?_
    refine WL.yd (Yd.lss rfl rfl) rfl ?_
    refine WL.nil (WP.thenC ?_)
    refine WC.cond rfl (fun c316 => ?_) (fun c316 => ?_)
    · try simp only [zq1, zq2, zq3, zq4, zq5, zq6, zq7, zq8] at c316
      refine WC.seq (WC.ofFr [(27, _), (1, _), (3, _), (6, _)] ⟨rfl, rfl, rfl, rfl, trivial⟩ ?_)
      refine WC.drawH [] (by kernel_rfl) (fun _ hI => hI.drop 99) ?_
      refine WH.yd (i := 0) (by kernel_rfl) (fun _ o v c a w _ h => (QuietPanic.then (QuietPanic.then QuietPanic.body)) c o.dst v a w h) rfl (Yd.loadN Tryz.isAgg26 Tryz.sizeOf26 rfl (vs := [_, _, _, _, _]) rfl (by first | exact ((hB.ent.at (m % l.length) hAl).rdn 0 3 rfl) | exact (RdN.imm (n := 5) h3 rfl) | exact (RdN.imm (n := 2) h3 rfl))) rfl ?_
      refine WH.yd (i := 2) (by kernel_rfl) (fun _ o v c a w _ h => (QuietPanic.then (QuietPanic.then QuietPanic.body)) c o.dst v a w h) rfl (Yd.move rfl) rfl ?_
      refine WH.yd (i := 4) (by kernel_rfl) (fun _ o v c a w _ h => (QuietPanic.then (QuietPanic.then QuietPanic.body)) c o.dst v a w h) rfl (Yd.move rfl) rfl ?_
      refine WH.yd (i := 5) (by kernel_rfl) (fun _ o v c a w _ h => (QuietPanic.then (QuietPanic.then QuietPanic.body)) c o.dst v a w h) rfl (Yd.move rfl) rfl ?_
      refine WH.yd (i := 6) (by kernel_rfl) (fun _ o v c a w _ h => (QuietPanic.then (QuietPanic.then QuietPanic.body)) c o.dst v a w h) rfl (Yd.indexS Tryz.underlying38 Tryz.sizeOf49 rfl rfl (by omega) (by omega) (by first | exact hB.ent.addr (m % l.length) hAl)) rfl ?_
      refine WH.yd (i := 7) (by kernel_rfl) (fun _ o v c a w _ h => (QuietPanic.then (QuietPanic.then QuietPanic.body)) c o.dst v a w h) rfl (Yd.loadN Tryz.isAgg49 Tryz.sizeOf49 rfl (vs := [_, _, _]) rfl (by first | exact ((hB.ent.at (m % l.length) hAl).rdn 0 3 rfl) | exact (RdN.imm (n := 5) h3 rfl) | exact (RdN.imm (n := 2) h3 rfl))) rfl ?_
      refine WH.two (i := 1) (j := 8) (by kernel_rfl) ?_ ?_
      · refine WHo.so rfl (SO.buildSlice0 Tryz.underlying38 Tryz.sizeOf49) rfl ?_
        rintro _ _ _ ⟨b319, hb319, rfl, rfl, rfl⟩
        refine ⟨(by first | exact (fun _ hI => hI.drop 99) | exact (fun _ hI => (hI.drop 99).shrink hX7.old) | exact (fun _ hI => (hI.drop 99).shrink hX9.old)), ?_⟩
        refine WH.two (i := 3) (j := 8) (by kernel_rfl) ?_ ?_
        · refine WHo.so rfl (SO.appendSome (o := ⟨b319, 0, []⟩) (len := 0) (n := l.length) (xs := (([] : List Ent).flatMap entC)) (ys := (l.flatMap entC)) (size := 3) [] [] rfl rfl Tryz.underlying38 Tryz.sizeOf49 Tryz.typeInfo49 Tryz.zeroValue49 rfl rfl rfl rfl (rdS_of hB.ent (addr_some hB hz)) (by first | exact ents_ones _ | exact entC_ones _) ⟨hb319, Nat.le_refl 0, rfl⟩ (by first | rfl | exact flat_len entC_len _ | (rw [flat_len entC_len, List.length_take]; omega)) (by show (2 * (_ + _) + 1000) * 24 ≤ 2 ^ 48; omega) (by omega)) rfl ?_
          rintro _ _ _ ⟨u1, hu1, rfl, rfl, rfl⟩
          rw [Nat.zero_add l.length, List.flatMap_nil, List.nil_append]
          rw [Nat.zero_add] at hu1
          refine ⟨(by first | exact (fun _ hI => hI.drop 99) | exact (fun _ hI => (hI.drop 99).shrink hX7.old) | exact (fun _ hI => (hI.drop 99).shrink hX9.old)), ?_⟩
          refine WH.one (i := 8) (by kernel_rfl) (WHo.so rfl (SO.buildSlice Tryz.underlying38 Tryz.sizeOf49 Tryz.zeroValue49 rfl rfl rfl rfl (cs := [_, _, _]) rfl) rfl ?_)
          rintro _ _ _ ⟨b326, hb326, rfl, rfl, rfl⟩
          refine ⟨(by first | exact (fun _ hI => hI.drop 99) | exact (fun _ hI => (hI.drop 99).shrink hX7.old) | exact (fun _ hI => (hI.drop 99).shrink hX9.old)), ?_⟩
          refine WH.one (i := 9) (by kernel_rfl) (WHo.so rfl (SO.appendSome (o := u1) (len := l.length) (n := 1) (xs := (l.flatMap entC)) (ys := (entC (gt l (m % l.length)))) (size := 3) [_] [] rfl rfl Tryz.underlying38 Tryz.sizeOf49 Tryz.typeInfo49 Tryz.zeroValue49 rfl rfl rfl rfl (⟨rfl, .inr ⟨_, _, _, rfl, RdN.own (k := 0) (n := 3) rfl rfl⟩⟩) (by first | exact ents_ones _ | exact entC_ones _) hu1 (by first | rfl | exact flat_len entC_len _ | (rw [flat_len entC_len, List.length_take]; omega)) (by show (2 * (_ + _) + 1000) * 24 ≤ 2 ^ 48; omega) (by omega)) rfl ?_)
          rintro _ _ _ ⟨u2, hu2, rfl, rfl, rfl⟩
          refine ⟨(by first | exact (fun _ hI => hI.drop 99) | exact (fun _ hI => (hI.drop 99).shrink hX7.old) | exact (fun _ hI => (hI.drop 99).shrink hX9.old)), ?_⟩
          refine WH.freezeN 1 _ _ rfl rfl hu2.1 (fun D9 hX9 h9 => ?_)
          have hB9 : BookR D9 (l ++ [gt l (m % l.length)]) (some ⟨u2.b, 0, none⟩) (l.length + 1) := ⟨by have h8 := SlL.ofBlock (l := l ++ [gt l (m % l.length)]) entC_len (by rw [List.flatMap_append]; exact h9); rw [List.length_append, List.length_singleton] at h8; exact h8, by omega⟩
          replace hR := hR.ext hX9
          refine WH.one (i := 10) (by kernel_rfl) (WHo.so rfl (SO.callP Tryz.call18 rfl (fun w hI => Gives.cv (.tuple #[it (l.length : Int), it 1, it 0]) (Check_g X a1 _ c1 _ _ hR hI.imm (l ++ [gt l (m % l.length)]) (some ⟨u2.b, 0, none⟩) _ u2.cap hB9) (by rw [check_again h1 (by omega) h4 hW hrt hAl]; first | done | rfl))) rfl ?_)
          rintro _ _ _ ⟨rfl, rfl, rfl⟩
          refine ⟨(by first | exact (fun _ hI => hI.drop 99) | exact (fun _ hI => (hI.drop 99).shrink hX7.old) | exact (fun _ hI => (hI.drop 99).shrink hX9.old)), ?_⟩
          refine WH.yd (i := 11) (by kernel_rfl) (fun _ o v c a w _ h => (QuietPanic.then (QuietPanic.then QuietPanic.body)) c o.dst v a w h) rfl (Yd.move rfl) rfl ?_
          refine WH.yd (i := 12) (by kernel_rfl) (fun _ o v c a w _ h => (QuietPanic.then (QuietPanic.then QuietPanic.body)) c o.dst v a w h) rfl (Yd.extract rfl rfl) rfl ?_
          refine WH.yd (i := 13) (by kernel_rfl) (fun _ o v c a w _ h => (QuietPanic.then (QuietPanic.then QuietPanic.body)) c o.dst v a w h) rfl (Yd.extract rfl rfl) rfl ?_
          refine WH.yd (i := 14) (by kernel_rfl) (fun _ o v c a w _ h => (QuietPanic.then (QuietPanic.then QuietPanic.body)) c o.dst v a w h) rfl (Yd.extract rfl rfl) rfl ?_
          refine WH.yd (i := 15) (by kernel_rfl) (fun _ o v c a w _ h => (QuietPanic.then (QuietPanic.then QuietPanic.body)) c o.dst v a w h) rfl (Yd.assign rfl) rfl ?_
          refine WH.yd (i := 16) (by kernel_rfl) (fun _ o v c a w _ h => (QuietPanic.then (QuietPanic.then QuietPanic.body)) c o.dst v a w h) rfl (Yd.assign rfl) rfl ?_
          refine WH.yd (i := 17) (by kernel_rfl) (fun _ o v c a w _ h => (QuietPanic.then (QuietPanic.then QuietPanic.body)) c o.dst v a w h) rfl (Yd.assign rfl) rfl ?_
          refine WH.nil (by kernel_rfl) ?_
          refine WP.thenC (WC.seq (WC.ofFr [(33, _), (32, _), (31, _), (1, _), (6, _)] ⟨rfl, rfl, rfl, rfl, rfl, trivial⟩ (WC.region ?_)))
          refine WL.yd (Yd.move rfl) rfl ?_
          refine WL.yd (Yd.move rfl) rfl ?_
          refine WL.yd (Yd.lenS rfl Tryz.underlying38 rfl) rfl ?_
          refine WL.yd (Yd.neq rfl rfl) rfl ?_
          refine WL.know 335 (.bool false) rfl (congrArg Value.bool (by simp)) ?_
          refine WL.yd (Yd.move rfl) rfl ?_
          refine WL.ydg rfl (Yd.move rfl) rfl ?_
          refine WL.ydg rfl (Yd.neq rfl rfl) rfl ?_
          refine WL.know 338 (.bool false) rfl (congrArg Value.bool (by decide)) ?_
          refine WL.yd (Yd.pickF rfl rfl) rfl ?_
          refine WL.yd (Yd.move rfl) rfl ?_
          refine WL.ydg rfl (Yd.move rfl) rfl ?_
          refine WL.ydg rfl (Yd.neq rfl rfl) rfl ?_
          refine WL.know 342 (.bool false) rfl (congrArg Value.bool (by decide)) ?_
          refine WL.yd (Yd.pickF rfl rfl) rfl ?_
          refine WL.nil (WP.thenC ?_)
          refine WC.condF rfl ?_
          refine WC.skip (WP.thenC (WC.seq (WC.ofFr [(6, _)] ⟨rfl, trivial⟩ (WC.region ?_))))
          refine WL.so (SO.callP Tryz.call9 rfl (fun w hI => alive_g _ _ hI.imm)) rfl ?_
          rintro _ _ _ ⟨rfl, rfl, rfl⟩
          refine WL.yd (Yd.assign rfl) rfl ?_
          refine WL.nil (WP.thenC (WC.ret ?_))
          refine WP.ret1 rfl rfl Tryz.results5 (RV.tmp rfl) (fun w hI => ⟨rfl, hI.keep⟩)
        · refine WHo.so rfl (SO.buildSlice Tryz.underlying38 Tryz.sizeOf49 Tryz.zeroValue49 rfl rfl rfl rfl (cs := [_, _, _]) rfl) rfl ?_
          rintro _ _ _ ⟨b326, hb326, rfl, rfl, rfl⟩
          refine ⟨(by first | exact (fun _ hI => hI.drop 99) | exact (fun _ hI => (hI.drop 99).shrink hX7.old) | exact (fun _ hI => (hI.drop 99).shrink hX9.old)), ?_⟩
          refine WH.one (i := 3) (by kernel_rfl) (WHo.so rfl (SO.appendSome (o := ⟨b319, 0, []⟩) (len := 0) (n := l.length) (xs := (([] : List Ent).flatMap entC)) (ys := (l.flatMap entC)) (size := 3) [_] [] rfl rfl Tryz.underlying38 Tryz.sizeOf49 Tryz.typeInfo49 Tryz.zeroValue49 rfl rfl rfl rfl (rdS_of hB.ent (addr_some hB hz)) (by first | exact ents_ones _ | exact entC_ones _) ⟨hb319, Nat.le_refl 0, rfl⟩ (by first | rfl | exact flat_len entC_len _ | (rw [flat_len entC_len, List.length_take]; omega)) (by show (2 * (_ + _) + 1000) * 24 ≤ 2 ^ 48; omega) (by omega)) rfl ?_)
          rintro _ _ _ ⟨u1, hu1, rfl, rfl, rfl⟩
          rw [Nat.zero_add l.length, List.flatMap_nil, List.nil_append]
          rw [Nat.zero_add] at hu1
          refine ⟨(by first | exact (fun _ hI => hI.drop 99) | exact (fun _ hI => (hI.drop 99).shrink hX7.old) | exact (fun _ hI => (hI.drop 99).shrink hX9.old)), ?_⟩
          refine WH.one (i := 9) (by kernel_rfl) (WHo.so rfl (SO.appendSome (o := u1) (len := l.length) (n := 1) (xs := (l.flatMap entC)) (ys := (entC (gt l (m % l.length)))) (size := 3) [_] [] rfl rfl Tryz.underlying38 Tryz.sizeOf49 Tryz.typeInfo49 Tryz.zeroValue49 rfl rfl rfl rfl (⟨rfl, .inr ⟨_, _, _, rfl, RdN.own (k := 0) (n := 3) rfl rfl⟩⟩) (by first | exact ents_ones _ | exact entC_ones _) hu1 (by first | rfl | exact flat_len entC_len _ | (rw [flat_len entC_len, List.length_take]; omega)) (by show (2 * (_ + _) + 1000) * 24 ≤ 2 ^ 48; omega) (by omega)) rfl ?_)
          rintro _ _ _ ⟨u2, hu2, rfl, rfl, rfl⟩
          refine ⟨(by first | exact (fun _ hI => hI.drop 99) | exact (fun _ hI => (hI.drop 99).shrink hX7.old) | exact (fun _ hI => (hI.drop 99).shrink hX9.old)), ?_⟩
          refine WH.freezeN 1 _ _ rfl rfl hu2.1 (fun D9 hX9 h9 => ?_)
          have hB9 : BookR D9 (l ++ [gt l (m % l.length)]) (some ⟨u2.b, 0, none⟩) (l.length + 1) := ⟨by have h8 := SlL.ofBlock (l := l ++ [gt l (m % l.length)]) entC_len (by rw [List.flatMap_append]; exact h9); rw [List.length_append, List.length_singleton] at h8; exact h8, by omega⟩
          replace hR := hR.ext hX9
          refine WH.one (i := 10) (by kernel_rfl) (WHo.so rfl (SO.callP Tryz.call18 rfl (fun w hI => Gives.cv (.tuple #[it (l.length : Int), it 1, it 0]) (Check_g X a1 _ c1 _ _ hR hI.imm (l ++ [gt l (m % l.length)]) (some ⟨u2.b, 0, none⟩) _ u2.cap hB9) (by rw [check_again h1 (by omega) h4 hW hrt hAl]; first | done | rfl))) rfl ?_)
          rintro _ _ _ ⟨rfl, rfl, rfl⟩
          refine ⟨(by first | exact (fun _ hI => hI.drop 99) | exact (fun _ hI => (hI.drop 99).shrink hX7.old) | exact (fun _ hI => (hI.drop 99).shrink hX9.old)), ?_⟩
          refine WH.yd (i := 11) (by kernel_rfl) (fun _ o v c a w _ h => (QuietPanic.then (QuietPanic.then QuietPanic.body)) c o.dst v a w h) rfl (Yd.move rfl) rfl ?_
          refine WH.yd (i := 12) (by kernel_rfl) (fun _ o v c a w _ h => (QuietPanic.then (QuietPanic.then QuietPanic.body)) c o.dst v a w h) rfl (Yd.extract rfl rfl) rfl ?_
          refine WH.yd (i := 13) (by kernel_rfl) (fun _ o v c a w _ h => (QuietPanic.then (QuietPanic.then QuietPanic.body)) c o.dst v a w h) rfl (Yd.extract rfl rfl) rfl ?_
          refine WH.yd (i := 14) (by kernel_rfl) (fun _ o v c a w _ h => (QuietPanic.then (QuietPanic.then QuietPanic.body)) c o.dst v a w h) rfl (Yd.extract rfl rfl) rfl ?_
          refine WH.yd (i := 15) (by kernel_rfl) (fun _ o v c a w _ h => (QuietPanic.then (QuietPanic.then QuietPanic.body)) c o.dst v a w h) rfl (Yd.assign rfl) rfl ?_
          refine WH.yd (i := 16) (by kernel_rfl) (fun _ o v c a w _ h => (QuietPanic.then (QuietPanic.then QuietPanic.body)) c o.dst v a w h) rfl (Yd.assign rfl) rfl ?_
          refine WH.yd (i := 17) (by kernel_rfl) (fun _ o v c a w _ h => (QuietPanic.then (QuietPanic.then QuietPanic.body)) c o.dst v a w h) rfl (Yd.assign rfl) rfl ?_
          refine WH.nil (by kernel_rfl) ?_
          refine WP.thenC (WC.seq (WC.ofFr [(33, _), (32, _), (31, _), (1, _), (6, _)] ⟨rfl, rfl, rfl, rfl, rfl, trivial⟩ (WC.region ?_)))
          refine WL.yd (Yd.move rfl) rfl ?_
          refine WL.yd (Yd.move rfl) rfl ?_
          refine WL.yd (Yd.lenS rfl Tryz.underlying38 rfl) rfl ?_
          refine WL.yd (Yd.neq rfl rfl) rfl ?_
          refine WL.know 335 (.bool false) rfl (congrArg Value.bool (by simp)) ?_
          refine WL.yd (Yd.move rfl) rfl ?_
          refine WL.ydg rfl (Yd.move rfl) rfl ?_
          refine WL.ydg rfl (Yd.neq rfl rfl) rfl ?_
          refine WL.know 338 (.bool false) rfl (congrArg Value.bool (by decide)) ?_
          refine WL.yd (Yd.pickF rfl rfl) rfl ?_
          refine WL.yd (Yd.move rfl) rfl ?_
          refine WL.ydg rfl (Yd.move rfl) rfl ?_
          refine WL.ydg rfl (Yd.neq rfl rfl) rfl ?_
          refine WL.know 342 (.bool false) rfl (congrArg Value.bool (by decide)) ?_
          refine WL.yd (Yd.pickF rfl rfl) rfl ?_
          refine WL.nil (WP.thenC ?_)
          refine WC.condF rfl ?_
          refine WC.skip (WP.thenC (WC.seq (WC.ofFr [(6, _)] ⟨rfl, trivial⟩ (WC.region ?_))))
          refine WL.so (SO.callP Tryz.call9 rfl (fun w hI => alive_g _ _ hI.imm)) rfl ?_
          rintro _ _ _ ⟨rfl, rfl, rfl⟩
          refine WL.yd (Yd.assign rfl) rfl ?_
          refine WL.nil (WP.thenC (WC.ret ?_))
          refine WP.ret1 rfl rfl Tryz.results5 (RV.tmp rfl) (fun w hI => ⟨rfl, hI.keep⟩)
      · refine WHo.so rfl (SO.buildSlice Tryz.underlying38 Tryz.sizeOf49 Tryz.zeroValue49 rfl rfl rfl rfl (cs := [_, _, _]) rfl) rfl ?_
        rintro _ _ _ ⟨b326, hb326, rfl, rfl, rfl⟩
        refine ⟨(by first | exact (fun _ hI => hI.drop 99) | exact (fun _ hI => (hI.drop 99).shrink hX7.old) | exact (fun _ hI => (hI.drop 99).shrink hX9.old)), ?_⟩
        refine WH.one (i := 1) (by kernel_rfl) (WHo.so rfl (SO.buildSlice0 Tryz.underlying38 Tryz.sizeOf49) rfl ?_)
        rintro _ _ _ ⟨b319, hb319, rfl, rfl, rfl⟩
        refine ⟨(by first | exact (fun _ hI => hI.drop 99) | exact (fun _ hI => (hI.drop 99).shrink hX7.old) | exact (fun _ hI => (hI.drop 99).shrink hX9.old)), ?_⟩
        refine WH.one (i := 3) (by kernel_rfl) (WHo.so rfl (SO.appendSome (o := ⟨b319, 0, []⟩) (len := 0) (n := l.length) (xs := (([] : List Ent).flatMap entC)) (ys := (l.flatMap entC)) (size := 3) [] [_] rfl rfl Tryz.underlying38 Tryz.sizeOf49 Tryz.typeInfo49 Tryz.zeroValue49 rfl rfl rfl rfl (rdS_of hB.ent (addr_some hB hz)) (by first | exact ents_ones _ | exact entC_ones _) ⟨hb319, Nat.le_refl 0, rfl⟩ (by first | rfl | exact flat_len entC_len _ | (rw [flat_len entC_len, List.length_take]; omega)) (by show (2 * (_ + _) + 1000) * 24 ≤ 2 ^ 48; omega) (by omega)) rfl ?_)
        rintro _ _ _ ⟨u1, hu1, rfl, rfl, rfl⟩
        rw [Nat.zero_add l.length, List.flatMap_nil, List.nil_append]
        rw [Nat.zero_add] at hu1
        refine ⟨(by first | exact (fun _ hI => hI.drop 99) | exact (fun _ hI => (hI.drop 99).shrink hX7.old) | exact (fun _ hI => (hI.drop 99).shrink hX9.old)), ?_⟩
        refine WH.one (i := 9) (by kernel_rfl) (WHo.so rfl (SO.appendSome (o := u1) (len := l.length) (n := 1) (xs := (l.flatMap entC)) (ys := (entC (gt l (m % l.length)))) (size := 3) [] [_] rfl rfl Tryz.underlying38 Tryz.sizeOf49 Tryz.typeInfo49 Tryz.zeroValue49 rfl rfl rfl rfl (⟨rfl, .inr ⟨_, _, _, rfl, RdN.own (k := 1) (n := 3) rfl rfl⟩⟩) (by first | exact ents_ones _ | exact entC_ones _) hu1 (by first | rfl | exact flat_len entC_len _ | (rw [flat_len entC_len, List.length_take]; omega)) (by show (2 * (_ + _) + 1000) * 24 ≤ 2 ^ 48; omega) (by omega)) rfl ?_)
        rintro _ _ _ ⟨u2, hu2, rfl, rfl, rfl⟩
        refine ⟨(by first | exact (fun _ hI => hI.drop 99) | exact (fun _ hI => (hI.drop 99).shrink hX7.old) | exact (fun _ hI => (hI.drop 99).shrink hX9.old)), ?_⟩
        refine WH.freezeN 0 _ _ rfl rfl hu2.1 (fun D9 hX9 h9 => ?_)
        have hB9 : BookR D9 (l ++ [gt l (m % l.length)]) (some ⟨u2.b, 0, none⟩) (l.length + 1) := ⟨by have h8 := SlL.ofBlock (l := l ++ [gt l (m % l.length)]) entC_len (by rw [List.flatMap_append]; exact h9); rw [List.length_append, List.length_singleton] at h8; exact h8, by omega⟩
        replace hR := hR.ext hX9
        refine WH.one (i := 10) (by kernel_rfl) (WHo.so rfl (SO.callP Tryz.call18 rfl (fun w hI => Gives.cv (.tuple #[it (l.length : Int), it 1, it 0]) (Check_g X a1 _ c1 _ _ hR hI.imm (l ++ [gt l (m % l.length)]) (some ⟨u2.b, 0, none⟩) _ u2.cap hB9) (by rw [check_again h1 (by omega) h4 hW hrt hAl]; first | done | rfl))) rfl ?_)
        rintro _ _ _ ⟨rfl, rfl, rfl⟩
        refine ⟨(by first | exact (fun _ hI => hI.drop 99) | exact (fun _ hI => (hI.drop 99).shrink hX7.old) | exact (fun _ hI => (hI.drop 99).shrink hX9.old)), ?_⟩
        refine WH.yd (i := 11) (by kernel_rfl) (fun _ o v c a w _ h => (QuietPanic.then (QuietPanic.then QuietPanic.body)) c o.dst v a w h) rfl (Yd.move rfl) rfl ?_
        refine WH.yd (i := 12) (by kernel_rfl) (fun _ o v c a w _ h => (QuietPanic.then (QuietPanic.then QuietPanic.body)) c o.dst v a w h) rfl (Yd.extract rfl rfl) rfl ?_
        refine WH.yd (i := 13) (by kernel_rfl) (fun _ o v c a w _ h => (QuietPanic.then (QuietPanic.then QuietPanic.body)) c o.dst v a w h) rfl (Yd.extract rfl rfl) rfl ?_
        refine WH.yd (i := 14) (by kernel_rfl) (fun _ o v c a w _ h => (QuietPanic.then (QuietPanic.then QuietPanic.body)) c o.dst v a w h) rfl (Yd.extract rfl rfl) rfl ?_
        refine WH.yd (i := 15) (by kernel_rfl) (fun _ o v c a w _ h => (QuietPanic.then (QuietPanic.then QuietPanic.body)) c o.dst v a w h) rfl (Yd.assign rfl) rfl ?_
        refine WH.yd (i := 16) (by kernel_rfl) (fun _ o v c a w _ h => (QuietPanic.then (QuietPanic.then QuietPanic.body)) c o.dst v a w h) rfl (Yd.assign rfl) rfl ?_
        refine WH.yd (i := 17) (by kernel_rfl) (fun _ o v c a w _ h => (QuietPanic.then (QuietPanic.then QuietPanic.body)) c o.dst v a w h) rfl (Yd.assign rfl) rfl ?_
        refine WH.nil (by kernel_rfl) ?_
        refine WP.thenC (WC.seq (WC.ofFr [(33, _), (32, _), (31, _), (1, _), (6, _)] ⟨rfl, rfl, rfl, rfl, rfl, trivial⟩ (WC.region ?_)))
        refine WL.yd (Yd.move rfl) rfl ?_
        refine WL.yd (Yd.move rfl) rfl ?_
        refine WL.yd (Yd.lenS rfl Tryz.underlying38 rfl) rfl ?_
        refine WL.yd (Yd.neq rfl rfl) rfl ?_
        refine WL.know 335 (.bool false) rfl (congrArg Value.bool (by simp)) ?_
        refine WL.yd (Yd.move rfl) rfl ?_
        refine WL.ydg rfl (Yd.move rfl) rfl ?_
        refine WL.ydg rfl (Yd.neq rfl rfl) rfl ?_
        refine WL.know 338 (.bool false) rfl (congrArg Value.bool (by decide)) ?_
        refine WL.yd (Yd.pickF rfl rfl) rfl ?_
        refine WL.yd (Yd.move rfl) rfl ?_
        refine WL.ydg rfl (Yd.move rfl) rfl ?_
        refine WL.ydg rfl (Yd.neq rfl rfl) rfl ?_
        refine WL.know 342 (.bool false) rfl (congrArg Value.bool (by decide)) ?_
        refine WL.yd (Yd.pickF rfl rfl) rfl ?_
        refine WL.nil (WP.thenC ?_)
        refine WC.condF rfl ?_
        refine WC.skip (WP.thenC (WC.seq (WC.ofFr [(6, _)] ⟨rfl, trivial⟩ (WC.region ?_))))
        refine WL.so (SO.callP Tryz.call9 rfl (fun w hI => alive_g _ _ hI.imm)) rfl ?_
        rintro _ _ _ ⟨rfl, rfl, rfl⟩
        refine WL.yd (Yd.assign rfl) rfl ?_
        refine WL.nil (WP.thenC (WC.ret ?_))
        refine WP.ret1 rfl rfl Tryz.results5 (RV.tmp rfl) (fun w hI => ⟨rfl, hI.keep⟩)
    · try simp only [zq1, zq2, zq3, zq4, zq5, zq6, zq7, zq8] at c316
      refine WC.skip (WP.thenC (WC.seq (WC.ofFr [(6, _)] ⟨rfl, trivial⟩ (WC.region ?_))))
      refine WL.so (SO.callP Tryz.call9 rfl (fun w hI => alive_g _ _ hI.imm)) rfl ?_
      rintro _ _ _ ⟨rfl, rfl, rfl⟩
      refine WL.yd (Yd.assign rfl) rfl ?_
      refine WL.nil (WP.thenC (WC.ret ?_))
      refine WP.ret1 rfl rfl Tryz.results5 (RV.tmp rfl) (fun w hI => ⟨rfl, hI.keep⟩)

theorem checkL_g (X : Till) (a1 : Option Addr) (n1 c1 : Nat) (D : Imm) (w : World) (hS : SlL D 5 (X.tk.l.map tickC) a1 n1) (hH : Holds D w) (l : List Ent) (ab : Option Addr) (nb cb : Nat) (hL : SlL D 3 (l.map entC) ab nb) (hcap : nb ≤ cb) (m : Nat) (hm : m < 256) : Gives Tryz.prog 5 [.agg #[it X.tk.huts, .slice a1 n1 c1, it X.price, it X.fine, it X.wait], .slice ab nb cb, .int .u8 m] w (.bool true) := by
  rcases Nat.lt_or_ge 60 (max n1 nb) with h | h
  · exact check_a X a1 n1 c1 D w hS hH l ab nb cb hL hcap m hm h
  · cases h1 : tillB X with
    | false => exact check_b X a1 n1 c1 D w hS hH l ab nb cb hL hcap m hm h h1
    | true =>
      rcases Nat.lt_or_ge 20 nb with h3 | h3
      · exact check_c X a1 n1 c1 D w hS hH l ab nb cb hL hcap m hm h h1 h3
      · cases h4 : l.all (entB X) with
        | false => exact check_d X a1 n1 c1 D w hS hH l ab nb cb hL hcap m hm h h1 h3 h4
        | true =>
          rcases tks_e10 (tillB_num h1).1 with hW | hW
          · cases hbr : brokL X l l.length with
            | nil =>
              rcases Nat.eq_zero_or_pos nb with hz | hz
              · exact check_g X a1 n1 c1 D w hS hH l ab nb cb hL hcap m hm h h1 h3 h4 hW hbr hz
              · exact check_h X a1 n1 c1 D w hS hH l ab nb cb hL hcap m hm h h1 h3 h4 hW hbr hz
            | cons i r => exact check_f X a1 n1 c1 D w hS hH l ab nb cb hL hcap m hm h h1 h3 h4 hW i r hbr
          · exact check_e X a1 n1 c1 D w hS hH l ab nb cb hL hcap m hm h h1 h3 h4 hW

end Go.Proofs.YtpnbkdlejfmbeaaGreat
