import Derived.Test.YtpnbkdlejfmbeaaGreatYZ12
set_option linter.unusedSimpArgs false
set_option linter.unusedVariables false
set_option linter.all false
set_option maxRecDepth 100000
set_option maxHeartbeats 1000000
namespace Go.Proofs.YtpnbkdlejfmbeaaGreat
open Go.W Go.Ti

def outL (f : List Pr → Int) (rows : List TrR) (k : Nat) : List Int := (List.range k).map fun i => f (gt rows i).y
theorem outL_len (f : List Pr → Int) (rows : List TrR) (k : Nat) : (outL f rows k).length = k := by simp [outL]
theorem outL_succ (f : List Pr → Int) (rows : List TrR) (k : Nat) : outL f rows (k + 1) = outL f rows k ++ [f (gt rows k).y] := by unfold outL; rw [List.range_succ, List.map_append]; rfl
theorem outL_all {D : Imm} {T : Tks} {rows : List TrR} {a : Option Addr} {n : Nat} (h : RowsM D T rows a n) (f : List Pr → Int) : outL f rows rows.length = (RF T).map f := by
  rw [h.map f]
  unfold outL
  apply List.ext_getElem
  · simp
  · intro i h1 h2
    simp at h1
    simp [gt, List.getD, h1]
theorem bookNil (D : Imm) : BookR D [] none 0 := ⟨⟨rfl, fun i r hr => by simp at hr⟩, by omega⟩
theorem intC_ones13 : ∀ v : Int, ∀ u ∈ intC v, u.oneCell' = true := fun v u hu => by rw [List.mem_singleton.1 hu]; rfl

theorem tak13_a (X : Till) (a1 : Option Addr) (n1 c1 : Nat) (D : Imm) (w : World) (hR : TksR D X.tk a1 n1) (hH : Holds D w) (h1 : tillB X = false) : Gives Tryz.prog 11 [.agg #[it X.tk.huts, .slice a1 n1 c1, it X.price, it X.fine, it X.wait]] w (.tuple #[it 0, it 1]) := by
  unfold Gives
  obtain rfl := hR.tick.len'
  have hl1 := hR.len
  refine enter Tryz.func11 rfl 14 Tryz.ntmps11 (zqb rfl) (Inv.start hH) ?_
  refine WC.seq (WC.ofFr [(0, _)] ⟨rfl, trivial⟩ (WC.region ?_))
  refine WL.so (SO.box rfl rfl) rfl ?_
  rintro _ _ _ ⟨b1, hb1, rfl, rfl, rfl⟩
  refine WL.yd (Yd.assign rfl) rfl ?_
  refine WL.yd (Yd.assign rfl) rfl ?_
  refine WL.nil (WP.thenC (WC.seq (WC.seq (WC.ofFr [(3, _), (2, _), (1, _)] ⟨rfl, rfl, rfl, trivial⟩ (WC.region ?_)))))
  refine WL.yd (Yd.loadN Tryz.isAgg26 Tryz.sizeOf26 rfl (vs := [_, _, _, _, _]) rfl (by first | exact rn0 (n := 5) rfl rfl)) rfl ?_
  refine WL.so (SO.callP Tryz.call25 rfl (fun w hI => till13_g X a1 _ c1 _ _ hR hI.imm)) rfl ?_
  rintro _ _ _ ⟨rfl, rfl, rfl⟩
  refine WL.know 5 (.bool false) rfl (congrArg Value.bool h1) ?_
  refine WL.yd (Yd.not rfl) rfl ?_
  refine WL.nil (WP.thenC ?_)
  refine WC.condT rfl ?_
  refine WC.seq (WC.ofFr [(3, _), (2, _), (1, _)] ⟨rfl, rfl, rfl, trivial⟩ (WC.region ?_))
  refine WL.yd (Yd.assign rfl) rfl ?_
  refine WL.yd (Yd.assign rfl) rfl ?_
  refine WL.nil (WP.thenC (WC.ret (WP.thenRet ?_)))
  refine WP.ret2 rfl rfl Tryz.results11 (RV.tmp rfl) (RV.tmp rfl) (fun w hI => ⟨rfl, hI.keep⟩)

theorem tak13_b (X : Till) (a1 : Option Addr) (n1 c1 : Nat) (D : Imm) (w : World) (hR : TksR D X.tk a1 n1) (hH : Holds D w) (h1 : tillB X = true) : Gives Tryz.prog 11 [.agg #[it X.tk.huts, .slice a1 n1 c1, it X.price, it X.fine, it X.wait]] w (.tuple #[it (X.price * X.tk.l.length), it 0]) := by
  unfold Gives
  obtain rfl := hR.tick.len'
  have hl1 := hR.len
  have hp := (tillB_num h1).2.1
  have h5 := (tks_num (tillB_num h1).1).2.1
  have hmm : 0 ≤ X.price * (X.tk.l.length : Int) ∧ X.price * (X.tk.l.length : Int) ≤ 2400 := mul_100 hp (by omega)
  refine enter Tryz.func11 rfl 14 Tryz.ntmps11 (zqb rfl) (Inv.start hH) ?_
  refine WC.seq (WC.ofFr [(0, _)] ⟨rfl, trivial⟩ (WC.region ?_))
  refine WL.so (SO.box rfl rfl) rfl ?_
  rintro _ _ _ ⟨b1, hb1, rfl, rfl, rfl⟩
  refine WL.yd (Yd.assign rfl) rfl ?_
  refine WL.yd (Yd.assign rfl) rfl ?_
  refine WL.nil (WP.thenC (WC.seq (WC.seq (WC.ofFr [(3, _), (2, _), (1, _)] ⟨rfl, rfl, rfl, trivial⟩ (WC.region ?_)))))
  refine WL.yd (Yd.loadN Tryz.isAgg26 Tryz.sizeOf26 rfl (vs := [_, _, _, _, _]) rfl (by first | exact rn0 (n := 5) rfl rfl)) rfl ?_
  refine WL.so (SO.callP Tryz.call25 rfl (fun w hI => till13_g X a1 _ c1 _ _ hR hI.imm)) rfl ?_
  rintro _ _ _ ⟨rfl, rfl, rfl⟩
  refine WL.know 5 (.bool true) rfl (congrArg Value.bool h1) ?_
  refine WL.yd (Yd.not rfl) rfl ?_
  refine WL.nil (WP.thenC ?_)
  refine WC.condF rfl ?_
  refine WC.skip (WP.thenC (WC.seq (WC.ofFr [(3, _), (2, _), (1, _)] ⟨rfl, rfl, rfl, trivial⟩ (WC.region ?_))))
  refine WL.yd (Yd.fieldAddr FA26_1 rfl) rfl ?_
  refine WL.yd (Yd.load1 Tryz.isAgg3 rfl (by first | exact ro0 rfl rfl)) rfl ?_
  refine WL.yd (Yd.fieldAddr FA26_0 rfl) rfl ?_
  refine WL.yd (Yd.fieldAddr FA24_1 rfl) rfl ?_
  refine WL.yd (Yd.load1 Tryz.isAgg22 rfl (by first | exact ro0 rfl rfl)) rfl ?_
  refine WL.yd (Yd.lenS rfl Tryz.underlying22 rfl) rfl ?_
  refine WL.yd (Yd.mul (i := X.price) (j := (X.tk.l.length : Int)) rfl rfl (wr64 ⟨by omega, by omega⟩)) rfl ?_
  refine WL.yd (Yd.assign rfl) rfl ?_
  refine WL.yd (Yd.assign rfl) rfl ?_
  refine WL.nil (WP.thenC (WC.ret ?_))
  refine WP.ret2 rfl rfl Tryz.results11 (RV.tmp rfl) (RV.tmp rfl) (fun w hI => ⟨rfl, hI.keep⟩)

theorem Tak13_g (X : Till) (a1 : Option Addr) (n1 c1 : Nat) (D : Imm) (w : World) (hR : TksR D X.tk a1 n1) (hH : Holds D w) : Gives Tryz.prog 11 [.agg #[it X.tk.huts, .slice a1 n1 c1, it X.price, it X.fine, it X.wait]] w (.tuple #[it (TakingsOut X).1, it (TakingsOut X).2]) := by
  cases h : tillB X with
  | false => rw [show TakingsOut X = (0, 1) by unfold TakingsOut; rw [if_pos h]]; exact tak13_a X a1 n1 c1 D w hR hH h
  | true => rw [show TakingsOut X = (X.price * X.tk.l.length, 0) by unfold TakingsOut; rw [if_neg (by rw [h]; simp)], hR.tick.len'.symm]; have e := hR.tick.len'; have z := tak13_b X a1 n1 c1 D w hR hH h; rw [← e] at z; exact z

theorem fine13_no (X : Till) (a1 : Option Addr) (n1 c1 : Nat) (D : Imm) (w : World) (hR : TksR D X.tk a1 n1) (hH : Holds D w) (n : Int) (h : spanE X n ≠ 0) : Gives Tryz.prog 13 [.agg #[it X.tk.huts, .slice a1 n1 c1, it X.price, it X.fine, it X.wait], it n] w (.tuple #[spV ⟨0, 0⟩, it (spanE X n)]) := by
  unfold Gives
  obtain rfl := hR.tick.len'
  have hl1 := hR.len
  refine enter Tryz.func13 rfl 41 Tryz.ntmps13 (zqb rfl) (Inv.start hH) ?_
  refine WC.seq (WC.ofFr [(0, _), (1, _)] ⟨rfl, rfl, trivial⟩ (WC.region ?_))
  refine WL.so (SO.box rfl rfl) rfl ?_
  rintro _ _ _ ⟨b2, hb2, rfl, rfl, rfl⟩
  refine WL.so (SO.alloc Tryz.zeroValue33 rfl) rfl ?_
  rintro _ _ _ ⟨b4, hb4, rfl, rfl, rfl⟩
  refine WL.yd (Yd.assign rfl) rfl ?_
  refine WL.nil (WP.thenC (WC.seq ?_))
  refine WC.freezeN 1 b2 (.cells (List.toArray (tillC X (.slice a1 X.tk.l.length c1))) 26 (0, 0)) rfl rfl hb2 (fun D2 hX2 h2 => ?_)
  replace hR := hR.ext hX2
  refine WC.ofFr [(5, _), (4, _), (2, _), (1, _)] ⟨rfl, rfl, rfl, rfl, trivial⟩ ?_
  refine WC.drawH [] (by kernel_rfl) (fun _ hI => hI.none) ?_
  refine WH.yd (i := 0) (by kernel_rfl) (fun _ o v c a w _ h => (QuietPanic.then QuietPanic.body) c o.dst v a w h) rfl (Yd.loadN Tryz.isAgg26 Tryz.sizeOf26 rfl (vs := [_, _, _, _, _]) rfl (by first | exact rn0 (n := 5) rfl rfl | exact (RdN.imm (n := 5) h2 rfl) | exact (RdN.imm (n := 2) h2 rfl))) rfl ?_
  refine WH.yd (i := 1) (by kernel_rfl) (fun _ o v c a w _ h => (QuietPanic.then QuietPanic.body) c o.dst v a w h) rfl (Yd.fieldAddr FA26_0 rfl) rfl ?_
  refine WH.yd (i := 2) (by kernel_rfl) (fun _ o v c a w _ h => (QuietPanic.then QuietPanic.body) c o.dst v a w h) rfl (Yd.loadN Tryz.isAgg24 Tryz.sizeOf24 rfl (vs := [_, _]) rfl (by first | exact rn0 (n := 2) rfl rfl | exact (RdN.imm (n := 5) h2 rfl) | exact (RdN.imm (n := 2) h2 rfl))) rfl ?_
  refine WH.yd (i := 3) (by kernel_rfl) (fun _ o v c a w _ h => (QuietPanic.then QuietPanic.body) c o.dst v a w h) rfl (Yd.move rfl) rfl ?_
  refine WH.one (i := 4) (by kernel_rfl) (WHo.so rfl (SO.callP Tryz.call48 rfl (fun w hI => tick03_g X.tk a1 _ c1 _ _ rfl hl1)) rfl ?_)
  rintro _ _ _ ⟨rfl, rfl, rfl⟩
  refine ⟨(fun _ hI => hI.none), ?_⟩
  refine WH.one (i := 5) (by kernel_rfl) (WHo.so rfl (SO.callP Tryz.call47 rfl (fun w hI => told13_no X a1 _ c1 _ _ hR hI.imm [] none 0 0 (bookNil _) (isT X.tk n) h)) rfl ?_)
  rintro _ _ _ ⟨rfl, rfl, rfl⟩
  refine ⟨(fun _ hI => hI.none), ?_⟩
  refine WH.yd (i := 6) (by kernel_rfl) (fun _ o v c a w _ h => (QuietPanic.then QuietPanic.body) c o.dst v a w h) rfl (Yd.move rfl) rfl ?_
  refine WH.yd (i := 7) (by kernel_rfl) (fun _ o v c a w _ h => (QuietPanic.then QuietPanic.body) c o.dst v a w h) rfl (Yd.extract rfl rfl) rfl ?_
  refine WH.yd (i := 8) (by kernel_rfl) (fun _ o v c a w _ h => (QuietPanic.then QuietPanic.body) c o.dst v a w h) rfl (Yd.extract rfl rfl) rfl ?_
  refine WH.yd (i := 9) (by kernel_rfl) (fun _ o v c a w _ h => (QuietPanic.then QuietPanic.body) c o.dst v a w h) rfl (Yd.assign rfl) rfl ?_
  refine WH.yd (i := 10) (by kernel_rfl) (fun _ o v c a w _ h => (QuietPanic.then QuietPanic.body) c o.dst v a w h) rfl (Yd.assign rfl) rfl ?_
  refine WH.nil (by kernel_rfl) ?_
  refine WP.thenC (WC.seq (WC.seq (WC.ofFr [(7, _), (6, _), (5, _), (4, _), (2, _), (1, _)] ⟨rfl, rfl, rfl, rfl, rfl, rfl, trivial⟩ (WC.region ?_))))
  refine WL.yd (Yd.move rfl) rfl ?_
  refine WL.yd (Yd.neq rfl rfl) rfl ?_
  refine WL.know 20 (.bool true) rfl (congrArg Value.bool (decide_eq_true (by (try dsimp only); exact h))) ?_
  refine WL.nil (WP.thenC ?_)
  refine WC.condT rfl ?_
  refine WC.seq (WC.ofFr [(7, _), (6, _), (5, _), (4, _), (2, _), (1, _)] ⟨rfl, rfl, rfl, rfl, rfl, rfl, trivial⟩ (WC.region ?_))
  refine WL.yd (Yd.build SA33 rfl (cs := [_, _]) rfl) rfl ?_
  refine WL.yd (Yd.move rfl) rfl ?_
  refine WL.so (SO.store 0 rfl Tryz.sizeOf33 rfl rfl rfl rfl (zqb rfl) (oneB_spec rfl)) rfl ?_
  rintro _ _ _ ⟨rfl, rfl, rfl⟩
  refine WL.yd (Yd.assign rfl) rfl ?_
  refine WL.nil (WP.thenC (WC.ret (WP.thenRet ?_)))
  refine WP.ret2 rfl rfl Tryz.results13 (RV.cellN Tryz.isAgg33 Tryz.sizeOf33 rfl (vs := [_, _]) rfl (by first | exact rn0 (n := 2) rfl rfl | exact (RdN.imm (n := 5) h2 rfl) | exact (RdN.imm (n := 2) h2 rfl))) (RV.tmp rfl) (fun w hI => ⟨rfl, hI.keep⟩)

theorem fine13_ok (X : Till) (a1 : Option Addr) (n1 c1 : Nat) (D : Imm) (w : World) (hR : TksR D X.tk a1 n1) (hH : Holds D w) (a : Nat) (h : spanE X (a : Int) = 0) (hb : tillB X = true) (hn : isT X.tk (a : Int) = true) (hW : tksE X.tk true = 0) : Gives Tryz.prog 13 [.agg #[it X.tk.huts, .slice a1 n1 c1, it X.price, it X.fine, it X.wait], nt a] w (.tuple #[spV (fineSp X (a : Int)), it 0]) := by
  unfold Gives
  obtain rfl := hR.tick.len'
  have hl1 := hR.len
  have hv := (tillB_num hb).1
  have hal := (isT_lt hn).1
  rw [Int.toNat_natCast] at hal
  have hfh := fine_hull hb hW hn
  rw [Int.toNat_natCast] at hfh
  refine enter Tryz.func13 rfl 41 Tryz.ntmps13 (zqb rfl) (Inv.start hH) ?_
  refine WC.seq (WC.ofFr [(0, _), (1, _)] ⟨rfl, rfl, trivial⟩ (WC.region ?_))
  refine WL.so (SO.box rfl rfl) rfl ?_
  rintro _ _ _ ⟨b2, hb2, rfl, rfl, rfl⟩
  refine WL.so (SO.alloc Tryz.zeroValue33 rfl) rfl ?_
  rintro _ _ _ ⟨b4, hb4, rfl, rfl, rfl⟩
  refine WL.yd (Yd.assign rfl) rfl ?_
  refine WL.nil (WP.thenC (WC.seq ?_))
  refine WC.freezeN 1 b2 (.cells (List.toArray (tillC X (.slice a1 X.tk.l.length c1))) 26 (0, 0)) rfl rfl hb2 (fun D2 hX2 h2 => ?_)
  replace hR := hR.ext hX2
  refine WC.ofFr [(5, _), (4, _), (2, _), (1, _)] ⟨rfl, rfl, rfl, rfl, trivial⟩ ?_
  refine WC.drawH [] (by kernel_rfl) (fun _ hI => hI.none) ?_
  refine WH.yd (i := 0) (by kernel_rfl) (fun _ o v c a w _ h => (QuietPanic.then QuietPanic.body) c o.dst v a w h) rfl (Yd.loadN Tryz.isAgg26 Tryz.sizeOf26 rfl (vs := [_, _, _, _, _]) rfl (by first | exact rn0 (n := 5) rfl rfl | exact (RdN.imm (n := 5) h2 rfl) | exact (RdN.imm (n := 2) h2 rfl) | exact ((hM.sl.at k (by omega)).rdn 0 2 rfl))) rfl ?_
  refine WH.yd (i := 1) (by kernel_rfl) (fun _ o v c a w _ h => (QuietPanic.then QuietPanic.body) c o.dst v a w h) rfl (Yd.fieldAddr FA26_0 rfl) rfl ?_
  refine WH.yd (i := 2) (by kernel_rfl) (fun _ o v c a w _ h => (QuietPanic.then QuietPanic.body) c o.dst v a w h) rfl (Yd.loadN Tryz.isAgg24 Tryz.sizeOf24 rfl (vs := [_, _]) rfl (by first | exact rn0 (n := 2) rfl rfl | exact (RdN.imm (n := 5) h2 rfl) | exact (RdN.imm (n := 2) h2 rfl) | exact ((hM.sl.at k (by omega)).rdn 0 2 rfl))) rfl ?_
  refine WH.yd (i := 3) (by kernel_rfl) (fun _ o v c a w _ h => (QuietPanic.then QuietPanic.body) c o.dst v a w h) rfl (Yd.move rfl) rfl ?_
  refine WH.one (i := 4) (by kernel_rfl) (WHo.so rfl (SO.callP Tryz.call48 rfl (fun w hI => tick03_g X.tk a1 _ c1 _ _ rfl hl1)) rfl ?_)
  rintro _ _ _ ⟨rfl, rfl, rfl⟩
  refine ⟨(by first | exact (fun _ hI => hI.none) | exact (fun _ hI => hI.none.shrink hX6.old)), ?_⟩
  refine WH.one (i := 5) (by kernel_rfl) (WHo.so rfl (SO.makes (Enters.func Tryz.call47 rfl) (fun w hI => told13_ok X a1 _ c1 _ _ hR hI.imm [] none 0 0 (bookNil _) (isT X.tk (a : Int)) h)) rfl ?_)
  rintro _ D6 _ ⟨hX6, ⟨rows, a6, n6, c6, rfl, hM, hn6⟩, rfl⟩
  refine ⟨(by first | exact (fun _ hI => hI.none) | exact (fun _ hI => hI.none.shrink hX6.old)), ?_⟩
  refine WH.yd (i := 6) (by kernel_rfl) (fun _ o v c a w _ h => (QuietPanic.then QuietPanic.body) c o.dst v a w h) rfl (Yd.move rfl) rfl ?_
  refine WH.yd (i := 7) (by kernel_rfl) (fun _ o v c a w _ h => (QuietPanic.then QuietPanic.body) c o.dst v a w h) rfl (Yd.extract rfl rfl) rfl ?_
  refine WH.yd (i := 8) (by kernel_rfl) (fun _ o v c a w _ h => (QuietPanic.then QuietPanic.body) c o.dst v a w h) rfl (Yd.extract rfl rfl) rfl ?_
  refine WH.yd (i := 9) (by kernel_rfl) (fun _ o v c a w _ h => (QuietPanic.then QuietPanic.body) c o.dst v a w h) rfl (Yd.assign rfl) rfl ?_
  refine WH.yd (i := 10) (by kernel_rfl) (fun _ o v c a w _ h => (QuietPanic.then QuietPanic.body) c o.dst v a w h) rfl (Yd.assign rfl) rfl ?_
  refine WH.nil (by kernel_rfl) ?_
  refine WP.thenC (WC.seq (WC.seq ?_))
  replace hR := hR.ext hX6
  replace h2 := hX6.old _ _ h2
  obtain rfl := hM.sl.len'
  have hn6l := hM.nn
  refine WC.ofFr [(7, _), (6, _), (5, _), (4, _), (2, _), (1, _)] ⟨rfl, rfl, rfl, rfl, rfl, rfl, trivial⟩ (WC.region ?_)
  refine WL.yd (Yd.move rfl) rfl ?_
  refine WL.yd (Yd.neq rfl rfl) rfl ?_
  refine WL.know 20 (.bool false) rfl (congrArg Value.bool (by decide)) ?_
  refine WL.nil (WP.thenC ?_)
  refine WC.condF rfl ?_
  refine WC.skip (WP.thenC (WC.seq (WC.ofFr [(6, _), (5, _), (4, _), (2, _), (1, _)] ⟨rfl, rfl, rfl, rfl, rfl, trivial⟩ (WC.region ?_))))
  refine WL.yd (Yd.assign rfl) rfl ?_
  refine WL.nil (WP.thenC (WC.seq (WC.seq (WC.ofFr [(8, _), (6, _), (5, _), (4, _), (2, _), (1, _)] ⟨rfl, rfl, rfl, rfl, rfl, rfl, trivial⟩ (WC.region ?_)))))
  refine WL.yd (Yd.assign rfl) rfl ?_
  refine WL.nil (WP.thenC (WC.block ?_))
  refine WC.loopT [_] (fun y : Nat × Option Ow => [(1, nt a), (2, pt b2), (4, pt b4), (6, .slice a6 rows.length c6), (8, owV y.2 y.1), (9, nt y.1)]) (fun y => owH y.2 3 ((outL (fun y => fineY X y a) rows y.1).flatMap intC) []) (fun y => y.1 ≤ rows.length ∧ owP w y.2 y.1 1) (fun y => rows.length - y.1) (0, none) ⟨by omega, rfl⟩ rfl ⟨rfl, rfl, rfl, rfl, rfl, rfl, trivial⟩ ?_
  rintro ⟨k, o⟩ ⟨hk, ho⟩
  dsimp only at hk ho
  refine WC.seq (WC.seq (WC.ofFr [(1, _), (2, _), (4, _), (6, _), (8, _), (9, _)] ⟨rfl, rfl, rfl, rfl, rfl, rfl, trivial⟩ (WC.region ?_)))
  refine WL.yd (Yd.move rfl) rfl ?_
  refine WL.yd (Yd.move rfl) rfl ?_
  refine WL.yd (Yd.lenS rfl Tryz.underlying81 rfl) rfl ?_
  refine WL.yd (Yd.lss rfl rfl) rfl ?_
  refine WL.nil (WP.thenC ?_)
  refine WC.cond rfl (fun c26 => ?_) (fun c26 => ?_)
  · try simp only [zq1, zq2, zq3, zq4, zq5, zq6, zq7, zq8] at c26
    have hkr : k < rows.length := by omega
    have hqn := hM.num hv hkr
    refine WC.skip (WP.thenC (WC.seq (WC.block (WC.ofFr [(1, _), (2, _), (4, _), (6, _), (8, _), (9, _)] ⟨rfl, rfl, rfl, rfl, rfl, rfl, trivial⟩ ?_))))
    refine WC.drawH [] (by kernel_rfl) (fun _ hI => hI.none) ?_
    refine WH.yd (i := 0) (by kernel_rfl) (fun _ o v c a w _ h => (QuietPanic.blk (QuietPanic.then (QuietPanic.then (QuietPanic.blk (QuietPanic.then QuietPanic.body))))) c o.dst v a w h) rfl (Yd.move rfl) rfl ?_
    refine WH.yd (i := 1) (by kernel_rfl) (fun _ o v c a w _ h => (QuietPanic.blk (QuietPanic.then (QuietPanic.then (QuietPanic.blk (QuietPanic.then QuietPanic.body))))) c o.dst v a w h) rfl (Yd.loadN Tryz.isAgg26 Tryz.sizeOf26 rfl (vs := [_, _, _, _, _]) rfl (by first | exact rn0 (n := 5) rfl rfl | exact (RdN.imm (n := 5) h2 rfl) | exact (RdN.imm (n := 2) h2 rfl) | exact ((hM.sl.at k (by omega)).rdn 0 2 rfl))) rfl ?_
    refine WH.yd (i := 2) (by kernel_rfl) (fun _ o v c a w _ h => (QuietPanic.blk (QuietPanic.then (QuietPanic.then (QuietPanic.blk (QuietPanic.then QuietPanic.body))))) c o.dst v a w h) rfl (Yd.move rfl) rfl ?_
    refine WH.yd (i := 3) (by kernel_rfl) (fun _ o v c a w _ h => (QuietPanic.blk (QuietPanic.then (QuietPanic.then (QuietPanic.blk (QuietPanic.then QuietPanic.body))))) c o.dst v a w h) rfl (Yd.move rfl) rfl ?_
    refine WH.yd (i := 4) (by kernel_rfl) (fun _ o v c a w _ h => (QuietPanic.blk (QuietPanic.then (QuietPanic.then (QuietPanic.blk (QuietPanic.then QuietPanic.body))))) c o.dst v a w h) rfl (Yd.indexS Tryz.underlying81 Tryz.sizeOf87 rfl rfl (by (try dsimp only); omega) (by (try dsimp only); omega) (by first | exact hM.sl.addr k (by omega))) rfl ?_
    refine WH.yd (i := 5) (by kernel_rfl) (fun _ o v c a w _ h => (QuietPanic.blk (QuietPanic.then (QuietPanic.then (QuietPanic.blk (QuietPanic.then QuietPanic.body))))) c o.dst v a w h) rfl (Yd.loadN Tryz.isAgg87 Tryz.sizeOf87 rfl (vs := [_, _]) rfl (by first | exact rn0 (n := 2) rfl rfl | exact (RdN.imm (n := 5) h2 rfl) | exact (RdN.imm (n := 2) h2 rfl) | exact ((hM.sl.at k (by omega)).rdn 0 2 rfl))) rfl ?_
    refine WH.yd (i := 6) (by kernel_rfl) (fun _ o v c a w _ h => (QuietPanic.blk (QuietPanic.then (QuietPanic.then (QuietPanic.blk (QuietPanic.then QuietPanic.body))))) c o.dst v a w h) rfl (Yd.move rfl) rfl ?_
    refine WH.one (i := 7) (by kernel_rfl) (WHo.so rfl (SO.callP Tryz.call49 rfl (fun w hI => fineOf_g X a1 _ c1 (gt rows k) _ _ (hM.mem (by omega)).1 hI.imm a (by omega) (by omega))) rfl ?_)
    rintro _ _ _ ⟨rfl, rfl, rfl⟩
    refine ⟨(by first | exact (fun _ hI => hI.none) | exact (fun _ hI => hI.none.shrink hX6.old)), ?_⟩
    refine WH.one (i := 8) (by kernel_rfl) (WHo.so rfl (SO.buildSlice Tryz.underlying52 Tryz.sizeOf3 Tryz.zeroValue3 rfl rfl rfl rfl (cs := [_]) rfl) rfl ?_)
    rintro _ _ _ ⟨b37, hb37, rfl, rfl, rfl⟩
    refine ⟨(by first | exact (fun _ hI => hI.none) | exact (fun _ hI => hI.none.shrink hX6.old)), ?_⟩
    refine WH.one (i := 9) (by kernel_rfl) (WHo.so rfl (SO.appendOw (o := o) (len := k) (n := 1) (xs := ((outL (fun y => fineY X y a) rows k).flatMap intC)) (size := 1) [_] [_] [] rfl rfl Tryz.underlying52 Tryz.sizeOf3 Tryz.typeInfo3 Tryz.zeroValue3 rfl rfl rfl rfl ⟨rfl, .inr ⟨_, _, _, rfl, RdN.own (k := 0) (n := 1) rfl rfl⟩⟩ (oneB_spec rfl) ho (by rw [flat_len intC_len, outL_len]) (by omega) (by show (2 * (_ + _) + 1000) * 8 ≤ 2 ^ 48; omega) (by omega)) rfl ?_)
    rintro _ _ _ ⟨u1, hu1, rfl, rfl, rfl⟩
    refine ⟨(by first | exact (fun _ hI => hI.none) | exact (fun _ hI => hI.none.shrink hX6.old)), ?_⟩
    refine WH.yd (i := 10) (by kernel_rfl) (fun _ o v c a w _ h => (QuietPanic.blk (QuietPanic.then (QuietPanic.then (QuietPanic.blk (QuietPanic.then QuietPanic.body))))) c o.dst v a w h) rfl (Yd.assign rfl) rfl ?_
    refine WH.nil (by kernel_rfl) ?_
    refine WP.blkNormal (WP.thenC (WC.ofFr [(8, _), (1, _), (2, _), (4, _), (6, _), (9, _)] ⟨rfl, rfl, rfl, rfl, rfl, rfl, trivial⟩ (WC.region ?_)))
    refine WL.yd (Yd.move rfl) rfl ?_
    refine WL.yd (Yd.addN (i := k) (j := 1) rfl rfl (by omega)) rfl ?_
    refine WL.yd (Yd.assign rfl) rfl ?_
    refine WL.nil ?_
    exact WP.againT (⟨k + 1, some u1⟩ : Nat × Option Ow) ⟨by simp only; omega, hu1⟩ (by simp only; omega) [] _ rfl (by show _ = _ ++ owH (some u1) _ ((outL (fun y => fineY X y a) rows (k + 1)).flatMap intC) []; rw [outL_succ, List.flatMap_append]; rfl) ⟨rfl, rfl, rfl, rfl, rfl, rfl, trivial⟩
  · try simp only [zq1, zq2, zq3, zq4, zq5, zq6, zq7, zq8] at c26
    refine WC.exit ?_
    refine WP.thenExit ?_
    refine WP.thenExit ?_
    refine WP.blkHit ?_
    refine WP.thenC (WC.seq ?_)
    obtain rfl : k = rows.length := by omega
    refine WC.freezeOw (f := intC) (m := 1) intC_len [_] [] o 3 (outL (fun y => fineY X y a) rows rows.length) rfl (by rw [outL_len]; exact ho) rfl (fun DR hXR hSR => ?_)
    rw [outL_len] at hSR
    refine WC.ofFr [(4, _), (8, _)] ⟨rfl, rfl, trivial⟩ (WC.region ?_)
    refine WL.yd (Yd.move rfl) rfl ?_
    refine WL.know 39 (.slice (owAt o) rows.length (owCp o rows.length)) rfl (owV_owL (owL_of ho)) ?_
    refine WL.so (SO.callP Tryz.call50 rfl (fun w hI => Gives.cv (spV (fineSp X (a : Int))) (hull_g (outL (fun y => fineY X y a) rows rows.length) (owAt o) rows.length (owCp o rows.length) _ _ hSR hn6 (by omega) hI.imm) (by rw [outL_all hM, hfh]))) rfl ?_
    rintro _ _ _ ⟨rfl, rfl, rfl⟩
    refine WL.so (SO.store 0 rfl Tryz.sizeOf33 rfl rfl rfl rfl (zqb rfl) (oneB_spec rfl)) rfl ?_
    rintro _ _ _ ⟨rfl, rfl, rfl⟩
    refine WL.yd (Yd.assign rfl) rfl ?_
    refine WL.nil (WP.thenC (WC.ret ?_))
    refine WP.ret2 rfl rfl Tryz.results13 (RV.cellN Tryz.isAgg33 Tryz.sizeOf33 rfl (vs := [_, _]) rfl (by first | exact rn0 (n := 2) rfl rfl | exact (RdN.imm (n := 5) h2 rfl) | exact (RdN.imm (n := 2) h2 rfl) | exact ((hM.sl.at k (by omega)).rdn 0 2 rfl))) (RV.tmp rfl) (fun w hI => ⟨rfl, hI.keep⟩)

theorem Fine13_g (X : Till) (a1 : Option Addr) (n1 c1 : Nat) (D : Imm) (w : World) (hR : TksR D X.tk a1 n1) (hH : Holds D w) (n : Int) : Gives Tryz.prog 13 [.agg #[it X.tk.huts, .slice a1 n1 c1, it X.price, it X.fine, it X.wait], it n] w (.tuple #[spV (FineOut X n).1, it (FineOut X n).2]) := by
  by_cases h : spanE X n = 0
  · obtain ⟨q1, q2, q3, q4, q5⟩ := tol_split (show tolE X [] (isT X.tk n) = 0 from h)
    rw [fineE.2 h]
    obtain ⟨a, rfl⟩ : ∃ a : Nat, n = (a : Int) := ⟨n.toNat, (isT_lt q3).2⟩
    exact fine13_ok X a1 n1 c1 D w hR hH a h q1 q3 q5
  · rw [fineE.1 h]
    exact fine13_no X a1 n1 c1 D w hR hH n h

theorem back13_no (X : Till) (a1 : Option Addr) (n1 c1 : Nat) (D : Imm) (w : World) (hR : TksR D X.tk a1 n1) (hH : Holds D w) (n : Int) (h : spanE X n ≠ 0) : Gives Tryz.prog 17 [.agg #[it X.tk.huts, .slice a1 n1 c1, it X.price, it X.fine, it X.wait], it n] w (.tuple #[spV ⟨0, 0⟩, it (spanE X n)]) := by
  unfold Gives
  obtain rfl := hR.tick.len'
  have hl1 := hR.len
  refine enter Tryz.func17 rfl 41 Tryz.ntmps17 (zqb rfl) (Inv.start hH) ?_
  refine WC.seq (WC.ofFr [(0, _), (1, _)] ⟨rfl, rfl, trivial⟩ (WC.region ?_))
  refine WL.so (SO.box rfl rfl) rfl ?_
  rintro _ _ _ ⟨b2, hb2, rfl, rfl, rfl⟩
  refine WL.so (SO.alloc Tryz.zeroValue33 rfl) rfl ?_
  rintro _ _ _ ⟨b4, hb4, rfl, rfl, rfl⟩
  refine WL.yd (Yd.assign rfl) rfl ?_
  refine WL.nil (WP.thenC (WC.seq ?_))
  refine WC.freezeN 1 b2 (.cells (List.toArray (tillC X (.slice a1 X.tk.l.length c1))) 26 (0, 0)) rfl rfl hb2 (fun D2 hX2 h2 => ?_)
  replace hR := hR.ext hX2
  refine WC.ofFr [(5, _), (4, _), (2, _), (1, _)] ⟨rfl, rfl, rfl, rfl, trivial⟩ ?_
  refine WC.drawH [] (by kernel_rfl) (fun _ hI => hI.none) ?_
  refine WH.yd (i := 0) (by kernel_rfl) (fun _ o v c a w _ h => (QuietPanic.then QuietPanic.body) c o.dst v a w h) rfl (Yd.loadN Tryz.isAgg26 Tryz.sizeOf26 rfl (vs := [_, _, _, _, _]) rfl (by first | exact rn0 (n := 5) rfl rfl | exact (RdN.imm (n := 5) h2 rfl) | exact (RdN.imm (n := 2) h2 rfl))) rfl ?_
  refine WH.yd (i := 1) (by kernel_rfl) (fun _ o v c a w _ h => (QuietPanic.then QuietPanic.body) c o.dst v a w h) rfl (Yd.fieldAddr FA26_0 rfl) rfl ?_
  refine WH.yd (i := 2) (by kernel_rfl) (fun _ o v c a w _ h => (QuietPanic.then QuietPanic.body) c o.dst v a w h) rfl (Yd.loadN Tryz.isAgg24 Tryz.sizeOf24 rfl (vs := [_, _]) rfl (by first | exact rn0 (n := 2) rfl rfl | exact (RdN.imm (n := 5) h2 rfl) | exact (RdN.imm (n := 2) h2 rfl))) rfl ?_
  refine WH.yd (i := 3) (by kernel_rfl) (fun _ o v c a w _ h => (QuietPanic.then QuietPanic.body) c o.dst v a w h) rfl (Yd.move rfl) rfl ?_
  refine WH.one (i := 4) (by kernel_rfl) (WHo.so rfl (SO.callP Tryz.call48 rfl (fun w hI => tick03_g X.tk a1 _ c1 _ _ rfl hl1)) rfl ?_)
  rintro _ _ _ ⟨rfl, rfl, rfl⟩
  refine ⟨(fun _ hI => hI.none), ?_⟩
  refine WH.one (i := 5) (by kernel_rfl) (WHo.so rfl (SO.callP Tryz.call47 rfl (fun w hI => told13_no X a1 _ c1 _ _ hR hI.imm [] none 0 0 (bookNil _) (isT X.tk n) h)) rfl ?_)
  rintro _ _ _ ⟨rfl, rfl, rfl⟩
  refine ⟨(fun _ hI => hI.none), ?_⟩
  refine WH.yd (i := 6) (by kernel_rfl) (fun _ o v c a w _ h => (QuietPanic.then QuietPanic.body) c o.dst v a w h) rfl (Yd.move rfl) rfl ?_
  refine WH.yd (i := 7) (by kernel_rfl) (fun _ o v c a w _ h => (QuietPanic.then QuietPanic.body) c o.dst v a w h) rfl (Yd.extract rfl rfl) rfl ?_
  refine WH.yd (i := 8) (by kernel_rfl) (fun _ o v c a w _ h => (QuietPanic.then QuietPanic.body) c o.dst v a w h) rfl (Yd.extract rfl rfl) rfl ?_
  refine WH.yd (i := 9) (by kernel_rfl) (fun _ o v c a w _ h => (QuietPanic.then QuietPanic.body) c o.dst v a w h) rfl (Yd.assign rfl) rfl ?_
  refine WH.yd (i := 10) (by kernel_rfl) (fun _ o v c a w _ h => (QuietPanic.then QuietPanic.body) c o.dst v a w h) rfl (Yd.assign rfl) rfl ?_
  refine WH.nil (by kernel_rfl) ?_
  refine WP.thenC (WC.seq (WC.seq (WC.ofFr [(7, _), (6, _), (5, _), (4, _), (2, _), (1, _)] ⟨rfl, rfl, rfl, rfl, rfl, rfl, trivial⟩ (WC.region ?_))))
  refine WL.yd (Yd.move rfl) rfl ?_
  refine WL.yd (Yd.neq rfl rfl) rfl ?_
  refine WL.know 20 (.bool true) rfl (congrArg Value.bool (decide_eq_true (by (try dsimp only); exact h))) ?_
  refine WL.nil (WP.thenC ?_)
  refine WC.condT rfl ?_
  refine WC.seq (WC.ofFr [(7, _), (6, _), (5, _), (4, _), (2, _), (1, _)] ⟨rfl, rfl, rfl, rfl, rfl, rfl, trivial⟩ (WC.region ?_))
  refine WL.yd (Yd.build SA33 rfl (cs := [_, _]) rfl) rfl ?_
  refine WL.yd (Yd.move rfl) rfl ?_
  refine WL.so (SO.store 0 rfl Tryz.sizeOf33 rfl rfl rfl rfl (zqb rfl) (oneB_spec rfl)) rfl ?_
  rintro _ _ _ ⟨rfl, rfl, rfl⟩
  refine WL.yd (Yd.assign rfl) rfl ?_
  refine WL.nil (WP.thenC (WC.ret (WP.thenRet ?_)))
  refine WP.ret2 rfl rfl Tryz.results17 (RV.cellN Tryz.isAgg33 Tryz.sizeOf33 rfl (vs := [_, _]) rfl (by first | exact rn0 (n := 2) rfl rfl | exact (RdN.imm (n := 5) h2 rfl) | exact (RdN.imm (n := 2) h2 rfl))) (RV.tmp rfl) (fun w hI => ⟨rfl, hI.keep⟩)

theorem back13_ok (X : Till) (a1 : Option Addr) (n1 c1 : Nat) (D : Imm) (w : World) (hR : TksR D X.tk a1 n1) (hH : Holds D w) (a : Nat) (h : spanE X (a : Int) = 0) (hb : tillB X = true) (hn : isT X.tk (a : Int) = true) (hW : tksE X.tk true = 0) : Gives Tryz.prog 17 [.agg #[it X.tk.huts, .slice a1 n1 c1, it X.price, it X.fine, it X.wait], nt a] w (.tuple #[spV (backSp X (a : Int)), it 0]) := by
  unfold Gives
  obtain rfl := hR.tick.len'
  have hl1 := hR.len
  have hv := (tillB_num hb).1
  have hal := (isT_lt hn).1
  rw [Int.toNat_natCast] at hal
  have hfh := back_hull hb hW hn
  rw [Int.toNat_natCast] at hfh
  refine enter Tryz.func17 rfl 41 Tryz.ntmps17 (zqb rfl) (Inv.start hH) ?_
  refine WC.seq (WC.ofFr [(0, _), (1, _)] ⟨rfl, rfl, trivial⟩ (WC.region ?_))
  refine WL.so (SO.box rfl rfl) rfl ?_
  rintro _ _ _ ⟨b2, hb2, rfl, rfl, rfl⟩
  refine WL.so (SO.alloc Tryz.zeroValue33 rfl) rfl ?_
  rintro _ _ _ ⟨b4, hb4, rfl, rfl, rfl⟩
  refine WL.yd (Yd.assign rfl) rfl ?_
  refine WL.nil (WP.thenC (WC.seq ?_))
  refine WC.freezeN 1 b2 (.cells (List.toArray (tillC X (.slice a1 X.tk.l.length c1))) 26 (0, 0)) rfl rfl hb2 (fun D2 hX2 h2 => ?_)
  replace hR := hR.ext hX2
  refine WC.ofFr [(5, _), (4, _), (2, _), (1, _)] ⟨rfl, rfl, rfl, rfl, trivial⟩ ?_
  refine WC.drawH [] (by kernel_rfl) (fun _ hI => hI.none) ?_
  refine WH.yd (i := 0) (by kernel_rfl) (fun _ o v c a w _ h => (QuietPanic.then QuietPanic.body) c o.dst v a w h) rfl (Yd.loadN Tryz.isAgg26 Tryz.sizeOf26 rfl (vs := [_, _, _, _, _]) rfl (by first | exact rn0 (n := 5) rfl rfl | exact (RdN.imm (n := 5) h2 rfl) | exact (RdN.imm (n := 2) h2 rfl) | exact ((hM.sl.at k (by omega)).rdn 0 2 rfl))) rfl ?_
  refine WH.yd (i := 1) (by kernel_rfl) (fun _ o v c a w _ h => (QuietPanic.then QuietPanic.body) c o.dst v a w h) rfl (Yd.fieldAddr FA26_0 rfl) rfl ?_
  refine WH.yd (i := 2) (by kernel_rfl) (fun _ o v c a w _ h => (QuietPanic.then QuietPanic.body) c o.dst v a w h) rfl (Yd.loadN Tryz.isAgg24 Tryz.sizeOf24 rfl (vs := [_, _]) rfl (by first | exact rn0 (n := 2) rfl rfl | exact (RdN.imm (n := 5) h2 rfl) | exact (RdN.imm (n := 2) h2 rfl) | exact ((hM.sl.at k (by omega)).rdn 0 2 rfl))) rfl ?_
  refine WH.yd (i := 3) (by kernel_rfl) (fun _ o v c a w _ h => (QuietPanic.then QuietPanic.body) c o.dst v a w h) rfl (Yd.move rfl) rfl ?_
  refine WH.one (i := 4) (by kernel_rfl) (WHo.so rfl (SO.callP Tryz.call48 rfl (fun w hI => tick03_g X.tk a1 _ c1 _ _ rfl hl1)) rfl ?_)
  rintro _ _ _ ⟨rfl, rfl, rfl⟩
  refine ⟨(by first | exact (fun _ hI => hI.none) | exact (fun _ hI => hI.none.shrink hX6.old)), ?_⟩
  refine WH.one (i := 5) (by kernel_rfl) (WHo.so rfl (SO.makes (Enters.func Tryz.call47 rfl) (fun w hI => told13_ok X a1 _ c1 _ _ hR hI.imm [] none 0 0 (bookNil _) (isT X.tk (a : Int)) h)) rfl ?_)
  rintro _ D6 _ ⟨hX6, ⟨rows, a6, n6, c6, rfl, hM, hn6⟩, rfl⟩
  refine ⟨(by first | exact (fun _ hI => hI.none) | exact (fun _ hI => hI.none.shrink hX6.old)), ?_⟩
  refine WH.yd (i := 6) (by kernel_rfl) (fun _ o v c a w _ h => (QuietPanic.then QuietPanic.body) c o.dst v a w h) rfl (Yd.move rfl) rfl ?_
  refine WH.yd (i := 7) (by kernel_rfl) (fun _ o v c a w _ h => (QuietPanic.then QuietPanic.body) c o.dst v a w h) rfl (Yd.extract rfl rfl) rfl ?_
  refine WH.yd (i := 8) (by kernel_rfl) (fun _ o v c a w _ h => (QuietPanic.then QuietPanic.body) c o.dst v a w h) rfl (Yd.extract rfl rfl) rfl ?_
  refine WH.yd (i := 9) (by kernel_rfl) (fun _ o v c a w _ h => (QuietPanic.then QuietPanic.body) c o.dst v a w h) rfl (Yd.assign rfl) rfl ?_
  refine WH.yd (i := 10) (by kernel_rfl) (fun _ o v c a w _ h => (QuietPanic.then QuietPanic.body) c o.dst v a w h) rfl (Yd.assign rfl) rfl ?_
  refine WH.nil (by kernel_rfl) ?_
  refine WP.thenC (WC.seq (WC.seq ?_))
  replace hR := hR.ext hX6
  replace h2 := hX6.old _ _ h2
  obtain rfl := hM.sl.len'
  have hn6l := hM.nn
  refine WC.ofFr [(7, _), (6, _), (5, _), (4, _), (2, _), (1, _)] ⟨rfl, rfl, rfl, rfl, rfl, rfl, trivial⟩ (WC.region ?_)
  refine WL.yd (Yd.move rfl) rfl ?_
  refine WL.yd (Yd.neq rfl rfl) rfl ?_
  refine WL.know 20 (.bool false) rfl (congrArg Value.bool (by decide)) ?_
  refine WL.nil (WP.thenC ?_)
  refine WC.condF rfl ?_
  refine WC.skip (WP.thenC (WC.seq (WC.ofFr [(6, _), (5, _), (4, _), (2, _), (1, _)] ⟨rfl, rfl, rfl, rfl, rfl, trivial⟩ (WC.region ?_))))
  refine WL.yd (Yd.assign rfl) rfl ?_
  refine WL.nil (WP.thenC (WC.seq (WC.seq (WC.ofFr [(8, _), (6, _), (5, _), (4, _), (2, _), (1, _)] ⟨rfl, rfl, rfl, rfl, rfl, rfl, trivial⟩ (WC.region ?_)))))
  refine WL.yd (Yd.assign rfl) rfl ?_
  refine WL.nil (WP.thenC (WC.block ?_))
  refine WC.loopT [_] (fun y : Nat × Option Ow => [(1, nt a), (2, pt b2), (4, pt b4), (6, .slice a6 rows.length c6), (8, owV y.2 y.1), (9, nt y.1)]) (fun y => owH y.2 3 ((outL (fun y => backY X y a) rows y.1).flatMap intC) []) (fun y => y.1 ≤ rows.length ∧ owP w y.2 y.1 1) (fun y => rows.length - y.1) (0, none) ⟨by omega, rfl⟩ rfl ⟨rfl, rfl, rfl, rfl, rfl, rfl, trivial⟩ ?_
  rintro ⟨k, o⟩ ⟨hk, ho⟩
  dsimp only at hk ho
  refine WC.seq (WC.seq (WC.ofFr [(1, _), (2, _), (4, _), (6, _), (8, _), (9, _)] ⟨rfl, rfl, rfl, rfl, rfl, rfl, trivial⟩ (WC.region ?_)))
  refine WL.yd (Yd.move rfl) rfl ?_
  refine WL.yd (Yd.move rfl) rfl ?_
  refine WL.yd (Yd.lenS rfl Tryz.underlying81 rfl) rfl ?_
  refine WL.yd (Yd.lss rfl rfl) rfl ?_
  refine WL.nil (WP.thenC ?_)
  refine WC.cond rfl (fun c26 => ?_) (fun c26 => ?_)
  · try simp only [zq1, zq2, zq3, zq4, zq5, zq6, zq7, zq8] at c26
    have hkr : k < rows.length := by omega
    have hqn := hM.num hv hkr
    refine WC.skip (WP.thenC (WC.seq (WC.block (WC.ofFr [(1, _), (2, _), (4, _), (6, _), (8, _), (9, _)] ⟨rfl, rfl, rfl, rfl, rfl, rfl, trivial⟩ ?_))))
    refine WC.drawH [] (by kernel_rfl) (fun _ hI => hI.none) ?_
    refine WH.yd (i := 0) (by kernel_rfl) (fun _ o v c a w _ h => (QuietPanic.blk (QuietPanic.then (QuietPanic.then (QuietPanic.blk (QuietPanic.then QuietPanic.body))))) c o.dst v a w h) rfl (Yd.move rfl) rfl ?_
    refine WH.yd (i := 1) (by kernel_rfl) (fun _ o v c a w _ h => (QuietPanic.blk (QuietPanic.then (QuietPanic.then (QuietPanic.blk (QuietPanic.then QuietPanic.body))))) c o.dst v a w h) rfl (Yd.loadN Tryz.isAgg26 Tryz.sizeOf26 rfl (vs := [_, _, _, _, _]) rfl (by first | exact rn0 (n := 5) rfl rfl | exact (RdN.imm (n := 5) h2 rfl) | exact (RdN.imm (n := 2) h2 rfl) | exact ((hM.sl.at k (by omega)).rdn 0 2 rfl))) rfl ?_
    refine WH.yd (i := 2) (by kernel_rfl) (fun _ o v c a w _ h => (QuietPanic.blk (QuietPanic.then (QuietPanic.then (QuietPanic.blk (QuietPanic.then QuietPanic.body))))) c o.dst v a w h) rfl (Yd.move rfl) rfl ?_
    refine WH.yd (i := 3) (by kernel_rfl) (fun _ o v c a w _ h => (QuietPanic.blk (QuietPanic.then (QuietPanic.then (QuietPanic.blk (QuietPanic.then QuietPanic.body))))) c o.dst v a w h) rfl (Yd.move rfl) rfl ?_
    refine WH.yd (i := 4) (by kernel_rfl) (fun _ o v c a w _ h => (QuietPanic.blk (QuietPanic.then (QuietPanic.then (QuietPanic.blk (QuietPanic.then QuietPanic.body))))) c o.dst v a w h) rfl (Yd.indexS Tryz.underlying81 Tryz.sizeOf87 rfl rfl (by (try dsimp only); omega) (by (try dsimp only); omega) (by first | exact hM.sl.addr k (by omega))) rfl ?_
    refine WH.yd (i := 5) (by kernel_rfl) (fun _ o v c a w _ h => (QuietPanic.blk (QuietPanic.then (QuietPanic.then (QuietPanic.blk (QuietPanic.then QuietPanic.body))))) c o.dst v a w h) rfl (Yd.loadN Tryz.isAgg87 Tryz.sizeOf87 rfl (vs := [_, _]) rfl (by first | exact rn0 (n := 2) rfl rfl | exact (RdN.imm (n := 5) h2 rfl) | exact (RdN.imm (n := 2) h2 rfl) | exact ((hM.sl.at k (by omega)).rdn 0 2 rfl))) rfl ?_
    refine WH.yd (i := 6) (by kernel_rfl) (fun _ o v c a w _ h => (QuietPanic.blk (QuietPanic.then (QuietPanic.then (QuietPanic.blk (QuietPanic.then QuietPanic.body))))) c o.dst v a w h) rfl (Yd.move rfl) rfl ?_
    refine WH.one (i := 7) (by kernel_rfl) (WHo.so rfl (SO.callP Tryz.call55 rfl (fun w hI => backOf_g X a1 _ c1 (gt rows k) _ _ (hM.mem (by omega)).1 hI.imm a (by omega) (tillB_num hb).2.2.2 (hqn.2 a (by omega)))) rfl ?_)
    rintro _ _ _ ⟨rfl, rfl, rfl⟩
    refine ⟨(by first | exact (fun _ hI => hI.none) | exact (fun _ hI => hI.none.shrink hX6.old)), ?_⟩
    refine WH.one (i := 8) (by kernel_rfl) (WHo.so rfl (SO.buildSlice Tryz.underlying52 Tryz.sizeOf3 Tryz.zeroValue3 rfl rfl rfl rfl (cs := [_]) rfl) rfl ?_)
    rintro _ _ _ ⟨b37, hb37, rfl, rfl, rfl⟩
    refine ⟨(by first | exact (fun _ hI => hI.none) | exact (fun _ hI => hI.none.shrink hX6.old)), ?_⟩
    refine WH.one (i := 9) (by kernel_rfl) (WHo.so rfl (SO.appendOw (o := o) (len := k) (n := 1) (xs := ((outL (fun y => backY X y a) rows k).flatMap intC)) (size := 1) [_] [_] [] rfl rfl Tryz.underlying52 Tryz.sizeOf3 Tryz.typeInfo3 Tryz.zeroValue3 rfl rfl rfl rfl ⟨rfl, .inr ⟨_, _, _, rfl, RdN.own (k := 0) (n := 1) rfl rfl⟩⟩ (oneB_spec rfl) ho (by rw [flat_len intC_len, outL_len]) (by omega) (by show (2 * (_ + _) + 1000) * 8 ≤ 2 ^ 48; omega) (by omega)) rfl ?_)
    rintro _ _ _ ⟨u1, hu1, rfl, rfl, rfl⟩
    refine ⟨(by first | exact (fun _ hI => hI.none) | exact (fun _ hI => hI.none.shrink hX6.old)), ?_⟩
    refine WH.yd (i := 10) (by kernel_rfl) (fun _ o v c a w _ h => (QuietPanic.blk (QuietPanic.then (QuietPanic.then (QuietPanic.blk (QuietPanic.then QuietPanic.body))))) c o.dst v a w h) rfl (Yd.assign rfl) rfl ?_
    refine WH.nil (by kernel_rfl) ?_
    refine WP.blkNormal (WP.thenC (WC.ofFr [(8, _), (1, _), (2, _), (4, _), (6, _), (9, _)] ⟨rfl, rfl, rfl, rfl, rfl, rfl, trivial⟩ (WC.region ?_)))
    refine WL.yd (Yd.move rfl) rfl ?_
    refine WL.yd (Yd.addN (i := k) (j := 1) rfl rfl (by omega)) rfl ?_
    refine WL.yd (Yd.assign rfl) rfl ?_
    refine WL.nil ?_
    exact WP.againT (⟨k + 1, some u1⟩ : Nat × Option Ow) ⟨by simp only; omega, hu1⟩ (by simp only; omega) [] _ rfl (by show _ = _ ++ owH (some u1) _ ((outL (fun y => backY X y a) rows (k + 1)).flatMap intC) []; rw [outL_succ, List.flatMap_append]; rfl) ⟨rfl, rfl, rfl, rfl, rfl, rfl, trivial⟩
  · try simp only [zq1, zq2, zq3, zq4, zq5, zq6, zq7, zq8] at c26
    refine WC.exit ?_
    refine WP.thenExit ?_
    refine WP.thenExit ?_
    refine WP.blkHit ?_
    refine WP.thenC (WC.seq ?_)
    obtain rfl : k = rows.length := by omega
    refine WC.freezeOw (f := intC) (m := 1) intC_len [_] [] o 3 (outL (fun y => backY X y a) rows rows.length) rfl (by rw [outL_len]; exact ho) rfl (fun DR hXR hSR => ?_)
    rw [outL_len] at hSR
    refine WC.ofFr [(4, _), (8, _)] ⟨rfl, rfl, trivial⟩ (WC.region ?_)
    refine WL.yd (Yd.move rfl) rfl ?_
    refine WL.know 39 (.slice (owAt o) rows.length (owCp o rows.length)) rfl (owV_owL (owL_of ho)) ?_
    refine WL.so (SO.callP Tryz.call50 rfl (fun w hI => Gives.cv (spV (backSp X (a : Int))) (hull_g (outL (fun y => backY X y a) rows rows.length) (owAt o) rows.length (owCp o rows.length) _ _ hSR hn6 (by omega) hI.imm) (by rw [outL_all hM, hfh]))) rfl ?_
    rintro _ _ _ ⟨rfl, rfl, rfl⟩
    refine WL.so (SO.store 0 rfl Tryz.sizeOf33 rfl rfl rfl rfl (zqb rfl) (oneB_spec rfl)) rfl ?_
    rintro _ _ _ ⟨rfl, rfl, rfl⟩
    refine WL.yd (Yd.assign rfl) rfl ?_
    refine WL.nil (WP.thenC (WC.ret ?_))
    refine WP.ret2 rfl rfl Tryz.results17 (RV.cellN Tryz.isAgg33 Tryz.sizeOf33 rfl (vs := [_, _]) rfl (by first | exact rn0 (n := 2) rfl rfl | exact (RdN.imm (n := 5) h2 rfl) | exact (RdN.imm (n := 2) h2 rfl) | exact ((hM.sl.at k (by omega)).rdn 0 2 rfl))) (RV.tmp rfl) (fun w hI => ⟨rfl, hI.keep⟩)

theorem Back13_g (X : Till) (a1 : Option Addr) (n1 c1 : Nat) (D : Imm) (w : World) (hR : TksR D X.tk a1 n1) (hH : Holds D w) (n : Int) : Gives Tryz.prog 17 [.agg #[it X.tk.huts, .slice a1 n1 c1, it X.price, it X.fine, it X.wait], it n] w (.tuple #[spV (BackOut X n).1, it (BackOut X n).2]) := by
  by_cases h : spanE X n = 0
  · obtain ⟨q1, q2, q3, q4, q5⟩ := tol_split (show tolE X [] (isT X.tk n) = 0 from h)
    rw [backE.2 h]
    obtain ⟨a, rfl⟩ : ∃ a : Nat, n = (a : Int) := ⟨n.toNat, (isT_lt q3).2⟩
    exact back13_ok X a1 n1 c1 D w hR hH a h q1 q3 q5
  · rw [backE.1 h]
    exact back13_no X a1 n1 c1 D w hR hH n h

theorem fines13_no (X : Till) (a1 : Option Addr) (n1 c1 : Nat) (D : Imm) (w : World) (hR : TksR D X.tk a1 n1) (hH : Holds D w) (h : toldE X [] ≠ 0) : Gives Tryz.prog 15 [.agg #[it X.tk.huts, .slice a1 n1 c1, it X.price, it X.fine, it X.wait]] w (.tuple #[spV ⟨0, 0⟩, it (toldE X [])]) := by
  unfold Gives
  obtain rfl := hR.tick.len'
  have hl1 := hR.len
  refine enter Tryz.func15 rfl 48 Tryz.ntmps15 (zqb rfl) (Inv.start hH) ?_
  refine WC.seq (WC.ofFr [(0, _)] ⟨rfl, trivial⟩ (WC.region ?_))
  refine WL.so (SO.box rfl rfl) rfl ?_
  rintro _ _ _ ⟨b1, hb1, rfl, rfl, rfl⟩
  refine WL.so (SO.alloc Tryz.zeroValue33 rfl) rfl ?_
  rintro _ _ _ ⟨b2, hb2, rfl, rfl, rfl⟩
  refine WL.yd (Yd.assign rfl) rfl ?_
  refine WL.nil (WP.thenC (WC.seq ?_))
  refine WC.freezeN 1 b1 (.cells (List.toArray (tillC X (.slice a1 X.tk.l.length c1))) 26 (0, 0)) rfl rfl hb1 (fun D2 hX2 h2 => ?_)
  replace hR := hR.ext hX2
  refine WC.ofFr [(3, _), (2, _), (1, _)] ⟨rfl, rfl, rfl, trivial⟩ (WC.region ?_)
  refine WL.yd (Yd.loadN Tryz.isAgg26 Tryz.sizeOf26 rfl (vs := [_, _, _, _, _]) rfl (RdN.imm (n := 5) h2 rfl)) rfl ?_
  refine WL.so (SO.callP Tryz.call47 rfl (fun w hI => told13_no X a1 _ c1 _ _ hR hI.imm [] none 0 0 (bookNil _) true h)) rfl ?_
  rintro _ _ _ ⟨rfl, rfl, rfl⟩
  refine WL.yd (Yd.move rfl) rfl ?_
  refine WL.yd (Yd.extract rfl rfl) rfl ?_
  refine WL.yd (Yd.extract rfl rfl) rfl ?_
  refine WL.yd (Yd.assign rfl) rfl ?_
  refine WL.yd (Yd.assign rfl) rfl ?_
  refine WL.nil (WP.thenC (WC.seq (WC.seq (WC.ofFr [(5, _), (4, _), (3, _), (2, _), (1, _)] ⟨rfl, rfl, rfl, rfl, rfl, trivial⟩ (WC.region ?_)))))
  refine WL.yd (Yd.move rfl) rfl ?_
  refine WL.yd (Yd.neq rfl rfl) rfl ?_
  refine WL.know 16 (.bool true) rfl (congrArg Value.bool (decide_eq_true (by (try dsimp only); exact h))) ?_
  refine WL.nil (WP.thenC ?_)
  refine WC.condT rfl ?_
  refine WC.seq (WC.ofFr [(5, _), (4, _), (3, _), (2, _), (1, _)] ⟨rfl, rfl, rfl, rfl, rfl, trivial⟩ (WC.region ?_))
  refine WL.yd (Yd.build SA33 rfl (cs := [_, _]) rfl) rfl ?_
  refine WL.yd (Yd.move rfl) rfl ?_
  refine WL.so (SO.store 0 rfl Tryz.sizeOf33 rfl rfl rfl rfl (zqb rfl) (oneB_spec rfl)) rfl ?_
  rintro _ _ _ ⟨rfl, rfl, rfl⟩
  refine WL.yd (Yd.assign rfl) rfl ?_
  refine WL.nil (WP.thenC (WC.ret (WP.thenRet ?_)))
  refine WP.ret2 rfl rfl Tryz.results15 (RV.cellN Tryz.isAgg33 Tryz.sizeOf33 rfl (vs := [_, _]) rfl (by first | exact rn0 (n := 2) rfl rfl | exact (RdN.imm (n := 5) h2 rfl))) (RV.tmp rfl) (fun w hI => ⟨rfl, hI.keep⟩)

theorem fines13_ok (X : Till) (a1 : Option Addr) (n1 c1 : Nat) (D : Imm) (w : World) (hR : TksR D X.tk a1 n1) (hH : Holds D w) (h : toldE X [] = 0) (hb : tillB X = true) (hW : tksE X.tk true = 0) : Gives Tryz.prog 15 [.agg #[it X.tk.huts, .slice a1 n1 c1, it X.price, it X.fine, it X.wait]] w (.tuple #[spV ⟨(WrongOut X.tk).1.lo * X.fine, (WrongOut X.tk).1.hi * X.fine⟩, it 0]) := by
  unfold Gives
  obtain rfl := hR.tick.len'
  have hl1 := hR.len
  have hv := (tillB_num hb).1
  have h5 := (tks_num hv).2.1
  refine enter Tryz.func15 rfl 48 Tryz.ntmps15 (zqb rfl) (Inv.start hH) ?_
  refine WC.seq (WC.ofFr [(0, _)] ⟨rfl, trivial⟩ (WC.region ?_))
  refine WL.so (SO.box rfl rfl) rfl ?_
  rintro _ _ _ ⟨b1, hb1, rfl, rfl, rfl⟩
  refine WL.so (SO.alloc Tryz.zeroValue33 rfl) rfl ?_
  rintro _ _ _ ⟨b2, hb2, rfl, rfl, rfl⟩
  refine WL.yd (Yd.assign rfl) rfl ?_
  refine WL.nil (WP.thenC (WC.seq ?_))
  refine WC.freezeN 1 b1 (.cells (List.toArray (tillC X (.slice a1 X.tk.l.length c1))) 26 (0, 0)) rfl rfl hb1 (fun D2 hX2 h2 => ?_)
  replace hR := hR.ext hX2
  refine WC.ofFr [(3, _), (2, _), (1, _)] ⟨rfl, rfl, rfl, trivial⟩ (WC.region ?_)
  refine WL.yd (Yd.loadN Tryz.isAgg26 Tryz.sizeOf26 rfl (vs := [_, _, _, _, _]) rfl (by first | exact (RdN.imm (n := 5) h2 rfl) | exact ((hM.sl.at k (by omega)).rdn 0 2 rfl))) rfl ?_
  refine WL.so (SO.makes (Enters.func Tryz.call47 rfl) (fun w hI => told13_ok X a1 _ c1 _ _ hR hI.imm [] none 0 0 (bookNil _) true h)) rfl ?_
  rintro _ D6 _ ⟨hX6, ⟨rows, a6, n6, c6, rfl, hM, hn6⟩, rfl⟩
  refine WL.yd (Yd.move rfl) rfl ?_
  refine WL.yd (Yd.extract rfl rfl) rfl ?_
  refine WL.yd (Yd.extract rfl rfl) rfl ?_
  refine WL.yd (Yd.assign rfl) rfl ?_
  refine WL.yd (Yd.assign rfl) rfl ?_
  refine WL.nil (WP.thenC (WC.seq (WC.seq ?_)))
  replace hR := hR.ext hX6
  replace h2 := hX6.old _ _ h2
  obtain rfl := hM.sl.len'
  have hn6l := hM.nn
  refine WC.ofFr [(5, _), (4, _), (3, _), (2, _), (1, _)] ⟨rfl, rfl, rfl, rfl, rfl, trivial⟩ (WC.region ?_)
  refine WL.yd (Yd.move rfl) rfl ?_
  refine WL.yd (Yd.neq rfl rfl) rfl ?_
  refine WL.know 16 (.bool false) rfl (congrArg Value.bool (by decide)) ?_
  refine WL.nil (WP.thenC ?_)
  refine WC.condF rfl ?_
  refine WC.skip (WP.thenC (WC.seq (WC.ofFr [(4, _), (3, _), (2, _), (1, _)] ⟨rfl, rfl, rfl, rfl, trivial⟩ (WC.region ?_))))
  refine WL.yd (Yd.assign rfl) rfl ?_
  refine WL.nil (WP.thenC (WC.seq (WC.seq (WC.ofFr [(6, _), (4, _), (3, _), (2, _), (1, _)] ⟨rfl, rfl, rfl, rfl, rfl, trivial⟩ (WC.region ?_)))))
  refine WL.yd (Yd.assign rfl) rfl ?_
  refine WL.nil (WP.thenC (WC.block ?_))
  refine WC.loopT [_] (fun y : Nat × Option Ow => [(1, pt b1), (2, pt b2), (4, .slice a6 rows.length c6), (6, owV y.2 y.1), (7, nt y.1)]) (fun y => owH y.2 3 ((outL (fun y => sumFi X y X.tk.l.length) rows y.1).flatMap intC) []) (fun y => y.1 ≤ rows.length ∧ owP w y.2 y.1 1) (fun y => rows.length - y.1) (0, none) ⟨by omega, rfl⟩ rfl ⟨rfl, rfl, rfl, rfl, rfl, trivial⟩ ?_
  rintro ⟨k, o⟩ ⟨hk, ho⟩
  dsimp only at hk ho
  refine WC.seq (WC.seq (WC.ofFr [(1, _), (2, _), (4, _), (6, _), (7, _)] ⟨rfl, rfl, rfl, rfl, rfl, trivial⟩ (WC.region ?_)))
  refine WL.yd (Yd.move rfl) rfl ?_
  refine WL.yd (Yd.move rfl) rfl ?_
  refine WL.yd (Yd.lenS rfl Tryz.underlying81 rfl) rfl ?_
  refine WL.yd (Yd.lss rfl rfl) rfl ?_
  refine WL.nil (WP.thenC ?_)
  refine WC.cond rfl (fun c22 => ?_) (fun c22 => ?_)
  · try simp only [zq1, zq2, zq3, zq4, zq5, zq6, zq7, zq8] at c22
    have hkr : k < rows.length := by omega
    have hqn := hM.num hv hkr
    refine WC.skip (WP.thenC (WC.seq (WC.block (WC.seq (WC.ofFr [(1, _), (2, _), (4, _), (6, _), (7, _)] ⟨rfl, rfl, rfl, rfl, rfl, trivial⟩ (WC.region ?_))))))
    refine WL.yd (Yd.assign rfl) rfl ?_
    refine WL.nil (WP.thenC (WC.seq (WC.seq (WC.ofFr [(8, _), (1, _), (2, _), (4, _), (6, _), (7, _)] ⟨rfl, rfl, rfl, rfl, rfl, rfl, trivial⟩ (WC.region ?_)))))
    refine WL.yd (Yd.assign rfl) rfl ?_
    refine WL.nil (WP.thenC (WC.block ?_))
    refine WC.loopF (fun j : Nat => [(1, pt b1), (2, pt b2), (4, .slice a6 rows.length c6), (6, owV o k), (7, nt k), (8, it (sumFi X (gt rows k).y j)), (9, nt j)]) (fun j => j ≤ X.tk.l.length) (fun j => X.tk.l.length - j) 0 (by omega) ⟨rfl, rfl, rfl, rfl, rfl, rfl, rfl, trivial⟩ ?_
    intro j hj
    refine WC.seq (WC.seq (WC.ofFr [(1, _), (2, _), (4, _), (6, _), (7, _), (8, _), (9, _)] ⟨rfl, rfl, rfl, rfl, rfl, rfl, rfl, trivial⟩ (WC.region ?_)))
    refine WL.yd (Yd.move rfl) rfl ?_
    refine WL.yd (Yd.fieldAddr FA26_0 rfl) rfl ?_
    refine WL.yd (Yd.fieldAddr FA24_1 rfl) rfl ?_
    refine WL.yd (Yd.load1 Tryz.isAgg22 rfl (Rd.imm h2 rfl)) rfl ?_
    refine WL.yd (Yd.lenS rfl Tryz.underlying22 rfl) rfl ?_
    refine WL.yd (Yd.lss rfl rfl) rfl ?_
    refine WL.nil (WP.thenC ?_)
    refine WC.cond rfl (fun c30 => ?_) (fun c30 => ?_)
    · try simp only [zq1, zq2, zq3, zq4, zq5, zq6, zq7, zq8] at c30
      have hjl : j < X.tk.l.length := by omega
      have hs1 := sumFi_num hb (gt rows k).y j
      have hs2 := fineY_num hb (gt rows k).y j
      refine WC.skip (WP.thenC (WC.seq (WC.block (WC.ofFr [(1, _), (2, _), (4, _), (6, _), (7, _), (8, _), (9, _)] ⟨rfl, rfl, rfl, rfl, rfl, rfl, rfl, trivial⟩ ?_))))
      refine WC.tail 8 [0, 1, 2, 3, 4, 5, 6, 7] rfl (by kernel_rfl) (by kernel_rfl)  ?_
      refine WQ.q rfl (Yd.qt (Yd.move rfl)) rfl ?_
      refine WQ.q rfl (Yd.qt (Yd.loadN Tryz.isAgg26 Tryz.sizeOf26 rfl (vs := [_, _, _, _, _]) rfl (by first | exact (RdN.imm (n := 5) h2 rfl) | exact ((hM.sl.at k (by omega)).rdn 0 2 rfl)))) rfl ?_
      refine WQ.q rfl (Yd.qt (Yd.move rfl)) rfl ?_
      refine WQ.q rfl (Yd.qt (Yd.move rfl)) rfl ?_
      refine WQ.q rfl (Yd.qt (Yd.indexS Tryz.underlying81 Tryz.sizeOf87 rfl rfl (by (try dsimp only); omega) (by (try dsimp only); omega) (by first | exact hM.sl.addr k (by omega)))) rfl ?_
      refine WQ.q rfl (Yd.qt (Yd.loadN Tryz.isAgg87 Tryz.sizeOf87 rfl (vs := [_, _]) rfl (by first | exact (RdN.imm (n := 5) h2 rfl) | exact ((hM.sl.at k (by omega)).rdn 0 2 rfl)))) rfl ?_
      refine WQ.q rfl (Yd.qt (Yd.move rfl)) rfl ?_
      refine WQ.q rfl (Qt.callP Tryz.call49 rfl (fun w hI => fineOf_g X a1 _ c1 (gt rows k) _ _ (hM.mem (by omega)).1 hI.imm j (by omega) (by omega))) rfl ?_
      refine WQ.tail ?_
      refine WL.yd (Yd.add rfl rfl (wr64 ⟨by (try dsimp only); omega, by (try dsimp only); omega⟩)) rfl ?_
      refine WL.yd (Yd.assign rfl) rfl ?_
      refine WL.nil (WP.blkNormal (WP.thenC (WC.ofFr [(8, _), (1, _), (2, _), (4, _), (6, _), (7, _), (9, _)] ⟨rfl, rfl, rfl, rfl, rfl, rfl, rfl, trivial⟩ (WC.region ?_))))
      refine WL.yd (Yd.move rfl) rfl ?_
      refine WL.yd (Yd.addN (i := j) (j := 1) rfl rfl (by omega)) rfl ?_
      refine WL.yd (Yd.assign rfl) rfl ?_
      refine WL.nil ?_
      exact WP.againF (j + 1) (by omega) (by omega) ⟨rfl, rfl, rfl, rfl, rfl, by rw [sumFi_succ]; rfl, rfl, trivial⟩ (fun _ h => h) (fun h => h)
    · try simp only [zq1, zq2, zq3, zq4, zq5, zq6, zq7, zq8] at c30
      obtain rfl : j = X.tk.l.length := by omega
      refine WC.exit ?_
      refine WP.thenExit ?_
      refine WP.thenExit ?_
      refine WP.blkHit ?_
      refine WP.thenC (WC.ofFr [(1, _), (2, _), (4, _), (6, _), (7, _), (8, _)] ⟨rfl, rfl, rfl, rfl, rfl, rfl, trivial⟩ (WC.region ?_))
      refine WL.yd (Yd.move rfl) rfl ?_
      refine WL.yd (Yd.move rfl) rfl ?_
      refine WL.so (SO.buildSlice Tryz.underlying52 Tryz.sizeOf3 Tryz.zeroValue3 rfl rfl rfl rfl (cs := [_]) rfl) rfl ?_
      rintro _ _ _ ⟨b44, hb44, rfl, rfl, rfl⟩
      refine WL.so (SO.appendOw (o := o) (len := k) (n := 1) (xs := ((outL (fun y => sumFi X y X.tk.l.length) rows k).flatMap intC)) (size := 1) [_] [_] [] rfl rfl Tryz.underlying52 Tryz.sizeOf3 Tryz.typeInfo3 Tryz.zeroValue3 rfl rfl rfl rfl ⟨rfl, .inr ⟨_, _, _, rfl, RdN.own (k := 0) (n := 1) rfl rfl⟩⟩ (oneB_spec rfl) ho (by rw [flat_len intC_len, outL_len]) (by omega) (by show (2 * (_ + _) + 1000) * 8 ≤ 2 ^ 48; omega) (by omega)) rfl ?_
      rintro _ _ _ ⟨u1, hu1, rfl, rfl, rfl⟩
      refine WL.yd (Yd.assign rfl) rfl ?_
      refine WL.nil (WP.blkNormal (WP.thenC (WC.ofFr [(6, _), (1, _), (2, _), (4, _), (7, _)] ⟨rfl, rfl, rfl, rfl, rfl, trivial⟩ (WC.region ?_))))
      refine WL.yd (Yd.move rfl) rfl ?_
      refine WL.yd (Yd.addN (i := k) (j := 1) rfl rfl (by omega)) rfl ?_
      refine WL.yd (Yd.assign rfl) rfl ?_
      refine WL.nil ?_
      exact WP.againT (⟨k + 1, some u1⟩ : Nat × Option Ow) ⟨by simp only; omega, hu1⟩ (by simp only; omega) [] _ rfl (by show _ = _ ++ owH (some u1) _ ((outL (fun y => sumFi X y X.tk.l.length) rows (k + 1)).flatMap intC) []; rw [outL_succ, List.flatMap_append]; rfl) ⟨rfl, rfl, rfl, rfl, rfl, trivial⟩
  · try simp only [zq1, zq2, zq3, zq4, zq5, zq6, zq7, zq8] at c22
    refine WC.exit ?_
    refine WP.thenExit ?_
    refine WP.thenExit ?_
    refine WP.blkHit ?_
    refine WP.thenC (WC.seq ?_)
    obtain rfl : k = rows.length := by omega
    refine WC.freezeOw (f := intC) (m := 1) intC_len [_] [] o 3 (outL (fun y => sumFi X y X.tk.l.length) rows rows.length) rfl (by rw [outL_len]; exact ho) rfl (fun DR hXR hSR => ?_)
    rw [outL_len] at hSR
    refine WC.ofFr [(2, _), (6, _)] ⟨rfl, rfl, trivial⟩ (WC.region ?_)
    refine WL.yd (Yd.move rfl) rfl ?_
    refine WL.know 46 (.slice (owAt o) rows.length (owCp o rows.length)) rfl (owV_owL (owL_of ho)) ?_
    refine WL.so (SO.callP Tryz.call50 rfl (fun w hI => Gives.cv (spV ⟨(WrongOut X.tk).1.lo * X.fine, (WrongOut X.tk).1.hi * X.fine⟩) (hull_g (outL (fun y => sumFi X y X.tk.l.length) rows rows.length) (owAt o) rows.length (owCp o rows.length) _ _ hSR hn6 (by omega) hI.imm) (by rw [outL_all hM, fines_hull hb hW]))) rfl ?_
    rintro _ _ _ ⟨rfl, rfl, rfl⟩
    refine WL.so (SO.store 0 rfl Tryz.sizeOf33 rfl rfl rfl rfl (zqb rfl) (oneB_spec rfl)) rfl ?_
    rintro _ _ _ ⟨rfl, rfl, rfl⟩
    refine WL.yd (Yd.assign rfl) rfl ?_
    refine WL.nil (WP.thenC (WC.ret ?_))
    refine WP.ret2 rfl rfl Tryz.results15 (RV.cellN Tryz.isAgg33 Tryz.sizeOf33 rfl (vs := [_, _]) rfl (by first | exact rn0 (n := 2) rfl rfl | exact (RdN.imm (n := 5) h2 rfl) | exact ((hM.sl.at k (by omega)).rdn 0 2 rfl))) (RV.tmp rfl) (fun w hI => ⟨rfl, hI.keep⟩)

theorem Fines13_g (X : Till) (a1 : Option Addr) (n1 c1 : Nat) (D : Imm) (w : World) (hR : TksR D X.tk a1 n1) (hH : Holds D w) : Gives Tryz.prog 15 [.agg #[it X.tk.huts, .slice a1 n1 c1, it X.price, it X.fine, it X.wait]] w (.tuple #[spV (FinesOut X).1, it (FinesOut X).2]) := by
  by_cases h : toldE X [] = 0
  · obtain ⟨q1, q2, q3, q4, q5⟩ := tol_split (show tolE X [] true = 0 from h)
    rw [show FinesOut X = (⟨(WrongOut X.tk).1.lo * X.fine, (WrongOut X.tk).1.hi * X.fine⟩, 0) by unfold FinesOut; rw [if_neg (by rw [h]; simp)]]
    exact fines13_ok X a1 n1 c1 D w hR hH h q1 q5
  · rw [show FinesOut X = (⟨0, 0⟩, toldE X []) by unfold FinesOut; rw [if_pos h]]
    exact fines13_no X a1 n1 c1 D w hR hH h

end Go.Proofs.YtpnbkdlejfmbeaaGreat
