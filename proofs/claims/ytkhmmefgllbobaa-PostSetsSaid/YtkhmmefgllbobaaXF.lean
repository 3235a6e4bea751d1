import Derived.Test.YtkhmmefgllbobaaXE
import Derived.Test.YtkhmmefgllbobaaXV
import Derived.Test.YtkhmmefgllbobaaXB
set_option linter.unusedSimpArgs false
set_option linter.unusedVariables false
set_option linter.all false
namespace Go.Proofs.Ytkhmmefgllbobaa
open Go.W Go.Po

theorem ints_one {D : Imm} {b : Nat} {n : Int} {t : TypeId} {fz : Nat × Nat} (h : D b = some (.cells (List.toArray [it n]) t fz)) : SlL D 1 ([n].map intC) (some ⟨b, 0, none⟩) 1 := SlL.ofBlock (f := intC) (l := [n]) (rest := []) intC_len h
theorem ints_two {D : Imm} {b : Nat} {n m : Int} {t : TypeId} {fz : Nat × Nat} (h : D b = some (.cells (List.toArray [it n, it m]) t fz)) : SlL D 1 ([n, m].map intC) (some ⟨b, 0, none⟩) 2 := SlL.ofBlock (f := intC) (l := [n, m]) (rest := []) intC_len h
theorem ints_nil (D : Imm) : SlL D 1 (([] : List Int).map intC) none 0 := ⟨rfl, fun i r hr => by simp at hr⟩
def MapAt (D : Imm) (v : Value) (F : FM) : Prop := ∃ es clock bm, v = .map (some bm) ∧ D bm = some (.map es clock) ∧ MapF es clock F
theorem MapAt.ext {w : World} {D D' : Imm} (hD : DExt w D D') {v : Value} {F : FM} (h : MapAt D v F) : MapAt D' v F := by
  obtain ⟨es, clock, bm, rfl, h2, h3⟩ := h
  exact ⟨es, clock, bm, rfl, hD.old _ _ h2, h3⟩

theorem owP_mono {w w' : World} (h : w.heap.size ≤ w'.heap.size) {o : Option Ow} {n m : Nat} (ho : owP w' o n m) : owP w o n m := by
  cases o with
  | none => exact ho
  | some u => exact ⟨Nat.le_trans h ho.1, ho.2⟩
theorem rules_w (w0 : World) (p : Post) (a1 : Option Addr) (n1 c1 : Nat) (a2 : Option Addr) (n2 c2 : Nat) (q : Nat) (D : Imm) (w : World) (hB : BeachAt D q p (.slice a1 n1 c1) (.slice a2 n2 c2)) (hR : PostR D p a1 n1 a2 n2) (hH : Holds D w) (hv : postB p = true) (s : Nat) (hs : w0.heap.size ≤ w.heap.size) : News Try.prog 63 [pt q, ut s] w D (fun v D' hp' => ∃ o, v = owV o (selA p s).length ∧ owP w0 o (selA p s).length 1 ∧ hp' = owH o 88 ((selA p s).flatMap ruleC) []) :=
  (rules_g p a1 n1 c1 a2 n2 c2 q D w hB hR hH hv s).mono fun e w' ⟨v, D', hp', h1, h2, h3, o, h4, h5, h6⟩ => ⟨v, D', hp', h1, h2, h3, o, h4, owP_mono hs h5, h6⟩

set_option maxRecDepth 100000 in
set_option maxHeartbeats 1000000 in
theorem told_no (p : Post) (a1 : Option Addr) (n1 c1 : Nat) (a2 : Option Addr) (n2 c2 : Nat) (q : Nat) (D : Imm) (w : World) (hB : BeachAt D q p (.slice a1 n1 c1) (.slice a2 n2 c2)) (hR : PostR D p a1 n1 a2 n2) (hH : Holds D w) (hv : postB p = true) (hok : okA p = false) : Fails Try.prog 50 [pt q] w (stopC 10) := by
  unfold Fails
  obtain rfl := hR.bath.len'
  obtain rfl := hR.claim.len'
  have hl1 := hR.len1
  have hl2 := hR.len2
  refine enter Try.func50 rfl 17 Try.ntmps50 (Nat.le_of_ble_eq_true rfl) (Inv.start hH) ?_
  refine WC.seq ?_
  refine WC.ofFr [(0, _)] ⟨rfl, trivial⟩ ?_
  refine WC.region ?_
  refine WL.yd (Yd.assign rfl) rfl ?_
  refine WL.nil ?_
  refine WP.thenC ?_
  refine WC.seq ?_
  refine WC.ofFr [(2, _), (0, _)] ⟨rfl, rfl, trivial⟩ ?_
  refine WC.region ?_
  refine WL.yd (Yd.move rfl) rfl ?_
  refine WL.yd (Yd.move rfl) rfl ?_
  refine WL.yd (Yd.move rfl) rfl ?_
  refine WL.so (SO.callP Try.call64 rfl (fun w hI => every_g p a1 _ c1 a2 _ c2 q D _ hB hR hI.imm hv)) rfl ?_
  rintro _ _ _ ⟨rfl, rfl, rfl⟩
  refine WL.so (SO.news (Enters.func Try.call63 rfl) (fun w2 hI => rules_w w p a1 _ c1 a2 _ c2 q D w2 hB hR hI.imm hv (everyS p) hI.keep.size)) rfl ?_
  rintro _ D1 _ ⟨_, hX1, ⟨o, rfl, ho, rfl⟩, rfl⟩
  refine WL.know 10 (.slice (owAt o) (selA p (everyS p)).length (owCp o (selA p (everyS p)).length)) rfl (owV_owL (owL_of ho)) ?_
  refine WL.freezeOw (f := ruleC) (m := 1) ruleC_len [] [] o 88 (selA p (everyS p)) rfl ho rfl (fun D2 hX2 hS2 => ?_)
  replace hB := (hB.ext hX1).ext hX2
  replace hR := (hR.ext hX1).ext hX2
  have hl3 : (selA p (everyS p)).length ≤ 1000 := by have := selR_len p (everyS p) p.claims.length; unfold selA; omega
  refine WL.so (SO.makes (Enters.func Try.call62 rfl) (fun w hI => bounds_g p a1 _ c1 a2 _ c2 q D2 _ hB hR hI.imm hv (selA p (everyS p)) (owAt o) _ _ hS2 hl3 (selA_in hv _))) rfl ?_
  rintro _ D3 _ ⟨hX3, ⟨es, clock, bm, rfl, hbm, hM⟩, rfl⟩
  have hok2 : farOk p (selA p (everyS p)) = false := hok
  rw [hok2]
  refine WL.yd (Yd.move rfl) rfl ?_
  refine WL.yd (Yd.extract rfl rfl) rfl ?_
  refine WL.yd (Yd.extract rfl rfl) rfl ?_
  refine WL.yd (Yd.assign rfl) rfl ?_
  refine WL.yd (Yd.assign rfl) rfl ?_
  refine WL.nil ?_
  refine WP.thenC ?_
  refine WC.seq ?_
  refine WC.ofFr [(4, _), (3, _), (2, _)] ⟨rfl, rfl, rfl, trivial⟩ ?_
  refine WC.region ?_
  refine WL.yd (Yd.move rfl) rfl ?_
  refine WL.know 14 (.bool false) rfl rfl ?_
  refine WL.no (SO.fail (Enters.func Try.call83 rfl) (fun w hI => must_no _ _) ?_)
  refine WP.thenPanic ?_
  exact WP.panicBody rfl (fun w hI => ⟨rfl, hI.keep⟩)

set_option maxRecDepth 100000 in
set_option maxHeartbeats 1000000 in
theorem told_ok (p : Post) (a1 : Option Addr) (n1 c1 : Nat) (a2 : Option Addr) (n2 c2 : Nat) (q : Nat) (D : Imm) (w : World) (hB : BeachAt D q p (.slice a1 n1 c1) (.slice a2 n2 c2)) (hR : PostR D p a1 n1 a2 n2) (hH : Holds D w) (hv : postB p = true) (hok : okA p = true) : Makes Try.prog 50 [pt q] w D (fun v D' => MapAt D' v (farOf p (allR p))) := by
  unfold Makes
  obtain rfl := hR.bath.len'
  obtain rfl := hR.claim.len'
  have hl1 := hR.len1
  have hl2 := hR.len2
  refine enter Try.func50 rfl 17 Try.ntmps50 (Nat.le_of_ble_eq_true rfl) (Inv.start hH) ?_
  refine WC.seq ?_
  refine WC.ofFr [(0, _)] ⟨rfl, trivial⟩ ?_
  refine WC.region ?_
  refine WL.yd (Yd.assign rfl) rfl ?_
  refine WL.nil ?_
  refine WP.thenC ?_
  refine WC.seq ?_
  refine WC.ofFr [(2, _), (0, _)] ⟨rfl, rfl, trivial⟩ ?_
  refine WC.region ?_
  refine WL.yd (Yd.move rfl) rfl ?_
  refine WL.yd (Yd.move rfl) rfl ?_
  refine WL.yd (Yd.move rfl) rfl ?_
  refine WL.so (SO.callP Try.call64 rfl (fun w hI => every_g p a1 _ c1 a2 _ c2 q D _ hB hR hI.imm hv)) rfl ?_
  rintro _ _ _ ⟨rfl, rfl, rfl⟩
  refine WL.so (SO.news (Enters.func Try.call63 rfl) (fun w2 hI => rules_w w p a1 _ c1 a2 _ c2 q D w2 hB hR hI.imm hv (everyS p) hI.keep.size)) rfl ?_
  rintro _ D1 _ ⟨_, hX1, ⟨o, rfl, ho, rfl⟩, rfl⟩
  refine WL.know 10 (.slice (owAt o) (selA p (everyS p)).length (owCp o (selA p (everyS p)).length)) rfl (owV_owL (owL_of ho)) ?_
  refine WL.freezeOw (f := ruleC) (m := 1) ruleC_len [] [] o 88 (selA p (everyS p)) rfl ho rfl (fun D2 hX2 hS2 => ?_)
  replace hB := (hB.ext hX1).ext hX2
  replace hR := (hR.ext hX1).ext hX2
  have hl3 : (selA p (everyS p)).length ≤ 1000 := by have := selR_len p (everyS p) p.claims.length; unfold selA; omega
  refine WL.so (SO.makes (Enters.func Try.call62 rfl) (fun w hI => bounds_g p a1 _ c1 a2 _ c2 q D2 _ hB hR hI.imm hv (selA p (everyS p)) (owAt o) _ _ hS2 hl3 (selA_in hv _))) rfl ?_
  rintro _ D3 _ ⟨hX3, ⟨es, clock, bm, rfl, hbm, hM⟩, rfl⟩
  have hok2 : farOk p (selA p (everyS p)) = true := hok
  rw [hok2]
  refine WL.yd (Yd.move rfl) rfl ?_
  refine WL.yd (Yd.extract rfl rfl) rfl ?_
  refine WL.yd (Yd.extract rfl rfl) rfl ?_
  refine WL.yd (Yd.assign rfl) rfl ?_
  refine WL.yd (Yd.assign rfl) rfl ?_
  refine WL.nil ?_
  refine WP.thenC ?_
  refine WC.seq ?_
  refine WC.ofFr [(4, _), (3, _), (2, _)] ⟨rfl, rfl, rfl, trivial⟩ ?_
  refine WC.region ?_
  refine WL.yd (Yd.move rfl) rfl ?_
  refine WL.know 14 (.bool true) rfl rfl ?_
  refine WL.so (SO.call (Enters.func Try.call83 rfl) (fun w hI => must_ok _ _)) rfl ?_
  rintro _ _ _ ⟨rfl, rfl, rfl⟩
  refine WL.nil ?_
  refine WP.thenC ?_
  refine WC.seq ?_
  refine WC.ofFr [(3, _), (2, _)] ⟨rfl, rfl, trivial⟩ ?_
  refine WC.region ?_
  refine WL.yd (Yd.move rfl) rfl ?_
  refine WL.yd (Yd.assign rfl) rfl ?_
  refine WL.nil ?_
  refine WP.thenC ?_
  refine WC.ret ?_
  refine WP.ret1 rfl rfl Try.results50 (RV.tmp rfl) (fun w1 hI => ⟨_, D3, rfl, hI.keep, hI.imm, (hX1.trans hX2 (Nat.le_refl _)).trans hX3 (Nat.le_refl _), es, clock, bm, rfl, hbm, hM⟩)

set_option maxRecDepth 100000 in
set_option maxHeartbeats 1000000 in
theorem span_g (F : FM) (m : Value) (D : Imm) (w : World) (hMA : MapAt D m F) (hH : Holds D w) (i j : Nat) (hi : i < 7) (hj : j < 7) (hn : -9223372036854775807 ≤ (F j i).getD 0 ∧ (F j i).getD 0 ≤ 9223372036854775807) : Gives Try.prog 51 [m, .agg #[it ((i : Int) - 2), it ((j : Int) - 2)]] w (.agg #[it (-(F j i).getD 0), it ((F i j).getD 0)]) := by
  unfold Gives
  obtain ⟨es, clock, bm, rfl, hbm, hM⟩ := hMA
  obtain ⟨y1, hy11, hy12, hy1v⟩ := nd_of j i hj hi
  obtain ⟨y2, hy21, hy22, hy2v⟩ := nd_of i j hi hj
  refine enter Try.func51 rfl 17 Try.ntmps51 (Nat.le_of_ble_eq_true rfl) (Inv.start hH) ?_
  refine WC.seq ?_
  refine WC.ofFr [(0, _), (1, _)] ⟨rfl, rfl, trivial⟩ ?_
  refine WC.region ?_
  refine WL.so (SO.box rfl rfl) rfl ?_
  rintro _ _ _ ⟨b3, hb3, rfl, rfl, rfl⟩ -- NEW
  refine WL.so (SO.alloc Try.zeroValue23 rfl) rfl ?_
  rintro _ _ _ ⟨b4, hb4, rfl, rfl, rfl⟩ -- NEW
  refine WL.nil ?_
  refine WP.thenC ?_
  refine WC.seq ?_
  refine WC.ofFr [(4, _), (3, _), (0, _)] ⟨rfl, rfl, rfl, trivial⟩ ?_
  refine WC.tail 11 [0, 1, 2, 3, 4, 5, 6, 7, 8, 9, 10] rfl (by kernel_rfl) (by kernel_rfl)  ?_
  refine WQ.q rfl (Yd.qt (Yd.move rfl)) rfl ?_
  refine WQ.q rfl (Yd.qt (Yd.fieldAddr FA79_1 rfl)) rfl ?_
  refine WQ.q rfl (Yd.qt (Yd.load1 Try.isAgg3 rfl (by first | exact Rd.own (k := 0) rfl rfl | exact Rd.own (k := 1) rfl rfl))) rfl ?_
  refine WQ.q rfl (Yd.qt (Yd.fieldAddr FA79_0 rfl)) rfl ?_
  refine WQ.q rfl (Yd.qt (Yd.load1 Try.isAgg3 rfl (by first | exact Rd.own (k := 0) rfl rfl | exact Rd.own (k := 1) rfl rfl))) rfl ?_
  refine WQ.q rfl (Yd.qt (Yd.build SA79 rfl (cs := [_, _]) rfl)) rfl ?_
  refine WQ.know 10 (ndV y1) rfl hy1v ?_
  refine WQ.q rfl (Yd.qt (Yd.look0I (kv := ndV) (y := y1) ndV_inj law79 key_nd Try.underlying73 Try.zeroValue3 rfl rfl hbm hM)) rfl ?_
  refine WQ.know 11 (it ((F j i).getD 0)) rfl (by rw [hy11, hy12]) ?_
  refine WQ.q rfl (Yd.qt (Yd.neg rfl (wr64 ⟨by omega, by omega⟩))) rfl ?_
  refine WQ.q rfl (Yd.qt (Yd.move rfl)) rfl ?_
  refine WQ.q rfl (Yd.qt (Yd.loadN Try.isAgg79 Try.sizeOf79 rfl (vs := [_, _]) rfl (by first | exact RdN.own (k := 0) (n := 2) rfl rfl | exact RdN.own (k := 1) (n := 2) rfl rfl))) rfl ?_
  refine WQ.know 14 (ndV y2) rfl hy2v ?_
  refine WQ.q rfl (Yd.qt (Yd.look0I (kv := ndV) (y := y2) ndV_inj law79 key_nd Try.underlying73 Try.zeroValue3 rfl rfl hbm hM)) rfl ?_
  refine WQ.tail ?_
  refine WL.know 15 (it ((F i j).getD 0)) rfl (by rw [hy21, hy22]) ?_
  refine WL.yd (Yd.build SA23 rfl (cs := [_, _]) rfl) rfl ?_
  refine WL.so (SO.store 0 rfl Try.sizeOf23 rfl rfl rfl rfl (Nat.le_of_ble_eq_true rfl) (oneB_spec rfl)) rfl ?_
  rintro _ _ _ ⟨rfl, rfl, rfl⟩
  refine WL.nil ?_
  refine WP.thenC ?_
  refine WC.ret ?_
  refine WP.ret1 rfl rfl Try.results51 (RV.cellN Try.isAgg23 Try.sizeOf23 rfl (vs := [_, _]) rfl (by first | exact RdN.own (k := 0) (n := 2) rfl rfl | exact RdN.own (k := 1) (n := 2) rfl rfl)) (fun w hI => ⟨rfl, hI.keep⟩)

set_option maxRecDepth 100000 in
set_option maxHeartbeats 1000000 in
theorem grade_g (is not : Bool) (w : World) : Gives Try.prog 57 [.bool is, .bool not] w (it (gradeI is not)) := by
  unfold Gives
  refine enter Try.func57 rfl 11 Try.ntmps57 (Nat.le_of_ble_eq_true rfl) (Inv.start (D := fun _ => none) (by intro _ _ h; cases h)) ?_
  refine WC.seq ?_
  refine WC.ofFr [(0, _), (1, _)] ⟨rfl, rfl, trivial⟩ ?_
  refine WC.region ?_
  refine WL.yd (Yd.assign rfl) rfl ?_
  refine WL.nil ?_
  refine WP.thenC ?_
  refine WC.seq ?_
  refine WC.block ?_
  refine WC.seq ?_
  refine WC.ofFr [(4, _), (0, _), (1, _)] ⟨rfl, rfl, rfl, trivial⟩ ?_
  refine WC.region ?_
  refine WL.yd (Yd.move rfl) rfl ?_
  refine WL.yd (Yd.not rfl) rfl ?_
  refine WL.yd (Yd.assign rfl) rfl ?_
  refine WL.nil ?_
  refine WP.thenC ?_
  refine WC.cond rfl (fun c5 => ?_) (fun c5 => ?_)
  · try simp only [zq1, zq2, zq3, zq4, zq5, zq6, zq7, zq8] at c5
    refine WC.seq ?_
    refine WC.ofFr [(4, _)] ⟨rfl, trivial⟩ ?_
    refine WC.region ?_
    refine WL.yd (Yd.assign rfl) rfl ?_
    refine WL.nil ?_
    refine WP.thenC ?_
    refine WC.ret ?_
    refine WP.blkRet ?_
    refine WP.thenRet ?_
    refine WP.ret1 rfl rfl Try.results57 (RV.tmp rfl) (fun w hI => ⟨ret_int (by unfold gradeI; simp_all), hI.keep⟩)
  · try simp only [zq1, zq2, zq3, zq4, zq5, zq6, zq7, zq8] at c5
    refine WC.seq ?_
    refine WC.ofFr [(4, _), (0, _)] ⟨rfl, rfl, trivial⟩ ?_
    refine WC.region ?_
    refine WL.yd (Yd.move rfl) rfl ?_
    refine WL.yd (Yd.not rfl) rfl ?_
    refine WL.yd (Yd.assign rfl) rfl ?_
    refine WL.nil ?_
    refine WP.thenC ?_
    refine WC.cond rfl (fun c8 => ?_) (fun c8 => ?_)
    · try simp only [zq1, zq2, zq3, zq4, zq5, zq6, zq7, zq8] at c8
      refine WC.seq ?_
      refine WC.ofFr [(4, _)] ⟨rfl, trivial⟩ ?_
      refine WC.region ?_
      refine WL.yd (Yd.assign rfl) rfl ?_
      refine WL.nil ?_
      refine WP.thenC ?_
      refine WC.ret ?_
      refine WP.blkRet ?_
      refine WP.thenRet ?_
      refine WP.ret1 rfl rfl Try.results57 (RV.tmp rfl) (fun w hI => ⟨ret_int (by unfold gradeI; simp_all), hI.keep⟩)
    · try simp only [zq1, zq2, zq3, zq4, zq5, zq6, zq7, zq8] at c8
      refine WC.skip ?_
      refine WP.blkNormal ?_
      refine WP.thenC ?_
      refine WC.seq ?_
      refine WC.ofFr [(4, _)] ⟨rfl, trivial⟩ ?_
      refine WC.region ?_
      refine WL.yd (Yd.assign rfl) rfl ?_
      refine WL.nil ?_
      refine WP.thenC ?_
      refine WC.ret ?_
      refine WP.ret1 rfl rfl Try.results57 (RV.tmp rfl) (fun w hI => ⟨ret_int (by unfold gradeI; simp_all), hI.keep⟩)

set_option maxRecDepth 100000 in
set_option maxHeartbeats 1000000 in
theorem Place_1 (p : Post) (a1 : Option Addr) (n1 c1 : Nat) (a2 : Option Addr) (n2 c2 : Nat) (D : Imm) (w : World) (hR : PostR D p a1 n1 a2 n2) (hH : Holds D w) (n : Int) (hv : postB p = false) : Gives Try.prog 15 [.agg #[it p.post.lo, it p.post.hi, .slice a1 n1 c1, .slice a2 n2 c2], it n] w (.tuple #[.agg #[it (PlaceOut p n).1.lo, it (PlaceOut p n).1.hi], it (PlaceOut p n).2]) := by
  unfold Gives
  obtain rfl := hR.bath.len'
  obtain rfl := hR.claim.len'
  have hl1 := hR.len1
  have hl2 := hR.len2
  have hE : toldE p (whoP p n) = 1 := by
    have hwn : [n].all (whoP p) = whoP p n := by simp
    unfold toldE
    rw [if_pos hv]
  have hO : PlaceOut p n = (⟨0, 0⟩, 1) := by unfold PlaceOut; rw [if_pos (by rw [hE]; simp), hE]
  refine enterD Try.func15 rfl 15 Try.ntmps15 (Nat.le_of_ble_eq_true rfl) (Inv.start hH) ?_
  refine WC.seq ?_
  refine WC.ofFr [(0, _), (1, _)] ⟨rfl, rfl, trivial⟩ ?_
  refine WC.region ?_
  refine WL.so (SO.box rfl rfl) rfl ?_
  rintro _ _ _ ⟨b2, hb2, rfl, rfl, rfl⟩ -- NEW
  refine WL.so (SO.alloc Try.zeroValue23 rfl) rfl ?_
  rintro _ _ _ ⟨b4, hb4, rfl, rfl, rfl⟩ -- NEW
  refine WL.so (SO.alloc Try.zeroValue30 rfl) rfl ?_
  rintro _ _ _ ⟨b5, hb5, rfl, rfl, rfl⟩ -- NEW
  refine WL.nil ?_
  refine WP.thenC ?_
  refine WC.seq ?_
  refine WC.ofFr [(5, _), (4, _), (2, _), (1, _)] ⟨rfl, rfl, rfl, rfl, trivial⟩ ?_
  refine WC.region ?_
  refine WL.yd (Yd.func rfl rfl) rfl ?_
  refine WL.defer rfl ?_
  refine WL.nil ?_
  refine WP.thenC ?_
  refine WC.seq ?_
  refine WC.ofFr [(5, _), (4, _), (2, _), (1, _)] ⟨rfl, rfl, rfl, rfl, trivial⟩ ?_
  refine WC.region ?_
  refine WL.yd (Yd.loadN Try.isAgg27 Try.sizeOf27 rfl (vs := [_, _, _, _]) rfl (by first | exact RdN.own (k := 0) (n := 4) rfl rfl | exact RdN.own (k := 1) (n := 4) rfl rfl | exact RdN.own (k := 2) (n := 4) rfl rfl)) rfl ?_
  refine WL.yd (Yd.move rfl) rfl ?_
  refine WL.so (SO.buildSlice Try.underlying52 Try.sizeOf3 Try.zeroValue3 rfl rfl rfl rfl (cs := [_]) rfl) rfl ?_
  rintro _ _ _ ⟨b9, hb9, rfl, rfl, rfl⟩ -- NEW
  refine WL.freezeK 0 rfl (fun hn9 => ?_)
  have hF9 := fun o => (DExt.refl w D).add (o := o) hn9 hb9
  refine WL.no (SO.fail (Enters.func Try.call49 rfl) (fun w hI => open_1 p a1 _ c1 a2 _ c2 (D.add b9 _) _ (hR.ext (hF9 _)) hI.imm [n] _ _ _ (ints_one (Imm.add_self _ _ _)) (by omega) hv) ?_)
  refine WP.thenPanic ?_
  refine WP.panicD (k := 0) [_, _] [_, _] rfl Try.call47 rfl (fun w hI => catch47 _ _ _ _ _ (hI.own _ _ (List.mem_of_getElem? (i := 0) rfl))) Try.results15 ⟨(RV.cellN Try.isAgg23 Try.sizeOf23 rfl (vs := [_, _]) rfl (by first | exact RdN.own (k := 0) (n := 2) rfl rfl | exact RdN.own (k := 1) (n := 2) rfl rfl | exact RdN.own (k := 2) (n := 2) rfl rfl)), (RV.cell1 Try.isAgg30 rfl (by first | exact Rd.own (k := 0) rfl rfl | exact Rd.own (k := 1) rfl rfl | exact Rd.own (k := 2) rfl rfl)), trivial⟩ (fun w hI => ⟨congrArg Ending.returned (by rw [hO]; rfl), hI.keep⟩)

set_option maxRecDepth 100000 in
set_option maxHeartbeats 1000000 in
theorem Place_2 (p : Post) (a1 : Option Addr) (n1 c1 : Nat) (a2 : Option Addr) (n2 c2 : Nat) (D : Imm) (w : World) (hR : PostR D p a1 n1 a2 n2) (hH : Holds D w) (n : Int) (hv : postB p = true) (hw : [n].all (whoP p) = false) : Gives Try.prog 15 [.agg #[it p.post.lo, it p.post.hi, .slice a1 n1 c1, .slice a2 n2 c2], it n] w (.tuple #[.agg #[it (PlaceOut p n).1.lo, it (PlaceOut p n).1.hi], it (PlaceOut p n).2]) := by
  unfold Gives
  obtain rfl := hR.bath.len'
  obtain rfl := hR.claim.len'
  have hl1 := hR.len1
  have hl2 := hR.len2
  have hE : toldE p (whoP p n) = 2 := by
    have hwn : [n].all (whoP p) = whoP p n := by simp
    unfold toldE
    rw [if_neg (by rw [hv]; simp), if_pos (by rw [← hwn]; exact hw)]
  have hO : PlaceOut p n = (⟨0, 0⟩, 2) := by unfold PlaceOut; rw [if_pos (by rw [hE]; simp), hE]
  refine enterD Try.func15 rfl 15 Try.ntmps15 (Nat.le_of_ble_eq_true rfl) (Inv.start hH) ?_
  refine WC.seq ?_
  refine WC.ofFr [(0, _), (1, _)] ⟨rfl, rfl, trivial⟩ ?_
  refine WC.region ?_
  refine WL.so (SO.box rfl rfl) rfl ?_
  rintro _ _ _ ⟨b2, hb2, rfl, rfl, rfl⟩ -- NEW
  refine WL.so (SO.alloc Try.zeroValue23 rfl) rfl ?_
  rintro _ _ _ ⟨b4, hb4, rfl, rfl, rfl⟩ -- NEW
  refine WL.so (SO.alloc Try.zeroValue30 rfl) rfl ?_
  rintro _ _ _ ⟨b5, hb5, rfl, rfl, rfl⟩ -- NEW
  refine WL.nil ?_
  refine WP.thenC ?_
  refine WC.seq ?_
  refine WC.ofFr [(5, _), (4, _), (2, _), (1, _)] ⟨rfl, rfl, rfl, rfl, trivial⟩ ?_
  refine WC.region ?_
  refine WL.yd (Yd.func rfl rfl) rfl ?_
  refine WL.defer rfl ?_
  refine WL.nil ?_
  refine WP.thenC ?_
  refine WC.seq ?_
  refine WC.ofFr [(5, _), (4, _), (2, _), (1, _)] ⟨rfl, rfl, rfl, rfl, trivial⟩ ?_
  refine WC.region ?_
  refine WL.yd (Yd.loadN Try.isAgg27 Try.sizeOf27 rfl (vs := [_, _, _, _]) rfl (by first | exact RdN.own (k := 0) (n := 4) rfl rfl | exact RdN.own (k := 1) (n := 4) rfl rfl | exact RdN.own (k := 2) (n := 4) rfl rfl)) rfl ?_
  refine WL.yd (Yd.move rfl) rfl ?_
  refine WL.so (SO.buildSlice Try.underlying52 Try.sizeOf3 Try.zeroValue3 rfl rfl rfl rfl (cs := [_]) rfl) rfl ?_
  rintro _ _ _ ⟨b9, hb9, rfl, rfl, rfl⟩ -- NEW
  refine WL.freezeK 0 rfl (fun hn9 => ?_)
  have hF9 := fun o => (DExt.refl w D).add (o := o) hn9 hb9
  refine WL.no (SO.fail (Enters.func Try.call49 rfl) (fun w hI => open_2 p a1 _ c1 a2 _ c2 (D.add b9 _) _ (hR.ext (hF9 _)) hI.imm [n] _ _ _ (ints_one (Imm.add_self _ _ _)) (by omega) hv hw) ?_)
  refine WP.thenPanic ?_
  refine WP.panicD (k := 0) [_, _] [_, _] rfl Try.call47 rfl (fun w hI => catch47 _ _ _ _ _ (hI.own _ _ (List.mem_of_getElem? (i := 0) rfl))) Try.results15 ⟨(RV.cellN Try.isAgg23 Try.sizeOf23 rfl (vs := [_, _]) rfl (by first | exact RdN.own (k := 0) (n := 2) rfl rfl | exact RdN.own (k := 1) (n := 2) rfl rfl | exact RdN.own (k := 2) (n := 2) rfl rfl)), (RV.cell1 Try.isAgg30 rfl (by first | exact Rd.own (k := 0) rfl rfl | exact Rd.own (k := 1) rfl rfl | exact Rd.own (k := 2) rfl rfl)), trivial⟩ (fun w hI => ⟨congrArg Ending.returned (by rw [hO]; rfl), hI.keep⟩)

set_option maxRecDepth 100000 in
set_option maxHeartbeats 1000000 in
theorem Place_3 (p : Post) (a1 : Option Addr) (n1 c1 : Nat) (a2 : Option Addr) (n2 c2 : Nat) (D : Imm) (w : World) (hR : PostR D p a1 n1 a2 n2) (hH : Holds D w) (n : Int) (hv : postB p = true) (hw : [n].all (whoP p) = true) (hok : okA p = false) : Gives Try.prog 15 [.agg #[it p.post.lo, it p.post.hi, .slice a1 n1 c1, .slice a2 n2 c2], it n] w (.tuple #[.agg #[it (PlaceOut p n).1.lo, it (PlaceOut p n).1.hi], it (PlaceOut p n).2]) := by
  unfold Gives
  obtain rfl := hR.bath.len'
  obtain rfl := hR.claim.len'
  have hl1 := hR.len1
  have hl2 := hR.len2
  have hE : toldE p (whoP p n) = 10 := by
    have hwn : [n].all (whoP p) = whoP p n := by simp
    unfold toldE
    rw [if_neg (by rw [hv]; simp), if_neg (by rw [← hwn, hw]; simp), if_pos hok]
  have hO : PlaceOut p n = (⟨0, 0⟩, 10) := by unfold PlaceOut; rw [if_pos (by rw [hE]; simp), hE]
  refine enterD Try.func15 rfl 15 Try.ntmps15 (Nat.le_of_ble_eq_true rfl) (Inv.start hH) ?_
  refine WC.seq ?_
  refine WC.ofFr [(0, _), (1, _)] ⟨rfl, rfl, trivial⟩ ?_
  refine WC.region ?_
  refine WL.so (SO.box rfl rfl) rfl ?_
  rintro _ _ _ ⟨b2, hb2, rfl, rfl, rfl⟩ -- NEW
  refine WL.so (SO.alloc Try.zeroValue23 rfl) rfl ?_
  rintro _ _ _ ⟨b4, hb4, rfl, rfl, rfl⟩ -- NEW
  refine WL.so (SO.alloc Try.zeroValue30 rfl) rfl ?_
  rintro _ _ _ ⟨b5, hb5, rfl, rfl, rfl⟩ -- NEW
  refine WL.nil ?_
  refine WP.thenC ?_
  refine WC.seq ?_
  refine WC.ofFr [(5, _), (4, _), (2, _), (1, _)] ⟨rfl, rfl, rfl, rfl, trivial⟩ ?_
  refine WC.region ?_
  refine WL.yd (Yd.func rfl rfl) rfl ?_
  refine WL.defer rfl ?_
  refine WL.nil ?_
  refine WP.thenC ?_
  refine WC.seq ?_
  refine WC.ofFr [(5, _), (4, _), (2, _), (1, _)] ⟨rfl, rfl, rfl, rfl, trivial⟩ ?_
  refine WC.region ?_
  refine WL.yd (Yd.loadN Try.isAgg27 Try.sizeOf27 rfl (vs := [_, _, _, _]) rfl (by first | exact RdN.own (k := 0) (n := 4) rfl rfl | exact RdN.own (k := 1) (n := 4) rfl rfl | exact RdN.own (k := 2) (n := 4) rfl rfl)) rfl ?_
  refine WL.yd (Yd.move rfl) rfl ?_
  refine WL.so (SO.buildSlice Try.underlying52 Try.sizeOf3 Try.zeroValue3 rfl rfl rfl rfl (cs := [_]) rfl) rfl ?_
  rintro _ _ _ ⟨b9, hb9, rfl, rfl, rfl⟩ -- NEW
  refine WL.freezeK 0 rfl (fun hn9 => ?_)
  have hF9 := fun o => (DExt.refl w D).add (o := o) hn9 hb9
  refine WL.so (SO.makes (Enters.func Try.call49 rfl) (fun w hI => open_ok p a1 _ c1 a2 _ c2 (D.add b9 _) _ (hR.ext (hF9 _)) hI.imm [n] _ _ _ (ints_one (Imm.add_self _ _ _)) (by omega) hv hw)) rfl ?_
  rintro _ D2 _ ⟨hX2, ⟨bq, rfl, hB⟩, rfl⟩
  have hX2 := ((hF9 _)).trans hX2 (Nat.le_refl _)
  have hR2 := hR.ext hX2
  refine WL.no (SO.fail (Enters.func Try.call50 rfl) (fun w hI => told_no p a1 _ c1 a2 _ c2 bq D2 _ hB hR2 hI.imm hv hok) ?_)
  refine WP.thenPanic ?_
  refine WP.panicD (k := 0) [_, _] [_, _] rfl Try.call47 rfl (fun w hI => catch47 _ _ _ _ _ (hI.own _ _ (List.mem_of_getElem? (i := 0) rfl))) Try.results15 ⟨(RV.cellN Try.isAgg23 Try.sizeOf23 rfl (vs := [_, _]) rfl (by first | exact RdN.own (k := 0) (n := 2) rfl rfl | exact RdN.own (k := 1) (n := 2) rfl rfl | exact RdN.own (k := 2) (n := 2) rfl rfl)), (RV.cell1 Try.isAgg30 rfl (by first | exact Rd.own (k := 0) rfl rfl | exact Rd.own (k := 1) rfl rfl | exact Rd.own (k := 2) rfl rfl)), trivial⟩ (fun w hI => ⟨congrArg Ending.returned (by rw [hO]; rfl), hI.keep⟩)

set_option maxRecDepth 100000 in
set_option maxHeartbeats 1000000 in
theorem Place_ok (p : Post) (a1 : Option Addr) (n1 c1 : Nat) (a2 : Option Addr) (n2 c2 : Nat) (D : Imm) (w : World) (hR : PostR D p a1 n1 a2 n2) (hH : Holds D w) (n : Int) (hv : postB p = true) (hw : [n].all (whoP p) = true) (hok : okA p = true) : Gives Try.prog 15 [.agg #[it p.post.lo, it p.post.hi, .slice a1 n1 c1, .slice a2 n2 c2], it n] w (.tuple #[.agg #[it (PlaceOut p n).1.lo, it (PlaceOut p n).1.hi], it (PlaceOut p n).2]) := by
  unfold Gives
  obtain rfl := hR.bath.len'
  obtain rfl := hR.claim.len'
  have hl1 := hR.len1
  have hl2 := hR.len2
  have hE : toldE p (whoP p n) = 0 := by
    have hwn : [n].all (whoP p) = whoP p n := by simp
    unfold toldE
    rw [if_neg (by rw [hv]; simp), if_neg (by rw [← hwn, hw]; simp), if_neg (by rw [hok]; simp)]
  have hwn : whoP p n = true := by simpa using hw
  have hix := ix_who hwn
  have hn7 := nodes_le hv
  have hgn : -9223372036854775807 ≤ (farOf p (allR p) (ix n) 0).getD 0 ∧ (farOf p (allR p) (ix n) 0).getD 0 ≤ 9223372036854775807 := by
    have : -40 ≤ G p (allR p) (ix n) 0 ∧ G p (allR p) (ix n) 0 ≤ 40 := far_num hv (allR_in hv) hok hix.1 (by unfold nodes; omega)
    unfold G at this; omega
  have hO : PlaceOut p n = (⟨-GA p (ix n) 0, GA p 0 (ix n)⟩, 0) := by unfold PlaceOut; rw [if_neg (by rw [hE]; simp)]
  refine enterD Try.func15 rfl 15 Try.ntmps15 (Nat.le_of_ble_eq_true rfl) (Inv.start hH) ?_
  refine WC.seq ?_
  refine WC.ofFr [(0, _), (1, _)] ⟨rfl, rfl, trivial⟩ ?_
  refine WC.region ?_
  refine WL.so (SO.box rfl rfl) rfl ?_
  rintro _ _ _ ⟨b2, hb2, rfl, rfl, rfl⟩ -- NEW
  refine WL.so (SO.alloc Try.zeroValue23 rfl) rfl ?_
  rintro _ _ _ ⟨b4, hb4, rfl, rfl, rfl⟩ -- NEW
  refine WL.so (SO.alloc Try.zeroValue30 rfl) rfl ?_
  rintro _ _ _ ⟨b5, hb5, rfl, rfl, rfl⟩ -- NEW
  refine WL.nil ?_
  refine WP.thenC ?_
  refine WC.seq ?_
  refine WC.ofFr [(5, _), (4, _), (2, _), (1, _)] ⟨rfl, rfl, rfl, rfl, trivial⟩ ?_
  refine WC.region ?_
  refine WL.yd (Yd.func rfl rfl) rfl ?_
  refine WL.defer rfl ?_
  refine WL.nil ?_
  refine WP.thenC ?_
  refine WC.seq ?_
  refine WC.ofFr [(5, _), (4, _), (2, _), (1, _)] ⟨rfl, rfl, rfl, rfl, trivial⟩ ?_
  refine WC.region ?_
  refine WL.yd (Yd.loadN Try.isAgg27 Try.sizeOf27 rfl (vs := [_, _, _, _]) rfl (by first | exact RdN.own (k := 0) (n := 4) rfl rfl | exact RdN.own (k := 1) (n := 4) rfl rfl | exact RdN.own (k := 2) (n := 4) rfl rfl)) rfl ?_
  refine WL.yd (Yd.move rfl) rfl ?_
  refine WL.so (SO.buildSlice Try.underlying52 Try.sizeOf3 Try.zeroValue3 rfl rfl rfl rfl (cs := [_]) rfl) rfl ?_
  rintro _ _ _ ⟨b9, hb9, rfl, rfl, rfl⟩ -- NEW
  refine WL.freezeK 0 rfl (fun hn9 => ?_)
  have hF9 := fun o => (DExt.refl w D).add (o := o) hn9 hb9
  refine WL.so (SO.makes (Enters.func Try.call49 rfl) (fun w hI => open_ok p a1 _ c1 a2 _ c2 (D.add b9 _) _ (hR.ext (hF9 _)) hI.imm [n] _ _ _ (ints_one (Imm.add_self _ _ _)) (by omega) hv hw)) rfl ?_
  rintro _ D2 _ ⟨hX2, ⟨bq, rfl, hB⟩, rfl⟩
  have hX2 := ((hF9 _)).trans hX2 (Nat.le_refl _)
  have hR2 := hR.ext hX2
  refine WL.so (SO.makes (Enters.func Try.call50 rfl) (fun w hI => told_ok p a1 _ c1 a2 _ c2 bq D2 _ hB hR2 hI.imm hv hok)) rfl ?_
  rintro m3 D3 _ ⟨hX3, hMA, rfl⟩
  refine WL.yd (Yd.move rfl) rfl ?_
  refine WL.yd (Yd.build SA79 rfl (cs := [_, _]) rfl) rfl ?_
  refine WL.know 13 (.agg #[it (((0 : Nat) : Int) - 2), it (((ix n : Nat) : Int) - 2)]) rfl (by rw [hix.2.2]; rfl) ?_
  refine WL.so (SO.callP Try.call51 rfl (fun w hI => span_g (farOf p (allR p)) m3 D3 _ hMA hI.imm 0 (ix n) (by omega) (by omega) hgn)) rfl ?_
  rintro _ _ _ ⟨rfl, rfl, rfl⟩
  refine WL.so (SO.store 1 rfl Try.sizeOf23 rfl rfl rfl rfl (Nat.le_of_ble_eq_true rfl) (oneB_spec rfl)) rfl ?_
  rintro _ _ _ ⟨rfl, rfl, rfl⟩
  refine WL.so (SO.store 0 rfl Try.sizeOf30 rfl rfl rfl rfl (Nat.le_of_ble_eq_true rfl) (oneB_spec rfl)) rfl ?_
  rintro _ _ _ ⟨rfl, rfl, rfl⟩
  refine WL.nil ?_
  refine WP.thenC ?_
  refine WC.ret ?_
  refine WP.endD [_, _] [_, _] rfl rfl Try.call47 (fun w hI => idle47 _ _) Try.results15 ⟨(RV.cellN Try.isAgg23 Try.sizeOf23 rfl (vs := [_, _]) rfl (by first | exact RdN.own (k := 0) (n := 2) rfl rfl | exact RdN.own (k := 1) (n := 2) rfl rfl | exact RdN.own (k := 2) (n := 2) rfl rfl)), (RV.cell1 Try.isAgg30 rfl (by first | exact Rd.own (k := 0) rfl rfl | exact Rd.own (k := 1) rfl rfl | exact Rd.own (k := 2) rfl rfl)), trivial⟩ (fun w hI => ⟨congrArg Ending.returned (by rw [hO]; rfl), hI.keep⟩)

theorem Place_g (p : Post) (a1 : Option Addr) (n1 c1 : Nat) (a2 : Option Addr) (n2 c2 : Nat) (D : Imm) (w : World) (hR : PostR D p a1 n1 a2 n2) (hH : Holds D w) (n : Int) : Gives Try.prog 15 [.agg #[it p.post.lo, it p.post.hi, .slice a1 n1 c1, .slice a2 n2 c2], it n] w (.tuple #[.agg #[it (PlaceOut p n).1.lo, it (PlaceOut p n).1.hi], it (PlaceOut p n).2]) := by
  cases hv : postB p with
  | false => exact Place_1 p a1 n1 c1 a2 n2 c2 D w hR hH n hv
  | true =>
    cases hw : [n].all (whoP p) with
    | false => exact Place_2 p a1 n1 c1 a2 n2 c2 D w hR hH n hv hw
    | true =>
      cases hok : okA p with
      | false => exact Place_3 p a1 n1 c1 a2 n2 c2 D w hR hH n hv hw hok
      | true => exact Place_ok p a1 n1 c1 a2 n2 c2 D w hR hH n hv hw hok

end Go.Proofs.Ytkhmmefgllbobaa
namespace Go.Proofs.Ytkhmmefgllbobaa
open Go.W Go.Po

set_option maxRecDepth 100000 in
set_option maxHeartbeats 1000000 in
theorem Before_1 (p : Post) (a1 : Option Addr) (n1 c1 : Nat) (a2 : Option Addr) (n2 c2 : Nat) (D : Imm) (w : World) (hR : PostR D p a1 n1 a2 n2) (hH : Holds D w) (x y : Int) (hv : postB p = false) : Gives Try.prog 17 [.agg #[it p.post.lo, it p.post.hi, .slice a1 n1 c1, .slice a2 n2 c2], it x, it y] w (.tuple #[it (BeforeOut p x y).1, it (BeforeOut p x y).2]) := by
  unfold Gives
  obtain rfl := hR.bath.len'
  obtain rfl := hR.claim.len'
  have hl1 := hR.len1
  have hl2 := hR.len2
  have hE : toldE p (whoP p x && whoP p y) = 1 := by
    have hwn : [x, y].all (whoP p) = (whoP p x && whoP p y) := by simp
    unfold toldE
    rw [if_pos hv]
  have hO : BeforeOut p x y = (0, 1) := by unfold BeforeOut; rw [if_pos (by rw [hE]; simp), hE]
  refine enterD Try.func17 rfl 27 Try.ntmps17 (Nat.le_of_ble_eq_true rfl) (Inv.start hH) ?_
  refine WC.seq ?_
  refine WC.ofFr [(0, _), (1, _), (2, _)] ⟨rfl, rfl, rfl, trivial⟩ ?_
  refine WC.region ?_
  refine WL.so (SO.box rfl rfl) rfl ?_
  rintro _ _ _ ⟨b3, hb3, rfl, rfl, rfl⟩ -- NEW
  refine WL.yd (Yd.assign rfl) rfl ?_
  refine WL.so (SO.alloc Try.zeroValue30 rfl) rfl ?_
  rintro _ _ _ ⟨b7, hb7, rfl, rfl, rfl⟩ -- NEW
  refine WL.nil ?_
  refine WP.thenC ?_
  refine WC.seq ?_
  refine WC.ofFr [(7, _), (6, _), (3, _), (1, _), (2, _)] ⟨rfl, rfl, rfl, rfl, rfl, trivial⟩ ?_
  refine WC.region ?_
  refine WL.yd (Yd.func rfl rfl) rfl ?_
  refine WL.defer rfl ?_
  refine WL.nil ?_
  refine WP.thenC ?_
  refine WC.seq ?_
  refine WC.ofFr [(7, _), (6, _), (3, _), (1, _), (2, _)] ⟨rfl, rfl, rfl, rfl, rfl, trivial⟩ ?_
  refine WC.region ?_
  refine WL.yd (Yd.loadN Try.isAgg27 Try.sizeOf27 rfl (vs := [_, _, _, _]) rfl (by first | exact RdN.own (k := 0) (n := 4) rfl rfl | exact RdN.own (k := 1) (n := 4) rfl rfl)) rfl ?_
  refine WL.yd (Yd.move rfl) rfl ?_
  refine WL.yd (Yd.move rfl) rfl ?_
  refine WL.so (SO.buildSlice Try.underlying52 Try.sizeOf3 Try.zeroValue3 rfl rfl rfl rfl (cs := [_, _]) rfl) rfl ?_
  rintro _ _ _ ⟨b13, hb13, rfl, rfl, rfl⟩ -- NEW
  refine WL.freezeK 0 rfl (fun hn13 => ?_)
  have hF13 := fun o => (DExt.refl w D).add (o := o) hn13 hb13
  refine WL.no (SO.fail (Enters.func Try.call49 rfl) (fun w hI => open_1 p a1 _ c1 a2 _ c2 (D.add b13 _) _ (hR.ext (hF13 _)) hI.imm [x, y] _ _ _ (ints_two (Imm.add_self _ _ _)) (by omega) hv) ?_)
  refine WP.thenPanic ?_
  refine WP.panicD (k := 0) [_, _] [_, _] rfl Try.call56 rfl (fun w hI => catch56 _ _ _ _ _ (hI.own _ _ (List.mem_of_getElem? (i := 0) rfl))) Try.results17 ⟨(RV.tmp rfl), (RV.cell1 Try.isAgg30 rfl (by first | exact Rd.own (k := 0) rfl rfl | exact Rd.own (k := 1) rfl rfl)), trivial⟩ (fun w hI => ⟨congrArg Ending.returned (by rw [hO]; rfl), hI.keep⟩)

set_option maxRecDepth 100000 in
set_option maxHeartbeats 1000000 in
theorem Before_2 (p : Post) (a1 : Option Addr) (n1 c1 : Nat) (a2 : Option Addr) (n2 c2 : Nat) (D : Imm) (w : World) (hR : PostR D p a1 n1 a2 n2) (hH : Holds D w) (x y : Int) (hv : postB p = true) (hw : [x, y].all (whoP p) = false) : Gives Try.prog 17 [.agg #[it p.post.lo, it p.post.hi, .slice a1 n1 c1, .slice a2 n2 c2], it x, it y] w (.tuple #[it (BeforeOut p x y).1, it (BeforeOut p x y).2]) := by
  unfold Gives
  obtain rfl := hR.bath.len'
  obtain rfl := hR.claim.len'
  have hl1 := hR.len1
  have hl2 := hR.len2
  have hE : toldE p (whoP p x && whoP p y) = 2 := by
    have hwn : [x, y].all (whoP p) = (whoP p x && whoP p y) := by simp
    unfold toldE
    rw [if_neg (by rw [hv]; simp), if_pos (by rw [← hwn]; exact hw)]
  have hO : BeforeOut p x y = (0, 2) := by unfold BeforeOut; rw [if_pos (by rw [hE]; simp), hE]
  refine enterD Try.func17 rfl 27 Try.ntmps17 (Nat.le_of_ble_eq_true rfl) (Inv.start hH) ?_
  refine WC.seq ?_
  refine WC.ofFr [(0, _), (1, _), (2, _)] ⟨rfl, rfl, rfl, trivial⟩ ?_
  refine WC.region ?_
  refine WL.so (SO.box rfl rfl) rfl ?_
  rintro _ _ _ ⟨b3, hb3, rfl, rfl, rfl⟩ -- NEW
  refine WL.yd (Yd.assign rfl) rfl ?_
  refine WL.so (SO.alloc Try.zeroValue30 rfl) rfl ?_
  rintro _ _ _ ⟨b7, hb7, rfl, rfl, rfl⟩ -- NEW
  refine WL.nil ?_
  refine WP.thenC ?_
  refine WC.seq ?_
  refine WC.ofFr [(7, _), (6, _), (3, _), (1, _), (2, _)] ⟨rfl, rfl, rfl, rfl, rfl, trivial⟩ ?_
  refine WC.region ?_
  refine WL.yd (Yd.func rfl rfl) rfl ?_
  refine WL.defer rfl ?_
  refine WL.nil ?_
  refine WP.thenC ?_
  refine WC.seq ?_
  refine WC.ofFr [(7, _), (6, _), (3, _), (1, _), (2, _)] ⟨rfl, rfl, rfl, rfl, rfl, trivial⟩ ?_
  refine WC.region ?_
  refine WL.yd (Yd.loadN Try.isAgg27 Try.sizeOf27 rfl (vs := [_, _, _, _]) rfl (by first | exact RdN.own (k := 0) (n := 4) rfl rfl | exact RdN.own (k := 1) (n := 4) rfl rfl)) rfl ?_
  refine WL.yd (Yd.move rfl) rfl ?_
  refine WL.yd (Yd.move rfl) rfl ?_
  refine WL.so (SO.buildSlice Try.underlying52 Try.sizeOf3 Try.zeroValue3 rfl rfl rfl rfl (cs := [_, _]) rfl) rfl ?_
  rintro _ _ _ ⟨b13, hb13, rfl, rfl, rfl⟩ -- NEW
  refine WL.freezeK 0 rfl (fun hn13 => ?_)
  have hF13 := fun o => (DExt.refl w D).add (o := o) hn13 hb13
  refine WL.no (SO.fail (Enters.func Try.call49 rfl) (fun w hI => open_2 p a1 _ c1 a2 _ c2 (D.add b13 _) _ (hR.ext (hF13 _)) hI.imm [x, y] _ _ _ (ints_two (Imm.add_self _ _ _)) (by omega) hv hw) ?_)
  refine WP.thenPanic ?_
  refine WP.panicD (k := 0) [_, _] [_, _] rfl Try.call56 rfl (fun w hI => catch56 _ _ _ _ _ (hI.own _ _ (List.mem_of_getElem? (i := 0) rfl))) Try.results17 ⟨(RV.tmp rfl), (RV.cell1 Try.isAgg30 rfl (by first | exact Rd.own (k := 0) rfl rfl | exact Rd.own (k := 1) rfl rfl)), trivial⟩ (fun w hI => ⟨congrArg Ending.returned (by rw [hO]; rfl), hI.keep⟩)

set_option maxRecDepth 100000 in
set_option maxHeartbeats 1000000 in
theorem Before_3 (p : Post) (a1 : Option Addr) (n1 c1 : Nat) (a2 : Option Addr) (n2 c2 : Nat) (D : Imm) (w : World) (hR : PostR D p a1 n1 a2 n2) (hH : Holds D w) (x y : Int) (hv : postB p = true) (hw : [x, y].all (whoP p) = true) (hok : okA p = false) : Gives Try.prog 17 [.agg #[it p.post.lo, it p.post.hi, .slice a1 n1 c1, .slice a2 n2 c2], it x, it y] w (.tuple #[it (BeforeOut p x y).1, it (BeforeOut p x y).2]) := by
  unfold Gives
  obtain rfl := hR.bath.len'
  obtain rfl := hR.claim.len'
  have hl1 := hR.len1
  have hl2 := hR.len2
  have hE : toldE p (whoP p x && whoP p y) = 10 := by
    have hwn : [x, y].all (whoP p) = (whoP p x && whoP p y) := by simp
    unfold toldE
    rw [if_neg (by rw [hv]; simp), if_neg (by rw [← hwn, hw]; simp), if_pos hok]
  have hO : BeforeOut p x y = (0, 10) := by unfold BeforeOut; rw [if_pos (by rw [hE]; simp), hE]
  refine enterD Try.func17 rfl 27 Try.ntmps17 (Nat.le_of_ble_eq_true rfl) (Inv.start hH) ?_
  refine WC.seq ?_
  refine WC.ofFr [(0, _), (1, _), (2, _)] ⟨rfl, rfl, rfl, trivial⟩ ?_
  refine WC.region ?_
  refine WL.so (SO.box rfl rfl) rfl ?_
  rintro _ _ _ ⟨b3, hb3, rfl, rfl, rfl⟩ -- NEW
  refine WL.yd (Yd.assign rfl) rfl ?_
  refine WL.so (SO.alloc Try.zeroValue30 rfl) rfl ?_
  rintro _ _ _ ⟨b7, hb7, rfl, rfl, rfl⟩ -- NEW
  refine WL.nil ?_
  refine WP.thenC ?_
  refine WC.seq ?_
  refine WC.ofFr [(7, _), (6, _), (3, _), (1, _), (2, _)] ⟨rfl, rfl, rfl, rfl, rfl, trivial⟩ ?_
  refine WC.region ?_
  refine WL.yd (Yd.func rfl rfl) rfl ?_
  refine WL.defer rfl ?_
  refine WL.nil ?_
  refine WP.thenC ?_
  refine WC.seq ?_
  refine WC.ofFr [(7, _), (6, _), (3, _), (1, _), (2, _)] ⟨rfl, rfl, rfl, rfl, rfl, trivial⟩ ?_
  refine WC.region ?_
  refine WL.yd (Yd.loadN Try.isAgg27 Try.sizeOf27 rfl (vs := [_, _, _, _]) rfl (by first | exact RdN.own (k := 0) (n := 4) rfl rfl | exact RdN.own (k := 1) (n := 4) rfl rfl)) rfl ?_
  refine WL.yd (Yd.move rfl) rfl ?_
  refine WL.yd (Yd.move rfl) rfl ?_
  refine WL.so (SO.buildSlice Try.underlying52 Try.sizeOf3 Try.zeroValue3 rfl rfl rfl rfl (cs := [_, _]) rfl) rfl ?_
  rintro _ _ _ ⟨b13, hb13, rfl, rfl, rfl⟩ -- NEW
  refine WL.freezeK 0 rfl (fun hn13 => ?_)
  have hF13 := fun o => (DExt.refl w D).add (o := o) hn13 hb13
  refine WL.so (SO.makes (Enters.func Try.call49 rfl) (fun w hI => open_ok p a1 _ c1 a2 _ c2 (D.add b13 _) _ (hR.ext (hF13 _)) hI.imm [x, y] _ _ _ (ints_two (Imm.add_self _ _ _)) (by omega) hv hw)) rfl ?_
  rintro _ D2 _ ⟨hX2, ⟨bq, rfl, hB⟩, rfl⟩
  have hX2 := ((hF13 _)).trans hX2 (Nat.le_refl _)
  have hR2 := hR.ext hX2
  refine WL.no (SO.fail (Enters.func Try.call50 rfl) (fun w hI => told_no p a1 _ c1 a2 _ c2 bq D2 _ hB hR2 hI.imm hv hok) ?_)
  refine WP.thenPanic ?_
  refine WP.panicD (k := 0) [_, _] [_, _] rfl Try.call56 rfl (fun w hI => catch56 _ _ _ _ _ (hI.own _ _ (List.mem_of_getElem? (i := 0) rfl))) Try.results17 ⟨(RV.tmp rfl), (RV.cell1 Try.isAgg30 rfl (by first | exact Rd.own (k := 0) rfl rfl | exact Rd.own (k := 1) rfl rfl)), trivial⟩ (fun w hI => ⟨congrArg Ending.returned (by rw [hO]; rfl), hI.keep⟩)

set_option maxRecDepth 100000 in
set_option maxHeartbeats 1000000 in
theorem Before_ok (p : Post) (a1 : Option Addr) (n1 c1 : Nat) (a2 : Option Addr) (n2 c2 : Nat) (D : Imm) (w : World) (hR : PostR D p a1 n1 a2 n2) (hH : Holds D w) (x y : Int) (hv : postB p = true) (hw : [x, y].all (whoP p) = true) (hok : okA p = true) : Gives Try.prog 17 [.agg #[it p.post.lo, it p.post.hi, .slice a1 n1 c1, .slice a2 n2 c2], it x, it y] w (.tuple #[it (BeforeOut p x y).1, it (BeforeOut p x y).2]) := by
  unfold Gives
  obtain rfl := hR.bath.len'
  obtain rfl := hR.claim.len'
  have hl1 := hR.len1
  have hl2 := hR.len2
  have hE : toldE p (whoP p x && whoP p y) = 0 := by
    have hwn : [x, y].all (whoP p) = (whoP p x && whoP p y) := by simp
    unfold toldE
    rw [if_neg (by rw [hv]; simp), if_neg (by rw [← hwn, hw]; simp), if_neg (by rw [hok]; simp)]
  have hwx : whoP p x = true ∧ whoP p y = true := by simpa using hw
  have hix := ix_who hwx.1
  have hiy := ix_who hwx.2
  have hn7 := nodes_le hv
  have hg1 : -40 ≤ GA p (ix x) (ix y) ∧ GA p (ix x) (ix y) ≤ 40 := far_num hv (allR_in hv) hok hix.1 hiy.1
  have hg2 : -40 ≤ GA p (ix y) (ix x) ∧ GA p (ix y) (ix x) ≤ 40 := far_num hv (allR_in hv) hok hiy.1 hix.1
  have hgn : -9223372036854775807 ≤ (farOf p (allR p) (ix y) (ix x)).getD 0 ∧ (farOf p (allR p) (ix y) (ix x)).getD 0 ≤ 9223372036854775807 := by
    have : -40 ≤ (farOf p (allR p) (ix y) (ix x)).getD 0 ∧ (farOf p (allR p) (ix y) (ix x)).getD 0 ≤ 40 := hg2
    omega
  have hO : BeforeOut p x y = (gradeI (decide (0 < GA p (ix x) (ix y))) (decide (-GA p (ix y) (ix x) ≤ 0)), 0) := by unfold BeforeOut; rw [if_neg (by rw [hE]; simp)]
  refine enterD Try.func17 rfl 27 Try.ntmps17 (Nat.le_of_ble_eq_true rfl) (Inv.start hH) ?_
  refine WC.seq ?_
  refine WC.ofFr [(0, _), (1, _), (2, _)] ⟨rfl, rfl, rfl, trivial⟩ ?_
  refine WC.region ?_
  refine WL.so (SO.box rfl rfl) rfl ?_
  rintro _ _ _ ⟨b3, hb3, rfl, rfl, rfl⟩ -- NEW
  refine WL.yd (Yd.assign rfl) rfl ?_
  refine WL.so (SO.alloc Try.zeroValue30 rfl) rfl ?_
  rintro _ _ _ ⟨b7, hb7, rfl, rfl, rfl⟩ -- NEW
  refine WL.nil ?_
  refine WP.thenC ?_
  refine WC.seq ?_
  refine WC.ofFr [(7, _), (6, _), (3, _), (1, _), (2, _)] ⟨rfl, rfl, rfl, rfl, rfl, trivial⟩ ?_
  refine WC.region ?_
  refine WL.yd (Yd.func rfl rfl) rfl ?_
  refine WL.defer rfl ?_
  refine WL.nil ?_
  refine WP.thenC ?_
  refine WC.seq ?_
  refine WC.ofFr [(7, _), (6, _), (3, _), (1, _), (2, _)] ⟨rfl, rfl, rfl, rfl, rfl, trivial⟩ ?_
  refine WC.region ?_
  refine WL.yd (Yd.loadN Try.isAgg27 Try.sizeOf27 rfl (vs := [_, _, _, _]) rfl (by first | exact RdN.own (k := 0) (n := 4) rfl rfl | exact RdN.own (k := 1) (n := 4) rfl rfl)) rfl ?_
  refine WL.yd (Yd.move rfl) rfl ?_
  refine WL.yd (Yd.move rfl) rfl ?_
  refine WL.so (SO.buildSlice Try.underlying52 Try.sizeOf3 Try.zeroValue3 rfl rfl rfl rfl (cs := [_, _]) rfl) rfl ?_
  rintro _ _ _ ⟨b13, hb13, rfl, rfl, rfl⟩ -- NEW
  refine WL.freezeK 0 rfl (fun hn13 => ?_)
  have hF13 := fun o => (DExt.refl w D).add (o := o) hn13 hb13
  refine WL.so (SO.makes (Enters.func Try.call49 rfl) (fun w hI => open_ok p a1 _ c1 a2 _ c2 (D.add b13 _) _ (hR.ext (hF13 _)) hI.imm [x, y] _ _ _ (ints_two (Imm.add_self _ _ _)) (by omega) hv hw)) rfl ?_
  rintro _ D2 _ ⟨hX2, ⟨bq, rfl, hB⟩, rfl⟩
  have hX2 := ((hF13 _)).trans hX2 (Nat.le_refl _)
  have hR2 := hR.ext hX2
  refine WL.so (SO.makes (Enters.func Try.call50 rfl) (fun w hI => told_ok p a1 _ c1 a2 _ c2 bq D2 _ hB hR2 hI.imm hv hok)) rfl ?_
  rintro m3 D3 _ ⟨hX3, hMA, rfl⟩
  refine WL.yd (Yd.move rfl) rfl ?_
  refine WL.yd (Yd.move rfl) rfl ?_
  refine WL.yd (Yd.build SA79 rfl (cs := [_, _]) rfl) rfl ?_
  refine WL.know 18 (.agg #[it (((ix x : Nat) : Int) - 2), it (((ix y : Nat) : Int) - 2)]) rfl (by rw [hix.2.2, hiy.2.2]; rfl) ?_
  refine WL.so (SO.callP Try.call51 rfl (fun w hI => Gives.cv (.agg #[it (-GA p (ix y) (ix x)), it (GA p (ix x) (ix y))]) (span_g (farOf p (allR p)) m3 D3 _ hMA hI.imm (ix x) (ix y) (by omega) (by omega) hgn) rfl)) rfl ?_
  rintro _ _ _ ⟨rfl, rfl, rfl⟩
  refine WL.so (SO.alloc Try.zeroValue23 rfl) rfl ?_
  rintro _ _ _ ⟨b8, hb8, rfl, rfl, rfl⟩ -- NEW
  refine WL.so (SO.store 0 rfl Try.sizeOf23 rfl rfl rfl rfl (Nat.le_of_ble_eq_true rfl) (oneB_spec rfl)) rfl ?_
  rintro _ _ _ ⟨rfl, rfl, rfl⟩
  refine WL.nil ?_
  refine WP.thenC ?_
  refine WC.seq ?_
  refine WC.ofFr [(8, _), (7, _), (6, _)] ⟨rfl, rfl, rfl, trivial⟩ ?_
  refine WC.region ?_
  refine WL.yd (Yd.fieldAddr FA23_1 rfl) rfl ?_
  refine WL.yd (Yd.load1 Try.isAgg3 rfl (by first | exact Rd.own (k := 0) rfl rfl | exact Rd.own (k := 1) rfl rfl | exact Rd.own (k := 2) rfl rfl)) rfl ?_
  refine WL.yd (Yd.gtr rfl rfl) rfl ?_
  refine WL.yd (Yd.fieldAddr FA23_0 rfl) rfl ?_
  refine WL.yd (Yd.load1 Try.isAgg3 rfl (by first | exact Rd.own (k := 0) rfl rfl | exact Rd.own (k := 1) rfl rfl | exact Rd.own (k := 2) rfl rfl)) rfl ?_
  refine WL.yd (Yd.leq rfl rfl) rfl ?_
  refine WL.so (SO.callP Try.call57 rfl (fun w hI => grade_g _ _ _)) rfl ?_
  rintro _ _ _ ⟨rfl, rfl, rfl⟩
  refine WL.yd (Yd.assign rfl) rfl ?_
  refine WL.so (SO.store 1 rfl Try.sizeOf30 rfl rfl rfl rfl (Nat.le_of_ble_eq_true rfl) (oneB_spec rfl)) rfl ?_
  rintro _ _ _ ⟨rfl, rfl, rfl⟩
  refine WL.nil ?_
  refine WP.thenC ?_
  refine WC.ret ?_
  refine WP.endD [_, _] [_, _] rfl rfl Try.call56 (fun w hI => idle56 _ _) Try.results17 ⟨(RV.tmp rfl), (RV.cell1 Try.isAgg30 rfl (by first | exact Rd.own (k := 0) rfl rfl | exact Rd.own (k := 1) rfl rfl | exact Rd.own (k := 2) rfl rfl)), trivial⟩ (fun w hI => ⟨congrArg Ending.returned (by rw [hO]; rfl), hI.keep⟩)

theorem Before_g (p : Post) (a1 : Option Addr) (n1 c1 : Nat) (a2 : Option Addr) (n2 c2 : Nat) (D : Imm) (w : World) (hR : PostR D p a1 n1 a2 n2) (hH : Holds D w) (x y : Int) : Gives Try.prog 17 [.agg #[it p.post.lo, it p.post.hi, .slice a1 n1 c1, .slice a2 n2 c2], it x, it y] w (.tuple #[it (BeforeOut p x y).1, it (BeforeOut p x y).2]) := by
  cases hv : postB p with
  | false => exact Before_1 p a1 n1 c1 a2 n2 c2 D w hR hH x y hv
  | true =>
    cases hw : [x, y].all (whoP p) with
    | false => exact Before_2 p a1 n1 c1 a2 n2 c2 D w hR hH x y hv hw
    | true =>
      cases hok : okA p with
      | false => exact Before_3 p a1 n1 c1 a2 n2 c2 D w hR hH x y hv hw hok
      | true => exact Before_ok p a1 n1 c1 a2 n2 c2 D w hR hH x y hv hw hok

set_option maxRecDepth 100000 in
set_option maxHeartbeats 1000000 in
theorem Near_1 (p : Post) (a1 : Option Addr) (n1 c1 : Nat) (a2 : Option Addr) (n2 c2 : Nat) (D : Imm) (w : World) (hR : PostR D p a1 n1 a2 n2) (hH : Holds D w) (x y : Int) (hv : postB p = false) : Gives Try.prog 19 [.agg #[it p.post.lo, it p.post.hi, .slice a1 n1 c1, .slice a2 n2 c2], it x, it y] w (.tuple #[.agg #[it (NearOut p x y).1.lo, it (NearOut p x y).1.hi], it (NearOut p x y).2]) := by
  unfold Gives
  obtain rfl := hR.bath.len'
  obtain rfl := hR.claim.len'
  have hl1 := hR.len1
  have hl2 := hR.len2
  have hE : toldE p (whoP p x && whoP p y) = 1 := by
    have hwn : [x, y].all (whoP p) = (whoP p x && whoP p y) := by simp
    unfold toldE
    rw [if_pos hv]
  have hO : NearOut p x y = (⟨0, 0⟩, 1) := by unfold NearOut; rw [if_pos (by rw [hE]; simp), hE]
  refine enterD Try.func19 rfl 40 Try.ntmps19 (Nat.le_of_ble_eq_true rfl) (Inv.start hH) ?_
  refine WC.seq ?_
  refine WC.ofFr [(0, _), (1, _), (2, _)] ⟨rfl, rfl, rfl, trivial⟩ ?_
  refine WC.region ?_
  refine WL.so (SO.box rfl rfl) rfl ?_
  rintro _ _ _ ⟨b3, hb3, rfl, rfl, rfl⟩ -- NEW
  refine WL.so (SO.alloc Try.zeroValue23 rfl) rfl ?_
  rintro _ _ _ ⟨b6, hb6, rfl, rfl, rfl⟩ -- NEW
  refine WL.so (SO.alloc Try.zeroValue30 rfl) rfl ?_
  rintro _ _ _ ⟨b7, hb7, rfl, rfl, rfl⟩ -- NEW
  refine WL.nil ?_
  refine WP.thenC ?_
  refine WC.seq ?_
  refine WC.ofFr [(7, _), (6, _), (3, _), (1, _), (2, _)] ⟨rfl, rfl, rfl, rfl, rfl, trivial⟩ ?_
  refine WC.region ?_
  refine WL.yd (Yd.func rfl rfl) rfl ?_
  refine WL.defer rfl ?_
  refine WL.nil ?_
  refine WP.thenC ?_
  refine WC.seq ?_
  refine WC.ofFr [(7, _), (6, _), (3, _), (1, _), (2, _)] ⟨rfl, rfl, rfl, rfl, rfl, trivial⟩ ?_
  refine WC.region ?_
  refine WL.yd (Yd.loadN Try.isAgg27 Try.sizeOf27 rfl (vs := [_, _, _, _]) rfl (by first | exact RdN.own (k := 0) (n := 4) rfl rfl | exact RdN.own (k := 1) (n := 4) rfl rfl | exact RdN.own (k := 2) (n := 4) rfl rfl)) rfl ?_
  refine WL.yd (Yd.move rfl) rfl ?_
  refine WL.yd (Yd.move rfl) rfl ?_
  refine WL.so (SO.buildSlice Try.underlying52 Try.sizeOf3 Try.zeroValue3 rfl rfl rfl rfl (cs := [_, _]) rfl) rfl ?_
  rintro _ _ _ ⟨b13, hb13, rfl, rfl, rfl⟩ -- NEW
  refine WL.freezeK 0 rfl (fun hn13 => ?_)
  have hF13 := fun o => (DExt.refl w D).add (o := o) hn13 hb13
  refine WL.no (SO.fail (Enters.func Try.call49 rfl) (fun w hI => open_1 p a1 _ c1 a2 _ c2 (D.add b13 _) _ (hR.ext (hF13 _)) hI.imm [x, y] _ _ _ (ints_two (Imm.add_self _ _ _)) (by omega) hv) ?_)
  refine WP.thenPanic ?_
  refine WP.panicD (k := 0) [_, _] [_, _] rfl Try.call59 rfl (fun w hI => catch59 _ _ _ _ _ (hI.own _ _ (List.mem_of_getElem? (i := 0) rfl))) Try.results19 ⟨(RV.cellN Try.isAgg23 Try.sizeOf23 rfl (vs := [_, _]) rfl (by first | exact RdN.own (k := 0) (n := 2) rfl rfl | exact RdN.own (k := 1) (n := 2) rfl rfl | exact RdN.own (k := 2) (n := 2) rfl rfl)), (RV.cell1 Try.isAgg30 rfl (by first | exact Rd.own (k := 0) rfl rfl | exact Rd.own (k := 1) rfl rfl | exact Rd.own (k := 2) rfl rfl)), trivial⟩ (fun w hI => ⟨congrArg Ending.returned (by rw [hO]; rfl), hI.keep⟩)

set_option maxRecDepth 100000 in
set_option maxHeartbeats 1000000 in
theorem Near_2 (p : Post) (a1 : Option Addr) (n1 c1 : Nat) (a2 : Option Addr) (n2 c2 : Nat) (D : Imm) (w : World) (hR : PostR D p a1 n1 a2 n2) (hH : Holds D w) (x y : Int) (hv : postB p = true) (hw : [x, y].all (whoP p) = false) : Gives Try.prog 19 [.agg #[it p.post.lo, it p.post.hi, .slice a1 n1 c1, .slice a2 n2 c2], it x, it y] w (.tuple #[.agg #[it (NearOut p x y).1.lo, it (NearOut p x y).1.hi], it (NearOut p x y).2]) := by
  unfold Gives
  obtain rfl := hR.bath.len'
  obtain rfl := hR.claim.len'
  have hl1 := hR.len1
  have hl2 := hR.len2
  have hE : toldE p (whoP p x && whoP p y) = 2 := by
    have hwn : [x, y].all (whoP p) = (whoP p x && whoP p y) := by simp
    unfold toldE
    rw [if_neg (by rw [hv]; simp), if_pos (by rw [← hwn]; exact hw)]
  have hO : NearOut p x y = (⟨0, 0⟩, 2) := by unfold NearOut; rw [if_pos (by rw [hE]; simp), hE]
  refine enterD Try.func19 rfl 40 Try.ntmps19 (Nat.le_of_ble_eq_true rfl) (Inv.start hH) ?_
  refine WC.seq ?_
  refine WC.ofFr [(0, _), (1, _), (2, _)] ⟨rfl, rfl, rfl, trivial⟩ ?_
  refine WC.region ?_
  refine WL.so (SO.box rfl rfl) rfl ?_
  rintro _ _ _ ⟨b3, hb3, rfl, rfl, rfl⟩ -- NEW
  refine WL.so (SO.alloc Try.zeroValue23 rfl) rfl ?_
  rintro _ _ _ ⟨b6, hb6, rfl, rfl, rfl⟩ -- NEW
  refine WL.so (SO.alloc Try.zeroValue30 rfl) rfl ?_
  rintro _ _ _ ⟨b7, hb7, rfl, rfl, rfl⟩ -- NEW
  refine WL.nil ?_
  refine WP.thenC ?_
  refine WC.seq ?_
  refine WC.ofFr [(7, _), (6, _), (3, _), (1, _), (2, _)] ⟨rfl, rfl, rfl, rfl, rfl, trivial⟩ ?_
  refine WC.region ?_
  refine WL.yd (Yd.func rfl rfl) rfl ?_
  refine WL.defer rfl ?_
  refine WL.nil ?_
  refine WP.thenC ?_
  refine WC.seq ?_
  refine WC.ofFr [(7, _), (6, _), (3, _), (1, _), (2, _)] ⟨rfl, rfl, rfl, rfl, rfl, trivial⟩ ?_
  refine WC.region ?_
  refine WL.yd (Yd.loadN Try.isAgg27 Try.sizeOf27 rfl (vs := [_, _, _, _]) rfl (by first | exact RdN.own (k := 0) (n := 4) rfl rfl | exact RdN.own (k := 1) (n := 4) rfl rfl | exact RdN.own (k := 2) (n := 4) rfl rfl)) rfl ?_
  refine WL.yd (Yd.move rfl) rfl ?_
  refine WL.yd (Yd.move rfl) rfl ?_
  refine WL.so (SO.buildSlice Try.underlying52 Try.sizeOf3 Try.zeroValue3 rfl rfl rfl rfl (cs := [_, _]) rfl) rfl ?_
  rintro _ _ _ ⟨b13, hb13, rfl, rfl, rfl⟩ -- NEW
  refine WL.freezeK 0 rfl (fun hn13 => ?_)
  have hF13 := fun o => (DExt.refl w D).add (o := o) hn13 hb13
  refine WL.no (SO.fail (Enters.func Try.call49 rfl) (fun w hI => open_2 p a1 _ c1 a2 _ c2 (D.add b13 _) _ (hR.ext (hF13 _)) hI.imm [x, y] _ _ _ (ints_two (Imm.add_self _ _ _)) (by omega) hv hw) ?_)
  refine WP.thenPanic ?_
  refine WP.panicD (k := 0) [_, _] [_, _] rfl Try.call59 rfl (fun w hI => catch59 _ _ _ _ _ (hI.own _ _ (List.mem_of_getElem? (i := 0) rfl))) Try.results19 ⟨(RV.cellN Try.isAgg23 Try.sizeOf23 rfl (vs := [_, _]) rfl (by first | exact RdN.own (k := 0) (n := 2) rfl rfl | exact RdN.own (k := 1) (n := 2) rfl rfl | exact RdN.own (k := 2) (n := 2) rfl rfl)), (RV.cell1 Try.isAgg30 rfl (by first | exact Rd.own (k := 0) rfl rfl | exact Rd.own (k := 1) rfl rfl | exact Rd.own (k := 2) rfl rfl)), trivial⟩ (fun w hI => ⟨congrArg Ending.returned (by rw [hO]; rfl), hI.keep⟩)

set_option maxRecDepth 100000 in
set_option maxHeartbeats 1000000 in
theorem Near_3 (p : Post) (a1 : Option Addr) (n1 c1 : Nat) (a2 : Option Addr) (n2 c2 : Nat) (D : Imm) (w : World) (hR : PostR D p a1 n1 a2 n2) (hH : Holds D w) (x y : Int) (hv : postB p = true) (hw : [x, y].all (whoP p) = true) (hok : okA p = false) : Gives Try.prog 19 [.agg #[it p.post.lo, it p.post.hi, .slice a1 n1 c1, .slice a2 n2 c2], it x, it y] w (.tuple #[.agg #[it (NearOut p x y).1.lo, it (NearOut p x y).1.hi], it (NearOut p x y).2]) := by
  unfold Gives
  obtain rfl := hR.bath.len'
  obtain rfl := hR.claim.len'
  have hl1 := hR.len1
  have hl2 := hR.len2
  have hE : toldE p (whoP p x && whoP p y) = 10 := by
    have hwn : [x, y].all (whoP p) = (whoP p x && whoP p y) := by simp
    unfold toldE
    rw [if_neg (by rw [hv]; simp), if_neg (by rw [← hwn, hw]; simp), if_pos hok]
  have hO : NearOut p x y = (⟨0, 0⟩, 10) := by unfold NearOut; rw [if_pos (by rw [hE]; simp), hE]
  refine enterD Try.func19 rfl 40 Try.ntmps19 (Nat.le_of_ble_eq_true rfl) (Inv.start hH) ?_
  refine WC.seq ?_
  refine WC.ofFr [(0, _), (1, _), (2, _)] ⟨rfl, rfl, rfl, trivial⟩ ?_
  refine WC.region ?_
  refine WL.so (SO.box rfl rfl) rfl ?_
  rintro _ _ _ ⟨b3, hb3, rfl, rfl, rfl⟩ -- NEW
  refine WL.so (SO.alloc Try.zeroValue23 rfl) rfl ?_
  rintro _ _ _ ⟨b6, hb6, rfl, rfl, rfl⟩ -- NEW
  refine WL.so (SO.alloc Try.zeroValue30 rfl) rfl ?_
  rintro _ _ _ ⟨b7, hb7, rfl, rfl, rfl⟩ -- NEW
  refine WL.nil ?_
  refine WP.thenC ?_
  refine WC.seq ?_
  refine WC.ofFr [(7, _), (6, _), (3, _), (1, _), (2, _)] ⟨rfl, rfl, rfl, rfl, rfl, trivial⟩ ?_
  refine WC.region ?_
  refine WL.yd (Yd.func rfl rfl) rfl ?_
  refine WL.defer rfl ?_
  refine WL.nil ?_
  refine WP.thenC ?_
  refine WC.seq ?_
  refine WC.ofFr [(7, _), (6, _), (3, _), (1, _), (2, _)] ⟨rfl, rfl, rfl, rfl, rfl, trivial⟩ ?_
  refine WC.region ?_
  refine WL.yd (Yd.loadN Try.isAgg27 Try.sizeOf27 rfl (vs := [_, _, _, _]) rfl (by first | exact RdN.own (k := 0) (n := 4) rfl rfl | exact RdN.own (k := 1) (n := 4) rfl rfl | exact RdN.own (k := 2) (n := 4) rfl rfl)) rfl ?_
  refine WL.yd (Yd.move rfl) rfl ?_
  refine WL.yd (Yd.move rfl) rfl ?_
  refine WL.so (SO.buildSlice Try.underlying52 Try.sizeOf3 Try.zeroValue3 rfl rfl rfl rfl (cs := [_, _]) rfl) rfl ?_
  rintro _ _ _ ⟨b13, hb13, rfl, rfl, rfl⟩ -- NEW
  refine WL.freezeK 0 rfl (fun hn13 => ?_)
  have hF13 := fun o => (DExt.refl w D).add (o := o) hn13 hb13
  refine WL.so (SO.makes (Enters.func Try.call49 rfl) (fun w hI => open_ok p a1 _ c1 a2 _ c2 (D.add b13 _) _ (hR.ext (hF13 _)) hI.imm [x, y] _ _ _ (ints_two (Imm.add_self _ _ _)) (by omega) hv hw)) rfl ?_
  rintro _ D2 _ ⟨hX2, ⟨bq, rfl, hB⟩, rfl⟩
  have hX2 := ((hF13 _)).trans hX2 (Nat.le_refl _)
  have hR2 := hR.ext hX2
  refine WL.no (SO.fail (Enters.func Try.call50 rfl) (fun w hI => told_no p a1 _ c1 a2 _ c2 bq D2 _ hB hR2 hI.imm hv hok) ?_)
  refine WP.thenPanic ?_
  refine WP.panicD (k := 0) [_, _] [_, _] rfl Try.call59 rfl (fun w hI => catch59 _ _ _ _ _ (hI.own _ _ (List.mem_of_getElem? (i := 0) rfl))) Try.results19 ⟨(RV.cellN Try.isAgg23 Try.sizeOf23 rfl (vs := [_, _]) rfl (by first | exact RdN.own (k := 0) (n := 2) rfl rfl | exact RdN.own (k := 1) (n := 2) rfl rfl | exact RdN.own (k := 2) (n := 2) rfl rfl)), (RV.cell1 Try.isAgg30 rfl (by first | exact Rd.own (k := 0) rfl rfl | exact Rd.own (k := 1) rfl rfl | exact Rd.own (k := 2) rfl rfl)), trivial⟩ (fun w hI => ⟨congrArg Ending.returned (by rw [hO]; rfl), hI.keep⟩)

set_option maxRecDepth 100000 in
set_option maxHeartbeats 1000000 in
theorem Near_ok (p : Post) (a1 : Option Addr) (n1 c1 : Nat) (a2 : Option Addr) (n2 c2 : Nat) (D : Imm) (w : World) (hR : PostR D p a1 n1 a2 n2) (hH : Holds D w) (x y : Int) (hv : postB p = true) (hw : [x, y].all (whoP p) = true) (hok : okA p = true) : Gives Try.prog 19 [.agg #[it p.post.lo, it p.post.hi, .slice a1 n1 c1, .slice a2 n2 c2], it x, it y] w (.tuple #[.agg #[it (NearOut p x y).1.lo, it (NearOut p x y).1.hi], it (NearOut p x y).2]) := by
  unfold Gives
  obtain rfl := hR.bath.len'
  obtain rfl := hR.claim.len'
  have hl1 := hR.len1
  have hl2 := hR.len2
  have hE : toldE p (whoP p x && whoP p y) = 0 := by
    have hwn : [x, y].all (whoP p) = (whoP p x && whoP p y) := by simp
    unfold toldE
    rw [if_neg (by rw [hv]; simp), if_neg (by rw [← hwn, hw]; simp), if_neg (by rw [hok]; simp)]
  have hwx : whoP p x = true ∧ whoP p y = true := by simpa using hw
  have hix := ix_who hwx.1
  have hiy := ix_who hwx.2
  have hn7 := nodes_le hv
  have hg1 : -40 ≤ GA p (ix x) (ix y) ∧ GA p (ix x) (ix y) ≤ 40 := far_num hv (allR_in hv) hok hix.1 hiy.1
  have hg2 : -40 ≤ GA p (ix y) (ix x) ∧ GA p (ix y) (ix x) ≤ 40 := far_num hv (allR_in hv) hok hiy.1 hix.1
  have hgn : -9223372036854775807 ≤ (farOf p (allR p) (ix y) (ix x)).getD 0 ∧ (farOf p (allR p) (ix y) (ix x)).getD 0 ≤ 9223372036854775807 := by
    have : -40 ≤ (farOf p (allR p) (ix y) (ix x)).getD 0 ∧ (farOf p (allR p) (ix y) (ix x)).getD 0 ≤ 40 := hg2
    omega
  have hO : NearOut p x y = (nearS (-GA p (ix y) (ix x)) (GA p (ix x) (ix y)), 0) := by unfold NearOut; rw [if_neg (by rw [hE]; simp)]
  refine enterD Try.func19 rfl 40 Try.ntmps19 (Nat.le_of_ble_eq_true rfl) (Inv.start hH) ?_
  refine WC.seq ?_
  refine WC.ofFr [(0, _), (1, _), (2, _)] ⟨rfl, rfl, rfl, trivial⟩ ?_
  refine WC.region ?_
  refine WL.so (SO.box rfl rfl) rfl ?_
  rintro _ _ _ ⟨b3, hb3, rfl, rfl, rfl⟩ -- NEW
  refine WL.so (SO.alloc Try.zeroValue23 rfl) rfl ?_
  rintro _ _ _ ⟨b6, hb6, rfl, rfl, rfl⟩ -- NEW
  refine WL.so (SO.alloc Try.zeroValue30 rfl) rfl ?_
  rintro _ _ _ ⟨b7, hb7, rfl, rfl, rfl⟩ -- NEW
  refine WL.nil ?_
  refine WP.thenC ?_
  refine WC.seq ?_
  refine WC.ofFr [(7, _), (6, _), (3, _), (1, _), (2, _)] ⟨rfl, rfl, rfl, rfl, rfl, trivial⟩ ?_
  refine WC.region ?_
  refine WL.yd (Yd.func rfl rfl) rfl ?_
  refine WL.defer rfl ?_
  refine WL.nil ?_
  refine WP.thenC ?_
  refine WC.seq ?_
  refine WC.ofFr [(7, _), (6, _), (3, _), (1, _), (2, _)] ⟨rfl, rfl, rfl, rfl, rfl, trivial⟩ ?_
  refine WC.region ?_
  refine WL.yd (Yd.loadN Try.isAgg27 Try.sizeOf27 rfl (vs := [_, _, _, _]) rfl (by first | exact RdN.own (k := 0) (n := 4) rfl rfl | exact RdN.own (k := 1) (n := 4) rfl rfl | exact RdN.own (k := 2) (n := 4) rfl rfl)) rfl ?_
  refine WL.yd (Yd.move rfl) rfl ?_
  refine WL.yd (Yd.move rfl) rfl ?_
  refine WL.so (SO.buildSlice Try.underlying52 Try.sizeOf3 Try.zeroValue3 rfl rfl rfl rfl (cs := [_, _]) rfl) rfl ?_
  rintro _ _ _ ⟨b13, hb13, rfl, rfl, rfl⟩ -- NEW
  refine WL.freezeK 0 rfl (fun hn13 => ?_)
  have hF13 := fun o => (DExt.refl w D).add (o := o) hn13 hb13
  refine WL.so (SO.makes (Enters.func Try.call49 rfl) (fun w hI => open_ok p a1 _ c1 a2 _ c2 (D.add b13 _) _ (hR.ext (hF13 _)) hI.imm [x, y] _ _ _ (ints_two (Imm.add_self _ _ _)) (by omega) hv hw)) rfl ?_
  rintro _ D2 _ ⟨hX2, ⟨bq, rfl, hB⟩, rfl⟩
  have hX2 := ((hF13 _)).trans hX2 (Nat.le_refl _)
  have hR2 := hR.ext hX2
  refine WL.so (SO.makes (Enters.func Try.call50 rfl) (fun w hI => told_ok p a1 _ c1 a2 _ c2 bq D2 _ hB hR2 hI.imm hv hok)) rfl ?_
  rintro m3 D3 _ ⟨hX3, hMA, rfl⟩
  refine WL.yd (Yd.move rfl) rfl ?_
  refine WL.yd (Yd.move rfl) rfl ?_
  refine WL.yd (Yd.build SA79 rfl (cs := [_, _]) rfl) rfl ?_
  refine WL.know 18 (.agg #[it (((ix x : Nat) : Int) - 2), it (((ix y : Nat) : Int) - 2)]) rfl (by rw [hix.2.2, hiy.2.2]; rfl) ?_
  refine WL.so (SO.callP Try.call51 rfl (fun w hI => Gives.cv (.agg #[it (-GA p (ix y) (ix x)), it (GA p (ix x) (ix y))]) (span_g (farOf p (allR p)) m3 D3 _ hMA hI.imm (ix x) (ix y) (by omega) (by omega) hgn) rfl)) rfl ?_
  rintro _ _ _ ⟨rfl, rfl, rfl⟩
  refine WL.so (SO.alloc Try.zeroValue23 rfl) rfl ?_
  rintro _ _ _ ⟨b8, hb8, rfl, rfl, rfl⟩ -- NEW
  refine WL.so (SO.store 0 rfl Try.sizeOf23 rfl rfl rfl rfl (Nat.le_of_ble_eq_true rfl) (oneB_spec rfl)) rfl ?_
  rintro _ _ _ ⟨rfl, rfl, rfl⟩
  refine WL.nil ?_
  refine WP.thenC ?_
  refine WC.seq ?_
  refine WC.seq ?_
  refine WC.ofFr [(8, _), (7, _), (6, _)] ⟨rfl, rfl, rfl, trivial⟩ ?_
  refine WC.region ?_
  refine WL.yd (Yd.fieldAddr FA23_1 rfl) rfl ?_
  refine WL.yd (Yd.load1 Try.isAgg3 rfl (by first | exact Rd.own (k := 0) rfl rfl | exact Rd.own (k := 1) rfl rfl | exact Rd.own (k := 2) rfl rfl | exact Rd.own (k := 3) rfl rfl)) rfl ?_
  refine WL.yd (Yd.lss rfl rfl) rfl ?_
  refine WL.nil ?_
  refine WP.thenC ?_
  refine WC.cond rfl (fun c22 => ?_) (fun c22 => ?_)
  · try simp only [zq1, zq2, zq3, zq4, zq5, zq6, zq7, zq8] at c22
    refine WC.ofFr [(8, _), (7, _), (6, _)] ⟨rfl, rfl, rfl, trivial⟩ ?_
    refine WC.region ?_
    refine WL.yd (Yd.fieldAddr FA23_1 rfl) rfl ?_
    refine WL.yd (Yd.load1 Try.isAgg3 rfl (by first | exact Rd.own (k := 0) rfl rfl | exact Rd.own (k := 1) rfl rfl | exact Rd.own (k := 2) rfl rfl | exact Rd.own (k := 3) rfl rfl)) rfl ?_
    refine WL.yd (Yd.neg rfl (wr64 ⟨by omega, by omega⟩)) rfl ?_
    refine WL.yd (Yd.fieldAddr FA23_0 rfl) rfl ?_
    refine WL.yd (Yd.load1 Try.isAgg3 rfl (by first | exact Rd.own (k := 0) rfl rfl | exact Rd.own (k := 1) rfl rfl | exact Rd.own (k := 2) rfl rfl | exact Rd.own (k := 3) rfl rfl)) rfl ?_
    refine WL.yd (Yd.neg rfl (wr64 ⟨by omega, by omega⟩)) rfl ?_
    refine WL.yd (Yd.build SA23 rfl (cs := [_, _]) rfl) rfl ?_
    refine WL.so (SO.store 0 rfl Try.sizeOf23 rfl rfl rfl rfl (Nat.le_of_ble_eq_true rfl) (oneB_spec rfl)) rfl ?_
    rintro _ _ _ ⟨rfl, rfl, rfl⟩
    refine WL.nil ?_
    refine WP.thenC ?_
    refine WC.seq ?_
    refine WC.ofFr [(8, _), (7, _), (6, _)] ⟨rfl, rfl, rfl, trivial⟩ ?_
    refine WC.region ?_
    refine WL.yd (Yd.fieldAddr FA23_0 rfl) rfl ?_
    refine WL.yd (Yd.load1 Try.isAgg3 rfl (by first | exact Rd.own (k := 0) rfl rfl | exact Rd.own (k := 1) rfl rfl | exact Rd.own (k := 2) rfl rfl | exact Rd.own (k := 3) rfl rfl)) rfl ?_
    refine WL.yd (Yd.max2 rfl rfl) rfl ?_
    refine WL.yd (Yd.fieldAddr FA23_1 rfl) rfl ?_
    refine WL.yd (Yd.load1 Try.isAgg3 rfl (by first | exact Rd.own (k := 0) rfl rfl | exact Rd.own (k := 1) rfl rfl | exact Rd.own (k := 2) rfl rfl | exact Rd.own (k := 3) rfl rfl)) rfl ?_
    refine WL.yd (Yd.fieldAddr FA23_0 rfl) rfl ?_
    refine WL.yd (Yd.load1 Try.isAgg3 rfl (by first | exact Rd.own (k := 0) rfl rfl | exact Rd.own (k := 1) rfl rfl | exact Rd.own (k := 2) rfl rfl | exact Rd.own (k := 3) rfl rfl)) rfl ?_
    refine WL.yd (Yd.neg rfl (wr64 ⟨by omega, by omega⟩)) rfl ?_
    refine WL.yd (Yd.max2 rfl rfl) rfl ?_
    refine WL.yd (Yd.build SA23 rfl (cs := [_, _]) rfl) rfl ?_
    refine WL.so (SO.store 2 rfl Try.sizeOf23 rfl rfl rfl rfl (Nat.le_of_ble_eq_true rfl) (oneB_spec rfl)) rfl ?_
    rintro _ _ _ ⟨rfl, rfl, rfl⟩
    refine WL.so (SO.store 1 rfl Try.sizeOf30 rfl rfl rfl rfl (Nat.le_of_ble_eq_true rfl) (oneB_spec rfl)) rfl ?_
    rintro _ _ _ ⟨rfl, rfl, rfl⟩
    refine WL.nil ?_
    refine WP.thenC ?_
    refine WC.ret ?_
    refine WP.endD [_, _] [_, _] rfl rfl Try.call59 (fun w hI => idle59 _ _) Try.results19 ⟨(RV.cellN Try.isAgg23 Try.sizeOf23 rfl (vs := [_, _]) rfl (by first | exact RdN.own (k := 0) (n := 2) rfl rfl | exact RdN.own (k := 1) (n := 2) rfl rfl | exact RdN.own (k := 2) (n := 2) rfl rfl | exact RdN.own (k := 3) (n := 2) rfl rfl)), (RV.cell1 Try.isAgg30 rfl (by first | exact Rd.own (k := 0) rfl rfl | exact Rd.own (k := 1) rfl rfl | exact Rd.own (k := 2) rfl rfl | exact Rd.own (k := 3) rfl rfl)), trivial⟩ (fun w hI => ⟨congrArg Ending.returned (by rw [hO]; unfold nearS; rw [if_pos c22]; rfl), hI.keep⟩)
  · try simp only [zq1, zq2, zq3, zq4, zq5, zq6, zq7, zq8] at c22
    refine WC.skip ?_
    refine WP.thenC ?_
    refine WC.seq ?_
    refine WC.ofFr [(8, _), (7, _), (6, _)] ⟨rfl, rfl, rfl, trivial⟩ ?_
    refine WC.region ?_
    refine WL.yd (Yd.fieldAddr FA23_0 rfl) rfl ?_
    refine WL.yd (Yd.load1 Try.isAgg3 rfl (by first | exact Rd.own (k := 0) rfl rfl | exact Rd.own (k := 1) rfl rfl | exact Rd.own (k := 2) rfl rfl | exact Rd.own (k := 3) rfl rfl)) rfl ?_
    refine WL.yd (Yd.max2 rfl rfl) rfl ?_
    refine WL.yd (Yd.fieldAddr FA23_1 rfl) rfl ?_
    refine WL.yd (Yd.load1 Try.isAgg3 rfl (by first | exact Rd.own (k := 0) rfl rfl | exact Rd.own (k := 1) rfl rfl | exact Rd.own (k := 2) rfl rfl | exact Rd.own (k := 3) rfl rfl)) rfl ?_
    refine WL.yd (Yd.fieldAddr FA23_0 rfl) rfl ?_
    refine WL.yd (Yd.load1 Try.isAgg3 rfl (by first | exact Rd.own (k := 0) rfl rfl | exact Rd.own (k := 1) rfl rfl | exact Rd.own (k := 2) rfl rfl | exact Rd.own (k := 3) rfl rfl)) rfl ?_
    refine WL.yd (Yd.neg rfl (wr64 ⟨by omega, by omega⟩)) rfl ?_
    refine WL.yd (Yd.max2 rfl rfl) rfl ?_
    refine WL.yd (Yd.build SA23 rfl (cs := [_, _]) rfl) rfl ?_
    refine WL.so (SO.store 2 rfl Try.sizeOf23 rfl rfl rfl rfl (Nat.le_of_ble_eq_true rfl) (oneB_spec rfl)) rfl ?_
    rintro _ _ _ ⟨rfl, rfl, rfl⟩
    refine WL.so (SO.store 1 rfl Try.sizeOf30 rfl rfl rfl rfl (Nat.le_of_ble_eq_true rfl) (oneB_spec rfl)) rfl ?_
    rintro _ _ _ ⟨rfl, rfl, rfl⟩
    refine WL.nil ?_
    refine WP.thenC ?_
    refine WC.ret ?_
    refine WP.endD [_, _] [_, _] rfl rfl Try.call59 (fun w hI => idle59 _ _) Try.results19 ⟨(RV.cellN Try.isAgg23 Try.sizeOf23 rfl (vs := [_, _]) rfl (by first | exact RdN.own (k := 0) (n := 2) rfl rfl | exact RdN.own (k := 1) (n := 2) rfl rfl | exact RdN.own (k := 2) (n := 2) rfl rfl | exact RdN.own (k := 3) (n := 2) rfl rfl)), (RV.cell1 Try.isAgg30 rfl (by first | exact Rd.own (k := 0) rfl rfl | exact Rd.own (k := 1) rfl rfl | exact Rd.own (k := 2) rfl rfl | exact Rd.own (k := 3) rfl rfl)), trivial⟩ (fun w hI => ⟨congrArg Ending.returned (by rw [hO]; unfold nearS; rw [if_neg (by omega)]; rfl), hI.keep⟩)

theorem Near_g (p : Post) (a1 : Option Addr) (n1 c1 : Nat) (a2 : Option Addr) (n2 c2 : Nat) (D : Imm) (w : World) (hR : PostR D p a1 n1 a2 n2) (hH : Holds D w) (x y : Int) : Gives Try.prog 19 [.agg #[it p.post.lo, it p.post.hi, .slice a1 n1 c1, .slice a2 n2 c2], it x, it y] w (.tuple #[.agg #[it (NearOut p x y).1.lo, it (NearOut p x y).1.hi], it (NearOut p x y).2]) := by
  cases hv : postB p with
  | false => exact Near_1 p a1 n1 c1 a2 n2 c2 D w hR hH x y hv
  | true =>
    cases hw : [x, y].all (whoP p) with
    | false => exact Near_2 p a1 n1 c1 a2 n2 c2 D w hR hH x y hv hw
    | true =>
      cases hok : okA p with
      | false => exact Near_3 p a1 n1 c1 a2 n2 c2 D w hR hH x y hv hw hok
      | true => exact Near_ok p a1 n1 c1 a2 n2 c2 D w hR hH x y hv hw hok

end Go.Proofs.Ytkhmmefgllbobaa
namespace Go.Proofs.Ytkhmmefgllbobaa
open Go.W Go.Po
theorem FA56_0 : FieldAt Try.prog 56 0 0 := FieldAt.mk (t := 4) (off := 0) Try.underlying56 rfl Try.sizeOf4 (by decide)
def sidesC (p : Post) (k : Nat) : List Value := (List.range 5).flatMap fun i => if i < k then [ruleV (sideR p i false), ruleV (sideR p i true)] else [.nilIface, .nilIface]
def sideV (p : Post) (n k : Nat) : List Value := if k < n then [ruleV (sideR p k false), ruleV (sideR p k true)] else [.nilIface, .nilIface]
theorem sidesC_len (p : Post) (k : Nat) : (sidesC p k).length = 10 := by
  have h : ∀ i, (if i < k then [ruleV (sideR p i false), ruleV (sideR p i true)] else [Value.nilIface, .nilIface]).length = 2 := fun i => by split <;> rfl
  simp only [sidesC, List.length_flatMap, h]; rfl
theorem sidesC_eq (p : Post) (k : Nat) : sidesC p k = sideV p k 0 ++ (sideV p k 1 ++ (sideV p k 2 ++ (sideV p k 3 ++ (sideV p k 4 ++ [])))) := rfl
theorem sideV_len (p : Post) (n k : Nat) : (sideV p n k).length = 2 := by unfold sideV; split <;> rfl
theorem sideV_cases (p : Post) (n k : Nat) : ∃ a b, sideV p n k = [a, b] ∧ a.oneCell' = true ∧ b.oneCell' = true := by
  unfold sideV
  split
  · exact ⟨_, _, rfl, rfl, rfl⟩
  · exact ⟨_, _, rfl, rfl, rfl⟩
theorem sidesC_one (p : Post) (k : Nat) : ∀ v ∈ sidesC p k, v.oneCell' = true := fun v hv => by
  simp only [sidesC, List.mem_flatMap] at hv
  obtain ⟨i, _, hi⟩ := hv
  split at hi
  · simp only [List.mem_cons, List.mem_nil_iff, or_false] at hi
    rcases hi with rfl | rfl <;> rfl
  · simp only [List.mem_cons, List.mem_nil_iff, or_false] at hi
    rcases hi with rfl | rfl <;> rfl
theorem sideV_lt {p : Post} {n k : Nat} (h : k < n) : sideV p n k = [ruleV (sideR p k false), ruleV (sideR p k true)] := if_pos h
theorem sideV_succ {p : Post} {n k : Nat} (h : k ≠ n) : sideV p (n + 1) k = sideV p n k := by
  unfold sideV
  by_cases e : k < n
  · rw [if_pos e, if_pos (by omega)]
  · rw [if_neg e, if_neg (by omega)]
theorem splice_pair (l r : List Value) (a b c e : Value) (n : Nat) (hn : n = l.length) : splice (l ++ ([a, b] ++ r)) n [c, e] = l ++ ([c, e] ++ r) := by
  subst hn
  unfold splice
  rw [List.take_left, show l.length + [c, e].length = (l ++ [a, b]).length by simp, ← List.append_assoc l [a, b] r, List.drop_left, List.append_assoc]
theorem sidesC_step (p : Post) {k : Nat} (hk : k < 5) : splice (sidesC p k) (0 + k * 2) [ruleV (sideR p k false), ruleV (sideR p k true)] = sidesC p (k + 1) := by
  rcases (show k = 0 ∨ k = 1 ∨ k = 2 ∨ k = 3 ∨ k = 4 by omega) with rfl | rfl | rfl | rfl | rfl <;> rfl
theorem sides_ext (p : Post) (n : Nat) {k : Nat} (hk : k < 5) : (sidesC p n).toArray.extract (k * 2) (k * 2 + 2) = (sideV p n k).toArray := by
  rw [sidesC_eq]
  obtain ⟨a0, b0, e0, _⟩ := sideV_cases p n 0
  obtain ⟨a1, b1, e1, _⟩ := sideV_cases p n 1
  obtain ⟨a2, b2, e2, _⟩ := sideV_cases p n 2
  obtain ⟨a3, b3, e3, _⟩ := sideV_cases p n 3
  obtain ⟨a4, b4, e4, _⟩ := sideV_cases p n 4
  rw [e0, e1, e2, e3, e4]
  rcases (show k = 0 ∨ k = 1 ∨ k = 2 ∨ k = 3 ∨ k = 4 by omega) with rfl | rfl | rfl | rfl | rfl <;> first | (rw [e0]; rfl) | (rw [e1]; rfl) | (rw [e2]; rfl) | (rw [e3]; rfl) | (rw [e4]; rfl)
theorem sides_part (p : Post) (n : Nat) {k : Nat} (hk : k < 5) : ∀ w, (part 89 (sidesC p n).toArray (k * 2)).run Try.prog w = .ok (.agg (sideV p n k).toArray) w := by
  intro w
  simp [part, Try.isAgg89, Try.sizeOf89]
  have := sides_ext p n hk
  simpa using this
theorem sideV_splice (p : Post) (n k : Nat) (a b : Value) : splice [a, b] 0 (sideV p n k) = sideV p n k := by
  obtain ⟨c, e, h, _⟩ := sideV_cases p n k
  rw [h]; rfl
theorem sideV_one (p : Post) (n k : Nat) : ∀ v ∈ sideV p n k, v.oneCell' = true := fun v hv => by
  obtain ⟨c, e, h, h1, h2⟩ := sideV_cases p n k
  rw [h] at hv
  simp only [List.mem_cons, List.mem_nil_iff, or_false] at hv
  rcases hv with rfl | rfl
  · exact h1
  · exact h2
theorem splice_whole (cs vs : List Value) (h : vs.length = cs.length) : splice cs 0 vs = vs := by simp [splice, h]

set_option maxRecDepth 100000 in
set_option maxHeartbeats 1000000 in
theorem sides_g (p : Post) (a1 : Option Addr) (n1 c1 : Nat) (a2 : Option Addr) (n2 c2 : Nat) (q : Nat) (D : Imm) (w : World) (hB : BeachAt D q p (.slice a1 n1 c1) (.slice a2 n2 c2)) (hR : PostR D p a1 n1 a2 n2) (hH : Holds D w) (hv : postB p = true) : Gives Try.prog 61 [pt q] w (.agg (sidesC p p.bathers.length).toArray) := by
  unfold Gives
  obtain rfl := hR.bath.len'
  obtain rfl := hR.claim.len'
  have hl1 := hR.len1
  have hl2 := hR.len2
  have h5 := (post_num hv).2.1
  refine enter Try.func61 rfl 41 Try.ntmps61 (Nat.le_of_ble_eq_true rfl) (Inv.start hH) ?_
  refine WC.seq ?_
  refine WC.ofFr [(0, _)] ⟨rfl, trivial⟩ ?_
  refine WC.region ?_
  refine WL.so (SO.alloc (cs := sidesC p 0) Try.zeroValue91 rfl) rfl ?_
  rintro _ _ _ ⟨b2, hb2, rfl, rfl, rfl⟩
  refine WL.nil ?_
  refine WP.thenC ?_
  refine WC.seq ?_
  refine WC.seq ?_
  refine WC.ofFr [(2, _), (0, _)] ⟨rfl, rfl, trivial⟩ ?_
  refine WC.region ?_
  refine WL.yd (Yd.move rfl) rfl ?_
  refine WL.yd (Yd.nilCheck rfl) rfl ?_
  refine WL.yd (Yd.fieldAddr FA94_0 rfl) rfl ?_
  refine WL.yd (Yd.fieldAddr FA27_1 rfl) rfl ?_
  refine WL.yd (Yd.load1 Try.isAgg24 rfl (by first | exact (Rd.imm hB rfl))) rfl ?_
  refine WL.yd (Yd.lenS rfl Try.underlying24 rfl) rfl ?_
  refine WL.yd (Yd.move rfl) rfl ?_
  refine WL.nil ?_
  refine WP.thenC ?_
  refine WC.block ?_
  refine WC.loop (fun k : Nat => [(2, pt b2), (10, .slice a1 p.bathers.length c1), (11, nt p.bathers.length), (12, nt k)]) (fun k => [(b2, .cells (sidesC p k).toArray 91 (0, 0))]) (fun _ => D) (fun k => k ≤ p.bathers.length) (fun k => p.bathers.length - k) 0 (by omega) (fun a w h => at_fr h ⟨rfl, rfl, rfl, rfl, trivial⟩) ?_
  intro k hk
  refine WC.seq ?_
  refine WC.ofFr [(2, _), (10, _), (11, _), (12, _)] ⟨rfl, rfl, rfl, rfl, trivial⟩ ?_
  refine WC.region ?_
  refine WL.yd (Yd.lss rfl rfl) rfl ?_
  refine WL.nil ?_
  refine WP.thenC ?_
  refine WC.seq ?_
  refine WC.cond rfl (fun c13 => ?_) (fun c13 => ?_)
  · try simp only [zq1, zq2, zq3, zq4, zq5, zq6, zq7, zq8] at c13
    refine WC.skip ?_
    refine WP.thenC ?_
    refine WC.seq ?_
    refine WC.block ?_
    refine WC.seq ?_
    refine WC.ofFr [(2, _), (10, _), (11, _), (12, _)] ⟨rfl, rfl, rfl, rfl, trivial⟩ ?_
    refine WC.region ?_
    refine WL.yd (Yd.move rfl) rfl ?_
    refine WL.yd (Yd.indexS Try.underlying24 Try.sizeOf56 rfl rfl (by omega) (by omega) (by first | exact hR.bath.addr k (by omega))) rfl ?_
    refine WL.yd (Yd.loadN Try.isAgg56 Try.sizeOf56 rfl (vs := [_, _, _]) rfl (by first | exact RdN.own (k := 0) (n := 3) rfl rfl | exact (hR.bath.at k (by omega)).rdn 0 3 rfl)) rfl ?_
    refine WL.so (SO.alloc Try.zeroValue56 rfl) rfl ?_
    rintro _ _ _ ⟨b4, hb4, rfl, rfl, rfl⟩ -- NEW
    refine WL.yd (Yd.assign rfl) rfl ?_
    refine WL.so (SO.store 0 rfl Try.sizeOf56 rfl rfl rfl rfl (Nat.le_of_ble_eq_true rfl) (oneB_spec rfl)) rfl ?_
    rintro _ _ _ ⟨rfl, rfl, rfl⟩
    refine WL.nil ?_
    refine WP.thenC ?_
    refine WC.seq ?_
    refine WC.ofFr [(3, _), (4, _), (2, _), (10, _), (11, _), (12, _)] ⟨rfl, rfl, rfl, rfl, rfl, rfl, trivial⟩ ?_
    refine WC.region ?_
    refine WL.yd (Yd.move rfl) rfl ?_
    refine WL.yd (Yd.build SA79 rfl (cs := [_, _]) rfl) rfl ?_
    refine WL.yd (Yd.build SA130 rfl (cs := [_, _]) rfl) rfl ?_
    refine WL.yd (Yd.build SA132 rfl (cs := [_, _]) rfl) rfl ?_
    refine WL.yd (Yd.iface Try.underlying132 (by intro _ h; cases h) rfl) rfl ?_
    refine WL.yd (Yd.move rfl) rfl ?_
    refine WL.yd (Yd.build SA79 rfl (cs := [_, _]) rfl) rfl ?_
    refine WL.yd (Yd.build SA130 rfl (cs := [_, _]) rfl) rfl ?_
    refine WL.yd (Yd.iface Try.underlying130 (by intro _ h; cases h) rfl) rfl ?_
    refine WL.yd (Yd.buildA (zs := [.nilIface, .nilIface]) ⟨_, Try.zeroValue89, rfl⟩ Try.underlying89 Try.sizeOf88 rfl (cs := [_, _]) rfl) rfl ?_
    refine WL.so (SO.alloc Try.zeroValue89 rfl) rfl ?_
    rintro _ _ _ ⟨b5, hb5, rfl, rfl, rfl⟩ -- NEW
    refine WL.so (SO.store 0 rfl Try.sizeOf89 rfl rfl rfl rfl (Nat.le_of_ble_eq_true rfl) (oneB_spec rfl)) rfl ?_
    rintro _ _ _ ⟨rfl, rfl, rfl⟩
    refine WL.nil ?_
    refine WP.thenC ?_
    refine WC.seq ?_
    refine WC.seq ?_
    refine WC.ofFr [(5, _), (3, _), (4, _), (2, _), (10, _), (11, _), (12, _)] ⟨rfl, rfl, rfl, rfl, rfl, rfl, rfl, trivial⟩ ?_
    refine WC.region ?_
    refine WL.yd (Yd.fieldAddr FA56_0 rfl) rfl ?_
    refine WL.yd (Yd.load1 Try.isAgg4 rfl (by first | exact Rd.own (k := 0) rfl rfl | exact Rd.own (k := 1) rfl rfl | exact Rd.own (k := 2) rfl rfl | exact (Rd.imm hB rfl))) rfl ?_
    refine WL.yd (Yd.not rfl) rfl ?_
    refine WL.nil ?_
    refine WP.thenC ?_
    refine WC.cond rfl (fun c29 => ?_) (fun c29 => ?_)
    · try simp only [zq1, zq2, zq3, zq4, zq5, zq6, zq7, zq8] at c29
      have hlad : (gt p.bathers k).lady = false := c29
      refine WC.ofFr [(5, _), (3, _), (2, _), (10, _), (11, _), (12, _)] ⟨rfl, rfl, rfl, rfl, rfl, rfl, trivial⟩ ?_
      refine WC.region ?_
      refine WL.yd (Yd.indexA Try.underlying89 Try.sizeOf88 rfl rfl (by omega) (by omega)) rfl ?_
      refine WL.yd (Yd.load1 Try.isAgg88 rfl (by first | exact Rd.own (k := 0) rfl rfl | exact Rd.own (k := 1) rfl rfl | exact Rd.own (k := 2) rfl rfl | exact (Rd.imm hB rfl))) rfl ?_
      refine WL.yd (Yd.indexA Try.underlying89 Try.sizeOf88 rfl rfl (by omega) (by omega)) rfl ?_
      refine WL.yd (Yd.load1 Try.isAgg88 rfl (by first | exact Rd.own (k := 0) rfl rfl | exact Rd.own (k := 1) rfl rfl | exact Rd.own (k := 2) rfl rfl | exact (Rd.imm hB rfl))) rfl ?_
      refine WL.yd (Yd.indexA Try.underlying89 Try.sizeOf88 rfl rfl (by omega) (by omega)) rfl ?_
      refine WL.so (SO.store 0 rfl Try.sizeOf88 rfl rfl rfl rfl (Nat.le_of_ble_eq_true rfl) (oneB_spec rfl)) rfl ?_
      rintro _ _ _ ⟨rfl, rfl, rfl⟩
      refine WL.yd (Yd.indexA Try.underlying89 Try.sizeOf88 rfl rfl (by omega) (by omega)) rfl ?_
      refine WL.so (SO.store 0 rfl Try.sizeOf88 rfl rfl rfl rfl (Nat.le_of_ble_eq_true rfl) (oneB_spec rfl)) rfl ?_
      rintro _ _ _ ⟨rfl, rfl, rfl⟩
      refine WL.nil ?_
      refine WP.thenC ?_
      refine WC.ofFr [(5, _), (3, _), (2, _), (10, _), (11, _), (12, _)] ⟨rfl, rfl, rfl, rfl, rfl, rfl, trivial⟩ ?_
      refine WC.region ?_
      refine WL.yd (Yd.move rfl) rfl ?_
      refine WL.yd (Yd.loadN Try.isAgg89 Try.sizeOf89 rfl (vs := [_, _]) rfl (by first | exact RdN.own (k := 0) (n := 2) rfl rfl | exact RdN.own (k := 1) (n := 2) rfl rfl | exact RdN.own (k := 2) (n := 2) rfl rfl | exact (hR.bath.at k (by omega)).rdn 0 3 rfl)) rfl ?_
      refine WL.yd (Yd.indexA Try.underlying91 Try.sizeOf89 rfl rfl (by omega) (by omega)) rfl ?_
      refine WL.so (SO.store 2 rfl Try.sizeOf89 rfl rfl rfl rfl (by show 0 + k * 2 + 2 ≤ _; rw [sidesC_len]; omega) (oneB_spec rfl)) rfl ?_
      rintro _ _ _ ⟨rfl, rfl, rfl⟩
      refine WL.nil ?_
      refine WP.blkNormal ?_
      refine WP.thenC ?_
      refine WC.ofFr [(2, _), (10, _), (11, _), (12, _)] ⟨rfl, rfl, rfl, rfl, trivial⟩ ?_
      refine WC.region ?_
      refine WL.yd (Yd.add rfl rfl (wr64 ⟨by omega, by omega⟩)) rfl ?_
      refine WL.yd (Yd.move rfl) rfl ?_
      refine WL.nil ?_
      have hs1 : sidesC p (k + 1) = splice (sidesC p k) (0 + k * 2) [ruleV (sideR p k false), ruleV (sideR p k true)] := (sidesC_step p (by omega)).symm
      have hs2 : sideR p k false = (if (gt p.bathers k).lady = false then ⟨false, -1, (k : Int)⟩ else ⟨true, (k : Int), -1⟩) := rfl
      have hs3 : sideR p k true = (if (gt p.bathers k).lady = true then ⟨false, -1, (k : Int)⟩ else ⟨true, (k : Int), -1⟩) := rfl
      refine WP.again (k + 1) (by omega) (by omega) (fun aa ww h => ?_)
      rw [hs1, hs2, hs3, hlad]
      exact at_less h ⟨rfl, rfl, rfl, rfl, trivial⟩ (fun e he => by rw [List.mem_singleton.1 he]; exact List.mem_cons_of_mem _ (List.mem_cons_of_mem _ (List.mem_cons_self ..))) (fun _ => by simp)
    · try simp only [zq1, zq2, zq3, zq4, zq5, zq6, zq7, zq8] at c29
      have hlad : (gt p.bathers k).lady = true := c29
      refine WC.skip ?_
      refine WP.thenC ?_
      refine WC.ofFr [(5, _), (3, _), (2, _), (10, _), (11, _), (12, _)] ⟨rfl, rfl, rfl, rfl, rfl, rfl, trivial⟩ ?_
      refine WC.region ?_
      refine WL.yd (Yd.move rfl) rfl ?_
      refine WL.yd (Yd.loadN Try.isAgg89 Try.sizeOf89 rfl (vs := [_, _]) rfl (by first | exact RdN.own (k := 0) (n := 2) rfl rfl | exact RdN.own (k := 1) (n := 2) rfl rfl | exact RdN.own (k := 2) (n := 2) rfl rfl | exact (hR.bath.at k (by omega)).rdn 0 3 rfl)) rfl ?_
      refine WL.yd (Yd.indexA Try.underlying91 Try.sizeOf89 rfl rfl (by omega) (by omega)) rfl ?_
      refine WL.so (SO.store 2 rfl Try.sizeOf89 rfl rfl rfl rfl (by show 0 + k * 2 + 2 ≤ _; rw [sidesC_len]; omega) (oneB_spec rfl)) rfl ?_
      rintro _ _ _ ⟨rfl, rfl, rfl⟩
      refine WL.nil ?_
      refine WP.blkNormal ?_
      refine WP.thenC ?_
      refine WC.ofFr [(2, _), (10, _), (11, _), (12, _)] ⟨rfl, rfl, rfl, rfl, trivial⟩ ?_
      refine WC.region ?_
      refine WL.yd (Yd.add rfl rfl (wr64 ⟨by omega, by omega⟩)) rfl ?_
      refine WL.yd (Yd.move rfl) rfl ?_
      refine WL.nil ?_
      have hs1 : sidesC p (k + 1) = splice (sidesC p k) (0 + k * 2) [ruleV (sideR p k false), ruleV (sideR p k true)] := (sidesC_step p (by omega)).symm
      have hs2 : sideR p k false = (if (gt p.bathers k).lady = false then ⟨false, -1, (k : Int)⟩ else ⟨true, (k : Int), -1⟩) := rfl
      have hs3 : sideR p k true = (if (gt p.bathers k).lady = true then ⟨false, -1, (k : Int)⟩ else ⟨true, (k : Int), -1⟩) := rfl
      refine WP.again (k + 1) (by omega) (by omega) (fun aa ww h => ?_)
      rw [hs1, hs2, hs3, hlad]
      exact at_less h ⟨rfl, rfl, rfl, rfl, trivial⟩ (fun e he => by rw [List.mem_singleton.1 he]; exact List.mem_cons_of_mem _ (List.mem_cons_of_mem _ (List.mem_cons_self ..))) (fun _ => by simp)
  · try simp only [zq1, zq2, zq3, zq4, zq5, zq6, zq7, zq8] at c13
    refine WC.exit ?_
    refine WP.thenExit ?_
    refine WP.thenExit ?_
    refine WP.blkHit ?_
    refine WP.thenC ?_
    refine WC.seq ?_
    refine WC.ofFr [(2, _)] ⟨rfl, trivial⟩ ?_
    refine WC.region ?_
    refine WL.yd (Yd.loadN Try.isAgg91 Try.sizeOf91 rfl (vs := sidesC p k) (sidesC_len p k) (RdN.own (k := 0) (n := 10) rfl (by unfold slc; rw [List.drop_zero, List.take_of_length_le (by rw [sidesC_len]; omega)]))) rfl ?_
    refine WL.so (SO.store 0 rfl Try.sizeOf91 rfl rfl rfl (sidesC_len p k) (by rw [sidesC_len]; omega) (sidesC_one p k)) rfl ?_
    rintro _ _ _ ⟨rfl, rfl, rfl⟩
    rw [splice_whole _ _ rfl]
    refine WL.nil ?_
    refine WP.thenC ?_
    refine WC.ret ?_
    refine WP.ret1 rfl rfl Try.results61 (RV.cellN Try.isAgg91 Try.sizeOf91 rfl (vs := sidesC p k) (sidesC_len p k) (RdN.own (k := 0) (n := 10) rfl (by unfold slc; rw [List.drop_zero, List.take_of_length_le (by rw [sidesC_len]; omega)]))) (fun w hI => ⟨by rw [show k = p.bathers.length from by omega], hI.keep⟩)

end Go.Proofs.Ytkhmmefgllbobaa
