import Derived.Test.YtkhmmefgllbobaaXK
set_option linter.unusedSimpArgs false
set_option linter.unusedVariables false
set_option linter.all false
namespace Go.Proofs.Ytkhmmefgllbobaa
open Go.W Go.Po
theorem FA42_0 : FieldAt Try.prog 42 0 0 := FieldAt.mk (t := 3) (off := 0) Try.underlying42 rfl Try.sizeOf3 (by decide)
theorem FA42_1 : FieldAt Try.prog 42 1 1 := FieldAt.mk (t := 3) (off := 1) Try.underlying42 rfl Try.sizeOf3 (by decide)
theorem FA42_2 : FieldAt Try.prog 42 2 2 := FieldAt.mk (t := 3) (off := 2) Try.underlying42 rfl Try.sizeOf3 (by decide)
theorem SA42 : StructAt Try.prog 42 [.int .i64 0, .int .i64 0, .int .i64 0] [(0, 1), (1, 1), (2, 1)] := ⟨⟨_, Try.zeroValue42, rfl⟩, _, Try.underlying42, fun w => by simp [Try.sizeOf3]⟩
def trL : List (Int × Int × Int) := [(0, 5, 11), (2, 10, 12), (-1, 10, 12)]
def trC (x : Int × Int × Int) : List Value := [it x.1, it x.2.1, it x.2.2]
theorem tr_place {k : Nat} (hk : k < 3) : PlaceOut (sampP []) (gt trL k).1 = (⟨(gt trL k).2.1, (gt trL k).2.2⟩, 0) := by
  rcases (show k = 0 ∨ k = 1 ∨ k = 2 by omega) with rfl | rfl | rfl <;> kernel_rfl
theorem an1 : BeforeOut (sampP []) (-1) 0 = (0, 0) := by kernel_rfl
theorem an2 : NearOut (sampP []) 1 2 = (⟨1, 3⟩, 0) := by kernel_rfl
theorem an3 : FalseOut (sampP []) = (0, 0, 0) := by kernel_rfl
theorem an4 : (ClashOut (sampP [])).2 = 4 := by kernel_rfl
theorem an5 : (KeptOut (sampP [⟨2, 1, false⟩])).2 = 10 := by kernel_rfl

set_option maxRecDepth 100000 in
set_option maxHeartbeats 1000000 in
theorem names_g (D : Imm) (w : World) (hH : Holds D w) : Gives Try.prog 5 [] w (.bool true) := by
  unfold Gives
  refine enter Try.func5 rfl 112 Try.ntmps5 (Nat.le_of_ble_eq_true rfl) (Inv.start hH) ?_
  refine WC.seq ?_
  refine WC.ofFr [] trivial ?_
  refine WC.region ?_
  refine WL.yd (Yd.assign rfl) rfl ?_
  refine WL.nil ?_
  refine WP.thenC ?_
  refine WC.seq ?_
  refine WC.seq ?_
  refine WC.ofFr [(0, _)] ⟨rfl, trivial⟩ ?_
  refine WC.region ?_
  refine WL.yd (Yd.build SA42 rfl (cs := [_, _, _]) rfl) rfl ?_
  refine WL.yd (Yd.build SA42 rfl (cs := [_, _, _]) rfl) rfl ?_
  refine WL.yd (Yd.build SA42 rfl (cs := [_, _, _]) rfl) rfl ?_
  refine WL.so (SO.buildSlice Try.underlying43 Try.sizeOf42 Try.zeroValue42 rfl rfl rfl rfl (cs := [_, _, _, _, _, _, _, _, _]) rfl) rfl ?_
  rintro _ _ _ ⟨b19, hb19, rfl, rfl, rfl⟩ -- NEW
  refine WL.yd (Yd.lenS rfl Try.underlying43 rfl) rfl ?_
  refine WL.yd (Yd.move rfl) rfl ?_
  refine WL.nil ?_
  refine WP.thenC ?_
  refine WC.block ?_
  refine WC.freezeK 0 rfl (fun hn19 => ?_)
  have hS : SlL (D.add b19 _) 3 (trL.map trC) (some ⟨b19, 0, none⟩) 3 := SlL.ofBlock (f := trC) (m := 3) (t := 42) (fz := (0, 0)) (l := trL) (rest := []) (fun _ => rfl) (Imm.add_self _ _ _)
  refine WC.loop (fun y : Nat × Imm => [(19, .slice (some ⟨b19, 0, none⟩) 3 3), (20, nt 3), (21, nt y.1)]) (fun _ => []) (fun y => y.2) (fun y => y.1 ≤ 3 ∧ SlL y.2 3 (trL.map trC) (some ⟨b19, 0, none⟩) 3) (fun y => 3 - y.1) (0, _) ⟨by omega, hS⟩ (fun a w h => at_fr h ⟨rfl, rfl, rfl, trivial⟩) ?_
  clear hS
  rintro ⟨k, D1⟩ ⟨hk, hS⟩
  dsimp only at hk hS
  refine WC.seq ?_
  refine WC.ofFr [(19, _), (20, _), (21, _)] ⟨rfl, rfl, rfl, trivial⟩ ?_
  refine WC.region ?_
  refine WL.yd (Yd.lss rfl rfl) rfl ?_
  refine WL.nil ?_
  refine WP.thenC ?_
  refine WC.seq ?_
  refine WC.cond rfl (fun c22 => ?_) (fun c22 => ?_)
  · try simp only [zq1, zq2, zq3, zq4, zq5, zq6, zq7, zq8] at c22
    have hk3 : k < 3 := by omega
    refine WC.skip ?_
    refine WP.thenC ?_
    refine WC.seq ?_
    refine WC.block ?_
    refine WC.seq ?_
    refine WC.ofFr [(19, _), (20, _), (21, _)] ⟨rfl, rfl, rfl, trivial⟩ ?_
    refine WC.region ?_
    refine WL.yd (Yd.indexS Try.underlying43 Try.sizeOf42 rfl rfl (by omega) (by omega) (by first | exact hS.addr k (by omega))) rfl ?_
    refine WL.yd (Yd.loadN Try.isAgg42 Try.sizeOf42 rfl (vs := [_, _, _]) rfl (by first | exact (hS.at k (by omega)).rdn 0 3 rfl)) rfl ?_
    refine WL.so (SO.alloc Try.zeroValue42 rfl) rfl ?_
    rintro _ _ _ ⟨b2, hb2, rfl, rfl, rfl⟩ -- NEW
    refine WL.so (SO.store 0 rfl Try.sizeOf42 rfl rfl rfl rfl (Nat.le_of_ble_eq_true rfl) (oneB_spec rfl)) rfl ?_
    rintro _ _ _ ⟨rfl, rfl, rfl⟩
    refine WL.nil ?_
    refine WP.thenC ?_
    refine WC.seq ?_
    refine WC.ofFr [(2, _), (19, _), (20, _), (21, _)] ⟨rfl, rfl, rfl, rfl, trivial⟩ ?_
    refine WC.drawH [_] (by kernel_rfl) (fun _ hI => hI) ?_
    refine WH.yd (i := 1) (by kernel_rfl) (fun _ o v c a w _ h => (QuietPanic.then (QuietPanic.blk (QuietPanic.then (QuietPanic.then (QuietPanic.blk (QuietPanic.then QuietPanic.body)))))) c o.dst v a w h) rfl (Yd.fieldAddr FA42_0 rfl) rfl ?_
    refine WH.yd (i := 2) (by kernel_rfl) (fun _ o v c a w _ h => (QuietPanic.then (QuietPanic.blk (QuietPanic.then (QuietPanic.then (QuietPanic.blk (QuietPanic.then QuietPanic.body)))))) c o.dst v a w h) rfl (Yd.load1 Try.isAgg3 rfl (by first | exact Rd.own (k := 0) rfl rfl)) rfl ?_
    refine WH.two (i := 0) (j := 7) (by kernel_rfl) ?_ ?_
    · refine WHo.so rfl (SO.makes (Enters.func Try.call31 rfl) (fun w hI => sample_g [] none 0 0 _ w ⟨rfl, fun i r hr => by simp at hr⟩ (fun _ => rfl) (by decide) hI.imm)) rfl ?_
      rintro _ D11 _ ⟨hX11, ⟨a1_11, c1_11, a2_11, c2_11, rfl, hR11⟩, rfl⟩
      have hS := hS.ext hX11
      refine ⟨(fun _ hI => hI.shrink hX11.old), ?_⟩
      refine WH.two (i := 3) (j := 7) (by kernel_rfl) ?_ ?_
      · refine WHo.so rfl (SO.callP Try.call15 rfl (fun w hI => Gives.cv (.tuple #[.agg #[it (gt trL k).2.1, it (gt trL k).2.2], it 0]) (Place_g (sampP []) a1_11 _ c1_11 a2_11 _ c2_11 _ w hR11 hI.imm (gt trL k).1) (by rw [tr_place hk3]))) rfl ?_
        rintro _ _ _ ⟨rfl, rfl, rfl⟩
        refine ⟨(fun _ hI => hI.shrink hX11.old), ?_⟩
        refine WH.yd (i := 4) (by kernel_rfl) (fun _ o v c a w _ h => (QuietPanic.then (QuietPanic.blk (QuietPanic.then (QuietPanic.then (QuietPanic.blk (QuietPanic.then QuietPanic.body)))))) c o.dst v a w h) rfl (Yd.move rfl) rfl ?_
        refine WH.yd (i := 5) (by kernel_rfl) (fun _ o v c a w _ h => (QuietPanic.then (QuietPanic.blk (QuietPanic.then (QuietPanic.then (QuietPanic.blk (QuietPanic.then QuietPanic.body)))))) c o.dst v a w h) rfl (Yd.extract rfl rfl) rfl ?_
        refine WH.yd (i := 6) (by kernel_rfl) (fun _ o v c a w _ h => (QuietPanic.then (QuietPanic.blk (QuietPanic.then (QuietPanic.then (QuietPanic.blk (QuietPanic.then QuietPanic.body)))))) c o.dst v a w h) rfl (Yd.extract rfl rfl) rfl ?_
        refine WH.one (i := 7) (by kernel_rfl) (WHo.so rfl (SO.alloc Try.zeroValue23 rfl) rfl ?_)
        rintro _ _ _ ⟨b3, hb3, rfl, rfl, rfl⟩ -- NEW
        refine ⟨(fun _ hI => (hI.drop 1).shrink hX11.old), ?_⟩
        refine WH.one (i := 8) (by kernel_rfl) (WHo.so rfl (SO.store 0 rfl Try.sizeOf23 rfl rfl rfl rfl (Nat.le_of_ble_eq_true rfl) (oneB_spec rfl)) rfl ?_)
        rintro _ _ _ ⟨rfl, rfl, rfl⟩
        refine ⟨(fun _ hI => (hI.drop 1).shrink hX11.old), ?_⟩
        refine WH.yd (i := 9) (by kernel_rfl) (fun _ o v c a w _ h => (QuietPanic.then (QuietPanic.blk (QuietPanic.then (QuietPanic.then (QuietPanic.blk (QuietPanic.then QuietPanic.body)))))) c o.dst v a w h) rfl (Yd.assign rfl) rfl ?_
        refine WH.nil (by kernel_rfl) ?_
        refine WP.thenC ?_
        refine WC.seq ?_
        refine WC.ofFr [(4, _), (3, _), (2, _), (19, _), (20, _), (21, _)] ⟨rfl, rfl, rfl, rfl, rfl, rfl, trivial⟩ ?_
        refine WC.tail 6 [0, 1, 2, 3, 4, 5] rfl (by kernel_rfl) (by kernel_rfl)  ?_
        refine WQ.q rfl (Yd.qt (Yd.loadN Try.isAgg23 Try.sizeOf23 rfl (vs := [_, _]) rfl (by first | exact RdN.own (k := 0) (n := 2) rfl rfl | exact RdN.own (k := 1) (n := 2) rfl rfl | exact (hS.at k (by omega)).rdn 0 3 rfl))) rfl ?_
        refine WQ.q rfl (Yd.qt (Yd.fieldAddr FA42_1 rfl)) rfl ?_
        refine WQ.q rfl (Yd.qt (Yd.load1 Try.isAgg3 rfl (by first | exact Rd.own (k := 0) rfl rfl | exact Rd.own (k := 1) rfl rfl))) rfl ?_
        refine WQ.q rfl (Yd.qt (Yd.fieldAddr FA42_2 rfl)) rfl ?_
        refine WQ.q rfl (Yd.qt (Yd.load1 Try.isAgg3 rfl (by first | exact Rd.own (k := 0) rfl rfl | exact Rd.own (k := 1) rfl rfl))) rfl ?_
        refine WQ.q rfl (Qt.callP Try.call32 rfl (fun w hI => lspan_g _ _ _)) rfl ?_
        refine WQ.tail ?_
        refine WL.yd (Yd.neS Try.eqGuardType23 (eq23 _ _ _ _) rfl rfl) rfl ?_
        refine WL.know 38 (.bool false) rfl (congrArg Value.bool (by simp)) ?_
        refine WL.yd (Yd.move rfl) rfl ?_
        refine WL.ydg rfl (Yd.move rfl) rfl ?_
        refine WL.ydg rfl (Yd.neq rfl rfl) rfl ?_
        refine WL.know 41 (.bool false) rfl (congrArg Value.bool (by decide)) ?_
        refine WL.yd (Yd.pickF rfl rfl) rfl ?_
        refine WL.nil ?_
        refine WP.thenC ?_
        refine WC.condF rfl ?_
        refine WC.skip ?_
        refine WP.blkNormal ?_
        refine WP.thenC ?_
        refine WC.ofFr [(19, _), (20, _), (21, _)] ⟨rfl, rfl, rfl, trivial⟩ ?_
        refine WC.region ?_
        refine WL.yd (Yd.add rfl rfl (wr64 ⟨by omega, by omega⟩)) rfl ?_
        refine WL.yd (Yd.move rfl) rfl ?_
        refine WL.nil ?_
        refine WP.again (⟨k + 1, _⟩ : Nat × Imm) ⟨by simp only; omega, hS⟩ (by simp only; omega) (fun aa ww h => at_less h ⟨rfl, rfl, rfl, trivial⟩ (fun _ h => by cases h) (fun _ => by simp))
      · refine WHo.so rfl (SO.alloc Try.zeroValue23 rfl) rfl ?_
        rintro _ _ _ ⟨b3, hb3, rfl, rfl, rfl⟩ -- NEW
        refine ⟨(fun _ hI => (hI.drop 1).shrink hX11.old), ?_⟩
        refine WH.one (i := 3) (by kernel_rfl) (WHo.so rfl (SO.callP Try.call15 rfl (fun w hI => Gives.cv (.tuple #[.agg #[it (gt trL k).2.1, it (gt trL k).2.2], it 0]) (Place_g (sampP []) a1_11 _ c1_11 a2_11 _ c2_11 _ w hR11 hI.imm (gt trL k).1) (by rw [tr_place hk3]))) rfl ?_)
        rintro _ _ _ ⟨rfl, rfl, rfl⟩
        refine ⟨(fun _ hI => (hI.drop 1).shrink hX11.old), ?_⟩
        refine WH.yd (i := 4) (by kernel_rfl) (fun _ o v c a w _ h => (QuietPanic.then (QuietPanic.blk (QuietPanic.then (QuietPanic.then (QuietPanic.blk (QuietPanic.then QuietPanic.body)))))) c o.dst v a w h) rfl (Yd.move rfl) rfl ?_
        refine WH.yd (i := 5) (by kernel_rfl) (fun _ o v c a w _ h => (QuietPanic.then (QuietPanic.blk (QuietPanic.then (QuietPanic.then (QuietPanic.blk (QuietPanic.then QuietPanic.body)))))) c o.dst v a w h) rfl (Yd.extract rfl rfl) rfl ?_
        refine WH.yd (i := 6) (by kernel_rfl) (fun _ o v c a w _ h => (QuietPanic.then (QuietPanic.blk (QuietPanic.then (QuietPanic.then (QuietPanic.blk (QuietPanic.then QuietPanic.body)))))) c o.dst v a w h) rfl (Yd.extract rfl rfl) rfl ?_
        refine WH.one (i := 8) (by kernel_rfl) (WHo.so rfl (SO.store 0 rfl Try.sizeOf23 rfl rfl rfl rfl (Nat.le_of_ble_eq_true rfl) (oneB_spec rfl)) rfl ?_)
        rintro _ _ _ ⟨rfl, rfl, rfl⟩
        refine ⟨(fun _ hI => (hI.drop 1).shrink hX11.old), ?_⟩
        refine WH.yd (i := 9) (by kernel_rfl) (fun _ o v c a w _ h => (QuietPanic.then (QuietPanic.blk (QuietPanic.then (QuietPanic.then (QuietPanic.blk (QuietPanic.then QuietPanic.body)))))) c o.dst v a w h) rfl (Yd.assign rfl) rfl ?_
        refine WH.nil (by kernel_rfl) ?_
        refine WP.thenC ?_
        refine WC.seq ?_
        refine WC.ofFr [(4, _), (3, _), (2, _), (19, _), (20, _), (21, _)] ⟨rfl, rfl, rfl, rfl, rfl, rfl, trivial⟩ ?_
        refine WC.tail 6 [0, 1, 2, 3, 4, 5] rfl (by kernel_rfl) (by kernel_rfl)  ?_
        refine WQ.q rfl (Yd.qt (Yd.loadN Try.isAgg23 Try.sizeOf23 rfl (vs := [_, _]) rfl (by first | exact RdN.own (k := 0) (n := 2) rfl rfl | exact RdN.own (k := 1) (n := 2) rfl rfl | exact (hS.at k (by omega)).rdn 0 3 rfl))) rfl ?_
        refine WQ.q rfl (Yd.qt (Yd.fieldAddr FA42_1 rfl)) rfl ?_
        refine WQ.q rfl (Yd.qt (Yd.load1 Try.isAgg3 rfl (by first | exact Rd.own (k := 0) rfl rfl | exact Rd.own (k := 1) rfl rfl))) rfl ?_
        refine WQ.q rfl (Yd.qt (Yd.fieldAddr FA42_2 rfl)) rfl ?_
        refine WQ.q rfl (Yd.qt (Yd.load1 Try.isAgg3 rfl (by first | exact Rd.own (k := 0) rfl rfl | exact Rd.own (k := 1) rfl rfl))) rfl ?_
        refine WQ.q rfl (Qt.callP Try.call32 rfl (fun w hI => lspan_g _ _ _)) rfl ?_
        refine WQ.tail ?_
        refine WL.yd (Yd.neS Try.eqGuardType23 (eq23 _ _ _ _) rfl rfl) rfl ?_
        refine WL.know 38 (.bool false) rfl (congrArg Value.bool (by simp)) ?_
        refine WL.yd (Yd.move rfl) rfl ?_
        refine WL.ydg rfl (Yd.move rfl) rfl ?_
        refine WL.ydg rfl (Yd.neq rfl rfl) rfl ?_
        refine WL.know 41 (.bool false) rfl (congrArg Value.bool (by decide)) ?_
        refine WL.yd (Yd.pickF rfl rfl) rfl ?_
        refine WL.nil ?_
        refine WP.thenC ?_
        refine WC.condF rfl ?_
        refine WC.skip ?_
        refine WP.blkNormal ?_
        refine WP.thenC ?_
        refine WC.ofFr [(19, _), (20, _), (21, _)] ⟨rfl, rfl, rfl, trivial⟩ ?_
        refine WC.region ?_
        refine WL.yd (Yd.add rfl rfl (wr64 ⟨by omega, by omega⟩)) rfl ?_
        refine WL.yd (Yd.move rfl) rfl ?_
        refine WL.nil ?_
        refine WP.again (⟨k + 1, _⟩ : Nat × Imm) ⟨by simp only; omega, hS⟩ (by simp only; omega) (fun aa ww h => at_less h ⟨rfl, rfl, rfl, trivial⟩ (fun _ h => by cases h) (fun _ => by simp))
    · refine WHo.so rfl (SO.alloc Try.zeroValue23 rfl) rfl ?_
      rintro _ _ _ ⟨b3, hb3, rfl, rfl, rfl⟩ -- NEW
      refine ⟨(fun _ hI => (hI.drop 1)), ?_⟩
      refine WH.one (i := 0) (by kernel_rfl) (WHo.so rfl (SO.makes (Enters.func Try.call31 rfl) (fun w hI => sample_g [] none 0 0 _ w ⟨rfl, fun i r hr => by simp at hr⟩ (fun _ => rfl) (by decide) hI.imm)) rfl ?_)
      rintro _ D11 _ ⟨hX11, ⟨a1_11, c1_11, a2_11, c2_11, rfl, hR11⟩, rfl⟩
      have hS := hS.ext hX11
      refine ⟨(fun _ hI => (hI.drop 1).shrink hX11.old), ?_⟩
      refine WH.one (i := 3) (by kernel_rfl) (WHo.so rfl (SO.callP Try.call15 rfl (fun w hI => Gives.cv (.tuple #[.agg #[it (gt trL k).2.1, it (gt trL k).2.2], it 0]) (Place_g (sampP []) a1_11 _ c1_11 a2_11 _ c2_11 _ w hR11 hI.imm (gt trL k).1) (by rw [tr_place hk3]))) rfl ?_)
      rintro _ _ _ ⟨rfl, rfl, rfl⟩
      refine ⟨(fun _ hI => (hI.drop 1).shrink hX11.old), ?_⟩
      refine WH.yd (i := 4) (by kernel_rfl) (fun _ o v c a w _ h => (QuietPanic.then (QuietPanic.blk (QuietPanic.then (QuietPanic.then (QuietPanic.blk (QuietPanic.then QuietPanic.body)))))) c o.dst v a w h) rfl (Yd.move rfl) rfl ?_
      refine WH.yd (i := 5) (by kernel_rfl) (fun _ o v c a w _ h => (QuietPanic.then (QuietPanic.blk (QuietPanic.then (QuietPanic.then (QuietPanic.blk (QuietPanic.then QuietPanic.body)))))) c o.dst v a w h) rfl (Yd.extract rfl rfl) rfl ?_
      refine WH.yd (i := 6) (by kernel_rfl) (fun _ o v c a w _ h => (QuietPanic.then (QuietPanic.blk (QuietPanic.then (QuietPanic.then (QuietPanic.blk (QuietPanic.then QuietPanic.body)))))) c o.dst v a w h) rfl (Yd.extract rfl rfl) rfl ?_
      refine WH.one (i := 8) (by kernel_rfl) (WHo.so rfl (SO.store 0 rfl Try.sizeOf23 rfl rfl rfl rfl (Nat.le_of_ble_eq_true rfl) (oneB_spec rfl)) rfl ?_)
      rintro _ _ _ ⟨rfl, rfl, rfl⟩
      refine ⟨(fun _ hI => (hI.drop 1).shrink hX11.old), ?_⟩
      refine WH.yd (i := 9) (by kernel_rfl) (fun _ o v c a w _ h => (QuietPanic.then (QuietPanic.blk (QuietPanic.then (QuietPanic.then (QuietPanic.blk (QuietPanic.then QuietPanic.body)))))) c o.dst v a w h) rfl (Yd.assign rfl) rfl ?_
      refine WH.nil (by kernel_rfl) ?_
      refine WP.thenC ?_
      refine WC.seq ?_
      refine WC.ofFr [(4, _), (3, _), (2, _), (19, _), (20, _), (21, _)] ⟨rfl, rfl, rfl, rfl, rfl, rfl, trivial⟩ ?_
      refine WC.tail 6 [0, 1, 2, 3, 4, 5] rfl (by kernel_rfl) (by kernel_rfl)  ?_
      refine WQ.q rfl (Yd.qt (Yd.loadN Try.isAgg23 Try.sizeOf23 rfl (vs := [_, _]) rfl (by first | exact RdN.own (k := 0) (n := 2) rfl rfl | exact RdN.own (k := 1) (n := 2) rfl rfl | exact (hS.at k (by omega)).rdn 0 3 rfl))) rfl ?_
      refine WQ.q rfl (Yd.qt (Yd.fieldAddr FA42_1 rfl)) rfl ?_
      refine WQ.q rfl (Yd.qt (Yd.load1 Try.isAgg3 rfl (by first | exact Rd.own (k := 0) rfl rfl | exact Rd.own (k := 1) rfl rfl))) rfl ?_
      refine WQ.q rfl (Yd.qt (Yd.fieldAddr FA42_2 rfl)) rfl ?_
      refine WQ.q rfl (Yd.qt (Yd.load1 Try.isAgg3 rfl (by first | exact Rd.own (k := 0) rfl rfl | exact Rd.own (k := 1) rfl rfl))) rfl ?_
      refine WQ.q rfl (Qt.callP Try.call32 rfl (fun w hI => lspan_g _ _ _)) rfl ?_
      refine WQ.tail ?_
      refine WL.yd (Yd.neS Try.eqGuardType23 (eq23 _ _ _ _) rfl rfl) rfl ?_
      refine WL.know 38 (.bool false) rfl (congrArg Value.bool (by simp)) ?_
      refine WL.yd (Yd.move rfl) rfl ?_
      refine WL.ydg rfl (Yd.move rfl) rfl ?_
      refine WL.ydg rfl (Yd.neq rfl rfl) rfl ?_
      refine WL.know 41 (.bool false) rfl (congrArg Value.bool (by decide)) ?_
      refine WL.yd (Yd.pickF rfl rfl) rfl ?_
      refine WL.nil ?_
      refine WP.thenC ?_
      refine WC.condF rfl ?_
      refine WC.skip ?_
      refine WP.blkNormal ?_
      refine WP.thenC ?_
      refine WC.ofFr [(19, _), (20, _), (21, _)] ⟨rfl, rfl, rfl, trivial⟩ ?_
      refine WC.region ?_
      refine WL.yd (Yd.add rfl rfl (wr64 ⟨by omega, by omega⟩)) rfl ?_
      refine WL.yd (Yd.move rfl) rfl ?_
      refine WL.nil ?_
      refine WP.again (⟨k + 1, _⟩ : Nat × Imm) ⟨by simp only; omega, hS⟩ (by simp only; omega) (fun aa ww h => at_less h ⟨rfl, rfl, rfl, trivial⟩ (fun _ h => by cases h) (fun _ => by simp))
  · try simp only [zq1, zq2, zq3, zq4, zq5, zq6, zq7, zq8] at c22
    refine WC.exit ?_
    refine WP.thenExit ?_
    refine WP.thenExit ?_
    refine WP.blkHit ?_
    refine WP.thenC ?_
    refine WC.seq ?_
    refine WC.ofFr [] trivial ?_
    refine WC.region ?_
    refine WL.so (SO.makes (Enters.func Try.call31 rfl) (fun w hI => sample_g [] none 0 0 _ w ⟨rfl, fun i r hr => by simp at hr⟩ (fun _ => rfl) (by decide) hI.imm)) rfl ?_
    rintro _ D21 _ ⟨hX21, ⟨a1_21, c1_21, a2_21, c2_21, rfl, hR21⟩, rfl⟩
    refine WL.so (SO.callP Try.call17 rfl (fun w hI => Gives.cv (.tuple #[it 0, it 0]) (Before_g (sampP []) a1_21 _ c1_21 a2_21 _ c2_21 _ w hR21 hI.imm (-1) 0) (by rw [an1]))) rfl ?_
    rintro _ _ _ ⟨rfl, rfl, rfl⟩
    refine WL.yd (Yd.move rfl) rfl ?_
    refine WL.yd (Yd.extract rfl rfl) rfl ?_
    refine WL.yd (Yd.extract rfl rfl) rfl ?_
    refine WL.yd (Yd.assign rfl) rfl ?_
    refine WL.yd (Yd.assign rfl) rfl ?_
    refine WL.nil ?_
    refine WP.thenC ?_
    refine WC.seq ?_
    refine WC.ofFr [(6, _), (5, _)] ⟨rfl, rfl, trivial⟩ ?_
    refine WC.region ?_
    refine WL.so (SO.makes (Enters.func Try.call31 rfl) (fun w hI => sample_g [] none 0 0 _ w ⟨rfl, fun i r hr => by simp at hr⟩ (fun _ => rfl) (by decide) hI.imm)) rfl ?_
    rintro _ D22 _ ⟨hX22, ⟨a1_22, c1_22, a2_22, c2_22, rfl, hR22⟩, rfl⟩
    refine WL.so (SO.callP Try.call19 rfl (fun w hI => Gives.cv (.tuple #[.agg #[it 1, it 3], it 0]) (Near_g (sampP []) a1_22 _ c1_22 a2_22 _ c2_22 _ w hR22 hI.imm 1 2) (by rw [an2]))) rfl ?_
    rintro _ _ _ ⟨rfl, rfl, rfl⟩
    refine WL.yd (Yd.move rfl) rfl ?_
    refine WL.yd (Yd.extract rfl rfl) rfl ?_
    refine WL.yd (Yd.extract rfl rfl) rfl ?_
    refine WL.so (SO.alloc Try.zeroValue23 rfl) rfl ?_
    rintro _ _ _ ⟨b7, hb7, rfl, rfl, rfl⟩ -- NEW
    refine WL.so (SO.store 0 rfl Try.sizeOf23 rfl rfl rfl rfl (Nat.le_of_ble_eq_true rfl) (oneB_spec rfl)) rfl ?_
    rintro _ _ _ ⟨rfl, rfl, rfl⟩
    refine WL.yd (Yd.assign rfl) rfl ?_
    refine WL.nil ?_
    refine WP.thenC ?_
    refine WC.seq ?_
    refine WC.ofFr [(8, _), (7, _), (6, _), (5, _)] ⟨rfl, rfl, rfl, rfl, trivial⟩ ?_
    refine WC.region ?_
    refine WL.so (SO.makes (Enters.func Try.call31 rfl) (fun w hI => sample_g [] none 0 0 _ w ⟨rfl, fun i r hr => by simp at hr⟩ (fun _ => rfl) (by decide) hI.imm)) rfl ?_
    rintro _ D23 _ ⟨hX23, ⟨a1_23, c1_23, a2_23, c2_23, rfl, hR23⟩, rfl⟩
    refine WL.so (SO.callP Try.call27 rfl (fun w hI => Gives.cv (.tuple #[it 0, it 0, it 0]) (False_g (sampP []) a1_23 _ c1_23 a2_23 _ c2_23 _ w hR23 hI.imm) (by rw [an3]))) rfl ?_
    rintro _ _ _ ⟨rfl, rfl, rfl⟩
    refine WL.yd (Yd.move rfl) rfl ?_
    refine WL.yd (Yd.extract rfl rfl) rfl ?_
    refine WL.yd (Yd.extract rfl rfl) rfl ?_
    refine WL.yd (Yd.extract rfl rfl) rfl ?_
    refine WL.yd (Yd.assign rfl) rfl ?_
    refine WL.yd (Yd.assign rfl) rfl ?_
    refine WL.yd (Yd.assign rfl) rfl ?_
    refine WL.nil ?_
    refine WP.thenC ?_
    refine WC.seq ?_
    refine WC.ofFr [(11, _), (10, _), (9, _), (8, _), (7, _), (6, _), (5, _)] ⟨rfl, rfl, rfl, rfl, rfl, rfl, rfl, trivial⟩ ?_
    refine WC.region ?_
    refine WL.so (SO.makes (Enters.func Try.call31 rfl) (fun w hI => sample_g [] none 0 0 _ w ⟨rfl, fun i r hr => by simp at hr⟩ (fun _ => rfl) (by decide) hI.imm)) rfl ?_
    rintro _ D24 _ ⟨hX24, ⟨a1_24, c1_24, a2_24, c2_24, rfl, hR24⟩, rfl⟩
    refine WL.so (SO.callP Try.call29 rfl (fun w hI => Clash_g (sampP []) a1_24 _ c1_24 a2_24 _ c2_24 _ w hR24 hI.imm)) rfl ?_
    rintro _ _ _ ⟨rfl, rfl, rfl⟩
    refine WL.yd (Yd.move rfl) rfl ?_
    refine WL.yd (Yd.extract rfl rfl) rfl ?_
    refine WL.yd (Yd.extract rfl rfl) rfl ?_
    refine WL.yd (Yd.assign rfl) rfl ?_
    refine WL.yd (Yd.assign rfl) rfl ?_
    refine WL.nil ?_
    refine WP.thenC ?_
    refine WC.seq ?_
    refine WC.ofFr [(13, _), (11, _), (10, _), (9, _), (8, _), (7, _), (6, _), (5, _)] ⟨rfl, rfl, rfl, rfl, rfl, rfl, rfl, rfl, trivial⟩ ?_
    refine WC.region ?_
    refine WL.so (SO.callP Try.call33 rfl (fun w hI => lbef_g _ _ _)) rfl ?_
    rintro _ _ _ ⟨rfl, rfl, rfl⟩
    refine WL.so (SO.buildSlice Try.underlying25 Try.sizeOf47 Try.zeroValue47 rfl rfl rfl rfl (cs := [_, _, _]) rfl) rfl ?_
    rintro _ _ _ ⟨b67, hb67, rfl, rfl, rfl⟩ -- NEW
    refine WL.freezeK 0 rfl (fun hn67 => ?_)
    have hF67 := fun o => (DExt.refl w D24).add (o := o) hn67 hb67
    refine WL.so (SO.makes (Enters.func Try.call31 rfl) (fun w hI => sample_g [(⟨2, 1, false⟩ : PClaim)] (some ⟨b67, 0, none⟩) 1 _ _ w (one_sl (⟨2, 1, false⟩ : PClaim) (Imm.add_self _ _ _)) (fun h => by cases h) (by decide) hI.imm)) rfl ?_
    rintro _ D25 _ ⟨hX25, ⟨a1_25, c1_25, a2_25, c2_25, rfl, hR25⟩, rfl⟩
    refine WL.so (SO.callP Try.call23 rfl (fun w hI => Kept_g (sampP [(⟨2, 1, false⟩ : PClaim)]) a1_25 _ c1_25 a2_25 _ c2_25 _ w hR25 hI.imm)) rfl ?_
    rintro _ _ _ ⟨rfl, rfl, rfl⟩
    refine WL.yd (Yd.move rfl) rfl ?_
    refine WL.yd (Yd.extract rfl rfl) rfl ?_
    refine WL.yd (Yd.extract rfl rfl) rfl ?_
    refine WL.yd (Yd.assign rfl) rfl ?_
    refine WL.yd (Yd.assign rfl) rfl ?_
    refine WL.nil ?_
    refine WP.thenC ?_
    refine WC.seq ?_
    refine WC.ofFr [(15, _), (13, _), (11, _), (10, _), (9, _), (8, _), (7, _), (6, _), (5, _)] ⟨rfl, rfl, rfl, rfl, rfl, rfl, rfl, rfl, rfl, trivial⟩ ?_
    refine WC.tail 14 [0, 1, 2, 3, 4, 5, 6, 7, 8, 9, 10, 11, 12, 13] rfl (by kernel_rfl) (by kernel_rfl)  ?_
    refine WQ.q rfl (Yd.qt (Yd.move rfl)) rfl ?_
    refine WQ.qg rfl rfl (Qt.callP Try.call14 rfl (fun w hI => alive_g _ _ hI.imm)) rfl ?_
    refine WQ.know 73 (.bool true) rfl rfl ?_
    refine WQ.q rfl (Yd.qt (Yd.pickT rfl rfl)) rfl ?_
    refine WQ.q rfl (Yd.qt (Yd.move rfl)) rfl ?_
    refine WQ.qg rfl rfl (Yd.qt (Yd.move rfl)) rfl ?_
    refine WQ.qg rfl rfl (Yd.qt (Yd.eql rfl rfl)) rfl ?_
    refine WQ.know 77 (.bool true) rfl (congrArg Value.bool (by decide)) ?_
    refine WQ.q rfl (Yd.qt (Yd.pickT rfl rfl)) rfl ?_
    refine WQ.q rfl (Yd.qt (Yd.move rfl)) rfl ?_
    refine WQ.qg rfl rfl (Yd.qt (Yd.move rfl)) rfl ?_
    refine WQ.qg rfl rfl (Yd.qt (Yd.eql rfl rfl)) rfl ?_
    refine WQ.know 81 (.bool true) rfl (congrArg Value.bool (by decide)) ?_
    refine WQ.q rfl (Yd.qt (Yd.pickT rfl rfl)) rfl ?_
    refine WQ.q rfl (Yd.qt (Yd.move rfl)) rfl ?_
    refine WQ.qg rfl rfl (Yd.qt (Yd.loadN Try.isAgg23 Try.sizeOf23 rfl (vs := [_, _]) rfl (by first | exact RdN.own (k := 0) (n := 2) rfl rfl | exact (hS.at k (by omega)).rdn 0 3 rfl))) rfl ?_
    refine WQ.qg rfl rfl (Qt.callP Try.call32 rfl (fun w hI => lspan_g _ _ _)) rfl ?_
    refine WQ.tail ?_
    refine WL.ydg rfl (Yd.eqS Try.eqGuardType23 (eq23 _ _ _ _) rfl rfl) rfl ?_
    refine WL.know 86 (.bool true) rfl (congrArg Value.bool (decide_eq_true rfl)) ?_
    refine WL.yd (Yd.pickT rfl rfl) rfl ?_
    refine WL.yd (Yd.move rfl) rfl ?_
    refine WL.ydg rfl (Yd.move rfl) rfl ?_
    refine WL.ydg rfl (Yd.eql rfl rfl) rfl ?_
    refine WL.know 90 (.bool true) rfl (congrArg Value.bool (by decide)) ?_
    refine WL.yd (Yd.pickT rfl rfl) rfl ?_
    refine WL.yd (Yd.move rfl) rfl ?_
    refine WL.ydg rfl (Yd.move rfl) rfl ?_
    refine WL.ydg rfl (Yd.eql rfl rfl) rfl ?_
    refine WL.know 94 (.bool true) rfl (congrArg Value.bool (by decide)) ?_
    refine WL.yd (Yd.pickT rfl rfl) rfl ?_
    refine WL.yd (Yd.move rfl) rfl ?_
    refine WL.ydg rfl (Yd.move rfl) rfl ?_
    refine WL.ydg rfl (Yd.eql rfl rfl) rfl ?_
    refine WL.know 98 (.bool true) rfl (congrArg Value.bool (by decide)) ?_
    refine WL.yd (Yd.pickT rfl rfl) rfl ?_
    refine WL.yd (Yd.move rfl) rfl ?_
    refine WL.ydg rfl (Yd.move rfl) rfl ?_
    refine WL.ydg rfl (Yd.eql rfl rfl) rfl ?_
    refine WL.know 102 (.bool true) rfl (congrArg Value.bool (by decide)) ?_
    refine WL.yd (Yd.pickT rfl rfl) rfl ?_
    refine WL.yd (Yd.move rfl) rfl ?_
    refine WL.ydg rfl (Yd.move rfl) rfl ?_
    refine WL.ydg rfl (Yd.eql rfl rfl) rfl ?_
    refine WL.know 106 (.bool true) rfl (congrArg Value.bool (by rw [an4]; decide)) ?_
    refine WL.yd (Yd.pickT rfl rfl) rfl ?_
    refine WL.yd (Yd.move rfl) rfl ?_
    refine WL.ydg rfl (Yd.move rfl) rfl ?_
    refine WL.ydg rfl (Yd.eql rfl rfl) rfl ?_
    refine WL.know 110 (.bool true) rfl (congrArg Value.bool (by rw [an5]; decide)) ?_
    refine WL.yd (Yd.pickT rfl rfl) rfl ?_
    refine WL.yd (Yd.assign rfl) rfl ?_
    refine WL.nil ?_
    refine WP.thenC ?_
    refine WC.ret ?_
    refine WP.ret1 rfl rfl Try.results5 (RV.tmp rfl) (fun w hI => ⟨rfl, hI.keep⟩)

end Go.Proofs.Ytkhmmefgllbobaa
