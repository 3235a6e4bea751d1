import Derived.Test.YtkhmmefgllbobaaXN
import Derived.Test.YtkhmmefgllbobaaXV
set_option linter.unusedSimpArgs false
set_option linter.unusedVariables false
set_option linter.all false
namespace Go.Proofs.Ytkhmmefgllbobaa
open Go.W Go.Po

def bathCs (by_ : List Int) (j k : Nat) : List Value := (bathsM by_ j k).flatMap bathC
theorem owV_one (o : Option Ow) (n : Nat) : (owV o n).oneCell' = true := by cases o <;> rfl
def atCs (by_ : List Int) (j k : Nat) : List Value := (atsM by_ j k).flatMap intC
def clCs (by_ : List Int) (j k : Nat) : List Value := (claimsM by_ j k).flatMap claimC
theorem bathCs_succ (by_ : List Int) (j k : Nat) : bathCs by_ j (k + 1) = bathCs by_ j k ++ bathC (bathM by_ j k) := by
  unfold bathCs bathsM; rw [List.range_succ, List.map_append, List.flatMap_append]; simp
theorem atCs_succ (by_ : List Int) (j k : Nat) : atCs by_ j (k + 1) = atCs by_ j k ++ intC (atB by_ j k) := by
  unfold atCs atsM; rw [List.range_succ, List.map_append, List.flatMap_cons, List.flatMap_cons, List.flatMap_append]; simp
theorem clCs_succ (by_ : List Int) (j k : Nat) : clCs by_ j (k + 1) = clCs by_ j k ++ claimC (claimM by_ j k) := by
  unfold clCs claimsM; rw [List.range_succ, List.map_append, List.flatMap_append]; simp
theorem bathCs_len (by_ : List Int) (j k : Nat) : (bathCs by_ j k).length = k * 3 := by
  induction k with
  | zero => rfl
  | succ k ih => rw [bathCs_succ, List.length_append, ih, bathC_len]; omega
theorem atCs_len (by_ : List Int) (j k : Nat) : (atCs by_ j k).length = (k + 1) * 1 := by
  induction k with
  | zero => rfl
  | succ k ih => rw [atCs_succ, List.length_append, ih, intC_len]; omega
theorem clCs_len (by_ : List Int) (j k : Nat) : (clCs by_ j k).length = k * 3 := by
  induction k with
  | zero => rfl
  | succ k ih => rw [clCs_succ, List.length_append, ih, claimC_len]; omega
theorem atsM_len (by_ : List Int) (j n : Nat) : (atsM by_ j n).length = n + 1 := by simp [atsM]

set_option maxRecDepth 100000 in
set_option maxHeartbeats 1000000 in
theorem made_g (by_ : List Int) (bc bb j : Nat) (D : Imm) (w : World) (hB : ByR D by_ bb) (hj : j ≤ 500) (hI0 : Inv D [(bc, cntO j)] [bc] w w) : AltersN Try.prog 35 [fvV bc bb] w D [bc] (fun v D' hpc' => ∃ a1 c1 a2 c2 a3 c3, v = .tuple #[.agg #[it (madeP by_ j).post.lo, it (madeP by_ j).post.hi, .slice a1 (nB by_ j) c1, .slice a2 (nC by_ j) c2], .slice a3 ((nB by_ j) + 1) c3] ∧ PostR D' (madeP by_ j) a1 (nB by_ j) a2 (nC by_ j) ∧ SlL D' 1 ((atsM by_ j (nB by_ j)).map intC) a3 ((nB by_ j) + 1) ∧ hpc' = [(bc, cntO (madeN by_ j))]) := by
  unfold AltersN
  refine enter Try.func35 rfl 82 Try.ntmps35 (Nat.le_of_ble_eq_true rfl) hI0 ?_
  refine WC.seq ?_
  refine WC.ofFr [(0, _)] ⟨rfl, trivial⟩ ?_
  refine WC.region ?_
  refine WL.so (SO.box rfl rfl) rfl ?_
  rintro _ _ _ ⟨b1, hb1, rfl, rfl, rfl⟩ -- NEW
  refine WL.so (SO.alloc Try.zeroValue27 rfl) rfl ?_
  rintro _ _ _ ⟨b2, hb2, rfl, rfl, rfl⟩ -- NEW
  refine WL.yd (Yd.assign rfl) rfl ?_
  refine WL.nil ?_
  refine WP.thenC ?_
  refine WC.seq ?_
  refine WC.freezeK 1 rfl (fun hn1 => ?_)
  have hX1 : DExt w D (D.add b1 (.cells (List.toArray [fvV bc bb]) 50 (0, 0))) := (DExt.refl w D).add hn1 hb1
  have hf : (D.add b1 (.cells (List.toArray [fvV bc bb]) 50 (0, 0))) b1 = some (.cells (List.toArray [fvV bc bb]) 50 (0, 0)) := Imm.add_self _ _ _
  replace hB := hB.ext hX1
  refine (?_ : WC Try.prog _ _ (D.add b1 (.cells (List.toArray [fvV bc bb]) 50 (0, 0))) [_, _] _ _)
  generalize D.add b1 (.cells (List.toArray [fvV bc bb]) 50 (0, 0)) = D1 at hX1 hf hB ⊢
  refine WC.ofFr [(3, _), (2, _), (1, _)] ⟨rfl, rfl, rfl, trivial⟩ ?_
  refine WC.region ?_
  refine WL.yd (Yd.func rfl rfl) rfl ?_
  refine WL.yd (Yd.assign rfl) rfl ?_
  refine WL.nil ?_
  refine WP.thenC ?_
  refine WC.seq ?_
  refine WC.ofFr [(4, _), (3, _), (2, _), (1, _)] ⟨rfl, rfl, rfl, rfl, trivial⟩ ?_
  refine WC.region ?_
  refine WL.yd (Yd.load1 Try.isAgg50 rfl (by first | exact Rd.own (k := 0) rfl rfl | exact Rd.own (k := 1) rfl rfl | exact (Rd.imm hf rfl))) rfl ?_
  refine WL.so (SO.alters (own := [_]) (hpc := [(bc, cntO j)]) (S1 := [bc]) (fun _ h => h) (fun h => h) (fun _ h => h) (fun _ h => h) (Enters.val Try.call87 rfl rfl) (fun w1 hI => draw_g by_ bc bb _ w1 hB 41 (by omega) j (by omega) hI)) rfl ?_
  rintro _ _ _ ⟨_, _, ⟨rfl, rfl, rfl⟩, rfl⟩
  refine WL.yd (Yd.assign rfl) rfl ?_
  refine WL.nil ?_
  refine WP.thenC ?_
  refine WC.seq ?_
  refine WC.ofFr [(5, _), (4, _), (3, _), (2, _), (1, _)] ⟨rfl, rfl, rfl, rfl, rfl, trivial⟩ ?_
  refine WC.region ?_
  refine WL.yd (Yd.move rfl) rfl ?_
  refine WL.yd (Yd.move rfl) rfl ?_
  refine WL.so (SO.altersN (own := [_]) (hpc := [(bc, cntO (j + 1))]) (S1 := [bc]) (fun _ h => h) (fun h => h) (fun _ h => h) (fun _ h => h) (Enters.val Try.call88 rfl rfl) (fun w1 hI => about_g _ (at0_num by_ j) by_ bc bb b1 _ w1 hB hf (j + 1) (by omega) hI)) rfl ?_
  rintro _ _ _ ⟨_, _, ⟨rfl, rfl, rfl⟩, rfl⟩
  refine WL.yd (Yd.move rfl) rfl ?_
  refine WL.so (SO.buildSlice Try.underlying52 Try.sizeOf3 Try.zeroValue3 rfl rfl rfl rfl (cs := [_]) rfl) rfl ?_
  rintro _ _ _ ⟨b16, hb16, rfl, rfl, rfl⟩ -- NEW
  refine WL.yd (Yd.fieldAddr FA27_0 rfl) rfl ?_
  refine WL.so (SO.store 1 rfl Try.sizeOf23 rfl rfl rfl rfl (Nat.le_of_ble_eq_true rfl) (oneB_spec rfl)) rfl ?_
  rintro _ _ _ ⟨rfl, rfl, rfl⟩
  refine WL.yd (Yd.assign rfl) rfl ?_
  refine WL.nil ?_
  refine WP.thenC ?_
  refine WC.seq ?_
  refine WC.seq ?_
  refine WC.ofFr [(3, _), (5, _), (4, _), (2, _), (1, _)] ⟨rfl, rfl, rfl, rfl, rfl, trivial⟩ ?_
  refine WC.region ?_
  refine WL.yd (Yd.load1 Try.isAgg50 rfl (by first | exact Rd.own (k := 0) rfl rfl | exact Rd.own (k := 1) rfl rfl | exact Rd.own (k := 2) rfl rfl | exact (Rd.imm hf rfl))) rfl ?_
  refine WL.so (SO.alters (own := [_, _]) (hpc := [(bc, cntO (j + 3))]) (S1 := [bc]) (fun _ h => h) (fun h => h) (fun _ h => h) (fun _ h => h) (Enters.val Try.call87 rfl rfl) (fun w1 hI => draw_g by_ bc bb _ w1 hB 6 (by omega) (j + 3) (by omega) hI)) rfl ?_
  rintro _ _ _ ⟨_, _, ⟨rfl, rfl, rfl⟩, rfl⟩
  refine WL.yd (Yd.move rfl) rfl ?_
  refine WL.nil ?_
  refine WP.thenC ?_
  refine WC.block ?_
  have hnB := nB_num by_ j
  refine WC.loop (fun y : Nat × Option Ow × Ow => [(1, pt b1), (2, pt b2), (3, owV (some y.2.2) (y.1 + 1)), (4, .func (.func 88) #[] #[pt b1]), (5, it (at0 by_ j)), (19, it (drawV by_ (j + 4) 6)), (20, nt y.1)]) (fun y => (((y.2.2).b, .cells (atCs by_ j y.1 ++ (y.2.2).rest).toArray 3 (0, 0)) :: (b2, .cells (List.toArray [it (about by_ (at0 by_ j) (j + 1)).lo, it (about by_ (at0 by_ j) (j + 1)).hi, owV y.2.1 y.1, .slice none 0 0]) 27 (0, 0)) :: owH y.2.1 56 (bathCs by_ j y.1) []) ++ [(bc, cntO (j + 4 + 4 * y.1))]) (fun _ => D1) (fun y => y.1 ≤ (nB by_ j) ∧ owP w y.2.1 y.1 3 ∧ owP w (some y.2.2) (y.1 + 1) 1) (fun y => (nB by_ j) - y.1) (0, none, ⟨b16, 1, []⟩) ⟨by omega, rfl, hb16, Nat.le_refl _, rfl⟩ (fun a w h => at_fr h ⟨rfl, rfl, rfl, rfl, rfl, rfl, rfl, trivial⟩) ?_
  rintro ⟨k, o1, u3⟩ ⟨hk, ho1, ho3⟩
  dsimp only at hk ho1 ho3
  have hat := at0_num by_ j
  have hd17 := drawV_num by_ (j + 4 + 4 * k + 1) (n := 17) (by omega)
  refine WC.seq ?_
  refine WC.ofFr [(1, _), (2, _), (3, _), (4, _), (5, _), (19, _), (20, _)] ⟨rfl, rfl, rfl, rfl, rfl, rfl, rfl, trivial⟩ ?_
  refine WC.region ?_
  refine WL.yd (Yd.lss rfl rfl) rfl ?_
  refine WL.nil ?_
  refine WP.thenC ?_
  refine WC.seq ?_
  refine WC.cond rfl (fun c21 => ?_) (fun c21 => ?_)
  · try simp only [zq1, zq2, zq3, zq4, zq5, zq6, zq7, zq8] at c21
    refine WC.skip ?_
    refine WP.thenC ?_
    refine WC.seq ?_
    refine WC.block ?_
    refine WC.seq ?_
    refine WC.ofFr [(1, _), (2, _), (3, _), (4, _), (5, _), (19, _), (20, _)] ⟨rfl, rfl, rfl, rfl, rfl, rfl, rfl, trivial⟩ ?_
    refine WC.region ?_
    refine WL.yd (Yd.move rfl) rfl ?_
    refine WL.yd (Yd.sub rfl rfl (wr64 ⟨by omega, by omega⟩)) rfl ?_
    refine WL.yd (Yd.load1 Try.isAgg50 rfl (by first | exact Rd.own (k := 0) rfl rfl | exact Rd.own (k := 1) rfl rfl | exact Rd.own (k := 2) rfl rfl | exact Rd.own (k := 3) rfl rfl | exact (Rd.imm hf rfl))) rfl ?_
    refine WL.so (SO.alters (own := (((u3).b, .cells (atCs by_ j k ++ (u3).rest).toArray 3 (0, 0)) :: (b2, .cells (List.toArray [it (about by_ (at0 by_ j) (j + 1)).lo, it (about by_ (at0 by_ j) (j + 1)).hi, owV o1 k, .slice none 0 0]) 27 (0, 0)) :: owH o1 56 (bathCs by_ j k) [])) (hpc := [(bc, cntO (j + 4 + 4 * k))]) (S1 := [bc]) (fun _ h => h) (fun h => h) (fun _ h => h) (fun _ h => h) (Enters.val Try.call87 rfl rfl) (fun w1 hI => draw_g by_ bc bb _ w1 hB 17 (by omega) (j + 4 + 4 * k) (by omega) hI)) rfl ?_
    rintro _ _ _ ⟨_, _, ⟨rfl, rfl, rfl⟩, rfl⟩
    refine WL.yd (Yd.add rfl rfl (wr64 ⟨by omega, by omega⟩)) rfl ?_
    refine WL.yd (Yd.min2 rfl rfl) rfl ?_
    refine WL.yd (Yd.max2 rfl rfl) rfl ?_
    refine WL.yd (Yd.assign rfl) rfl ?_
    refine WL.nil ?_
    refine WP.thenC ?_
    refine WC.ofFr [(6, _), (1, _), (2, _), (3, _), (4, _), (5, _), (19, _), (20, _)] ⟨rfl, rfl, rfl, rfl, rfl, rfl, rfl, rfl, trivial⟩ ?_
    refine WC.drawH [] (by kernel_rfl) (fun _ hI => Inv.nil hI) ?_
    refine WH.yd (i := 0) (by kernel_rfl) (fun _ o v c a w _ h => (QuietPanic.blk (QuietPanic.then (QuietPanic.then (QuietPanic.blk (QuietPanic.then QuietPanic.body))))) c o.dst v a w h) rfl (Yd.fieldAddr FA27_1 rfl) rfl ?_
    refine WH.yd (i := 2) (by kernel_rfl) (fun _ o v c a w _ h => (QuietPanic.blk (QuietPanic.then (QuietPanic.then (QuietPanic.blk (QuietPanic.then QuietPanic.body))))) c o.dst v a w h) rfl (Yd.load1 Try.isAgg50 rfl (by first | exact Rd.own (k := 0) rfl rfl | exact Rd.own (k := 1) rfl rfl | exact Rd.own (k := 2) rfl rfl | exact Rd.own (k := 3) rfl rfl | exact (Rd.imm hf rfl))) rfl ?_
    refine WH.yd (i := 5) (by kernel_rfl) (fun _ o v c a w _ h => (QuietPanic.blk (QuietPanic.then (QuietPanic.then (QuietPanic.blk (QuietPanic.then QuietPanic.body))))) c o.dst v a w h) rfl (Yd.move rfl) rfl ?_
    refine WH.yd (i := 6) (by kernel_rfl) (fun _ o v c a w _ h => (QuietPanic.blk (QuietPanic.then (QuietPanic.then (QuietPanic.blk (QuietPanic.then QuietPanic.body))))) c o.dst v a w h) rfl (Yd.move rfl) rfl ?_
    refine WH.yd (i := 11) (by kernel_rfl) (fun _ o v c a w _ h => (QuietPanic.blk (QuietPanic.then (QuietPanic.then (QuietPanic.blk (QuietPanic.then QuietPanic.body))))) c o.dst v a w h) rfl (Yd.move rfl) rfl ?_
    refine WH.yd (i := 12) (by kernel_rfl) (fun _ o v c a w _ h => (QuietPanic.blk (QuietPanic.then (QuietPanic.then (QuietPanic.blk (QuietPanic.then QuietPanic.body))))) c o.dst v a w h) rfl (Yd.move rfl) rfl ?_
    refine WH.three (i := 1) (j := 3) (k := 13) (by kernel_rfl) ?_ ?_ ?_
    · refine WHo.yd rfl (Yd.load1 Try.isAgg24 rfl (by first | exact Rd.own (k := 0) rfl rfl | exact Rd.own (k := 1) rfl rfl | exact Rd.own (k := 2) rfl rfl | exact Rd.own (k := 3) rfl rfl | exact (Rd.imm hf rfl))) rfl ?_
      refine WH.two (i := 3) (j := 13) (by kernel_rfl) ?_ ?_
      · refine WHo.so rfl (SO.alters (own := (((u3).b, .cells (atCs by_ j k ++ (u3).rest).toArray 3 (0, 0)) :: (b2, .cells (List.toArray [it (about by_ (at0 by_ j) (j + 1)).lo, it (about by_ (at0 by_ j) (j + 1)).hi, owV o1 k, .slice none 0 0]) 27 (0, 0)) :: owH o1 56 (bathCs by_ j k) [])) (hpc := [(bc, cntO (j + 4 + 4 * k + 1))]) (S1 := [bc]) (fun _ h => h) (fun h => h) (fun _ h => h) (fun _ h => h) (Enters.val Try.call87 rfl rfl) (fun w1 hI => draw_g by_ bc bb _ w1 hB 2 (by omega) (j + 4 + 4 * k + 1) (by omega) hI)) rfl ?_
        rintro _ _ _ ⟨_, _, ⟨rfl, rfl, rfl⟩, rfl⟩
        refine ⟨(fun _ hI => Inv.nil hI), ?_⟩
        refine WH.yd (i := 4) (by kernel_rfl) (fun _ o v c a w _ h => (QuietPanic.blk (QuietPanic.then (QuietPanic.then (QuietPanic.blk (QuietPanic.then QuietPanic.body))))) c o.dst v a w h) rfl (Yd.eql rfl rfl) rfl ?_
        refine WH.two (i := 7) (j := 13) (by kernel_rfl) ?_ ?_
        · refine WHo.so rfl (SO.altersN (own := (((u3).b, .cells (atCs by_ j k ++ (u3).rest).toArray 3 (0, 0)) :: (b2, .cells (List.toArray [it (about by_ (at0 by_ j) (j + 1)).lo, it (about by_ (at0 by_ j) (j + 1)).hi, owV o1 k, .slice none 0 0]) 27 (0, 0)) :: owH o1 56 (bathCs by_ j k) [])) (hpc := [(bc, cntO (j + 4 + 4 * k + 1 + 1))]) (S1 := [bc]) (fun _ h => h) (fun h => h) (fun _ h => h) (fun _ h => h) (Enters.val Try.call88 rfl rfl) (fun w1 hI => about_g (atB by_ j k) (atB_num by_ j k) by_ bc bb b1 _ w1 hB hf (j + 4 + 4 * k + 1 + 1) (by omega) hI)) rfl ?_
          rintro _ _ _ ⟨_, _, ⟨rfl, rfl, rfl⟩, rfl⟩
          refine ⟨(fun _ hI => Inv.nil hI), ?_⟩
          refine WH.yd (i := 8) (by kernel_rfl) (fun _ o v c a w _ h => (QuietPanic.blk (QuietPanic.then (QuietPanic.then (QuietPanic.blk (QuietPanic.then QuietPanic.body))))) c o.dst v a w h) rfl (Yd.build SA56 rfl (cs := [_, _, _]) rfl) rfl ?_
          refine WH.two (i := 9) (j := 13) (by kernel_rfl) ?_ ?_
          · refine WHo.so rfl (SO.buildSlice Try.underlying24 Try.sizeOf56 Try.zeroValue56 rfl rfl rfl rfl (cs := [_, _, _]) rfl) rfl ?_
            rintro _ _ _ ⟨b38, hb38, rfl, rfl, rfl⟩ -- NEW
            refine ⟨(fun _ hI => Inv.nil hI), ?_⟩
            refine WH.two (i := 10) (j := 13) (by kernel_rfl) ?_ ?_
            · refine WHo.so rfl (SO.appendOw (o := o1) (len := k) (n := 1) (xs := bathCs by_ j k) (size := 3) [] [_, _, _] [_] rfl rfl Try.underlying24 Try.sizeOf56 Try.typeInfo56 Try.zeroValue56 rfl rfl rfl (congrArg (fun z => _ :: _ :: _ :: z) (owH_app _ _ _ _)) ⟨rfl, .inr ⟨_, _, _, rfl, RdN.own (k := 0) (n := 3) rfl rfl⟩⟩ (oneB_spec rfl) ho1 (bathCs_len _ _ _) (by omega) (by show (2 * (_ + _) + 1000) * 24 ≤ 2 ^ 48; omega) (by omega)) rfl ?_
              rintro _ _ _ ⟨u1, hu1, rfl, rfl, rfl⟩
              refine ⟨(fun _ hI => Inv.nil hI), ?_⟩
              refine WH.yd (i := 15) (by kernel_rfl) (fun _ o v c a w _ h => (QuietPanic.blk (QuietPanic.then (QuietPanic.then (QuietPanic.blk (QuietPanic.then QuietPanic.body))))) c o.dst v a w h) rfl (Yd.fieldAddr FA27_1 rfl) rfl ?_
              refine WH.one (i := 13) (by kernel_rfl) (WHo.so rfl (SO.buildSlice Try.underlying52 Try.sizeOf3 Try.zeroValue3 rfl rfl rfl rfl (cs := [_]) rfl) rfl ?_)
              rintro _ _ _ ⟨b42, hb42, rfl, rfl, rfl⟩ -- NEW
              refine ⟨(fun _ hI => Inv.nil hI), ?_⟩
              refine WH.one (i := 14) (by kernel_rfl) (WHo.so rfl (SO.appendOw (o := some u3) (len := k + 1) (n := 1) (xs := atCs by_ j k) (size := 1) [] [_, _] [_, _, _] rfl rfl Try.underlying52 Try.sizeOf3 Try.typeInfo3 Try.zeroValue3 rfl rfl rfl rfl ⟨rfl, .inr ⟨_, _, _, rfl, RdN.own (k := 0) (n := 1) rfl rfl⟩⟩ (oneB_spec rfl) ho3 (atCs_len _ _ _) (by omega) (by show (2 * (_ + _) + 1000) * 8 ≤ 2 ^ 48; omega) (by omega)) rfl ?_)
              rintro _ _ _ ⟨u4, hu4, rfl, rfl, rfl⟩
              refine ⟨(fun _ hI => Inv.nil hI), ?_⟩
              refine WH.one (i := 16) (by kernel_rfl) (WHo.so rfl (SO.store 3 rfl Try.sizeOf24 rfl rfl rfl rfl (Nat.le_of_ble_eq_true rfl) (oneB_spec rfl)) rfl ?_)
              rintro _ _ _ ⟨rfl, rfl, rfl⟩
              refine ⟨(fun _ hI => Inv.nil hI), ?_⟩
              refine WH.yd (i := 17) (by kernel_rfl) (fun _ o v c a w _ h => (QuietPanic.blk (QuietPanic.then (QuietPanic.then (QuietPanic.blk (QuietPanic.then QuietPanic.body))))) c o.dst v a w h) rfl (Yd.assign rfl) rfl ?_
              refine WH.nil (by kernel_rfl) ?_
              refine WP.blkNormal ?_
              refine WP.thenC ?_
              refine WC.ofFr [(3, _), (1, _), (2, _), (4, _), (5, _), (19, _), (20, _)] ⟨rfl, rfl, rfl, rfl, rfl, rfl, rfl, trivial⟩ ?_
              refine WC.region ?_
              refine WL.yd (Yd.add rfl rfl (wr64 ⟨by omega, by omega⟩)) rfl ?_
              refine WL.yd (Yd.move rfl) rfl ?_
              refine WL.nil ?_
              refine WP.again (⟨k + 1, some u1, u4⟩ : Nat × Option Ow × Ow) ⟨by simp only; omega, hu1, hu4⟩ (by simp only; omega) (fun aa ww h => ?_)
              show At _ [(1, pt b1), (2, pt b2), (3, owV (some u4) ((k + 1) + 1)), (4, .func (.func 88) #[] #[pt b1]), (5, it (at0 by_ j)), (19, it (drawV by_ (j + 4) 6)), (20, nt (k + 1))] D1 ((((u4).b, .cells (atCs by_ j (k + 1) ++ (u4).rest).toArray 3 (0, 0)) :: (b2, .cells (List.toArray [it (about by_ (at0 by_ j) (j + 1)).lo, it (about by_ (at0 by_ j) (j + 1)).hi, owV (some u1) (k + 1), .slice none 0 0]) 27 (0, 0)) :: owH (some u1) 56 (bathCs by_ j (k + 1)) []) ++ [(bc, cntO (j + 4 + 4 * (k + 1)))]) aa ww
              rw [bathCs_succ, atCs_succ]
              exact at_less h ⟨rfl, rfl, rfl, rfl, rfl, rfl, rfl, trivial⟩ (fun _ h => .tail _ (.tail _ h)) (fun h => (List.nodup_cons.1 (List.nodup_cons.1 h).2).2)
            · refine WHo.so rfl (SO.buildSlice Try.underlying52 Try.sizeOf3 Try.zeroValue3 rfl rfl rfl rfl (cs := [_]) rfl) rfl ?_
              rintro _ _ _ ⟨b42, hb42, rfl, rfl, rfl⟩ -- NEW
              refine ⟨(fun _ hI => Inv.nil hI), ?_⟩
              refine WH.one (i := 10) (by kernel_rfl) (WHo.so rfl (SO.appendOw (o := o1) (len := k) (n := 1) (xs := bathCs by_ j k) (size := 3) [] [_, _, _, _] [_] rfl rfl Try.underlying24 Try.sizeOf56 Try.typeInfo56 Try.zeroValue56 rfl rfl rfl (congrArg (fun z => _ :: _ :: _ :: _ :: z) (owH_app _ _ _ _)) ⟨rfl, .inr ⟨_, _, _, rfl, RdN.own (k := 1) (n := 3) rfl rfl⟩⟩ (oneB_spec rfl) ho1 (bathCs_len _ _ _) (by omega) (by show (2 * (_ + _) + 1000) * 24 ≤ 2 ^ 48; omega) (by omega)) rfl ?_)
              rintro _ _ _ ⟨u1, hu1, rfl, rfl, rfl⟩
              refine ⟨(fun _ hI => Inv.nil hI), ?_⟩
              refine WH.yd (i := 15) (by kernel_rfl) (fun _ o v c a w _ h => (QuietPanic.blk (QuietPanic.then (QuietPanic.then (QuietPanic.blk (QuietPanic.then QuietPanic.body))))) c o.dst v a w h) rfl (Yd.fieldAddr FA27_1 rfl) rfl ?_
              refine WH.one (i := 14) (by kernel_rfl) (WHo.so rfl (SO.appendOw (o := some u3) (len := k + 1) (n := 1) (xs := atCs by_ j k) (size := 1) [] [_, _] [_, _, _] rfl rfl Try.underlying52 Try.sizeOf3 Try.typeInfo3 Try.zeroValue3 rfl rfl rfl rfl ⟨rfl, .inr ⟨_, _, _, rfl, RdN.own (k := 0) (n := 1) rfl rfl⟩⟩ (oneB_spec rfl) ho3 (atCs_len _ _ _) (by omega) (by show (2 * (_ + _) + 1000) * 8 ≤ 2 ^ 48; omega) (by omega)) rfl ?_)
              rintro _ _ _ ⟨u4, hu4, rfl, rfl, rfl⟩
              refine ⟨(fun _ hI => Inv.nil hI), ?_⟩
              refine WH.one (i := 16) (by kernel_rfl) (WHo.so rfl (SO.store 3 rfl Try.sizeOf24 rfl rfl rfl rfl (Nat.le_of_ble_eq_true rfl) (oneB_spec rfl)) rfl ?_)
              rintro _ _ _ ⟨rfl, rfl, rfl⟩
              refine ⟨(fun _ hI => Inv.nil hI), ?_⟩
              refine WH.yd (i := 17) (by kernel_rfl) (fun _ o v c a w _ h => (QuietPanic.blk (QuietPanic.then (QuietPanic.then (QuietPanic.blk (QuietPanic.then QuietPanic.body))))) c o.dst v a w h) rfl (Yd.assign rfl) rfl ?_
              refine WH.nil (by kernel_rfl) ?_
              refine WP.blkNormal ?_
              refine WP.thenC ?_
              refine WC.ofFr [(3, _), (1, _), (2, _), (4, _), (5, _), (19, _), (20, _)] ⟨rfl, rfl, rfl, rfl, rfl, rfl, rfl, trivial⟩ ?_
              refine WC.region ?_
              refine WL.yd (Yd.add rfl rfl (wr64 ⟨by omega, by omega⟩)) rfl ?_
              refine WL.yd (Yd.move rfl) rfl ?_
              refine WL.nil ?_
              refine WP.again (⟨k + 1, some u1, u4⟩ : Nat × Option Ow × Ow) ⟨by simp only; omega, hu1, hu4⟩ (by simp only; omega) (fun aa ww h => ?_)
              show At _ [(1, pt b1), (2, pt b2), (3, owV (some u4) ((k + 1) + 1)), (4, .func (.func 88) #[] #[pt b1]), (5, it (at0 by_ j)), (19, it (drawV by_ (j + 4) 6)), (20, nt (k + 1))] D1 ((((u4).b, .cells (atCs by_ j (k + 1) ++ (u4).rest).toArray 3 (0, 0)) :: (b2, .cells (List.toArray [it (about by_ (at0 by_ j) (j + 1)).lo, it (about by_ (at0 by_ j) (j + 1)).hi, owV (some u1) (k + 1), .slice none 0 0]) 27 (0, 0)) :: owH (some u1) 56 (bathCs by_ j (k + 1)) []) ++ [(bc, cntO (j + 4 + 4 * (k + 1)))]) aa ww
              rw [bathCs_succ, atCs_succ]
              exact at_less h ⟨rfl, rfl, rfl, rfl, rfl, rfl, rfl, trivial⟩ (fun _ h => .tail _ (.tail _ h)) (fun h => (List.nodup_cons.1 (List.nodup_cons.1 h).2).2)
          · refine WHo.so rfl (SO.buildSlice Try.underlying52 Try.sizeOf3 Try.zeroValue3 rfl rfl rfl rfl (cs := [_]) rfl) rfl ?_
            rintro _ _ _ ⟨b42, hb42, rfl, rfl, rfl⟩ -- NEW
            refine ⟨(fun _ hI => Inv.nil hI), ?_⟩
            refine WH.one (i := 9) (by kernel_rfl) (WHo.so rfl (SO.buildSlice Try.underlying24 Try.sizeOf56 Try.zeroValue56 rfl rfl rfl rfl (cs := [_, _, _]) rfl) rfl ?_)
            rintro _ _ _ ⟨b38, hb38, rfl, rfl, rfl⟩ -- NEW
            refine ⟨(fun _ hI => Inv.nil hI), ?_⟩
            refine WH.one (i := 10) (by kernel_rfl) (WHo.so rfl (SO.appendOw (o := o1) (len := k) (n := 1) (xs := bathCs by_ j k) (size := 3) [] [_, _, _, _] [_] rfl rfl Try.underlying24 Try.sizeOf56 Try.typeInfo56 Try.zeroValue56 rfl rfl rfl (congrArg (fun z => _ :: _ :: _ :: _ :: z) (owH_app _ _ _ _)) ⟨rfl, .inr ⟨_, _, _, rfl, RdN.own (k := 0) (n := 3) rfl rfl⟩⟩ (oneB_spec rfl) ho1 (bathCs_len _ _ _) (by omega) (by show (2 * (_ + _) + 1000) * 24 ≤ 2 ^ 48; omega) (by omega)) rfl ?_)
            rintro _ _ _ ⟨u1, hu1, rfl, rfl, rfl⟩
            refine ⟨(fun _ hI => Inv.nil hI), ?_⟩
            refine WH.yd (i := 15) (by kernel_rfl) (fun _ o v c a w _ h => (QuietPanic.blk (QuietPanic.then (QuietPanic.then (QuietPanic.blk (QuietPanic.then QuietPanic.body))))) c o.dst v a w h) rfl (Yd.fieldAddr FA27_1 rfl) rfl ?_
            refine WH.one (i := 14) (by kernel_rfl) (WHo.so rfl (SO.appendOw (o := some u3) (len := k + 1) (n := 1) (xs := atCs by_ j k) (size := 1) [] [_, _] [_, _, _] rfl rfl Try.underlying52 Try.sizeOf3 Try.typeInfo3 Try.zeroValue3 rfl rfl rfl rfl ⟨rfl, .inr ⟨_, _, _, rfl, RdN.own (k := 1) (n := 1) rfl rfl⟩⟩ (oneB_spec rfl) ho3 (atCs_len _ _ _) (by omega) (by show (2 * (_ + _) + 1000) * 8 ≤ 2 ^ 48; omega) (by omega)) rfl ?_)
            rintro _ _ _ ⟨u4, hu4, rfl, rfl, rfl⟩
            refine ⟨(fun _ hI => Inv.nil hI), ?_⟩
            refine WH.one (i := 16) (by kernel_rfl) (WHo.so rfl (SO.store 3 rfl Try.sizeOf24 rfl rfl rfl rfl (Nat.le_of_ble_eq_true rfl) (oneB_spec rfl)) rfl ?_)
            rintro _ _ _ ⟨rfl, rfl, rfl⟩
            refine ⟨(fun _ hI => Inv.nil hI), ?_⟩
            refine WH.yd (i := 17) (by kernel_rfl) (fun _ o v c a w _ h => (QuietPanic.blk (QuietPanic.then (QuietPanic.then (QuietPanic.blk (QuietPanic.then QuietPanic.body))))) c o.dst v a w h) rfl (Yd.assign rfl) rfl ?_
            refine WH.nil (by kernel_rfl) ?_
            refine WP.blkNormal ?_
            refine WP.thenC ?_
            refine WC.ofFr [(3, _), (1, _), (2, _), (4, _), (5, _), (19, _), (20, _)] ⟨rfl, rfl, rfl, rfl, rfl, rfl, rfl, trivial⟩ ?_
            refine WC.region ?_
            refine WL.yd (Yd.add rfl rfl (wr64 ⟨by omega, by omega⟩)) rfl ?_
            refine WL.yd (Yd.move rfl) rfl ?_
            refine WL.nil ?_
            refine WP.again (⟨k + 1, some u1, u4⟩ : Nat × Option Ow × Ow) ⟨by simp only; omega, hu1, hu4⟩ (by simp only; omega) (fun aa ww h => ?_)
            show At _ [(1, pt b1), (2, pt b2), (3, owV (some u4) ((k + 1) + 1)), (4, .func (.func 88) #[] #[pt b1]), (5, it (at0 by_ j)), (19, it (drawV by_ (j + 4) 6)), (20, nt (k + 1))] D1 ((((u4).b, .cells (atCs by_ j (k + 1) ++ (u4).rest).toArray 3 (0, 0)) :: (b2, .cells (List.toArray [it (about by_ (at0 by_ j) (j + 1)).lo, it (about by_ (at0 by_ j) (j + 1)).hi, owV (some u1) (k + 1), .slice none 0 0]) 27 (0, 0)) :: owH (some u1) 56 (bathCs by_ j (k + 1)) []) ++ [(bc, cntO (j + 4 + 4 * (k + 1)))]) aa ww
            rw [bathCs_succ, atCs_succ]
            exact at_less h ⟨rfl, rfl, rfl, rfl, rfl, rfl, rfl, trivial⟩ (fun _ h => .tail _ (.tail _ h)) (fun h => (List.nodup_cons.1 (List.nodup_cons.1 h).2).2)
        · refine WHo.so rfl (SO.buildSlice Try.underlying52 Try.sizeOf3 Try.zeroValue3 rfl rfl rfl rfl (cs := [_]) rfl) rfl ?_
          rintro _ _ _ ⟨b42, hb42, rfl, rfl, rfl⟩ -- NEW
          refine ⟨(fun _ hI => Inv.nil hI), ?_⟩
          refine WH.one (i := 7) (by kernel_rfl) (WHo.so rfl (SO.altersN (own := (_ :: ((u3).b, .cells (atCs by_ j k ++ (u3).rest).toArray 3 (0, 0)) :: (b2, .cells (List.toArray [it (about by_ (at0 by_ j) (j + 1)).lo, it (about by_ (at0 by_ j) (j + 1)).hi, owV o1 k, .slice none 0 0]) 27 (0, 0)) :: owH o1 56 (bathCs by_ j k) [])) (hpc := [(bc, cntO (j + 4 + 4 * k + 1 + 1))]) (S1 := [bc]) (fun _ h => h) (fun h => h) (fun _ h => h) (fun _ h => h) (Enters.val Try.call88 rfl rfl) (fun w1 hI => about_g (atB by_ j k) (atB_num by_ j k) by_ bc bb b1 _ w1 hB hf (j + 4 + 4 * k + 1 + 1) (by omega) hI)) rfl ?_)
          rintro _ _ _ ⟨_, _, ⟨rfl, rfl, rfl⟩, rfl⟩
          refine ⟨(fun _ hI => Inv.nil hI), ?_⟩
          refine WH.yd (i := 8) (by kernel_rfl) (fun _ o v c a w _ h => (QuietPanic.blk (QuietPanic.then (QuietPanic.then (QuietPanic.blk (QuietPanic.then QuietPanic.body))))) c o.dst v a w h) rfl (Yd.build SA56 rfl (cs := [_, _, _]) rfl) rfl ?_
          refine WH.one (i := 9) (by kernel_rfl) (WHo.so rfl (SO.buildSlice Try.underlying24 Try.sizeOf56 Try.zeroValue56 rfl rfl rfl rfl (cs := [_, _, _]) rfl) rfl ?_)
          rintro _ _ _ ⟨b38, hb38, rfl, rfl, rfl⟩ -- NEW
          refine ⟨(fun _ hI => Inv.nil hI), ?_⟩
          refine WH.one (i := 10) (by kernel_rfl) (WHo.so rfl (SO.appendOw (o := o1) (len := k) (n := 1) (xs := bathCs by_ j k) (size := 3) [] [_, _, _, _] [_] rfl rfl Try.underlying24 Try.sizeOf56 Try.typeInfo56 Try.zeroValue56 rfl rfl rfl (congrArg (fun z => _ :: _ :: _ :: _ :: z) (owH_app _ _ _ _)) ⟨rfl, .inr ⟨_, _, _, rfl, RdN.own (k := 0) (n := 3) rfl rfl⟩⟩ (oneB_spec rfl) ho1 (bathCs_len _ _ _) (by omega) (by show (2 * (_ + _) + 1000) * 24 ≤ 2 ^ 48; omega) (by omega)) rfl ?_)
          rintro _ _ _ ⟨u1, hu1, rfl, rfl, rfl⟩
          refine ⟨(fun _ hI => Inv.nil hI), ?_⟩
          refine WH.yd (i := 15) (by kernel_rfl) (fun _ o v c a w _ h => (QuietPanic.blk (QuietPanic.then (QuietPanic.then (QuietPanic.blk (QuietPanic.then QuietPanic.body))))) c o.dst v a w h) rfl (Yd.fieldAddr FA27_1 rfl) rfl ?_
          refine WH.one (i := 14) (by kernel_rfl) (WHo.so rfl (SO.appendOw (o := some u3) (len := k + 1) (n := 1) (xs := atCs by_ j k) (size := 1) [] [_, _] [_, _, _] rfl rfl Try.underlying52 Try.sizeOf3 Try.typeInfo3 Try.zeroValue3 rfl rfl rfl rfl ⟨rfl, .inr ⟨_, _, _, rfl, RdN.own (k := 1) (n := 1) rfl rfl⟩⟩ (oneB_spec rfl) ho3 (atCs_len _ _ _) (by omega) (by show (2 * (_ + _) + 1000) * 8 ≤ 2 ^ 48; omega) (by omega)) rfl ?_)
          rintro _ _ _ ⟨u4, hu4, rfl, rfl, rfl⟩
          refine ⟨(fun _ hI => Inv.nil hI), ?_⟩
          refine WH.one (i := 16) (by kernel_rfl) (WHo.so rfl (SO.store 3 rfl Try.sizeOf24 rfl rfl rfl rfl (Nat.le_of_ble_eq_true rfl) (oneB_spec rfl)) rfl ?_)
          rintro _ _ _ ⟨rfl, rfl, rfl⟩
          refine ⟨(fun _ hI => Inv.nil hI), ?_⟩
          refine WH.yd (i := 17) (by kernel_rfl) (fun _ o v c a w _ h => (QuietPanic.blk (QuietPanic.then (QuietPanic.then (QuietPanic.blk (QuietPanic.then QuietPanic.body))))) c o.dst v a w h) rfl (Yd.assign rfl) rfl ?_
          refine WH.nil (by kernel_rfl) ?_
          refine WP.blkNormal ?_
          refine WP.thenC ?_
          refine WC.ofFr [(3, _), (1, _), (2, _), (4, _), (5, _), (19, _), (20, _)] ⟨rfl, rfl, rfl, rfl, rfl, rfl, rfl, trivial⟩ ?_
          refine WC.region ?_
          refine WL.yd (Yd.add rfl rfl (wr64 ⟨by omega, by omega⟩)) rfl ?_
          refine WL.yd (Yd.move rfl) rfl ?_
          refine WL.nil ?_
          refine WP.again (⟨k + 1, some u1, u4⟩ : Nat × Option Ow × Ow) ⟨by simp only; omega, hu1, hu4⟩ (by simp only; omega) (fun aa ww h => ?_)
          show At _ [(1, pt b1), (2, pt b2), (3, owV (some u4) ((k + 1) + 1)), (4, .func (.func 88) #[] #[pt b1]), (5, it (at0 by_ j)), (19, it (drawV by_ (j + 4) 6)), (20, nt (k + 1))] D1 ((((u4).b, .cells (atCs by_ j (k + 1) ++ (u4).rest).toArray 3 (0, 0)) :: (b2, .cells (List.toArray [it (about by_ (at0 by_ j) (j + 1)).lo, it (about by_ (at0 by_ j) (j + 1)).hi, owV (some u1) (k + 1), .slice none 0 0]) 27 (0, 0)) :: owH (some u1) 56 (bathCs by_ j (k + 1)) []) ++ [(bc, cntO (j + 4 + 4 * (k + 1)))]) aa ww
          rw [bathCs_succ, atCs_succ]
          exact at_less h ⟨rfl, rfl, rfl, rfl, rfl, rfl, rfl, trivial⟩ (fun _ h => .tail _ (.tail _ h)) (fun h => (List.nodup_cons.1 (List.nodup_cons.1 h).2).2)
      · refine WHo.so rfl (SO.buildSlice Try.underlying52 Try.sizeOf3 Try.zeroValue3 rfl rfl rfl rfl (cs := [_]) rfl) rfl ?_
        rintro _ _ _ ⟨b42, hb42, rfl, rfl, rfl⟩ -- NEW
        refine ⟨(fun _ hI => Inv.nil hI), ?_⟩
        refine WH.one (i := 3) (by kernel_rfl) (WHo.so rfl (SO.alters (own := (_ :: ((u3).b, .cells (atCs by_ j k ++ (u3).rest).toArray 3 (0, 0)) :: (b2, .cells (List.toArray [it (about by_ (at0 by_ j) (j + 1)).lo, it (about by_ (at0 by_ j) (j + 1)).hi, owV o1 k, .slice none 0 0]) 27 (0, 0)) :: owH o1 56 (bathCs by_ j k) [])) (hpc := [(bc, cntO (j + 4 + 4 * k + 1))]) (S1 := [bc]) (fun _ h => h) (fun h => h) (fun _ h => h) (fun _ h => h) (Enters.val Try.call87 rfl rfl) (fun w1 hI => draw_g by_ bc bb _ w1 hB 2 (by omega) (j + 4 + 4 * k + 1) (by omega) hI)) rfl ?_)
        rintro _ _ _ ⟨_, _, ⟨rfl, rfl, rfl⟩, rfl⟩
        refine ⟨(fun _ hI => Inv.nil hI), ?_⟩
        refine WH.yd (i := 4) (by kernel_rfl) (fun _ o v c a w _ h => (QuietPanic.blk (QuietPanic.then (QuietPanic.then (QuietPanic.blk (QuietPanic.then QuietPanic.body))))) c o.dst v a w h) rfl (Yd.eql rfl rfl) rfl ?_
        refine WH.one (i := 7) (by kernel_rfl) (WHo.so rfl (SO.altersN (own := (_ :: ((u3).b, .cells (atCs by_ j k ++ (u3).rest).toArray 3 (0, 0)) :: (b2, .cells (List.toArray [it (about by_ (at0 by_ j) (j + 1)).lo, it (about by_ (at0 by_ j) (j + 1)).hi, owV o1 k, .slice none 0 0]) 27 (0, 0)) :: owH o1 56 (bathCs by_ j k) [])) (hpc := [(bc, cntO (j + 4 + 4 * k + 1 + 1))]) (S1 := [bc]) (fun _ h => h) (fun h => h) (fun _ h => h) (fun _ h => h) (Enters.val Try.call88 rfl rfl) (fun w1 hI => about_g (atB by_ j k) (atB_num by_ j k) by_ bc bb b1 _ w1 hB hf (j + 4 + 4 * k + 1 + 1) (by omega) hI)) rfl ?_)
        rintro _ _ _ ⟨_, _, ⟨rfl, rfl, rfl⟩, rfl⟩
        refine ⟨(fun _ hI => Inv.nil hI), ?_⟩
        refine WH.yd (i := 8) (by kernel_rfl) (fun _ o v c a w _ h => (QuietPanic.blk (QuietPanic.then (QuietPanic.then (QuietPanic.blk (QuietPanic.then QuietPanic.body))))) c o.dst v a w h) rfl (Yd.build SA56 rfl (cs := [_, _, _]) rfl) rfl ?_
        refine WH.one (i := 9) (by kernel_rfl) (WHo.so rfl (SO.buildSlice Try.underlying24 Try.sizeOf56 Try.zeroValue56 rfl rfl rfl rfl (cs := [_, _, _]) rfl) rfl ?_)
        rintro _ _ _ ⟨b38, hb38, rfl, rfl, rfl⟩ -- NEW
        refine ⟨(fun _ hI => Inv.nil hI), ?_⟩
        refine WH.one (i := 10) (by kernel_rfl) (WHo.so rfl (SO.appendOw (o := o1) (len := k) (n := 1) (xs := bathCs by_ j k) (size := 3) [] [_, _, _, _] [_] rfl rfl Try.underlying24 Try.sizeOf56 Try.typeInfo56 Try.zeroValue56 rfl rfl rfl (congrArg (fun z => _ :: _ :: _ :: _ :: z) (owH_app _ _ _ _)) ⟨rfl, .inr ⟨_, _, _, rfl, RdN.own (k := 0) (n := 3) rfl rfl⟩⟩ (oneB_spec rfl) ho1 (bathCs_len _ _ _) (by omega) (by show (2 * (_ + _) + 1000) * 24 ≤ 2 ^ 48; omega) (by omega)) rfl ?_)
        rintro _ _ _ ⟨u1, hu1, rfl, rfl, rfl⟩
        refine ⟨(fun _ hI => Inv.nil hI), ?_⟩
        refine WH.yd (i := 15) (by kernel_rfl) (fun _ o v c a w _ h => (QuietPanic.blk (QuietPanic.then (QuietPanic.then (QuietPanic.blk (QuietPanic.then QuietPanic.body))))) c o.dst v a w h) rfl (Yd.fieldAddr FA27_1 rfl) rfl ?_
        refine WH.one (i := 14) (by kernel_rfl) (WHo.so rfl (SO.appendOw (o := some u3) (len := k + 1) (n := 1) (xs := atCs by_ j k) (size := 1) [] [_, _] [_, _, _] rfl rfl Try.underlying52 Try.sizeOf3 Try.typeInfo3 Try.zeroValue3 rfl rfl rfl rfl ⟨rfl, .inr ⟨_, _, _, rfl, RdN.own (k := 1) (n := 1) rfl rfl⟩⟩ (oneB_spec rfl) ho3 (atCs_len _ _ _) (by omega) (by show (2 * (_ + _) + 1000) * 8 ≤ 2 ^ 48; omega) (by omega)) rfl ?_)
        rintro _ _ _ ⟨u4, hu4, rfl, rfl, rfl⟩
        refine ⟨(fun _ hI => Inv.nil hI), ?_⟩
        refine WH.one (i := 16) (by kernel_rfl) (WHo.so rfl (SO.store 3 rfl Try.sizeOf24 rfl rfl rfl rfl (Nat.le_of_ble_eq_true rfl) (oneB_spec rfl)) rfl ?_)
        rintro _ _ _ ⟨rfl, rfl, rfl⟩
        refine ⟨(fun _ hI => Inv.nil hI), ?_⟩
        refine WH.yd (i := 17) (by kernel_rfl) (fun _ o v c a w _ h => (QuietPanic.blk (QuietPanic.then (QuietPanic.then (QuietPanic.blk (QuietPanic.then QuietPanic.body))))) c o.dst v a w h) rfl (Yd.assign rfl) rfl ?_
        refine WH.nil (by kernel_rfl) ?_
        refine WP.blkNormal ?_
        refine WP.thenC ?_
        refine WC.ofFr [(3, _), (1, _), (2, _), (4, _), (5, _), (19, _), (20, _)] ⟨rfl, rfl, rfl, rfl, rfl, rfl, rfl, trivial⟩ ?_
        refine WC.region ?_
        refine WL.yd (Yd.add rfl rfl (wr64 ⟨by omega, by omega⟩)) rfl ?_
        refine WL.yd (Yd.move rfl) rfl ?_
        refine WL.nil ?_
        refine WP.again (⟨k + 1, some u1, u4⟩ : Nat × Option Ow × Ow) ⟨by simp only; omega, hu1, hu4⟩ (by simp only; omega) (fun aa ww h => ?_)
        show At _ [(1, pt b1), (2, pt b2), (3, owV (some u4) ((k + 1) + 1)), (4, .func (.func 88) #[] #[pt b1]), (5, it (at0 by_ j)), (19, it (drawV by_ (j + 4) 6)), (20, nt (k + 1))] D1 ((((u4).b, .cells (atCs by_ j (k + 1) ++ (u4).rest).toArray 3 (0, 0)) :: (b2, .cells (List.toArray [it (about by_ (at0 by_ j) (j + 1)).lo, it (about by_ (at0 by_ j) (j + 1)).hi, owV (some u1) (k + 1), .slice none 0 0]) 27 (0, 0)) :: owH (some u1) 56 (bathCs by_ j (k + 1)) []) ++ [(bc, cntO (j + 4 + 4 * (k + 1)))]) aa ww
        rw [bathCs_succ, atCs_succ]
        exact at_less h ⟨rfl, rfl, rfl, rfl, rfl, rfl, rfl, trivial⟩ (fun _ h => .tail _ (.tail _ h)) (fun h => (List.nodup_cons.1 (List.nodup_cons.1 h).2).2)
    · refine WHo.so rfl (SO.alters (own := (((u3).b, .cells (atCs by_ j k ++ (u3).rest).toArray 3 (0, 0)) :: (b2, .cells (List.toArray [it (about by_ (at0 by_ j) (j + 1)).lo, it (about by_ (at0 by_ j) (j + 1)).hi, owV o1 k, .slice none 0 0]) 27 (0, 0)) :: owH o1 56 (bathCs by_ j k) [])) (hpc := [(bc, cntO (j + 4 + 4 * k + 1))]) (S1 := [bc]) (fun _ h => h) (fun h => h) (fun _ h => h) (fun _ h => h) (Enters.val Try.call87 rfl rfl) (fun w1 hI => draw_g by_ bc bb _ w1 hB 2 (by omega) (j + 4 + 4 * k + 1) (by omega) hI)) rfl ?_
      rintro _ _ _ ⟨_, _, ⟨rfl, rfl, rfl⟩, rfl⟩
      refine ⟨(fun _ hI => Inv.nil hI), ?_⟩
      refine WH.yd (i := 4) (by kernel_rfl) (fun _ o v c a w _ h => (QuietPanic.blk (QuietPanic.then (QuietPanic.then (QuietPanic.blk (QuietPanic.then QuietPanic.body))))) c o.dst v a w h) rfl (Yd.eql rfl rfl) rfl ?_
      refine WH.three (i := 1) (j := 7) (k := 13) (by kernel_rfl) ?_ ?_ ?_
      · refine WHo.yd rfl (Yd.load1 Try.isAgg24 rfl (by first | exact Rd.own (k := 0) rfl rfl | exact Rd.own (k := 1) rfl rfl | exact Rd.own (k := 2) rfl rfl | exact Rd.own (k := 3) rfl rfl | exact (Rd.imm hf rfl))) rfl ?_
        refine WH.two (i := 7) (j := 13) (by kernel_rfl) ?_ ?_
        · refine WHo.so rfl (SO.altersN (own := (((u3).b, .cells (atCs by_ j k ++ (u3).rest).toArray 3 (0, 0)) :: (b2, .cells (List.toArray [it (about by_ (at0 by_ j) (j + 1)).lo, it (about by_ (at0 by_ j) (j + 1)).hi, owV o1 k, .slice none 0 0]) 27 (0, 0)) :: owH o1 56 (bathCs by_ j k) [])) (hpc := [(bc, cntO (j + 4 + 4 * k + 1 + 1))]) (S1 := [bc]) (fun _ h => h) (fun h => h) (fun _ h => h) (fun _ h => h) (Enters.val Try.call88 rfl rfl) (fun w1 hI => about_g (atB by_ j k) (atB_num by_ j k) by_ bc bb b1 _ w1 hB hf (j + 4 + 4 * k + 1 + 1) (by omega) hI)) rfl ?_
          rintro _ _ _ ⟨_, _, ⟨rfl, rfl, rfl⟩, rfl⟩
          refine ⟨(fun _ hI => Inv.nil hI), ?_⟩
          refine WH.yd (i := 8) (by kernel_rfl) (fun _ o v c a w _ h => (QuietPanic.blk (QuietPanic.then (QuietPanic.then (QuietPanic.blk (QuietPanic.then QuietPanic.body))))) c o.dst v a w h) rfl (Yd.build SA56 rfl (cs := [_, _, _]) rfl) rfl ?_
          refine WH.two (i := 9) (j := 13) (by kernel_rfl) ?_ ?_
          · refine WHo.so rfl (SO.buildSlice Try.underlying24 Try.sizeOf56 Try.zeroValue56 rfl rfl rfl rfl (cs := [_, _, _]) rfl) rfl ?_
            rintro _ _ _ ⟨b38, hb38, rfl, rfl, rfl⟩ -- NEW
            refine ⟨(fun _ hI => Inv.nil hI), ?_⟩
            refine WH.two (i := 10) (j := 13) (by kernel_rfl) ?_ ?_
            · refine WHo.so rfl (SO.appendOw (o := o1) (len := k) (n := 1) (xs := bathCs by_ j k) (size := 3) [] [_, _, _] [_] rfl rfl Try.underlying24 Try.sizeOf56 Try.typeInfo56 Try.zeroValue56 rfl rfl rfl (congrArg (fun z => _ :: _ :: _ :: z) (owH_app _ _ _ _)) ⟨rfl, .inr ⟨_, _, _, rfl, RdN.own (k := 0) (n := 3) rfl rfl⟩⟩ (oneB_spec rfl) ho1 (bathCs_len _ _ _) (by omega) (by show (2 * (_ + _) + 1000) * 24 ≤ 2 ^ 48; omega) (by omega)) rfl ?_
              rintro _ _ _ ⟨u1, hu1, rfl, rfl, rfl⟩
              refine ⟨(fun _ hI => Inv.nil hI), ?_⟩
              refine WH.yd (i := 15) (by kernel_rfl) (fun _ o v c a w _ h => (QuietPanic.blk (QuietPanic.then (QuietPanic.then (QuietPanic.blk (QuietPanic.then QuietPanic.body))))) c o.dst v a w h) rfl (Yd.fieldAddr FA27_1 rfl) rfl ?_
              refine WH.one (i := 13) (by kernel_rfl) (WHo.so rfl (SO.buildSlice Try.underlying52 Try.sizeOf3 Try.zeroValue3 rfl rfl rfl rfl (cs := [_]) rfl) rfl ?_)
              rintro _ _ _ ⟨b42, hb42, rfl, rfl, rfl⟩ -- NEW
              refine ⟨(fun _ hI => Inv.nil hI), ?_⟩
              refine WH.one (i := 14) (by kernel_rfl) (WHo.so rfl (SO.appendOw (o := some u3) (len := k + 1) (n := 1) (xs := atCs by_ j k) (size := 1) [] [_, _] [_, _, _] rfl rfl Try.underlying52 Try.sizeOf3 Try.typeInfo3 Try.zeroValue3 rfl rfl rfl rfl ⟨rfl, .inr ⟨_, _, _, rfl, RdN.own (k := 0) (n := 1) rfl rfl⟩⟩ (oneB_spec rfl) ho3 (atCs_len _ _ _) (by omega) (by show (2 * (_ + _) + 1000) * 8 ≤ 2 ^ 48; omega) (by omega)) rfl ?_)
              rintro _ _ _ ⟨u4, hu4, rfl, rfl, rfl⟩
              refine ⟨(fun _ hI => Inv.nil hI), ?_⟩
              refine WH.one (i := 16) (by kernel_rfl) (WHo.so rfl (SO.store 3 rfl Try.sizeOf24 rfl rfl rfl rfl (Nat.le_of_ble_eq_true rfl) (oneB_spec rfl)) rfl ?_)
              rintro _ _ _ ⟨rfl, rfl, rfl⟩
              refine ⟨(fun _ hI => Inv.nil hI), ?_⟩
              refine WH.yd (i := 17) (by kernel_rfl) (fun _ o v c a w _ h => (QuietPanic.blk (QuietPanic.then (QuietPanic.then (QuietPanic.blk (QuietPanic.then QuietPanic.body))))) c o.dst v a w h) rfl (Yd.assign rfl) rfl ?_
              refine WH.nil (by kernel_rfl) ?_
              refine WP.blkNormal ?_
              refine WP.thenC ?_
              refine WC.ofFr [(3, _), (1, _), (2, _), (4, _), (5, _), (19, _), (20, _)] ⟨rfl, rfl, rfl, rfl, rfl, rfl, rfl, trivial⟩ ?_
              refine WC.region ?_
              refine WL.yd (Yd.add rfl rfl (wr64 ⟨by omega, by omega⟩)) rfl ?_
              refine WL.yd (Yd.move rfl) rfl ?_
              refine WL.nil ?_
              refine WP.again (⟨k + 1, some u1, u4⟩ : Nat × Option Ow × Ow) ⟨by simp only; omega, hu1, hu4⟩ (by simp only; omega) (fun aa ww h => ?_)
              show At _ [(1, pt b1), (2, pt b2), (3, owV (some u4) ((k + 1) + 1)), (4, .func (.func 88) #[] #[pt b1]), (5, it (at0 by_ j)), (19, it (drawV by_ (j + 4) 6)), (20, nt (k + 1))] D1 ((((u4).b, .cells (atCs by_ j (k + 1) ++ (u4).rest).toArray 3 (0, 0)) :: (b2, .cells (List.toArray [it (about by_ (at0 by_ j) (j + 1)).lo, it (about by_ (at0 by_ j) (j + 1)).hi, owV (some u1) (k + 1), .slice none 0 0]) 27 (0, 0)) :: owH (some u1) 56 (bathCs by_ j (k + 1)) []) ++ [(bc, cntO (j + 4 + 4 * (k + 1)))]) aa ww
              rw [bathCs_succ, atCs_succ]
              exact at_less h ⟨rfl, rfl, rfl, rfl, rfl, rfl, rfl, trivial⟩ (fun _ h => .tail _ (.tail _ h)) (fun h => (List.nodup_cons.1 (List.nodup_cons.1 h).2).2)
            · refine WHo.so rfl (SO.buildSlice Try.underlying52 Try.sizeOf3 Try.zeroValue3 rfl rfl rfl rfl (cs := [_]) rfl) rfl ?_
              rintro _ _ _ ⟨b42, hb42, rfl, rfl, rfl⟩ -- NEW
              refine ⟨(fun _ hI => Inv.nil hI), ?_⟩
              refine WH.one (i := 10) (by kernel_rfl) (WHo.so rfl (SO.appendOw (o := o1) (len := k) (n := 1) (xs := bathCs by_ j k) (size := 3) [] [_, _, _, _] [_] rfl rfl Try.underlying24 Try.sizeOf56 Try.typeInfo56 Try.zeroValue56 rfl rfl rfl (congrArg (fun z => _ :: _ :: _ :: _ :: z) (owH_app _ _ _ _)) ⟨rfl, .inr ⟨_, _, _, rfl, RdN.own (k := 1) (n := 3) rfl rfl⟩⟩ (oneB_spec rfl) ho1 (bathCs_len _ _ _) (by omega) (by show (2 * (_ + _) + 1000) * 24 ≤ 2 ^ 48; omega) (by omega)) rfl ?_)
              rintro _ _ _ ⟨u1, hu1, rfl, rfl, rfl⟩
              refine ⟨(fun _ hI => Inv.nil hI), ?_⟩
              refine WH.yd (i := 15) (by kernel_rfl) (fun _ o v c a w _ h => (QuietPanic.blk (QuietPanic.then (QuietPanic.then (QuietPanic.blk (QuietPanic.then QuietPanic.body))))) c o.dst v a w h) rfl (Yd.fieldAddr FA27_1 rfl) rfl ?_
              refine WH.one (i := 14) (by kernel_rfl) (WHo.so rfl (SO.appendOw (o := some u3) (len := k + 1) (n := 1) (xs := atCs by_ j k) (size := 1) [] [_, _] [_, _, _] rfl rfl Try.underlying52 Try.sizeOf3 Try.typeInfo3 Try.zeroValue3 rfl rfl rfl rfl ⟨rfl, .inr ⟨_, _, _, rfl, RdN.own (k := 0) (n := 1) rfl rfl⟩⟩ (oneB_spec rfl) ho3 (atCs_len _ _ _) (by omega) (by show (2 * (_ + _) + 1000) * 8 ≤ 2 ^ 48; omega) (by omega)) rfl ?_)
              rintro _ _ _ ⟨u4, hu4, rfl, rfl, rfl⟩
              refine ⟨(fun _ hI => Inv.nil hI), ?_⟩
              refine WH.one (i := 16) (by kernel_rfl) (WHo.so rfl (SO.store 3 rfl Try.sizeOf24 rfl rfl rfl rfl (Nat.le_of_ble_eq_true rfl) (oneB_spec rfl)) rfl ?_)
              rintro _ _ _ ⟨rfl, rfl, rfl⟩
              refine ⟨(fun _ hI => Inv.nil hI), ?_⟩
              refine WH.yd (i := 17) (by kernel_rfl) (fun _ o v c a w _ h => (QuietPanic.blk (QuietPanic.then (QuietPanic.then (QuietPanic.blk (QuietPanic.then QuietPanic.body))))) c o.dst v a w h) rfl (Yd.assign rfl) rfl ?_
              refine WH.nil (by kernel_rfl) ?_
              refine WP.blkNormal ?_
              refine WP.thenC ?_
              refine WC.ofFr [(3, _), (1, _), (2, _), (4, _), (5, _), (19, _), (20, _)] ⟨rfl, rfl, rfl, rfl, rfl, rfl, rfl, trivial⟩ ?_
              refine WC.region ?_
              refine WL.yd (Yd.add rfl rfl (wr64 ⟨by omega, by omega⟩)) rfl ?_
              refine WL.yd (Yd.move rfl) rfl ?_
              refine WL.nil ?_
              refine WP.again (⟨k + 1, some u1, u4⟩ : Nat × Option Ow × Ow) ⟨by simp only; omega, hu1, hu4⟩ (by simp only; omega) (fun aa ww h => ?_)
              show At _ [(1, pt b1), (2, pt b2), (3, owV (some u4) ((k + 1) + 1)), (4, .func (.func 88) #[] #[pt b1]), (5, it (at0 by_ j)), (19, it (drawV by_ (j + 4) 6)), (20, nt (k + 1))] D1 ((((u4).b, .cells (atCs by_ j (k + 1) ++ (u4).rest).toArray 3 (0, 0)) :: (b2, .cells (List.toArray [it (about by_ (at0 by_ j) (j + 1)).lo, it (about by_ (at0 by_ j) (j + 1)).hi, owV (some u1) (k + 1), .slice none 0 0]) 27 (0, 0)) :: owH (some u1) 56 (bathCs by_ j (k + 1)) []) ++ [(bc, cntO (j + 4 + 4 * (k + 1)))]) aa ww
              rw [bathCs_succ, atCs_succ]
              exact at_less h ⟨rfl, rfl, rfl, rfl, rfl, rfl, rfl, trivial⟩ (fun _ h => .tail _ (.tail _ h)) (fun h => (List.nodup_cons.1 (List.nodup_cons.1 h).2).2)
          · refine WHo.so rfl (SO.buildSlice Try.underlying52 Try.sizeOf3 Try.zeroValue3 rfl rfl rfl rfl (cs := [_]) rfl) rfl ?_
            rintro _ _ _ ⟨b42, hb42, rfl, rfl, rfl⟩ -- NEW
            refine ⟨(fun _ hI => Inv.nil hI), ?_⟩
            refine WH.one (i := 9) (by kernel_rfl) (WHo.so rfl (SO.buildSlice Try.underlying24 Try.sizeOf56 Try.zeroValue56 rfl rfl rfl rfl (cs := [_, _, _]) rfl) rfl ?_)
            rintro _ _ _ ⟨b38, hb38, rfl, rfl, rfl⟩ -- NEW
            refine ⟨(fun _ hI => Inv.nil hI), ?_⟩
            refine WH.one (i := 10) (by kernel_rfl) (WHo.so rfl (SO.appendOw (o := o1) (len := k) (n := 1) (xs := bathCs by_ j k) (size := 3) [] [_, _, _, _] [_] rfl rfl Try.underlying24 Try.sizeOf56 Try.typeInfo56 Try.zeroValue56 rfl rfl rfl (congrArg (fun z => _ :: _ :: _ :: _ :: z) (owH_app _ _ _ _)) ⟨rfl, .inr ⟨_, _, _, rfl, RdN.own (k := 0) (n := 3) rfl rfl⟩⟩ (oneB_spec rfl) ho1 (bathCs_len _ _ _) (by omega) (by show (2 * (_ + _) + 1000) * 24 ≤ 2 ^ 48; omega) (by omega)) rfl ?_)
            rintro _ _ _ ⟨u1, hu1, rfl, rfl, rfl⟩
            refine ⟨(fun _ hI => Inv.nil hI), ?_⟩
            refine WH.yd (i := 15) (by kernel_rfl) (fun _ o v c a w _ h => (QuietPanic.blk (QuietPanic.then (QuietPanic.then (QuietPanic.blk (QuietPanic.then QuietPanic.body))))) c o.dst v a w h) rfl (Yd.fieldAddr FA27_1 rfl) rfl ?_
            refine WH.one (i := 14) (by kernel_rfl) (WHo.so rfl (SO.appendOw (o := some u3) (len := k + 1) (n := 1) (xs := atCs by_ j k) (size := 1) [] [_, _] [_, _, _] rfl rfl Try.underlying52 Try.sizeOf3 Try.typeInfo3 Try.zeroValue3 rfl rfl rfl rfl ⟨rfl, .inr ⟨_, _, _, rfl, RdN.own (k := 1) (n := 1) rfl rfl⟩⟩ (oneB_spec rfl) ho3 (atCs_len _ _ _) (by omega) (by show (2 * (_ + _) + 1000) * 8 ≤ 2 ^ 48; omega) (by omega)) rfl ?_)
            rintro _ _ _ ⟨u4, hu4, rfl, rfl, rfl⟩
            refine ⟨(fun _ hI => Inv.nil hI), ?_⟩
            refine WH.one (i := 16) (by kernel_rfl) (WHo.so rfl (SO.store 3 rfl Try.sizeOf24 rfl rfl rfl rfl (Nat.le_of_ble_eq_true rfl) (oneB_spec rfl)) rfl ?_)
            rintro _ _ _ ⟨rfl, rfl, rfl⟩
            refine ⟨(fun _ hI => Inv.nil hI), ?_⟩
            refine WH.yd (i := 17) (by kernel_rfl) (fun _ o v c a w _ h => (QuietPanic.blk (QuietPanic.then (QuietPanic.then (QuietPanic.blk (QuietPanic.then QuietPanic.body))))) c o.dst v a w h) rfl (Yd.assign rfl) rfl ?_
            refine WH.nil (by kernel_rfl) ?_
            refine WP.blkNormal ?_
            refine WP.thenC ?_
            refine WC.ofFr [(3, _), (1, _), (2, _), (4, _), (5, _), (19, _), (20, _)] ⟨rfl, rfl, rfl, rfl, rfl, rfl, rfl, trivial⟩ ?_
            refine WC.region ?_
            refine WL.yd (Yd.add rfl rfl (wr64 ⟨by omega, by omega⟩)) rfl ?_
            refine WL.yd (Yd.move rfl) rfl ?_
            refine WL.nil ?_
            refine WP.again (⟨k + 1, some u1, u4⟩ : Nat × Option Ow × Ow) ⟨by simp only; omega, hu1, hu4⟩ (by simp only; omega) (fun aa ww h => ?_)
            show At _ [(1, pt b1), (2, pt b2), (3, owV (some u4) ((k + 1) + 1)), (4, .func (.func 88) #[] #[pt b1]), (5, it (at0 by_ j)), (19, it (drawV by_ (j + 4) 6)), (20, nt (k + 1))] D1 ((((u4).b, .cells (atCs by_ j (k + 1) ++ (u4).rest).toArray 3 (0, 0)) :: (b2, .cells (List.toArray [it (about by_ (at0 by_ j) (j + 1)).lo, it (about by_ (at0 by_ j) (j + 1)).hi, owV (some u1) (k + 1), .slice none 0 0]) 27 (0, 0)) :: owH (some u1) 56 (bathCs by_ j (k + 1)) []) ++ [(bc, cntO (j + 4 + 4 * (k + 1)))]) aa ww
            rw [bathCs_succ, atCs_succ]
            exact at_less h ⟨rfl, rfl, rfl, rfl, rfl, rfl, rfl, trivial⟩ (fun _ h => .tail _ (.tail _ h)) (fun h => (List.nodup_cons.1 (List.nodup_cons.1 h).2).2)
        · refine WHo.so rfl (SO.buildSlice Try.underlying52 Try.sizeOf3 Try.zeroValue3 rfl rfl rfl rfl (cs := [_]) rfl) rfl ?_
          rintro _ _ _ ⟨b42, hb42, rfl, rfl, rfl⟩ -- NEW
          refine ⟨(fun _ hI => Inv.nil hI), ?_⟩
          refine WH.one (i := 7) (by kernel_rfl) (WHo.so rfl (SO.altersN (own := (_ :: ((u3).b, .cells (atCs by_ j k ++ (u3).rest).toArray 3 (0, 0)) :: (b2, .cells (List.toArray [it (about by_ (at0 by_ j) (j + 1)).lo, it (about by_ (at0 by_ j) (j + 1)).hi, owV o1 k, .slice none 0 0]) 27 (0, 0)) :: owH o1 56 (bathCs by_ j k) [])) (hpc := [(bc, cntO (j + 4 + 4 * k + 1 + 1))]) (S1 := [bc]) (fun _ h => h) (fun h => h) (fun _ h => h) (fun _ h => h) (Enters.val Try.call88 rfl rfl) (fun w1 hI => about_g (atB by_ j k) (atB_num by_ j k) by_ bc bb b1 _ w1 hB hf (j + 4 + 4 * k + 1 + 1) (by omega) hI)) rfl ?_)
          rintro _ _ _ ⟨_, _, ⟨rfl, rfl, rfl⟩, rfl⟩
          refine ⟨(fun _ hI => Inv.nil hI), ?_⟩
          refine WH.yd (i := 8) (by kernel_rfl) (fun _ o v c a w _ h => (QuietPanic.blk (QuietPanic.then (QuietPanic.then (QuietPanic.blk (QuietPanic.then QuietPanic.body))))) c o.dst v a w h) rfl (Yd.build SA56 rfl (cs := [_, _, _]) rfl) rfl ?_
          refine WH.one (i := 9) (by kernel_rfl) (WHo.so rfl (SO.buildSlice Try.underlying24 Try.sizeOf56 Try.zeroValue56 rfl rfl rfl rfl (cs := [_, _, _]) rfl) rfl ?_)
          rintro _ _ _ ⟨b38, hb38, rfl, rfl, rfl⟩ -- NEW
          refine ⟨(fun _ hI => Inv.nil hI), ?_⟩
          refine WH.one (i := 10) (by kernel_rfl) (WHo.so rfl (SO.appendOw (o := o1) (len := k) (n := 1) (xs := bathCs by_ j k) (size := 3) [] [_, _, _, _] [_] rfl rfl Try.underlying24 Try.sizeOf56 Try.typeInfo56 Try.zeroValue56 rfl rfl rfl (congrArg (fun z => _ :: _ :: _ :: _ :: z) (owH_app _ _ _ _)) ⟨rfl, .inr ⟨_, _, _, rfl, RdN.own (k := 0) (n := 3) rfl rfl⟩⟩ (oneB_spec rfl) ho1 (bathCs_len _ _ _) (by omega) (by show (2 * (_ + _) + 1000) * 24 ≤ 2 ^ 48; omega) (by omega)) rfl ?_)
          rintro _ _ _ ⟨u1, hu1, rfl, rfl, rfl⟩
          refine ⟨(fun _ hI => Inv.nil hI), ?_⟩
          refine WH.yd (i := 15) (by kernel_rfl) (fun _ o v c a w _ h => (QuietPanic.blk (QuietPanic.then (QuietPanic.then (QuietPanic.blk (QuietPanic.then QuietPanic.body))))) c o.dst v a w h) rfl (Yd.fieldAddr FA27_1 rfl) rfl ?_
          refine WH.one (i := 14) (by kernel_rfl) (WHo.so rfl (SO.appendOw (o := some u3) (len := k + 1) (n := 1) (xs := atCs by_ j k) (size := 1) [] [_, _] [_, _, _] rfl rfl Try.underlying52 Try.sizeOf3 Try.typeInfo3 Try.zeroValue3 rfl rfl rfl rfl ⟨rfl, .inr ⟨_, _, _, rfl, RdN.own (k := 1) (n := 1) rfl rfl⟩⟩ (oneB_spec rfl) ho3 (atCs_len _ _ _) (by omega) (by show (2 * (_ + _) + 1000) * 8 ≤ 2 ^ 48; omega) (by omega)) rfl ?_)
          rintro _ _ _ ⟨u4, hu4, rfl, rfl, rfl⟩
          refine ⟨(fun _ hI => Inv.nil hI), ?_⟩
          refine WH.one (i := 16) (by kernel_rfl) (WHo.so rfl (SO.store 3 rfl Try.sizeOf24 rfl rfl rfl rfl (Nat.le_of_ble_eq_true rfl) (oneB_spec rfl)) rfl ?_)
          rintro _ _ _ ⟨rfl, rfl, rfl⟩
          refine ⟨(fun _ hI => Inv.nil hI), ?_⟩
          refine WH.yd (i := 17) (by kernel_rfl) (fun _ o v c a w _ h => (QuietPanic.blk (QuietPanic.then (QuietPanic.then (QuietPanic.blk (QuietPanic.then QuietPanic.body))))) c o.dst v a w h) rfl (Yd.assign rfl) rfl ?_
          refine WH.nil (by kernel_rfl) ?_
          refine WP.blkNormal ?_
          refine WP.thenC ?_
          refine WC.ofFr [(3, _), (1, _), (2, _), (4, _), (5, _), (19, _), (20, _)] ⟨rfl, rfl, rfl, rfl, rfl, rfl, rfl, trivial⟩ ?_
          refine WC.region ?_
          refine WL.yd (Yd.add rfl rfl (wr64 ⟨by omega, by omega⟩)) rfl ?_
          refine WL.yd (Yd.move rfl) rfl ?_
          refine WL.nil ?_
          refine WP.again (⟨k + 1, some u1, u4⟩ : Nat × Option Ow × Ow) ⟨by simp only; omega, hu1, hu4⟩ (by simp only; omega) (fun aa ww h => ?_)
          show At _ [(1, pt b1), (2, pt b2), (3, owV (some u4) ((k + 1) + 1)), (4, .func (.func 88) #[] #[pt b1]), (5, it (at0 by_ j)), (19, it (drawV by_ (j + 4) 6)), (20, nt (k + 1))] D1 ((((u4).b, .cells (atCs by_ j (k + 1) ++ (u4).rest).toArray 3 (0, 0)) :: (b2, .cells (List.toArray [it (about by_ (at0 by_ j) (j + 1)).lo, it (about by_ (at0 by_ j) (j + 1)).hi, owV (some u1) (k + 1), .slice none 0 0]) 27 (0, 0)) :: owH (some u1) 56 (bathCs by_ j (k + 1)) []) ++ [(bc, cntO (j + 4 + 4 * (k + 1)))]) aa ww
          rw [bathCs_succ, atCs_succ]
          exact at_less h ⟨rfl, rfl, rfl, rfl, rfl, rfl, rfl, trivial⟩ (fun _ h => .tail _ (.tail _ h)) (fun h => (List.nodup_cons.1 (List.nodup_cons.1 h).2).2)
      · refine WHo.so rfl (SO.altersN (own := (((u3).b, .cells (atCs by_ j k ++ (u3).rest).toArray 3 (0, 0)) :: (b2, .cells (List.toArray [it (about by_ (at0 by_ j) (j + 1)).lo, it (about by_ (at0 by_ j) (j + 1)).hi, owV o1 k, .slice none 0 0]) 27 (0, 0)) :: owH o1 56 (bathCs by_ j k) [])) (hpc := [(bc, cntO (j + 4 + 4 * k + 1 + 1))]) (S1 := [bc]) (fun _ h => h) (fun h => h) (fun _ h => h) (fun _ h => h) (Enters.val Try.call88 rfl rfl) (fun w1 hI => about_g (atB by_ j k) (atB_num by_ j k) by_ bc bb b1 _ w1 hB hf (j + 4 + 4 * k + 1 + 1) (by omega) hI)) rfl ?_
        rintro _ _ _ ⟨_, _, ⟨rfl, rfl, rfl⟩, rfl⟩
        refine ⟨(fun _ hI => Inv.nil hI), ?_⟩
        refine WH.yd (i := 8) (by kernel_rfl) (fun _ o v c a w _ h => (QuietPanic.blk (QuietPanic.then (QuietPanic.then (QuietPanic.blk (QuietPanic.then QuietPanic.body))))) c o.dst v a w h) rfl (Yd.build SA56 rfl (cs := [_, _, _]) rfl) rfl ?_
        refine WH.three (i := 1) (j := 9) (k := 13) (by kernel_rfl) ?_ ?_ ?_
        · refine WHo.yd rfl (Yd.load1 Try.isAgg24 rfl (by first | exact Rd.own (k := 0) rfl rfl | exact Rd.own (k := 1) rfl rfl | exact Rd.own (k := 2) rfl rfl | exact Rd.own (k := 3) rfl rfl | exact (Rd.imm hf rfl))) rfl ?_
          refine WH.two (i := 9) (j := 13) (by kernel_rfl) ?_ ?_
          · refine WHo.so rfl (SO.buildSlice Try.underlying24 Try.sizeOf56 Try.zeroValue56 rfl rfl rfl rfl (cs := [_, _, _]) rfl) rfl ?_
            rintro _ _ _ ⟨b38, hb38, rfl, rfl, rfl⟩ -- NEW
            refine ⟨(fun _ hI => Inv.nil hI), ?_⟩
            refine WH.two (i := 10) (j := 13) (by kernel_rfl) ?_ ?_
            · refine WHo.so rfl (SO.appendOw (o := o1) (len := k) (n := 1) (xs := bathCs by_ j k) (size := 3) [] [_, _, _] [_] rfl rfl Try.underlying24 Try.sizeOf56 Try.typeInfo56 Try.zeroValue56 rfl rfl rfl (congrArg (fun z => _ :: _ :: _ :: z) (owH_app _ _ _ _)) ⟨rfl, .inr ⟨_, _, _, rfl, RdN.own (k := 0) (n := 3) rfl rfl⟩⟩ (oneB_spec rfl) ho1 (bathCs_len _ _ _) (by omega) (by show (2 * (_ + _) + 1000) * 24 ≤ 2 ^ 48; omega) (by omega)) rfl ?_
              rintro _ _ _ ⟨u1, hu1, rfl, rfl, rfl⟩
              refine ⟨(fun _ hI => Inv.nil hI), ?_⟩
              refine WH.yd (i := 15) (by kernel_rfl) (fun _ o v c a w _ h => (QuietPanic.blk (QuietPanic.then (QuietPanic.then (QuietPanic.blk (QuietPanic.then QuietPanic.body))))) c o.dst v a w h) rfl (Yd.fieldAddr FA27_1 rfl) rfl ?_
              refine WH.one (i := 13) (by kernel_rfl) (WHo.so rfl (SO.buildSlice Try.underlying52 Try.sizeOf3 Try.zeroValue3 rfl rfl rfl rfl (cs := [_]) rfl) rfl ?_)
              rintro _ _ _ ⟨b42, hb42, rfl, rfl, rfl⟩ -- NEW
              refine ⟨(fun _ hI => Inv.nil hI), ?_⟩
              refine WH.one (i := 14) (by kernel_rfl) (WHo.so rfl (SO.appendOw (o := some u3) (len := k + 1) (n := 1) (xs := atCs by_ j k) (size := 1) [] [_, _] [_, _, _] rfl rfl Try.underlying52 Try.sizeOf3 Try.typeInfo3 Try.zeroValue3 rfl rfl rfl rfl ⟨rfl, .inr ⟨_, _, _, rfl, RdN.own (k := 0) (n := 1) rfl rfl⟩⟩ (oneB_spec rfl) ho3 (atCs_len _ _ _) (by omega) (by show (2 * (_ + _) + 1000) * 8 ≤ 2 ^ 48; omega) (by omega)) rfl ?_)
              rintro _ _ _ ⟨u4, hu4, rfl, rfl, rfl⟩
              refine ⟨(fun _ hI => Inv.nil hI), ?_⟩
              refine WH.one (i := 16) (by kernel_rfl) (WHo.so rfl (SO.store 3 rfl Try.sizeOf24 rfl rfl rfl rfl (Nat.le_of_ble_eq_true rfl) (oneB_spec rfl)) rfl ?_)
              rintro _ _ _ ⟨rfl, rfl, rfl⟩
              refine ⟨(fun _ hI => Inv.nil hI), ?_⟩
              refine WH.yd (i := 17) (by kernel_rfl) (fun _ o v c a w _ h => (QuietPanic.blk (QuietPanic.then (QuietPanic.then (QuietPanic.blk (QuietPanic.then QuietPanic.body))))) c o.dst v a w h) rfl (Yd.assign rfl) rfl ?_
              refine WH.nil (by kernel_rfl) ?_
              refine WP.blkNormal ?_
              refine WP.thenC ?_
              refine WC.ofFr [(3, _), (1, _), (2, _), (4, _), (5, _), (19, _), (20, _)] ⟨rfl, rfl, rfl, rfl, rfl, rfl, rfl, trivial⟩ ?_
              refine WC.region ?_
              refine WL.yd (Yd.add rfl rfl (wr64 ⟨by omega, by omega⟩)) rfl ?_
              refine WL.yd (Yd.move rfl) rfl ?_
              refine WL.nil ?_
              refine WP.again (⟨k + 1, some u1, u4⟩ : Nat × Option Ow × Ow) ⟨by simp only; omega, hu1, hu4⟩ (by simp only; omega) (fun aa ww h => ?_)
              show At _ [(1, pt b1), (2, pt b2), (3, owV (some u4) ((k + 1) + 1)), (4, .func (.func 88) #[] #[pt b1]), (5, it (at0 by_ j)), (19, it (drawV by_ (j + 4) 6)), (20, nt (k + 1))] D1 ((((u4).b, .cells (atCs by_ j (k + 1) ++ (u4).rest).toArray 3 (0, 0)) :: (b2, .cells (List.toArray [it (about by_ (at0 by_ j) (j + 1)).lo, it (about by_ (at0 by_ j) (j + 1)).hi, owV (some u1) (k + 1), .slice none 0 0]) 27 (0, 0)) :: owH (some u1) 56 (bathCs by_ j (k + 1)) []) ++ [(bc, cntO (j + 4 + 4 * (k + 1)))]) aa ww
              rw [bathCs_succ, atCs_succ]
              exact at_less h ⟨rfl, rfl, rfl, rfl, rfl, rfl, rfl, trivial⟩ (fun _ h => .tail _ (.tail _ h)) (fun h => (List.nodup_cons.1 (List.nodup_cons.1 h).2).2)
            · refine WHo.so rfl (SO.buildSlice Try.underlying52 Try.sizeOf3 Try.zeroValue3 rfl rfl rfl rfl (cs := [_]) rfl) rfl ?_
              rintro _ _ _ ⟨b42, hb42, rfl, rfl, rfl⟩ -- NEW
              refine ⟨(fun _ hI => Inv.nil hI), ?_⟩
              refine WH.one (i := 10) (by kernel_rfl) (WHo.so rfl (SO.appendOw (o := o1) (len := k) (n := 1) (xs := bathCs by_ j k) (size := 3) [] [_, _, _, _] [_] rfl rfl Try.underlying24 Try.sizeOf56 Try.typeInfo56 Try.zeroValue56 rfl rfl rfl (congrArg (fun z => _ :: _ :: _ :: _ :: z) (owH_app _ _ _ _)) ⟨rfl, .inr ⟨_, _, _, rfl, RdN.own (k := 1) (n := 3) rfl rfl⟩⟩ (oneB_spec rfl) ho1 (bathCs_len _ _ _) (by omega) (by show (2 * (_ + _) + 1000) * 24 ≤ 2 ^ 48; omega) (by omega)) rfl ?_)
              rintro _ _ _ ⟨u1, hu1, rfl, rfl, rfl⟩
              refine ⟨(fun _ hI => Inv.nil hI), ?_⟩
              refine WH.yd (i := 15) (by kernel_rfl) (fun _ o v c a w _ h => (QuietPanic.blk (QuietPanic.then (QuietPanic.then (QuietPanic.blk (QuietPanic.then QuietPanic.body))))) c o.dst v a w h) rfl (Yd.fieldAddr FA27_1 rfl) rfl ?_
              refine WH.one (i := 14) (by kernel_rfl) (WHo.so rfl (SO.appendOw (o := some u3) (len := k + 1) (n := 1) (xs := atCs by_ j k) (size := 1) [] [_, _] [_, _, _] rfl rfl Try.underlying52 Try.sizeOf3 Try.typeInfo3 Try.zeroValue3 rfl rfl rfl rfl ⟨rfl, .inr ⟨_, _, _, rfl, RdN.own (k := 0) (n := 1) rfl rfl⟩⟩ (oneB_spec rfl) ho3 (atCs_len _ _ _) (by omega) (by show (2 * (_ + _) + 1000) * 8 ≤ 2 ^ 48; omega) (by omega)) rfl ?_)
              rintro _ _ _ ⟨u4, hu4, rfl, rfl, rfl⟩
              refine ⟨(fun _ hI => Inv.nil hI), ?_⟩
              refine WH.one (i := 16) (by kernel_rfl) (WHo.so rfl (SO.store 3 rfl Try.sizeOf24 rfl rfl rfl rfl (Nat.le_of_ble_eq_true rfl) (oneB_spec rfl)) rfl ?_)
              rintro _ _ _ ⟨rfl, rfl, rfl⟩
              refine ⟨(fun _ hI => Inv.nil hI), ?_⟩
              refine WH.yd (i := 17) (by kernel_rfl) (fun _ o v c a w _ h => (QuietPanic.blk (QuietPanic.then (QuietPanic.then (QuietPanic.blk (QuietPanic.then QuietPanic.body))))) c o.dst v a w h) rfl (Yd.assign rfl) rfl ?_
              refine WH.nil (by kernel_rfl) ?_
              refine WP.blkNormal ?_
              refine WP.thenC ?_
              refine WC.ofFr [(3, _), (1, _), (2, _), (4, _), (5, _), (19, _), (20, _)] ⟨rfl, rfl, rfl, rfl, rfl, rfl, rfl, trivial⟩ ?_
              refine WC.region ?_
              refine WL.yd (Yd.add rfl rfl (wr64 ⟨by omega, by omega⟩)) rfl ?_
              refine WL.yd (Yd.move rfl) rfl ?_
              refine WL.nil ?_
              refine WP.again (⟨k + 1, some u1, u4⟩ : Nat × Option Ow × Ow) ⟨by simp only; omega, hu1, hu4⟩ (by simp only; omega) (fun aa ww h => ?_)
              show At _ [(1, pt b1), (2, pt b2), (3, owV (some u4) ((k + 1) + 1)), (4, .func (.func 88) #[] #[pt b1]), (5, it (at0 by_ j)), (19, it (drawV by_ (j + 4) 6)), (20, nt (k + 1))] D1 ((((u4).b, .cells (atCs by_ j (k + 1) ++ (u4).rest).toArray 3 (0, 0)) :: (b2, .cells (List.toArray [it (about by_ (at0 by_ j) (j + 1)).lo, it (about by_ (at0 by_ j) (j + 1)).hi, owV (some u1) (k + 1), .slice none 0 0]) 27 (0, 0)) :: owH (some u1) 56 (bathCs by_ j (k + 1)) []) ++ [(bc, cntO (j + 4 + 4 * (k + 1)))]) aa ww
              rw [bathCs_succ, atCs_succ]
              exact at_less h ⟨rfl, rfl, rfl, rfl, rfl, rfl, rfl, trivial⟩ (fun _ h => .tail _ (.tail _ h)) (fun h => (List.nodup_cons.1 (List.nodup_cons.1 h).2).2)
          · refine WHo.so rfl (SO.buildSlice Try.underlying52 Try.sizeOf3 Try.zeroValue3 rfl rfl rfl rfl (cs := [_]) rfl) rfl ?_
            rintro _ _ _ ⟨b42, hb42, rfl, rfl, rfl⟩ -- NEW
            refine ⟨(fun _ hI => Inv.nil hI), ?_⟩
            refine WH.one (i := 9) (by kernel_rfl) (WHo.so rfl (SO.buildSlice Try.underlying24 Try.sizeOf56 Try.zeroValue56 rfl rfl rfl rfl (cs := [_, _, _]) rfl) rfl ?_)
            rintro _ _ _ ⟨b38, hb38, rfl, rfl, rfl⟩ -- NEW
            refine ⟨(fun _ hI => Inv.nil hI), ?_⟩
            refine WH.one (i := 10) (by kernel_rfl) (WHo.so rfl (SO.appendOw (o := o1) (len := k) (n := 1) (xs := bathCs by_ j k) (size := 3) [] [_, _, _, _] [_] rfl rfl Try.underlying24 Try.sizeOf56 Try.typeInfo56 Try.zeroValue56 rfl rfl rfl (congrArg (fun z => _ :: _ :: _ :: _ :: z) (owH_app _ _ _ _)) ⟨rfl, .inr ⟨_, _, _, rfl, RdN.own (k := 0) (n := 3) rfl rfl⟩⟩ (oneB_spec rfl) ho1 (bathCs_len _ _ _) (by omega) (by show (2 * (_ + _) + 1000) * 24 ≤ 2 ^ 48; omega) (by omega)) rfl ?_)
            rintro _ _ _ ⟨u1, hu1, rfl, rfl, rfl⟩
            refine ⟨(fun _ hI => Inv.nil hI), ?_⟩
            refine WH.yd (i := 15) (by kernel_rfl) (fun _ o v c a w _ h => (QuietPanic.blk (QuietPanic.then (QuietPanic.then (QuietPanic.blk (QuietPanic.then QuietPanic.body))))) c o.dst v a w h) rfl (Yd.fieldAddr FA27_1 rfl) rfl ?_
            refine WH.one (i := 14) (by kernel_rfl) (WHo.so rfl (SO.appendOw (o := some u3) (len := k + 1) (n := 1) (xs := atCs by_ j k) (size := 1) [] [_, _] [_, _, _] rfl rfl Try.underlying52 Try.sizeOf3 Try.typeInfo3 Try.zeroValue3 rfl rfl rfl rfl ⟨rfl, .inr ⟨_, _, _, rfl, RdN.own (k := 1) (n := 1) rfl rfl⟩⟩ (oneB_spec rfl) ho3 (atCs_len _ _ _) (by omega) (by show (2 * (_ + _) + 1000) * 8 ≤ 2 ^ 48; omega) (by omega)) rfl ?_)
            rintro _ _ _ ⟨u4, hu4, rfl, rfl, rfl⟩
            refine ⟨(fun _ hI => Inv.nil hI), ?_⟩
            refine WH.one (i := 16) (by kernel_rfl) (WHo.so rfl (SO.store 3 rfl Try.sizeOf24 rfl rfl rfl rfl (Nat.le_of_ble_eq_true rfl) (oneB_spec rfl)) rfl ?_)
            rintro _ _ _ ⟨rfl, rfl, rfl⟩
            refine ⟨(fun _ hI => Inv.nil hI), ?_⟩
            refine WH.yd (i := 17) (by kernel_rfl) (fun _ o v c a w _ h => (QuietPanic.blk (QuietPanic.then (QuietPanic.then (QuietPanic.blk (QuietPanic.then QuietPanic.body))))) c o.dst v a w h) rfl (Yd.assign rfl) rfl ?_
            refine WH.nil (by kernel_rfl) ?_
            refine WP.blkNormal ?_
            refine WP.thenC ?_
            refine WC.ofFr [(3, _), (1, _), (2, _), (4, _), (5, _), (19, _), (20, _)] ⟨rfl, rfl, rfl, rfl, rfl, rfl, rfl, trivial⟩ ?_
            refine WC.region ?_
            refine WL.yd (Yd.add rfl rfl (wr64 ⟨by omega, by omega⟩)) rfl ?_
            refine WL.yd (Yd.move rfl) rfl ?_
            refine WL.nil ?_
            refine WP.again (⟨k + 1, some u1, u4⟩ : Nat × Option Ow × Ow) ⟨by simp only; omega, hu1, hu4⟩ (by simp only; omega) (fun aa ww h => ?_)
            show At _ [(1, pt b1), (2, pt b2), (3, owV (some u4) ((k + 1) + 1)), (4, .func (.func 88) #[] #[pt b1]), (5, it (at0 by_ j)), (19, it (drawV by_ (j + 4) 6)), (20, nt (k + 1))] D1 ((((u4).b, .cells (atCs by_ j (k + 1) ++ (u4).rest).toArray 3 (0, 0)) :: (b2, .cells (List.toArray [it (about by_ (at0 by_ j) (j + 1)).lo, it (about by_ (at0 by_ j) (j + 1)).hi, owV (some u1) (k + 1), .slice none 0 0]) 27 (0, 0)) :: owH (some u1) 56 (bathCs by_ j (k + 1)) []) ++ [(bc, cntO (j + 4 + 4 * (k + 1)))]) aa ww
            rw [bathCs_succ, atCs_succ]
            exact at_less h ⟨rfl, rfl, rfl, rfl, rfl, rfl, rfl, trivial⟩ (fun _ h => .tail _ (.tail _ h)) (fun h => (List.nodup_cons.1 (List.nodup_cons.1 h).2).2)
        · refine WHo.so rfl (SO.buildSlice Try.underlying24 Try.sizeOf56 Try.zeroValue56 rfl rfl rfl rfl (cs := [_, _, _]) rfl) rfl ?_
          rintro _ _ _ ⟨b38, hb38, rfl, rfl, rfl⟩ -- NEW
          refine ⟨(fun _ hI => Inv.nil hI), ?_⟩
          refine WH.two (i := 1) (j := 13) (by kernel_rfl) ?_ ?_
          · refine WHo.yd rfl (Yd.load1 Try.isAgg24 rfl (by first | exact Rd.own (k := 0) rfl rfl | exact Rd.own (k := 1) rfl rfl | exact Rd.own (k := 2) rfl rfl | exact Rd.own (k := 3) rfl rfl | exact Rd.own (k := 4) rfl rfl | exact (Rd.imm hf rfl))) rfl ?_
            refine WH.two (i := 10) (j := 13) (by kernel_rfl) ?_ ?_
            · refine WHo.so rfl (SO.appendOw (o := o1) (len := k) (n := 1) (xs := bathCs by_ j k) (size := 3) [] [_, _, _] [_] rfl rfl Try.underlying24 Try.sizeOf56 Try.typeInfo56 Try.zeroValue56 rfl rfl rfl (congrArg (fun z => _ :: _ :: _ :: z) (owH_app _ _ _ _)) ⟨rfl, .inr ⟨_, _, _, rfl, RdN.own (k := 0) (n := 3) rfl rfl⟩⟩ (oneB_spec rfl) ho1 (bathCs_len _ _ _) (by omega) (by show (2 * (_ + _) + 1000) * 24 ≤ 2 ^ 48; omega) (by omega)) rfl ?_
              rintro _ _ _ ⟨u1, hu1, rfl, rfl, rfl⟩
              refine ⟨(fun _ hI => Inv.nil hI), ?_⟩
              refine WH.yd (i := 15) (by kernel_rfl) (fun _ o v c a w _ h => (QuietPanic.blk (QuietPanic.then (QuietPanic.then (QuietPanic.blk (QuietPanic.then QuietPanic.body))))) c o.dst v a w h) rfl (Yd.fieldAddr FA27_1 rfl) rfl ?_
              refine WH.one (i := 13) (by kernel_rfl) (WHo.so rfl (SO.buildSlice Try.underlying52 Try.sizeOf3 Try.zeroValue3 rfl rfl rfl rfl (cs := [_]) rfl) rfl ?_)
              rintro _ _ _ ⟨b42, hb42, rfl, rfl, rfl⟩ -- NEW
              refine ⟨(fun _ hI => Inv.nil hI), ?_⟩
              refine WH.one (i := 14) (by kernel_rfl) (WHo.so rfl (SO.appendOw (o := some u3) (len := k + 1) (n := 1) (xs := atCs by_ j k) (size := 1) [] [_, _] [_, _, _] rfl rfl Try.underlying52 Try.sizeOf3 Try.typeInfo3 Try.zeroValue3 rfl rfl rfl rfl ⟨rfl, .inr ⟨_, _, _, rfl, RdN.own (k := 0) (n := 1) rfl rfl⟩⟩ (oneB_spec rfl) ho3 (atCs_len _ _ _) (by omega) (by show (2 * (_ + _) + 1000) * 8 ≤ 2 ^ 48; omega) (by omega)) rfl ?_)
              rintro _ _ _ ⟨u4, hu4, rfl, rfl, rfl⟩
              refine ⟨(fun _ hI => Inv.nil hI), ?_⟩
              refine WH.one (i := 16) (by kernel_rfl) (WHo.so rfl (SO.store 3 rfl Try.sizeOf24 rfl rfl rfl rfl (Nat.le_of_ble_eq_true rfl) (oneB_spec rfl)) rfl ?_)
              rintro _ _ _ ⟨rfl, rfl, rfl⟩
              refine ⟨(fun _ hI => Inv.nil hI), ?_⟩
              refine WH.yd (i := 17) (by kernel_rfl) (fun _ o v c a w _ h => (QuietPanic.blk (QuietPanic.then (QuietPanic.then (QuietPanic.blk (QuietPanic.then QuietPanic.body))))) c o.dst v a w h) rfl (Yd.assign rfl) rfl ?_
              refine WH.nil (by kernel_rfl) ?_
              refine WP.blkNormal ?_
              refine WP.thenC ?_
              refine WC.ofFr [(3, _), (1, _), (2, _), (4, _), (5, _), (19, _), (20, _)] ⟨rfl, rfl, rfl, rfl, rfl, rfl, rfl, trivial⟩ ?_
              refine WC.region ?_
              refine WL.yd (Yd.add rfl rfl (wr64 ⟨by omega, by omega⟩)) rfl ?_
              refine WL.yd (Yd.move rfl) rfl ?_
              refine WL.nil ?_
              refine WP.again (⟨k + 1, some u1, u4⟩ : Nat × Option Ow × Ow) ⟨by simp only; omega, hu1, hu4⟩ (by simp only; omega) (fun aa ww h => ?_)
              show At _ [(1, pt b1), (2, pt b2), (3, owV (some u4) ((k + 1) + 1)), (4, .func (.func 88) #[] #[pt b1]), (5, it (at0 by_ j)), (19, it (drawV by_ (j + 4) 6)), (20, nt (k + 1))] D1 ((((u4).b, .cells (atCs by_ j (k + 1) ++ (u4).rest).toArray 3 (0, 0)) :: (b2, .cells (List.toArray [it (about by_ (at0 by_ j) (j + 1)).lo, it (about by_ (at0 by_ j) (j + 1)).hi, owV (some u1) (k + 1), .slice none 0 0]) 27 (0, 0)) :: owH (some u1) 56 (bathCs by_ j (k + 1)) []) ++ [(bc, cntO (j + 4 + 4 * (k + 1)))]) aa ww
              rw [bathCs_succ, atCs_succ]
              exact at_less h ⟨rfl, rfl, rfl, rfl, rfl, rfl, rfl, trivial⟩ (fun _ h => .tail _ (.tail _ h)) (fun h => (List.nodup_cons.1 (List.nodup_cons.1 h).2).2)
            · refine WHo.so rfl (SO.buildSlice Try.underlying52 Try.sizeOf3 Try.zeroValue3 rfl rfl rfl rfl (cs := [_]) rfl) rfl ?_
              rintro _ _ _ ⟨b42, hb42, rfl, rfl, rfl⟩ -- NEW
              refine ⟨(fun _ hI => Inv.nil hI), ?_⟩
              refine WH.one (i := 10) (by kernel_rfl) (WHo.so rfl (SO.appendOw (o := o1) (len := k) (n := 1) (xs := bathCs by_ j k) (size := 3) [] [_, _, _, _] [_] rfl rfl Try.underlying24 Try.sizeOf56 Try.typeInfo56 Try.zeroValue56 rfl rfl rfl (congrArg (fun z => _ :: _ :: _ :: _ :: z) (owH_app _ _ _ _)) ⟨rfl, .inr ⟨_, _, _, rfl, RdN.own (k := 1) (n := 3) rfl rfl⟩⟩ (oneB_spec rfl) ho1 (bathCs_len _ _ _) (by omega) (by show (2 * (_ + _) + 1000) * 24 ≤ 2 ^ 48; omega) (by omega)) rfl ?_)
              rintro _ _ _ ⟨u1, hu1, rfl, rfl, rfl⟩
              refine ⟨(fun _ hI => Inv.nil hI), ?_⟩
              refine WH.yd (i := 15) (by kernel_rfl) (fun _ o v c a w _ h => (QuietPanic.blk (QuietPanic.then (QuietPanic.then (QuietPanic.blk (QuietPanic.then QuietPanic.body))))) c o.dst v a w h) rfl (Yd.fieldAddr FA27_1 rfl) rfl ?_
              refine WH.one (i := 14) (by kernel_rfl) (WHo.so rfl (SO.appendOw (o := some u3) (len := k + 1) (n := 1) (xs := atCs by_ j k) (size := 1) [] [_, _] [_, _, _] rfl rfl Try.underlying52 Try.sizeOf3 Try.typeInfo3 Try.zeroValue3 rfl rfl rfl rfl ⟨rfl, .inr ⟨_, _, _, rfl, RdN.own (k := 0) (n := 1) rfl rfl⟩⟩ (oneB_spec rfl) ho3 (atCs_len _ _ _) (by omega) (by show (2 * (_ + _) + 1000) * 8 ≤ 2 ^ 48; omega) (by omega)) rfl ?_)
              rintro _ _ _ ⟨u4, hu4, rfl, rfl, rfl⟩
              refine ⟨(fun _ hI => Inv.nil hI), ?_⟩
              refine WH.one (i := 16) (by kernel_rfl) (WHo.so rfl (SO.store 3 rfl Try.sizeOf24 rfl rfl rfl rfl (Nat.le_of_ble_eq_true rfl) (oneB_spec rfl)) rfl ?_)
              rintro _ _ _ ⟨rfl, rfl, rfl⟩
              refine ⟨(fun _ hI => Inv.nil hI), ?_⟩
              refine WH.yd (i := 17) (by kernel_rfl) (fun _ o v c a w _ h => (QuietPanic.blk (QuietPanic.then (QuietPanic.then (QuietPanic.blk (QuietPanic.then QuietPanic.body))))) c o.dst v a w h) rfl (Yd.assign rfl) rfl ?_
              refine WH.nil (by kernel_rfl) ?_
              refine WP.blkNormal ?_
              refine WP.thenC ?_
              refine WC.ofFr [(3, _), (1, _), (2, _), (4, _), (5, _), (19, _), (20, _)] ⟨rfl, rfl, rfl, rfl, rfl, rfl, rfl, trivial⟩ ?_
              refine WC.region ?_
              refine WL.yd (Yd.add rfl rfl (wr64 ⟨by omega, by omega⟩)) rfl ?_
              refine WL.yd (Yd.move rfl) rfl ?_
              refine WL.nil ?_
              refine WP.again (⟨k + 1, some u1, u4⟩ : Nat × Option Ow × Ow) ⟨by simp only; omega, hu1, hu4⟩ (by simp only; omega) (fun aa ww h => ?_)
              show At _ [(1, pt b1), (2, pt b2), (3, owV (some u4) ((k + 1) + 1)), (4, .func (.func 88) #[] #[pt b1]), (5, it (at0 by_ j)), (19, it (drawV by_ (j + 4) 6)), (20, nt (k + 1))] D1 ((((u4).b, .cells (atCs by_ j (k + 1) ++ (u4).rest).toArray 3 (0, 0)) :: (b2, .cells (List.toArray [it (about by_ (at0 by_ j) (j + 1)).lo, it (about by_ (at0 by_ j) (j + 1)).hi, owV (some u1) (k + 1), .slice none 0 0]) 27 (0, 0)) :: owH (some u1) 56 (bathCs by_ j (k + 1)) []) ++ [(bc, cntO (j + 4 + 4 * (k + 1)))]) aa ww
              rw [bathCs_succ, atCs_succ]
              exact at_less h ⟨rfl, rfl, rfl, rfl, rfl, rfl, rfl, trivial⟩ (fun _ h => .tail _ (.tail _ h)) (fun h => (List.nodup_cons.1 (List.nodup_cons.1 h).2).2)
          · refine WHo.so rfl (SO.buildSlice Try.underlying52 Try.sizeOf3 Try.zeroValue3 rfl rfl rfl rfl (cs := [_]) rfl) rfl ?_
            rintro _ _ _ ⟨b42, hb42, rfl, rfl, rfl⟩ -- NEW
            refine ⟨(fun _ hI => Inv.nil hI), ?_⟩
            refine WH.one (i := 1) (by kernel_rfl) (WHo.yd rfl (Yd.load1 Try.isAgg24 rfl (by first | exact Rd.own (k := 0) rfl rfl | exact Rd.own (k := 1) rfl rfl | exact Rd.own (k := 2) rfl rfl | exact Rd.own (k := 3) rfl rfl | exact Rd.own (k := 4) rfl rfl | exact Rd.own (k := 5) rfl rfl | exact (Rd.imm hf rfl))) rfl ?_)
            refine WH.one (i := 10) (by kernel_rfl) (WHo.so rfl (SO.appendOw (o := o1) (len := k) (n := 1) (xs := bathCs by_ j k) (size := 3) [] [_, _, _, _] [_] rfl rfl Try.underlying24 Try.sizeOf56 Try.typeInfo56 Try.zeroValue56 rfl rfl rfl (congrArg (fun z => _ :: _ :: _ :: _ :: z) (owH_app _ _ _ _)) ⟨rfl, .inr ⟨_, _, _, rfl, RdN.own (k := 1) (n := 3) rfl rfl⟩⟩ (oneB_spec rfl) ho1 (bathCs_len _ _ _) (by omega) (by show (2 * (_ + _) + 1000) * 24 ≤ 2 ^ 48; omega) (by omega)) rfl ?_)
            rintro _ _ _ ⟨u1, hu1, rfl, rfl, rfl⟩
            refine ⟨(fun _ hI => Inv.nil hI), ?_⟩
            refine WH.yd (i := 15) (by kernel_rfl) (fun _ o v c a w _ h => (QuietPanic.blk (QuietPanic.then (QuietPanic.then (QuietPanic.blk (QuietPanic.then QuietPanic.body))))) c o.dst v a w h) rfl (Yd.fieldAddr FA27_1 rfl) rfl ?_
            refine WH.one (i := 14) (by kernel_rfl) (WHo.so rfl (SO.appendOw (o := some u3) (len := k + 1) (n := 1) (xs := atCs by_ j k) (size := 1) [] [_, _] [_, _, _] rfl rfl Try.underlying52 Try.sizeOf3 Try.typeInfo3 Try.zeroValue3 rfl rfl rfl rfl ⟨rfl, .inr ⟨_, _, _, rfl, RdN.own (k := 0) (n := 1) rfl rfl⟩⟩ (oneB_spec rfl) ho3 (atCs_len _ _ _) (by omega) (by show (2 * (_ + _) + 1000) * 8 ≤ 2 ^ 48; omega) (by omega)) rfl ?_)
            rintro _ _ _ ⟨u4, hu4, rfl, rfl, rfl⟩
            refine ⟨(fun _ hI => Inv.nil hI), ?_⟩
            refine WH.one (i := 16) (by kernel_rfl) (WHo.so rfl (SO.store 3 rfl Try.sizeOf24 rfl rfl rfl rfl (Nat.le_of_ble_eq_true rfl) (oneB_spec rfl)) rfl ?_)
            rintro _ _ _ ⟨rfl, rfl, rfl⟩
            refine ⟨(fun _ hI => Inv.nil hI), ?_⟩
            refine WH.yd (i := 17) (by kernel_rfl) (fun _ o v c a w _ h => (QuietPanic.blk (QuietPanic.then (QuietPanic.then (QuietPanic.blk (QuietPanic.then QuietPanic.body))))) c o.dst v a w h) rfl (Yd.assign rfl) rfl ?_
            refine WH.nil (by kernel_rfl) ?_
            refine WP.blkNormal ?_
            refine WP.thenC ?_
            refine WC.ofFr [(3, _), (1, _), (2, _), (4, _), (5, _), (19, _), (20, _)] ⟨rfl, rfl, rfl, rfl, rfl, rfl, rfl, trivial⟩ ?_
            refine WC.region ?_
            refine WL.yd (Yd.add rfl rfl (wr64 ⟨by omega, by omega⟩)) rfl ?_
            refine WL.yd (Yd.move rfl) rfl ?_
            refine WL.nil ?_
            refine WP.again (⟨k + 1, some u1, u4⟩ : Nat × Option Ow × Ow) ⟨by simp only; omega, hu1, hu4⟩ (by simp only; omega) (fun aa ww h => ?_)
            show At _ [(1, pt b1), (2, pt b2), (3, owV (some u4) ((k + 1) + 1)), (4, .func (.func 88) #[] #[pt b1]), (5, it (at0 by_ j)), (19, it (drawV by_ (j + 4) 6)), (20, nt (k + 1))] D1 ((((u4).b, .cells (atCs by_ j (k + 1) ++ (u4).rest).toArray 3 (0, 0)) :: (b2, .cells (List.toArray [it (about by_ (at0 by_ j) (j + 1)).lo, it (about by_ (at0 by_ j) (j + 1)).hi, owV (some u1) (k + 1), .slice none 0 0]) 27 (0, 0)) :: owH (some u1) 56 (bathCs by_ j (k + 1)) []) ++ [(bc, cntO (j + 4 + 4 * (k + 1)))]) aa ww
            rw [bathCs_succ, atCs_succ]
            exact at_less h ⟨rfl, rfl, rfl, rfl, rfl, rfl, rfl, trivial⟩ (fun _ h => .tail _ (.tail _ h)) (fun h => (List.nodup_cons.1 (List.nodup_cons.1 h).2).2)
        · refine WHo.so rfl (SO.buildSlice Try.underlying52 Try.sizeOf3 Try.zeroValue3 rfl rfl rfl rfl (cs := [_]) rfl) rfl ?_
          rintro _ _ _ ⟨b42, hb42, rfl, rfl, rfl⟩ -- NEW
          refine ⟨(fun _ hI => Inv.nil hI), ?_⟩
          refine WH.two (i := 1) (j := 9) (by kernel_rfl) ?_ ?_
          · refine WHo.yd rfl (Yd.load1 Try.isAgg24 rfl (by first | exact Rd.own (k := 0) rfl rfl | exact Rd.own (k := 1) rfl rfl | exact Rd.own (k := 2) rfl rfl | exact Rd.own (k := 3) rfl rfl | exact Rd.own (k := 4) rfl rfl | exact (Rd.imm hf rfl))) rfl ?_
            refine WH.one (i := 9) (by kernel_rfl) (WHo.so rfl (SO.buildSlice Try.underlying24 Try.sizeOf56 Try.zeroValue56 rfl rfl rfl rfl (cs := [_, _, _]) rfl) rfl ?_)
            rintro _ _ _ ⟨b38, hb38, rfl, rfl, rfl⟩ -- NEW
            refine ⟨(fun _ hI => Inv.nil hI), ?_⟩
            refine WH.one (i := 10) (by kernel_rfl) (WHo.so rfl (SO.appendOw (o := o1) (len := k) (n := 1) (xs := bathCs by_ j k) (size := 3) [] [_, _, _, _] [_] rfl rfl Try.underlying24 Try.sizeOf56 Try.typeInfo56 Try.zeroValue56 rfl rfl rfl (congrArg (fun z => _ :: _ :: _ :: _ :: z) (owH_app _ _ _ _)) ⟨rfl, .inr ⟨_, _, _, rfl, RdN.own (k := 0) (n := 3) rfl rfl⟩⟩ (oneB_spec rfl) ho1 (bathCs_len _ _ _) (by omega) (by show (2 * (_ + _) + 1000) * 24 ≤ 2 ^ 48; omega) (by omega)) rfl ?_)
            rintro _ _ _ ⟨u1, hu1, rfl, rfl, rfl⟩
            refine ⟨(fun _ hI => Inv.nil hI), ?_⟩
            refine WH.yd (i := 15) (by kernel_rfl) (fun _ o v c a w _ h => (QuietPanic.blk (QuietPanic.then (QuietPanic.then (QuietPanic.blk (QuietPanic.then QuietPanic.body))))) c o.dst v a w h) rfl (Yd.fieldAddr FA27_1 rfl) rfl ?_
            refine WH.one (i := 14) (by kernel_rfl) (WHo.so rfl (SO.appendOw (o := some u3) (len := k + 1) (n := 1) (xs := atCs by_ j k) (size := 1) [] [_, _] [_, _, _] rfl rfl Try.underlying52 Try.sizeOf3 Try.typeInfo3 Try.zeroValue3 rfl rfl rfl rfl ⟨rfl, .inr ⟨_, _, _, rfl, RdN.own (k := 1) (n := 1) rfl rfl⟩⟩ (oneB_spec rfl) ho3 (atCs_len _ _ _) (by omega) (by show (2 * (_ + _) + 1000) * 8 ≤ 2 ^ 48; omega) (by omega)) rfl ?_)
            rintro _ _ _ ⟨u4, hu4, rfl, rfl, rfl⟩
            refine ⟨(fun _ hI => Inv.nil hI), ?_⟩
            refine WH.one (i := 16) (by kernel_rfl) (WHo.so rfl (SO.store 3 rfl Try.sizeOf24 rfl rfl rfl rfl (Nat.le_of_ble_eq_true rfl) (oneB_spec rfl)) rfl ?_)
            rintro _ _ _ ⟨rfl, rfl, rfl⟩
            refine ⟨(fun _ hI => Inv.nil hI), ?_⟩
            refine WH.yd (i := 17) (by kernel_rfl) (fun _ o v c a w _ h => (QuietPanic.blk (QuietPanic.then (QuietPanic.then (QuietPanic.blk (QuietPanic.then QuietPanic.body))))) c o.dst v a w h) rfl (Yd.assign rfl) rfl ?_
            refine WH.nil (by kernel_rfl) ?_
            refine WP.blkNormal ?_
            refine WP.thenC ?_
            refine WC.ofFr [(3, _), (1, _), (2, _), (4, _), (5, _), (19, _), (20, _)] ⟨rfl, rfl, rfl, rfl, rfl, rfl, rfl, trivial⟩ ?_
            refine WC.region ?_
            refine WL.yd (Yd.add rfl rfl (wr64 ⟨by omega, by omega⟩)) rfl ?_
            refine WL.yd (Yd.move rfl) rfl ?_
            refine WL.nil ?_
            refine WP.again (⟨k + 1, some u1, u4⟩ : Nat × Option Ow × Ow) ⟨by simp only; omega, hu1, hu4⟩ (by simp only; omega) (fun aa ww h => ?_)
            show At _ [(1, pt b1), (2, pt b2), (3, owV (some u4) ((k + 1) + 1)), (4, .func (.func 88) #[] #[pt b1]), (5, it (at0 by_ j)), (19, it (drawV by_ (j + 4) 6)), (20, nt (k + 1))] D1 ((((u4).b, .cells (atCs by_ j (k + 1) ++ (u4).rest).toArray 3 (0, 0)) :: (b2, .cells (List.toArray [it (about by_ (at0 by_ j) (j + 1)).lo, it (about by_ (at0 by_ j) (j + 1)).hi, owV (some u1) (k + 1), .slice none 0 0]) 27 (0, 0)) :: owH (some u1) 56 (bathCs by_ j (k + 1)) []) ++ [(bc, cntO (j + 4 + 4 * (k + 1)))]) aa ww
            rw [bathCs_succ, atCs_succ]
            exact at_less h ⟨rfl, rfl, rfl, rfl, rfl, rfl, rfl, trivial⟩ (fun _ h => .tail _ (.tail _ h)) (fun h => (List.nodup_cons.1 (List.nodup_cons.1 h).2).2)
          · refine WHo.so rfl (SO.buildSlice Try.underlying24 Try.sizeOf56 Try.zeroValue56 rfl rfl rfl rfl (cs := [_, _, _]) rfl) rfl ?_
            rintro _ _ _ ⟨b38, hb38, rfl, rfl, rfl⟩ -- NEW
            refine ⟨(fun _ hI => Inv.nil hI), ?_⟩
            refine WH.one (i := 1) (by kernel_rfl) (WHo.yd rfl (Yd.load1 Try.isAgg24 rfl (by first | exact Rd.own (k := 0) rfl rfl | exact Rd.own (k := 1) rfl rfl | exact Rd.own (k := 2) rfl rfl | exact Rd.own (k := 3) rfl rfl | exact Rd.own (k := 4) rfl rfl | exact Rd.own (k := 5) rfl rfl | exact (Rd.imm hf rfl))) rfl ?_)
            refine WH.one (i := 10) (by kernel_rfl) (WHo.so rfl (SO.appendOw (o := o1) (len := k) (n := 1) (xs := bathCs by_ j k) (size := 3) [] [_, _, _, _] [_] rfl rfl Try.underlying24 Try.sizeOf56 Try.typeInfo56 Try.zeroValue56 rfl rfl rfl (congrArg (fun z => _ :: _ :: _ :: _ :: z) (owH_app _ _ _ _)) ⟨rfl, .inr ⟨_, _, _, rfl, RdN.own (k := 0) (n := 3) rfl rfl⟩⟩ (oneB_spec rfl) ho1 (bathCs_len _ _ _) (by omega) (by show (2 * (_ + _) + 1000) * 24 ≤ 2 ^ 48; omega) (by omega)) rfl ?_)
            rintro _ _ _ ⟨u1, hu1, rfl, rfl, rfl⟩
            refine ⟨(fun _ hI => Inv.nil hI), ?_⟩
            refine WH.yd (i := 15) (by kernel_rfl) (fun _ o v c a w _ h => (QuietPanic.blk (QuietPanic.then (QuietPanic.then (QuietPanic.blk (QuietPanic.then QuietPanic.body))))) c o.dst v a w h) rfl (Yd.fieldAddr FA27_1 rfl) rfl ?_
            refine WH.one (i := 14) (by kernel_rfl) (WHo.so rfl (SO.appendOw (o := some u3) (len := k + 1) (n := 1) (xs := atCs by_ j k) (size := 1) [] [_, _] [_, _, _] rfl rfl Try.underlying52 Try.sizeOf3 Try.typeInfo3 Try.zeroValue3 rfl rfl rfl rfl ⟨rfl, .inr ⟨_, _, _, rfl, RdN.own (k := 1) (n := 1) rfl rfl⟩⟩ (oneB_spec rfl) ho3 (atCs_len _ _ _) (by omega) (by show (2 * (_ + _) + 1000) * 8 ≤ 2 ^ 48; omega) (by omega)) rfl ?_)
            rintro _ _ _ ⟨u4, hu4, rfl, rfl, rfl⟩
            refine ⟨(fun _ hI => Inv.nil hI), ?_⟩
            refine WH.one (i := 16) (by kernel_rfl) (WHo.so rfl (SO.store 3 rfl Try.sizeOf24 rfl rfl rfl rfl (Nat.le_of_ble_eq_true rfl) (oneB_spec rfl)) rfl ?_)
            rintro _ _ _ ⟨rfl, rfl, rfl⟩
            refine ⟨(fun _ hI => Inv.nil hI), ?_⟩
            refine WH.yd (i := 17) (by kernel_rfl) (fun _ o v c a w _ h => (QuietPanic.blk (QuietPanic.then (QuietPanic.then (QuietPanic.blk (QuietPanic.then QuietPanic.body))))) c o.dst v a w h) rfl (Yd.assign rfl) rfl ?_
            refine WH.nil (by kernel_rfl) ?_
            refine WP.blkNormal ?_
            refine WP.thenC ?_
            refine WC.ofFr [(3, _), (1, _), (2, _), (4, _), (5, _), (19, _), (20, _)] ⟨rfl, rfl, rfl, rfl, rfl, rfl, rfl, trivial⟩ ?_
            refine WC.region ?_
            refine WL.yd (Yd.add rfl rfl (wr64 ⟨by omega, by omega⟩)) rfl ?_
            refine WL.yd (Yd.move rfl) rfl ?_
            refine WL.nil ?_
            refine WP.again (⟨k + 1, some u1, u4⟩ : Nat × Option Ow × Ow) ⟨by simp only; omega, hu1, hu4⟩ (by simp only; omega) (fun aa ww h => ?_)
            show At _ [(1, pt b1), (2, pt b2), (3, owV (some u4) ((k + 1) + 1)), (4, .func (.func 88) #[] #[pt b1]), (5, it (at0 by_ j)), (19, it (drawV by_ (j + 4) 6)), (20, nt (k + 1))] D1 ((((u4).b, .cells (atCs by_ j (k + 1) ++ (u4).rest).toArray 3 (0, 0)) :: (b2, .cells (List.toArray [it (about by_ (at0 by_ j) (j + 1)).lo, it (about by_ (at0 by_ j) (j + 1)).hi, owV (some u1) (k + 1), .slice none 0 0]) 27 (0, 0)) :: owH (some u1) 56 (bathCs by_ j (k + 1)) []) ++ [(bc, cntO (j + 4 + 4 * (k + 1)))]) aa ww
            rw [bathCs_succ, atCs_succ]
            exact at_less h ⟨rfl, rfl, rfl, rfl, rfl, rfl, rfl, trivial⟩ (fun _ h => .tail _ (.tail _ h)) (fun h => (List.nodup_cons.1 (List.nodup_cons.1 h).2).2)
      · refine WHo.so rfl (SO.buildSlice Try.underlying52 Try.sizeOf3 Try.zeroValue3 rfl rfl rfl rfl (cs := [_]) rfl) rfl ?_
        rintro _ _ _ ⟨b42, hb42, rfl, rfl, rfl⟩ -- NEW
        refine ⟨(fun _ hI => Inv.nil hI), ?_⟩
        refine WH.two (i := 1) (j := 7) (by kernel_rfl) ?_ ?_
        · refine WHo.yd rfl (Yd.load1 Try.isAgg24 rfl (by first | exact Rd.own (k := 0) rfl rfl | exact Rd.own (k := 1) rfl rfl | exact Rd.own (k := 2) rfl rfl | exact Rd.own (k := 3) rfl rfl | exact Rd.own (k := 4) rfl rfl | exact (Rd.imm hf rfl))) rfl ?_
          refine WH.one (i := 7) (by kernel_rfl) (WHo.so rfl (SO.altersN (own := (_ :: ((u3).b, .cells (atCs by_ j k ++ (u3).rest).toArray 3 (0, 0)) :: (b2, .cells (List.toArray [it (about by_ (at0 by_ j) (j + 1)).lo, it (about by_ (at0 by_ j) (j + 1)).hi, owV o1 k, .slice none 0 0]) 27 (0, 0)) :: owH o1 56 (bathCs by_ j k) [])) (hpc := [(bc, cntO (j + 4 + 4 * k + 1 + 1))]) (S1 := [bc]) (fun _ h => h) (fun h => h) (fun _ h => h) (fun _ h => h) (Enters.val Try.call88 rfl rfl) (fun w1 hI => about_g (atB by_ j k) (atB_num by_ j k) by_ bc bb b1 _ w1 hB hf (j + 4 + 4 * k + 1 + 1) (by omega) hI)) rfl ?_)
          rintro _ _ _ ⟨_, _, ⟨rfl, rfl, rfl⟩, rfl⟩
          refine ⟨(fun _ hI => Inv.nil hI), ?_⟩
          refine WH.yd (i := 8) (by kernel_rfl) (fun _ o v c a w _ h => (QuietPanic.blk (QuietPanic.then (QuietPanic.then (QuietPanic.blk (QuietPanic.then QuietPanic.body))))) c o.dst v a w h) rfl (Yd.build SA56 rfl (cs := [_, _, _]) rfl) rfl ?_
          refine WH.one (i := 9) (by kernel_rfl) (WHo.so rfl (SO.buildSlice Try.underlying24 Try.sizeOf56 Try.zeroValue56 rfl rfl rfl rfl (cs := [_, _, _]) rfl) rfl ?_)
          rintro _ _ _ ⟨b38, hb38, rfl, rfl, rfl⟩ -- NEW
          refine ⟨(fun _ hI => Inv.nil hI), ?_⟩
          refine WH.one (i := 10) (by kernel_rfl) (WHo.so rfl (SO.appendOw (o := o1) (len := k) (n := 1) (xs := bathCs by_ j k) (size := 3) [] [_, _, _, _] [_] rfl rfl Try.underlying24 Try.sizeOf56 Try.typeInfo56 Try.zeroValue56 rfl rfl rfl (congrArg (fun z => _ :: _ :: _ :: _ :: z) (owH_app _ _ _ _)) ⟨rfl, .inr ⟨_, _, _, rfl, RdN.own (k := 0) (n := 3) rfl rfl⟩⟩ (oneB_spec rfl) ho1 (bathCs_len _ _ _) (by omega) (by show (2 * (_ + _) + 1000) * 24 ≤ 2 ^ 48; omega) (by omega)) rfl ?_)
          rintro _ _ _ ⟨u1, hu1, rfl, rfl, rfl⟩
          refine ⟨(fun _ hI => Inv.nil hI), ?_⟩
          refine WH.yd (i := 15) (by kernel_rfl) (fun _ o v c a w _ h => (QuietPanic.blk (QuietPanic.then (QuietPanic.then (QuietPanic.blk (QuietPanic.then QuietPanic.body))))) c o.dst v a w h) rfl (Yd.fieldAddr FA27_1 rfl) rfl ?_
          refine WH.one (i := 14) (by kernel_rfl) (WHo.so rfl (SO.appendOw (o := some u3) (len := k + 1) (n := 1) (xs := atCs by_ j k) (size := 1) [] [_, _] [_, _, _] rfl rfl Try.underlying52 Try.sizeOf3 Try.typeInfo3 Try.zeroValue3 rfl rfl rfl rfl ⟨rfl, .inr ⟨_, _, _, rfl, RdN.own (k := 1) (n := 1) rfl rfl⟩⟩ (oneB_spec rfl) ho3 (atCs_len _ _ _) (by omega) (by show (2 * (_ + _) + 1000) * 8 ≤ 2 ^ 48; omega) (by omega)) rfl ?_)
          rintro _ _ _ ⟨u4, hu4, rfl, rfl, rfl⟩
          refine ⟨(fun _ hI => Inv.nil hI), ?_⟩
          refine WH.one (i := 16) (by kernel_rfl) (WHo.so rfl (SO.store 3 rfl Try.sizeOf24 rfl rfl rfl rfl (Nat.le_of_ble_eq_true rfl) (oneB_spec rfl)) rfl ?_)
          rintro _ _ _ ⟨rfl, rfl, rfl⟩
          refine ⟨(fun _ hI => Inv.nil hI), ?_⟩
          refine WH.yd (i := 17) (by kernel_rfl) (fun _ o v c a w _ h => (QuietPanic.blk (QuietPanic.then (QuietPanic.then (QuietPanic.blk (QuietPanic.then QuietPanic.body))))) c o.dst v a w h) rfl (Yd.assign rfl) rfl ?_
          refine WH.nil (by kernel_rfl) ?_
          refine WP.blkNormal ?_
          refine WP.thenC ?_
          refine WC.ofFr [(3, _), (1, _), (2, _), (4, _), (5, _), (19, _), (20, _)] ⟨rfl, rfl, rfl, rfl, rfl, rfl, rfl, trivial⟩ ?_
          refine WC.region ?_
          refine WL.yd (Yd.add rfl rfl (wr64 ⟨by omega, by omega⟩)) rfl ?_
          refine WL.yd (Yd.move rfl) rfl ?_
          refine WL.nil ?_
          refine WP.again (⟨k + 1, some u1, u4⟩ : Nat × Option Ow × Ow) ⟨by simp only; omega, hu1, hu4⟩ (by simp only; omega) (fun aa ww h => ?_)
          show At _ [(1, pt b1), (2, pt b2), (3, owV (some u4) ((k + 1) + 1)), (4, .func (.func 88) #[] #[pt b1]), (5, it (at0 by_ j)), (19, it (drawV by_ (j + 4) 6)), (20, nt (k + 1))] D1 ((((u4).b, .cells (atCs by_ j (k + 1) ++ (u4).rest).toArray 3 (0, 0)) :: (b2, .cells (List.toArray [it (about by_ (at0 by_ j) (j + 1)).lo, it (about by_ (at0 by_ j) (j + 1)).hi, owV (some u1) (k + 1), .slice none 0 0]) 27 (0, 0)) :: owH (some u1) 56 (bathCs by_ j (k + 1)) []) ++ [(bc, cntO (j + 4 + 4 * (k + 1)))]) aa ww
          rw [bathCs_succ, atCs_succ]
          exact at_less h ⟨rfl, rfl, rfl, rfl, rfl, rfl, rfl, trivial⟩ (fun _ h => .tail _ (.tail _ h)) (fun h => (List.nodup_cons.1 (List.nodup_cons.1 h).2).2)
        · refine WHo.so rfl (SO.altersN (own := (_ :: ((u3).b, .cells (atCs by_ j k ++ (u3).rest).toArray 3 (0, 0)) :: (b2, .cells (List.toArray [it (about by_ (at0 by_ j) (j + 1)).lo, it (about by_ (at0 by_ j) (j + 1)).hi, owV o1 k, .slice none 0 0]) 27 (0, 0)) :: owH o1 56 (bathCs by_ j k) [])) (hpc := [(bc, cntO (j + 4 + 4 * k + 1 + 1))]) (S1 := [bc]) (fun _ h => h) (fun h => h) (fun _ h => h) (fun _ h => h) (Enters.val Try.call88 rfl rfl) (fun w1 hI => about_g (atB by_ j k) (atB_num by_ j k) by_ bc bb b1 _ w1 hB hf (j + 4 + 4 * k + 1 + 1) (by omega) hI)) rfl ?_
          rintro _ _ _ ⟨_, _, ⟨rfl, rfl, rfl⟩, rfl⟩
          refine ⟨(fun _ hI => Inv.nil hI), ?_⟩
          refine WH.yd (i := 8) (by kernel_rfl) (fun _ o v c a w _ h => (QuietPanic.blk (QuietPanic.then (QuietPanic.then (QuietPanic.blk (QuietPanic.then QuietPanic.body))))) c o.dst v a w h) rfl (Yd.build SA56 rfl (cs := [_, _, _]) rfl) rfl ?_
          refine WH.two (i := 1) (j := 9) (by kernel_rfl) ?_ ?_
          · refine WHo.yd rfl (Yd.load1 Try.isAgg24 rfl (by first | exact Rd.own (k := 0) rfl rfl | exact Rd.own (k := 1) rfl rfl | exact Rd.own (k := 2) rfl rfl | exact Rd.own (k := 3) rfl rfl | exact Rd.own (k := 4) rfl rfl | exact (Rd.imm hf rfl))) rfl ?_
            refine WH.one (i := 9) (by kernel_rfl) (WHo.so rfl (SO.buildSlice Try.underlying24 Try.sizeOf56 Try.zeroValue56 rfl rfl rfl rfl (cs := [_, _, _]) rfl) rfl ?_)
            rintro _ _ _ ⟨b38, hb38, rfl, rfl, rfl⟩ -- NEW
            refine ⟨(fun _ hI => Inv.nil hI), ?_⟩
            refine WH.one (i := 10) (by kernel_rfl) (WHo.so rfl (SO.appendOw (o := o1) (len := k) (n := 1) (xs := bathCs by_ j k) (size := 3) [] [_, _, _, _] [_] rfl rfl Try.underlying24 Try.sizeOf56 Try.typeInfo56 Try.zeroValue56 rfl rfl rfl (congrArg (fun z => _ :: _ :: _ :: _ :: z) (owH_app _ _ _ _)) ⟨rfl, .inr ⟨_, _, _, rfl, RdN.own (k := 0) (n := 3) rfl rfl⟩⟩ (oneB_spec rfl) ho1 (bathCs_len _ _ _) (by omega) (by show (2 * (_ + _) + 1000) * 24 ≤ 2 ^ 48; omega) (by omega)) rfl ?_)
            rintro _ _ _ ⟨u1, hu1, rfl, rfl, rfl⟩
            refine ⟨(fun _ hI => Inv.nil hI), ?_⟩
            refine WH.yd (i := 15) (by kernel_rfl) (fun _ o v c a w _ h => (QuietPanic.blk (QuietPanic.then (QuietPanic.then (QuietPanic.blk (QuietPanic.then QuietPanic.body))))) c o.dst v a w h) rfl (Yd.fieldAddr FA27_1 rfl) rfl ?_
            refine WH.one (i := 14) (by kernel_rfl) (WHo.so rfl (SO.appendOw (o := some u3) (len := k + 1) (n := 1) (xs := atCs by_ j k) (size := 1) [] [_, _] [_, _, _] rfl rfl Try.underlying52 Try.sizeOf3 Try.typeInfo3 Try.zeroValue3 rfl rfl rfl rfl ⟨rfl, .inr ⟨_, _, _, rfl, RdN.own (k := 1) (n := 1) rfl rfl⟩⟩ (oneB_spec rfl) ho3 (atCs_len _ _ _) (by omega) (by show (2 * (_ + _) + 1000) * 8 ≤ 2 ^ 48; omega) (by omega)) rfl ?_)
            rintro _ _ _ ⟨u4, hu4, rfl, rfl, rfl⟩
            refine ⟨(fun _ hI => Inv.nil hI), ?_⟩
            refine WH.one (i := 16) (by kernel_rfl) (WHo.so rfl (SO.store 3 rfl Try.sizeOf24 rfl rfl rfl rfl (Nat.le_of_ble_eq_true rfl) (oneB_spec rfl)) rfl ?_)
            rintro _ _ _ ⟨rfl, rfl, rfl⟩
            refine ⟨(fun _ hI => Inv.nil hI), ?_⟩
            refine WH.yd (i := 17) (by kernel_rfl) (fun _ o v c a w _ h => (QuietPanic.blk (QuietPanic.then (QuietPanic.then (QuietPanic.blk (QuietPanic.then QuietPanic.body))))) c o.dst v a w h) rfl (Yd.assign rfl) rfl ?_
            refine WH.nil (by kernel_rfl) ?_
            refine WP.blkNormal ?_
            refine WP.thenC ?_
            refine WC.ofFr [(3, _), (1, _), (2, _), (4, _), (5, _), (19, _), (20, _)] ⟨rfl, rfl, rfl, rfl, rfl, rfl, rfl, trivial⟩ ?_
            refine WC.region ?_
            refine WL.yd (Yd.add rfl rfl (wr64 ⟨by omega, by omega⟩)) rfl ?_
            refine WL.yd (Yd.move rfl) rfl ?_
            refine WL.nil ?_
            refine WP.again (⟨k + 1, some u1, u4⟩ : Nat × Option Ow × Ow) ⟨by simp only; omega, hu1, hu4⟩ (by simp only; omega) (fun aa ww h => ?_)
            show At _ [(1, pt b1), (2, pt b2), (3, owV (some u4) ((k + 1) + 1)), (4, .func (.func 88) #[] #[pt b1]), (5, it (at0 by_ j)), (19, it (drawV by_ (j + 4) 6)), (20, nt (k + 1))] D1 ((((u4).b, .cells (atCs by_ j (k + 1) ++ (u4).rest).toArray 3 (0, 0)) :: (b2, .cells (List.toArray [it (about by_ (at0 by_ j) (j + 1)).lo, it (about by_ (at0 by_ j) (j + 1)).hi, owV (some u1) (k + 1), .slice none 0 0]) 27 (0, 0)) :: owH (some u1) 56 (bathCs by_ j (k + 1)) []) ++ [(bc, cntO (j + 4 + 4 * (k + 1)))]) aa ww
            rw [bathCs_succ, atCs_succ]
            exact at_less h ⟨rfl, rfl, rfl, rfl, rfl, rfl, rfl, trivial⟩ (fun _ h => .tail _ (.tail _ h)) (fun h => (List.nodup_cons.1 (List.nodup_cons.1 h).2).2)
          · refine WHo.so rfl (SO.buildSlice Try.underlying24 Try.sizeOf56 Try.zeroValue56 rfl rfl rfl rfl (cs := [_, _, _]) rfl) rfl ?_
            rintro _ _ _ ⟨b38, hb38, rfl, rfl, rfl⟩ -- NEW
            refine ⟨(fun _ hI => Inv.nil hI), ?_⟩
            refine WH.one (i := 1) (by kernel_rfl) (WHo.yd rfl (Yd.load1 Try.isAgg24 rfl (by first | exact Rd.own (k := 0) rfl rfl | exact Rd.own (k := 1) rfl rfl | exact Rd.own (k := 2) rfl rfl | exact Rd.own (k := 3) rfl rfl | exact Rd.own (k := 4) rfl rfl | exact Rd.own (k := 5) rfl rfl | exact (Rd.imm hf rfl))) rfl ?_)
            refine WH.one (i := 10) (by kernel_rfl) (WHo.so rfl (SO.appendOw (o := o1) (len := k) (n := 1) (xs := bathCs by_ j k) (size := 3) [] [_, _, _, _] [_] rfl rfl Try.underlying24 Try.sizeOf56 Try.typeInfo56 Try.zeroValue56 rfl rfl rfl (congrArg (fun z => _ :: _ :: _ :: _ :: z) (owH_app _ _ _ _)) ⟨rfl, .inr ⟨_, _, _, rfl, RdN.own (k := 0) (n := 3) rfl rfl⟩⟩ (oneB_spec rfl) ho1 (bathCs_len _ _ _) (by omega) (by show (2 * (_ + _) + 1000) * 24 ≤ 2 ^ 48; omega) (by omega)) rfl ?_)
            rintro _ _ _ ⟨u1, hu1, rfl, rfl, rfl⟩
            refine ⟨(fun _ hI => Inv.nil hI), ?_⟩
            refine WH.yd (i := 15) (by kernel_rfl) (fun _ o v c a w _ h => (QuietPanic.blk (QuietPanic.then (QuietPanic.then (QuietPanic.blk (QuietPanic.then QuietPanic.body))))) c o.dst v a w h) rfl (Yd.fieldAddr FA27_1 rfl) rfl ?_
            refine WH.one (i := 14) (by kernel_rfl) (WHo.so rfl (SO.appendOw (o := some u3) (len := k + 1) (n := 1) (xs := atCs by_ j k) (size := 1) [] [_, _] [_, _, _] rfl rfl Try.underlying52 Try.sizeOf3 Try.typeInfo3 Try.zeroValue3 rfl rfl rfl rfl ⟨rfl, .inr ⟨_, _, _, rfl, RdN.own (k := 1) (n := 1) rfl rfl⟩⟩ (oneB_spec rfl) ho3 (atCs_len _ _ _) (by omega) (by show (2 * (_ + _) + 1000) * 8 ≤ 2 ^ 48; omega) (by omega)) rfl ?_)
            rintro _ _ _ ⟨u4, hu4, rfl, rfl, rfl⟩
            refine ⟨(fun _ hI => Inv.nil hI), ?_⟩
            refine WH.one (i := 16) (by kernel_rfl) (WHo.so rfl (SO.store 3 rfl Try.sizeOf24 rfl rfl rfl rfl (Nat.le_of_ble_eq_true rfl) (oneB_spec rfl)) rfl ?_)
            rintro _ _ _ ⟨rfl, rfl, rfl⟩
            refine ⟨(fun _ hI => Inv.nil hI), ?_⟩
            refine WH.yd (i := 17) (by kernel_rfl) (fun _ o v c a w _ h => (QuietPanic.blk (QuietPanic.then (QuietPanic.then (QuietPanic.blk (QuietPanic.then QuietPanic.body))))) c o.dst v a w h) rfl (Yd.assign rfl) rfl ?_
            refine WH.nil (by kernel_rfl) ?_
            refine WP.blkNormal ?_
            refine WP.thenC ?_
            refine WC.ofFr [(3, _), (1, _), (2, _), (4, _), (5, _), (19, _), (20, _)] ⟨rfl, rfl, rfl, rfl, rfl, rfl, rfl, trivial⟩ ?_
            refine WC.region ?_
            refine WL.yd (Yd.add rfl rfl (wr64 ⟨by omega, by omega⟩)) rfl ?_
            refine WL.yd (Yd.move rfl) rfl ?_
            refine WL.nil ?_
            refine WP.again (⟨k + 1, some u1, u4⟩ : Nat × Option Ow × Ow) ⟨by simp only; omega, hu1, hu4⟩ (by simp only; omega) (fun aa ww h => ?_)
            show At _ [(1, pt b1), (2, pt b2), (3, owV (some u4) ((k + 1) + 1)), (4, .func (.func 88) #[] #[pt b1]), (5, it (at0 by_ j)), (19, it (drawV by_ (j + 4) 6)), (20, nt (k + 1))] D1 ((((u4).b, .cells (atCs by_ j (k + 1) ++ (u4).rest).toArray 3 (0, 0)) :: (b2, .cells (List.toArray [it (about by_ (at0 by_ j) (j + 1)).lo, it (about by_ (at0 by_ j) (j + 1)).hi, owV (some u1) (k + 1), .slice none 0 0]) 27 (0, 0)) :: owH (some u1) 56 (bathCs by_ j (k + 1)) []) ++ [(bc, cntO (j + 4 + 4 * (k + 1)))]) aa ww
            rw [bathCs_succ, atCs_succ]
            exact at_less h ⟨rfl, rfl, rfl, rfl, rfl, rfl, rfl, trivial⟩ (fun _ h => .tail _ (.tail _ h)) (fun h => (List.nodup_cons.1 (List.nodup_cons.1 h).2).2)
    · refine WHo.so rfl (SO.buildSlice Try.underlying52 Try.sizeOf3 Try.zeroValue3 rfl rfl rfl rfl (cs := [_]) rfl) rfl ?_
      rintro _ _ _ ⟨b42, hb42, rfl, rfl, rfl⟩ -- NEW
      refine ⟨(fun _ hI => Inv.nil hI), ?_⟩
      refine WH.two (i := 1) (j := 3) (by kernel_rfl) ?_ ?_
      · refine WHo.yd rfl (Yd.load1 Try.isAgg24 rfl (by first | exact Rd.own (k := 0) rfl rfl | exact Rd.own (k := 1) rfl rfl | exact Rd.own (k := 2) rfl rfl | exact Rd.own (k := 3) rfl rfl | exact Rd.own (k := 4) rfl rfl | exact (Rd.imm hf rfl))) rfl ?_
        refine WH.one (i := 3) (by kernel_rfl) (WHo.so rfl (SO.alters (own := (_ :: ((u3).b, .cells (atCs by_ j k ++ (u3).rest).toArray 3 (0, 0)) :: (b2, .cells (List.toArray [it (about by_ (at0 by_ j) (j + 1)).lo, it (about by_ (at0 by_ j) (j + 1)).hi, owV o1 k, .slice none 0 0]) 27 (0, 0)) :: owH o1 56 (bathCs by_ j k) [])) (hpc := [(bc, cntO (j + 4 + 4 * k + 1))]) (S1 := [bc]) (fun _ h => h) (fun h => h) (fun _ h => h) (fun _ h => h) (Enters.val Try.call87 rfl rfl) (fun w1 hI => draw_g by_ bc bb _ w1 hB 2 (by omega) (j + 4 + 4 * k + 1) (by omega) hI)) rfl ?_)
        rintro _ _ _ ⟨_, _, ⟨rfl, rfl, rfl⟩, rfl⟩
        refine ⟨(fun _ hI => Inv.nil hI), ?_⟩
        refine WH.yd (i := 4) (by kernel_rfl) (fun _ o v c a w _ h => (QuietPanic.blk (QuietPanic.then (QuietPanic.then (QuietPanic.blk (QuietPanic.then QuietPanic.body))))) c o.dst v a w h) rfl (Yd.eql rfl rfl) rfl ?_
        refine WH.one (i := 7) (by kernel_rfl) (WHo.so rfl (SO.altersN (own := (_ :: ((u3).b, .cells (atCs by_ j k ++ (u3).rest).toArray 3 (0, 0)) :: (b2, .cells (List.toArray [it (about by_ (at0 by_ j) (j + 1)).lo, it (about by_ (at0 by_ j) (j + 1)).hi, owV o1 k, .slice none 0 0]) 27 (0, 0)) :: owH o1 56 (bathCs by_ j k) [])) (hpc := [(bc, cntO (j + 4 + 4 * k + 1 + 1))]) (S1 := [bc]) (fun _ h => h) (fun h => h) (fun _ h => h) (fun _ h => h) (Enters.val Try.call88 rfl rfl) (fun w1 hI => about_g (atB by_ j k) (atB_num by_ j k) by_ bc bb b1 _ w1 hB hf (j + 4 + 4 * k + 1 + 1) (by omega) hI)) rfl ?_)
        rintro _ _ _ ⟨_, _, ⟨rfl, rfl, rfl⟩, rfl⟩
        refine ⟨(fun _ hI => Inv.nil hI), ?_⟩
        refine WH.yd (i := 8) (by kernel_rfl) (fun _ o v c a w _ h => (QuietPanic.blk (QuietPanic.then (QuietPanic.then (QuietPanic.blk (QuietPanic.then QuietPanic.body))))) c o.dst v a w h) rfl (Yd.build SA56 rfl (cs := [_, _, _]) rfl) rfl ?_
        refine WH.one (i := 9) (by kernel_rfl) (WHo.so rfl (SO.buildSlice Try.underlying24 Try.sizeOf56 Try.zeroValue56 rfl rfl rfl rfl (cs := [_, _, _]) rfl) rfl ?_)
        rintro _ _ _ ⟨b38, hb38, rfl, rfl, rfl⟩ -- NEW
        refine ⟨(fun _ hI => Inv.nil hI), ?_⟩
        refine WH.one (i := 10) (by kernel_rfl) (WHo.so rfl (SO.appendOw (o := o1) (len := k) (n := 1) (xs := bathCs by_ j k) (size := 3) [] [_, _, _, _] [_] rfl rfl Try.underlying24 Try.sizeOf56 Try.typeInfo56 Try.zeroValue56 rfl rfl rfl (congrArg (fun z => _ :: _ :: _ :: _ :: z) (owH_app _ _ _ _)) ⟨rfl, .inr ⟨_, _, _, rfl, RdN.own (k := 0) (n := 3) rfl rfl⟩⟩ (oneB_spec rfl) ho1 (bathCs_len _ _ _) (by omega) (by show (2 * (_ + _) + 1000) * 24 ≤ 2 ^ 48; omega) (by omega)) rfl ?_)
        rintro _ _ _ ⟨u1, hu1, rfl, rfl, rfl⟩
        refine ⟨(fun _ hI => Inv.nil hI), ?_⟩
        refine WH.yd (i := 15) (by kernel_rfl) (fun _ o v c a w _ h => (QuietPanic.blk (QuietPanic.then (QuietPanic.then (QuietPanic.blk (QuietPanic.then QuietPanic.body))))) c o.dst v a w h) rfl (Yd.fieldAddr FA27_1 rfl) rfl ?_
        refine WH.one (i := 14) (by kernel_rfl) (WHo.so rfl (SO.appendOw (o := some u3) (len := k + 1) (n := 1) (xs := atCs by_ j k) (size := 1) [] [_, _] [_, _, _] rfl rfl Try.underlying52 Try.sizeOf3 Try.typeInfo3 Try.zeroValue3 rfl rfl rfl rfl ⟨rfl, .inr ⟨_, _, _, rfl, RdN.own (k := 1) (n := 1) rfl rfl⟩⟩ (oneB_spec rfl) ho3 (atCs_len _ _ _) (by omega) (by show (2 * (_ + _) + 1000) * 8 ≤ 2 ^ 48; omega) (by omega)) rfl ?_)
        rintro _ _ _ ⟨u4, hu4, rfl, rfl, rfl⟩
        refine ⟨(fun _ hI => Inv.nil hI), ?_⟩
        refine WH.one (i := 16) (by kernel_rfl) (WHo.so rfl (SO.store 3 rfl Try.sizeOf24 rfl rfl rfl rfl (Nat.le_of_ble_eq_true rfl) (oneB_spec rfl)) rfl ?_)
        rintro _ _ _ ⟨rfl, rfl, rfl⟩
        refine ⟨(fun _ hI => Inv.nil hI), ?_⟩
        refine WH.yd (i := 17) (by kernel_rfl) (fun _ o v c a w _ h => (QuietPanic.blk (QuietPanic.then (QuietPanic.then (QuietPanic.blk (QuietPanic.then QuietPanic.body))))) c o.dst v a w h) rfl (Yd.assign rfl) rfl ?_
        refine WH.nil (by kernel_rfl) ?_
        refine WP.blkNormal ?_
        refine WP.thenC ?_
        refine WC.ofFr [(3, _), (1, _), (2, _), (4, _), (5, _), (19, _), (20, _)] ⟨rfl, rfl, rfl, rfl, rfl, rfl, rfl, trivial⟩ ?_
        refine WC.region ?_
        refine WL.yd (Yd.add rfl rfl (wr64 ⟨by omega, by omega⟩)) rfl ?_
        refine WL.yd (Yd.move rfl) rfl ?_
        refine WL.nil ?_
        refine WP.again (⟨k + 1, some u1, u4⟩ : Nat × Option Ow × Ow) ⟨by simp only; omega, hu1, hu4⟩ (by simp only; omega) (fun aa ww h => ?_)
        show At _ [(1, pt b1), (2, pt b2), (3, owV (some u4) ((k + 1) + 1)), (4, .func (.func 88) #[] #[pt b1]), (5, it (at0 by_ j)), (19, it (drawV by_ (j + 4) 6)), (20, nt (k + 1))] D1 ((((u4).b, .cells (atCs by_ j (k + 1) ++ (u4).rest).toArray 3 (0, 0)) :: (b2, .cells (List.toArray [it (about by_ (at0 by_ j) (j + 1)).lo, it (about by_ (at0 by_ j) (j + 1)).hi, owV (some u1) (k + 1), .slice none 0 0]) 27 (0, 0)) :: owH (some u1) 56 (bathCs by_ j (k + 1)) []) ++ [(bc, cntO (j + 4 + 4 * (k + 1)))]) aa ww
        rw [bathCs_succ, atCs_succ]
        exact at_less h ⟨rfl, rfl, rfl, rfl, rfl, rfl, rfl, trivial⟩ (fun _ h => .tail _ (.tail _ h)) (fun h => (List.nodup_cons.1 (List.nodup_cons.1 h).2).2)
      · refine WHo.so rfl (SO.alters (own := (_ :: ((u3).b, .cells (atCs by_ j k ++ (u3).rest).toArray 3 (0, 0)) :: (b2, .cells (List.toArray [it (about by_ (at0 by_ j) (j + 1)).lo, it (about by_ (at0 by_ j) (j + 1)).hi, owV o1 k, .slice none 0 0]) 27 (0, 0)) :: owH o1 56 (bathCs by_ j k) [])) (hpc := [(bc, cntO (j + 4 + 4 * k + 1))]) (S1 := [bc]) (fun _ h => h) (fun h => h) (fun _ h => h) (fun _ h => h) (Enters.val Try.call87 rfl rfl) (fun w1 hI => draw_g by_ bc bb _ w1 hB 2 (by omega) (j + 4 + 4 * k + 1) (by omega) hI)) rfl ?_
        rintro _ _ _ ⟨_, _, ⟨rfl, rfl, rfl⟩, rfl⟩
        refine ⟨(fun _ hI => Inv.nil hI), ?_⟩
        refine WH.yd (i := 4) (by kernel_rfl) (fun _ o v c a w _ h => (QuietPanic.blk (QuietPanic.then (QuietPanic.then (QuietPanic.blk (QuietPanic.then QuietPanic.body))))) c o.dst v a w h) rfl (Yd.eql rfl rfl) rfl ?_
        refine WH.two (i := 1) (j := 7) (by kernel_rfl) ?_ ?_
        · refine WHo.yd rfl (Yd.load1 Try.isAgg24 rfl (by first | exact Rd.own (k := 0) rfl rfl | exact Rd.own (k := 1) rfl rfl | exact Rd.own (k := 2) rfl rfl | exact Rd.own (k := 3) rfl rfl | exact Rd.own (k := 4) rfl rfl | exact (Rd.imm hf rfl))) rfl ?_
          refine WH.one (i := 7) (by kernel_rfl) (WHo.so rfl (SO.altersN (own := (_ :: ((u3).b, .cells (atCs by_ j k ++ (u3).rest).toArray 3 (0, 0)) :: (b2, .cells (List.toArray [it (about by_ (at0 by_ j) (j + 1)).lo, it (about by_ (at0 by_ j) (j + 1)).hi, owV o1 k, .slice none 0 0]) 27 (0, 0)) :: owH o1 56 (bathCs by_ j k) [])) (hpc := [(bc, cntO (j + 4 + 4 * k + 1 + 1))]) (S1 := [bc]) (fun _ h => h) (fun h => h) (fun _ h => h) (fun _ h => h) (Enters.val Try.call88 rfl rfl) (fun w1 hI => about_g (atB by_ j k) (atB_num by_ j k) by_ bc bb b1 _ w1 hB hf (j + 4 + 4 * k + 1 + 1) (by omega) hI)) rfl ?_)
          rintro _ _ _ ⟨_, _, ⟨rfl, rfl, rfl⟩, rfl⟩
          refine ⟨(fun _ hI => Inv.nil hI), ?_⟩
          refine WH.yd (i := 8) (by kernel_rfl) (fun _ o v c a w _ h => (QuietPanic.blk (QuietPanic.then (QuietPanic.then (QuietPanic.blk (QuietPanic.then QuietPanic.body))))) c o.dst v a w h) rfl (Yd.build SA56 rfl (cs := [_, _, _]) rfl) rfl ?_
          refine WH.one (i := 9) (by kernel_rfl) (WHo.so rfl (SO.buildSlice Try.underlying24 Try.sizeOf56 Try.zeroValue56 rfl rfl rfl rfl (cs := [_, _, _]) rfl) rfl ?_)
          rintro _ _ _ ⟨b38, hb38, rfl, rfl, rfl⟩ -- NEW
          refine ⟨(fun _ hI => Inv.nil hI), ?_⟩
          refine WH.one (i := 10) (by kernel_rfl) (WHo.so rfl (SO.appendOw (o := o1) (len := k) (n := 1) (xs := bathCs by_ j k) (size := 3) [] [_, _, _, _] [_] rfl rfl Try.underlying24 Try.sizeOf56 Try.typeInfo56 Try.zeroValue56 rfl rfl rfl (congrArg (fun z => _ :: _ :: _ :: _ :: z) (owH_app _ _ _ _)) ⟨rfl, .inr ⟨_, _, _, rfl, RdN.own (k := 0) (n := 3) rfl rfl⟩⟩ (oneB_spec rfl) ho1 (bathCs_len _ _ _) (by omega) (by show (2 * (_ + _) + 1000) * 24 ≤ 2 ^ 48; omega) (by omega)) rfl ?_)
          rintro _ _ _ ⟨u1, hu1, rfl, rfl, rfl⟩
          refine ⟨(fun _ hI => Inv.nil hI), ?_⟩
          refine WH.yd (i := 15) (by kernel_rfl) (fun _ o v c a w _ h => (QuietPanic.blk (QuietPanic.then (QuietPanic.then (QuietPanic.blk (QuietPanic.then QuietPanic.body))))) c o.dst v a w h) rfl (Yd.fieldAddr FA27_1 rfl) rfl ?_
          refine WH.one (i := 14) (by kernel_rfl) (WHo.so rfl (SO.appendOw (o := some u3) (len := k + 1) (n := 1) (xs := atCs by_ j k) (size := 1) [] [_, _] [_, _, _] rfl rfl Try.underlying52 Try.sizeOf3 Try.typeInfo3 Try.zeroValue3 rfl rfl rfl rfl ⟨rfl, .inr ⟨_, _, _, rfl, RdN.own (k := 1) (n := 1) rfl rfl⟩⟩ (oneB_spec rfl) ho3 (atCs_len _ _ _) (by omega) (by show (2 * (_ + _) + 1000) * 8 ≤ 2 ^ 48; omega) (by omega)) rfl ?_)
          rintro _ _ _ ⟨u4, hu4, rfl, rfl, rfl⟩
          refine ⟨(fun _ hI => Inv.nil hI), ?_⟩
          refine WH.one (i := 16) (by kernel_rfl) (WHo.so rfl (SO.store 3 rfl Try.sizeOf24 rfl rfl rfl rfl (Nat.le_of_ble_eq_true rfl) (oneB_spec rfl)) rfl ?_)
          rintro _ _ _ ⟨rfl, rfl, rfl⟩
          refine ⟨(fun _ hI => Inv.nil hI), ?_⟩
          refine WH.yd (i := 17) (by kernel_rfl) (fun _ o v c a w _ h => (QuietPanic.blk (QuietPanic.then (QuietPanic.then (QuietPanic.blk (QuietPanic.then QuietPanic.body))))) c o.dst v a w h) rfl (Yd.assign rfl) rfl ?_
          refine WH.nil (by kernel_rfl) ?_
          refine WP.blkNormal ?_
          refine WP.thenC ?_
          refine WC.ofFr [(3, _), (1, _), (2, _), (4, _), (5, _), (19, _), (20, _)] ⟨rfl, rfl, rfl, rfl, rfl, rfl, rfl, trivial⟩ ?_
          refine WC.region ?_
          refine WL.yd (Yd.add rfl rfl (wr64 ⟨by omega, by omega⟩)) rfl ?_
          refine WL.yd (Yd.move rfl) rfl ?_
          refine WL.nil ?_
          refine WP.again (⟨k + 1, some u1, u4⟩ : Nat × Option Ow × Ow) ⟨by simp only; omega, hu1, hu4⟩ (by simp only; omega) (fun aa ww h => ?_)
          show At _ [(1, pt b1), (2, pt b2), (3, owV (some u4) ((k + 1) + 1)), (4, .func (.func 88) #[] #[pt b1]), (5, it (at0 by_ j)), (19, it (drawV by_ (j + 4) 6)), (20, nt (k + 1))] D1 ((((u4).b, .cells (atCs by_ j (k + 1) ++ (u4).rest).toArray 3 (0, 0)) :: (b2, .cells (List.toArray [it (about by_ (at0 by_ j) (j + 1)).lo, it (about by_ (at0 by_ j) (j + 1)).hi, owV (some u1) (k + 1), .slice none 0 0]) 27 (0, 0)) :: owH (some u1) 56 (bathCs by_ j (k + 1)) []) ++ [(bc, cntO (j + 4 + 4 * (k + 1)))]) aa ww
          rw [bathCs_succ, atCs_succ]
          exact at_less h ⟨rfl, rfl, rfl, rfl, rfl, rfl, rfl, trivial⟩ (fun _ h => .tail _ (.tail _ h)) (fun h => (List.nodup_cons.1 (List.nodup_cons.1 h).2).2)
        · refine WHo.so rfl (SO.altersN (own := (_ :: ((u3).b, .cells (atCs by_ j k ++ (u3).rest).toArray 3 (0, 0)) :: (b2, .cells (List.toArray [it (about by_ (at0 by_ j) (j + 1)).lo, it (about by_ (at0 by_ j) (j + 1)).hi, owV o1 k, .slice none 0 0]) 27 (0, 0)) :: owH o1 56 (bathCs by_ j k) [])) (hpc := [(bc, cntO (j + 4 + 4 * k + 1 + 1))]) (S1 := [bc]) (fun _ h => h) (fun h => h) (fun _ h => h) (fun _ h => h) (Enters.val Try.call88 rfl rfl) (fun w1 hI => about_g (atB by_ j k) (atB_num by_ j k) by_ bc bb b1 _ w1 hB hf (j + 4 + 4 * k + 1 + 1) (by omega) hI)) rfl ?_
          rintro _ _ _ ⟨_, _, ⟨rfl, rfl, rfl⟩, rfl⟩
          refine ⟨(fun _ hI => Inv.nil hI), ?_⟩
          refine WH.yd (i := 8) (by kernel_rfl) (fun _ o v c a w _ h => (QuietPanic.blk (QuietPanic.then (QuietPanic.then (QuietPanic.blk (QuietPanic.then QuietPanic.body))))) c o.dst v a w h) rfl (Yd.build SA56 rfl (cs := [_, _, _]) rfl) rfl ?_
          refine WH.two (i := 1) (j := 9) (by kernel_rfl) ?_ ?_
          · refine WHo.yd rfl (Yd.load1 Try.isAgg24 rfl (by first | exact Rd.own (k := 0) rfl rfl | exact Rd.own (k := 1) rfl rfl | exact Rd.own (k := 2) rfl rfl | exact Rd.own (k := 3) rfl rfl | exact Rd.own (k := 4) rfl rfl | exact (Rd.imm hf rfl))) rfl ?_
            refine WH.one (i := 9) (by kernel_rfl) (WHo.so rfl (SO.buildSlice Try.underlying24 Try.sizeOf56 Try.zeroValue56 rfl rfl rfl rfl (cs := [_, _, _]) rfl) rfl ?_)
            rintro _ _ _ ⟨b38, hb38, rfl, rfl, rfl⟩ -- NEW
            refine ⟨(fun _ hI => Inv.nil hI), ?_⟩
            refine WH.one (i := 10) (by kernel_rfl) (WHo.so rfl (SO.appendOw (o := o1) (len := k) (n := 1) (xs := bathCs by_ j k) (size := 3) [] [_, _, _, _] [_] rfl rfl Try.underlying24 Try.sizeOf56 Try.typeInfo56 Try.zeroValue56 rfl rfl rfl (congrArg (fun z => _ :: _ :: _ :: _ :: z) (owH_app _ _ _ _)) ⟨rfl, .inr ⟨_, _, _, rfl, RdN.own (k := 0) (n := 3) rfl rfl⟩⟩ (oneB_spec rfl) ho1 (bathCs_len _ _ _) (by omega) (by show (2 * (_ + _) + 1000) * 24 ≤ 2 ^ 48; omega) (by omega)) rfl ?_)
            rintro _ _ _ ⟨u1, hu1, rfl, rfl, rfl⟩
            refine ⟨(fun _ hI => Inv.nil hI), ?_⟩
            refine WH.yd (i := 15) (by kernel_rfl) (fun _ o v c a w _ h => (QuietPanic.blk (QuietPanic.then (QuietPanic.then (QuietPanic.blk (QuietPanic.then QuietPanic.body))))) c o.dst v a w h) rfl (Yd.fieldAddr FA27_1 rfl) rfl ?_
            refine WH.one (i := 14) (by kernel_rfl) (WHo.so rfl (SO.appendOw (o := some u3) (len := k + 1) (n := 1) (xs := atCs by_ j k) (size := 1) [] [_, _] [_, _, _] rfl rfl Try.underlying52 Try.sizeOf3 Try.typeInfo3 Try.zeroValue3 rfl rfl rfl rfl ⟨rfl, .inr ⟨_, _, _, rfl, RdN.own (k := 1) (n := 1) rfl rfl⟩⟩ (oneB_spec rfl) ho3 (atCs_len _ _ _) (by omega) (by show (2 * (_ + _) + 1000) * 8 ≤ 2 ^ 48; omega) (by omega)) rfl ?_)
            rintro _ _ _ ⟨u4, hu4, rfl, rfl, rfl⟩
            refine ⟨(fun _ hI => Inv.nil hI), ?_⟩
            refine WH.one (i := 16) (by kernel_rfl) (WHo.so rfl (SO.store 3 rfl Try.sizeOf24 rfl rfl rfl rfl (Nat.le_of_ble_eq_true rfl) (oneB_spec rfl)) rfl ?_)
            rintro _ _ _ ⟨rfl, rfl, rfl⟩
            refine ⟨(fun _ hI => Inv.nil hI), ?_⟩
            refine WH.yd (i := 17) (by kernel_rfl) (fun _ o v c a w _ h => (QuietPanic.blk (QuietPanic.then (QuietPanic.then (QuietPanic.blk (QuietPanic.then QuietPanic.body))))) c o.dst v a w h) rfl (Yd.assign rfl) rfl ?_
            refine WH.nil (by kernel_rfl) ?_
            refine WP.blkNormal ?_
            refine WP.thenC ?_
            refine WC.ofFr [(3, _), (1, _), (2, _), (4, _), (5, _), (19, _), (20, _)] ⟨rfl, rfl, rfl, rfl, rfl, rfl, rfl, trivial⟩ ?_
            refine WC.region ?_
            refine WL.yd (Yd.add rfl rfl (wr64 ⟨by omega, by omega⟩)) rfl ?_
            refine WL.yd (Yd.move rfl) rfl ?_
            refine WL.nil ?_
            refine WP.again (⟨k + 1, some u1, u4⟩ : Nat × Option Ow × Ow) ⟨by simp only; omega, hu1, hu4⟩ (by simp only; omega) (fun aa ww h => ?_)
            show At _ [(1, pt b1), (2, pt b2), (3, owV (some u4) ((k + 1) + 1)), (4, .func (.func 88) #[] #[pt b1]), (5, it (at0 by_ j)), (19, it (drawV by_ (j + 4) 6)), (20, nt (k + 1))] D1 ((((u4).b, .cells (atCs by_ j (k + 1) ++ (u4).rest).toArray 3 (0, 0)) :: (b2, .cells (List.toArray [it (about by_ (at0 by_ j) (j + 1)).lo, it (about by_ (at0 by_ j) (j + 1)).hi, owV (some u1) (k + 1), .slice none 0 0]) 27 (0, 0)) :: owH (some u1) 56 (bathCs by_ j (k + 1)) []) ++ [(bc, cntO (j + 4 + 4 * (k + 1)))]) aa ww
            rw [bathCs_succ, atCs_succ]
            exact at_less h ⟨rfl, rfl, rfl, rfl, rfl, rfl, rfl, trivial⟩ (fun _ h => .tail _ (.tail _ h)) (fun h => (List.nodup_cons.1 (List.nodup_cons.1 h).2).2)
          · refine WHo.so rfl (SO.buildSlice Try.underlying24 Try.sizeOf56 Try.zeroValue56 rfl rfl rfl rfl (cs := [_, _, _]) rfl) rfl ?_
            rintro _ _ _ ⟨b38, hb38, rfl, rfl, rfl⟩ -- NEW
            refine ⟨(fun _ hI => Inv.nil hI), ?_⟩
            refine WH.one (i := 1) (by kernel_rfl) (WHo.yd rfl (Yd.load1 Try.isAgg24 rfl (by first | exact Rd.own (k := 0) rfl rfl | exact Rd.own (k := 1) rfl rfl | exact Rd.own (k := 2) rfl rfl | exact Rd.own (k := 3) rfl rfl | exact Rd.own (k := 4) rfl rfl | exact Rd.own (k := 5) rfl rfl | exact (Rd.imm hf rfl))) rfl ?_)
            refine WH.one (i := 10) (by kernel_rfl) (WHo.so rfl (SO.appendOw (o := o1) (len := k) (n := 1) (xs := bathCs by_ j k) (size := 3) [] [_, _, _, _] [_] rfl rfl Try.underlying24 Try.sizeOf56 Try.typeInfo56 Try.zeroValue56 rfl rfl rfl (congrArg (fun z => _ :: _ :: _ :: _ :: z) (owH_app _ _ _ _)) ⟨rfl, .inr ⟨_, _, _, rfl, RdN.own (k := 0) (n := 3) rfl rfl⟩⟩ (oneB_spec rfl) ho1 (bathCs_len _ _ _) (by omega) (by show (2 * (_ + _) + 1000) * 24 ≤ 2 ^ 48; omega) (by omega)) rfl ?_)
            rintro _ _ _ ⟨u1, hu1, rfl, rfl, rfl⟩
            refine ⟨(fun _ hI => Inv.nil hI), ?_⟩
            refine WH.yd (i := 15) (by kernel_rfl) (fun _ o v c a w _ h => (QuietPanic.blk (QuietPanic.then (QuietPanic.then (QuietPanic.blk (QuietPanic.then QuietPanic.body))))) c o.dst v a w h) rfl (Yd.fieldAddr FA27_1 rfl) rfl ?_
            refine WH.one (i := 14) (by kernel_rfl) (WHo.so rfl (SO.appendOw (o := some u3) (len := k + 1) (n := 1) (xs := atCs by_ j k) (size := 1) [] [_, _] [_, _, _] rfl rfl Try.underlying52 Try.sizeOf3 Try.typeInfo3 Try.zeroValue3 rfl rfl rfl rfl ⟨rfl, .inr ⟨_, _, _, rfl, RdN.own (k := 1) (n := 1) rfl rfl⟩⟩ (oneB_spec rfl) ho3 (atCs_len _ _ _) (by omega) (by show (2 * (_ + _) + 1000) * 8 ≤ 2 ^ 48; omega) (by omega)) rfl ?_)
            rintro _ _ _ ⟨u4, hu4, rfl, rfl, rfl⟩
            refine ⟨(fun _ hI => Inv.nil hI), ?_⟩
            refine WH.one (i := 16) (by kernel_rfl) (WHo.so rfl (SO.store 3 rfl Try.sizeOf24 rfl rfl rfl rfl (Nat.le_of_ble_eq_true rfl) (oneB_spec rfl)) rfl ?_)
            rintro _ _ _ ⟨rfl, rfl, rfl⟩
            refine ⟨(fun _ hI => Inv.nil hI), ?_⟩
            refine WH.yd (i := 17) (by kernel_rfl) (fun _ o v c a w _ h => (QuietPanic.blk (QuietPanic.then (QuietPanic.then (QuietPanic.blk (QuietPanic.then QuietPanic.body))))) c o.dst v a w h) rfl (Yd.assign rfl) rfl ?_
            refine WH.nil (by kernel_rfl) ?_
            refine WP.blkNormal ?_
            refine WP.thenC ?_
            refine WC.ofFr [(3, _), (1, _), (2, _), (4, _), (5, _), (19, _), (20, _)] ⟨rfl, rfl, rfl, rfl, rfl, rfl, rfl, trivial⟩ ?_
            refine WC.region ?_
            refine WL.yd (Yd.add rfl rfl (wr64 ⟨by omega, by omega⟩)) rfl ?_
            refine WL.yd (Yd.move rfl) rfl ?_
            refine WL.nil ?_
            refine WP.again (⟨k + 1, some u1, u4⟩ : Nat × Option Ow × Ow) ⟨by simp only; omega, hu1, hu4⟩ (by simp only; omega) (fun aa ww h => ?_)
            show At _ [(1, pt b1), (2, pt b2), (3, owV (some u4) ((k + 1) + 1)), (4, .func (.func 88) #[] #[pt b1]), (5, it (at0 by_ j)), (19, it (drawV by_ (j + 4) 6)), (20, nt (k + 1))] D1 ((((u4).b, .cells (atCs by_ j (k + 1) ++ (u4).rest).toArray 3 (0, 0)) :: (b2, .cells (List.toArray [it (about by_ (at0 by_ j) (j + 1)).lo, it (about by_ (at0 by_ j) (j + 1)).hi, owV (some u1) (k + 1), .slice none 0 0]) 27 (0, 0)) :: owH (some u1) 56 (bathCs by_ j (k + 1)) []) ++ [(bc, cntO (j + 4 + 4 * (k + 1)))]) aa ww
            rw [bathCs_succ, atCs_succ]
            exact at_less h ⟨rfl, rfl, rfl, rfl, rfl, rfl, rfl, trivial⟩ (fun _ h => .tail _ (.tail _ h)) (fun h => (List.nodup_cons.1 (List.nodup_cons.1 h).2).2)
  · try simp only [zq1, zq2, zq3, zq4, zq5, zq6, zq7, zq8] at c21
    refine WC.exit ?_
    refine WP.thenExit ?_
    refine WP.thenExit ?_
    refine WP.blkHit ?_
    refine WP.thenC ?_
    refine WC.seq ?_
    refine WC.seq ?_
    obtain rfl : k = (nB by_ j) := by omega
    refine WC.freezeOw (f := bathC) bathC_len [_, _] [_] o1 56 (bathsM by_ j (nB by_ j)) rfl (by rw [bathsM_len]; exact ho1) (congrArg (fun z => _ :: _ :: z) (owH_app _ _ _ _)) (fun D2 hX2 hS1 => ?_)
    refine WC.freezeOw (f := intC) intC_len [] [_, _] (some u3) 3 (atsM by_ j (nB by_ j)) rfl (by rw [atsM_len]; exact ho3) rfl (fun D3 hX3 hS3 => ?_)
    replace hB := (hB.ext hX2).ext hX3
    replace hf := hX3.old _ _ (hX2.old _ _ hf)
    replace hS1 := hS1.ext hX3
    rw [bathsM_len] at hS1
    rw [atsM_len] at hS3
    refine (?_ : WC Try.prog _ _ D3 [_, _] _ _)
    refine WC.ofFr [(1, _), (2, _), (3, _)] ⟨rfl, rfl, rfl, trivial⟩ ?_
    refine WC.region ?_
    refine WL.yd (Yd.load1 Try.isAgg50 rfl (by first | exact Rd.own (k := 0) rfl rfl | exact Rd.own (k := 1) rfl rfl | exact (Rd.imm hf rfl))) rfl ?_
    refine WL.so (SO.alters (own := [_]) (hpc := [(bc, cntO (j + 4 + 4 * (nB by_ j)))]) (S1 := [bc]) (fun _ h => h) (fun h => h) (fun _ h => h) (fun _ h => h) (Enters.val Try.call87 rfl rfl) (fun w1 hI => draw_g by_ bc bb _ w1 hB 9 (by omega) (j + 4 + 4 * (nB by_ j)) (by omega) hI)) rfl ?_
    rintro _ _ _ ⟨_, _, ⟨rfl, rfl, rfl⟩, rfl⟩
    refine WL.yd (Yd.move rfl) rfl ?_
    refine WL.nil ?_
    refine WP.thenC ?_
    refine WC.block ?_
    have hnC := nC_num by_ j
    have e5 : j + 4 + 4 * (nB by_ j) + 1 = j + 5 + 4 * (nB by_ j) := by omega
    rw [e5] at hnC
    rw [e5]
    refine WC.loop (fun y : Nat × Option Ow => [(1, pt b1), (2, pt b2), (3, .slice (some ⟨u3.b, 0, none⟩) ((nB by_ j) + 1) u3.cap), (47, it (drawV by_ (j + 5 + 4 * (nB by_ j)) 9)), (48, nt y.1)]) (fun y => ((b2, .cells (List.toArray [it (about by_ (at0 by_ j) (j + 1)).lo, it (about by_ (at0 by_ j) (j + 1)).hi, owV o1 (nB by_ j), owV y.2 y.1]) 27 (0, 0)) :: owH y.2 47 (clCs by_ j y.1) []) ++ [(bc, cntO (j + 5 + 4 * (nB by_ j) + 2 * y.1))]) (fun _ => D3) (fun y => y.1 ≤ (nC by_ j) ∧ owP w y.2 y.1 3) (fun y => (nC by_ j) - y.1) (0, none) ⟨by omega, rfl⟩ (fun a w h => at_fr h ⟨rfl, rfl, rfl, rfl, rfl, trivial⟩) ?_
    rintro ⟨i, o2⟩ ⟨hi, ho2⟩
    dsimp only at hi ho2
    have hm1 := drawV_num by_ (j + 5 + 4 * (nB by_ j) + 2 * i + 1) (n := (((nB by_ j) + 1 : Nat) : Int)) (by omega)
    have hm2 := drawV_num by_ (j + 5 + 4 * (nB by_ j) + 2 * i + 1 + 1) (n := (((nB by_ j) + 1 : Nat) : Int)) (by omega)
    have hw1 := whoM_num by_ j (2 * i + 1)
    have hw2 := whoM_num by_ j (2 * i + 2)
    have ew1 : drawV by_ (j + 5 + 4 * (nB by_ j) + 2 * i + 1) (((nB by_ j) + 1 : Nat) : Int) - 1 = whoM by_ j (2 * i + 1) := rfl
    have ew2 : drawV by_ (j + 5 + 4 * (nB by_ j) + 2 * i + 1 + 1) (((nB by_ j) + 1 : Nat) : Int) - 1 = whoM by_ j (2 * i + 2) := rfl
    refine WC.seq ?_
    refine WC.ofFr [(1, _), (2, _), (3, _), (47, _), (48, _)] ⟨rfl, rfl, rfl, rfl, rfl, trivial⟩ ?_
    refine WC.region ?_
    refine WL.yd (Yd.lss rfl rfl) rfl ?_
    refine WL.nil ?_
    refine WP.thenC ?_
    refine WC.seq ?_
    refine WC.cond rfl (fun c49 => ?_) (fun c49 => ?_)
    · try simp only [zq1, zq2, zq3, zq4, zq5, zq6, zq7, zq8] at c49
      refine WC.skip ?_
      refine WP.thenC ?_
      refine WC.seq ?_
      refine WC.block ?_
      refine WC.seq ?_
      refine WC.ofFr [(1, _), (2, _), (3, _), (47, _), (48, _)] ⟨rfl, rfl, rfl, rfl, rfl, trivial⟩ ?_
      refine WC.drawO [] [(0, true), (1, true), (2, true), (5, true), (6, true), (7, true), (3, false), (4, true), (8, false), (9, true), (10, true), (11, true)] (by kernel_rfl) (by kernel_rfl) (QuietPanic.then (QuietPanic.blk (QuietPanic.then (QuietPanic.then (QuietPanic.blk (QuietPanic.then QuietPanic.body)))))) (fun _ hI => Inv.nil hI) ?_
      refine WA.yd rfl (Yd.load1 Try.isAgg50 rfl (by first | exact Rd.own (k := 0) rfl rfl | exact Rd.own (k := 1) rfl rfl | exact Rd.own (k := 2) rfl rfl | exact (Rd.imm hf rfl))) rfl ?_
      refine WA.yd rfl (Yd.move rfl) rfl ?_
      refine WA.yd rfl (Yd.lenS rfl Try.underlying52 rfl) rfl ?_
      refine WA.yd rfl (Yd.load1 Try.isAgg50 rfl (by first | exact Rd.own (k := 0) rfl rfl | exact Rd.own (k := 1) rfl rfl | exact Rd.own (k := 2) rfl rfl | exact (Rd.imm hf rfl))) rfl ?_
      refine WA.yd rfl (Yd.move rfl) rfl ?_
      refine WA.yd rfl (Yd.lenS rfl Try.underlying52 rfl) rfl ?_
      refine WA.so rfl (SO.alters (own := ((b2, .cells (List.toArray [it (about by_ (at0 by_ j) (j + 1)).lo, it (about by_ (at0 by_ j) (j + 1)).hi, owV o1 (nB by_ j), owV o2 i]) 27 (0, 0)) :: owH o2 47 (clCs by_ j i) [])) (hpc := [(bc, cntO (j + 5 + 4 * (nB by_ j) + 2 * i))]) (S1 := [bc]) (fun _ h => h) (fun h => h) (fun _ h => h) (fun _ h => h) (Enters.val Try.call87 rfl rfl) (fun w1 hI => draw_g by_ bc bb _ w1 hB (((nB by_ j) + 1 : Nat) : Int) (by omega) (j + 5 + 4 * (nB by_ j) + 2 * i) (by omega) hI)) rfl ?_
      rintro _ _ _ ⟨_, _, ⟨rfl, rfl, rfl⟩, rfl⟩
      refine ⟨fun _ hI => Inv.nil hI, ?_⟩
      refine WA.yd rfl (Yd.sub rfl rfl (wr64 ⟨by omega, by omega⟩)) rfl ?_
      refine WA.so rfl (SO.alters (own := ((b2, .cells (List.toArray [it (about by_ (at0 by_ j) (j + 1)).lo, it (about by_ (at0 by_ j) (j + 1)).hi, owV o1 (nB by_ j), owV o2 i]) 27 (0, 0)) :: owH o2 47 (clCs by_ j i) [])) (hpc := [(bc, cntO (j + 5 + 4 * (nB by_ j) + 2 * i + 1))]) (S1 := [bc]) (fun _ h => h) (fun h => h) (fun _ h => h) (fun _ h => h) (Enters.val Try.call87 rfl rfl) (fun w1 hI => draw_g by_ bc bb _ w1 hB (((nB by_ j) + 1 : Nat) : Int) (by omega) (j + 5 + 4 * (nB by_ j) + 2 * i + 1) (by omega) hI)) rfl ?_
      rintro _ _ _ ⟨_, _, ⟨rfl, rfl, rfl⟩, rfl⟩
      refine ⟨fun _ hI => Inv.nil hI, ?_⟩
      refine WA.yd rfl (Yd.sub rfl rfl (wr64 ⟨by omega, by omega⟩)) rfl ?_
      refine WA.yd rfl (Yd.assign rfl) rfl ?_
      refine WA.yd rfl (Yd.assign rfl) rfl ?_
      refine WA.nil ?_
      refine WP.thenC ?_
      refine WC.know 7 (it (whoM by_ j (2 * i + 1))) rfl (congrArg (Value.int .i64) ew1) ?_
      refine WC.know 8 (it (whoM by_ j (2 * i + 2))) rfl (congrArg (Value.int .i64) ew2) ?_
      refine WC.ofFr [(8, _), (7, _), (1, _), (2, _), (3, _), (47, _), (48, _)] ⟨rfl, rfl, rfl, rfl, rfl, rfl, rfl, trivial⟩ ?_
      refine WC.drawH [] (by kernel_rfl) (fun _ hI => Inv.nil hI) ?_
      refine WH.yd (i := 0) (by kernel_rfl) (fun _ o v c a w _ h => (QuietPanic.blk (QuietPanic.then (QuietPanic.then (QuietPanic.blk (QuietPanic.then QuietPanic.body))))) c o.dst v a w h) rfl (Yd.fieldAddr FA27_2 rfl) rfl ?_
      refine WH.yd (i := 2) (by kernel_rfl) (fun _ o v c a w _ h => (QuietPanic.blk (QuietPanic.then (QuietPanic.then (QuietPanic.blk (QuietPanic.then QuietPanic.body))))) c o.dst v a w h) rfl (Yd.move rfl) rfl ?_
      refine WH.yd (i := 3) (by kernel_rfl) (fun _ o v c a w _ h => (QuietPanic.blk (QuietPanic.then (QuietPanic.then (QuietPanic.blk (QuietPanic.then QuietPanic.body))))) c o.dst v a w h) rfl (Yd.move rfl) rfl ?_
      refine WH.yd (i := 4) (by kernel_rfl) (fun _ o v c a w _ h => (QuietPanic.blk (QuietPanic.then (QuietPanic.then (QuietPanic.blk (QuietPanic.then QuietPanic.body))))) c o.dst v a w h) rfl (Yd.move rfl) rfl ?_
      refine WH.yd (i := 5) (by kernel_rfl) (fun _ o v c a w _ h => (QuietPanic.blk (QuietPanic.then (QuietPanic.then (QuietPanic.blk (QuietPanic.then QuietPanic.body))))) c o.dst v a w h) rfl (Yd.move rfl) rfl ?_
      refine WH.yd (i := 6) (by kernel_rfl) (fun _ o v c a w _ h => (QuietPanic.blk (QuietPanic.then (QuietPanic.then (QuietPanic.blk (QuietPanic.then QuietPanic.body))))) c o.dst v a w h) rfl (Yd.add rfl rfl (wr64 ⟨by omega, by omega⟩)) rfl ?_
      refine WH.yd (i := 7) (by kernel_rfl) (fun _ o v c a w _ h => (QuietPanic.blk (QuietPanic.then (QuietPanic.then (QuietPanic.blk (QuietPanic.then QuietPanic.body))))) c o.dst v a w h) rfl (Yd.indexS Try.underlying52 Try.sizeOf3 rfl rfl (by omega) (by omega) (hS3.addr (whoM by_ j (2 * i + 1) + 1).toNat (by omega))) rfl ?_
      refine WH.yd (i := 8) (by kernel_rfl) (fun _ o v c a w _ h => (QuietPanic.blk (QuietPanic.then (QuietPanic.then (QuietPanic.blk (QuietPanic.then QuietPanic.body))))) c o.dst v a w h) rfl (Yd.load1 Try.isAgg3 rfl ((hS3.at (whoM by_ j (2 * i + 1) + 1).toNat (by omega)).rd 0 rfl)) rfl ?_
      refine WH.yd (i := 9) (by kernel_rfl) (fun _ o v c a w _ h => (QuietPanic.blk (QuietPanic.then (QuietPanic.then (QuietPanic.blk (QuietPanic.then QuietPanic.body))))) c o.dst v a w h) rfl (Yd.move rfl) rfl ?_
      refine WH.yd (i := 10) (by kernel_rfl) (fun _ o v c a w _ h => (QuietPanic.blk (QuietPanic.then (QuietPanic.then (QuietPanic.blk (QuietPanic.then QuietPanic.body))))) c o.dst v a w h) rfl (Yd.move rfl) rfl ?_
      refine WH.yd (i := 11) (by kernel_rfl) (fun _ o v c a w _ h => (QuietPanic.blk (QuietPanic.then (QuietPanic.then (QuietPanic.blk (QuietPanic.then QuietPanic.body))))) c o.dst v a w h) rfl (Yd.add rfl rfl (wr64 ⟨by omega, by omega⟩)) rfl ?_
      refine WH.yd (i := 12) (by kernel_rfl) (fun _ o v c a w _ h => (QuietPanic.blk (QuietPanic.then (QuietPanic.then (QuietPanic.blk (QuietPanic.then QuietPanic.body))))) c o.dst v a w h) rfl (Yd.indexS Try.underlying52 Try.sizeOf3 rfl rfl (by omega) (by omega) (hS3.addr (whoM by_ j (2 * i + 2) + 1).toNat (by omega))) rfl ?_
      refine WH.yd (i := 13) (by kernel_rfl) (fun _ o v c a w _ h => (QuietPanic.blk (QuietPanic.then (QuietPanic.then (QuietPanic.blk (QuietPanic.then QuietPanic.body))))) c o.dst v a w h) rfl (Yd.load1 Try.isAgg3 rfl ((hS3.at (whoM by_ j (2 * i + 2) + 1).toNat (by omega)).rd 0 rfl)) rfl ?_
      refine WH.yd (i := 14) (by kernel_rfl) (fun _ o v c a w _ h => (QuietPanic.blk (QuietPanic.then (QuietPanic.then (QuietPanic.blk (QuietPanic.then QuietPanic.body))))) c o.dst v a w h) rfl (Yd.geq rfl rfl) rfl ?_
      refine WH.yd (i := 15) (by kernel_rfl) (fun _ o v c a w _ h => (QuietPanic.blk (QuietPanic.then (QuietPanic.then (QuietPanic.blk (QuietPanic.then QuietPanic.body))))) c o.dst v a w h) rfl (Yd.build SA47 rfl (cs := [_, _, _]) rfl) rfl ?_
      refine WH.two (i := 1) (j := 16) (by kernel_rfl) ?_ ?_
      · refine WHo.yd rfl (Yd.load1 Try.isAgg25 rfl (by first | exact Rd.own (k := 0) rfl rfl | exact Rd.own (k := 1) rfl rfl | exact Rd.own (k := 2) rfl rfl | exact (Rd.imm hf rfl))) rfl ?_
        refine WH.one (i := 16) (by kernel_rfl) (WHo.so rfl (SO.buildSlice Try.underlying25 Try.sizeOf47 Try.zeroValue47 rfl rfl rfl rfl (cs := [_, _, _]) rfl) rfl ?_)
        rintro _ _ _ ⟨b76, hb76, rfl, rfl, rfl⟩ -- NEW
        refine ⟨(fun _ hI => Inv.nil hI), ?_⟩
        refine WH.one (i := 17) (by kernel_rfl) (WHo.so rfl (SO.appendOw (o := o2) (len := i) (n := 1) (xs := clCs by_ j i) (size := 3) [] [_, _] [_] rfl rfl Try.underlying25 Try.sizeOf47 Try.typeInfo47 Try.zeroValue47 rfl rfl rfl (congrArg (fun z => _ :: _ :: z) (owH_app _ _ _ _)) ⟨rfl, .inr ⟨_, _, _, rfl, RdN.own (k := 0) (n := 3) rfl rfl⟩⟩ (oneB_spec rfl) ho2 (clCs_len _ _ _) (by omega) (by show (2 * (_ + _) + 1000) * 24 ≤ 2 ^ 48; omega) (by omega)) rfl ?_)
        rintro _ _ _ ⟨u2, hu2, rfl, rfl, rfl⟩
        refine ⟨(fun _ hI => Inv.nil hI), ?_⟩
        refine WH.yd (i := 18) (by kernel_rfl) (fun _ o v c a w _ h => (QuietPanic.blk (QuietPanic.then (QuietPanic.then (QuietPanic.blk (QuietPanic.then QuietPanic.body))))) c o.dst v a w h) rfl (Yd.fieldAddr FA27_2 rfl) rfl ?_
        refine WH.one (i := 19) (by kernel_rfl) (WHo.so rfl (SO.store 1 rfl Try.sizeOf25 rfl rfl rfl rfl (Nat.le_of_ble_eq_true rfl) (oneB_spec rfl)) rfl ?_)
        rintro _ _ _ ⟨rfl, rfl, rfl⟩
        refine ⟨(fun _ hI => Inv.nil hI), ?_⟩
        refine WH.nil (by kernel_rfl) ?_
        refine WP.blkNormal ?_
        refine WP.thenC ?_
        refine WC.ofFr [(1, _), (2, _), (3, _), (47, _), (48, _)] ⟨rfl, rfl, rfl, rfl, rfl, trivial⟩ ?_
        refine WC.region ?_
        refine WL.yd (Yd.add rfl rfl (wr64 ⟨by omega, by omega⟩)) rfl ?_
        refine WL.yd (Yd.move rfl) rfl ?_
        refine WL.nil ?_
        refine WP.again (⟨i + 1, some u2⟩ : Nat × Option Ow) ⟨by simp only; omega, hu2⟩ (by simp only; omega) (fun aa ww h => ?_)
        show At _ [(1, pt b1), (2, pt b2), (3, .slice (some ⟨u3.b, 0, none⟩) ((nB by_ j) + 1) u3.cap), (47, it (drawV by_ (j + 5 + 4 * (nB by_ j)) 9)), (48, nt (i + 1))] D3 (((b2, .cells (List.toArray [it (about by_ (at0 by_ j) (j + 1)).lo, it (about by_ (at0 by_ j) (j + 1)).hi, owV o1 (nB by_ j), owV (some u2) (i + 1)]) 27 (0, 0)) :: owH (some u2) 47 (clCs by_ j (i + 1)) []) ++ [(bc, cntO (j + 5 + 4 * (nB by_ j) + 2 * (i + 1)))]) aa ww
        rw [clCs_succ]
        exact at_less h ⟨rfl, rfl, rfl, rfl, rfl, trivial⟩ (fun _ h => .tail _ h) (fun h => (List.nodup_cons.1 h).2)
      · refine WHo.so rfl (SO.buildSlice Try.underlying25 Try.sizeOf47 Try.zeroValue47 rfl rfl rfl rfl (cs := [_, _, _]) rfl) rfl ?_
        rintro _ _ _ ⟨b76, hb76, rfl, rfl, rfl⟩ -- NEW
        refine ⟨(fun _ hI => Inv.nil hI), ?_⟩
        refine WH.one (i := 1) (by kernel_rfl) (WHo.yd rfl (Yd.load1 Try.isAgg25 rfl (by first | exact Rd.own (k := 0) rfl rfl | exact Rd.own (k := 1) rfl rfl | exact Rd.own (k := 2) rfl rfl | exact Rd.own (k := 3) rfl rfl | exact (Rd.imm hf rfl))) rfl ?_)
        refine WH.one (i := 17) (by kernel_rfl) (WHo.so rfl (SO.appendOw (o := o2) (len := i) (n := 1) (xs := clCs by_ j i) (size := 3) [] [_, _] [_] rfl rfl Try.underlying25 Try.sizeOf47 Try.typeInfo47 Try.zeroValue47 rfl rfl rfl (congrArg (fun z => _ :: _ :: z) (owH_app _ _ _ _)) ⟨rfl, .inr ⟨_, _, _, rfl, RdN.own (k := 0) (n := 3) rfl rfl⟩⟩ (oneB_spec rfl) ho2 (clCs_len _ _ _) (by omega) (by show (2 * (_ + _) + 1000) * 24 ≤ 2 ^ 48; omega) (by omega)) rfl ?_)
        rintro _ _ _ ⟨u2, hu2, rfl, rfl, rfl⟩
        refine ⟨(fun _ hI => Inv.nil hI), ?_⟩
        refine WH.yd (i := 18) (by kernel_rfl) (fun _ o v c a w _ h => (QuietPanic.blk (QuietPanic.then (QuietPanic.then (QuietPanic.blk (QuietPanic.then QuietPanic.body))))) c o.dst v a w h) rfl (Yd.fieldAddr FA27_2 rfl) rfl ?_
        refine WH.one (i := 19) (by kernel_rfl) (WHo.so rfl (SO.store 1 rfl Try.sizeOf25 rfl rfl rfl rfl (Nat.le_of_ble_eq_true rfl) (oneB_spec rfl)) rfl ?_)
        rintro _ _ _ ⟨rfl, rfl, rfl⟩
        refine ⟨(fun _ hI => Inv.nil hI), ?_⟩
        refine WH.nil (by kernel_rfl) ?_
        refine WP.blkNormal ?_
        refine WP.thenC ?_
        refine WC.ofFr [(1, _), (2, _), (3, _), (47, _), (48, _)] ⟨rfl, rfl, rfl, rfl, rfl, trivial⟩ ?_
        refine WC.region ?_
        refine WL.yd (Yd.add rfl rfl (wr64 ⟨by omega, by omega⟩)) rfl ?_
        refine WL.yd (Yd.move rfl) rfl ?_
        refine WL.nil ?_
        refine WP.again (⟨i + 1, some u2⟩ : Nat × Option Ow) ⟨by simp only; omega, hu2⟩ (by simp only; omega) (fun aa ww h => ?_)
        show At _ [(1, pt b1), (2, pt b2), (3, .slice (some ⟨u3.b, 0, none⟩) ((nB by_ j) + 1) u3.cap), (47, it (drawV by_ (j + 5 + 4 * (nB by_ j)) 9)), (48, nt (i + 1))] D3 (((b2, .cells (List.toArray [it (about by_ (at0 by_ j) (j + 1)).lo, it (about by_ (at0 by_ j) (j + 1)).hi, owV o1 (nB by_ j), owV (some u2) (i + 1)]) 27 (0, 0)) :: owH (some u2) 47 (clCs by_ j (i + 1)) []) ++ [(bc, cntO (j + 5 + 4 * (nB by_ j) + 2 * (i + 1)))]) aa ww
        rw [clCs_succ]
        exact at_less h ⟨rfl, rfl, rfl, rfl, rfl, trivial⟩ (fun _ h => .tail _ h) (fun h => (List.nodup_cons.1 h).2)
    · try simp only [zq1, zq2, zq3, zq4, zq5, zq6, zq7, zq8] at c49
      refine WC.exit ?_
      refine WP.thenExit ?_
      refine WP.thenExit ?_
      refine WP.blkHit ?_
      refine WP.thenC ?_
      refine WC.seq ?_
      obtain rfl : i = (nC by_ j) := by omega
      refine WC.freezeOw (f := claimC) claimC_len [_] [_] o2 47 (claimsM by_ j (nC by_ j)) rfl (by rw [claimsM_len]; exact ho2) (congrArg (fun z => _ :: z) (owH_app _ _ _ _)) (fun D4 hX4 hS2 => ?_)
      replace hS1 := hS1.ext hX4
      rw [claimsM_len] at hS2
      replace hS3 := hS3.ext hX4
      refine (?_ : WC Try.prog _ _ D4 [_, _] _ _)
      refine WC.ofFr [(2, _), (3, _)] ⟨rfl, rfl, trivial⟩ ?_
      refine WC.region ?_
      refine WL.yd (Yd.loadN Try.isAgg27 Try.sizeOf27 rfl (vs := [_, _, _, _]) rfl (by first | exact RdN.own (k := 0) (n := 4) rfl rfl | exact RdN.own (k := 1) (n := 4) rfl rfl)) rfl ?_
      refine WL.yd (Yd.move rfl) rfl ?_
      refine WL.so (SO.store 0 rfl Try.sizeOf27 rfl rfl rfl rfl (Nat.le_of_ble_eq_true rfl) (fun v hv => by simp only [List.mem_cons, List.mem_nil_iff, or_false] at hv; rcases hv with rfl | rfl | rfl | rfl <;> first | rfl | exact owV_one _ _)) rfl ?_
      rintro _ _ _ ⟨rfl, rfl, rfl⟩
      refine WL.yd (Yd.assign rfl) rfl ?_
      refine WL.nil ?_
      refine WP.thenC ?_
      refine WC.ret ?_
      refine WP.ret2 rfl rfl Try.results35 (RV.cellN Try.isAgg27 Try.sizeOf27 rfl (vs := [_, _, _, _]) rfl (by first | exact RdN.own (k := 0) (n := 4) rfl rfl | exact RdN.own (k := 1) (n := 4) rfl rfl)) (RV.tmp rfl) (fun w1 hI => ?_)
      exact ⟨_, D4, [(bc, cntO (madeN by_ j))], rfl, ((hX1.trans hX2 (Nat.le_refl _)).trans hX3 (Nat.le_refl _)).trans hX4 (Nat.le_refl _), hI.tail, owAt o1, owCp o1 (nB by_ j), owAt o2, owCp o2 (nC by_ j), some ⟨u3.b, 0, none⟩, u3.cap, by rw [← owV_eqP ho1, ← owV_eqP ho2]; rfl, ⟨hS1, hS2, by omega, by omega⟩, hS3, rfl⟩

end Go.Proofs.Ytkhmmefgllbobaa
