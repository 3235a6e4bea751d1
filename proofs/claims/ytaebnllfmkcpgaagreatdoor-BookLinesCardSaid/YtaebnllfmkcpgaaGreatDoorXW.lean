import Derived.Test.YtaebnllfmkcpgaaGreatDoorXT
import Derived.Test.YtaebnllfmkcpgaaGreatDoorXU
set_option linter.unusedSimpArgs false
set_option linter.unusedVariables false
set_option linter.all false
set_option maxRecDepth 100000
set_option maxHeartbeats 1000000
namespace Go.Proofs.YtaebnllfmkcpgaaGreatDoor
open Go.W Go.Bk

def wavesS : Surf := ⟨3, 2, [⟨3, 4⟩, ⟨5, 5⟩, ⟨6, 7⟩, ⟨4, 4⟩], [⟨1, 1⟩, ⟨1, 2⟩, ⟨2, 3⟩, ⟨0, 1⟩], [⟨6, 2, 0⟩, ⟨4, 1, 1⟩, ⟨9, 0, 2⟩]⟩
def poleS : Flag := ⟨4, 8, 2, [⟨⟨2, 3⟩, 0⟩, ⟨⟨7, 8⟩, 0⟩, ⟨⟨3, 3⟩, 1⟩, ⟨⟨2, 4⟩, 0⟩, ⟨⟨1, 1⟩, 0⟩, ⟨⟨5, 5⟩, 0⟩], [⟨1, true⟩, ⟨2, false⟩]⟩
def boatsS : Boats := ⟨6, 4, 1, 6, [[⟨0, ⟨0, 0⟩, ⟨3, 3⟩⟩, ⟨4, ⟨2, 2⟩, ⟨2, 3⟩⟩], [⟨2, ⟨3, 4⟩, ⟨1, 1⟩⟩, ⟨5, ⟨5, 5⟩, ⟨0, 3⟩⟩]]⟩
def payS : Hors := ⟨1, [⟨200, 3, ⟨4, 6⟩⟩]⟩
def sealS : Bs := [126, 126, 1, 200, 128, 129, 127, 84, 221]

theorem lspan_g (a b : Int) (w : World) : Gives Tryz.prog 87 [it a, it b] w (.agg #[it a, it b]) := by
  unfold Gives
  refine enter Tryz.func87 rfl 8 Tryz.ntmps87 (zqb rfl) (Inv.start (D := fun _ => none) (by intro _ _ h; cases h)) ?_
  refine WC.seq (WC.ofFr [(0, _), (1, _)] ⟨rfl, rfl, trivial⟩ (WC.region ?_))
  refine WL.so (SO.alloc Tryz.zeroValue114 rfl) rfl ?_
  rintro _ _ _ ⟨b4, hb4, rfl, rfl, rfl⟩
  refine WL.nil (WP.thenC (WC.seq (WC.ofFr [(4, _), (0, _), (1, _)] ⟨rfl, rfl, rfl, trivial⟩ (WC.region ?_))))
  refine zym rfl rfl ?_
  refine zym rfl rfl ?_
  refine WL.yd (Yd.build SA114 rfl (cs := [_, _]) rfl) rfl ?_
  refine WL.so (SO.store 0 rfl Tryz.sizeOf114 rfl rfl rfl rfl (zqb rfl) (oneB_spec rfl)) rfl ?_
  rintro _ _ _ ⟨rfl, rfl, rfl⟩
  refine WL.nil (WP.thenC (WC.ret ?_))
  refine WP.ret1 rfl rfl Tryz.results87 (RV.cellN Tryz.isAgg114 Tryz.sizeOf114 rfl (vs := [_, _]) rfl (by first | exact rn0 (n := 2) rfl rfl)) (fun w hI => ⟨rfl, hI.keep⟩)

theorem waves_g (D : Imm) (w : World) (hH : Holds D w) : Makes Tryz.prog 47 [] w D (fun v D' => ∃ m, v = surfV wavesS m ∧ SurfR D' wavesS m) := by
  unfold Makes
  refine enter Tryz.func47 rfl 16 Tryz.ntmps47 (zqb rfl) (Inv.start hH) ?_
  refine WC.seq (WC.ofFr [] trivial (WC.region ?_))
  refine WL.so (SO.alloc Tryz.zeroValue25 rfl) rfl ?_
  rintro _ _ _ ⟨b0, hb0, rfl, rfl, rfl⟩
  refine WL.nil (WP.thenC (WC.seq (WC.ofFr [(0, _)] ⟨rfl, trivial⟩ (WC.region ?_))))
  refine WL.so (SO.callP Tryz.call87 rfl (fun w hI => lspan_g _ _ _)) rfl ?_
  rintro _ _ _ ⟨rfl, rfl, rfl⟩
  refine WL.so (SO.callP Tryz.call87 rfl (fun w hI => lspan_g _ _ _)) rfl ?_
  rintro _ _ _ ⟨rfl, rfl, rfl⟩
  refine WL.so (SO.callP Tryz.call87 rfl (fun w hI => lspan_g _ _ _)) rfl ?_
  rintro _ _ _ ⟨rfl, rfl, rfl⟩
  refine WL.so (SO.callP Tryz.call87 rfl (fun w hI => lspan_g _ _ _)) rfl ?_
  rintro _ _ _ ⟨rfl, rfl, rfl⟩
  refine WL.so (SO.buildSlice Tryz.underlying22 Tryz.sizeOf114 Tryz.zeroValue114 rfl rfl rfl rfl (cs := [_, _, _, _, _, _, _, _]) rfl) rfl ?_
  rintro _ _ _ ⟨b5, hb5, rfl, rfl, rfl⟩
  refine WL.so (SO.callP Tryz.call87 rfl (fun w hI => lspan_g _ _ _)) rfl ?_
  rintro _ _ _ ⟨rfl, rfl, rfl⟩
  refine WL.so (SO.callP Tryz.call87 rfl (fun w hI => lspan_g _ _ _)) rfl ?_
  rintro _ _ _ ⟨rfl, rfl, rfl⟩
  refine WL.so (SO.callP Tryz.call87 rfl (fun w hI => lspan_g _ _ _)) rfl ?_
  rintro _ _ _ ⟨rfl, rfl, rfl⟩
  refine WL.so (SO.callP Tryz.call87 rfl (fun w hI => lspan_g _ _ _)) rfl ?_
  rintro _ _ _ ⟨rfl, rfl, rfl⟩
  refine WL.so (SO.buildSlice Tryz.underlying22 Tryz.sizeOf114 Tryz.zeroValue114 rfl rfl rfl rfl (cs := [_, _, _, _, _, _, _, _]) rfl) rfl ?_
  rintro _ _ _ ⟨b10, hb10, rfl, rfl, rfl⟩
  refine WL.yd (Yd.build SA136 rfl (cs := [_, _, _]) rfl) rfl ?_
  refine WL.yd (Yd.build SA136 rfl (cs := [_, _, _]) rfl) rfl ?_
  refine WL.yd (Yd.build SA136 rfl (cs := [_, _, _]) rfl) rfl ?_
  refine WL.so (SO.buildSlice Tryz.underlying23 Tryz.sizeOf136 Tryz.zeroValue136 rfl rfl rfl rfl (cs := [_, _, _, _, _, _, _, _, _]) rfl) rfl ?_
  rintro _ _ _ ⟨b14, hb14, rfl, rfl, rfl⟩
  refine WL.yd (Yd.build SA25 rfl (cs := [_, _, _, _, _]) rfl) rfl ?_
  refine WL.freezeK 0 rfl (fun hn14 => ?_)
  have hF14 := fun o => (DExt.refl w D).add (o := o) hn14 hb14
  refine WL.freezeK 0 rfl (fun hn10 => ?_)
  have hF10 := fun o => (DExt.refl w _).add (o := o) hn10 hb10
  refine WL.freezeK 0 rfl (fun hn5 => ?_)
  have hF5 := fun o => (DExt.refl w _).add (o := o) hn5 hb5
  refine WL.so (SO.store 0 rfl Tryz.sizeOf25 rfl rfl rfl rfl (zqb rfl) (oneB_spec rfl)) rfl ?_
  rintro _ _ _ ⟨rfl, rfl, rfl⟩
  refine WL.nil (WP.thenC (WC.ret ?_))
  refine WP.ret1 rfl rfl Tryz.results47 (RV.cellN Tryz.isAgg25 Tryz.sizeOf25 rfl (vs := [_, _, _, _, _]) rfl (by first | exact rn0 (n := 5) rfl rfl)) (fun w1 hI => ⟨_, _, rfl, hI.keep, hI.imm, (((hF14 _).trans (hF10 _) (Nat.le_refl _)).trans (hF5 _) (Nat.le_refl _)), ⟨⟨some ⟨b5, 0, none⟩, 4, 4⟩, ⟨some ⟨b10, 0, none⟩, 4, 4⟩, ⟨some ⟨b14, 0, none⟩, 3, 3⟩⟩, rfl, ⟨(SlL.ofBlock (l := wavesS.water) (f := spC) (m := 2) (rest := []) (fun _ => rfl) (Imm.add_self _ _ _)), (SlL.ofBlock (l := wavesS.waves) (f := spC) (m := 2) (rest := []) (fun _ => rfl) (Imm.add_self _ _ _)).ext (hF5 _), (SlL.ofBlock (l := wavesS.huts) (f := hutC) (m := 3) (rest := []) (fun _ => rfl) (Imm.add_self _ _ _)).ext ((hF10 _).trans (hF5 _) (Nat.le_refl _)), (zqb rfl), (zqb rfl), (zqb rfl)⟩⟩)

theorem pay_g (D : Imm) (w : World) (hH : Holds D w) : Makes Tryz.prog 50 [] w D (fun v D' => ∃ m, v = horsV payS m ∧ HorsR D' payS m) := by
  unfold Makes
  refine enter Tryz.func50 rfl 5 Tryz.ntmps50 (zqb rfl) (Inv.start hH) ?_
  refine WC.seq (WC.ofFr [] trivial (WC.region ?_))
  refine WL.so (SO.alloc Tryz.zeroValue35 rfl) rfl ?_
  rintro _ _ _ ⟨b0, hb0, rfl, rfl, rfl⟩
  refine WL.nil (WP.thenC (WC.seq (WC.ofFr [(0, _)] ⟨rfl, trivial⟩ (WC.region ?_))))
  refine WL.so (SO.callP Tryz.call87 rfl (fun w hI => lspan_g _ _ _)) rfl ?_
  rintro _ _ _ ⟨rfl, rfl, rfl⟩
  refine WL.yd (Yd.build SA116 rfl (cs := [_, _, _, _]) rfl) rfl ?_
  refine WL.so (SO.buildSlice Tryz.underlying33 Tryz.sizeOf116 Tryz.zeroValue116 rfl rfl rfl rfl (cs := [_, _, _, _]) rfl) rfl ?_
  rintro _ _ _ ⟨b3, hb3, rfl, rfl, rfl⟩
  refine WL.yd (Yd.build SA35 rfl (cs := [_, _]) rfl) rfl ?_
  refine WL.freezeK 0 rfl (fun hn3 => ?_)
  have hF3 := fun o => (DExt.refl w D).add (o := o) hn3 hb3
  refine WL.so (SO.store 0 rfl Tryz.sizeOf35 rfl rfl rfl rfl (zqb rfl) (oneB_spec rfl)) rfl ?_
  rintro _ _ _ ⟨rfl, rfl, rfl⟩
  refine WL.nil (WP.thenC (WC.ret ?_))
  refine WP.ret1 rfl rfl Tryz.results50 (RV.cellN Tryz.isAgg35 Tryz.sizeOf35 rfl (vs := [_, _]) rfl (by first | exact rn0 (n := 2) rfl rfl)) (fun w1 hI => ⟨_, _, rfl, hI.keep, hI.imm, (hF3 _), ⟨some ⟨b3, 0, none⟩, 1, 1⟩, rfl, ⟨(SlL.ofBlock (l := payS.moves) (f := mvC) (m := 4) (rest := []) (fun _ => rfl) (Imm.add_self _ _ _)), (zqb rfl)⟩⟩)

theorem sealL_g (D : Imm) (w : World) (hH : Holds D w) : News Tryz.prog 46 [] w D (fun v D' h' => D = D' ∧ ∃ b, w.heap.size ≤ b ∧ v = .slice (some ⟨b, 0, none⟩) 9 9 ∧ h' = [(b, .cells (sealS.flatMap btC ++ []).toArray 5 (0, 0))]) := by
  unfold News
  refine enter Tryz.func46 rfl 2 Tryz.ntmps46 (zqb rfl) (Inv.start hH) ?_
  refine WC.seq (WC.ofFr [] trivial (WC.region ?_))
  refine zya rfl rfl ?_
  refine WL.nil (WP.thenC (WC.seq (WC.ofFr [(0, _)] ⟨rfl, trivial⟩ (WC.region ?_))))
  refine WL.so (SO.buildSlice1 Tryz.underlying43 Tryz.sizeOf5 Tryz.zeroValue5 rfl rfl rfl (vs := [_, _, _, _, _, _, _, _, _]) rfl rfl rfl) rfl ?_
  rintro _ _ _ ⟨b1, hb1, rfl, rfl, rfl⟩
  refine zya rfl rfl ?_
  refine WL.nil (WP.thenC (WC.ret ?_))
  refine WP.ret1 rfl rfl Tryz.results46 (RV.tmp rfl) (fun w1 hI => ⟨_, D, _, rfl, DExt.refl _ _, hI, rfl, b1, hb1, rfl, rfl⟩)

end Go.Proofs.YtaebnllfmkcpgaaGreatDoor
namespace Go.Proofs.YtaebnllfmkcpgaaGreatDoor
open Go.W Go.Bk

set_option maxRecDepth 100000 in
set_option maxHeartbeats 6000000 in
theorem pole_g (D : Imm) (w : World) (hH : Holds D w) : Makes Tryz.prog 48 [] w D (fun v D' => ∃ m, v = flagV poleS m ∧ FlagR D' poleS m) := by
  unfold Makes
  refine enter Tryz.func48 rfl 18 Tryz.ntmps48 (zqb rfl) (Inv.start hH) ?_
  refine WC.seq (WC.ofFr [] trivial (WC.region ?_))
  refine WL.so (SO.alloc Tryz.zeroValue29 rfl) rfl ?_
  rintro _ _ _ ⟨b0, hb0, rfl, rfl, rfl⟩
  refine WL.nil (WP.thenC (WC.seq (WC.ofFr [(0, _)] ⟨rfl, trivial⟩ (WC.region ?_))))
  refine WL.so (SO.callP Tryz.call87 rfl (fun w hI => lspan_g _ _ _)) rfl ?_
  rintro _ _ _ ⟨rfl, rfl, rfl⟩
  refine WL.yd (Yd.build SA138 rfl (cs := [_, _, _]) rfl) rfl ?_
  refine WL.so (SO.callP Tryz.call87 rfl (fun w hI => lspan_g _ _ _)) rfl ?_
  rintro _ _ _ ⟨rfl, rfl, rfl⟩
  refine WL.yd (Yd.build SA138 rfl (cs := [_, _, _]) rfl) rfl ?_
  refine WL.so (SO.callP Tryz.call87 rfl (fun w hI => lspan_g _ _ _)) rfl ?_
  rintro _ _ _ ⟨rfl, rfl, rfl⟩
  refine WL.yd (Yd.build SA138 rfl (cs := [_, _, _]) rfl) rfl ?_
  refine WL.so (SO.callP Tryz.call87 rfl (fun w hI => lspan_g _ _ _)) rfl ?_
  rintro _ _ _ ⟨rfl, rfl, rfl⟩
  refine WL.yd (Yd.build SA138 rfl (cs := [_, _, _]) rfl) rfl ?_
  refine WL.so (SO.callP Tryz.call87 rfl (fun w hI => lspan_g _ _ _)) rfl ?_
  rintro _ _ _ ⟨rfl, rfl, rfl⟩
  refine WL.yd (Yd.build SA138 rfl (cs := [_, _, _]) rfl) rfl ?_
  refine WL.so (SO.callP Tryz.call87 rfl (fun w hI => lspan_g _ _ _)) rfl ?_
  rintro _ _ _ ⟨rfl, rfl, rfl⟩
  refine WL.yd (Yd.build SA138 rfl (cs := [_, _, _]) rfl) rfl ?_
  refine WL.so (SO.buildSlice Tryz.underlying26 Tryz.sizeOf138 Tryz.zeroValue138 rfl rfl rfl rfl (cs := [_, _, _, _, _, _, _, _, _, _, _, _, _, _, _, _, _, _]) rfl) rfl ?_
  rintro _ _ _ ⟨b13, hb13, rfl, rfl, rfl⟩
  refine WL.yd (Yd.build SA141 rfl (cs := [_, _]) rfl) rfl ?_
  refine WL.yd (Yd.build SA141 rfl (cs := [_, _]) rfl) rfl ?_
  refine WL.so (SO.buildSlice Tryz.underlying27 Tryz.sizeOf141 Tryz.zeroValue141 rfl rfl rfl rfl (cs := [_, _, _, _]) rfl) rfl ?_
  rintro _ _ _ ⟨b16, hb16, rfl, rfl, rfl⟩
  refine WL.yd (Yd.build SA29 rfl (cs := [_, _, _, _, _]) rfl) rfl ?_
  refine WL.freezeK 0 rfl (fun hn16 => ?_)
  have hF16 := fun o => (DExt.refl w D).add (o := o) hn16 hb16
  refine WL.freezeK 0 rfl (fun hn13 => ?_)
  have hF13 := fun o => (DExt.refl w _).add (o := o) hn13 hb13
  refine WL.so (SO.store 0 rfl Tryz.sizeOf29 rfl rfl rfl rfl (zqb rfl) (oneB_spec rfl)) rfl ?_
  rintro _ _ _ ⟨rfl, rfl, rfl⟩
  refine WL.nil (WP.thenC (WC.ret ?_))
  refine WP.ret1 rfl rfl Tryz.results48 (RV.cellN Tryz.isAgg29 Tryz.sizeOf29 rfl (vs := [_, _, _, _, _]) rfl (by first | exact rn0 (n := 5) rfl rfl)) (fun w1 hI => ⟨_, _, rfl, hI.keep, hI.imm, ((hF16 _).trans (hF13 _) (Nat.le_refl _)), ⟨⟨some ⟨b13, 0, none⟩, 6, 6⟩, ⟨some ⟨b16, 0, none⟩, 2, 2⟩⟩, rfl, ⟨(SlL.ofBlock (l := poleS.hours) (f := hourC) (m := 3) (rest := []) (fun _ => rfl) (Imm.add_self _ _ _)), (SlL.ofBlock (l := poleS.seen) (f := seenC) (m := 2) (rest := []) (fun _ => rfl) (Imm.add_self _ _ _)).ext (hF13 _), (zqb rfl), (zqb rfl)⟩⟩)

set_option maxRecDepth 100000 in
set_option maxHeartbeats 6000000 in
theorem boatsS_g (D : Imm) (w : World) (hH : Holds D w) : Makes Tryz.prog 49 [] w D (fun v D' => ∃ m, v = boatsV boatsS m ∧ BoatsR D' boatsS m) := by
  unfold Makes
  refine enter Tryz.func49 rfl 17 Tryz.ntmps49 (zqb rfl) (Inv.start hH) ?_
  refine WC.seq (WC.ofFr [] trivial (WC.region ?_))
  refine WL.so (SO.alloc Tryz.zeroValue32 rfl) rfl ?_
  rintro _ _ _ ⟨b0, hb0, rfl, rfl, rfl⟩
  refine WL.nil (WP.thenC (WC.seq (WC.ofFr [(0, _)] ⟨rfl, trivial⟩ (WC.region ?_))))
  refine WL.so (SO.callP Tryz.call87 rfl (fun w hI => lspan_g _ _ _)) rfl ?_
  rintro _ _ _ ⟨rfl, rfl, rfl⟩
  refine WL.so (SO.callP Tryz.call87 rfl (fun w hI => lspan_g _ _ _)) rfl ?_
  rintro _ _ _ ⟨rfl, rfl, rfl⟩
  refine WL.yd (Yd.build SA143 rfl (cs := [_, _, _, _, _]) rfl) rfl ?_
  refine WL.so (SO.callP Tryz.call87 rfl (fun w hI => lspan_g _ _ _)) rfl ?_
  rintro _ _ _ ⟨rfl, rfl, rfl⟩
  refine WL.so (SO.callP Tryz.call87 rfl (fun w hI => lspan_g _ _ _)) rfl ?_
  rintro _ _ _ ⟨rfl, rfl, rfl⟩
  refine WL.yd (Yd.build SA143 rfl (cs := [_, _, _, _, _]) rfl) rfl ?_
  refine WL.so (SO.buildSlice Tryz.underlying79 Tryz.sizeOf143 Tryz.zeroValue143 rfl rfl rfl rfl (cs := [_, _, _, _, _, _, _, _, _, _]) rfl) rfl ?_
  rintro _ _ _ ⟨b7, hb7, rfl, rfl, rfl⟩
  refine WL.so (SO.callP Tryz.call87 rfl (fun w hI => lspan_g _ _ _)) rfl ?_
  rintro _ _ _ ⟨rfl, rfl, rfl⟩
  refine WL.so (SO.callP Tryz.call87 rfl (fun w hI => lspan_g _ _ _)) rfl ?_
  rintro _ _ _ ⟨rfl, rfl, rfl⟩
  refine WL.yd (Yd.build SA143 rfl (cs := [_, _, _, _, _]) rfl) rfl ?_
  refine WL.so (SO.callP Tryz.call87 rfl (fun w hI => lspan_g _ _ _)) rfl ?_
  rintro _ _ _ ⟨rfl, rfl, rfl⟩
  refine WL.so (SO.callP Tryz.call87 rfl (fun w hI => lspan_g _ _ _)) rfl ?_
  rintro _ _ _ ⟨rfl, rfl, rfl⟩
  refine WL.yd (Yd.build SA143 rfl (cs := [_, _, _, _, _]) rfl) rfl ?_
  refine WL.so (SO.buildSlice Tryz.underlying79 Tryz.sizeOf143 Tryz.zeroValue143 rfl rfl rfl rfl (cs := [_, _, _, _, _, _, _, _, _, _]) rfl) rfl ?_
  rintro _ _ _ ⟨b14, hb14, rfl, rfl, rfl⟩
  refine WL.so (SO.buildSlice1 Tryz.underlying30 Tryz.sizeOf79 Tryz.zeroValue79 rfl rfl rfl (vs := [_, _]) rfl rfl rfl) rfl ?_
  rintro _ _ _ ⟨b15, hb15, rfl, rfl, rfl⟩
  refine WL.yd (Yd.build SA32 rfl (cs := [_, _, _, _, _]) rfl) rfl ?_
  refine WL.freezeK 0 rfl (fun hn15 => ?_)
  have hF15 := fun o => (DExt.refl w D).add (o := o) hn15 hb15
  refine WL.freezeK 0 rfl (fun hn14 => ?_)
  have hF14 := fun o => (DExt.refl w _).add (o := o) hn14 hb14
  refine WL.freezeK 0 rfl (fun hn7 => ?_)
  have hF7 := fun o => (DExt.refl w _).add (o := o) hn7 hb7
  refine WL.so (SO.store 0 rfl Tryz.sizeOf32 rfl rfl rfl rfl (zqb rfl) (oneB_spec rfl)) rfl ?_
  rintro _ _ _ ⟨rfl, rfl, rfl⟩
  refine WL.nil (WP.thenC (WC.ret ?_))
  refine WP.ret1 rfl rfl Tryz.results49 (RV.cellN Tryz.isAgg32 Tryz.sizeOf32 rfl (vs := [_, _, _, _, _]) rfl (by first | exact rn0 (n := 5) rfl rfl)) (fun w1 hI => ⟨_, _, rfl, hI.keep, hI.imm, (((hF15 _).trans (hF14 _) (Nat.le_refl _)).trans (hF7 _) (Nat.le_refl _)), ⟨⟨some ⟨b15, 0, none⟩, 2, 2⟩, [⟨some ⟨b7, 0, none⟩, 2, 2⟩, ⟨some ⟨b14, 0, none⟩, 2, 2⟩]⟩, rfl, ⟨(SlL.ofBlock (l := [⟨some ⟨b7, 0, none⟩, 2, 2⟩, ⟨some ⟨b14, 0, none⟩, 2, 2⟩]) (f := slC) (m := 1) (rest := []) (fun _ => rfl) (Imm.add_self _ _ _)).ext ((hF14 _).trans (hF7 _) (Nat.le_refl _)), rfl, fun i hi => by match i, hi with | 0, _ => exact (SlL.ofBlock (l := gt boatsS.seen 0) (f := bsC) (m := 5) (rest := []) (fun _ => rfl) (Imm.add_self _ _ _)) | 1, _ => exact (SlL.ofBlock (l := gt boatsS.seen 1) (f := bsC) (m := 5) (rest := []) (fun _ => rfl) (Imm.add_self _ _ _)).ext (hF7 _), (zqb rfl), fun i hi => by match i, hi with | 0, _ => exact (zqb rfl) | 1, _ => exact (zqb rfl)⟩⟩)

end Go.Proofs.YtaebnllfmkcpgaaGreatDoor
namespace Go.Proofs.YtaebnllfmkcpgaaGreatDoor
open Go.W Go.Bk

def far0 (s : Surf) (f : Flag) (b : Boats) (h : Hors) : Nat := max (max (max (max (max (max s.water.length s.waves.length) s.huts.length) f.hours.length) f.seen.length) b.seen.length) h.moves.length
def farK (s : Surf) (f : Flag) (b : Boats) (h : Hors) (k : Nat) : Nat := (b.seen.take k).foldl (fun n l => max n l.length) (far0 s f b h)
def farB (s : Surf) (f : Flag) (b : Boats) (h : Hors) : Bool := decide (40 < farK s f b h b.seen.length)
theorem farK_succ {s : Surf} {f : Flag} {b : Boats} {h : Hors} {k : Nat} (hk : k < b.seen.length) : farK s f b h (k + 1) = max (farK s f b h k) (gt b.seen k).length := by
  have e : gt b.seen k = b.seen[k] := by simp [gt, List.getD, hk]
  unfold farK
  rw [List.take_succ_eq_append_getElem hk, List.foldl_append, e]; rfl
theorem far_g (s : Surf) (f : Flag) (b : Boats) (h : Hors) (m1 : SurfM) (m2 : FlagM) (m3 : BoatsM) (m4 : Sl) (D : Imm) (hR1 : SurfR D s m1) (hR2 : FlagR D f m2) (hR3 : BoatsR D b m3) (hR4 : HorsR D h m4) (w : World) (hH : Holds D w) : Gives Tryz.prog 12 [surfV s m1, flagV f m2, boatsV b m3, horsV h m4] w (.bool (farB s f b h)) := by
  unfold Gives
  obtain ⟨⟨wa, wn, wc⟩, ⟨va, vn, vc⟩, ⟨ua, un, uc⟩⟩ := m1
  obtain ⟨⟨ha, hn, hc⟩, ⟨sa, sn, sc⟩⟩ := m2
  obtain ⟨⟨ba, bn, bc⟩, ml⟩ := m3
  obtain ⟨ma, mn, mc⟩ := m4
  obtain rfl : wn = s.water.length := hR1.w.len'
  obtain rfl : vn = s.waves.length := hR1.v.len'
  obtain rfl : un = s.huts.length := hR1.h.len'
  obtain rfl : hn = f.hours.length := hR2.h.len'
  obtain rfl : sn = f.seen.length := hR2.s.len'
  have hml : ml.length = b.seen.length := hR3.len
  have hRs0 : SlL D 1 (ml.map slC) ba bn := hR3.sl
  obtain rfl : bn = b.seen.length := by have := hRs0.len'; omega
  have hRr : ∀ i, i < b.seen.length → SlL D 5 ((gt b.seen i).map bsC) (gt ml i).a (gt ml i).n := hR3.row
  obtain rfl : mn = h.moves.length := hR4.r.len'
  have nb : b.seen.length ≤ 9223372036854775807 := hR3.n
  refine enter Tryz.func12 rfl 48 Tryz.ntmps12 (zqb rfl) (Inv.start hH) ?_
  refine WC.seq (WC.ofFr [(0, _), (1, _), (2, _), (3, _)] ⟨rfl, rfl, rfl, rfl, trivial⟩ (WC.region ?_))
  refine WL.so (SO.box rfl rfl) rfl ?_
  rintro _ _ _ ⟨b4, hb4, rfl, rfl, rfl⟩
  refine WL.so (SO.box rfl rfl) rfl ?_
  rintro _ _ _ ⟨b5, hb5, rfl, rfl, rfl⟩
  refine WL.so (SO.box rfl rfl) rfl ?_
  rintro _ _ _ ⟨b6, hb6, rfl, rfl, rfl⟩
  refine WL.so (SO.box rfl rfl) rfl ?_
  rintro _ _ _ ⟨b7, hb7, rfl, rfl, rfl⟩
  refine zya rfl rfl ?_
  refine WL.nil (WP.thenC (WC.seq (WC.ofFr [(8, _), (7, _), (6, _), (5, _), (4, _)] ⟨rfl, rfl, rfl, rfl, rfl, trivial⟩ (WC.region ?_))))
  refine WL.yd (Yd.fieldAddr FA25_2 rfl) rfl ?_
  refine WL.yd (Yd.load1 Tryz.isAgg22 rfl (Rd.own (k := 3) rfl rfl)) rfl ?_
  refine WL.yd (Yd.lenS rfl Tryz.underlying22 rfl) rfl ?_
  refine WL.yd (Yd.fieldAddr FA25_3 rfl) rfl ?_
  refine WL.yd (Yd.load1 Tryz.isAgg22 rfl (Rd.own (k := 3) rfl rfl)) rfl ?_
  refine WL.yd (Yd.lenS rfl Tryz.underlying22 rfl) rfl ?_
  refine WL.yd (Yd.fieldAddr FA25_4 rfl) rfl ?_
  refine WL.yd (Yd.load1 Tryz.isAgg23 rfl (Rd.own (k := 3) rfl rfl)) rfl ?_
  refine WL.yd (Yd.lenS rfl Tryz.underlying23 rfl) rfl ?_
  refine WL.yd (Yd.fieldAddr FA29_3 rfl) rfl ?_
  refine WL.yd (Yd.load1 Tryz.isAgg26 rfl (Rd.own (k := 2) rfl rfl)) rfl ?_
  refine WL.yd (Yd.lenS rfl Tryz.underlying26 rfl) rfl ?_
  refine WL.yd (Yd.fieldAddr FA29_4 rfl) rfl ?_
  refine WL.yd (Yd.load1 Tryz.isAgg27 rfl (Rd.own (k := 2) rfl rfl)) rfl ?_
  refine WL.yd (Yd.lenS rfl Tryz.underlying27 rfl) rfl ?_
  refine WL.yd (Yd.fieldAddr FA32_4 rfl) rfl ?_
  refine WL.yd (Yd.load1 Tryz.isAgg30 rfl (Rd.own (k := 1) rfl rfl)) rfl ?_
  refine WL.yd (Yd.lenS rfl Tryz.underlying30 rfl) rfl ?_
  refine WL.yd (Yd.fieldAddr FA35_1 rfl) rfl ?_
  refine WL.yd (Yd.load1 Tryz.isAgg33 rfl (Rd.own (k := 0) rfl rfl)) rfl ?_
  refine WL.yd (Yd.lenS rfl Tryz.underlying33 rfl) rfl ?_
  refine WL.yd (Yd.max7 rfl rfl rfl rfl rfl rfl rfl) rfl ?_
  refine zya rfl rfl ?_
  refine WL.nil (WP.thenC (WC.seq (WC.seq (WC.ofFr [(9, _), (8, _), (6, _)] ⟨rfl, rfl, rfl, trivial⟩ (WC.region ?_)))))
  refine WL.yd (Yd.fieldAddr FA32_4 rfl) rfl ?_
  refine WL.yd (Yd.load1 Tryz.isAgg30 rfl (Rd.own (k := 1) rfl rfl)) rfl ?_
  refine WL.yd (Yd.lenS rfl Tryz.underlying30 rfl) rfl ?_
  refine zym rfl rfl ?_
  refine WL.nil (WP.thenC (WC.block ?_))
  refine WC.drop 99 ?_
  refine WC.loopF (fun k : Nat => [(9, nt (farK s f b h k)), (35, .slice ba b.seen.length bc), (36, nt b.seen.length), (37, nt k)]) (fun k => k ≤ b.seen.length) (fun k => b.seen.length - k) 0 (Nat.zero_le _) ⟨rfl, rfl, rfl, rfl, trivial⟩ ?_
  intro k hk
  refine WC.seq (WC.ofFr [(9, _), (35, _), (36, _), (37, _)] ⟨rfl, rfl, rfl, rfl, trivial⟩ (WC.region ?_))
  refine WL.yd (Yd.lss rfl rfl) rfl ?_
  refine WL.nil (WP.thenC (WC.seq ?_))
  refine WC.cond rfl (fun c38 => ?_) (fun c38 => ?_)
  · try simp only [zq1, zq2, zq3, zq4, zq5, zq6, zq7, zq8] at c38
    have hkl : k < b.seen.length := by omega
    refine WC.skip (WP.thenC (WC.seq (WC.block (WC.seq (WC.ofFr [(9, _), (35, _), (36, _), (37, _)] ⟨rfl, rfl, rfl, rfl, trivial⟩ (WC.region ?_))))))
    refine WL.yd (Yd.indexS Tryz.underlying30 Tryz.sizeOf79 rfl rfl (by omega) (by omega) (by first | exact hRs0.addr k (by omega))) rfl ?_
    refine WL.yd (Yd.load1 Tryz.isAgg79 rfl ((hRs0.at k (by omega)).rd 0 rfl)) rfl ?_
    refine zya rfl rfl ?_
    refine WL.nil (WP.thenC (WC.ofFr [(11, _), (9, _), (35, _), (36, _), (37, _)] ⟨rfl, rfl, rfl, rfl, rfl, trivial⟩ (WC.region ?_)))
    refine zym rfl rfl ?_
    refine zym rfl rfl ?_
    refine WL.yd (Yd.lenS rfl Tryz.underlying79 rfl) rfl ?_
    refine WL.yd (Yd.max2 rfl rfl) rfl ?_
    refine WL.know 44 (nt (farK s f b h (k + 1))) rfl (by rw [farK_succ hkl]; have := (hRr k hkl).len'; congr 1; omega) ?_
    refine zya rfl rfl ?_
    refine WL.nil (WP.blkNormal (WP.thenC (WC.ofFr [(9, _), (35, _), (36, _), (37, _)] ⟨rfl, rfl, rfl, rfl, trivial⟩ (WC.region ?_))))
    refine WL.yd (Yd.add rfl rfl (wr64 ⟨by omega, by omega⟩)) rfl ?_
    refine zym rfl rfl ?_
    refine WL.nil ?_
    exact WP.againF (k + 1) hkl (by omega) ⟨rfl, rfl, rfl, rfl, trivial⟩ (fun _ h => h) (fun h => h)
  · try simp only [zq1, zq2, zq3, zq4, zq5, zq6, zq7, zq8] at c38
    obtain rfl : k = b.seen.length := by omega
    refine WC.exit ?_
    refine WP.thenExit ?_
    refine WP.thenExit ?_
    refine WP.blkHit ?_
    refine WP.thenC (WC.seq (WC.ofFr [(9, _)] ⟨rfl, trivial⟩ (WC.region ?_)))
    refine zym rfl rfl ?_
    refine WL.yd (Yd.gtr rfl rfl) rfl ?_
    refine zya rfl rfl ?_
    refine WL.nil (WP.thenC (WC.ret ?_))
    refine WP.ret1 rfl rfl Tryz.results12 (RV.tmp rfl) (fun w hI => ⟨ret_bool (by unfold farB; rw [Bool.eq_iff_iff]; simp; omega), hI.keep⟩)

end Go.Proofs.YtaebnllfmkcpgaaGreatDoor
namespace Go.Proofs.YtaebnllfmkcpgaaGreatDoor
open Go.W Go.Bk

def surfTX : Bs := [115, 117, 114, 102, 32, 51, 120, 50, 10, 119, 97, 116, 101, 114, 32, 32, 51, 45, 32, 52, 32, 32, 53, 45, 32, 53, 32, 32, 54, 45, 32, 55, 32, 32, 52, 45, 32, 52, 10, 119, 97, 118, 101, 115, 32, 32, 49, 45, 32, 49, 32, 32, 49, 45, 32, 50, 32, 32, 50, 45, 32, 51, 32, 32, 48, 45, 32, 49, 10, 104, 117, 116, 32, 32, 54, 32, 32, 50, 32, 48, 10, 104, 117, 116, 32, 32, 52, 32, 32, 49, 32, 49, 10, 104, 117, 116, 32, 32, 57, 32, 32, 48, 32, 50, 10]
def flagT_X : Bs := [102, 108, 97, 103, 32, 52, 45, 56, 47, 50, 10, 104, 111, 117, 114, 115, 32, 50, 46, 46, 51, 32, 55, 46, 46, 56, 32, 51, 63, 32, 50, 46, 46, 52, 32, 49, 32, 53, 10, 115, 101, 101, 110, 32, 49, 43, 32, 50, 45, 10]
def boatsT_X : Bs := [98, 111, 97, 116, 115, 32, 54, 120, 52, 32, 118, 49, 32, 116, 54, 10, 98, 111, 97, 116, 32, 48, 64, 48, 44, 51, 32, 52, 64, 50, 44, 50, 46, 46, 51, 10, 98, 111, 97, 116, 32, 50, 64, 51, 46, 46, 52, 44, 49, 32, 53, 64, 53, 44, 48, 46, 46, 51, 10]
def flagXX : Bs := [102, 108, 97, 103, 32, 52, 45, 56, 47, 50, 10]

theorem aw1 : wrO surfB putSurf wavesS = (surfTX, 0) := by kernel_rfl
theorem aw2 : wrO flagB putFlag poleS = (flagT_X, 0) := by kernel_rfl
theorem aw3 : wrO boatsB putBoats boatsS = (boatsT_X, 0) := by kernel_rfl
theorem aw4 : wrH payS = (sealS, 0) := by kernel_rfl
theorem aw6 : readH sealS = (payS, 0) := by kernel_rfl
theorem aw7 : mendP (sealS.set 3 190) = (sealS, 0) := by kernel_rfl
theorem aw8 : readH (sealS.set 3 190) = (horsZ, 10) := by kernel_rfl
theorem aw5 : readBoats boatsT_X = (boatsS, 0) := by kernel_rfl
theorem aw9 : readFlag flagXX = (flagZ, 8) := by kernel_rfl

end Go.Proofs.YtaebnllfmkcpgaaGreatDoor
namespace Go.Proofs.YtaebnllfmkcpgaaGreatDoor
open Go.W Go.Bk

def wE (w : World) : World := { w with heap := #[] }
end Go.Proofs.YtaebnllfmkcpgaaGreatDoor
namespace Go.W
open Go.W Go.Bk Go.Proofs.YtaebnllfmkcpgaaGreatDoor
theorem DExt.e {w : World} {D D' : Imm} (w0 : World) (h : DExt w D D') : DExt (wE w0) D D' := ⟨h.old, fun _ hb => absurd hb (Nat.not_lt_zero _)⟩
theorem DExt.t {w : World} {D D' D'' : Imm} (h : DExt (wE w) D D') (k : DExt (wE w) D' D'') : DExt (wE w) D D'' := h.trans k (Nat.le_refl _)
theorem DExt.n {w : World} {D : Imm} {b : Nat} {o : Obj} (hn : D b = none) : DExt (wE w) D (D.add b o) := (DExt.refl (wE w) D).add hn (Nat.zero_le _)
end Go.W
namespace Go.Proofs.YtaebnllfmkcpgaaGreatDoor
open Go.W Go.Bk
theorem sealN_g (D : Imm) (w : World) (hH : Holds D w) : News Tryz.prog 46 [] w D (fun v D' h' => D = D' ∧ ∃ b, v = .slice (some ⟨b, 0, none⟩) 9 9 ∧ h' = [(b, .cells (sealS.flatMap btC ++ []).toArray 5 (0, 0))]) :=
  Calls.mono (sealL_g D w hH) fun _ _ ⟨v, D', h', a, b, c, d, b0, _, e, f⟩ => ⟨v, D', h', a, b, c, d, b0, e, f⟩
theorem mendN_g (l r : Bs) (hr : mendP l = (r, 0)) (a : Option Addr) (n c : Nat) (D : Imm) (hS : SlL D 1 (l.map btC) a n) (hn : n ≤ 2 ^ 19) (hc : n ≤ c) (w : World) (hH : Holds D w) : News Tryz.prog 25 [.slice a n c] w D (fun v D' h' => D = D' ∧ ∃ b, v = .tuple #[.slice (some ⟨b, 0, none⟩) r.length r.length, it 0] ∧ h' = [(b, .cells (r.flatMap btC ++ []).toArray 5 (0, 0))]) :=
  Calls.mono (Mend_g l a n c D hS hn hc w hH) fun _ _ ⟨v, D', h', a, b, c, d, e⟩ => ⟨v, D', h', a, b, c, d, by
    rw [hr] at e
    rcases e with ⟨_, b0, h1, h2, _⟩ | ⟨h1, _⟩
    · exact ⟨b0, h1, h2⟩
    · exact absurd rfl h1⟩
theorem block_sl {D : Imm} {b : Nat} {l : Bs} {t : TypeId} {fz : Nat × Nat} (h : D b = some (.cells (l.flatMap btC ++ []).toArray t fz)) : SlL D 1 (l.map btC) (some ⟨b, 0, none⟩) l.length := SlL.ofBlock (l := l) (f := btC) (m := 1) (rest := []) btC_len h

set_option maxRecDepth 100000 in
set_option maxHeartbeats 4000000 in
theorem awake_g (D : Imm) (hL : LibD D) (w : World) (hH : Holds D w) : Gives Tryz.prog 13 [] w (.bool true) := by
  unfold Gives
  refine enter Tryz.func13 rfl 131 Tryz.ntmps13 (zqb rfl) (Inv.start hH) ?_
  refine WC.seq (WC.ofFr [] trivial (WC.region ?_))
  refine zya rfl rfl ?_
  refine WL.nil (WP.thenC (WC.seq (WC.ofFr [(0, _)] ⟨rfl, trivial⟩ (WC.region ?_))))
  refine WL.so (SO.makes (Enters.func Tryz.call47 rfl) (fun w1 hI => waves_g D w1 hI.imm)) rfl ?_
  rintro _ D1 _ ⟨hX1, ⟨m1, rfl, hR1⟩, rfl⟩
  have hE1 := hX1.e w
  have hL1 := hL.ext hE1
  refine WL.so (SO.callP Tryz.call14 rfl (fun w1 hI => (by have h9 := WriteSurf_g wavesS m1 D1 hL1 hR1 w1 hI.imm; rw [aw1] at h9; exact h9 : Gives Tryz.prog 14 _ w1 (.tuple #[st surfTX, it 0])))) rfl ?_
  rintro _ _ _ ⟨rfl, rfl, rfl⟩
  refine zym rfl rfl ?_
  refine WL.yd (Yd.extract rfl rfl) rfl ?_
  refine WL.yd (Yd.extract rfl rfl) rfl ?_
  refine zya rfl rfl ?_
  refine zya rfl rfl ?_
  refine WL.nil (WP.thenC (WC.seq (WC.ofFr [(2, _), (1, _), (0, _)] ⟨rfl, rfl, rfl, trivial⟩ (WC.region ?_))))
  refine WL.so (SO.makes (Enters.func Tryz.call48 rfl) (fun w1 hI => pole_g D1 w1 hI.imm)) rfl ?_
  rintro _ D2 _ ⟨hX2, ⟨m2, rfl, hR2⟩, rfl⟩
  have hE2 := hE1.t (hX2.e w)
  have hL2 := hL.ext hE2
  refine WL.so (SO.callP Tryz.call16 rfl (fun w1 hI => (by have h9 := WriteFlag_g poleS m2 D2 hL2 hR2 w1 hI.imm; rw [aw2] at h9; exact h9 : Gives Tryz.prog 16 _ w1 (.tuple #[st flagT_X, it 0])))) rfl ?_
  rintro _ _ _ ⟨rfl, rfl, rfl⟩
  refine zym rfl rfl ?_
  refine WL.yd (Yd.extract rfl rfl) rfl ?_
  refine WL.yd (Yd.extract rfl rfl) rfl ?_
  refine zya rfl rfl ?_
  refine zya rfl rfl ?_
  refine WL.nil (WP.thenC (WC.seq (WC.ofFr [(4, _), (3, _), (2, _), (1, _), (0, _)] ⟨rfl, rfl, rfl, rfl, rfl, trivial⟩ (WC.region ?_))))
  refine WL.so (SO.makes (Enters.func Tryz.call49 rfl) (fun w1 hI => boatsS_g D2 w1 hI.imm)) rfl ?_
  rintro _ D3 _ ⟨hX3, ⟨m3, rfl, hR3⟩, rfl⟩
  have hE3 := hE2.t (hX3.e w)
  have hL3 := hL.ext hE3
  refine WL.so (SO.callP Tryz.call18 rfl (fun w1 hI => (by have h9 := WriteBoats_g boatsS m3 D3 hL3 hR3 w1 hI.imm; rw [aw3] at h9; exact h9 : Gives Tryz.prog 18 _ w1 (.tuple #[st boatsT_X, it 0])))) rfl ?_
  rintro _ _ _ ⟨rfl, rfl, rfl⟩
  refine zym rfl rfl ?_
  refine WL.yd (Yd.extract rfl rfl) rfl ?_
  refine WL.yd (Yd.extract rfl rfl) rfl ?_
  refine zya rfl rfl ?_
  refine zya rfl rfl ?_
  refine WL.nil (WP.thenC (WC.seq (WC.ofFr [(6, _), (5, _), (4, _), (3, _), (2, _), (1, _), (0, _)] ⟨rfl, rfl, rfl, rfl, rfl, rfl, rfl, trivial⟩ (WC.region ?_))))
  refine WL.so (SO.makes (Enters.func Tryz.call50 rfl) (fun w1 hI => pay_g D3 w1 hI.imm)) rfl ?_
  rintro _ D4 _ ⟨hX4, ⟨m4, rfl, hR4⟩, rfl⟩
  have hE4 := hE3.t (hX4.e w)
  refine WL.so (SO.makes (Enters.func Tryz.call20 rfl) (fun w1 hI => WriteHorses_g payS m4 D4 hR4 w1 hI.imm)) rfl ?_
  rintro _ D5 _ ⟨hX5, ⟨a5, n5, c5, rfl, hB5, hc5⟩, rfl⟩
  rw [aw4] at hB5 ⊢
  have hE5 := hE4.t (hX5.e w)
  have hL5 := hL.ext hE5
  refine zym rfl rfl ?_
  refine WL.yd (Yd.extract rfl rfl) rfl ?_
  refine WL.yd (Yd.extract rfl rfl) rfl ?_
  refine zya rfl rfl ?_
  refine zya rfl rfl ?_
  refine WL.nil (WP.thenC (WC.seq (WC.ofFr [(8, _), (7, _), (6, _), (5, _), (4, _), (3, _), (2, _), (1, _), (0, _)] ⟨rfl, rfl, rfl, rfl, rfl, rfl, rfl, rfl, rfl, trivial⟩ (WC.region ?_))))
  refine WL.so (SO.makes (Enters.func Tryz.call38 rfl) (fun w1 hI => ReadBoats_g boatsT_X (by decide) D5 hL5 w1 hI.imm)) rfl ?_
  rintro _ D6 _ ⟨hX6, ⟨x6, m6, e6, hx6, rfl, hR6⟩, rfl⟩
  obtain ⟨rfl, rfl⟩ : x6 = boatsS ∧ e6 = 0 := by have h9 := hx6.symm.trans aw5; cases h9; exact ⟨rfl, rfl⟩
  have hE6 := hE5.t (hX6.e w)
  refine zym rfl rfl ?_
  refine WL.yd (Yd.extract rfl rfl) rfl ?_
  refine WL.yd (Yd.extract rfl rfl) rfl ?_
  refine WL.so (SO.alloc Tryz.zeroValue32 rfl) rfl ?_
  rintro _ _ _ ⟨b9, hb9, rfl, rfl, rfl⟩
  refine WL.so (SO.store 0 rfl Tryz.sizeOf32 rfl rfl rfl rfl (zqb rfl) (oneB_spec rfl)) rfl ?_
  rintro _ _ _ ⟨rfl, rfl, rfl⟩
  refine zya rfl rfl ?_
  refine WL.nil (WP.thenC (WC.seq (WC.ofFr [(10, _), (9, _), (8, _), (7, _), (6, _), (5, _), (4, _), (3, _), (2, _), (1, _), (0, _)] ⟨rfl, rfl, rfl, rfl, rfl, rfl, rfl, rfl, rfl, rfl, rfl, trivial⟩ (WC.region ?_))))
  refine WL.so (SO.newsF (Enters.func Tryz.call46 rfl) (fun w1 hI => sealN_g _ w1 hI.imm)) rfl ?_
  rintro _ _ _ ⟨_, _, ⟨rfl, s6, rfl, rfl⟩, rfl⟩
  refine WL.freezeK 0 rfl (fun hns6 => ?_)
  have hEs6 := DExt.n (w := w) (o := .cells ((sealS).flatMap btC ++ []).toArray 5 (0, 0)) hns6
  generalize hGs6 : Imm.add D6 s6 (.cells ((sealS).flatMap btC ++ []).toArray 5 (0, 0)) = D7 at hEs6 ⊢
  have hSls6 : SlL D7 1 ((sealS).map btC) (some ⟨s6, 0, none⟩) 9 := block_sl (l := sealS) (by rw [← hGs6]; exact Imm.add_self _ _ _)
  refine WL.so (SO.makes (Enters.func Tryz.call23 rfl) (fun w1 hI => ReadHorses_g sealS _ 9 9 D7 hSls6 (by decide) (by decide) w1 hI.imm)) rfl ?_
  rintro _ D8 _ ⟨hX8, ⟨m8, rfl, hR8⟩, rfl⟩
  rw [aw6] at hR8 ⊢
  have hE8 := (hE6.t hEs6).t (hX8.e w)
  refine zym rfl rfl ?_
  refine WL.yd (Yd.extract rfl rfl) rfl ?_
  refine WL.yd (Yd.extract rfl rfl) rfl ?_
  refine WL.so (SO.alloc Tryz.zeroValue35 rfl) rfl ?_
  rintro _ _ _ ⟨b11, hb11, rfl, rfl, rfl⟩
  refine WL.so (SO.store 0 rfl Tryz.sizeOf35 rfl rfl rfl rfl (zqb rfl) (oneB_spec rfl)) rfl ?_
  rintro _ _ _ ⟨rfl, rfl, rfl⟩
  refine zya rfl rfl ?_
  refine WL.nil (WP.thenC (WC.seq (WC.ofFr [(12, _), (11, _), (10, _), (9, _), (8, _), (7, _), (6, _), (5, _), (4, _), (3, _), (2, _), (1, _), (0, _)] ⟨rfl, rfl, rfl, rfl, rfl, rfl, rfl, rfl, rfl, rfl, rfl, rfl, rfl, trivial⟩ (WC.region ?_))))
  refine WL.so (SO.newsF (Enters.func Tryz.call46 rfl) (fun w1 hI => sealN_g _ w1 hI.imm)) rfl ?_
  rintro _ _ _ ⟨_, _, ⟨rfl, s7, rfl, rfl⟩, rfl⟩
  refine zya rfl rfl ?_
  refine WL.nil (WP.thenC (WC.seq (WC.ofFr [(13, _), (12, _), (11, _), (10, _), (9, _), (8, _), (7, _), (6, _), (5, _), (4, _), (3, _), (2, _), (1, _), (0, _)] ⟨rfl, rfl, rfl, rfl, rfl, rfl, rfl, rfl, rfl, rfl, rfl, rfl, rfl, rfl, trivial⟩ (WC.region ?_))))
  refine zym rfl rfl ?_
  refine WL.yd (Yd.indexS Tryz.underlying43 Tryz.sizeOf5 rfl rfl (by omega) (by omega) (by first | exact rfl)) rfl ?_
  refine WL.so (SO.storeRow (f := btC) (m := 1) btC_len (l := sealS) (i := 3) (y := 190) (rest := []) 0 rfl Tryz.sizeOf5 rfl rfl rfl (by decide) (oneB_spec rfl)) rfl ?_
  rintro _ _ _ ⟨rfl, rfl, rfl⟩
  refine WL.nil (WP.thenC (WC.seq (WC.ofFr [(13, _), (12, _), (11, _), (10, _), (9, _), (8, _), (7, _), (6, _), (5, _), (4, _), (3, _), (2, _), (1, _), (0, _)] ⟨rfl, rfl, rfl, rfl, rfl, rfl, rfl, rfl, rfl, rfl, rfl, rfl, rfl, rfl, trivial⟩ (WC.region ?_))))
  refine zym rfl rfl ?_
  refine WL.freezeK 0 rfl (fun hns7 => ?_)
  have hEs7 := DExt.n (w := w) (o := .cells (((sealS.set 3 190)).flatMap btC ++ []).toArray 5 (0, 0)) hns7
  generalize hGs7 : Imm.add D8 s7 (.cells (((sealS.set 3 190)).flatMap btC ++ []).toArray 5 (0, 0)) = D9 at hEs7 ⊢
  have hSls7 : SlL D9 1 (((sealS.set 3 190)).map btC) (some ⟨s7, 0, none⟩) 9 := block_sl (l := (sealS.set 3 190)) (by rw [← hGs7]; exact Imm.add_self _ _ _)
  refine WL.so (SO.newsF (Enters.func Tryz.call25 rfl) (fun w1 hI => mendN_g (sealS.set 3 190) sealS aw7 _ 9 9 D9 hSls7 (by decide) (by decide) w1 hI.imm)) rfl ?_
  rintro _ _ _ ⟨_, _, ⟨rfl, s9, rfl, rfl⟩, rfl⟩
  refine zym rfl rfl ?_
  refine WL.yd (Yd.extract rfl rfl) rfl ?_
  refine WL.yd (Yd.extract rfl rfl) rfl ?_
  refine zya rfl rfl ?_
  refine zya rfl rfl ?_
  refine WL.nil (WP.thenC (WC.seq (WC.ofFr [(15, _), (14, _), (13, _), (12, _), (11, _), (10, _), (9, _), (8, _), (7, _), (6, _), (5, _), (4, _), (3, _), (2, _), (1, _), (0, _)] ⟨rfl, rfl, rfl, rfl, rfl, rfl, rfl, rfl, rfl, rfl, rfl, rfl, rfl, rfl, rfl, rfl, trivial⟩ (WC.region ?_))))
  refine zym rfl rfl ?_
  refine WL.freezeK 0 rfl (fun hns9 => ?_)
  have hEs9 := DExt.n (w := w) (o := .cells ((sealS).flatMap btC ++ []).toArray 5 (0, 0)) hns9
  generalize hGs9 : Imm.add D9 s9 (.cells ((sealS).flatMap btC ++ []).toArray 5 (0, 0)) = D10 at hEs9 ⊢
  have hSls9 : SlL D10 1 ((sealS).map btC) (some ⟨s9, 0, none⟩) 9 := block_sl (l := sealS) (by rw [← hGs9]; exact Imm.add_self _ _ _)
  refine WL.so (SO.makes (Enters.func Tryz.call23 rfl) (fun w1 hI => ReadHorses_g (sealS.set 3 190) _ 9 9 D10 (hSls7.ext hEs9) (by decide) (by decide) w1 hI.imm)) rfl ?_
  rintro _ D11 _ ⟨hX11, ⟨m11, rfl, hR11⟩, rfl⟩
  rw [aw8] at hR11 ⊢
  have hE11 := ((hE8.t hEs7).t hEs9).t (hX11.e w)
  have hL11 := hL.ext hE11
  refine zym rfl rfl ?_
  refine WL.yd (Yd.extract rfl rfl) rfl ?_
  refine WL.yd (Yd.extract rfl rfl) rfl ?_
  refine WL.so (SO.alloc Tryz.zeroValue35 rfl) rfl ?_
  rintro _ _ _ ⟨b16, hb16, rfl, rfl, rfl⟩
  refine WL.so (SO.store 0 rfl Tryz.sizeOf35 rfl rfl rfl rfl (zqb rfl) (oneB_spec rfl)) rfl ?_
  rintro _ _ _ ⟨rfl, rfl, rfl⟩
  refine zya rfl rfl ?_
  refine WL.nil (WP.thenC (WC.seq (WC.ofFr [(17, _), (15, _), (14, _), (12, _), (11, _), (10, _), (9, _), (8, _), (7, _), (6, _), (5, _), (4, _), (3, _), (2, _), (1, _), (0, _)] ⟨rfl, rfl, rfl, rfl, rfl, rfl, rfl, rfl, rfl, rfl, rfl, rfl, rfl, rfl, rfl, rfl, trivial⟩ (WC.region ?_))))
  refine WL.so (SO.makes (Enters.func Tryz.call36 rfl) (fun w1 hI => ReadFlag_g flagXX (by decide) D11 hL11 w1 hI.imm)) rfl ?_
  rintro _ D12 _ ⟨hX12, ⟨x12, m12, e12, hx12, rfl, hR12⟩, rfl⟩
  obtain ⟨rfl, rfl⟩ : x12 = flagZ ∧ e12 = 8 := by have h9 := hx12.symm.trans aw9; cases h9; exact ⟨rfl, rfl⟩
  have hE12 := hE11.t (hX12.e w)
  refine zym rfl rfl ?_
  refine WL.yd (Yd.extract rfl rfl) rfl ?_
  refine WL.yd (Yd.extract rfl rfl) rfl ?_
  refine WL.so (SO.alloc Tryz.zeroValue29 rfl) rfl ?_
  rintro _ _ _ ⟨b18, hb18, rfl, rfl, rfl⟩
  refine WL.so (SO.store 0 rfl Tryz.sizeOf29 rfl rfl rfl rfl (zqb rfl) (oneB_spec rfl)) rfl ?_
  rintro _ _ _ ⟨rfl, rfl, rfl⟩
  refine zya rfl rfl ?_
  refine WL.nil (WP.thenC (WC.seq (WC.seq (WC.ofFr [(19, _), (17, _), (15, _), (14, _), (12, _), (11, _), (10, _), (9, _), (8, _), (7, _), (6, _), (5, _), (4, _), (3, _), (2, _), (1, _), (0, _)] ⟨rfl, rfl, rfl, rfl, rfl, rfl, rfl, rfl, rfl, rfl, rfl, rfl, rfl, rfl, rfl, rfl, rfl, trivial⟩ (WC.region ?_)))))
  refine zym rfl rfl ?_
  refine WL.yd (Yd.neS' rfl rfl) rfl ?_
  refine WL.know 67 (.bool false) rfl (congrArg Value.bool (decide_eq_false (fun h => h rfl))) ?_
  refine zym rfl rfl ?_
  refine WL.ydg rfl (Yd.move rfl) rfl ?_
  refine WL.ydg rfl (Yd.neq rfl rfl) rfl ?_
  refine WL.know 70 (.bool false) rfl (congrArg Value.bool (decide_eq_false (fun h => h rfl))) ?_
  refine WL.yd (Yd.pickF rfl rfl) rfl ?_
  refine zym rfl rfl ?_
  refine WL.ydg rfl (Yd.move rfl) rfl ?_
  refine WL.ydg rfl (Yd.neS' rfl rfl) rfl ?_
  refine WL.know 74 (.bool false) rfl (congrArg Value.bool (decide_eq_false (fun h => h rfl))) ?_
  refine WL.yd (Yd.pickF rfl rfl) rfl ?_
  refine zym rfl rfl ?_
  refine WL.ydg rfl (Yd.move rfl) rfl ?_
  refine WL.ydg rfl (Yd.neq rfl rfl) rfl ?_
  refine WL.know 78 (.bool false) rfl (congrArg Value.bool (decide_eq_false (fun h => h rfl))) ?_
  refine WL.yd (Yd.pickF rfl rfl) rfl ?_
  refine zym rfl rfl ?_
  refine WL.ydg rfl (Yd.move rfl) rfl ?_
  refine WL.ydg rfl (Yd.neS' rfl rfl) rfl ?_
  refine WL.know 82 (.bool false) rfl (congrArg Value.bool (decide_eq_false (fun h => h rfl))) ?_
  refine WL.yd (Yd.pickF rfl rfl) rfl ?_
  refine zym rfl rfl ?_
  refine WL.ydg rfl (Yd.move rfl) rfl ?_
  refine WL.ydg rfl (Yd.neq rfl rfl) rfl ?_
  refine WL.know 86 (.bool false) rfl (congrArg Value.bool (decide_eq_false (fun h => h rfl))) ?_
  refine WL.yd (Yd.pickF rfl rfl) rfl ?_
  refine zym rfl rfl ?_
  refine WL.ydg rfl (Yd.move rfl) rfl ?_
  refine WL.sog rfl (SO.newsF (Enters.func Tryz.call46 rfl) (fun w1 hI => sealN_g _ w1 hI.imm)) rfl ?_
  rintro _ _ _ ⟨_, _, ⟨rfl, s12, rfl, rfl⟩, rfl⟩
  refine WL.freezeK 0 rfl (fun hns12 => ?_)
  have hEs12 := DExt.n (w := w) (o := .cells ((sealS).flatMap btC ++ []).toArray 5 (0, 0)) hns12
  generalize hGs12 : Imm.add D12 s12 (.cells ((sealS).flatMap btC ++ []).toArray 5 (0, 0)) = D13 at hEs12 ⊢
  have hSls12 : SlL D13 1 ((sealS).map btC) (some ⟨s12, 0, none⟩) 9 := block_sl (l := sealS) (by rw [← hGs12]; exact Imm.add_self _ _ _)
  have hE13 := hE12.t hEs12
  have hB5x := hB5.ext ((((((((hX6.e w).t hEs6).t (hX8.e w)).t hEs7).t hEs9).t (hX11.e w)).t (hX12.e w)).t hEs12)
  refine WL.sog rfl (SO.callP Tryz.call22 rfl (fun w hI => bytes_g sealS sealS a5 _ n5 9 c5 9 D13 hB5x hSls12 w hI.imm)) rfl ?_
  rintro _ _ _ ⟨rfl, rfl, rfl⟩
  refine WL.ydg rfl (Yd.not rfl) rfl ?_
  refine WL.know 92 (.bool false) rfl (congrArg Value.bool (by simp)) ?_
  refine WL.yd (Yd.pickF rfl rfl) rfl ?_
  refine zym rfl rfl ?_
  refine WL.ydg rfl (Yd.move rfl) rfl ?_
  refine WL.ydg rfl (Yd.neq rfl rfl) rfl ?_
  refine WL.know 96 (.bool false) rfl (congrArg Value.bool (decide_eq_false (fun h => h rfl))) ?_
  refine WL.yd (Yd.pickF rfl rfl) rfl ?_
  refine WL.nil (WP.thenC ?_)
  refine WC.condF rfl ?_
  refine WC.skip (WP.thenC (WC.seq (WC.ofFr [(19, _), (17, _), (15, _), (14, _), (12, _), (11, _), (10, _), (9, _), (0, _)] ⟨rfl, rfl, rfl, rfl, rfl, rfl, rfl, rfl, rfl, trivial⟩ ?_)))
  refine WC.drawO _ [(0, true), (1, false), (2, false), (3, true), (4, true), (5, true), (6, true), (7, true), (8, true), (9, false), (10, false), (11, true), (12, true), (13, true), (14, true), (15, true), (16, true), (17, true), (18, false), (19, false), (20, true), (21, true), (22, true), (23, true), (24, true), (25, true), (26, true), (27, true), (28, true), (29, true), (30, true), (31, true), (32, true), (33, true)] (by kernel_rfl) (by kernel_rfl) (QuietPanic.then QuietPanic.body) (fun _ hI => hI) ?_
  refine WA.yd rfl (Yd.loadN Tryz.isAgg32 Tryz.sizeOf32 rfl (vs := [_, _, _, _, _]) rfl (by first | exact rn0 (n := 5) rfl rfl | exact rn1 (n := 5) rfl rfl | exact rn2 (n := 5) rfl rfl | exact rn3 (n := 5) rfl rfl)) rfl ?_
  refine WA.so rfl (SO.makes (Enters.func Tryz.call49 rfl) (fun w1 hI => boatsS_g D13 w1 hI.imm)) rfl ?_
  rintro _ D14 _ ⟨hX14, ⟨m14, rfl, hR14⟩, rfl⟩
  have hbk := hX14.old
  have hE14 := hE13.t (hX14.e w)
  have hR6' := hR6.ext ((((((hEs6.t (hX8.e w)).t hEs7).t hEs9).t (hX11.e w)).t (hX12.e w)).t (hEs12.t (hX14.e w)))
  refine ⟨fun _ hI => hI.shrink hbk, ?_⟩
  refine WA.so rfl (SO.callP Tryz.call30 rfl (fun w hI => sameBoats_g boatsS boatsS m6 m14 (BoatsN.of (boatsB_iff.1 rfl)) (BoatsN.of (boatsB_iff.1 rfl)) D14 (hL.ext hE14) hR6' hR14 w hI.imm)) rfl ?_
  rintro _ _ _ ⟨rfl, rfl, rfl⟩
  refine ⟨fun _ hI => hI.shrink hbk, ?_⟩
  refine WA.know 100 (.bool true) rfl (congrArg Value.bool (decide_eq_true rfl)) ?_
  refine WA.yd rfl (Yd.move rfl) rfl ?_
  refine WA.ydg rfl rfl (Yd.move rfl) rfl ?_
  refine WA.ydg rfl rfl (Yd.eql rfl rfl) rfl ?_
  refine WA.know 103 (.bool true) rfl (congrArg Value.bool (decide_eq_true rfl)) ?_
  refine WA.yd rfl (Yd.pickT rfl rfl) rfl ?_
  refine WA.yd rfl (Yd.move rfl) rfl ?_
  refine WA.ydg rfl rfl (Yd.loadN Tryz.isAgg35 Tryz.sizeOf35 rfl (vs := [_, _]) rfl (by first | exact rn0 (n := 2) rfl rfl | exact rn1 (n := 2) rfl rfl | exact rn2 (n := 2) rfl rfl | exact rn3 (n := 2) rfl rfl)) rfl ?_
  refine WA.sog rfl rfl (SO.makes (Enters.func Tryz.call50 rfl) (fun w1 hI => pay_g D14 w1 hI.imm)) rfl ?_
  rintro _ D15 _ ⟨hX15, ⟨m15, rfl, hR15⟩, rfl⟩
  have hbk := fun b o h => hX15.old b o (hbk b o h)
  have hR8' := hR8.ext ((((hEs7.t hEs9).t (hX11.e w)).t (hX12.e w)).t ((hEs12.t (hX14.e w)).t (hX15.e w)))
  refine ⟨fun _ hI => hI.shrink hbk, ?_⟩
  refine WA.sog rfl rfl (SO.callP Tryz.call27 rfl (fun w hI => sameHors_g payS payS m8 m15 D15 hR8' hR15 w hI.imm)) rfl ?_
  rintro _ _ _ ⟨rfl, rfl, rfl⟩
  refine ⟨fun _ hI => hI.shrink hbk, ?_⟩
  refine WA.know 108 (.bool true) rfl (congrArg Value.bool (decide_eq_true rfl)) ?_
  refine WA.yd rfl (Yd.pickT rfl rfl) rfl ?_
  refine WA.yd rfl (Yd.move rfl) rfl ?_
  refine WA.ydg rfl rfl (Yd.move rfl) rfl ?_
  refine WA.ydg rfl rfl (Yd.eql rfl rfl) rfl ?_
  refine WA.know 112 (.bool true) rfl (congrArg Value.bool (decide_eq_true rfl)) ?_
  refine WA.yd rfl (Yd.pickT rfl rfl) rfl ?_
  refine WA.yd rfl (Yd.move rfl) rfl ?_
  refine WA.ydg rfl rfl (Yd.move rfl) rfl ?_
  refine WA.sog rfl rfl (SO.newsF (Enters.func Tryz.call46 rfl) (fun w1 hI => sealN_g _ w1 hI.imm)) rfl ?_
  rintro _ _ _ ⟨_, _, ⟨rfl, s14, rfl, rfl⟩, rfl⟩
  refine ⟨fun _ hI => hI.tail.shrink hbk, ?_⟩
  refine WA.freezeK 0 rfl (fun hns14 => ?_)
  have hEs14 := DExt.n (w := w) (o := .cells ((sealS).flatMap btC ++ []).toArray 5 (0, 0)) hns14
  generalize hGs14 : Imm.add D15 s14 (.cells ((sealS).flatMap btC ++ []).toArray 5 (0, 0)) = D16 at hEs14 ⊢
  have hSls14 : SlL D16 1 ((sealS).map btC) (some ⟨s14, 0, none⟩) 9 := block_sl (l := sealS) (by rw [← hGs14]; exact Imm.add_self _ _ _)
  have hbk := fun b o h => hEs14.old b o (hbk b o h)
  have hB9x := hSls9.ext ((((hX11.e w).t (hX12.e w)).t (hEs12.t (hX14.e w))).t ((hX15.e w).t hEs14))
  refine WA.sog rfl rfl (SO.callP Tryz.call22 rfl (fun w hI => bytes_g sealS sealS _ _ 9 9 9 9 D16 hB9x hSls14 w hI.imm)) rfl ?_
  rintro _ _ _ ⟨rfl, rfl, rfl⟩
  refine ⟨fun _ hI => hI.shrink hbk, ?_⟩
  refine WA.know 117 (.bool true) rfl (congrArg Value.bool (decide_eq_true rfl)) ?_
  refine WA.yd rfl (Yd.pickT rfl rfl) rfl ?_
  refine WA.yd rfl (Yd.move rfl) rfl ?_
  refine WA.ydg rfl rfl (Yd.move rfl) rfl ?_
  refine WA.ydg rfl rfl (Yd.eql rfl rfl) rfl ?_
  refine WA.know 121 (.bool true) rfl (congrArg Value.bool (decide_eq_true rfl)) ?_
  refine WA.yd rfl (Yd.pickT rfl rfl) rfl ?_
  refine WA.yd rfl (Yd.move rfl) rfl ?_
  refine WA.ydg rfl rfl (Yd.move rfl) rfl ?_
  refine WA.ydg rfl rfl (Yd.eql rfl rfl) rfl ?_
  refine WA.know 125 (.bool true) rfl (congrArg Value.bool (decide_eq_true rfl)) ?_
  refine WA.yd rfl (Yd.pickT rfl rfl) rfl ?_
  refine WA.yd rfl (Yd.move rfl) rfl ?_
  refine WA.ydg rfl rfl (Yd.move rfl) rfl ?_
  refine WA.ydg rfl rfl (Yd.eql rfl rfl) rfl ?_
  refine WA.know 129 (.bool true) rfl (congrArg Value.bool (decide_eq_true rfl)) ?_
  refine WA.yd rfl (Yd.pickT rfl rfl) rfl ?_
  refine WA.yd rfl (Yd.assign rfl) rfl ?_
  refine WA.nil (WP.thenC (WC.ret ?_))
  refine WP.ret1 rfl rfl Tryz.results13 (RV.tmp rfl) (fun w hI => ⟨rfl, hI.keep⟩)

end Go.Proofs.YtaebnllfmkcpgaaGreatDoor
