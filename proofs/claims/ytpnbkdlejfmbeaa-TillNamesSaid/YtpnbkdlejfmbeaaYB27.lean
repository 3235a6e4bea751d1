import Derived.Test.YtpnbkdlejfmbeaaXN
set_option linter.unusedSimpArgs false
set_option linter.unusedVariables false
set_option linter.all false
namespace Go.Proofs.Ytpnbkdlejfmbeaa
open Go.W Go.Ti

theorem an1 : FineOut (sampX 40) 0 = (⟨0, 0⟩, 0) := by kernel_rfl
theorem an2 : BackOut (sampX 40) 0 = (⟨2, 2⟩, 0) := by kernel_rfl
theorem an3 : BackOut (sampX 40) 1 = (⟨0, 0⟩, 0) := by kernel_rfl
theorem an4 : CheckOut (sampX 40) (bookL []) = (0, 0, 4) := by kernel_rfl
theorem an5 : CheckOut (sampX 40) [⟨0, 2, 5⟩] = (0, 2, 0) := by kernel_rfl
theorem an6 : SumOut (sampX 40) [⟨0, 2, 5⟩] = (0, 11) := by kernel_rfl
theorem an7 : splitL 10 [1, 1, 1] = [4, 3, 3] := by kernel_rfl
theorem an8 : splitL 10 [0] = [0] := by kernel_rfl
theorem an9 : FinesOut (sampX 38) = (⟨0, 0⟩, 10) := by kernel_rfl
theorem an10 : TakingsOut (sampX 38) = (36, 0) := by kernel_rfl

set_option maxRecDepth 100000 in
set_option maxHeartbeats 1000000 in
theorem names_g (D : Imm) (w : World) (hH : Holds D w) : Gives Try.prog 4 [] w (.bool true) := by
  unfold Gives
  refine enter Try.func4 rfl 156 Try.ntmps4 (Nat.le_of_ble_eq_true rfl) (Inv.start hH) ?_
  refine WC.seq ?_
  refine WC.ofFr [] trivial ?_
  refine WC.region ?_
  refine WL.yd (Yd.assign rfl) rfl ?_
  refine WL.nil ?_
  refine WP.thenC ?_
  refine WC.seq ?_
  refine WC.ofFr [(0, _)] ⟨rfl, trivial⟩ ?_
  refine WC.region ?_
  refine WL.so (SO.makes (Enters.func Try.call13 rfl) (fun w hI => sample_g 40 (by omega) _ w hI.imm)) rfl ?_
  rintro _ D1 _ ⟨hX1, ⟨a1_1, c1_1, rfl, hR1⟩, rfl⟩
  refine WL.so (SO.callP Try.call12 rfl (fun w hI => Gives.cv (.tuple #[.agg #[it 0, it 0], it 0]) (Fine_g (sampX 40) a1_1 _ c1_1 _ _ hR1 hI.imm 0) (by rw [an1]; first | done | rfl))) rfl ?_
  rintro _ _ _ ⟨rfl, rfl, rfl⟩
  refine WL.yd (Yd.move rfl) rfl ?_
  refine WL.yd (Yd.extract rfl rfl) rfl ?_
  refine WL.yd (Yd.extract rfl rfl) rfl ?_
  refine WL.so (SO.alloc Try.zeroValue30 rfl) rfl ?_
  rintro _ _ _ ⟨b1, hb1, rfl, rfl, rfl⟩ -- NEW
  refine WL.so (SO.store 0 rfl Try.sizeOf30 rfl rfl rfl rfl (Nat.le_of_ble_eq_true rfl) (oneB_spec rfl)) rfl ?_
  rintro _ _ _ ⟨rfl, rfl, rfl⟩
  refine WL.yd (Yd.assign rfl) rfl ?_
  refine WL.nil ?_
  refine WP.thenC ?_
  refine WC.seq ?_
  refine WC.ofFr [(2, _), (1, _), (0, _)] ⟨rfl, rfl, rfl, trivial⟩ ?_
  refine WC.region ?_
  refine WL.so (SO.makes (Enters.func Try.call13 rfl) (fun w hI => sample_g 40 (by omega) _ w hI.imm)) rfl ?_
  rintro _ D2 _ ⟨hX2, ⟨a1_2, c1_2, rfl, hR2⟩, rfl⟩
  refine WL.so (SO.callP Try.call14 rfl (fun w hI => Gives.cv (.tuple #[.agg #[it 2, it 2], it 0]) (Back_g (sampX 40) a1_2 _ c1_2 _ _ hR2 hI.imm 0) (by rw [an2]; first | done | rfl))) rfl ?_
  rintro _ _ _ ⟨rfl, rfl, rfl⟩
  refine WL.yd (Yd.move rfl) rfl ?_
  refine WL.yd (Yd.extract rfl rfl) rfl ?_
  refine WL.yd (Yd.extract rfl rfl) rfl ?_
  refine WL.so (SO.alloc Try.zeroValue30 rfl) rfl ?_
  rintro _ _ _ ⟨b3, hb3, rfl, rfl, rfl⟩ -- NEW
  refine WL.so (SO.store 0 rfl Try.sizeOf30 rfl rfl rfl rfl (Nat.le_of_ble_eq_true rfl) (oneB_spec rfl)) rfl ?_
  rintro _ _ _ ⟨rfl, rfl, rfl⟩
  refine WL.yd (Yd.assign rfl) rfl ?_
  refine WL.nil ?_
  refine WP.thenC ?_
  refine WC.seq ?_
  refine WC.ofFr [(4, _), (3, _), (2, _), (1, _), (0, _)] ⟨rfl, rfl, rfl, rfl, rfl, trivial⟩ ?_
  refine WC.region ?_
  refine WL.so (SO.makes (Enters.func Try.call13 rfl) (fun w hI => sample_g 40 (by omega) _ w hI.imm)) rfl ?_
  rintro _ D3 _ ⟨hX3, ⟨a1_3, c1_3, rfl, hR3⟩, rfl⟩
  refine WL.so (SO.callP Try.call14 rfl (fun w hI => Gives.cv (.tuple #[.agg #[it 0, it 0], it 0]) (Back_g (sampX 40) a1_3 _ c1_3 _ _ hR3 hI.imm 1) (by rw [an3]; first | done | rfl))) rfl ?_
  rintro _ _ _ ⟨rfl, rfl, rfl⟩
  refine WL.yd (Yd.move rfl) rfl ?_
  refine WL.yd (Yd.extract rfl rfl) rfl ?_
  refine WL.yd (Yd.extract rfl rfl) rfl ?_
  refine WL.so (SO.alloc Try.zeroValue30 rfl) rfl ?_
  rintro _ _ _ ⟨b5, hb5, rfl, rfl, rfl⟩ -- NEW
  refine WL.so (SO.store 0 rfl Try.sizeOf30 rfl rfl rfl rfl (Nat.le_of_ble_eq_true rfl) (oneB_spec rfl)) rfl ?_
  rintro _ _ _ ⟨rfl, rfl, rfl⟩
  refine WL.yd (Yd.assign rfl) rfl ?_
  refine WL.nil ?_
  refine WP.thenC ?_
  refine WC.seq ?_
  refine WC.ofFr [(6, _), (5, _), (4, _), (3, _), (2, _), (1, _), (0, _)] ⟨rfl, rfl, rfl, rfl, rfl, rfl, rfl, trivial⟩ ?_
  refine WC.region ?_
  refine WL.so (SO.makes (Enters.func Try.call13 rfl) (fun w hI => sample_g 40 (by omega) _ w hI.imm)) rfl ?_
  rintro _ D4 _ ⟨hX4, ⟨a1_4, c1_4, rfl, hR4⟩, rfl⟩
  refine WL.so (SO.makes (Enters.func Try.call16 rfl) (fun w hI => book_g [] none 0 0 _ w (nil_ent _) (fun _ => rfl) (by decide) hI.imm)) rfl ?_
  rintro _ D5 _ ⟨hX5, ⟨a2_5, c2_5, rfl, hB5⟩, rfl⟩
  replace hR4 := hR4.ext hX5
  refine WL.so (SO.callP Try.call15 rfl (fun w hI => Gives.cv (.tuple #[it 0, it 0, it 4]) (Check_g (sampX 40) a1_4 _ c1_4 _ _ hR4 hI.imm (bookL []) a2_5 _ c2_5 hB5) (by rw [an4]; first | done | rfl))) rfl ?_
  rintro _ _ _ ⟨rfl, rfl, rfl⟩
  refine WL.yd (Yd.move rfl) rfl ?_
  refine WL.yd (Yd.extract rfl rfl) rfl ?_
  refine WL.yd (Yd.extract rfl rfl) rfl ?_
  refine WL.yd (Yd.extract rfl rfl) rfl ?_
  refine WL.yd (Yd.assign rfl) rfl ?_
  refine WL.yd (Yd.assign rfl) rfl ?_
  refine WL.yd (Yd.assign rfl) rfl ?_
  refine WL.nil ?_
  refine WP.thenC ?_
  refine WC.seq ?_
  refine WC.ofFr [(9, _), (6, _), (5, _), (4, _), (3, _), (2, _), (1, _), (0, _)] ⟨rfl, rfl, rfl, rfl, rfl, rfl, rfl, rfl, trivial⟩ ?_
  refine WC.region ?_
  refine WL.so (SO.makes (Enters.func Try.call13 rfl) (fun w hI => sample_g 40 (by omega) _ w hI.imm)) rfl ?_
  rintro _ D6 _ ⟨hX6, ⟨a1_6, c1_6, rfl, hR6⟩, rfl⟩
  refine WL.so (SO.callP Try.call17 rfl (fun w hI => lent_g _ _ _ _)) rfl ?_
  rintro _ _ _ ⟨rfl, rfl, rfl⟩
  refine WL.so (SO.buildSlice Try.underlying41 Try.sizeOf44 Try.zeroValue44 rfl rfl rfl rfl (cs := [_, _, _]) rfl) rfl ?_
  rintro _ _ _ ⟨b48, hb48, rfl, rfl, rfl⟩ -- NEW
  refine WL.freezeN 0 b48 (.cells (List.toArray (entC (⟨0, 2, 5⟩ : Ent))) 44 (0, 0)) rfl rfl hb48 (fun DE5 hXE5 h48 => ?_)
  replace hR6 := hR6.ext hXE5
  refine WL.so (SO.callP Try.call15 rfl (fun w hI => Gives.cv (.tuple #[it 0, it 2, it 0]) (Check_g (sampX 40) a1_6 _ c1_6 _ _ hR6 hI.imm [(⟨0, 2, 5⟩ : Ent)] (some ⟨b48, 0, none⟩) 1 1 ⟨one_ent (⟨0, 2, 5⟩ : Ent) h48, by decide⟩) (by rw [an5]; first | done | rfl))) rfl ?_
  rintro _ _ _ ⟨rfl, rfl, rfl⟩
  refine WL.yd (Yd.move rfl) rfl ?_
  refine WL.yd (Yd.extract rfl rfl) rfl ?_
  refine WL.yd (Yd.extract rfl rfl) rfl ?_
  refine WL.yd (Yd.extract rfl rfl) rfl ?_
  refine WL.yd (Yd.assign rfl) rfl ?_
  refine WL.yd (Yd.assign rfl) rfl ?_
  refine WL.yd (Yd.assign rfl) rfl ?_
  refine WL.nil ?_
  refine WP.thenC ?_
  refine WC.seq ?_
  refine WC.ofFr [(12, _), (11, _), (10, _), (9, _), (6, _), (5, _), (4, _), (3, _), (2, _), (1, _), (0, _)] ⟨rfl, rfl, rfl, rfl, rfl, rfl, rfl, rfl, rfl, rfl, rfl, trivial⟩ ?_
  refine WC.region ?_
  refine WL.so (SO.makes (Enters.func Try.call13 rfl) (fun w hI => sample_g 40 (by omega) _ w hI.imm)) rfl ?_
  rintro _ D7 _ ⟨hX7, ⟨a1_7, c1_7, rfl, hR7⟩, rfl⟩
  refine WL.so (SO.callP Try.call17 rfl (fun w hI => lent_g _ _ _ _)) rfl ?_
  rintro _ _ _ ⟨rfl, rfl, rfl⟩
  refine WL.so (SO.buildSlice Try.underlying41 Try.sizeOf44 Try.zeroValue44 rfl rfl rfl rfl (cs := [_, _, _]) rfl) rfl ?_
  rintro _ _ _ ⟨b56, hb56, rfl, rfl, rfl⟩ -- NEW
  refine WL.freezeN 0 b56 (.cells (List.toArray (entC (⟨0, 2, 5⟩ : Ent))) 44 (0, 0)) rfl rfl hb56 (fun DE6 hXE6 h56 => ?_)
  replace hR7 := hR7.ext hXE6
  refine WL.so (SO.callP Try.call18 rfl (fun w hI => Gives.cv (.tuple #[it 0, it 11]) (Sum_g (sampX 40) a1_7 _ c1_7 _ _ hR7 hI.imm [(⟨0, 2, 5⟩ : Ent)] (some ⟨b56, 0, none⟩) 1 1 ⟨one_ent (⟨0, 2, 5⟩ : Ent) h56, by decide⟩) (by rw [an6]; first | done | rfl))) rfl ?_
  rintro _ _ _ ⟨rfl, rfl, rfl⟩
  refine WL.yd (Yd.move rfl) rfl ?_
  refine WL.yd (Yd.extract rfl rfl) rfl ?_
  refine WL.yd (Yd.extract rfl rfl) rfl ?_
  refine WL.yd (Yd.assign rfl) rfl ?_
  refine WL.yd (Yd.assign rfl) rfl ?_
  refine WL.nil ?_
  refine WP.thenC ?_
  refine WC.seq ?_
  refine WC.ofFr [(14, _), (12, _), (11, _), (10, _), (9, _), (6, _), (5, _), (4, _), (3, _), (2, _), (1, _), (0, _)] ⟨rfl, rfl, rfl, rfl, rfl, rfl, rfl, rfl, rfl, rfl, rfl, rfl, trivial⟩ ?_
  refine WC.region ?_
  refine WL.so (SO.buildSlice Try.underlying22 Try.sizeOf3 Try.zeroValue3 rfl rfl rfl rfl (cs := [_, _, _]) rfl) rfl ?_
  rintro _ _ _ ⟨b61, hb61, rfl, rfl, rfl⟩ -- NEW
  refine WL.freezeN 0 b61 (.cells (List.toArray (([1, 1, 1] : List Nat).map nt)) 3 (0, 0)) rfl rfl hb61 (fun DFP hXFP h61 => ?_)
  
  refine WL.so (SO.makes (Enters.func Try.call9 rfl) (fun w hI => Split_ok 10 (by decide) [1, 1, 1] (by decide) (by decide) (some ⟨b61, 0, none⟩) 3 _ (nats_sl [1, 1, 1] h61) w hI.imm)) rfl ?_
  rintro _ DP _ ⟨hXP, ⟨a_P, c_P, rfl, hSP⟩, rfl⟩
  refine WL.yd (Yd.move rfl) rfl ?_
  refine WL.yd (Yd.extract rfl rfl) rfl ?_
  refine WL.yd (Yd.extract rfl rfl) rfl ?_
  refine WL.yd (Yd.assign rfl) rfl ?_
  refine WL.yd (Yd.assign rfl) rfl ?_
  refine WL.nil ?_
  refine WP.thenC ?_
  refine WC.seq ?_
  refine WC.ofFr [(16, _), (15, _), (14, _), (12, _), (11, _), (10, _), (9, _), (6, _), (5, _), (4, _), (3, _), (2, _), (1, _), (0, _)] ⟨rfl, rfl, rfl, rfl, rfl, rfl, rfl, rfl, rfl, rfl, rfl, rfl, rfl, rfl, trivial⟩ ?_
  refine WC.region ?_
  refine WL.so (SO.buildSlice Try.underlying22 Try.sizeOf3 Try.zeroValue3 rfl rfl rfl rfl (cs := [_]) rfl) rfl ?_
  rintro _ _ _ ⟨b66, hb66, rfl, rfl, rfl⟩ -- NEW
  refine WL.freezeN 0 b66 (.cells (List.toArray (([0] : List Nat).map nt)) 3 (0, 0)) rfl rfl hb66 (fun DFQ hXFQ h66 => ?_)
  replace hSP := hSP.ext hXFQ
  refine WL.so (SO.makes (Enters.func Try.call9 rfl) (fun w hI => Split_ok 10 (by decide) [0] (by decide) (by decide) (some ⟨b66, 0, none⟩) 1 _ (nats_sl [0] h66) w hI.imm)) rfl ?_
  rintro _ DQ _ ⟨hXQ, ⟨a_Q, c_Q, rfl, hSQ⟩, rfl⟩
  replace hSP := hSP.ext hXQ
  refine WL.yd (Yd.move rfl) rfl ?_
  refine WL.yd (Yd.extract rfl rfl) rfl ?_
  refine WL.yd (Yd.extract rfl rfl) rfl ?_
  refine WL.yd (Yd.assign rfl) rfl ?_
  refine WL.yd (Yd.assign rfl) rfl ?_
  refine WL.nil ?_
  refine WP.thenC ?_
  refine WC.seq ?_
  refine WC.ofFr [(18, _), (17, _), (16, _), (15, _), (14, _), (12, _), (11, _), (10, _), (9, _), (6, _), (5, _), (4, _), (3, _), (2, _), (1, _), (0, _)] ⟨rfl, rfl, rfl, rfl, rfl, rfl, rfl, rfl, rfl, rfl, rfl, rfl, rfl, rfl, rfl, rfl, trivial⟩ ?_
  refine WC.region ?_
  refine WL.so (SO.makes (Enters.func Try.call13 rfl) (fun w hI => sample_g 38 (by omega) _ w hI.imm)) rfl ?_
  rintro _ D8 _ ⟨hX8, ⟨a1_8, c1_8, rfl, hR8⟩, rfl⟩
  replace hSP := hSP.ext hX8
  replace hSQ := hSQ.ext hX8
  refine WL.so (SO.callP Try.call19 rfl (fun w hI => Gives.cv (.tuple #[.agg #[it 0, it 0], it 10]) (Fines_g (sampX 38) a1_8 _ c1_8 _ _ hR8 hI.imm) (by rw [an9]; first | done | rfl))) rfl ?_
  rintro _ _ _ ⟨rfl, rfl, rfl⟩
  refine WL.yd (Yd.move rfl) rfl ?_
  refine WL.yd (Yd.extract rfl rfl) rfl ?_
  refine WL.yd (Yd.extract rfl rfl) rfl ?_
  refine WL.so (SO.alloc Try.zeroValue30 rfl) rfl ?_
  rintro _ _ _ ⟨b19, hb19, rfl, rfl, rfl⟩ -- NEW
  refine WL.so (SO.store 0 rfl Try.sizeOf30 rfl rfl rfl rfl (Nat.le_of_ble_eq_true rfl) (oneB_spec rfl)) rfl ?_
  rintro _ _ _ ⟨rfl, rfl, rfl⟩
  refine WL.yd (Yd.assign rfl) rfl ?_
  refine WL.nil ?_
  refine WP.thenC ?_
  refine WC.seq ?_
  refine WC.ofFr [(20, _), (18, _), (17, _), (16, _), (15, _), (14, _), (12, _), (11, _), (10, _), (9, _), (6, _), (5, _), (4, _), (3, _), (2, _), (1, _), (0, _)] ⟨rfl, rfl, rfl, rfl, rfl, rfl, rfl, rfl, rfl, rfl, rfl, rfl, rfl, rfl, rfl, rfl, rfl, trivial⟩ ?_
  refine WC.region ?_
  refine WL.so (SO.makes (Enters.func Try.call13 rfl) (fun w hI => sample_g 38 (by omega) _ w hI.imm)) rfl ?_
  rintro _ D9 _ ⟨hX9, ⟨a1_9, c1_9, rfl, hR9⟩, rfl⟩
  replace hSP := hSP.ext hX9
  replace hSQ := hSQ.ext hX9
  refine WL.so (SO.callP Try.call20 rfl (fun w hI => Gives.cv (.tuple #[it 36, it 0]) (Takings_g (sampX 38) a1_9 _ c1_9 _ _ hR9 hI.imm) (by rw [an10]; first | done | rfl))) rfl ?_
  rintro _ _ _ ⟨rfl, rfl, rfl⟩
  refine WL.yd (Yd.move rfl) rfl ?_
  refine WL.yd (Yd.extract rfl rfl) rfl ?_
  refine WL.yd (Yd.extract rfl rfl) rfl ?_
  refine WL.yd (Yd.assign rfl) rfl ?_
  refine WL.yd (Yd.assign rfl) rfl ?_
  refine WL.nil ?_
  refine WP.thenC ?_
  refine WC.seq ?_
  refine WC.ofFr [(22, _), (20, _), (18, _), (17, _), (16, _), (15, _), (14, _), (12, _), (11, _), (10, _), (9, _), (6, _), (5, _), (4, _), (3, _), (2, _), (1, _), (0, _)] ⟨rfl, rfl, rfl, rfl, rfl, rfl, rfl, rfl, rfl, rfl, rfl, rfl, rfl, rfl, rfl, rfl, rfl, rfl, trivial⟩ ?_
  refine WC.draw [(0, true), (1, false), (2, true), (3, true), (4, true), (5, false), (6, true), (7, true), (8, true), (9, true), (10, true), (11, true), (12, true), (13, true), (14, false), (15, true), (16, true), (17, true), (18, true), (19, true), (20, true), (21, true), (22, true), (23, false), (24, true), (25, true), (26, true), (27, true), (28, true), (29, true), (30, true), (31, true), (32, true), (33, true), (34, true), (35, true), (36, true), (37, true), (38, true), (39, true), (40, true), (41, true), (42, true), (43, true), (44, true), (45, true), (46, true), (47, true), (48, true), (49, true), (50, true), (51, true), (52, false), (53, false), (54, true), (55, true), (56, true), (57, true), (58, true), (59, true), (60, true), (61, false), (62, false), (63, true), (64, true), (65, true), (66, true), (67, true), (68, true), (69, true), (70, true), (71, true), (72, true), (73, true), (74, true), (75, true), (76, true)] (by kernel_rfl) (by kernel_rfl) (QuietPanic.then QuietPanic.body) ?_
  refine WA.yd rfl (Yd.move rfl) rfl ?_
  refine WA.sog rfl rfl (SO.callP Try.call8 rfl (fun w hI => alive_g _ _ hI.imm)) rfl ?_
  rintro _ _ _ ⟨rfl, rfl, rfl⟩
  refine ⟨fun _ hI => hI, ?_⟩
  refine WA.know 81 (.bool true) rfl rfl ?_
  refine WA.yd rfl (Yd.pickT rfl rfl) rfl ?_
  refine WA.yd rfl (Yd.move rfl) rfl ?_
  refine WA.ydg rfl rfl (Yd.loadN Try.isAgg30 Try.sizeOf30 rfl (vs := [_, _]) rfl (by first | exact RdN.own (k := 0) (n := 2) rfl rfl | exact RdN.own (k := 1) (n := 2) rfl rfl | exact RdN.own (k := 2) (n := 2) rfl rfl | exact RdN.own (k := 3) (n := 2) rfl rfl)) rfl ?_
  refine WA.sog rfl rfl (SO.callP Try.call21 rfl (fun w hI => lspan_g _ _ _)) rfl ?_
  rintro _ _ _ ⟨rfl, rfl, rfl⟩
  refine ⟨fun _ hI => hI, ?_⟩
  refine WA.ydg rfl rfl (Yd.eqS Try.eqGuardType30 (eqSp _ _ _ _) rfl rfl) rfl ?_
  refine WA.know 86 (.bool true) rfl (congrArg Value.bool (decide_eq_true rfl)) ?_
  refine WA.yd rfl (Yd.pickT rfl rfl) rfl ?_
  refine WA.yd rfl (Yd.move rfl) rfl ?_
  refine WA.ydg rfl rfl (Yd.move rfl) rfl ?_
  refine WA.ydg rfl rfl (Yd.eql rfl rfl) rfl ?_
  refine WA.know 90 (.bool true) rfl (congrArg Value.bool (by decide)) ?_
  refine WA.yd rfl (Yd.pickT rfl rfl) rfl ?_
  refine WA.yd rfl (Yd.move rfl) rfl ?_
  refine WA.ydg rfl rfl (Yd.loadN Try.isAgg30 Try.sizeOf30 rfl (vs := [_, _]) rfl (by first | exact RdN.own (k := 0) (n := 2) rfl rfl | exact RdN.own (k := 1) (n := 2) rfl rfl | exact RdN.own (k := 2) (n := 2) rfl rfl | exact RdN.own (k := 3) (n := 2) rfl rfl)) rfl ?_
  refine WA.sog rfl rfl (SO.callP Try.call21 rfl (fun w hI => lspan_g _ _ _)) rfl ?_
  rintro _ _ _ ⟨rfl, rfl, rfl⟩
  refine ⟨fun _ hI => hI, ?_⟩
  refine WA.ydg rfl rfl (Yd.eqS Try.eqGuardType30 (eqSp _ _ _ _) rfl rfl) rfl ?_
  refine WA.know 95 (.bool true) rfl (congrArg Value.bool (decide_eq_true rfl)) ?_
  refine WA.yd rfl (Yd.pickT rfl rfl) rfl ?_
  refine WA.yd rfl (Yd.move rfl) rfl ?_
  refine WA.ydg rfl rfl (Yd.move rfl) rfl ?_
  refine WA.ydg rfl rfl (Yd.eql rfl rfl) rfl ?_
  refine WA.know 99 (.bool true) rfl (congrArg Value.bool (by decide)) ?_
  refine WA.yd rfl (Yd.pickT rfl rfl) rfl ?_
  refine WA.yd rfl (Yd.move rfl) rfl ?_
  refine WA.ydg rfl rfl (Yd.loadN Try.isAgg30 Try.sizeOf30 rfl (vs := [_, _]) rfl (by first | exact RdN.own (k := 0) (n := 2) rfl rfl | exact RdN.own (k := 1) (n := 2) rfl rfl | exact RdN.own (k := 2) (n := 2) rfl rfl | exact RdN.own (k := 3) (n := 2) rfl rfl)) rfl ?_
  refine WA.sog rfl rfl (SO.callP Try.call21 rfl (fun w hI => lspan_g _ _ _)) rfl ?_
  rintro _ _ _ ⟨rfl, rfl, rfl⟩
  refine ⟨fun _ hI => hI, ?_⟩
  refine WA.ydg rfl rfl (Yd.eqS Try.eqGuardType30 (eqSp _ _ _ _) rfl rfl) rfl ?_
  refine WA.know 104 (.bool true) rfl (congrArg Value.bool (decide_eq_true rfl)) ?_
  refine WA.yd rfl (Yd.pickT rfl rfl) rfl ?_
  refine WA.yd rfl (Yd.move rfl) rfl ?_
  refine WA.ydg rfl rfl (Yd.move rfl) rfl ?_
  refine WA.ydg rfl rfl (Yd.eql rfl rfl) rfl ?_
  refine WA.know 108 (.bool true) rfl (congrArg Value.bool (by decide)) ?_
  refine WA.yd rfl (Yd.pickT rfl rfl) rfl ?_
  refine WA.yd rfl (Yd.move rfl) rfl ?_
  refine WA.ydg rfl rfl (Yd.move rfl) rfl ?_
  refine WA.ydg rfl rfl (Yd.eql rfl rfl) rfl ?_
  refine WA.know 112 (.bool true) rfl (congrArg Value.bool (by decide)) ?_
  refine WA.yd rfl (Yd.pickT rfl rfl) rfl ?_
  refine WA.yd rfl (Yd.move rfl) rfl ?_
  refine WA.ydg rfl rfl (Yd.move rfl) rfl ?_
  refine WA.ydg rfl rfl (Yd.eql rfl rfl) rfl ?_
  refine WA.know 116 (.bool true) rfl (congrArg Value.bool (by decide)) ?_
  refine WA.yd rfl (Yd.pickT rfl rfl) rfl ?_
  refine WA.yd rfl (Yd.move rfl) rfl ?_
  refine WA.ydg rfl rfl (Yd.move rfl) rfl ?_
  refine WA.ydg rfl rfl (Yd.eql rfl rfl) rfl ?_
  refine WA.know 120 (.bool true) rfl (congrArg Value.bool (by decide)) ?_
  refine WA.yd rfl (Yd.pickT rfl rfl) rfl ?_
  refine WA.yd rfl (Yd.move rfl) rfl ?_
  refine WA.ydg rfl rfl (Yd.move rfl) rfl ?_
  refine WA.ydg rfl rfl (Yd.eql rfl rfl) rfl ?_
  refine WA.know 124 (.bool true) rfl (congrArg Value.bool (by decide)) ?_
  refine WA.yd rfl (Yd.pickT rfl rfl) rfl ?_
  refine WA.yd rfl (Yd.move rfl) rfl ?_
  refine WA.ydg rfl rfl (Yd.move rfl) rfl ?_
  refine WA.ydg rfl rfl (Yd.eql rfl rfl) rfl ?_
  refine WA.know 128 (.bool true) rfl (congrArg Value.bool (by decide)) ?_
  refine WA.yd rfl (Yd.pickT rfl rfl) rfl ?_
  refine WA.yd rfl (Yd.move rfl) rfl ?_
  refine WA.ydg rfl rfl (Yd.move rfl) rfl ?_
  refine WA.sog rfl rfl (SO.buildSlice Try.underlying22 Try.sizeOf3 Try.zeroValue3 rfl rfl rfl rfl (cs := [_, _, _]) rfl) rfl ?_
  rintro _ _ _ ⟨b132, hb132, rfl, rfl, rfl⟩ -- NEW
  refine ⟨fun _ hI => hI.tail, ?_⟩
  refine WA.freezeN 0 b132 (.cells (List.toArray (([4, 3, 3] : List Int).map it)) 3 (0, 0)) rfl rfl hb132 (fun D132 hX132 h132 => ?_)
  replace hSP := hSP.ext hX132
  replace hSQ := hSQ.ext hX132
  refine WA.sog rfl rfl (SO.callP Try.call11 rfl (fun w hI => Gives.cv (.bool true) (Ints_g _ [4, 3, 3] a_P (some ⟨b132, 0, none⟩) _ 3 c_P 3 _ _ (nat_int hSP) (ints_sl [4, 3, 3] h132) (by decide) (by decide) hI.imm) (by rw [an7]; first | done | rfl))) rfl ?_
  rintro _ _ _ ⟨rfl, rfl, rfl⟩
  refine ⟨fun _ hI => hI.shrink hX132.old, ?_⟩
  refine WA.know 133 (.bool true) rfl rfl ?_
  refine WA.yd rfl (Yd.pickT rfl rfl) rfl ?_
  refine WA.yd rfl (Yd.move rfl) rfl ?_
  refine WA.ydg rfl rfl (Yd.move rfl) rfl ?_
  refine WA.ydg rfl rfl (Yd.eql rfl rfl) rfl ?_
  refine WA.know 137 (.bool true) rfl (congrArg Value.bool (by decide)) ?_
  refine WA.yd rfl (Yd.pickT rfl rfl) rfl ?_
  refine WA.yd rfl (Yd.move rfl) rfl ?_
  refine WA.ydg rfl rfl (Yd.move rfl) rfl ?_
  refine WA.sog rfl rfl (SO.buildSlice Try.underlying22 Try.sizeOf3 Try.zeroValue3 rfl rfl rfl rfl (cs := [_]) rfl) rfl ?_
  rintro _ _ _ ⟨b141, hb141, rfl, rfl, rfl⟩ -- NEW
  refine ⟨fun _ hI => hI.tail.shrink hX132.old, ?_⟩
  refine WA.freezeN 0 b141 (.cells (List.toArray (([0] : List Int).map it)) 3 (0, 0)) rfl rfl hb141 (fun D141 hX141 h141 => ?_)
  replace hSP := hSP.ext hX141
  replace hSQ := hSQ.ext hX141
  refine WA.sog rfl rfl (SO.callP Try.call11 rfl (fun w hI => Gives.cv (.bool true) (Ints_g _ [0] a_Q (some ⟨b141, 0, none⟩) _ 1 c_Q 1 _ _ (nat_int hSQ) (ints_sl [0] h141) (by decide) (by decide) hI.imm) (by rw [an8]; first | done | rfl))) rfl ?_
  rintro _ _ _ ⟨rfl, rfl, rfl⟩
  refine ⟨fun _ hI => hI.shrink (fun b o h => hX141.old _ _ (hX132.old _ _ h)), ?_⟩
  refine WA.know 142 (.bool true) rfl rfl ?_
  refine WA.yd rfl (Yd.pickT rfl rfl) rfl ?_
  refine WA.yd rfl (Yd.move rfl) rfl ?_
  refine WA.ydg rfl rfl (Yd.move rfl) rfl ?_
  refine WA.ydg rfl rfl (Yd.eql rfl rfl) rfl ?_
  refine WA.know 146 (.bool true) rfl (congrArg Value.bool (by decide)) ?_
  refine WA.yd rfl (Yd.pickT rfl rfl) rfl ?_
  refine WA.yd rfl (Yd.move rfl) rfl ?_
  refine WA.ydg rfl rfl (Yd.move rfl) rfl ?_
  refine WA.ydg rfl rfl (Yd.eql rfl rfl) rfl ?_
  refine WA.know 150 (.bool true) rfl (congrArg Value.bool (by decide)) ?_
  refine WA.yd rfl (Yd.pickT rfl rfl) rfl ?_
  refine WA.yd rfl (Yd.move rfl) rfl ?_
  refine WA.ydg rfl rfl (Yd.move rfl) rfl ?_
  refine WA.ydg rfl rfl (Yd.eql rfl rfl) rfl ?_
  refine WA.know 154 (.bool true) rfl (congrArg Value.bool (by decide)) ?_
  refine WA.yd rfl (Yd.pickT rfl rfl) rfl ?_
  refine WA.yd rfl (Yd.assign rfl) rfl ?_
  refine WA.nil ?_
  refine WP.thenC ?_
  refine WC.ret ?_
  refine WP.ret1 rfl rfl Try.results4 (RV.tmp rfl) (fun w hI => ⟨rfl, hI.keep⟩)

end Go.Proofs.Ytpnbkdlejfmbeaa
