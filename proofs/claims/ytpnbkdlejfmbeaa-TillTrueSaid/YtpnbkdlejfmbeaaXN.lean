import Derived.Test.YtpnbkdlejfmbeaaXM
set_option linter.unusedSimpArgs false
set_option linter.unusedVariables false
set_option linter.all false
namespace Go.Proofs.Ytpnbkdlejfmbeaa
open Go.W Go.Ti

theorem eqSp (a b c d : Int) : ∀ w, (Op.equalIn 10000 30 (.agg #[.int .i64 a, .int .i64 b]) (.agg #[.int .i64 c, .int .i64 d])).run Try.prog w = .ok (decide ((⟨a, b⟩ : Sp) = ⟨c, d⟩)) w := by
  intro w
  have h1 : (Op.equalIn 10000 30 (.agg #[.int .i64 a, .int .i64 b]) (.agg #[.int .i64 c, .int .i64 d])).run Try.prog w = .ok (a == c && b == d) w := by
    simp [go_sem, Op.eqFields]
    by_cases h : a = c <;> by_cases h' : b = d <;> simp [h, h']
  have h2 : (a == c && b == d) = decide ((⟨a, b⟩ : Sp) = ⟨c, d⟩) := by
    rw [Bool.eq_iff_iff]; simp only [Bool.and_eq_true, beq_iff_eq, decide_eq_true_eq, Sp.mk.injEq]
  rw [h1, h2]
theorem al1 : TakingsOut (sampX 40) = (36, 0) := by kernel_rfl
theorem al2 : FineOut (sampX 40) 1 = (⟨5, 5⟩, 0) := by kernel_rfl
theorem al3 : FinesOut (sampX 40) = (⟨5, 5⟩, 0) := by kernel_rfl
theorem al4 : BackOut (sampX 40) 2 = (⟨6, 6⟩, 0) := by kernel_rfl
theorem al5 : CheckOut (sampX 40) (bookL [⟨1, 1, 12⟩]) = (4, 1, 0) := by kernel_rfl
theorem al6 : MissOut (sampX 40) (bookL []) = (4, 0, 1, 0) := by kernel_rfl
theorem al7 : SumOut (sampX 40) (bookL []) = (23, 0) := by kernel_rfl
theorem al8 : splitL 10 [5, 3, 1] = [6, 3, 1] := by kernel_rfl
theorem int_flat2 (l : List Int) : l.flatMap intC = l.map it := by
  induction l with
  | nil => rfl
  | cons x l ih => rw [List.flatMap_cons, ih]; rfl
theorem ints_sl {D : Imm} {b : Nat} (l : List Int) (h : D b = some (.cells (List.toArray (l.map it)) 3 (0, 0))) : SlL D 1 (l.map intC) (some ⟨b, 0, none⟩) l.length :=
  SlL.ofBlock (f := intC) (l := l) (rest := []) (t := 3) (fz := (0, 0)) intC_len (by rw [List.append_nil, int_flat2]; exact h)
theorem nats_sl {D : Imm} {b : Nat} (l : List Nat) (h : D b = some (.cells (List.toArray (l.map nt)) 3 (0, 0))) : SlL D 1 (l.map natC) (some ⟨b, 0, none⟩) l.length :=
  SlL.ofBlock (f := natC) (l := l) (rest := []) natC_len (by rw [List.append_nil, flat_nt]; exact h)

set_option maxRecDepth 100000 in
set_option maxHeartbeats 1000000 in
theorem alive_g (D : Imm) (w : World) (hH : Holds D w) : Gives Try.prog 8 [] w (.bool true) := by
  unfold Gives
  refine enter Try.func8 rfl 146 Try.ntmps8 (Nat.le_of_ble_eq_true rfl) (Inv.start hH) ?_
  refine WC.seq ?_
  refine WC.ofFr [] trivial ?_
  refine WC.region ?_
  refine WL.yd (Yd.assign rfl) rfl ?_
  refine WL.nil ?_
  refine WP.thenC ?_
  refine WC.seq ?_
  refine WC.ofFr [(0, _)] ⟨rfl, trivial⟩ ?_
  refine WC.region ?_
  refine WL.so (SO.makes (Enters.func Try.call13 rfl) (fun w hI => sample_g 40 (by omega) _ w hI.imm)) rfl ?_
  rintro _ D1 _ ⟨hX1, ⟨a1_1, c1_1, rfl, hR1⟩, rfl⟩
  refine WL.so (SO.callP Try.call20 rfl (fun w hI => Gives.cv (.tuple #[it 36, it 0]) (Takings_g (sampX 40) a1_1 _ c1_1 _ _ hR1 hI.imm) (by rw [al1]; first | done | rfl))) rfl ?_
  rintro _ _ _ ⟨rfl, rfl, rfl⟩
  refine WL.yd (Yd.move rfl) rfl ?_
  refine WL.yd (Yd.extract rfl rfl) rfl ?_
  refine WL.yd (Yd.extract rfl rfl) rfl ?_
  refine WL.yd (Yd.assign rfl) rfl ?_
  refine WL.yd (Yd.assign rfl) rfl ?_
  refine WL.nil ?_
  refine WP.thenC ?_
  refine WC.seq ?_
  refine WC.ofFr [(2, _), (1, _), (0, _)] ⟨rfl, rfl, rfl, trivial⟩ ?_
  refine WC.region ?_
  refine WL.so (SO.makes (Enters.func Try.call13 rfl) (fun w hI => sample_g 40 (by omega) _ w hI.imm)) rfl ?_
  rintro _ D2 _ ⟨hX2, ⟨a1_2, c1_2, rfl, hR2⟩, rfl⟩
  refine WL.so (SO.callP Try.call12 rfl (fun w hI => Gives.cv (.tuple #[.agg #[it 5, it 5], it 0]) (Fine_g (sampX 40) a1_2 _ c1_2 _ _ hR2 hI.imm 1) (by rw [al2]; first | done | rfl))) rfl ?_
  rintro _ _ _ ⟨rfl, rfl, rfl⟩
  refine WL.yd (Yd.move rfl) rfl ?_
  refine WL.yd (Yd.extract rfl rfl) rfl ?_
  refine WL.yd (Yd.extract rfl rfl) rfl ?_
  refine WL.so (SO.alloc Try.zeroValue30 rfl) rfl ?_
  rintro _ _ _ ⟨b3, hb3, rfl, rfl, rfl⟩ -- NEW
  refine WL.so (SO.store 0 rfl Try.sizeOf30 rfl rfl rfl rfl (Nat.le_of_ble_eq_true rfl) (oneB_spec rfl)) rfl ?_
  rintro _ _ _ ⟨rfl, rfl, rfl⟩
  refine WL.yd (Yd.assign rfl) rfl ?_
  refine WL.nil ?_
  refine WP.thenC ?_
  refine WC.seq ?_
  refine WC.ofFr [(4, _), (3, _), (2, _), (1, _), (0, _)] ⟨rfl, rfl, rfl, rfl, rfl, trivial⟩ ?_
  refine WC.region ?_
  refine WL.so (SO.makes (Enters.func Try.call13 rfl) (fun w hI => sample_g 40 (by omega) _ w hI.imm)) rfl ?_
  rintro _ D3 _ ⟨hX3, ⟨a1_3, c1_3, rfl, hR3⟩, rfl⟩
  refine WL.so (SO.callP Try.call19 rfl (fun w hI => Gives.cv (.tuple #[.agg #[it 5, it 5], it 0]) (Fines_g (sampX 40) a1_3 _ c1_3 _ _ hR3 hI.imm) (by rw [al3]; first | done | rfl))) rfl ?_
  rintro _ _ _ ⟨rfl, rfl, rfl⟩
  refine WL.yd (Yd.move rfl) rfl ?_
  refine WL.yd (Yd.extract rfl rfl) rfl ?_
  refine WL.yd (Yd.extract rfl rfl) rfl ?_
  refine WL.so (SO.alloc Try.zeroValue30 rfl) rfl ?_
  rintro _ _ _ ⟨b5, hb5, rfl, rfl, rfl⟩ -- NEW
  refine WL.so (SO.store 0 rfl Try.sizeOf30 rfl rfl rfl rfl (Nat.le_of_ble_eq_true rfl) (oneB_spec rfl)) rfl ?_
  rintro _ _ _ ⟨rfl, rfl, rfl⟩
  refine WL.yd (Yd.assign rfl) rfl ?_
  refine WL.nil ?_
  refine WP.thenC ?_
  refine WC.seq ?_
  refine WC.ofFr [(6, _), (5, _), (4, _), (3, _), (2, _), (1, _), (0, _)] ⟨rfl, rfl, rfl, rfl, rfl, rfl, rfl, trivial⟩ ?_
  refine WC.region ?_
  refine WL.so (SO.makes (Enters.func Try.call13 rfl) (fun w hI => sample_g 40 (by omega) _ w hI.imm)) rfl ?_
  rintro _ D4 _ ⟨hX4, ⟨a1_4, c1_4, rfl, hR4⟩, rfl⟩
  refine WL.so (SO.callP Try.call14 rfl (fun w hI => Gives.cv (.tuple #[.agg #[it 6, it 6], it 0]) (Back_g (sampX 40) a1_4 _ c1_4 _ _ hR4 hI.imm 2) (by rw [al4]; first | done | rfl))) rfl ?_
  rintro _ _ _ ⟨rfl, rfl, rfl⟩
  refine WL.yd (Yd.move rfl) rfl ?_
  refine WL.yd (Yd.extract rfl rfl) rfl ?_
  refine WL.yd (Yd.extract rfl rfl) rfl ?_
  refine WL.so (SO.alloc Try.zeroValue30 rfl) rfl ?_
  rintro _ _ _ ⟨b7, hb7, rfl, rfl, rfl⟩ -- NEW
  refine WL.so (SO.store 0 rfl Try.sizeOf30 rfl rfl rfl rfl (Nat.le_of_ble_eq_true rfl) (oneB_spec rfl)) rfl ?_
  rintro _ _ _ ⟨rfl, rfl, rfl⟩
  refine WL.yd (Yd.assign rfl) rfl ?_
  refine WL.nil ?_
  refine WP.thenC ?_
  refine WC.seq ?_
  refine WC.ofFr [(8, _), (7, _), (6, _), (5, _), (4, _), (3, _), (2, _), (1, _), (0, _)] ⟨rfl, rfl, rfl, rfl, rfl, rfl, rfl, rfl, rfl, trivial⟩ ?_
  refine WC.region ?_
  refine WL.so (SO.makes (Enters.func Try.call13 rfl) (fun w hI => sample_g 40 (by omega) _ w hI.imm)) rfl ?_
  rintro _ D5 _ ⟨hX5, ⟨a1_5, c1_5, rfl, hR5⟩, rfl⟩
  refine WL.so (SO.callP Try.call17 rfl (fun w hI => lent_g _ _ _ _)) rfl ?_
  rintro _ _ _ ⟨rfl, rfl, rfl⟩
  refine WL.so (SO.buildSlice Try.underlying41 Try.sizeOf44 Try.zeroValue44 rfl rfl rfl rfl (cs := [_, _, _]) rfl) rfl ?_
  rintro _ _ _ ⟨b43, hb43, rfl, rfl, rfl⟩ -- NEW
  refine WL.freezeN 0 b43 (.cells (List.toArray (entC ⟨1, 1, 12⟩)) 44 (0, 0)) rfl rfl hb43 (fun DF6 hXF6 h43 => ?_)
  replace hR5 := hR5.ext hXF6
  refine WL.so (SO.makes (Enters.func Try.call16 rfl) (fun w hI => book_g [⟨1, 1, 12⟩] (some ⟨b43, 0, none⟩) 1 _ _ w (one_ent ⟨1, 1, 12⟩ h43) (fun h => by cases h) (by decide) hI.imm)) rfl ?_
  rintro _ D6 _ ⟨hX6, ⟨a2_6, c2_6, rfl, hB6⟩, rfl⟩
  replace hR5 := hR5.ext hX6
  refine WL.so (SO.callP Try.call15 rfl (fun w hI => Gives.cv (.tuple #[it 4, it 1, it 0]) (Check_g (sampX 40) a1_5 _ c1_5 _ _ hR5 hI.imm (bookL [⟨1, 1, 12⟩]) a2_6 _ c2_6 hB6) (by rw [al5]; first | done | rfl))) rfl ?_
  rintro _ _ _ ⟨rfl, rfl, rfl⟩
  refine WL.yd (Yd.move rfl) rfl ?_
  refine WL.yd (Yd.extract rfl rfl) rfl ?_
  refine WL.yd (Yd.extract rfl rfl) rfl ?_
  refine WL.yd (Yd.extract rfl rfl) rfl ?_
  refine WL.yd (Yd.assign rfl) rfl ?_
  refine WL.yd (Yd.assign rfl) rfl ?_
  refine WL.yd (Yd.assign rfl) rfl ?_
  refine WL.nil ?_
  refine WP.thenC ?_
  refine WC.seq ?_
  refine WC.ofFr [(11, _), (10, _), (9, _), (8, _), (7, _), (6, _), (5, _), (4, _), (3, _), (2, _), (1, _), (0, _)] ⟨rfl, rfl, rfl, rfl, rfl, rfl, rfl, rfl, rfl, rfl, rfl, rfl, trivial⟩ ?_
  refine WC.region ?_
  refine WL.so (SO.makes (Enters.func Try.call13 rfl) (fun w hI => sample_g 40 (by omega) _ w hI.imm)) rfl ?_
  rintro _ D7 _ ⟨hX7, ⟨a1_7, c1_7, rfl, hR7⟩, rfl⟩
  refine WL.so (SO.makes (Enters.func Try.call16 rfl) (fun w hI => book_g [] none 0 0 _ w (nil_ent _) (fun _ => rfl) (by decide) hI.imm)) rfl ?_
  rintro _ D8 _ ⟨hX8, ⟨a2_8, c2_8, rfl, hB8⟩, rfl⟩
  replace hR7 := hR7.ext hX8
  refine WL.so (SO.callP Try.call25 rfl (fun w hI => Gives.cv (.tuple #[it 4, it 0, it 1, it 0]) (Missing_g (sampX 40) a1_7 _ c1_7 _ _ hR7 hI.imm (bookL []) a2_8 _ c2_8 hB8) (by rw [al6]; first | done | rfl))) rfl ?_
  rintro _ _ _ ⟨rfl, rfl, rfl⟩
  refine WL.yd (Yd.move rfl) rfl ?_
  refine WL.yd (Yd.extract rfl rfl) rfl ?_
  refine WL.yd (Yd.extract rfl rfl) rfl ?_
  refine WL.yd (Yd.extract rfl rfl) rfl ?_
  refine WL.yd (Yd.extract rfl rfl) rfl ?_
  refine WL.yd (Yd.assign rfl) rfl ?_
  refine WL.yd (Yd.assign rfl) rfl ?_
  refine WL.yd (Yd.assign rfl) rfl ?_
  refine WL.yd (Yd.assign rfl) rfl ?_
  refine WL.nil ?_
  refine WP.thenC ?_
  refine WC.seq ?_
  refine WC.ofFr [(15, _), (14, _), (13, _), (12, _), (11, _), (10, _), (9, _), (8, _), (7, _), (6, _), (5, _), (4, _), (3, _), (2, _), (1, _), (0, _)] ⟨rfl, rfl, rfl, rfl, rfl, rfl, rfl, rfl, rfl, rfl, rfl, rfl, rfl, rfl, rfl, rfl, trivial⟩ ?_
  refine WC.region ?_
  refine WL.so (SO.makes (Enters.func Try.call13 rfl) (fun w hI => sample_g 40 (by omega) _ w hI.imm)) rfl ?_
  rintro _ D9 _ ⟨hX9, ⟨a1_9, c1_9, rfl, hR9⟩, rfl⟩
  refine WL.so (SO.makes (Enters.func Try.call16 rfl) (fun w hI => book_g [] none 0 0 _ w (nil_ent _) (fun _ => rfl) (by decide) hI.imm)) rfl ?_
  rintro _ D10 _ ⟨hX10, ⟨a2_10, c2_10, rfl, hB10⟩, rfl⟩
  replace hR9 := hR9.ext hX10
  refine WL.so (SO.callP Try.call18 rfl (fun w hI => Gives.cv (.tuple #[it 23, it 0]) (Sum_g (sampX 40) a1_9 _ c1_9 _ _ hR9 hI.imm (bookL []) a2_10 _ c2_10 hB10) (by rw [al7]; first | done | rfl))) rfl ?_
  rintro _ _ _ ⟨rfl, rfl, rfl⟩
  refine WL.yd (Yd.move rfl) rfl ?_
  refine WL.yd (Yd.extract rfl rfl) rfl ?_
  refine WL.yd (Yd.extract rfl rfl) rfl ?_
  refine WL.yd (Yd.assign rfl) rfl ?_
  refine WL.yd (Yd.assign rfl) rfl ?_
  refine WL.nil ?_
  refine WP.thenC ?_
  refine WC.seq ?_
  refine WC.ofFr [(17, _), (16, _), (15, _), (14, _), (13, _), (12, _), (11, _), (10, _), (9, _), (8, _), (7, _), (6, _), (5, _), (4, _), (3, _), (2, _), (1, _), (0, _)] ⟨rfl, rfl, rfl, rfl, rfl, rfl, rfl, rfl, rfl, rfl, rfl, rfl, rfl, rfl, rfl, rfl, rfl, rfl, trivial⟩ ?_
  refine WC.region ?_
  refine WL.so (SO.buildSlice Try.underlying22 Try.sizeOf3 Try.zeroValue3 rfl rfl rfl rfl (cs := [_, _, _]) rfl) rfl ?_
  rintro _ _ _ ⟨b64, hb64, rfl, rfl, rfl⟩ -- NEW
  refine WL.freezeN 0 b64 (.cells (List.toArray (([5, 3, 1] : List Nat).map nt)) 3 (0, 0)) rfl rfl hb64 (fun DFS hXFS h64 => ?_)
  
  refine WL.so (SO.makes (Enters.func Try.call9 rfl) (fun w hI => Split_ok 10 (by decide) [5, 3, 1] (by decide) (by decide) (some ⟨b64, 0, none⟩) 3 _ (nats_sl [5, 3, 1] h64) w hI.imm)) rfl ?_
  rintro _ DS _ ⟨hXS, ⟨a_S, c_S, rfl, hSS⟩, rfl⟩
  refine WL.yd (Yd.move rfl) rfl ?_
  refine WL.yd (Yd.extract rfl rfl) rfl ?_
  refine WL.yd (Yd.extract rfl rfl) rfl ?_
  refine WL.yd (Yd.assign rfl) rfl ?_
  refine WL.yd (Yd.assign rfl) rfl ?_
  refine WL.nil ?_
  refine WP.thenC ?_
  refine WC.seq ?_
  refine WC.ofFr [(19, _), (18, _), (17, _), (16, _), (15, _), (14, _), (13, _), (12, _), (11, _), (10, _), (9, _), (8, _), (7, _), (6, _), (5, _), (4, _), (3, _), (2, _), (1, _), (0, _)] ⟨rfl, rfl, rfl, rfl, rfl, rfl, rfl, rfl, rfl, rfl, rfl, rfl, rfl, rfl, rfl, rfl, rfl, rfl, rfl, rfl, trivial⟩ ?_
  refine WC.draw [(0, true), (1, true), (2, true), (3, true), (4, true), (5, true), (6, true), (7, true), (8, false), (9, true), (10, true), (11, true), (12, true), (13, true), (14, true), (15, true), (16, true), (17, false), (18, true), (19, true), (20, true), (21, true), (22, true), (23, true), (24, true), (25, true), (26, false), (27, true), (28, true), (29, true), (30, true), (31, true), (32, true), (33, true), (34, true), (35, true), (36, true), (37, true), (38, true), (39, true), (40, true), (41, true), (42, true), (43, true), (44, true), (45, true), (46, true), (47, true), (48, true), (49, true), (50, true), (51, true), (52, true), (53, true), (54, true), (55, true), (56, true), (57, true), (58, true), (59, true), (60, true), (61, true), (62, true), (63, true), (64, true), (65, true), (66, true), (67, true), (68, true), (69, true), (70, true), (71, false), (72, false), (73, true), (74, true), (75, true), (76, true), (77, true), (78, true)] (by kernel_rfl) (by kernel_rfl) (QuietPanic.then QuietPanic.body) ?_
  refine WA.yd rfl (Yd.move rfl) rfl ?_
  refine WA.yd rfl (Yd.eql rfl rfl) rfl ?_
  refine WA.know 69 (.bool true) rfl (congrArg Value.bool (by decide)) ?_
  refine WA.yd rfl (Yd.move rfl) rfl ?_
  refine WA.ydg rfl rfl (Yd.move rfl) rfl ?_
  refine WA.ydg rfl rfl (Yd.eql rfl rfl) rfl ?_
  refine WA.know 72 (.bool true) rfl (congrArg Value.bool (by decide)) ?_
  refine WA.yd rfl (Yd.pickT rfl rfl) rfl ?_
  refine WA.yd rfl (Yd.move rfl) rfl ?_
  refine WA.ydg rfl rfl (Yd.loadN Try.isAgg30 Try.sizeOf30 rfl (vs := [_, _]) rfl (by first | exact RdN.own (k := 0) (n := 2) rfl rfl | exact RdN.own (k := 1) (n := 2) rfl rfl | exact RdN.own (k := 2) (n := 2) rfl rfl)) rfl ?_
  refine WA.sog rfl rfl (SO.callP Try.call21 rfl (fun w hI => lspan_g _ _ _)) rfl ?_
  rintro _ _ _ ⟨rfl, rfl, rfl⟩
  refine ⟨fun _ hI => hI, ?_⟩
  refine WA.ydg rfl rfl (Yd.eqS Try.eqGuardType30 (eqSp _ _ _ _) rfl rfl) rfl ?_
  refine WA.know 77 (.bool true) rfl (congrArg Value.bool (decide_eq_true rfl)) ?_
  refine WA.yd rfl (Yd.pickT rfl rfl) rfl ?_
  refine WA.yd rfl (Yd.move rfl) rfl ?_
  refine WA.ydg rfl rfl (Yd.move rfl) rfl ?_
  refine WA.ydg rfl rfl (Yd.eql rfl rfl) rfl ?_
  refine WA.know 81 (.bool true) rfl (congrArg Value.bool (by decide)) ?_
  refine WA.yd rfl (Yd.pickT rfl rfl) rfl ?_
  refine WA.yd rfl (Yd.move rfl) rfl ?_
  refine WA.ydg rfl rfl (Yd.loadN Try.isAgg30 Try.sizeOf30 rfl (vs := [_, _]) rfl (by first | exact RdN.own (k := 0) (n := 2) rfl rfl | exact RdN.own (k := 1) (n := 2) rfl rfl | exact RdN.own (k := 2) (n := 2) rfl rfl)) rfl ?_
  refine WA.sog rfl rfl (SO.callP Try.call21 rfl (fun w hI => lspan_g _ _ _)) rfl ?_
  rintro _ _ _ ⟨rfl, rfl, rfl⟩
  refine ⟨fun _ hI => hI, ?_⟩
  refine WA.ydg rfl rfl (Yd.eqS Try.eqGuardType30 (eqSp _ _ _ _) rfl rfl) rfl ?_
  refine WA.know 86 (.bool true) rfl (congrArg Value.bool (decide_eq_true rfl)) ?_
  refine WA.yd rfl (Yd.pickT rfl rfl) rfl ?_
  refine WA.yd rfl (Yd.move rfl) rfl ?_
  refine WA.ydg rfl rfl (Yd.move rfl) rfl ?_
  refine WA.ydg rfl rfl (Yd.eql rfl rfl) rfl ?_
  refine WA.know 90 (.bool true) rfl (congrArg Value.bool (by decide)) ?_
  refine WA.yd rfl (Yd.pickT rfl rfl) rfl ?_
  refine WA.yd rfl (Yd.move rfl) rfl ?_
  refine WA.ydg rfl rfl (Yd.loadN Try.isAgg30 Try.sizeOf30 rfl (vs := [_, _]) rfl (by first | exact RdN.own (k := 0) (n := 2) rfl rfl | exact RdN.own (k := 1) (n := 2) rfl rfl | exact RdN.own (k := 2) (n := 2) rfl rfl)) rfl ?_
  refine WA.sog rfl rfl (SO.callP Try.call21 rfl (fun w hI => lspan_g _ _ _)) rfl ?_
  rintro _ _ _ ⟨rfl, rfl, rfl⟩
  refine ⟨fun _ hI => hI, ?_⟩
  refine WA.ydg rfl rfl (Yd.eqS Try.eqGuardType30 (eqSp _ _ _ _) rfl rfl) rfl ?_
  refine WA.know 95 (.bool true) rfl (congrArg Value.bool (decide_eq_true rfl)) ?_
  refine WA.yd rfl (Yd.pickT rfl rfl) rfl ?_
  refine WA.yd rfl (Yd.move rfl) rfl ?_
  refine WA.ydg rfl rfl (Yd.move rfl) rfl ?_
  refine WA.ydg rfl rfl (Yd.eql rfl rfl) rfl ?_
  refine WA.know 99 (.bool true) rfl (congrArg Value.bool (by decide)) ?_
  refine WA.yd rfl (Yd.pickT rfl rfl) rfl ?_
  refine WA.yd rfl (Yd.move rfl) rfl ?_
  refine WA.ydg rfl rfl (Yd.move rfl) rfl ?_
  refine WA.ydg rfl rfl (Yd.eql rfl rfl) rfl ?_
  refine WA.know 103 (.bool true) rfl (congrArg Value.bool (by decide)) ?_
  refine WA.yd rfl (Yd.pickT rfl rfl) rfl ?_
  refine WA.yd rfl (Yd.move rfl) rfl ?_
  refine WA.ydg rfl rfl (Yd.move rfl) rfl ?_
  refine WA.ydg rfl rfl (Yd.eql rfl rfl) rfl ?_
  refine WA.know 107 (.bool true) rfl (congrArg Value.bool (by decide)) ?_
  refine WA.yd rfl (Yd.pickT rfl rfl) rfl ?_
  refine WA.yd rfl (Yd.move rfl) rfl ?_
  refine WA.ydg rfl rfl (Yd.move rfl) rfl ?_
  refine WA.ydg rfl rfl (Yd.eql rfl rfl) rfl ?_
  refine WA.know 111 (.bool true) rfl (congrArg Value.bool (by decide)) ?_
  refine WA.yd rfl (Yd.pickT rfl rfl) rfl ?_
  refine WA.yd rfl (Yd.move rfl) rfl ?_
  refine WA.ydg rfl rfl (Yd.move rfl) rfl ?_
  refine WA.ydg rfl rfl (Yd.eql rfl rfl) rfl ?_
  refine WA.know 115 (.bool true) rfl (congrArg Value.bool (by decide)) ?_
  refine WA.yd rfl (Yd.pickT rfl rfl) rfl ?_
  refine WA.yd rfl (Yd.move rfl) rfl ?_
  refine WA.ydg rfl rfl (Yd.move rfl) rfl ?_
  refine WA.ydg rfl rfl (Yd.eql rfl rfl) rfl ?_
  refine WA.know 119 (.bool true) rfl (congrArg Value.bool (by decide)) ?_
  refine WA.yd rfl (Yd.pickT rfl rfl) rfl ?_
  refine WA.yd rfl (Yd.move rfl) rfl ?_
  refine WA.ydg rfl rfl (Yd.move rfl) rfl ?_
  refine WA.ydg rfl rfl (Yd.eql rfl rfl) rfl ?_
  refine WA.know 123 (.bool true) rfl (congrArg Value.bool (by decide)) ?_
  refine WA.yd rfl (Yd.pickT rfl rfl) rfl ?_
  refine WA.yd rfl (Yd.move rfl) rfl ?_
  refine WA.ydg rfl rfl (Yd.move rfl) rfl ?_
  refine WA.ydg rfl rfl (Yd.eql rfl rfl) rfl ?_
  refine WA.know 127 (.bool true) rfl (congrArg Value.bool (by decide)) ?_
  refine WA.yd rfl (Yd.pickT rfl rfl) rfl ?_
  refine WA.yd rfl (Yd.move rfl) rfl ?_
  refine WA.ydg rfl rfl (Yd.move rfl) rfl ?_
  refine WA.ydg rfl rfl (Yd.eql rfl rfl) rfl ?_
  refine WA.know 131 (.bool true) rfl (congrArg Value.bool (by decide)) ?_
  refine WA.yd rfl (Yd.pickT rfl rfl) rfl ?_
  refine WA.yd rfl (Yd.move rfl) rfl ?_
  refine WA.ydg rfl rfl (Yd.move rfl) rfl ?_
  refine WA.ydg rfl rfl (Yd.eql rfl rfl) rfl ?_
  refine WA.know 135 (.bool true) rfl (congrArg Value.bool (by decide)) ?_
  refine WA.yd rfl (Yd.pickT rfl rfl) rfl ?_
  refine WA.yd rfl (Yd.move rfl) rfl ?_
  refine WA.ydg rfl rfl (Yd.move rfl) rfl ?_
  refine WA.sog rfl rfl (SO.buildSlice Try.underlying22 Try.sizeOf3 Try.zeroValue3 rfl rfl rfl rfl (cs := [_, _, _]) rfl) rfl ?_
  rintro _ _ _ ⟨b139, hb139, rfl, rfl, rfl⟩ -- NEW
  refine ⟨fun _ hI => hI.tail, ?_⟩
  refine WA.freezeN 0 b139 (.cells (List.toArray (([6, 3, 1] : List Int).map it)) 3 (0, 0)) rfl rfl hb139 (fun D139 hX139 h139 => ?_)
  replace hSS := hSS.ext hX139
  refine WA.sog rfl rfl (SO.callP Try.call11 rfl (fun w hI => Gives.cv (.bool true) (Ints_g _ [6, 3, 1] a_S (some ⟨b139, 0, none⟩) _ 3 c_S 3 _ _ (nat_int hSS) (ints_sl [6, 3, 1] h139) (by decide) (by decide) hI.imm) (by rw [al8]; first | done | rfl))) rfl ?_
  rintro _ _ _ ⟨rfl, rfl, rfl⟩
  refine ⟨fun _ hI => hI.shrink hX139.old, ?_⟩
  refine WA.know 140 (.bool true) rfl rfl ?_
  refine WA.yd rfl (Yd.pickT rfl rfl) rfl ?_
  refine WA.yd rfl (Yd.move rfl) rfl ?_
  refine WA.ydg rfl rfl (Yd.move rfl) rfl ?_
  refine WA.ydg rfl rfl (Yd.eql rfl rfl) rfl ?_
  refine WA.know 144 (.bool true) rfl (congrArg Value.bool (by decide)) ?_
  refine WA.yd rfl (Yd.pickT rfl rfl) rfl ?_
  refine WA.yd rfl (Yd.assign rfl) rfl ?_
  refine WA.nil ?_
  refine WP.thenC ?_
  refine WC.ret ?_
  refine WP.ret1 rfl rfl Try.results8 (RV.tmp rfl) (fun w hI => ⟨rfl, hI.keep⟩)

end Go.Proofs.Ytpnbkdlejfmbeaa
