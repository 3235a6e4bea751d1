import Derived.Test.YtpnbkdlejfmbeaaXF
import Derived.Test.YtpnbkdlejfmbeaaXT
import Derived.Test.YtpnbkdlejfmbeaaXV
set_option linter.unusedSimpArgs false
set_option linter.unusedVariables false
set_option linter.all false
namespace Go.Proofs.Ytpnbkdlejfmbeaa
open Go.W Go.Ti
theorem SA116 : StructAt Try.prog 116 [.int .i64 0, .int .i64 0] [(0, 1), (1, 1)] := ⟨⟨_, Try.zeroValue116, rfl⟩, _, Try.underlying116, fun w => by simp [Try.sizeOf3]⟩
theorem SA118 : StructAt Try.prog 118 [.int .i64 0, .int .i64 0] [(0, 2)] := ⟨⟨_, Try.zeroValue118, rfl⟩, _, Try.underlying118, fun w => by simp [Try.sizeOf116]⟩
theorem isT_nat {T : Tks} {n : Int} (h : isT T n = true) : ∃ a : Nat, n = (a : Int) ∧ a < T.l.length := by
  have := of_decide_eq_true h
  exact ⟨n.toNat, by omega, by omega⟩

set_option maxRecDepth 100000 in
set_option maxHeartbeats 1000000 in
theorem Turn_1 (T : Tks) (a1 : Option Addr) (n1 c1 : Nat) (D : Imm) (w : World) (hR : TksR D T a1 n1) (hH : Holds D w) (n : Int) (hv : tksB T = false) : Gives Try.prog 29 [.agg #[it T.huts, .slice a1 n1 c1], it n] w (.tuple #[it (TurnOut T n).1, it (TurnOut T n).2]) := by
  unfold Gives
  obtain rfl := hR.tick.len'
  have hl1 := hR.len
  have hE : tksE T (isT T n) = 1 := by
    unfold tksE
    rw [if_pos hv]
  have hO0 : TurnOut T n = (0, 1) := by unfold TurnOut; rw [if_pos (by rw [hE]; simp), hE]
  refine enterD Try.func29 rfl 18 Try.ntmps29 (Nat.le_of_ble_eq_true rfl) (Inv.start hH) ?_
  refine WC.seq ?_
  refine WC.ofFr [(0, _), (1, _)] ⟨rfl, rfl, trivial⟩ ?_
  refine WC.region ?_
  refine WL.so (SO.box rfl rfl) rfl ?_
  rintro _ _ _ ⟨b2, hb2, rfl, rfl, rfl⟩ -- NEW
  refine WL.yd (Yd.assign rfl) rfl ?_
  refine WL.so (SO.alloc Try.zeroValue24 rfl) rfl ?_
  rintro _ _ _ ⟨b5, hb5, rfl, rfl, rfl⟩ -- NEW
  refine WL.nil ?_
  refine WP.thenC ?_
  refine WC.seq ?_
  refine WC.ofFr [(5, _), (4, _), (2, _), (1, _)] ⟨rfl, rfl, rfl, rfl, trivial⟩ ?_
  refine WC.region ?_
  refine WL.yd (Yd.func rfl rfl) rfl ?_
  refine WL.defer rfl ?_
  refine WL.nil ?_
  refine WP.thenC ?_
  refine WC.seq ?_
  refine WC.ofFr [(5, _), (4, _), (2, _), (1, _)] ⟨rfl, rfl, rfl, rfl, trivial⟩ ?_
  refine WC.drawH [(b2, boxT T (.slice a1 T.l.length c1))] (by kernel_rfl) (fun _ hI => hI.tail) ?_
  refine WH.ydD (i := 0) (by kernel_rfl) (QuietAt.then (QuietAt.bodyD (by kernel_rfl))) rfl (Yd.loadN Try.isAgg35 Try.sizeOf35 rfl (vs := [_, _]) rfl (by first | exact RdN.own (k := 0) (n := 2) rfl rfl | exact RdN.own (k := 1) (n := 2) rfl rfl)) rfl ?_
  refine WH.ydD (i := 1) (by kernel_rfl) (QuietAt.then (QuietAt.bodyD (by kernel_rfl))) rfl (Yd.loadN Try.isAgg35 Try.sizeOf35 rfl (vs := [_, _]) rfl (by first | exact RdN.own (k := 0) (n := 2) rfl rfl | exact RdN.own (k := 1) (n := 2) rfl rfl)) rfl ?_
  refine WH.ydD (i := 2) (by kernel_rfl) (QuietAt.then (QuietAt.bodyD (by kernel_rfl))) rfl (Yd.move rfl) rfl ?_
  refine WH.ydD (i := 5) (by kernel_rfl) (QuietAt.then (QuietAt.bodyD (by kernel_rfl))) rfl (Yd.move rfl) rfl ?_
  refine WH.ydD (i := 6) (by kernel_rfl) (QuietAt.then (QuietAt.bodyD (by kernel_rfl))) rfl (Yd.build SA116 rfl (cs := [_, _]) rfl) rfl ?_
  refine WH.ydD (i := 7) (by kernel_rfl) (QuietAt.then (QuietAt.bodyD (by kernel_rfl))) rfl (Yd.build SA118 rfl (cs := [_, _]) rfl) rfl ?_
  refine WH.ydD (i := 8) (by kernel_rfl) (QuietAt.then (QuietAt.bodyD (by kernel_rfl))) rfl (Yd.iface Try.underlying118 (by intro _ h; cases h) rfl) rfl ?_
  refine WH.one (i := 3) (by kernel_rfl) (WHo.so rfl (SO.callP Try.call68 rfl (fun w hI => isTick_g T a1 _ c1 n _ rfl hl1)) rfl ?_)
  rintro _ _ _ ⟨rfl, rfl, rfl⟩
  refine ⟨(fun _ hI => hI.tail), ?_⟩
  refine WH.one (i := 4) (by kernel_rfl) (WHo.no rfl (SO.fail (Enters.func Try.call64 rfl) (fun w hI => open_1 T a1 _ c1 D _ hR hI.imm (isT T n) hv) ?_))
  refine WP.thenPanic ?_
  refine WP.panicD (k := 0) [_, _] [_, _] rfl Try.call67 rfl (fun w hI => catch67 _ _ _ _ _ (hI.own _ _ (List.mem_of_getElem? (i := 0) rfl))) Try.results29 ⟨(RV.tmp rfl), (RV.cell1 Try.isAgg24 rfl (by first | exact Rd.own (k := 0) rfl rfl | exact Rd.own (k := 1) rfl rfl)), trivial⟩ (fun w hI => ⟨congrArg Ending.returned (by rw [hO0]; rfl), hI.keep⟩)

set_option maxRecDepth 100000 in
set_option maxHeartbeats 1000000 in
theorem Turn_2 (T : Tks) (a1 : Option Addr) (n1 c1 : Nat) (D : Imm) (w : World) (hR : TksR D T a1 n1) (hH : Holds D w) (n : Int) (hv : tksB T = true) (hw : isT T n = false) : Gives Try.prog 29 [.agg #[it T.huts, .slice a1 n1 c1], it n] w (.tuple #[it (TurnOut T n).1, it (TurnOut T n).2]) := by
  unfold Gives
  obtain rfl := hR.tick.len'
  have hl1 := hR.len
  have hE : tksE T (isT T n) = 2 := by
    unfold tksE
    rw [if_neg (by rw [hv]; simp), if_pos hw]
  have hO0 : TurnOut T n = (0, 2) := by unfold TurnOut; rw [if_pos (by rw [hE]; simp), hE]
  refine enterD Try.func29 rfl 18 Try.ntmps29 (Nat.le_of_ble_eq_true rfl) (Inv.start hH) ?_
  refine WC.seq ?_
  refine WC.ofFr [(0, _), (1, _)] ⟨rfl, rfl, trivial⟩ ?_
  refine WC.region ?_
  refine WL.so (SO.box rfl rfl) rfl ?_
  rintro _ _ _ ⟨b2, hb2, rfl, rfl, rfl⟩ -- NEW
  refine WL.yd (Yd.assign rfl) rfl ?_
  refine WL.so (SO.alloc Try.zeroValue24 rfl) rfl ?_
  rintro _ _ _ ⟨b5, hb5, rfl, rfl, rfl⟩ -- NEW
  refine WL.nil ?_
  refine WP.thenC ?_
  refine WC.seq ?_
  refine WC.ofFr [(5, _), (4, _), (2, _), (1, _)] ⟨rfl, rfl, rfl, rfl, trivial⟩ ?_
  refine WC.region ?_
  refine WL.yd (Yd.func rfl rfl) rfl ?_
  refine WL.defer rfl ?_
  refine WL.nil ?_
  refine WP.thenC ?_
  refine WC.seq ?_
  refine WC.ofFr [(5, _), (4, _), (2, _), (1, _)] ⟨rfl, rfl, rfl, rfl, trivial⟩ ?_
  refine WC.drawH [(b2, boxT T (.slice a1 T.l.length c1))] (by kernel_rfl) (fun _ hI => hI.tail) ?_
  refine WH.ydD (i := 0) (by kernel_rfl) (QuietAt.then (QuietAt.bodyD (by kernel_rfl))) rfl (Yd.loadN Try.isAgg35 Try.sizeOf35 rfl (vs := [_, _]) rfl (by first | exact RdN.own (k := 0) (n := 2) rfl rfl | exact RdN.own (k := 1) (n := 2) rfl rfl)) rfl ?_
  refine WH.ydD (i := 1) (by kernel_rfl) (QuietAt.then (QuietAt.bodyD (by kernel_rfl))) rfl (Yd.loadN Try.isAgg35 Try.sizeOf35 rfl (vs := [_, _]) rfl (by first | exact RdN.own (k := 0) (n := 2) rfl rfl | exact RdN.own (k := 1) (n := 2) rfl rfl)) rfl ?_
  refine WH.ydD (i := 2) (by kernel_rfl) (QuietAt.then (QuietAt.bodyD (by kernel_rfl))) rfl (Yd.move rfl) rfl ?_
  refine WH.ydD (i := 5) (by kernel_rfl) (QuietAt.then (QuietAt.bodyD (by kernel_rfl))) rfl (Yd.move rfl) rfl ?_
  refine WH.ydD (i := 6) (by kernel_rfl) (QuietAt.then (QuietAt.bodyD (by kernel_rfl))) rfl (Yd.build SA116 rfl (cs := [_, _]) rfl) rfl ?_
  refine WH.ydD (i := 7) (by kernel_rfl) (QuietAt.then (QuietAt.bodyD (by kernel_rfl))) rfl (Yd.build SA118 rfl (cs := [_, _]) rfl) rfl ?_
  refine WH.ydD (i := 8) (by kernel_rfl) (QuietAt.then (QuietAt.bodyD (by kernel_rfl))) rfl (Yd.iface Try.underlying118 (by intro _ h; cases h) rfl) rfl ?_
  refine WH.one (i := 3) (by kernel_rfl) (WHo.so rfl (SO.callP Try.call68 rfl (fun w hI => isTick_g T a1 _ c1 n _ rfl hl1)) rfl ?_)
  rintro _ _ _ ⟨rfl, rfl, rfl⟩
  refine ⟨(fun _ hI => hI.tail), ?_⟩
  refine WH.know 10 (.bool false) rfl (congrArg Value.bool hw) ?_
  refine WH.one (i := 4) (by kernel_rfl) (WHo.no rfl (SO.fail (Enters.func Try.call64 rfl) (fun w hI => open_2 T a1 _ c1 D _ hR hI.imm hv) ?_))
  refine WP.thenPanic ?_
  refine WP.panicD (k := 0) [_, _] [_, _] rfl Try.call67 rfl (fun w hI => catch67 _ _ _ _ _ (hI.own _ _ (List.mem_of_getElem? (i := 0) rfl))) Try.results29 ⟨(RV.tmp rfl), (RV.cell1 Try.isAgg24 rfl (by first | exact Rd.own (k := 0) rfl rfl | exact Rd.own (k := 1) rfl rfl)), trivial⟩ (fun w hI => ⟨congrArg Ending.returned (by rw [hO0]; rfl), hI.keep⟩)

set_option maxRecDepth 100000 in
set_option maxHeartbeats 1000000 in
theorem Turn_3 (T : Tks) (a1 : Option Addr) (n1 c1 : Nat) (D : Imm) (w : World) (hR : TksR D T a1 n1) (hH : Holds D w) (n : Int) (hv : tksB T = true) (hw : isT T n = true) (hne : allT T = []) : Gives Try.prog 29 [.agg #[it T.huts, .slice a1 n1 c1], it n] w (.tuple #[it (TurnOut T n).1, it (TurnOut T n).2]) := by
  unfold Gives
  obtain rfl := hR.tick.len'
  have hl1 := hR.len
  have hE : tksE T (isT T n) = 10 := by
    unfold tksE
    rw [if_neg (by rw [hv]; simp), if_neg (by rw [hw]; simp), if_pos (by rw [hne]; rfl)]
  have hO0 : TurnOut T n = (0, 10) := by unfold TurnOut; rw [if_pos (by rw [hE]; simp), hE]
  have h5 := (tks_num hv).2.1
  obtain ⟨a, rfl, han⟩ := isT_nat hw
  refine enterD Try.func29 rfl 18 Try.ntmps29 (Nat.le_of_ble_eq_true rfl) (Inv.start hH) ?_
  refine WC.seq ?_
  refine WC.ofFr [(0, _), (1, _)] ⟨rfl, rfl, trivial⟩ ?_
  refine WC.region ?_
  refine WL.so (SO.box rfl rfl) rfl ?_
  rintro _ _ _ ⟨b2, hb2, rfl, rfl, rfl⟩ -- NEW
  refine WL.yd (Yd.assign rfl) rfl ?_
  refine WL.so (SO.alloc Try.zeroValue24 rfl) rfl ?_
  rintro _ _ _ ⟨b5, hb5, rfl, rfl, rfl⟩ -- NEW
  refine WL.nil ?_
  refine WP.thenC ?_
  refine WC.seq ?_
  refine WC.ofFr [(5, _), (4, _), (2, _), (1, _)] ⟨rfl, rfl, rfl, rfl, trivial⟩ ?_
  refine WC.region ?_
  refine WL.yd (Yd.func rfl rfl) rfl ?_
  refine WL.defer rfl ?_
  refine WL.nil ?_
  refine WP.thenC ?_
  refine WC.seq ?_
  refine WC.ofFr [(5, _), (4, _), (2, _), (1, _)] ⟨rfl, rfl, rfl, rfl, trivial⟩ ?_
  refine WC.drawH [(b2, boxT T (.slice a1 T.l.length c1))] (by kernel_rfl) (fun _ hI => hI.tail) ?_
  refine WH.ydD (i := 0) (by kernel_rfl) (QuietAt.then (QuietAt.bodyD (by kernel_rfl))) rfl (Yd.loadN Try.isAgg35 Try.sizeOf35 rfl (vs := [_, _]) rfl (by first | exact RdN.own (k := 0) (n := 2) rfl rfl | exact RdN.own (k := 1) (n := 2) rfl rfl)) rfl ?_
  refine WH.ydD (i := 1) (by kernel_rfl) (QuietAt.then (QuietAt.bodyD (by kernel_rfl))) rfl (Yd.loadN Try.isAgg35 Try.sizeOf35 rfl (vs := [_, _]) rfl (by first | exact RdN.own (k := 0) (n := 2) rfl rfl | exact RdN.own (k := 1) (n := 2) rfl rfl)) rfl ?_
  refine WH.ydD (i := 2) (by kernel_rfl) (QuietAt.then (QuietAt.bodyD (by kernel_rfl))) rfl (Yd.move rfl) rfl ?_
  refine WH.ydD (i := 5) (by kernel_rfl) (QuietAt.then (QuietAt.bodyD (by kernel_rfl))) rfl (Yd.move rfl) rfl ?_
  refine WH.ydD (i := 6) (by kernel_rfl) (QuietAt.then (QuietAt.bodyD (by kernel_rfl))) rfl (Yd.build SA116 rfl (cs := [_, _]) rfl) rfl ?_
  refine WH.ydD (i := 7) (by kernel_rfl) (QuietAt.then (QuietAt.bodyD (by kernel_rfl))) rfl (Yd.build SA118 rfl (cs := [_, _]) rfl) rfl ?_
  refine WH.ydD (i := 8) (by kernel_rfl) (QuietAt.then (QuietAt.bodyD (by kernel_rfl))) rfl (Yd.iface Try.underlying118 (by intro _ h; cases h) rfl) rfl ?_
  refine WH.one (i := 3) (by kernel_rfl) (WHo.so rfl (SO.callP Try.call68 rfl (fun w hI => isTick_g T a1 _ c1 a _ rfl hl1)) rfl ?_)
  rintro _ _ _ ⟨rfl, rfl, rfl⟩
  refine ⟨(fun _ hI => hI.tail), ?_⟩
  refine WH.know 10 (.bool true) rfl (congrArg Value.bool hw) ?_
  refine WH.one (i := 4) (by kernel_rfl) (WHo.so rfl (SO.makes (Enters.func Try.call64 rfl) (fun w hI => open_ok T a1 _ c1 D _ hR hI.imm hv)) rfl ?_)
  rintro _ D2 _ ⟨hX2, ⟨bq, rfl, hO⟩, rfl⟩
  have hR2 := hR.ext hX2
  refine ⟨(fun _ hI => hI.tail.shrink hX2.old), ?_⟩
  refine WH.one (i := 9) (by kernel_rfl) (WHo.no rfl (SO.fail (Enters.func Try.call69 rfl) (fun w hI => ask_no T a1 _ c1 bq D2 _ hO hR2 hI.imm hv a (by omega) hne) ?_))
  refine WP.thenPanic ?_
  refine WP.panicD (k := 0) [_, _] [_, _] rfl Try.call67 rfl (fun w hI => catch67 _ _ _ _ _ (hI.own _ _ (List.mem_of_getElem? (i := 0) rfl))) Try.results29 ⟨(RV.tmp rfl), (RV.cell1 Try.isAgg24 rfl (by first | exact Rd.own (k := 0) rfl rfl | exact Rd.own (k := 1) rfl rfl)), trivial⟩ (fun w hI => ⟨congrArg Ending.returned (by rw [hO0]; rfl), hI.keep⟩)

set_option maxRecDepth 100000 in
set_option maxHeartbeats 1000000 in
theorem Turn_ok (T : Tks) (a1 : Option Addr) (n1 c1 : Nat) (D : Imm) (w : World) (hR : TksR D T a1 n1) (hH : Holds D w) (n : Int) (hv : tksB T = true) (hw : isT T n = true) (hne : allT T ≠ []) : Gives Try.prog 29 [.agg #[it T.huts, .slice a1 n1 c1], it n] w (.tuple #[it (TurnOut T n).1, it (TurnOut T n).2]) := by
  unfold Gives
  obtain rfl := hR.tick.len'
  have hl1 := hR.len
  have hE : tksE T (isT T n) = 0 := by
    unfold tksE
    rw [if_neg (by rw [hv]; simp), if_neg (by rw [hw]; simp), if_neg (by rw [List.isEmpty_iff]; exact hne)]
  have hO0 : TurnOut T n = (gradeI ((allT T).any fun t => turnT T.l.length t n.toNat) ((allT T).any fun t => !turnT T.l.length t n.toNat), 0) := by unfold TurnOut; rw [if_neg (by rw [hE]; simp)]
  have h5 := (tks_num hv).2.1
  obtain ⟨a, rfl, han⟩ := isT_nat hw
  refine enterD Try.func29 rfl 18 Try.ntmps29 (Nat.le_of_ble_eq_true rfl) (Inv.start hH) ?_
  refine WC.seq ?_
  refine WC.ofFr [(0, _), (1, _)] ⟨rfl, rfl, trivial⟩ ?_
  refine WC.region ?_
  refine WL.so (SO.box rfl rfl) rfl ?_
  rintro _ _ _ ⟨b2, hb2, rfl, rfl, rfl⟩ -- NEW
  refine WL.yd (Yd.assign rfl) rfl ?_
  refine WL.so (SO.alloc Try.zeroValue24 rfl) rfl ?_
  rintro _ _ _ ⟨b5, hb5, rfl, rfl, rfl⟩ -- NEW
  refine WL.nil ?_
  refine WP.thenC ?_
  refine WC.seq ?_
  refine WC.ofFr [(5, _), (4, _), (2, _), (1, _)] ⟨rfl, rfl, rfl, rfl, trivial⟩ ?_
  refine WC.region ?_
  refine WL.yd (Yd.func rfl rfl) rfl ?_
  refine WL.defer rfl ?_
  refine WL.nil ?_
  refine WP.thenC ?_
  refine WC.seq ?_
  refine WC.ofFr [(5, _), (4, _), (2, _), (1, _)] ⟨rfl, rfl, rfl, rfl, trivial⟩ ?_
  refine WC.drawH [(b2, boxT T (.slice a1 T.l.length c1))] (by kernel_rfl) (fun _ hI => hI.tail) ?_
  refine WH.ydD (i := 0) (by kernel_rfl) (QuietAt.then (QuietAt.bodyD (by kernel_rfl))) rfl (Yd.loadN Try.isAgg35 Try.sizeOf35 rfl (vs := [_, _]) rfl (by first | exact RdN.own (k := 0) (n := 2) rfl rfl | exact RdN.own (k := 1) (n := 2) rfl rfl)) rfl ?_
  refine WH.ydD (i := 1) (by kernel_rfl) (QuietAt.then (QuietAt.bodyD (by kernel_rfl))) rfl (Yd.loadN Try.isAgg35 Try.sizeOf35 rfl (vs := [_, _]) rfl (by first | exact RdN.own (k := 0) (n := 2) rfl rfl | exact RdN.own (k := 1) (n := 2) rfl rfl)) rfl ?_
  refine WH.ydD (i := 2) (by kernel_rfl) (QuietAt.then (QuietAt.bodyD (by kernel_rfl))) rfl (Yd.move rfl) rfl ?_
  refine WH.ydD (i := 5) (by kernel_rfl) (QuietAt.then (QuietAt.bodyD (by kernel_rfl))) rfl (Yd.move rfl) rfl ?_
  refine WH.ydD (i := 6) (by kernel_rfl) (QuietAt.then (QuietAt.bodyD (by kernel_rfl))) rfl (Yd.build SA116 rfl (cs := [_, _]) rfl) rfl ?_
  refine WH.ydD (i := 7) (by kernel_rfl) (QuietAt.then (QuietAt.bodyD (by kernel_rfl))) rfl (Yd.build SA118 rfl (cs := [_, _]) rfl) rfl ?_
  refine WH.ydD (i := 8) (by kernel_rfl) (QuietAt.then (QuietAt.bodyD (by kernel_rfl))) rfl (Yd.iface Try.underlying118 (by intro _ h; cases h) rfl) rfl ?_
  refine WH.one (i := 3) (by kernel_rfl) (WHo.so rfl (SO.callP Try.call68 rfl (fun w hI => isTick_g T a1 _ c1 a _ rfl hl1)) rfl ?_)
  rintro _ _ _ ⟨rfl, rfl, rfl⟩
  refine ⟨(fun _ hI => hI.tail), ?_⟩
  refine WH.know 10 (.bool true) rfl (congrArg Value.bool hw) ?_
  refine WH.one (i := 4) (by kernel_rfl) (WHo.so rfl (SO.makes (Enters.func Try.call64 rfl) (fun w hI => open_ok T a1 _ c1 D _ hR hI.imm hv)) rfl ?_)
  rintro _ D2 _ ⟨hX2, ⟨bq, rfl, hO⟩, rfl⟩
  have hR2 := hR.ext hX2
  refine ⟨(fun _ hI => hI.tail.shrink hX2.old), ?_⟩
  refine WH.one (i := 9) (by kernel_rfl) (WHo.so rfl (SO.callP Try.call69 rfl (fun w hI => ask_ok T a1 _ c1 bq D2 _ hO hR2 hI.imm hv a (by omega) hne)) rfl ?_)
  rintro _ _ _ ⟨rfl, rfl, rfl⟩
  refine ⟨(fun _ hI => hI.tail.shrink hX2.old), ?_⟩
  refine WH.one (i := 10) (by kernel_rfl) (WHo.so rfl (SO.callP Try.call70 rfl (fun w hI => toldv_g _ _ _)) rfl ?_)
  rintro _ _ _ ⟨rfl, rfl, rfl⟩
  refine ⟨(fun _ hI => hI.tail.shrink hX2.old), ?_⟩
  refine WH.one (i := 11) (by kernel_rfl) (WHo.yd rfl (Yd.assign rfl) rfl ?_)
  refine WH.one (i := 12) (by kernel_rfl) (WHo.so rfl (SO.store 0 rfl Try.sizeOf24 rfl rfl rfl rfl (Nat.le_of_ble_eq_true rfl) (oneB_spec rfl)) rfl ?_)
  rintro _ _ _ ⟨rfl, rfl, rfl⟩
  refine ⟨(fun _ hI => hI.tail.shrink hX2.old), ?_⟩
  refine WH.nil (by kernel_rfl) ?_
  refine WP.thenC ?_
  refine WC.ret ?_
  refine WP.endD [_, _] [_, _] rfl rfl Try.call67 (fun w hI => idle67 _ _) Try.results29 ⟨(RV.tmp rfl), (RV.cell1 Try.isAgg24 rfl (by first | exact Rd.own (k := 0) rfl rfl | exact Rd.own (k := 1) rfl rfl)), trivial⟩ (fun w hI => ⟨congrArg Ending.returned (by rw [hO0]; rfl), hI.keep⟩)

theorem Turn_g (T : Tks) (a1 : Option Addr) (n1 c1 : Nat) (D : Imm) (w : World) (hR : TksR D T a1 n1) (hH : Holds D w) (n : Int) : Gives Try.prog 29 [.agg #[it T.huts, .slice a1 n1 c1], it n] w (.tuple #[it (TurnOut T n).1, it (TurnOut T n).2]) := by
  cases hv : tksB T with
  | false => exact Turn_1 T a1 n1 c1 D w hR hH n hv
  | true =>
    cases hw : isT T n with
    | false => exact Turn_2 T a1 n1 c1 D w hR hH n hv hw
    | true =>
      by_cases hne : allT T = []
      · exact Turn_3 T a1 n1 c1 D w hR hH n hv hw hne
      · exact Turn_ok T a1 n1 c1 D w hR hH n hv hw hne

end Go.Proofs.Ytpnbkdlejfmbeaa
namespace Go.Proofs.Ytpnbkdlejfmbeaa
open Go.W Go.Ti
theorem FA150_0 : FieldAt Try.prog 150 0 0 := FieldAt.mk (t := 122) (off := 0) Try.underlying150 rfl Try.sizeOf122 (by decide)
theorem FA150_1 : FieldAt Try.prog 150 1 1 := FieldAt.mk (t := 4) (off := 1) Try.underlying150 rfl Try.sizeOf4 (by decide)
theorem FA150_2 : FieldAt Try.prog 150 2 2 := FieldAt.mk (t := 30) (off := 2) Try.underlying150 rfl Try.sizeOf30 (by decide)
theorem SA30 : StructAt Try.prog 30 [.int .i64 0, .int .i64 0] [(0, 1), (1, 1)] := ⟨⟨_, Try.zeroValue30, rfl⟩, _, Try.underlying30, fun w => by simp [Try.sizeOf3]⟩
abbrev Row := Value × Ms
def rowC (r : Row) : List Value := [r.1, .bool r.2.1, it r.2.2.1, it r.2.2.2]
theorem rowC_len : ∀ r, (rowC r).length = 4 := fun _ => rfl
def rows (F : Nat → Row) (n : Nat) : List Row := (List.range n).map F
theorem rows_len (F : Nat → Row) (n : Nat) : (rows F n).length = n := by simp [rows]
theorem rows_at {F : Nat → Row} {n i : Nat} (hi : i < n) : gt (rows F n) i = F i := by simp [rows, gt, List.getD, hi]
theorem rows_set {F : Nat → Row} {n i : Nat} (y : Row) : (rows F n).set i y = rows (fun j => if j = i then y else F j) n := by
  apply List.ext_getElem
  · simp [rows]
  · intro j h1 h2
    simp only [rows, List.getElem_set, List.getElem_map, List.getElem_range]
    by_cases e : i = j
    · subst e; simp
    · rw [if_neg e, if_neg (fun h => e h.symm)]
theorem rows_congr {F G : Nat → Row} {n : Nat} (h : ∀ i, i < n → F i = G i) : rows F n = rows G n := List.map_congr_left fun i hi => h i (List.mem_range.1 hi)
def rowsO (F : Nat → Row) (n : Nat) : Obj := .cells (List.toArray ((rows F n).flatMap rowC ++ [])) 150 (0, 0)
theorem rowsO_congr {F G : Nat → Row} {n : Nat} (h : ∀ i, i < n → F i = G i) : rowsO F n = rowsO G n := by unfold rowsO; rw [rows_congr h]
section
variable {P : Program} {x : Cx} {fr : Fr} {D : Imm} {hp : Hp} {ty : TypeId} {Q : Exit → Act → World → Prop}
theorem rdR {F : Nat → Row} {n i k b j : Nat} {r : Row} {v : Value} (hk : hp[k]? = some (b, rowsO F n)) (hi : i < n) (hF : F i = r) (hj : j < 4) (hv : (rowC r)[j]? = some v) : Rd D hp ⟨b, 0 + i * 4 + j, none⟩ v :=
  Rd.flat rowC_len hk (by rw [rows_len]; exact hi) hj (by rw [rows_at hi, hF]; exact hv)
theorem rdR0 {F : Nat → Row} {n i b : Nat} (k : Nat) {r : Row} (hk : hp[k]? = some (b, rowsO F n)) (hi : i < n) (hF : F i = r) : Rd D hp ⟨b, 0 + i * 4 + 0, none⟩ r.1 := rdR hk hi hF (by decide) rfl
theorem rdR1 {F : Nat → Row} {n i b : Nat} (k : Nat) {r : Row} (hk : hp[k]? = some (b, rowsO F n)) (hi : i < n) (hF : F i = r) : Rd D hp ⟨b, 0 + i * 4 + 1, none⟩ (.bool r.2.1) := rdR hk hi hF (by decide) rfl
theorem rdR2 {F : Nat → Row} {n i b : Nat} (k : Nat) {r : Row} (hk : hp[k]? = some (b, rowsO F n)) (hi : i < n) (hF : F i = r) : Rd D hp ⟨b, 0 + i * 4 + 2 + 0, none⟩ (it r.2.2.1) := rdR (j := 2) hk hi hF (by decide) rfl
theorem rdR3 {F : Nat → Row} {n i b : Nat} (k : Nat) {r : Row} (hk : hp[k]? = some (b, rowsO F n)) (hi : i < n) (hF : F i = r) : Rd D hp ⟨b, 0 + i * 4 + 2 + 1, none⟩ (it r.2.2.2) := rdR (j := 3) hk hi hF (by decide) rfl
theorem rdnR {F : Nat → Row} {n i b : Nat} (k : Nat) {r : Row} (hk : hp[k]? = some (b, rowsO F n)) (hi : i < n) (hF : F i = r) : RdN D hp b (0 + i * 4) (rowC r) :=
  RdN.flat rowC_len (j := 0) (n := 4) hk (by rw [rows_len]; exact hi) (by rw [rows_at hi, hF]; rfl)
theorem SO.storeR {F : Nat → Row} {n i k b j m : Nat} {t : TypeId} {p o : Operand} {v : Value} {vs : List Value} {r : Row} (y : Row) (hk : hp[k]? = some (b, rowsO F n)) (hz : ∀ w, (sizeOf t).run P w = .ok m w)
    (hp' : opv fr p = some (.pointer (some ⟨b, 0 + i * 4 + j, none⟩))) (ho : opv fr o = some v) (hc : v.cells = vs.toArray) (hl : vs.length = m) (hi : i < n) (hF : F i = r) (hj : j + m ≤ 4) (hone : ∀ v ∈ vs, v.oneCell' = true) (hy : rowC y = splice (rowC r) j vs) :
    SO P x fr D hp (.store t p o) ty Q (SetK D hp k b (rowsO (fun u => if u = i then y else F u) n)) := by
  have h := SO.storeFlatN (P := P) (x := x) (fr := fr) (D := D) (hp := hp) (ty := ty) (Q := Q) rowC_len y k hk hz hp' ho hc hl (by rw [rows_len]; exact hi) hj hone (by rw [rows_at hi, hF]; exact hy)
  rw [rows_set] at h
  exact h
end
structure Clo where
  fi : FuncId
  cp : List Value
  g : Tru → Int
instance : Inhabited Clo := ⟨⟨0, [], fun _ => 0⟩⟩
def cloV (c : Clo) : Value := .func (.func c.fi) #[] c.cp.toArray
def CloOK (D : Imm) (L : List Tru) (c : Clo) : Prop := (∀ args w, (callFunc c.fi args).run Try.prog w = .ok (.enter c.fi args) w) ∧ ∀ t, t ∈ L → ∀ w, Holds D w → Gives Try.prog c.fi (truV t :: c.cp) w (it (c.g t))
theorem CloOK.ext {w : World} {D D' : Imm} (hD : DExt w D D') {L : List Tru} {c : Clo} (h : CloOK D L c) : CloOK D' L c := ⟨h.1, fun t ht w' hH => h.2 t ht w' fun b o hb => hH b o (hD.old b o hb)⟩

set_option maxRecDepth 100000 in
set_option maxHeartbeats 1000000 in
theorem see_g (F : Nat → Row) (n i : Nat) (hi : i < n) (c : Clo) (s : Ms) (hF : F i = (cloV c, s)) (L : List Tru) (t : Tru) (htL : t ∈ L) (D : Imm) (w : World) (hC : CloOK D L c) (bm : Nat) (hI0 : Inv D [(bm, rowsO F n)] [bm] w w) : Alters Try.prog 88 [.pointer (some ⟨bm, 0 + i * 4, none⟩), truV t] w D [bm] (fun v D' hp' => v = .tuple #[] ∧ D = D' ∧ hp' = [(bm, rowsO (fun j => if j = i then (cloV c, seeS s (c.g t)) else F j) n)]) := by
  unfold Alters
  refine enter Try.func88 rfl 43 Try.ntmps88 (Nat.le_of_ble_eq_true rfl) hI0 ?_
  refine WC.seq ?_
  refine WC.ofFr [(0, _), (1, _)] ⟨rfl, rfl, trivial⟩ ?_
  refine WC.region ?_
  refine WL.so (SO.box rfl rfl) rfl ?_
  rintro _ _ _ ⟨b3, hb3, rfl, rfl, rfl⟩ -- NEW
  refine WL.nil ?_
  refine WP.thenC ?_
  refine WC.seq ?_
  refine WC.ofFr [(3, _), (0, _)] ⟨rfl, rfl, trivial⟩ ?_
  refine WC.tail 5 [0, 1, 2, 3, 4] rfl (by kernel_rfl) (by kernel_rfl)  ?_
  refine WQ.q rfl (Yd.qt (Yd.move rfl)) rfl ?_
  refine WQ.q rfl (Yd.qt (Yd.nilCheck rfl)) rfl ?_
  refine WQ.q rfl (Yd.qt (Yd.fieldAddr FA150_0 rfl)) rfl ?_
  refine WQ.q rfl (Yd.qt (Yd.load1 Try.isAgg122 rfl (by first | exact (rdR0 1 rfl hi hF) | exact (rdR0 1 rfl hi (if_pos rfl)) | exact (rdR1 1 rfl hi hF) | exact (rdR1 1 rfl hi (if_pos rfl)) | exact (rdR2 1 rfl hi hF) | exact (rdR2 1 rfl hi (if_pos rfl)) | exact (rdR3 1 rfl hi hF) | exact (rdR3 1 rfl hi (if_pos rfl))))) rfl ?_
  refine WQ.q rfl (Yd.qt (Yd.loadN Try.isAgg114 Try.sizeOf114 rfl (vs := [_, _, _, _, _, _, _, _, _, _]) rfl (by first | exact RdN.own (k := 0) (n := 10) rfl rfl | exact RdN.own (k := 1) (n := 10) rfl rfl))) rfl ?_
  refine WQ.tail ?_
  refine WL.so (SO.call (Enters.val hC.1 rfl rfl) (fun w hI => hC.2 t htL _ hI.imm)) rfl ?_
  rintro _ _ _ ⟨rfl, rfl, rfl⟩
  refine WL.yd (Yd.assign rfl) rfl ?_
  refine WL.nil ?_
  refine WP.thenC ?_
  refine WC.seq ?_
  refine WC.seq ?_
  refine WC.ofFr [(4, _), (0, _)] ⟨rfl, rfl, trivial⟩ ?_
  refine WC.region ?_
  refine WL.yd (Yd.move rfl) rfl ?_
  refine WL.yd (Yd.nilCheck rfl) rfl ?_
  refine WL.yd (Yd.fieldAddr FA150_1 rfl) rfl ?_
  refine WL.yd (Yd.load1 Try.isAgg4 rfl (by first | exact (rdR0 1 rfl hi hF) | exact (rdR0 1 rfl hi (if_pos rfl)) | exact (rdR1 1 rfl hi hF) | exact (rdR1 1 rfl hi (if_pos rfl)) | exact (rdR2 1 rfl hi hF) | exact (rdR2 1 rfl hi (if_pos rfl)) | exact (rdR3 1 rfl hi hF) | exact (rdR3 1 rfl hi (if_pos rfl)))) rfl ?_
  refine WL.yd (Yd.not rfl) rfl ?_
  refine WL.nil ?_
  refine WP.thenC ?_
  refine WC.cond rfl (fun c15 => ?_) (fun c15 => ?_)
  · try simp only [zq1, zq2, zq3, zq4, zq5, zq6, zq7, zq8] at c15
    refine WC.ofFr [(4, _), (0, _)] ⟨rfl, rfl, trivial⟩ ?_
    refine WC.region ?_
    refine WL.yd (Yd.move rfl) rfl ?_
    refine WL.yd (Yd.move rfl) rfl ?_
    refine WL.yd (Yd.move rfl) rfl ?_
    refine WL.yd (Yd.move rfl) rfl ?_
    refine WL.yd (Yd.build SA30 rfl (cs := [_, _]) rfl) rfl ?_
    refine WL.yd (Yd.nilCheck rfl) rfl ?_
    refine WL.yd (Yd.fieldAddr FA150_1 rfl) rfl ?_
    refine WL.so (SO.storeR (k := 1) (j := 1) (cloV c, (true, s.2.1, s.2.2)) rfl Try.sizeOf4 rfl rfl rfl rfl hi hF (by decide) (oneB_spec rfl) rfl) rfl ?_
    rintro _ _ _ ⟨rfl, rfl, rfl⟩
    refine WL.yd (Yd.nilCheck rfl) rfl ?_
    refine WL.yd (Yd.fieldAddr FA150_2 rfl) rfl ?_
    refine WL.so (SO.storeR (k := 1) (j := 2) (cloV c, (true, c.g t, c.g t)) rfl Try.sizeOf30 rfl rfl rfl rfl hi (if_pos rfl) (by decide) (oneB_spec rfl) rfl) rfl ?_
    rintro _ _ _ ⟨rfl, rfl, rfl⟩
    refine WL.nil ?_
    refine WP.thenC ?_
    refine WC.ofFr [(4, _), (0, _)] ⟨rfl, rfl, trivial⟩ ?_
    refine WC.tail 16 [0, 1, 2, 3, 4, 5, 6, 7, 8, 9, 10, 11, 12, 13, 14, 15] rfl (by kernel_rfl) (by kernel_rfl)  ?_
    refine WQ.q rfl (Yd.qt (Yd.move rfl)) rfl ?_
    refine WQ.q rfl (Yd.qt (Yd.move rfl)) rfl ?_
    refine WQ.q rfl (Yd.qt (Yd.nilCheck rfl)) rfl ?_
    refine WQ.q rfl (Yd.qt (Yd.fieldAddr FA150_2 rfl)) rfl ?_
    refine WQ.q rfl (Yd.qt (Yd.fieldAddr FA30_0 rfl)) rfl ?_
    refine WQ.q rfl (Yd.qt (Yd.load1 Try.isAgg3 rfl (by first | exact (rdR0 1 rfl hi hF) | exact (rdR0 1 rfl hi (if_pos rfl)) | exact (rdR1 1 rfl hi hF) | exact (rdR1 1 rfl hi (if_pos rfl)) | exact (rdR2 1 rfl hi hF) | exact (rdR2 1 rfl hi (if_pos rfl)) | exact (rdR3 1 rfl hi hF) | exact (rdR3 1 rfl hi (if_pos rfl))))) rfl ?_
    refine WQ.q rfl (Yd.qt (Yd.move rfl)) rfl ?_
    refine WQ.q rfl (Yd.qt (Yd.min2 rfl rfl)) rfl ?_
    refine WQ.q rfl (Yd.qt (Yd.move rfl)) rfl ?_
    refine WQ.q rfl (Yd.qt (Yd.nilCheck rfl)) rfl ?_
    refine WQ.q rfl (Yd.qt (Yd.fieldAddr FA150_2 rfl)) rfl ?_
    refine WQ.q rfl (Yd.qt (Yd.fieldAddr FA30_1 rfl)) rfl ?_
    refine WQ.q rfl (Yd.qt (Yd.load1 Try.isAgg3 rfl (by first | exact (rdR0 1 rfl hi hF) | exact (rdR0 1 rfl hi (if_pos rfl)) | exact (rdR1 1 rfl hi hF) | exact (rdR1 1 rfl hi (if_pos rfl)) | exact (rdR2 1 rfl hi hF) | exact (rdR2 1 rfl hi (if_pos rfl)) | exact (rdR3 1 rfl hi hF) | exact (rdR3 1 rfl hi (if_pos rfl))))) rfl ?_
    refine WQ.q rfl (Yd.qt (Yd.move rfl)) rfl ?_
    refine WQ.q rfl (Yd.qt (Yd.max2 rfl rfl)) rfl ?_
    refine WQ.q rfl (Yd.qt (Yd.build SA30 rfl (cs := [_, _]) rfl)) rfl ?_
    refine WQ.tail ?_
    refine WL.yd (Yd.nilCheck rfl) rfl ?_
    refine WL.yd (Yd.fieldAddr FA150_2 rfl) rfl ?_
    refine WL.so (SO.storeR (k := 1) (j := 2) (cloV c, (true, min (c.g t) (c.g t), max (c.g t) (c.g t))) rfl Try.sizeOf30 rfl rfl rfl rfl hi (if_pos rfl) (by decide) (oneB_spec rfl) rfl) rfl ?_
    rintro _ _ _ ⟨rfl, rfl, rfl⟩
    refine WL.nil ?_
    refine WP.ret0 rfl rfl Try.results88  (fun w1 hI => ⟨_, D, _, rfl, DExt.refl _ _, hI.tail, fun _ h => h, rfl, rfl, congrArg (fun o => [(bm, o)]) (rowsO_congr fun u _ => by by_cases e : u = i <;> simp_all [seeS])⟩)
  · try simp only [zq1, zq2, zq3, zq4, zq5, zq6, zq7, zq8] at c15
    refine WC.skip ?_
    refine WP.thenC ?_
    refine WC.ofFr [(4, _), (0, _)] ⟨rfl, rfl, trivial⟩ ?_
    refine WC.tail 16 [0, 1, 2, 3, 4, 5, 6, 7, 8, 9, 10, 11, 12, 13, 14, 15] rfl (by kernel_rfl) (by kernel_rfl)  ?_
    refine WQ.q rfl (Yd.qt (Yd.move rfl)) rfl ?_
    refine WQ.q rfl (Yd.qt (Yd.move rfl)) rfl ?_
    refine WQ.q rfl (Yd.qt (Yd.nilCheck rfl)) rfl ?_
    refine WQ.q rfl (Yd.qt (Yd.fieldAddr FA150_2 rfl)) rfl ?_
    refine WQ.q rfl (Yd.qt (Yd.fieldAddr FA30_0 rfl)) rfl ?_
    refine WQ.q rfl (Yd.qt (Yd.load1 Try.isAgg3 rfl (by first | exact (rdR0 1 rfl hi hF) | exact (rdR0 1 rfl hi (if_pos rfl)) | exact (rdR1 1 rfl hi hF) | exact (rdR1 1 rfl hi (if_pos rfl)) | exact (rdR2 1 rfl hi hF) | exact (rdR2 1 rfl hi (if_pos rfl)) | exact (rdR3 1 rfl hi hF) | exact (rdR3 1 rfl hi (if_pos rfl))))) rfl ?_
    refine WQ.q rfl (Yd.qt (Yd.move rfl)) rfl ?_
    refine WQ.q rfl (Yd.qt (Yd.min2 rfl rfl)) rfl ?_
    refine WQ.q rfl (Yd.qt (Yd.move rfl)) rfl ?_
    refine WQ.q rfl (Yd.qt (Yd.nilCheck rfl)) rfl ?_
    refine WQ.q rfl (Yd.qt (Yd.fieldAddr FA150_2 rfl)) rfl ?_
    refine WQ.q rfl (Yd.qt (Yd.fieldAddr FA30_1 rfl)) rfl ?_
    refine WQ.q rfl (Yd.qt (Yd.load1 Try.isAgg3 rfl (by first | exact (rdR0 1 rfl hi hF) | exact (rdR0 1 rfl hi (if_pos rfl)) | exact (rdR1 1 rfl hi hF) | exact (rdR1 1 rfl hi (if_pos rfl)) | exact (rdR2 1 rfl hi hF) | exact (rdR2 1 rfl hi (if_pos rfl)) | exact (rdR3 1 rfl hi hF) | exact (rdR3 1 rfl hi (if_pos rfl))))) rfl ?_
    refine WQ.q rfl (Yd.qt (Yd.move rfl)) rfl ?_
    refine WQ.q rfl (Yd.qt (Yd.max2 rfl rfl)) rfl ?_
    refine WQ.q rfl (Yd.qt (Yd.build SA30 rfl (cs := [_, _]) rfl)) rfl ?_
    refine WQ.tail ?_
    refine WL.yd (Yd.nilCheck rfl) rfl ?_
    refine WL.yd (Yd.fieldAddr FA150_2 rfl) rfl ?_
    refine WL.so (SO.storeR (k := 1) (j := 2) (cloV c, (s.1, min s.2.1 (c.g t), max s.2.2 (c.g t))) rfl Try.sizeOf30 rfl rfl rfl rfl hi hF (by decide) (oneB_spec rfl) rfl) rfl ?_
    rintro _ _ _ ⟨rfl, rfl, rfl⟩
    refine WL.nil ?_
    refine WP.ret0 rfl rfl Try.results88  (fun w1 hI => ⟨_, D, _, rfl, DExt.refl _ _, hI.tail, fun _ h => h, rfl, rfl, congrArg (fun o => [(bm, o)]) (rowsO_congr fun u _ => by by_cases e : u = i <;> simp_all [seeS])⟩)

end Go.Proofs.Ytpnbkdlejfmbeaa
namespace Go.Proofs.Ytpnbkdlejfmbeaa
open Go.W Go.Ti

def spC (s : Sp) : List Value := [it s.lo, it s.hi]
theorem spC_len : ∀ s, (spC s).length = 2 := fun _ => rfl
def zMs : Ms := (false, 0, 0)
theorem zero_rows : ∀ n, zeroL [.nilFunc, .bool false, .int .i64 0, .int .i64 0] (n * 4) = (rows (fun _ => ((.nilFunc, zMs) : Row)) n).flatMap rowC ++ [] := by
  intro n
  rw [List.append_nil]
  induction n with
  | zero => rfl
  | succ n ih =>
    rw [show (n + 1) * 4 = n * 4 + 1 + 1 + 1 + 1 by omega]
    simp only [zeroL, List.length_cons, List.length_nil, Nat.reduceAdd]
    rw [ih, show (n * 4 + 1 + 1 + 1) % 4 = 3 by omega, show (n * 4 + 1 + 1) % 4 = 2 by omega, show (n * 4 + 1) % 4 = 1 by omega, show n * 4 % 4 = 0 by omega]
    simp [rows, List.range_succ, rowC, zMs]
def iniF (fs : List Clo) (k : Nat) (u : Nat) : Row := (if u < k then cloV (gt fs u) else .nilFunc, zMs)
def msF (fs : List Clo) (l : List Tru) (u : Nat) : Row := (cloV (gt fs u), foldS (gt fs u).g l)
def midF (fs : List Clo) (L : List Tru) (k j : Nat) (u : Nat) : Row := (cloV (gt fs u), foldS (gt fs u).g (L.take (if u < j then k + 1 else k)))
def outX (fs : List Clo) (L : List Tru) (k : Nat) : List Value := ((fs.take k).map fun c => spanS c.g L).flatMap spC
theorem outX_len {fs : List Clo} {L : List Tru} {k : Nat} (hk : k ≤ fs.length) : (outX fs L k).length = k * 2 := by
  unfold outX
  rw [flat_len spC_len, List.length_map, List.length_take, Nat.min_eq_left hk]
theorem outX_succ {fs : List Clo} {L : List Tru} {k : Nat} (hk : k < fs.length) : outX fs L (k + 1) = outX fs L k ++ spC (spanS (gt fs k).g L) := by
  have hg : gt fs k = fs[k] := by simp [gt, List.getD, hk]
  unfold outX
  rw [List.take_succ_eq_append_getElem hk, List.map_append, List.flatMap_append, hg]
  simp
theorem ini_step (fs : List Clo) (k : Nat) : (fun u => if u = k then ((cloV (gt fs k), zMs) : Row) else iniF fs k u) = iniF fs (k + 1) := by
  funext u
  unfold iniF
  by_cases h : u = k
  · subst h; rw [if_pos rfl, if_pos (by omega)]
  · rw [if_neg h]
    by_cases h2 : u < k
    · rw [if_pos h2, if_pos (by omega)]
    · rw [if_neg h2, if_neg (by omega)]
theorem ini_end (fs : List Clo) : rowsO (iniF fs fs.length) fs.length = rowsO (msF fs []) fs.length := rowsO_congr fun i hi => by
  unfold iniF msF; rw [if_pos hi]; rfl
theorem mid_start (fs : List Clo) (L : List Tru) (k : Nat) : midF fs L k 0 = msF fs (L.take k) := by
  funext u
  unfold midF msF; rw [if_neg (by omega)]
theorem mid_step (fs : List Clo) {L : List Tru} {k : Nat} (hk : k < L.length) (j : Nat) : (fun u => if u = j then ((cloV (gt fs j), seeS (foldS (gt fs j).g (L.take k)) ((gt fs j).g (gt L k))) : Row) else midF fs L k j u) = midF fs L k (j + 1) := by
  funext u
  unfold midF
  by_cases h : u = j
  · subst h; rw [if_pos rfl, if_pos (by omega), foldS_take _ hk]
  · rw [if_neg h]
    by_cases h2 : u < j
    · rw [if_pos h2, if_pos (by omega)]
    · rw [if_neg h2, if_neg (by omega)]
theorem mid_end (fs : List Clo) (L : List Tru) (k : Nat) : rowsO (midF fs L k fs.length) fs.length = rowsO (msF fs (L.take (k + 1))) fs.length := rowsO_congr fun i hi => by
  unfold midF msF; rw [if_pos hi]

set_option maxRecDepth 100000 in
set_option maxHeartbeats 1000000 in
theorem spans_ok (T : Tks) (a1 : Option Addr) (n1 c1 : Nat) (q : Nat) (D : Imm) (w : World) (hO : OffAt D q T (.slice a1 n1 c1)) (hR : TksR D T a1 n1) (hH : Holds D w) (hv : tksB T = true) (fs : List Clo) (af : Option Addr) (nf cf : Nat) (hS : SlL D 1 (fs.map fun c => [cloV c]) af nf) (hfs : nf ≤ 100) (hC : ∀ i, i < fs.length → CloOK D (allT T) (gt fs i)) (hne : allT T ≠ []) : Makes Try.prog 65 [pt q, .slice af nf cf] w D (fun v D' => ∃ a c, v = .slice a fs.length c ∧ SlL D' 2 ((fs.map fun c => spanS c.g (allT T)).map spC) a fs.length) := by
  unfold Makes
  obtain rfl := hR.tick.len'
  have hl1 := hR.len
  obtain rfl := hS.len'
  refine enterM Try.func65 rfl 59 Try.ntmps65 (Nat.le_of_ble_eq_true rfl) (Inv.start hH) ?_
  refine WC.seq ?_
  refine WC.ofFr [(0, _), (1, _)] ⟨rfl, rfl, trivial⟩ ?_
  refine WC.region ?_
  refine WL.yd (Yd.assign rfl) rfl ?_
  refine WL.nil ?_
  refine WP.thenC ?_
  refine WC.seq ?_
  refine WC.ofFr [(4, _), (0, _), (1, _)] ⟨rfl, rfl, rfl, trivial⟩ ?_
  refine WC.region ?_
  refine WL.yd (Yd.move rfl) rfl ?_
  refine WL.yd (Yd.lenS rfl Try.underlying147 rfl) rfl ?_
  refine WL.so (SO.makeSlice Try.underlying148 Try.sizeOf150 Try.typeInfo150 Try.zeroValue150 rfl rfl rfl (by omega) (by show 32 * ((fs.length : Nat) : Int) ≤ 2 ^ 48; omega)) rfl ?_
  rintro _ _ _ ⟨b16, hb16, rfl, rfl, rfl⟩ -- NEW
  skip
  refine WL.so (SO.alloc Try.zeroValue148 rfl) rfl ?_
  rintro _ _ _ ⟨b5, hb5, rfl, rfl, rfl⟩ -- NEW
  refine WL.so (SO.store 0 rfl Try.sizeOf148 rfl rfl rfl rfl (Nat.le_of_ble_eq_true rfl) (oneB_spec rfl)) rfl ?_
  rintro _ _ _ ⟨rfl, rfl, rfl⟩
  refine WL.nil ?_
  refine WP.thenC ?_
  refine WC.seq ?_
  refine WC.seq ?_
  refine WC.hpEq (hp' := [(b5, .cells (List.toArray [.slice (some ⟨b16, 0, none⟩) fs.length fs.length]) 148 (0, 0)), (b16, rowsO (iniF fs 0) fs.length)]) (by rw [show iniF fs 0 = fun _ => ((.nilFunc, zMs) : Row) from funext fun u => by unfold iniF; rw [if_neg (by omega)]]; unfold rowsO; rw [← zero_rows]; rfl) ?_
  refine WC.ofFr [(5, _), (4, _), (0, _), (1, _)] ⟨rfl, rfl, rfl, rfl, trivial⟩ ?_
  refine WC.region ?_
  refine WL.yd (Yd.move rfl) rfl ?_
  refine WL.yd (Yd.lenS rfl Try.underlying147 rfl) rfl ?_
  refine WL.yd (Yd.move rfl) rfl ?_
  refine WL.nil ?_
  refine WP.thenC ?_
  refine WC.block ?_
  refine WC.loopT [_] (fun k : Nat => [(0, pt q), (4, .slice none 0 0), (5, pt b5), (17, .slice af fs.length cf), (18, nt fs.length), (19, nt k)]) (fun k => [(b16, rowsO (iniF fs k) fs.length)]) (fun k => k ≤ fs.length) (fun k => fs.length - k) 0 (by omega) rfl ⟨rfl, rfl, rfl, rfl, rfl, rfl, trivial⟩ ?_
  intro k hk
  refine WC.seq ?_
  refine WC.ofFr [(0, _), (4, _), (5, _), (17, _), (18, _), (19, _)] ⟨rfl, rfl, rfl, rfl, rfl, rfl, trivial⟩ ?_
  refine WC.region ?_
  refine WL.yd (Yd.lss rfl rfl) rfl ?_
  refine WL.nil ?_
  refine WP.thenC ?_
  refine WC.seq ?_
  refine WC.cond rfl (fun c20 => ?_) (fun c20 => ?_)
  · try simp only [zq1, zq2, zq3, zq4, zq5, zq6, zq7, zq8] at c20
    have hkn : k < fs.length := by omega
    refine WC.skip ?_
    refine WP.thenC ?_
    refine WC.seq ?_
    refine WC.block ?_
    refine WC.seq ?_
    refine WC.ofFr [(0, _), (4, _), (5, _), (17, _), (18, _), (19, _)] ⟨rfl, rfl, rfl, rfl, rfl, rfl, trivial⟩ ?_
    refine WC.region ?_
    refine WL.yd (Yd.move rfl) rfl ?_
    refine WL.yd (Yd.indexS Try.underlying147 Try.sizeOf122 rfl rfl (by omega) (by omega) (by first | exact hS.addr k (by omega) | exact rfl)) rfl ?_
    refine WL.yd (Yd.load1 Try.isAgg122 rfl (by first | exact Rd.own (k := 0) rfl rfl | exact Rd.own (k := 1) rfl rfl | exact ((hS.at k (by omega)).rd 0 rfl))) rfl ?_
    refine WL.yd (Yd.assign rfl) rfl ?_
    refine WL.yd (Yd.assign rfl) rfl ?_
    refine WL.nil ?_
    refine WP.thenC ?_
    refine WC.ofFr [(7, _), (6, _), (0, _), (4, _), (5, _), (17, _), (18, _), (19, _)] ⟨rfl, rfl, rfl, rfl, rfl, rfl, rfl, rfl, trivial⟩ ?_
    refine WC.region ?_
    refine WL.yd (Yd.load1 Try.isAgg148 rfl (by first | exact Rd.own (k := 0) rfl rfl | exact Rd.own (k := 1) rfl rfl | exact ((hS.at k (by omega)).rd 0 rfl))) rfl ?_
    refine WL.yd (Yd.move rfl) rfl ?_
    refine WL.yd (Yd.move rfl) rfl ?_
    refine WL.yd (Yd.indexS Try.underlying148 Try.sizeOf150 rfl rfl (by omega) (by omega) (by first | exact hS.addr k (by omega) | exact rfl)) rfl ?_
    refine WL.yd (Yd.fieldAddr FA150_0 rfl) rfl ?_
    refine WL.so (SO.storeR (k := 1) (i := k) (j := 0) (cloV (gt fs k), zMs) rfl Try.sizeOf122 rfl rfl rfl rfl hkn rfl (by decide) (oneB_spec rfl) rfl) rfl ?_
    rintro _ _ _ ⟨rfl, rfl, rfl⟩
    refine WL.nil ?_
    refine WP.blkNormal ?_
    refine WP.thenC ?_
    refine WC.ofFr [(0, _), (4, _), (5, _), (17, _), (18, _), (19, _)] ⟨rfl, rfl, rfl, rfl, rfl, rfl, trivial⟩ ?_
    refine WC.region ?_
    refine WL.yd (Yd.add rfl rfl (wr64 ⟨by omega, by omega⟩)) rfl ?_
    refine WL.yd (Yd.move rfl) rfl ?_
    refine WL.nil ?_
    exact WP.againT (k + 1) (by omega) (by omega) [] _ rfl (by rw [← ini_step]; rfl) ⟨rfl, rfl, rfl, rfl, rfl, rfl, trivial⟩
  · try simp only [zq1, zq2, zq3, zq4, zq5, zq6, zq7, zq8] at c20
    refine WC.exit ?_
    refine WP.thenExit ?_
    refine WP.thenExit ?_
    refine WP.blkHit ?_
    refine WP.thenC ?_
    refine WC.seq ?_
    obtain rfl : k = fs.length := by omega
    rw [ini_end]
    refine WC.ofFr [(0, _), (4, _), (5, _)] ⟨rfl, rfl, rfl, trivial⟩ ?_
    refine WC.region ?_
    refine WL.so (SO.alloc Try.zeroValue4 rfl) rfl ?_
    rintro _ _ _ ⟨b8, hb8, rfl, rfl, rfl⟩ -- NEW
    refine WL.so (SO.store 0 rfl Try.sizeOf4 rfl rfl rfl rfl (Nat.le_of_ble_eq_true rfl) (oneB_spec rfl)) rfl ?_
    rintro _ _ _ ⟨rfl, rfl, rfl⟩
    refine WL.nil ?_
    refine WP.thenC ?_
    refine WC.seq ?_
    refine WC.seq ?_
    refine WC.ofFr [(8, _), (0, _), (4, _), (5, _)] ⟨rfl, rfl, rfl, rfl, trivial⟩ ?_
    refine WC.region ?_
    refine WL.yd (Yd.move rfl) rfl ?_
    refine WL.so (SO.makes (Enters.func Try.call87 rfl) (fun w hI => truths_g q D _ hI.imm)) rfl ?_
    rintro _ D1 _ ⟨hX1, ⟨bt, rfl, hbt⟩, rfl⟩
    replace hO := hO.ext hX1
    replace hR := hR.ext hX1
    replace hC : ∀ i, i < fs.length → CloOK D1 (allT T) (gt fs i) := fun i hi => (hC i hi).ext hX1
    refine WL.nil ?_
    refine WP.thenC ?_
    refine WC.block ?_
    refine WC.ofFr [(4, _), (5, _), (8, _), (31, _)] ⟨rfl, rfl, rfl, rfl, trivial⟩ ?_
    refine WC.rangeIterN (N := (allT T).length) (arg := fun k => truV (gt (allT T) k)) (fun w1 _ hD1 => truths1_iter T a1 _ c1 q bt D1 w1 hO hR hbt hv hD1) rfl Try.call93 rfl (fun k _ h => h = [(b8, .cells (List.toArray [.bool (decide (0 < k))]) 4 (0, 0)), (b5, .cells (List.toArray [.slice (some ⟨b16, 0, none⟩) fs.length fs.length]) 148 (0, 0)), (b16, rowsO (msF fs ((allT T).take k)) fs.length)]) (fun _ _ _ => False) (fun _ _ _ _ _ h => h) rfl ?_ ?_ ?_
    · rintro rec1 l1 Dn0 k D5 _ w1 hrec hk rfl hX5 hsz
      unfold RoundGN
      replace hO := hO.ext hX5
      replace hR := hR.ext hX5
      replace hC : ∀ i, i < fs.length → CloOK D5 (allT T) (gt fs i) := fun i hi => (hC i hi).ext hX5
      refine WCF.ofFr [(32, _), (4, _), (5, _), (8, _)] ⟨rfl, rfl, rfl, rfl, trivial⟩ ?_
      refine WCF.region ?_
      refine WLF.so (by intro _ h; cases h) (SO.alloc Try.zeroValue114 rfl) rfl ?_
      rintro _ _ _ ⟨b9, hb9, rfl, rfl, rfl⟩ -- NEW
      refine WLF.so (by intro _ h; cases h) (SO.store 0 rfl Try.sizeOf114 rfl rfl rfl rfl (Nat.le_of_ble_eq_true rfl) (oneB_spec rfl)) rfl ?_
      rintro _ _ _ ⟨rfl, rfl, rfl⟩
      refine WLF.nil ?_
      refine WP.iterBegin 1 rfl hrec ?_
      refine WCF.block ?_
      refine WCF.seq ?_
      refine WCF.ofFr [(9, _), (4, _), (5, _), (8, _)] ⟨rfl, rfl, rfl, rfl, trivial⟩ ?_
      refine WCF.region ?_
      refine WLF.so (by intro _ h; cases h) (SO.store 3 rfl Try.sizeOf4 rfl rfl rfl rfl (Nat.le_of_ble_eq_true rfl) (oneB_spec rfl)) rfl ?_
      rintro _ _ _ ⟨rfl, rfl, rfl⟩
      refine WLF.nil ?_
      refine WP.thenCF ?_
      refine WCF.seq ?_
      refine WCF.ofFr [(9, _), (4, _), (5, _)] ⟨rfl, rfl, rfl, trivial⟩ ?_
      refine WCF.region ?_
      refine WLF.yd (by intro _ h; cases h) (Yd.load1 Try.isAgg148 rfl (by first | exact Rd.own (k := 0) rfl rfl | exact Rd.own (k := 1) rfl rfl | exact Rd.own (k := 2) rfl rfl | exact Rd.own (k := 3) rfl rfl | exact Rd.own (k := 4) rfl rfl | exact Rd.own (k := 5) rfl rfl | exact ((hS.at k (by omega)).rd 0 rfl))) rfl ?_
      refine WLF.yd (by intro _ h; cases h) (Yd.lenS rfl Try.underlying148 rfl) rfl ?_
      refine WLF.yd (by intro _ h; cases h) (Yd.move rfl) rfl ?_
      refine WLF.nil ?_
      refine WP.thenCF ?_
      refine WCF.block ?_
      refine WCF.loopT [_, _, _, _, _] (fun j : Nat => [(5, pt b5), (9, pt b9), (34, nt fs.length), (35, nt j)]) (fun j => [(b16, rowsO (midF fs (allT T) k j) fs.length)]) (fun j => j ≤ fs.length) (fun j => fs.length - j) 0 (by omega) (by rw [mid_start]; rfl) ⟨rfl, rfl, rfl, rfl, trivial⟩ ?_
      intro j hj
      refine WCF.seq ?_
      refine WCF.ofFr [(5, _), (9, _), (34, _), (35, _)] ⟨rfl, rfl, rfl, rfl, trivial⟩ ?_
      refine WCF.region ?_
      refine WLF.yd (by intro _ h; cases h) (Yd.lss rfl rfl) rfl ?_
      refine WLF.nil ?_
      refine WP.thenCF ?_
      refine WCF.seq ?_
      refine WCF.cond rfl (fun c36 => ?_) (fun c36 => ?_)
      · try simp only [zq1, zq2, zq3, zq4, zq5, zq6, zq7, zq8] at c36
        have hjn : j < fs.length := by omega
        refine WCF.skip ?_
        refine WP.thenCF ?_
        refine WCF.seq ?_
        refine WCF.block ?_
        refine WCF.seq ?_
        refine WCF.ofFr [(5, _), (9, _), (34, _), (35, _)] ⟨rfl, rfl, rfl, rfl, trivial⟩ ?_
        refine WCF.region ?_
        refine WLF.yd (by intro _ h; cases h) (Yd.move rfl) rfl ?_
        refine WLF.yd (by intro _ h; cases h) (Yd.assign rfl) rfl ?_
        refine WLF.nil ?_
        refine WP.thenCF ?_
        refine WCF.ofFr [(10, _), (5, _), (9, _), (34, _), (35, _)] ⟨rfl, rfl, rfl, rfl, rfl, trivial⟩ ?_
        refine WCF.tail 4 [0, 1, 2, 3] rfl (by kernel_rfl) (by kernel_rfl) (noLets.blk (noLets.then (noLets.then (noLets.blk (noLets.blk noLets.round))))) ?_
        refine WQ.q rfl (Yd.qt (Yd.load1 Try.isAgg148 rfl (by first | exact Rd.own (k := 0) rfl rfl | exact Rd.own (k := 1) rfl rfl | exact Rd.own (k := 2) rfl rfl | exact Rd.own (k := 3) rfl rfl | exact Rd.own (k := 4) rfl rfl | exact Rd.own (k := 5) rfl rfl | exact ((hS.at k (by omega)).rd 0 rfl)))) rfl ?_
        refine WQ.q rfl (Yd.qt (Yd.move rfl)) rfl ?_
        refine WQ.q rfl (Yd.qt (Yd.indexS Try.underlying148 Try.sizeOf150 rfl rfl (by omega) (by omega) (by first | exact hS.addr k (by omega) | exact rfl))) rfl ?_
        refine WQ.q rfl (Yd.qt (Yd.loadN Try.isAgg114 Try.sizeOf114 rfl (vs := [_, _, _, _, _, _, _, _, _, _]) rfl (by first | exact RdN.own (k := 0) (n := 10) rfl rfl | exact RdN.own (k := 1) (n := 10) rfl rfl | exact RdN.own (k := 2) (n := 10) rfl rfl | exact RdN.own (k := 3) (n := 10) rfl rfl | exact RdN.own (k := 4) (n := 10) rfl rfl | exact RdN.own (k := 5) (n := 10) rfl rfl))) rfl ?_
        refine WQ.tailR ?_
        refine WLF.so (by intro _ h; cases h) (SO.alters (own := [_, _, _, _, _]) (hpc := [_]) (S1 := [b16]) (fun _ h => h) (fun h => h) (fun _ h => h) (fun _ h => h) (Enters.func Try.call88 rfl) (fun w1 hI => see_g (midF fs (allT T) k j) fs.length j hjn (gt fs j) (foldS (gt fs j).g ((allT T).take k)) (by unfold midF; rw [if_neg (by omega)]) (allT T) (gt (allT T) k) (gt_mem hk) D5 w1 (hC j hjn) b16 hI)) rfl ?_
        rintro _ _ _ ⟨_, _, ⟨rfl, rfl, rfl⟩, rfl⟩
        refine WLF.nil ?_
        refine WP.blkNormal ?_
        refine WP.thenCF ?_
        refine WCF.ofFr [(5, _), (9, _), (34, _), (35, _)] ⟨rfl, rfl, rfl, rfl, trivial⟩ ?_
        refine WCF.region ?_
        refine WLF.yd (by intro _ h; cases h) (Yd.add rfl rfl (wr64 ⟨by omega, by omega⟩)) rfl ?_
        refine WLF.yd (by intro _ h; cases h) (Yd.move rfl) rfl ?_
        refine WLF.nil ?_
        exact WP.againT (j + 1) (by omega) (by omega) [] _ rfl (by rw [← mid_step fs hk]; rfl) ⟨rfl, rfl, rfl, rfl, trivial⟩
      · try simp only [zq1, zq2, zq3, zq4, zq5, zq6, zq7, zq8] at c36
        obtain rfl : j = fs.length := by omega
        refine WCF.exit ?_
        refine WP.thenExit ?_
        refine WP.thenExit ?_
        refine WP.blkHit ?_
        refine WP.blkNormal ?_
        refine WP.iterOnN hrec (h1 := [_, _, _]) (fun _ h => List.mem_cons_of_mem _ h) (fun h => (List.nodup_cons.1 h).2) (DExt.refl _ _) ?_
        rw [← mid_end, decide_eq_true (show 0 < k + 1 by omega)]
        rfl
    · rintro Dn1 D6 _ hDn1 hX6 rfl
      rw [List.take_length]
      have hpos : 0 < (allT T).length := List.length_pos_iff.2 hne
      refine WP.blkNormal ?_
      refine WP.thenC ?_
      refine WC.seq ?_
      refine WC.ofFr [(4, _), (5, _), (8, _)] ⟨rfl, rfl, rfl, trivial⟩ ?_
      refine WC.region ?_
      refine WL.yd (Yd.load1 Try.isAgg4 rfl (by first | exact Rd.own (k := 0) rfl rfl | exact Rd.own (k := 1) rfl rfl | exact Rd.own (k := 2) rfl rfl | exact Rd.own (k := 3) rfl rfl | exact ((hS.at k (by omega)).rd 0 rfl))) rfl ?_
      refine WL.know 44 (.bool true) rfl (congrArg Value.bool (decide_eq_true hpos)) ?_
      refine WL.so (SO.call (Enters.func Try.call83 rfl) (fun w hI => mustK_ok _ _)) rfl ?_
      rintro _ _ _ ⟨rfl, rfl, rfl⟩
      refine WL.nil ?_
      refine WP.thenC ?_
      refine WC.seq ?_
      refine WC.ofFr [(4, _), (5, _)] ⟨rfl, rfl, trivial⟩ ?_
      refine WC.region ?_
      refine WL.yd (Yd.assign rfl) rfl ?_
      refine WL.nil ?_
      refine WP.thenC ?_
      refine WC.seq ?_
      refine WC.seq ?_
      refine WC.ofFr [(11, _), (4, _), (5, _)] ⟨rfl, rfl, rfl, trivial⟩ ?_
      refine WC.region ?_
      refine WL.yd (Yd.load1 Try.isAgg148 rfl (by first | exact Rd.own (k := 0) rfl rfl | exact Rd.own (k := 1) rfl rfl | exact Rd.own (k := 2) rfl rfl | exact Rd.own (k := 3) rfl rfl | exact ((hS.at k (by omega)).rd 0 rfl))) rfl ?_
      refine WL.yd (Yd.lenS rfl Try.underlying148 rfl) rfl ?_
      refine WL.yd (Yd.move rfl) rfl ?_
      refine WL.nil ?_
      refine WP.thenC ?_
      refine WC.block ?_
      refine WC.loopT [_, _, _, _] (fun y : Nat × Option Ow => [(4, .slice none 0 0), (11, owV y.2 y.1), (46, .slice (some ⟨b16, 0, none⟩) fs.length fs.length), (47, nt fs.length), (48, nt y.1)]) (fun y => owH y.2 30 (outX fs (allT T) y.1) []) (fun y => y.1 ≤ fs.length ∧ owP w y.2 y.1 2) (fun y => fs.length - y.1) (0, none) ⟨by omega, rfl⟩ rfl ⟨rfl, rfl, rfl, rfl, rfl, trivial⟩ ?_
      rintro ⟨k, o⟩ ⟨hk, ho⟩
      dsimp only at hk ho
      refine WC.seq ?_
      refine WC.ofFr [(4, _), (11, _), (46, _), (47, _), (48, _)] ⟨rfl, rfl, rfl, rfl, rfl, trivial⟩ ?_
      refine WC.region ?_
      refine WL.yd (Yd.lss rfl rfl) rfl ?_
      refine WL.nil ?_
      refine WP.thenC ?_
      refine WC.seq ?_
      refine WC.cond rfl (fun c49 => ?_) (fun c49 => ?_)
      · try simp only [zq1, zq2, zq3, zq4, zq5, zq6, zq7, zq8] at c49
        have hkn : k < fs.length := by omega
        refine WC.skip ?_
        refine WP.thenC ?_
        refine WC.seq ?_
        refine WC.block ?_
        refine WC.seq ?_
        refine WC.ofFr [(4, _), (11, _), (46, _), (47, _), (48, _)] ⟨rfl, rfl, rfl, rfl, rfl, trivial⟩ ?_
        refine WC.region ?_
        refine WL.yd (Yd.indexS Try.underlying148 Try.sizeOf150 rfl rfl (by omega) (by omega) (by first | exact hS.addr k (by omega) | exact rfl)) rfl ?_
        refine WL.yd (Yd.loadN Try.isAgg150 Try.sizeOf150 rfl (vs := [_, _, _, _]) rfl (by first | exact RdN.own (k := 0) (n := 4) rfl rfl | exact RdN.own (k := 1) (n := 4) rfl rfl | exact RdN.own (k := 2) (n := 4) rfl rfl | exact RdN.own (k := 3) (n := 4) rfl rfl | exact (rdnR 3 rfl hkn rfl))) rfl ?_
        refine WL.so (SO.alloc Try.zeroValue150 rfl) rfl ?_
        rintro _ _ _ ⟨b13, hb13, rfl, rfl, rfl⟩ -- NEW
        refine WL.so (SO.store 0 rfl Try.sizeOf150 rfl rfl rfl rfl (Nat.le_of_ble_eq_true rfl) (oneB_spec rfl)) rfl ?_
        rintro _ _ _ ⟨rfl, rfl, rfl⟩
        refine WL.nil ?_
        refine WP.thenC ?_
        refine WC.ofFr [(13, _), (4, _), (11, _), (46, _), (47, _), (48, _)] ⟨rfl, rfl, rfl, rfl, rfl, rfl, trivial⟩ ?_
        refine WC.region ?_
        refine WL.yd (Yd.move rfl) rfl ?_
        refine WL.yd (Yd.fieldAddr FA150_2 rfl) rfl ?_
        refine WL.yd (Yd.loadN Try.isAgg30 Try.sizeOf30 rfl (vs := [_, _]) rfl (by first | exact RdN.own (k := 0) (n := 2) rfl rfl | exact RdN.own (k := 1) (n := 2) rfl rfl | exact RdN.own (k := 2) (n := 2) rfl rfl | exact RdN.own (k := 3) (n := 2) rfl rfl | exact RdN.own (k := 4) (n := 2) rfl rfl)) rfl ?_
        refine WL.so (SO.buildSlice Try.underlying109 Try.sizeOf30 Try.zeroValue30 rfl rfl rfl rfl (cs := [_, _]) rfl) rfl ?_
        rintro _ _ _ ⟨b55, hb55, rfl, rfl, rfl⟩ -- NEW
        refine WL.so (SO.appendOw (o := o) (len := k) (n := 1) (xs := (outX fs (allT T) k)) (size := 2) [_] [_, _, _, _, _] [] rfl rfl Try.underlying109 Try.sizeOf30 Try.typeInfo30 Try.zeroValue30 rfl rfl rfl rfl ⟨rfl, .inr ⟨_, _, _, rfl, RdN.own (k := 0) (n := 2) rfl rfl⟩⟩ (oneB_spec rfl) ho (outX_len hk) (by omega) (by show (2 * (_ + _) + 1000) * 16 ≤ 2 ^ 48; omega) (by omega)) rfl ?_
        rintro _ _ _ ⟨u1, hu1, rfl, rfl, rfl⟩
        refine WL.yd (Yd.assign rfl) rfl ?_
        refine WL.nil ?_
        refine WP.blkNormal ?_
        refine WP.thenC ?_
        refine WC.ofFr [(11, _), (4, _), (46, _), (47, _), (48, _)] ⟨rfl, rfl, rfl, rfl, rfl, trivial⟩ ?_
        refine WC.region ?_
        refine WL.yd (Yd.add rfl rfl (wr64 ⟨by omega, by omega⟩)) rfl ?_
        refine WL.yd (Yd.move rfl) rfl ?_
        refine WL.nil ?_
        exact WP.againT (⟨k + 1, some u1⟩ : Nat × Option Ow) ⟨by simp only; omega, hu1⟩ (by simp only; omega) [_] _ rfl (by show _ = _ ++ owH (some u1) _ (outX fs (allT T) (k + 1)) []; rw [outX_succ hkn]; rfl) ⟨rfl, rfl, rfl, rfl, rfl, trivial⟩
      · try simp only [zq1, zq2, zq3, zq4, zq5, zq6, zq7, zq8] at c49
        refine WC.exit ?_
        refine WP.thenExit ?_
        refine WP.thenExit ?_
        refine WP.blkHit ?_
        refine WP.thenC ?_
        refine WC.seq ?_
        refine WC.ofFr [(4, _), (11, _)] ⟨rfl, rfl, trivial⟩ ?_
        refine WC.region ?_
        obtain rfl : k = fs.length := by omega
        refine WL.freezeOw (f := spC) (m := 2) spC_len [_, _, _, _] [] o 30 (fs.map fun c => spanS c.g (allT T)) rfl (by rw [List.length_map]; exact ho) (by unfold outX; rw [List.take_length]) (fun D2 hX2 hS2 => ?_)
        rw [List.length_map] at hS2
        refine WL.yd (Yd.move rfl) rfl ?_
        refine WL.yd (Yd.assign rfl) rfl ?_
        refine WL.nil ?_
        refine WP.thenC ?_
        refine WC.ret ?_
        refine WP.retMs [Dn1] [_, _, _] [_] [_] rfl rfl (fun _ h => h) (fun h => h) Try.results65 ⟨(RV.tmp rfl), trivial⟩ (fun w1 hI => ⟨_, D2, rfl, hI.keep, hI.imm, (hX1.trans hX6 (Nat.le_refl _)).trans hX2 (Nat.le_refl _), owAt o, _, owV_owL (owL_of ho), hS2⟩)
    · rintro Dn1 c D6 _ hDn1 hX6 hff
      exact hff.elim

set_option maxRecDepth 100000 in
set_option maxHeartbeats 1000000 in
theorem spans_no (T : Tks) (a1 : Option Addr) (n1 c1 : Nat) (q : Nat) (D : Imm) (w : World) (hO : OffAt D q T (.slice a1 n1 c1)) (hR : TksR D T a1 n1) (hH : Holds D w) (hv : tksB T = true) (fs : List Clo) (af : Option Addr) (nf cf : Nat) (hS : SlL D 1 (fs.map fun c => [cloV c]) af nf) (hfs : nf ≤ 100) (hC : ∀ i, i < fs.length → CloOK D (allT T) (gt fs i)) (hne : allT T = []) : Fails Try.prog 65 [pt q, .slice af nf cf] w (stopK 10) := by
  unfold Fails
  obtain rfl := hR.tick.len'
  have hl1 := hR.len
  obtain rfl := hS.len'
  refine enterM Try.func65 rfl 59 Try.ntmps65 (Nat.le_of_ble_eq_true rfl) (Inv.start hH) ?_
  refine WC.seq ?_
  refine WC.ofFr [(0, _), (1, _)] ⟨rfl, rfl, trivial⟩ ?_
  refine WC.region ?_
  refine WL.yd (Yd.assign rfl) rfl ?_
  refine WL.nil ?_
  refine WP.thenC ?_
  refine WC.seq ?_
  refine WC.ofFr [(4, _), (0, _), (1, _)] ⟨rfl, rfl, rfl, trivial⟩ ?_
  refine WC.region ?_
  refine WL.yd (Yd.move rfl) rfl ?_
  refine WL.yd (Yd.lenS rfl Try.underlying147 rfl) rfl ?_
  refine WL.so (SO.makeSlice Try.underlying148 Try.sizeOf150 Try.typeInfo150 Try.zeroValue150 rfl rfl rfl (by omega) (by show 32 * ((fs.length : Nat) : Int) ≤ 2 ^ 48; omega)) rfl ?_
  rintro _ _ _ ⟨b16, hb16, rfl, rfl, rfl⟩ -- NEW
  skip
  refine WL.so (SO.alloc Try.zeroValue148 rfl) rfl ?_
  rintro _ _ _ ⟨b5, hb5, rfl, rfl, rfl⟩ -- NEW
  refine WL.so (SO.store 0 rfl Try.sizeOf148 rfl rfl rfl rfl (Nat.le_of_ble_eq_true rfl) (oneB_spec rfl)) rfl ?_
  rintro _ _ _ ⟨rfl, rfl, rfl⟩
  refine WL.nil ?_
  refine WP.thenC ?_
  refine WC.seq ?_
  refine WC.seq ?_
  refine WC.hpEq (hp' := [(b5, .cells (List.toArray [.slice (some ⟨b16, 0, none⟩) fs.length fs.length]) 148 (0, 0)), (b16, rowsO (iniF fs 0) fs.length)]) (by rw [show iniF fs 0 = fun _ => ((.nilFunc, zMs) : Row) from funext fun u => by unfold iniF; rw [if_neg (by omega)]]; unfold rowsO; rw [← zero_rows]; rfl) ?_
  refine WC.ofFr [(5, _), (4, _), (0, _), (1, _)] ⟨rfl, rfl, rfl, rfl, trivial⟩ ?_
  refine WC.region ?_
  refine WL.yd (Yd.move rfl) rfl ?_
  refine WL.yd (Yd.lenS rfl Try.underlying147 rfl) rfl ?_
  refine WL.yd (Yd.move rfl) rfl ?_
  refine WL.nil ?_
  refine WP.thenC ?_
  refine WC.block ?_
  refine WC.loopT [_] (fun k : Nat => [(0, pt q), (4, .slice none 0 0), (5, pt b5), (17, .slice af fs.length cf), (18, nt fs.length), (19, nt k)]) (fun k => [(b16, rowsO (iniF fs k) fs.length)]) (fun k => k ≤ fs.length) (fun k => fs.length - k) 0 (by omega) rfl ⟨rfl, rfl, rfl, rfl, rfl, rfl, trivial⟩ ?_
  intro k hk
  refine WC.seq ?_
  refine WC.ofFr [(0, _), (4, _), (5, _), (17, _), (18, _), (19, _)] ⟨rfl, rfl, rfl, rfl, rfl, rfl, trivial⟩ ?_
  refine WC.region ?_
  refine WL.yd (Yd.lss rfl rfl) rfl ?_
  refine WL.nil ?_
  refine WP.thenC ?_
  refine WC.seq ?_
  refine WC.cond rfl (fun c20 => ?_) (fun c20 => ?_)
  · try simp only [zq1, zq2, zq3, zq4, zq5, zq6, zq7, zq8] at c20
    have hkn : k < fs.length := by omega
    refine WC.skip ?_
    refine WP.thenC ?_
    refine WC.seq ?_
    refine WC.block ?_
    refine WC.seq ?_
    refine WC.ofFr [(0, _), (4, _), (5, _), (17, _), (18, _), (19, _)] ⟨rfl, rfl, rfl, rfl, rfl, rfl, trivial⟩ ?_
    refine WC.region ?_
    refine WL.yd (Yd.move rfl) rfl ?_
    refine WL.yd (Yd.indexS Try.underlying147 Try.sizeOf122 rfl rfl (by omega) (by omega) (by first | exact hS.addr k (by omega) | exact rfl)) rfl ?_
    refine WL.yd (Yd.load1 Try.isAgg122 rfl (by first | exact Rd.own (k := 0) rfl rfl | exact Rd.own (k := 1) rfl rfl | exact ((hS.at k (by omega)).rd 0 rfl))) rfl ?_
    refine WL.yd (Yd.assign rfl) rfl ?_
    refine WL.yd (Yd.assign rfl) rfl ?_
    refine WL.nil ?_
    refine WP.thenC ?_
    refine WC.ofFr [(7, _), (6, _), (0, _), (4, _), (5, _), (17, _), (18, _), (19, _)] ⟨rfl, rfl, rfl, rfl, rfl, rfl, rfl, rfl, trivial⟩ ?_
    refine WC.region ?_
    refine WL.yd (Yd.load1 Try.isAgg148 rfl (by first | exact Rd.own (k := 0) rfl rfl | exact Rd.own (k := 1) rfl rfl | exact ((hS.at k (by omega)).rd 0 rfl))) rfl ?_
    refine WL.yd (Yd.move rfl) rfl ?_
    refine WL.yd (Yd.move rfl) rfl ?_
    refine WL.yd (Yd.indexS Try.underlying148 Try.sizeOf150 rfl rfl (by omega) (by omega) (by first | exact hS.addr k (by omega) | exact rfl)) rfl ?_
    refine WL.yd (Yd.fieldAddr FA150_0 rfl) rfl ?_
    refine WL.so (SO.storeR (k := 1) (i := k) (j := 0) (cloV (gt fs k), zMs) rfl Try.sizeOf122 rfl rfl rfl rfl hkn rfl (by decide) (oneB_spec rfl) rfl) rfl ?_
    rintro _ _ _ ⟨rfl, rfl, rfl⟩
    refine WL.nil ?_
    refine WP.blkNormal ?_
    refine WP.thenC ?_
    refine WC.ofFr [(0, _), (4, _), (5, _), (17, _), (18, _), (19, _)] ⟨rfl, rfl, rfl, rfl, rfl, rfl, trivial⟩ ?_
    refine WC.region ?_
    refine WL.yd (Yd.add rfl rfl (wr64 ⟨by omega, by omega⟩)) rfl ?_
    refine WL.yd (Yd.move rfl) rfl ?_
    refine WL.nil ?_
    exact WP.againT (k + 1) (by omega) (by omega) [] _ rfl (by rw [← ini_step]; rfl) ⟨rfl, rfl, rfl, rfl, rfl, rfl, trivial⟩
  · try simp only [zq1, zq2, zq3, zq4, zq5, zq6, zq7, zq8] at c20
    refine WC.exit ?_
    refine WP.thenExit ?_
    refine WP.thenExit ?_
    refine WP.blkHit ?_
    refine WP.thenC ?_
    refine WC.seq ?_
    obtain rfl : k = fs.length := by omega
    rw [ini_end]
    refine WC.ofFr [(0, _), (4, _), (5, _)] ⟨rfl, rfl, rfl, trivial⟩ ?_
    refine WC.region ?_
    refine WL.so (SO.alloc Try.zeroValue4 rfl) rfl ?_
    rintro _ _ _ ⟨b8, hb8, rfl, rfl, rfl⟩ -- NEW
    refine WL.so (SO.store 0 rfl Try.sizeOf4 rfl rfl rfl rfl (Nat.le_of_ble_eq_true rfl) (oneB_spec rfl)) rfl ?_
    rintro _ _ _ ⟨rfl, rfl, rfl⟩
    refine WL.nil ?_
    refine WP.thenC ?_
    refine WC.seq ?_
    refine WC.seq ?_
    refine WC.ofFr [(8, _), (0, _), (4, _), (5, _)] ⟨rfl, rfl, rfl, rfl, trivial⟩ ?_
    refine WC.region ?_
    refine WL.yd (Yd.move rfl) rfl ?_
    refine WL.so (SO.makes (Enters.func Try.call87 rfl) (fun w hI => truths_g q D _ hI.imm)) rfl ?_
    rintro _ D1 _ ⟨hX1, ⟨bt, rfl, hbt⟩, rfl⟩
    replace hO := hO.ext hX1
    replace hR := hR.ext hX1
    replace hC : ∀ i, i < fs.length → CloOK D1 (allT T) (gt fs i) := fun i hi => (hC i hi).ext hX1
    refine WL.nil ?_
    refine WP.thenC ?_
    refine WC.block ?_
    refine WC.ofFr [(4, _), (5, _), (8, _), (31, _)] ⟨rfl, rfl, rfl, rfl, trivial⟩ ?_
    refine WC.rangeIterN (N := (allT T).length) (arg := fun k => truV (gt (allT T) k)) (fun w1 _ hD1 => truths1_iter T a1 _ c1 q bt D1 w1 hO hR hbt hv hD1) rfl Try.call93 rfl (fun k _ h => h = [(b8, .cells (List.toArray [.bool (decide (0 < k))]) 4 (0, 0)), (b5, .cells (List.toArray [.slice (some ⟨b16, 0, none⟩) fs.length fs.length]) 148 (0, 0)), (b16, rowsO (msF fs ((allT T).take k)) fs.length)]) (fun _ _ _ => False) (fun _ _ _ _ _ h => h) rfl ?_ ?_ ?_
    · rintro rec1 l1 Dn0 k D5 _ w1 hrec hk rfl hX5 hsz
      unfold RoundGN
      replace hO := hO.ext hX5
      replace hR := hR.ext hX5
      replace hC : ∀ i, i < fs.length → CloOK D5 (allT T) (gt fs i) := fun i hi => (hC i hi).ext hX5
      refine WCF.ofFr [(32, _), (4, _), (5, _), (8, _)] ⟨rfl, rfl, rfl, rfl, trivial⟩ ?_
      refine WCF.region ?_
      refine WLF.so (by intro _ h; cases h) (SO.alloc Try.zeroValue114 rfl) rfl ?_
      rintro _ _ _ ⟨b9, hb9, rfl, rfl, rfl⟩ -- NEW
      refine WLF.so (by intro _ h; cases h) (SO.store 0 rfl Try.sizeOf114 rfl rfl rfl rfl (Nat.le_of_ble_eq_true rfl) (oneB_spec rfl)) rfl ?_
      rintro _ _ _ ⟨rfl, rfl, rfl⟩
      refine WLF.nil ?_
      refine WP.iterBegin 1 rfl hrec ?_
      refine WCF.block ?_
      refine WCF.seq ?_
      refine WCF.ofFr [(9, _), (4, _), (5, _), (8, _)] ⟨rfl, rfl, rfl, rfl, trivial⟩ ?_
      refine WCF.region ?_
      refine WLF.so (by intro _ h; cases h) (SO.store 3 rfl Try.sizeOf4 rfl rfl rfl rfl (Nat.le_of_ble_eq_true rfl) (oneB_spec rfl)) rfl ?_
      rintro _ _ _ ⟨rfl, rfl, rfl⟩
      refine WLF.nil ?_
      refine WP.thenCF ?_
      refine WCF.seq ?_
      refine WCF.ofFr [(9, _), (4, _), (5, _)] ⟨rfl, rfl, rfl, trivial⟩ ?_
      refine WCF.region ?_
      refine WLF.yd (by intro _ h; cases h) (Yd.load1 Try.isAgg148 rfl (by first | exact Rd.own (k := 0) rfl rfl | exact Rd.own (k := 1) rfl rfl | exact Rd.own (k := 2) rfl rfl | exact Rd.own (k := 3) rfl rfl | exact Rd.own (k := 4) rfl rfl | exact Rd.own (k := 5) rfl rfl | exact ((hS.at k (by omega)).rd 0 rfl))) rfl ?_
      refine WLF.yd (by intro _ h; cases h) (Yd.lenS rfl Try.underlying148 rfl) rfl ?_
      refine WLF.yd (by intro _ h; cases h) (Yd.move rfl) rfl ?_
      refine WLF.nil ?_
      refine WP.thenCF ?_
      refine WCF.block ?_
      refine WCF.loopT [_, _, _, _, _] (fun j : Nat => [(5, pt b5), (9, pt b9), (34, nt fs.length), (35, nt j)]) (fun j => [(b16, rowsO (midF fs (allT T) k j) fs.length)]) (fun j => j ≤ fs.length) (fun j => fs.length - j) 0 (by omega) (by rw [mid_start]; rfl) ⟨rfl, rfl, rfl, rfl, trivial⟩ ?_
      intro j hj
      refine WCF.seq ?_
      refine WCF.ofFr [(5, _), (9, _), (34, _), (35, _)] ⟨rfl, rfl, rfl, rfl, trivial⟩ ?_
      refine WCF.region ?_
      refine WLF.yd (by intro _ h; cases h) (Yd.lss rfl rfl) rfl ?_
      refine WLF.nil ?_
      refine WP.thenCF ?_
      refine WCF.seq ?_
      refine WCF.cond rfl (fun c36 => ?_) (fun c36 => ?_)
      · try simp only [zq1, zq2, zq3, zq4, zq5, zq6, zq7, zq8] at c36
        have hjn : j < fs.length := by omega
        refine WCF.skip ?_
        refine WP.thenCF ?_
        refine WCF.seq ?_
        refine WCF.block ?_
        refine WCF.seq ?_
        refine WCF.ofFr [(5, _), (9, _), (34, _), (35, _)] ⟨rfl, rfl, rfl, rfl, trivial⟩ ?_
        refine WCF.region ?_
        refine WLF.yd (by intro _ h; cases h) (Yd.move rfl) rfl ?_
        refine WLF.yd (by intro _ h; cases h) (Yd.assign rfl) rfl ?_
        refine WLF.nil ?_
        refine WP.thenCF ?_
        refine WCF.ofFr [(10, _), (5, _), (9, _), (34, _), (35, _)] ⟨rfl, rfl, rfl, rfl, rfl, trivial⟩ ?_
        refine WCF.tail 4 [0, 1, 2, 3] rfl (by kernel_rfl) (by kernel_rfl) (noLets.blk (noLets.then (noLets.then (noLets.blk (noLets.blk noLets.round))))) ?_
        refine WQ.q rfl (Yd.qt (Yd.load1 Try.isAgg148 rfl (by first | exact Rd.own (k := 0) rfl rfl | exact Rd.own (k := 1) rfl rfl | exact Rd.own (k := 2) rfl rfl | exact Rd.own (k := 3) rfl rfl | exact Rd.own (k := 4) rfl rfl | exact Rd.own (k := 5) rfl rfl | exact ((hS.at k (by omega)).rd 0 rfl)))) rfl ?_
        refine WQ.q rfl (Yd.qt (Yd.move rfl)) rfl ?_
        refine WQ.q rfl (Yd.qt (Yd.indexS Try.underlying148 Try.sizeOf150 rfl rfl (by omega) (by omega) (by first | exact hS.addr k (by omega) | exact rfl))) rfl ?_
        refine WQ.q rfl (Yd.qt (Yd.loadN Try.isAgg114 Try.sizeOf114 rfl (vs := [_, _, _, _, _, _, _, _, _, _]) rfl (by first | exact RdN.own (k := 0) (n := 10) rfl rfl | exact RdN.own (k := 1) (n := 10) rfl rfl | exact RdN.own (k := 2) (n := 10) rfl rfl | exact RdN.own (k := 3) (n := 10) rfl rfl | exact RdN.own (k := 4) (n := 10) rfl rfl | exact RdN.own (k := 5) (n := 10) rfl rfl))) rfl ?_
        refine WQ.tailR ?_
        refine WLF.so (by intro _ h; cases h) (SO.alters (own := [_, _, _, _, _]) (hpc := [_]) (S1 := [b16]) (fun _ h => h) (fun h => h) (fun _ h => h) (fun _ h => h) (Enters.func Try.call88 rfl) (fun w1 hI => see_g (midF fs (allT T) k j) fs.length j hjn (gt fs j) (foldS (gt fs j).g ((allT T).take k)) (by unfold midF; rw [if_neg (by omega)]) (allT T) (gt (allT T) k) (gt_mem hk) D5 w1 (hC j hjn) b16 hI)) rfl ?_
        rintro _ _ _ ⟨_, _, ⟨rfl, rfl, rfl⟩, rfl⟩
        refine WLF.nil ?_
        refine WP.blkNormal ?_
        refine WP.thenCF ?_
        refine WCF.ofFr [(5, _), (9, _), (34, _), (35, _)] ⟨rfl, rfl, rfl, rfl, trivial⟩ ?_
        refine WCF.region ?_
        refine WLF.yd (by intro _ h; cases h) (Yd.add rfl rfl (wr64 ⟨by omega, by omega⟩)) rfl ?_
        refine WLF.yd (by intro _ h; cases h) (Yd.move rfl) rfl ?_
        refine WLF.nil ?_
        exact WP.againT (j + 1) (by omega) (by omega) [] _ rfl (by rw [← mid_step fs hk]; rfl) ⟨rfl, rfl, rfl, rfl, trivial⟩
      · try simp only [zq1, zq2, zq3, zq4, zq5, zq6, zq7, zq8] at c36
        obtain rfl : j = fs.length := by omega
        refine WCF.exit ?_
        refine WP.thenExit ?_
        refine WP.thenExit ?_
        refine WP.blkHit ?_
        refine WP.blkNormal ?_
        refine WP.iterOnN hrec (h1 := [_, _, _]) (fun _ h => List.mem_cons_of_mem _ h) (fun h => (List.nodup_cons.1 h).2) (DExt.refl _ _) ?_
        rw [← mid_end, decide_eq_true (show 0 < k + 1 by omega)]
        rfl
    · rintro Dn1 D6 _ hDn1 hX6 rfl
      rw [List.take_length]
      have hpos : ¬ 0 < (allT T).length := by rw [hne]; simp
      refine WP.blkNormal ?_
      refine WP.thenC ?_
      refine WC.seq ?_
      refine WC.ofFr [(4, _), (5, _), (8, _)] ⟨rfl, rfl, rfl, trivial⟩ ?_
      refine WC.region ?_
      refine WL.yd (Yd.load1 Try.isAgg4 rfl (by first | exact Rd.own (k := 0) rfl rfl | exact Rd.own (k := 1) rfl rfl | exact Rd.own (k := 2) rfl rfl | exact Rd.own (k := 3) rfl rfl | exact ((hS.at k (by omega)).rd 0 rfl))) rfl ?_
      refine WL.know 44 (.bool false) rfl (congrArg Value.bool (decide_eq_false hpos)) ?_
      refine WL.no (SO.fail (Enters.func Try.call83 rfl) (fun w hI => mustK_no _ _) ?_)
      refine WP.thenPanic ?_
      exact WP.panicMs [Dn1] [_, _, _] rfl (fun _ h => h) (fun h => h) (fun w hI => ⟨rfl, hI.keep⟩)
    · rintro Dn1 c D6 _ hDn1 hX6 hff
      exact hff.elim

end Go.Proofs.Ytpnbkdlejfmbeaa
namespace Go.Proofs.Ytpnbkdlejfmbeaa
open Go.W Go.Ti

theorem okTr_mem {T : Tks} (hv : tksB T = true) {t : Tru} (h : t ∈ allT T) : okTr t := fun i => by
  have hs := mem_allT.1 h
  rcases Nat.lt_or_ge i T.l.length with hi | hi
  · have h1 := pairP_iff.1 (hs.pair i hi)
    have h2 := (tks_num hv).2.2 i hi
    omega
  · rw [hs.rest i hi]; simp
theorem tru_rdn (t : Tru) {i : Nat} (hi : i < 5) : slc (truC t) (0 + i * 2) 2 = [it (t i).1, it (t i).2] := by
  rcases (show i = 0 ∨ i = 1 ∨ i = 2 ∨ i = 3 ∨ i = 4 by omega) with rfl | rfl | rfl | rfl | rfl <;> rfl
def oddK (n k : Nat) (t : Tru) : Int := (((List.range k).filter fun i => !turnT n t i).length : Int)
theorem oddK_bound (n k : Nat) (t : Tru) : 0 ≤ oddK n k t ∧ oddK n k t ≤ k := by
  unfold oddK
  have := List.length_filter_le (fun i => !turnT n t i) (List.range k)
  rw [List.length_range] at this
  omega
theorem oddK_succ (n k : Nat) (t : Tru) : oddK n (k + 1) t = if turnT n t k then oddK n k t else oddK n k t + 1 := by
  unfold oddK
  rw [List.range_succ, List.filter_append, List.length_append]
  cases h : turnT n t k <;> simp [h]

set_option maxRecDepth 100000 in
set_option maxHeartbeats 1000000 in
theorem min1_g (a b1 : Nat) (ha : a < 5) (D : Imm) (h1 : D b1 = some (.cells (List.toArray [nt a]) 3 (0, 0))) (t : Tru) (w : World) (hH : Holds D w) : Gives Try.prog 72 [truV t, pt b1] w (it (t a).1) := by
  unfold Gives
  refine enter Try.func72 rfl 8 Try.ntmps72 (Nat.le_of_ble_eq_true rfl) (Inv.start hH) ?_
  refine WC.seq ?_
  refine WC.ofFr [(0, _), (1, _)] ⟨rfl, rfl, trivial⟩ ?_
  refine WC.region ?_
  refine WL.so (SO.box rfl rfl) rfl ?_
  rintro _ _ _ ⟨b2, hb2, rfl, rfl, rfl⟩ -- NEW
  refine WL.yd (Yd.assign rfl) rfl ?_
  refine WL.nil ?_
  refine WP.thenC ?_
  refine WC.seq ?_
  refine WC.ofFr [(3, _), (2, _), (1, _)] ⟨rfl, rfl, rfl, trivial⟩ ?_
  refine WC.region ?_
  refine WL.yd (Yd.load1 Try.isAgg3 rfl (by first | exact (Rd.imm h1 rfl) | exact (Rd.own (k := 0) rfl (tru_rd t (i := a) (by omega)).1) | exact (Rd.own (k := 0) rfl (tru_rd t (i := a) (by omega)).2))) rfl ?_
  refine WL.yd (Yd.indexA Try.underlying114 Try.sizeOf112 rfl rfl (by omega) (by omega)) rfl ?_
  refine WL.yd (Yd.fieldAddr FA112_0 rfl) rfl ?_
  refine WL.yd (Yd.load1 Try.isAgg3 rfl (by first | exact (Rd.imm h1 rfl) | exact (Rd.own (k := 0) rfl (tru_rd t (i := a) (by omega)).1) | exact (Rd.own (k := 0) rfl (tru_rd t (i := a) (by omega)).2))) rfl ?_
  refine WL.yd (Yd.assign rfl) rfl ?_
  refine WL.nil ?_
  refine WP.thenC ?_
  refine WC.ret ?_
  refine WP.ret1 rfl rfl Try.results72 (RV.tmp rfl) (fun w hI => ⟨rfl, hI.keep⟩)

set_option maxRecDepth 100000 in
set_option maxHeartbeats 1000000 in
theorem min2_g (a b1 : Nat) (ha : a < 5) (D : Imm) (h1 : D b1 = some (.cells (List.toArray [nt a]) 3 (0, 0))) (t : Tru) (w : World) (hH : Holds D w) : Gives Try.prog 73 [truV t, pt b1] w (it (t a).2) := by
  unfold Gives
  refine enter Try.func73 rfl 8 Try.ntmps73 (Nat.le_of_ble_eq_true rfl) (Inv.start hH) ?_
  refine WC.seq ?_
  refine WC.ofFr [(0, _), (1, _)] ⟨rfl, rfl, trivial⟩ ?_
  refine WC.region ?_
  refine WL.so (SO.box rfl rfl) rfl ?_
  rintro _ _ _ ⟨b2, hb2, rfl, rfl, rfl⟩ -- NEW
  refine WL.yd (Yd.assign rfl) rfl ?_
  refine WL.nil ?_
  refine WP.thenC ?_
  refine WC.seq ?_
  refine WC.ofFr [(3, _), (2, _), (1, _)] ⟨rfl, rfl, rfl, trivial⟩ ?_
  refine WC.region ?_
  refine WL.yd (Yd.load1 Try.isAgg3 rfl (by first | exact (Rd.imm h1 rfl) | exact (Rd.own (k := 0) rfl (tru_rd t (i := a) (by omega)).1) | exact (Rd.own (k := 0) rfl (tru_rd t (i := a) (by omega)).2))) rfl ?_
  refine WL.yd (Yd.indexA Try.underlying114 Try.sizeOf112 rfl rfl (by omega) (by omega)) rfl ?_
  refine WL.yd (Yd.fieldAddr FA112_1 rfl) rfl ?_
  refine WL.yd (Yd.load1 Try.isAgg3 rfl (by first | exact (Rd.imm h1 rfl) | exact (Rd.own (k := 0) rfl (tru_rd t (i := a) (by omega)).1) | exact (Rd.own (k := 0) rfl (tru_rd t (i := a) (by omega)).2))) rfl ?_
  refine WL.yd (Yd.assign rfl) rfl ?_
  refine WL.nil ?_
  refine WP.thenC ?_
  refine WC.ret ?_
  refine WP.ret1 rfl rfl Try.results73 (RV.tmp rfl) (fun w hI => ⟨rfl, hI.keep⟩)

set_option maxRecDepth 100000 in
set_option maxHeartbeats 1000000 in
theorem waitc_g (T : Tks) (a1 : Option Addr) (n1 c1 b1 : Nat) (D : Imm) (hn1 : n1 = T.l.length) (h5 : T.l.length ≤ 5) (h1 : D b1 = some (boxT T (.slice a1 n1 c1))) (t : Tru) (hok : okTr t) (w : World) (hH : Holds D w) : Gives Try.prog 92 [truV t, pt b1] w (it (longT T.l.length t)) := by
  unfold Gives
  subst hn1
  refine enter Try.func92 rfl 25 Try.ntmps92 (Nat.le_of_ble_eq_true rfl) (Inv.start hH) ?_
  refine WC.seq ?_
  refine WC.ofFr [(0, _), (1, _)] ⟨rfl, rfl, trivial⟩ ?_
  refine WC.region ?_
  refine WL.so (SO.box rfl rfl) rfl ?_
  rintro _ _ _ ⟨b2, hb2, rfl, rfl, rfl⟩ -- NEW
  refine WL.yd (Yd.assign rfl) rfl ?_
  refine WL.nil ?_
  refine WP.thenC ?_
  refine WC.seq ?_
  refine WC.ofFr [(3, _), (2, _), (1, _)] ⟨rfl, rfl, rfl, trivial⟩ ?_
  refine WC.region ?_
  refine WL.yd (Yd.assign rfl) rfl ?_
  refine WL.nil ?_
  refine WP.thenC ?_
  refine WC.seq ?_
  refine WC.seq ?_
  refine WC.ofFr [(4, _), (3, _), (2, _), (1, _)] ⟨rfl, rfl, rfl, rfl, trivial⟩ ?_
  refine WC.region ?_
  refine WL.yd (Yd.fieldAddr FA35_1 rfl) rfl ?_
  refine WL.yd (Yd.load1 Try.isAgg33 rfl (by first | exact Rd.own (k := 0) rfl rfl | exact (Rd.imm h1 rfl))) rfl ?_
  refine WL.yd (Yd.lenS rfl Try.underlying33 rfl) rfl ?_
  refine WL.yd (Yd.sliceArr Try.underlying114 Try.sizeOf112 rfl rfl h5) rfl ?_
  refine WL.yd (Yd.lenS rfl Try.underlying157 rfl) rfl ?_
  refine WL.yd (Yd.move rfl) rfl ?_
  refine WL.nil ?_
  refine WP.thenC ?_
  refine WC.block ?_
  refine WC.loopT [] (fun k : Nat => [(4, it (longT k t)), (10, .slice (some ⟨b2, 0, none⟩) T.l.length 5), (11, nt T.l.length), (12, nt k)]) (fun _ => [(b2, .cells (List.toArray (truC t)) 114 (0, 0))]) (fun k => k ≤ T.l.length) (fun k => T.l.length - k) 0 (by omega) rfl ⟨rfl, rfl, rfl, rfl, trivial⟩ ?_
  intro k hk
  refine WC.seq ?_
  refine WC.ofFr [(4, _), (10, _), (11, _), (12, _)] ⟨rfl, rfl, rfl, rfl, trivial⟩ ?_
  refine WC.region ?_
  refine WL.yd (Yd.lss rfl rfl) rfl ?_
  refine WL.nil ?_
  refine WP.thenC ?_
  refine WC.seq ?_
  refine WC.cond rfl (fun c13 => ?_) (fun c13 => ?_)
  · try simp only [zq1, zq2, zq3, zq4, zq5, zq6, zq7, zq8] at c13
    have hk5 : k < 5 := by omega
    have hbk := hok k
    refine WC.skip ?_
    refine WP.thenC ?_
    refine WC.seq ?_
    refine WC.block ?_
    refine WC.seq ?_
    refine WC.ofFr [(4, _), (10, _), (11, _), (12, _)] ⟨rfl, rfl, rfl, rfl, trivial⟩ ?_
    refine WC.region ?_
    refine WL.yd (Yd.indexS Try.underlying157 Try.sizeOf112 rfl rfl (by omega) (by omega) (by first | exact rfl)) rfl ?_
    refine WL.yd (Yd.loadN Try.isAgg112 Try.sizeOf112 rfl (vs := [_, _]) rfl (by first | exact RdN.own (k := 0) (n := 2) rfl rfl | exact (RdN.own (k := 0) (n := 2) rfl (tru_rdn t hk5)))) rfl ?_
    refine WL.so (SO.alloc Try.zeroValue112 rfl) rfl ?_
    rintro _ _ _ ⟨b6, hb6, rfl, rfl, rfl⟩ -- NEW
    refine WL.so (SO.store 0 rfl Try.sizeOf112 rfl rfl rfl rfl (Nat.le_of_ble_eq_true rfl) (oneB_spec rfl)) rfl ?_
    rintro _ _ _ ⟨rfl, rfl, rfl⟩
    refine WL.nil ?_
    refine WP.thenC ?_
    refine WC.ofFr [(6, _), (4, _), (10, _), (11, _), (12, _)] ⟨rfl, rfl, rfl, rfl, rfl, trivial⟩ ?_
    refine WC.region ?_
    refine WL.yd (Yd.move rfl) rfl ?_
    refine WL.yd (Yd.fieldAddr FA112_1 rfl) rfl ?_
    refine WL.yd (Yd.load1 Try.isAgg3 rfl (by first | exact Rd.own (k := 0) rfl rfl | exact Rd.own (k := 1) rfl rfl | exact (Rd.imm h1 rfl))) rfl ?_
    refine WL.yd (Yd.fieldAddr FA112_0 rfl) rfl ?_
    refine WL.yd (Yd.load1 Try.isAgg3 rfl (by first | exact Rd.own (k := 0) rfl rfl | exact Rd.own (k := 1) rfl rfl | exact (Rd.imm h1 rfl))) rfl ?_
    refine WL.know 18 (it (t k).2) rfl rfl ?_
    refine WL.know 20 (it (t k).1) rfl rfl ?_
    refine WL.yd (Yd.sub rfl rfl (wr64 ⟨by omega, by omega⟩)) rfl ?_
    refine WL.yd (Yd.max2 rfl rfl) rfl ?_
    refine WL.yd (Yd.assign rfl) rfl ?_
    refine WL.nil ?_
    refine WP.blkNormal ?_
    refine WP.thenC ?_
    refine WC.ofFr [(4, _), (10, _), (11, _), (12, _)] ⟨rfl, rfl, rfl, rfl, trivial⟩ ?_
    refine WC.region ?_
    refine WL.yd (Yd.add rfl rfl (wr64 ⟨by omega, by omega⟩)) rfl ?_
    refine WL.yd (Yd.move rfl) rfl ?_
    refine WL.nil ?_
    exact WP.againT (k + 1) (by omega) (by omega) [_] _ rfl rfl ⟨rfl, rfl, rfl, rfl, trivial⟩
  · try simp only [zq1, zq2, zq3, zq4, zq5, zq6, zq7, zq8] at c13
    obtain rfl : k = T.l.length := by omega
    refine WC.exit ?_
    refine WP.thenExit ?_
    refine WP.thenExit ?_
    refine WP.blkHit ?_
    refine WP.thenC ?_
    refine WC.seq ?_
    refine WC.ofFr [(4, _)] ⟨rfl, trivial⟩ ?_
    refine WC.region ?_
    refine WL.yd (Yd.move rfl) rfl ?_
    refine WL.yd (Yd.assign rfl) rfl ?_
    refine WL.nil ?_
    refine WP.thenC ?_
    refine WC.ret ?_
    refine WP.ret1 rfl rfl Try.results92 (RV.tmp rfl) (fun w hI => ⟨rfl, hI.keep⟩)

set_option maxRecDepth 100000 in
set_option maxHeartbeats 1000000 in
theorem wrongc_g (T : Tks) (a1 : Option Addr) (n1 c1 : Nat) (q : Nat) (D : Imm) (w : World) (hO : OffAt D q T (.slice a1 n1 c1)) (hR : TksR D T a1 n1) (hH : Holds D w) (hv : tksB T = true) (b1 b2 : Nat) (h1 : D b1 = some (boxT T (.slice a1 n1 c1))) (h2 : D b2 = some (.cells (List.toArray [pt q]) 107 (0, 0))) (t : Tru) : Gives Try.prog 66 [truV t, pt b1, pt b2] w (it (oddT T.l.length t)) := by
  unfold Gives
  obtain rfl := hR.tick.len'
  have hl1 := hR.len
  have h5 := (tks_num hv).2.1
  refine enter Try.func66 rfl 27 Try.ntmps66 (Nat.le_of_ble_eq_true rfl) (Inv.start hH) ?_
  refine WC.seq ?_
  refine WC.ofFr [(0, _), (1, _), (2, _)] ⟨rfl, rfl, rfl, trivial⟩ ?_
  refine WC.region ?_
  refine WL.so (SO.box rfl rfl) rfl ?_
  rintro _ _ _ ⟨b3, hb3, rfl, rfl, rfl⟩ -- NEW
  refine WL.yd (Yd.assign rfl) rfl ?_
  refine WL.nil ?_
  refine WP.thenC ?_
  refine WC.seq ?_
  refine WC.ofFr [(4, _), (3, _), (1, _), (2, _)] ⟨rfl, rfl, rfl, rfl, trivial⟩ ?_
  refine WC.region ?_
  refine WL.yd (Yd.assign rfl) rfl ?_
  refine WL.nil ?_
  refine WP.thenC ?_
  refine WC.seq ?_
  refine WC.seq ?_
  refine WC.ofFr [(5, _), (4, _), (3, _), (1, _), (2, _)] ⟨rfl, rfl, rfl, rfl, rfl, trivial⟩ ?_
  refine WC.region ?_
  refine WL.yd (Yd.fieldAddr FA35_1 rfl) rfl ?_
  refine WL.yd (Yd.load1 Try.isAgg33 rfl (by first | exact Rd.own (k := 0) rfl rfl | exact (Rd.imm h1 rfl) | exact (Rd.imm h2 rfl))) rfl ?_
  refine WL.yd (Yd.lenS rfl Try.underlying33 rfl) rfl ?_
  refine WL.yd (Yd.move rfl) rfl ?_
  refine WL.nil ?_
  refine WP.thenC ?_
  refine WC.block ?_
  refine WC.loopF (fun k : Nat => [(1, pt b1), (2, pt b2), (3, pt b3), (5, it (oddK T.l.length k t)), (10, nt T.l.length), (11, nt k)]) (fun k => k ≤ T.l.length) (fun k => T.l.length - k) 0 (by omega) ⟨rfl, rfl, rfl, rfl, rfl, rfl, trivial⟩ ?_
  intro k hk
  refine WC.seq ?_
  refine WC.ofFr [(1, _), (2, _), (3, _), (5, _), (10, _), (11, _)] ⟨rfl, rfl, rfl, rfl, rfl, rfl, trivial⟩ ?_
  refine WC.region ?_
  refine WL.yd (Yd.lss rfl rfl) rfl ?_
  refine WL.nil ?_
  refine WP.thenC ?_
  refine WC.seq ?_
  refine WC.cond rfl (fun c12 => ?_) (fun c12 => ?_)
  · try simp only [zq1, zq2, zq3, zq4, zq5, zq6, zq7, zq8] at c12
    have hk5 : k < T.l.length := by omega
    have hob := oddK_bound T.l.length k t
    have hos := oddK_succ T.l.length k t
    refine WC.skip ?_
    refine WP.thenC ?_
    refine WC.seq ?_
    refine WC.block ?_
    refine WC.seq ?_
    refine WC.ofFr [(1, _), (2, _), (3, _), (5, _), (10, _), (11, _)] ⟨rfl, rfl, rfl, rfl, rfl, rfl, trivial⟩ ?_
    refine WC.region ?_
    refine WL.yd (Yd.move rfl) rfl ?_
    refine WL.yd (Yd.assign rfl) rfl ?_
    refine WL.nil ?_
    refine WP.thenC ?_
    refine WC.seq ?_
    refine WC.ofFr [(6, _), (1, _), (2, _), (3, _), (5, _), (10, _), (11, _)] ⟨rfl, rfl, rfl, rfl, rfl, rfl, rfl, trivial⟩ ?_
    refine WC.region ?_
    refine WL.yd (Yd.move rfl) rfl ?_
    refine WL.yd (Yd.build SA116 rfl (cs := [_, _]) rfl) rfl ?_
    refine WL.yd (Yd.build SA118 rfl (cs := [_, _]) rfl) rfl ?_
    refine WL.yd (Yd.iface Try.underlying118 (by intro _ h; cases h) rfl) rfl ?_
    refine WL.yd (Yd.assign rfl) rfl ?_
    refine WL.nil ?_
    refine WP.thenC ?_
    refine WC.seq ?_
    refine WC.ofFr [(7, _), (1, _), (2, _), (3, _), (5, _), (10, _), (11, _)] ⟨rfl, rfl, rfl, rfl, rfl, rfl, rfl, trivial⟩ ?_
    refine WC.region ?_
    refine WL.yd (Yd.move rfl) rfl ?_
    refine WL.yd (Yd.load1 Try.isAgg107 rfl (by first | exact Rd.own (k := 0) rfl rfl | exact (Rd.imm h1 rfl) | exact (Rd.imm h2 rfl))) rfl ?_
    refine WL.yd (Yd.loadN Try.isAgg114 Try.sizeOf114 rfl (vs := [_, _, _, _, _, _, _, _, _, _]) rfl (by first | exact RdN.own (k := 0) (n := 10) rfl rfl)) rfl ?_
    refine WL.so (SO.call (Enters.meth Try.call119 (fun w => by kernel_rfl) rfl rfl) (fun w hI => turnis_g T a1 _ c1 q D _ hO hR hI.imm hv t k (by omega))) rfl ?_
    rintro _ _ _ ⟨rfl, rfl, rfl⟩
    refine WL.yd (Yd.not rfl) rfl ?_
    refine WL.nil ?_
    refine WP.thenC ?_
    refine WC.cond rfl (fun c22 => ?_) (fun c22 => ?_)
    · try simp only [zq1, zq2, zq3, zq4, zq5, zq6, zq7, zq8] at c22
      have hst : oddK T.l.length (k + 1) t = oddK T.l.length k t + 1 := by rw [hos, if_neg (by simp_all)]
      refine WC.ofFr [(1, _), (2, _), (3, _), (5, _), (10, _), (11, _)] ⟨rfl, rfl, rfl, rfl, rfl, rfl, trivial⟩ ?_
      refine WC.region ?_
      refine WL.yd (Yd.move rfl) rfl ?_
      refine WL.yd (Yd.add rfl rfl (wr64 ⟨by omega, by omega⟩)) rfl ?_
      refine WL.yd (Yd.assign rfl) rfl ?_
      refine WL.nil ?_
      refine WP.blkNormal ?_
      refine WP.thenC ?_
      refine WC.ofFr [(5, _), (1, _), (2, _), (3, _), (10, _), (11, _)] ⟨rfl, rfl, rfl, rfl, rfl, rfl, trivial⟩ ?_
      refine WC.region ?_
      refine WL.yd (Yd.add rfl rfl (wr64 ⟨by omega, by omega⟩)) rfl ?_
      refine WL.yd (Yd.move rfl) rfl ?_
      refine WL.nil ?_
      exact WP.againF (k + 1) (by omega) (by omega) ⟨rfl, rfl, rfl, by rw [hst]; rfl, rfl, rfl, trivial⟩ (fun _ h => h) (fun h => h)
    · try simp only [zq1, zq2, zq3, zq4, zq5, zq6, zq7, zq8] at c22
      have hst : oddK T.l.length (k + 1) t = oddK T.l.length k t := by rw [hos, if_pos (by simp_all)]
      refine WC.skip ?_
      refine WP.blkNormal ?_
      refine WP.thenC ?_
      refine WC.ofFr [(1, _), (2, _), (3, _), (5, _), (10, _), (11, _)] ⟨rfl, rfl, rfl, rfl, rfl, rfl, trivial⟩ ?_
      refine WC.region ?_
      refine WL.yd (Yd.add rfl rfl (wr64 ⟨by omega, by omega⟩)) rfl ?_
      refine WL.yd (Yd.move rfl) rfl ?_
      refine WL.nil ?_
      exact WP.againF (k + 1) (by omega) (by omega) ⟨rfl, rfl, rfl, by rw [hst]; rfl, rfl, rfl, trivial⟩ (fun _ h => h) (fun h => h)
  · try simp only [zq1, zq2, zq3, zq4, zq5, zq6, zq7, zq8] at c12
    obtain rfl : k = T.l.length := by omega
    refine WC.exit ?_
    refine WP.thenExit ?_
    refine WP.thenExit ?_
    refine WP.blkHit ?_
    refine WP.thenC ?_
    refine WC.seq ?_
    refine WC.ofFr [(5, _)] ⟨rfl, trivial⟩ ?_
    refine WC.region ?_
    refine WL.yd (Yd.move rfl) rfl ?_
    refine WL.yd (Yd.assign rfl) rfl ?_
    refine WL.nil ?_
    refine WP.thenC ?_
    refine WC.ret ?_
    refine WP.ret1 rfl rfl Try.results66 (RV.tmp rfl) (fun w hI => ⟨rfl, hI.keep⟩)

theorem fs1_sl (D : Imm) (c : Clo) (b : Nat) (hb : D b = some (.cells (List.toArray [cloV c]) 122 (0, 0))) : SlL D 1 ([c].map fun c => [cloV c]) (some ⟨b, 0, none⟩) 1 :=
  SlL.ofBlock (f := fun c => [cloV c]) (l := [c]) (rest := []) (fun _ => rfl) hb
theorem fs2_sl (D : Imm) (c d : Clo) (b : Nat) (hb : D b = some (.cells (List.toArray [cloV c, cloV d]) 122 (0, 0))) : SlL D 1 ([c, d].map fun c => [cloV c]) (some ⟨b, 0, none⟩) 2 :=
  SlL.ofBlock (f := fun c => [cloV c]) (l := [c, d]) (rest := []) (fun _ => rfl) hb
theorem cl1 {φ : Clo → Prop} {c : Clo} (h : φ c) : ∀ i, i < [c].length → φ (gt [c] i) := fun i hi => by
  obtain rfl : i = 0 := by simpa using hi
  exact h
theorem cl2 {φ : Clo → Prop} {c d : Clo} (h : φ c) (h' : φ d) : ∀ i, i < [c, d].length → φ (gt [c, d] i) := fun i hi => by
  rcases (show i = 0 ∨ i = 1 by simp at hi; omega) with rfl | rfl
  · exact h
  · exact h'
theorem spans1_ok (T : Tks) (a1 : Option Addr) (n1 c1 : Nat) (q : Nat) (D : Imm) (w : World) (hO : OffAt D q T (.slice a1 n1 c1)) (hR : TksR D T a1 n1) (hH : Holds D w) (hv : tksB T = true) (c : Clo) (b : Nat) (hb : D b = some (.cells (List.toArray [cloV c]) 122 (0, 0))) (hC : CloOK D (allT T) c) (hne : allT T ≠ []) :
    Makes Try.prog 65 [pt q, .slice (some ⟨b, 0, none⟩) 1 1] w D (fun v D' => ∃ a c9, v = .slice a 1 c9 ∧ SlL D' 2 ([spanS c.g (allT T)].map spC) a 1) :=
  spans_ok T a1 n1 c1 q D w hO hR hH hv [c] _ 1 1 (fs1_sl D c b hb) (by omega) (cl1 hC) hne
theorem spans1_no (T : Tks) (a1 : Option Addr) (n1 c1 : Nat) (q : Nat) (D : Imm) (w : World) (hO : OffAt D q T (.slice a1 n1 c1)) (hR : TksR D T a1 n1) (hH : Holds D w) (hv : tksB T = true) (c : Clo) (b : Nat) (hb : D b = some (.cells (List.toArray [cloV c]) 122 (0, 0))) (hC : CloOK D (allT T) c) (hne : allT T = []) :
    Fails Try.prog 65 [pt q, .slice (some ⟨b, 0, none⟩) 1 1] w (stopK 10) :=
  spans_no T a1 n1 c1 q D w hO hR hH hv [c] _ 1 1 (fs1_sl D c b hb) (by omega) (cl1 hC) hne
theorem spans2_ok (T : Tks) (a1 : Option Addr) (n1 c1 : Nat) (q : Nat) (D : Imm) (w : World) (hO : OffAt D q T (.slice a1 n1 c1)) (hR : TksR D T a1 n1) (hH : Holds D w) (hv : tksB T = true) (c d : Clo) (b : Nat) (hb : D b = some (.cells (List.toArray [cloV c, cloV d]) 122 (0, 0))) (hC : CloOK D (allT T) c) (hC' : CloOK D (allT T) d) (hne : allT T ≠ []) :
    Makes Try.prog 65 [pt q, .slice (some ⟨b, 0, none⟩) 2 2] w D (fun v D' => ∃ a c9, v = .slice a 2 c9 ∧ SlL D' 2 ([spanS c.g (allT T), spanS d.g (allT T)].map spC) a 2) :=
  spans_ok T a1 n1 c1 q D w hO hR hH hv [c, d] _ 2 2 (fs2_sl D c d b hb) (by omega) (cl2 hC hC') hne
theorem spans2_no (T : Tks) (a1 : Option Addr) (n1 c1 : Nat) (q : Nat) (D : Imm) (w : World) (hO : OffAt D q T (.slice a1 n1 c1)) (hR : TksR D T a1 n1) (hH : Holds D w) (hv : tksB T = true) (c d : Clo) (b : Nat) (hb : D b = some (.cells (List.toArray [cloV c, cloV d]) 122 (0, 0))) (hC : CloOK D (allT T) c) (hC' : CloOK D (allT T) d) (hne : allT T = []) :
    Fails Try.prog 65 [pt q, .slice (some ⟨b, 0, none⟩) 2 2] w (stopK 10) :=
  spans_no T a1 n1 c1 q D w hO hR hH hv [c, d] _ 2 2 (fs2_sl D c d b hb) (by omega) (cl2 hC hC') hne

end Go.Proofs.Ytpnbkdlejfmbeaa
namespace Go.Proofs.Ytpnbkdlejfmbeaa
open Go.W Go.Ti

def spV (s : Sp) : Value := .agg #[it s.lo, it s.hi]

set_option maxRecDepth 100000 in
set_option maxHeartbeats 1000000 in
theorem Waits_1 (T : Tks) (a1 : Option Addr) (n1 c1 : Nat) (D : Imm) (w : World) (hR : TksR D T a1 n1) (hH : Holds D w) (hv : tksB T = false) : Gives Try.prog 77 [.agg #[it T.huts, .slice a1 n1 c1]] w (.tuple #[spV (WaitsOut T).1, it (WaitsOut T).2]) := by
  unfold Gives
  obtain rfl := hR.tick.len'
  have hl1 := hR.len
  have hE : tksE T true = 1 := by
    unfold tksE
    rw [if_pos hv]
  have hO0 : WaitsOut T = (⟨0, 0⟩, 1) := by unfold WaitsOut; rw [if_pos (by rw [hE]; simp), hE]
  refine enterD Try.func77 rfl 12 Try.ntmps77 (Nat.le_of_ble_eq_true rfl) (Inv.start hH) ?_
  refine WC.seq ?_
  refine WC.ofFr [(0, _)] ⟨rfl, trivial⟩ ?_
  refine WC.region ?_
  refine WL.so (SO.box rfl rfl) rfl ?_
  rintro _ _ _ ⟨b1, hb1, rfl, rfl, rfl⟩ -- NEW
  refine WL.so (SO.alloc Try.zeroValue30 rfl) rfl ?_
  rintro _ _ _ ⟨b2, hb2, rfl, rfl, rfl⟩ -- NEW
  refine WL.so (SO.alloc Try.zeroValue24 rfl) rfl ?_
  rintro _ _ _ ⟨b3, hb3, rfl, rfl, rfl⟩ -- NEW
  refine WL.nil ?_
  refine WP.thenC ?_
  refine WC.seq ?_
  refine WC.ofFr [(3, _), (2, _), (1, _)] ⟨rfl, rfl, rfl, trivial⟩ ?_
  refine WC.region ?_
  refine WL.yd (Yd.func rfl rfl) rfl ?_
  refine WL.defer rfl ?_
  refine WL.nil ?_
  refine WP.thenC ?_
  refine WC.seq ?_
  refine WC.freezeN 2 b1 (boxT T (.slice a1 T.l.length c1)) rfl rfl hb1 (fun D1 hX1 h1 => ?_)
  replace hR := hR.ext hX1
  refine WC.ofFr [(3, _), (2, _), (1, _)] ⟨rfl, rfl, rfl, trivial⟩ ?_
  refine WC.region ?_
  refine WL.yd (Yd.loadN Try.isAgg35 Try.sizeOf35 rfl (vs := [_, _]) rfl (by first | exact RdN.own (k := 0) (n := 2) rfl rfl | exact RdN.own (k := 1) (n := 2) rfl rfl | exact (RdN.imm (n := 2) h1 rfl) | exact ((hS9.at 0 (by omega)).rdn 0 2 rfl))) rfl ?_
  refine WL.no (SO.fail (Enters.func Try.call64 rfl) (fun w hI => open_1 T a1 _ c1 _ _ hR hI.imm true hv) ?_)
  refine WP.thenPanic ?_
  refine WP.panicD (k := 0) [_, _] [_, _] rfl Try.call91 rfl (fun w hI => catch91 _ _ _ _ _ (hI.own _ _ (List.mem_of_getElem? (i := 0) rfl))) Try.results77 ⟨(RV.cellN Try.isAgg30 Try.sizeOf30 rfl (vs := [_, _]) rfl (by first | exact RdN.own (k := 0) (n := 2) rfl rfl | exact RdN.own (k := 1) (n := 2) rfl rfl | exact (RdN.imm (n := 2) h1 rfl) | exact ((hS9.at 0 (by omega)).rdn 0 2 rfl))), (RV.cell1 Try.isAgg24 rfl (by first | exact Rd.own (k := 0) rfl rfl | exact Rd.own (k := 1) rfl rfl)), trivial⟩ (fun w hI => ⟨congrArg Ending.returned (by rw [hO0]; rfl), hI.keep⟩)

set_option maxRecDepth 100000 in
set_option maxHeartbeats 1000000 in
theorem Waits_3 (T : Tks) (a1 : Option Addr) (n1 c1 : Nat) (D : Imm) (w : World) (hR : TksR D T a1 n1) (hH : Holds D w) (hv : tksB T = true) (hne : allT T = []) : Gives Try.prog 77 [.agg #[it T.huts, .slice a1 n1 c1]] w (.tuple #[spV (WaitsOut T).1, it (WaitsOut T).2]) := by
  unfold Gives
  obtain rfl := hR.tick.len'
  have hl1 := hR.len
  have hE : tksE T true = 10 := by
    unfold tksE
    rw [if_neg (by rw [hv]; simp), if_neg (by simp), if_pos (by rw [hne]; rfl)]
  have hO0 : WaitsOut T = (⟨0, 0⟩, 10) := by unfold WaitsOut; rw [if_pos (by rw [hE]; simp), hE]
  have h5 := (tks_num hv).2.1
  refine enterD Try.func77 rfl 12 Try.ntmps77 (Nat.le_of_ble_eq_true rfl) (Inv.start hH) ?_
  refine WC.seq ?_
  refine WC.ofFr [(0, _)] ⟨rfl, trivial⟩ ?_
  refine WC.region ?_
  refine WL.so (SO.box rfl rfl) rfl ?_
  rintro _ _ _ ⟨b1, hb1, rfl, rfl, rfl⟩ -- NEW
  refine WL.so (SO.alloc Try.zeroValue30 rfl) rfl ?_
  rintro _ _ _ ⟨b2, hb2, rfl, rfl, rfl⟩ -- NEW
  refine WL.so (SO.alloc Try.zeroValue24 rfl) rfl ?_
  rintro _ _ _ ⟨b3, hb3, rfl, rfl, rfl⟩ -- NEW
  refine WL.nil ?_
  refine WP.thenC ?_
  refine WC.seq ?_
  refine WC.ofFr [(3, _), (2, _), (1, _)] ⟨rfl, rfl, rfl, trivial⟩ ?_
  refine WC.region ?_
  refine WL.yd (Yd.func rfl rfl) rfl ?_
  refine WL.defer rfl ?_
  refine WL.nil ?_
  refine WP.thenC ?_
  refine WC.seq ?_
  refine WC.freezeN 2 b1 (boxT T (.slice a1 T.l.length c1)) rfl rfl hb1 (fun D1 hX1 h1 => ?_)
  replace hR := hR.ext hX1
  refine WC.ofFr [(3, _), (2, _), (1, _)] ⟨rfl, rfl, rfl, trivial⟩ ?_
  refine WC.region ?_
  refine WL.yd (Yd.loadN Try.isAgg35 Try.sizeOf35 rfl (vs := [_, _]) rfl (by first | exact RdN.own (k := 0) (n := 2) rfl rfl | exact RdN.own (k := 1) (n := 2) rfl rfl | exact (RdN.imm (n := 2) h1 rfl) | exact ((hS9.at 0 (by omega)).rdn 0 2 rfl))) rfl ?_
  refine WL.so (SO.makes (Enters.func Try.call64 rfl) (fun w hI => open_ok T a1 _ c1 _ _ hR hI.imm hv)) rfl ?_
  rintro _ D2 _ ⟨hX2, ⟨bq, rfl, hO⟩, rfl⟩
  replace hR := hR.ext hX2
  replace h1 := hX2.old _ _ h1
  refine WL.yd (Yd.func rfl rfl) rfl ?_
  refine WL.so (SO.buildSlice Try.underlying147 Try.sizeOf122 Try.zeroValue122 rfl rfl rfl rfl (cs := [_]) rfl) rfl ?_
  rintro _ _ _ ⟨b8, hb8, rfl, rfl, rfl⟩ -- NEW
  refine WL.freezeN 0 b8 (.cells (List.toArray [cloV (⟨92, [pt b1], longT T.l.length⟩ : Clo)]) 122 (0, 0)) rfl rfl hb8 (fun D3 hX3 h8 => ?_)
  
  replace hO := hO.ext hX3
  replace hR := hR.ext hX3
  replace h1 := hX3.old _ _ h1
  have hCW : CloOK D3 (allT T) (⟨92, [pt b1], longT T.l.length⟩ : Clo) := ⟨Try.call92, fun t ht w' hH' => waitc_g T a1 _ c1 b1 _ rfl h5 h1 t (okTr_mem hv ht) w' hH'⟩
  refine WL.no (SO.fail (Enters.func Try.call65 rfl) (fun w hI => spans1_no T a1 _ c1 bq D3 _ hO hR hI.imm hv (⟨92, [pt b1], longT T.l.length⟩ : Clo) b8 h8 hCW hne) ?_)
  refine WP.thenPanic ?_
  refine WP.panicD (k := 0) [_, _] [_, _] rfl Try.call91 rfl (fun w hI => catch91 _ _ _ _ _ (hI.own _ _ (List.mem_of_getElem? (i := 0) rfl))) Try.results77 ⟨(RV.cellN Try.isAgg30 Try.sizeOf30 rfl (vs := [_, _]) rfl (by first | exact RdN.own (k := 0) (n := 2) rfl rfl | exact RdN.own (k := 1) (n := 2) rfl rfl | exact (RdN.imm (n := 2) h1 rfl) | exact ((hS9.at 0 (by omega)).rdn 0 2 rfl))), (RV.cell1 Try.isAgg24 rfl (by first | exact Rd.own (k := 0) rfl rfl | exact Rd.own (k := 1) rfl rfl)), trivial⟩ (fun w hI => ⟨congrArg Ending.returned (by rw [hO0]; rfl), hI.keep⟩)

set_option maxRecDepth 100000 in
set_option maxHeartbeats 1000000 in
theorem Waits_ok (T : Tks) (a1 : Option Addr) (n1 c1 : Nat) (D : Imm) (w : World) (hR : TksR D T a1 n1) (hH : Holds D w) (hv : tksB T = true) (hne : allT T ≠ []) : Gives Try.prog 77 [.agg #[it T.huts, .slice a1 n1 c1]] w (.tuple #[spV (WaitsOut T).1, it (WaitsOut T).2]) := by
  unfold Gives
  obtain rfl := hR.tick.len'
  have hl1 := hR.len
  have hE : tksE T true = 0 := by
    unfold tksE
    rw [if_neg (by rw [hv]; simp), if_neg (by simp), if_neg (by rw [List.isEmpty_iff]; exact hne)]
  have hO0 : WaitsOut T = (spanS (longT T.l.length) (allT T), 0) := by unfold WaitsOut; rw [if_neg (by rw [hE]; simp)]
  have h5 := (tks_num hv).2.1
  refine enterD Try.func77 rfl 12 Try.ntmps77 (Nat.le_of_ble_eq_true rfl) (Inv.start hH) ?_
  refine WC.seq ?_
  refine WC.ofFr [(0, _)] ⟨rfl, trivial⟩ ?_
  refine WC.region ?_
  refine WL.so (SO.box rfl rfl) rfl ?_
  rintro _ _ _ ⟨b1, hb1, rfl, rfl, rfl⟩ -- NEW
  refine WL.so (SO.alloc Try.zeroValue30 rfl) rfl ?_
  rintro _ _ _ ⟨b2, hb2, rfl, rfl, rfl⟩ -- NEW
  refine WL.so (SO.alloc Try.zeroValue24 rfl) rfl ?_
  rintro _ _ _ ⟨b3, hb3, rfl, rfl, rfl⟩ -- NEW
  refine WL.nil ?_
  refine WP.thenC ?_
  refine WC.seq ?_
  refine WC.ofFr [(3, _), (2, _), (1, _)] ⟨rfl, rfl, rfl, trivial⟩ ?_
  refine WC.region ?_
  refine WL.yd (Yd.func rfl rfl) rfl ?_
  refine WL.defer rfl ?_
  refine WL.nil ?_
  refine WP.thenC ?_
  refine WC.seq ?_
  refine WC.freezeN 2 b1 (boxT T (.slice a1 T.l.length c1)) rfl rfl hb1 (fun D1 hX1 h1 => ?_)
  replace hR := hR.ext hX1
  refine WC.ofFr [(3, _), (2, _), (1, _)] ⟨rfl, rfl, rfl, trivial⟩ ?_
  refine WC.region ?_
  refine WL.yd (Yd.loadN Try.isAgg35 Try.sizeOf35 rfl (vs := [_, _]) rfl (by first | exact RdN.own (k := 0) (n := 2) rfl rfl | exact RdN.own (k := 1) (n := 2) rfl rfl | exact (RdN.imm (n := 2) h1 rfl) | exact ((hS9.at 0 (by omega)).rdn 0 2 rfl))) rfl ?_
  refine WL.so (SO.makes (Enters.func Try.call64 rfl) (fun w hI => open_ok T a1 _ c1 _ _ hR hI.imm hv)) rfl ?_
  rintro _ D2 _ ⟨hX2, ⟨bq, rfl, hO⟩, rfl⟩
  replace hR := hR.ext hX2
  replace h1 := hX2.old _ _ h1
  refine WL.yd (Yd.func rfl rfl) rfl ?_
  refine WL.so (SO.buildSlice Try.underlying147 Try.sizeOf122 Try.zeroValue122 rfl rfl rfl rfl (cs := [_]) rfl) rfl ?_
  rintro _ _ _ ⟨b8, hb8, rfl, rfl, rfl⟩ -- NEW
  refine WL.freezeN 0 b8 (.cells (List.toArray [cloV (⟨92, [pt b1], longT T.l.length⟩ : Clo)]) 122 (0, 0)) rfl rfl hb8 (fun D3 hX3 h8 => ?_)
  
  replace hO := hO.ext hX3
  replace hR := hR.ext hX3
  replace h1 := hX3.old _ _ h1
  have hCW : CloOK D3 (allT T) (⟨92, [pt b1], longT T.l.length⟩ : Clo) := ⟨Try.call92, fun t ht w' hH' => waitc_g T a1 _ c1 b1 _ rfl h5 h1 t (okTr_mem hv ht) w' hH'⟩
  refine WL.so (SO.makes (Enters.func Try.call65 rfl) (fun w hI => spans1_ok T a1 _ c1 bq D3 _ hO hR hI.imm hv (⟨92, [pt b1], longT T.l.length⟩ : Clo) b8 h8 hCW hne)) rfl ?_
  rintro _ D4 _ ⟨hX4, ⟨a9, c9, rfl, hS9⟩, rfl⟩
  refine WL.yd (Yd.indexS Try.underlying109 Try.sizeOf30 rfl rfl (by omega) (by omega) (by first | exact hS9.addr 0 (by omega))) rfl ?_
  refine WL.yd (Yd.loadN Try.isAgg30 Try.sizeOf30 rfl (vs := [_, _]) rfl (by first | exact RdN.own (k := 0) (n := 2) rfl rfl | exact RdN.own (k := 1) (n := 2) rfl rfl | exact (RdN.imm (n := 2) h1 rfl) | exact ((hS9.at 0 (by omega)).rdn 0 2 rfl))) rfl ?_
  refine WL.so (SO.store 1 rfl Try.sizeOf30 rfl rfl rfl rfl (Nat.le_of_ble_eq_true rfl) (oneB_spec rfl)) rfl ?_
  rintro _ _ _ ⟨rfl, rfl, rfl⟩
  refine WL.so (SO.store 0 rfl Try.sizeOf24 rfl rfl rfl rfl (Nat.le_of_ble_eq_true rfl) (oneB_spec rfl)) rfl ?_
  rintro _ _ _ ⟨rfl, rfl, rfl⟩
  refine WL.nil ?_
  refine WP.thenC ?_
  refine WC.ret ?_
  refine WP.endD [_, _] [_, _] rfl rfl Try.call91 (fun w hI => idle91 _ _) Try.results77 ⟨(RV.cellN Try.isAgg30 Try.sizeOf30 rfl (vs := [_, _]) rfl (by first | exact RdN.own (k := 0) (n := 2) rfl rfl | exact RdN.own (k := 1) (n := 2) rfl rfl | exact (RdN.imm (n := 2) h1 rfl) | exact ((hS9.at 0 (by omega)).rdn 0 2 rfl))), (RV.cell1 Try.isAgg24 rfl (by first | exact Rd.own (k := 0) rfl rfl | exact Rd.own (k := 1) rfl rfl)), trivial⟩ (fun w hI => ⟨congrArg Ending.returned (by rw [hO0]; rfl), hI.keep⟩)

theorem Waits_g (T : Tks) (a1 : Option Addr) (n1 c1 : Nat) (D : Imm) (w : World) (hR : TksR D T a1 n1) (hH : Holds D w) : Gives Try.prog 77 [.agg #[it T.huts, .slice a1 n1 c1]] w (.tuple #[spV (WaitsOut T).1, it (WaitsOut T).2]) := by
  cases hv : tksB T with
  | false => exact Waits_1 T a1 n1 c1 D w hR hH hv
  | true =>
    by_cases hne : allT T = []
    · exact Waits_3 T a1 n1 c1 D w hR hH hv hne
    · exact Waits_ok T a1 n1 c1 D w hR hH hv hne

set_option maxRecDepth 100000 in
set_option maxHeartbeats 1000000 in
theorem Wrong_1 (T : Tks) (a1 : Option Addr) (n1 c1 : Nat) (D : Imm) (w : World) (hR : TksR D T a1 n1) (hH : Holds D w) (hv : tksB T = false) : Gives Try.prog 28 [.agg #[it T.huts, .slice a1 n1 c1]] w (.tuple #[spV (WrongOut T).1, it (WrongOut T).2]) := by
  unfold Gives
  obtain rfl := hR.tick.len'
  have hl1 := hR.len
  have hE : tksE T true = 1 := by
    unfold tksE
    rw [if_pos hv]
  have hO0 : WrongOut T = (⟨0, 0⟩, 1) := by unfold WrongOut; rw [if_pos (by rw [hE]; simp), hE]
  refine enterD Try.func28 rfl 14 Try.ntmps28 (Nat.le_of_ble_eq_true rfl) (Inv.start hH) ?_
  refine WC.seq ?_
  refine WC.ofFr [(0, _)] ⟨rfl, trivial⟩ ?_
  refine WC.region ?_
  refine WL.so (SO.box rfl rfl) rfl ?_
  rintro _ _ _ ⟨b1, hb1, rfl, rfl, rfl⟩ -- NEW
  refine WL.so (SO.alloc Try.zeroValue30 rfl) rfl ?_
  rintro _ _ _ ⟨b2, hb2, rfl, rfl, rfl⟩ -- NEW
  refine WL.so (SO.alloc Try.zeroValue24 rfl) rfl ?_
  rintro _ _ _ ⟨b3, hb3, rfl, rfl, rfl⟩ -- NEW
  refine WL.nil ?_
  refine WP.thenC ?_
  refine WC.seq ?_
  refine WC.ofFr [(3, _), (2, _), (1, _)] ⟨rfl, rfl, rfl, trivial⟩ ?_
  refine WC.region ?_
  refine WL.yd (Yd.func rfl rfl) rfl ?_
  refine WL.defer rfl ?_
  refine WL.nil ?_
  refine WP.thenC ?_
  refine WC.seq ?_
  refine WC.freezeN 2 b1 (boxT T (.slice a1 T.l.length c1)) rfl rfl hb1 (fun D1 hX1 h1 => ?_)
  replace hR := hR.ext hX1
  refine WC.ofFr [(3, _), (2, _), (1, _)] ⟨rfl, rfl, rfl, trivial⟩ ?_
  refine WC.region ?_
  refine WL.yd (Yd.loadN Try.isAgg35 Try.sizeOf35 rfl (vs := [_, _]) rfl (by first | exact RdN.own (k := 0) (n := 2) rfl rfl | exact RdN.own (k := 1) (n := 2) rfl rfl | exact (RdN.imm (n := 2) h1 rfl) | exact ((hS9.at 0 (by omega)).rdn 0 2 rfl))) rfl ?_
  refine WL.no (SO.fail (Enters.func Try.call64 rfl) (fun w hI => open_1 T a1 _ c1 _ _ hR hI.imm true hv) ?_)
  refine WP.thenPanic ?_
  refine WP.panicD (k := 0) [_, _] [_, _] rfl Try.call62 rfl (fun w hI => catch62 _ _ _ _ _ (hI.own _ _ (List.mem_of_getElem? (i := 0) rfl))) Try.results28 ⟨(RV.cellN Try.isAgg30 Try.sizeOf30 rfl (vs := [_, _]) rfl (by first | exact RdN.own (k := 0) (n := 2) rfl rfl | exact RdN.own (k := 1) (n := 2) rfl rfl | exact (RdN.imm (n := 2) h1 rfl) | exact ((hS9.at 0 (by omega)).rdn 0 2 rfl))), (RV.cell1 Try.isAgg24 rfl (by first | exact Rd.own (k := 0) rfl rfl | exact Rd.own (k := 1) rfl rfl | exact (Rd.imm h4 rfl))), trivial⟩ (fun w hI => ⟨congrArg Ending.returned (by rw [hO0]; rfl), hI.keep⟩)

set_option maxRecDepth 100000 in
set_option maxHeartbeats 1000000 in
theorem Wrong_3 (T : Tks) (a1 : Option Addr) (n1 c1 : Nat) (D : Imm) (w : World) (hR : TksR D T a1 n1) (hH : Holds D w) (hv : tksB T = true) (hne : allT T = []) : Gives Try.prog 28 [.agg #[it T.huts, .slice a1 n1 c1]] w (.tuple #[spV (WrongOut T).1, it (WrongOut T).2]) := by
  unfold Gives
  obtain rfl := hR.tick.len'
  have hl1 := hR.len
  have hE : tksE T true = 10 := by
    unfold tksE
    rw [if_neg (by rw [hv]; simp), if_neg (by simp), if_pos (by rw [hne]; rfl)]
  have hO0 : WrongOut T = (⟨0, 0⟩, 10) := by unfold WrongOut; rw [if_pos (by rw [hE]; simp), hE]
  have h5 := (tks_num hv).2.1
  refine enterD Try.func28 rfl 14 Try.ntmps28 (Nat.le_of_ble_eq_true rfl) (Inv.start hH) ?_
  refine WC.seq ?_
  refine WC.ofFr [(0, _)] ⟨rfl, trivial⟩ ?_
  refine WC.region ?_
  refine WL.so (SO.box rfl rfl) rfl ?_
  rintro _ _ _ ⟨b1, hb1, rfl, rfl, rfl⟩ -- NEW
  refine WL.so (SO.alloc Try.zeroValue30 rfl) rfl ?_
  rintro _ _ _ ⟨b2, hb2, rfl, rfl, rfl⟩ -- NEW
  refine WL.so (SO.alloc Try.zeroValue24 rfl) rfl ?_
  rintro _ _ _ ⟨b3, hb3, rfl, rfl, rfl⟩ -- NEW
  refine WL.nil ?_
  refine WP.thenC ?_
  refine WC.seq ?_
  refine WC.ofFr [(3, _), (2, _), (1, _)] ⟨rfl, rfl, rfl, trivial⟩ ?_
  refine WC.region ?_
  refine WL.yd (Yd.func rfl rfl) rfl ?_
  refine WL.defer rfl ?_
  refine WL.nil ?_
  refine WP.thenC ?_
  refine WC.seq ?_
  refine WC.freezeN 2 b1 (boxT T (.slice a1 T.l.length c1)) rfl rfl hb1 (fun D1 hX1 h1 => ?_)
  replace hR := hR.ext hX1
  refine WC.ofFr [(3, _), (2, _), (1, _)] ⟨rfl, rfl, rfl, trivial⟩ ?_
  refine WC.region ?_
  refine WL.yd (Yd.loadN Try.isAgg35 Try.sizeOf35 rfl (vs := [_, _]) rfl (by first | exact RdN.own (k := 0) (n := 2) rfl rfl | exact RdN.own (k := 1) (n := 2) rfl rfl | exact (RdN.imm (n := 2) h1 rfl) | exact ((hS9.at 0 (by omega)).rdn 0 2 rfl))) rfl ?_
  refine WL.so (SO.makes (Enters.func Try.call64 rfl) (fun w hI => open_ok T a1 _ c1 _ _ hR hI.imm hv)) rfl ?_
  rintro _ D2 _ ⟨hX2, ⟨bq, rfl, hO⟩, rfl⟩
  replace hR := hR.ext hX2
  replace h1 := hX2.old _ _ h1
  refine WL.so (SO.alloc Try.zeroValue107 rfl) rfl ?_
  rintro _ _ _ ⟨b4, hb4, rfl, rfl, rfl⟩ -- NEW
  refine WL.so (SO.store 0 rfl Try.sizeOf107 rfl rfl rfl rfl (Nat.le_of_ble_eq_true rfl) (oneB_spec rfl)) rfl ?_
  rintro _ _ _ ⟨rfl, rfl, rfl⟩
  refine WL.nil ?_
  refine WP.thenC ?_
  refine WC.seq ?_
  refine WC.freezeN 0 b4 (.cells (List.toArray [pt bq]) 107 (0, 0)) rfl rfl hb4 (fun D5 hX5 h4 => ?_)
  replace hR := hR.ext hX5
  replace hO := hO.ext hX5
  replace h1 := hX5.old _ _ h1
  refine WC.ofFr [(4, _), (3, _), (2, _), (1, _)] ⟨rfl, rfl, rfl, rfl, trivial⟩ ?_
  refine WC.region ?_
  refine WL.yd (Yd.load1 Try.isAgg107 rfl (by first | exact Rd.own (k := 0) rfl rfl | exact Rd.own (k := 1) rfl rfl | exact (Rd.imm h4 rfl))) rfl ?_
  refine WL.yd (Yd.func rfl rfl) rfl ?_
  refine WL.so (SO.buildSlice Try.underlying147 Try.sizeOf122 Try.zeroValue122 rfl rfl rfl rfl (cs := [_]) rfl) rfl ?_
  rintro _ _ _ ⟨b10, hb10, rfl, rfl, rfl⟩ -- NEW
  refine WL.freezeN 0 b10 (.cells (List.toArray [cloV (⟨66, [pt b1, pt b4], oddT T.l.length⟩ : Clo)]) 122 (0, 0)) rfl rfl hb10 (fun D3 hX3 h10 => ?_)
  
  replace hO := hO.ext hX3
  replace hR := hR.ext hX3
  replace h1 := hX3.old _ _ h1
  replace h4 := hX3.old _ _ h4
  have hCW : CloOK D3 (allT T) (⟨66, [pt b1, pt b4], oddT T.l.length⟩ : Clo) := ⟨Try.call66, fun t ht w' hH' => wrongc_g T a1 _ c1 bq _ w' hO hR hH' hv b1 b4 h1 h4 t⟩
  refine WL.no (SO.fail (Enters.func Try.call65 rfl) (fun w hI => spans1_no T a1 _ c1 bq D3 _ hO hR hI.imm hv (⟨66, [pt b1, pt b4], oddT T.l.length⟩ : Clo) b10 h10 hCW hne) ?_)
  refine WP.thenPanic ?_
  refine WP.panicD (k := 0) [_, _] [_, _] rfl Try.call62 rfl (fun w hI => catch62 _ _ _ _ _ (hI.own _ _ (List.mem_of_getElem? (i := 0) rfl))) Try.results28 ⟨(RV.cellN Try.isAgg30 Try.sizeOf30 rfl (vs := [_, _]) rfl (by first | exact RdN.own (k := 0) (n := 2) rfl rfl | exact RdN.own (k := 1) (n := 2) rfl rfl | exact (RdN.imm (n := 2) h1 rfl) | exact ((hS9.at 0 (by omega)).rdn 0 2 rfl))), (RV.cell1 Try.isAgg24 rfl (by first | exact Rd.own (k := 0) rfl rfl | exact Rd.own (k := 1) rfl rfl | exact (Rd.imm h4 rfl))), trivial⟩ (fun w hI => ⟨congrArg Ending.returned (by rw [hO0]; rfl), hI.keep⟩)

set_option maxRecDepth 100000 in
set_option maxHeartbeats 1000000 in
theorem Wrong_ok (T : Tks) (a1 : Option Addr) (n1 c1 : Nat) (D : Imm) (w : World) (hR : TksR D T a1 n1) (hH : Holds D w) (hv : tksB T = true) (hne : allT T ≠ []) : Gives Try.prog 28 [.agg #[it T.huts, .slice a1 n1 c1]] w (.tuple #[spV (WrongOut T).1, it (WrongOut T).2]) := by
  unfold Gives
  obtain rfl := hR.tick.len'
  have hl1 := hR.len
  have hE : tksE T true = 0 := by
    unfold tksE
    rw [if_neg (by rw [hv]; simp), if_neg (by simp), if_neg (by rw [List.isEmpty_iff]; exact hne)]
  have hO0 : WrongOut T = (spanS (oddT T.l.length) (allT T), 0) := by unfold WrongOut; rw [if_neg (by rw [hE]; simp)]
  have h5 := (tks_num hv).2.1
  refine enterD Try.func28 rfl 14 Try.ntmps28 (Nat.le_of_ble_eq_true rfl) (Inv.start hH) ?_
  refine WC.seq ?_
  refine WC.ofFr [(0, _)] ⟨rfl, trivial⟩ ?_
  refine WC.region ?_
  refine WL.so (SO.box rfl rfl) rfl ?_
  rintro _ _ _ ⟨b1, hb1, rfl, rfl, rfl⟩ -- NEW
  refine WL.so (SO.alloc Try.zeroValue30 rfl) rfl ?_
  rintro _ _ _ ⟨b2, hb2, rfl, rfl, rfl⟩ -- NEW
  refine WL.so (SO.alloc Try.zeroValue24 rfl) rfl ?_
  rintro _ _ _ ⟨b3, hb3, rfl, rfl, rfl⟩ -- NEW
  refine WL.nil ?_
  refine WP.thenC ?_
  refine WC.seq ?_
  refine WC.ofFr [(3, _), (2, _), (1, _)] ⟨rfl, rfl, rfl, trivial⟩ ?_
  refine WC.region ?_
  refine WL.yd (Yd.func rfl rfl) rfl ?_
  refine WL.defer rfl ?_
  refine WL.nil ?_
  refine WP.thenC ?_
  refine WC.seq ?_
  refine WC.freezeN 2 b1 (boxT T (.slice a1 T.l.length c1)) rfl rfl hb1 (fun D1 hX1 h1 => ?_)
  replace hR := hR.ext hX1
  refine WC.ofFr [(3, _), (2, _), (1, _)] ⟨rfl, rfl, rfl, trivial⟩ ?_
  refine WC.region ?_
  refine WL.yd (Yd.loadN Try.isAgg35 Try.sizeOf35 rfl (vs := [_, _]) rfl (by first | exact RdN.own (k := 0) (n := 2) rfl rfl | exact RdN.own (k := 1) (n := 2) rfl rfl | exact (RdN.imm (n := 2) h1 rfl) | exact ((hS9.at 0 (by omega)).rdn 0 2 rfl))) rfl ?_
  refine WL.so (SO.makes (Enters.func Try.call64 rfl) (fun w hI => open_ok T a1 _ c1 _ _ hR hI.imm hv)) rfl ?_
  rintro _ D2 _ ⟨hX2, ⟨bq, rfl, hO⟩, rfl⟩
  replace hR := hR.ext hX2
  replace h1 := hX2.old _ _ h1
  refine WL.so (SO.alloc Try.zeroValue107 rfl) rfl ?_
  rintro _ _ _ ⟨b4, hb4, rfl, rfl, rfl⟩ -- NEW
  refine WL.so (SO.store 0 rfl Try.sizeOf107 rfl rfl rfl rfl (Nat.le_of_ble_eq_true rfl) (oneB_spec rfl)) rfl ?_
  rintro _ _ _ ⟨rfl, rfl, rfl⟩
  refine WL.nil ?_
  refine WP.thenC ?_
  refine WC.seq ?_
  refine WC.freezeN 0 b4 (.cells (List.toArray [pt bq]) 107 (0, 0)) rfl rfl hb4 (fun D5 hX5 h4 => ?_)
  replace hR := hR.ext hX5
  replace hO := hO.ext hX5
  replace h1 := hX5.old _ _ h1
  refine WC.ofFr [(4, _), (3, _), (2, _), (1, _)] ⟨rfl, rfl, rfl, rfl, trivial⟩ ?_
  refine WC.region ?_
  refine WL.yd (Yd.load1 Try.isAgg107 rfl (by first | exact Rd.own (k := 0) rfl rfl | exact Rd.own (k := 1) rfl rfl | exact (Rd.imm h4 rfl))) rfl ?_
  refine WL.yd (Yd.func rfl rfl) rfl ?_
  refine WL.so (SO.buildSlice Try.underlying147 Try.sizeOf122 Try.zeroValue122 rfl rfl rfl rfl (cs := [_]) rfl) rfl ?_
  rintro _ _ _ ⟨b10, hb10, rfl, rfl, rfl⟩ -- NEW
  refine WL.freezeN 0 b10 (.cells (List.toArray [cloV (⟨66, [pt b1, pt b4], oddT T.l.length⟩ : Clo)]) 122 (0, 0)) rfl rfl hb10 (fun D3 hX3 h10 => ?_)
  
  replace hO := hO.ext hX3
  replace hR := hR.ext hX3
  replace h1 := hX3.old _ _ h1
  replace h4 := hX3.old _ _ h4
  have hCW : CloOK D3 (allT T) (⟨66, [pt b1, pt b4], oddT T.l.length⟩ : Clo) := ⟨Try.call66, fun t ht w' hH' => wrongc_g T a1 _ c1 bq _ w' hO hR hH' hv b1 b4 h1 h4 t⟩
  refine WL.so (SO.makes (Enters.func Try.call65 rfl) (fun w hI => spans1_ok T a1 _ c1 bq D3 _ hO hR hI.imm hv (⟨66, [pt b1, pt b4], oddT T.l.length⟩ : Clo) b10 h10 hCW hne)) rfl ?_
  rintro _ D4 _ ⟨hX4, ⟨a9, c9, rfl, hS9⟩, rfl⟩
  refine WL.yd (Yd.indexS Try.underlying109 Try.sizeOf30 rfl rfl (by omega) (by omega) (by first | exact hS9.addr 0 (by omega))) rfl ?_
  refine WL.yd (Yd.loadN Try.isAgg30 Try.sizeOf30 rfl (vs := [_, _]) rfl (by first | exact RdN.own (k := 0) (n := 2) rfl rfl | exact RdN.own (k := 1) (n := 2) rfl rfl | exact (RdN.imm (n := 2) h1 rfl) | exact ((hS9.at 0 (by omega)).rdn 0 2 rfl))) rfl ?_
  refine WL.so (SO.store 1 rfl Try.sizeOf30 rfl rfl rfl rfl (Nat.le_of_ble_eq_true rfl) (oneB_spec rfl)) rfl ?_
  rintro _ _ _ ⟨rfl, rfl, rfl⟩
  refine WL.so (SO.store 0 rfl Try.sizeOf24 rfl rfl rfl rfl (Nat.le_of_ble_eq_true rfl) (oneB_spec rfl)) rfl ?_
  rintro _ _ _ ⟨rfl, rfl, rfl⟩
  refine WL.nil ?_
  refine WP.thenC ?_
  refine WC.ret ?_
  refine WP.endD [_, _] [_, _] rfl rfl Try.call62 (fun w hI => idle62 _ _) Try.results28 ⟨(RV.cellN Try.isAgg30 Try.sizeOf30 rfl (vs := [_, _]) rfl (by first | exact RdN.own (k := 0) (n := 2) rfl rfl | exact RdN.own (k := 1) (n := 2) rfl rfl | exact (RdN.imm (n := 2) h1 rfl) | exact ((hS9.at 0 (by omega)).rdn 0 2 rfl))), (RV.cell1 Try.isAgg24 rfl (by first | exact Rd.own (k := 0) rfl rfl | exact Rd.own (k := 1) rfl rfl | exact (Rd.imm h4 rfl))), trivial⟩ (fun w hI => ⟨congrArg Ending.returned (by rw [hO0]; rfl), hI.keep⟩)

theorem Wrong_g (T : Tks) (a1 : Option Addr) (n1 c1 : Nat) (D : Imm) (w : World) (hR : TksR D T a1 n1) (hH : Holds D w) : Gives Try.prog 28 [.agg #[it T.huts, .slice a1 n1 c1]] w (.tuple #[spV (WrongOut T).1, it (WrongOut T).2]) := by
  cases hv : tksB T with
  | false => exact Wrong_1 T a1 n1 c1 D w hR hH hv
  | true =>
    by_cases hne : allT T = []
    · exact Wrong_3 T a1 n1 c1 D w hR hH hv hne
    · exact Wrong_ok T a1 n1 c1 D w hR hH hv hne

end Go.Proofs.Ytpnbkdlejfmbeaa
