import Derived.Test.YtpnbkdlejfmbeaaXG
import Derived.Test.YtpnbkdlejfmbeaaXT
set_option linter.unusedSimpArgs false
set_option linter.unusedVariables false
set_option linter.all false
namespace Go.Proofs.Ytpnbkdlejfmbeaa
open Go.W Go.Ti

set_option maxRecDepth 100000 in
set_option maxHeartbeats 1000000 in
theorem Minutes_1 (T : Tks) (a1 : Option Addr) (n1 c1 : Nat) (D : Imm) (w : World) (hR : TksR D T a1 n1) (hH : Holds D w) (n : Int) (hv : tksB T = false) : Gives Try.prog 30 [.agg #[it T.huts, .slice a1 n1 c1], it n] w (.tuple #[spV (MinutesOut T n).1, spV (MinutesOut T n).2.1, it (MinutesOut T n).2.2]) := by
  unfold Gives
  obtain rfl := hR.tick.len'
  have hl1 := hR.len
  have hE : tksE T (isT T n) = 1 := by
    unfold tksE
    rw [if_pos hv]
  have hO0 : MinutesOut T n = (⟨0, 0⟩, ⟨0, 0⟩, 1) := by unfold MinutesOut; rw [if_pos (by rw [hE]; simp), hE]
  refine enterD Try.func30 rfl 24 Try.ntmps30 (Nat.le_of_ble_eq_true rfl) (Inv.start hH) ?_
  refine WC.seq ?_
  refine WC.ofFr [(0, _), (1, _)] ⟨rfl, rfl, trivial⟩ ?_
  refine WC.region ?_
  refine WL.so (SO.box rfl rfl) rfl ?_
  rintro _ _ _ ⟨b2, hb2, rfl, rfl, rfl⟩ -- NEW
  refine WL.so (SO.box rfl rfl) rfl ?_
  rintro _ _ _ ⟨b3, hb3, rfl, rfl, rfl⟩ -- NEW
  refine WL.so (SO.alloc Try.zeroValue30 rfl) rfl ?_
  rintro _ _ _ ⟨b4, hb4, rfl, rfl, rfl⟩ -- NEW
  refine WL.so (SO.alloc Try.zeroValue30 rfl) rfl ?_
  rintro _ _ _ ⟨b5, hb5, rfl, rfl, rfl⟩ -- NEW
  refine WL.so (SO.alloc Try.zeroValue24 rfl) rfl ?_
  rintro _ _ _ ⟨b6, hb6, rfl, rfl, rfl⟩ -- NEW
  refine WL.nil ?_
  refine WP.thenC ?_
  refine WC.seq ?_
  refine WC.ofFr [(6, _), (5, _), (4, _), (3, _), (2, _)] ⟨rfl, rfl, rfl, rfl, rfl, trivial⟩ ?_
  refine WC.region ?_
  refine WL.yd (Yd.func rfl rfl) rfl ?_
  refine WL.defer rfl ?_
  refine WL.nil ?_
  refine WP.thenC ?_
  refine WC.seq ?_
  refine WC.freezeN 4 b2 (boxT T (.slice a1 T.l.length c1)) rfl rfl hb2 (fun D1 hX1 h2 => ?_)
  replace hR := hR.ext hX1
  refine WC.freezeN 3 b3 (.cells (List.toArray [it n]) 3 (0, 0)) rfl rfl hb3 (fun D3 hX3 h3 => ?_)
  replace hR := hR.ext hX3
  replace h2 := hX3.old _ _ h2
  refine WC.ofFr [(6, _), (5, _), (4, _), (3, _), (2, _)] ⟨rfl, rfl, rfl, rfl, rfl, trivial⟩ ?_
  refine WC.drawH [] (by kernel_rfl) (fun _ hI => hI.drop 99) ?_
  refine WH.yd (i := 0) (by kernel_rfl) (QuietOn.then (QuietOn.bodyD (by kernel_rfl))) rfl (Yd.loadN Try.isAgg35 Try.sizeOf35 rfl (vs := [_, _]) rfl (by first | exact RdN.own (k := 0) (n := 2) rfl rfl | exact RdN.own (k := 1) (n := 2) rfl rfl | exact RdN.own (k := 2) (n := 2) rfl rfl | exact (RdN.imm (n := 2) h2 rfl) | exact ((hS9.at 0 (by omega)).rdn 0 2 rfl) | exact ((hS9.at 1 (by omega)).rdn 0 2 rfl))) rfl ?_
  refine WH.yd (i := 1) (by kernel_rfl) (QuietOn.then (QuietOn.bodyD (by kernel_rfl))) rfl (Yd.loadN Try.isAgg35 Try.sizeOf35 rfl (vs := [_, _]) rfl (by first | exact RdN.own (k := 0) (n := 2) rfl rfl | exact RdN.own (k := 1) (n := 2) rfl rfl | exact RdN.own (k := 2) (n := 2) rfl rfl | exact (RdN.imm (n := 2) h2 rfl) | exact ((hS9.at 0 (by omega)).rdn 0 2 rfl) | exact ((hS9.at 1 (by omega)).rdn 0 2 rfl))) rfl ?_
  refine WH.yd (i := 2) (by kernel_rfl) (QuietOn.then (QuietOn.bodyD (by kernel_rfl))) rfl (Yd.load1 Try.isAgg3 rfl (by first | exact Rd.own (k := 0) rfl rfl | exact Rd.own (k := 1) rfl rfl | exact Rd.own (k := 2) rfl rfl | exact (Rd.imm h3 rfl))) rfl ?_
  refine WH.yd (i := 5) (by kernel_rfl) (QuietOn.then (QuietOn.bodyD (by kernel_rfl))) rfl (Yd.func rfl rfl) rfl ?_
  refine WH.yd (i := 6) (by kernel_rfl) (QuietOn.then (QuietOn.bodyD (by kernel_rfl))) rfl (Yd.func rfl rfl) rfl ?_
  refine WH.two (i := 3) (j := 7) (by kernel_rfl) ?_ ?_
  · refine WHo.so rfl (SO.callP Try.call68 rfl (fun w hI => isTick_g T a1 _ c1 n _ rfl hl1)) rfl ?_
    rintro _ _ _ ⟨rfl, rfl, rfl⟩
    refine ⟨(by first | exact (fun _ hI => hI.drop 99)), ?_⟩
    refine WH.two (i := 4) (j := 7) (by kernel_rfl) ?_ ?_
    · refine WHo.no rfl (SO.fail (Enters.func Try.call64 rfl) (fun w hI => open_1 T a1 _ c1 _ _ hR hI.imm (isT T n) hv) ?_)
      refine WP.thenPanic ?_
      refine WP.panicD (k := 0) [_, _, _] [_, _, _] rfl Try.call71 rfl (fun w hI => catch71 _ _ _ _ _ (hI.own _ _ (List.mem_of_getElem? (i := 0) rfl))) Try.results30 ⟨(RV.cellN Try.isAgg30 Try.sizeOf30 rfl (vs := [_, _]) rfl (by first | exact RdN.own (k := 0) (n := 2) rfl rfl | exact RdN.own (k := 1) (n := 2) rfl rfl | exact RdN.own (k := 2) (n := 2) rfl rfl | exact (RdN.imm (n := 2) h2 rfl) | exact ((hS9.at 0 (by omega)).rdn 0 2 rfl) | exact ((hS9.at 1 (by omega)).rdn 0 2 rfl))), (RV.cellN Try.isAgg30 Try.sizeOf30 rfl (vs := [_, _]) rfl (by first | exact RdN.own (k := 0) (n := 2) rfl rfl | exact RdN.own (k := 1) (n := 2) rfl rfl | exact RdN.own (k := 2) (n := 2) rfl rfl | exact (RdN.imm (n := 2) h2 rfl) | exact ((hS9.at 0 (by omega)).rdn 0 2 rfl) | exact ((hS9.at 1 (by omega)).rdn 0 2 rfl))), (RV.cell1 Try.isAgg24 rfl (by first | exact Rd.own (k := 0) rfl rfl | exact Rd.own (k := 1) rfl rfl | exact Rd.own (k := 2) rfl rfl | exact (Rd.imm h3 rfl))), trivial⟩ (fun w hI => ⟨congrArg Ending.returned (by rw [hO0]; rfl), hI.keep⟩)
    · refine WHo.so rfl (SO.buildSlice Try.underlying147 Try.sizeOf122 Try.zeroValue122 rfl rfl rfl rfl (cs := [_, _]) rfl) rfl ?_
      rintro _ _ _ ⟨b16, hb16, rfl, rfl, rfl⟩ -- NEW
      refine ⟨(by first | exact (fun _ hI => hI.drop 99)), ?_⟩
      refine WH.one (i := 4) (by kernel_rfl) (WHo.no rfl (SO.fail (Enters.func Try.call64 rfl) (fun w hI => open_1 T a1 _ c1 _ _ hR hI.imm (isT T n) hv) ?_))
      refine WP.thenPanic ?_
      refine WP.panicD (k := 1) [_, _, _] [_, _, _] rfl Try.call71 rfl (fun w hI => catch71 _ _ _ _ _ (hI.own _ _ (List.mem_of_getElem? (i := 1) rfl))) Try.results30 ⟨(RV.cellN Try.isAgg30 Try.sizeOf30 rfl (vs := [_, _]) rfl (by first | exact RdN.own (k := 0) (n := 2) rfl rfl | exact RdN.own (k := 1) (n := 2) rfl rfl | exact RdN.own (k := 2) (n := 2) rfl rfl | exact RdN.own (k := 3) (n := 2) rfl rfl | exact (RdN.imm (n := 2) h2 rfl) | exact ((hS9.at 0 (by omega)).rdn 0 2 rfl) | exact ((hS9.at 1 (by omega)).rdn 0 2 rfl))), (RV.cellN Try.isAgg30 Try.sizeOf30 rfl (vs := [_, _]) rfl (by first | exact RdN.own (k := 0) (n := 2) rfl rfl | exact RdN.own (k := 1) (n := 2) rfl rfl | exact RdN.own (k := 2) (n := 2) rfl rfl | exact RdN.own (k := 3) (n := 2) rfl rfl | exact (RdN.imm (n := 2) h2 rfl) | exact ((hS9.at 0 (by omega)).rdn 0 2 rfl) | exact ((hS9.at 1 (by omega)).rdn 0 2 rfl))), (RV.cell1 Try.isAgg24 rfl (by first | exact Rd.own (k := 0) rfl rfl | exact Rd.own (k := 1) rfl rfl | exact Rd.own (k := 2) rfl rfl | exact Rd.own (k := 3) rfl rfl | exact (Rd.imm h3 rfl))), trivial⟩ (fun w hI => ⟨congrArg Ending.returned (by rw [hO0]; rfl), hI.keep⟩)
  · refine WHo.so rfl (SO.buildSlice Try.underlying147 Try.sizeOf122 Try.zeroValue122 rfl rfl rfl rfl (cs := [_, _]) rfl) rfl ?_
    rintro _ _ _ ⟨b16, hb16, rfl, rfl, rfl⟩ -- NEW
    refine ⟨(by first | exact (fun _ hI => hI.drop 99)), ?_⟩
    refine WH.one (i := 3) (by kernel_rfl) (WHo.so rfl (SO.callP Try.call68 rfl (fun w hI => isTick_g T a1 _ c1 n _ rfl hl1)) rfl ?_)
    rintro _ _ _ ⟨rfl, rfl, rfl⟩
    refine ⟨(by first | exact (fun _ hI => hI.drop 99)), ?_⟩
    refine WH.one (i := 4) (by kernel_rfl) (WHo.no rfl (SO.fail (Enters.func Try.call64 rfl) (fun w hI => open_1 T a1 _ c1 _ _ hR hI.imm (isT T n) hv) ?_))
    refine WP.thenPanic ?_
    refine WP.panicD (k := 1) [_, _, _] [_, _, _] rfl Try.call71 rfl (fun w hI => catch71 _ _ _ _ _ (hI.own _ _ (List.mem_of_getElem? (i := 1) rfl))) Try.results30 ⟨(RV.cellN Try.isAgg30 Try.sizeOf30 rfl (vs := [_, _]) rfl (by first | exact RdN.own (k := 0) (n := 2) rfl rfl | exact RdN.own (k := 1) (n := 2) rfl rfl | exact RdN.own (k := 2) (n := 2) rfl rfl | exact RdN.own (k := 3) (n := 2) rfl rfl | exact (RdN.imm (n := 2) h2 rfl) | exact ((hS9.at 0 (by omega)).rdn 0 2 rfl) | exact ((hS9.at 1 (by omega)).rdn 0 2 rfl))), (RV.cellN Try.isAgg30 Try.sizeOf30 rfl (vs := [_, _]) rfl (by first | exact RdN.own (k := 0) (n := 2) rfl rfl | exact RdN.own (k := 1) (n := 2) rfl rfl | exact RdN.own (k := 2) (n := 2) rfl rfl | exact RdN.own (k := 3) (n := 2) rfl rfl | exact (RdN.imm (n := 2) h2 rfl) | exact ((hS9.at 0 (by omega)).rdn 0 2 rfl) | exact ((hS9.at 1 (by omega)).rdn 0 2 rfl))), (RV.cell1 Try.isAgg24 rfl (by first | exact Rd.own (k := 0) rfl rfl | exact Rd.own (k := 1) rfl rfl | exact Rd.own (k := 2) rfl rfl | exact Rd.own (k := 3) rfl rfl | exact (Rd.imm h3 rfl))), trivial⟩ (fun w hI => ⟨congrArg Ending.returned (by rw [hO0]; rfl), hI.keep⟩)

set_option maxRecDepth 100000 in
set_option maxHeartbeats 1000000 in
theorem Minutes_2 (T : Tks) (a1 : Option Addr) (n1 c1 : Nat) (D : Imm) (w : World) (hR : TksR D T a1 n1) (hH : Holds D w) (n : Int) (hv : tksB T = true) (hw : isT T n = false) : Gives Try.prog 30 [.agg #[it T.huts, .slice a1 n1 c1], it n] w (.tuple #[spV (MinutesOut T n).1, spV (MinutesOut T n).2.1, it (MinutesOut T n).2.2]) := by
  unfold Gives
  obtain rfl := hR.tick.len'
  have hl1 := hR.len
  have hE : tksE T (isT T n) = 2 := by
    unfold tksE
    rw [if_neg (by rw [hv]; simp), if_pos hw]
  have hO0 : MinutesOut T n = (⟨0, 0⟩, ⟨0, 0⟩, 2) := by unfold MinutesOut; rw [if_pos (by rw [hE]; simp), hE]
  refine enterD Try.func30 rfl 24 Try.ntmps30 (Nat.le_of_ble_eq_true rfl) (Inv.start hH) ?_
  refine WC.seq ?_
  refine WC.ofFr [(0, _), (1, _)] ⟨rfl, rfl, trivial⟩ ?_
  refine WC.region ?_
  refine WL.so (SO.box rfl rfl) rfl ?_
  rintro _ _ _ ⟨b2, hb2, rfl, rfl, rfl⟩ -- NEW
  refine WL.so (SO.box rfl rfl) rfl ?_
  rintro _ _ _ ⟨b3, hb3, rfl, rfl, rfl⟩ -- NEW
  refine WL.so (SO.alloc Try.zeroValue30 rfl) rfl ?_
  rintro _ _ _ ⟨b4, hb4, rfl, rfl, rfl⟩ -- NEW
  refine WL.so (SO.alloc Try.zeroValue30 rfl) rfl ?_
  rintro _ _ _ ⟨b5, hb5, rfl, rfl, rfl⟩ -- NEW
  refine WL.so (SO.alloc Try.zeroValue24 rfl) rfl ?_
  rintro _ _ _ ⟨b6, hb6, rfl, rfl, rfl⟩ -- NEW
  refine WL.nil ?_
  refine WP.thenC ?_
  refine WC.seq ?_
  refine WC.ofFr [(6, _), (5, _), (4, _), (3, _), (2, _)] ⟨rfl, rfl, rfl, rfl, rfl, trivial⟩ ?_
  refine WC.region ?_
  refine WL.yd (Yd.func rfl rfl) rfl ?_
  refine WL.defer rfl ?_
  refine WL.nil ?_
  refine WP.thenC ?_
  refine WC.seq ?_
  refine WC.freezeN 4 b2 (boxT T (.slice a1 T.l.length c1)) rfl rfl hb2 (fun D1 hX1 h2 => ?_)
  replace hR := hR.ext hX1
  refine WC.freezeN 3 b3 (.cells (List.toArray [it n]) 3 (0, 0)) rfl rfl hb3 (fun D3 hX3 h3 => ?_)
  replace hR := hR.ext hX3
  replace h2 := hX3.old _ _ h2
  refine WC.ofFr [(6, _), (5, _), (4, _), (3, _), (2, _)] ⟨rfl, rfl, rfl, rfl, rfl, trivial⟩ ?_
  refine WC.drawH [] (by kernel_rfl) (fun _ hI => hI.drop 99) ?_
  refine WH.yd (i := 0) (by kernel_rfl) (QuietOn.then (QuietOn.bodyD (by kernel_rfl))) rfl (Yd.loadN Try.isAgg35 Try.sizeOf35 rfl (vs := [_, _]) rfl (by first | exact RdN.own (k := 0) (n := 2) rfl rfl | exact RdN.own (k := 1) (n := 2) rfl rfl | exact RdN.own (k := 2) (n := 2) rfl rfl | exact (RdN.imm (n := 2) h2 rfl) | exact ((hS9.at 0 (by omega)).rdn 0 2 rfl) | exact ((hS9.at 1 (by omega)).rdn 0 2 rfl))) rfl ?_
  refine WH.yd (i := 1) (by kernel_rfl) (QuietOn.then (QuietOn.bodyD (by kernel_rfl))) rfl (Yd.loadN Try.isAgg35 Try.sizeOf35 rfl (vs := [_, _]) rfl (by first | exact RdN.own (k := 0) (n := 2) rfl rfl | exact RdN.own (k := 1) (n := 2) rfl rfl | exact RdN.own (k := 2) (n := 2) rfl rfl | exact (RdN.imm (n := 2) h2 rfl) | exact ((hS9.at 0 (by omega)).rdn 0 2 rfl) | exact ((hS9.at 1 (by omega)).rdn 0 2 rfl))) rfl ?_
  refine WH.yd (i := 2) (by kernel_rfl) (QuietOn.then (QuietOn.bodyD (by kernel_rfl))) rfl (Yd.load1 Try.isAgg3 rfl (by first | exact Rd.own (k := 0) rfl rfl | exact Rd.own (k := 1) rfl rfl | exact Rd.own (k := 2) rfl rfl | exact (Rd.imm h3 rfl))) rfl ?_
  refine WH.yd (i := 5) (by kernel_rfl) (QuietOn.then (QuietOn.bodyD (by kernel_rfl))) rfl (Yd.func rfl rfl) rfl ?_
  refine WH.yd (i := 6) (by kernel_rfl) (QuietOn.then (QuietOn.bodyD (by kernel_rfl))) rfl (Yd.func rfl rfl) rfl ?_
  refine WH.two (i := 3) (j := 7) (by kernel_rfl) ?_ ?_
  · refine WHo.so rfl (SO.callP Try.call68 rfl (fun w hI => isTick_g T a1 _ c1 n _ rfl hl1)) rfl ?_
    rintro _ _ _ ⟨rfl, rfl, rfl⟩
    refine ⟨(by first | exact (fun _ hI => hI.drop 99)), ?_⟩
    refine WH.know 12 (.bool false) rfl (congrArg Value.bool hw) ?_
    refine WH.two (i := 4) (j := 7) (by kernel_rfl) ?_ ?_
    · refine WHo.no rfl (SO.fail (Enters.func Try.call64 rfl) (fun w hI => open_2 T a1 _ c1 _ _ hR hI.imm hv) ?_)
      refine WP.thenPanic ?_
      refine WP.panicD (k := 0) [_, _, _] [_, _, _] rfl Try.call71 rfl (fun w hI => catch71 _ _ _ _ _ (hI.own _ _ (List.mem_of_getElem? (i := 0) rfl))) Try.results30 ⟨(RV.cellN Try.isAgg30 Try.sizeOf30 rfl (vs := [_, _]) rfl (by first | exact RdN.own (k := 0) (n := 2) rfl rfl | exact RdN.own (k := 1) (n := 2) rfl rfl | exact RdN.own (k := 2) (n := 2) rfl rfl | exact (RdN.imm (n := 2) h2 rfl) | exact ((hS9.at 0 (by omega)).rdn 0 2 rfl) | exact ((hS9.at 1 (by omega)).rdn 0 2 rfl))), (RV.cellN Try.isAgg30 Try.sizeOf30 rfl (vs := [_, _]) rfl (by first | exact RdN.own (k := 0) (n := 2) rfl rfl | exact RdN.own (k := 1) (n := 2) rfl rfl | exact RdN.own (k := 2) (n := 2) rfl rfl | exact (RdN.imm (n := 2) h2 rfl) | exact ((hS9.at 0 (by omega)).rdn 0 2 rfl) | exact ((hS9.at 1 (by omega)).rdn 0 2 rfl))), (RV.cell1 Try.isAgg24 rfl (by first | exact Rd.own (k := 0) rfl rfl | exact Rd.own (k := 1) rfl rfl | exact Rd.own (k := 2) rfl rfl | exact (Rd.imm h3 rfl))), trivial⟩ (fun w hI => ⟨congrArg Ending.returned (by rw [hO0]; rfl), hI.keep⟩)
    · refine WHo.so rfl (SO.buildSlice Try.underlying147 Try.sizeOf122 Try.zeroValue122 rfl rfl rfl rfl (cs := [_, _]) rfl) rfl ?_
      rintro _ _ _ ⟨b16, hb16, rfl, rfl, rfl⟩ -- NEW
      refine ⟨(by first | exact (fun _ hI => hI.drop 99)), ?_⟩
      refine WH.one (i := 4) (by kernel_rfl) (WHo.no rfl (SO.fail (Enters.func Try.call64 rfl) (fun w hI => open_2 T a1 _ c1 _ _ hR hI.imm hv) ?_))
      refine WP.thenPanic ?_
      refine WP.panicD (k := 1) [_, _, _] [_, _, _] rfl Try.call71 rfl (fun w hI => catch71 _ _ _ _ _ (hI.own _ _ (List.mem_of_getElem? (i := 1) rfl))) Try.results30 ⟨(RV.cellN Try.isAgg30 Try.sizeOf30 rfl (vs := [_, _]) rfl (by first | exact RdN.own (k := 0) (n := 2) rfl rfl | exact RdN.own (k := 1) (n := 2) rfl rfl | exact RdN.own (k := 2) (n := 2) rfl rfl | exact RdN.own (k := 3) (n := 2) rfl rfl | exact (RdN.imm (n := 2) h2 rfl) | exact ((hS9.at 0 (by omega)).rdn 0 2 rfl) | exact ((hS9.at 1 (by omega)).rdn 0 2 rfl))), (RV.cellN Try.isAgg30 Try.sizeOf30 rfl (vs := [_, _]) rfl (by first | exact RdN.own (k := 0) (n := 2) rfl rfl | exact RdN.own (k := 1) (n := 2) rfl rfl | exact RdN.own (k := 2) (n := 2) rfl rfl | exact RdN.own (k := 3) (n := 2) rfl rfl | exact (RdN.imm (n := 2) h2 rfl) | exact ((hS9.at 0 (by omega)).rdn 0 2 rfl) | exact ((hS9.at 1 (by omega)).rdn 0 2 rfl))), (RV.cell1 Try.isAgg24 rfl (by first | exact Rd.own (k := 0) rfl rfl | exact Rd.own (k := 1) rfl rfl | exact Rd.own (k := 2) rfl rfl | exact Rd.own (k := 3) rfl rfl | exact (Rd.imm h3 rfl))), trivial⟩ (fun w hI => ⟨congrArg Ending.returned (by rw [hO0]; rfl), hI.keep⟩)
  · refine WHo.so rfl (SO.buildSlice Try.underlying147 Try.sizeOf122 Try.zeroValue122 rfl rfl rfl rfl (cs := [_, _]) rfl) rfl ?_
    rintro _ _ _ ⟨b16, hb16, rfl, rfl, rfl⟩ -- NEW
    refine ⟨(by first | exact (fun _ hI => hI.drop 99)), ?_⟩
    refine WH.one (i := 3) (by kernel_rfl) (WHo.so rfl (SO.callP Try.call68 rfl (fun w hI => isTick_g T a1 _ c1 n _ rfl hl1)) rfl ?_)
    rintro _ _ _ ⟨rfl, rfl, rfl⟩
    refine ⟨(by first | exact (fun _ hI => hI.drop 99)), ?_⟩
    refine WH.know 12 (.bool false) rfl (congrArg Value.bool hw) ?_
    refine WH.one (i := 4) (by kernel_rfl) (WHo.no rfl (SO.fail (Enters.func Try.call64 rfl) (fun w hI => open_2 T a1 _ c1 _ _ hR hI.imm hv) ?_))
    refine WP.thenPanic ?_
    refine WP.panicD (k := 1) [_, _, _] [_, _, _] rfl Try.call71 rfl (fun w hI => catch71 _ _ _ _ _ (hI.own _ _ (List.mem_of_getElem? (i := 1) rfl))) Try.results30 ⟨(RV.cellN Try.isAgg30 Try.sizeOf30 rfl (vs := [_, _]) rfl (by first | exact RdN.own (k := 0) (n := 2) rfl rfl | exact RdN.own (k := 1) (n := 2) rfl rfl | exact RdN.own (k := 2) (n := 2) rfl rfl | exact RdN.own (k := 3) (n := 2) rfl rfl | exact (RdN.imm (n := 2) h2 rfl) | exact ((hS9.at 0 (by omega)).rdn 0 2 rfl) | exact ((hS9.at 1 (by omega)).rdn 0 2 rfl))), (RV.cellN Try.isAgg30 Try.sizeOf30 rfl (vs := [_, _]) rfl (by first | exact RdN.own (k := 0) (n := 2) rfl rfl | exact RdN.own (k := 1) (n := 2) rfl rfl | exact RdN.own (k := 2) (n := 2) rfl rfl | exact RdN.own (k := 3) (n := 2) rfl rfl | exact (RdN.imm (n := 2) h2 rfl) | exact ((hS9.at 0 (by omega)).rdn 0 2 rfl) | exact ((hS9.at 1 (by omega)).rdn 0 2 rfl))), (RV.cell1 Try.isAgg24 rfl (by first | exact Rd.own (k := 0) rfl rfl | exact Rd.own (k := 1) rfl rfl | exact Rd.own (k := 2) rfl rfl | exact Rd.own (k := 3) rfl rfl | exact (Rd.imm h3 rfl))), trivial⟩ (fun w hI => ⟨congrArg Ending.returned (by rw [hO0]; rfl), hI.keep⟩)

set_option maxRecDepth 100000 in
set_option maxHeartbeats 1000000 in
theorem Minutes_3 (T : Tks) (a1 : Option Addr) (n1 c1 : Nat) (D : Imm) (w : World) (hR : TksR D T a1 n1) (hH : Holds D w) (n : Int) (hv : tksB T = true) (hw : isT T n = true) (hne : allT T = []) : Gives Try.prog 30 [.agg #[it T.huts, .slice a1 n1 c1], it n] w (.tuple #[spV (MinutesOut T n).1, spV (MinutesOut T n).2.1, it (MinutesOut T n).2.2]) := by
  unfold Gives
  obtain rfl := hR.tick.len'
  have hl1 := hR.len
  have hE : tksE T (isT T n) = 10 := by
    unfold tksE
    rw [if_neg (by rw [hv]; simp), if_neg (by rw [hw]; simp), if_pos (by rw [hne]; rfl)]
  have hO0 : MinutesOut T n = (⟨0, 0⟩, ⟨0, 0⟩, 10) := by unfold MinutesOut; rw [if_pos (by rw [hE]; simp), hE]
  have h5 := (tks_num hv).2.1
  obtain ⟨a, rfl, han⟩ := isT_nat hw
  refine enterD Try.func30 rfl 24 Try.ntmps30 (Nat.le_of_ble_eq_true rfl) (Inv.start hH) ?_
  refine WC.seq ?_
  refine WC.ofFr [(0, _), (1, _)] ⟨rfl, rfl, trivial⟩ ?_
  refine WC.region ?_
  refine WL.so (SO.box rfl rfl) rfl ?_
  rintro _ _ _ ⟨b2, hb2, rfl, rfl, rfl⟩ -- NEW
  refine WL.so (SO.box rfl rfl) rfl ?_
  rintro _ _ _ ⟨b3, hb3, rfl, rfl, rfl⟩ -- NEW
  refine WL.so (SO.alloc Try.zeroValue30 rfl) rfl ?_
  rintro _ _ _ ⟨b4, hb4, rfl, rfl, rfl⟩ -- NEW
  refine WL.so (SO.alloc Try.zeroValue30 rfl) rfl ?_
  rintro _ _ _ ⟨b5, hb5, rfl, rfl, rfl⟩ -- NEW
  refine WL.so (SO.alloc Try.zeroValue24 rfl) rfl ?_
  rintro _ _ _ ⟨b6, hb6, rfl, rfl, rfl⟩ -- NEW
  refine WL.nil ?_
  refine WP.thenC ?_
  refine WC.seq ?_
  refine WC.ofFr [(6, _), (5, _), (4, _), (3, _), (2, _)] ⟨rfl, rfl, rfl, rfl, rfl, trivial⟩ ?_
  refine WC.region ?_
  refine WL.yd (Yd.func rfl rfl) rfl ?_
  refine WL.defer rfl ?_
  refine WL.nil ?_
  refine WP.thenC ?_
  refine WC.seq ?_
  refine WC.freezeN 4 b2 (boxT T (.slice a1 T.l.length c1)) rfl rfl hb2 (fun D1 hX1 h2 => ?_)
  replace hR := hR.ext hX1
  refine WC.freezeN 3 b3 (.cells (List.toArray [it a]) 3 (0, 0)) rfl rfl hb3 (fun D3 hX3 h3 => ?_)
  replace hR := hR.ext hX3
  replace h2 := hX3.old _ _ h2
  refine WC.ofFr [(6, _), (5, _), (4, _), (3, _), (2, _)] ⟨rfl, rfl, rfl, rfl, rfl, trivial⟩ ?_
  refine WC.drawH [] (by kernel_rfl) (fun _ hI => hI.drop 99) ?_
  refine WH.yd (i := 0) (by kernel_rfl) (QuietOn.then (QuietOn.bodyD (by kernel_rfl))) rfl (Yd.loadN Try.isAgg35 Try.sizeOf35 rfl (vs := [_, _]) rfl (by first | exact RdN.own (k := 0) (n := 2) rfl rfl | exact RdN.own (k := 1) (n := 2) rfl rfl | exact RdN.own (k := 2) (n := 2) rfl rfl | exact (RdN.imm (n := 2) h2 rfl) | exact ((hS9.at 0 (by omega)).rdn 0 2 rfl) | exact ((hS9.at 1 (by omega)).rdn 0 2 rfl))) rfl ?_
  refine WH.yd (i := 1) (by kernel_rfl) (QuietOn.then (QuietOn.bodyD (by kernel_rfl))) rfl (Yd.loadN Try.isAgg35 Try.sizeOf35 rfl (vs := [_, _]) rfl (by first | exact RdN.own (k := 0) (n := 2) rfl rfl | exact RdN.own (k := 1) (n := 2) rfl rfl | exact RdN.own (k := 2) (n := 2) rfl rfl | exact (RdN.imm (n := 2) h2 rfl) | exact ((hS9.at 0 (by omega)).rdn 0 2 rfl) | exact ((hS9.at 1 (by omega)).rdn 0 2 rfl))) rfl ?_
  refine WH.yd (i := 2) (by kernel_rfl) (QuietOn.then (QuietOn.bodyD (by kernel_rfl))) rfl (Yd.load1 Try.isAgg3 rfl (by first | exact Rd.own (k := 0) rfl rfl | exact Rd.own (k := 1) rfl rfl | exact Rd.own (k := 2) rfl rfl | exact (Rd.imm h3 rfl))) rfl ?_
  refine WH.yd (i := 5) (by kernel_rfl) (QuietOn.then (QuietOn.bodyD (by kernel_rfl))) rfl (Yd.func rfl rfl) rfl ?_
  refine WH.yd (i := 6) (by kernel_rfl) (QuietOn.then (QuietOn.bodyD (by kernel_rfl))) rfl (Yd.func rfl rfl) rfl ?_
  refine WH.two (i := 3) (j := 7) (by kernel_rfl) ?_ ?_
  · refine WHo.so rfl (SO.callP Try.call68 rfl (fun w hI => isTick_g T a1 _ c1 a _ rfl hl1)) rfl ?_
    rintro _ _ _ ⟨rfl, rfl, rfl⟩
    refine ⟨(by first | exact (fun _ hI => hI.drop 99) | exact (fun _ hI => (hI.drop 99).shrink hX4.old) | exact (fun _ hI => (hI.drop 99).shrink (fun b o h => hX5.old _ _ (hX4.old _ _ h))) | exact (fun _ hI => (hI.drop 99).shrink (fun b o h => hX6.old _ _ (hX5.old _ _ (hX4.old _ _ h))))), ?_⟩
    refine WH.know 12 (.bool true) rfl (congrArg Value.bool hw) ?_
    refine WH.two (i := 4) (j := 7) (by kernel_rfl) ?_ ?_
    · refine WHo.so rfl (SO.makes (Enters.func Try.call64 rfl) (fun w hI => open_ok T a1 _ c1 _ _ hR hI.imm hv)) rfl ?_
      rintro _ D4 _ ⟨hX4, ⟨bq, rfl, hO⟩, rfl⟩
      replace hR := hR.ext hX4
      replace h3 := hX4.old _ _ h3
      refine ⟨(by first | exact (fun _ hI => hI.drop 99) | exact (fun _ hI => (hI.drop 99).shrink hX4.old) | exact (fun _ hI => (hI.drop 99).shrink (fun b o h => hX5.old _ _ (hX4.old _ _ h))) | exact (fun _ hI => (hI.drop 99).shrink (fun b o h => hX6.old _ _ (hX5.old _ _ (hX4.old _ _ h))))), ?_⟩
      refine WH.one (i := 7) (by kernel_rfl) (WHo.so rfl (SO.buildSlice Try.underlying147 Try.sizeOf122 Try.zeroValue122 rfl rfl rfl rfl (cs := [_, _]) rfl) rfl ?_)
      rintro _ _ _ ⟨b16, hb16, rfl, rfl, rfl⟩ -- NEW
      refine ⟨(by first | exact (fun _ hI => hI.drop 99) | exact (fun _ hI => (hI.drop 99).shrink hX4.old) | exact (fun _ hI => (hI.drop 99).shrink (fun b o h => hX5.old _ _ (hX4.old _ _ h))) | exact (fun _ hI => (hI.drop 99).shrink (fun b o h => hX6.old _ _ (hX5.old _ _ (hX4.old _ _ h))))), ?_⟩
      refine WH.freezeN 0 b16 (.cells (List.toArray [cloV (⟨72, [pt b3], fun t => (t a).1⟩ : Clo), cloV (⟨73, [pt b3], fun t => (t a).2⟩ : Clo)]) 122 (0, 0)) rfl rfl hb16 (fun D5 hX5 h16 => ?_)
      
      replace hO := hO.ext hX5
      replace hR := hR.ext hX5
      replace h3 := hX5.old _ _ h3
      have hC1 : CloOK D5 (allT T) (⟨72, [pt b3], fun t => (t a).1⟩ : Clo) := ⟨Try.call72, fun t ht w' hH' => min1_g a b3 (by omega) _ h3 t w' hH'⟩
      have hC2 : CloOK D5 (allT T) (⟨73, [pt b3], fun t => (t a).2⟩ : Clo) := ⟨Try.call73, fun t ht w' hH' => min2_g a b3 (by omega) _ h3 t w' hH'⟩
      refine WH.one (i := 8) (by kernel_rfl) (WHo.no rfl (SO.fail (Enters.func Try.call65 rfl) (fun w hI => spans2_no T a1 _ c1 bq D5 _ hO hR hI.imm hv (⟨72, [pt b3], fun t => (t a).1⟩ : Clo) (⟨73, [pt b3], fun t => (t a).2⟩ : Clo) b16 h16 hC1 hC2 hne) ?_))
      refine WP.thenPanic ?_
      refine WP.panicD (k := 0) [_, _, _] [_, _, _] rfl Try.call71 rfl (fun w hI => catch71 _ _ _ _ _ (hI.own _ _ (List.mem_of_getElem? (i := 0) rfl))) Try.results30 ⟨(RV.cellN Try.isAgg30 Try.sizeOf30 rfl (vs := [_, _]) rfl (by first | exact RdN.own (k := 0) (n := 2) rfl rfl | exact RdN.own (k := 1) (n := 2) rfl rfl | exact RdN.own (k := 2) (n := 2) rfl rfl | exact (RdN.imm (n := 2) h2 rfl) | exact ((hS9.at 0 (by omega)).rdn 0 2 rfl) | exact ((hS9.at 1 (by omega)).rdn 0 2 rfl))), (RV.cellN Try.isAgg30 Try.sizeOf30 rfl (vs := [_, _]) rfl (by first | exact RdN.own (k := 0) (n := 2) rfl rfl | exact RdN.own (k := 1) (n := 2) rfl rfl | exact RdN.own (k := 2) (n := 2) rfl rfl | exact (RdN.imm (n := 2) h2 rfl) | exact ((hS9.at 0 (by omega)).rdn 0 2 rfl) | exact ((hS9.at 1 (by omega)).rdn 0 2 rfl))), (RV.cell1 Try.isAgg24 rfl (by first | exact Rd.own (k := 0) rfl rfl | exact Rd.own (k := 1) rfl rfl | exact Rd.own (k := 2) rfl rfl | exact (Rd.imm h3 rfl))), trivial⟩ (fun w hI => ⟨congrArg Ending.returned (by rw [hO0]; rfl), hI.keep⟩)
    · refine WHo.so rfl (SO.buildSlice Try.underlying147 Try.sizeOf122 Try.zeroValue122 rfl rfl rfl rfl (cs := [_, _]) rfl) rfl ?_
      rintro _ _ _ ⟨b16, hb16, rfl, rfl, rfl⟩ -- NEW
      refine ⟨(by first | exact (fun _ hI => hI.drop 99) | exact (fun _ hI => (hI.drop 99).shrink hX4.old) | exact (fun _ hI => (hI.drop 99).shrink (fun b o h => hX5.old _ _ (hX4.old _ _ h))) | exact (fun _ hI => (hI.drop 99).shrink (fun b o h => hX6.old _ _ (hX5.old _ _ (hX4.old _ _ h))))), ?_⟩
      refine WH.one (i := 4) (by kernel_rfl) (WHo.so rfl (SO.makes (Enters.func Try.call64 rfl) (fun w hI => open_ok T a1 _ c1 _ _ hR hI.imm hv)) rfl ?_)
      rintro _ D4 _ ⟨hX4, ⟨bq, rfl, hO⟩, rfl⟩
      replace hR := hR.ext hX4
      replace h3 := hX4.old _ _ h3
      refine ⟨(by first | exact (fun _ hI => hI.drop 99) | exact (fun _ hI => (hI.drop 99).shrink hX4.old) | exact (fun _ hI => (hI.drop 99).shrink (fun b o h => hX5.old _ _ (hX4.old _ _ h))) | exact (fun _ hI => (hI.drop 99).shrink (fun b o h => hX6.old _ _ (hX5.old _ _ (hX4.old _ _ h))))), ?_⟩
      refine WH.freezeN 0 b16 (.cells (List.toArray [cloV (⟨72, [pt b3], fun t => (t a).1⟩ : Clo), cloV (⟨73, [pt b3], fun t => (t a).2⟩ : Clo)]) 122 (0, 0)) rfl rfl hb16 (fun D5 hX5 h16 => ?_)
      
      replace hO := hO.ext hX5
      replace hR := hR.ext hX5
      replace h3 := hX5.old _ _ h3
      have hC1 : CloOK D5 (allT T) (⟨72, [pt b3], fun t => (t a).1⟩ : Clo) := ⟨Try.call72, fun t ht w' hH' => min1_g a b3 (by omega) _ h3 t w' hH'⟩
      have hC2 : CloOK D5 (allT T) (⟨73, [pt b3], fun t => (t a).2⟩ : Clo) := ⟨Try.call73, fun t ht w' hH' => min2_g a b3 (by omega) _ h3 t w' hH'⟩
      refine WH.one (i := 8) (by kernel_rfl) (WHo.no rfl (SO.fail (Enters.func Try.call65 rfl) (fun w hI => spans2_no T a1 _ c1 bq D5 _ hO hR hI.imm hv (⟨72, [pt b3], fun t => (t a).1⟩ : Clo) (⟨73, [pt b3], fun t => (t a).2⟩ : Clo) b16 h16 hC1 hC2 hne) ?_))
      refine WP.thenPanic ?_
      refine WP.panicD (k := 0) [_, _, _] [_, _, _] rfl Try.call71 rfl (fun w hI => catch71 _ _ _ _ _ (hI.own _ _ (List.mem_of_getElem? (i := 0) rfl))) Try.results30 ⟨(RV.cellN Try.isAgg30 Try.sizeOf30 rfl (vs := [_, _]) rfl (by first | exact RdN.own (k := 0) (n := 2) rfl rfl | exact RdN.own (k := 1) (n := 2) rfl rfl | exact RdN.own (k := 2) (n := 2) rfl rfl | exact (RdN.imm (n := 2) h2 rfl) | exact ((hS9.at 0 (by omega)).rdn 0 2 rfl) | exact ((hS9.at 1 (by omega)).rdn 0 2 rfl))), (RV.cellN Try.isAgg30 Try.sizeOf30 rfl (vs := [_, _]) rfl (by first | exact RdN.own (k := 0) (n := 2) rfl rfl | exact RdN.own (k := 1) (n := 2) rfl rfl | exact RdN.own (k := 2) (n := 2) rfl rfl | exact (RdN.imm (n := 2) h2 rfl) | exact ((hS9.at 0 (by omega)).rdn 0 2 rfl) | exact ((hS9.at 1 (by omega)).rdn 0 2 rfl))), (RV.cell1 Try.isAgg24 rfl (by first | exact Rd.own (k := 0) rfl rfl | exact Rd.own (k := 1) rfl rfl | exact Rd.own (k := 2) rfl rfl | exact (Rd.imm h3 rfl))), trivial⟩ (fun w hI => ⟨congrArg Ending.returned (by rw [hO0]; rfl), hI.keep⟩)
  · refine WHo.so rfl (SO.buildSlice Try.underlying147 Try.sizeOf122 Try.zeroValue122 rfl rfl rfl rfl (cs := [_, _]) rfl) rfl ?_
    rintro _ _ _ ⟨b16, hb16, rfl, rfl, rfl⟩ -- NEW
    refine ⟨(by first | exact (fun _ hI => hI.drop 99) | exact (fun _ hI => (hI.drop 99).shrink hX4.old) | exact (fun _ hI => (hI.drop 99).shrink (fun b o h => hX5.old _ _ (hX4.old _ _ h))) | exact (fun _ hI => (hI.drop 99).shrink (fun b o h => hX6.old _ _ (hX5.old _ _ (hX4.old _ _ h))))), ?_⟩
    refine WH.one (i := 3) (by kernel_rfl) (WHo.so rfl (SO.callP Try.call68 rfl (fun w hI => isTick_g T a1 _ c1 a _ rfl hl1)) rfl ?_)
    rintro _ _ _ ⟨rfl, rfl, rfl⟩
    refine ⟨(by first | exact (fun _ hI => hI.drop 99) | exact (fun _ hI => (hI.drop 99).shrink hX4.old) | exact (fun _ hI => (hI.drop 99).shrink (fun b o h => hX5.old _ _ (hX4.old _ _ h))) | exact (fun _ hI => (hI.drop 99).shrink (fun b o h => hX6.old _ _ (hX5.old _ _ (hX4.old _ _ h))))), ?_⟩
    refine WH.know 12 (.bool true) rfl (congrArg Value.bool hw) ?_
    refine WH.one (i := 4) (by kernel_rfl) (WHo.so rfl (SO.makes (Enters.func Try.call64 rfl) (fun w hI => open_ok T a1 _ c1 _ _ hR hI.imm hv)) rfl ?_)
    rintro _ D4 _ ⟨hX4, ⟨bq, rfl, hO⟩, rfl⟩
    replace hR := hR.ext hX4
    replace h3 := hX4.old _ _ h3
    refine ⟨(by first | exact (fun _ hI => hI.drop 99) | exact (fun _ hI => (hI.drop 99).shrink hX4.old) | exact (fun _ hI => (hI.drop 99).shrink (fun b o h => hX5.old _ _ (hX4.old _ _ h))) | exact (fun _ hI => (hI.drop 99).shrink (fun b o h => hX6.old _ _ (hX5.old _ _ (hX4.old _ _ h))))), ?_⟩
    refine WH.freezeN 0 b16 (.cells (List.toArray [cloV (⟨72, [pt b3], fun t => (t a).1⟩ : Clo), cloV (⟨73, [pt b3], fun t => (t a).2⟩ : Clo)]) 122 (0, 0)) rfl rfl hb16 (fun D5 hX5 h16 => ?_)
    
    replace hO := hO.ext hX5
    replace hR := hR.ext hX5
    replace h3 := hX5.old _ _ h3
    have hC1 : CloOK D5 (allT T) (⟨72, [pt b3], fun t => (t a).1⟩ : Clo) := ⟨Try.call72, fun t ht w' hH' => min1_g a b3 (by omega) _ h3 t w' hH'⟩
    have hC2 : CloOK D5 (allT T) (⟨73, [pt b3], fun t => (t a).2⟩ : Clo) := ⟨Try.call73, fun t ht w' hH' => min2_g a b3 (by omega) _ h3 t w' hH'⟩
    refine WH.one (i := 8) (by kernel_rfl) (WHo.no rfl (SO.fail (Enters.func Try.call65 rfl) (fun w hI => spans2_no T a1 _ c1 bq D5 _ hO hR hI.imm hv (⟨72, [pt b3], fun t => (t a).1⟩ : Clo) (⟨73, [pt b3], fun t => (t a).2⟩ : Clo) b16 h16 hC1 hC2 hne) ?_))
    refine WP.thenPanic ?_
    refine WP.panicD (k := 0) [_, _, _] [_, _, _] rfl Try.call71 rfl (fun w hI => catch71 _ _ _ _ _ (hI.own _ _ (List.mem_of_getElem? (i := 0) rfl))) Try.results30 ⟨(RV.cellN Try.isAgg30 Try.sizeOf30 rfl (vs := [_, _]) rfl (by first | exact RdN.own (k := 0) (n := 2) rfl rfl | exact RdN.own (k := 1) (n := 2) rfl rfl | exact RdN.own (k := 2) (n := 2) rfl rfl | exact (RdN.imm (n := 2) h2 rfl) | exact ((hS9.at 0 (by omega)).rdn 0 2 rfl) | exact ((hS9.at 1 (by omega)).rdn 0 2 rfl))), (RV.cellN Try.isAgg30 Try.sizeOf30 rfl (vs := [_, _]) rfl (by first | exact RdN.own (k := 0) (n := 2) rfl rfl | exact RdN.own (k := 1) (n := 2) rfl rfl | exact RdN.own (k := 2) (n := 2) rfl rfl | exact (RdN.imm (n := 2) h2 rfl) | exact ((hS9.at 0 (by omega)).rdn 0 2 rfl) | exact ((hS9.at 1 (by omega)).rdn 0 2 rfl))), (RV.cell1 Try.isAgg24 rfl (by first | exact Rd.own (k := 0) rfl rfl | exact Rd.own (k := 1) rfl rfl | exact Rd.own (k := 2) rfl rfl | exact (Rd.imm h3 rfl))), trivial⟩ (fun w hI => ⟨congrArg Ending.returned (by rw [hO0]; rfl), hI.keep⟩)

set_option maxRecDepth 100000 in
set_option maxHeartbeats 1000000 in
theorem Minutes_ok (T : Tks) (a1 : Option Addr) (n1 c1 : Nat) (D : Imm) (w : World) (hR : TksR D T a1 n1) (hH : Holds D w) (n : Int) (hv : tksB T = true) (hw : isT T n = true) (hne : allT T ≠ []) : Gives Try.prog 30 [.agg #[it T.huts, .slice a1 n1 c1], it n] w (.tuple #[spV (MinutesOut T n).1, spV (MinutesOut T n).2.1, it (MinutesOut T n).2.2]) := by
  unfold Gives
  obtain rfl := hR.tick.len'
  have hl1 := hR.len
  have hE : tksE T (isT T n) = 0 := by
    unfold tksE
    rw [if_neg (by rw [hv]; simp), if_neg (by rw [hw]; simp), if_neg (by rw [List.isEmpty_iff]; exact hne)]
  have hO0 : MinutesOut T n = (spanS (fun t => (t n.toNat).1) (allT T), spanS (fun t => (t n.toNat).2) (allT T), 0) := by unfold MinutesOut; rw [if_neg (by rw [hE]; simp)]
  have h5 := (tks_num hv).2.1
  obtain ⟨a, rfl, han⟩ := isT_nat hw
  refine enterD Try.func30 rfl 24 Try.ntmps30 (Nat.le_of_ble_eq_true rfl) (Inv.start hH) ?_
  refine WC.seq ?_
  refine WC.ofFr [(0, _), (1, _)] ⟨rfl, rfl, trivial⟩ ?_
  refine WC.region ?_
  refine WL.so (SO.box rfl rfl) rfl ?_
  rintro _ _ _ ⟨b2, hb2, rfl, rfl, rfl⟩ -- NEW
  refine WL.so (SO.box rfl rfl) rfl ?_
  rintro _ _ _ ⟨b3, hb3, rfl, rfl, rfl⟩ -- NEW
  refine WL.so (SO.alloc Try.zeroValue30 rfl) rfl ?_
  rintro _ _ _ ⟨b4, hb4, rfl, rfl, rfl⟩ -- NEW
  refine WL.so (SO.alloc Try.zeroValue30 rfl) rfl ?_
  rintro _ _ _ ⟨b5, hb5, rfl, rfl, rfl⟩ -- NEW
  refine WL.so (SO.alloc Try.zeroValue24 rfl) rfl ?_
  rintro _ _ _ ⟨b6, hb6, rfl, rfl, rfl⟩ -- NEW
  refine WL.nil ?_
  refine WP.thenC ?_
  refine WC.seq ?_
  refine WC.ofFr [(6, _), (5, _), (4, _), (3, _), (2, _)] ⟨rfl, rfl, rfl, rfl, rfl, trivial⟩ ?_
  refine WC.region ?_
  refine WL.yd (Yd.func rfl rfl) rfl ?_
  refine WL.defer rfl ?_
  refine WL.nil ?_
  refine WP.thenC ?_
  refine WC.seq ?_
  refine WC.freezeN 4 b2 (boxT T (.slice a1 T.l.length c1)) rfl rfl hb2 (fun D1 hX1 h2 => ?_)
  replace hR := hR.ext hX1
  refine WC.freezeN 3 b3 (.cells (List.toArray [it a]) 3 (0, 0)) rfl rfl hb3 (fun D3 hX3 h3 => ?_)
  replace hR := hR.ext hX3
  replace h2 := hX3.old _ _ h2
  refine WC.ofFr [(6, _), (5, _), (4, _), (3, _), (2, _)] ⟨rfl, rfl, rfl, rfl, rfl, trivial⟩ ?_
  refine WC.drawH [] (by kernel_rfl) (fun _ hI => hI.drop 99) ?_
  refine WH.yd (i := 0) (by kernel_rfl) (QuietOn.then (QuietOn.bodyD (by kernel_rfl))) rfl (Yd.loadN Try.isAgg35 Try.sizeOf35 rfl (vs := [_, _]) rfl (by first | exact RdN.own (k := 0) (n := 2) rfl rfl | exact RdN.own (k := 1) (n := 2) rfl rfl | exact RdN.own (k := 2) (n := 2) rfl rfl | exact (RdN.imm (n := 2) h2 rfl) | exact ((hS9.at 0 (by omega)).rdn 0 2 rfl) | exact ((hS9.at 1 (by omega)).rdn 0 2 rfl))) rfl ?_
  refine WH.yd (i := 1) (by kernel_rfl) (QuietOn.then (QuietOn.bodyD (by kernel_rfl))) rfl (Yd.loadN Try.isAgg35 Try.sizeOf35 rfl (vs := [_, _]) rfl (by first | exact RdN.own (k := 0) (n := 2) rfl rfl | exact RdN.own (k := 1) (n := 2) rfl rfl | exact RdN.own (k := 2) (n := 2) rfl rfl | exact (RdN.imm (n := 2) h2 rfl) | exact ((hS9.at 0 (by omega)).rdn 0 2 rfl) | exact ((hS9.at 1 (by omega)).rdn 0 2 rfl))) rfl ?_
  refine WH.yd (i := 2) (by kernel_rfl) (QuietOn.then (QuietOn.bodyD (by kernel_rfl))) rfl (Yd.load1 Try.isAgg3 rfl (by first | exact Rd.own (k := 0) rfl rfl | exact Rd.own (k := 1) rfl rfl | exact Rd.own (k := 2) rfl rfl | exact (Rd.imm h3 rfl))) rfl ?_
  refine WH.yd (i := 5) (by kernel_rfl) (QuietOn.then (QuietOn.bodyD (by kernel_rfl))) rfl (Yd.func rfl rfl) rfl ?_
  refine WH.yd (i := 6) (by kernel_rfl) (QuietOn.then (QuietOn.bodyD (by kernel_rfl))) rfl (Yd.func rfl rfl) rfl ?_
  refine WH.two (i := 3) (j := 7) (by kernel_rfl) ?_ ?_
  · refine WHo.so rfl (SO.callP Try.call68 rfl (fun w hI => isTick_g T a1 _ c1 a _ rfl hl1)) rfl ?_
    rintro _ _ _ ⟨rfl, rfl, rfl⟩
    refine ⟨(by first | exact (fun _ hI => hI.drop 99) | exact (fun _ hI => (hI.drop 99).shrink hX4.old) | exact (fun _ hI => (hI.drop 99).shrink (fun b o h => hX5.old _ _ (hX4.old _ _ h))) | exact (fun _ hI => (hI.drop 99).shrink (fun b o h => hX6.old _ _ (hX5.old _ _ (hX4.old _ _ h))))), ?_⟩
    refine WH.know 12 (.bool true) rfl (congrArg Value.bool hw) ?_
    refine WH.two (i := 4) (j := 7) (by kernel_rfl) ?_ ?_
    · refine WHo.so rfl (SO.makes (Enters.func Try.call64 rfl) (fun w hI => open_ok T a1 _ c1 _ _ hR hI.imm hv)) rfl ?_
      rintro _ D4 _ ⟨hX4, ⟨bq, rfl, hO⟩, rfl⟩
      replace hR := hR.ext hX4
      replace h3 := hX4.old _ _ h3
      refine ⟨(by first | exact (fun _ hI => hI.drop 99) | exact (fun _ hI => (hI.drop 99).shrink hX4.old) | exact (fun _ hI => (hI.drop 99).shrink (fun b o h => hX5.old _ _ (hX4.old _ _ h))) | exact (fun _ hI => (hI.drop 99).shrink (fun b o h => hX6.old _ _ (hX5.old _ _ (hX4.old _ _ h))))), ?_⟩
      refine WH.one (i := 7) (by kernel_rfl) (WHo.so rfl (SO.buildSlice Try.underlying147 Try.sizeOf122 Try.zeroValue122 rfl rfl rfl rfl (cs := [_, _]) rfl) rfl ?_)
      rintro _ _ _ ⟨b16, hb16, rfl, rfl, rfl⟩ -- NEW
      refine ⟨(by first | exact (fun _ hI => hI.drop 99) | exact (fun _ hI => (hI.drop 99).shrink hX4.old) | exact (fun _ hI => (hI.drop 99).shrink (fun b o h => hX5.old _ _ (hX4.old _ _ h))) | exact (fun _ hI => (hI.drop 99).shrink (fun b o h => hX6.old _ _ (hX5.old _ _ (hX4.old _ _ h))))), ?_⟩
      refine WH.freezeN 0 b16 (.cells (List.toArray [cloV (⟨72, [pt b3], fun t => (t a).1⟩ : Clo), cloV (⟨73, [pt b3], fun t => (t a).2⟩ : Clo)]) 122 (0, 0)) rfl rfl hb16 (fun D5 hX5 h16 => ?_)
      
      replace hO := hO.ext hX5
      replace hR := hR.ext hX5
      replace h3 := hX5.old _ _ h3
      have hC1 : CloOK D5 (allT T) (⟨72, [pt b3], fun t => (t a).1⟩ : Clo) := ⟨Try.call72, fun t ht w' hH' => min1_g a b3 (by omega) _ h3 t w' hH'⟩
      have hC2 : CloOK D5 (allT T) (⟨73, [pt b3], fun t => (t a).2⟩ : Clo) := ⟨Try.call73, fun t ht w' hH' => min2_g a b3 (by omega) _ h3 t w' hH'⟩
      refine WH.one (i := 8) (by kernel_rfl) (WHo.so rfl (SO.makes (Enters.func Try.call65 rfl) (fun w hI => spans2_ok T a1 _ c1 bq D5 _ hO hR hI.imm hv (⟨72, [pt b3], fun t => (t a).1⟩ : Clo) (⟨73, [pt b3], fun t => (t a).2⟩ : Clo) b16 h16 hC1 hC2 hne)) rfl ?_)
      rintro _ D6 _ ⟨hX6, ⟨a9, c9, rfl, hS9⟩, rfl⟩
      refine ⟨(by first | exact (fun _ hI => hI.drop 99) | exact (fun _ hI => (hI.drop 99).shrink hX4.old) | exact (fun _ hI => (hI.drop 99).shrink (fun b o h => hX5.old _ _ (hX4.old _ _ h))) | exact (fun _ hI => (hI.drop 99).shrink (fun b o h => hX6.old _ _ (hX5.old _ _ (hX4.old _ _ h))))), ?_⟩
      refine WH.yd (i := 9) (by kernel_rfl) (QuietOn.then (QuietOn.bodyD (by kernel_rfl))) rfl (Yd.assign rfl) rfl ?_
      refine WH.nil (by kernel_rfl) ?_
      refine WP.thenC ?_
      refine WC.seq ?_
      refine WC.ofFr [(7, _), (6, _), (5, _), (4, _)] ⟨rfl, rfl, rfl, rfl, trivial⟩ ?_
      refine WC.drawD [] [(0, true), (1, true), (2, true), (3, true), (4, true), (5, true), (6, false), (7, false), (8, false)] (by kernel_rfl) (by kernel_rfl) (QuietOn.then (QuietOn.bodyD (by kernel_rfl))) (fun _ hI => hI.drop 99) ?_
      refine WA.yd rfl (Yd.move rfl) rfl ?_
      refine WA.yd rfl (Yd.indexS Try.underlying109 Try.sizeOf30 rfl rfl (by omega) (by omega) (by first | exact hS9.addr 0 (by omega) | exact hS9.addr 1 (by omega))) rfl ?_
      refine WA.yd rfl (Yd.loadN Try.isAgg30 Try.sizeOf30 rfl (vs := [_, _]) rfl (by first | exact RdN.own (k := 0) (n := 2) rfl rfl | exact RdN.own (k := 1) (n := 2) rfl rfl | exact RdN.own (k := 2) (n := 2) rfl rfl | exact (RdN.imm (n := 2) h2 rfl) | exact ((hS9.at 0 (by omega)).rdn 0 2 rfl) | exact ((hS9.at 1 (by omega)).rdn 0 2 rfl))) rfl ?_
      refine WA.yd rfl (Yd.move rfl) rfl ?_
      refine WA.yd rfl (Yd.indexS Try.underlying109 Try.sizeOf30 rfl rfl (by omega) (by omega) (by first | exact hS9.addr 0 (by omega) | exact hS9.addr 1 (by omega))) rfl ?_
      refine WA.yd rfl (Yd.loadN Try.isAgg30 Try.sizeOf30 rfl (vs := [_, _]) rfl (by first | exact RdN.own (k := 0) (n := 2) rfl rfl | exact RdN.own (k := 1) (n := 2) rfl rfl | exact RdN.own (k := 2) (n := 2) rfl rfl | exact (RdN.imm (n := 2) h2 rfl) | exact ((hS9.at 0 (by omega)).rdn 0 2 rfl) | exact ((hS9.at 1 (by omega)).rdn 0 2 rfl))) rfl ?_
      refine WA.so rfl (SO.store 2 rfl Try.sizeOf30 rfl rfl rfl rfl (Nat.le_of_ble_eq_true rfl) (oneB_spec rfl)) rfl ?_
      rintro _ _ _ ⟨rfl, rfl, rfl⟩
      refine ⟨fun _ hI => hI.drop 99, ?_⟩
      refine WA.so rfl (SO.store 1 rfl Try.sizeOf30 rfl rfl rfl rfl (Nat.le_of_ble_eq_true rfl) (oneB_spec rfl)) rfl ?_
      rintro _ _ _ ⟨rfl, rfl, rfl⟩
      refine ⟨fun _ hI => hI.drop 99, ?_⟩
      refine WA.so rfl (SO.store 0 rfl Try.sizeOf24 rfl rfl rfl rfl (Nat.le_of_ble_eq_true rfl) (oneB_spec rfl)) rfl ?_
      rintro _ _ _ ⟨rfl, rfl, rfl⟩
      refine ⟨fun _ hI => hI.drop 99, ?_⟩
      refine WA.nil ?_
      refine WP.thenC ?_
      refine WC.ret ?_
      refine WP.endD [_, _, _] [_, _, _] rfl rfl Try.call71 (fun w hI => idle71 _ _) Try.results30 ⟨(RV.cellN Try.isAgg30 Try.sizeOf30 rfl (vs := [_, _]) rfl (by first | exact RdN.own (k := 0) (n := 2) rfl rfl | exact RdN.own (k := 1) (n := 2) rfl rfl | exact RdN.own (k := 2) (n := 2) rfl rfl | exact (RdN.imm (n := 2) h2 rfl) | exact ((hS9.at 0 (by omega)).rdn 0 2 rfl) | exact ((hS9.at 1 (by omega)).rdn 0 2 rfl))), (RV.cellN Try.isAgg30 Try.sizeOf30 rfl (vs := [_, _]) rfl (by first | exact RdN.own (k := 0) (n := 2) rfl rfl | exact RdN.own (k := 1) (n := 2) rfl rfl | exact RdN.own (k := 2) (n := 2) rfl rfl | exact (RdN.imm (n := 2) h2 rfl) | exact ((hS9.at 0 (by omega)).rdn 0 2 rfl) | exact ((hS9.at 1 (by omega)).rdn 0 2 rfl))), (RV.cell1 Try.isAgg24 rfl (by first | exact Rd.own (k := 0) rfl rfl | exact Rd.own (k := 1) rfl rfl | exact Rd.own (k := 2) rfl rfl | exact (Rd.imm h3 rfl))), trivial⟩ (fun w hI => ⟨congrArg Ending.returned (by rw [hO0]; rfl), hI.keep⟩)
    · refine WHo.so rfl (SO.buildSlice Try.underlying147 Try.sizeOf122 Try.zeroValue122 rfl rfl rfl rfl (cs := [_, _]) rfl) rfl ?_
      rintro _ _ _ ⟨b16, hb16, rfl, rfl, rfl⟩ -- NEW
      refine ⟨(by first | exact (fun _ hI => hI.drop 99) | exact (fun _ hI => (hI.drop 99).shrink hX4.old) | exact (fun _ hI => (hI.drop 99).shrink (fun b o h => hX5.old _ _ (hX4.old _ _ h))) | exact (fun _ hI => (hI.drop 99).shrink (fun b o h => hX6.old _ _ (hX5.old _ _ (hX4.old _ _ h))))), ?_⟩
      refine WH.one (i := 4) (by kernel_rfl) (WHo.so rfl (SO.makes (Enters.func Try.call64 rfl) (fun w hI => open_ok T a1 _ c1 _ _ hR hI.imm hv)) rfl ?_)
      rintro _ D4 _ ⟨hX4, ⟨bq, rfl, hO⟩, rfl⟩
      replace hR := hR.ext hX4
      replace h3 := hX4.old _ _ h3
      refine ⟨(by first | exact (fun _ hI => hI.drop 99) | exact (fun _ hI => (hI.drop 99).shrink hX4.old) | exact (fun _ hI => (hI.drop 99).shrink (fun b o h => hX5.old _ _ (hX4.old _ _ h))) | exact (fun _ hI => (hI.drop 99).shrink (fun b o h => hX6.old _ _ (hX5.old _ _ (hX4.old _ _ h))))), ?_⟩
      refine WH.freezeN 0 b16 (.cells (List.toArray [cloV (⟨72, [pt b3], fun t => (t a).1⟩ : Clo), cloV (⟨73, [pt b3], fun t => (t a).2⟩ : Clo)]) 122 (0, 0)) rfl rfl hb16 (fun D5 hX5 h16 => ?_)
      
      replace hO := hO.ext hX5
      replace hR := hR.ext hX5
      replace h3 := hX5.old _ _ h3
      have hC1 : CloOK D5 (allT T) (⟨72, [pt b3], fun t => (t a).1⟩ : Clo) := ⟨Try.call72, fun t ht w' hH' => min1_g a b3 (by omega) _ h3 t w' hH'⟩
      have hC2 : CloOK D5 (allT T) (⟨73, [pt b3], fun t => (t a).2⟩ : Clo) := ⟨Try.call73, fun t ht w' hH' => min2_g a b3 (by omega) _ h3 t w' hH'⟩
      refine WH.one (i := 8) (by kernel_rfl) (WHo.so rfl (SO.makes (Enters.func Try.call65 rfl) (fun w hI => spans2_ok T a1 _ c1 bq D5 _ hO hR hI.imm hv (⟨72, [pt b3], fun t => (t a).1⟩ : Clo) (⟨73, [pt b3], fun t => (t a).2⟩ : Clo) b16 h16 hC1 hC2 hne)) rfl ?_)
      rintro _ D6 _ ⟨hX6, ⟨a9, c9, rfl, hS9⟩, rfl⟩
      refine ⟨(by first | exact (fun _ hI => hI.drop 99) | exact (fun _ hI => (hI.drop 99).shrink hX4.old) | exact (fun _ hI => (hI.drop 99).shrink (fun b o h => hX5.old _ _ (hX4.old _ _ h))) | exact (fun _ hI => (hI.drop 99).shrink (fun b o h => hX6.old _ _ (hX5.old _ _ (hX4.old _ _ h))))), ?_⟩
      refine WH.yd (i := 9) (by kernel_rfl) (QuietOn.then (QuietOn.bodyD (by kernel_rfl))) rfl (Yd.assign rfl) rfl ?_
      refine WH.nil (by kernel_rfl) ?_
      refine WP.thenC ?_
      refine WC.seq ?_
      refine WC.ofFr [(7, _), (6, _), (5, _), (4, _)] ⟨rfl, rfl, rfl, rfl, trivial⟩ ?_
      refine WC.drawD [] [(0, true), (1, true), (2, true), (3, true), (4, true), (5, true), (6, false), (7, false), (8, false)] (by kernel_rfl) (by kernel_rfl) (QuietOn.then (QuietOn.bodyD (by kernel_rfl))) (fun _ hI => hI.drop 99) ?_
      refine WA.yd rfl (Yd.move rfl) rfl ?_
      refine WA.yd rfl (Yd.indexS Try.underlying109 Try.sizeOf30 rfl rfl (by omega) (by omega) (by first | exact hS9.addr 0 (by omega) | exact hS9.addr 1 (by omega))) rfl ?_
      refine WA.yd rfl (Yd.loadN Try.isAgg30 Try.sizeOf30 rfl (vs := [_, _]) rfl (by first | exact RdN.own (k := 0) (n := 2) rfl rfl | exact RdN.own (k := 1) (n := 2) rfl rfl | exact RdN.own (k := 2) (n := 2) rfl rfl | exact (RdN.imm (n := 2) h2 rfl) | exact ((hS9.at 0 (by omega)).rdn 0 2 rfl) | exact ((hS9.at 1 (by omega)).rdn 0 2 rfl))) rfl ?_
      refine WA.yd rfl (Yd.move rfl) rfl ?_
      refine WA.yd rfl (Yd.indexS Try.underlying109 Try.sizeOf30 rfl rfl (by omega) (by omega) (by first | exact hS9.addr 0 (by omega) | exact hS9.addr 1 (by omega))) rfl ?_
      refine WA.yd rfl (Yd.loadN Try.isAgg30 Try.sizeOf30 rfl (vs := [_, _]) rfl (by first | exact RdN.own (k := 0) (n := 2) rfl rfl | exact RdN.own (k := 1) (n := 2) rfl rfl | exact RdN.own (k := 2) (n := 2) rfl rfl | exact (RdN.imm (n := 2) h2 rfl) | exact ((hS9.at 0 (by omega)).rdn 0 2 rfl) | exact ((hS9.at 1 (by omega)).rdn 0 2 rfl))) rfl ?_
      refine WA.so rfl (SO.store 2 rfl Try.sizeOf30 rfl rfl rfl rfl (Nat.le_of_ble_eq_true rfl) (oneB_spec rfl)) rfl ?_
      rintro _ _ _ ⟨rfl, rfl, rfl⟩
      refine ⟨fun _ hI => hI.drop 99, ?_⟩
      refine WA.so rfl (SO.store 1 rfl Try.sizeOf30 rfl rfl rfl rfl (Nat.le_of_ble_eq_true rfl) (oneB_spec rfl)) rfl ?_
      rintro _ _ _ ⟨rfl, rfl, rfl⟩
      refine ⟨fun _ hI => hI.drop 99, ?_⟩
      refine WA.so rfl (SO.store 0 rfl Try.sizeOf24 rfl rfl rfl rfl (Nat.le_of_ble_eq_true rfl) (oneB_spec rfl)) rfl ?_
      rintro _ _ _ ⟨rfl, rfl, rfl⟩
      refine ⟨fun _ hI => hI.drop 99, ?_⟩
      refine WA.nil ?_
      refine WP.thenC ?_
      refine WC.ret ?_
      refine WP.endD [_, _, _] [_, _, _] rfl rfl Try.call71 (fun w hI => idle71 _ _) Try.results30 ⟨(RV.cellN Try.isAgg30 Try.sizeOf30 rfl (vs := [_, _]) rfl (by first | exact RdN.own (k := 0) (n := 2) rfl rfl | exact RdN.own (k := 1) (n := 2) rfl rfl | exact RdN.own (k := 2) (n := 2) rfl rfl | exact (RdN.imm (n := 2) h2 rfl) | exact ((hS9.at 0 (by omega)).rdn 0 2 rfl) | exact ((hS9.at 1 (by omega)).rdn 0 2 rfl))), (RV.cellN Try.isAgg30 Try.sizeOf30 rfl (vs := [_, _]) rfl (by first | exact RdN.own (k := 0) (n := 2) rfl rfl | exact RdN.own (k := 1) (n := 2) rfl rfl | exact RdN.own (k := 2) (n := 2) rfl rfl | exact (RdN.imm (n := 2) h2 rfl) | exact ((hS9.at 0 (by omega)).rdn 0 2 rfl) | exact ((hS9.at 1 (by omega)).rdn 0 2 rfl))), (RV.cell1 Try.isAgg24 rfl (by first | exact Rd.own (k := 0) rfl rfl | exact Rd.own (k := 1) rfl rfl | exact Rd.own (k := 2) rfl rfl | exact (Rd.imm h3 rfl))), trivial⟩ (fun w hI => ⟨congrArg Ending.returned (by rw [hO0]; rfl), hI.keep⟩)
  · refine WHo.so rfl (SO.buildSlice Try.underlying147 Try.sizeOf122 Try.zeroValue122 rfl rfl rfl rfl (cs := [_, _]) rfl) rfl ?_
    rintro _ _ _ ⟨b16, hb16, rfl, rfl, rfl⟩ -- NEW
    refine ⟨(by first | exact (fun _ hI => hI.drop 99) | exact (fun _ hI => (hI.drop 99).shrink hX4.old) | exact (fun _ hI => (hI.drop 99).shrink (fun b o h => hX5.old _ _ (hX4.old _ _ h))) | exact (fun _ hI => (hI.drop 99).shrink (fun b o h => hX6.old _ _ (hX5.old _ _ (hX4.old _ _ h))))), ?_⟩
    refine WH.one (i := 3) (by kernel_rfl) (WHo.so rfl (SO.callP Try.call68 rfl (fun w hI => isTick_g T a1 _ c1 a _ rfl hl1)) rfl ?_)
    rintro _ _ _ ⟨rfl, rfl, rfl⟩
    refine ⟨(by first | exact (fun _ hI => hI.drop 99) | exact (fun _ hI => (hI.drop 99).shrink hX4.old) | exact (fun _ hI => (hI.drop 99).shrink (fun b o h => hX5.old _ _ (hX4.old _ _ h))) | exact (fun _ hI => (hI.drop 99).shrink (fun b o h => hX6.old _ _ (hX5.old _ _ (hX4.old _ _ h))))), ?_⟩
    refine WH.know 12 (.bool true) rfl (congrArg Value.bool hw) ?_
    refine WH.one (i := 4) (by kernel_rfl) (WHo.so rfl (SO.makes (Enters.func Try.call64 rfl) (fun w hI => open_ok T a1 _ c1 _ _ hR hI.imm hv)) rfl ?_)
    rintro _ D4 _ ⟨hX4, ⟨bq, rfl, hO⟩, rfl⟩
    replace hR := hR.ext hX4
    replace h3 := hX4.old _ _ h3
    refine ⟨(by first | exact (fun _ hI => hI.drop 99) | exact (fun _ hI => (hI.drop 99).shrink hX4.old) | exact (fun _ hI => (hI.drop 99).shrink (fun b o h => hX5.old _ _ (hX4.old _ _ h))) | exact (fun _ hI => (hI.drop 99).shrink (fun b o h => hX6.old _ _ (hX5.old _ _ (hX4.old _ _ h))))), ?_⟩
    refine WH.freezeN 0 b16 (.cells (List.toArray [cloV (⟨72, [pt b3], fun t => (t a).1⟩ : Clo), cloV (⟨73, [pt b3], fun t => (t a).2⟩ : Clo)]) 122 (0, 0)) rfl rfl hb16 (fun D5 hX5 h16 => ?_)
    
    replace hO := hO.ext hX5
    replace hR := hR.ext hX5
    replace h3 := hX5.old _ _ h3
    have hC1 : CloOK D5 (allT T) (⟨72, [pt b3], fun t => (t a).1⟩ : Clo) := ⟨Try.call72, fun t ht w' hH' => min1_g a b3 (by omega) _ h3 t w' hH'⟩
    have hC2 : CloOK D5 (allT T) (⟨73, [pt b3], fun t => (t a).2⟩ : Clo) := ⟨Try.call73, fun t ht w' hH' => min2_g a b3 (by omega) _ h3 t w' hH'⟩
    refine WH.one (i := 8) (by kernel_rfl) (WHo.so rfl (SO.makes (Enters.func Try.call65 rfl) (fun w hI => spans2_ok T a1 _ c1 bq D5 _ hO hR hI.imm hv (⟨72, [pt b3], fun t => (t a).1⟩ : Clo) (⟨73, [pt b3], fun t => (t a).2⟩ : Clo) b16 h16 hC1 hC2 hne)) rfl ?_)
    rintro _ D6 _ ⟨hX6, ⟨a9, c9, rfl, hS9⟩, rfl⟩
    refine ⟨(by first | exact (fun _ hI => hI.drop 99) | exact (fun _ hI => (hI.drop 99).shrink hX4.old) | exact (fun _ hI => (hI.drop 99).shrink (fun b o h => hX5.old _ _ (hX4.old _ _ h))) | exact (fun _ hI => (hI.drop 99).shrink (fun b o h => hX6.old _ _ (hX5.old _ _ (hX4.old _ _ h))))), ?_⟩
    refine WH.yd (i := 9) (by kernel_rfl) (QuietOn.then (QuietOn.bodyD (by kernel_rfl))) rfl (Yd.assign rfl) rfl ?_
    refine WH.nil (by kernel_rfl) ?_
    refine WP.thenC ?_
    refine WC.seq ?_
    refine WC.ofFr [(7, _), (6, _), (5, _), (4, _)] ⟨rfl, rfl, rfl, rfl, trivial⟩ ?_
    refine WC.drawD [] [(0, true), (1, true), (2, true), (3, true), (4, true), (5, true), (6, false), (7, false), (8, false)] (by kernel_rfl) (by kernel_rfl) (QuietOn.then (QuietOn.bodyD (by kernel_rfl))) (fun _ hI => hI.drop 99) ?_
    refine WA.yd rfl (Yd.move rfl) rfl ?_
    refine WA.yd rfl (Yd.indexS Try.underlying109 Try.sizeOf30 rfl rfl (by omega) (by omega) (by first | exact hS9.addr 0 (by omega) | exact hS9.addr 1 (by omega))) rfl ?_
    refine WA.yd rfl (Yd.loadN Try.isAgg30 Try.sizeOf30 rfl (vs := [_, _]) rfl (by first | exact RdN.own (k := 0) (n := 2) rfl rfl | exact RdN.own (k := 1) (n := 2) rfl rfl | exact RdN.own (k := 2) (n := 2) rfl rfl | exact (RdN.imm (n := 2) h2 rfl) | exact ((hS9.at 0 (by omega)).rdn 0 2 rfl) | exact ((hS9.at 1 (by omega)).rdn 0 2 rfl))) rfl ?_
    refine WA.yd rfl (Yd.move rfl) rfl ?_
    refine WA.yd rfl (Yd.indexS Try.underlying109 Try.sizeOf30 rfl rfl (by omega) (by omega) (by first | exact hS9.addr 0 (by omega) | exact hS9.addr 1 (by omega))) rfl ?_
    refine WA.yd rfl (Yd.loadN Try.isAgg30 Try.sizeOf30 rfl (vs := [_, _]) rfl (by first | exact RdN.own (k := 0) (n := 2) rfl rfl | exact RdN.own (k := 1) (n := 2) rfl rfl | exact RdN.own (k := 2) (n := 2) rfl rfl | exact (RdN.imm (n := 2) h2 rfl) | exact ((hS9.at 0 (by omega)).rdn 0 2 rfl) | exact ((hS9.at 1 (by omega)).rdn 0 2 rfl))) rfl ?_
    refine WA.so rfl (SO.store 2 rfl Try.sizeOf30 rfl rfl rfl rfl (Nat.le_of_ble_eq_true rfl) (oneB_spec rfl)) rfl ?_
    rintro _ _ _ ⟨rfl, rfl, rfl⟩
    refine ⟨fun _ hI => hI.drop 99, ?_⟩
    refine WA.so rfl (SO.store 1 rfl Try.sizeOf30 rfl rfl rfl rfl (Nat.le_of_ble_eq_true rfl) (oneB_spec rfl)) rfl ?_
    rintro _ _ _ ⟨rfl, rfl, rfl⟩
    refine ⟨fun _ hI => hI.drop 99, ?_⟩
    refine WA.so rfl (SO.store 0 rfl Try.sizeOf24 rfl rfl rfl rfl (Nat.le_of_ble_eq_true rfl) (oneB_spec rfl)) rfl ?_
    rintro _ _ _ ⟨rfl, rfl, rfl⟩
    refine ⟨fun _ hI => hI.drop 99, ?_⟩
    refine WA.nil ?_
    refine WP.thenC ?_
    refine WC.ret ?_
    refine WP.endD [_, _, _] [_, _, _] rfl rfl Try.call71 (fun w hI => idle71 _ _) Try.results30 ⟨(RV.cellN Try.isAgg30 Try.sizeOf30 rfl (vs := [_, _]) rfl (by first | exact RdN.own (k := 0) (n := 2) rfl rfl | exact RdN.own (k := 1) (n := 2) rfl rfl | exact RdN.own (k := 2) (n := 2) rfl rfl | exact (RdN.imm (n := 2) h2 rfl) | exact ((hS9.at 0 (by omega)).rdn 0 2 rfl) | exact ((hS9.at 1 (by omega)).rdn 0 2 rfl))), (RV.cellN Try.isAgg30 Try.sizeOf30 rfl (vs := [_, _]) rfl (by first | exact RdN.own (k := 0) (n := 2) rfl rfl | exact RdN.own (k := 1) (n := 2) rfl rfl | exact RdN.own (k := 2) (n := 2) rfl rfl | exact (RdN.imm (n := 2) h2 rfl) | exact ((hS9.at 0 (by omega)).rdn 0 2 rfl) | exact ((hS9.at 1 (by omega)).rdn 0 2 rfl))), (RV.cell1 Try.isAgg24 rfl (by first | exact Rd.own (k := 0) rfl rfl | exact Rd.own (k := 1) rfl rfl | exact Rd.own (k := 2) rfl rfl | exact (Rd.imm h3 rfl))), trivial⟩ (fun w hI => ⟨congrArg Ending.returned (by rw [hO0]; rfl), hI.keep⟩)

theorem Minutes_g (T : Tks) (a1 : Option Addr) (n1 c1 : Nat) (D : Imm) (w : World) (hR : TksR D T a1 n1) (hH : Holds D w) (n : Int) : Gives Try.prog 30 [.agg #[it T.huts, .slice a1 n1 c1], it n] w (.tuple #[spV (MinutesOut T n).1, spV (MinutesOut T n).2.1, it (MinutesOut T n).2.2]) := by
  cases hv : tksB T with
  | false => exact Minutes_1 T a1 n1 c1 D w hR hH n hv
  | true =>
    cases hw : isT T n with
    | false => exact Minutes_2 T a1 n1 c1 D w hR hH n hv hw
    | true =>
      by_cases hne : allT T = []
      · exact Minutes_3 T a1 n1 c1 D w hR hH n hv hw hne
      · exact Minutes_ok T a1 n1 c1 D w hR hH n hv hw hne

end Go.Proofs.Ytpnbkdlejfmbeaa
namespace Go.Proofs.Ytpnbkdlejfmbeaa
open Go.W Go.Ti
theorem FA37_0 : FieldAt Try.prog 37 0 0 := FieldAt.mk (t := 35) (off := 0) Try.underlying37 rfl Try.sizeOf35 (by decide)
theorem FA37_1 : FieldAt Try.prog 37 1 2 := FieldAt.mk (t := 3) (off := 2) Try.underlying37 rfl Try.sizeOf3 (by decide)
theorem FA37_2 : FieldAt Try.prog 37 2 3 := FieldAt.mk (t := 3) (off := 3) Try.underlying37 rfl Try.sizeOf3 (by decide)
theorem FA37_3 : FieldAt Try.prog 37 3 4 := FieldAt.mk (t := 3) (off := 4) Try.underlying37 rfl Try.sizeOf3 (by decide)
theorem FA44_0 : FieldAt Try.prog 44 0 0 := FieldAt.mk (t := 3) (off := 0) Try.underlying44 rfl Try.sizeOf3 (by decide)
theorem FA44_1 : FieldAt Try.prog 44 1 1 := FieldAt.mk (t := 3) (off := 1) Try.underlying44 rfl Try.sizeOf3 (by decide)
theorem FA82_0 : FieldAt Try.prog 82 0 0 := FieldAt.mk (t := 37) (off := 0) Try.underlying82 rfl Try.sizeOf37 (by decide)
theorem SA82 : StructAt Try.prog 82 [.int .i64 0, .slice none 0 0, .int .i64 0, .int .i64 0, .int .i64 0] [(0, 5)] := ⟨⟨_, Try.zeroValue82, rfl⟩, _, Try.underlying82, fun w => by simp [Try.sizeOf37]⟩
def entC (e : Ent) : List Value := [it e.ticket, it e.kind, it e.pence]
theorem entC_len : ∀ e, (entC e).length = 3 := fun _ => rfl
structure BookR (D : Imm) (l : List Ent) (a : Option Addr) (n : Nat) : Prop where
  ent : SlL D 3 (l.map entC) a n
  len : n ≤ 1000
theorem BookR.ext {w : World} {D D' : Imm} (hD : DExt w D D') {l : List Ent} {a : Option Addr} {n : Nat} (h : BookR D l a n) : BookR D' l a n := ⟨h.ent.ext hD, h.len⟩
theorem BookR.nil (D : Imm) : BookR D [] none 0 := ⟨⟨rfl, fun i r hr => by simp at hr⟩, by omega⟩
def tillC (X : Till) (s1 : Value) : List Value := [it X.tk.huts, s1, it X.price, it X.fine, it X.wait]
def openT (X : Till) (v : Value) (E : Int) : Ending := if E = 0 then .returned v else .panicked (stopT E)
theorem openT_no {X : Till} {v : Value} {E F : Int} (h : E = F) (h0 : F ≠ 0) : Ending.panicked (stopT F) = openT X v E := by
  subst h; unfold openT; rw [if_neg h0]
theorem openT_ok {X : Till} {v : Value} {E : Int} (h : E = 0) : Ending.returned v = openT X v E := by
  unfold openT; rw [if_pos h]

set_option maxRecDepth 100000 in
set_option maxHeartbeats 1000000 in
theorem manyT_g (X : Till) (a1 : Option Addr) (n1 c1 : Nat) (w : World) : Gives Try.prog 55 [.agg #[it X.tk.huts, .slice a1 n1 c1, it X.price, it X.fine, it X.wait]] w (nt n1) := by
  unfold Gives
  refine enter Try.func55 rfl 8 Try.ntmps55 (Nat.le_of_ble_eq_true rfl) (Inv.start (D := fun _ => none) (by intro _ _ h; cases h)) ?_
  refine WC.seq ?_
  refine WC.ofFr [(0, _)] ⟨rfl, trivial⟩ ?_
  refine WC.region ?_
  refine WL.so (SO.box rfl rfl) rfl ?_
  rintro _ _ _ ⟨b1, hb1, rfl, rfl, rfl⟩ -- NEW
  refine WL.yd (Yd.assign rfl) rfl ?_
  refine WL.nil ?_
  refine WP.thenC ?_
  refine WC.seq ?_
  refine WC.ofFr [(2, _), (1, _)] ⟨rfl, rfl, trivial⟩ ?_
  refine WC.region ?_
  refine WL.yd (Yd.fieldAddr FA82_0 rfl) rfl ?_
  refine WL.yd (Yd.fieldAddr FA37_0 rfl) rfl ?_
  refine WL.yd (Yd.fieldAddr FA35_1 rfl) rfl ?_
  refine WL.yd (Yd.load1 Try.isAgg33 rfl (by first | exact Rd.own (k := 0) rfl rfl)) rfl ?_
  refine WL.yd (Yd.lenS rfl Try.underlying33 rfl) rfl ?_
  refine WL.yd (Yd.assign rfl) rfl ?_
  refine WL.nil ?_
  refine WP.thenC ?_
  refine WC.ret ?_
  refine WP.ret1 rfl rfl Try.results55 (RV.tmp rfl) (fun w hI => ⟨rfl, hI.keep⟩)

set_option maxRecDepth 100000 in
set_option maxHeartbeats 1000000 in
theorem isTickT_g (X : Till) (a1 : Option Addr) (n1 c1 : Nat) (n : Int) (w : World) (hn : n1 = X.tk.l.length) (hl : n1 ≤ 1000) : Gives Try.prog 76 [.agg #[it X.tk.huts, .slice a1 n1 c1, it X.price, it X.fine, it X.wait], it n] w (.bool (isT X.tk n)) := by
  unfold Gives
  refine enter Try.func76 rfl 10 Try.ntmps76 (Nat.le_of_ble_eq_true rfl) (Inv.start (D := fun _ => none) (by intro _ _ h; cases h)) ?_
  refine WC.seq ?_
  refine WC.ofFr [(0, _), (1, _)] ⟨rfl, rfl, trivial⟩ ?_
  refine WC.region ?_
  refine WL.so (SO.box rfl rfl) rfl ?_
  rintro _ _ _ ⟨b2, hb2, rfl, rfl, rfl⟩ -- NEW
  refine WL.yd (Yd.assign rfl) rfl ?_
  refine WL.nil ?_
  refine WP.thenC ?_
  refine WC.seq ?_
  refine WC.ofFr [(4, _), (2, _), (1, _)] ⟨rfl, rfl, rfl, trivial⟩ ?_
  refine WC.region ?_
  refine WL.yd (Yd.move rfl) rfl ?_
  refine WL.yd (Yd.loadN Try.isAgg82 Try.sizeOf82 rfl (vs := [_, _, _, _, _]) rfl (by first | exact RdN.own (k := 0) (n := 5) rfl rfl)) rfl ?_
  refine WL.so (SO.callP Try.call55 rfl (fun w hI => manyT_g X a1 _ c1 _)) rfl ?_
  rintro _ _ _ ⟨rfl, rfl, rfl⟩
  refine WL.yd (Yd.sub rfl rfl (wr64 ⟨by omega, by omega⟩)) rfl ?_
  refine WL.so (SO.callP Try.call34 rfl (fun w hI => withinT_g _ _ _ _)) rfl ?_
  rintro _ _ _ ⟨rfl, rfl, rfl⟩
  refine WL.yd (Yd.assign rfl) rfl ?_
  refine WL.nil ?_
  refine WP.thenC ?_
  refine WC.ret ?_
  refine WP.ret1 rfl rfl Try.results76 (RV.tmp rfl) (fun w hI => ⟨ret_bool (by subst hn; rfl), hI.keep⟩)

set_option maxRecDepth 100000 in
set_option maxHeartbeats 1000000 in
theorem always_g (v : Value) (X : Till) (a1 : Option Addr) (n1 c1 : Nat) (w : World) : Gives Try.prog 45 [.agg #[it X.tk.huts, .slice a1 n1 c1, it X.price, it X.fine, it X.wait]] w (.bool true) := by
  unfold Gives
  refine enter Try.func45 rfl 3 Try.ntmps45 (Nat.le_of_ble_eq_true rfl) (Inv.start (D := fun _ => none) (by intro _ _ h; cases h)) ?_
  refine WC.seq ?_
  refine WC.ofFr [(0, _)] ⟨rfl, trivial⟩ ?_
  refine WC.region ?_
  refine WL.so (SO.box rfl rfl) rfl ?_
  rintro _ _ _ ⟨b1, hb1, rfl, rfl, rfl⟩ -- NEW
  refine WL.yd (Yd.assign rfl) rfl ?_
  refine WL.nil ?_
  refine WP.thenC ?_
  refine WC.seq ?_
  refine WC.ofFr [(2, _)] ⟨rfl, trivial⟩ ?_
  refine WC.region ?_
  refine WL.yd (Yd.assign rfl) rfl ?_
  refine WL.nil ?_
  refine WP.thenC ?_
  refine WC.ret ?_
  refine WP.ret1 rfl rfl Try.results45 (RV.tmp rfl) (fun w hI => ⟨rfl, hI.keep⟩)

set_option maxRecDepth 100000 in
set_option maxHeartbeats 1000000 in
theorem isn_g (X : Till) (a1 : Option Addr) (n1 c1 b1 : Nat) (n : Int) (D : Imm) (h1 : D b1 = some (.cells (List.toArray [it n]) 3 (0, 0))) (hn : n1 = X.tk.l.length) (hl1 : n1 ≤ 1000) (w : World) (hH : Holds D w) : Gives Try.prog 75 [.agg #[it X.tk.huts, .slice a1 n1 c1, it X.price, it X.fine, it X.wait], pt b1] w (.bool (isT X.tk n)) := by
  unfold Gives
  subst hn
  refine enter Try.func75 rfl 7 Try.ntmps75 (Nat.le_of_ble_eq_true rfl) (Inv.start hH) ?_
  refine WC.seq ?_
  refine WC.ofFr [(0, _), (1, _)] ⟨rfl, rfl, trivial⟩ ?_
  refine WC.region ?_
  refine WL.so (SO.box rfl rfl) rfl ?_
  rintro _ _ _ ⟨b2, hb2, rfl, rfl, rfl⟩ -- NEW
  refine WL.yd (Yd.assign rfl) rfl ?_
  refine WL.nil ?_
  refine WP.thenC ?_
  refine WC.seq ?_
  refine WC.ofFr [(3, _), (2, _), (1, _)] ⟨rfl, rfl, rfl, trivial⟩ ?_
  refine WC.region ?_
  refine WL.yd (Yd.loadN Try.isAgg82 Try.sizeOf82 rfl (vs := [_, _, _, _, _]) rfl (by first | exact RdN.own (k := 0) (n := 5) rfl rfl)) rfl ?_
  refine WL.yd (Yd.load1 Try.isAgg3 rfl (by first | exact Rd.own (k := 0) rfl rfl | exact (Rd.imm h1 rfl))) rfl ?_
  refine WL.so (SO.callP Try.call76 rfl (fun w hI => isTickT_g X a1 _ c1 n _ rfl hl1)) rfl ?_
  rintro _ _ _ ⟨rfl, rfl, rfl⟩
  refine WL.yd (Yd.assign rfl) rfl ?_
  refine WL.nil ?_
  refine WP.thenC ?_
  refine WC.ret ?_
  refine WP.ret1 rfl rfl Try.results75 (RV.tmp rfl) (fun w hI => ⟨rfl, hI.keep⟩)

set_option maxRecDepth 100000 in
set_option maxHeartbeats 1000000 in
theorem openX_g (X : Till) (a1 : Option Addr) (n1 c1 : Nat) (D : Imm) (w : World) (hR : TksR D X.tk a1 n1) (hH : Holds D w) (l : List Ent) (ab : Option Addr) (nb cb : Nat) (hB : BookR D l ab nb) (fi : FuncId) (cp : List Value) (is : Bool) (hfi : ∀ args w, (callFunc fi args).run Try.prog w = .ok (.enter fi args) w) (hIs : ∀ w', Holds D w' → Gives Try.prog fi (.agg #[it X.tk.huts, .slice a1 n1 c1, it X.price, it X.fine, it X.wait] :: cp) w' (.bool is)) : Calls Try.prog 44 (List.toArray [.agg #[it X.tk.huts, .slice a1 n1 c1, it X.price, it X.fine, it X.wait], .slice ab nb cb, .func (.func fi) #[] cp.toArray]) w fun e w' => e = openT X (.agg #[it X.tk.huts, .slice a1 n1 c1, it X.price, it X.fine, it X.wait]) (tillE X l is) ∧ Keep [] w w' := by
  obtain rfl := hR.tick.len'
  have hl1 := hR.len
  obtain rfl := hB.ent.len'
  have hlb := hB.len
  have hTu : (TurnOut X.tk (-1)).2 = if tksB X.tk then 2 else 1 := by
    have h0 := tksE_neg X.tk
    unfold TurnOut
    rw [if_pos (by rw [h0]; cases tksB X.tk <;> simp)]
    exact h0
  refine enter Try.func44 rfl 64 Try.ntmps44 (Nat.le_of_ble_eq_true rfl) (Inv.start hH) ?_
  refine WC.seq ?_
  refine WC.ofFr [(0, _), (1, _), (2, _)] ⟨rfl, rfl, rfl, trivial⟩ ?_
  refine WC.region ?_
  refine WL.so (SO.box rfl rfl) rfl ?_
  rintro _ _ _ ⟨b3, hb3, rfl, rfl, rfl⟩ -- NEW
  refine WL.so (SO.alloc Try.zeroValue82 rfl) rfl ?_
  rintro _ _ _ ⟨b6, hb6, rfl, rfl, rfl⟩ -- NEW
  refine WL.nil ?_
  refine WP.thenC ?_
  refine WC.seq ?_
  refine WC.ofFr [(6, _), (3, _), (1, _), (2, _)] ⟨rfl, rfl, rfl, rfl, trivial⟩ ?_
  refine WC.region ?_
  refine WL.yd (Yd.loadN Try.isAgg37 Try.sizeOf37 rfl (vs := [_, _, _, _, _]) rfl (by first | exact RdN.own (k := 0) (n := 5) rfl rfl | exact RdN.own (k := 1) (n := 5) rfl rfl | exact ((hB.ent.at k (by omega)).rdn 0 3 rfl))) rfl ?_
  refine WL.yd (Yd.build SA82 rfl (cs := [_, _, _, _, _]) rfl) rfl ?_
  refine WL.so (SO.alloc Try.zeroValue82 rfl) rfl ?_
  rintro _ _ _ ⟨b7, hb7, rfl, rfl, rfl⟩ -- NEW
  refine WL.so (SO.store 0 rfl Try.sizeOf82 rfl rfl rfl rfl (Nat.le_of_ble_eq_true rfl) (oneB_spec rfl)) rfl ?_
  rintro _ _ _ ⟨rfl, rfl, rfl⟩
  refine WL.nil ?_
  refine WP.thenC ?_
  refine WC.seq ?_
  refine WC.ofFr [(7, _), (6, _), (3, _), (1, _), (2, _)] ⟨rfl, rfl, rfl, rfl, rfl, trivial⟩ ?_
  refine WC.region ?_
  refine WL.yd (Yd.fieldAddr FA37_0 rfl) rfl ?_
  refine WL.yd (Yd.loadN Try.isAgg35 Try.sizeOf35 rfl (vs := [_, _]) rfl (by first | exact RdN.own (k := 0) (n := 2) rfl rfl | exact RdN.own (k := 1) (n := 2) rfl rfl | exact RdN.own (k := 2) (n := 2) rfl rfl | exact ((hB.ent.at k (by omega)).rdn 0 3 rfl))) rfl ?_
  refine WL.so (SO.callP Try.call29 rfl (fun w hI => Turn_g X.tk a1 _ c1 D _ hR hI.imm (-1))) rfl ?_
  rintro _ _ _ ⟨rfl, rfl, rfl⟩
  refine WL.yd (Yd.move rfl) rfl ?_
  refine WL.yd (Yd.extract rfl rfl) rfl ?_
  refine WL.yd (Yd.extract rfl rfl) rfl ?_
  refine WL.know 19 (it (if tksB X.tk then 2 else 1)) rfl (by rw [← hTu]; rfl) ?_
  refine WL.yd (Yd.assign rfl) rfl ?_
  refine WL.yd (Yd.assign rfl) rfl ?_
  refine WL.nil ?_
  refine WP.thenC ?_
  refine WC.seq ?_
  refine WC.ofFr [(9, _), (7, _), (6, _), (3, _), (1, _), (2, _)] ⟨rfl, rfl, rfl, rfl, rfl, rfl, trivial⟩ ?_
  refine WC.region ?_
  refine WL.yd (Yd.move rfl) rfl ?_
  refine WL.yd (Yd.eql rfl rfl) rfl ?_
  refine WL.yd (Yd.move rfl) rfl ?_
  refine WL.part 22 rfl (fun g22 => ?_) (fun g22 => ?_)
  · try simp only [zq1, zq2, zq3, zq4, zq5, zq6, zq7, zq8] at g22
    refine WL.ydg rfl (Yd.fieldAddr FA37_1 rfl) rfl ?_
    refine WL.ydg rfl (Yd.load1 Try.isAgg3 rfl (by first | exact Rd.own (k := 0) rfl rfl | exact Rd.own (k := 1) rfl rfl | exact Rd.own (k := 2) rfl rfl)) rfl ?_
    refine WL.sog rfl (SO.callP Try.call34 rfl (fun w hI => withinT_g _ _ _ _)) rfl ?_
    rintro _ _ _ ⟨rfl, rfl, rfl⟩
    refine WL.yd (Yd.pickT rfl rfl) rfl ?_
    refine WL.yd (Yd.move rfl) rfl ?_
    refine WL.part 27 rfl (fun g27 => ?_) (fun g27 => ?_)
    · try simp only [zq1, zq2, zq3, zq4, zq5, zq6, zq7, zq8] at g27
      refine WL.ydg rfl (Yd.fieldAddr FA37_2 rfl) rfl ?_
      refine WL.ydg rfl (Yd.load1 Try.isAgg3 rfl (by first | exact Rd.own (k := 0) rfl rfl | exact Rd.own (k := 1) rfl rfl | exact Rd.own (k := 2) rfl rfl)) rfl ?_
      refine WL.sog rfl (SO.callP Try.call34 rfl (fun w hI => withinT_g _ _ _ _)) rfl ?_
      rintro _ _ _ ⟨rfl, rfl, rfl⟩
      refine WL.yd (Yd.pickT rfl rfl) rfl ?_
      refine WL.yd (Yd.move rfl) rfl ?_
      refine WL.part 32 rfl (fun g32 => ?_) (fun g32 => ?_)
      · try simp only [zq1, zq2, zq3, zq4, zq5, zq6, zq7, zq8] at g32
        refine WL.ydg rfl (Yd.fieldAddr FA37_3 rfl) rfl ?_
        refine WL.ydg rfl (Yd.load1 Try.isAgg3 rfl (by first | exact Rd.own (k := 0) rfl rfl | exact Rd.own (k := 1) rfl rfl | exact Rd.own (k := 2) rfl rfl)) rfl ?_
        refine WL.sog rfl (SO.callP Try.call34 rfl (fun w hI => withinT_g _ _ _ _)) rfl ?_
        rintro _ _ _ ⟨rfl, rfl, rfl⟩
        refine WL.yd (Yd.pickT rfl rfl) rfl ?_
        refine WL.part 36 rfl (fun g36 => ?_) (fun g36 => ?_)
        · try simp only [zq1, zq2, zq3, zq4, zq5, zq6, zq7, zq8] at g36
          refine WL.so (SO.call (Enters.func Try.call33 rfl) (fun w hI => mustT_ok _ _)) rfl ?_
          rintro _ _ _ ⟨rfl, rfl, rfl⟩
          refine WL.nil ?_
          refine WP.thenC ?_
          refine WC.seq ?_
          refine WC.ofFr [(7, _), (6, _), (1, _), (2, _)] ⟨rfl, rfl, rfl, rfl, trivial⟩ ?_
          refine WC.region ?_
          have hb1 : tillB X = true := by simp [tillB]; simp_all
          refine WL.yd (Yd.move rfl) rfl ?_
          refine WL.yd (Yd.lenS rfl Try.underlying41 rfl) rfl ?_
          refine WL.yd (Yd.leq rfl rfl) rfl ?_
          refine WL.part 40 rfl (fun g40 => ?_) (fun g40 => ?_)
          · try simp only [zq1, zq2, zq3, zq4, zq5, zq6, zq7, zq8] at g40
            refine WL.so (SO.call (Enters.func Try.call33 rfl) (fun w hI => mustT_ok _ _)) rfl ?_
            rintro _ _ _ ⟨rfl, rfl, rfl⟩
            refine WL.nil ?_
            refine WP.thenC ?_
            refine WC.seq ?_
            refine WC.ofFr [(7, _), (6, _), (1, _), (2, _)] ⟨rfl, rfl, rfl, rfl, trivial⟩ ?_
            refine WC.region ?_
            refine WL.yd (Yd.move rfl) rfl ?_
            refine WL.yd (Yd.loadN Try.isAgg82 Try.sizeOf82 rfl (vs := [_, _, _, _, _]) rfl (by first | exact RdN.own (k := 0) (n := 5) rfl rfl | exact RdN.own (k := 1) (n := 5) rfl rfl | exact RdN.own (k := 2) (n := 5) rfl rfl | exact ((hB.ent.at k (by omega)).rdn 0 3 rfl))) rfl ?_
            refine WL.so (SO.call (Enters.val hfi rfl rfl) (fun w hI => hIs _ hI.imm)) rfl ?_
            rintro _ _ _ ⟨rfl, rfl, rfl⟩
            refine WL.part 44 rfl (fun g44 => ?_) (fun g44 => ?_)
            · try simp only [zq1, zq2, zq3, zq4, zq5, zq6, zq7, zq8] at g44
              refine WL.so (SO.call (Enters.func Try.call33 rfl) (fun w hI => mustT_ok _ _)) rfl ?_
              rintro _ _ _ ⟨rfl, rfl, rfl⟩
              refine WL.nil ?_
              refine WP.thenC ?_
              refine WC.seq ?_
              refine WC.seq ?_
              refine WC.ofFr [(7, _), (6, _), (1, _)] ⟨rfl, rfl, rfl, trivial⟩ ?_
              refine WC.region ?_
              refine WL.yd (Yd.move rfl) rfl ?_
              refine WL.yd (Yd.lenS rfl Try.underlying41 rfl) rfl ?_
              refine WL.yd (Yd.move rfl) rfl ?_
              refine WL.nil ?_
              refine WP.thenC ?_
              refine WC.block ?_
              refine WC.loopF (fun k : Nat => [(6, pt b6), (7, pt b7), (46, .slice ab l.length cb), (47, nt l.length), (48, nt k)]) (fun k => k ≤ l.length ∧ ∀ i, i < k → entB X (gt l i) = true) (fun k => l.length - k) 0 ⟨by omega, by intro i hi; omega⟩ ⟨rfl, rfl, rfl, rfl, rfl, trivial⟩ ?_
              intro k ⟨hk, hd⟩
              refine WC.seq ?_
              refine WC.ofFr [(6, _), (7, _), (46, _), (47, _), (48, _)] ⟨rfl, rfl, rfl, rfl, rfl, trivial⟩ ?_
              refine WC.region ?_
              refine WL.yd (Yd.lss rfl rfl) rfl ?_
              refine WL.nil ?_
              refine WP.thenC ?_
              refine WC.seq ?_
              refine WC.cond rfl (fun c49 => ?_) (fun c49 => ?_)
              · try simp only [zq1, zq2, zq3, zq4, zq5, zq6, zq7, zq8] at c49
                have hkl : k < l.length := by omega
                refine WC.skip ?_
                refine WP.thenC ?_
                refine WC.seq ?_
                refine WC.block ?_
                refine WC.seq ?_
                refine WC.ofFr [(6, _), (7, _), (46, _), (47, _), (48, _)] ⟨rfl, rfl, rfl, rfl, rfl, trivial⟩ ?_
                refine WC.region ?_
                refine WL.yd (Yd.indexS Try.underlying41 Try.sizeOf44 rfl rfl (by omega) (by omega) (by first | exact hB.ent.addr k (by omega))) rfl ?_
                refine WL.yd (Yd.loadN Try.isAgg44 Try.sizeOf44 rfl (vs := [_, _, _]) rfl (by first | exact RdN.own (k := 0) (n := 3) rfl rfl | exact RdN.own (k := 1) (n := 3) rfl rfl | exact RdN.own (k := 2) (n := 3) rfl rfl | exact ((hB.ent.at k (by omega)).rdn 0 3 rfl))) rfl ?_
                refine WL.so (SO.alloc Try.zeroValue44 rfl) rfl ?_
                rintro _ _ _ ⟨b11, hb11, rfl, rfl, rfl⟩ -- NEW
                refine WL.so (SO.store 0 rfl Try.sizeOf44 rfl rfl rfl rfl (Nat.le_of_ble_eq_true rfl) (oneB_spec rfl)) rfl ?_
                rintro _ _ _ ⟨rfl, rfl, rfl⟩
                refine WL.nil ?_
                refine WP.thenC ?_
                refine WC.ofFr [(11, _), (6, _), (7, _), (46, _), (47, _), (48, _)] ⟨rfl, rfl, rfl, rfl, rfl, rfl, trivial⟩ ?_
                refine WC.region ?_
                refine WL.yd (Yd.loadN Try.isAgg82 Try.sizeOf82 rfl (vs := [_, _, _, _, _]) rfl (by first | exact RdN.own (k := 0) (n := 5) rfl rfl | exact RdN.own (k := 1) (n := 5) rfl rfl | exact RdN.own (k := 2) (n := 5) rfl rfl | exact RdN.own (k := 3) (n := 5) rfl rfl | exact ((hB.ent.at k (by omega)).rdn 0 3 rfl))) rfl ?_
                refine WL.yd (Yd.fieldAddr FA44_0 rfl) rfl ?_
                refine WL.yd (Yd.load1 Try.isAgg3 rfl (by first | exact Rd.own (k := 0) rfl rfl | exact Rd.own (k := 1) rfl rfl | exact Rd.own (k := 2) rfl rfl | exact Rd.own (k := 3) rfl rfl)) rfl ?_
                refine WL.so (SO.callP Try.call76 rfl (fun w hI => isTickT_g X a1 _ c1 _ _ rfl hl1)) rfl ?_
                rintro _ _ _ ⟨rfl, rfl, rfl⟩
                refine WL.yd (Yd.move rfl) rfl ?_
                refine WL.part 56 rfl (fun g56 => ?_) (fun g56 => ?_)
                · try simp only [zq1, zq2, zq3, zq4, zq5, zq6, zq7, zq8] at g56
                  refine WL.ydg rfl (Yd.fieldAddr FA44_1 rfl) rfl ?_
                  refine WL.ydg rfl (Yd.load1 Try.isAgg3 rfl (by first | exact Rd.own (k := 0) rfl rfl | exact Rd.own (k := 1) rfl rfl | exact Rd.own (k := 2) rfl rfl | exact Rd.own (k := 3) rfl rfl)) rfl ?_
                  refine WL.sog rfl (SO.callP Try.call34 rfl (fun w hI => withinT_g _ _ _ _)) rfl ?_
                  rintro _ _ _ ⟨rfl, rfl, rfl⟩
                  refine WL.yd (Yd.pickT rfl rfl) rfl ?_
                  refine WL.part 60 rfl (fun g60 => ?_) (fun g60 => ?_)
                  · try simp only [zq1, zq2, zq3, zq4, zq5, zq6, zq7, zq8] at g60
                    refine WL.so (SO.call (Enters.func Try.call33 rfl) (fun w hI => mustT_ok _ _)) rfl ?_
                    rintro _ _ _ ⟨rfl, rfl, rfl⟩
                    refine WL.nil ?_
                    refine WP.blkNormal ?_
                    refine WP.thenC ?_
                    refine WC.ofFr [(6, _), (7, _), (46, _), (47, _), (48, _)] ⟨rfl, rfl, rfl, rfl, rfl, trivial⟩ ?_
                    refine WC.region ?_
                    refine WL.yd (Yd.add rfl rfl (wr64 ⟨by omega, by omega⟩)) rfl ?_
                    refine WL.yd (Yd.move rfl) rfl ?_
                    refine WL.nil ?_
                    exact WP.againF (k + 1) ⟨by omega, ext_round hd (by simp [entB]; simp_all)⟩ (by omega) ⟨rfl, rfl, rfl, rfl, rfl, trivial⟩ (fun _ h => List.mem_cons_of_mem _ h) (fun h => (List.nodup_cons.1 h).2)
                  · try simp only [zq1, zq2, zq3, zq4, zq5, zq6, zq7, zq8] at g60
                    refine WL.no (SO.fail (Enters.func Try.call33 rfl) (fun w hI => mustT_no _ _) ?_)
                    refine WP.blkPanic ?_
                    refine WP.thenPanic ?_
                    refine WP.thenPanic ?_
                    refine WP.blkPanic ?_
                    refine WP.thenPanic ?_
                    refine WP.panicBody rfl (fun w hI => ⟨?_, hI.keep⟩)
                    first
                      | exact openT_no (tillE_3 hb1 (by omega)) (by decide)
                      | exact openT_no (tillE_2 hb1 (by omega) g44) (by decide)
                      | exact openT_no (tillE_4 hb1 (by omega) hkl (by simp [entB]; simp_all)) (by decide)
                      | exact openT_no (tillE_1 (by cases hbb : tillB X with
                          | false => rfl
                          | true => simp [tillB] at hbb; simp_all)) (by decide)
                · try simp only [zq1, zq2, zq3, zq4, zq5, zq6, zq7, zq8] at g56
                  refine WL.skip rfl rfl ?_
                  refine WL.skip rfl rfl ?_
                  refine WL.skip rfl rfl ?_
                  refine WL.yd (Yd.pickF rfl rfl) rfl ?_
                  refine WL.no (SO.fail (Enters.func Try.call33 rfl) (fun w hI => mustT_no _ _) ?_)
                  refine WP.blkPanic ?_
                  refine WP.thenPanic ?_
                  refine WP.thenPanic ?_
                  refine WP.blkPanic ?_
                  refine WP.thenPanic ?_
                  refine WP.panicBody rfl (fun w hI => ⟨?_, hI.keep⟩)
                  first
                    | exact openT_no (tillE_3 hb1 (by omega)) (by decide)
                    | exact openT_no (tillE_2 hb1 (by omega) g44) (by decide)
                    | exact openT_no (tillE_4 hb1 (by omega) hkl (by simp [entB]; simp_all)) (by decide)
                    | exact openT_no (tillE_1 (by cases hbb : tillB X with
                        | false => rfl
                        | true => simp [tillB] at hbb; simp_all)) (by decide)
              · try simp only [zq1, zq2, zq3, zq4, zq5, zq6, zq7, zq8] at c49
                obtain rfl : k = l.length := by omega
                refine WC.exit ?_
                refine WP.thenExit ?_
                refine WP.thenExit ?_
                refine WP.blkHit ?_
                refine WP.thenC ?_
                refine WC.seq ?_
                refine WC.ofFr [(6, _), (7, _)] ⟨rfl, rfl, trivial⟩ ?_
                refine WC.region ?_
                refine WL.yd (Yd.loadN Try.isAgg82 Try.sizeOf82 rfl (vs := [_, _, _, _, _]) rfl (by first | exact RdN.own (k := 0) (n := 5) rfl rfl | exact RdN.own (k := 1) (n := 5) rfl rfl | exact RdN.own (k := 2) (n := 5) rfl rfl | exact ((hB.ent.at k (by omega)).rdn 0 3 rfl))) rfl ?_
                refine WL.so (SO.store 1 rfl Try.sizeOf82 rfl rfl rfl rfl (Nat.le_of_ble_eq_true rfl) (oneB_spec rfl)) rfl ?_
                rintro _ _ _ ⟨rfl, rfl, rfl⟩
                refine WL.nil ?_
                refine WP.thenC ?_
                refine WC.ret ?_
                refine WP.ret1 rfl rfl Try.results44 (RV.cellN Try.isAgg82 Try.sizeOf82 rfl (vs := [_, _, _, _, _]) rfl (by first | exact RdN.own (k := 0) (n := 5) rfl rfl | exact RdN.own (k := 1) (n := 5) rfl rfl | exact RdN.own (k := 2) (n := 5) rfl rfl | exact ((hB.ent.at k (by omega)).rdn 0 3 rfl))) (fun w hI => ⟨openT_ok (tillE_0 hb1 (by omega) g44 hd), hI.keep⟩)
            · try simp only [zq1, zq2, zq3, zq4, zq5, zq6, zq7, zq8] at g44
              refine WL.no (SO.fail (Enters.func Try.call33 rfl) (fun w hI => mustT_no _ _) ?_)
              refine WP.thenPanic ?_
              refine WP.panicBody rfl (fun w hI => ⟨?_, hI.keep⟩)
              first
                | exact openT_no (tillE_3 hb1 (by omega)) (by decide)
                | exact openT_no (tillE_2 hb1 (by omega) g44) (by decide)
                | exact openT_no (tillE_4 hb1 (by omega) hkl (by simp [entB]; simp_all)) (by decide)
                | exact openT_no (tillE_1 (by cases hbb : tillB X with
                    | false => rfl
                    | true => simp [tillB] at hbb; simp_all)) (by decide)
          · try simp only [zq1, zq2, zq3, zq4, zq5, zq6, zq7, zq8] at g40
            refine WL.no (SO.fail (Enters.func Try.call33 rfl) (fun w hI => mustT_no _ _) ?_)
            refine WP.thenPanic ?_
            refine WP.panicBody rfl (fun w hI => ⟨?_, hI.keep⟩)
            first
              | exact openT_no (tillE_3 hb1 (by omega)) (by decide)
              | exact openT_no (tillE_2 hb1 (by omega) g44) (by decide)
              | exact openT_no (tillE_4 hb1 (by omega) hkl (by simp [entB]; simp_all)) (by decide)
              | exact openT_no (tillE_1 (by cases hbb : tillB X with
                  | false => rfl
                  | true => simp [tillB] at hbb; simp_all)) (by decide)
        · try simp only [zq1, zq2, zq3, zq4, zq5, zq6, zq7, zq8] at g36
          refine WL.no (SO.fail (Enters.func Try.call33 rfl) (fun w hI => mustT_no _ _) ?_)
          refine WP.thenPanic ?_
          refine WP.panicBody rfl (fun w hI => ⟨?_, hI.keep⟩)
          first
            | exact openT_no (tillE_3 hb1 (by omega)) (by decide)
            | exact openT_no (tillE_2 hb1 (by omega) g44) (by decide)
            | exact openT_no (tillE_4 hb1 (by omega) hkl (by simp [entB]; simp_all)) (by decide)
            | exact openT_no (tillE_1 (by cases hbb : tillB X with
                | false => rfl
                | true => simp [tillB] at hbb; simp_all)) (by decide)
      · try simp only [zq1, zq2, zq3, zq4, zq5, zq6, zq7, zq8] at g32
        refine WL.skip rfl rfl ?_
        refine WL.skip rfl rfl ?_
        refine WL.skip rfl rfl ?_
        refine WL.yd (Yd.pickF rfl rfl) rfl ?_
        refine WL.no (SO.fail (Enters.func Try.call33 rfl) (fun w hI => mustT_no _ _) ?_)
        refine WP.thenPanic ?_
        refine WP.panicBody rfl (fun w hI => ⟨?_, hI.keep⟩)
        first
          | exact openT_no (tillE_3 hb1 (by omega)) (by decide)
          | exact openT_no (tillE_2 hb1 (by omega) g44) (by decide)
          | exact openT_no (tillE_4 hb1 (by omega) hkl (by simp [entB]; simp_all)) (by decide)
          | exact openT_no (tillE_1 (by cases hbb : tillB X with
              | false => rfl
              | true => simp [tillB] at hbb; simp_all)) (by decide)
    · try simp only [zq1, zq2, zq3, zq4, zq5, zq6, zq7, zq8] at g27
      refine WL.skip rfl rfl ?_
      refine WL.skip rfl rfl ?_
      refine WL.skip rfl rfl ?_
      refine WL.yd (Yd.pickF rfl rfl) rfl ?_
      refine WL.yd (Yd.move rfl) rfl ?_
      refine WL.skip rfl rfl ?_
      refine WL.skip rfl rfl ?_
      refine WL.skip rfl rfl ?_
      refine WL.yd (Yd.pickF rfl rfl) rfl ?_
      refine WL.no (SO.fail (Enters.func Try.call33 rfl) (fun w hI => mustT_no _ _) ?_)
      refine WP.thenPanic ?_
      refine WP.panicBody rfl (fun w hI => ⟨?_, hI.keep⟩)
      first
        | exact openT_no (tillE_3 hb1 (by omega)) (by decide)
        | exact openT_no (tillE_2 hb1 (by omega) g44) (by decide)
        | exact openT_no (tillE_4 hb1 (by omega) hkl (by simp [entB]; simp_all)) (by decide)
        | exact openT_no (tillE_1 (by cases hbb : tillB X with
            | false => rfl
            | true => simp [tillB] at hbb; simp_all)) (by decide)
  · try simp only [zq1, zq2, zq3, zq4, zq5, zq6, zq7, zq8] at g22
    refine WL.skip rfl rfl ?_
    refine WL.skip rfl rfl ?_
    refine WL.skip rfl rfl ?_
    refine WL.yd (Yd.pickF rfl rfl) rfl ?_
    refine WL.yd (Yd.move rfl) rfl ?_
    refine WL.skip rfl rfl ?_
    refine WL.skip rfl rfl ?_
    refine WL.skip rfl rfl ?_
    refine WL.yd (Yd.pickF rfl rfl) rfl ?_
    refine WL.yd (Yd.move rfl) rfl ?_
    refine WL.skip rfl rfl ?_
    refine WL.skip rfl rfl ?_
    refine WL.skip rfl rfl ?_
    refine WL.yd (Yd.pickF rfl rfl) rfl ?_
    refine WL.no (SO.fail (Enters.func Try.call33 rfl) (fun w hI => mustT_no _ _) ?_)
    refine WP.thenPanic ?_
    refine WP.panicBody rfl (fun w hI => ⟨?_, hI.keep⟩)
    first
      | exact openT_no (tillE_3 hb1 (by omega)) (by decide)
      | exact openT_no (tillE_2 hb1 (by omega) g44) (by decide)
      | exact openT_no (tillE_4 hb1 (by omega) hkl (by simp [entB]; simp_all)) (by decide)
      | exact openT_no (tillE_1 (by cases hbb : tillB X with
          | false => rfl
          | true => simp [tillB] at hbb; simp_all)) (by decide)

end Go.Proofs.Ytpnbkdlejfmbeaa
