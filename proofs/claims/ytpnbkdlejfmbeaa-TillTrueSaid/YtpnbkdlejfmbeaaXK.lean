import Derived.Test.YtpnbkdlejfmbeaaXJ
set_option linter.unusedSimpArgs false
set_option linter.unusedVariables false
set_option linter.all false
namespace Go.Proofs.Ytpnbkdlejfmbeaa
open Go.W Go.Ti

set_option maxRecDepth 100000 in
set_option maxHeartbeats 1000000 in
theorem broken_g (X : Till) (a1 : Option Addr) (n1 c1 : Nat) (ab : Option Addr) (nb cb : Nat) (D : Imm) (w : World) (hH : Holds D w) : Makes Try.prog 47 [.agg #[it X.tk.huts, .slice a1 n1 c1, it X.price, it X.fine, it X.wait], .slice ab nb cb] w D (fun v D' => ∃ b2 b3, v = .func (.func 78) #[] #[pt b3, pt b2] ∧ D' b3 = some (.cells (List.toArray [.slice ab nb cb]) 41 (0, 0)) ∧ D' b2 = some (.cells (List.toArray (tillC X (.slice a1 n1 c1))) 82 (0, 0))) := by
  unfold Makes
  refine enter Try.func47 rfl 6 Try.ntmps47 (Nat.le_of_ble_eq_true rfl) (Inv.start hH) ?_
  refine WC.seq ?_
  refine WC.ofFr [(0, _), (1, _)] ⟨rfl, rfl, trivial⟩ ?_
  refine WC.region ?_
  refine WL.so (SO.box rfl rfl) rfl ?_
  rintro _ _ _ ⟨b2, hb2, rfl, rfl, rfl⟩ -- NEW
  refine WL.so (SO.box rfl rfl) rfl ?_
  rintro _ _ _ ⟨b3, hb3, rfl, rfl, rfl⟩ -- NEW
  refine WL.yd (Yd.assign rfl) rfl ?_
  refine WL.nil ?_
  refine WP.thenC ?_
  refine WC.seq ?_
  refine WC.freezeN 1 b2 (.cells (List.toArray (tillC X (.slice a1 n1 c1))) 82 (0, 0)) rfl rfl hb2 (fun D1 hX1 h2 => ?_)
  refine WC.freezeN 0 b3 (.cells (List.toArray [.slice ab nb cb]) 41 (0, 0)) rfl rfl hb3 (fun D2 hX2 h3 => ?_)
  replace h2 := hX2.old _ _ h2
  refine WC.ofFr [(4, _), (3, _), (2, _)] ⟨rfl, rfl, rfl, trivial⟩ ?_
  refine WC.region ?_
  refine WL.yd (Yd.func rfl rfl) rfl ?_
  refine WL.yd (Yd.assign rfl) rfl ?_
  refine WL.nil ?_
  refine WP.thenC ?_
  refine WC.ret ?_
  refine WP.ret1 rfl rfl Try.results47 (RV.tmp rfl) (fun w1 hI => ⟨_, D2, rfl, hI.keep, hI.imm, hX1.trans hX2 (Nat.le_refl _), b2, b3, rfl, h3, h2⟩)

set_option maxRecDepth 100000 in
set_option maxHeartbeats 1000000 in
theorem Check_e1 (X : Till) (a1 : Option Addr) (n1 c1 : Nat) (D : Imm) (w : World) (hR : TksR D X.tk a1 n1) (hH : Holds D w) (l : List Ent) (ab : Option Addr) (nb cb : Nat) (hB : BookR D l ab nb) (hE : tillE X l true ≠ 0) : Gives Try.prog 15 [.agg #[it X.tk.huts, .slice a1 n1 c1, it X.price, it X.fine, it X.wait], .slice ab nb cb] w (.tuple #[it (CheckOut X l).1, it (CheckOut X l).2.1, it (CheckOut X l).2.2]) := by
  unfold Gives
  obtain rfl := hR.tick.len'
  have hl1 := hR.len
  obtain rfl := hB.ent.len'
  have hlb := hB.len
  have hO0 : CheckOut X l = (0, 0, tillE X l true) := by unfold CheckOut; rw [toldE_1 hE, if_pos hE]
  refine enterD Try.func15 rfl 20 Try.ntmps15 (Nat.le_of_ble_eq_true rfl) (Inv.start hH) ?_
  refine WC.seq ?_
  refine WC.ofFr [(0, _), (1, _)] ⟨rfl, rfl, trivial⟩ ?_
  refine WC.region ?_
  refine WL.so (SO.box rfl rfl) rfl ?_
  rintro _ _ _ ⟨b2, hb2, rfl, rfl, rfl⟩ -- NEW
  refine WL.so (SO.alloc Try.zeroValue3 rfl) rfl ?_
  rintro _ _ _ ⟨b4, hb4, rfl, rfl, rfl⟩ -- NEW
  refine WL.so (SO.alloc Try.zeroValue3 rfl) rfl ?_
  rintro _ _ _ ⟨b5, hb5, rfl, rfl, rfl⟩ -- NEW
  refine WL.so (SO.alloc Try.zeroValue24 rfl) rfl ?_
  rintro _ _ _ ⟨b6, hb6, rfl, rfl, rfl⟩ -- NEW
  refine WL.nil ?_
  refine WP.thenC ?_
  refine WC.seq ?_
  refine WC.ofFr [(6, _), (5, _), (4, _), (2, _), (1, _)] ⟨rfl, rfl, rfl, rfl, rfl, trivial⟩ ?_
  refine WC.region ?_
  refine WL.yd (Yd.func rfl rfl) rfl ?_
  refine WL.defer rfl ?_
  refine WL.nil ?_
  refine WP.thenC ?_
  refine WC.seq ?_
  refine WC.seq ?_
  refine WC.ofFr [(6, _), (5, _), (4, _), (2, _), (1, _)] ⟨rfl, rfl, rfl, rfl, rfl, trivial⟩ ?_
  refine WC.region ?_
  refine WL.yd (Yd.loadN Try.isAgg37 Try.sizeOf37 rfl (vs := [_, _, _, _, _]) rfl (by first | exact RdN.own (k := 0) (n := 5) rfl rfl | exact RdN.own (k := 1) (n := 5) rfl rfl | exact RdN.own (k := 2) (n := 5) rfl rfl | exact RdN.own (k := 3) (n := 5) rfl rfl)) rfl ?_
  refine WL.yd (Yd.move rfl) rfl ?_
  refine WL.no (SO.fail (Enters.func Try.call44 rfl) (fun w hI => openX_no X a1 _ c1 _ _ hR hI.imm l ab _ cb hB 45 [] true Try.call45 (fun w' _ => always_g (.bool true) X a1 _ c1 w') hE) ?_)
  refine WP.thenPanic ?_
  refine WP.thenPanic ?_
  refine WP.panicD (k := 0) [_, _, _] [_, _, _] rfl Try.call43 rfl (fun w hI => catch43 _ _ _ _ _ (hI.own _ _ (List.mem_of_getElem? (i := 0) rfl))) Try.results15 ⟨(RV.cell1 Try.isAgg3 rfl (by first | exact Rd.own (k := 0) rfl rfl | exact Rd.own (k := 1) rfl rfl | exact Rd.own (k := 2) rfl rfl | exact Rd.own (k := 3) rfl rfl)), (RV.cell1 Try.isAgg3 rfl (by first | exact Rd.own (k := 0) rfl rfl | exact Rd.own (k := 1) rfl rfl | exact Rd.own (k := 2) rfl rfl | exact Rd.own (k := 3) rfl rfl)), (RV.cell1 Try.isAgg24 rfl (by first | exact Rd.own (k := 0) rfl rfl | exact Rd.own (k := 1) rfl rfl | exact Rd.own (k := 2) rfl rfl | exact Rd.own (k := 3) rfl rfl)), trivial⟩ (fun w hI => ⟨congrArg Ending.returned (by rw [hO0]; rfl), hI.keep⟩)

set_option maxRecDepth 100000 in
set_option maxHeartbeats 1000000 in
theorem Check_e2 (X : Till) (a1 : Option Addr) (n1 c1 : Nat) (D : Imm) (w : World) (hR : TksR D X.tk a1 n1) (hH : Holds D w) (l : List Ent) (ab : Option Addr) (nb cb : Nat) (hB : BookR D l ab nb) (hE : tillE X l true = 0) (hW : tksE X.tk true ≠ 0) : Gives Try.prog 15 [.agg #[it X.tk.huts, .slice a1 n1 c1, it X.price, it X.fine, it X.wait], .slice ab nb cb] w (.tuple #[it (CheckOut X l).1, it (CheckOut X l).2.1, it (CheckOut X l).2.2]) := by
  unfold Gives
  obtain rfl := hR.tick.len'
  have hl1 := hR.len
  obtain rfl := hB.ent.len'
  have hlb := hB.len
  have hO0 : CheckOut X l = (0, 0, tksE X.tk true) := by unfold CheckOut; rw [toldE_2 hE, if_pos hW]
  refine enterD Try.func15 rfl 20 Try.ntmps15 (Nat.le_of_ble_eq_true rfl) (Inv.start hH) ?_
  refine WC.seq ?_
  refine WC.ofFr [(0, _), (1, _)] ⟨rfl, rfl, trivial⟩ ?_
  refine WC.region ?_
  refine WL.so (SO.box rfl rfl) rfl ?_
  rintro _ _ _ ⟨b2, hb2, rfl, rfl, rfl⟩ -- NEW
  refine WL.so (SO.alloc Try.zeroValue3 rfl) rfl ?_
  rintro _ _ _ ⟨b4, hb4, rfl, rfl, rfl⟩ -- NEW
  refine WL.so (SO.alloc Try.zeroValue3 rfl) rfl ?_
  rintro _ _ _ ⟨b5, hb5, rfl, rfl, rfl⟩ -- NEW
  refine WL.so (SO.alloc Try.zeroValue24 rfl) rfl ?_
  rintro _ _ _ ⟨b6, hb6, rfl, rfl, rfl⟩ -- NEW
  refine WL.nil ?_
  refine WP.thenC ?_
  refine WC.seq ?_
  refine WC.ofFr [(6, _), (5, _), (4, _), (2, _), (1, _)] ⟨rfl, rfl, rfl, rfl, rfl, trivial⟩ ?_
  refine WC.region ?_
  refine WL.yd (Yd.func rfl rfl) rfl ?_
  refine WL.defer rfl ?_
  refine WL.nil ?_
  refine WP.thenC ?_
  refine WC.seq ?_
  refine WC.seq ?_
  refine WC.ofFr [(6, _), (5, _), (4, _), (2, _), (1, _)] ⟨rfl, rfl, rfl, rfl, rfl, trivial⟩ ?_
  refine WC.region ?_
  refine WL.yd (Yd.loadN Try.isAgg37 Try.sizeOf37 rfl (vs := [_, _, _, _, _]) rfl (by first | exact RdN.own (k := 0) (n := 5) rfl rfl | exact RdN.own (k := 1) (n := 5) rfl rfl | exact RdN.own (k := 2) (n := 5) rfl rfl | exact RdN.own (k := 3) (n := 5) rfl rfl)) rfl ?_
  refine WL.yd (Yd.move rfl) rfl ?_
  refine WL.so (SO.callP Try.call44 rfl (fun w hI => openX_ok X a1 _ c1 _ _ hR hI.imm l ab _ cb hB 45 [] true Try.call45 (fun w' _ => always_g (.bool true) X a1 _ c1 w') hE)) rfl ?_
  rintro _ _ _ ⟨rfl, rfl, rfl⟩
  refine WL.no (SO.fail (Enters.func Try.call46 rfl) (fun w hI => told_no X a1 _ c1 _ _ hR hI.imm (by rw [Waits_e]; exact hW)) ?_)
  refine WP.thenPanic ?_
  refine WP.thenPanic ?_
  refine WP.panicD (k := 0) [_, _, _] [_, _, _] rfl Try.call43 rfl (fun w hI => catch43 _ _ _ _ _ (hI.own _ _ (List.mem_of_getElem? (i := 0) rfl))) Try.results15 ⟨(RV.cell1 Try.isAgg3 rfl (by first | exact Rd.own (k := 0) rfl rfl | exact Rd.own (k := 1) rfl rfl | exact Rd.own (k := 2) rfl rfl | exact Rd.own (k := 3) rfl rfl)), (RV.cell1 Try.isAgg3 rfl (by first | exact Rd.own (k := 0) rfl rfl | exact Rd.own (k := 1) rfl rfl | exact Rd.own (k := 2) rfl rfl | exact Rd.own (k := 3) rfl rfl)), (RV.cell1 Try.isAgg24 rfl (by first | exact Rd.own (k := 0) rfl rfl | exact Rd.own (k := 1) rfl rfl | exact Rd.own (k := 2) rfl rfl | exact Rd.own (k := 3) rfl rfl)), trivial⟩ (fun w hI => ⟨congrArg Ending.returned (by rw [hO0, Waits_e]; rfl), hI.keep⟩)

set_option maxRecDepth 100000 in
set_option maxHeartbeats 1000000 in
theorem Check_ok (X : Till) (a1 : Option Addr) (n1 c1 : Nat) (D : Imm) (w : World) (hR : TksR D X.tk a1 n1) (hH : Holds D w) (l : List Ent) (ab : Option Addr) (nb cb : Nat) (hB : BookR D l ab nb) (hE : tillE X l true = 0) (hW : tksE X.tk true = 0) : Gives Try.prog 15 [.agg #[it X.tk.huts, .slice a1 n1 c1, it X.price, it X.fine, it X.wait], .slice ab nb cb] w (.tuple #[it (CheckOut X l).1, it (CheckOut X l).2.1, it (CheckOut X l).2.2]) := by
  unfold Gives
  obtain rfl := hR.tick.len'
  have hl1 := hR.len
  obtain rfl := hB.ent.len'
  have hlb := hB.len
  have hE0 : toldE X l = 0 := by rw [toldE_2 hE, hW]
  refine enterM Try.func15 rfl 20 Try.ntmps15 (Nat.le_of_ble_eq_true rfl) (Inv.start hH) ?_
  refine WC.seq ?_
  refine WC.ofFr [(0, _), (1, _)] ⟨rfl, rfl, trivial⟩ ?_
  refine WC.region ?_
  refine WL.so (SO.box rfl rfl) rfl ?_
  rintro _ _ _ ⟨b2, hb2, rfl, rfl, rfl⟩ -- NEW
  refine WL.so (SO.alloc Try.zeroValue3 rfl) rfl ?_
  rintro _ _ _ ⟨b4, hb4, rfl, rfl, rfl⟩ -- NEW
  refine WL.so (SO.alloc Try.zeroValue3 rfl) rfl ?_
  rintro _ _ _ ⟨b5, hb5, rfl, rfl, rfl⟩ -- NEW
  refine WL.so (SO.alloc Try.zeroValue24 rfl) rfl ?_
  rintro _ _ _ ⟨b6, hb6, rfl, rfl, rfl⟩ -- NEW
  refine WL.nil ?_
  refine WP.thenC ?_
  refine WC.seq ?_
  refine WC.ofFr [(6, _), (5, _), (4, _), (2, _), (1, _)] ⟨rfl, rfl, rfl, rfl, rfl, trivial⟩ ?_
  refine WC.region ?_
  refine WL.yd (Yd.func rfl rfl) rfl ?_
  refine WL.defer rfl ?_
  refine WL.nil ?_
  refine WP.thenC ?_
  refine WC.seq ?_
  refine WC.seq ?_
  refine WC.ofFr [(6, _), (5, _), (4, _), (2, _), (1, _)] ⟨rfl, rfl, rfl, rfl, rfl, trivial⟩ ?_
  refine WC.region ?_
  refine WL.yd (Yd.loadN Try.isAgg37 Try.sizeOf37 rfl (vs := [_, _, _, _, _]) rfl (by first | exact RdN.own (k := 0) (n := 5) rfl rfl | exact RdN.own (k := 1) (n := 5) rfl rfl | exact RdN.own (k := 2) (n := 5) rfl rfl | exact RdN.own (k := 3) (n := 5) rfl rfl)) rfl ?_
  refine WL.yd (Yd.move rfl) rfl ?_
  refine WL.so (SO.callP Try.call44 rfl (fun w hI => openX_ok X a1 _ c1 _ _ hR hI.imm l ab _ cb hB 45 [] true Try.call45 (fun w' _ => always_g (.bool true) X a1 _ c1 w') hE)) rfl ?_
  rintro _ _ _ ⟨rfl, rfl, rfl⟩
  refine WL.so (SO.callP Try.call46 rfl (fun w hI => told_ok X a1 _ c1 _ _ hR hI.imm (by rw [Waits_e]; exact hW))) rfl ?_
  rintro _ _ _ ⟨rfl, rfl, rfl⟩
  refine WL.yd (Yd.move rfl) rfl ?_
  refine WL.so (SO.makes (Enters.func Try.call47 rfl) (fun w hI => broken_g X a1 _ c1 ab _ cb _ _ hI.imm)) rfl ?_
  rintro _ D4 _ ⟨hX4, ⟨bt, bb, rfl, hbb, hbt⟩, rfl⟩
  replace hB := hB.ext hX4
  replace hR := hR.ext hX4
  refine WL.nil ?_
  refine WP.thenC ?_
  refine WC.block ?_
  refine WC.ofFr [(4, _), (5, _), (6, _), (15, _)] ⟨rfl, rfl, rfl, rfl, trivial⟩ ?_
  refine WC.rangeIterN2 (N := (brokL X l l.length).length) (arg1 := fun k => nt (gt (brokL X l l.length) k)) (arg2 := fun k => it (ruleI X l (gt (brokL X l l.length) k))) (fun w1 _ hD1 => broken1_iter X a1 _ c1 D4 l ab _ cb hB bt bb w1 hR hbt hbb hE hD1) rfl Try.call78 rfl rfl (fun k _ h => k = 0 ∧ h = [(b6, .cells (List.toArray [it 0]) 24 (0, 0)), (b5, .cells (List.toArray [it 0]) 3 (0, 0)), (b4, .cells (List.toArray [it 0]) 3 (0, 0)), (b2, .cells (List.toArray [it X.tk.huts, .slice a1 X.tk.l.length c1, it X.price, it X.fine, it X.wait]) 37 (0, 0))]) (fun c _ h => c = .ret ∧ 0 < (brokL X l l.length).length ∧ h = [(b6, .cells (List.toArray [it 0]) 24 (0, 0)), (b5, .cells (List.toArray [it (ruleI X l (gt (brokL X l l.length) 0))]) 3 (0, 0)), (b4, .cells (List.toArray [nt (gt (brokL X l l.length) 0)]) 3 (0, 0)), (b2, .cells (List.toArray [it X.tk.huts, .slice a1 X.tk.l.length c1, it X.price, it X.fine, it X.wait]) 37 (0, 0))]) (fun _ _ _ _ _ h => h) ⟨rfl, rfl⟩ ?_ ?_ ?_
  · rintro rec1 l1 Dn0 k D5 _ w1 hrec hk ⟨rfl, rfl⟩ hX5 hsz
    unfold RoundGN
    refine WCF.seq ?_
    refine WCF.ofFr [(17, _), (16, _), (4, _), (5, _), (6, _)] ⟨rfl, rfl, rfl, rfl, rfl, trivial⟩ ?_
    refine WCF.region ?_
    refine WLF.yd (by intro _ h; cases h) (Yd.assign rfl) rfl ?_
    refine WLF.nil ?_
    refine WP.thenCF ?_
    refine WCF.ofFr [(7, _), (17, _), (4, _), (5, _), (6, _)] ⟨rfl, rfl, rfl, rfl, rfl, trivial⟩ ?_
    refine WCF.region ?_
    refine WLF.yd (by intro _ h; cases h) (Yd.assign rfl) rfl ?_
    refine WLF.nil ?_
    refine WP.iterBegin 0 rfl hrec ?_
    refine WCF.block ?_
    refine WCF.seq ?_
    refine WCF.ofFr [(8, _), (7, _), (4, _), (5, _), (6, _)] ⟨rfl, rfl, rfl, rfl, rfl, trivial⟩ ?_
    refine WCF.region ?_
    refine WLF.yd (by intro _ h; cases h) (Yd.move rfl) rfl ?_
    refine WLF.yd (by intro _ h; cases h) (Yd.move rfl) rfl ?_
    refine WLF.so (by intro _ h; cases h) (SO.store 4 rfl Try.sizeOf3 rfl rfl rfl rfl (Nat.le_of_ble_eq_true rfl) (oneB_spec rfl)) rfl ?_
    rintro _ _ _ ⟨rfl, rfl, rfl⟩
    refine WLF.so (by intro _ h; cases h) (SO.store 3 rfl Try.sizeOf3 rfl rfl rfl rfl (Nat.le_of_ble_eq_true rfl) (oneB_spec rfl)) rfl ?_
    rintro _ _ _ ⟨rfl, rfl, rfl⟩
    refine WLF.so (by intro _ h; cases h) (SO.store 2 rfl Try.sizeOf24 rfl rfl rfl rfl (Nat.le_of_ble_eq_true rfl) (oneB_spec rfl)) rfl ?_
    rintro _ _ _ ⟨rfl, rfl, rfl⟩
    refine WLF.nil ?_
    refine WP.thenCF ?_
    refine WCF.ret ?_
    refine WP.blkRet ?_
    exact WP.iterRetN (h1 := [_, _, _, _]) (fun _ h => h) (fun h => h) (DExt.refl _ _) ⟨rfl, hk, rfl⟩
  · rintro Dn1 D6 _ hDn1 hX6 ⟨hN, rfl⟩
    have hnil := List.eq_nil_of_length_eq_zero hN
    refine WP.blkNormal ?_
    refine WP.thenC ?_
    refine WC.seq ?_
    refine WC.ofFr [(4, _), (5, _), (6, _)] ⟨rfl, rfl, rfl, trivial⟩ ?_
    refine WC.region ?_
    refine WL.so (SO.store 3 rfl Try.sizeOf3 rfl rfl rfl rfl (Nat.le_of_ble_eq_true rfl) (oneB_spec rfl)) rfl ?_
    rintro _ _ _ ⟨rfl, rfl, rfl⟩
    refine WL.so (SO.store 2 rfl Try.sizeOf3 rfl rfl rfl rfl (Nat.le_of_ble_eq_true rfl) (oneB_spec rfl)) rfl ?_
    rintro _ _ _ ⟨rfl, rfl, rfl⟩
    refine WL.so (SO.store 1 rfl Try.sizeOf24 rfl rfl rfl rfl (Nat.le_of_ble_eq_true rfl) (oneB_spec rfl)) rfl ?_
    rintro _ _ _ ⟨rfl, rfl, rfl⟩
    refine WL.nil ?_
    refine WP.thenC ?_
    refine WC.ret ?_
    refine WP.retMsD [Dn1] [_, _, _, _] [_, _, _] [_, _, _] rfl rfl Try.call43 (fun w hI => idleM43 _ _) (fun _ h => h) (fun h => h) Try.results15 ⟨(RV.cell1 Try.isAgg3 rfl (Rd.own (k := 2) rfl rfl)), (RV.cell1 Try.isAgg3 rfl (Rd.own (k := 1) rfl rfl)), (RV.cell1 Try.isAgg24 rfl (Rd.own (k := 0) rfl rfl)), trivial⟩ (fun w hI => ⟨congrArg Ending.returned (by unfold CheckOut; rw [hE0, if_neg (by simp), hnil]; rfl), hI.keep⟩)
  · rintro Dn1 c D6 _ hDn1 hX6 ⟨rfl, hN, rfl⟩
    refine WC.ret ?_
    refine WP.blkRet ?_
    refine WP.thenRet ?_
    refine WP.retMsD [Dn1] [_, _, _, _] [_, _, _] [_, _, _] rfl rfl Try.call43 (fun w hI => idleM43 _ _) (fun _ h => h) (fun h => h) Try.results15 ⟨(RV.cell1 Try.isAgg3 rfl (Rd.own (k := 2) rfl rfl)), (RV.cell1 Try.isAgg3 rfl (Rd.own (k := 1) rfl rfl)), (RV.cell1 Try.isAgg24 rfl (Rd.own (k := 0) rfl rfl)), trivial⟩ (fun w hI => ⟨congrArg Ending.returned (by
      unfold CheckOut
      rw [hE0, if_neg (by simp)]
      cases hbl : (brokL X l l.length) with
      | nil => rw [hbl] at hN; simp at hN
      | cons i r => rfl), hI.keep⟩)

theorem Check_g (X : Till) (a1 : Option Addr) (n1 c1 : Nat) (D : Imm) (w : World) (hR : TksR D X.tk a1 n1) (hH : Holds D w) (l : List Ent) (ab : Option Addr) (nb cb : Nat) (hB : BookR D l ab nb) : Gives Try.prog 15 [.agg #[it X.tk.huts, .slice a1 n1 c1, it X.price, it X.fine, it X.wait], .slice ab nb cb] w (.tuple #[it (CheckOut X l).1, it (CheckOut X l).2.1, it (CheckOut X l).2.2]) := by
  by_cases hE : tillE X l true = 0
  · by_cases hW : tksE X.tk true = 0
    · exact Check_ok X a1 n1 c1 D w hR hH l ab nb cb hB hE hW
    · exact Check_e2 X a1 n1 c1 D w hR hH l ab nb cb hB hE hW
  · exact Check_e1 X a1 n1 c1 D w hR hH l ab nb cb hB hE

set_option maxRecDepth 100000 in
set_option maxHeartbeats 1000000 in
theorem sumC_g (X : Till) (D : Imm) (l : List Ent) (ab : Option Addr) (nb cb : Nat) (hB : BookR D l ab nb) (b3 : Nat) (h3 : D b3 = some (.cells (List.toArray [.slice ab nb cb]) 41 (0, 0))) (i : Nat) (hi : i < l.length) (hp : 0 ≤ (gt l i).pence ∧ (gt l i).pence ≤ 2400) (w : World) (hH : Holds D w) : Gives Try.prog 51 [nt i, pt b3] w (it (signI (gt l i))) := by
  unfold Gives
  obtain rfl := hB.ent.len'
  have hlb := hB.len
  refine enter Try.func51 rfl 19 Try.ntmps51 (Nat.le_of_ble_eq_true rfl) (Inv.start hH) ?_
  refine WC.seq ?_
  refine WC.ofFr [(0, _), (1, _)] ⟨rfl, rfl, trivial⟩ ?_
  refine WC.region ?_
  refine WL.yd (Yd.assign rfl) rfl ?_
  refine WL.nil ?_
  refine WP.thenC ?_
  refine WC.seq ?_
  refine WC.ofFr [(3, _), (0, _), (1, _)] ⟨rfl, rfl, rfl, trivial⟩ ?_
  refine WC.region ?_
  refine WL.yd (Yd.load1 Try.isAgg41 rfl (by first | exact (Rd.imm h3 rfl) | exact ((hB.ent.at i (by omega)).rd 2 rfl) | exact ((hB.ent.at i (by omega)).rd 1 rfl))) rfl ?_
  refine WL.yd (Yd.move rfl) rfl ?_
  refine WL.yd (Yd.indexS Try.underlying41 Try.sizeOf44 rfl rfl (by omega) (by omega) (by first | exact hB.ent.addr i (by omega))) rfl ?_
  refine WL.yd (Yd.fieldAddr FA44_2 rfl) rfl ?_
  refine WL.yd (Yd.load1 Try.isAgg3 rfl (by first | exact (Rd.imm h3 rfl) | exact ((hB.ent.at i (by omega)).rd 2 rfl) | exact ((hB.ent.at i (by omega)).rd 1 rfl))) rfl ?_
  refine WL.yd (Yd.assign rfl) rfl ?_
  refine WL.nil ?_
  refine WP.thenC ?_
  refine WC.seq ?_
  refine WC.seq ?_
  refine WC.ofFr [(4, _), (3, _), (0, _), (1, _)] ⟨rfl, rfl, rfl, rfl, trivial⟩ ?_
  refine WC.region ?_
  refine WL.yd (Yd.load1 Try.isAgg41 rfl (by first | exact (Rd.imm h3 rfl) | exact ((hB.ent.at i (by omega)).rd 2 rfl) | exact ((hB.ent.at i (by omega)).rd 1 rfl))) rfl ?_
  refine WL.yd (Yd.move rfl) rfl ?_
  refine WL.yd (Yd.indexS Try.underlying41 Try.sizeOf44 rfl rfl (by omega) (by omega) (by first | exact hB.ent.addr i (by omega))) rfl ?_
  refine WL.yd (Yd.fieldAddr FA44_1 rfl) rfl ?_
  refine WL.yd (Yd.load1 Try.isAgg3 rfl (by first | exact (Rd.imm h3 rfl) | exact ((hB.ent.at i (by omega)).rd 2 rfl) | exact ((hB.ent.at i (by omega)).rd 1 rfl))) rfl ?_
  refine WL.yd (Yd.eql rfl rfl) rfl ?_
  refine WL.nil ?_
  refine WP.thenC ?_
  refine WC.cond rfl (fun c15 => ?_) (fun c15 => ?_)
  · try simp only [zq1, zq2, zq3, zq4, zq5, zq6, zq7, zq8] at c15
    refine WC.ofFr [(4, _), (3, _)] ⟨rfl, rfl, trivial⟩ ?_
    refine WC.region ?_
    refine WL.yd (Yd.move rfl) rfl ?_
    refine WL.so (SO.callP Try.call52 rfl (fun w hI => times_g (gt l i).pence (-1) _ (by omega))) rfl ?_
    rintro _ _ _ ⟨rfl, rfl, rfl⟩
    refine WL.yd (Yd.assign rfl) rfl ?_
    refine WL.nil ?_
    refine WP.thenC ?_
    refine WC.seq ?_
    refine WC.ofFr [(4, _), (3, _)] ⟨rfl, rfl, trivial⟩ ?_
    refine WC.region ?_
    refine WL.yd (Yd.move rfl) rfl ?_
    refine WL.yd (Yd.assign rfl) rfl ?_
    refine WL.nil ?_
    refine WP.thenC ?_
    refine WC.ret ?_
    refine WP.ret1 rfl rfl Try.results51 (RV.tmp rfl) (fun w hI => ⟨by unfold signI; rw [if_pos c15], hI.keep⟩)
  · try simp only [zq1, zq2, zq3, zq4, zq5, zq6, zq7, zq8] at c15
    refine WC.skip ?_
    refine WP.thenC ?_
    refine WC.seq ?_
    refine WC.ofFr [(4, _), (3, _)] ⟨rfl, rfl, trivial⟩ ?_
    refine WC.region ?_
    refine WL.yd (Yd.move rfl) rfl ?_
    refine WL.yd (Yd.assign rfl) rfl ?_
    refine WL.nil ?_
    refine WP.thenC ?_
    refine WC.ret ?_
    refine WP.ret1 rfl rfl Try.results51 (RV.tmp rfl) (fun w hI => ⟨by unfold signI; rw [if_neg c15], hI.keep⟩)

set_option maxRecDepth 100000 in
set_option maxHeartbeats 1000000 in
theorem Sum_e1 (X : Till) (a1 : Option Addr) (n1 c1 : Nat) (D : Imm) (w : World) (hR : TksR D X.tk a1 n1) (hH : Holds D w) (l : List Ent) (ab : Option Addr) (nb cb : Nat) (hB : BookR D l ab nb) (hE : tillE X l true ≠ 0) : Gives Try.prog 18 [.agg #[it X.tk.huts, .slice a1 n1 c1, it X.price, it X.fine, it X.wait], .slice ab nb cb] w (.tuple #[it (SumOut X l).1, it (SumOut X l).2]) := by
  unfold Gives
  obtain rfl := hR.tick.len'
  have hl1 := hR.len
  obtain rfl := hB.ent.len'
  have hlb := hB.len
  have hO0 : SumOut X l = (0, tillE X l true) := by unfold SumOut; rw [toldE_1 hE, if_pos hE]
  refine enterD Try.func18 rfl 21 Try.ntmps18 (Nat.le_of_ble_eq_true rfl) (Inv.start hH) ?_
  refine WC.seq ?_
  refine WC.ofFr [(0, _), (1, _)] ⟨rfl, rfl, trivial⟩ ?_
  refine WC.region ?_
  refine WL.so (SO.box rfl rfl) rfl ?_
  rintro _ _ _ ⟨b2, hb2, rfl, rfl, rfl⟩ -- NEW
  refine WL.so (SO.box rfl rfl) rfl ?_
  rintro _ _ _ ⟨b3, hb3, rfl, rfl, rfl⟩ -- NEW
  refine WL.so (SO.alloc Try.zeroValue3 rfl) rfl ?_
  rintro _ _ _ ⟨b4, hb4, rfl, rfl, rfl⟩ -- NEW
  refine WL.so (SO.alloc Try.zeroValue24 rfl) rfl ?_
  rintro _ _ _ ⟨b5, hb5, rfl, rfl, rfl⟩ -- NEW
  refine WL.nil ?_
  refine WP.thenC ?_
  refine WC.seq ?_
  refine WC.ofFr [(5, _), (4, _), (3, _), (2, _)] ⟨rfl, rfl, rfl, rfl, trivial⟩ ?_
  refine WC.region ?_
  refine WL.yd (Yd.func rfl rfl) rfl ?_
  refine WL.defer rfl ?_
  refine WL.nil ?_
  refine WP.thenC ?_
  refine WC.seq ?_
  refine WC.seq ?_
  refine WC.freezeN 3 b2 (.cells (List.toArray [it X.tk.huts, .slice a1 X.tk.l.length c1, it X.price, it X.fine, it X.wait]) 37 (0, 0)) rfl rfl hb2 (fun D2 hX2 h2 => ?_)
  replace hR := hR.ext hX2
  replace hB := hB.ext hX2
  refine WC.freezeN 2 b3 (.cells (List.toArray [.slice ab l.length cb]) 41 (0, 0)) rfl rfl hb3 (fun D3 hX3 h3 => ?_)
  replace h2 := hX3.old _ _ h2
  replace hR := hR.ext hX3
  replace hB := hB.ext hX3
  refine WC.ofFr [(5, _), (4, _), (3, _), (2, _)] ⟨rfl, rfl, rfl, rfl, trivial⟩ ?_
  refine WC.drawH [] (by kernel_rfl) (fun _ hI => hI.drop 99) ?_
  refine WH.yd (i := 0) (by kernel_rfl) (QuietOn.then (QuietOn.then (QuietOn.bodyD (by kernel_rfl)))) rfl (Yd.loadN Try.isAgg37 Try.sizeOf37 rfl (vs := [_, _, _, _, _]) rfl (by first | exact RdN.own (k := 0) (n := 5) rfl rfl | exact RdN.own (k := 1) (n := 5) rfl rfl | exact (RdN.imm (n := 5) h2 rfl))) rfl ?_
  refine WH.yd (i := 1) (by kernel_rfl) (QuietOn.then (QuietOn.then (QuietOn.bodyD (by kernel_rfl)))) rfl (Yd.load1 Try.isAgg41 rfl (by first | exact Rd.own (k := 0) rfl rfl | exact Rd.own (k := 1) rfl rfl | exact (Rd.imm h3 rfl))) rfl ?_
  refine WH.yd (i := 4) (by kernel_rfl) (QuietOn.then (QuietOn.then (QuietOn.bodyD (by kernel_rfl)))) rfl (Yd.load1 Try.isAgg41 rfl (by first | exact Rd.own (k := 0) rfl rfl | exact Rd.own (k := 1) rfl rfl | exact (Rd.imm h3 rfl))) rfl ?_
  refine WH.one (i := 2) (by kernel_rfl) (WHo.no rfl (SO.fail (Enters.func Try.call44 rfl) (fun w hI => openX_no X a1 _ c1 _ _ hR hI.imm l ab _ cb hB 45 [] true Try.call45 (fun w' _ => always_g (.bool true) X a1 _ c1 w') hE) ?_))
  refine WP.thenPanic ?_
  refine WP.thenPanic ?_
  refine WP.panicD (k := 0) [_, _] [_, _] rfl Try.call48 rfl (fun w hI => catch48 _ _ _ _ _ (hI.own _ _ (List.mem_of_getElem? (i := 0) rfl))) Try.results18 ⟨(RV.cell1 Try.isAgg3 rfl (by first | exact Rd.own (k := 0) rfl rfl | exact Rd.own (k := 1) rfl rfl | exact (Rd.imm h3 rfl))), (RV.cell1 Try.isAgg24 rfl (by first | exact Rd.own (k := 0) rfl rfl | exact Rd.own (k := 1) rfl rfl | exact (Rd.imm h3 rfl))), trivial⟩ (fun w hI => ⟨congrArg Ending.returned (by rw [hO0]; rfl), hI.keep⟩)

set_option maxRecDepth 100000 in
set_option maxHeartbeats 1000000 in
theorem Sum_e2 (X : Till) (a1 : Option Addr) (n1 c1 : Nat) (D : Imm) (w : World) (hR : TksR D X.tk a1 n1) (hH : Holds D w) (l : List Ent) (ab : Option Addr) (nb cb : Nat) (hB : BookR D l ab nb) (hE : tillE X l true = 0) (hW : tksE X.tk true ≠ 0) : Gives Try.prog 18 [.agg #[it X.tk.huts, .slice a1 n1 c1, it X.price, it X.fine, it X.wait], .slice ab nb cb] w (.tuple #[it (SumOut X l).1, it (SumOut X l).2]) := by
  unfold Gives
  obtain rfl := hR.tick.len'
  have hl1 := hR.len
  obtain rfl := hB.ent.len'
  have hlb := hB.len
  have hO0 : SumOut X l = (0, tksE X.tk true) := by unfold SumOut; rw [toldE_2 hE, if_pos hW]
  refine enterD Try.func18 rfl 21 Try.ntmps18 (Nat.le_of_ble_eq_true rfl) (Inv.start hH) ?_
  refine WC.seq ?_
  refine WC.ofFr [(0, _), (1, _)] ⟨rfl, rfl, trivial⟩ ?_
  refine WC.region ?_
  refine WL.so (SO.box rfl rfl) rfl ?_
  rintro _ _ _ ⟨b2, hb2, rfl, rfl, rfl⟩ -- NEW
  refine WL.so (SO.box rfl rfl) rfl ?_
  rintro _ _ _ ⟨b3, hb3, rfl, rfl, rfl⟩ -- NEW
  refine WL.so (SO.alloc Try.zeroValue3 rfl) rfl ?_
  rintro _ _ _ ⟨b4, hb4, rfl, rfl, rfl⟩ -- NEW
  refine WL.so (SO.alloc Try.zeroValue24 rfl) rfl ?_
  rintro _ _ _ ⟨b5, hb5, rfl, rfl, rfl⟩ -- NEW
  refine WL.nil ?_
  refine WP.thenC ?_
  refine WC.seq ?_
  refine WC.ofFr [(5, _), (4, _), (3, _), (2, _)] ⟨rfl, rfl, rfl, rfl, trivial⟩ ?_
  refine WC.region ?_
  refine WL.yd (Yd.func rfl rfl) rfl ?_
  refine WL.defer rfl ?_
  refine WL.nil ?_
  refine WP.thenC ?_
  refine WC.seq ?_
  refine WC.seq ?_
  refine WC.freezeN 3 b2 (.cells (List.toArray [it X.tk.huts, .slice a1 X.tk.l.length c1, it X.price, it X.fine, it X.wait]) 37 (0, 0)) rfl rfl hb2 (fun D2 hX2 h2 => ?_)
  replace hR := hR.ext hX2
  replace hB := hB.ext hX2
  refine WC.freezeN 2 b3 (.cells (List.toArray [.slice ab l.length cb]) 41 (0, 0)) rfl rfl hb3 (fun D3 hX3 h3 => ?_)
  replace h2 := hX3.old _ _ h2
  replace hR := hR.ext hX3
  replace hB := hB.ext hX3
  refine WC.ofFr [(5, _), (4, _), (3, _), (2, _)] ⟨rfl, rfl, rfl, rfl, trivial⟩ ?_
  refine WC.drawH [] (by kernel_rfl) (fun _ hI => hI.drop 99) ?_
  refine WH.yd (i := 0) (by kernel_rfl) (QuietOn.then (QuietOn.then (QuietOn.bodyD (by kernel_rfl)))) rfl (Yd.loadN Try.isAgg37 Try.sizeOf37 rfl (vs := [_, _, _, _, _]) rfl (by first | exact RdN.own (k := 0) (n := 5) rfl rfl | exact RdN.own (k := 1) (n := 5) rfl rfl | exact (RdN.imm (n := 5) h2 rfl))) rfl ?_
  refine WH.yd (i := 1) (by kernel_rfl) (QuietOn.then (QuietOn.then (QuietOn.bodyD (by kernel_rfl)))) rfl (Yd.load1 Try.isAgg41 rfl (by first | exact Rd.own (k := 0) rfl rfl | exact Rd.own (k := 1) rfl rfl | exact (Rd.imm h3 rfl))) rfl ?_
  refine WH.yd (i := 4) (by kernel_rfl) (QuietOn.then (QuietOn.then (QuietOn.bodyD (by kernel_rfl)))) rfl (Yd.load1 Try.isAgg41 rfl (by first | exact Rd.own (k := 0) rfl rfl | exact Rd.own (k := 1) rfl rfl | exact (Rd.imm h3 rfl))) rfl ?_
  refine WH.one (i := 2) (by kernel_rfl) (WHo.so rfl (SO.callP Try.call44 rfl (fun w hI => openX_ok X a1 _ c1 _ _ hR hI.imm l ab _ cb hB 45 [] true Try.call45 (fun w' _ => always_g (.bool true) X a1 _ c1 w') hE)) rfl ?_)
  rintro _ _ _ ⟨rfl, rfl, rfl⟩
  refine ⟨(by first | exact (fun _ hI => hI.drop 99)), ?_⟩
  refine WH.one (i := 3) (by kernel_rfl) (WHo.no rfl (SO.fail (Enters.func Try.call46 rfl) (fun w hI => told_no X a1 _ c1 _ _ hR hI.imm (by rw [Waits_e]; exact hW)) ?_))
  refine WP.thenPanic ?_
  refine WP.thenPanic ?_
  refine WP.panicD (k := 0) [_, _] [_, _] rfl Try.call48 rfl (fun w hI => catch48 _ _ _ _ _ (hI.own _ _ (List.mem_of_getElem? (i := 0) rfl))) Try.results18 ⟨(RV.cell1 Try.isAgg3 rfl (by first | exact Rd.own (k := 0) rfl rfl | exact Rd.own (k := 1) rfl rfl | exact (Rd.imm h3 rfl))), (RV.cell1 Try.isAgg24 rfl (by first | exact Rd.own (k := 0) rfl rfl | exact Rd.own (k := 1) rfl rfl | exact (Rd.imm h3 rfl))), trivial⟩ (fun w hI => ⟨congrArg Ending.returned (by rw [hO0, Waits_e]; rfl), hI.keep⟩)

set_option maxRecDepth 100000 in
set_option maxHeartbeats 1000000 in
theorem Sum_ok (X : Till) (a1 : Option Addr) (n1 c1 : Nat) (D : Imm) (w : World) (hR : TksR D X.tk a1 n1) (hH : Holds D w) (l : List Ent) (ab : Option Addr) (nb cb : Nat) (hB : BookR D l ab nb) (hE : tillE X l true = 0) (hW : tksE X.tk true = 0) : Gives Try.prog 18 [.agg #[it X.tk.huts, .slice a1 n1 c1, it X.price, it X.fine, it X.wait], .slice ab nb cb] w (.tuple #[it (SumOut X l).1, it (SumOut X l).2]) := by
  unfold Gives
  obtain rfl := hR.tick.len'
  have hl1 := hR.len
  obtain rfl := hB.ent.len'
  have hlb := hB.len
  have hE0 : toldE X l = 0 := by rw [toldE_2 hE, hW]
  refine enterM Try.func18 rfl 21 Try.ntmps18 (Nat.le_of_ble_eq_true rfl) (Inv.start hH) ?_
  refine WC.seq ?_
  refine WC.ofFr [(0, _), (1, _)] ⟨rfl, rfl, trivial⟩ ?_
  refine WC.region ?_
  refine WL.so (SO.box rfl rfl) rfl ?_
  rintro _ _ _ ⟨b2, hb2, rfl, rfl, rfl⟩ -- NEW
  refine WL.so (SO.box rfl rfl) rfl ?_
  rintro _ _ _ ⟨b3, hb3, rfl, rfl, rfl⟩ -- NEW
  refine WL.so (SO.alloc Try.zeroValue3 rfl) rfl ?_
  rintro _ _ _ ⟨b4, hb4, rfl, rfl, rfl⟩ -- NEW
  refine WL.so (SO.alloc Try.zeroValue24 rfl) rfl ?_
  rintro _ _ _ ⟨b5, hb5, rfl, rfl, rfl⟩ -- NEW
  refine WL.nil ?_
  refine WP.thenC ?_
  refine WC.seq ?_
  refine WC.ofFr [(5, _), (4, _), (3, _), (2, _)] ⟨rfl, rfl, rfl, rfl, trivial⟩ ?_
  refine WC.region ?_
  refine WL.yd (Yd.func rfl rfl) rfl ?_
  refine WL.defer rfl ?_
  refine WL.nil ?_
  refine WP.thenC ?_
  refine WC.seq ?_
  refine WC.seq ?_
  refine WC.freezeN 3 b2 (.cells (List.toArray [it X.tk.huts, .slice a1 X.tk.l.length c1, it X.price, it X.fine, it X.wait]) 37 (0, 0)) rfl rfl hb2 (fun D2 hX2 h2 => ?_)
  replace hR := hR.ext hX2
  replace hB := hB.ext hX2
  refine WC.freezeN 2 b3 (.cells (List.toArray [.slice ab l.length cb]) 41 (0, 0)) rfl rfl hb3 (fun D3 hX3 h3 => ?_)
  replace h2 := hX3.old _ _ h2
  replace hR := hR.ext hX3
  replace hB := hB.ext hX3
  refine WC.ofFr [(5, _), (4, _), (3, _), (2, _)] ⟨rfl, rfl, rfl, rfl, trivial⟩ ?_
  refine WC.drawH [] (by kernel_rfl) (fun _ hI => hI.drop 99) ?_
  refine WH.yd (i := 0) (by kernel_rfl) (QuietOn.then (QuietOn.then (QuietOn.bodyM (by kernel_rfl)))) rfl (Yd.loadN Try.isAgg37 Try.sizeOf37 rfl (vs := [_, _, _, _, _]) rfl (by first | exact RdN.own (k := 0) (n := 5) rfl rfl | exact RdN.own (k := 1) (n := 5) rfl rfl | exact (RdN.imm (n := 5) h2 rfl))) rfl ?_
  refine WH.yd (i := 1) (by kernel_rfl) (QuietOn.then (QuietOn.then (QuietOn.bodyM (by kernel_rfl)))) rfl (Yd.load1 Try.isAgg41 rfl (by first | exact Rd.own (k := 0) rfl rfl | exact Rd.own (k := 1) rfl rfl | exact (Rd.imm h3 rfl))) rfl ?_
  refine WH.yd (i := 4) (by kernel_rfl) (QuietOn.then (QuietOn.then (QuietOn.bodyM (by kernel_rfl)))) rfl (Yd.load1 Try.isAgg41 rfl (by first | exact Rd.own (k := 0) rfl rfl | exact Rd.own (k := 1) rfl rfl | exact (Rd.imm h3 rfl))) rfl ?_
  refine WH.one (i := 2) (by kernel_rfl) (WHo.so rfl (SO.callP Try.call44 rfl (fun w hI => openX_ok X a1 _ c1 _ _ hR hI.imm l ab _ cb hB 45 [] true Try.call45 (fun w' _ => always_g (.bool true) X a1 _ c1 w') hE)) rfl ?_)
  rintro _ _ _ ⟨rfl, rfl, rfl⟩
  refine ⟨(by first | exact (fun _ hI => hI.drop 99) | exact (fun _ hI => (hI.drop 99).shrink hX4.old)), ?_⟩
  refine WH.one (i := 3) (by kernel_rfl) (WHo.so rfl (SO.callP Try.call46 rfl (fun w hI => told_ok X a1 _ c1 _ _ hR hI.imm (by rw [Waits_e]; exact hW))) rfl ?_)
  rintro _ _ _ ⟨rfl, rfl, rfl⟩
  refine ⟨(by first | exact (fun _ hI => hI.drop 99) | exact (fun _ hI => (hI.drop 99).shrink hX4.old)), ?_⟩
  refine WH.one (i := 5) (by kernel_rfl) (WHo.so rfl (SO.makes (Enters.func Try.call47 rfl) (fun w hI => broken_g X a1 _ c1 ab _ cb _ _ hI.imm)) rfl ?_)
  rintro _ D4 _ ⟨hX4, ⟨bt, bb, rfl, hbb, hbt⟩, rfl⟩
  replace hB := hB.ext hX4
  replace hR := hR.ext hX4
  replace h3 := hX4.old _ _ h3
  refine ⟨(by first | exact (fun _ hI => hI.drop 99) | exact (fun _ hI => (hI.drop 99).shrink hX4.old)), ?_⟩
  refine WH.nil (by kernel_rfl) ?_
  refine WP.thenC ?_
  refine WC.block ?_
  refine WC.ofFr [(3, _), (4, _), (5, _), (12, _)] ⟨rfl, rfl, rfl, rfl, trivial⟩ ?_
  refine WC.rangeIterN2 (N := (brokL X l l.length).length) (arg1 := fun k => nt (gt (brokL X l l.length) k)) (arg2 := fun k => it (ruleI X l (gt (brokL X l l.length) k))) (fun w1 _ hD1 => broken1_iter X a1 _ c1 D4 l ab _ cb hB bt bb w1 hR hbt hbb hE hD1) rfl Try.call78 rfl rfl (fun k _ h => k = 0 ∧ h = [(b5, .cells (List.toArray [it 0]) 24 (0, 0)), (b4, .cells (List.toArray [it 0]) 3 (0, 0))]) (fun c _ h => c = .ret ∧ 0 < (brokL X l l.length).length ∧ h = [(b5, .cells (List.toArray [it 11]) 24 (0, 0)), (b4, .cells (List.toArray [it 0]) 3 (0, 0))]) (fun _ _ _ _ _ h => h) ⟨rfl, rfl⟩ ?_ ?_ ?_
  · rintro rec1 l1 Dn0 k D5 _ w1 hrec hk ⟨rfl, rfl⟩ hX5 hsz
    unfold RoundGN
    refine WCF.skip ?_
    refine WP.iterBegin 0 rfl hrec ?_
    refine WCF.block ?_
    refine WCF.seq ?_
    refine WCF.ofFr [(4, _), (5, _)] ⟨rfl, rfl, trivial⟩ ?_
    refine WCF.region ?_
    refine WLF.so (by intro _ h; cases h) (SO.store 3 rfl Try.sizeOf3 rfl rfl rfl rfl (Nat.le_of_ble_eq_true rfl) (oneB_spec rfl)) rfl ?_
    rintro _ _ _ ⟨rfl, rfl, rfl⟩
    refine WLF.so (by intro _ h; cases h) (SO.store 2 rfl Try.sizeOf24 rfl rfl rfl rfl (Nat.le_of_ble_eq_true rfl) (oneB_spec rfl)) rfl ?_
    rintro _ _ _ ⟨rfl, rfl, rfl⟩
    refine WLF.nil ?_
    refine WP.thenCF ?_
    refine WCF.ret ?_
    refine WP.blkRet ?_
    exact WP.iterRetN (h1 := [_, _]) (fun _ h => h) (fun h => h) (DExt.refl _ _) ⟨rfl, hk, rfl⟩
  · rintro Dn1 D6 _ hDn1 hX6 ⟨hN, rfl⟩
    have hnil := List.eq_nil_of_length_eq_zero hN
    have hpk : ∀ i, i < l.length → 0 ≤ (gt l i).pence ∧ (gt l i).pence ≤ 2400 := (fun i hi => can_num (tillE_all hE).1 (rule_zero (brok_nil hnil i hi)))
    replace h3 := hX6.old _ _ h3
    replace hB := hB.ext hX6
    refine WP.blkNormal ?_
    refine WP.thenC ?_
    refine WC.seq ?_
    refine WC.ofFr [(3, _), (4, _), (5, _)] ⟨rfl, rfl, rfl, trivial⟩ ?_
    refine WC.region ?_
    refine WL.yd (Yd.load1 Try.isAgg41 rfl (by first | exact Rd.own (k := 0) rfl rfl | exact Rd.own (k := 1) rfl rfl | exact Rd.own (k := 2) rfl rfl | exact (Rd.imm h3 rfl))) rfl ?_
    refine WL.yd (Yd.lenS rfl Try.underlying41 rfl) rfl ?_
    refine WL.yd (Yd.func rfl rfl) rfl ?_
    refine WL.yd (Yd.build SA93 rfl (cs := [_]) rfl) rfl ?_
    refine WL.so (SO.makes (Enters.func Try.call50 rfl) (fun w hI => foundP_g l.length hlb 51 [pt b3] (fun i => signI (gt l i)) D6 _ hI.imm Try.call51 (fun i hi w' hH' => sumC_g X D6 l ab _ cb hB b3 h3 i hi (hpk i hi) w' hH'))) rfl ?_
    rintro _ D7 _ ⟨hX7, ⟨a9, c9, rfl, hS9⟩, rfl⟩
    refine WL.so (SO.callP Try.call49 rfl (fun w hI => total_g ((List.range l.length).map fun i => signI (gt l i)) a9 _ c9 D7 _ hS9 hlb (by intro k hk; simp only [List.length_map, List.length_range] at hk; have h1 := hpk k hk; rw [show gt ((List.range l.length).map fun i => signI (gt l i)) k = signI (gt l k) by simp [gt, List.getD, hk]]; unfold signI; split <;> omega) hI.imm)) rfl ?_
    rintro _ _ _ ⟨rfl, rfl, rfl⟩
    refine WL.so (SO.store 2 rfl Try.sizeOf3 rfl rfl rfl rfl (Nat.le_of_ble_eq_true rfl) (oneB_spec rfl)) rfl ?_
    rintro _ _ _ ⟨rfl, rfl, rfl⟩
    refine WL.so (SO.store 1 rfl Try.sizeOf24 rfl rfl rfl rfl (Nat.le_of_ble_eq_true rfl) (oneB_spec rfl)) rfl ?_
    rintro _ _ _ ⟨rfl, rfl, rfl⟩
    refine WL.nil ?_
    refine WP.thenC ?_
    refine WC.ret ?_
    refine WP.retMsD [Dn1] [_, _] [_, _] [_, _] rfl rfl Try.call48 (fun w hI => idleM48 _ _) (fun _ h => h) (fun h => h) Try.results18 ⟨(RV.cell1 Try.isAgg3 rfl (Rd.own (k := 1) rfl rfl)), (RV.cell1 Try.isAgg24 rfl (Rd.own (k := 0) rfl rfl)), trivial⟩ (fun w hI => ⟨congrArg Ending.returned (by unfold SumOut; rw [hE0, if_neg (by simp), if_neg (by rw [hnil]; simp)]; rfl), hI.keep⟩)
  · rintro Dn1 c D6 _ hDn1 hX6 ⟨rfl, hN, rfl⟩
    refine WC.ret ?_
    refine WP.blkRet ?_
    refine WP.thenRet ?_
    refine WP.retMsD [Dn1] [_, _] [_, _] [_, _] rfl rfl Try.call48 (fun w hI => idleM48 _ _) (fun _ h => h) (fun h => h) Try.results18 ⟨(RV.cell1 Try.isAgg3 rfl (Rd.own (k := 1) rfl rfl)), (RV.cell1 Try.isAgg24 rfl (Rd.own (k := 0) rfl rfl)), trivial⟩ (fun w hI => ⟨congrArg Ending.returned (by unfold SumOut; rw [hE0, if_neg (by simp), if_pos (List.ne_nil_of_length_pos hN)]; rfl), hI.keep⟩)

theorem Sum_g (X : Till) (a1 : Option Addr) (n1 c1 : Nat) (D : Imm) (w : World) (hR : TksR D X.tk a1 n1) (hH : Holds D w) (l : List Ent) (ab : Option Addr) (nb cb : Nat) (hB : BookR D l ab nb) : Gives Try.prog 18 [.agg #[it X.tk.huts, .slice a1 n1 c1, it X.price, it X.fine, it X.wait], .slice ab nb cb] w (.tuple #[it (SumOut X l).1, it (SumOut X l).2]) := by
  by_cases hE : tillE X l true = 0
  · by_cases hW : tksE X.tk true = 0
    · exact Sum_ok X a1 n1 c1 D w hR hH l ab nb cb hB hE hW
    · exact Sum_e2 X a1 n1 c1 D w hR hH l ab nb cb hB hE hW
  · exact Sum_e1 X a1 n1 c1 D w hR hH l ab nb cb hB hE

end Go.Proofs.Ytpnbkdlejfmbeaa
namespace Go.Proofs.Ytpnbkdlejfmbeaa
open Go.W Go.Ti

def fOf (X : Till) (l : List Ent) (k : Nat) : Nat → Bool := if k = 0 then fun _ => false else missB X l k
def bsOf (X : Till) (l : List Ent) (N m n k : Nat) : Nat := if k < m then bitsI (fOf X l k) N else if k = m then bitsI (fOf X l m) n else 0
def setC (X : Till) (l : List Ent) (N m n : Nat) : List Value := [nt (bsOf X l N m n 0), nt (bsOf X l N m n 1), nt (bsOf X l N m n 2), nt (bsOf X l N m n 3)]
theorem m4 {m : Nat} (h : m < 4) : m = 0 ∨ m = 1 ∨ m = 2 ∨ m = 3 := by omega
theorem setC_at {X : Till} {l : List Ent} {N m n : Nat} (hm : m < 4) : (setC X l N m n)[0 + m * 1]? = some (nt (bitsI (fOf X l m) n)) := by
  rcases m4 hm with rfl | rfl | rfl | rfl <;> simp [setC, bsOf]
theorem setC_next {X : Till} {l : List Ent} {N m : Nat} (hm : m < 4) : setC X l N m N = setC X l N (m + 1) 0 := by
  rcases m4 hm with rfl | rfl | rfl | rfl <;> simp [setC, bsOf, bitsI]
theorem setC_skip {X : Till} {l : List Ent} {N m n : Nat} (h : fOf X l m n = false) : setC X l N m n = setC X l N m (n + 1) := by
  have e : bitsI (fOf X l m) (n + 1) = bitsI (fOf X l m) n := by simp [bitsI, h]
  unfold setC bsOf
  rw [e]
theorem lor_pow : ∀ n, n < 5 → ∀ a, a < 2 ^ n → Nat.lor a (2 ^ n) = a + 2 ^ n := by decide
theorem setC_step {X : Till} {l : List Ent} {N m n : Nat} (hm : m < 4) (hn : n < 5) (h : fOf X l m n = true) : splice (setC X l N m n) (0 + (m : Int).toNat * 1) [nt (Nat.lor (bitsI (fOf X l m) n) (2 ^ n))] = setC X l N m (n + 1) := by
  rw [lor_pow n hn _ (bits_lt _ _)]
  have e : bitsI (fOf X l m) n + 2 ^ n = bitsI (fOf X l m) (n + 1) := by simp [bitsI, h]
  rw [e]
  rcases m4 hm with rfl | rfl | rfl | rfl <;> simp [setC, bsOf, splice]
theorem bits_32 {f : Nat → Bool} {n : Nat} (hn : n < 5) : bitsI f n < 32 ∧ 2 ^ n < 32 := by
  have h1 := bits_lt f n
  have h2 : 2 ^ n ≤ 2 ^ 4 := Nat.pow_le_pow_right (by omega) (by omega)
  omega
theorem miss_no1 {X : Till} {l : List Ent} {m n : Nat} (h : ¬ m ≠ 0) : fOf X l m n = false := by unfold fOf; rw [if_pos (by omega)]
theorem miss_no2 {X : Till} {l : List Ent} {m n : Nat} {h5 : n < 5} {h4 : m < 4} (h : bkF l (⟨n, h5⟩, ⟨m, h4⟩) = true) : fOf X l m n = false := by
  unfold fOf; split
  · rfl
  · unfold missB; rw [show bookedB l (n : Int) (m : Int) = true from h]; rfl
theorem miss_no3 {X : Till} {l : List Ent} {m n : Nat} (h : ¬ (m : Int) = 1) (h2 : (spanOf X (n : Int) m).lo ≤ 0) : fOf X l m n = false := by
  unfold fOf; split
  · rfl
  · unfold missB; rw [decide_eq_false (show ¬ m = 1 by omega), decide_eq_false (show ¬ (spanOf X (n : Int) m).lo > 0 by omega)]; simp
theorem miss_yes {X : Till} {l : List Ent} {m n : Nat} {h5 : n < 5} {h4 : m < 4} (hk : 1 ≤ m ∧ m ≤ 3) (h : bkF l (⟨n, h5⟩, ⟨m, h4⟩) = false) (h2 : (m : Int) = 1 ∨ (spanOf X (n : Int) m).lo > 0) : fOf X l m n = true := by
  unfold fOf; rw [if_neg (by omega)]
  unfold missB; rw [show bookedB l (n : Int) (m : Int) = false from h]
  rcases h2 with h2 | h2
  · rw [decide_eq_true (show m = 1 by omega)]; rfl
  · rw [decide_eq_true h2]; simp
section
variable {x : Cx} {fr : Fr} {D : Imm} {hp : Hp} {ty : TypeId}
theorem kind_neq {m : Nat} (hm : m < 4) {t' : TypeId} {o : Operand} (ho : opv fr o = some (kindAt m)) : Yd Try.prog x fr D hp (.binOp .neq 102 o (.const .nilIface) t') ty (.bool (decide (m ≠ 0))) := by
  rcases m4 hm with rfl | rfl | rfl | rfl
  · exact Yd.neqNilNil Try.underlying102 ho
  · exact Yd.neqNil Try.underlying102 ho
  · exact Yd.neqNil Try.underlying102 ho
  · exact Yd.neqNil Try.underlying102 ho
end

set_option maxRecDepth 100000 in
set_option maxHeartbeats 1000000 in
theorem Missing_e1 (X : Till) (a1 : Option Addr) (n1 c1 : Nat) (D : Imm) (w : World) (hR : TksR D X.tk a1 n1) (hH : Holds D w) (l : List Ent) (ab : Option Addr) (nb cb : Nat) (hB : BookR D l ab nb) (hE : tillE X l true ≠ 0) : Gives Try.prog 25 [.agg #[it X.tk.huts, .slice a1 n1 c1, it X.price, it X.fine, it X.wait], .slice ab nb cb] w (.tuple #[it (MissOut X l).1, it (MissOut X l).2.1, it (MissOut X l).2.2.1, it (MissOut X l).2.2.2]) := by
  unfold Gives
  obtain rfl := hR.tick.len'
  have hl1 := hR.len
  obtain rfl := hB.ent.len'
  have hlb := hB.len
  have hO0 : MissOut X l = (0, 0, 0, tillE X l true) := by unfold MissOut; rw [toldE_1 hE, if_pos hE]
  refine enterD Try.func25 rfl 82 Try.ntmps25 (Nat.le_of_ble_eq_true rfl) (Inv.start hH) ?_
  refine WC.seq ?_
  refine WC.ofFr [(0, _), (1, _)] ⟨rfl, rfl, trivial⟩ ?_
  refine WC.region ?_
  refine WL.so (SO.box rfl rfl) rfl ?_
  rintro _ _ _ ⟨b2, hb2, rfl, rfl, rfl⟩ -- NEW
  refine WL.yd (Yd.assign rfl) rfl ?_
  refine WL.yd (Yd.assign rfl) rfl ?_
  refine WL.yd (Yd.assign rfl) rfl ?_
  refine WL.so (SO.alloc Try.zeroValue24 rfl) rfl ?_
  rintro _ _ _ ⟨b7, hb7, rfl, rfl, rfl⟩ -- NEW
  refine WL.nil ?_
  refine WP.thenC ?_
  refine WC.seq ?_
  refine WC.ofFr [(7, _), (6, _), (5, _), (4, _), (2, _), (1, _)] ⟨rfl, rfl, rfl, rfl, rfl, rfl, trivial⟩ ?_
  refine WC.region ?_
  refine WL.yd (Yd.func rfl rfl) rfl ?_
  refine WL.defer rfl ?_
  refine WL.nil ?_
  refine WP.thenC ?_
  refine WC.seq ?_
  refine WC.ofFr [(7, _), (6, _), (5, _), (4, _), (2, _), (1, _)] ⟨rfl, rfl, rfl, rfl, rfl, rfl, trivial⟩ ?_
  refine WC.region ?_
  refine WL.yd (Yd.loadN Try.isAgg37 Try.sizeOf37 rfl (vs := [_, _, _, _, _]) rfl (by first | exact RdN.own (k := 0) (n := 5) rfl rfl | exact RdN.own (k := 1) (n := 5) rfl rfl)) rfl ?_
  refine WL.yd (Yd.move rfl) rfl ?_
  refine WL.no (SO.fail (Enters.func Try.call44 rfl) (fun w hI => openX_no X a1 _ c1 _ _ hR hI.imm l ab _ cb hB 45 [] true Try.call45 (fun w' _ => always_g (.bool true) X a1 _ c1 w') hE) ?_)
  refine WP.thenPanic ?_
  refine WP.panicD (k := 0) [_, _, _, _] [_, _, _, _] rfl Try.call59 rfl (fun w hI => catch59 _ _ _ _ _ (hI.own _ _ (List.mem_of_getElem? (i := 0) rfl))) Try.results25 ⟨(RV.tmp rfl), (RV.tmp rfl), (RV.tmp rfl), (RV.cell1 Try.isAgg24 rfl (by first | exact Rd.own (k := 0) rfl rfl | exact Rd.own (k := 1) rfl rfl)), trivial⟩ (fun w hI => ⟨congrArg Ending.returned (by rw [hO0]; rfl), hI.keep⟩)

set_option maxRecDepth 100000 in
set_option maxHeartbeats 1000000 in
theorem Missing_e2 (X : Till) (a1 : Option Addr) (n1 c1 : Nat) (D : Imm) (w : World) (hR : TksR D X.tk a1 n1) (hH : Holds D w) (l : List Ent) (ab : Option Addr) (nb cb : Nat) (hB : BookR D l ab nb) (hE : tillE X l true = 0) (hW : tksE X.tk true ≠ 0) : Gives Try.prog 25 [.agg #[it X.tk.huts, .slice a1 n1 c1, it X.price, it X.fine, it X.wait], .slice ab nb cb] w (.tuple #[it (MissOut X l).1, it (MissOut X l).2.1, it (MissOut X l).2.2.1, it (MissOut X l).2.2.2]) := by
  unfold Gives
  obtain rfl := hR.tick.len'
  have hl1 := hR.len
  obtain rfl := hB.ent.len'
  have hlb := hB.len
  have hO0 : MissOut X l = (0, 0, 0, tksE X.tk true) := by unfold MissOut; rw [toldE_2 hE, if_pos hW]
  refine enterD Try.func25 rfl 82 Try.ntmps25 (Nat.le_of_ble_eq_true rfl) (Inv.start hH) ?_
  refine WC.seq ?_
  refine WC.ofFr [(0, _), (1, _)] ⟨rfl, rfl, trivial⟩ ?_
  refine WC.region ?_
  refine WL.so (SO.box rfl rfl) rfl ?_
  rintro _ _ _ ⟨b2, hb2, rfl, rfl, rfl⟩ -- NEW
  refine WL.yd (Yd.assign rfl) rfl ?_
  refine WL.yd (Yd.assign rfl) rfl ?_
  refine WL.yd (Yd.assign rfl) rfl ?_
  refine WL.so (SO.alloc Try.zeroValue24 rfl) rfl ?_
  rintro _ _ _ ⟨b7, hb7, rfl, rfl, rfl⟩ -- NEW
  refine WL.nil ?_
  refine WP.thenC ?_
  refine WC.seq ?_
  refine WC.ofFr [(7, _), (6, _), (5, _), (4, _), (2, _), (1, _)] ⟨rfl, rfl, rfl, rfl, rfl, rfl, trivial⟩ ?_
  refine WC.region ?_
  refine WL.yd (Yd.func rfl rfl) rfl ?_
  refine WL.defer rfl ?_
  refine WL.nil ?_
  refine WP.thenC ?_
  refine WC.seq ?_
  refine WC.ofFr [(7, _), (6, _), (5, _), (4, _), (2, _), (1, _)] ⟨rfl, rfl, rfl, rfl, rfl, rfl, trivial⟩ ?_
  refine WC.region ?_
  refine WL.yd (Yd.loadN Try.isAgg37 Try.sizeOf37 rfl (vs := [_, _, _, _, _]) rfl (by first | exact RdN.own (k := 0) (n := 5) rfl rfl | exact RdN.own (k := 1) (n := 5) rfl rfl)) rfl ?_
  refine WL.yd (Yd.move rfl) rfl ?_
  refine WL.so (SO.callP Try.call44 rfl (fun w hI => openX_ok X a1 _ c1 _ _ hR hI.imm l ab _ cb hB 45 [] true Try.call45 (fun w' _ => always_g (.bool true) X a1 _ c1 w') hE)) rfl ?_
  rintro _ _ _ ⟨rfl, rfl, rfl⟩
  refine WL.no (SO.fail (Enters.func Try.call46 rfl) (fun w hI => told_no X a1 _ c1 _ _ hR hI.imm (by rw [Waits_e]; exact hW)) ?_)
  refine WP.thenPanic ?_
  refine WP.panicD (k := 0) [_, _, _, _] [_, _, _, _] rfl Try.call59 rfl (fun w hI => catch59 _ _ _ _ _ (hI.own _ _ (List.mem_of_getElem? (i := 0) rfl))) Try.results25 ⟨(RV.tmp rfl), (RV.tmp rfl), (RV.tmp rfl), (RV.cell1 Try.isAgg24 rfl (by first | exact Rd.own (k := 0) rfl rfl | exact Rd.own (k := 1) rfl rfl)), trivial⟩ (fun w hI => ⟨congrArg Ending.returned (by rw [hO0, Waits_e]; rfl), hI.keep⟩)

set_option maxRecDepth 100000 in
set_option maxHeartbeats 1000000 in
theorem Missing_ok (X : Till) (a1 : Option Addr) (n1 c1 : Nat) (D : Imm) (w : World) (hR : TksR D X.tk a1 n1) (hH : Holds D w) (l : List Ent) (ab : Option Addr) (nb cb : Nat) (hB : BookR D l ab nb) (hE : tillE X l true = 0) (hW : tksE X.tk true = 0) : Gives Try.prog 25 [.agg #[it X.tk.huts, .slice a1 n1 c1, it X.price, it X.fine, it X.wait], .slice ab nb cb] w (.tuple #[it (MissOut X l).1, it (MissOut X l).2.1, it (MissOut X l).2.2.1, it (MissOut X l).2.2.2]) := by
  unfold Gives
  obtain rfl := hR.tick.len'
  have hl1 := hR.len
  obtain rfl := hB.ent.len'
  have hlb := hB.len
  have hE0 : toldE X l = 0 := by rw [toldE_2 hE, hW]
  obtain ⟨hbt, h20, _, hent⟩ := tillE_all hE
  have h5 := (tks_num (tillB_num hbt).1).2.1
  have hO0 : MissOut X l = ((bitsI (missB X l 1) X.tk.l.length : Int), (bitsI (missB X l 2) X.tk.l.length : Int), (bitsI (missB X l 3) X.tk.l.length : Int), 0) := by unfold MissOut; rw [if_neg (by rw [hE0]; simp)]
  refine enterD Try.func25 rfl 82 Try.ntmps25 (Nat.le_of_ble_eq_true rfl) (Inv.start hH) ?_
  refine WC.seq ?_
  refine WC.ofFr [(0, _), (1, _)] ⟨rfl, rfl, trivial⟩ ?_
  refine WC.region ?_
  refine WL.so (SO.box rfl rfl) rfl ?_
  rintro _ _ _ ⟨b2, hb2, rfl, rfl, rfl⟩ -- NEW
  refine WL.yd (Yd.assign rfl) rfl ?_
  refine WL.yd (Yd.assign rfl) rfl ?_
  refine WL.yd (Yd.assign rfl) rfl ?_
  refine WL.so (SO.alloc Try.zeroValue24 rfl) rfl ?_
  rintro _ _ _ ⟨b7, hb7, rfl, rfl, rfl⟩ -- NEW
  refine WL.nil ?_
  refine WP.thenC ?_
  refine WC.seq ?_
  refine WC.ofFr [(7, _), (6, _), (5, _), (4, _), (2, _), (1, _)] ⟨rfl, rfl, rfl, rfl, rfl, rfl, trivial⟩ ?_
  refine WC.region ?_
  refine WL.yd (Yd.func rfl rfl) rfl ?_
  refine WL.defer rfl ?_
  refine WL.nil ?_
  refine WP.thenC ?_
  refine WC.seq ?_
  refine WC.ofFr [(7, _), (6, _), (5, _), (4, _), (2, _), (1, _)] ⟨rfl, rfl, rfl, rfl, rfl, rfl, trivial⟩ ?_
  refine WC.region ?_
  refine WL.yd (Yd.loadN Try.isAgg37 Try.sizeOf37 rfl (vs := [_, _, _, _, _]) rfl (by first | exact RdN.own (k := 0) (n := 5) rfl rfl | exact RdN.own (k := 1) (n := 5) rfl rfl | exact (RdN.imm (n := 5) h8 rfl))) rfl ?_
  refine WL.yd (Yd.move rfl) rfl ?_
  refine WL.so (SO.callP Try.call44 rfl (fun w hI => openX_ok X a1 _ c1 _ _ hR hI.imm l ab _ cb hB 45 [] true Try.call45 (fun w' _ => always_g (.bool true) X a1 _ c1 w') hE)) rfl ?_
  rintro _ _ _ ⟨rfl, rfl, rfl⟩
  refine WL.so (SO.callP Try.call46 rfl (fun w hI => told_ok X a1 _ c1 _ _ hR hI.imm (by rw [Waits_e]; exact hW))) rfl ?_
  rintro _ _ _ ⟨rfl, rfl, rfl⟩
  refine WL.so (SO.alloc Try.zeroValue82 rfl) rfl ?_
  rintro _ _ _ ⟨b8, hb8, rfl, rfl, rfl⟩ -- NEW
  refine WL.so (SO.store 0 rfl Try.sizeOf82 rfl rfl rfl rfl (Nat.le_of_ble_eq_true rfl) (oneB_spec rfl)) rfl ?_
  rintro _ _ _ ⟨rfl, rfl, rfl⟩
  refine WL.nil ?_
  refine WP.thenC ?_
  refine WC.seq ?_
  refine WC.freezeN 0 b8 (.cells (List.toArray (tillC X (.slice a1 X.tk.l.length c1))) 82 (0, 0)) rfl rfl hb8 (fun D8 hX8 h8 => ?_)
  refine WC.freezeN 1 b2 (.cells (List.toArray [it X.tk.huts, .slice a1 X.tk.l.length c1, it X.price, it X.fine, it X.wait]) 37 (0, 0)) rfl rfl hb2 (fun D2 hX2 h2 => ?_)
  replace h8 := hX2.old _ _ h8
  replace hR := hR.ext (hX8.trans hX2 (Nat.le_refl _))
  replace hB := hB.ext (hX8.trans hX2 (Nat.le_refl _))
  refine WC.ofFr [(8, _), (7, _), (6, _), (5, _), (4, _), (1, _)] ⟨rfl, rfl, rfl, rfl, rfl, rfl, trivial⟩ ?_
  refine WC.region ?_
  refine WL.so SO.makeMap rfl ?_
  rintro _ _ _ ⟨b21, hb21, rfl, rfl, rfl⟩ -- NEW
  refine WL.yd (Yd.assign rfl) rfl ?_
  refine WL.nil ?_
  refine WP.thenC ?_
  refine WC.seq ?_
  refine WC.seq ?_
  refine WC.ofFr [(9, _), (8, _), (7, _), (6, _), (5, _), (4, _), (1, _)] ⟨rfl, rfl, rfl, rfl, rfl, rfl, rfl, trivial⟩ ?_
  refine WC.region ?_
  refine WL.yd (Yd.move rfl) rfl ?_
  refine WL.yd (Yd.lenS rfl Try.underlying41 rfl) rfl ?_
  refine WL.yd (Yd.move rfl) rfl ?_
  refine WL.nil ?_
  refine WP.thenC ?_
  refine WC.block ?_
  refine WC.loop (fun z : Nat × Array MapEntry × Nat => [(4, it 0), (5, it 0), (6, it 0), (7, pt b7), (8, pt b8), (9, .map (some b21)), (22, .slice ab l.length cb), (23, nt l.length), (24, nt z.1)]) (fun z => [(b21, .map z.2.1 z.2.2), (b7, .cells (List.toArray [it 0]) 24 (0, 0))]) (fun _ => D2) (fun z => z.1 ≤ l.length ∧ MapB keyV z.2.1 z.2.2 (bkF (l.take z.1))) (fun z => l.length - z.1) ⟨0, #[], 0⟩ ⟨by omega, MapB.empty _⟩ (fun a w h => at_fr h ⟨rfl, rfl, rfl, rfl, rfl, rfl, rfl, rfl, rfl, trivial⟩) ?_
  rintro ⟨k, es, cl⟩ ⟨hk, hM⟩
  dsimp only at hk hM
  refine WC.seq ?_
  refine WC.ofFr [(4, _), (5, _), (6, _), (7, _), (8, _), (9, _), (22, _), (23, _), (24, _)] ⟨rfl, rfl, rfl, rfl, rfl, rfl, rfl, rfl, rfl, trivial⟩ ?_
  refine WC.region ?_
  refine WL.yd (Yd.lss rfl rfl) rfl ?_
  refine WL.nil ?_
  refine WP.thenC ?_
  refine WC.seq ?_
  refine WC.cond rfl (fun c25 => ?_) (fun c25 => ?_)
  · try simp only [zq1, zq2, zq3, zq4, zq5, zq6, zq7, zq8] at c25
    have hkl : k < l.length := by omega
    obtain ⟨y, hk1, hk2, hk3, hk4⟩ := ent_ky h5 (hent k hkl)
    refine WC.skip ?_
    refine WP.thenC ?_
    refine WC.seq ?_
    refine WC.block ?_
    refine WC.seq ?_
    refine WC.ofFr [(4, _), (5, _), (6, _), (7, _), (8, _), (9, _), (22, _), (23, _), (24, _)] ⟨rfl, rfl, rfl, rfl, rfl, rfl, rfl, rfl, rfl, trivial⟩ ?_
    refine WC.region ?_
    refine WL.yd (Yd.indexS Try.underlying41 Try.sizeOf44 rfl rfl (by omega) (by omega) (by first | exact hB.ent.addr k (by omega))) rfl ?_
    refine WL.yd (Yd.loadN Try.isAgg44 Try.sizeOf44 rfl (vs := [_, _, _]) rfl (by first | exact RdN.own (k := 0) (n := 3) rfl rfl | exact RdN.own (k := 1) (n := 3) rfl rfl | exact ((hB.ent.at k (by omega)).rdn 0 3 rfl))) rfl ?_
    refine WL.so (SO.alloc Try.zeroValue44 rfl) rfl ?_
    rintro _ _ _ ⟨b11, hb11, rfl, rfl, rfl⟩ -- NEW
    refine WL.so (SO.store 0 rfl Try.sizeOf44 rfl rfl rfl rfl (Nat.le_of_ble_eq_true rfl) (oneB_spec rfl)) rfl ?_
    rintro _ _ _ ⟨rfl, rfl, rfl⟩
    refine WL.nil ?_
    refine WP.thenC ?_
    refine WC.ofFr [(11, _), (4, _), (5, _), (6, _), (7, _), (8, _), (9, _), (22, _), (23, _), (24, _)] ⟨rfl, rfl, rfl, rfl, rfl, rfl, rfl, rfl, rfl, rfl, trivial⟩ ?_
    refine WC.region ?_
    refine WL.yd (Yd.move rfl) rfl ?_
    refine WL.yd (Yd.fieldAddr FA44_0 rfl) rfl ?_
    refine WL.yd (Yd.load1 Try.isAgg3 rfl (by first | exact Rd.own (k := 0) rfl rfl | exact Rd.own (k := 1) rfl rfl | exact Rd.own (k := 2) rfl rfl)) rfl ?_
    refine WL.yd (Yd.fieldAddr FA44_1 rfl) rfl ?_
    refine WL.yd (Yd.load1 Try.isAgg3 rfl (by first | exact Rd.own (k := 0) rfl rfl | exact Rd.own (k := 1) rfl rfl | exact Rd.own (k := 2) rfl rfl)) rfl ?_
    refine WL.yd (Yd.build SA99 rfl (cs := [_, _]) rfl) rfl ?_
    refine WL.know 33 (keyV y) rfl (by rw [hk1, hk2]; rfl) ?_
    refine WL.so (SO.putB (kv := keyV) (y := y) (j := 1) keyV_inj keyLaw key_ky Try.underlying97 rfl rfl rfl rfl hM) rfl ?_
    rintro _ _ _ ⟨rfl, es1, cl1, rfl, hM1⟩
    rw [bkF_put hkl hk1 hk2] at hM1
    refine WL.nil ?_
    refine WP.blkNormal ?_
    refine WP.thenC ?_
    refine WC.ofFr [(4, _), (5, _), (6, _), (7, _), (8, _), (9, _), (22, _), (23, _), (24, _)] ⟨rfl, rfl, rfl, rfl, rfl, rfl, rfl, rfl, rfl, trivial⟩ ?_
    refine WC.region ?_
    refine WL.yd (Yd.add rfl rfl (wr64 ⟨by omega, by omega⟩)) rfl ?_
    refine WL.yd (Yd.move rfl) rfl ?_
    refine WL.nil ?_
    exact WP.again (⟨k + 1, es1, cl1⟩ : Nat × Array MapEntry × Nat) ⟨by simp only; omega, hM1⟩ (by simp only; omega) (fun a w h => at_less h ⟨rfl, rfl, rfl, rfl, rfl, rfl, rfl, rfl, rfl, trivial⟩ (fun _ h => List.mem_cons_of_mem _ h) (fun h => (List.nodup_cons.1 h).2))
  · try simp only [zq1, zq2, zq3, zq4, zq5, zq6, zq7, zq8] at c25
    refine WC.exit ?_
    refine WP.thenExit ?_
    refine WP.thenExit ?_
    refine WP.blkHit ?_
    refine WP.thenC ?_
    refine WC.seq ?_
    obtain rfl : k = l.length := by omega
    rw [List.take_length] at hM
    refine WC.ofFr [(4, _), (5, _), (6, _), (7, _), (8, _), (9, _)] ⟨rfl, rfl, rfl, rfl, rfl, rfl, trivial⟩ ?_
    refine WC.region ?_
    refine WL.so (SO.alloc Try.zeroValue100 rfl) rfl ?_
    rintro _ _ _ ⟨b12, hb12, rfl, rfl, rfl⟩ -- NEW
    refine WL.nil ?_
    refine WP.thenC ?_
    refine WC.seq ?_
    refine WC.seq ?_
    refine WC.ofFr [(12, _), (4, _), (5, _), (6, _), (7, _), (8, _), (9, _)] ⟨rfl, rfl, rfl, rfl, rfl, rfl, rfl, trivial⟩ ?_
    refine WC.region ?_
    refine WL.so (SO.callP Try.call60 rfl (fun w hI => kinds_g _)) rfl ?_
    rintro _ _ _ ⟨rfl, rfl, rfl⟩
    refine WL.yd (Yd.move rfl) rfl ?_
    refine WL.nil ?_
    refine WP.thenC ?_
    refine WC.block ?_
    refine WC.loop (fun m : Nat => [(4, it 0), (5, it 0), (6, it 0), (7, pt b7), (8, pt b8), (9, .map (some b21)), (12, pt b12), (35, kindsV), (36, nt m)]) (fun m => [(b12, .cells (List.toArray (setC X l X.tk.l.length m 0)) 100 (0, 0)), (b21, .map es cl), (b7, .cells (List.toArray [it 0]) 24 (0, 0))]) (fun _ => D2) (fun m => m ≤ 4) (fun m => 4 - m) 0 (by omega) (fun a w h => at_fr h ⟨rfl, rfl, rfl, rfl, rfl, rfl, rfl, rfl, rfl, trivial⟩) ?_
    intro m hm
    refine WC.seq ?_
    refine WC.ofFr [(4, _), (5, _), (6, _), (7, _), (8, _), (9, _), (12, _), (35, _), (36, _)] ⟨rfl, rfl, rfl, rfl, rfl, rfl, rfl, rfl, rfl, trivial⟩ ?_
    refine WC.region ?_
    refine WL.yd (Yd.lss rfl rfl) rfl ?_
    refine WL.nil ?_
    refine WP.thenC ?_
    refine WC.seq ?_
    refine WC.cond rfl (fun c37 => ?_) (fun c37 => ?_)
    · try simp only [zq1, zq2, zq3, zq4, zq5, zq6, zq7, zq8] at c37
      have hm4 : m < 4 := by omega
      refine WC.skip ?_
      refine WP.thenC ?_
      refine WC.seq ?_
      refine WC.block ?_
      refine WC.seq ?_
      refine WC.ofFr [(4, _), (5, _), (6, _), (7, _), (8, _), (9, _), (12, _), (35, _), (36, _)] ⟨rfl, rfl, rfl, rfl, rfl, rfl, rfl, rfl, rfl, trivial⟩ ?_
      refine WC.region ?_
      refine WL.yd (Yd.move rfl) rfl ?_
      refine WL.yd (Yd.index (cs := kindsC) (j := m) Try.underlying103 Try.sizeOf102 rfl rfl (by omega) (kinds_part (by omega))) rfl ?_
      refine WL.yd (Yd.assign rfl) rfl ?_
      refine WL.yd (Yd.assign rfl) rfl ?_
      refine WL.nil ?_
      refine WP.thenC ?_
      refine WC.seq ?_
      refine WC.ofFr [(14, _), (13, _), (4, _), (5, _), (6, _), (7, _), (8, _), (9, _), (12, _), (35, _), (36, _)] ⟨rfl, rfl, rfl, rfl, rfl, rfl, rfl, rfl, rfl, rfl, rfl, trivial⟩ ?_
      refine WC.region ?_
      refine WL.yd (Yd.loadN Try.isAgg82 Try.sizeOf82 rfl (vs := [_, _, _, _, _]) rfl (by first | exact RdN.own (k := 0) (n := 5) rfl rfl | exact RdN.own (k := 1) (n := 5) rfl rfl | exact RdN.own (k := 2) (n := 5) rfl rfl | exact (RdN.imm (n := 5) h8 rfl))) rfl ?_
      refine WL.so (SO.callP Try.call55 rfl (fun w hI => manyT_g X a1 _ c1 _)) rfl ?_
      rintro _ _ _ ⟨rfl, rfl, rfl⟩
      refine WL.yd (Yd.move rfl) rfl ?_
      refine WL.nil ?_
      refine WP.thenC ?_
      refine WC.block ?_
      refine WC.loop (fun n : Nat => [(4, it 0), (5, it 0), (6, it 0), (7, pt b7), (8, pt b8), (9, .map (some b21)), (12, pt b12), (13, nt m), (14, kindAt m), (35, kindsV), (36, nt m), (41, nt X.tk.l.length), (42, nt n)]) (fun n => [(b12, .cells (List.toArray (setC X l X.tk.l.length m n)) 100 (0, 0)), (b21, .map es cl), (b7, .cells (List.toArray [it 0]) 24 (0, 0))]) (fun _ => D2) (fun n => n ≤ X.tk.l.length) (fun n => X.tk.l.length - n) 0 (by omega) (fun a w h => at_fr h ⟨rfl, rfl, rfl, rfl, rfl, rfl, rfl, rfl, rfl, rfl, rfl, rfl, rfl, trivial⟩) ?_
      intro n hn
      refine WC.seq ?_
      refine WC.ofFr [(4, _), (5, _), (6, _), (7, _), (8, _), (9, _), (12, _), (13, _), (14, _), (35, _), (36, _), (41, _), (42, _)] ⟨rfl, rfl, rfl, rfl, rfl, rfl, rfl, rfl, rfl, rfl, rfl, rfl, rfl, trivial⟩ ?_
      refine WC.region ?_
      refine WL.yd (Yd.lss rfl rfl) rfl ?_
      refine WL.nil ?_
      refine WP.thenC ?_
      refine WC.seq ?_
      refine WC.cond rfl (fun c43 => ?_) (fun c43 => ?_)
      · try simp only [zq1, zq2, zq3, zq4, zq5, zq6, zq7, zq8] at c43
        have hnl : n < X.tk.l.length := by omega
        refine WC.skip ?_
        refine WP.thenC ?_
        refine WC.seq ?_
        refine WC.block ?_
        refine WC.seq ?_
        refine WC.ofFr [(4, _), (5, _), (6, _), (7, _), (8, _), (9, _), (12, _), (13, _), (14, _), (35, _), (36, _), (41, _), (42, _)] ⟨rfl, rfl, rfl, rfl, rfl, rfl, rfl, rfl, rfl, rfl, rfl, rfl, rfl, trivial⟩ ?_
        refine WC.region ?_
        refine WL.yd (Yd.move rfl) rfl ?_
        refine WL.yd (Yd.assign rfl) rfl ?_
        refine WL.nil ?_
        refine WP.thenC ?_
        refine WC.seq ?_
        refine WC.ofFr [(15, _), (4, _), (5, _), (6, _), (7, _), (8, _), (9, _), (12, _), (13, _), (14, _), (35, _), (36, _), (41, _), (42, _)] ⟨rfl, rfl, rfl, rfl, rfl, rfl, rfl, rfl, rfl, rfl, rfl, rfl, rfl, rfl, trivial⟩ ?_
        refine WC.region ?_
        refine WL.yd (Yd.move rfl) rfl ?_
        refine WL.yd (kind_neq hm4 rfl) rfl ?_
        refine WL.yd (Yd.move rfl) rfl ?_
        refine WL.part 47 rfl (fun g47 => ?_) (fun g47 => ?_)
        · try simp only [zq1, zq2, zq3, zq4, zq5, zq6, zq7, zq8] at g47
          have hk3 : 1 ≤ m ∧ m ≤ 3 := by omega
          refine WL.ydg rfl (Yd.move rfl) rfl ?_
          refine WL.ydg rfl (Yd.move rfl) rfl ?_
          refine WL.ydg rfl (Yd.move rfl) rfl ?_
          refine WL.ydg rfl (Yd.build SA99 rfl (cs := [_, _]) rfl) rfl ?_
          refine WL.ydg rfl (Yd.lookB (kv := keyV) (F := bkF l) (y := (⟨n, by omega⟩, ⟨m, by omega⟩)) (j := 1) keyV_inj keyLaw key_ky Try.underlying97 Try.zeroValue4 rfl rfl rfl hM) rfl ?_
          refine WL.ydg rfl (Yd.not rfl) rfl ?_
          refine WL.yd (Yd.pickT rfl rfl) rfl ?_
          refine WL.yd (Yd.move rfl) rfl ?_
          refine WL.part 55 rfl (fun g55 => ?_) (fun g55 => ?_)
          · try simp only [zq1, zq2, zq3, zq4, zq5, zq6, zq7, zq8] at g55
            refine WL.ydg rfl (Yd.move rfl) rfl ?_
            refine WL.ydg rfl (Yd.eql rfl rfl) rfl ?_
            refine WL.ydg rfl (Yd.move rfl) rfl ?_
            refine WL.part 58 rfl (fun g58 => ?_) (fun g58 => ?_)
            · try simp only [zq1, zq2, zq3, zq4, zq5, zq6, zq7, zq8] at g58
              refine WL.skip rfl rfl ?_
              refine WL.skip rfl rfl ?_
              refine WL.skip rfl rfl ?_
              refine WL.skip rfl rfl ?_
              refine WL.skip rfl rfl ?_
              refine WL.skip rfl rfl ?_
              refine WL.ydg rfl (Yd.pickT rfl rfl) rfl ?_
              refine WL.yd (Yd.pickT rfl rfl) rfl ?_
              refine WL.nil ?_
              refine WP.thenC ?_
              refine WC.condT rfl ?_
              have hms : fOf X l m n = true := by first | exact miss_yes hk3 g55 (.inl g58) | exact miss_yes hk3 g55 (.inr c66)
              refine WC.ofFr [(15, _), (4, _), (5, _), (6, _), (7, _), (8, _), (9, _), (12, _), (13, _), (14, _), (35, _), (36, _), (41, _), (42, _)] ⟨rfl, rfl, rfl, rfl, rfl, rfl, rfl, rfl, rfl, rfl, rfl, rfl, rfl, rfl, trivial⟩ ?_
              refine WC.tail 5 [0, 1, 2, 3, 4] rfl (by kernel_rfl) (by kernel_rfl)  ?_
              refine WQ.q rfl (Yd.qt (Yd.move rfl)) rfl ?_
              refine WQ.q rfl (Yd.qt (Yd.indexA Try.underlying100 Try.sizeOf3 rfl rfl (by omega) (by omega))) rfl ?_
              refine WQ.q rfl (Yd.qt (Yd.load1 Try.isAgg3 rfl (by first | exact Rd.own (k := 0) rfl rfl | exact Rd.own (k := 1) rfl rfl | exact Rd.own (k := 2) rfl rfl | exact (Rd.own (k := 0) rfl (setC_at hm4))))) rfl ?_
              refine WQ.q rfl (Yd.qt (Yd.move rfl)) rfl ?_
              refine WQ.q rfl (Yd.qt (Yd.shlN rfl rfl (by omega))) rfl ?_
              refine WQ.tail ?_
              refine WL.yd (Yd.orN (a := bitsI (fOf X l m) n) (b := 2 ^ n) (bits_32 (by omega)).1 (bits_32 (f := fOf X l m) (by omega)).2 rfl rfl) rfl ?_
              refine WL.yd (Yd.indexA Try.underlying100 Try.sizeOf3 rfl rfl (by omega) (by omega)) rfl ?_
              refine WL.so (SO.store 0 rfl Try.sizeOf3 rfl rfl rfl rfl (by show 0 + m * 1 + 1 ≤ 4; omega) (oneB_spec rfl)) rfl ?_
              rintro _ _ _ ⟨rfl, rfl, rfl⟩
              refine WL.nil ?_
              refine WP.blkNormal ?_
              refine WP.thenC ?_
              first
                | rw [show splice (setC X l X.tk.l.length m n) (0 + (m : Int).toNat * 1) [nt (Nat.lor (bitsI (fOf X l m) n) (2 ^ n))] = setC X l X.tk.l.length m (n + 1) from setC_step hm4 (by omega) hms]
                | rw [show setC X l X.tk.l.length m n = setC X l X.tk.l.length m (n + 1) from setC_skip (by first | exact miss_no1 g47 | exact miss_no2 g55 | exact miss_no3 g58 c66)]
              refine WC.ofFr [(4, _), (5, _), (6, _), (7, _), (8, _), (9, _), (12, _), (13, _), (14, _), (35, _), (36, _), (41, _), (42, _)] ⟨rfl, rfl, rfl, rfl, rfl, rfl, rfl, rfl, rfl, rfl, rfl, rfl, rfl, trivial⟩ ?_
              refine WC.region ?_
              refine WL.yd (Yd.add rfl rfl (wr64 ⟨by omega, by omega⟩)) rfl ?_
              refine WL.yd (Yd.move rfl) rfl ?_
              refine WL.nil ?_
              exact WP.again (n + 1) (by omega) (by omega) (fun a w h => at_fr h ⟨rfl, rfl, rfl, rfl, rfl, rfl, rfl, rfl, rfl, rfl, rfl, rfl, rfl, trivial⟩)
            · try simp only [zq1, zq2, zq3, zq4, zq5, zq6, zq7, zq8] at g58
              refine WL.ydg rfl (Yd.move rfl) rfl ?_
              refine WL.ydg rfl (Yd.loadN Try.isAgg82 Try.sizeOf82 rfl (vs := [_, _, _, _, _]) rfl (by first | exact RdN.own (k := 0) (n := 5) rfl rfl | exact RdN.own (k := 1) (n := 5) rfl rfl | exact RdN.own (k := 2) (n := 5) rfl rfl | exact (RdN.imm (n := 5) h8 rfl))) rfl ?_
              refine WL.ydg rfl (Yd.move rfl) rfl ?_
              refine WL.sog rfl (SO.call (span_enters hk3 rfl rfl) (fun w hI => spanF_g X a1 _ c1 _ _ hR hI.imm hbt hk3 (n : Int))) rfl ?_
              rintro _ _ _ ⟨rfl, rfl, rfl⟩
              refine WL.ydg rfl (Yd.field (cs := [it (spanOf X (n : Int) m).lo, it (spanOf X (n : Int) m).hi]) Try.underlying30 rfl Try.isAgg3 rfl rfl) rfl ?_
              refine WL.ydg rfl (Yd.gtr rfl rfl) rfl ?_
              refine WL.ydg rfl (Yd.pickF rfl rfl) rfl ?_
              refine WL.yd (Yd.pickT rfl rfl) rfl ?_
              refine WL.nil ?_
              refine WP.thenC ?_
              refine WC.cond rfl (fun c66 => ?_) (fun c66 => ?_)
              · try simp only [zq1, zq2, zq3, zq4, zq5, zq6, zq7, zq8] at c66
                have hms : fOf X l m n = true := by first | exact miss_yes hk3 g55 (.inl g58) | exact miss_yes hk3 g55 (.inr c66)
                refine WC.ofFr [(15, _), (4, _), (5, _), (6, _), (7, _), (8, _), (9, _), (12, _), (13, _), (14, _), (35, _), (36, _), (41, _), (42, _)] ⟨rfl, rfl, rfl, rfl, rfl, rfl, rfl, rfl, rfl, rfl, rfl, rfl, rfl, rfl, trivial⟩ ?_
                refine WC.tail 5 [0, 1, 2, 3, 4] rfl (by kernel_rfl) (by kernel_rfl)  ?_
                refine WQ.q rfl (Yd.qt (Yd.move rfl)) rfl ?_
                refine WQ.q rfl (Yd.qt (Yd.indexA Try.underlying100 Try.sizeOf3 rfl rfl (by omega) (by omega))) rfl ?_
                refine WQ.q rfl (Yd.qt (Yd.load1 Try.isAgg3 rfl (by first | exact Rd.own (k := 0) rfl rfl | exact Rd.own (k := 1) rfl rfl | exact Rd.own (k := 2) rfl rfl | exact (Rd.own (k := 0) rfl (setC_at hm4))))) rfl ?_
                refine WQ.q rfl (Yd.qt (Yd.move rfl)) rfl ?_
                refine WQ.q rfl (Yd.qt (Yd.shlN rfl rfl (by omega))) rfl ?_
                refine WQ.tail ?_
                refine WL.yd (Yd.orN (a := bitsI (fOf X l m) n) (b := 2 ^ n) (bits_32 (by omega)).1 (bits_32 (f := fOf X l m) (by omega)).2 rfl rfl) rfl ?_
                refine WL.yd (Yd.indexA Try.underlying100 Try.sizeOf3 rfl rfl (by omega) (by omega)) rfl ?_
                refine WL.so (SO.store 0 rfl Try.sizeOf3 rfl rfl rfl rfl (by show 0 + m * 1 + 1 ≤ 4; omega) (oneB_spec rfl)) rfl ?_
                rintro _ _ _ ⟨rfl, rfl, rfl⟩
                refine WL.nil ?_
                refine WP.blkNormal ?_
                refine WP.thenC ?_
                first
                  | rw [show splice (setC X l X.tk.l.length m n) (0 + (m : Int).toNat * 1) [nt (Nat.lor (bitsI (fOf X l m) n) (2 ^ n))] = setC X l X.tk.l.length m (n + 1) from setC_step hm4 (by omega) hms]
                  | rw [show setC X l X.tk.l.length m n = setC X l X.tk.l.length m (n + 1) from setC_skip (by first | exact miss_no1 g47 | exact miss_no2 g55 | exact miss_no3 g58 c66)]
                refine WC.ofFr [(4, _), (5, _), (6, _), (7, _), (8, _), (9, _), (12, _), (13, _), (14, _), (35, _), (36, _), (41, _), (42, _)] ⟨rfl, rfl, rfl, rfl, rfl, rfl, rfl, rfl, rfl, rfl, rfl, rfl, rfl, trivial⟩ ?_
                refine WC.region ?_
                refine WL.yd (Yd.add rfl rfl (wr64 ⟨by omega, by omega⟩)) rfl ?_
                refine WL.yd (Yd.move rfl) rfl ?_
                refine WL.nil ?_
                exact WP.again (n + 1) (by omega) (by omega) (fun a w h => at_fr h ⟨rfl, rfl, rfl, rfl, rfl, rfl, rfl, rfl, rfl, rfl, rfl, rfl, rfl, trivial⟩)
              · try simp only [zq1, zq2, zq3, zq4, zq5, zq6, zq7, zq8] at c66
                refine WC.skip ?_
                refine WP.blkNormal ?_
                refine WP.thenC ?_
                first
                  | rw [show splice (setC X l X.tk.l.length m n) (0 + (m : Int).toNat * 1) [nt (Nat.lor (bitsI (fOf X l m) n) (2 ^ n))] = setC X l X.tk.l.length m (n + 1) from setC_step hm4 (by omega) hms]
                  | rw [show setC X l X.tk.l.length m n = setC X l X.tk.l.length m (n + 1) from setC_skip (by first | exact miss_no1 g47 | exact miss_no2 g55 | exact miss_no3 g58 c66)]
                refine WC.ofFr [(4, _), (5, _), (6, _), (7, _), (8, _), (9, _), (12, _), (13, _), (14, _), (35, _), (36, _), (41, _), (42, _)] ⟨rfl, rfl, rfl, rfl, rfl, rfl, rfl, rfl, rfl, rfl, rfl, rfl, rfl, trivial⟩ ?_
                refine WC.region ?_
                refine WL.yd (Yd.add rfl rfl (wr64 ⟨by omega, by omega⟩)) rfl ?_
                refine WL.yd (Yd.move rfl) rfl ?_
                refine WL.nil ?_
                exact WP.again (n + 1) (by omega) (by omega) (fun a w h => at_fr h ⟨rfl, rfl, rfl, rfl, rfl, rfl, rfl, rfl, rfl, rfl, rfl, rfl, rfl, trivial⟩)
          · try simp only [zq1, zq2, zq3, zq4, zq5, zq6, zq7, zq8] at g55
            refine WL.skip rfl rfl ?_
            refine WL.skip rfl rfl ?_
            refine WL.skip rfl rfl ?_
            refine WL.skipU rfl rfl ?_
            refine WL.skipU rfl rfl ?_
            refine WL.skipU rfl rfl ?_
            refine WL.skipU rfl rfl ?_
            refine WL.skipU rfl rfl ?_
            refine WL.skipU rfl rfl ?_
            refine WL.skip rfl rfl ?_
            refine WL.yd (Yd.pickF rfl rfl) rfl ?_
            refine WL.nil ?_
            refine WP.thenC ?_
            refine WC.condF rfl ?_
            refine WC.skip ?_
            refine WP.blkNormal ?_
            refine WP.thenC ?_
            first
              | rw [show splice (setC X l X.tk.l.length m n) (0 + (m : Int).toNat * 1) [nt (Nat.lor (bitsI (fOf X l m) n) (2 ^ n))] = setC X l X.tk.l.length m (n + 1) from setC_step hm4 (by omega) hms]
              | rw [show setC X l X.tk.l.length m n = setC X l X.tk.l.length m (n + 1) from setC_skip (by first | exact miss_no1 g47 | exact miss_no2 g55 | exact miss_no3 g58 c66)]
            refine WC.ofFr [(4, _), (5, _), (6, _), (7, _), (8, _), (9, _), (12, _), (13, _), (14, _), (35, _), (36, _), (41, _), (42, _)] ⟨rfl, rfl, rfl, rfl, rfl, rfl, rfl, rfl, rfl, rfl, rfl, rfl, rfl, trivial⟩ ?_
            refine WC.region ?_
            refine WL.yd (Yd.add rfl rfl (wr64 ⟨by omega, by omega⟩)) rfl ?_
            refine WL.yd (Yd.move rfl) rfl ?_
            refine WL.nil ?_
            exact WP.again (n + 1) (by omega) (by omega) (fun a w h => at_fr h ⟨rfl, rfl, rfl, rfl, rfl, rfl, rfl, rfl, rfl, rfl, rfl, rfl, rfl, trivial⟩)
        · try simp only [zq1, zq2, zq3, zq4, zq5, zq6, zq7, zq8] at g47
          refine WL.skip rfl rfl ?_
          refine WL.skip rfl rfl ?_
          refine WL.skip rfl rfl ?_
          refine WL.skip rfl rfl ?_
          refine WL.skip rfl rfl ?_
          refine WL.skip rfl rfl ?_
          refine WL.yd (Yd.pickF rfl rfl) rfl ?_
          refine WL.yd (Yd.move rfl) rfl ?_
          refine WL.skip rfl rfl ?_
          refine WL.skip rfl rfl ?_
          refine WL.skip rfl rfl ?_
          refine WL.skipU rfl rfl ?_
          refine WL.skipU rfl rfl ?_
          refine WL.skipU rfl rfl ?_
          refine WL.skipU rfl rfl ?_
          refine WL.skipU rfl rfl ?_
          refine WL.skipU rfl rfl ?_
          refine WL.skip rfl rfl ?_
          refine WL.yd (Yd.pickF rfl rfl) rfl ?_
          refine WL.nil ?_
          refine WP.thenC ?_
          refine WC.condF rfl ?_
          refine WC.skip ?_
          refine WP.blkNormal ?_
          refine WP.thenC ?_
          first
            | rw [show splice (setC X l X.tk.l.length m n) (0 + (m : Int).toNat * 1) [nt (Nat.lor (bitsI (fOf X l m) n) (2 ^ n))] = setC X l X.tk.l.length m (n + 1) from setC_step hm4 (by omega) hms]
            | rw [show setC X l X.tk.l.length m n = setC X l X.tk.l.length m (n + 1) from setC_skip (by first | exact miss_no1 g47 | exact miss_no2 g55 | exact miss_no3 g58 c66)]
          refine WC.ofFr [(4, _), (5, _), (6, _), (7, _), (8, _), (9, _), (12, _), (13, _), (14, _), (35, _), (36, _), (41, _), (42, _)] ⟨rfl, rfl, rfl, rfl, rfl, rfl, rfl, rfl, rfl, rfl, rfl, rfl, rfl, trivial⟩ ?_
          refine WC.region ?_
          refine WL.yd (Yd.add rfl rfl (wr64 ⟨by omega, by omega⟩)) rfl ?_
          refine WL.yd (Yd.move rfl) rfl ?_
          refine WL.nil ?_
          exact WP.again (n + 1) (by omega) (by omega) (fun a w h => at_fr h ⟨rfl, rfl, rfl, rfl, rfl, rfl, rfl, rfl, rfl, rfl, rfl, rfl, rfl, trivial⟩)
      · try simp only [zq1, zq2, zq3, zq4, zq5, zq6, zq7, zq8] at c43
        refine WC.exit ?_
        refine WP.thenExit ?_
        refine WP.thenExit ?_
        refine WP.blkHit ?_
        refine WP.blkNormal ?_
        refine WP.thenC ?_
        obtain rfl : n = X.tk.l.length := by omega
        rw [setC_next hm4]
        refine WC.ofFr [(4, _), (5, _), (6, _), (7, _), (8, _), (9, _), (12, _), (35, _), (36, _)] ⟨rfl, rfl, rfl, rfl, rfl, rfl, rfl, rfl, rfl, trivial⟩ ?_
        refine WC.region ?_
        refine WL.yd (Yd.add rfl rfl (wr64 ⟨by omega, by omega⟩)) rfl ?_
        refine WL.yd (Yd.move rfl) rfl ?_
        refine WL.nil ?_
        exact WP.again (m + 1) (by omega) (by omega) (fun a w h => at_fr h ⟨rfl, rfl, rfl, rfl, rfl, rfl, rfl, rfl, rfl, trivial⟩)
    · try simp only [zq1, zq2, zq3, zq4, zq5, zq6, zq7, zq8] at c37
      refine WC.exit ?_
      refine WP.thenExit ?_
      refine WP.thenExit ?_
      refine WP.blkHit ?_
      refine WP.thenC ?_
      refine WC.seq ?_
      obtain rfl : m = 4 := by omega
      refine WC.freezeN 0 b12 (.cells (List.toArray (setC X l X.tk.l.length 4 0)) 100 (0, 0)) rfl rfl hb12 (fun D12 hX12 h12 => ?_)
      
      refine WC.ofFr [(4, _), (5, _), (6, _), (7, _), (12, _)] ⟨rfl, rfl, rfl, rfl, rfl, trivial⟩ ?_
      refine WC.drawH [] (by kernel_rfl) (fun _ hI => hI.drop 99) ?_
      refine WH.ydD (i := 0) (by kernel_rfl) (QuietAt.then (QuietAt.bodyD (by kernel_rfl))) rfl (Yd.indexA Try.underlying100 Try.sizeOf3 rfl rfl (by omega) (by omega)) rfl ?_
      refine WH.ydD (i := 1) (by kernel_rfl) (QuietAt.then (QuietAt.bodyD (by kernel_rfl))) rfl (Yd.load1 Try.isAgg3 rfl (by first | exact Rd.own (k := 0) rfl rfl | exact Rd.own (k := 1) rfl rfl | exact (Rd.imm h12 rfl))) rfl ?_
      refine WH.ydD (i := 2) (by kernel_rfl) (QuietAt.then (QuietAt.bodyD (by kernel_rfl))) rfl (Yd.indexA Try.underlying100 Try.sizeOf3 rfl rfl (by omega) (by omega)) rfl ?_
      refine WH.ydD (i := 3) (by kernel_rfl) (QuietAt.then (QuietAt.bodyD (by kernel_rfl))) rfl (Yd.load1 Try.isAgg3 rfl (by first | exact Rd.own (k := 0) rfl rfl | exact Rd.own (k := 1) rfl rfl | exact (Rd.imm h12 rfl))) rfl ?_
      refine WH.ydD (i := 4) (by kernel_rfl) (QuietAt.then (QuietAt.bodyD (by kernel_rfl))) rfl (Yd.indexA Try.underlying100 Try.sizeOf3 rfl rfl (by omega) (by omega)) rfl ?_
      refine WH.ydD (i := 5) (by kernel_rfl) (QuietAt.then (QuietAt.bodyD (by kernel_rfl))) rfl (Yd.load1 Try.isAgg3 rfl (by first | exact Rd.own (k := 0) rfl rfl | exact Rd.own (k := 1) rfl rfl | exact (Rd.imm h12 rfl))) rfl ?_
      refine WH.one (i := 6) (by kernel_rfl) (WHo.yd rfl (Yd.assign rfl) rfl ?_)
      refine WH.one (i := 7) (by kernel_rfl) (WHo.yd rfl (Yd.assign rfl) rfl ?_)
      refine WH.one (i := 8) (by kernel_rfl) (WHo.yd rfl (Yd.assign rfl) rfl ?_)
      refine WH.one (i := 9) (by kernel_rfl) (WHo.so rfl (SO.store 1 rfl Try.sizeOf24 rfl rfl rfl rfl (Nat.le_of_ble_eq_true rfl) (oneB_spec rfl)) rfl ?_)
      rintro _ _ _ ⟨rfl, rfl, rfl⟩
      refine ⟨(fun _ hI => hI.drop 99), ?_⟩
      refine WH.nil (by kernel_rfl) ?_
      refine WP.thenC ?_
      refine WC.ret ?_
      refine WP.endD [_, _, _, _] [_, _, _, _] rfl rfl Try.call59 (fun w hI => idle59 _ _) Try.results25 ⟨(RV.tmp rfl), (RV.tmp rfl), (RV.tmp rfl), (RV.cell1 Try.isAgg24 rfl (by first | exact Rd.own (k := 0) rfl rfl | exact Rd.own (k := 1) rfl rfl | exact (Rd.imm h12 rfl))), trivial⟩ (fun w hI => ⟨congrArg Ending.returned (by rw [hO0]; rfl), hI.keep⟩)

theorem Missing_g (X : Till) (a1 : Option Addr) (n1 c1 : Nat) (D : Imm) (w : World) (hR : TksR D X.tk a1 n1) (hH : Holds D w) (l : List Ent) (ab : Option Addr) (nb cb : Nat) (hB : BookR D l ab nb) : Gives Try.prog 25 [.agg #[it X.tk.huts, .slice a1 n1 c1, it X.price, it X.fine, it X.wait], .slice ab nb cb] w (.tuple #[it (MissOut X l).1, it (MissOut X l).2.1, it (MissOut X l).2.2.1, it (MissOut X l).2.2.2]) := by
  by_cases hE : tillE X l true = 0
  · by_cases hW : tksE X.tk true = 0
    · exact Missing_ok X a1 n1 c1 D w hR hH l ab nb cb hB hE hW
    · exact Missing_e2 X a1 n1 c1 D w hR hH l ab nb cb hB hE hW
  · exact Missing_e1 X a1 n1 c1 D w hR hH l ab nb cb hB hE

end Go.Proofs.Ytpnbkdlejfmbeaa
