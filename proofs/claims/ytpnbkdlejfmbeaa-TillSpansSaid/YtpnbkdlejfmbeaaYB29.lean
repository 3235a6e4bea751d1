import Derived.Test.YtpnbkdlejfmbeaaXO
set_option linter.unusedSimpArgs false
set_option linter.unusedVariables false
set_option linter.all false
namespace Go.Proofs.Ytpnbkdlejfmbeaa
open Go.W Go.Ti

theorem takE {X : Till} : (tillB X = false → TakingsOut X = (0, 1)) ∧ (tillB X = true → TakingsOut X = (X.price * X.tk.l.length, 0)) := by
  unfold TakingsOut
  constructor
  · intro h; rw [if_pos h]
  · intro h; rw [if_neg (by rw [h]; simp)]
theorem tillE_nil {X : Till} (h : tillB X = true) (is : Bool) : tillE X [] is = if is then 0 else 2 := by
  cases is with
  | false => rw [tillE_2 h (by simp) rfl]; rfl
  | true => rw [tillE_0 h (by simp) rfl (by intro k hk; simp at hk)]; rfl
theorem finesE_1 {X : Till} (h : tillB X = false) : FinesOut X = (⟨0, 0⟩, 1) := by
  have h1 : tillE X [] true = 1 := tillE_1 h
  unfold FinesOut; rw [toldE_1 (by rw [h1]; decide), h1]; rfl
theorem told_nil {X : Till} (h : tillB X = true) : toldE X [] = tksE X.tk true := toldE_2 (tillE_nil h true)
theorem finesE_2 {X : Till} (h : tillB X = true) (hW : tksE X.tk true ≠ 0) : FinesOut X = (⟨0, 0⟩, tksE X.tk true) := by
  unfold FinesOut; rw [told_nil h, if_pos hW]
theorem finesE_0 {X : Till} (h : tillB X = true) (hW : tksE X.tk true = 0) : FinesOut X = (⟨(WrongOut X.tk).1.lo * X.fine, (WrongOut X.tk).1.hi * X.fine⟩, 0) := by
  unfold FinesOut; rw [told_nil h, if_neg (by rw [hW]; simp)]
theorem tks_e10 {T : Tks} (hv : tksB T = true) : tksE T true = 0 ∨ tksE T true = 10 := by
  unfold tksE; rw [if_neg (by rw [hv]; simp), if_neg (by simp)]
  split
  · exact .inr rfl
  · exact .inl rfl
theorem spanE_is {X : Till} (h : tillB X = true) {n : Int} : (isT X.tk n = false → spanE X n = 2) ∧ (isT X.tk n = true → spanE X n = tksE X.tk true) := by
  unfold spanE
  rw [tillE_nil h]
  constructor
  · intro hn; rw [hn]; rfl
  · intro hn; rw [hn]; rfl
theorem fineE {X : Till} {n : Int} : (spanE X n ≠ 0 → FineOut X n = (⟨0, 0⟩, spanE X n)) ∧ (spanE X n = 0 → FineOut X n = (fineSp X n, 0)) := by
  unfold FineOut
  constructor
  · intro h; rw [if_pos h]
  · intro h; rw [if_neg (by rw [h]; simp)]
theorem backE {X : Till} {n : Int} : (spanE X n ≠ 0 → BackOut X n = (⟨0, 0⟩, spanE X n)) ∧ (spanE X n = 0 → BackOut X n = (backSp X n, 0)) := by
  unfold BackOut
  constructor
  · intro h; rw [if_pos h]
  · intro h; rw [if_neg (by rw [h]; simp)]
theorem tks_is {T : Tks} {n : Int} (hn : isT T n = true) : tksE T (isT T n) = tksE T true := by rw [hn]
theorem turn_e {T : Tks} {n : Int} (hn : isT T n = true) (hW : tksE T true = 0) : (TurnOut T n).2 = 0 := by
  unfold TurnOut; rw [tks_is hn, if_neg (by rw [hW]; simp)]
theorem minutes_e {T : Tks} {n : Int} (hn : isT T n = true) (hW : tksE T true = 0) : (MinutesOut T n).2.2 = 0 := by
  unfold MinutesOut; rw [tks_is hn, if_neg (by rw [hW]; simp)]
theorem mod_is {T : Tks} (h : 0 < T.l.length) (m : Nat) : isT T ((m : Int) % (T.l.length : Int)) = true := by
  have h1 := Int.emod_nonneg (m : Int) (show (T.l.length : Int) ≠ 0 by omega)
  have h2 := Int.emod_lt_of_pos (m : Int) (show 0 < (T.l.length : Int) by omega)
  exact decide_eq_true (by omega)

set_option maxRecDepth 100000 in
set_option maxHeartbeats 1000000 in
theorem spans_a (X : Till) (a1 : Option Addr) (n1 c1 : Nat) (D : Imm) (w : World) (hS : SlL D 5 (X.tk.l.map tickC) a1 n1) (hH : Holds D w) (m : Nat) (hm : m < 256) (hlo : 60 < n1) : Gives Try.prog 6 [.agg #[it X.tk.huts, .slice a1 n1 c1, it X.price, it X.fine, it X.wait], .int .u8 m] w (.bool true) := by
  unfold Gives
  refine enter Try.func6 rfl 226 Try.ntmps6 (Nat.le_of_ble_eq_true rfl) (Inv.start hH) ?_
  refine WC.seq ?_
  refine WC.ofFr [(0, _), (1, _)] ⟨rfl, rfl, trivial⟩ ?_
  refine WC.region ?_
  refine WL.so (SO.box rfl rfl) rfl ?_
  rintro _ _ _ ⟨b2, hb2, rfl, rfl, rfl⟩ -- NEW
  refine WL.yd (Yd.assign rfl) rfl ?_
  refine WL.nil ?_
  refine WP.thenC ?_
  refine WC.seq ?_
  refine WC.seq ?_
  refine WC.ofFr [(4, _), (2, _), (1, _)] ⟨rfl, rfl, rfl, trivial⟩ ?_
  refine WC.region ?_
  refine WL.yd (Yd.loadN Try.isAgg37 Try.sizeOf37 rfl (vs := [_, _, _, _, _]) rfl (by first | exact RdN.own (k := 0) (n := 5) rfl rfl)) rfl ?_
  refine WL.so (SO.callP Try.call26 rfl (fun w hI => long_g X a1 none n1 c1 0 0 _)) rfl ?_
  rintro _ _ _ ⟨rfl, rfl, rfl⟩
  refine WL.know 30 (.bool true) rfl (congrArg Value.bool (decide_eq_true (by omega))) ?_
  refine WL.nil ?_
  refine WP.thenC ?_
  refine WC.condT rfl ?_
  refine WC.seq ?_
  refine WC.ofFr [(4, _), (2, _), (1, _)] ⟨rfl, rfl, rfl, trivial⟩ ?_
  refine WC.region ?_
  refine WL.so (SO.callP Try.call8 rfl (fun w hI => alive_g _ _ hI.imm)) rfl ?_
  rintro _ _ _ ⟨rfl, rfl, rfl⟩
  refine WL.yd (Yd.assign rfl) rfl ?_
  refine WL.nil ?_
  refine WP.thenC ?_
  refine WC.ret ?_
  refine WP.thenRet ?_
  refine WP.ret1 rfl rfl Try.results6 (RV.tmp rfl) (fun w hI => ⟨rfl, hI.keep⟩)

set_option maxRecDepth 100000 in
set_option maxHeartbeats 1000000 in
theorem spans_b (X : Till) (a1 : Option Addr) (n1 c1 : Nat) (D : Imm) (w : World) (hS : SlL D 5 (X.tk.l.map tickC) a1 n1) (hH : Holds D w) (m : Nat) (hm : m < 256) (hlo : n1 ≤ 60) (hb : tillB X = false) : Gives Try.prog 6 [.agg #[it X.tk.huts, .slice a1 n1 c1, it X.price, it X.fine, it X.wait], .int .u8 m] w (.bool true) := by
  unfold Gives
  have hR : TksR D X.tk a1 n1 := ⟨hS, by omega⟩
  obtain rfl := hR.tick.len'
  have hl1 := hR.len
  refine enter Try.func6 rfl 226 Try.ntmps6 (Nat.le_of_ble_eq_true rfl) (Inv.start hH) ?_
  refine WC.seq ?_
  refine WC.ofFr [(0, _), (1, _)] ⟨rfl, rfl, trivial⟩ ?_
  refine WC.region ?_
  refine WL.so (SO.box rfl rfl) rfl ?_
  rintro _ _ _ ⟨b2, hb2, rfl, rfl, rfl⟩ -- NEW
  refine WL.yd (Yd.assign rfl) rfl ?_
  refine WL.nil ?_
  refine WP.thenC ?_
  refine WC.seq ?_
  refine WC.seq ?_
  refine WC.ofFr [(4, _), (2, _), (1, _)] ⟨rfl, rfl, rfl, trivial⟩ ?_
  refine WC.region ?_
  refine WL.yd (Yd.loadN Try.isAgg37 Try.sizeOf37 rfl (vs := [_, _, _, _, _]) rfl (by first | exact RdN.own (k := 0) (n := 5) rfl rfl)) rfl ?_
  refine WL.so (SO.callP Try.call26 rfl (fun w hI => long_g X a1 none _ c1 0 0 _)) rfl ?_
  rintro _ _ _ ⟨rfl, rfl, rfl⟩
  refine WL.know 30 (.bool false) rfl (congrArg Value.bool (decide_eq_false (by omega))) ?_
  refine WL.nil ?_
  refine WP.thenC ?_
  refine WC.condF rfl ?_
  refine WC.skip ?_
  refine WP.thenC ?_
  refine WC.seq ?_
  refine WC.ofFr [(4, _), (2, _), (1, _)] ⟨rfl, rfl, rfl, trivial⟩ ?_
  refine WC.region ?_
  refine WL.yd (Yd.loadN Try.isAgg37 Try.sizeOf37 rfl (vs := [_, _, _, _, _]) rfl (by first | exact RdN.own (k := 0) (n := 5) rfl rfl)) rfl ?_
  refine WL.so (SO.callP Try.call20 rfl (fun w hI => Gives.cv (.tuple #[it 0, it 1]) (Takings_g X a1 _ c1 _ _ hR hI.imm) (by rw [takE.1 hb]; first | done | rfl))) rfl ?_
  rintro _ _ _ ⟨rfl, rfl, rfl⟩
  refine WL.yd (Yd.move rfl) rfl ?_
  refine WL.yd (Yd.extract rfl rfl) rfl ?_
  refine WL.yd (Yd.extract rfl rfl) rfl ?_
  refine WL.yd (Yd.assign rfl) rfl ?_
  refine WL.yd (Yd.assign rfl) rfl ?_
  refine WL.nil ?_
  refine WP.thenC ?_
  refine WC.seq ?_
  refine WC.ofFr [(6, _), (5, _), (4, _), (2, _), (1, _)] ⟨rfl, rfl, rfl, rfl, rfl, trivial⟩ ?_
  refine WC.region ?_
  refine WL.yd (Yd.loadN Try.isAgg37 Try.sizeOf37 rfl (vs := [_, _, _, _, _]) rfl (by first | exact RdN.own (k := 0) (n := 5) rfl rfl)) rfl ?_
  refine WL.so (SO.callP Try.call19 rfl (fun w hI => Gives.cv (.tuple #[spV ⟨0, 0⟩, it 1]) (Fines_g X a1 _ c1 _ _ hR hI.imm) (by rw [finesE_1 hb]; first | done | rfl))) rfl ?_
  rintro _ _ _ ⟨rfl, rfl, rfl⟩
  refine WL.yd (Yd.move rfl) rfl ?_
  refine WL.yd (Yd.extract rfl rfl) rfl ?_
  refine WL.yd (Yd.extract rfl rfl) rfl ?_
  refine WL.so (SO.alloc Try.zeroValue30 rfl) rfl ?_
  rintro _ _ _ ⟨b7, hb7, rfl, rfl, rfl⟩ -- NEW
  refine WL.so (SO.store 0 rfl Try.sizeOf30 rfl rfl rfl rfl (Nat.le_of_ble_eq_true rfl) (oneB_spec rfl)) rfl ?_
  rintro _ _ _ ⟨rfl, rfl, rfl⟩
  refine WL.yd (Yd.assign rfl) rfl ?_
  refine WL.nil ?_
  refine WP.thenC ?_
  refine WC.seq ?_
  refine WC.seq ?_
  refine WC.ofFr [(8, _), (7, _), (6, _), (5, _), (4, _), (2, _), (1, _)] ⟨rfl, rfl, rfl, rfl, rfl, rfl, rfl, trivial⟩ ?_
  refine WC.region ?_
  refine WL.yd (Yd.loadN Try.isAgg37 Try.sizeOf37 rfl (vs := [_, _, _, _, _]) rfl (by first | exact RdN.own (k := 0) (n := 5) rfl rfl | exact RdN.own (k := 1) (n := 5) rfl rfl)) rfl ?_
  refine WL.so (SO.callP Try.call27 rfl (fun w hI => till13_g X a1 _ c1 _ _ hR hI.imm)) rfl ?_
  rintro _ _ _ ⟨rfl, rfl, rfl⟩
  refine WL.know 43 (.bool false) rfl (congrArg Value.bool hb) ?_
  refine WL.yd (Yd.not rfl) rfl ?_
  refine WL.nil ?_
  refine WP.thenC ?_
  refine WC.condT rfl ?_
  refine WC.seq ?_
  refine WC.ofFr [(8, _), (7, _), (6, _), (5, _), (4, _), (2, _), (1, _)] ⟨rfl, rfl, rfl, rfl, rfl, rfl, rfl, trivial⟩ ?_
  refine WC.region ?_
  refine WL.yd (Yd.move rfl) rfl ?_
  refine WL.yd (Yd.eql rfl rfl) rfl ?_
  refine WL.know 46 (.bool true) rfl (congrArg Value.bool (by decide)) ?_
  refine WL.yd (Yd.move rfl) rfl ?_
  refine WL.ydg rfl (Yd.move rfl) rfl ?_
  refine WL.ydg rfl (Yd.move rfl) rfl ?_
  refine WL.ydg rfl (Yd.eql rfl rfl) rfl ?_
  refine WL.know 50 (.bool true) rfl (congrArg Value.bool (by decide)) ?_
  refine WL.yd (Yd.pickT rfl rfl) rfl ?_
  refine WL.yd (Yd.move rfl) rfl ?_
  refine WL.ydg rfl (Yd.move rfl) rfl ?_
  refine WL.ydg rfl (Yd.eql rfl rfl) rfl ?_
  refine WL.know 54 (.bool true) rfl (congrArg Value.bool (by decide)) ?_
  refine WL.yd (Yd.pickT rfl rfl) rfl ?_
  refine WL.yd (Yd.move rfl) rfl ?_
  refine WL.ydg rfl (Yd.loadN Try.isAgg30 Try.sizeOf30 rfl (vs := [_, _]) rfl (by first | exact RdN.own (k := 0) (n := 2) rfl rfl | exact RdN.own (k := 1) (n := 2) rfl rfl)) rfl ?_
  refine WL.ydg rfl (Yd.build SA30 rfl (cs := [_, _]) rfl) rfl ?_
  refine WL.ydg rfl (Yd.eqS Try.eqGuardType30 (eqSp _ _ _ _) rfl rfl) rfl ?_
  refine WL.know 59 (.bool true) rfl (congrArg Value.bool (decide_eq_true rfl)) ?_
  refine WL.yd (Yd.pickT rfl rfl) rfl ?_
  refine WL.yd (Yd.move rfl) rfl ?_
  refine WL.sog rfl (SO.callP Try.call8 rfl (fun w hI => alive_g _ _ hI.imm)) rfl ?_
  rintro _ _ _ ⟨rfl, rfl, rfl⟩
  refine WL.know 62 (.bool true) rfl rfl ?_
  refine WL.yd (Yd.pickT rfl rfl) rfl ?_
  refine WL.yd (Yd.assign rfl) rfl ?_
  refine WL.nil ?_
  refine WP.thenC ?_
  refine WC.ret ?_
  refine WP.thenRet ?_
  refine WP.ret1 rfl rfl Try.results6 (RV.tmp rfl) (fun w hI => ⟨rfl, hI.keep⟩)

set_option maxRecDepth 100000 in
set_option maxHeartbeats 1000000 in
theorem spans_c (X : Till) (a1 : Option Addr) (n1 c1 : Nat) (D : Imm) (w : World) (hS : SlL D 5 (X.tk.l.map tickC) a1 n1) (hH : Holds D w) (m : Nat) (hm : m < 256) (hlo : n1 ≤ 60) (hb : tillB X = true) (hW : tksE X.tk true = 10) : Gives Try.prog 6 [.agg #[it X.tk.huts, .slice a1 n1 c1, it X.price, it X.fine, it X.wait], .int .u8 m] w (.bool true) := by
  unfold Gives
  have hR : TksR D X.tk a1 n1 := ⟨hS, by omega⟩
  obtain rfl := hR.tick.len'
  have hl1 := hR.len
  have hnum := tillB_num hb
  have h5 := (tks_num hnum.1).2.1
  have hpm : 0 ≤ (X.tk.l.length : Int) * X.price ∧ (X.tk.l.length : Int) * X.price ≤ 2400 := by rw [Int.mul_comm]; exact mul_100 hnum.2.1 (by omega)
  refine enter Try.func6 rfl 226 Try.ntmps6 (Nat.le_of_ble_eq_true rfl) (Inv.start hH) ?_
  refine WC.seq ?_
  refine WC.ofFr [(0, _), (1, _)] ⟨rfl, rfl, trivial⟩ ?_
  refine WC.region ?_
  refine WL.so (SO.box rfl rfl) rfl ?_
  rintro _ _ _ ⟨b2, hb2, rfl, rfl, rfl⟩ -- NEW
  refine WL.yd (Yd.assign rfl) rfl ?_
  refine WL.nil ?_
  refine WP.thenC ?_
  refine WC.seq ?_
  refine WC.seq ?_
  refine WC.ofFr [(4, _), (2, _), (1, _)] ⟨rfl, rfl, rfl, trivial⟩ ?_
  refine WC.region ?_
  refine WL.yd (Yd.loadN Try.isAgg37 Try.sizeOf37 rfl (vs := [_, _, _, _, _]) rfl (by first | exact RdN.own (k := 0) (n := 5) rfl rfl)) rfl ?_
  refine WL.so (SO.callP Try.call26 rfl (fun w hI => long_g X a1 none _ c1 0 0 _)) rfl ?_
  rintro _ _ _ ⟨rfl, rfl, rfl⟩
  refine WL.know 30 (.bool false) rfl (congrArg Value.bool (decide_eq_false (by omega))) ?_
  refine WL.nil ?_
  refine WP.thenC ?_
  refine WC.condF rfl ?_
  refine WC.skip ?_
  refine WP.thenC ?_
  refine WC.seq ?_
  refine WC.ofFr [(4, _), (2, _), (1, _)] ⟨rfl, rfl, rfl, trivial⟩ ?_
  refine WC.region ?_
  refine WL.yd (Yd.loadN Try.isAgg37 Try.sizeOf37 rfl (vs := [_, _, _, _, _]) rfl (by first | exact RdN.own (k := 0) (n := 5) rfl rfl)) rfl ?_
  refine WL.so (SO.callP Try.call20 rfl (fun w hI => Gives.cv (.tuple #[it (X.price * X.tk.l.length), it 0]) (Takings_g X a1 _ c1 _ _ hR hI.imm) (by rw [takE.2 hb]; first | done | rfl))) rfl ?_
  rintro _ _ _ ⟨rfl, rfl, rfl⟩
  refine WL.yd (Yd.move rfl) rfl ?_
  refine WL.yd (Yd.extract rfl rfl) rfl ?_
  refine WL.yd (Yd.extract rfl rfl) rfl ?_
  refine WL.yd (Yd.assign rfl) rfl ?_
  refine WL.yd (Yd.assign rfl) rfl ?_
  refine WL.nil ?_
  refine WP.thenC ?_
  refine WC.seq ?_
  refine WC.ofFr [(6, _), (5, _), (4, _), (2, _), (1, _)] ⟨rfl, rfl, rfl, rfl, rfl, trivial⟩ ?_
  refine WC.region ?_
  refine WL.yd (Yd.loadN Try.isAgg37 Try.sizeOf37 rfl (vs := [_, _, _, _, _]) rfl (by first | exact RdN.own (k := 0) (n := 5) rfl rfl)) rfl ?_
  refine WL.so (SO.callP Try.call19 rfl (fun w hI => Gives.cv (.tuple #[spV ⟨0, 0⟩, it 10]) (Fines_g X a1 _ c1 _ _ hR hI.imm) (by rw [finesE_2 hb (by rw [hW]; decide), hW]; first | done | rfl))) rfl ?_
  rintro _ _ _ ⟨rfl, rfl, rfl⟩
  refine WL.yd (Yd.move rfl) rfl ?_
  refine WL.yd (Yd.extract rfl rfl) rfl ?_
  refine WL.yd (Yd.extract rfl rfl) rfl ?_
  refine WL.so (SO.alloc Try.zeroValue30 rfl) rfl ?_
  rintro _ _ _ ⟨b7, hb7, rfl, rfl, rfl⟩ -- NEW
  refine WL.so (SO.store 0 rfl Try.sizeOf30 rfl rfl rfl rfl (Nat.le_of_ble_eq_true rfl) (oneB_spec rfl)) rfl ?_
  rintro _ _ _ ⟨rfl, rfl, rfl⟩
  refine WL.yd (Yd.assign rfl) rfl ?_
  refine WL.nil ?_
  refine WP.thenC ?_
  refine WC.seq ?_
  refine WC.seq ?_
  refine WC.ofFr [(8, _), (7, _), (6, _), (5, _), (4, _), (2, _), (1, _)] ⟨rfl, rfl, rfl, rfl, rfl, rfl, rfl, trivial⟩ ?_
  refine WC.region ?_
  refine WL.yd (Yd.loadN Try.isAgg37 Try.sizeOf37 rfl (vs := [_, _, _, _, _]) rfl (by first | exact RdN.own (k := 0) (n := 5) rfl rfl | exact RdN.own (k := 1) (n := 5) rfl rfl)) rfl ?_
  refine WL.so (SO.callP Try.call27 rfl (fun w hI => till13_g X a1 _ c1 _ _ hR hI.imm)) rfl ?_
  rintro _ _ _ ⟨rfl, rfl, rfl⟩
  refine WL.know 43 (.bool true) rfl (congrArg Value.bool hb) ?_
  refine WL.yd (Yd.not rfl) rfl ?_
  refine WL.nil ?_
  refine WP.thenC ?_
  refine WC.condF rfl ?_
  refine WC.skip ?_
  refine WP.thenC ?_
  refine WC.seq ?_
  refine WC.ofFr [(8, _), (7, _), (6, _), (5, _), (4, _), (2, _), (1, _)] ⟨rfl, rfl, rfl, rfl, rfl, rfl, rfl, trivial⟩ ?_
  refine WC.region ?_
  refine WL.yd (Yd.fieldAddr FA37_0 rfl) rfl ?_
  refine WL.yd (Yd.fieldAddr FA35_1 rfl) rfl ?_
  refine WL.yd (Yd.load1 Try.isAgg33 rfl (by first | exact Rd.own (k := 0) rfl rfl | exact Rd.own (k := 1) rfl rfl)) rfl ?_
  refine WL.yd (Yd.lenS rfl Try.underlying33 rfl) rfl ?_
  refine WL.yd (Yd.assign rfl) rfl ?_
  refine WL.nil ?_
  refine WP.thenC ?_
  refine WC.seq ?_
  refine WC.ofFr [(9, _), (8, _), (7, _), (6, _), (5, _), (4, _), (2, _), (1, _)] ⟨rfl, rfl, rfl, rfl, rfl, rfl, rfl, rfl, trivial⟩ ?_
  refine WC.region ?_
  refine WL.yd (Yd.fieldAddr FA37_0 rfl) rfl ?_
  refine WL.yd (Yd.loadN Try.isAgg35 Try.sizeOf35 rfl (vs := [_, _]) rfl (by first | exact RdN.own (k := 0) (n := 2) rfl rfl | exact RdN.own (k := 1) (n := 2) rfl rfl)) rfl ?_
  refine WL.so (SO.callP Try.call28 rfl (fun w hI => Gives.cv (.tuple #[spV (WrongOut X.tk).1, it 10]) (Wrong_g X.tk a1 _ c1 _ _ hR hI.imm) (by rw [Wrong_e, hW]))) rfl ?_
  rintro _ _ _ ⟨rfl, rfl, rfl⟩
  refine WL.yd (Yd.move rfl) rfl ?_
  refine WL.yd (Yd.extract rfl rfl) rfl ?_
  refine WL.yd (Yd.extract rfl rfl) rfl ?_
  refine WL.so (SO.alloc Try.zeroValue30 rfl) rfl ?_
  rintro _ _ _ ⟨b10, hb10, rfl, rfl, rfl⟩ -- NEW
  refine WL.so (SO.store 0 rfl Try.sizeOf30 rfl rfl rfl rfl (Nat.le_of_ble_eq_true rfl) (oneB_spec rfl)) rfl ?_
  rintro _ _ _ ⟨rfl, rfl, rfl⟩
  refine WL.yd (Yd.assign rfl) rfl ?_
  refine WL.nil ?_
  refine WP.thenC ?_
  refine WC.seq ?_
  refine WC.ofFr [(11, _), (10, _), (9, _), (8, _), (7, _), (6, _), (5, _), (4, _), (2, _), (1, _)] ⟨rfl, rfl, rfl, rfl, rfl, rfl, rfl, rfl, rfl, rfl, trivial⟩ ?_
  refine WC.region ?_
  refine WL.yd (Yd.loadN Try.isAgg37 Try.sizeOf37 rfl (vs := [_, _, _, _, _]) rfl (by first | exact RdN.own (k := 0) (n := 5) rfl rfl | exact RdN.own (k := 1) (n := 5) rfl rfl | exact RdN.own (k := 2) (n := 5) rfl rfl)) rfl ?_
  refine WL.yd (Yd.move rfl) rfl ?_
  refine WL.so (SO.callP Try.call12 rfl (fun w hI => Gives.cv (.tuple #[spV ⟨0, 0⟩, it 2]) (Fine_g X a1 _ c1 _ _ hR hI.imm (X.tk.l.length : Int)) (by rw [fineE.1 (by rw [(spanE_is hb).1 (decide_eq_false (by omega))]; decide), (spanE_is hb).1 (decide_eq_false (by omega))]))) rfl ?_
  rintro _ _ _ ⟨rfl, rfl, rfl⟩
  refine WL.yd (Yd.move rfl) rfl ?_
  refine WL.yd (Yd.extract rfl rfl) rfl ?_
  refine WL.yd (Yd.extract rfl rfl) rfl ?_
  refine WL.so (SO.alloc Try.zeroValue30 rfl) rfl ?_
  rintro _ _ _ ⟨b12, hb12, rfl, rfl, rfl⟩ -- NEW
  refine WL.so (SO.store 0 rfl Try.sizeOf30 rfl rfl rfl rfl (Nat.le_of_ble_eq_true rfl) (oneB_spec rfl)) rfl ?_
  rintro _ _ _ ⟨rfl, rfl, rfl⟩
  refine WL.yd (Yd.assign rfl) rfl ?_
  refine WL.nil ?_
  refine WP.thenC ?_
  refine WC.seq ?_
  refine WC.ofFr [(13, _), (11, _), (10, _), (9, _), (8, _), (7, _), (6, _), (5, _), (4, _), (2, _), (1, _)] ⟨rfl, rfl, rfl, rfl, rfl, rfl, rfl, rfl, rfl, rfl, rfl, trivial⟩ ?_
  refine WC.region ?_
  refine WL.yd (Yd.loadN Try.isAgg37 Try.sizeOf37 rfl (vs := [_, _, _, _, _]) rfl (by first | exact RdN.own (k := 0) (n := 5) rfl rfl | exact RdN.own (k := 1) (n := 5) rfl rfl | exact RdN.own (k := 2) (n := 5) rfl rfl | exact RdN.own (k := 3) (n := 5) rfl rfl)) rfl ?_
  refine WL.so (SO.callP Try.call14 rfl (fun w hI => Gives.cv (.tuple #[spV ⟨0, 0⟩, it 2]) (Back_g X a1 _ c1 _ _ hR hI.imm (-1)) (by rw [backE.1 (by rw [(spanE_is hb).1 (decide_eq_false (by omega))]; decide), (spanE_is hb).1 (decide_eq_false (by omega))]))) rfl ?_
  rintro _ _ _ ⟨rfl, rfl, rfl⟩
  refine WL.yd (Yd.move rfl) rfl ?_
  refine WL.yd (Yd.extract rfl rfl) rfl ?_
  refine WL.yd (Yd.extract rfl rfl) rfl ?_
  refine WL.so (SO.alloc Try.zeroValue30 rfl) rfl ?_
  rintro _ _ _ ⟨b14, hb14, rfl, rfl, rfl⟩ -- NEW
  refine WL.so (SO.store 0 rfl Try.sizeOf30 rfl rfl rfl rfl (Nat.le_of_ble_eq_true rfl) (oneB_spec rfl)) rfl ?_
  rintro _ _ _ ⟨rfl, rfl, rfl⟩
  refine WL.yd (Yd.assign rfl) rfl ?_
  refine WL.nil ?_
  refine WP.thenC ?_
  refine WC.seq ?_
  refine WC.seq ?_
  refine WC.ofFr [(15, _), (13, _), (11, _), (10, _), (9, _), (8, _), (7, _), (6, _), (5, _), (4, _), (2, _), (1, _)] ⟨rfl, rfl, rfl, rfl, rfl, rfl, rfl, rfl, rfl, rfl, rfl, rfl, trivial⟩ ?_
  refine WC.region ?_
  refine WL.yd (Yd.move rfl) rfl ?_
  refine WL.yd (Yd.neq rfl rfl) rfl ?_
  refine WL.know 86 (.bool false) rfl (congrArg Value.bool (by decide)) ?_
  refine WL.yd (Yd.move rfl) rfl ?_
  refine WL.ydg rfl (Yd.move rfl) rfl ?_
  refine WL.ydg rfl (Yd.move rfl) rfl ?_
  refine WL.ydg rfl (Yd.fieldAddr FA37_1 rfl) rfl ?_
  refine WL.ydg rfl (Yd.load1 Try.isAgg3 rfl (by first | exact Rd.own (k := 0) rfl rfl | exact Rd.own (k := 1) rfl rfl | exact Rd.own (k := 2) rfl rfl | exact Rd.own (k := 3) rfl rfl | exact Rd.own (k := 4) rfl rfl)) rfl ?_
  refine WL.know 91 (it X.price) rfl rfl ?_
  refine WL.ydg rfl (Yd.mul rfl rfl (wr64 ⟨by omega, by omega⟩)) rfl ?_
  refine WL.ydg rfl (Yd.neq rfl rfl) rfl ?_
  refine WL.know 93 (.bool false) rfl (congrArg Value.bool (decide_eq_false (fun h => h (Int.mul_comm _ _)))) ?_
  refine WL.yd (Yd.pickF rfl rfl) rfl ?_
  refine WL.yd (Yd.move rfl) rfl ?_
  refine WL.ydg rfl (Yd.move rfl) rfl ?_
  refine WL.ydg rfl (Yd.move rfl) rfl ?_
  refine WL.ydg rfl (Yd.neq rfl rfl) rfl ?_
  refine WL.know 98 (.bool false) rfl (congrArg Value.bool (by simp)) ?_
  refine WL.yd (Yd.pickF rfl rfl) rfl ?_
  refine WL.yd (Yd.move rfl) rfl ?_
  refine WL.ydg rfl (Yd.move rfl) rfl ?_
  refine WL.ydg rfl (Yd.neq rfl rfl) rfl ?_
  refine WL.know 102 (.bool false) rfl (congrArg Value.bool (by decide)) ?_
  refine WL.yd (Yd.pickF rfl rfl) rfl ?_
  refine WL.yd (Yd.move rfl) rfl ?_
  refine WL.ydg rfl (Yd.move rfl) rfl ?_
  refine WL.ydg rfl (Yd.neq rfl rfl) rfl ?_
  refine WL.know 106 (.bool false) rfl (congrArg Value.bool (by decide)) ?_
  refine WL.yd (Yd.pickF rfl rfl) rfl ?_
  refine WL.nil ?_
  refine WP.thenC ?_
  refine WC.condF rfl ?_
  refine WC.skip ?_
  refine WP.thenC ?_
  refine WC.seq ?_
  refine WC.seq ?_
  refine WC.ofFr [(10, _), (9, _), (8, _), (7, _), (4, _), (2, _), (1, _)] ⟨rfl, rfl, rfl, rfl, rfl, rfl, rfl, trivial⟩ ?_
  refine WC.region ?_
  refine WL.yd (Yd.move rfl) rfl ?_
  refine WL.yd (Yd.neq rfl rfl) rfl ?_
  refine WL.know 109 (.bool true) rfl (congrArg Value.bool (by decide)) ?_
  refine WL.nil ?_
  refine WP.thenC ?_
  refine WC.condT rfl ?_
  refine WC.seq ?_
  refine WC.ofFr [(10, _), (9, _), (8, _), (7, _), (4, _), (2, _), (1, _)] ⟨rfl, rfl, rfl, rfl, rfl, rfl, rfl, trivial⟩ ?_
  refine WC.region ?_
  refine WL.yd (Yd.move rfl) rfl ?_
  refine WL.yd (Yd.eql rfl rfl) rfl ?_
  refine WL.know 111 (.bool true) rfl (congrArg Value.bool (by decide)) ?_
  refine WL.yd (Yd.move rfl) rfl ?_
  refine WL.ydg rfl (Yd.loadN Try.isAgg30 Try.sizeOf30 rfl (vs := [_, _]) rfl (by first | exact RdN.own (k := 0) (n := 2) rfl rfl | exact RdN.own (k := 1) (n := 2) rfl rfl | exact RdN.own (k := 2) (n := 2) rfl rfl | exact RdN.own (k := 3) (n := 2) rfl rfl | exact RdN.own (k := 4) (n := 2) rfl rfl)) rfl ?_
  refine WL.ydg rfl (Yd.build SA30 rfl (cs := [_, _]) rfl) rfl ?_
  refine WL.ydg rfl (Yd.eqS Try.eqGuardType30 (eqSp _ _ _ _) rfl rfl) rfl ?_
  refine WL.know 115 (.bool true) rfl (congrArg Value.bool (decide_eq_true rfl)) ?_
  refine WL.yd (Yd.pickT rfl rfl) rfl ?_
  refine WL.yd (Yd.move rfl) rfl ?_
  refine WL.sog rfl (SO.callP Try.call8 rfl (fun w hI => alive_g _ _ hI.imm)) rfl ?_
  rintro _ _ _ ⟨rfl, rfl, rfl⟩
  refine WL.know 118 (.bool true) rfl rfl ?_
  refine WL.yd (Yd.pickT rfl rfl) rfl ?_
  refine WL.yd (Yd.assign rfl) rfl ?_
  refine WL.nil ?_
  refine WP.thenC ?_
  refine WC.ret ?_
  refine WP.thenRet ?_
  refine WP.ret1 rfl rfl Try.results6 (RV.tmp rfl) (fun w hI => ⟨rfl, hI.keep⟩)

set_option maxRecDepth 100000 in
set_option maxHeartbeats 1000000 in
theorem spans_d (X : Till) (a1 : Option Addr) (n1 c1 : Nat) (D : Imm) (w : World) (hS : SlL D 5 (X.tk.l.map tickC) a1 n1) (hH : Holds D w) (m : Nat) (hm : m < 256) (hlo : n1 ≤ 60) (hb : tillB X = true) (hW : tksE X.tk true = 0) (hz : n1 = 0) : Gives Try.prog 6 [.agg #[it X.tk.huts, .slice a1 n1 c1, it X.price, it X.fine, it X.wait], .int .u8 m] w (.bool true) := by
  unfold Gives
  have hR : TksR D X.tk a1 n1 := ⟨hS, by omega⟩
  obtain rfl := hR.tick.len'
  have hl1 := hR.len
  have hnum := tillB_num hb
  have h5 := (tks_num hnum.1).2.1
  have hpm : 0 ≤ (X.tk.l.length : Int) * X.price ∧ (X.tk.l.length : Int) * X.price ≤ 2400 := by rw [Int.mul_comm]; exact mul_100 hnum.2.1 (by omega)
  have hwn := wrong_num X.tk
  have hm1 : 0 ≤ (WrongOut X.tk).1.lo * X.fine ∧ (WrongOut X.tk).1.lo * X.fine ≤ 2400 := by rw [Int.mul_comm]; exact mul_100 hnum.2.2.1 (by omega)
  have hm2 : 0 ≤ (WrongOut X.tk).1.hi * X.fine ∧ (WrongOut X.tk).1.hi * X.fine ≤ 2400 := by rw [Int.mul_comm]; exact mul_100 hnum.2.2.1 (by omega)
  refine enter Try.func6 rfl 226 Try.ntmps6 (Nat.le_of_ble_eq_true rfl) (Inv.start hH) ?_
  refine WC.seq ?_
  refine WC.ofFr [(0, _), (1, _)] ⟨rfl, rfl, trivial⟩ ?_
  refine WC.region ?_
  refine WL.so (SO.box rfl rfl) rfl ?_
  rintro _ _ _ ⟨b2, hb2, rfl, rfl, rfl⟩ -- NEW
  refine WL.yd (Yd.assign rfl) rfl ?_
  refine WL.nil ?_
  refine WP.thenC ?_
  refine WC.seq ?_
  refine WC.seq ?_
  refine WC.ofFr [(4, _), (2, _), (1, _)] ⟨rfl, rfl, rfl, trivial⟩ ?_
  refine WC.region ?_
  refine WL.yd (Yd.loadN Try.isAgg37 Try.sizeOf37 rfl (vs := [_, _, _, _, _]) rfl (by first | exact RdN.own (k := 0) (n := 5) rfl rfl)) rfl ?_
  refine WL.so (SO.callP Try.call26 rfl (fun w hI => long_g X a1 none _ c1 0 0 _)) rfl ?_
  rintro _ _ _ ⟨rfl, rfl, rfl⟩
  refine WL.know 30 (.bool false) rfl (congrArg Value.bool (decide_eq_false (by omega))) ?_
  refine WL.nil ?_
  refine WP.thenC ?_
  refine WC.condF rfl ?_
  refine WC.skip ?_
  refine WP.thenC ?_
  refine WC.seq ?_
  refine WC.ofFr [(4, _), (2, _), (1, _)] ⟨rfl, rfl, rfl, trivial⟩ ?_
  refine WC.region ?_
  refine WL.yd (Yd.loadN Try.isAgg37 Try.sizeOf37 rfl (vs := [_, _, _, _, _]) rfl (by first | exact RdN.own (k := 0) (n := 5) rfl rfl)) rfl ?_
  refine WL.so (SO.callP Try.call20 rfl (fun w hI => Gives.cv (.tuple #[it (X.price * X.tk.l.length), it 0]) (Takings_g X a1 _ c1 _ _ hR hI.imm) (by rw [takE.2 hb]; first | done | rfl))) rfl ?_
  rintro _ _ _ ⟨rfl, rfl, rfl⟩
  refine WL.yd (Yd.move rfl) rfl ?_
  refine WL.yd (Yd.extract rfl rfl) rfl ?_
  refine WL.yd (Yd.extract rfl rfl) rfl ?_
  refine WL.yd (Yd.assign rfl) rfl ?_
  refine WL.yd (Yd.assign rfl) rfl ?_
  refine WL.nil ?_
  refine WP.thenC ?_
  refine WC.seq ?_
  refine WC.ofFr [(6, _), (5, _), (4, _), (2, _), (1, _)] ⟨rfl, rfl, rfl, rfl, rfl, trivial⟩ ?_
  refine WC.region ?_
  refine WL.yd (Yd.loadN Try.isAgg37 Try.sizeOf37 rfl (vs := [_, _, _, _, _]) rfl (by first | exact RdN.own (k := 0) (n := 5) rfl rfl)) rfl ?_
  refine WL.so (SO.callP Try.call19 rfl (fun w hI => Gives.cv (.tuple #[spV ⟨(WrongOut X.tk).1.lo * X.fine, (WrongOut X.tk).1.hi * X.fine⟩, it 0]) (Fines_g X a1 _ c1 _ _ hR hI.imm) (by rw [finesE_0 hb hW]; first | done | rfl))) rfl ?_
  rintro _ _ _ ⟨rfl, rfl, rfl⟩
  refine WL.yd (Yd.move rfl) rfl ?_
  refine WL.yd (Yd.extract rfl rfl) rfl ?_
  refine WL.yd (Yd.extract rfl rfl) rfl ?_
  refine WL.so (SO.alloc Try.zeroValue30 rfl) rfl ?_
  rintro _ _ _ ⟨b7, hb7, rfl, rfl, rfl⟩ -- NEW
  refine WL.so (SO.store 0 rfl Try.sizeOf30 rfl rfl rfl rfl (Nat.le_of_ble_eq_true rfl) (oneB_spec rfl)) rfl ?_
  rintro _ _ _ ⟨rfl, rfl, rfl⟩
  refine WL.yd (Yd.assign rfl) rfl ?_
  refine WL.nil ?_
  refine WP.thenC ?_
  refine WC.seq ?_
  refine WC.seq ?_
  refine WC.ofFr [(8, _), (7, _), (6, _), (5, _), (4, _), (2, _), (1, _)] ⟨rfl, rfl, rfl, rfl, rfl, rfl, rfl, trivial⟩ ?_
  refine WC.region ?_
  refine WL.yd (Yd.loadN Try.isAgg37 Try.sizeOf37 rfl (vs := [_, _, _, _, _]) rfl (by first | exact RdN.own (k := 0) (n := 5) rfl rfl | exact RdN.own (k := 1) (n := 5) rfl rfl)) rfl ?_
  refine WL.so (SO.callP Try.call27 rfl (fun w hI => till13_g X a1 _ c1 _ _ hR hI.imm)) rfl ?_
  rintro _ _ _ ⟨rfl, rfl, rfl⟩
  refine WL.know 43 (.bool true) rfl (congrArg Value.bool hb) ?_
  refine WL.yd (Yd.not rfl) rfl ?_
  refine WL.nil ?_
  refine WP.thenC ?_
  refine WC.condF rfl ?_
  refine WC.skip ?_
  refine WP.thenC ?_
  refine WC.seq ?_
  refine WC.ofFr [(8, _), (7, _), (6, _), (5, _), (4, _), (2, _), (1, _)] ⟨rfl, rfl, rfl, rfl, rfl, rfl, rfl, trivial⟩ ?_
  refine WC.region ?_
  refine WL.yd (Yd.fieldAddr FA37_0 rfl) rfl ?_
  refine WL.yd (Yd.fieldAddr FA35_1 rfl) rfl ?_
  refine WL.yd (Yd.load1 Try.isAgg33 rfl (by first | exact Rd.own (k := 0) rfl rfl | exact Rd.own (k := 1) rfl rfl)) rfl ?_
  refine WL.yd (Yd.lenS rfl Try.underlying33 rfl) rfl ?_
  refine WL.yd (Yd.assign rfl) rfl ?_
  refine WL.nil ?_
  refine WP.thenC ?_
  refine WC.seq ?_
  refine WC.ofFr [(9, _), (8, _), (7, _), (6, _), (5, _), (4, _), (2, _), (1, _)] ⟨rfl, rfl, rfl, rfl, rfl, rfl, rfl, rfl, trivial⟩ ?_
  refine WC.region ?_
  refine WL.yd (Yd.fieldAddr FA37_0 rfl) rfl ?_
  refine WL.yd (Yd.loadN Try.isAgg35 Try.sizeOf35 rfl (vs := [_, _]) rfl (by first | exact RdN.own (k := 0) (n := 2) rfl rfl | exact RdN.own (k := 1) (n := 2) rfl rfl)) rfl ?_
  refine WL.so (SO.callP Try.call28 rfl (fun w hI => Gives.cv (.tuple #[spV (WrongOut X.tk).1, it 0]) (Wrong_g X.tk a1 _ c1 _ _ hR hI.imm) (by rw [Wrong_e, hW]))) rfl ?_
  rintro _ _ _ ⟨rfl, rfl, rfl⟩
  refine WL.yd (Yd.move rfl) rfl ?_
  refine WL.yd (Yd.extract rfl rfl) rfl ?_
  refine WL.yd (Yd.extract rfl rfl) rfl ?_
  refine WL.so (SO.alloc Try.zeroValue30 rfl) rfl ?_
  rintro _ _ _ ⟨b10, hb10, rfl, rfl, rfl⟩ -- NEW
  refine WL.so (SO.store 0 rfl Try.sizeOf30 rfl rfl rfl rfl (Nat.le_of_ble_eq_true rfl) (oneB_spec rfl)) rfl ?_
  rintro _ _ _ ⟨rfl, rfl, rfl⟩
  refine WL.yd (Yd.assign rfl) rfl ?_
  refine WL.nil ?_
  refine WP.thenC ?_
  refine WC.seq ?_
  refine WC.ofFr [(11, _), (10, _), (9, _), (8, _), (7, _), (6, _), (5, _), (4, _), (2, _), (1, _)] ⟨rfl, rfl, rfl, rfl, rfl, rfl, rfl, rfl, rfl, rfl, trivial⟩ ?_
  refine WC.region ?_
  refine WL.yd (Yd.loadN Try.isAgg37 Try.sizeOf37 rfl (vs := [_, _, _, _, _]) rfl (by first | exact RdN.own (k := 0) (n := 5) rfl rfl | exact RdN.own (k := 1) (n := 5) rfl rfl | exact RdN.own (k := 2) (n := 5) rfl rfl)) rfl ?_
  refine WL.yd (Yd.move rfl) rfl ?_
  refine WL.so (SO.callP Try.call12 rfl (fun w hI => Gives.cv (.tuple #[spV ⟨0, 0⟩, it 2]) (Fine_g X a1 _ c1 _ _ hR hI.imm (X.tk.l.length : Int)) (by rw [fineE.1 (by rw [(spanE_is hb).1 (decide_eq_false (by omega))]; decide), (spanE_is hb).1 (decide_eq_false (by omega))]))) rfl ?_
  rintro _ _ _ ⟨rfl, rfl, rfl⟩
  refine WL.yd (Yd.move rfl) rfl ?_
  refine WL.yd (Yd.extract rfl rfl) rfl ?_
  refine WL.yd (Yd.extract rfl rfl) rfl ?_
  refine WL.so (SO.alloc Try.zeroValue30 rfl) rfl ?_
  rintro _ _ _ ⟨b12, hb12, rfl, rfl, rfl⟩ -- NEW
  refine WL.so (SO.store 0 rfl Try.sizeOf30 rfl rfl rfl rfl (Nat.le_of_ble_eq_true rfl) (oneB_spec rfl)) rfl ?_
  rintro _ _ _ ⟨rfl, rfl, rfl⟩
  refine WL.yd (Yd.assign rfl) rfl ?_
  refine WL.nil ?_
  refine WP.thenC ?_
  refine WC.seq ?_
  refine WC.ofFr [(13, _), (11, _), (10, _), (9, _), (8, _), (7, _), (6, _), (5, _), (4, _), (2, _), (1, _)] ⟨rfl, rfl, rfl, rfl, rfl, rfl, rfl, rfl, rfl, rfl, rfl, trivial⟩ ?_
  refine WC.region ?_
  refine WL.yd (Yd.loadN Try.isAgg37 Try.sizeOf37 rfl (vs := [_, _, _, _, _]) rfl (by first | exact RdN.own (k := 0) (n := 5) rfl rfl | exact RdN.own (k := 1) (n := 5) rfl rfl | exact RdN.own (k := 2) (n := 5) rfl rfl | exact RdN.own (k := 3) (n := 5) rfl rfl)) rfl ?_
  refine WL.so (SO.callP Try.call14 rfl (fun w hI => Gives.cv (.tuple #[spV ⟨0, 0⟩, it 2]) (Back_g X a1 _ c1 _ _ hR hI.imm (-1)) (by rw [backE.1 (by rw [(spanE_is hb).1 (decide_eq_false (by omega))]; decide), (spanE_is hb).1 (decide_eq_false (by omega))]))) rfl ?_
  rintro _ _ _ ⟨rfl, rfl, rfl⟩
  refine WL.yd (Yd.move rfl) rfl ?_
  refine WL.yd (Yd.extract rfl rfl) rfl ?_
  refine WL.yd (Yd.extract rfl rfl) rfl ?_
  refine WL.so (SO.alloc Try.zeroValue30 rfl) rfl ?_
  rintro _ _ _ ⟨b14, hb14, rfl, rfl, rfl⟩ -- NEW
  refine WL.so (SO.store 0 rfl Try.sizeOf30 rfl rfl rfl rfl (Nat.le_of_ble_eq_true rfl) (oneB_spec rfl)) rfl ?_
  rintro _ _ _ ⟨rfl, rfl, rfl⟩
  refine WL.yd (Yd.assign rfl) rfl ?_
  refine WL.nil ?_
  refine WP.thenC ?_
  refine WC.seq ?_
  refine WC.seq ?_
  refine WC.ofFr [(15, _), (13, _), (11, _), (10, _), (9, _), (8, _), (7, _), (6, _), (5, _), (4, _), (2, _), (1, _)] ⟨rfl, rfl, rfl, rfl, rfl, rfl, rfl, rfl, rfl, rfl, rfl, rfl, trivial⟩ ?_
  refine WC.region ?_
  refine WL.yd (Yd.move rfl) rfl ?_
  refine WL.yd (Yd.neq rfl rfl) rfl ?_
  refine WL.know 86 (.bool false) rfl (congrArg Value.bool (by decide)) ?_
  refine WL.yd (Yd.move rfl) rfl ?_
  refine WL.ydg rfl (Yd.move rfl) rfl ?_
  refine WL.ydg rfl (Yd.move rfl) rfl ?_
  refine WL.ydg rfl (Yd.fieldAddr FA37_1 rfl) rfl ?_
  refine WL.ydg rfl (Yd.load1 Try.isAgg3 rfl (by first | exact Rd.own (k := 0) rfl rfl | exact Rd.own (k := 1) rfl rfl | exact Rd.own (k := 2) rfl rfl | exact Rd.own (k := 3) rfl rfl | exact Rd.own (k := 4) rfl rfl)) rfl ?_
  refine WL.know 91 (it X.price) rfl rfl ?_
  refine WL.ydg rfl (Yd.mul rfl rfl (wr64 ⟨by omega, by omega⟩)) rfl ?_
  refine WL.ydg rfl (Yd.neq rfl rfl) rfl ?_
  refine WL.know 93 (.bool false) rfl (congrArg Value.bool (decide_eq_false (fun h => h (Int.mul_comm _ _)))) ?_
  refine WL.yd (Yd.pickF rfl rfl) rfl ?_
  refine WL.yd (Yd.move rfl) rfl ?_
  refine WL.ydg rfl (Yd.move rfl) rfl ?_
  refine WL.ydg rfl (Yd.move rfl) rfl ?_
  refine WL.ydg rfl (Yd.neq rfl rfl) rfl ?_
  refine WL.know 98 (.bool false) rfl (congrArg Value.bool (by simp)) ?_
  refine WL.yd (Yd.pickF rfl rfl) rfl ?_
  refine WL.yd (Yd.move rfl) rfl ?_
  refine WL.ydg rfl (Yd.move rfl) rfl ?_
  refine WL.ydg rfl (Yd.neq rfl rfl) rfl ?_
  refine WL.know 102 (.bool false) rfl (congrArg Value.bool (by decide)) ?_
  refine WL.yd (Yd.pickF rfl rfl) rfl ?_
  refine WL.yd (Yd.move rfl) rfl ?_
  refine WL.ydg rfl (Yd.move rfl) rfl ?_
  refine WL.ydg rfl (Yd.neq rfl rfl) rfl ?_
  refine WL.know 106 (.bool false) rfl (congrArg Value.bool (by decide)) ?_
  refine WL.yd (Yd.pickF rfl rfl) rfl ?_
  refine WL.nil ?_
  refine WP.thenC ?_
  refine WC.condF rfl ?_
  refine WC.skip ?_
  refine WP.thenC ?_
  refine WC.seq ?_
  refine WC.seq ?_
  refine WC.ofFr [(10, _), (9, _), (8, _), (7, _), (4, _), (2, _), (1, _)] ⟨rfl, rfl, rfl, rfl, rfl, rfl, rfl, trivial⟩ ?_
  refine WC.region ?_
  refine WL.yd (Yd.move rfl) rfl ?_
  refine WL.yd (Yd.neq rfl rfl) rfl ?_
  refine WL.know 109 (.bool false) rfl (congrArg Value.bool (by decide)) ?_
  refine WL.nil ?_
  refine WP.thenC ?_
  refine WC.condF rfl ?_
  refine WC.skip ?_
  refine WP.thenC ?_
  refine WC.seq ?_
  refine WC.seq ?_
  refine WC.ofFr [(10, _), (9, _), (7, _), (4, _), (2, _), (1, _)] ⟨rfl, rfl, rfl, rfl, rfl, rfl, trivial⟩ ?_
  refine WC.tail 12 [0, 1, 2, 3, 4, 5, 6, 7, 8, 9, 10, 11] rfl (by kernel_rfl) (by kernel_rfl)  ?_
  refine WQ.q rfl (Yd.qt (Yd.loadN Try.isAgg30 Try.sizeOf30 rfl (vs := [_, _]) rfl (by first | exact RdN.own (k := 0) (n := 2) rfl rfl | exact RdN.own (k := 1) (n := 2) rfl rfl | exact RdN.own (k := 2) (n := 2) rfl rfl | exact RdN.own (k := 3) (n := 2) rfl rfl | exact RdN.own (k := 4) (n := 2) rfl rfl))) rfl ?_
  refine WQ.q rfl (Yd.qt (Yd.fieldAddr FA30_0 rfl)) rfl ?_
  refine WQ.q rfl (Yd.qt (Yd.load1 Try.isAgg3 rfl (by first | exact Rd.own (k := 0) rfl rfl | exact Rd.own (k := 1) rfl rfl | exact Rd.own (k := 2) rfl rfl | exact Rd.own (k := 3) rfl rfl | exact Rd.own (k := 4) rfl rfl))) rfl ?_
  refine WQ.q rfl (Yd.qt (Yd.fieldAddr FA37_2 rfl)) rfl ?_
  refine WQ.q rfl (Yd.qt (Yd.load1 Try.isAgg3 rfl (by first | exact Rd.own (k := 0) rfl rfl | exact Rd.own (k := 1) rfl rfl | exact Rd.own (k := 2) rfl rfl | exact Rd.own (k := 3) rfl rfl | exact Rd.own (k := 4) rfl rfl))) rfl ?_
  refine WQ.know 122 (it (WrongOut X.tk).1.lo) rfl rfl ?_
  refine WQ.know 124 (it X.fine) rfl rfl ?_
  refine WQ.q rfl (Yd.qt (Yd.mul rfl rfl (wr64 ⟨by omega, by omega⟩))) rfl ?_
  refine WQ.q rfl (Yd.qt (Yd.fieldAddr FA30_1 rfl)) rfl ?_
  refine WQ.q rfl (Yd.qt (Yd.load1 Try.isAgg3 rfl (by first | exact Rd.own (k := 0) rfl rfl | exact Rd.own (k := 1) rfl rfl | exact Rd.own (k := 2) rfl rfl | exact Rd.own (k := 3) rfl rfl | exact Rd.own (k := 4) rfl rfl))) rfl ?_
  refine WQ.q rfl (Yd.qt (Yd.fieldAddr FA37_2 rfl)) rfl ?_
  refine WQ.q rfl (Yd.qt (Yd.load1 Try.isAgg3 rfl (by first | exact Rd.own (k := 0) rfl rfl | exact Rd.own (k := 1) rfl rfl | exact Rd.own (k := 2) rfl rfl | exact Rd.own (k := 3) rfl rfl | exact Rd.own (k := 4) rfl rfl))) rfl ?_
  refine WQ.know 127 (it (WrongOut X.tk).1.hi) rfl rfl ?_
  refine WQ.know 129 (it X.fine) rfl rfl ?_
  refine WQ.q rfl (Yd.qt (Yd.mul rfl rfl (wr64 ⟨by omega, by omega⟩))) rfl ?_
  refine WQ.q rfl (Qt.callP Try.call21 rfl (fun w hI => lspan_g _ _ _)) rfl ?_
  refine WQ.tail ?_
  refine WL.yd (Yd.neS Try.eqGuardType30 (eqSp _ _ _ _) rfl rfl) rfl ?_
  refine WL.know 132 (.bool false) rfl (congrArg Value.bool (by simp)) ?_
  refine WL.nil ?_
  refine WP.thenC ?_
  refine WC.condF rfl ?_
  refine WC.skip ?_
  refine WP.thenC ?_
  refine WC.seq ?_
  refine WC.seq ?_
  refine WC.ofFr [(9, _), (4, _), (2, _), (1, _)] ⟨rfl, rfl, rfl, rfl, trivial⟩ ?_
  refine WC.region ?_
  refine WL.yd (Yd.move rfl) rfl ?_
  refine WL.yd (Yd.eql rfl rfl) rfl ?_
  refine WL.know 134 (.bool true) rfl (congrArg Value.bool (decide_eq_true (by omega))) ?_
  refine WL.nil ?_
  refine WP.thenC ?_
  refine WC.condT rfl ?_
  refine WC.seq ?_
  refine WC.ofFr [(9, _), (4, _), (2, _), (1, _)] ⟨rfl, rfl, rfl, rfl, trivial⟩ ?_
  refine WC.region ?_
  refine WL.so (SO.callP Try.call8 rfl (fun w hI => alive_g _ _ hI.imm)) rfl ?_
  rintro _ _ _ ⟨rfl, rfl, rfl⟩
  refine WL.yd (Yd.assign rfl) rfl ?_
  refine WL.nil ?_
  refine WP.thenC ?_
  refine WC.ret ?_
  refine WP.thenRet ?_
  refine WP.ret1 rfl rfl Try.results6 (RV.tmp rfl) (fun w hI => ⟨rfl, hI.keep⟩)

set_option maxRecDepth 100000 in
set_option maxHeartbeats 1000000 in
theorem spans_e (X : Till) (a1 : Option Addr) (n1 c1 : Nat) (D : Imm) (w : World) (hS : SlL D 5 (X.tk.l.map tickC) a1 n1) (hH : Holds D w) (m : Nat) (hm : m < 256) (hlo : n1 ≤ 60) (hb : tillB X = true) (hW : tksE X.tk true = 0) (hz : 0 < n1) : Gives Try.prog 6 [.agg #[it X.tk.huts, .slice a1 n1 c1, it X.price, it X.fine, it X.wait], .int .u8 m] w (.bool true) := by
  unfold Gives
  have hR : TksR D X.tk a1 n1 := ⟨hS, by omega⟩
  obtain rfl := hR.tick.len'
  have hl1 := hR.len
  have hnum := tillB_num hb
  have h5 := (tks_num hnum.1).2.1
  have hpm : 0 ≤ (X.tk.l.length : Int) * X.price ∧ (X.tk.l.length : Int) * X.price ≤ 2400 := by rw [Int.mul_comm]; exact mul_100 hnum.2.1 (by omega)
  have hwn := wrong_num X.tk
  have hm1 : 0 ≤ (WrongOut X.tk).1.lo * X.fine ∧ (WrongOut X.tk).1.lo * X.fine ≤ 2400 := by rw [Int.mul_comm]; exact mul_100 hnum.2.2.1 (by omega)
  have hm2 : 0 ≤ (WrongOut X.tk).1.hi * X.fine ∧ (WrongOut X.tk).1.hi * X.fine ≤ 2400 := by rw [Int.mul_comm]; exact mul_100 hnum.2.2.1 (by omega)
  have his := mod_is hz m
  have hsp : spanE X ((m : Int) % (X.tk.l.length : Int)) = 0 := ((spanE_is hb).2 his).trans hW
  have hmn := minutes_num X.tk ((m : Int) % (X.tk.l.length : Int))
  have hwt := waits_num X.tk ((m : Int) % (X.tk.l.length : Int))
  have hm3 : 0 ≤ (waitsSp X.tk ((m : Int) % (X.tk.l.length : Int))).lo * X.wait ∧ (waitsSp X.tk ((m : Int) % (X.tk.l.length : Int))).lo * X.wait ≤ 2400 := by rw [Int.mul_comm]; exact mul_100 hnum.2.2.2 (by omega)
  have hm4 : 0 ≤ (waitsSp X.tk ((m : Int) % (X.tk.l.length : Int))).hi * X.wait ∧ (waitsSp X.tk ((m : Int) % (X.tk.l.length : Int))).hi * X.wait ≤ 2400 := by rw [Int.mul_comm]; exact mul_100 hnum.2.2.2 (by omega)
  refine enter Try.func6 rfl 226 Try.ntmps6 (Nat.le_of_ble_eq_true rfl) (Inv.start hH) ?_
  refine WC.seq ?_
  refine WC.ofFr [(0, _), (1, _)] ⟨rfl, rfl, trivial⟩ ?_
  refine WC.region ?_
  refine WL.so (SO.box rfl rfl) rfl ?_
  rintro _ _ _ ⟨b2, hb2, rfl, rfl, rfl⟩ -- NEW
  refine WL.yd (Yd.assign rfl) rfl ?_
  refine WL.nil ?_
  refine WP.thenC ?_
  refine WC.seq ?_
  refine WC.seq ?_
  refine WC.ofFr [(4, _), (2, _), (1, _)] ⟨rfl, rfl, rfl, trivial⟩ ?_
  refine WC.region ?_
  refine WL.yd (Yd.loadN Try.isAgg37 Try.sizeOf37 rfl (vs := [_, _, _, _, _]) rfl (by first | exact RdN.own (k := 0) (n := 5) rfl rfl)) rfl ?_
  refine WL.so (SO.callP Try.call26 rfl (fun w hI => long_g X a1 none _ c1 0 0 _)) rfl ?_
  rintro _ _ _ ⟨rfl, rfl, rfl⟩
  refine WL.know 30 (.bool false) rfl (congrArg Value.bool (decide_eq_false (by omega))) ?_
  refine WL.nil ?_
  refine WP.thenC ?_
  refine WC.condF rfl ?_
  refine WC.skip ?_
  refine WP.thenC ?_
  refine WC.seq ?_
  refine WC.ofFr [(4, _), (2, _), (1, _)] ⟨rfl, rfl, rfl, trivial⟩ ?_
  refine WC.region ?_
  refine WL.yd (Yd.loadN Try.isAgg37 Try.sizeOf37 rfl (vs := [_, _, _, _, _]) rfl (by first | exact RdN.own (k := 0) (n := 5) rfl rfl)) rfl ?_
  refine WL.so (SO.callP Try.call20 rfl (fun w hI => Gives.cv (.tuple #[it (X.price * X.tk.l.length), it 0]) (Takings_g X a1 _ c1 _ _ hR hI.imm) (by rw [takE.2 hb]; first | done | rfl))) rfl ?_
  rintro _ _ _ ⟨rfl, rfl, rfl⟩
  refine WL.yd (Yd.move rfl) rfl ?_
  refine WL.yd (Yd.extract rfl rfl) rfl ?_
  refine WL.yd (Yd.extract rfl rfl) rfl ?_
  refine WL.yd (Yd.assign rfl) rfl ?_
  refine WL.yd (Yd.assign rfl) rfl ?_
  refine WL.nil ?_
  refine WP.thenC ?_
  refine WC.seq ?_
  refine WC.ofFr [(6, _), (5, _), (4, _), (2, _), (1, _)] ⟨rfl, rfl, rfl, rfl, rfl, trivial⟩ ?_
  refine WC.region ?_
  refine WL.yd (Yd.loadN Try.isAgg37 Try.sizeOf37 rfl (vs := [_, _, _, _, _]) rfl (by first | exact RdN.own (k := 0) (n := 5) rfl rfl)) rfl ?_
  refine WL.so (SO.callP Try.call19 rfl (fun w hI => Gives.cv (.tuple #[spV ⟨(WrongOut X.tk).1.lo * X.fine, (WrongOut X.tk).1.hi * X.fine⟩, it 0]) (Fines_g X a1 _ c1 _ _ hR hI.imm) (by rw [finesE_0 hb hW]; first | done | rfl))) rfl ?_
  rintro _ _ _ ⟨rfl, rfl, rfl⟩
  refine WL.yd (Yd.move rfl) rfl ?_
  refine WL.yd (Yd.extract rfl rfl) rfl ?_
  refine WL.yd (Yd.extract rfl rfl) rfl ?_
  refine WL.so (SO.alloc Try.zeroValue30 rfl) rfl ?_
  rintro _ _ _ ⟨b7, hb7, rfl, rfl, rfl⟩ -- NEW
  refine WL.so (SO.store 0 rfl Try.sizeOf30 rfl rfl rfl rfl (Nat.le_of_ble_eq_true rfl) (oneB_spec rfl)) rfl ?_
  rintro _ _ _ ⟨rfl, rfl, rfl⟩
  refine WL.yd (Yd.assign rfl) rfl ?_
  refine WL.nil ?_
  refine WP.thenC ?_
  refine WC.seq ?_
  refine WC.seq ?_
  refine WC.ofFr [(8, _), (7, _), (6, _), (5, _), (4, _), (2, _), (1, _)] ⟨rfl, rfl, rfl, rfl, rfl, rfl, rfl, trivial⟩ ?_
  refine WC.region ?_
  refine WL.yd (Yd.loadN Try.isAgg37 Try.sizeOf37 rfl (vs := [_, _, _, _, _]) rfl (by first | exact RdN.own (k := 0) (n := 5) rfl rfl | exact RdN.own (k := 1) (n := 5) rfl rfl)) rfl ?_
  refine WL.so (SO.callP Try.call27 rfl (fun w hI => till13_g X a1 _ c1 _ _ hR hI.imm)) rfl ?_
  rintro _ _ _ ⟨rfl, rfl, rfl⟩
  refine WL.know 43 (.bool true) rfl (congrArg Value.bool hb) ?_
  refine WL.yd (Yd.not rfl) rfl ?_
  refine WL.nil ?_
  refine WP.thenC ?_
  refine WC.condF rfl ?_
  refine WC.skip ?_
  refine WP.thenC ?_
  refine WC.seq ?_
  refine WC.ofFr [(8, _), (7, _), (6, _), (5, _), (4, _), (2, _), (1, _)] ⟨rfl, rfl, rfl, rfl, rfl, rfl, rfl, trivial⟩ ?_
  refine WC.region ?_
  refine WL.yd (Yd.fieldAddr FA37_0 rfl) rfl ?_
  refine WL.yd (Yd.fieldAddr FA35_1 rfl) rfl ?_
  refine WL.yd (Yd.load1 Try.isAgg33 rfl (by first | exact Rd.own (k := 0) rfl rfl | exact Rd.own (k := 1) rfl rfl)) rfl ?_
  refine WL.yd (Yd.lenS rfl Try.underlying33 rfl) rfl ?_
  refine WL.yd (Yd.assign rfl) rfl ?_
  refine WL.nil ?_
  refine WP.thenC ?_
  refine WC.seq ?_
  refine WC.ofFr [(9, _), (8, _), (7, _), (6, _), (5, _), (4, _), (2, _), (1, _)] ⟨rfl, rfl, rfl, rfl, rfl, rfl, rfl, rfl, trivial⟩ ?_
  refine WC.region ?_
  refine WL.yd (Yd.fieldAddr FA37_0 rfl) rfl ?_
  refine WL.yd (Yd.loadN Try.isAgg35 Try.sizeOf35 rfl (vs := [_, _]) rfl (by first | exact RdN.own (k := 0) (n := 2) rfl rfl | exact RdN.own (k := 1) (n := 2) rfl rfl)) rfl ?_
  refine WL.so (SO.callP Try.call28 rfl (fun w hI => Gives.cv (.tuple #[spV (WrongOut X.tk).1, it 0]) (Wrong_g X.tk a1 _ c1 _ _ hR hI.imm) (by rw [Wrong_e, hW]))) rfl ?_
  rintro _ _ _ ⟨rfl, rfl, rfl⟩
  refine WL.yd (Yd.move rfl) rfl ?_
  refine WL.yd (Yd.extract rfl rfl) rfl ?_
  refine WL.yd (Yd.extract rfl rfl) rfl ?_
  refine WL.so (SO.alloc Try.zeroValue30 rfl) rfl ?_
  rintro _ _ _ ⟨b10, hb10, rfl, rfl, rfl⟩ -- NEW
  refine WL.so (SO.store 0 rfl Try.sizeOf30 rfl rfl rfl rfl (Nat.le_of_ble_eq_true rfl) (oneB_spec rfl)) rfl ?_
  rintro _ _ _ ⟨rfl, rfl, rfl⟩
  refine WL.yd (Yd.assign rfl) rfl ?_
  refine WL.nil ?_
  refine WP.thenC ?_
  refine WC.seq ?_
  refine WC.ofFr [(11, _), (10, _), (9, _), (8, _), (7, _), (6, _), (5, _), (4, _), (2, _), (1, _)] ⟨rfl, rfl, rfl, rfl, rfl, rfl, rfl, rfl, rfl, rfl, trivial⟩ ?_
  refine WC.region ?_
  refine WL.yd (Yd.loadN Try.isAgg37 Try.sizeOf37 rfl (vs := [_, _, _, _, _]) rfl (by first | exact RdN.own (k := 0) (n := 5) rfl rfl | exact RdN.own (k := 1) (n := 5) rfl rfl | exact RdN.own (k := 2) (n := 5) rfl rfl)) rfl ?_
  refine WL.yd (Yd.move rfl) rfl ?_
  refine WL.so (SO.callP Try.call12 rfl (fun w hI => Gives.cv (.tuple #[spV ⟨0, 0⟩, it 2]) (Fine_g X a1 _ c1 _ _ hR hI.imm (X.tk.l.length : Int)) (by rw [fineE.1 (by rw [(spanE_is hb).1 (decide_eq_false (by omega))]; decide), (spanE_is hb).1 (decide_eq_false (by omega))]))) rfl ?_
  rintro _ _ _ ⟨rfl, rfl, rfl⟩
  refine WL.yd (Yd.move rfl) rfl ?_
  refine WL.yd (Yd.extract rfl rfl) rfl ?_
  refine WL.yd (Yd.extract rfl rfl) rfl ?_
  refine WL.so (SO.alloc Try.zeroValue30 rfl) rfl ?_
  rintro _ _ _ ⟨b12, hb12, rfl, rfl, rfl⟩ -- NEW
  refine WL.so (SO.store 0 rfl Try.sizeOf30 rfl rfl rfl rfl (Nat.le_of_ble_eq_true rfl) (oneB_spec rfl)) rfl ?_
  rintro _ _ _ ⟨rfl, rfl, rfl⟩
  refine WL.yd (Yd.assign rfl) rfl ?_
  refine WL.nil ?_
  refine WP.thenC ?_
  refine WC.seq ?_
  refine WC.ofFr [(13, _), (11, _), (10, _), (9, _), (8, _), (7, _), (6, _), (5, _), (4, _), (2, _), (1, _)] ⟨rfl, rfl, rfl, rfl, rfl, rfl, rfl, rfl, rfl, rfl, rfl, trivial⟩ ?_
  refine WC.region ?_
  refine WL.yd (Yd.loadN Try.isAgg37 Try.sizeOf37 rfl (vs := [_, _, _, _, _]) rfl (by first | exact RdN.own (k := 0) (n := 5) rfl rfl | exact RdN.own (k := 1) (n := 5) rfl rfl | exact RdN.own (k := 2) (n := 5) rfl rfl | exact RdN.own (k := 3) (n := 5) rfl rfl)) rfl ?_
  refine WL.so (SO.callP Try.call14 rfl (fun w hI => Gives.cv (.tuple #[spV ⟨0, 0⟩, it 2]) (Back_g X a1 _ c1 _ _ hR hI.imm (-1)) (by rw [backE.1 (by rw [(spanE_is hb).1 (decide_eq_false (by omega))]; decide), (spanE_is hb).1 (decide_eq_false (by omega))]))) rfl ?_
  rintro _ _ _ ⟨rfl, rfl, rfl⟩
  refine WL.yd (Yd.move rfl) rfl ?_
  refine WL.yd (Yd.extract rfl rfl) rfl ?_
  refine WL.yd (Yd.extract rfl rfl) rfl ?_
  refine WL.so (SO.alloc Try.zeroValue30 rfl) rfl ?_
  rintro _ _ _ ⟨b14, hb14, rfl, rfl, rfl⟩ -- NEW
  refine WL.so (SO.store 0 rfl Try.sizeOf30 rfl rfl rfl rfl (Nat.le_of_ble_eq_true rfl) (oneB_spec rfl)) rfl ?_
  rintro _ _ _ ⟨rfl, rfl, rfl⟩
  refine WL.yd (Yd.assign rfl) rfl ?_
  refine WL.nil ?_
  refine WP.thenC ?_
  refine WC.seq ?_
  refine WC.seq ?_
  refine WC.ofFr [(15, _), (13, _), (11, _), (10, _), (9, _), (8, _), (7, _), (6, _), (5, _), (4, _), (2, _), (1, _)] ⟨rfl, rfl, rfl, rfl, rfl, rfl, rfl, rfl, rfl, rfl, rfl, rfl, trivial⟩ ?_
  refine WC.region ?_
  refine WL.yd (Yd.move rfl) rfl ?_
  refine WL.yd (Yd.neq rfl rfl) rfl ?_
  refine WL.know 86 (.bool false) rfl (congrArg Value.bool (by decide)) ?_
  refine WL.yd (Yd.move rfl) rfl ?_
  refine WL.ydg rfl (Yd.move rfl) rfl ?_
  refine WL.ydg rfl (Yd.move rfl) rfl ?_
  refine WL.ydg rfl (Yd.fieldAddr FA37_1 rfl) rfl ?_
  refine WL.ydg rfl (Yd.load1 Try.isAgg3 rfl (by first | exact Rd.own (k := 0) rfl rfl | exact Rd.own (k := 1) rfl rfl | exact Rd.own (k := 2) rfl rfl | exact Rd.own (k := 3) rfl rfl | exact Rd.own (k := 4) rfl rfl)) rfl ?_
  refine WL.know 91 (it X.price) rfl rfl ?_
  refine WL.ydg rfl (Yd.mul rfl rfl (wr64 ⟨by omega, by omega⟩)) rfl ?_
  refine WL.ydg rfl (Yd.neq rfl rfl) rfl ?_
  refine WL.know 93 (.bool false) rfl (congrArg Value.bool (decide_eq_false (fun h => h (Int.mul_comm _ _)))) ?_
  refine WL.yd (Yd.pickF rfl rfl) rfl ?_
  refine WL.yd (Yd.move rfl) rfl ?_
  refine WL.ydg rfl (Yd.move rfl) rfl ?_
  refine WL.ydg rfl (Yd.move rfl) rfl ?_
  refine WL.ydg rfl (Yd.neq rfl rfl) rfl ?_
  refine WL.know 98 (.bool false) rfl (congrArg Value.bool (by simp)) ?_
  refine WL.yd (Yd.pickF rfl rfl) rfl ?_
  refine WL.yd (Yd.move rfl) rfl ?_
  refine WL.ydg rfl (Yd.move rfl) rfl ?_
  refine WL.ydg rfl (Yd.neq rfl rfl) rfl ?_
  refine WL.know 102 (.bool false) rfl (congrArg Value.bool (by decide)) ?_
  refine WL.yd (Yd.pickF rfl rfl) rfl ?_
  refine WL.yd (Yd.move rfl) rfl ?_
  refine WL.ydg rfl (Yd.move rfl) rfl ?_
  refine WL.ydg rfl (Yd.neq rfl rfl) rfl ?_
  refine WL.know 106 (.bool false) rfl (congrArg Value.bool (by decide)) ?_
  refine WL.yd (Yd.pickF rfl rfl) rfl ?_
  refine WL.nil ?_
  refine WP.thenC ?_
  refine WC.condF rfl ?_
  refine WC.skip ?_
  refine WP.thenC ?_
  refine WC.seq ?_
  refine WC.seq ?_
  refine WC.ofFr [(10, _), (9, _), (8, _), (7, _), (4, _), (2, _), (1, _)] ⟨rfl, rfl, rfl, rfl, rfl, rfl, rfl, trivial⟩ ?_
  refine WC.region ?_
  refine WL.yd (Yd.move rfl) rfl ?_
  refine WL.yd (Yd.neq rfl rfl) rfl ?_
  refine WL.know 109 (.bool false) rfl (congrArg Value.bool (by decide)) ?_
  refine WL.nil ?_
  refine WP.thenC ?_
  refine WC.condF rfl ?_
  refine WC.skip ?_
  refine WP.thenC ?_
  refine WC.seq ?_
  refine WC.seq ?_
  refine WC.ofFr [(10, _), (9, _), (7, _), (4, _), (2, _), (1, _)] ⟨rfl, rfl, rfl, rfl, rfl, rfl, trivial⟩ ?_
  refine WC.tail 12 [0, 1, 2, 3, 4, 5, 6, 7, 8, 9, 10, 11] rfl (by kernel_rfl) (by kernel_rfl)  ?_
  refine WQ.q rfl (Yd.qt (Yd.loadN Try.isAgg30 Try.sizeOf30 rfl (vs := [_, _]) rfl (by first | exact RdN.own (k := 0) (n := 2) rfl rfl | exact RdN.own (k := 1) (n := 2) rfl rfl | exact RdN.own (k := 2) (n := 2) rfl rfl | exact RdN.own (k := 3) (n := 2) rfl rfl | exact RdN.own (k := 4) (n := 2) rfl rfl))) rfl ?_
  refine WQ.q rfl (Yd.qt (Yd.fieldAddr FA30_0 rfl)) rfl ?_
  refine WQ.q rfl (Yd.qt (Yd.load1 Try.isAgg3 rfl (by first | exact Rd.own (k := 0) rfl rfl | exact Rd.own (k := 1) rfl rfl | exact Rd.own (k := 2) rfl rfl | exact Rd.own (k := 3) rfl rfl | exact Rd.own (k := 4) rfl rfl))) rfl ?_
  refine WQ.q rfl (Yd.qt (Yd.fieldAddr FA37_2 rfl)) rfl ?_
  refine WQ.q rfl (Yd.qt (Yd.load1 Try.isAgg3 rfl (by first | exact Rd.own (k := 0) rfl rfl | exact Rd.own (k := 1) rfl rfl | exact Rd.own (k := 2) rfl rfl | exact Rd.own (k := 3) rfl rfl | exact Rd.own (k := 4) rfl rfl))) rfl ?_
  refine WQ.know 122 (it (WrongOut X.tk).1.lo) rfl rfl ?_
  refine WQ.know 124 (it X.fine) rfl rfl ?_
  refine WQ.q rfl (Yd.qt (Yd.mul rfl rfl (wr64 ⟨by omega, by omega⟩))) rfl ?_
  refine WQ.q rfl (Yd.qt (Yd.fieldAddr FA30_1 rfl)) rfl ?_
  refine WQ.q rfl (Yd.qt (Yd.load1 Try.isAgg3 rfl (by first | exact Rd.own (k := 0) rfl rfl | exact Rd.own (k := 1) rfl rfl | exact Rd.own (k := 2) rfl rfl | exact Rd.own (k := 3) rfl rfl | exact Rd.own (k := 4) rfl rfl))) rfl ?_
  refine WQ.q rfl (Yd.qt (Yd.fieldAddr FA37_2 rfl)) rfl ?_
  refine WQ.q rfl (Yd.qt (Yd.load1 Try.isAgg3 rfl (by first | exact Rd.own (k := 0) rfl rfl | exact Rd.own (k := 1) rfl rfl | exact Rd.own (k := 2) rfl rfl | exact Rd.own (k := 3) rfl rfl | exact Rd.own (k := 4) rfl rfl))) rfl ?_
  refine WQ.know 127 (it (WrongOut X.tk).1.hi) rfl rfl ?_
  refine WQ.know 129 (it X.fine) rfl rfl ?_
  refine WQ.q rfl (Yd.qt (Yd.mul rfl rfl (wr64 ⟨by omega, by omega⟩))) rfl ?_
  refine WQ.q rfl (Qt.callP Try.call21 rfl (fun w hI => lspan_g _ _ _)) rfl ?_
  refine WQ.tail ?_
  refine WL.yd (Yd.neS Try.eqGuardType30 (eqSp _ _ _ _) rfl rfl) rfl ?_
  refine WL.know 132 (.bool false) rfl (congrArg Value.bool (by simp)) ?_
  refine WL.nil ?_
  refine WP.thenC ?_
  refine WC.condF rfl ?_
  refine WC.skip ?_
  refine WP.thenC ?_
  refine WC.seq ?_
  refine WC.seq ?_
  refine WC.ofFr [(9, _), (4, _), (2, _), (1, _)] ⟨rfl, rfl, rfl, rfl, trivial⟩ ?_
  refine WC.region ?_
  refine WL.yd (Yd.move rfl) rfl ?_
  refine WL.yd (Yd.eql rfl rfl) rfl ?_
  refine WL.know 134 (.bool false) rfl (congrArg Value.bool (decide_eq_false (by omega))) ?_
  refine WL.nil ?_
  refine WP.thenC ?_
  refine WC.condF rfl ?_
  refine WC.skip ?_
  refine WP.thenC ?_
  refine WC.seq ?_
  refine WC.ofFr [(9, _), (4, _), (2, _), (1, _)] ⟨rfl, rfl, rfl, rfl, trivial⟩ ?_
  refine WC.region ?_
  refine WL.yd (Yd.move rfl) rfl ?_
  refine WL.yd (Yd.conv Try.underlying5 Try.underlying3 rfl (wr64 ⟨by omega, by omega⟩)) rfl ?_
  refine WL.yd (Yd.move rfl) rfl ?_
  refine WL.yd (Yd.rem rfl rfl (by omega) (by omega)) rfl ?_
  refine WL.yd (Yd.assign rfl) rfl ?_
  refine WL.nil ?_
  refine WP.thenC ?_
  refine WC.seq ?_
  refine WC.ofFr [(16, _), (4, _), (2, _)] ⟨rfl, rfl, rfl, trivial⟩ ?_
  refine WC.region ?_
  refine WL.yd (Yd.fieldAddr FA37_0 rfl) rfl ?_
  refine WL.yd (Yd.loadN Try.isAgg35 Try.sizeOf35 rfl (vs := [_, _]) rfl (by first | exact RdN.own (k := 0) (n := 2) rfl rfl | exact RdN.own (k := 1) (n := 2) rfl rfl | exact RdN.own (k := 2) (n := 2) rfl rfl | exact RdN.own (k := 3) (n := 2) rfl rfl | exact RdN.own (k := 4) (n := 2) rfl rfl)) rfl ?_
  refine WL.yd (Yd.move rfl) rfl ?_
  refine WL.so (SO.callP Try.call29 rfl (fun w hI => Gives.cv (.tuple #[it (TurnOut X.tk ((m : Int) % (X.tk.l.length : Int))).1, it 0]) (Turn_g X.tk a1 _ c1 _ _ hR hI.imm ((m : Int) % (X.tk.l.length : Int))) (by rw [turn_e his hW]))) rfl ?_
  rintro _ _ _ ⟨rfl, rfl, rfl⟩
  refine WL.yd (Yd.move rfl) rfl ?_
  refine WL.yd (Yd.extract rfl rfl) rfl ?_
  refine WL.yd (Yd.extract rfl rfl) rfl ?_
  refine WL.yd (Yd.assign rfl) rfl ?_
  refine WL.yd (Yd.assign rfl) rfl ?_
  refine WL.nil ?_
  refine WP.thenC ?_
  refine WC.seq ?_
  refine WC.ofFr [(18, _), (17, _), (16, _), (4, _), (2, _)] ⟨rfl, rfl, rfl, rfl, rfl, trivial⟩ ?_
  refine WC.region ?_
  refine WL.yd (Yd.fieldAddr FA37_0 rfl) rfl ?_
  refine WL.yd (Yd.loadN Try.isAgg35 Try.sizeOf35 rfl (vs := [_, _]) rfl (by first | exact RdN.own (k := 0) (n := 2) rfl rfl | exact RdN.own (k := 1) (n := 2) rfl rfl | exact RdN.own (k := 2) (n := 2) rfl rfl | exact RdN.own (k := 3) (n := 2) rfl rfl | exact RdN.own (k := 4) (n := 2) rfl rfl)) rfl ?_
  refine WL.yd (Yd.move rfl) rfl ?_
  refine WL.so (SO.callP Try.call30 rfl (fun w hI => Gives.cv (.tuple #[spV (MinutesOut X.tk ((m : Int) % (X.tk.l.length : Int))).1, spV (MinutesOut X.tk ((m : Int) % (X.tk.l.length : Int))).2.1, it 0]) (Minutes_g X.tk a1 _ c1 _ _ hR hI.imm ((m : Int) % (X.tk.l.length : Int))) (by rw [minutes_e his hW]))) rfl ?_
  rintro _ _ _ ⟨rfl, rfl, rfl⟩
  refine WL.yd (Yd.move rfl) rfl ?_
  refine WL.yd (Yd.extract rfl rfl) rfl ?_
  refine WL.yd (Yd.extract rfl rfl) rfl ?_
  refine WL.yd (Yd.extract rfl rfl) rfl ?_
  refine WL.so (SO.alloc Try.zeroValue30 rfl) rfl ?_
  rintro _ _ _ ⟨b19, hb19, rfl, rfl, rfl⟩ -- NEW
  refine WL.so (SO.alloc Try.zeroValue30 rfl) rfl ?_
  rintro _ _ _ ⟨b20, hb20, rfl, rfl, rfl⟩ -- NEW
  refine WL.so (SO.store 1 rfl Try.sizeOf30 rfl rfl rfl rfl (Nat.le_of_ble_eq_true rfl) (oneB_spec rfl)) rfl ?_
  rintro _ _ _ ⟨rfl, rfl, rfl⟩
  refine WL.so (SO.store 0 rfl Try.sizeOf30 rfl rfl rfl rfl (Nat.le_of_ble_eq_true rfl) (oneB_spec rfl)) rfl ?_
  rintro _ _ _ ⟨rfl, rfl, rfl⟩
  refine WL.yd (Yd.assign rfl) rfl ?_
  refine WL.nil ?_
  refine WP.thenC ?_
  refine WC.seq ?_
  refine WC.ofFr [(21, _), (20, _), (19, _), (18, _), (17, _), (16, _), (4, _), (2, _)] ⟨rfl, rfl, rfl, rfl, rfl, rfl, rfl, rfl, trivial⟩ ?_
  refine WC.region ?_
  refine WL.yd (Yd.loadN Try.isAgg37 Try.sizeOf37 rfl (vs := [_, _, _, _, _]) rfl (by first | exact RdN.own (k := 0) (n := 5) rfl rfl | exact RdN.own (k := 1) (n := 5) rfl rfl | exact RdN.own (k := 2) (n := 5) rfl rfl | exact RdN.own (k := 3) (n := 5) rfl rfl | exact RdN.own (k := 4) (n := 5) rfl rfl | exact RdN.own (k := 5) (n := 5) rfl rfl | exact RdN.own (k := 6) (n := 5) rfl rfl)) rfl ?_
  refine WL.yd (Yd.move rfl) rfl ?_
  refine WL.so (SO.callP Try.call12 rfl (fun w hI => Gives.cv (.tuple #[spV (fineSp X ((m : Int) % (X.tk.l.length : Int))), it 0]) (Fine_g X a1 _ c1 _ _ hR hI.imm ((m : Int) % (X.tk.l.length : Int))) (by rw [fineE.2 hsp]; first | done | rfl))) rfl ?_
  rintro _ _ _ ⟨rfl, rfl, rfl⟩
  refine WL.yd (Yd.move rfl) rfl ?_
  refine WL.yd (Yd.extract rfl rfl) rfl ?_
  refine WL.yd (Yd.extract rfl rfl) rfl ?_
  refine WL.so (SO.alloc Try.zeroValue30 rfl) rfl ?_
  rintro _ _ _ ⟨b22, hb22, rfl, rfl, rfl⟩ -- NEW
  refine WL.so (SO.store 0 rfl Try.sizeOf30 rfl rfl rfl rfl (Nat.le_of_ble_eq_true rfl) (oneB_spec rfl)) rfl ?_
  rintro _ _ _ ⟨rfl, rfl, rfl⟩
  refine WL.yd (Yd.assign rfl) rfl ?_
  refine WL.nil ?_
  refine WP.thenC ?_
  refine WC.seq ?_
  refine WC.ofFr [(23, _), (22, _), (21, _), (20, _), (19, _), (18, _), (17, _), (16, _), (4, _), (2, _)] ⟨rfl, rfl, rfl, rfl, rfl, rfl, rfl, rfl, rfl, rfl, trivial⟩ ?_
  refine WC.region ?_
  refine WL.yd (Yd.loadN Try.isAgg37 Try.sizeOf37 rfl (vs := [_, _, _, _, _]) rfl (by first | exact RdN.own (k := 0) (n := 5) rfl rfl | exact RdN.own (k := 1) (n := 5) rfl rfl | exact RdN.own (k := 2) (n := 5) rfl rfl | exact RdN.own (k := 3) (n := 5) rfl rfl | exact RdN.own (k := 4) (n := 5) rfl rfl | exact RdN.own (k := 5) (n := 5) rfl rfl | exact RdN.own (k := 6) (n := 5) rfl rfl | exact RdN.own (k := 7) (n := 5) rfl rfl)) rfl ?_
  refine WL.yd (Yd.move rfl) rfl ?_
  refine WL.so (SO.callP Try.call14 rfl (fun w hI => Gives.cv (.tuple #[spV (backSp X ((m : Int) % (X.tk.l.length : Int))), it 0]) (Back_g X a1 _ c1 _ _ hR hI.imm ((m : Int) % (X.tk.l.length : Int))) (by rw [backE.2 hsp]; first | done | rfl))) rfl ?_
  rintro _ _ _ ⟨rfl, rfl, rfl⟩
  refine WL.yd (Yd.move rfl) rfl ?_
  refine WL.yd (Yd.extract rfl rfl) rfl ?_
  refine WL.yd (Yd.extract rfl rfl) rfl ?_
  refine WL.so (SO.alloc Try.zeroValue30 rfl) rfl ?_
  rintro _ _ _ ⟨b24, hb24, rfl, rfl, rfl⟩ -- NEW
  refine WL.so (SO.store 0 rfl Try.sizeOf30 rfl rfl rfl rfl (Nat.le_of_ble_eq_true rfl) (oneB_spec rfl)) rfl ?_
  rintro _ _ _ ⟨rfl, rfl, rfl⟩
  refine WL.yd (Yd.assign rfl) rfl ?_
  refine WL.nil ?_
  refine WP.thenC ?_
  refine WC.seq ?_
  refine WC.ofFr [(25, _), (24, _), (23, _), (22, _), (21, _), (20, _), (19, _), (18, _), (17, _), (4, _), (2, _)] ⟨rfl, rfl, rfl, rfl, rfl, rfl, rfl, rfl, rfl, rfl, rfl, trivial⟩ ?_
  refine WC.region ?_
  refine WL.yd (Yd.fieldAddr FA37_2 rfl) rfl ?_
  refine WL.yd (Yd.load1 Try.isAgg3 rfl (by first | exact Rd.own (k := 0) rfl rfl | exact Rd.own (k := 1) rfl rfl | exact Rd.own (k := 2) rfl rfl | exact Rd.own (k := 3) rfl rfl | exact Rd.own (k := 4) rfl rfl | exact Rd.own (k := 5) rfl rfl | exact Rd.own (k := 6) rfl rfl | exact Rd.own (k := 7) rfl rfl | exact Rd.own (k := 8) rfl rfl)) rfl ?_
  refine WL.yd (Yd.fieldAddr FA37_2 rfl) rfl ?_
  refine WL.yd (Yd.load1 Try.isAgg3 rfl (by first | exact Rd.own (k := 0) rfl rfl | exact Rd.own (k := 1) rfl rfl | exact Rd.own (k := 2) rfl rfl | exact Rd.own (k := 3) rfl rfl | exact Rd.own (k := 4) rfl rfl | exact Rd.own (k := 5) rfl rfl | exact Rd.own (k := 6) rfl rfl | exact Rd.own (k := 7) rfl rfl | exact Rd.own (k := 8) rfl rfl)) rfl ?_
  refine WL.so (SO.callP Try.call21 rfl (fun w hI => lspan_g _ _ _)) rfl ?_
  rintro _ _ _ ⟨rfl, rfl, rfl⟩
  refine WL.so (SO.alloc Try.zeroValue30 rfl) rfl ?_
  rintro _ _ _ ⟨b26, hb26, rfl, rfl, rfl⟩ -- NEW
  refine WL.so (SO.store 0 rfl Try.sizeOf30 rfl rfl rfl rfl (Nat.le_of_ble_eq_true rfl) (oneB_spec rfl)) rfl ?_
  rintro _ _ _ ⟨rfl, rfl, rfl⟩
  refine WL.nil ?_
  refine WP.thenC ?_
  refine WC.seq ?_
  refine WC.seq ?_
  refine WC.ofFr [(26, _), (25, _), (24, _), (23, _), (22, _), (21, _), (20, _), (19, _), (18, _), (17, _), (4, _), (2, _)] ⟨rfl, rfl, rfl, rfl, rfl, rfl, rfl, rfl, rfl, rfl, rfl, rfl, trivial⟩ ?_
  refine WC.region ?_
  refine WL.yd (Yd.move rfl) rfl ?_
  refine WL.yd (Yd.neq rfl rfl) rfl ?_
  refine WL.nil ?_
  refine WP.thenC ?_
  refine WC.cond rfl (fun c173 => ?_) (fun c173 => ?_)
  · try simp only [zq1, zq2, zq3, zq4, zq5, zq6, zq7, zq8] at c173
    refine WC.ofFr [(26, _), (25, _), (24, _), (23, _), (22, _), (21, _), (20, _), (19, _), (18, _), (17, _), (4, _), (2, _)] ⟨rfl, rfl, rfl, rfl, rfl, rfl, rfl, rfl, rfl, rfl, rfl, rfl, trivial⟩ ?_
    refine WC.region ?_
    refine WL.yd (Yd.fieldAddr FA30_0 rfl) rfl ?_
    refine WL.so (SO.store 0 rfl Try.sizeOf3 rfl rfl rfl rfl (Nat.le_of_ble_eq_true rfl) (oneB_spec rfl)) rfl ?_
    rintro _ _ _ ⟨rfl, rfl, rfl⟩
    refine WL.nil ?_
    refine WP.thenC ?_
    refine WC.seq ?_
    refine WC.seq ?_
    refine WC.ofFr [(26, _), (25, _), (24, _), (23, _), (22, _), (21, _), (20, _), (19, _), (18, _), (17, _), (4, _), (2, _)] ⟨rfl, rfl, rfl, rfl, rfl, rfl, rfl, rfl, rfl, rfl, rfl, rfl, trivial⟩ ?_
    refine WC.region ?_
    refine WL.yd (Yd.move rfl) rfl ?_
    refine WL.yd (Yd.eql rfl rfl) rfl ?_
    refine WL.nil ?_
    refine WP.thenC ?_
    refine WC.cond rfl (fun c176 => ?_) (fun c176 => ?_)
    · try simp only [zq1, zq2, zq3, zq4, zq5, zq6, zq7, zq8] at c176
      refine WC.ofFr [(26, _), (25, _), (24, _), (23, _), (22, _), (21, _), (20, _), (19, _), (18, _), (4, _), (2, _)] ⟨rfl, rfl, rfl, rfl, rfl, rfl, rfl, rfl, rfl, rfl, rfl, trivial⟩ ?_
      refine WC.region ?_
      refine WL.yd (Yd.fieldAddr FA30_1 rfl) rfl ?_
      refine WL.so (SO.store 0 rfl Try.sizeOf3 rfl rfl rfl rfl (Nat.le_of_ble_eq_true rfl) (oneB_spec rfl)) rfl ?_
      rintro _ _ _ ⟨rfl, rfl, rfl⟩
      refine WL.nil ?_
      refine WP.thenC ?_
      refine WC.seq ?_
      refine WC.ofFr [(26, _), (25, _), (24, _), (23, _), (22, _), (21, _), (20, _), (19, _), (18, _), (4, _), (2, _)] ⟨rfl, rfl, rfl, rfl, rfl, rfl, rfl, rfl, rfl, rfl, rfl, trivial⟩ ?_
      refine WC.tail 14 [0, 1, 2, 3, 4, 5, 6, 7, 8, 9, 10, 11, 12, 13] rfl (by kernel_rfl) (by kernel_rfl)  ?_
      refine WQ.q rfl (Yd.qt (Yd.fieldAddr FA30_0 rfl)) rfl ?_
      refine WQ.q rfl (Yd.qt (Yd.load1 Try.isAgg3 rfl (by first | exact Rd.own (k := 0) rfl rfl | exact Rd.own (k := 1) rfl rfl | exact Rd.own (k := 2) rfl rfl | exact Rd.own (k := 3) rfl rfl | exact Rd.own (k := 4) rfl rfl | exact Rd.own (k := 5) rfl rfl | exact Rd.own (k := 6) rfl rfl | exact Rd.own (k := 7) rfl rfl | exact Rd.own (k := 8) rfl rfl | exact Rd.own (k := 9) rfl rfl))) rfl ?_
      refine WQ.q rfl (Yd.qt (Yd.fieldAddr FA30_1 rfl)) rfl ?_
      refine WQ.q rfl (Yd.qt (Yd.load1 Try.isAgg3 rfl (by first | exact Rd.own (k := 0) rfl rfl | exact Rd.own (k := 1) rfl rfl | exact Rd.own (k := 2) rfl rfl | exact Rd.own (k := 3) rfl rfl | exact Rd.own (k := 4) rfl rfl | exact Rd.own (k := 5) rfl rfl | exact Rd.own (k := 6) rfl rfl | exact Rd.own (k := 7) rfl rfl | exact Rd.own (k := 8) rfl rfl | exact Rd.own (k := 9) rfl rfl))) rfl ?_
      refine WQ.know 179 (it (MinutesOut X.tk ((m : Int) % (X.tk.l.length : Int))).2.1.lo) rfl rfl ?_
      refine WQ.know 181 (it (MinutesOut X.tk ((m : Int) % (X.tk.l.length : Int))).1.hi) rfl rfl ?_
      refine WQ.q rfl (Yd.qt (Yd.sub rfl rfl (wr64 ⟨by omega, by omega⟩))) rfl ?_
      refine WQ.q rfl (Yd.qt (Yd.max2 rfl rfl)) rfl ?_
      refine WQ.q rfl (Yd.qt (Yd.quo rfl rfl (by omega) (by omega) (wr64 ⟨by omega, by omega⟩))) rfl ?_
      refine WQ.q rfl (Yd.qt (Yd.fieldAddr FA30_1 rfl)) rfl ?_
      refine WQ.q rfl (Yd.qt (Yd.load1 Try.isAgg3 rfl (by first | exact Rd.own (k := 0) rfl rfl | exact Rd.own (k := 1) rfl rfl | exact Rd.own (k := 2) rfl rfl | exact Rd.own (k := 3) rfl rfl | exact Rd.own (k := 4) rfl rfl | exact Rd.own (k := 5) rfl rfl | exact Rd.own (k := 6) rfl rfl | exact Rd.own (k := 7) rfl rfl | exact Rd.own (k := 8) rfl rfl | exact Rd.own (k := 9) rfl rfl))) rfl ?_
      refine WQ.q rfl (Yd.qt (Yd.fieldAddr FA30_0 rfl)) rfl ?_
      refine WQ.q rfl (Yd.qt (Yd.load1 Try.isAgg3 rfl (by first | exact Rd.own (k := 0) rfl rfl | exact Rd.own (k := 1) rfl rfl | exact Rd.own (k := 2) rfl rfl | exact Rd.own (k := 3) rfl rfl | exact Rd.own (k := 4) rfl rfl | exact Rd.own (k := 5) rfl rfl | exact Rd.own (k := 6) rfl rfl | exact Rd.own (k := 7) rfl rfl | exact Rd.own (k := 8) rfl rfl | exact Rd.own (k := 9) rfl rfl))) rfl ?_
      refine WQ.know 186 (it (MinutesOut X.tk ((m : Int) % (X.tk.l.length : Int))).2.1.hi) rfl rfl ?_
      refine WQ.know 188 (it (MinutesOut X.tk ((m : Int) % (X.tk.l.length : Int))).1.lo) rfl rfl ?_
      refine WQ.q rfl (Yd.qt (Yd.sub rfl rfl (wr64 ⟨by omega, by omega⟩))) rfl ?_
      refine WQ.q rfl (Yd.qt (Yd.quo rfl rfl (by omega) (by omega) (wr64 ⟨by omega, by omega⟩))) rfl ?_
      refine WQ.q rfl (Yd.qt (Yd.assign rfl)) rfl ?_
      refine WQ.tail ?_
      refine WL.yd (Yd.assign rfl) rfl ?_
      refine WL.nil ?_
      refine WP.thenC ?_
      refine WC.seq ?_
      refine WC.ofFr [(28, _), (27, _), (26, _), (25, _), (24, _), (23, _), (22, _), (21, _), (18, _), (4, _), (2, _)] ⟨rfl, rfl, rfl, rfl, rfl, rfl, rfl, rfl, rfl, rfl, rfl, trivial⟩ ?_
      refine WC.tail 30 [0, 1, 2, 3, 4, 5, 6, 7, 8, 9, 10, 11, 12, 13, 14, 15, 16, 17, 18, 19, 20, 21, 22, 23, 24, 25, 26, 27, 28, 29] rfl (by kernel_rfl) (by kernel_rfl)  ?_
      refine WQ.q rfl (Yd.qt (Yd.move rfl)) rfl ?_
      refine WQ.q rfl (Yd.qt (Yd.eql rfl rfl)) rfl ?_
      refine WQ.know 192 (.bool true) rfl (congrArg Value.bool (by decide)) ?_
      refine WQ.q rfl (Yd.qt (Yd.move rfl)) rfl ?_
      refine WQ.qg rfl rfl (Yd.qt (Yd.move rfl)) rfl ?_
      refine WQ.qg rfl rfl (Yd.qt (Yd.eql rfl rfl)) rfl ?_
      refine WQ.know 195 (.bool true) rfl (congrArg Value.bool (by decide)) ?_
      refine WQ.q rfl (Yd.qt (Yd.pickT rfl rfl)) rfl ?_
      refine WQ.q rfl (Yd.qt (Yd.move rfl)) rfl ?_
      refine WQ.qg rfl rfl (Yd.qt (Yd.move rfl)) rfl ?_
      refine WQ.qg rfl rfl (Yd.qt (Yd.eql rfl rfl)) rfl ?_
      refine WQ.know 199 (.bool true) rfl (congrArg Value.bool (by decide)) ?_
      refine WQ.q rfl (Yd.qt (Yd.pickT rfl rfl)) rfl ?_
      refine WQ.q rfl (Yd.qt (Yd.move rfl)) rfl ?_
      refine WQ.qg rfl rfl (Yd.qt (Yd.move rfl)) rfl ?_
      refine WQ.qg rfl rfl (Yd.qt (Yd.eql rfl rfl)) rfl ?_
      refine WQ.know 203 (.bool true) rfl (congrArg Value.bool (by decide)) ?_
      refine WQ.q rfl (Yd.qt (Yd.pickT rfl rfl)) rfl ?_
      refine WQ.q rfl (Yd.qt (Yd.move rfl)) rfl ?_
      refine WQ.qg rfl rfl (Yd.qt (Yd.loadN Try.isAgg30 Try.sizeOf30 rfl (vs := [_, _]) rfl (by first | exact RdN.own (k := 0) (n := 2) rfl rfl | exact RdN.own (k := 1) (n := 2) rfl rfl | exact RdN.own (k := 2) (n := 2) rfl rfl | exact RdN.own (k := 3) (n := 2) rfl rfl | exact RdN.own (k := 4) (n := 2) rfl rfl | exact RdN.own (k := 5) (n := 2) rfl rfl | exact RdN.own (k := 6) (n := 2) rfl rfl | exact RdN.own (k := 7) (n := 2) rfl rfl | exact RdN.own (k := 8) (n := 2) rfl rfl | exact RdN.own (k := 9) (n := 2) rfl rfl))) rfl ?_
      refine WQ.qg rfl rfl (Yd.qt (Yd.loadN Try.isAgg30 Try.sizeOf30 rfl (vs := [_, _]) rfl (by first | exact RdN.own (k := 0) (n := 2) rfl rfl | exact RdN.own (k := 1) (n := 2) rfl rfl | exact RdN.own (k := 2) (n := 2) rfl rfl | exact RdN.own (k := 3) (n := 2) rfl rfl | exact RdN.own (k := 4) (n := 2) rfl rfl | exact RdN.own (k := 5) (n := 2) rfl rfl | exact RdN.own (k := 6) (n := 2) rfl rfl | exact RdN.own (k := 7) (n := 2) rfl rfl | exact RdN.own (k := 8) (n := 2) rfl rfl | exact RdN.own (k := 9) (n := 2) rfl rfl))) rfl ?_
      refine WQ.qg rfl rfl (Yd.qt (Yd.eqS Try.eqGuardType30 (eqSp _ _ _ _) rfl rfl)) rfl ?_
      refine WQ.know 208 (.bool true) rfl (congrArg Value.bool (decide_eq_true (by unfold fineSp; simp_all))) ?_
      refine WQ.q rfl (Yd.qt (Yd.pickT rfl rfl)) rfl ?_
      refine WQ.q rfl (Yd.qt (Yd.move rfl)) rfl ?_
      refine WQ.qg rfl rfl (Yd.qt (Yd.loadN Try.isAgg30 Try.sizeOf30 rfl (vs := [_, _]) rfl (by first | exact RdN.own (k := 0) (n := 2) rfl rfl | exact RdN.own (k := 1) (n := 2) rfl rfl | exact RdN.own (k := 2) (n := 2) rfl rfl | exact RdN.own (k := 3) (n := 2) rfl rfl | exact RdN.own (k := 4) (n := 2) rfl rfl | exact RdN.own (k := 5) (n := 2) rfl rfl | exact RdN.own (k := 6) (n := 2) rfl rfl | exact RdN.own (k := 7) (n := 2) rfl rfl | exact RdN.own (k := 8) (n := 2) rfl rfl | exact RdN.own (k := 9) (n := 2) rfl rfl))) rfl ?_
      refine WQ.qg rfl rfl (Yd.qt (Yd.move rfl)) rfl ?_
      refine WQ.qg rfl rfl (Yd.qt (Yd.fieldAddr FA37_3 rfl)) rfl ?_
      refine WQ.qg rfl rfl (Yd.qt (Yd.load1 Try.isAgg3 rfl (by first | exact Rd.own (k := 0) rfl rfl | exact Rd.own (k := 1) rfl rfl | exact Rd.own (k := 2) rfl rfl | exact Rd.own (k := 3) rfl rfl | exact Rd.own (k := 4) rfl rfl | exact Rd.own (k := 5) rfl rfl | exact Rd.own (k := 6) rfl rfl | exact Rd.own (k := 7) rfl rfl | exact Rd.own (k := 8) rfl rfl | exact Rd.own (k := 9) rfl rfl))) rfl ?_
      refine WQ.know 214 (it X.wait) rfl rfl ?_
      refine WQ.know 212 (it (waitsSp X.tk ((m : Int) % (X.tk.l.length : Int))).lo) rfl rfl ?_
      refine WQ.qg rfl rfl (Yd.qt (Yd.mul rfl rfl (wr64 ⟨by omega, by omega⟩))) rfl ?_
      refine WQ.qg rfl rfl (Yd.qt (Yd.move rfl)) rfl ?_
      refine WQ.qg rfl rfl (Yd.qt (Yd.fieldAddr FA37_3 rfl)) rfl ?_
      refine WQ.qg rfl rfl (Yd.qt (Yd.load1 Try.isAgg3 rfl (by first | exact Rd.own (k := 0) rfl rfl | exact Rd.own (k := 1) rfl rfl | exact Rd.own (k := 2) rfl rfl | exact Rd.own (k := 3) rfl rfl | exact Rd.own (k := 4) rfl rfl | exact Rd.own (k := 5) rfl rfl | exact Rd.own (k := 6) rfl rfl | exact Rd.own (k := 7) rfl rfl | exact Rd.own (k := 8) rfl rfl | exact Rd.own (k := 9) rfl rfl))) rfl ?_
      refine WQ.know 218 (it X.wait) rfl rfl ?_
      refine WQ.know 216 (it (waitsSp X.tk ((m : Int) % (X.tk.l.length : Int))).hi) rfl rfl ?_
      refine WQ.qg rfl rfl (Yd.qt (Yd.mul rfl rfl (wr64 ⟨by omega, by omega⟩))) rfl ?_
      refine WQ.qg rfl rfl (Qt.callP Try.call21 rfl (fun w hI => lspan_g _ _ _)) rfl ?_
      refine WQ.tail ?_
      refine WL.ydg rfl (Yd.eqS Try.eqGuardType30 (eqSp _ _ _ _) rfl rfl) rfl ?_
      refine WL.know 221 (.bool true) rfl (congrArg Value.bool (decide_eq_true (by unfold backSp waitsSp; simp [Int.mul_comm]))) ?_
      refine WL.yd (Yd.pickT rfl rfl) rfl ?_
      refine WL.yd (Yd.move rfl) rfl ?_
      refine WL.sog rfl (SO.callP Try.call8 rfl (fun w hI => alive_g _ _ hI.imm)) rfl ?_
      rintro _ _ _ ⟨rfl, rfl, rfl⟩
      refine WL.know 224 (.bool true) rfl rfl ?_
      refine WL.yd (Yd.pickT rfl rfl) rfl ?_
      refine WL.yd (Yd.assign rfl) rfl ?_
      refine WL.nil ?_
      refine WP.thenC ?_
      refine WC.ret ?_
      refine WP.ret1 rfl rfl Try.results6 (RV.tmp rfl) (fun w hI => ⟨rfl, hI.keep⟩)
    · try simp only [zq1, zq2, zq3, zq4, zq5, zq6, zq7, zq8] at c176
      refine WC.skip ?_
      refine WP.thenC ?_
      refine WC.seq ?_
      refine WC.ofFr [(26, _), (25, _), (24, _), (23, _), (22, _), (21, _), (20, _), (19, _), (18, _), (4, _), (2, _)] ⟨rfl, rfl, rfl, rfl, rfl, rfl, rfl, rfl, rfl, rfl, rfl, trivial⟩ ?_
      refine WC.tail 14 [0, 1, 2, 3, 4, 5, 6, 7, 8, 9, 10, 11, 12, 13] rfl (by kernel_rfl) (by kernel_rfl)  ?_
      refine WQ.q rfl (Yd.qt (Yd.fieldAddr FA30_0 rfl)) rfl ?_
      refine WQ.q rfl (Yd.qt (Yd.load1 Try.isAgg3 rfl (by first | exact Rd.own (k := 0) rfl rfl | exact Rd.own (k := 1) rfl rfl | exact Rd.own (k := 2) rfl rfl | exact Rd.own (k := 3) rfl rfl | exact Rd.own (k := 4) rfl rfl | exact Rd.own (k := 5) rfl rfl | exact Rd.own (k := 6) rfl rfl | exact Rd.own (k := 7) rfl rfl | exact Rd.own (k := 8) rfl rfl | exact Rd.own (k := 9) rfl rfl))) rfl ?_
      refine WQ.q rfl (Yd.qt (Yd.fieldAddr FA30_1 rfl)) rfl ?_
      refine WQ.q rfl (Yd.qt (Yd.load1 Try.isAgg3 rfl (by first | exact Rd.own (k := 0) rfl rfl | exact Rd.own (k := 1) rfl rfl | exact Rd.own (k := 2) rfl rfl | exact Rd.own (k := 3) rfl rfl | exact Rd.own (k := 4) rfl rfl | exact Rd.own (k := 5) rfl rfl | exact Rd.own (k := 6) rfl rfl | exact Rd.own (k := 7) rfl rfl | exact Rd.own (k := 8) rfl rfl | exact Rd.own (k := 9) rfl rfl))) rfl ?_
      refine WQ.know 179 (it (MinutesOut X.tk ((m : Int) % (X.tk.l.length : Int))).2.1.lo) rfl rfl ?_
      refine WQ.know 181 (it (MinutesOut X.tk ((m : Int) % (X.tk.l.length : Int))).1.hi) rfl rfl ?_
      refine WQ.q rfl (Yd.qt (Yd.sub rfl rfl (wr64 ⟨by omega, by omega⟩))) rfl ?_
      refine WQ.q rfl (Yd.qt (Yd.max2 rfl rfl)) rfl ?_
      refine WQ.q rfl (Yd.qt (Yd.quo rfl rfl (by omega) (by omega) (wr64 ⟨by omega, by omega⟩))) rfl ?_
      refine WQ.q rfl (Yd.qt (Yd.fieldAddr FA30_1 rfl)) rfl ?_
      refine WQ.q rfl (Yd.qt (Yd.load1 Try.isAgg3 rfl (by first | exact Rd.own (k := 0) rfl rfl | exact Rd.own (k := 1) rfl rfl | exact Rd.own (k := 2) rfl rfl | exact Rd.own (k := 3) rfl rfl | exact Rd.own (k := 4) rfl rfl | exact Rd.own (k := 5) rfl rfl | exact Rd.own (k := 6) rfl rfl | exact Rd.own (k := 7) rfl rfl | exact Rd.own (k := 8) rfl rfl | exact Rd.own (k := 9) rfl rfl))) rfl ?_
      refine WQ.q rfl (Yd.qt (Yd.fieldAddr FA30_0 rfl)) rfl ?_
      refine WQ.q rfl (Yd.qt (Yd.load1 Try.isAgg3 rfl (by first | exact Rd.own (k := 0) rfl rfl | exact Rd.own (k := 1) rfl rfl | exact Rd.own (k := 2) rfl rfl | exact Rd.own (k := 3) rfl rfl | exact Rd.own (k := 4) rfl rfl | exact Rd.own (k := 5) rfl rfl | exact Rd.own (k := 6) rfl rfl | exact Rd.own (k := 7) rfl rfl | exact Rd.own (k := 8) rfl rfl | exact Rd.own (k := 9) rfl rfl))) rfl ?_
      refine WQ.know 186 (it (MinutesOut X.tk ((m : Int) % (X.tk.l.length : Int))).2.1.hi) rfl rfl ?_
      refine WQ.know 188 (it (MinutesOut X.tk ((m : Int) % (X.tk.l.length : Int))).1.lo) rfl rfl ?_
      refine WQ.q rfl (Yd.qt (Yd.sub rfl rfl (wr64 ⟨by omega, by omega⟩))) rfl ?_
      refine WQ.q rfl (Yd.qt (Yd.quo rfl rfl (by omega) (by omega) (wr64 ⟨by omega, by omega⟩))) rfl ?_
      refine WQ.q rfl (Yd.qt (Yd.assign rfl)) rfl ?_
      refine WQ.tail ?_
      refine WL.yd (Yd.assign rfl) rfl ?_
      refine WL.nil ?_
      refine WP.thenC ?_
      refine WC.seq ?_
      refine WC.ofFr [(28, _), (27, _), (26, _), (25, _), (24, _), (23, _), (22, _), (21, _), (18, _), (4, _), (2, _)] ⟨rfl, rfl, rfl, rfl, rfl, rfl, rfl, rfl, rfl, rfl, rfl, trivial⟩ ?_
      refine WC.tail 30 [0, 1, 2, 3, 4, 5, 6, 7, 8, 9, 10, 11, 12, 13, 14, 15, 16, 17, 18, 19, 20, 21, 22, 23, 24, 25, 26, 27, 28, 29] rfl (by kernel_rfl) (by kernel_rfl)  ?_
      refine WQ.q rfl (Yd.qt (Yd.move rfl)) rfl ?_
      refine WQ.q rfl (Yd.qt (Yd.eql rfl rfl)) rfl ?_
      refine WQ.know 192 (.bool true) rfl (congrArg Value.bool (by decide)) ?_
      refine WQ.q rfl (Yd.qt (Yd.move rfl)) rfl ?_
      refine WQ.qg rfl rfl (Yd.qt (Yd.move rfl)) rfl ?_
      refine WQ.qg rfl rfl (Yd.qt (Yd.eql rfl rfl)) rfl ?_
      refine WQ.know 195 (.bool true) rfl (congrArg Value.bool (by decide)) ?_
      refine WQ.q rfl (Yd.qt (Yd.pickT rfl rfl)) rfl ?_
      refine WQ.q rfl (Yd.qt (Yd.move rfl)) rfl ?_
      refine WQ.qg rfl rfl (Yd.qt (Yd.move rfl)) rfl ?_
      refine WQ.qg rfl rfl (Yd.qt (Yd.eql rfl rfl)) rfl ?_
      refine WQ.know 199 (.bool true) rfl (congrArg Value.bool (by decide)) ?_
      refine WQ.q rfl (Yd.qt (Yd.pickT rfl rfl)) rfl ?_
      refine WQ.q rfl (Yd.qt (Yd.move rfl)) rfl ?_
      refine WQ.qg rfl rfl (Yd.qt (Yd.move rfl)) rfl ?_
      refine WQ.qg rfl rfl (Yd.qt (Yd.eql rfl rfl)) rfl ?_
      refine WQ.know 203 (.bool true) rfl (congrArg Value.bool (by decide)) ?_
      refine WQ.q rfl (Yd.qt (Yd.pickT rfl rfl)) rfl ?_
      refine WQ.q rfl (Yd.qt (Yd.move rfl)) rfl ?_
      refine WQ.qg rfl rfl (Yd.qt (Yd.loadN Try.isAgg30 Try.sizeOf30 rfl (vs := [_, _]) rfl (by first | exact RdN.own (k := 0) (n := 2) rfl rfl | exact RdN.own (k := 1) (n := 2) rfl rfl | exact RdN.own (k := 2) (n := 2) rfl rfl | exact RdN.own (k := 3) (n := 2) rfl rfl | exact RdN.own (k := 4) (n := 2) rfl rfl | exact RdN.own (k := 5) (n := 2) rfl rfl | exact RdN.own (k := 6) (n := 2) rfl rfl | exact RdN.own (k := 7) (n := 2) rfl rfl | exact RdN.own (k := 8) (n := 2) rfl rfl | exact RdN.own (k := 9) (n := 2) rfl rfl))) rfl ?_
      refine WQ.qg rfl rfl (Yd.qt (Yd.loadN Try.isAgg30 Try.sizeOf30 rfl (vs := [_, _]) rfl (by first | exact RdN.own (k := 0) (n := 2) rfl rfl | exact RdN.own (k := 1) (n := 2) rfl rfl | exact RdN.own (k := 2) (n := 2) rfl rfl | exact RdN.own (k := 3) (n := 2) rfl rfl | exact RdN.own (k := 4) (n := 2) rfl rfl | exact RdN.own (k := 5) (n := 2) rfl rfl | exact RdN.own (k := 6) (n := 2) rfl rfl | exact RdN.own (k := 7) (n := 2) rfl rfl | exact RdN.own (k := 8) (n := 2) rfl rfl | exact RdN.own (k := 9) (n := 2) rfl rfl))) rfl ?_
      refine WQ.qg rfl rfl (Yd.qt (Yd.eqS Try.eqGuardType30 (eqSp _ _ _ _) rfl rfl)) rfl ?_
      refine WQ.know 208 (.bool true) rfl (congrArg Value.bool (decide_eq_true (by unfold fineSp; simp_all))) ?_
      refine WQ.q rfl (Yd.qt (Yd.pickT rfl rfl)) rfl ?_
      refine WQ.q rfl (Yd.qt (Yd.move rfl)) rfl ?_
      refine WQ.qg rfl rfl (Yd.qt (Yd.loadN Try.isAgg30 Try.sizeOf30 rfl (vs := [_, _]) rfl (by first | exact RdN.own (k := 0) (n := 2) rfl rfl | exact RdN.own (k := 1) (n := 2) rfl rfl | exact RdN.own (k := 2) (n := 2) rfl rfl | exact RdN.own (k := 3) (n := 2) rfl rfl | exact RdN.own (k := 4) (n := 2) rfl rfl | exact RdN.own (k := 5) (n := 2) rfl rfl | exact RdN.own (k := 6) (n := 2) rfl rfl | exact RdN.own (k := 7) (n := 2) rfl rfl | exact RdN.own (k := 8) (n := 2) rfl rfl | exact RdN.own (k := 9) (n := 2) rfl rfl))) rfl ?_
      refine WQ.qg rfl rfl (Yd.qt (Yd.move rfl)) rfl ?_
      refine WQ.qg rfl rfl (Yd.qt (Yd.fieldAddr FA37_3 rfl)) rfl ?_
      refine WQ.qg rfl rfl (Yd.qt (Yd.load1 Try.isAgg3 rfl (by first | exact Rd.own (k := 0) rfl rfl | exact Rd.own (k := 1) rfl rfl | exact Rd.own (k := 2) rfl rfl | exact Rd.own (k := 3) rfl rfl | exact Rd.own (k := 4) rfl rfl | exact Rd.own (k := 5) rfl rfl | exact Rd.own (k := 6) rfl rfl | exact Rd.own (k := 7) rfl rfl | exact Rd.own (k := 8) rfl rfl | exact Rd.own (k := 9) rfl rfl))) rfl ?_
      refine WQ.know 214 (it X.wait) rfl rfl ?_
      refine WQ.know 212 (it (waitsSp X.tk ((m : Int) % (X.tk.l.length : Int))).lo) rfl rfl ?_
      refine WQ.qg rfl rfl (Yd.qt (Yd.mul rfl rfl (wr64 ⟨by omega, by omega⟩))) rfl ?_
      refine WQ.qg rfl rfl (Yd.qt (Yd.move rfl)) rfl ?_
      refine WQ.qg rfl rfl (Yd.qt (Yd.fieldAddr FA37_3 rfl)) rfl ?_
      refine WQ.qg rfl rfl (Yd.qt (Yd.load1 Try.isAgg3 rfl (by first | exact Rd.own (k := 0) rfl rfl | exact Rd.own (k := 1) rfl rfl | exact Rd.own (k := 2) rfl rfl | exact Rd.own (k := 3) rfl rfl | exact Rd.own (k := 4) rfl rfl | exact Rd.own (k := 5) rfl rfl | exact Rd.own (k := 6) rfl rfl | exact Rd.own (k := 7) rfl rfl | exact Rd.own (k := 8) rfl rfl | exact Rd.own (k := 9) rfl rfl))) rfl ?_
      refine WQ.know 218 (it X.wait) rfl rfl ?_
      refine WQ.know 216 (it (waitsSp X.tk ((m : Int) % (X.tk.l.length : Int))).hi) rfl rfl ?_
      refine WQ.qg rfl rfl (Yd.qt (Yd.mul rfl rfl (wr64 ⟨by omega, by omega⟩))) rfl ?_
      refine WQ.qg rfl rfl (Qt.callP Try.call21 rfl (fun w hI => lspan_g _ _ _)) rfl ?_
      refine WQ.tail ?_
      refine WL.ydg rfl (Yd.eqS Try.eqGuardType30 (eqSp _ _ _ _) rfl rfl) rfl ?_
      refine WL.know 221 (.bool true) rfl (congrArg Value.bool (decide_eq_true (by unfold backSp waitsSp; simp [Int.mul_comm]))) ?_
      refine WL.yd (Yd.pickT rfl rfl) rfl ?_
      refine WL.yd (Yd.move rfl) rfl ?_
      refine WL.sog rfl (SO.callP Try.call8 rfl (fun w hI => alive_g _ _ hI.imm)) rfl ?_
      rintro _ _ _ ⟨rfl, rfl, rfl⟩
      refine WL.know 224 (.bool true) rfl rfl ?_
      refine WL.yd (Yd.pickT rfl rfl) rfl ?_
      refine WL.yd (Yd.assign rfl) rfl ?_
      refine WL.nil ?_
      refine WP.thenC ?_
      refine WC.ret ?_
      refine WP.ret1 rfl rfl Try.results6 (RV.tmp rfl) (fun w hI => ⟨rfl, hI.keep⟩)
  · try simp only [zq1, zq2, zq3, zq4, zq5, zq6, zq7, zq8] at c173
    refine WC.skip ?_
    refine WP.thenC ?_
    refine WC.seq ?_
    refine WC.seq ?_
    refine WC.ofFr [(26, _), (25, _), (24, _), (23, _), (22, _), (21, _), (20, _), (19, _), (18, _), (17, _), (4, _), (2, _)] ⟨rfl, rfl, rfl, rfl, rfl, rfl, rfl, rfl, rfl, rfl, rfl, rfl, trivial⟩ ?_
    refine WC.region ?_
    refine WL.yd (Yd.move rfl) rfl ?_
    refine WL.yd (Yd.eql rfl rfl) rfl ?_
    refine WL.nil ?_
    refine WP.thenC ?_
    refine WC.cond rfl (fun c176 => ?_) (fun c176 => ?_)
    · try simp only [zq1, zq2, zq3, zq4, zq5, zq6, zq7, zq8] at c176
      refine WC.ofFr [(26, _), (25, _), (24, _), (23, _), (22, _), (21, _), (20, _), (19, _), (18, _), (4, _), (2, _)] ⟨rfl, rfl, rfl, rfl, rfl, rfl, rfl, rfl, rfl, rfl, rfl, trivial⟩ ?_
      refine WC.region ?_
      refine WL.yd (Yd.fieldAddr FA30_1 rfl) rfl ?_
      refine WL.so (SO.store 0 rfl Try.sizeOf3 rfl rfl rfl rfl (Nat.le_of_ble_eq_true rfl) (oneB_spec rfl)) rfl ?_
      rintro _ _ _ ⟨rfl, rfl, rfl⟩
      refine WL.nil ?_
      refine WP.thenC ?_
      refine WC.seq ?_
      refine WC.ofFr [(26, _), (25, _), (24, _), (23, _), (22, _), (21, _), (20, _), (19, _), (18, _), (4, _), (2, _)] ⟨rfl, rfl, rfl, rfl, rfl, rfl, rfl, rfl, rfl, rfl, rfl, trivial⟩ ?_
      refine WC.tail 14 [0, 1, 2, 3, 4, 5, 6, 7, 8, 9, 10, 11, 12, 13] rfl (by kernel_rfl) (by kernel_rfl)  ?_
      refine WQ.q rfl (Yd.qt (Yd.fieldAddr FA30_0 rfl)) rfl ?_
      refine WQ.q rfl (Yd.qt (Yd.load1 Try.isAgg3 rfl (by first | exact Rd.own (k := 0) rfl rfl | exact Rd.own (k := 1) rfl rfl | exact Rd.own (k := 2) rfl rfl | exact Rd.own (k := 3) rfl rfl | exact Rd.own (k := 4) rfl rfl | exact Rd.own (k := 5) rfl rfl | exact Rd.own (k := 6) rfl rfl | exact Rd.own (k := 7) rfl rfl | exact Rd.own (k := 8) rfl rfl | exact Rd.own (k := 9) rfl rfl))) rfl ?_
      refine WQ.q rfl (Yd.qt (Yd.fieldAddr FA30_1 rfl)) rfl ?_
      refine WQ.q rfl (Yd.qt (Yd.load1 Try.isAgg3 rfl (by first | exact Rd.own (k := 0) rfl rfl | exact Rd.own (k := 1) rfl rfl | exact Rd.own (k := 2) rfl rfl | exact Rd.own (k := 3) rfl rfl | exact Rd.own (k := 4) rfl rfl | exact Rd.own (k := 5) rfl rfl | exact Rd.own (k := 6) rfl rfl | exact Rd.own (k := 7) rfl rfl | exact Rd.own (k := 8) rfl rfl | exact Rd.own (k := 9) rfl rfl))) rfl ?_
      refine WQ.know 179 (it (MinutesOut X.tk ((m : Int) % (X.tk.l.length : Int))).2.1.lo) rfl rfl ?_
      refine WQ.know 181 (it (MinutesOut X.tk ((m : Int) % (X.tk.l.length : Int))).1.hi) rfl rfl ?_
      refine WQ.q rfl (Yd.qt (Yd.sub rfl rfl (wr64 ⟨by omega, by omega⟩))) rfl ?_
      refine WQ.q rfl (Yd.qt (Yd.max2 rfl rfl)) rfl ?_
      refine WQ.q rfl (Yd.qt (Yd.quo rfl rfl (by omega) (by omega) (wr64 ⟨by omega, by omega⟩))) rfl ?_
      refine WQ.q rfl (Yd.qt (Yd.fieldAddr FA30_1 rfl)) rfl ?_
      refine WQ.q rfl (Yd.qt (Yd.load1 Try.isAgg3 rfl (by first | exact Rd.own (k := 0) rfl rfl | exact Rd.own (k := 1) rfl rfl | exact Rd.own (k := 2) rfl rfl | exact Rd.own (k := 3) rfl rfl | exact Rd.own (k := 4) rfl rfl | exact Rd.own (k := 5) rfl rfl | exact Rd.own (k := 6) rfl rfl | exact Rd.own (k := 7) rfl rfl | exact Rd.own (k := 8) rfl rfl | exact Rd.own (k := 9) rfl rfl))) rfl ?_
      refine WQ.q rfl (Yd.qt (Yd.fieldAddr FA30_0 rfl)) rfl ?_
      refine WQ.q rfl (Yd.qt (Yd.load1 Try.isAgg3 rfl (by first | exact Rd.own (k := 0) rfl rfl | exact Rd.own (k := 1) rfl rfl | exact Rd.own (k := 2) rfl rfl | exact Rd.own (k := 3) rfl rfl | exact Rd.own (k := 4) rfl rfl | exact Rd.own (k := 5) rfl rfl | exact Rd.own (k := 6) rfl rfl | exact Rd.own (k := 7) rfl rfl | exact Rd.own (k := 8) rfl rfl | exact Rd.own (k := 9) rfl rfl))) rfl ?_
      refine WQ.know 186 (it (MinutesOut X.tk ((m : Int) % (X.tk.l.length : Int))).2.1.hi) rfl rfl ?_
      refine WQ.know 188 (it (MinutesOut X.tk ((m : Int) % (X.tk.l.length : Int))).1.lo) rfl rfl ?_
      refine WQ.q rfl (Yd.qt (Yd.sub rfl rfl (wr64 ⟨by omega, by omega⟩))) rfl ?_
      refine WQ.q rfl (Yd.qt (Yd.quo rfl rfl (by omega) (by omega) (wr64 ⟨by omega, by omega⟩))) rfl ?_
      refine WQ.q rfl (Yd.qt (Yd.assign rfl)) rfl ?_
      refine WQ.tail ?_
      refine WL.yd (Yd.assign rfl) rfl ?_
      refine WL.nil ?_
      refine WP.thenC ?_
      refine WC.seq ?_
      refine WC.ofFr [(28, _), (27, _), (26, _), (25, _), (24, _), (23, _), (22, _), (21, _), (18, _), (4, _), (2, _)] ⟨rfl, rfl, rfl, rfl, rfl, rfl, rfl, rfl, rfl, rfl, rfl, trivial⟩ ?_
      refine WC.tail 30 [0, 1, 2, 3, 4, 5, 6, 7, 8, 9, 10, 11, 12, 13, 14, 15, 16, 17, 18, 19, 20, 21, 22, 23, 24, 25, 26, 27, 28, 29] rfl (by kernel_rfl) (by kernel_rfl)  ?_
      refine WQ.q rfl (Yd.qt (Yd.move rfl)) rfl ?_
      refine WQ.q rfl (Yd.qt (Yd.eql rfl rfl)) rfl ?_
      refine WQ.know 192 (.bool true) rfl (congrArg Value.bool (by decide)) ?_
      refine WQ.q rfl (Yd.qt (Yd.move rfl)) rfl ?_
      refine WQ.qg rfl rfl (Yd.qt (Yd.move rfl)) rfl ?_
      refine WQ.qg rfl rfl (Yd.qt (Yd.eql rfl rfl)) rfl ?_
      refine WQ.know 195 (.bool true) rfl (congrArg Value.bool (by decide)) ?_
      refine WQ.q rfl (Yd.qt (Yd.pickT rfl rfl)) rfl ?_
      refine WQ.q rfl (Yd.qt (Yd.move rfl)) rfl ?_
      refine WQ.qg rfl rfl (Yd.qt (Yd.move rfl)) rfl ?_
      refine WQ.qg rfl rfl (Yd.qt (Yd.eql rfl rfl)) rfl ?_
      refine WQ.know 199 (.bool true) rfl (congrArg Value.bool (by decide)) ?_
      refine WQ.q rfl (Yd.qt (Yd.pickT rfl rfl)) rfl ?_
      refine WQ.q rfl (Yd.qt (Yd.move rfl)) rfl ?_
      refine WQ.qg rfl rfl (Yd.qt (Yd.move rfl)) rfl ?_
      refine WQ.qg rfl rfl (Yd.qt (Yd.eql rfl rfl)) rfl ?_
      refine WQ.know 203 (.bool true) rfl (congrArg Value.bool (by decide)) ?_
      refine WQ.q rfl (Yd.qt (Yd.pickT rfl rfl)) rfl ?_
      refine WQ.q rfl (Yd.qt (Yd.move rfl)) rfl ?_
      refine WQ.qg rfl rfl (Yd.qt (Yd.loadN Try.isAgg30 Try.sizeOf30 rfl (vs := [_, _]) rfl (by first | exact RdN.own (k := 0) (n := 2) rfl rfl | exact RdN.own (k := 1) (n := 2) rfl rfl | exact RdN.own (k := 2) (n := 2) rfl rfl | exact RdN.own (k := 3) (n := 2) rfl rfl | exact RdN.own (k := 4) (n := 2) rfl rfl | exact RdN.own (k := 5) (n := 2) rfl rfl | exact RdN.own (k := 6) (n := 2) rfl rfl | exact RdN.own (k := 7) (n := 2) rfl rfl | exact RdN.own (k := 8) (n := 2) rfl rfl | exact RdN.own (k := 9) (n := 2) rfl rfl))) rfl ?_
      refine WQ.qg rfl rfl (Yd.qt (Yd.loadN Try.isAgg30 Try.sizeOf30 rfl (vs := [_, _]) rfl (by first | exact RdN.own (k := 0) (n := 2) rfl rfl | exact RdN.own (k := 1) (n := 2) rfl rfl | exact RdN.own (k := 2) (n := 2) rfl rfl | exact RdN.own (k := 3) (n := 2) rfl rfl | exact RdN.own (k := 4) (n := 2) rfl rfl | exact RdN.own (k := 5) (n := 2) rfl rfl | exact RdN.own (k := 6) (n := 2) rfl rfl | exact RdN.own (k := 7) (n := 2) rfl rfl | exact RdN.own (k := 8) (n := 2) rfl rfl | exact RdN.own (k := 9) (n := 2) rfl rfl))) rfl ?_
      refine WQ.qg rfl rfl (Yd.qt (Yd.eqS Try.eqGuardType30 (eqSp _ _ _ _) rfl rfl)) rfl ?_
      refine WQ.know 208 (.bool true) rfl (congrArg Value.bool (decide_eq_true (by unfold fineSp; simp_all))) ?_
      refine WQ.q rfl (Yd.qt (Yd.pickT rfl rfl)) rfl ?_
      refine WQ.q rfl (Yd.qt (Yd.move rfl)) rfl ?_
      refine WQ.qg rfl rfl (Yd.qt (Yd.loadN Try.isAgg30 Try.sizeOf30 rfl (vs := [_, _]) rfl (by first | exact RdN.own (k := 0) (n := 2) rfl rfl | exact RdN.own (k := 1) (n := 2) rfl rfl | exact RdN.own (k := 2) (n := 2) rfl rfl | exact RdN.own (k := 3) (n := 2) rfl rfl | exact RdN.own (k := 4) (n := 2) rfl rfl | exact RdN.own (k := 5) (n := 2) rfl rfl | exact RdN.own (k := 6) (n := 2) rfl rfl | exact RdN.own (k := 7) (n := 2) rfl rfl | exact RdN.own (k := 8) (n := 2) rfl rfl | exact RdN.own (k := 9) (n := 2) rfl rfl))) rfl ?_
      refine WQ.qg rfl rfl (Yd.qt (Yd.move rfl)) rfl ?_
      refine WQ.qg rfl rfl (Yd.qt (Yd.fieldAddr FA37_3 rfl)) rfl ?_
      refine WQ.qg rfl rfl (Yd.qt (Yd.load1 Try.isAgg3 rfl (by first | exact Rd.own (k := 0) rfl rfl | exact Rd.own (k := 1) rfl rfl | exact Rd.own (k := 2) rfl rfl | exact Rd.own (k := 3) rfl rfl | exact Rd.own (k := 4) rfl rfl | exact Rd.own (k := 5) rfl rfl | exact Rd.own (k := 6) rfl rfl | exact Rd.own (k := 7) rfl rfl | exact Rd.own (k := 8) rfl rfl | exact Rd.own (k := 9) rfl rfl))) rfl ?_
      refine WQ.know 214 (it X.wait) rfl rfl ?_
      refine WQ.know 212 (it (waitsSp X.tk ((m : Int) % (X.tk.l.length : Int))).lo) rfl rfl ?_
      refine WQ.qg rfl rfl (Yd.qt (Yd.mul rfl rfl (wr64 ⟨by omega, by omega⟩))) rfl ?_
      refine WQ.qg rfl rfl (Yd.qt (Yd.move rfl)) rfl ?_
      refine WQ.qg rfl rfl (Yd.qt (Yd.fieldAddr FA37_3 rfl)) rfl ?_
      refine WQ.qg rfl rfl (Yd.qt (Yd.load1 Try.isAgg3 rfl (by first | exact Rd.own (k := 0) rfl rfl | exact Rd.own (k := 1) rfl rfl | exact Rd.own (k := 2) rfl rfl | exact Rd.own (k := 3) rfl rfl | exact Rd.own (k := 4) rfl rfl | exact Rd.own (k := 5) rfl rfl | exact Rd.own (k := 6) rfl rfl | exact Rd.own (k := 7) rfl rfl | exact Rd.own (k := 8) rfl rfl | exact Rd.own (k := 9) rfl rfl))) rfl ?_
      refine WQ.know 218 (it X.wait) rfl rfl ?_
      refine WQ.know 216 (it (waitsSp X.tk ((m : Int) % (X.tk.l.length : Int))).hi) rfl rfl ?_
      refine WQ.qg rfl rfl (Yd.qt (Yd.mul rfl rfl (wr64 ⟨by omega, by omega⟩))) rfl ?_
      refine WQ.qg rfl rfl (Qt.callP Try.call21 rfl (fun w hI => lspan_g _ _ _)) rfl ?_
      refine WQ.tail ?_
      refine WL.ydg rfl (Yd.eqS Try.eqGuardType30 (eqSp _ _ _ _) rfl rfl) rfl ?_
      refine WL.know 221 (.bool true) rfl (congrArg Value.bool (decide_eq_true (by unfold backSp waitsSp; simp [Int.mul_comm]))) ?_
      refine WL.yd (Yd.pickT rfl rfl) rfl ?_
      refine WL.yd (Yd.move rfl) rfl ?_
      refine WL.sog rfl (SO.callP Try.call8 rfl (fun w hI => alive_g _ _ hI.imm)) rfl ?_
      rintro _ _ _ ⟨rfl, rfl, rfl⟩
      refine WL.know 224 (.bool true) rfl rfl ?_
      refine WL.yd (Yd.pickT rfl rfl) rfl ?_
      refine WL.yd (Yd.assign rfl) rfl ?_
      refine WL.nil ?_
      refine WP.thenC ?_
      refine WC.ret ?_
      refine WP.ret1 rfl rfl Try.results6 (RV.tmp rfl) (fun w hI => ⟨rfl, hI.keep⟩)
    · try simp only [zq1, zq2, zq3, zq4, zq5, zq6, zq7, zq8] at c176
      refine WC.skip ?_
      refine WP.thenC ?_
      refine WC.seq ?_
      refine WC.ofFr [(26, _), (25, _), (24, _), (23, _), (22, _), (21, _), (20, _), (19, _), (18, _), (4, _), (2, _)] ⟨rfl, rfl, rfl, rfl, rfl, rfl, rfl, rfl, rfl, rfl, rfl, trivial⟩ ?_
      refine WC.tail 14 [0, 1, 2, 3, 4, 5, 6, 7, 8, 9, 10, 11, 12, 13] rfl (by kernel_rfl) (by kernel_rfl)  ?_
      refine WQ.q rfl (Yd.qt (Yd.fieldAddr FA30_0 rfl)) rfl ?_
      refine WQ.q rfl (Yd.qt (Yd.load1 Try.isAgg3 rfl (by first | exact Rd.own (k := 0) rfl rfl | exact Rd.own (k := 1) rfl rfl | exact Rd.own (k := 2) rfl rfl | exact Rd.own (k := 3) rfl rfl | exact Rd.own (k := 4) rfl rfl | exact Rd.own (k := 5) rfl rfl | exact Rd.own (k := 6) rfl rfl | exact Rd.own (k := 7) rfl rfl | exact Rd.own (k := 8) rfl rfl | exact Rd.own (k := 9) rfl rfl))) rfl ?_
      refine WQ.q rfl (Yd.qt (Yd.fieldAddr FA30_1 rfl)) rfl ?_
      refine WQ.q rfl (Yd.qt (Yd.load1 Try.isAgg3 rfl (by first | exact Rd.own (k := 0) rfl rfl | exact Rd.own (k := 1) rfl rfl | exact Rd.own (k := 2) rfl rfl | exact Rd.own (k := 3) rfl rfl | exact Rd.own (k := 4) rfl rfl | exact Rd.own (k := 5) rfl rfl | exact Rd.own (k := 6) rfl rfl | exact Rd.own (k := 7) rfl rfl | exact Rd.own (k := 8) rfl rfl | exact Rd.own (k := 9) rfl rfl))) rfl ?_
      refine WQ.know 179 (it (MinutesOut X.tk ((m : Int) % (X.tk.l.length : Int))).2.1.lo) rfl rfl ?_
      refine WQ.know 181 (it (MinutesOut X.tk ((m : Int) % (X.tk.l.length : Int))).1.hi) rfl rfl ?_
      refine WQ.q rfl (Yd.qt (Yd.sub rfl rfl (wr64 ⟨by omega, by omega⟩))) rfl ?_
      refine WQ.q rfl (Yd.qt (Yd.max2 rfl rfl)) rfl ?_
      refine WQ.q rfl (Yd.qt (Yd.quo rfl rfl (by omega) (by omega) (wr64 ⟨by omega, by omega⟩))) rfl ?_
      refine WQ.q rfl (Yd.qt (Yd.fieldAddr FA30_1 rfl)) rfl ?_
      refine WQ.q rfl (Yd.qt (Yd.load1 Try.isAgg3 rfl (by first | exact Rd.own (k := 0) rfl rfl | exact Rd.own (k := 1) rfl rfl | exact Rd.own (k := 2) rfl rfl | exact Rd.own (k := 3) rfl rfl | exact Rd.own (k := 4) rfl rfl | exact Rd.own (k := 5) rfl rfl | exact Rd.own (k := 6) rfl rfl | exact Rd.own (k := 7) rfl rfl | exact Rd.own (k := 8) rfl rfl | exact Rd.own (k := 9) rfl rfl))) rfl ?_
      refine WQ.q rfl (Yd.qt (Yd.fieldAddr FA30_0 rfl)) rfl ?_
      refine WQ.q rfl (Yd.qt (Yd.load1 Try.isAgg3 rfl (by first | exact Rd.own (k := 0) rfl rfl | exact Rd.own (k := 1) rfl rfl | exact Rd.own (k := 2) rfl rfl | exact Rd.own (k := 3) rfl rfl | exact Rd.own (k := 4) rfl rfl | exact Rd.own (k := 5) rfl rfl | exact Rd.own (k := 6) rfl rfl | exact Rd.own (k := 7) rfl rfl | exact Rd.own (k := 8) rfl rfl | exact Rd.own (k := 9) rfl rfl))) rfl ?_
      refine WQ.know 186 (it (MinutesOut X.tk ((m : Int) % (X.tk.l.length : Int))).2.1.hi) rfl rfl ?_
      refine WQ.know 188 (it (MinutesOut X.tk ((m : Int) % (X.tk.l.length : Int))).1.lo) rfl rfl ?_
      refine WQ.q rfl (Yd.qt (Yd.sub rfl rfl (wr64 ⟨by omega, by omega⟩))) rfl ?_
      refine WQ.q rfl (Yd.qt (Yd.quo rfl rfl (by omega) (by omega) (wr64 ⟨by omega, by omega⟩))) rfl ?_
      refine WQ.q rfl (Yd.qt (Yd.assign rfl)) rfl ?_
      refine WQ.tail ?_
      refine WL.yd (Yd.assign rfl) rfl ?_
      refine WL.nil ?_
      refine WP.thenC ?_
      refine WC.seq ?_
      refine WC.ofFr [(28, _), (27, _), (26, _), (25, _), (24, _), (23, _), (22, _), (21, _), (18, _), (4, _), (2, _)] ⟨rfl, rfl, rfl, rfl, rfl, rfl, rfl, rfl, rfl, rfl, rfl, trivial⟩ ?_
      refine WC.tail 30 [0, 1, 2, 3, 4, 5, 6, 7, 8, 9, 10, 11, 12, 13, 14, 15, 16, 17, 18, 19, 20, 21, 22, 23, 24, 25, 26, 27, 28, 29] rfl (by kernel_rfl) (by kernel_rfl)  ?_
      refine WQ.q rfl (Yd.qt (Yd.move rfl)) rfl ?_
      refine WQ.q rfl (Yd.qt (Yd.eql rfl rfl)) rfl ?_
      refine WQ.know 192 (.bool true) rfl (congrArg Value.bool (by decide)) ?_
      refine WQ.q rfl (Yd.qt (Yd.move rfl)) rfl ?_
      refine WQ.qg rfl rfl (Yd.qt (Yd.move rfl)) rfl ?_
      refine WQ.qg rfl rfl (Yd.qt (Yd.eql rfl rfl)) rfl ?_
      refine WQ.know 195 (.bool true) rfl (congrArg Value.bool (by decide)) ?_
      refine WQ.q rfl (Yd.qt (Yd.pickT rfl rfl)) rfl ?_
      refine WQ.q rfl (Yd.qt (Yd.move rfl)) rfl ?_
      refine WQ.qg rfl rfl (Yd.qt (Yd.move rfl)) rfl ?_
      refine WQ.qg rfl rfl (Yd.qt (Yd.eql rfl rfl)) rfl ?_
      refine WQ.know 199 (.bool true) rfl (congrArg Value.bool (by decide)) ?_
      refine WQ.q rfl (Yd.qt (Yd.pickT rfl rfl)) rfl ?_
      refine WQ.q rfl (Yd.qt (Yd.move rfl)) rfl ?_
      refine WQ.qg rfl rfl (Yd.qt (Yd.move rfl)) rfl ?_
      refine WQ.qg rfl rfl (Yd.qt (Yd.eql rfl rfl)) rfl ?_
      refine WQ.know 203 (.bool true) rfl (congrArg Value.bool (by decide)) ?_
      refine WQ.q rfl (Yd.qt (Yd.pickT rfl rfl)) rfl ?_
      refine WQ.q rfl (Yd.qt (Yd.move rfl)) rfl ?_
      refine WQ.qg rfl rfl (Yd.qt (Yd.loadN Try.isAgg30 Try.sizeOf30 rfl (vs := [_, _]) rfl (by first | exact RdN.own (k := 0) (n := 2) rfl rfl | exact RdN.own (k := 1) (n := 2) rfl rfl | exact RdN.own (k := 2) (n := 2) rfl rfl | exact RdN.own (k := 3) (n := 2) rfl rfl | exact RdN.own (k := 4) (n := 2) rfl rfl | exact RdN.own (k := 5) (n := 2) rfl rfl | exact RdN.own (k := 6) (n := 2) rfl rfl | exact RdN.own (k := 7) (n := 2) rfl rfl | exact RdN.own (k := 8) (n := 2) rfl rfl | exact RdN.own (k := 9) (n := 2) rfl rfl))) rfl ?_
      refine WQ.qg rfl rfl (Yd.qt (Yd.loadN Try.isAgg30 Try.sizeOf30 rfl (vs := [_, _]) rfl (by first | exact RdN.own (k := 0) (n := 2) rfl rfl | exact RdN.own (k := 1) (n := 2) rfl rfl | exact RdN.own (k := 2) (n := 2) rfl rfl | exact RdN.own (k := 3) (n := 2) rfl rfl | exact RdN.own (k := 4) (n := 2) rfl rfl | exact RdN.own (k := 5) (n := 2) rfl rfl | exact RdN.own (k := 6) (n := 2) rfl rfl | exact RdN.own (k := 7) (n := 2) rfl rfl | exact RdN.own (k := 8) (n := 2) rfl rfl | exact RdN.own (k := 9) (n := 2) rfl rfl))) rfl ?_
      refine WQ.qg rfl rfl (Yd.qt (Yd.eqS Try.eqGuardType30 (eqSp _ _ _ _) rfl rfl)) rfl ?_
      refine WQ.know 208 (.bool true) rfl (congrArg Value.bool (decide_eq_true (by unfold fineSp; simp_all))) ?_
      refine WQ.q rfl (Yd.qt (Yd.pickT rfl rfl)) rfl ?_
      refine WQ.q rfl (Yd.qt (Yd.move rfl)) rfl ?_
      refine WQ.qg rfl rfl (Yd.qt (Yd.loadN Try.isAgg30 Try.sizeOf30 rfl (vs := [_, _]) rfl (by first | exact RdN.own (k := 0) (n := 2) rfl rfl | exact RdN.own (k := 1) (n := 2) rfl rfl | exact RdN.own (k := 2) (n := 2) rfl rfl | exact RdN.own (k := 3) (n := 2) rfl rfl | exact RdN.own (k := 4) (n := 2) rfl rfl | exact RdN.own (k := 5) (n := 2) rfl rfl | exact RdN.own (k := 6) (n := 2) rfl rfl | exact RdN.own (k := 7) (n := 2) rfl rfl | exact RdN.own (k := 8) (n := 2) rfl rfl | exact RdN.own (k := 9) (n := 2) rfl rfl))) rfl ?_
      refine WQ.qg rfl rfl (Yd.qt (Yd.move rfl)) rfl ?_
      refine WQ.qg rfl rfl (Yd.qt (Yd.fieldAddr FA37_3 rfl)) rfl ?_
      refine WQ.qg rfl rfl (Yd.qt (Yd.load1 Try.isAgg3 rfl (by first | exact Rd.own (k := 0) rfl rfl | exact Rd.own (k := 1) rfl rfl | exact Rd.own (k := 2) rfl rfl | exact Rd.own (k := 3) rfl rfl | exact Rd.own (k := 4) rfl rfl | exact Rd.own (k := 5) rfl rfl | exact Rd.own (k := 6) rfl rfl | exact Rd.own (k := 7) rfl rfl | exact Rd.own (k := 8) rfl rfl | exact Rd.own (k := 9) rfl rfl))) rfl ?_
      refine WQ.know 214 (it X.wait) rfl rfl ?_
      refine WQ.know 212 (it (waitsSp X.tk ((m : Int) % (X.tk.l.length : Int))).lo) rfl rfl ?_
      refine WQ.qg rfl rfl (Yd.qt (Yd.mul rfl rfl (wr64 ⟨by omega, by omega⟩))) rfl ?_
      refine WQ.qg rfl rfl (Yd.qt (Yd.move rfl)) rfl ?_
      refine WQ.qg rfl rfl (Yd.qt (Yd.fieldAddr FA37_3 rfl)) rfl ?_
      refine WQ.qg rfl rfl (Yd.qt (Yd.load1 Try.isAgg3 rfl (by first | exact Rd.own (k := 0) rfl rfl | exact Rd.own (k := 1) rfl rfl | exact Rd.own (k := 2) rfl rfl | exact Rd.own (k := 3) rfl rfl | exact Rd.own (k := 4) rfl rfl | exact Rd.own (k := 5) rfl rfl | exact Rd.own (k := 6) rfl rfl | exact Rd.own (k := 7) rfl rfl | exact Rd.own (k := 8) rfl rfl | exact Rd.own (k := 9) rfl rfl))) rfl ?_
      refine WQ.know 218 (it X.wait) rfl rfl ?_
      refine WQ.know 216 (it (waitsSp X.tk ((m : Int) % (X.tk.l.length : Int))).hi) rfl rfl ?_
      refine WQ.qg rfl rfl (Yd.qt (Yd.mul rfl rfl (wr64 ⟨by omega, by omega⟩))) rfl ?_
      refine WQ.qg rfl rfl (Qt.callP Try.call21 rfl (fun w hI => lspan_g _ _ _)) rfl ?_
      refine WQ.tail ?_
      refine WL.ydg rfl (Yd.eqS Try.eqGuardType30 (eqSp _ _ _ _) rfl rfl) rfl ?_
      refine WL.know 221 (.bool true) rfl (congrArg Value.bool (decide_eq_true (by unfold backSp waitsSp; simp [Int.mul_comm]))) ?_
      refine WL.yd (Yd.pickT rfl rfl) rfl ?_
      refine WL.yd (Yd.move rfl) rfl ?_
      refine WL.sog rfl (SO.callP Try.call8 rfl (fun w hI => alive_g _ _ hI.imm)) rfl ?_
      rintro _ _ _ ⟨rfl, rfl, rfl⟩
      refine WL.know 224 (.bool true) rfl rfl ?_
      refine WL.yd (Yd.pickT rfl rfl) rfl ?_
      refine WL.yd (Yd.assign rfl) rfl ?_
      refine WL.nil ?_
      refine WP.thenC ?_
      refine WC.ret ?_
      refine WP.ret1 rfl rfl Try.results6 (RV.tmp rfl) (fun w hI => ⟨rfl, hI.keep⟩)

theorem spansL_g (X : Till) (a1 : Option Addr) (n1 c1 : Nat) (D : Imm) (w : World) (hS : SlL D 5 (X.tk.l.map tickC) a1 n1) (hH : Holds D w) (m : Nat) (hm : m < 256) : Gives Try.prog 6 [.agg #[it X.tk.huts, .slice a1 n1 c1, it X.price, it X.fine, it X.wait], .int .u8 m] w (.bool true) := by
  rcases Nat.lt_or_ge 60 n1 with h | h
  · exact spans_a X a1 n1 c1 D w hS hH m hm h
  · cases hb : tillB X with
    | false => exact spans_b X a1 n1 c1 D w hS hH m hm h hb
    | true =>
      rcases tks_e10 (tillB_num hb).1 with hW | hW
      · rcases Nat.eq_zero_or_pos n1 with hz | hz
        · exact spans_d X a1 n1 c1 D w hS hH m hm h hb hW hz
        · exact spans_e X a1 n1 c1 D w hS hH m hm h hb hW hz
      · exact spans_c X a1 n1 c1 D w hS hH m hm h hb hW

end Go.Proofs.Ytpnbkdlejfmbeaa
