import Derived.Test.YtpnbkdlejfmbeaaXI
import Derived.Test.YtpnbkdlejfmbeaaXT
set_option linter.unusedSimpArgs false
set_option linter.unusedVariables false
set_option linter.all false
namespace Go.Proofs.Ytpnbkdlejfmbeaa
open Go.W Go.Ti
theorem SA93 : StructAt Try.prog 93 [.nilFunc] [(0, 1)] := ⟨⟨_, Try.zeroValue93, rfl⟩, _, Try.underlying93, fun w => by simp [Try.sizeOf91]⟩
theorem openX_ok (X : Till) (a1 : Option Addr) (n1 c1 : Nat) (D : Imm) (w : World) (hR : TksR D X.tk a1 n1) (hH : Holds D w) (l : List Ent) (ab : Option Addr) (nb cb : Nat) (hB : BookR D l ab nb) (fi : FuncId) (cp : List Value) (is : Bool) (hfi : ∀ args w, (callFunc fi args).run Try.prog w = .ok (.enter fi args) w) (hIs : ∀ w', Holds D w' → Gives Try.prog fi (.agg #[it X.tk.huts, .slice a1 n1 c1, it X.price, it X.fine, it X.wait] :: cp) w' (.bool is)) (h : tillE X l is = 0) : Gives Try.prog 44 [.agg #[it X.tk.huts, .slice a1 n1 c1, it X.price, it X.fine, it X.wait], .slice ab nb cb, .func (.func fi) #[] cp.toArray] w (.agg #[it X.tk.huts, .slice a1 n1 c1, it X.price, it X.fine, it X.wait]) := (openX_g X a1 n1 c1 D w hR hH l ab nb cb hB fi cp is hfi hIs).mono fun e w' ⟨h1, h2⟩ => ⟨by rw [h1, h]; rfl, h2⟩
theorem openX_no (X : Till) (a1 : Option Addr) (n1 c1 : Nat) (D : Imm) (w : World) (hR : TksR D X.tk a1 n1) (hH : Holds D w) (l : List Ent) (ab : Option Addr) (nb cb : Nat) (hB : BookR D l ab nb) (fi : FuncId) (cp : List Value) (is : Bool) (hfi : ∀ args w, (callFunc fi args).run Try.prog w = .ok (.enter fi args) w) (hIs : ∀ w', Holds D w' → Gives Try.prog fi (.agg #[it X.tk.huts, .slice a1 n1 c1, it X.price, it X.fine, it X.wait] :: cp) w' (.bool is)) (h : tillE X l is ≠ 0) : Fails Try.prog 44 [.agg #[it X.tk.huts, .slice a1 n1 c1, it X.price, it X.fine, it X.wait], .slice ab nb cb, .func (.func fi) #[] cp.toArray] w (stopT (tillE X l is)) := (openX_g X a1 n1 c1 D w hR hH l ab nb cb hB fi cp is hfi hIs).mono fun e w' ⟨h1, h2⟩ => ⟨by rw [h1]; unfold openT; rw [if_neg h], h2⟩
theorem Waits_e (T : Tks) : (WaitsOut T).2 = tksE T true := by
  unfold WaitsOut
  split
  · rfl
  · rename_i h; simpa using (Classical.not_not.1 h).symm
theorem Wrong_e (T : Tks) : (WrongOut T).2 = tksE T true := by
  unfold WrongOut
  split
  · rfl
  · rename_i h; simpa using (Classical.not_not.1 h).symm
def kindAt : Nat → Value
  | 0 => .nilIface
  | 1 => .iface 137 (.agg #[])
  | 2 => .iface 139 (.agg #[])
  | _ => .iface 140 (.agg #[])
def kindsC : List Value := [.nilIface, .iface 137 (.agg #[]), .iface 139 (.agg #[]), .iface 140 (.agg #[])]
theorem kinds_part {k : Nat} (hk : k < 4) : ∀ w, (part 102 kindsC.toArray (k * 1)).run Try.prog w = .ok (kindAt k) w := by
  intro w
  rcases (show k = 0 ∨ k = 1 ∨ k = 2 ∨ k = 3 by omega) with rfl | rfl | rfl | rfl <;> simp [part, Try.isAgg102, kindsC, kindAt]
theorem odd_num {n : Nat} (hn : n ≤ 5) (t : Tru) : 0 ≤ oddT n t ∧ oddT n t ≤ 5 := by
  have := oddK_bound n n t
  unfold oddK at this
  unfold oddT
  omega
theorem wrong_num (T : Tks) : (0 ≤ (WrongOut T).1.lo ∧ (WrongOut T).1.lo ≤ 5) ∧ (0 ≤ (WrongOut T).1.hi ∧ (WrongOut T).1.hi ≤ 5) := by
  unfold WrongOut
  split
  · simp
  · rename_i h
    obtain ⟨hv, _, hne⟩ := tksE_zero (T := T) (is := true) (by omega)
    have h5 := (tks_num hv).2.1
    obtain ⟨⟨t1, m1, e1⟩, ⟨t2, m2, e2⟩, _⟩ := spanS_spec (oddT T.l.length) hne
    have b1 := odd_num h5 t1
    have b2 := odd_num h5 t2
    simp only
    omega

set_option maxRecDepth 100000 in
set_option maxHeartbeats 1000000 in
theorem takC_g (X : Till) (s1 : Value) (b1 : Nat) (D : Imm) (h1 : D b1 = some (.cells (List.toArray (tillC X s1)) 82 (0, 0))) (v : Value) (w : World) (hH : Holds D w) : Gives Try.prog 56 [v, pt b1] w (it X.price) := by
  unfold Gives
  refine enter Try.func56 rfl 7 Try.ntmps56 (Nat.le_of_ble_eq_true rfl) (Inv.start hH) ?_
  refine WC.seq ?_
  refine WC.ofFr [(1, _)] ⟨rfl, trivial⟩ ?_
  refine WC.region ?_
  refine WL.yd (Yd.assign rfl) rfl ?_
  refine WL.nil ?_
  refine WP.thenC ?_
  refine WC.seq ?_
  refine WC.ofFr [(3, _), (1, _)] ⟨rfl, rfl, trivial⟩ ?_
  refine WC.region ?_
  refine WL.yd (Yd.fieldAddr FA82_0 rfl) rfl ?_
  refine WL.yd (Yd.fieldAddr FA37_1 rfl) rfl ?_
  refine WL.yd (Yd.load1 Try.isAgg3 rfl (by first | exact (Rd.imm h1 rfl))) rfl ?_
  refine WL.yd (Yd.assign rfl) rfl ?_
  refine WL.nil ?_
  refine WP.thenC ?_
  refine WC.ret ?_
  refine WP.ret1 rfl rfl Try.results56 (RV.tmp rfl) (fun w hI => ⟨rfl, hI.keep⟩)

set_option maxRecDepth 100000 in
set_option maxHeartbeats 1000000 in
theorem Takings_no (X : Till) (a1 : Option Addr) (n1 c1 : Nat) (D : Imm) (w : World) (hR : TksR D X.tk a1 n1) (hH : Holds D w) (hE : tillE X [] true ≠ 0) : Gives Try.prog 20 [.agg #[it X.tk.huts, .slice a1 n1 c1, it X.price, it X.fine, it X.wait]] w (.tuple #[it (TakingsOut X).1, it (TakingsOut X).2]) := by
  unfold Gives
  obtain rfl := hR.tick.len'
  have hl1 := hR.len
  have hb0 : tillB X = false := by
    cases hb : tillB X with
    | false => rfl
    | true => exact absurd (tillE_0 hb (by simp) rfl (by intro k hk; simp at hk)) hE
  have hO0 : TakingsOut X = (0, 1) := by unfold TakingsOut; rw [if_pos hb0]
  have hE1 : tillE X [] true = 1 := tillE_1 hb0
  refine enterD Try.func20 rfl 14 Try.ntmps20 (Nat.le_of_ble_eq_true rfl) (Inv.start hH) ?_
  refine WC.seq ?_
  refine WC.ofFr [(0, _)] ⟨rfl, trivial⟩ ?_
  refine WC.region ?_
  refine WL.so (SO.box rfl rfl) rfl ?_
  rintro _ _ _ ⟨b1, hb1, rfl, rfl, rfl⟩ -- NEW
  refine WL.yd (Yd.assign rfl) rfl ?_
  refine WL.so (SO.alloc Try.zeroValue24 rfl) rfl ?_
  rintro _ _ _ ⟨b3, hb3, rfl, rfl, rfl⟩ -- NEW
  refine WL.nil ?_
  refine WP.thenC ?_
  refine WC.seq ?_
  refine WC.ofFr [(3, _), (2, _), (1, _)] ⟨rfl, rfl, rfl, trivial⟩ ?_
  refine WC.region ?_
  refine WL.yd (Yd.func rfl rfl) rfl ?_
  refine WL.defer rfl ?_
  refine WL.nil ?_
  refine WP.thenC ?_
  refine WC.seq ?_
  refine WC.ofFr [(3, _), (2, _), (1, _)] ⟨rfl, rfl, rfl, trivial⟩ ?_
  refine WC.region ?_
  refine WL.yd (Yd.loadN Try.isAgg37 Try.sizeOf37 rfl (vs := [_, _, _, _, _]) rfl (by first | exact RdN.own (k := 0) (n := 5) rfl rfl | exact RdN.own (k := 1) (n := 5) rfl rfl)) rfl ?_
  refine WL.no (SO.fail (Enters.func Try.call44 rfl) (fun w hI => openX_no X a1 _ c1 D _ hR hI.imm [] none 0 0 (BookR.nil _) 45 [] true Try.call45 (fun w' _ => always_g (.bool true) X a1 _ c1 w') hE) ?_)
  refine WP.thenPanic ?_
  refine WP.panicD (k := 0) [_, _] [_, _] rfl Try.call54 rfl (fun w hI => catch54 _ _ _ _ _ (hI.own _ _ (List.mem_of_getElem? (i := 0) rfl))) Try.results20 ⟨(RV.tmp rfl), (RV.cell1 Try.isAgg24 rfl (by first | exact Rd.own (k := 0) rfl rfl | exact Rd.own (k := 1) rfl rfl)), trivial⟩ (fun w hI => ⟨congrArg Ending.returned (by rw [hO0, hE1]; rfl), hI.keep⟩)

set_option maxRecDepth 100000 in
set_option maxHeartbeats 1000000 in
theorem Takings_ok (X : Till) (a1 : Option Addr) (n1 c1 : Nat) (D : Imm) (w : World) (hR : TksR D X.tk a1 n1) (hH : Holds D w) (hE : tillE X [] true = 0) : Gives Try.prog 20 [.agg #[it X.tk.huts, .slice a1 n1 c1, it X.price, it X.fine, it X.wait]] w (.tuple #[it (TakingsOut X).1, it (TakingsOut X).2]) := by
  unfold Gives
  obtain rfl := hR.tick.len'
  have hl1 := hR.len
  have hO0 : TakingsOut X = (X.price * X.tk.l.length, 0) := by unfold TakingsOut; rw [if_neg (by rw [(tillE_all hE).1]; simp)]
  refine enterD Try.func20 rfl 14 Try.ntmps20 (Nat.le_of_ble_eq_true rfl) (Inv.start hH) ?_
  refine WC.seq ?_
  refine WC.ofFr [(0, _)] ⟨rfl, trivial⟩ ?_
  refine WC.region ?_
  refine WL.so (SO.box rfl rfl) rfl ?_
  rintro _ _ _ ⟨b1, hb1, rfl, rfl, rfl⟩ -- NEW
  refine WL.yd (Yd.assign rfl) rfl ?_
  refine WL.so (SO.alloc Try.zeroValue24 rfl) rfl ?_
  rintro _ _ _ ⟨b3, hb3, rfl, rfl, rfl⟩ -- NEW
  refine WL.nil ?_
  refine WP.thenC ?_
  refine WC.seq ?_
  refine WC.ofFr [(3, _), (2, _), (1, _)] ⟨rfl, rfl, rfl, trivial⟩ ?_
  refine WC.region ?_
  refine WL.yd (Yd.func rfl rfl) rfl ?_
  refine WL.defer rfl ?_
  refine WL.nil ?_
  refine WP.thenC ?_
  refine WC.seq ?_
  refine WC.ofFr [(3, _), (2, _), (1, _)] ⟨rfl, rfl, rfl, trivial⟩ ?_
  refine WC.region ?_
  refine WL.yd (Yd.loadN Try.isAgg37 Try.sizeOf37 rfl (vs := [_, _, _, _, _]) rfl (by first | exact RdN.own (k := 0) (n := 5) rfl rfl | exact RdN.own (k := 1) (n := 5) rfl rfl | exact (RdN.imm (n := 5) h4 rfl))) rfl ?_
  refine WL.so (SO.callP Try.call44 rfl (fun w hI => openX_ok X a1 _ c1 D _ hR hI.imm [] none 0 0 (BookR.nil _) 45 [] true Try.call45 (fun w' _ => always_g (.bool true) X a1 _ c1 w') hE)) rfl ?_
  rintro _ _ _ ⟨rfl, rfl, rfl⟩
  refine WL.so (SO.alloc Try.zeroValue82 rfl) rfl ?_
  rintro _ _ _ ⟨b4, hb4, rfl, rfl, rfl⟩ -- NEW
  refine WL.so (SO.store 0 rfl Try.sizeOf82 rfl rfl rfl rfl (Nat.le_of_ble_eq_true rfl) (oneB_spec rfl)) rfl ?_
  rintro _ _ _ ⟨rfl, rfl, rfl⟩
  refine WL.nil ?_
  refine WP.thenC ?_
  refine WC.seq ?_
  refine WC.freezeN 0 b4 (.cells (List.toArray (tillC X (.slice a1 X.tk.l.length c1))) 82 (0, 0)) rfl rfl hb4 (fun D1 hX1 h4 => ?_)
  replace hR := hR.ext hX1
  refine WC.ofFr [(4, _), (3, _), (2, _)] ⟨rfl, rfl, rfl, trivial⟩ ?_
  refine WC.region ?_
  refine WL.yd (Yd.loadN Try.isAgg82 Try.sizeOf82 rfl (vs := [_, _, _, _, _]) rfl (by first | exact RdN.own (k := 0) (n := 5) rfl rfl | exact RdN.own (k := 1) (n := 5) rfl rfl | exact (RdN.imm (n := 5) h4 rfl))) rfl ?_
  refine WL.so (SO.callP Try.call55 rfl (fun w hI => manyT_g X a1 _ c1 _)) rfl ?_
  rintro _ _ _ ⟨rfl, rfl, rfl⟩
  refine WL.yd (Yd.func rfl rfl) rfl ?_
  refine WL.yd (Yd.build SA93 rfl (cs := [_]) rfl) rfl ?_
  refine WL.so (SO.makes (Enters.func Try.call50 rfl) (fun w hI => foundP_g X.tk.l.length hl1 56 [pt b4] (fun _ => X.price) D1 _ hI.imm Try.call56 (fun i _ w' hH' => takC_g X _ b4 D1 h4 (nt i) w' hH'))) rfl ?_
  rintro _ D2 _ ⟨hX2, ⟨a9, c9, rfl, hS9⟩, rfl⟩
  refine WL.so (SO.callP Try.call49 rfl (fun w hI => total_g ((List.range X.tk.l.length).map fun _ => X.price) a9 _ c9 D2 _ hS9 hl1 (by intro k hk; have hpr := (tillB_num (tillE_all hE).1).2.1; simp [gt, List.getD] at hk ⊢; simp [hk]; omega) hI.imm)) rfl ?_
  rintro _ _ _ ⟨rfl, rfl, rfl⟩
  refine WL.yd (Yd.assign rfl) rfl ?_
  refine WL.so (SO.store 0 rfl Try.sizeOf24 rfl rfl rfl rfl (Nat.le_of_ble_eq_true rfl) (oneB_spec rfl)) rfl ?_
  rintro _ _ _ ⟨rfl, rfl, rfl⟩
  refine WL.nil ?_
  refine WP.thenC ?_
  refine WC.ret ?_
  refine WP.endD [_, _] [_, _] rfl rfl Try.call54 (fun w hI => idle54 _ _) Try.results20 ⟨(RV.tmp rfl), (RV.cell1 Try.isAgg24 rfl (by first | exact Rd.own (k := 0) rfl rfl | exact Rd.own (k := 1) rfl rfl)), trivial⟩ (fun w hI => ⟨congrArg Ending.returned (by rw [hO0, sum_const]; rfl), hI.keep⟩)

theorem Takings_g (X : Till) (a1 : Option Addr) (n1 c1 : Nat) (D : Imm) (w : World) (hR : TksR D X.tk a1 n1) (hH : Holds D w) : Gives Try.prog 20 [.agg #[it X.tk.huts, .slice a1 n1 c1, it X.price, it X.fine, it X.wait]] w (.tuple #[it (TakingsOut X).1, it (TakingsOut X).2]) := by
  by_cases hE : tillE X [] true = 0
  · exact Takings_ok X a1 n1 c1 D w hR hH hE
  · exact Takings_no X a1 n1 c1 D w hR hH hE

theorem spanE_1 {X : Till} {n : Int} (h : tillE X [] (isT X.tk n) ≠ 0) : spanE X n = tillE X [] (isT X.tk n) := by unfold spanE; rw [if_pos h]
theorem spanE_2 {X : Till} {n : Int} (h : tillE X [] (isT X.tk n) = 0) : spanE X n = tksE X.tk true := by unfold spanE; rw [if_neg (by rw [h]; simp)]
theorem spanE_0 {X : Till} {n : Int} (h : spanE X n = 0) : tillE X [] (isT X.tk n) = 0 ∧ tksE X.tk true = 0 := by
  by_cases h1 : tillE X [] (isT X.tk n) = 0
  · exact ⟨h1, (spanE_2 h1).symm.trans h⟩
  · exact absurd ((spanE_1 h1).symm.trans h) h1
theorem toldE_1 {X : Till} {l : List Ent} (h : tillE X l true ≠ 0) : toldE X l = tillE X l true := by unfold toldE; rw [if_pos h]
theorem toldE_2 {X : Till} {l : List Ent} (h : tillE X l true = 0) : toldE X l = tksE X.tk true := by unfold toldE; rw [if_neg (by rw [h]; simp)]
theorem toldE_0 {X : Till} {l : List Ent} (h : toldE X l = 0) : tillE X l true = 0 ∧ tksE X.tk true = 0 := by
  by_cases h1 : tillE X l true = 0
  · exact ⟨h1, (toldE_2 h1).symm.trans h⟩
  · exact absurd ((toldE_1 h1).symm.trans h) h1

set_option maxRecDepth 100000 in
set_option maxHeartbeats 1000000 in
theorem span_e1 (X : Till) (a1 : Option Addr) (n1 c1 : Nat) (D : Imm) (w : World) (hR : TksR D X.tk a1 n1) (hH : Holds D w) (n : Int) (v : Int) (hE : tillE X [] (isT X.tk n) ≠ 0) : Fails Try.prog 41 [.agg #[it X.tk.huts, .slice a1 n1 c1, it X.price, it X.fine, it X.wait], it n, it v] w (stopT (spanE X n)) := by
  unfold Fails
  obtain rfl := hR.tick.len'
  have hl1 := hR.len
  refine enter Try.func41 rfl 18 Try.ntmps41 (Nat.le_of_ble_eq_true rfl) (Inv.start hH) ?_
  refine WC.seq ?_
  refine WC.ofFr [(0, _), (1, _), (2, _)] ⟨rfl, rfl, rfl, trivial⟩ ?_
  refine WC.region ?_
  refine WL.so (SO.box rfl rfl) rfl ?_
  rintro _ _ _ ⟨b3, hb3, rfl, rfl, rfl⟩ -- NEW
  refine WL.so (SO.box rfl rfl) rfl ?_
  rintro _ _ _ ⟨b4, hb4, rfl, rfl, rfl⟩ -- NEW
  refine WL.so (SO.alloc Try.zeroValue30 rfl) rfl ?_
  rintro _ _ _ ⟨b6, hb6, rfl, rfl, rfl⟩ -- NEW
  refine WL.nil ?_
  refine WP.thenC ?_
  refine WC.seq ?_
  refine WC.freezeN 1 b4 (.cells (List.toArray [it n]) 3 (0, 0)) rfl rfl hb4 (fun D1 hX1 h4 => ?_)
  replace hR := hR.ext hX1
  refine WC.ofFr [(6, _), (4, _), (3, _), (2, _)] ⟨rfl, rfl, rfl, rfl, trivial⟩ ?_
  refine WC.region ?_
  refine WL.yd (Yd.loadN Try.isAgg37 Try.sizeOf37 rfl (vs := [_, _, _, _, _]) rfl (by first | exact RdN.own (k := 0) (n := 5) rfl rfl | exact RdN.own (k := 1) (n := 5) rfl rfl)) rfl ?_
  refine WL.yd (Yd.func rfl rfl) rfl ?_
  refine WL.no (SO.fail (Enters.func Try.call44 rfl) (fun w hI => openX_no X a1 _ c1 D1 _ hR hI.imm [] none 0 0 (BookR.nil _) 75 [pt b4] (isT X.tk n) Try.call75 (fun w' hH' => isn_g X a1 _ c1 b4 n D1 h4 rfl hl1 w' hH') hE) ?_)
  refine WP.thenPanic ?_
  refine WP.panicBody rfl (fun w hI => ⟨by rw [spanE_1 hE], hI.keep⟩)

set_option maxRecDepth 100000 in
set_option maxHeartbeats 1000000 in
theorem span_e2 (X : Till) (a1 : Option Addr) (n1 c1 : Nat) (D : Imm) (w : World) (hR : TksR D X.tk a1 n1) (hH : Holds D w) (n : Int) (v : Int) (hE : tillE X [] (isT X.tk n) = 0) (hW : tksE X.tk true ≠ 0) : Fails Try.prog 41 [.agg #[it X.tk.huts, .slice a1 n1 c1, it X.price, it X.fine, it X.wait], it n, it v] w (stopT (spanE X n)) := by
  unfold Fails
  obtain rfl := hR.tick.len'
  have hl1 := hR.len
  refine enter Try.func41 rfl 18 Try.ntmps41 (Nat.le_of_ble_eq_true rfl) (Inv.start hH) ?_
  refine WC.seq ?_
  refine WC.ofFr [(0, _), (1, _), (2, _)] ⟨rfl, rfl, rfl, trivial⟩ ?_
  refine WC.region ?_
  refine WL.so (SO.box rfl rfl) rfl ?_
  rintro _ _ _ ⟨b3, hb3, rfl, rfl, rfl⟩ -- NEW
  refine WL.so (SO.box rfl rfl) rfl ?_
  rintro _ _ _ ⟨b4, hb4, rfl, rfl, rfl⟩ -- NEW
  refine WL.so (SO.alloc Try.zeroValue30 rfl) rfl ?_
  rintro _ _ _ ⟨b6, hb6, rfl, rfl, rfl⟩ -- NEW
  refine WL.nil ?_
  refine WP.thenC ?_
  refine WC.seq ?_
  refine WC.freezeN 1 b4 (.cells (List.toArray [it n]) 3 (0, 0)) rfl rfl hb4 (fun D1 hX1 h4 => ?_)
  replace hR := hR.ext hX1
  refine WC.ofFr [(6, _), (4, _), (3, _), (2, _)] ⟨rfl, rfl, rfl, rfl, trivial⟩ ?_
  refine WC.region ?_
  refine WL.yd (Yd.loadN Try.isAgg37 Try.sizeOf37 rfl (vs := [_, _, _, _, _]) rfl (by first | exact RdN.own (k := 0) (n := 5) rfl rfl | exact RdN.own (k := 1) (n := 5) rfl rfl)) rfl ?_
  refine WL.yd (Yd.func rfl rfl) rfl ?_
  refine WL.so (SO.callP Try.call44 rfl (fun w hI => openX_ok X a1 _ c1 D1 _ hR hI.imm [] none 0 0 (BookR.nil _) 75 [pt b4] (isT X.tk n) Try.call75 (fun w' hH' => isn_g X a1 _ c1 b4 n D1 h4 rfl hl1 w' hH') hE)) rfl ?_
  rintro _ _ _ ⟨rfl, rfl, rfl⟩
  refine WL.no (SO.fail (Enters.func Try.call46 rfl) (fun w hI => told_no X a1 _ c1 D1 _ hR hI.imm (by rw [Waits_e]; exact hW)) ?_)
  refine WP.thenPanic ?_
  refine WP.panicBody rfl (fun w hI => ⟨by rw [spanE_2 hE, Waits_e], hI.keep⟩)

set_option maxRecDepth 100000 in
set_option maxHeartbeats 1000000 in
theorem span_2 (X : Till) (a1 : Option Addr) (n1 c1 : Nat) (D : Imm) (w : World) (hR : TksR D X.tk a1 n1) (hH : Holds D w) (n : Int) (hE : tillE X [] (isT X.tk n) = 0) (hW : tksE X.tk true = 0) : Gives Try.prog 41 [.agg #[it X.tk.huts, .slice a1 n1 c1, it X.price, it X.fine, it X.wait], it n, it 2] w (spV (fineSp X n)) := by
  unfold Gives
  obtain rfl := hR.tick.len'
  have hl1 := hR.len
  refine enter Try.func41 rfl 18 Try.ntmps41 (Nat.le_of_ble_eq_true rfl) (Inv.start hH) ?_
  refine WC.seq ?_
  refine WC.ofFr [(0, _), (1, _), (2, _)] ⟨rfl, rfl, rfl, trivial⟩ ?_
  refine WC.region ?_
  refine WL.so (SO.box rfl rfl) rfl ?_
  rintro _ _ _ ⟨b3, hb3, rfl, rfl, rfl⟩ -- NEW
  refine WL.so (SO.box rfl rfl) rfl ?_
  rintro _ _ _ ⟨b4, hb4, rfl, rfl, rfl⟩ -- NEW
  refine WL.so (SO.alloc Try.zeroValue30 rfl) rfl ?_
  rintro _ _ _ ⟨b6, hb6, rfl, rfl, rfl⟩ -- NEW
  refine WL.nil ?_
  refine WP.thenC ?_
  refine WC.seq ?_
  refine WC.freezeN 1 b4 (.cells (List.toArray [it n]) 3 (0, 0)) rfl rfl hb4 (fun D1 hX1 h4 => ?_)
  replace hR := hR.ext hX1
  refine WC.ofFr [(6, _), (4, _), (3, _), (2, _)] ⟨rfl, rfl, rfl, rfl, trivial⟩ ?_
  refine WC.region ?_
  refine WL.yd (Yd.loadN Try.isAgg37 Try.sizeOf37 rfl (vs := [_, _, _, _, _]) rfl (by first | exact RdN.own (k := 0) (n := 5) rfl rfl | exact RdN.own (k := 1) (n := 5) rfl rfl)) rfl ?_
  refine WL.yd (Yd.func rfl rfl) rfl ?_
  refine WL.so (SO.callP Try.call44 rfl (fun w hI => openX_ok X a1 _ c1 D1 _ hR hI.imm [] none 0 0 (BookR.nil _) 75 [pt b4] (isT X.tk n) Try.call75 (fun w' hH' => isn_g X a1 _ c1 b4 n D1 h4 rfl hl1 w' hH') hE)) rfl ?_
  rintro _ _ _ ⟨rfl, rfl, rfl⟩
  refine WL.so (SO.callP Try.call46 rfl (fun w hI => told_ok X a1 _ c1 D1 _ hR hI.imm (by rw [Waits_e]; exact hW))) rfl ?_
  rintro _ _ _ ⟨rfl, rfl, rfl⟩
  refine WL.so (SO.alloc Try.zeroValue82 rfl) rfl ?_
  rintro _ _ _ ⟨b7, hb7, rfl, rfl, rfl⟩ -- NEW
  refine WL.so (SO.store 0 rfl Try.sizeOf82 rfl rfl rfl rfl (Nat.le_of_ble_eq_true rfl) (oneB_spec rfl)) rfl ?_
  rintro _ _ _ ⟨rfl, rfl, rfl⟩
  refine WL.nil ?_
  refine WP.thenC ?_
  refine WC.seq ?_
  refine WC.ofFr [(7, _), (6, _), (4, _), (2, _)] ⟨rfl, rfl, rfl, rfl, trivial⟩ ?_
  refine WC.tail 5 [0, 1, 2, 3, 4] rfl (by kernel_rfl) (by kernel_rfl)  ?_
  refine WQ.q rfl (Qt.callP Try.call60 rfl (fun w hI => kinds_g _)) rfl ?_
  refine WQ.q rfl (Yd.qt (Yd.move rfl)) rfl ?_
  refine WQ.q rfl (Yd.qt (Yd.index (cs := kindsC) (j := 2) Try.underlying103 Try.sizeOf102 rfl rfl (by decide) (kinds_part (by decide)))) rfl ?_
  refine WQ.q rfl (Yd.qt (Yd.loadN Try.isAgg82 Try.sizeOf82 rfl (vs := [_, _, _, _, _]) rfl (by first | exact RdN.own (k := 0) (n := 5) rfl rfl | exact RdN.own (k := 1) (n := 5) rfl rfl | exact RdN.own (k := 2) (n := 5) rfl rfl))) rfl ?_
  refine WQ.q rfl (Yd.qt (Yd.load1 Try.isAgg3 rfl (by first | exact Rd.own (k := 0) rfl rfl | exact Rd.own (k := 1) rfl rfl | exact Rd.own (k := 2) rfl rfl | exact (Rd.imm h4 rfl)))) rfl ?_
  refine WQ.tail ?_
  refine WL.so (SO.call (Enters.meth Try.call123 (fun w => by kernel_rfl) rfl rfl) (fun w hI => fineSpan_g X a1 _ c1 D1 _ hR hI.imm n)) rfl ?_
  rintro _ _ _ ⟨rfl, rfl, rfl⟩
  refine WL.so (SO.store 1 rfl Try.sizeOf30 rfl rfl rfl rfl (Nat.le_of_ble_eq_true rfl) (oneB_spec rfl)) rfl ?_
  rintro _ _ _ ⟨rfl, rfl, rfl⟩
  refine WL.nil ?_
  refine WP.thenC ?_
  refine WC.ret ?_
  refine WP.ret1 rfl rfl Try.results41 (RV.cellN Try.isAgg30 Try.sizeOf30 rfl (vs := [_, _]) rfl (by first | exact RdN.own (k := 0) (n := 2) rfl rfl | exact RdN.own (k := 1) (n := 2) rfl rfl | exact RdN.own (k := 2) (n := 2) rfl rfl)) (fun w hI => ⟨rfl, hI.keep⟩)

set_option maxRecDepth 100000 in
set_option maxHeartbeats 1000000 in
theorem span_3 (X : Till) (a1 : Option Addr) (n1 c1 : Nat) (D : Imm) (w : World) (hR : TksR D X.tk a1 n1) (hH : Holds D w) (n : Int) (hE : tillE X [] (isT X.tk n) = 0) (hW : tksE X.tk true = 0) : Gives Try.prog 41 [.agg #[it X.tk.huts, .slice a1 n1 c1, it X.price, it X.fine, it X.wait], it n, it 3] w (spV (backSp X n)) := by
  unfold Gives
  obtain rfl := hR.tick.len'
  have hl1 := hR.len
  refine enter Try.func41 rfl 18 Try.ntmps41 (Nat.le_of_ble_eq_true rfl) (Inv.start hH) ?_
  refine WC.seq ?_
  refine WC.ofFr [(0, _), (1, _), (2, _)] ⟨rfl, rfl, rfl, trivial⟩ ?_
  refine WC.region ?_
  refine WL.so (SO.box rfl rfl) rfl ?_
  rintro _ _ _ ⟨b3, hb3, rfl, rfl, rfl⟩ -- NEW
  refine WL.so (SO.box rfl rfl) rfl ?_
  rintro _ _ _ ⟨b4, hb4, rfl, rfl, rfl⟩ -- NEW
  refine WL.so (SO.alloc Try.zeroValue30 rfl) rfl ?_
  rintro _ _ _ ⟨b6, hb6, rfl, rfl, rfl⟩ -- NEW
  refine WL.nil ?_
  refine WP.thenC ?_
  refine WC.seq ?_
  refine WC.freezeN 1 b4 (.cells (List.toArray [it n]) 3 (0, 0)) rfl rfl hb4 (fun D1 hX1 h4 => ?_)
  replace hR := hR.ext hX1
  refine WC.ofFr [(6, _), (4, _), (3, _), (2, _)] ⟨rfl, rfl, rfl, rfl, trivial⟩ ?_
  refine WC.region ?_
  refine WL.yd (Yd.loadN Try.isAgg37 Try.sizeOf37 rfl (vs := [_, _, _, _, _]) rfl (by first | exact RdN.own (k := 0) (n := 5) rfl rfl | exact RdN.own (k := 1) (n := 5) rfl rfl)) rfl ?_
  refine WL.yd (Yd.func rfl rfl) rfl ?_
  refine WL.so (SO.callP Try.call44 rfl (fun w hI => openX_ok X a1 _ c1 D1 _ hR hI.imm [] none 0 0 (BookR.nil _) 75 [pt b4] (isT X.tk n) Try.call75 (fun w' hH' => isn_g X a1 _ c1 b4 n D1 h4 rfl hl1 w' hH') hE)) rfl ?_
  rintro _ _ _ ⟨rfl, rfl, rfl⟩
  refine WL.so (SO.callP Try.call46 rfl (fun w hI => told_ok X a1 _ c1 D1 _ hR hI.imm (by rw [Waits_e]; exact hW))) rfl ?_
  rintro _ _ _ ⟨rfl, rfl, rfl⟩
  refine WL.so (SO.alloc Try.zeroValue82 rfl) rfl ?_
  rintro _ _ _ ⟨b7, hb7, rfl, rfl, rfl⟩ -- NEW
  refine WL.so (SO.store 0 rfl Try.sizeOf82 rfl rfl rfl rfl (Nat.le_of_ble_eq_true rfl) (oneB_spec rfl)) rfl ?_
  rintro _ _ _ ⟨rfl, rfl, rfl⟩
  refine WL.nil ?_
  refine WP.thenC ?_
  refine WC.seq ?_
  refine WC.ofFr [(7, _), (6, _), (4, _), (2, _)] ⟨rfl, rfl, rfl, rfl, trivial⟩ ?_
  refine WC.tail 5 [0, 1, 2, 3, 4] rfl (by kernel_rfl) (by kernel_rfl)  ?_
  refine WQ.q rfl (Qt.callP Try.call60 rfl (fun w hI => kinds_g _)) rfl ?_
  refine WQ.q rfl (Yd.qt (Yd.move rfl)) rfl ?_
  refine WQ.q rfl (Yd.qt (Yd.index (cs := kindsC) (j := 3) Try.underlying103 Try.sizeOf102 rfl rfl (by decide) (kinds_part (by decide)))) rfl ?_
  refine WQ.q rfl (Yd.qt (Yd.loadN Try.isAgg82 Try.sizeOf82 rfl (vs := [_, _, _, _, _]) rfl (by first | exact RdN.own (k := 0) (n := 5) rfl rfl | exact RdN.own (k := 1) (n := 5) rfl rfl | exact RdN.own (k := 2) (n := 5) rfl rfl))) rfl ?_
  refine WQ.q rfl (Yd.qt (Yd.load1 Try.isAgg3 rfl (by first | exact Rd.own (k := 0) rfl rfl | exact Rd.own (k := 1) rfl rfl | exact Rd.own (k := 2) rfl rfl | exact (Rd.imm h4 rfl)))) rfl ?_
  refine WQ.tail ?_
  refine WL.so (SO.call (Enters.meth Try.call125 (fun w => by kernel_rfl) rfl rfl) (fun w hI => backSpan_g X a1 _ c1 D1 _ hR hI.imm (tillE_all hE).1 n)) rfl ?_
  rintro _ _ _ ⟨rfl, rfl, rfl⟩
  refine WL.so (SO.store 1 rfl Try.sizeOf30 rfl rfl rfl rfl (Nat.le_of_ble_eq_true rfl) (oneB_spec rfl)) rfl ?_
  rintro _ _ _ ⟨rfl, rfl, rfl⟩
  refine WL.nil ?_
  refine WP.thenC ?_
  refine WC.ret ?_
  refine WP.ret1 rfl rfl Try.results41 (RV.cellN Try.isAgg30 Try.sizeOf30 rfl (vs := [_, _]) rfl (by first | exact RdN.own (k := 0) (n := 2) rfl rfl | exact RdN.own (k := 1) (n := 2) rfl rfl | exact RdN.own (k := 2) (n := 2) rfl rfl)) (fun w hI => ⟨rfl, hI.keep⟩)

theorem span_no (X : Till) (a1 : Option Addr) (n1 c1 : Nat) (D : Imm) (w : World) (hR : TksR D X.tk a1 n1) (hH : Holds D w) (n v : Int) (h : spanE X n ≠ 0) : Fails Try.prog 41 [.agg #[it X.tk.huts, .slice a1 n1 c1, it X.price, it X.fine, it X.wait], it n, it v] w (stopT (spanE X n)) := by
  by_cases hE : tillE X [] (isT X.tk n) = 0
  · exact span_e2 X a1 n1 c1 D w hR hH n v hE (by rw [← spanE_2 hE]; exact h)
  · exact span_e1 X a1 n1 c1 D w hR hH n v hE

set_option maxRecDepth 100000 in
set_option maxHeartbeats 1000000 in
theorem Fine_no (X : Till) (a1 : Option Addr) (n1 c1 : Nat) (D : Imm) (w : World) (hR : TksR D X.tk a1 n1) (hH : Holds D w) (n : Int) (hE : spanE X n ≠ 0) : Gives Try.prog 12 [.agg #[it X.tk.huts, .slice a1 n1 c1, it X.price, it X.fine, it X.wait], it n] w (.tuple #[spV (FineOut X n).1, it (FineOut X n).2]) := by
  unfold Gives
  obtain rfl := hR.tick.len'
  have hl1 := hR.len
  have hO0 : FineOut X n = (⟨0, 0⟩, spanE X n) := by unfold FineOut; rw [if_pos hE]
  refine enterD Try.func12 rfl 10 Try.ntmps12 (Nat.le_of_ble_eq_true rfl) (Inv.start hH) ?_
  refine WC.seq ?_
  refine WC.ofFr [(0, _), (1, _)] ⟨rfl, rfl, trivial⟩ ?_
  refine WC.region ?_
  refine WL.so (SO.box rfl rfl) rfl ?_
  rintro _ _ _ ⟨b2, hb2, rfl, rfl, rfl⟩ -- NEW
  refine WL.so (SO.alloc Try.zeroValue30 rfl) rfl ?_
  rintro _ _ _ ⟨b4, hb4, rfl, rfl, rfl⟩ -- NEW
  refine WL.so (SO.alloc Try.zeroValue24 rfl) rfl ?_
  rintro _ _ _ ⟨b5, hb5, rfl, rfl, rfl⟩ -- NEW
  refine WL.nil ?_
  refine WP.thenC ?_
  refine WC.seq ?_
  refine WC.ofFr [(5, _), (4, _), (2, _), (1, _)] ⟨rfl, rfl, rfl, rfl, trivial⟩ ?_
  refine WC.region ?_
  refine WL.yd (Yd.func rfl rfl) rfl ?_
  refine WL.defer rfl ?_
  refine WL.nil ?_
  refine WP.thenC ?_
  refine WC.seq ?_
  refine WC.ofFr [(5, _), (4, _), (2, _), (1, _)] ⟨rfl, rfl, rfl, rfl, trivial⟩ ?_
  refine WC.region ?_
  refine WL.yd (Yd.loadN Try.isAgg37 Try.sizeOf37 rfl (vs := [_, _, _, _, _]) rfl (by first | exact RdN.own (k := 0) (n := 5) rfl rfl | exact RdN.own (k := 1) (n := 5) rfl rfl | exact RdN.own (k := 2) (n := 5) rfl rfl)) rfl ?_
  refine WL.yd (Yd.move rfl) rfl ?_
  refine WL.no (SO.fail (Enters.func Try.call41 rfl) (fun w hI => span_no X a1 _ c1 D _ hR hI.imm n 2 hE) ?_)
  refine WP.thenPanic ?_
  refine WP.panicD (k := 0) [_, _] [_, _] rfl Try.call40 rfl (fun w hI => catch40 _ _ _ _ _ (hI.own _ _ (List.mem_of_getElem? (i := 0) rfl))) Try.results12 ⟨(RV.cellN Try.isAgg30 Try.sizeOf30 rfl (vs := [_, _]) rfl (by first | exact RdN.own (k := 0) (n := 2) rfl rfl | exact RdN.own (k := 1) (n := 2) rfl rfl | exact RdN.own (k := 2) (n := 2) rfl rfl)), (RV.cell1 Try.isAgg24 rfl (by first | exact Rd.own (k := 0) rfl rfl | exact Rd.own (k := 1) rfl rfl | exact Rd.own (k := 2) rfl rfl)), trivial⟩ (fun w hI => ⟨congrArg Ending.returned (by rw [hO0]; rfl), hI.keep⟩)

set_option maxRecDepth 100000 in
set_option maxHeartbeats 1000000 in
theorem Fine_ok (X : Till) (a1 : Option Addr) (n1 c1 : Nat) (D : Imm) (w : World) (hR : TksR D X.tk a1 n1) (hH : Holds D w) (n : Int) (hE : spanE X n = 0) : Gives Try.prog 12 [.agg #[it X.tk.huts, .slice a1 n1 c1, it X.price, it X.fine, it X.wait], it n] w (.tuple #[spV (FineOut X n).1, it (FineOut X n).2]) := by
  unfold Gives
  obtain rfl := hR.tick.len'
  have hl1 := hR.len
  have hO0 : FineOut X n = (fineSp X n, 0) := by unfold FineOut; rw [if_neg (by rw [hE]; simp)]
  refine enterD Try.func12 rfl 10 Try.ntmps12 (Nat.le_of_ble_eq_true rfl) (Inv.start hH) ?_
  refine WC.seq ?_
  refine WC.ofFr [(0, _), (1, _)] ⟨rfl, rfl, trivial⟩ ?_
  refine WC.region ?_
  refine WL.so (SO.box rfl rfl) rfl ?_
  rintro _ _ _ ⟨b2, hb2, rfl, rfl, rfl⟩ -- NEW
  refine WL.so (SO.alloc Try.zeroValue30 rfl) rfl ?_
  rintro _ _ _ ⟨b4, hb4, rfl, rfl, rfl⟩ -- NEW
  refine WL.so (SO.alloc Try.zeroValue24 rfl) rfl ?_
  rintro _ _ _ ⟨b5, hb5, rfl, rfl, rfl⟩ -- NEW
  refine WL.nil ?_
  refine WP.thenC ?_
  refine WC.seq ?_
  refine WC.ofFr [(5, _), (4, _), (2, _), (1, _)] ⟨rfl, rfl, rfl, rfl, trivial⟩ ?_
  refine WC.region ?_
  refine WL.yd (Yd.func rfl rfl) rfl ?_
  refine WL.defer rfl ?_
  refine WL.nil ?_
  refine WP.thenC ?_
  refine WC.seq ?_
  refine WC.ofFr [(5, _), (4, _), (2, _), (1, _)] ⟨rfl, rfl, rfl, rfl, trivial⟩ ?_
  refine WC.region ?_
  refine WL.yd (Yd.loadN Try.isAgg37 Try.sizeOf37 rfl (vs := [_, _, _, _, _]) rfl (by first | exact RdN.own (k := 0) (n := 5) rfl rfl | exact RdN.own (k := 1) (n := 5) rfl rfl | exact RdN.own (k := 2) (n := 5) rfl rfl)) rfl ?_
  refine WL.yd (Yd.move rfl) rfl ?_
  refine WL.so (SO.callP Try.call41 rfl (fun w hI => span_2 X a1 _ c1 D _ hR hI.imm n (spanE_0 hE).1 (spanE_0 hE).2)) rfl ?_
  rintro _ _ _ ⟨rfl, rfl, rfl⟩
  refine WL.so (SO.store 1 rfl Try.sizeOf30 rfl rfl rfl rfl (Nat.le_of_ble_eq_true rfl) (oneB_spec rfl)) rfl ?_
  rintro _ _ _ ⟨rfl, rfl, rfl⟩
  refine WL.so (SO.store 0 rfl Try.sizeOf24 rfl rfl rfl rfl (Nat.le_of_ble_eq_true rfl) (oneB_spec rfl)) rfl ?_
  rintro _ _ _ ⟨rfl, rfl, rfl⟩
  refine WL.nil ?_
  refine WP.thenC ?_
  refine WC.ret ?_
  refine WP.endD [_, _] [_, _] rfl rfl Try.call40 (fun w hI => idle40 _ _) Try.results12 ⟨(RV.cellN Try.isAgg30 Try.sizeOf30 rfl (vs := [_, _]) rfl (by first | exact RdN.own (k := 0) (n := 2) rfl rfl | exact RdN.own (k := 1) (n := 2) rfl rfl | exact RdN.own (k := 2) (n := 2) rfl rfl)), (RV.cell1 Try.isAgg24 rfl (by first | exact Rd.own (k := 0) rfl rfl | exact Rd.own (k := 1) rfl rfl | exact Rd.own (k := 2) rfl rfl)), trivial⟩ (fun w hI => ⟨congrArg Ending.returned (by rw [hO0]; rfl), hI.keep⟩)

theorem Fine_g (X : Till) (a1 : Option Addr) (n1 c1 : Nat) (D : Imm) (w : World) (hR : TksR D X.tk a1 n1) (hH : Holds D w) (n : Int) : Gives Try.prog 12 [.agg #[it X.tk.huts, .slice a1 n1 c1, it X.price, it X.fine, it X.wait], it n] w (.tuple #[spV (FineOut X n).1, it (FineOut X n).2]) := by
  by_cases hE : spanE X n = 0
  · exact Fine_ok X a1 n1 c1 D w hR hH n hE
  · exact Fine_no X a1 n1 c1 D w hR hH n hE

set_option maxRecDepth 100000 in
set_option maxHeartbeats 1000000 in
theorem Back_no (X : Till) (a1 : Option Addr) (n1 c1 : Nat) (D : Imm) (w : World) (hR : TksR D X.tk a1 n1) (hH : Holds D w) (n : Int) (hE : spanE X n ≠ 0) : Gives Try.prog 14 [.agg #[it X.tk.huts, .slice a1 n1 c1, it X.price, it X.fine, it X.wait], it n] w (.tuple #[spV (BackOut X n).1, it (BackOut X n).2]) := by
  unfold Gives
  obtain rfl := hR.tick.len'
  have hl1 := hR.len
  have hO0 : BackOut X n = (⟨0, 0⟩, spanE X n) := by unfold BackOut; rw [if_pos hE]
  refine enterD Try.func14 rfl 10 Try.ntmps14 (Nat.le_of_ble_eq_true rfl) (Inv.start hH) ?_
  refine WC.seq ?_
  refine WC.ofFr [(0, _), (1, _)] ⟨rfl, rfl, trivial⟩ ?_
  refine WC.region ?_
  refine WL.so (SO.box rfl rfl) rfl ?_
  rintro _ _ _ ⟨b2, hb2, rfl, rfl, rfl⟩ -- NEW
  refine WL.so (SO.alloc Try.zeroValue30 rfl) rfl ?_
  rintro _ _ _ ⟨b4, hb4, rfl, rfl, rfl⟩ -- NEW
  refine WL.so (SO.alloc Try.zeroValue24 rfl) rfl ?_
  rintro _ _ _ ⟨b5, hb5, rfl, rfl, rfl⟩ -- NEW
  refine WL.nil ?_
  refine WP.thenC ?_
  refine WC.seq ?_
  refine WC.ofFr [(5, _), (4, _), (2, _), (1, _)] ⟨rfl, rfl, rfl, rfl, trivial⟩ ?_
  refine WC.region ?_
  refine WL.yd (Yd.func rfl rfl) rfl ?_
  refine WL.defer rfl ?_
  refine WL.nil ?_
  refine WP.thenC ?_
  refine WC.seq ?_
  refine WC.ofFr [(5, _), (4, _), (2, _), (1, _)] ⟨rfl, rfl, rfl, rfl, trivial⟩ ?_
  refine WC.region ?_
  refine WL.yd (Yd.loadN Try.isAgg37 Try.sizeOf37 rfl (vs := [_, _, _, _, _]) rfl (by first | exact RdN.own (k := 0) (n := 5) rfl rfl | exact RdN.own (k := 1) (n := 5) rfl rfl | exact RdN.own (k := 2) (n := 5) rfl rfl)) rfl ?_
  refine WL.yd (Yd.move rfl) rfl ?_
  refine WL.no (SO.fail (Enters.func Try.call41 rfl) (fun w hI => span_no X a1 _ c1 D _ hR hI.imm n 3 hE) ?_)
  refine WP.thenPanic ?_
  refine WP.panicD (k := 0) [_, _] [_, _] rfl Try.call42 rfl (fun w hI => catch42 _ _ _ _ _ (hI.own _ _ (List.mem_of_getElem? (i := 0) rfl))) Try.results14 ⟨(RV.cellN Try.isAgg30 Try.sizeOf30 rfl (vs := [_, _]) rfl (by first | exact RdN.own (k := 0) (n := 2) rfl rfl | exact RdN.own (k := 1) (n := 2) rfl rfl | exact RdN.own (k := 2) (n := 2) rfl rfl)), (RV.cell1 Try.isAgg24 rfl (by first | exact Rd.own (k := 0) rfl rfl | exact Rd.own (k := 1) rfl rfl | exact Rd.own (k := 2) rfl rfl)), trivial⟩ (fun w hI => ⟨congrArg Ending.returned (by rw [hO0]; rfl), hI.keep⟩)

set_option maxRecDepth 100000 in
set_option maxHeartbeats 1000000 in
theorem Back_ok (X : Till) (a1 : Option Addr) (n1 c1 : Nat) (D : Imm) (w : World) (hR : TksR D X.tk a1 n1) (hH : Holds D w) (n : Int) (hE : spanE X n = 0) : Gives Try.prog 14 [.agg #[it X.tk.huts, .slice a1 n1 c1, it X.price, it X.fine, it X.wait], it n] w (.tuple #[spV (BackOut X n).1, it (BackOut X n).2]) := by
  unfold Gives
  obtain rfl := hR.tick.len'
  have hl1 := hR.len
  have hO0 : BackOut X n = (backSp X n, 0) := by unfold BackOut; rw [if_neg (by rw [hE]; simp)]
  refine enterD Try.func14 rfl 10 Try.ntmps14 (Nat.le_of_ble_eq_true rfl) (Inv.start hH) ?_
  refine WC.seq ?_
  refine WC.ofFr [(0, _), (1, _)] ⟨rfl, rfl, trivial⟩ ?_
  refine WC.region ?_
  refine WL.so (SO.box rfl rfl) rfl ?_
  rintro _ _ _ ⟨b2, hb2, rfl, rfl, rfl⟩ -- NEW
  refine WL.so (SO.alloc Try.zeroValue30 rfl) rfl ?_
  rintro _ _ _ ⟨b4, hb4, rfl, rfl, rfl⟩ -- NEW
  refine WL.so (SO.alloc Try.zeroValue24 rfl) rfl ?_
  rintro _ _ _ ⟨b5, hb5, rfl, rfl, rfl⟩ -- NEW
  refine WL.nil ?_
  refine WP.thenC ?_
  refine WC.seq ?_
  refine WC.ofFr [(5, _), (4, _), (2, _), (1, _)] ⟨rfl, rfl, rfl, rfl, trivial⟩ ?_
  refine WC.region ?_
  refine WL.yd (Yd.func rfl rfl) rfl ?_
  refine WL.defer rfl ?_
  refine WL.nil ?_
  refine WP.thenC ?_
  refine WC.seq ?_
  refine WC.ofFr [(5, _), (4, _), (2, _), (1, _)] ⟨rfl, rfl, rfl, rfl, trivial⟩ ?_
  refine WC.region ?_
  refine WL.yd (Yd.loadN Try.isAgg37 Try.sizeOf37 rfl (vs := [_, _, _, _, _]) rfl (by first | exact RdN.own (k := 0) (n := 5) rfl rfl | exact RdN.own (k := 1) (n := 5) rfl rfl | exact RdN.own (k := 2) (n := 5) rfl rfl)) rfl ?_
  refine WL.yd (Yd.move rfl) rfl ?_
  refine WL.so (SO.callP Try.call41 rfl (fun w hI => span_3 X a1 _ c1 D _ hR hI.imm n (spanE_0 hE).1 (spanE_0 hE).2)) rfl ?_
  rintro _ _ _ ⟨rfl, rfl, rfl⟩
  refine WL.so (SO.store 1 rfl Try.sizeOf30 rfl rfl rfl rfl (Nat.le_of_ble_eq_true rfl) (oneB_spec rfl)) rfl ?_
  rintro _ _ _ ⟨rfl, rfl, rfl⟩
  refine WL.so (SO.store 0 rfl Try.sizeOf24 rfl rfl rfl rfl (Nat.le_of_ble_eq_true rfl) (oneB_spec rfl)) rfl ?_
  rintro _ _ _ ⟨rfl, rfl, rfl⟩
  refine WL.nil ?_
  refine WP.thenC ?_
  refine WC.ret ?_
  refine WP.endD [_, _] [_, _] rfl rfl Try.call42 (fun w hI => idle42 _ _) Try.results14 ⟨(RV.cellN Try.isAgg30 Try.sizeOf30 rfl (vs := [_, _]) rfl (by first | exact RdN.own (k := 0) (n := 2) rfl rfl | exact RdN.own (k := 1) (n := 2) rfl rfl | exact RdN.own (k := 2) (n := 2) rfl rfl)), (RV.cell1 Try.isAgg24 rfl (by first | exact Rd.own (k := 0) rfl rfl | exact Rd.own (k := 1) rfl rfl | exact Rd.own (k := 2) rfl rfl)), trivial⟩ (fun w hI => ⟨congrArg Ending.returned (by rw [hO0]; rfl), hI.keep⟩)

theorem Back_g (X : Till) (a1 : Option Addr) (n1 c1 : Nat) (D : Imm) (w : World) (hR : TksR D X.tk a1 n1) (hH : Holds D w) (n : Int) : Gives Try.prog 14 [.agg #[it X.tk.huts, .slice a1 n1 c1, it X.price, it X.fine, it X.wait], it n] w (.tuple #[spV (BackOut X n).1, it (BackOut X n).2]) := by
  by_cases hE : spanE X n = 0
  · exact Back_ok X a1 n1 c1 D w hR hH n hE
  · exact Back_no X a1 n1 c1 D w hR hH n hE

set_option maxRecDepth 100000 in
set_option maxHeartbeats 1000000 in
theorem Fines_e1 (X : Till) (a1 : Option Addr) (n1 c1 : Nat) (D : Imm) (w : World) (hR : TksR D X.tk a1 n1) (hH : Holds D w) (hE : tillE X [] true ≠ 0) : Gives Try.prog 19 [.agg #[it X.tk.huts, .slice a1 n1 c1, it X.price, it X.fine, it X.wait]] w (.tuple #[spV (FinesOut X).1, it (FinesOut X).2]) := by
  unfold Gives
  obtain rfl := hR.tick.len'
  have hl1 := hR.len
  have hO0 : FinesOut X = (⟨0, 0⟩, tillE X [] true) := by unfold FinesOut; rw [toldE_1 hE, if_pos hE]
  refine enterD Try.func19 rfl 31 Try.ntmps19 (Nat.le_of_ble_eq_true rfl) (Inv.start hH) ?_
  refine WC.seq ?_
  refine WC.ofFr [(0, _)] ⟨rfl, trivial⟩ ?_
  refine WC.region ?_
  refine WL.so (SO.box rfl rfl) rfl ?_
  rintro _ _ _ ⟨b1, hb1, rfl, rfl, rfl⟩ -- NEW
  refine WL.so (SO.alloc Try.zeroValue30 rfl) rfl ?_
  rintro _ _ _ ⟨b2, hb2, rfl, rfl, rfl⟩ -- NEW
  refine WL.so (SO.alloc Try.zeroValue24 rfl) rfl ?_
  rintro _ _ _ ⟨b3, hb3, rfl, rfl, rfl⟩ -- NEW
  refine WL.nil ?_
  refine WP.thenC ?_
  refine WC.seq ?_
  refine WC.ofFr [(3, _), (2, _), (1, _)] ⟨rfl, rfl, rfl, trivial⟩ ?_
  refine WC.region ?_
  refine WL.yd (Yd.func rfl rfl) rfl ?_
  refine WL.defer rfl ?_
  refine WL.nil ?_
  refine WP.thenC ?_
  refine WC.seq ?_
  refine WC.ofFr [(3, _), (2, _), (1, _)] ⟨rfl, rfl, rfl, trivial⟩ ?_
  refine WC.region ?_
  refine WL.yd (Yd.loadN Try.isAgg37 Try.sizeOf37 rfl (vs := [_, _, _, _, _]) rfl (by first | exact RdN.own (k := 0) (n := 5) rfl rfl | exact RdN.own (k := 1) (n := 5) rfl rfl | exact RdN.own (k := 2) (n := 5) rfl rfl)) rfl ?_
  refine WL.no (SO.fail (Enters.func Try.call44 rfl) (fun w hI => openX_no X a1 _ c1 D _ hR hI.imm [] none 0 0 (BookR.nil _) 45 [] true Try.call45 (fun w' _ => always_g (.bool true) X a1 _ c1 w') hE) ?_)
  refine WP.thenPanic ?_
  refine WP.panicD (k := 0) [_, _] [_, _] rfl Try.call53 rfl (fun w hI => catch53 _ _ _ _ _ (hI.own _ _ (List.mem_of_getElem? (i := 0) rfl))) Try.results19 ⟨(RV.cellN Try.isAgg30 Try.sizeOf30 rfl (vs := [_, _]) rfl (by first | exact RdN.own (k := 0) (n := 2) rfl rfl | exact RdN.own (k := 1) (n := 2) rfl rfl | exact RdN.own (k := 2) (n := 2) rfl rfl)), (RV.cell1 Try.isAgg24 rfl (by first | exact Rd.own (k := 0) rfl rfl | exact Rd.own (k := 1) rfl rfl | exact Rd.own (k := 2) rfl rfl)), trivial⟩ (fun w hI => ⟨congrArg Ending.returned (by rw [hO0]; rfl), hI.keep⟩)

set_option maxRecDepth 100000 in
set_option maxHeartbeats 1000000 in
theorem Fines_e2 (X : Till) (a1 : Option Addr) (n1 c1 : Nat) (D : Imm) (w : World) (hR : TksR D X.tk a1 n1) (hH : Holds D w) (hE : tillE X [] true = 0) (hW : tksE X.tk true ≠ 0) : Gives Try.prog 19 [.agg #[it X.tk.huts, .slice a1 n1 c1, it X.price, it X.fine, it X.wait]] w (.tuple #[spV (FinesOut X).1, it (FinesOut X).2]) := by
  unfold Gives
  obtain rfl := hR.tick.len'
  have hl1 := hR.len
  have hO0 : FinesOut X = (⟨0, 0⟩, tksE X.tk true) := by unfold FinesOut; rw [toldE_2 hE, if_pos hW]
  refine enterD Try.func19 rfl 31 Try.ntmps19 (Nat.le_of_ble_eq_true rfl) (Inv.start hH) ?_
  refine WC.seq ?_
  refine WC.ofFr [(0, _)] ⟨rfl, trivial⟩ ?_
  refine WC.region ?_
  refine WL.so (SO.box rfl rfl) rfl ?_
  rintro _ _ _ ⟨b1, hb1, rfl, rfl, rfl⟩ -- NEW
  refine WL.so (SO.alloc Try.zeroValue30 rfl) rfl ?_
  rintro _ _ _ ⟨b2, hb2, rfl, rfl, rfl⟩ -- NEW
  refine WL.so (SO.alloc Try.zeroValue24 rfl) rfl ?_
  rintro _ _ _ ⟨b3, hb3, rfl, rfl, rfl⟩ -- NEW
  refine WL.nil ?_
  refine WP.thenC ?_
  refine WC.seq ?_
  refine WC.ofFr [(3, _), (2, _), (1, _)] ⟨rfl, rfl, rfl, trivial⟩ ?_
  refine WC.region ?_
  refine WL.yd (Yd.func rfl rfl) rfl ?_
  refine WL.defer rfl ?_
  refine WL.nil ?_
  refine WP.thenC ?_
  refine WC.seq ?_
  refine WC.ofFr [(3, _), (2, _), (1, _)] ⟨rfl, rfl, rfl, trivial⟩ ?_
  refine WC.region ?_
  refine WL.yd (Yd.loadN Try.isAgg37 Try.sizeOf37 rfl (vs := [_, _, _, _, _]) rfl (by first | exact RdN.own (k := 0) (n := 5) rfl rfl | exact RdN.own (k := 1) (n := 5) rfl rfl | exact RdN.own (k := 2) (n := 5) rfl rfl)) rfl ?_
  refine WL.so (SO.callP Try.call44 rfl (fun w hI => openX_ok X a1 _ c1 D _ hR hI.imm [] none 0 0 (BookR.nil _) 45 [] true Try.call45 (fun w' _ => always_g (.bool true) X a1 _ c1 w') hE)) rfl ?_
  rintro _ _ _ ⟨rfl, rfl, rfl⟩
  refine WL.no (SO.fail (Enters.func Try.call46 rfl) (fun w hI => told_no X a1 _ c1 D _ hR hI.imm (by rw [Waits_e]; exact hW)) ?_)
  refine WP.thenPanic ?_
  refine WP.panicD (k := 0) [_, _] [_, _] rfl Try.call53 rfl (fun w hI => catch53 _ _ _ _ _ (hI.own _ _ (List.mem_of_getElem? (i := 0) rfl))) Try.results19 ⟨(RV.cellN Try.isAgg30 Try.sizeOf30 rfl (vs := [_, _]) rfl (by first | exact RdN.own (k := 0) (n := 2) rfl rfl | exact RdN.own (k := 1) (n := 2) rfl rfl | exact RdN.own (k := 2) (n := 2) rfl rfl)), (RV.cell1 Try.isAgg24 rfl (by first | exact Rd.own (k := 0) rfl rfl | exact Rd.own (k := 1) rfl rfl | exact Rd.own (k := 2) rfl rfl)), trivial⟩ (fun w hI => ⟨congrArg Ending.returned (by rw [hO0, Waits_e]; rfl), hI.keep⟩)

set_option maxRecDepth 100000 in
set_option maxHeartbeats 1000000 in
theorem Fines_ok (X : Till) (a1 : Option Addr) (n1 c1 : Nat) (D : Imm) (w : World) (hR : TksR D X.tk a1 n1) (hH : Holds D w) (hE : tillE X [] true = 0) (hW : tksE X.tk true = 0) : Gives Try.prog 19 [.agg #[it X.tk.huts, .slice a1 n1 c1, it X.price, it X.fine, it X.wait]] w (.tuple #[spV (FinesOut X).1, it (FinesOut X).2]) := by
  unfold Gives
  obtain rfl := hR.tick.len'
  have hl1 := hR.len
  have hO0 : FinesOut X = (⟨(WrongOut X.tk).1.lo * X.fine, (WrongOut X.tk).1.hi * X.fine⟩, 0) := by unfold FinesOut; rw [toldE_2 hE, if_neg (by rw [hW]; simp)]
  have hwn := wrong_num X.tk
  have hfn := (tillB_num (tillE_all hE).1).2.2.1
  have hm1 : 0 ≤ (WrongOut X.tk).1.lo * X.fine ∧ (WrongOut X.tk).1.lo * X.fine ≤ 2400 := by rw [Int.mul_comm]; exact mul_100 hfn (by omega)
  have hm2 : 0 ≤ (WrongOut X.tk).1.hi * X.fine ∧ (WrongOut X.tk).1.hi * X.fine ≤ 2400 := by rw [Int.mul_comm]; exact mul_100 hfn (by omega)
  refine enterD Try.func19 rfl 31 Try.ntmps19 (Nat.le_of_ble_eq_true rfl) (Inv.start hH) ?_
  refine WC.seq ?_
  refine WC.ofFr [(0, _)] ⟨rfl, trivial⟩ ?_
  refine WC.region ?_
  refine WL.so (SO.box rfl rfl) rfl ?_
  rintro _ _ _ ⟨b1, hb1, rfl, rfl, rfl⟩ -- NEW
  refine WL.so (SO.alloc Try.zeroValue30 rfl) rfl ?_
  rintro _ _ _ ⟨b2, hb2, rfl, rfl, rfl⟩ -- NEW
  refine WL.so (SO.alloc Try.zeroValue24 rfl) rfl ?_
  rintro _ _ _ ⟨b3, hb3, rfl, rfl, rfl⟩ -- NEW
  refine WL.nil ?_
  refine WP.thenC ?_
  refine WC.seq ?_
  refine WC.ofFr [(3, _), (2, _), (1, _)] ⟨rfl, rfl, rfl, trivial⟩ ?_
  refine WC.region ?_
  refine WL.yd (Yd.func rfl rfl) rfl ?_
  refine WL.defer rfl ?_
  refine WL.nil ?_
  refine WP.thenC ?_
  refine WC.seq ?_
  refine WC.ofFr [(3, _), (2, _), (1, _)] ⟨rfl, rfl, rfl, trivial⟩ ?_
  refine WC.region ?_
  refine WL.yd (Yd.loadN Try.isAgg37 Try.sizeOf37 rfl (vs := [_, _, _, _, _]) rfl (by first | exact RdN.own (k := 0) (n := 5) rfl rfl | exact RdN.own (k := 1) (n := 5) rfl rfl | exact RdN.own (k := 2) (n := 5) rfl rfl)) rfl ?_
  refine WL.so (SO.callP Try.call44 rfl (fun w hI => openX_ok X a1 _ c1 D _ hR hI.imm [] none 0 0 (BookR.nil _) 45 [] true Try.call45 (fun w' _ => always_g (.bool true) X a1 _ c1 w') hE)) rfl ?_
  rintro _ _ _ ⟨rfl, rfl, rfl⟩
  refine WL.so (SO.callP Try.call46 rfl (fun w hI => told_ok X a1 _ c1 D _ hR hI.imm (by rw [Waits_e]; exact hW))) rfl ?_
  rintro _ _ _ ⟨rfl, rfl, rfl⟩
  refine WL.so (SO.alloc Try.zeroValue82 rfl) rfl ?_
  rintro _ _ _ ⟨b4, hb4, rfl, rfl, rfl⟩ -- NEW
  refine WL.so (SO.store 0 rfl Try.sizeOf82 rfl rfl rfl rfl (Nat.le_of_ble_eq_true rfl) (oneB_spec rfl)) rfl ?_
  rintro _ _ _ ⟨rfl, rfl, rfl⟩
  refine WL.nil ?_
  refine WP.thenC ?_
  refine WC.seq ?_
  refine WC.ofFr [(4, _), (3, _), (2, _)] ⟨rfl, rfl, rfl, trivial⟩ ?_
  refine WC.region ?_
  refine WL.yd (Yd.fieldAddr FA82_0 rfl) rfl ?_
  refine WL.yd (Yd.fieldAddr FA37_0 rfl) rfl ?_
  refine WL.yd (Yd.loadN Try.isAgg35 Try.sizeOf35 rfl (vs := [_, _]) rfl (by first | exact RdN.own (k := 0) (n := 2) rfl rfl | exact RdN.own (k := 1) (n := 2) rfl rfl | exact RdN.own (k := 2) (n := 2) rfl rfl | exact RdN.own (k := 3) (n := 2) rfl rfl)) rfl ?_
  refine WL.so (SO.callP Try.call28 rfl (fun w hI => Wrong_g X.tk a1 _ c1 D _ hR hI.imm)) rfl ?_
  rintro _ _ _ ⟨rfl, rfl, rfl⟩
  refine WL.yd (Yd.move rfl) rfl ?_
  refine WL.yd (Yd.extract rfl rfl) rfl ?_
  refine WL.yd (Yd.extract rfl rfl) rfl ?_
  refine WL.so (SO.alloc Try.zeroValue30 rfl) rfl ?_
  rintro _ _ _ ⟨b5, hb5, rfl, rfl, rfl⟩ -- NEW
  refine WL.so (SO.store 0 rfl Try.sizeOf30 rfl rfl rfl rfl (Nat.le_of_ble_eq_true rfl) (oneB_spec rfl)) rfl ?_
  rintro _ _ _ ⟨rfl, rfl, rfl⟩
  refine WL.yd (Yd.assign rfl) rfl ?_
  refine WL.nil ?_
  refine WP.thenC ?_
  refine WC.seq ?_
  refine WC.ofFr [(5, _), (4, _), (3, _), (2, _)] ⟨rfl, rfl, rfl, rfl, trivial⟩ ?_
  refine WC.region ?_
  refine WL.yd (Yd.fieldAddr FA30_0 rfl) rfl ?_
  refine WL.yd (Yd.load1 Try.isAgg3 rfl (by first | exact Rd.own (k := 0) rfl rfl | exact Rd.own (k := 1) rfl rfl | exact Rd.own (k := 2) rfl rfl | exact Rd.own (k := 3) rfl rfl | exact Rd.own (k := 4) rfl rfl)) rfl ?_
  refine WL.yd (Yd.fieldAddr FA82_0 rfl) rfl ?_
  refine WL.yd (Yd.fieldAddr FA37_2 rfl) rfl ?_
  refine WL.yd (Yd.load1 Try.isAgg3 rfl (by first | exact Rd.own (k := 0) rfl rfl | exact Rd.own (k := 1) rfl rfl | exact Rd.own (k := 2) rfl rfl | exact Rd.own (k := 3) rfl rfl | exact Rd.own (k := 4) rfl rfl)) rfl ?_
  refine WL.know 19 (it (WrongOut X.tk).1.lo) rfl rfl ?_
  refine WL.know 22 (it X.fine) rfl rfl ?_
  refine WL.yd (Yd.mul rfl rfl (wr64 ⟨by omega, by omega⟩)) rfl ?_
  refine WL.yd (Yd.fieldAddr FA30_1 rfl) rfl ?_
  refine WL.yd (Yd.load1 Try.isAgg3 rfl (by first | exact Rd.own (k := 0) rfl rfl | exact Rd.own (k := 1) rfl rfl | exact Rd.own (k := 2) rfl rfl | exact Rd.own (k := 3) rfl rfl | exact Rd.own (k := 4) rfl rfl)) rfl ?_
  refine WL.yd (Yd.fieldAddr FA82_0 rfl) rfl ?_
  refine WL.yd (Yd.fieldAddr FA37_2 rfl) rfl ?_
  refine WL.yd (Yd.load1 Try.isAgg3 rfl (by first | exact Rd.own (k := 0) rfl rfl | exact Rd.own (k := 1) rfl rfl | exact Rd.own (k := 2) rfl rfl | exact Rd.own (k := 3) rfl rfl | exact Rd.own (k := 4) rfl rfl)) rfl ?_
  refine WL.know 25 (it (WrongOut X.tk).1.hi) rfl rfl ?_
  refine WL.know 28 (it X.fine) rfl rfl ?_
  refine WL.yd (Yd.mul rfl rfl (wr64 ⟨by omega, by omega⟩)) rfl ?_
  refine WL.yd (Yd.build SA30 rfl (cs := [_, _]) rfl) rfl ?_
  refine WL.so (SO.store 3 rfl Try.sizeOf30 rfl rfl rfl rfl (Nat.le_of_ble_eq_true rfl) (oneB_spec rfl)) rfl ?_
  rintro _ _ _ ⟨rfl, rfl, rfl⟩
  refine WL.so (SO.store 2 rfl Try.sizeOf24 rfl rfl rfl rfl (Nat.le_of_ble_eq_true rfl) (oneB_spec rfl)) rfl ?_
  rintro _ _ _ ⟨rfl, rfl, rfl⟩
  refine WL.nil ?_
  refine WP.thenC ?_
  refine WC.ret ?_
  refine WP.endD [_, _] [_, _] rfl rfl Try.call53 (fun w hI => idle53 _ _) Try.results19 ⟨(RV.cellN Try.isAgg30 Try.sizeOf30 rfl (vs := [_, _]) rfl (by first | exact RdN.own (k := 0) (n := 2) rfl rfl | exact RdN.own (k := 1) (n := 2) rfl rfl | exact RdN.own (k := 2) (n := 2) rfl rfl | exact RdN.own (k := 3) (n := 2) rfl rfl | exact RdN.own (k := 4) (n := 2) rfl rfl)), (RV.cell1 Try.isAgg24 rfl (by first | exact Rd.own (k := 0) rfl rfl | exact Rd.own (k := 1) rfl rfl | exact Rd.own (k := 2) rfl rfl | exact Rd.own (k := 3) rfl rfl | exact Rd.own (k := 4) rfl rfl)), trivial⟩ (fun w hI => ⟨congrArg Ending.returned (by rw [hO0]; rfl), hI.keep⟩)

theorem Fines_g (X : Till) (a1 : Option Addr) (n1 c1 : Nat) (D : Imm) (w : World) (hR : TksR D X.tk a1 n1) (hH : Holds D w) : Gives Try.prog 19 [.agg #[it X.tk.huts, .slice a1 n1 c1, it X.price, it X.fine, it X.wait]] w (.tuple #[spV (FinesOut X).1, it (FinesOut X).2]) := by
  by_cases hE : tillE X [] true = 0
  · by_cases hW : tksE X.tk true = 0
    · exact Fines_ok X a1 n1 c1 D w hR hH hE hW
    · exact Fines_e2 X a1 n1 c1 D w hR hH hE hW
  · exact Fines_e1 X a1 n1 c1 D w hR hH hE

end Go.Proofs.Ytpnbkdlejfmbeaa
namespace Go.Proofs.Ytpnbkdlejfmbeaa
open Go.W Go.Ti
theorem FA44_2 : FieldAt Try.prog 44 2 2 := FieldAt.mk (t := 3) (off := 2) Try.underlying44 rfl Try.sizeOf3 (by decide)
theorem SA99 : StructAt Try.prog 99 [.int .i64 0, .int .i64 0] [(0, 1), (1, 1)] := ⟨⟨_, Try.zeroValue99, rfl⟩, _, Try.underlying99, fun w => by simp [Try.sizeOf3]⟩
abbrev Ky := Fin 5 × Fin 4
def keyV (y : Ky) : Value := .agg #[it (y.1.val : Int), it (y.2.val : Int)]
theorem keyV_inj (x y : Ky) (h : keyV x = keyV y) : x = y := by
  obtain ⟨⟨a, ha⟩, ⟨b, hb⟩⟩ := x
  obtain ⟨⟨c, hc⟩, ⟨e, he⟩⟩ := y
  simp only [keyV, Value.agg.injEq, it] at h
  simp at h
  obtain ⟨h1, h2⟩ := h
  have e1 : a = c := by omega
  have e2 : b = e := by omega
  subst e1; subst e2; rfl
theorem keyT : Try.prog.keyType 99 = true := by kernel_rfl
theorem laidOut : laidOutB Try.prog = true := by kernel_rfl
theorem keyLaw : Go.Maps.Keyed Try.prog 99 := Go.Maps.Keyed.of_law (deep_law_gate laidOut (Nat.le_of_ble_eq_true (by kernel_rfl)) (Nat.le_of_ble_eq_true (by kernel_rfl)) keyT (by kernel_rfl))
noncomputable def keyAllB : Bool := (List.range 5).all fun a => (List.range 4).all fun b => (keyOf Try.prog 99 (.agg #[.int .i64 (a : Int), .int .i64 (b : Int)])).isSome
theorem keyAll : keyAllB = true := by kernel_rfl
theorem key_ky (y : Ky) : ∃ l, keyOf Try.prog 99 (keyV y) = some l := by
  have h := List.all_eq_true.1 (List.all_eq_true.1 keyAll y.1.val (List.mem_range.2 y.1.isLt)) y.2.val (List.mem_range.2 y.2.isLt)
  exact Option.isSome_iff_exists.1 h
def bkF (l : List Ent) (y : Ky) : Bool := bookedB l (y.1.val : Int) (y.2.val : Int)
theorem bkF_nil : bkF [] = fun _ => false := rfl
theorem bkF_put {l : List Ent} {i : Nat} (hi : i < l.length) {y : Ky} (h1 : (gt l i).ticket = (y.1.val : Int)) (h2 : (gt l i).kind = (y.2.val : Int)) : (fun z => bkF (l.take i) z || decide (z = y)) = bkF (l.take (i + 1)) := by
  funext z
  unfold bkF
  rw [booked_take hi, h1, h2]
  congr 1
  apply Bool.eq_iff_iff.2
  simp only [decide_eq_true_eq]
  constructor
  · rintro rfl; exact ⟨rfl, rfl⟩
  · rintro ⟨e1, e2⟩
    exact Prod.ext (Fin.ext (by omega)) (Fin.ext (by omega))
def canF : Nat → FuncId
  | 1 => 120
  | 2 => 122
  | _ => 124
def spanF : Nat → FuncId
  | 1 => 121
  | 2 => 123
  | _ => 125
section
variable {x : Cx} {fr : Fr} {D : Imm} {hp : Hp} {ty : TypeId}
theorem can_enters {k : Nat} (hk : 1 ≤ k ∧ k ≤ 3) {o : Operand} {A : List Operand} {ts : Array TypeId} {vals : List Value} (ho : opv fr o = some (kindAt k)) (ha : opvs fr A = some vals) : Enters Try.prog x fr D hp ⟨.invoke o "dipworks/till.can", A.toArray, ts⟩ ty (canF k) (.agg #[] :: vals) := by
  rcases (show k = 1 ∨ k = 2 ∨ k = 3 by omega) with rfl | rfl | rfl
  · exact Enters.meth Try.call120 (fun w => by kernel_rfl) ho ha
  · exact Enters.meth Try.call122 (fun w => by kernel_rfl) ho ha
  · exact Enters.meth Try.call124 (fun w => by kernel_rfl) ho ha
theorem span_enters {k : Nat} (hk : 1 ≤ k ∧ k ≤ 3) {o : Operand} {A : List Operand} {ts : Array TypeId} {vals : List Value} (ho : opv fr o = some (kindAt k)) (ha : opvs fr A = some vals) : Enters Try.prog x fr D hp ⟨.invoke o "dipworks/till.span", A.toArray, ts⟩ ty (spanF k) (.agg #[] :: vals) := by
  rcases (show k = 1 ∨ k = 2 ∨ k = 3 by omega) with rfl | rfl | rfl
  · exact Enters.meth Try.call121 (fun w => by kernel_rfl) ho ha
  · exact Enters.meth Try.call123 (fun w => by kernel_rfl) ho ha
  · exact Enters.meth Try.call125 (fun w => by kernel_rfl) ho ha
end
theorem canF_g (X : Till) (a1 : Option Addr) (n1 c1 : Nat) (D : Imm) (w : World) (hR : TksR D X.tk a1 n1) (hH : Holds D w) (hbt : tillB X = true) {k : Nat} (hk : 1 ≤ k ∧ k ≤ 3) (n m : Int) : Gives Try.prog (canF k) [.agg #[], .agg #[it X.tk.huts, .slice a1 n1 c1, it X.price, it X.fine, it X.wait], it n, it m] w (.bool (canOf X n m k)) := by
  rcases (show k = 1 ∨ k = 2 ∨ k = 3 by omega) with rfl | rfl | rfl
  · exact priceCan_g X a1 n1 c1 n m w hR.tick.len' hR.len
  · exact fineCan_g X a1 n1 c1 D w hR hH n m
  · exact backCan_g X a1 n1 c1 D w hR hH hbt n m
theorem spanF_g (X : Till) (a1 : Option Addr) (n1 c1 : Nat) (D : Imm) (w : World) (hR : TksR D X.tk a1 n1) (hH : Holds D w) (hbt : tillB X = true) {k : Nat} (hk : 1 ≤ k ∧ k ≤ 3) (n : Int) : Gives Try.prog (spanF k) [.agg #[], .agg #[it X.tk.huts, .slice a1 n1 c1, it X.price, it X.fine, it X.wait], it n] w (spV (spanOf X n k)) := by
  rcases (show k = 1 ∨ k = 2 ∨ k = 3 by omega) with rfl | rfl | rfl
  · exact priceSpan_g X a1 n1 c1 n w
  · exact fineSpan_g X a1 n1 c1 D w hR hH n
  · exact backSpan_g X a1 n1 c1 D w hR hH hbt n
theorem kinds_at {k : Nat} (hk : k < 4) : kindsC[k]? = some (kindAt k) := by
  rcases (show k = 0 ∨ k = 1 ∨ k = 2 ∨ k = 3 by omega) with rfl | rfl | rfl | rfl <;> rfl
theorem ent_ky {X : Till} (h5 : X.tk.l.length ≤ 5) {e : Ent} (h : entB X e = true) : ∃ y : Ky, e.ticket = (y.1.val : Int) ∧ e.kind = (y.2.val : Int) ∧ (1 ≤ y.2.val ∧ y.2.val ≤ 3) ∧ y.1.val < X.tk.l.length := by
  obtain ⟨a, k, h1, h2, h3, h4, h6⟩ := ent_kind h
  exact ⟨(⟨a, by omega⟩, ⟨k, by omega⟩), h1, h3, ⟨h4, h6⟩, h2⟩
theorem rule_1 {X : Till} {l : List Ent} {i : Nat} {y : Ky} (h1 : (gt l i).ticket = (y.1.val : Int)) (h2 : (gt l i).kind = (y.2.val : Int)) (h : bkF (l.take i) y = true) : ruleI X l i = 1 := by
  unfold ruleI; rw [if_pos (by rw [h1, h2]; exact h)]
theorem rule_2 {X : Till} {l : List Ent} {i : Nat} {y : Ky} (h1 : (gt l i).ticket = (y.1.val : Int)) (h2 : (gt l i).kind = (y.2.val : Int)) (h : bkF (l.take i) y = false) (hc : canOf X (gt l i).ticket (gt l i).pence y.2.val = false) : ruleI X l i = 2 := by
  unfold ruleI; rw [if_neg (by rw [h1, h2]; unfold bkF at h; rw [h]; simp), if_pos (by rw [show (gt l i).kind.toNat = y.2.val by rw [h2, Int.toNat_natCast]]; exact hc)]
theorem rule_0 {X : Till} {l : List Ent} {i : Nat} {y : Ky} (h1 : (gt l i).ticket = (y.1.val : Int)) (h2 : (gt l i).kind = (y.2.val : Int)) (h : bkF (l.take i) y = false) (hc : canOf X (gt l i).ticket (gt l i).pence y.2.val = true) : ruleI X l i = 0 := by
  unfold ruleI; rw [if_neg (by rw [h1, h2]; unfold bkF at h; rw [h]; simp), if_neg (by rw [show (gt l i).kind.toNat = y.2.val by rw [h2, Int.toNat_natCast], hc]; simp)]

set_option maxRecDepth 100000 in
set_option maxHeartbeats 1000000 in
theorem broken1_iter (X : Till) (a1 : Option Addr) (n1 c1 : Nat) (D : Imm) (l : List Ent) (ab : Option Addr) (nb cb : Nat) (hB : BookR D l ab nb) (b2 b3 : Nat) (w : World) (hR : TksR D X.tk a1 n1) (h2 : D b2 = some (.cells (List.toArray (tillC X (.slice a1 n1 c1))) 82 (0, 0))) (h3 : D b3 = some (.cells (List.toArray [.slice ab nb cb]) 41 (0, 0))) (hE : tillE X l true = 0) (hH : Holds D w) : IterN2 Try.prog 78 [pt b3, pt b2] (brokL X l l.length).length (fun k => nt (gt (brokL X l l.length) k)) (fun k => it (ruleI X l (gt (brokL X l l.length) k))) D w := by
  unfold IterN2
  intro ly St Sp hSm hround h0 hS0 hI0
  unfold AltersN
  obtain rfl := hR.tick.len'
  have hl1 := hR.len
  obtain rfl := hB.ent.len'
  have hlb := hB.len
  obtain ⟨hbt, h20, _, hent⟩ := tillE_all hE
  have h5 := (tks_num (tillB_num hbt).1).2.1
  refine enter Try.func78 rfl 50 Try.ntmps78 (Nat.le_of_ble_eq_true rfl) hI0 ?_
  refine WC.scope ?_
  refine WC.seq ?_
  refine WC.ofFr [(0, _), (1, _), (2, _)] ⟨rfl, rfl, rfl, trivial⟩ ?_
  refine WC.region ?_
  refine WL.so (SO.callP Try.call60 rfl (fun w hI => kinds_g _)) rfl ?_
  rintro _ _ h0 ⟨rfl, rfl, rfl⟩
  refine WL.so (SO.alloc Try.zeroValue103 rfl) rfl ?_
  rintro _ _ _ ⟨b4, hb4, rfl, rfl, rfl⟩ -- NEW
  refine WL.so (SO.store 0 rfl Try.sizeOf103 rfl rfl rfl rfl (Nat.le_of_ble_eq_true rfl) (oneB_spec rfl)) rfl ?_
  rintro _ _ _ ⟨rfl, rfl, rfl⟩
  refine WL.nil ?_
  refine WP.thenC ?_
  refine WC.seq ?_
  refine WC.ofFr [(4, _), (0, _), (1, _), (2, _)] ⟨rfl, rfl, rfl, rfl, trivial⟩ ?_
  refine WC.region ?_
  refine WL.so SO.makeMap rfl ?_
  rintro _ _ _ ⟨b11, hb11, rfl, rfl, rfl⟩ -- NEW
  refine WL.yd (Yd.assign rfl) rfl ?_
  refine WL.nil ?_
  refine WP.thenC ?_
  refine WC.seq ?_
  refine WC.label ?_
  refine WP.thenC ?_
  refine WC.seq ?_
  refine WC.ofFr [(5, _), (4, _), (0, _), (1, _), (2, _)] ⟨rfl, rfl, rfl, rfl, rfl, trivial⟩ ?_
  refine WC.region ?_
  refine WL.yd (Yd.load1 Try.isAgg41 rfl (by first | exact Rd.own (k := 0) rfl rfl | exact Rd.own (k := 1) rfl rfl | exact Rd.own (k := 2) rfl rfl | exact (Rd.imm h3 rfl) | exact (Rd.imm h2 rfl) | exact (Rd.own (k := 3) rfl (kinds_at (by omega))))) rfl ?_
  refine WL.yd (Yd.lenS rfl Try.underlying41 rfl) rfl ?_
  refine WL.yd (Yd.move rfl) rfl ?_
  refine WL.nil ?_
  refine WP.thenC ?_
  refine WC.block ?_
  refine WC.loop (fun z : Nat × Imm × Hp × Array MapEntry × Nat => [(0, .func (.yield ly) #[] #[]), (2, pt b2), (4, pt b4), (5, .map (some b11)), (12, .slice ab l.length cb), (13, nt l.length), (14, nt z.1)]) (fun z => ((b11, .map z.2.2.2.1 z.2.2.2.2) :: (b4, .cells (List.toArray kindsC) 103 (0, 0)) :: z.2.2.1)) (fun z => z.2.1) (fun z => z.1 ≤ l.length ∧ DExt w D z.2.1 ∧ St ((brokL X l z.1).length) z.2.1 z.2.2.1 ∧ MapB keyV z.2.2.2.1 z.2.2.2.2 (bkF (l.take z.1))) (fun z => l.length - z.1) ⟨0, D, h0, #[], 0⟩ ⟨by omega, DExt.refl _ _, hS0, MapB.empty _⟩ (fun a w h => at_fr h ⟨rfl, rfl, rfl, rfl, rfl, rfl, rfl, trivial⟩) ?_
  rintro ⟨i, D1, h1, es, cl⟩ ⟨hi, hX1, hS1, hM⟩
  dsimp only at hi hX1 hS1 hM
  replace hR := hR.ext (hX1)
  replace hB := hB.ext (hX1)
  replace h2 := (hX1).old _ _ h2
  replace h3 := (hX1).old _ _ h3
  refine WC.seq ?_
  refine WC.ofFr [(0, _), (2, _), (4, _), (5, _), (12, _), (13, _), (14, _)] ⟨rfl, rfl, rfl, rfl, rfl, rfl, rfl, trivial⟩ ?_
  refine WC.region ?_
  refine WL.yd (Yd.lss rfl rfl) rfl ?_
  refine WL.nil ?_
  refine WP.thenC ?_
  refine WC.seq ?_
  refine WC.cond rfl (fun c15 => ?_) (fun c15 => ?_)
  · try simp only [zq1, zq2, zq3, zq4, zq5, zq6, zq7, zq8] at c15
    have hil : i < l.length := by omega
    obtain ⟨y, hk1, hk2, hk3, hk4⟩ := ent_ky h5 (hent i hil)
    refine WC.skip ?_
    refine WP.thenC ?_
    refine WC.seq ?_
    refine WC.block ?_
    refine WC.seq ?_
    refine WC.ofFr [(0, _), (2, _), (4, _), (5, _), (12, _), (13, _), (14, _)] ⟨rfl, rfl, rfl, rfl, rfl, rfl, rfl, trivial⟩ ?_
    refine WC.region ?_
    refine WL.yd (Yd.move rfl) rfl ?_
    refine WL.yd (Yd.indexS Try.underlying41 Try.sizeOf44 rfl rfl (by omega) (by omega) (by first | exact hB.ent.addr i (by omega))) rfl ?_
    refine WL.yd (Yd.loadN Try.isAgg44 Try.sizeOf44 rfl (vs := [_, _, _]) rfl (by first | exact RdN.own (k := 0) (n := 3) rfl rfl | exact RdN.own (k := 1) (n := 3) rfl rfl | exact RdN.own (k := 2) (n := 3) rfl rfl | exact ((hB.ent.at i (by omega)).rdn 0 3 rfl))) rfl ?_
    refine WL.so (SO.alloc Try.zeroValue44 rfl) rfl ?_
    rintro _ _ _ ⟨b7, hb7, rfl, rfl, rfl⟩ -- NEW
    refine WL.yd (Yd.assign rfl) rfl ?_
    refine WL.so (SO.store 0 rfl Try.sizeOf44 rfl rfl rfl rfl (Nat.le_of_ble_eq_true rfl) (oneB_spec rfl)) rfl ?_
    rintro _ _ _ ⟨rfl, rfl, rfl⟩
    refine WL.nil ?_
    refine WP.thenC ?_
    refine WC.seq ?_
    refine WC.ofFr [(6, _), (7, _), (0, _), (2, _), (4, _), (5, _), (12, _), (13, _), (14, _)] ⟨rfl, rfl, rfl, rfl, rfl, rfl, rfl, rfl, rfl, trivial⟩ ?_
    refine WC.region ?_
    refine WL.yd (Yd.fieldAddr FA44_0 rfl) rfl ?_
    refine WL.yd (Yd.load1 Try.isAgg3 rfl (by first | exact Rd.own (k := 0) rfl rfl | exact Rd.own (k := 1) rfl rfl | exact Rd.own (k := 2) rfl rfl | exact Rd.own (k := 3) rfl rfl | exact (Rd.imm h3 rfl) | exact (Rd.imm h2 rfl) | exact (Rd.own (k := 3) rfl (kinds_at (by omega))))) rfl ?_
    refine WL.yd (Yd.fieldAddr FA44_1 rfl) rfl ?_
    refine WL.yd (Yd.load1 Try.isAgg3 rfl (by first | exact Rd.own (k := 0) rfl rfl | exact Rd.own (k := 1) rfl rfl | exact Rd.own (k := 2) rfl rfl | exact Rd.own (k := 3) rfl rfl | exact (Rd.imm h3 rfl) | exact (Rd.imm h2 rfl) | exact (Rd.own (k := 3) rfl (kinds_at (by omega))))) rfl ?_
    refine WL.yd (Yd.build SA99 rfl (cs := [_, _]) rfl) rfl ?_
    refine WL.so (SO.alloc Try.zeroValue99 rfl) rfl ?_
    rintro _ _ _ ⟨b8, hb8, rfl, rfl, rfl⟩ -- NEW
    refine WL.so (SO.store 0 rfl Try.sizeOf99 rfl rfl rfl rfl (Nat.le_of_ble_eq_true rfl) (oneB_spec rfl)) rfl ?_
    rintro _ _ _ ⟨rfl, rfl, rfl⟩
    refine WL.nil ?_
    refine WP.thenC ?_
    refine WC.seq ?_
    refine WC.ofFr [(8, _), (6, _), (7, _), (0, _), (2, _), (4, _), (5, _), (12, _), (13, _), (14, _)] ⟨rfl, rfl, rfl, rfl, rfl, rfl, rfl, rfl, rfl, rfl, trivial⟩ ?_
    refine WC.region ?_
    refine WL.yd (Yd.assign rfl) rfl ?_
    refine WL.nil ?_
    refine WP.thenC ?_
    refine WC.seq ?_
    refine WC.block ?_
    refine WC.seq ?_
    refine WC.ofFr [(9, _), (8, _), (6, _), (7, _), (0, _), (2, _), (4, _), (5, _), (12, _), (13, _), (14, _)] ⟨rfl, rfl, rfl, rfl, rfl, rfl, rfl, rfl, rfl, rfl, rfl, trivial⟩ ?_
    refine WC.region ?_
    refine WL.yd (Yd.move rfl) rfl ?_
    refine WL.yd (Yd.loadN Try.isAgg99 Try.sizeOf99 rfl (vs := [_, _]) rfl (by first | exact RdN.own (k := 0) (n := 2) rfl rfl | exact RdN.own (k := 1) (n := 2) rfl rfl | exact RdN.own (k := 2) (n := 2) rfl rfl | exact RdN.own (k := 3) (n := 2) rfl rfl | exact RdN.own (k := 4) (n := 2) rfl rfl | exact (RdN.imm (n := 5) h2 rfl))) rfl ?_
    refine WL.know 26 (keyV y) rfl (by rw [hk1, hk2]; rfl) ?_
    refine WL.yd (Yd.lookB (kv := keyV) (F := bkF (l.take i)) (y := y) (j := 2) keyV_inj keyLaw key_ky Try.underlying97 Try.zeroValue4 rfl rfl rfl hM) rfl ?_
    refine WL.yd (Yd.assign rfl) rfl ?_
    refine WL.nil ?_
    refine WP.thenC ?_
    refine WC.cond rfl (fun c24 => ?_) (fun c24 => ?_)
    · try simp only [zq1, zq2, zq3, zq4, zq5, zq6, zq7, zq8] at c24
      have hru : ruleI X l i = 1 := rule_1 hk1 hk2 c24
      refine WC.ofFr [(9, _), (8, _), (6, _), (0, _), (2, _), (4, _), (5, _), (12, _), (13, _), (14, _)] ⟨rfl, rfl, rfl, rfl, rfl, rfl, rfl, rfl, rfl, rfl, trivial⟩ ?_
      refine WC.region ?_
      refine WL.yd (Yd.assign rfl) rfl ?_
      refine WL.nil ?_
      refine WP.blkNormal ?_
      refine WP.thenC ?_
      refine WC.seq ?_
      refine WC.ofFr [(9, _), (8, _), (6, _), (0, _), (2, _), (4, _), (5, _), (12, _), (13, _), (14, _)] ⟨rfl, rfl, rfl, rfl, rfl, rfl, rfl, rfl, rfl, rfl, trivial⟩ ?_
      refine WC.region ?_
      refine WL.yd (Yd.move rfl) rfl ?_
      refine WL.yd (Yd.loadN Try.isAgg99 Try.sizeOf99 rfl (vs := [_, _]) rfl (by first | exact RdN.own (k := 0) (n := 2) rfl rfl | exact RdN.own (k := 1) (n := 2) rfl rfl | exact RdN.own (k := 2) (n := 2) rfl rfl | exact RdN.own (k := 3) (n := 2) rfl rfl | exact RdN.own (k := 4) (n := 2) rfl rfl | exact (RdN.imm (n := 5) h2 rfl))) rfl ?_
      refine WL.know 41 (keyV y) rfl (by rw [hk1, hk2]; rfl) ?_
      refine WL.so (SO.putB (kv := keyV) (y := y) (j := 2) keyV_inj keyLaw key_ky Try.underlying97 rfl rfl rfl rfl hM) rfl ?_
      rintro _ _ _ ⟨rfl, es1, cl1, rfl, hM1⟩
      rw [bkF_put hil hk1 hk2] at hM1
      refine WL.nil ?_
      refine WP.thenC ?_
      refine WC.seq ?_
      refine WC.seq ?_
      refine WC.ofFr [(9, _), (6, _), (0, _), (2, _), (4, _), (5, _), (12, _), (13, _), (14, _)] ⟨rfl, rfl, rfl, rfl, rfl, rfl, rfl, rfl, rfl, trivial⟩ ?_
      refine WC.region ?_
      refine WL.yd (Yd.move rfl) rfl ?_
      refine WL.yd (Yd.eql rfl rfl) rfl ?_
      refine WL.nil ?_
      refine WP.thenC ?_
      refine WC.condF rfl ?_
      refine WC.skip ?_
      refine WP.thenC ?_
      refine WC.seq ?_
      have hbat := brok_at X l hil (by rw [hru]; decide)
      refine WC.ofFr [(9, _), (6, _), (0, _), (2, _), (4, _), (5, _), (12, _), (13, _), (14, _)] ⟨rfl, rfl, rfl, rfl, rfl, rfl, rfl, rfl, rfl, trivial⟩ ?_
      refine WC.ofF ?_
      refine WCF.region ?_
      refine WLF.yd (by intro _ h; cases h) (Yd.move rfl) rfl ?_
      refine WLF.yd (by intro _ h; cases h) (Yd.move rfl) rfl ?_
      refine WLF.yd (by intro _ h; cases h) (Yd.move rfl) rfl ?_
      refine WLF.yieldN (l := ly) (vals := [nt i, it (1 : Int)]) [_, _, _, _] h1 (fun _ h => h) (fun h => h) rfl rfl rfl (fun w' hsz hI => by
        have hgo := hround ((brokL X l i).length) D1 h1 w' hbat.1 hsz hX1 hS1 hI
        simp only [hbat.2, hru] at hgo
        exact hgo) ?_
      rintro b47 D5 hp5 hK5 hX5
      refine WLF.yd (by intro _ h; cases h) (Yd.not rfl) rfl ?_
      refine WLF.nil ?_
      refine WP.thenC ?_
      refine WC.cond rfl (fun c48 => ?_) (fun c48 => ?_)
      · try simp only [zq1, zq2, zq3, zq4, zq5, zq6, zq7, zq8] at c48
        refine WC.ret ?_
        refine WP.blkRet ?_
        refine WP.thenRet ?_
        refine WP.thenRet ?_
        refine WP.blkRet ?_
        refine WP.scRet ?_
        refine WP.ret0 rfl rfl Try.results78  (fun w1 hI => by
          obtain ⟨htt, _⟩ | ⟨_, hK5⟩ := hK5
          · simp_all
          · exact ⟨_, D5, hp5, rfl, hX1.trans hX5 (Nat.le_refl _), hI.drop 4, .inr hK5⟩)
      · try simp only [zq1, zq2, zq3, zq4, zq5, zq6, zq7, zq8] at c48
        refine WC.skip ?_
        refine WP.blkNormal ?_
        refine WP.thenC ?_
        refine WC.ofFr [(0, _), (2, _), (4, _), (5, _), (12, _), (13, _), (14, _)] ⟨rfl, rfl, rfl, rfl, rfl, rfl, rfl, trivial⟩ ?_
        refine WC.region ?_
        refine WL.yd (Yd.add rfl rfl (wr64 ⟨by omega, by omega⟩)) rfl ?_
        refine WL.yd (Yd.move rfl) rfl ?_
        refine WL.nil ?_
        have hlen := brok_len X l i
        rw [hru] at hlen
        first
          | (rw [if_neg (by decide)] at hlen
             exact WP.again (⟨i + 1, D1, h1, es1, cl1⟩ : Nat × Imm × Hp × Array MapEntry × Nat) ⟨by simp only; omega, hX1, by simp only; rw [hlen]; exact hS1, hM1⟩ (by simp only; omega) (fun a w h => at_less h ⟨rfl, rfl, rfl, rfl, rfl, rfl, rfl, trivial⟩ (fun _ h => List.mem_cons_of_mem _ (List.mem_cons_of_mem _ h)) (fun h => (List.nodup_cons.1 (List.nodup_cons.1 h).2).2)))
          | (rw [if_pos (by decide)] at hlen
             obtain ⟨_, hK5⟩ | ⟨hff, _⟩ := hK5
             · exact WP.again (⟨i + 1, D5, hp5, es1, cl1⟩ : Nat × Imm × Hp × Array MapEntry × Nat) ⟨by simp only; omega, hX1.trans hX5 (Nat.le_refl _), by simp only; rw [hlen]; exact hK5, hM1⟩ (by simp only; omega) (fun a w h => at_less h ⟨rfl, rfl, rfl, rfl, rfl, rfl, rfl, trivial⟩ (fun _ h => List.mem_cons_of_mem _ (List.mem_cons_of_mem _ h)) (fun h => (List.nodup_cons.1 (List.nodup_cons.1 h).2).2))
             · simp_all)
    · try simp only [zq1, zq2, zq3, zq4, zq5, zq6, zq7, zq8] at c24
      refine WC.seq ?_
      refine WC.ofFr [(9, _), (8, _), (6, _), (7, _), (0, _), (2, _), (4, _), (5, _), (12, _), (13, _), (14, _)] ⟨rfl, rfl, rfl, rfl, rfl, rfl, rfl, rfl, rfl, rfl, rfl, trivial⟩ ?_
      refine WC.tail 9 [0, 1, 2, 3, 4, 5, 6, 7, 8] rfl (by kernel_rfl) (by kernel_rfl)  ?_
      refine WQ.q rfl (Yd.qt (Yd.fieldAddr FA44_1 rfl)) rfl ?_
      refine WQ.q rfl (Yd.qt (Yd.load1 Try.isAgg3 rfl (by first | exact Rd.own (k := 0) rfl rfl | exact Rd.own (k := 1) rfl rfl | exact Rd.own (k := 2) rfl rfl | exact Rd.own (k := 3) rfl rfl | exact Rd.own (k := 4) rfl rfl | exact (Rd.imm h3 rfl) | exact (Rd.imm h2 rfl) | exact (Rd.own (k := 3) rfl (kinds_at (by omega)))))) rfl ?_
      refine WQ.know 30 (nt y.2.val) rfl (by rw [hk2]) ?_
      refine WQ.q rfl (Yd.qt (Yd.indexA Try.underlying103 Try.sizeOf102 rfl rfl (by omega) (by omega))) rfl ?_
      refine WQ.q rfl (Yd.qt (Yd.load1 Try.isAgg102 rfl (by first | exact Rd.own (k := 0) rfl rfl | exact Rd.own (k := 1) rfl rfl | exact Rd.own (k := 2) rfl rfl | exact Rd.own (k := 3) rfl rfl | exact Rd.own (k := 4) rfl rfl | exact (Rd.imm h3 rfl) | exact (Rd.imm h2 rfl) | exact (Rd.own (k := 3) rfl (kinds_at (by omega)))))) rfl ?_
      refine WQ.know 32 (kindAt y.2.val) rfl (by rw [Nat.zero_add, Nat.mul_one]; rfl) ?_
      refine WQ.q rfl (Yd.qt (Yd.loadN Try.isAgg82 Try.sizeOf82 rfl (vs := [_, _, _, _, _]) rfl (by first | exact RdN.own (k := 0) (n := 5) rfl rfl | exact RdN.own (k := 1) (n := 5) rfl rfl | exact RdN.own (k := 2) (n := 5) rfl rfl | exact RdN.own (k := 3) (n := 5) rfl rfl | exact RdN.own (k := 4) (n := 5) rfl rfl | exact (RdN.imm (n := 5) h2 rfl)))) rfl ?_
      refine WQ.q rfl (Yd.qt (Yd.fieldAddr FA44_0 rfl)) rfl ?_
      refine WQ.q rfl (Yd.qt (Yd.load1 Try.isAgg3 rfl (by first | exact Rd.own (k := 0) rfl rfl | exact Rd.own (k := 1) rfl rfl | exact Rd.own (k := 2) rfl rfl | exact Rd.own (k := 3) rfl rfl | exact Rd.own (k := 4) rfl rfl | exact (Rd.imm h3 rfl) | exact (Rd.imm h2 rfl) | exact (Rd.own (k := 3) rfl (kinds_at (by omega)))))) rfl ?_
      refine WQ.q rfl (Yd.qt (Yd.fieldAddr FA44_2 rfl)) rfl ?_
      refine WQ.q rfl (Yd.qt (Yd.load1 Try.isAgg3 rfl (by first | exact Rd.own (k := 0) rfl rfl | exact Rd.own (k := 1) rfl rfl | exact Rd.own (k := 2) rfl rfl | exact Rd.own (k := 3) rfl rfl | exact Rd.own (k := 4) rfl rfl | exact (Rd.imm h3 rfl) | exact (Rd.imm h2 rfl) | exact (Rd.own (k := 3) rfl (kinds_at (by omega)))))) rfl ?_
      refine WQ.tail ?_
      refine WL.so (SO.call (can_enters hk3 rfl rfl) (fun w hI => canF_g X a1 _ c1 D1 _ hR hI.imm hbt hk3 (gt l i).ticket (gt l i).pence)) rfl ?_
      rintro _ _ _ ⟨rfl, rfl, rfl⟩
      refine WL.yd (Yd.not rfl) rfl ?_
      refine WL.yd (Yd.assign rfl) rfl ?_
      refine WL.nil ?_
      refine WP.thenC ?_
      refine WC.cond rfl (fun c28 => ?_) (fun c28 => ?_)
      · try simp only [zq1, zq2, zq3, zq4, zq5, zq6, zq7, zq8] at c28
        have hru : ruleI X l i = 2 := rule_2 hk1 hk2 c24 c28
        refine WC.ofFr [(9, _), (8, _), (6, _), (0, _), (2, _), (4, _), (5, _), (12, _), (13, _), (14, _)] ⟨rfl, rfl, rfl, rfl, rfl, rfl, rfl, rfl, rfl, rfl, trivial⟩ ?_
        refine WC.region ?_
        refine WL.yd (Yd.assign rfl) rfl ?_
        refine WL.nil ?_
        refine WP.blkNormal ?_
        refine WP.thenC ?_
        refine WC.seq ?_
        refine WC.ofFr [(9, _), (8, _), (6, _), (0, _), (2, _), (4, _), (5, _), (12, _), (13, _), (14, _)] ⟨rfl, rfl, rfl, rfl, rfl, rfl, rfl, rfl, rfl, rfl, trivial⟩ ?_
        refine WC.region ?_
        refine WL.yd (Yd.move rfl) rfl ?_
        refine WL.yd (Yd.loadN Try.isAgg99 Try.sizeOf99 rfl (vs := [_, _]) rfl (by first | exact RdN.own (k := 0) (n := 2) rfl rfl | exact RdN.own (k := 1) (n := 2) rfl rfl | exact RdN.own (k := 2) (n := 2) rfl rfl | exact RdN.own (k := 3) (n := 2) rfl rfl | exact RdN.own (k := 4) (n := 2) rfl rfl | exact (RdN.imm (n := 5) h2 rfl))) rfl ?_
        refine WL.know 41 (keyV y) rfl (by rw [hk1, hk2]; rfl) ?_
        refine WL.so (SO.putB (kv := keyV) (y := y) (j := 2) keyV_inj keyLaw key_ky Try.underlying97 rfl rfl rfl rfl hM) rfl ?_
        rintro _ _ _ ⟨rfl, es1, cl1, rfl, hM1⟩
        rw [bkF_put hil hk1 hk2] at hM1
        refine WL.nil ?_
        refine WP.thenC ?_
        refine WC.seq ?_
        refine WC.seq ?_
        refine WC.ofFr [(9, _), (6, _), (0, _), (2, _), (4, _), (5, _), (12, _), (13, _), (14, _)] ⟨rfl, rfl, rfl, rfl, rfl, rfl, rfl, rfl, rfl, trivial⟩ ?_
        refine WC.region ?_
        refine WL.yd (Yd.move rfl) rfl ?_
        refine WL.yd (Yd.eql rfl rfl) rfl ?_
        refine WL.nil ?_
        refine WP.thenC ?_
        refine WC.condF rfl ?_
        refine WC.skip ?_
        refine WP.thenC ?_
        refine WC.seq ?_
        have hbat := brok_at X l hil (by rw [hru]; decide)
        refine WC.ofFr [(9, _), (6, _), (0, _), (2, _), (4, _), (5, _), (12, _), (13, _), (14, _)] ⟨rfl, rfl, rfl, rfl, rfl, rfl, rfl, rfl, rfl, trivial⟩ ?_
        refine WC.ofF ?_
        refine WCF.region ?_
        refine WLF.yd (by intro _ h; cases h) (Yd.move rfl) rfl ?_
        refine WLF.yd (by intro _ h; cases h) (Yd.move rfl) rfl ?_
        refine WLF.yd (by intro _ h; cases h) (Yd.move rfl) rfl ?_
        refine WLF.yieldN (l := ly) (vals := [nt i, it (2 : Int)]) [_, _, _, _] h1 (fun _ h => h) (fun h => h) rfl rfl rfl (fun w' hsz hI => by
          have hgo := hround ((brokL X l i).length) D1 h1 w' hbat.1 hsz hX1 hS1 hI
          simp only [hbat.2, hru] at hgo
          exact hgo) ?_
        rintro b47 D5 hp5 hK5 hX5
        refine WLF.yd (by intro _ h; cases h) (Yd.not rfl) rfl ?_
        refine WLF.nil ?_
        refine WP.thenC ?_
        refine WC.cond rfl (fun c48 => ?_) (fun c48 => ?_)
        · try simp only [zq1, zq2, zq3, zq4, zq5, zq6, zq7, zq8] at c48
          refine WC.ret ?_
          refine WP.blkRet ?_
          refine WP.thenRet ?_
          refine WP.thenRet ?_
          refine WP.blkRet ?_
          refine WP.scRet ?_
          refine WP.ret0 rfl rfl Try.results78  (fun w1 hI => by
            obtain ⟨htt, _⟩ | ⟨_, hK5⟩ := hK5
            · simp_all
            · exact ⟨_, D5, hp5, rfl, hX1.trans hX5 (Nat.le_refl _), hI.drop 4, .inr hK5⟩)
        · try simp only [zq1, zq2, zq3, zq4, zq5, zq6, zq7, zq8] at c48
          refine WC.skip ?_
          refine WP.blkNormal ?_
          refine WP.thenC ?_
          refine WC.ofFr [(0, _), (2, _), (4, _), (5, _), (12, _), (13, _), (14, _)] ⟨rfl, rfl, rfl, rfl, rfl, rfl, rfl, trivial⟩ ?_
          refine WC.region ?_
          refine WL.yd (Yd.add rfl rfl (wr64 ⟨by omega, by omega⟩)) rfl ?_
          refine WL.yd (Yd.move rfl) rfl ?_
          refine WL.nil ?_
          have hlen := brok_len X l i
          rw [hru] at hlen
          first
            | (rw [if_neg (by decide)] at hlen
               exact WP.again (⟨i + 1, D1, h1, es1, cl1⟩ : Nat × Imm × Hp × Array MapEntry × Nat) ⟨by simp only; omega, hX1, by simp only; rw [hlen]; exact hS1, hM1⟩ (by simp only; omega) (fun a w h => at_less h ⟨rfl, rfl, rfl, rfl, rfl, rfl, rfl, trivial⟩ (fun _ h => List.mem_cons_of_mem _ (List.mem_cons_of_mem _ h)) (fun h => (List.nodup_cons.1 (List.nodup_cons.1 h).2).2)))
            | (rw [if_pos (by decide)] at hlen
               obtain ⟨_, hK5⟩ | ⟨hff, _⟩ := hK5
               · exact WP.again (⟨i + 1, D5, hp5, es1, cl1⟩ : Nat × Imm × Hp × Array MapEntry × Nat) ⟨by simp only; omega, hX1.trans hX5 (Nat.le_refl _), by simp only; rw [hlen]; exact hK5, hM1⟩ (by simp only; omega) (fun a w h => at_less h ⟨rfl, rfl, rfl, rfl, rfl, rfl, rfl, trivial⟩ (fun _ h => List.mem_cons_of_mem _ (List.mem_cons_of_mem _ h)) (fun h => (List.nodup_cons.1 (List.nodup_cons.1 h).2).2))
               · simp_all)
      · try simp only [zq1, zq2, zq3, zq4, zq5, zq6, zq7, zq8] at c28
        have hru : ruleI X l i = 0 := rule_0 hk1 hk2 c24 c28
        refine WC.skip ?_
        refine WP.blkNormal ?_
        refine WP.thenC ?_
        refine WC.seq ?_
        refine WC.ofFr [(9, _), (8, _), (6, _), (0, _), (2, _), (4, _), (5, _), (12, _), (13, _), (14, _)] ⟨rfl, rfl, rfl, rfl, rfl, rfl, rfl, rfl, rfl, rfl, trivial⟩ ?_
        refine WC.region ?_
        refine WL.yd (Yd.move rfl) rfl ?_
        refine WL.yd (Yd.loadN Try.isAgg99 Try.sizeOf99 rfl (vs := [_, _]) rfl (by first | exact RdN.own (k := 0) (n := 2) rfl rfl | exact RdN.own (k := 1) (n := 2) rfl rfl | exact RdN.own (k := 2) (n := 2) rfl rfl | exact RdN.own (k := 3) (n := 2) rfl rfl | exact RdN.own (k := 4) (n := 2) rfl rfl | exact (RdN.imm (n := 5) h2 rfl))) rfl ?_
        refine WL.know 41 (keyV y) rfl (by rw [hk1, hk2]; rfl) ?_
        refine WL.so (SO.putB (kv := keyV) (y := y) (j := 2) keyV_inj keyLaw key_ky Try.underlying97 rfl rfl rfl rfl hM) rfl ?_
        rintro _ _ _ ⟨rfl, es1, cl1, rfl, hM1⟩
        rw [bkF_put hil hk1 hk2] at hM1
        refine WL.nil ?_
        refine WP.thenC ?_
        refine WC.seq ?_
        refine WC.seq ?_
        refine WC.ofFr [(9, _), (6, _), (0, _), (2, _), (4, _), (5, _), (12, _), (13, _), (14, _)] ⟨rfl, rfl, rfl, rfl, rfl, rfl, rfl, rfl, rfl, trivial⟩ ?_
        refine WC.region ?_
        refine WL.yd (Yd.move rfl) rfl ?_
        refine WL.yd (Yd.eql rfl rfl) rfl ?_
        refine WL.nil ?_
        refine WP.thenC ?_
        refine WC.condT rfl ?_
        refine WC.exit ?_
        refine WP.thenExit ?_
        refine WP.blkHit ?_
        refine WP.thenC ?_
        refine WC.ofFr [(0, _), (2, _), (4, _), (5, _), (12, _), (13, _), (14, _)] ⟨rfl, rfl, rfl, rfl, rfl, rfl, rfl, trivial⟩ ?_
        refine WC.region ?_
        refine WL.yd (Yd.add rfl rfl (wr64 ⟨by omega, by omega⟩)) rfl ?_
        refine WL.yd (Yd.move rfl) rfl ?_
        refine WL.nil ?_
        have hlen := brok_len X l i
        rw [hru] at hlen
        first
          | (rw [if_neg (by decide)] at hlen
             exact WP.again (⟨i + 1, D1, h1, es1, cl1⟩ : Nat × Imm × Hp × Array MapEntry × Nat) ⟨by simp only; omega, hX1, by simp only; rw [hlen]; exact hS1, hM1⟩ (by simp only; omega) (fun a w h => at_less h ⟨rfl, rfl, rfl, rfl, rfl, rfl, rfl, trivial⟩ (fun _ h => List.mem_cons_of_mem _ (List.mem_cons_of_mem _ h)) (fun h => (List.nodup_cons.1 (List.nodup_cons.1 h).2).2)))
          | (rw [if_pos (by decide)] at hlen
             obtain ⟨_, hK5⟩ | ⟨hff, _⟩ := hK5
             · exact WP.again (⟨i + 1, D5, hp5, es1, cl1⟩ : Nat × Imm × Hp × Array MapEntry × Nat) ⟨by simp only; omega, hX1.trans hX5 (Nat.le_refl _), by simp only; rw [hlen]; exact hK5, hM1⟩ (by simp only; omega) (fun a w h => at_less h ⟨rfl, rfl, rfl, rfl, rfl, rfl, rfl, trivial⟩ (fun _ h => List.mem_cons_of_mem _ (List.mem_cons_of_mem _ h)) (fun h => (List.nodup_cons.1 (List.nodup_cons.1 h).2).2))
             · simp_all)
  · try simp only [zq1, zq2, zq3, zq4, zq5, zq6, zq7, zq8] at c15
    obtain rfl : i = l.length := by omega
    refine WC.exit ?_
    refine WP.thenExit ?_
    refine WP.thenExit ?_
    refine WP.blkHit ?_
    refine WP.scNormal ?_
    refine WP.ret0 rfl rfl Try.results78  (fun w1 hI => ⟨_, D1, h1, rfl, hX1, hI.drop 2, .inl hS1⟩)

end Go.Proofs.Ytpnbkdlejfmbeaa
