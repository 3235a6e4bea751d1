import Derived.Test.YtpnbkdlejfmbeaaRows
import Derived.Test.YtpnbkdlejfmbeaaXT
import Derived.Test.YtpnbkdlejfmbeaaXV
import Derived.Test.YtpnbkdlejfmbeaaXP
import Derived.Test.YtpnbkdlejfmbeaaXB
set_option linter.unusedSimpArgs false
set_option linter.unusedVariables false
set_option linter.all false
namespace Go.Proofs.Ytpnbkdlejfmbeaa
open Go.W Go.Ti
theorem FA128_0 : FieldAt Try.prog 128 0 0 := FieldAt.mk (t := 24) (off := 0) Try.underlying128 rfl Try.sizeOf24 (by decide)
theorem FA143_0 : FieldAt Try.prog 143 0 0 := FieldAt.mk (t := 24) (off := 0) Try.underlying143 rfl Try.sizeOf24 (by decide)
theorem SA128 : StructAt Try.prog 128 [.int .i64 0] [(0, 1)] := ⟨⟨_, Try.zeroValue128, rfl⟩, _, Try.underlying128, fun w => by simp [Try.sizeOf24]⟩
theorem SA143 : StructAt Try.prog 143 [.int .i64 0] [(0, 1)] := ⟨⟨_, Try.zeroValue143, rfl⟩, _, Try.underlying143, fun w => by simp [Try.sizeOf24]⟩
def tickC (x : Tick) : List Value := [it x.bought.lo, it x.bought.hi, it x.hut, it x.door.lo, it x.door.hi]
def natC (x : Nat) : List Value := [nt x]
theorem tickC_len : ∀ x, (tickC x).length = 5 := fun _ => rfl
theorem natC_len : ∀ x, (natC x).length = 1 := fun _ => rfl
structure TksR (D : Imm) (T : Tks) (a1 : Option Addr) (n1 : Nat) : Prop where
  tick : SlL D 5 (T.l.map tickC) a1 n1
  len : n1 ≤ 1000
theorem TksR.ext {w : World} {D D' : Imm} (hD : DExt w D D') {T : Tks} {a1 : Option Addr} {n1 : Nat} (h : TksR D T a1 n1) : TksR D' T a1 n1 := ⟨h.tick.ext hD, h.len⟩
def stopK (e : Int) : List PanicEntry := [{ v := .iface 143 (.agg #[it e]), recovered := false }]
def stopT (e : Int) : List PanicEntry := [{ v := .iface 128 (.agg #[it e]), recovered := false }]

set_option maxRecDepth 100000 in
set_option maxHeartbeats 1000000 in
theorem withinK_g (n lo hi : Int) (w : World) : Gives Try.prog 84 [it n, it lo, it hi] w (.bool (inB n lo hi)) := by
  unfold Gives
  refine enter Try.func84 rfl 15 Try.ntmps84 (Nat.le_of_ble_eq_true rfl) (Inv.start (D := fun _ => none) (by intro _ _ h; cases h)) ?_
  refine WC.seq ?_
  refine WC.ofFr [(0, _), (1, _), (2, _)] ⟨rfl, rfl, rfl, trivial⟩ ?_
  refine WC.region ?_
  refine WL.yd (Yd.assign rfl) rfl ?_
  refine WL.nil ?_
  refine WP.thenC ?_
  refine WC.seq ?_
  refine WC.ofFr [(6, _), (0, _), (1, _), (2, _)] ⟨rfl, rfl, rfl, rfl, trivial⟩ ?_
  refine WC.region ?_
  refine WL.yd (Yd.move rfl) rfl ?_
  refine WL.yd (Yd.move rfl) rfl ?_
  refine WL.yd (Yd.leq rfl rfl) rfl ?_
  refine WL.yd (Yd.move rfl) rfl ?_
  refine WL.part 10 rfl (fun g10 => ?_) (fun g10 => ?_)
  · try simp only [zq1, zq2, zq3, zq4, zq5, zq6, zq7, zq8] at g10
    refine WL.ydg rfl (Yd.move rfl) rfl ?_
    refine WL.ydg rfl (Yd.move rfl) rfl ?_
    refine WL.ydg rfl (Yd.leq rfl rfl) rfl ?_
    refine WL.yd (Yd.pickT rfl rfl) rfl ?_
    refine WL.yd (Yd.assign rfl) rfl ?_
    refine WL.nil ?_
    refine WP.thenC ?_
    refine WC.ret ?_
    refine WP.ret1 rfl rfl Try.results84 (RV.tmp rfl) (fun w hI => ⟨ret_bool (by rw [Bool.eq_iff_iff]; simp [inB]; omega), hI.keep⟩)
  · try simp only [zq1, zq2, zq3, zq4, zq5, zq6, zq7, zq8] at g10
    refine WL.skip rfl rfl ?_
    refine WL.skip rfl rfl ?_
    refine WL.skip rfl rfl ?_
    refine WL.yd (Yd.pickF rfl rfl) rfl ?_
    refine WL.yd (Yd.assign rfl) rfl ?_
    refine WL.nil ?_
    refine WP.thenC ?_
    refine WC.ret ?_
    refine WP.ret1 rfl rfl Try.results84 (RV.tmp rfl) (fun w hI => ⟨ret_bool (by rw [Bool.eq_iff_iff]; simp [inB]; omega), hI.keep⟩)

set_option maxRecDepth 100000 in
set_option maxHeartbeats 1000000 in
theorem mustK_ok (e : Int) (w : World) : Gives Try.prog 83 [.bool true, it e] w (.tuple #[]) := by
  unfold Gives
  refine enter Try.func83 rfl 9 Try.ntmps83 (Nat.le_of_ble_eq_true rfl) (Inv.start (D := fun _ => none) (by intro _ _ h; cases h)) ?_
  refine WC.seq ?_
  refine WC.ofFr [(0, _), (1, _)] ⟨rfl, rfl, trivial⟩ ?_
  refine WC.region ?_
  refine WL.yd (Yd.move rfl) rfl ?_
  refine WL.yd (Yd.not rfl) rfl ?_
  refine WL.nil ?_
  refine WP.thenC ?_
  refine WC.condF rfl ?_
  refine WC.skip ?_
  refine WP.ret0 rfl rfl Try.results83  (fun w hI => ⟨rfl, hI.keep⟩)

set_option maxRecDepth 100000 in
set_option maxHeartbeats 1000000 in
theorem mustK_no (e : Int) (w : World) : Fails Try.prog 83 [.bool false, it e] w (stopK e) := by
  unfold Fails
  refine enter Try.func83 rfl 9 Try.ntmps83 (Nat.le_of_ble_eq_true rfl) (Inv.start (D := fun _ => none) (by intro _ _ h; cases h)) ?_
  refine WC.seq ?_
  refine WC.ofFr [(0, _), (1, _)] ⟨rfl, rfl, trivial⟩ ?_
  refine WC.region ?_
  refine WL.yd (Yd.move rfl) rfl ?_
  refine WL.yd (Yd.not rfl) rfl ?_
  refine WL.nil ?_
  refine WP.thenC ?_
  refine WC.condT rfl ?_
  refine WC.ofFr [(1, _)] ⟨rfl, trivial⟩ ?_
  refine WC.region ?_
  refine WL.yd (Yd.move rfl) rfl ?_
  refine WL.yd (Yd.build SA143 rfl (cs := [_]) rfl) rfl ?_
  refine WL.yd (Yd.iface Try.underlying143 (by intro _ h; cases h) rfl) rfl ?_
  refine WL.no (SO.panic rfl ?_)
  refine WP.panicBody rfl (fun w hI => ⟨rfl, hI.keep⟩)

set_option maxRecDepth 100000 in
set_option maxHeartbeats 1000000 in
theorem stoppedK_nil (v : Value) (w : World) : Gives Try.prog 63 [.nilIface, v] w (.tuple #[]) := by
  unfold Gives
  refine enter Try.func63 rfl 20 Try.ntmps63 (Nat.le_of_ble_eq_true rfl) (Inv.start (D := fun _ => none) (by intro _ _ h; cases h)) ?_
  refine WC.seq ?_
  refine WC.seq ?_
  refine WC.ofFr [(0, _), (1, _)] ⟨rfl, rfl, trivial⟩ ?_
  refine WC.region ?_
  refine WL.yd (Yd.move rfl) rfl ?_
  refine WL.yd (Yd.eqlNilNil Try.underlying20 rfl) rfl ?_
  refine WL.nil ?_
  refine WP.thenC ?_
  refine WC.condT rfl ?_
  refine WC.ret ?_
  refine WP.thenRet ?_
  refine WP.ret0 rfl rfl Try.results63  (fun w hI => ⟨rfl, hI.keep⟩)

set_option maxRecDepth 100000 in
set_option maxHeartbeats 1000000 in
theorem stoppedK_yes (e v0 : Int) (b : Nat) (t : TypeId) (w : World) (hb : w.heap[b]? = some (.cells (List.toArray [it v0]) t (0, 0))) : Calls Try.prog 63 (List.toArray [.iface 143 (.agg #[it e]), pt b]) w fun en w' => (en = .returned (.tuple #[]) ∧ Keep [b] w w') ∧ w'.heap[b]? = some (.cells (List.toArray [it e]) t (0, 0)) := by
  refine enter Try.func63 rfl 20 Try.ntmps63 (Nat.le_of_ble_eq_true rfl) (Inv.one hb) ?_
  refine WC.seq ?_
  refine WC.seq ?_
  refine WC.ofFr [(0, _), (1, _)] ⟨rfl, rfl, trivial⟩ ?_
  refine WC.region ?_
  refine WL.yd (Yd.move rfl) rfl ?_
  refine WL.yd (Yd.eqlNil Try.underlying20 rfl) rfl ?_
  refine WL.nil ?_
  refine WP.thenC ?_
  refine WC.condF rfl ?_
  refine WC.skip ?_
  refine WP.thenC ?_
  refine WC.seq ?_
  refine WC.ofFr [(0, _), (1, _)] ⟨rfl, rfl, trivial⟩ ?_
  refine WC.region ?_
  refine WL.yd (Yd.move rfl) rfl ?_
  refine WL.yd (Yd.assert Try.underlying143 (by intro _ h; cases h) rfl) rfl ?_
  refine WL.yd (Yd.move rfl) rfl ?_
  refine WL.yd (Yd.extract rfl rfl) rfl ?_
  refine WL.yd (Yd.extract rfl rfl) rfl ?_
  refine WL.so (SO.alloc Try.zeroValue143 rfl) rfl ?_
  rintro _ _ _ ⟨b4, hb4, rfl, rfl, rfl⟩ -- NEW
  refine WL.so (SO.store 0 rfl Try.sizeOf143 rfl rfl rfl rfl (Nat.le_of_ble_eq_true rfl) (oneB_spec rfl)) rfl ?_
  rintro _ _ _ ⟨rfl, rfl, rfl⟩
  refine WL.yd (Yd.assign rfl) rfl ?_
  refine WL.nil ?_
  refine WP.thenC ?_
  refine WC.seq ?_
  refine WC.seq ?_
  refine WC.ofFr [(5, _), (4, _), (0, _), (1, _)] ⟨rfl, rfl, rfl, rfl, trivial⟩ ?_
  refine WC.region ?_
  refine WL.yd (Yd.move rfl) rfl ?_
  refine WL.yd (Yd.not rfl) rfl ?_
  refine WL.nil ?_
  refine WP.thenC ?_
  refine WC.condF rfl ?_
  refine WC.skip ?_
  refine WP.thenC ?_
  refine WC.ofFr [(4, _), (1, _)] ⟨rfl, rfl, trivial⟩ ?_
  refine WC.region ?_
  refine WL.yd (Yd.move rfl) rfl ?_
  refine WL.yd (Yd.fieldAddr FA143_0 rfl) rfl ?_
  refine WL.yd (Yd.load1 Try.isAgg24 rfl (by first | exact Rd.own (k := 0) rfl rfl | exact Rd.own (k := 1) rfl rfl)) rfl ?_
  refine WL.yd (Yd.nilCheck rfl) rfl ?_
  refine WL.so (SO.store 1 rfl Try.sizeOf24 rfl rfl rfl rfl (Nat.le_of_ble_eq_true rfl) (oneB_spec rfl)) rfl ?_
  rintro _ _ _ ⟨rfl, rfl, rfl⟩
  refine WL.nil ?_
  refine WP.ret0 rfl rfl Try.results63  (fun w hI => ⟨⟨rfl, hI.keep⟩, hI.own _ _ (List.mem_of_getElem? (i := 1) rfl)⟩)

set_option maxRecDepth 100000 in
set_option maxHeartbeats 1000000 in
theorem withinT_g (n lo hi : Int) (w : World) : Gives Try.prog 34 [it n, it lo, it hi] w (.bool (inB n lo hi)) := by
  unfold Gives
  refine enter Try.func34 rfl 15 Try.ntmps34 (Nat.le_of_ble_eq_true rfl) (Inv.start (D := fun _ => none) (by intro _ _ h; cases h)) ?_
  refine WC.seq ?_
  refine WC.ofFr [(0, _), (1, _), (2, _)] ⟨rfl, rfl, rfl, trivial⟩ ?_
  refine WC.region ?_
  refine WL.yd (Yd.assign rfl) rfl ?_
  refine WL.nil ?_
  refine WP.thenC ?_
  refine WC.seq ?_
  refine WC.ofFr [(6, _), (0, _), (1, _), (2, _)] ⟨rfl, rfl, rfl, rfl, trivial⟩ ?_
  refine WC.region ?_
  refine WL.yd (Yd.move rfl) rfl ?_
  refine WL.yd (Yd.move rfl) rfl ?_
  refine WL.yd (Yd.leq rfl rfl) rfl ?_
  refine WL.yd (Yd.move rfl) rfl ?_
  refine WL.part 10 rfl (fun g10 => ?_) (fun g10 => ?_)
  · try simp only [zq1, zq2, zq3, zq4, zq5, zq6, zq7, zq8] at g10
    refine WL.ydg rfl (Yd.move rfl) rfl ?_
    refine WL.ydg rfl (Yd.move rfl) rfl ?_
    refine WL.ydg rfl (Yd.leq rfl rfl) rfl ?_
    refine WL.yd (Yd.pickT rfl rfl) rfl ?_
    refine WL.yd (Yd.assign rfl) rfl ?_
    refine WL.nil ?_
    refine WP.thenC ?_
    refine WC.ret ?_
    refine WP.ret1 rfl rfl Try.results34 (RV.tmp rfl) (fun w hI => ⟨ret_bool (by rw [Bool.eq_iff_iff]; simp [inB]; omega), hI.keep⟩)
  · try simp only [zq1, zq2, zq3, zq4, zq5, zq6, zq7, zq8] at g10
    refine WL.skip rfl rfl ?_
    refine WL.skip rfl rfl ?_
    refine WL.skip rfl rfl ?_
    refine WL.yd (Yd.pickF rfl rfl) rfl ?_
    refine WL.yd (Yd.assign rfl) rfl ?_
    refine WL.nil ?_
    refine WP.thenC ?_
    refine WC.ret ?_
    refine WP.ret1 rfl rfl Try.results34 (RV.tmp rfl) (fun w hI => ⟨ret_bool (by rw [Bool.eq_iff_iff]; simp [inB]; omega), hI.keep⟩)

set_option maxRecDepth 100000 in
set_option maxHeartbeats 1000000 in
theorem mustT_ok (e : Int) (w : World) : Gives Try.prog 33 [.bool true, it e] w (.tuple #[]) := by
  unfold Gives
  refine enter Try.func33 rfl 9 Try.ntmps33 (Nat.le_of_ble_eq_true rfl) (Inv.start (D := fun _ => none) (by intro _ _ h; cases h)) ?_
  refine WC.seq ?_
  refine WC.ofFr [(0, _), (1, _)] ⟨rfl, rfl, trivial⟩ ?_
  refine WC.region ?_
  refine WL.yd (Yd.move rfl) rfl ?_
  refine WL.yd (Yd.not rfl) rfl ?_
  refine WL.nil ?_
  refine WP.thenC ?_
  refine WC.condF rfl ?_
  refine WC.skip ?_
  refine WP.ret0 rfl rfl Try.results33  (fun w hI => ⟨rfl, hI.keep⟩)

set_option maxRecDepth 100000 in
set_option maxHeartbeats 1000000 in
theorem mustT_no (e : Int) (w : World) : Fails Try.prog 33 [.bool false, it e] w (stopT e) := by
  unfold Fails
  refine enter Try.func33 rfl 9 Try.ntmps33 (Nat.le_of_ble_eq_true rfl) (Inv.start (D := fun _ => none) (by intro _ _ h; cases h)) ?_
  refine WC.seq ?_
  refine WC.ofFr [(0, _), (1, _)] ⟨rfl, rfl, trivial⟩ ?_
  refine WC.region ?_
  refine WL.yd (Yd.move rfl) rfl ?_
  refine WL.yd (Yd.not rfl) rfl ?_
  refine WL.nil ?_
  refine WP.thenC ?_
  refine WC.condT rfl ?_
  refine WC.ofFr [(1, _)] ⟨rfl, trivial⟩ ?_
  refine WC.region ?_
  refine WL.yd (Yd.move rfl) rfl ?_
  refine WL.yd (Yd.build SA128 rfl (cs := [_]) rfl) rfl ?_
  refine WL.yd (Yd.iface Try.underlying128 (by intro _ h; cases h) rfl) rfl ?_
  refine WL.no (SO.panic rfl ?_)
  refine WP.panicBody rfl (fun w hI => ⟨rfl, hI.keep⟩)

set_option maxRecDepth 100000 in
set_option maxHeartbeats 1000000 in
theorem stoppedT_nil (v : Value) (w : World) : Gives Try.prog 32 [.nilIface, v] w (.tuple #[]) := by
  unfold Gives
  refine enter Try.func32 rfl 20 Try.ntmps32 (Nat.le_of_ble_eq_true rfl) (Inv.start (D := fun _ => none) (by intro _ _ h; cases h)) ?_
  refine WC.seq ?_
  refine WC.seq ?_
  refine WC.ofFr [(0, _), (1, _)] ⟨rfl, rfl, trivial⟩ ?_
  refine WC.region ?_
  refine WL.yd (Yd.move rfl) rfl ?_
  refine WL.yd (Yd.eqlNilNil Try.underlying20 rfl) rfl ?_
  refine WL.nil ?_
  refine WP.thenC ?_
  refine WC.condT rfl ?_
  refine WC.ret ?_
  refine WP.thenRet ?_
  refine WP.ret0 rfl rfl Try.results32  (fun w hI => ⟨rfl, hI.keep⟩)

set_option maxRecDepth 100000 in
set_option maxHeartbeats 1000000 in
theorem stoppedT_yes (e v0 : Int) (b : Nat) (t : TypeId) (w : World) (hb : w.heap[b]? = some (.cells (List.toArray [it v0]) t (0, 0))) : Calls Try.prog 32 (List.toArray [.iface 128 (.agg #[it e]), pt b]) w fun en w' => (en = .returned (.tuple #[]) ∧ Keep [b] w w') ∧ w'.heap[b]? = some (.cells (List.toArray [it e]) t (0, 0)) := by
  refine enter Try.func32 rfl 20 Try.ntmps32 (Nat.le_of_ble_eq_true rfl) (Inv.one hb) ?_
  refine WC.seq ?_
  refine WC.seq ?_
  refine WC.ofFr [(0, _), (1, _)] ⟨rfl, rfl, trivial⟩ ?_
  refine WC.region ?_
  refine WL.yd (Yd.move rfl) rfl ?_
  refine WL.yd (Yd.eqlNil Try.underlying20 rfl) rfl ?_
  refine WL.nil ?_
  refine WP.thenC ?_
  refine WC.condF rfl ?_
  refine WC.skip ?_
  refine WP.thenC ?_
  refine WC.seq ?_
  refine WC.ofFr [(0, _), (1, _)] ⟨rfl, rfl, trivial⟩ ?_
  refine WC.region ?_
  refine WL.yd (Yd.move rfl) rfl ?_
  refine WL.yd (Yd.assert Try.underlying128 (by intro _ h; cases h) rfl) rfl ?_
  refine WL.yd (Yd.move rfl) rfl ?_
  refine WL.yd (Yd.extract rfl rfl) rfl ?_
  refine WL.yd (Yd.extract rfl rfl) rfl ?_
  refine WL.so (SO.alloc Try.zeroValue128 rfl) rfl ?_
  rintro _ _ _ ⟨b4, hb4, rfl, rfl, rfl⟩ -- NEW
  refine WL.so (SO.store 0 rfl Try.sizeOf128 rfl rfl rfl rfl (Nat.le_of_ble_eq_true rfl) (oneB_spec rfl)) rfl ?_
  rintro _ _ _ ⟨rfl, rfl, rfl⟩
  refine WL.yd (Yd.assign rfl) rfl ?_
  refine WL.nil ?_
  refine WP.thenC ?_
  refine WC.seq ?_
  refine WC.seq ?_
  refine WC.ofFr [(5, _), (4, _), (0, _), (1, _)] ⟨rfl, rfl, rfl, rfl, trivial⟩ ?_
  refine WC.region ?_
  refine WL.yd (Yd.move rfl) rfl ?_
  refine WL.yd (Yd.not rfl) rfl ?_
  refine WL.nil ?_
  refine WP.thenC ?_
  refine WC.condF rfl ?_
  refine WC.skip ?_
  refine WP.thenC ?_
  refine WC.ofFr [(4, _), (1, _)] ⟨rfl, rfl, trivial⟩ ?_
  refine WC.region ?_
  refine WL.yd (Yd.move rfl) rfl ?_
  refine WL.yd (Yd.fieldAddr FA128_0 rfl) rfl ?_
  refine WL.yd (Yd.load1 Try.isAgg24 rfl (by first | exact Rd.own (k := 0) rfl rfl | exact Rd.own (k := 1) rfl rfl)) rfl ?_
  refine WL.yd (Yd.nilCheck rfl) rfl ?_
  refine WL.so (SO.store 1 rfl Try.sizeOf24 rfl rfl rfl rfl (Nat.le_of_ble_eq_true rfl) (oneB_spec rfl)) rfl ?_
  rintro _ _ _ ⟨rfl, rfl, rfl⟩
  refine WL.nil ?_
  refine WP.ret0 rfl rfl Try.results32  (fun w hI => ⟨⟨rfl, hI.keep⟩, hI.own _ _ (List.mem_of_getElem? (i := 1) rfl)⟩)

theorem idle67 (b : Nat) (w : World) : Idle Try.prog 67 [pt b] w := by
  refine callsD_of_wpS Try.func67 rfl fun c₀ cs hu => ?_
  apply wpS_region
  simp [wpOpsS, go_sem, recoverD, hu, Try.ntmps67]
  refine (stoppedK_nil (pt b) w).mono ?_
  rintro e w' ⟨rfl, hk⟩
  cases c₀
  simp only at hu
  subst hu
  simp [bodyPostS, results, Try.results67, hk]
theorem idleM67 (b : Nat) (w : World) : IdleM Try.prog 67 [pt b] w := by
  refine callsDIn_of_wpS Try.func67 rfl fun c₀ cs hu => ?_
  apply wpS_region
  simp [wpOpsS, go_sem, recoverD, hu, Try.ntmps67]
  refine (stoppedK_nil (pt b) w).mono ?_
  rintro e w' ⟨rfl, hk⟩
  cases c₀
  simp only at hu
  subst hu
  simp [bodyPostS, results, Try.results67, hk]
theorem catch67 (b : Nat) (e v0 : Int) (t : TypeId) (w : World) (hb : w.heap[b]? = some (.cells (List.toArray [it v0]) t (0, 0))) : Catch Try.prog 67 [pt b] (.iface 143 (.agg #[it e])) b (.cells (List.toArray [it e]) t (0, 0)) w := by
  refine callsD_of_wpS Try.func67 rfl fun c₀ cs hu => ?_
  apply wpS_region
  simp [wpOpsS, go_sem, recoverD, hu, Try.ntmps67]
  refine (stoppedK_yes e v0 b t w hb).mono ?_
  rintro en w' ⟨⟨rfl, hk⟩, hb'⟩
  cases c₀
  simp only at hu
  subst hu
  simp [bodyPostS, results, Try.results67, hk, hb']

theorem idle91 (b : Nat) (w : World) : Idle Try.prog 91 [pt b] w := by
  refine callsD_of_wpS Try.func91 rfl fun c₀ cs hu => ?_
  apply wpS_region
  simp [wpOpsS, go_sem, recoverD, hu, Try.ntmps91]
  refine (stoppedK_nil (pt b) w).mono ?_
  rintro e w' ⟨rfl, hk⟩
  cases c₀
  simp only at hu
  subst hu
  simp [bodyPostS, results, Try.results91, hk]
theorem idleM91 (b : Nat) (w : World) : IdleM Try.prog 91 [pt b] w := by
  refine callsDIn_of_wpS Try.func91 rfl fun c₀ cs hu => ?_
  apply wpS_region
  simp [wpOpsS, go_sem, recoverD, hu, Try.ntmps91]
  refine (stoppedK_nil (pt b) w).mono ?_
  rintro e w' ⟨rfl, hk⟩
  cases c₀
  simp only at hu
  subst hu
  simp [bodyPostS, results, Try.results91, hk]
theorem catch91 (b : Nat) (e v0 : Int) (t : TypeId) (w : World) (hb : w.heap[b]? = some (.cells (List.toArray [it v0]) t (0, 0))) : Catch Try.prog 91 [pt b] (.iface 143 (.agg #[it e])) b (.cells (List.toArray [it e]) t (0, 0)) w := by
  refine callsD_of_wpS Try.func91 rfl fun c₀ cs hu => ?_
  apply wpS_region
  simp [wpOpsS, go_sem, recoverD, hu, Try.ntmps91]
  refine (stoppedK_yes e v0 b t w hb).mono ?_
  rintro en w' ⟨⟨rfl, hk⟩, hb'⟩
  cases c₀
  simp only at hu
  subst hu
  simp [bodyPostS, results, Try.results91, hk, hb']

theorem idle62 (b : Nat) (w : World) : Idle Try.prog 62 [pt b] w := by
  refine callsD_of_wpS Try.func62 rfl fun c₀ cs hu => ?_
  apply wpS_region
  simp [wpOpsS, go_sem, recoverD, hu, Try.ntmps62]
  refine (stoppedK_nil (pt b) w).mono ?_
  rintro e w' ⟨rfl, hk⟩
  cases c₀
  simp only at hu
  subst hu
  simp [bodyPostS, results, Try.results62, hk]
theorem idleM62 (b : Nat) (w : World) : IdleM Try.prog 62 [pt b] w := by
  refine callsDIn_of_wpS Try.func62 rfl fun c₀ cs hu => ?_
  apply wpS_region
  simp [wpOpsS, go_sem, recoverD, hu, Try.ntmps62]
  refine (stoppedK_nil (pt b) w).mono ?_
  rintro e w' ⟨rfl, hk⟩
  cases c₀
  simp only at hu
  subst hu
  simp [bodyPostS, results, Try.results62, hk]
theorem catch62 (b : Nat) (e v0 : Int) (t : TypeId) (w : World) (hb : w.heap[b]? = some (.cells (List.toArray [it v0]) t (0, 0))) : Catch Try.prog 62 [pt b] (.iface 143 (.agg #[it e])) b (.cells (List.toArray [it e]) t (0, 0)) w := by
  refine callsD_of_wpS Try.func62 rfl fun c₀ cs hu => ?_
  apply wpS_region
  simp [wpOpsS, go_sem, recoverD, hu, Try.ntmps62]
  refine (stoppedK_yes e v0 b t w hb).mono ?_
  rintro en w' ⟨⟨rfl, hk⟩, hb'⟩
  cases c₀
  simp only at hu
  subst hu
  simp [bodyPostS, results, Try.results62, hk, hb']

theorem idle71 (b : Nat) (w : World) : Idle Try.prog 71 [pt b] w := by
  refine callsD_of_wpS Try.func71 rfl fun c₀ cs hu => ?_
  apply wpS_region
  simp [wpOpsS, go_sem, recoverD, hu, Try.ntmps71]
  refine (stoppedK_nil (pt b) w).mono ?_
  rintro e w' ⟨rfl, hk⟩
  cases c₀
  simp only at hu
  subst hu
  simp [bodyPostS, results, Try.results71, hk]
theorem idleM71 (b : Nat) (w : World) : IdleM Try.prog 71 [pt b] w := by
  refine callsDIn_of_wpS Try.func71 rfl fun c₀ cs hu => ?_
  apply wpS_region
  simp [wpOpsS, go_sem, recoverD, hu, Try.ntmps71]
  refine (stoppedK_nil (pt b) w).mono ?_
  rintro e w' ⟨rfl, hk⟩
  cases c₀
  simp only at hu
  subst hu
  simp [bodyPostS, results, Try.results71, hk]
theorem catch71 (b : Nat) (e v0 : Int) (t : TypeId) (w : World) (hb : w.heap[b]? = some (.cells (List.toArray [it v0]) t (0, 0))) : Catch Try.prog 71 [pt b] (.iface 143 (.agg #[it e])) b (.cells (List.toArray [it e]) t (0, 0)) w := by
  refine callsD_of_wpS Try.func71 rfl fun c₀ cs hu => ?_
  apply wpS_region
  simp [wpOpsS, go_sem, recoverD, hu, Try.ntmps71]
  refine (stoppedK_yes e v0 b t w hb).mono ?_
  rintro en w' ⟨⟨rfl, hk⟩, hb'⟩
  cases c₀
  simp only at hu
  subst hu
  simp [bodyPostS, results, Try.results71, hk, hb']

theorem idle54 (b : Nat) (w : World) : Idle Try.prog 54 [pt b] w := by
  refine callsD_of_wpS Try.func54 rfl fun c₀ cs hu => ?_
  apply wpS_region
  simp [wpOpsS, go_sem, recoverD, hu, Try.ntmps54]
  refine (stoppedT_nil (pt b) w).mono ?_
  rintro e w' ⟨rfl, hk⟩
  cases c₀
  simp only at hu
  subst hu
  simp [bodyPostS, results, Try.results54, hk]
theorem idleM54 (b : Nat) (w : World) : IdleM Try.prog 54 [pt b] w := by
  refine callsDIn_of_wpS Try.func54 rfl fun c₀ cs hu => ?_
  apply wpS_region
  simp [wpOpsS, go_sem, recoverD, hu, Try.ntmps54]
  refine (stoppedT_nil (pt b) w).mono ?_
  rintro e w' ⟨rfl, hk⟩
  cases c₀
  simp only at hu
  subst hu
  simp [bodyPostS, results, Try.results54, hk]
theorem catch54 (b : Nat) (e v0 : Int) (t : TypeId) (w : World) (hb : w.heap[b]? = some (.cells (List.toArray [it v0]) t (0, 0))) : Catch Try.prog 54 [pt b] (.iface 128 (.agg #[it e])) b (.cells (List.toArray [it e]) t (0, 0)) w := by
  refine callsD_of_wpS Try.func54 rfl fun c₀ cs hu => ?_
  apply wpS_region
  simp [wpOpsS, go_sem, recoverD, hu, Try.ntmps54]
  refine (stoppedT_yes e v0 b t w hb).mono ?_
  rintro en w' ⟨⟨rfl, hk⟩, hb'⟩
  cases c₀
  simp only at hu
  subst hu
  simp [bodyPostS, results, Try.results54, hk, hb']

theorem idle40 (b : Nat) (w : World) : Idle Try.prog 40 [pt b] w := by
  refine callsD_of_wpS Try.func40 rfl fun c₀ cs hu => ?_
  apply wpS_region
  simp [wpOpsS, go_sem, recoverD, hu, Try.ntmps40]
  refine (stoppedT_nil (pt b) w).mono ?_
  rintro e w' ⟨rfl, hk⟩
  cases c₀
  simp only at hu
  subst hu
  simp [bodyPostS, results, Try.results40, hk]
theorem idleM40 (b : Nat) (w : World) : IdleM Try.prog 40 [pt b] w := by
  refine callsDIn_of_wpS Try.func40 rfl fun c₀ cs hu => ?_
  apply wpS_region
  simp [wpOpsS, go_sem, recoverD, hu, Try.ntmps40]
  refine (stoppedT_nil (pt b) w).mono ?_
  rintro e w' ⟨rfl, hk⟩
  cases c₀
  simp only at hu
  subst hu
  simp [bodyPostS, results, Try.results40, hk]
theorem catch40 (b : Nat) (e v0 : Int) (t : TypeId) (w : World) (hb : w.heap[b]? = some (.cells (List.toArray [it v0]) t (0, 0))) : Catch Try.prog 40 [pt b] (.iface 128 (.agg #[it e])) b (.cells (List.toArray [it e]) t (0, 0)) w := by
  refine callsD_of_wpS Try.func40 rfl fun c₀ cs hu => ?_
  apply wpS_region
  simp [wpOpsS, go_sem, recoverD, hu, Try.ntmps40]
  refine (stoppedT_yes e v0 b t w hb).mono ?_
  rintro en w' ⟨⟨rfl, hk⟩, hb'⟩
  cases c₀
  simp only at hu
  subst hu
  simp [bodyPostS, results, Try.results40, hk, hb']

theorem idle53 (b : Nat) (w : World) : Idle Try.prog 53 [pt b] w := by
  refine callsD_of_wpS Try.func53 rfl fun c₀ cs hu => ?_
  apply wpS_region
  simp [wpOpsS, go_sem, recoverD, hu, Try.ntmps53]
  refine (stoppedT_nil (pt b) w).mono ?_
  rintro e w' ⟨rfl, hk⟩
  cases c₀
  simp only at hu
  subst hu
  simp [bodyPostS, results, Try.results53, hk]
theorem idleM53 (b : Nat) (w : World) : IdleM Try.prog 53 [pt b] w := by
  refine callsDIn_of_wpS Try.func53 rfl fun c₀ cs hu => ?_
  apply wpS_region
  simp [wpOpsS, go_sem, recoverD, hu, Try.ntmps53]
  refine (stoppedT_nil (pt b) w).mono ?_
  rintro e w' ⟨rfl, hk⟩
  cases c₀
  simp only at hu
  subst hu
  simp [bodyPostS, results, Try.results53, hk]
theorem catch53 (b : Nat) (e v0 : Int) (t : TypeId) (w : World) (hb : w.heap[b]? = some (.cells (List.toArray [it v0]) t (0, 0))) : Catch Try.prog 53 [pt b] (.iface 128 (.agg #[it e])) b (.cells (List.toArray [it e]) t (0, 0)) w := by
  refine callsD_of_wpS Try.func53 rfl fun c₀ cs hu => ?_
  apply wpS_region
  simp [wpOpsS, go_sem, recoverD, hu, Try.ntmps53]
  refine (stoppedT_yes e v0 b t w hb).mono ?_
  rintro en w' ⟨⟨rfl, hk⟩, hb'⟩
  cases c₀
  simp only at hu
  subst hu
  simp [bodyPostS, results, Try.results53, hk, hb']

theorem idle42 (b : Nat) (w : World) : Idle Try.prog 42 [pt b] w := by
  refine callsD_of_wpS Try.func42 rfl fun c₀ cs hu => ?_
  apply wpS_region
  simp [wpOpsS, go_sem, recoverD, hu, Try.ntmps42]
  refine (stoppedT_nil (pt b) w).mono ?_
  rintro e w' ⟨rfl, hk⟩
  cases c₀
  simp only at hu
  subst hu
  simp [bodyPostS, results, Try.results42, hk]
theorem idleM42 (b : Nat) (w : World) : IdleM Try.prog 42 [pt b] w := by
  refine callsDIn_of_wpS Try.func42 rfl fun c₀ cs hu => ?_
  apply wpS_region
  simp [wpOpsS, go_sem, recoverD, hu, Try.ntmps42]
  refine (stoppedT_nil (pt b) w).mono ?_
  rintro e w' ⟨rfl, hk⟩
  cases c₀
  simp only at hu
  subst hu
  simp [bodyPostS, results, Try.results42, hk]
theorem catch42 (b : Nat) (e v0 : Int) (t : TypeId) (w : World) (hb : w.heap[b]? = some (.cells (List.toArray [it v0]) t (0, 0))) : Catch Try.prog 42 [pt b] (.iface 128 (.agg #[it e])) b (.cells (List.toArray [it e]) t (0, 0)) w := by
  refine callsD_of_wpS Try.func42 rfl fun c₀ cs hu => ?_
  apply wpS_region
  simp [wpOpsS, go_sem, recoverD, hu, Try.ntmps42]
  refine (stoppedT_yes e v0 b t w hb).mono ?_
  rintro en w' ⟨⟨rfl, hk⟩, hb'⟩
  cases c₀
  simp only at hu
  subst hu
  simp [bodyPostS, results, Try.results42, hk, hb']

theorem idle43 (b : Nat) (w : World) : Idle Try.prog 43 [pt b] w := by
  refine callsD_of_wpS Try.func43 rfl fun c₀ cs hu => ?_
  apply wpS_region
  simp [wpOpsS, go_sem, recoverD, hu, Try.ntmps43]
  refine (stoppedT_nil (pt b) w).mono ?_
  rintro e w' ⟨rfl, hk⟩
  cases c₀
  simp only at hu
  subst hu
  simp [bodyPostS, results, Try.results43, hk]
theorem idleM43 (b : Nat) (w : World) : IdleM Try.prog 43 [pt b] w := by
  refine callsDIn_of_wpS Try.func43 rfl fun c₀ cs hu => ?_
  apply wpS_region
  simp [wpOpsS, go_sem, recoverD, hu, Try.ntmps43]
  refine (stoppedT_nil (pt b) w).mono ?_
  rintro e w' ⟨rfl, hk⟩
  cases c₀
  simp only at hu
  subst hu
  simp [bodyPostS, results, Try.results43, hk]
theorem catch43 (b : Nat) (e v0 : Int) (t : TypeId) (w : World) (hb : w.heap[b]? = some (.cells (List.toArray [it v0]) t (0, 0))) : Catch Try.prog 43 [pt b] (.iface 128 (.agg #[it e])) b (.cells (List.toArray [it e]) t (0, 0)) w := by
  refine callsD_of_wpS Try.func43 rfl fun c₀ cs hu => ?_
  apply wpS_region
  simp [wpOpsS, go_sem, recoverD, hu, Try.ntmps43]
  refine (stoppedT_yes e v0 b t w hb).mono ?_
  rintro en w' ⟨⟨rfl, hk⟩, hb'⟩
  cases c₀
  simp only at hu
  subst hu
  simp [bodyPostS, results, Try.results43, hk, hb']

theorem idle59 (b : Nat) (w : World) : Idle Try.prog 59 [pt b] w := by
  refine callsD_of_wpS Try.func59 rfl fun c₀ cs hu => ?_
  apply wpS_region
  simp [wpOpsS, go_sem, recoverD, hu, Try.ntmps59]
  refine (stoppedT_nil (pt b) w).mono ?_
  rintro e w' ⟨rfl, hk⟩
  cases c₀
  simp only at hu
  subst hu
  simp [bodyPostS, results, Try.results59, hk]
theorem idleM59 (b : Nat) (w : World) : IdleM Try.prog 59 [pt b] w := by
  refine callsDIn_of_wpS Try.func59 rfl fun c₀ cs hu => ?_
  apply wpS_region
  simp [wpOpsS, go_sem, recoverD, hu, Try.ntmps59]
  refine (stoppedT_nil (pt b) w).mono ?_
  rintro e w' ⟨rfl, hk⟩
  cases c₀
  simp only at hu
  subst hu
  simp [bodyPostS, results, Try.results59, hk]
theorem catch59 (b : Nat) (e v0 : Int) (t : TypeId) (w : World) (hb : w.heap[b]? = some (.cells (List.toArray [it v0]) t (0, 0))) : Catch Try.prog 59 [pt b] (.iface 128 (.agg #[it e])) b (.cells (List.toArray [it e]) t (0, 0)) w := by
  refine callsD_of_wpS Try.func59 rfl fun c₀ cs hu => ?_
  apply wpS_region
  simp [wpOpsS, go_sem, recoverD, hu, Try.ntmps59]
  refine (stoppedT_yes e v0 b t w hb).mono ?_
  rintro en w' ⟨⟨rfl, hk⟩, hb'⟩
  cases c₀
  simp only at hu
  subst hu
  simp [bodyPostS, results, Try.results59, hk, hb']

theorem idle48 (b : Nat) (w : World) : Idle Try.prog 48 [pt b] w := by
  refine callsD_of_wpS Try.func48 rfl fun c₀ cs hu => ?_
  apply wpS_region
  simp [wpOpsS, go_sem, recoverD, hu, Try.ntmps48]
  refine (stoppedT_nil (pt b) w).mono ?_
  rintro e w' ⟨rfl, hk⟩
  cases c₀
  simp only at hu
  subst hu
  simp [bodyPostS, results, Try.results48, hk]
theorem idleM48 (b : Nat) (w : World) : IdleM Try.prog 48 [pt b] w := by
  refine callsDIn_of_wpS Try.func48 rfl fun c₀ cs hu => ?_
  apply wpS_region
  simp [wpOpsS, go_sem, recoverD, hu, Try.ntmps48]
  refine (stoppedT_nil (pt b) w).mono ?_
  rintro e w' ⟨rfl, hk⟩
  cases c₀
  simp only at hu
  subst hu
  simp [bodyPostS, results, Try.results48, hk]
theorem catch48 (b : Nat) (e v0 : Int) (t : TypeId) (w : World) (hb : w.heap[b]? = some (.cells (List.toArray [it v0]) t (0, 0))) : Catch Try.prog 48 [pt b] (.iface 128 (.agg #[it e])) b (.cells (List.toArray [it e]) t (0, 0)) w := by
  refine callsD_of_wpS Try.func48 rfl fun c₀ cs hu => ?_
  apply wpS_region
  simp [wpOpsS, go_sem, recoverD, hu, Try.ntmps48]
  refine (stoppedT_yes e v0 b t w hb).mono ?_
  rintro en w' ⟨⟨rfl, hk⟩, hb'⟩
  cases c₀
  simp only at hu
  subst hu
  simp [bodyPostS, results, Try.results48, hk, hb']

theorem idle31 (b : Nat) (w : World) : Idle Try.prog 31 [pt b] w := by
  refine callsD_of_wpS Try.func31 rfl fun c₀ cs hu => ?_
  apply wpS_region
  simp [wpOpsS, go_sem, recoverD, hu, Try.ntmps31]
  refine (stoppedT_nil (pt b) w).mono ?_
  rintro e w' ⟨rfl, hk⟩
  cases c₀
  simp only at hu
  subst hu
  simp [bodyPostS, results, Try.results31, hk]
theorem idleM31 (b : Nat) (w : World) : IdleM Try.prog 31 [pt b] w := by
  refine callsDIn_of_wpS Try.func31 rfl fun c₀ cs hu => ?_
  apply wpS_region
  simp [wpOpsS, go_sem, recoverD, hu, Try.ntmps31]
  refine (stoppedT_nil (pt b) w).mono ?_
  rintro e w' ⟨rfl, hk⟩
  cases c₀
  simp only at hu
  subst hu
  simp [bodyPostS, results, Try.results31, hk]
theorem catch31 (b : Nat) (e v0 : Int) (t : TypeId) (w : World) (hb : w.heap[b]? = some (.cells (List.toArray [it v0]) t (0, 0))) : Catch Try.prog 31 [pt b] (.iface 128 (.agg #[it e])) b (.cells (List.toArray [it e]) t (0, 0)) w := by
  refine callsD_of_wpS Try.func31 rfl fun c₀ cs hu => ?_
  apply wpS_region
  simp [wpOpsS, go_sem, recoverD, hu, Try.ntmps31]
  refine (stoppedT_yes e v0 b t w hb).mono ?_
  rintro en w' ⟨⟨rfl, hk⟩, hb'⟩
  cases c₀
  simp only at hu
  subst hu
  simp [bodyPostS, results, Try.results31, hk, hb']

end Go.Proofs.Ytpnbkdlejfmbeaa
namespace Go.Proofs.Ytpnbkdlejfmbeaa
open Go.W Go.Ti

def datN (l : List Nat) (rest : List Value) : Obj := .cells (List.toArray (l.map nt ++ rest)) 3 (0, 0)
theorem swpN_mem {l : List Nat} {i j : Nat} (rest : List Value) (hi : i < l.length) (hj : j < l.length) : splice (splice (l.map nt ++ rest) (0 + i * 1) [nt (gt l j)]) (0 + j * 1) [nt (gt l i)] = (swp l i j).map nt ++ rest := by
  unfold swp
  rw [splice_dataN _ _ _ _ hi, splice_dataN _ _ _ _ (by simpa using hj)]
theorem st_twoN {l : List Nat} (rest : List Value) {i j x : Nat} (hi : i < l.length) (hj : j < l.length) : 0 + j * 1 + 1 ≤ (splice (l.map nt ++ rest) (0 + i * 1) [nt x]).length := by
  rw [splice_dataN _ _ _ _ hi]; exact len_dataN _ _ (by rw [List.length_set]; exact hj)
theorem sink_step {less : Nat → Nat → Bool} {j : Nat} {l : List Nat} (hj : 0 < j) (h : less (gt l j) (gt l (j - 1)) = true) : sink less (j - 1) (swp l j (j - 1)) = sink less j l := by
  obtain ⟨k, rfl⟩ : ∃ k, j = k + 1 := ⟨j - 1, by omega⟩
  rw [Nat.add_sub_cancel] at h ⊢
  rw [sink, if_pos h]
  rfl
theorem sink_stop {less : Nat → Nat → Bool} {j : Nat} {l : List Nat} (hj : 0 < j) (h : less (gt l j) (gt l (j - 1)) = false) : sink less j l = l := by
  obtain ⟨k, rfl⟩ : ∃ k, j = k + 1 := ⟨j - 1, by omega⟩
  rw [Nat.add_sub_cancel] at h
  rw [sink, if_neg (by rw [h]; simp)]
def InN (n : Nat) (l : List Nat) : Prop := l.length = n ∧ ∀ i, i < n → gt l i < n
theorem InN.swp {n : Nat} {l : List Nat} (h : InN n l) {i j : Nat} (hi : i < n) (hj : j < n) : InN n (swp l i j) := by
  refine ⟨by simp [Go.Ti.swp, h.1], fun k hk => ?_⟩
  rw [gt_swp (by rw [h.1]; exact hi) (by rw [h.1]; exact hj)]
  split
  · exact h.2 _ hi
  · split
    · exact h.2 _ hj
    · exact h.2 _ hk
theorem InN.sink {n : Nat} (less : Nat → Nat → Bool) : ∀ j (l : List Nat), InN n l → j < n → InN n (sink less j l) := by
  intro j
  induction j with
  | zero => intro l h _; exact h
  | succ j ih =>
    intro l h hj
    unfold Go.Ti.sink
    split
    · exact ih _ (h.swp hj (by omega)) (by omega)
    · exact h
theorem InN.ins {n : Nat} (less : Nat → Nat → Bool) : ∀ k (l : List Nat), InN n l → k < n → InN n (insT less k l) := by
  intro k
  induction k with
  | zero => intro l h _; exact h
  | succ k ih => intro l h hk; exact InN.sink less _ _ (ih l h (by omega)) hk

set_option maxRecDepth 100000 in
set_option maxHeartbeats 1000000 in
theorem ins_g (less : Nat → Nat → Bool) (l : List Nat) (rest : List Value) (bd cap n0 : Nat) (D : Imm) (w : World) (hok : InN n0 l) (hl : n0 < 20) (fi : FuncId) (cp : List Value) (hfi : ∀ args w, (callFunc fi args).run Try.prog w = .ok (.enter fi args) w) (cr : Nat → Nat → Int) (hF : ∀ w', Holds D w' → ∀ i j, i < n0 → j < n0 → Gives Try.prog fi (nt i :: nt j :: cp) w' (it (cr i j))) (hcr : ∀ i j, i < n0 → j < n0 → decide (cr i j < 0) = less i j) (hI0 : Inv D [(bd, datN l rest)] [bd] w w) : Alters Try.prog 89 [.slice (some ⟨bd, 0, none⟩) n0 cap, nt 0, nt n0, .func (.func fi) #[] cp.toArray] w D [bd] (fun v D' hpc' => v = .tuple #[] ∧ D = D' ∧ hpc' = [(bd, datN (insT less (n0 - 1) l) rest)]) := by
  unfold Alters
  refine enter Try.func89 rfl 53 Try.ntmps89 (Nat.le_of_ble_eq_true rfl) hI0 ?_
  refine WC.seq ?_
  refine WC.ofFr [(0, _), (1, _), (2, _), (3, _)] ⟨rfl, rfl, rfl, rfl, trivial⟩ ?_
  refine WC.region ?_
  refine WL.yd (Yd.move rfl) rfl ?_
  refine WL.yd (Yd.addN rfl rfl (by (try dsimp only); omega)) rfl ?_
  refine WL.yd (Yd.assign rfl) rfl ?_
  refine WL.nil ?_
  refine WP.thenC ?_
  refine WC.block ?_
  refine WC.loop (fun k : Nat => [(0, .slice (some ⟨bd, 0, none⟩) n0 cap), (1, nt 0), (2, nt n0), (3, .func (.func fi) #[] cp.toArray), (8, nt (k + 1))]) (fun k => [(bd, datN (insT less k l) rest)]) (fun _ => D) (fun k => k ≤ n0 - 1) (fun k => n0 - k) 0 (by omega) (fun a w h => at_fr h ⟨rfl, rfl, rfl, rfl, rfl, trivial⟩) ?_
  intro k hk
  refine WC.seq ?_
  refine WC.seq ?_
  refine WC.ofFr [(0, _), (1, _), (2, _), (3, _), (8, _)] ⟨rfl, rfl, rfl, rfl, rfl, trivial⟩ ?_
  refine WC.region ?_
  refine WL.yd (Yd.move rfl) rfl ?_
  refine WL.yd (Yd.move rfl) rfl ?_
  refine WL.yd (Yd.lss rfl rfl) rfl ?_
  refine WL.nil ?_
  refine WP.thenC ?_
  refine WC.cond rfl (fun c14 => ?_) (fun c14 => ?_)
  · try simp only [zq1, zq2, zq3, zq4, zq5, zq6, zq7, zq8] at c14
    have hib : k + 1 < n0 := by omega
    have hok1 := InN.ins less k l hok (by omega)
    refine WC.skip ?_
    refine WP.thenC ?_
    refine WC.seq ?_
    refine WC.block ?_
    refine WC.seq ?_
    refine WC.ofFr [(0, _), (1, _), (2, _), (3, _), (8, _)] ⟨rfl, rfl, rfl, rfl, rfl, trivial⟩ ?_
    refine WC.region ?_
    refine WL.yd (Yd.move rfl) rfl ?_
    refine WL.yd (Yd.assign rfl) rfl ?_
    refine WL.nil ?_
    refine WP.thenC ?_
    refine WC.block ?_
    refine WC.loop (fun y : Nat × List Nat => [(0, .slice (some ⟨bd, 0, none⟩) n0 cap), (1, nt 0), (2, nt n0), (3, .func (.func fi) #[] cp.toArray), (8, nt (k + 1)), (9, nt y.1)]) (fun y => [(bd, datN y.2 rest)]) (fun _ => D) (fun y => sink less y.1 y.2 = insT less (k + 1) l ∧ InN n0 y.2 ∧ y.1 < n0) (fun y => y.1) (⟨k + 1, insT less k l⟩ : Nat × List Nat) ⟨rfl, hok1, hib⟩ (fun a w h => at_fr h ⟨rfl, rfl, rfl, rfl, rfl, rfl, trivial⟩) ?_
    rintro ⟨j, l3⟩ ⟨hw3, hok3, hj3⟩
    dsimp only at hw3 hok3 hj3
    refine WC.seq ?_
    refine WC.seq ?_
    refine WC.ofFr [(0, _), (1, _), (2, _), (3, _), (8, _), (9, _)] ⟨rfl, rfl, rfl, rfl, rfl, rfl, trivial⟩ ?_
    refine WC.tail 14 [0, 1, 2, 3, 4, 5, 6, 7, 8, 9, 10, 11, 12, 13] rfl (by kernel_rfl) (by kernel_rfl)  ?_
    refine WQ.q rfl (Yd.qt (Yd.move rfl)) rfl ?_
    refine WQ.q rfl (Yd.qt (Yd.move rfl)) rfl ?_
    refine WQ.q rfl (Yd.qt (Yd.gtr rfl rfl)) rfl ?_
    refine WQ.q rfl (Yd.qt (Yd.move rfl)) rfl ?_
    refine WQ.part 21 rfl (fun g21 => ?_) (fun g21 => ?_)
    · try simp only [zq1, zq2, zq3, zq4, zq5, zq6, zq7, zq8] at g21
      have hja : 0 < j := by omega
      have hl3 := hok3.1
      have hp1 : gt l3 j < n0 := hok3.2 j (by omega)
      have hp2 : gt l3 (j - 1) < n0 := hok3.2 (j - 1) (by omega)
      have hcc := hcr _ _ hp1 hp2
      refine WQ.qg rfl rfl (Yd.qt (Yd.move rfl)) rfl ?_
      refine WQ.qg rfl rfl (Yd.qt (Yd.move rfl)) rfl ?_
      refine WQ.qg rfl rfl (Yd.qt (Yd.move rfl)) rfl ?_
      refine WQ.qg rfl rfl (Yd.qt (Yd.indexS Try.underlying22 Try.sizeOf3 rfl rfl (by (try dsimp only); omega) (by (try dsimp only); omega) (by first | exact rfl))) rfl ?_
      refine WQ.qg rfl rfl (Yd.qt (Yd.load1 Try.isAgg3 rfl (by first | exact (rd_dataN (k := 0) rfl (by (try dsimp only); omega))))) rfl ?_
      refine WQ.qg rfl rfl (Yd.qt (Yd.move rfl)) rfl ?_
      refine WQ.qg rfl rfl (Yd.qt (Yd.move rfl)) rfl ?_
      refine WQ.qg rfl rfl (Yd.qt (Yd.subN rfl rfl (by (try dsimp only); omega) (by (try dsimp only); omega))) rfl ?_
      refine WQ.qg rfl rfl (Yd.qt (Yd.indexS Try.underlying22 Try.sizeOf3 rfl rfl (by (try dsimp only); omega) (by (try dsimp only); omega) (by first | exact rfl))) rfl ?_
      refine WQ.qg rfl rfl (Yd.qt (Yd.load1 Try.isAgg3 rfl (by first | exact (rd_dataN (k := 0) rfl (by (try dsimp only); omega))))) rfl ?_
      refine WQ.tail ?_
      refine WL.sog rfl (SO.call (Enters.val hfi rfl rfl) (fun w hI => hF w hI.imm _ _ hp1 hp2)) rfl ?_
      rintro _ _ _ ⟨rfl, rfl, rfl⟩
      refine WL.ydg rfl (Yd.lss rfl rfl) rfl ?_
      refine WL.yd (Yd.pickT rfl rfl) rfl ?_
      refine WL.nil ?_
      refine WP.thenC ?_
      refine WC.cond rfl (fun c34 => ?_) (fun c34 => ?_)
      · try simp only [zq1, zq2, zq3, zq4, zq5, zq6, zq7, zq8] at c34
        have hls : less (gt l3 j) (gt l3 (j - 1)) = true := by rw [← hcc]; exact decide_eq_true c34
        have hst := sink_step hja hls
        refine WC.skip ?_
        refine WP.thenC ?_
        refine WC.seq ?_
        refine WC.block ?_
        refine WC.ofFr [(0, _), (1, _), (2, _), (3, _), (8, _), (9, _)] ⟨rfl, rfl, rfl, rfl, rfl, rfl, trivial⟩ ?_
        refine WC.drawH [] (by kernel_rfl) (fun _ hI => hI.drop 99) ?_
        refine WH.yd (i := 0) (by kernel_rfl) (fun _ o v c a w _ h => (QuietPanic.blk (QuietPanic.then (QuietPanic.then (QuietPanic.blk (QuietPanic.blk (QuietPanic.then (QuietPanic.then (QuietPanic.blk QuietPanic.body)))))))) c o.dst v a w h) rfl (Yd.move rfl) rfl ?_
        refine WH.yd (i := 1) (by kernel_rfl) (fun _ o v c a w _ h => (QuietPanic.blk (QuietPanic.then (QuietPanic.then (QuietPanic.blk (QuietPanic.blk (QuietPanic.then (QuietPanic.then (QuietPanic.blk QuietPanic.body)))))))) c o.dst v a w h) rfl (Yd.move rfl) rfl ?_
        refine WH.yd (i := 2) (by kernel_rfl) (fun _ o v c a w _ h => (QuietPanic.blk (QuietPanic.then (QuietPanic.then (QuietPanic.blk (QuietPanic.blk (QuietPanic.then (QuietPanic.then (QuietPanic.blk QuietPanic.body)))))))) c o.dst v a w h) rfl (Yd.move rfl) rfl ?_
        refine WH.yd (i := 3) (by kernel_rfl) (fun _ o v c a w _ h => (QuietPanic.blk (QuietPanic.then (QuietPanic.then (QuietPanic.blk (QuietPanic.blk (QuietPanic.then (QuietPanic.then (QuietPanic.blk QuietPanic.body)))))))) c o.dst v a w h) rfl (Yd.move rfl) rfl ?_
        refine WH.yd (i := 4) (by kernel_rfl) (fun _ o v c a w _ h => (QuietPanic.blk (QuietPanic.then (QuietPanic.then (QuietPanic.blk (QuietPanic.blk (QuietPanic.then (QuietPanic.then (QuietPanic.blk QuietPanic.body)))))))) c o.dst v a w h) rfl (Yd.subN rfl rfl (by (try dsimp only); omega) (by (try dsimp only); omega)) rfl ?_
        refine WH.yd (i := 5) (by kernel_rfl) (fun _ o v c a w _ h => (QuietPanic.blk (QuietPanic.then (QuietPanic.then (QuietPanic.blk (QuietPanic.blk (QuietPanic.then (QuietPanic.then (QuietPanic.blk QuietPanic.body)))))))) c o.dst v a w h) rfl (Yd.move rfl) rfl ?_
        refine WH.yd (i := 6) (by kernel_rfl) (fun _ o v c a w _ h => (QuietPanic.blk (QuietPanic.then (QuietPanic.then (QuietPanic.blk (QuietPanic.blk (QuietPanic.then (QuietPanic.then (QuietPanic.blk QuietPanic.body)))))))) c o.dst v a w h) rfl (Yd.move rfl) rfl ?_
        refine WH.yd (i := 7) (by kernel_rfl) (fun _ o v c a w _ h => (QuietPanic.blk (QuietPanic.then (QuietPanic.then (QuietPanic.blk (QuietPanic.blk (QuietPanic.then (QuietPanic.then (QuietPanic.blk QuietPanic.body)))))))) c o.dst v a w h) rfl (Yd.subN rfl rfl (by (try dsimp only); omega) (by (try dsimp only); omega)) rfl ?_
        refine WH.yd (i := 8) (by kernel_rfl) (fun _ o v c a w _ h => (QuietPanic.blk (QuietPanic.then (QuietPanic.then (QuietPanic.blk (QuietPanic.blk (QuietPanic.then (QuietPanic.then (QuietPanic.blk QuietPanic.body)))))))) c o.dst v a w h) rfl (Yd.indexS Try.underlying22 Try.sizeOf3 rfl rfl (by (try dsimp only); omega) (by (try dsimp only); omega) (by first | exact rfl)) rfl ?_
        refine WH.yd (i := 10) (by kernel_rfl) (fun _ o v c a w _ h => (QuietPanic.blk (QuietPanic.then (QuietPanic.then (QuietPanic.blk (QuietPanic.blk (QuietPanic.then (QuietPanic.then (QuietPanic.blk QuietPanic.body)))))))) c o.dst v a w h) rfl (Yd.move rfl) rfl ?_
        refine WH.yd (i := 11) (by kernel_rfl) (fun _ o v c a w _ h => (QuietPanic.blk (QuietPanic.then (QuietPanic.then (QuietPanic.blk (QuietPanic.blk (QuietPanic.then (QuietPanic.then (QuietPanic.blk QuietPanic.body)))))))) c o.dst v a w h) rfl (Yd.move rfl) rfl ?_
        refine WH.yd (i := 12) (by kernel_rfl) (fun _ o v c a w _ h => (QuietPanic.blk (QuietPanic.then (QuietPanic.then (QuietPanic.blk (QuietPanic.blk (QuietPanic.then (QuietPanic.then (QuietPanic.blk QuietPanic.body)))))))) c o.dst v a w h) rfl (Yd.indexS Try.underlying22 Try.sizeOf3 rfl rfl (by (try dsimp only); omega) (by (try dsimp only); omega) (by first | exact rfl)) rfl ?_
        refine WH.two (i := 9) (j := 13) (by kernel_rfl) ?_ ?_
        · refine WHo.yd rfl (Yd.load1 Try.isAgg3 rfl (by first | exact (rd_dataN (k := 0) rfl (by (try dsimp only); omega)))) rfl ?_
          refine WH.one (i := 13) (by kernel_rfl) (WHo.yd rfl (Yd.load1 Try.isAgg3 rfl (by first | exact (rd_dataN (k := 0) rfl (by (try dsimp only); omega)))) rfl ?_)
          refine WH.yd (i := 14) (by kernel_rfl) (fun _ o v c a w _ h => (QuietPanic.blk (QuietPanic.then (QuietPanic.then (QuietPanic.blk (QuietPanic.blk (QuietPanic.then (QuietPanic.then (QuietPanic.blk QuietPanic.body)))))))) c o.dst v a w h) rfl (Yd.indexS Try.underlying22 Try.sizeOf3 rfl rfl (by (try dsimp only); omega) (by (try dsimp only); omega) (by first | exact rfl)) rfl ?_
          refine WH.one (i := 15) (by kernel_rfl) (WHo.so rfl (SO.store 0 rfl Try.sizeOf3 rfl rfl rfl rfl (len_dataN _ _ (by (try dsimp only); omega)) (oneB_spec rfl)) rfl ?_)
          rintro _ _ _ ⟨rfl, rfl, rfl⟩
          refine ⟨(fun _ hI => hI.drop 99), ?_⟩
          refine WH.yd (i := 16) (by kernel_rfl) (fun _ o v c a w _ h => (QuietPanic.blk (QuietPanic.then (QuietPanic.then (QuietPanic.blk (QuietPanic.blk (QuietPanic.then (QuietPanic.then (QuietPanic.blk QuietPanic.body)))))))) c o.dst v a w h) rfl (Yd.indexS Try.underlying22 Try.sizeOf3 rfl rfl (by (try dsimp only); omega) (by (try dsimp only); omega) (by first | exact rfl)) rfl ?_
          refine WH.one (i := 17) (by kernel_rfl) (WHo.so rfl (SO.store 0 rfl Try.sizeOf3 rfl rfl rfl rfl (st_twoN rest (by (try dsimp only); omega) (by (try dsimp only); omega)) (oneB_spec rfl)) rfl ?_)
          rintro _ _ _ ⟨rfl, rfl, rfl⟩
          refine ⟨(fun _ hI => hI.drop 99), ?_⟩
          refine WH.nil (by kernel_rfl) ?_
          refine WP.blkNormal ?_
          refine WP.thenC ?_
          refine WC.ofFr [(0, _), (1, _), (2, _), (3, _), (8, _), (9, _)] ⟨rfl, rfl, rfl, rfl, rfl, rfl, trivial⟩ ?_
          refine WC.region ?_
          refine WL.yd (Yd.move rfl) rfl ?_
          refine WL.yd (Yd.subN rfl rfl (by (try dsimp only); omega) (by (try dsimp only); omega)) rfl ?_
          refine WL.yd (Yd.assign rfl) rfl ?_
          refine WL.nil ?_
          refine WP.again (⟨j - 1, swp l3 j (j - 1)⟩ : Nat × List Nat) ⟨by rw [hst]; exact hw3, hok3.swp (by omega) (by omega), by simp only; omega⟩ (by simp only; omega) (fun aa ww h => ?_)
          show At _ [(0, .slice (some ⟨bd, 0, none⟩) n0 cap), (1, nt 0), (2, nt n0), (3, .func (.func fi) #[] cp.toArray), (8, nt (k + 1)), (9, nt (j - 1))] D [(bd, .cells (List.toArray ((swp l3 j (j - 1)).map nt ++ rest)) 3 (0, 0))] aa ww
          rw [← swpN_mem rest (by omega) (by omega)]
          exact at_fr h ⟨rfl, rfl, rfl, rfl, rfl, rfl, trivial⟩
        · refine WHo.yd rfl (Yd.load1 Try.isAgg3 rfl (by first | exact (rd_dataN (k := 0) rfl (by (try dsimp only); omega)))) rfl ?_
          refine WH.one (i := 9) (by kernel_rfl) (WHo.yd rfl (Yd.load1 Try.isAgg3 rfl (by first | exact (rd_dataN (k := 0) rfl (by (try dsimp only); omega)))) rfl ?_)
          refine WH.yd (i := 14) (by kernel_rfl) (fun _ o v c a w _ h => (QuietPanic.blk (QuietPanic.then (QuietPanic.then (QuietPanic.blk (QuietPanic.blk (QuietPanic.then (QuietPanic.then (QuietPanic.blk QuietPanic.body)))))))) c o.dst v a w h) rfl (Yd.indexS Try.underlying22 Try.sizeOf3 rfl rfl (by (try dsimp only); omega) (by (try dsimp only); omega) (by first | exact rfl)) rfl ?_
          refine WH.one (i := 15) (by kernel_rfl) (WHo.so rfl (SO.store 0 rfl Try.sizeOf3 rfl rfl rfl rfl (len_dataN _ _ (by (try dsimp only); omega)) (oneB_spec rfl)) rfl ?_)
          rintro _ _ _ ⟨rfl, rfl, rfl⟩
          refine ⟨(fun _ hI => hI.drop 99), ?_⟩
          refine WH.yd (i := 16) (by kernel_rfl) (fun _ o v c a w _ h => (QuietPanic.blk (QuietPanic.then (QuietPanic.then (QuietPanic.blk (QuietPanic.blk (QuietPanic.then (QuietPanic.then (QuietPanic.blk QuietPanic.body)))))))) c o.dst v a w h) rfl (Yd.indexS Try.underlying22 Try.sizeOf3 rfl rfl (by (try dsimp only); omega) (by (try dsimp only); omega) (by first | exact rfl)) rfl ?_
          refine WH.one (i := 17) (by kernel_rfl) (WHo.so rfl (SO.store 0 rfl Try.sizeOf3 rfl rfl rfl rfl (st_twoN rest (by (try dsimp only); omega) (by (try dsimp only); omega)) (oneB_spec rfl)) rfl ?_)
          rintro _ _ _ ⟨rfl, rfl, rfl⟩
          refine ⟨(fun _ hI => hI.drop 99), ?_⟩
          refine WH.nil (by kernel_rfl) ?_
          refine WP.blkNormal ?_
          refine WP.thenC ?_
          refine WC.ofFr [(0, _), (1, _), (2, _), (3, _), (8, _), (9, _)] ⟨rfl, rfl, rfl, rfl, rfl, rfl, trivial⟩ ?_
          refine WC.region ?_
          refine WL.yd (Yd.move rfl) rfl ?_
          refine WL.yd (Yd.subN rfl rfl (by (try dsimp only); omega) (by (try dsimp only); omega)) rfl ?_
          refine WL.yd (Yd.assign rfl) rfl ?_
          refine WL.nil ?_
          refine WP.again (⟨j - 1, swp l3 j (j - 1)⟩ : Nat × List Nat) ⟨by rw [hst]; exact hw3, hok3.swp (by omega) (by omega), by simp only; omega⟩ (by simp only; omega) (fun aa ww h => ?_)
          show At _ [(0, .slice (some ⟨bd, 0, none⟩) n0 cap), (1, nt 0), (2, nt n0), (3, .func (.func fi) #[] cp.toArray), (8, nt (k + 1)), (9, nt (j - 1))] D [(bd, .cells (List.toArray ((swp l3 j (j - 1)).map nt ++ rest)) 3 (0, 0))] aa ww
          rw [← swpN_mem rest (by omega) (by omega)]
          exact at_fr h ⟨rfl, rfl, rfl, rfl, rfl, rfl, trivial⟩
      · try simp only [zq1, zq2, zq3, zq4, zq5, zq6, zq7, zq8] at c34
        have hls : less (gt l3 j) (gt l3 (j - 1)) = false := by rw [← hcc]; exact decide_eq_false (Int.not_lt.2 c34)
        obtain rfl : l3 = insT less (k + 1) l := (sink_stop hja hls).symm.trans hw3
        refine WC.exit ?_
        refine WP.thenExit ?_
        refine WP.thenExit ?_
        refine WP.blkHit ?_
        refine WP.blkNormal ?_
        refine WP.thenC ?_
        refine WC.ofFr [(0, _), (1, _), (2, _), (3, _), (8, _)] ⟨rfl, rfl, rfl, rfl, rfl, trivial⟩ ?_
        refine WC.region ?_
        refine WL.yd (Yd.move rfl) rfl ?_
        refine WL.yd (Yd.addN rfl rfl (by (try dsimp only); omega)) rfl ?_
        refine WL.yd (Yd.assign rfl) rfl ?_
        refine WL.nil ?_
        exact WP.again (k + 1) (by omega) (by omega) (fun aa ww h => at_fr h ⟨rfl, rfl, rfl, rfl, rfl, trivial⟩)
    · try simp only [zq1, zq2, zq3, zq4, zq5, zq6, zq7, zq8] at g21
      obtain rfl : j = 0 := by omega
      obtain rfl : l3 = insT less (k + 1) l := hw3
      refine WQ.skip rfl rfl rfl ?_
      refine WQ.skip rfl rfl rfl ?_
      refine WQ.skip rfl rfl rfl ?_
      refine WQ.skip rfl rfl rfl ?_
      refine WQ.skip rfl rfl rfl ?_
      refine WQ.skip rfl rfl rfl ?_
      refine WQ.skip rfl rfl rfl ?_
      refine WQ.skip rfl rfl rfl ?_
      refine WQ.skip rfl rfl rfl ?_
      refine WQ.skip rfl rfl rfl ?_
      refine WQ.tail ?_
      refine WL.skip rfl rfl ?_
      refine WL.skip rfl rfl ?_
      refine WL.yd (Yd.pickF rfl rfl) rfl ?_
      refine WL.nil ?_
      refine WP.thenC ?_
      refine WC.condF rfl ?_
      refine WC.exit ?_
      refine WP.thenExit ?_
      refine WP.thenExit ?_
      refine WP.blkHit ?_
      refine WP.blkNormal ?_
      refine WP.thenC ?_
      refine WC.ofFr [(0, _), (1, _), (2, _), (3, _), (8, _)] ⟨rfl, rfl, rfl, rfl, rfl, trivial⟩ ?_
      refine WC.region ?_
      refine WL.yd (Yd.move rfl) rfl ?_
      refine WL.yd (Yd.addN rfl rfl (by (try dsimp only); omega)) rfl ?_
      refine WL.yd (Yd.assign rfl) rfl ?_
      refine WL.nil ?_
      exact WP.again (k + 1) (by omega) (by omega) (fun aa ww h => at_fr h ⟨rfl, rfl, rfl, rfl, rfl, trivial⟩)
  · try simp only [zq1, zq2, zq3, zq4, zq5, zq6, zq7, zq8] at c14
    have hib : ¬ k + 1 < n0 := by omega
    obtain rfl : k = n0 - 1 := by omega
    refine WC.exit ?_
    refine WP.thenExit ?_
    refine WP.thenExit ?_
    refine WP.blkHit ?_
    refine WP.ret0 rfl rfl Try.results89  (fun w1 hI => ⟨_, D, _, rfl, DExt.refl _ _, hI, fun _ h => h, rfl, rfl, rfl⟩)

set_option maxRecDepth 100000 in
set_option maxHeartbeats 1000000 in
theorem stab_g (less : Nat → Nat → Bool) (l : List Nat) (rest : List Value) (bd cap n0 : Nat) (D : Imm) (w : World) (hok : InN n0 l) (hl : n0 < 20) (fi : FuncId) (cp : List Value) (hfi : ∀ args w, (callFunc fi args).run Try.prog w = .ok (.enter fi args) w) (cr : Nat → Nat → Int) (hF : ∀ w', Holds D w' → ∀ i j, i < n0 → j < n0 → Gives Try.prog fi (nt i :: nt j :: cp) w' (it (cr i j))) (hcr : ∀ i j, i < n0 → j < n0 → decide (cr i j < 0) = less i j) (hI0 : Inv D [(bd, datN l rest)] [bd] w w) : Alters Try.prog 74 [.slice (some ⟨bd, 0, none⟩) n0 cap, nt n0, .func (.func fi) #[] cp.toArray] w D [bd] (fun v D' hpc' => v = .tuple #[] ∧ D = D' ∧ hpc' = [(bd, datN (insT less (n0 - 1) l) rest)]) := by
  unfold Alters
  refine enter Try.func74 rfl 63 Try.ntmps74 (Nat.le_of_ble_eq_true rfl) hI0 ?_
  refine WC.seq ?_
  refine WC.ofFr [(0, _), (1, _), (2, _)] ⟨rfl, rfl, rfl, trivial⟩ ?_
  refine WC.region ?_
  refine WL.yd (Yd.assign rfl) rfl ?_
  refine WL.nil ?_
  refine WP.thenC ?_
  refine WC.seq ?_
  refine WC.ofFr [(6, _), (0, _), (1, _), (2, _)] ⟨rfl, rfl, rfl, rfl, trivial⟩ ?_
  refine WC.region ?_
  refine WL.yd (Yd.move rfl) rfl ?_
  refine WL.yd (Yd.assign rfl) rfl ?_
  refine WL.yd (Yd.assign rfl) rfl ?_
  refine WL.nil ?_
  refine WP.thenC ?_
  refine WC.seq ?_
  refine WC.block ?_
  refine WC.loop (fun _ : Unit => [(0, .slice (some ⟨bd, 0, none⟩) n0 cap), (1, nt n0), (2, .func (.func fi) #[] cp.toArray), (6, nt 20), (7, nt 0), (8, nt 20)]) (fun _ => [(bd, datN l rest)]) (fun _ => D) (fun _ => True) (fun _ => 0) () trivial (fun a w h => at_fr h ⟨rfl, rfl, rfl, rfl, rfl, rfl, trivial⟩) ?_
  rintro ⟨⟩ -
  refine WC.seq ?_
  refine WC.seq ?_
  refine WC.ofFr [(0, _), (1, _), (2, _), (6, _), (7, _), (8, _)] ⟨rfl, rfl, rfl, rfl, rfl, rfl, trivial⟩ ?_
  refine WC.region ?_
  refine WL.yd (Yd.move rfl) rfl ?_
  refine WL.yd (Yd.move rfl) rfl ?_
  refine WL.yd (Yd.leq rfl rfl) rfl ?_
  refine WL.nil ?_
  refine WP.thenC ?_
  refine WC.cond rfl (fun c13 => ?_) (fun c13 => ?_)
  · try simp only [zq1, zq2, zq3, zq4, zq5, zq6, zq7, zq8] at c13
    omega
  · try simp only [zq1, zq2, zq3, zq4, zq5, zq6, zq7, zq8] at c13
    refine WC.exit ?_
    refine WP.thenExit ?_
    refine WP.thenExit ?_
    refine WP.blkHit ?_
    refine WP.thenC ?_
    refine WC.seq ?_
    refine WC.ofFr [(0, _), (1, _), (2, _), (6, _), (7, _), (8, _)] ⟨rfl, rfl, rfl, rfl, rfl, rfl, trivial⟩ ?_
    refine WC.region ?_
    refine WL.yd (Yd.move rfl) rfl ?_
    refine WL.yd (Yd.move rfl) rfl ?_
    refine WL.yd (Yd.move rfl) rfl ?_
    refine WL.yd (Yd.move rfl) rfl ?_
    refine WL.so (SO.alters (own := []) (hpc := [_]) (S1 := [bd]) (fun _ h => h) (fun h => h) (fun _ h => h) (fun _ h => h) (Enters.func Try.call89 rfl) (fun w1 hI => ins_g less l rest bd cap n0 D w1 hok hl fi cp hfi cr hF hcr hI)) rfl ?_
    rintro _ _ _ ⟨_, _, ⟨rfl, rfl, rfl⟩, rfl⟩
    refine WL.nil ?_
    refine WP.thenC ?_
    refine WC.block ?_
    refine WC.loop (fun _ : Unit => [(0, .slice (some ⟨bd, 0, none⟩) n0 cap), (1, nt n0), (2, .func (.func fi) #[] cp.toArray), (6, nt 20)]) (fun _ => [(bd, datN (insT less (n0 - 1) l) rest)]) (fun _ => D) (fun _ => True) (fun _ => 0) () trivial (fun a w h => at_fr h ⟨rfl, rfl, rfl, rfl, trivial⟩) ?_
    rintro ⟨⟩ -
    refine WC.seq ?_
    refine WC.seq ?_
    refine WC.ofFr [(0, _), (1, _), (2, _), (6, _)] ⟨rfl, rfl, rfl, rfl, trivial⟩ ?_
    refine WC.region ?_
    refine WL.yd (Yd.move rfl) rfl ?_
    refine WL.yd (Yd.move rfl) rfl ?_
    refine WL.yd (Yd.lss rfl rfl) rfl ?_
    refine WL.nil ?_
    refine WP.thenC ?_
    refine WC.cond rfl (fun c30 => ?_) (fun c30 => ?_)
    · try simp only [zq1, zq2, zq3, zq4, zq5, zq6, zq7, zq8] at c30
      omega
    · try simp only [zq1, zq2, zq3, zq4, zq5, zq6, zq7, zq8] at c30
      refine WC.exit ?_
      refine WP.thenExit ?_
      refine WP.thenExit ?_
      refine WP.blkHit ?_
      refine WP.ret0 rfl rfl Try.results74  (fun w1 hI => ⟨_, D, _, rfl, DExt.refl _ _, hI, fun _ h => h, rfl, rfl, rfl⟩)

set_option maxRecDepth 100000 in
set_option maxHeartbeats 1000000 in
theorem sort_g (less : Nat → Nat → Bool) (l : List Nat) (rest : List Value) (bd cap n0 : Nat) (D : Imm) (w : World) (hok : InN n0 l) (hl : n0 < 20) (fi : FuncId) (cp : List Value) (hfi : ∀ args w, (callFunc fi args).run Try.prog w = .ok (.enter fi args) w) (cr : Nat → Nat → Int) (hF : ∀ w', Holds D w' → ∀ i j, i < n0 → j < n0 → Gives Try.prog fi (nt i :: nt j :: cp) w' (it (cr i j))) (hcr : ∀ i j, i < n0 → j < n0 → decide (cr i j < 0) = less i j) (hI0 : Inv D [(bd, datN l rest)] [bd] w w) : Alters Try.prog 37 [.slice (some ⟨bd, 0, none⟩) n0 cap, .func (.func fi) #[] cp.toArray] w D [bd] (fun v D' hpc' => v = .tuple #[] ∧ D = D' ∧ hpc' = [(bd, datN (insT less (n0 - 1) l) rest)]) := by
  unfold Alters
  refine enter Try.func37 rfl 9 Try.ntmps37 (Nat.le_of_ble_eq_true rfl) hI0 ?_
  refine WC.ofFr [(0, _), (1, _)] ⟨rfl, rfl, trivial⟩ ?_
  refine WC.region ?_
  refine WL.yd (Yd.move rfl) rfl ?_
  refine WL.yd (Yd.move rfl) rfl ?_
  refine WL.yd (Yd.lenS rfl Try.underlying22 rfl) rfl ?_
  refine WL.yd (Yd.move rfl) rfl ?_
  refine WL.so (SO.alters (own := []) (hpc := [_]) (S1 := [bd]) (fun _ h => h) (fun h => h) (fun _ h => h) (fun _ h => h) (Enters.func Try.call74 rfl) (fun w1 hI => stab_g less l rest bd cap n0 D w1 hok hl fi cp hfi cr hF hcr hI)) rfl ?_
  rintro _ _ _ ⟨_, _, ⟨rfl, rfl, rfl⟩, rfl⟩
  refine WL.nil ?_
  refine WP.ret0 rfl rfl Try.results37  (fun w1 hI => ⟨_, D, _, rfl, DExt.refl _ _, hI, fun _ h => h, rfl, rfl, rfl⟩)

set_option maxRecDepth 100000 in
set_option maxHeartbeats 1000000 in
theorem ins_0 (a3 : Option Addr) (c3 : Nat) (cv : Value) (w : World) : Gives Try.prog 89 [.slice a3 0 c3, nt 0, nt 0, cv] w (.tuple #[]) := by
  unfold Gives
  refine enter Try.func89 rfl 53 Try.ntmps89 (Nat.le_of_ble_eq_true rfl) (Inv.start (D := fun _ => none) (by intro _ _ h; cases h)) ?_
  refine WC.seq ?_
  refine WC.ofFr [(0, _), (1, _), (2, _), (3, _)] ⟨rfl, rfl, rfl, rfl, trivial⟩ ?_
  refine WC.region ?_
  refine WL.yd (Yd.move rfl) rfl ?_
  refine WL.yd (Yd.addN (i := 0) (j := 1) rfl rfl (by omega)) rfl ?_
  refine WL.yd (Yd.assign rfl) rfl ?_
  refine WL.nil ?_
  refine WP.thenC ?_
  refine WC.block ?_
  refine WC.loopF (fun _ : Unit => [(0, .slice a3 0 c3), (1, nt 0), (2, nt 0), (3, cv), (8, nt 1)]) (fun _ => True) (fun _ => 0) () trivial ⟨rfl, rfl, rfl, rfl, rfl, trivial⟩ ?_
  rintro ⟨⟩ -
  refine WC.seq ?_
  refine WC.seq ?_
  refine WC.ofFr [(0, _), (1, _), (2, _), (3, _), (8, _)] ⟨rfl, rfl, rfl, rfl, rfl, trivial⟩ ?_
  refine WC.region ?_
  refine WL.yd (Yd.move rfl) rfl ?_
  refine WL.yd (Yd.move rfl) rfl ?_
  refine WL.yd (Yd.lss rfl rfl) rfl ?_
  refine WL.nil ?_
  refine WP.thenC ?_
  refine WC.cond rfl (fun c14 => ?_) (fun c14 => ?_)
  · try simp only [zq1, zq2, zq3, zq4, zq5, zq6, zq7, zq8] at c14
    omega
  · try simp only [zq1, zq2, zq3, zq4, zq5, zq6, zq7, zq8] at c14
    refine WC.exit ?_
    refine WP.thenExit ?_
    refine WP.thenExit ?_
    refine WP.blkHit ?_
    refine WP.ret0 rfl rfl Try.results89  (fun w hI => ⟨rfl, hI.keep⟩)

set_option maxRecDepth 100000 in
set_option maxHeartbeats 1000000 in
theorem stab_0 (a3 : Option Addr) (c3 : Nat) (cv : Value) (w : World) : Gives Try.prog 74 [.slice a3 0 c3, nt 0, cv] w (.tuple #[]) := by
  unfold Gives
  refine enter Try.func74 rfl 63 Try.ntmps74 (Nat.le_of_ble_eq_true rfl) (Inv.start (D := fun _ => none) (by intro _ _ h; cases h)) ?_
  refine WC.seq ?_
  refine WC.ofFr [(0, _), (1, _), (2, _)] ⟨rfl, rfl, rfl, trivial⟩ ?_
  refine WC.region ?_
  refine WL.yd (Yd.assign rfl) rfl ?_
  refine WL.nil ?_
  refine WP.thenC ?_
  refine WC.seq ?_
  refine WC.ofFr [(6, _), (0, _), (1, _), (2, _)] ⟨rfl, rfl, rfl, rfl, trivial⟩ ?_
  refine WC.region ?_
  refine WL.yd (Yd.move rfl) rfl ?_
  refine WL.yd (Yd.assign rfl) rfl ?_
  refine WL.yd (Yd.assign rfl) rfl ?_
  refine WL.nil ?_
  refine WP.thenC ?_
  refine WC.seq ?_
  refine WC.block ?_
  refine WC.loopF (fun _ : Unit => [(0, .slice a3 0 c3), (1, nt 0), (2, cv), (6, nt 20), (7, nt 0), (8, nt 20)]) (fun _ => True) (fun _ => 0) () trivial ⟨rfl, rfl, rfl, rfl, rfl, rfl, trivial⟩ ?_
  rintro ⟨⟩ -
  refine WC.seq ?_
  refine WC.seq ?_
  refine WC.ofFr [(0, _), (1, _), (2, _), (6, _), (7, _), (8, _)] ⟨rfl, rfl, rfl, rfl, rfl, rfl, trivial⟩ ?_
  refine WC.region ?_
  refine WL.yd (Yd.move rfl) rfl ?_
  refine WL.yd (Yd.move rfl) rfl ?_
  refine WL.yd (Yd.leq rfl rfl) rfl ?_
  refine WL.nil ?_
  refine WP.thenC ?_
  refine WC.cond rfl (fun c13 => ?_) (fun c13 => ?_)
  · try simp only [zq1, zq2, zq3, zq4, zq5, zq6, zq7, zq8] at c13
    omega
  · try simp only [zq1, zq2, zq3, zq4, zq5, zq6, zq7, zq8] at c13
    refine WC.exit ?_
    refine WP.thenExit ?_
    refine WP.thenExit ?_
    refine WP.blkHit ?_
    refine WP.thenC ?_
    refine WC.seq ?_
    refine WC.ofFr [(0, _), (1, _), (2, _), (6, _), (7, _), (8, _)] ⟨rfl, rfl, rfl, rfl, rfl, rfl, trivial⟩ ?_
    refine WC.region ?_
    refine WL.yd (Yd.move rfl) rfl ?_
    refine WL.yd (Yd.move rfl) rfl ?_
    refine WL.yd (Yd.move rfl) rfl ?_
    refine WL.yd (Yd.move rfl) rfl ?_
    refine WL.so (SO.callP Try.call89 rfl (fun w hI => ins_0 _ _ _ _)) rfl ?_
    rintro _ _ _ ⟨rfl, rfl, rfl⟩
    refine WL.nil ?_
    refine WP.thenC ?_
    refine WC.block ?_
    refine WC.loopF (fun _ : Unit => [(0, .slice a3 0 c3), (1, nt 0), (2, cv), (6, nt 20)]) (fun _ => True) (fun _ => 0) () trivial ⟨rfl, rfl, rfl, rfl, trivial⟩ ?_
    rintro ⟨⟩ -
    refine WC.seq ?_
    refine WC.seq ?_
    refine WC.ofFr [(0, _), (1, _), (2, _), (6, _)] ⟨rfl, rfl, rfl, rfl, trivial⟩ ?_
    refine WC.region ?_
    refine WL.yd (Yd.move rfl) rfl ?_
    refine WL.yd (Yd.move rfl) rfl ?_
    refine WL.yd (Yd.lss rfl rfl) rfl ?_
    refine WL.nil ?_
    refine WP.thenC ?_
    refine WC.cond rfl (fun c30 => ?_) (fun c30 => ?_)
    · try simp only [zq1, zq2, zq3, zq4, zq5, zq6, zq7, zq8] at c30
      omega
    · try simp only [zq1, zq2, zq3, zq4, zq5, zq6, zq7, zq8] at c30
      refine WC.exit ?_
      refine WP.thenExit ?_
      refine WP.thenExit ?_
      refine WP.blkHit ?_
      refine WP.ret0 rfl rfl Try.results74  (fun w hI => ⟨rfl, hI.keep⟩)

set_option maxRecDepth 100000 in
set_option maxHeartbeats 1000000 in
theorem sort_0 (a3 : Option Addr) (c3 : Nat) (cv : Value) (w : World) : Gives Try.prog 37 [.slice a3 0 c3, cv] w (.tuple #[]) := by
  unfold Gives
  refine enter Try.func37 rfl 9 Try.ntmps37 (Nat.le_of_ble_eq_true rfl) (Inv.start (D := fun _ => none) (by intro _ _ h; cases h)) ?_
  refine WC.ofFr [(0, _), (1, _)] ⟨rfl, rfl, trivial⟩ ?_
  refine WC.region ?_
  refine WL.yd (Yd.move rfl) rfl ?_
  refine WL.yd (Yd.move rfl) rfl ?_
  refine WL.yd (Yd.lenS rfl Try.underlying22 rfl) rfl ?_
  refine WL.yd (Yd.move rfl) rfl ?_
  refine WL.so (SO.callP Try.call74 rfl (fun w hI => stab_0 _ _ _ _)) rfl ?_
  rintro _ _ _ ⟨rfl, rfl, rfl⟩
  refine WL.nil ?_
  refine WP.ret0 rfl rfl Try.results37  (fun w hI => ⟨rfl, hI.keep⟩)

end Go.Proofs.Ytpnbkdlejfmbeaa
namespace Go.Proofs.Ytpnbkdlejfmbeaa
open Go.W Go.Ti
theorem FA30_0 : FieldAt Try.prog 30 0 0 := FieldAt.mk (t := 3) (off := 0) Try.underlying30 rfl Try.sizeOf3 (by decide)
theorem FA30_1 : FieldAt Try.prog 30 1 1 := FieldAt.mk (t := 3) (off := 1) Try.underlying30 rfl Try.sizeOf3 (by decide)
theorem FA35_0 : FieldAt Try.prog 35 0 0 := FieldAt.mk (t := 3) (off := 0) Try.underlying35 rfl Try.sizeOf3 (by decide)
theorem FA35_1 : FieldAt Try.prog 35 1 1 := FieldAt.mk (t := 33) (off := 1) Try.underlying35 rfl Try.sizeOf33 (by decide)
theorem FA78_0 : FieldAt Try.prog 78 0 0 := FieldAt.mk (t := 30) (off := 0) Try.underlying78 rfl Try.sizeOf30 (by decide)
theorem FA78_1 : FieldAt Try.prog 78 1 2 := FieldAt.mk (t := 3) (off := 2) Try.underlying78 rfl Try.sizeOf3 (by decide)
theorem FA78_2 : FieldAt Try.prog 78 2 3 := FieldAt.mk (t := 30) (off := 3) Try.underlying78 rfl Try.sizeOf30 (by decide)
theorem FA146_1 : FieldAt Try.prog 146 1 2 := FieldAt.mk (t := 22) (off := 2) Try.underlying146 rfl Try.sizeOf22 (by decide)
theorem SA146 : StructAt Try.prog 146 [.int .i64 0, .slice none 0 0, .slice none 0 0] [(0, 2), (2, 1)] := ⟨⟨_, Try.zeroValue146, rfl⟩, _, Try.underlying146, fun w => by simp [Try.sizeOf22, Try.sizeOf35]⟩
theorem flat_nt (l : List Nat) : l.flatMap natC = l.map nt := by
  induction l with
  | nil => rfl
  | cons x l ih => rw [List.flatMap_cons, ih]; rfl
theorem sortO_g (less : Nat → Nat → Bool) (l : List Nat) (o : Option Ow) (n0 : Nat) (D : Imm) (w w0 : World) (hok : InN n0 l) (hl : n0 < 20) (ho : owP w0 o n0 1) (fi : FuncId) (cp : List Value) (hfi : ∀ args w, (callFunc fi args).run Try.prog w = .ok (.enter fi args) w) (cr : Nat → Nat → Int) (hF : ∀ w', Holds D w' → ∀ i j, i < n0 → j < n0 → Gives Try.prog fi (nt i :: nt j :: cp) w' (it (cr i j))) (hcr : ∀ i j, i < n0 → j < n0 → decide (cr i j < 0) = less i j) (hI0 : Inv D (owH o 3 (l.map nt) []) (keys (owH o 3 (l.map nt) [])) w w) :
    Alters Try.prog 37 [owV o n0, .func (.func fi) #[] cp.toArray] w D (keys (owH o 3 (l.map nt) [])) (fun v D' hpc' => v = .tuple #[] ∧ D = D' ∧ hpc' = owH o 3 ((insT less (n0 - 1) l).map nt) []) := by
  cases o with
  | none =>
    have h0 : n0 = 0 := ho
    subst h0
    have hl0 : l = [] := List.eq_nil_of_length_eq_zero hok.1
    subst hl0
    refine (sort_0 none 0 _ w).mono ?_
    rintro e w' ⟨rfl, hk⟩
    exact ⟨_, D, [], rfl, DExt.refl _ _, hI0.call hk, fun _ h => h, rfl, rfl, rfl⟩
  | some u => exact sort_g less l u.rest u.b u.cap n0 D w hok hl fi cp hfi cr hF hcr hI0
theorem tick_no {T : Tks} {x : Tick} (h : tickB T x = true) : hutT T x.hut = true ∧ spanT x.bought = true ∧ spanT x.door = true := by
  simpa only [tickB, Bool.and_eq_true, and_assoc] using h
def boxT (T : Tks) (s1 : Value) : Obj := .cells (List.toArray [it T.huts, s1]) 35 (0, 0)
def offO (T : Tks) (s1 s3 : Value) : Obj := .cells (List.toArray [it T.huts, s1, s3]) 146 (0, 0)
def OffAt (D : Imm) (q : Nat) (T : Tks) (s1 : Value) : Prop := ∃ a3 c3, D q = some (offO T s1 (.slice a3 T.l.length c3)) ∧ SlL D 1 ((ordT T).map natC) a3 T.l.length ∧ T.l.length ≤ c3
theorem owCp_le {w0 : World} {o : Option Ow} {n m : Nat} (h : owP w0 o n m) : n ≤ owCp o n := by
  cases o with
  | none => exact Nat.le_of_eq h
  | some u => exact h.2.1
theorem OffAt.ext {w : World} {D D' : Imm} (hD : DExt w D D') {q : Nat} {T : Tks} {s1 : Value} (h : OffAt D q T s1) : OffAt D' q T s1 := by
  obtain ⟨a3, c3, h1, h2, h3⟩ := h
  exact ⟨a3, c3, hD.old _ _ h1, h2.ext hD, h3⟩
def OpenR (T : Tks) (s1 : Value) (is : Bool) (D : Imm) (w : World) (e : Ending) (w' : World) : Prop :=
  (tksB T = false → e = .panicked (stopK 1) ∧ Keep [] w w') ∧ (tksB T = true → is = false → e = .panicked (stopK 2) ∧ Keep [] w w') ∧
  (tksB T = true → is = true → ∃ q D', e = .returned (pt q) ∧ Keep [] w w' ∧ Holds D' w' ∧ DExt w D D' ∧ OffAt D' q T s1)

set_option maxRecDepth 100000 in
set_option maxHeartbeats 1000000 in
theorem isSpan_g (s : Sp) (w : World) : Gives Try.prog 85 [.agg #[it s.lo, it s.hi]] w (.bool (spanT s)) := by
  unfold Gives
  have hfit : True := trivial
  refine enter Try.func85 rfl 26 Try.ntmps85 (Nat.le_of_ble_eq_true rfl) (Inv.start (D := fun _ => none) (by intro _ _ h; cases h)) ?_
  refine WC.seq ?_
  refine WC.ofFr [(0, _)] ⟨rfl, trivial⟩ ?_
  refine WC.region ?_
  refine WL.so (SO.box rfl rfl) rfl ?_
  rintro _ _ _ ⟨b1, hb1, rfl, rfl, rfl⟩ -- NEW
  refine WL.yd (Yd.assign rfl) rfl ?_
  refine WL.nil ?_
  refine WP.thenC ?_
  refine WC.seq ?_
  refine WC.ofFr [(2, _), (1, _)] ⟨rfl, rfl, trivial⟩ ?_
  refine WC.region ?_
  refine WL.yd (Yd.fieldAddr FA30_0 rfl) rfl ?_
  refine WL.yd (Yd.load1 Try.isAgg3 rfl (by first | exact Rd.own (k := 0) rfl rfl)) rfl ?_
  refine WL.yd (Yd.leq rfl rfl) rfl ?_
  refine WL.yd (Yd.move rfl) rfl ?_
  refine WL.part 6 rfl (fun g6 => ?_) (fun g6 => ?_)
  · try simp only [zq1, zq2, zq3, zq4, zq5, zq6, zq7, zq8] at g6
    refine WL.ydg rfl (Yd.fieldAddr FA30_0 rfl) rfl ?_
    refine WL.ydg rfl (Yd.load1 Try.isAgg3 rfl (by first | exact Rd.own (k := 0) rfl rfl)) rfl ?_
    refine WL.ydg rfl (Yd.fieldAddr FA30_1 rfl) rfl ?_
    refine WL.ydg rfl (Yd.load1 Try.isAgg3 rfl (by first | exact Rd.own (k := 0) rfl rfl)) rfl ?_
    refine WL.ydg rfl (Yd.leq rfl rfl) rfl ?_
    refine WL.yd (Yd.pickT rfl rfl) rfl ?_
    refine WL.yd (Yd.move rfl) rfl ?_
    refine WL.part 13 rfl (fun g13 => ?_) (fun g13 => ?_)
    · try simp only [zq1, zq2, zq3, zq4, zq5, zq6, zq7, zq8] at g13
      refine WL.ydg rfl (Yd.fieldAddr FA30_1 rfl) rfl ?_
      refine WL.ydg rfl (Yd.load1 Try.isAgg3 rfl (by first | exact Rd.own (k := 0) rfl rfl)) rfl ?_
      refine WL.ydg rfl (Yd.leq rfl rfl) rfl ?_
      refine WL.yd (Yd.pickT rfl rfl) rfl ?_
      refine WL.yd (Yd.move rfl) rfl ?_
      refine WL.part 18 rfl (fun g18 => ?_) (fun g18 => ?_)
      · try simp only [zq1, zq2, zq3, zq4, zq5, zq6, zq7, zq8] at g18
        refine WL.ydg rfl (Yd.fieldAddr FA30_1 rfl) rfl ?_
        refine WL.ydg rfl (Yd.load1 Try.isAgg3 rfl (by first | exact Rd.own (k := 0) rfl rfl)) rfl ?_
        refine WL.ydg rfl (Yd.fieldAddr FA30_0 rfl) rfl ?_
        refine WL.ydg rfl (Yd.load1 Try.isAgg3 rfl (by first | exact Rd.own (k := 0) rfl rfl)) rfl ?_
        refine WL.ydg rfl (Yd.sub rfl rfl (wr64 ⟨by first | omega | (simp_all; omega), by first | omega | (simp_all; omega)⟩)) rfl ?_
        refine WL.ydg rfl (Yd.leq rfl rfl) rfl ?_
        refine WL.yd (Yd.pickT rfl rfl) rfl ?_
        refine WL.yd (Yd.assign rfl) rfl ?_
        refine WL.nil ?_
        refine WP.thenC ?_
        refine WC.ret ?_
        refine WP.ret1 rfl rfl Try.results85 (RV.tmp rfl) (fun w hI => ⟨ret_bool (by rw [Bool.eq_iff_iff]; simp_all [spanT]; try omega), hI.keep⟩)
      · try simp only [zq1, zq2, zq3, zq4, zq5, zq6, zq7, zq8] at g18
        refine WL.skip rfl rfl ?_
        refine WL.skip rfl rfl ?_
        refine WL.skip rfl rfl ?_
        refine WL.skip rfl rfl ?_
        refine WL.skip rfl rfl ?_
        refine WL.skip rfl rfl ?_
        refine WL.yd (Yd.pickF rfl rfl) rfl ?_
        refine WL.yd (Yd.assign rfl) rfl ?_
        refine WL.nil ?_
        refine WP.thenC ?_
        refine WC.ret ?_
        refine WP.ret1 rfl rfl Try.results85 (RV.tmp rfl) (fun w hI => ⟨ret_bool (by rw [Bool.eq_iff_iff]; simp_all [spanT]; try omega), hI.keep⟩)
    · try simp only [zq1, zq2, zq3, zq4, zq5, zq6, zq7, zq8] at g13
      refine WL.skip rfl rfl ?_
      refine WL.skip rfl rfl ?_
      refine WL.skip rfl rfl ?_
      refine WL.yd (Yd.pickF rfl rfl) rfl ?_
      refine WL.yd (Yd.move rfl) rfl ?_
      refine WL.skip rfl rfl ?_
      refine WL.skip rfl rfl ?_
      refine WL.skip rfl rfl ?_
      refine WL.skip rfl rfl ?_
      refine WL.skip rfl rfl ?_
      refine WL.skip rfl rfl ?_
      refine WL.yd (Yd.pickF rfl rfl) rfl ?_
      refine WL.yd (Yd.assign rfl) rfl ?_
      refine WL.nil ?_
      refine WP.thenC ?_
      refine WC.ret ?_
      refine WP.ret1 rfl rfl Try.results85 (RV.tmp rfl) (fun w hI => ⟨ret_bool (by rw [Bool.eq_iff_iff]; simp_all [spanT]; try omega), hI.keep⟩)
  · try simp only [zq1, zq2, zq3, zq4, zq5, zq6, zq7, zq8] at g6
    refine WL.skip rfl rfl ?_
    refine WL.skip rfl rfl ?_
    refine WL.skip rfl rfl ?_
    refine WL.skip rfl rfl ?_
    refine WL.skip rfl rfl ?_
    refine WL.yd (Yd.pickF rfl rfl) rfl ?_
    refine WL.yd (Yd.move rfl) rfl ?_
    refine WL.skip rfl rfl ?_
    refine WL.skip rfl rfl ?_
    refine WL.skip rfl rfl ?_
    refine WL.yd (Yd.pickF rfl rfl) rfl ?_
    refine WL.yd (Yd.move rfl) rfl ?_
    refine WL.skip rfl rfl ?_
    refine WL.skip rfl rfl ?_
    refine WL.skip rfl rfl ?_
    refine WL.skip rfl rfl ?_
    refine WL.skip rfl rfl ?_
    refine WL.skip rfl rfl ?_
    refine WL.yd (Yd.pickF rfl rfl) rfl ?_
    refine WL.yd (Yd.assign rfl) rfl ?_
    refine WL.nil ?_
    refine WP.thenC ?_
    refine WC.ret ?_
    refine WP.ret1 rfl rfl Try.results85 (RV.tmp rfl) (fun w hI => ⟨ret_bool (by rw [Bool.eq_iff_iff]; simp_all [spanT]; try omega), hI.keep⟩)

set_option maxRecDepth 100000 in
set_option maxHeartbeats 1000000 in
theorem isTick_g (T : Tks) (a1 : Option Addr) (n1 c1 : Nat) (n : Int) (w : World) (hn : n1 = T.l.length) (hl : n1 ≤ 1000) : Gives Try.prog 68 [.agg #[it T.huts, .slice a1 n1 c1], it n] w (.bool (isT T n)) := by
  unfold Gives
  refine enter Try.func68 rfl 11 Try.ntmps68 (Nat.le_of_ble_eq_true rfl) (Inv.start (D := fun _ => none) (by intro _ _ h; cases h)) ?_
  refine WC.seq ?_
  refine WC.ofFr [(0, _), (1, _)] ⟨rfl, rfl, trivial⟩ ?_
  refine WC.region ?_
  refine WL.so (SO.box rfl rfl) rfl ?_
  rintro _ _ _ ⟨b2, hb2, rfl, rfl, rfl⟩ -- NEW
  refine WL.yd (Yd.assign rfl) rfl ?_
  refine WL.nil ?_
  refine WP.thenC ?_
  refine WC.seq ?_
  refine WC.ofFr [(4, _), (2, _), (1, _)] ⟨rfl, rfl, rfl, trivial⟩ ?_
  refine WC.region ?_
  refine WL.yd (Yd.move rfl) rfl ?_
  refine WL.yd (Yd.fieldAddr FA35_1 rfl) rfl ?_
  refine WL.yd (Yd.load1 Try.isAgg33 rfl (by first | exact Rd.own (k := 0) rfl rfl)) rfl ?_
  refine WL.yd (Yd.lenS rfl Try.underlying33 rfl) rfl ?_
  refine WL.yd (Yd.sub rfl rfl (wr64 ⟨by omega, by omega⟩)) rfl ?_
  refine WL.so (SO.callP Try.call84 rfl (fun w hI => withinK_g _ _ _ _)) rfl ?_
  rintro _ _ _ ⟨rfl, rfl, rfl⟩
  refine WL.yd (Yd.assign rfl) rfl ?_
  refine WL.nil ?_
  refine WP.thenC ?_
  refine WC.ret ?_
  refine WP.ret1 rfl rfl Try.results68 (RV.tmp rfl) (fun w hI => ⟨ret_bool (by subst hn; rfl), hI.keep⟩)

set_option maxRecDepth 100000 in
set_option maxHeartbeats 1000000 in
theorem cmp_g (T : Tks) (a1 : Option Addr) (c1 : Nat) (D : Imm) (b2 : Nat) (hR : TksR D T a1 T.l.length) (h2 : D b2 = some (boxT T (.slice a1 T.l.length c1))) (hv : tksB T = true) (w : World) (hH : Holds D w) (i j : Nat) (hi : i < T.l.length) (hj : j < T.l.length) : Gives Try.prog 86 [nt i, nt j, pt b2] w (it ((gt T.l i).hut - (gt T.l j).hut)) := by
  unfold Gives
  obtain ⟨⟨hh1, hh2⟩, hn5, hnum⟩ := tks_num hv
  have hx1 := (hnum i hi).1
  have hx2 := (hnum j hj).1
  refine enter Try.func86 rfl 19 Try.ntmps86 (Nat.le_of_ble_eq_true rfl) (Inv.start hH) ?_
  refine WC.seq ?_
  refine WC.ofFr [(0, _), (1, _), (2, _)] ⟨rfl, rfl, rfl, trivial⟩ ?_
  refine WC.region ?_
  refine WL.yd (Yd.assign rfl) rfl ?_
  refine WL.nil ?_
  refine WP.thenC ?_
  refine WC.seq ?_
  refine WC.ofFr [(5, _), (0, _), (1, _), (2, _)] ⟨rfl, rfl, rfl, rfl, trivial⟩ ?_
  refine WC.tail 12 [0, 1, 2, 3, 4, 5, 6, 7, 8, 9, 10, 11] rfl (by kernel_rfl) (by kernel_rfl)  ?_
  refine WQ.q rfl (Yd.qt (Yd.fieldAddr FA35_1 rfl)) rfl ?_
  refine WQ.q rfl (Yd.qt (Yd.load1 Try.isAgg33 rfl (by first | exact (Rd.imm h2 rfl) | exact ((hR.tick.at i (by omega)).rd 2 rfl) | exact ((hR.tick.at j (by omega)).rd 2 rfl)))) rfl ?_
  refine WQ.q rfl (Yd.qt (Yd.move rfl)) rfl ?_
  refine WQ.q rfl (Yd.qt (Yd.indexS Try.underlying33 Try.sizeOf78 rfl rfl (by omega) (by omega) (by first | exact hR.tick.addr i (by omega) | exact hR.tick.addr j (by omega)))) rfl ?_
  refine WQ.q rfl (Yd.qt (Yd.fieldAddr FA78_1 rfl)) rfl ?_
  refine WQ.q rfl (Yd.qt (Yd.load1 Try.isAgg3 rfl (by first | exact (Rd.imm h2 rfl) | exact ((hR.tick.at i (by omega)).rd 2 rfl) | exact ((hR.tick.at j (by omega)).rd 2 rfl)))) rfl ?_
  refine WQ.q rfl (Yd.qt (Yd.fieldAddr FA35_1 rfl)) rfl ?_
  refine WQ.q rfl (Yd.qt (Yd.load1 Try.isAgg33 rfl (by first | exact (Rd.imm h2 rfl) | exact ((hR.tick.at i (by omega)).rd 2 rfl) | exact ((hR.tick.at j (by omega)).rd 2 rfl)))) rfl ?_
  refine WQ.q rfl (Yd.qt (Yd.move rfl)) rfl ?_
  refine WQ.q rfl (Yd.qt (Yd.indexS Try.underlying33 Try.sizeOf78 rfl rfl (by omega) (by omega) (by first | exact hR.tick.addr i (by omega) | exact hR.tick.addr j (by omega)))) rfl ?_
  refine WQ.q rfl (Yd.qt (Yd.fieldAddr FA78_1 rfl)) rfl ?_
  refine WQ.q rfl (Yd.qt (Yd.load1 Try.isAgg3 rfl (by first | exact (Rd.imm h2 rfl) | exact ((hR.tick.at i (by omega)).rd 2 rfl) | exact ((hR.tick.at j (by omega)).rd 2 rfl)))) rfl ?_
  refine WQ.tail ?_
  refine WL.yd (Yd.sub rfl rfl (wr64 ⟨by omega, by omega⟩)) rfl ?_
  refine WL.yd (Yd.assign rfl) rfl ?_
  refine WL.nil ?_
  refine WP.thenC ?_
  refine WC.ret ?_
  refine WP.ret1 rfl rfl Try.results86 (RV.tmp rfl) (fun w hI => ⟨rfl, hI.keep⟩)

set_option maxRecDepth 100000 in
set_option maxHeartbeats 1000000 in
theorem open_g (T : Tks) (a1 : Option Addr) (n1 c1 : Nat) (D : Imm) (w : World) (hR : TksR D T a1 n1) (hH : Holds D w) (is : Bool) : Calls Try.prog 64 (List.toArray [.agg #[it T.huts, .slice a1 n1 c1], .bool is]) w fun e w' => OpenR T (.slice a1 n1 c1) is D w e w' := by
  obtain rfl := hR.tick.len'
  have hl1 := hR.len
  refine enter Try.func64 rfl 69 Try.ntmps64 (Nat.le_of_ble_eq_true rfl) (Inv.start hH) ?_
  refine WC.seq ?_
  refine WC.ofFr [(0, _), (1, _)] ⟨rfl, rfl, trivial⟩ ?_
  refine WC.region ?_
  refine WL.so (SO.box rfl rfl) rfl ?_
  rintro _ _ _ ⟨b2, hb2, rfl, rfl, rfl⟩ -- NEW
  refine WL.yd (Yd.assign rfl) rfl ?_
  refine WL.nil ?_
  refine WP.thenC ?_
  refine WC.seq ?_
  refine WC.ofFr [(4, _), (2, _), (1, _)] ⟨rfl, rfl, rfl, trivial⟩ ?_
  refine WC.region ?_
  refine WL.yd (Yd.fieldAddr FA35_0 rfl) rfl ?_
  refine WL.yd (Yd.load1 Try.isAgg3 rfl (by first | exact Rd.own (k := 0) rfl rfl)) rfl ?_
  refine WL.so (SO.callP Try.call84 rfl (fun w hI => withinK_g _ _ _ _)) rfl ?_
  rintro _ _ _ ⟨rfl, rfl, rfl⟩
  refine WL.yd (Yd.move rfl) rfl ?_
  refine WL.part 12 rfl (fun g12 => ?_) (fun g12 => ?_)
  · try simp only [zq1, zq2, zq3, zq4, zq5, zq6, zq7, zq8] at g12
    have hh12 : 1 ≤ T.huts ∧ T.huts ≤ 4 := of_decide_eq_true g12
    refine WL.ydg rfl (Yd.fieldAddr FA35_1 rfl) rfl ?_
    refine WL.ydg rfl (Yd.load1 Try.isAgg33 rfl (by first | exact Rd.own (k := 0) rfl rfl)) rfl ?_
    refine WL.ydg rfl (Yd.lenS rfl Try.underlying33 rfl) rfl ?_
    refine WL.ydg rfl (Yd.leq rfl rfl) rfl ?_
    refine WL.yd (Yd.pickT rfl rfl) rfl ?_
    refine WL.part 17 rfl (fun g17 => ?_) (fun g17 => ?_)
    · try simp only [zq1, zq2, zq3, zq4, zq5, zq6, zq7, zq8] at g17
      refine WL.so (SO.call (Enters.func Try.call83 rfl) (fun w hI => mustK_ok _ _)) rfl ?_
      rintro _ _ _ ⟨rfl, rfl, rfl⟩
      refine WL.nil ?_
      refine WP.thenC ?_
      refine WC.seq ?_
      refine WC.ofFr [(4, _), (2, _), (1, _)] ⟨rfl, rfl, rfl, trivial⟩ ?_
      refine WC.region ?_
      refine WL.yd (Yd.assign rfl) rfl ?_
      refine WL.nil ?_
      refine WP.thenC ?_
      refine WC.seq ?_
      refine WC.ofFr [(5, _), (4, _), (2, _), (1, _)] ⟨rfl, rfl, rfl, rfl, trivial⟩ ?_
      refine WC.region ?_
      refine WL.yd (Yd.loadN Try.isAgg35 Try.sizeOf35 rfl (vs := [_, _]) rfl (by first | exact RdN.own (k := 0) (n := 2) rfl rfl | exact (hR.tick.at k (by omega)).rdn 0 5 rfl)) rfl ?_
      refine WL.yd (Yd.build SA146 rfl (cs := [_, _, _]) rfl) rfl ?_
      refine WL.so (SO.box rfl rfl) rfl ?_
      rintro _ _ _ ⟨b21, hb21, rfl, rfl, rfl⟩ -- NEW
      refine WL.yd (Yd.assign rfl) rfl ?_
      refine WL.nil ?_
      refine WP.thenC ?_
      refine WC.seq ?_
      refine WC.seq ?_
      refine WC.ofFr [(6, _), (5, _), (4, _), (2, _), (1, _)] ⟨rfl, rfl, rfl, rfl, rfl, trivial⟩ ?_
      refine WC.region ?_
      refine WL.yd (Yd.fieldAddr FA35_1 rfl) rfl ?_
      refine WL.yd (Yd.load1 Try.isAgg33 rfl (by first | exact Rd.own (k := 0) rfl rfl | exact Rd.own (k := 1) rfl rfl)) rfl ?_
      refine WL.yd (Yd.lenS rfl Try.underlying33 rfl) rfl ?_
      refine WL.yd (Yd.move rfl) rfl ?_
      refine WL.nil ?_
      refine WP.thenC ?_
      refine WC.block ?_
      refine WC.loop (fun y : Nat × Option Ow => [(1, .bool is), (2, pt b2), (5, .func (.func 85) #[] #[]), (6, pt b21), (23, .slice a1 T.l.length c1), (24, nt T.l.length), (25, nt y.1)]) (fun y => ((b21, offO T (.slice a1 T.l.length c1) (owV y.2 y.1)) :: (b2, boxT T (.slice a1 T.l.length c1)) :: owH y.2 3 ((List.range y.1).map nt) [])) (fun _ => D) (fun y => y.1 ≤ T.l.length ∧ owP w y.2 y.1 1 ∧ ∀ i, i < y.1 → tickB T (gt T.l i) = true) (fun y => T.l.length - y.1) (0, none) ⟨by omega, rfl, by intro i hi; omega⟩ (fun a w h => at_fr h ⟨rfl, rfl, rfl, rfl, rfl, rfl, rfl, trivial⟩) ?_
      rintro ⟨k, o⟩ ⟨hk, ho, hd⟩
      dsimp only at hk ho hd
      refine WC.seq ?_
      refine WC.ofFr [(1, _), (2, _), (5, _), (6, _), (23, _), (24, _), (25, _)] ⟨rfl, rfl, rfl, rfl, rfl, rfl, rfl, trivial⟩ ?_
      refine WC.region ?_
      refine WL.yd (Yd.lss rfl rfl) rfl ?_
      refine WL.nil ?_
      refine WP.thenC ?_
      refine WC.seq ?_
      refine WC.cond rfl (fun c26 => ?_) (fun c26 => ?_)
      · try simp only [zq1, zq2, zq3, zq4, zq5, zq6, zq7, zq8] at c26
        refine WC.skip ?_
        refine WP.thenC ?_
        refine WC.seq ?_
        refine WC.block ?_
        refine WC.seq ?_
        refine WC.ofFr [(1, _), (2, _), (5, _), (6, _), (23, _), (24, _), (25, _)] ⟨rfl, rfl, rfl, rfl, rfl, rfl, rfl, trivial⟩ ?_
        refine WC.region ?_
        refine WL.yd (Yd.move rfl) rfl ?_
        refine WL.yd (Yd.indexS Try.underlying33 Try.sizeOf78 rfl rfl (by omega) (by omega) (by first | exact hR.tick.addr k (by omega))) rfl ?_
        refine WL.yd (Yd.loadN Try.isAgg78 Try.sizeOf78 rfl (vs := [_, _, _, _, _]) rfl (by first | exact RdN.own (k := 0) (n := 5) rfl rfl | exact RdN.own (k := 1) (n := 5) rfl rfl | exact (hR.tick.at k (by omega)).rdn 0 5 rfl)) rfl ?_
        refine WL.so (SO.alloc Try.zeroValue78 rfl) rfl ?_
        rintro _ _ _ ⟨b8, hb8, rfl, rfl, rfl⟩ -- NEW
        refine WL.yd (Yd.assign rfl) rfl ?_
        refine WL.so (SO.store 0 rfl Try.sizeOf78 rfl rfl rfl rfl (Nat.le_of_ble_eq_true rfl) (oneB_spec rfl)) rfl ?_
        rintro _ _ _ ⟨rfl, rfl, rfl⟩
        refine WL.nil ?_
        refine WP.thenC ?_
        refine WC.seq ?_
        refine WC.ofFr [(7, _), (8, _), (1, _), (2, _), (5, _), (6, _), (23, _), (24, _), (25, _)] ⟨rfl, rfl, rfl, rfl, rfl, rfl, rfl, rfl, rfl, trivial⟩ ?_
        refine WC.region ?_
        refine WL.yd (Yd.fieldAddr FA78_1 rfl) rfl ?_
        refine WL.yd (Yd.load1 Try.isAgg3 rfl (by first | exact Rd.own (k := 0) rfl rfl | exact Rd.own (k := 1) rfl rfl | exact Rd.own (k := 2) rfl rfl)) rfl ?_
        refine WL.yd (Yd.fieldAddr FA35_0 rfl) rfl ?_
        refine WL.yd (Yd.load1 Try.isAgg3 rfl (by first | exact Rd.own (k := 0) rfl rfl | exact Rd.own (k := 1) rfl rfl | exact Rd.own (k := 2) rfl rfl)) rfl ?_
        refine WL.yd (Yd.sub rfl rfl (wr64 ⟨by omega, by omega⟩)) rfl ?_
        refine WL.so (SO.callP Try.call84 rfl (fun w hI => withinK_g _ _ _ _)) rfl ?_
        rintro _ _ _ ⟨rfl, rfl, rfl⟩
        refine WL.yd (Yd.move rfl) rfl ?_
        refine WL.part 36 rfl (fun g36 => ?_) (fun g36 => ?_)
        · try simp only [zq1, zq2, zq3, zq4, zq5, zq6, zq7, zq8] at g36
          refine WL.ydg rfl (Yd.move rfl) rfl ?_
          refine WL.ydg rfl (Yd.fieldAddr FA78_0 rfl) rfl ?_
          refine WL.ydg rfl (Yd.loadN Try.isAgg30 Try.sizeOf30 rfl (vs := [_, _]) rfl (by first | exact RdN.own (k := 0) (n := 2) rfl rfl | exact RdN.own (k := 1) (n := 2) rfl rfl | exact RdN.own (k := 2) (n := 2) rfl rfl | exact (hR.tick.at k (by omega)).rdn 0 5 rfl)) rfl ?_
          refine WL.sog rfl (SO.call (Enters.val Try.call85 rfl rfl) (fun w hI => isSpan_g ⟨_, _⟩ _)) rfl ?_
          rintro _ _ _ ⟨rfl, rfl, rfl⟩
          refine WL.yd (Yd.pickT rfl rfl) rfl ?_
          refine WL.yd (Yd.move rfl) rfl ?_
          refine WL.part 42 rfl (fun g42 => ?_) (fun g42 => ?_)
          · try simp only [zq1, zq2, zq3, zq4, zq5, zq6, zq7, zq8] at g42
            refine WL.ydg rfl (Yd.move rfl) rfl ?_
            refine WL.ydg rfl (Yd.fieldAddr FA78_2 rfl) rfl ?_
            refine WL.ydg rfl (Yd.loadN Try.isAgg30 Try.sizeOf30 rfl (vs := [_, _]) rfl (by first | exact RdN.own (k := 0) (n := 2) rfl rfl | exact RdN.own (k := 1) (n := 2) rfl rfl | exact RdN.own (k := 2) (n := 2) rfl rfl | exact (hR.tick.at k (by omega)).rdn 0 5 rfl)) rfl ?_
            refine WL.sog rfl (SO.call (Enters.val Try.call85 rfl rfl) (fun w hI => isSpan_g ⟨_, _⟩ _)) rfl ?_
            rintro _ _ _ ⟨rfl, rfl, rfl⟩
            refine WL.yd (Yd.pickT rfl rfl) rfl ?_
            refine WL.part 47 rfl (fun g47 => ?_) (fun g47 => ?_)
            · try simp only [zq1, zq2, zq3, zq4, zq5, zq6, zq7, zq8] at g47
              refine WL.so (SO.call (Enters.func Try.call83 rfl) (fun w hI => mustK_ok _ _)) rfl ?_
              rintro _ _ _ ⟨rfl, rfl, rfl⟩
              refine WL.nil ?_
              refine WP.thenC ?_
              refine WC.ofFr [(7, _), (1, _), (2, _), (5, _), (6, _), (23, _), (24, _), (25, _)] ⟨rfl, rfl, rfl, rfl, rfl, rfl, rfl, rfl, trivial⟩ ?_
              refine WC.region ?_
              refine WL.yd (Yd.move rfl) rfl ?_
              refine WL.yd (Yd.move rfl) rfl ?_
              refine WL.yd (Yd.nilCheck rfl) rfl ?_
              refine WL.yd (Yd.fieldAddr FA146_1 rfl) rfl ?_
              refine WL.yd (Yd.load1 Try.isAgg22 rfl (by first | exact Rd.own (k := 0) rfl rfl | exact Rd.own (k := 1) rfl rfl | exact Rd.own (k := 2) rfl rfl)) rfl ?_
              refine WL.yd (Yd.move rfl) rfl ?_
              refine WL.so (SO.buildSlice Try.underlying22 Try.sizeOf3 Try.zeroValue3 rfl rfl rfl rfl (cs := [_]) rfl) rfl ?_
              rintro _ _ _ ⟨b55, hb55, rfl, rfl, rfl⟩ -- NEW
              refine WL.so (SO.appendOw (o := o) (len := k) (n := 1) (xs := ((List.range k).map nt)) (size := 1) [_] [_, _, _] [] rfl rfl Try.underlying22 Try.sizeOf3 Try.typeInfo3 Try.zeroValue3 rfl rfl rfl rfl ⟨rfl, .inr ⟨_, _, _, rfl, RdN.own (k := 0) (n := 1) rfl rfl⟩⟩ (oneB_spec rfl) ho (by simp) (by omega) (by show (2 * (_ + _) + 1000) * 8 ≤ 2 ^ 48; omega) (by omega)) rfl ?_
              rintro _ _ _ ⟨u1, hu1, rfl, rfl, rfl⟩
              refine WL.yd (Yd.nilCheck rfl) rfl ?_
              refine WL.yd (Yd.fieldAddr FA146_1 rfl) rfl ?_
              refine WL.so (SO.store 1 rfl Try.sizeOf22 rfl rfl rfl rfl (Nat.le_of_ble_eq_true rfl) (oneB_spec rfl)) rfl ?_
              rintro _ _ _ ⟨rfl, rfl, rfl⟩
              refine WL.nil ?_
              refine WP.blkNormal ?_
              refine WP.thenC ?_
              refine WC.ofFr [(1, _), (2, _), (5, _), (6, _), (23, _), (24, _), (25, _)] ⟨rfl, rfl, rfl, rfl, rfl, rfl, rfl, trivial⟩ ?_
              refine WC.region ?_
              refine WL.yd (Yd.add rfl rfl (wr64 ⟨by omega, by omega⟩)) rfl ?_
              refine WL.yd (Yd.move rfl) rfl ?_
              refine WL.nil ?_
              refine WP.again (⟨k + 1, some u1⟩ : Nat × Option Ow) ⟨by simp only; omega, hu1, ext_round hd (by simp_all [tickB, hutT, inB])⟩ (by simp only; omega) (fun aa ww h => ?_)
              have hrs : (List.range (k + 1)).map nt = (List.range k).map nt ++ [nt k] := by rw [List.range_succ, List.map_append]; rfl
              show At _ [(1, .bool is), (2, pt b2), (5, .func (.func 85) #[] #[]), (6, pt b21), (23, .slice a1 T.l.length c1), (24, nt T.l.length), (25, nt (k + 1))] D ((b21, offO T (.slice a1 T.l.length c1) (owV (some u1) (k + 1))) :: (b2, boxT T (.slice a1 T.l.length c1)) :: owH (some u1) 3 ((List.range (k + 1)).map nt) []) aa ww
              rw [hrs]
              exact at_less h ⟨rfl, rfl, rfl, rfl, rfl, rfl, rfl, trivial⟩ (fun _ h => List.mem_cons_of_mem _ h) (fun h => (List.nodup_cons.1 h).2)
            · try simp only [zq1, zq2, zq3, zq4, zq5, zq6, zq7, zq8] at g47
              refine WL.no (SO.fail (Enters.func Try.call83 rfl) (fun w hI => mustK_no _ _) ?_)
              refine WP.thenPanic ?_
              refine WP.blkPanic ?_
              refine WP.thenPanic ?_
              refine WP.thenPanic ?_
              refine WP.blkPanic ?_
              refine WP.thenPanic ?_
              first
                | exact WP.panicBody rfl (fun w hI => ⟨fun h => absurd (hok.symm.trans h) (by decide), fun _ _ => ⟨rfl, hI.keep⟩, fun _ h => by rw [g60] at h; cases h⟩)
                | (refine WP.panicBody rfl (fun w hI => ?_)
                   have hno : tksB T = false := by
                     cases hdb : tksB T with
                     | false => rfl
                     | true =>
                       exfalso
                       obtain ⟨h1, h2, h3⟩ := (tksB_iff T).1 hdb
                       first | (simp_all [inB]; done) | (simp_all [inB]; omega) | exact Bool.noConfusion ((tick_no (h3 k (by omega))).1.symm.trans g36 : true = false) | exact Bool.noConfusion ((tick_no (h3 k (by omega))).2.1.symm.trans g42 : true = false) | exact Bool.noConfusion ((tick_no (h3 k (by omega))).2.2.symm.trans g47 : true = false)
                   exact ⟨fun _ => ⟨rfl, hI.keep⟩, fun h => absurd (hno.symm.trans h) (by decide), fun h => absurd (hno.symm.trans h) (by decide)⟩)
          · try simp only [zq1, zq2, zq3, zq4, zq5, zq6, zq7, zq8] at g42
            refine WL.skip rfl rfl ?_
            refine WL.skip rfl rfl ?_
            refine WL.skip rfl rfl ?_
            refine WL.skip rfl rfl ?_
            refine WL.yd (Yd.pickF rfl rfl) rfl ?_
            refine WL.no (SO.fail (Enters.func Try.call83 rfl) (fun w hI => mustK_no _ _) ?_)
            refine WP.thenPanic ?_
            refine WP.blkPanic ?_
            refine WP.thenPanic ?_
            refine WP.thenPanic ?_
            refine WP.blkPanic ?_
            refine WP.thenPanic ?_
            first
              | exact WP.panicBody rfl (fun w hI => ⟨fun h => absurd (hok.symm.trans h) (by decide), fun _ _ => ⟨rfl, hI.keep⟩, fun _ h => by rw [g60] at h; cases h⟩)
              | (refine WP.panicBody rfl (fun w hI => ?_)
                 have hno : tksB T = false := by
                   cases hdb : tksB T with
                   | false => rfl
                   | true =>
                     exfalso
                     obtain ⟨h1, h2, h3⟩ := (tksB_iff T).1 hdb
                     first | (simp_all [inB]; done) | (simp_all [inB]; omega) | exact Bool.noConfusion ((tick_no (h3 k (by omega))).1.symm.trans g36 : true = false) | exact Bool.noConfusion ((tick_no (h3 k (by omega))).2.1.symm.trans g42 : true = false) | exact Bool.noConfusion ((tick_no (h3 k (by omega))).2.2.symm.trans g47 : true = false)
                 exact ⟨fun _ => ⟨rfl, hI.keep⟩, fun h => absurd (hno.symm.trans h) (by decide), fun h => absurd (hno.symm.trans h) (by decide)⟩)
        · try simp only [zq1, zq2, zq3, zq4, zq5, zq6, zq7, zq8] at g36
          refine WL.skip rfl rfl ?_
          refine WL.skip rfl rfl ?_
          refine WL.skip rfl rfl ?_
          refine WL.skip rfl rfl ?_
          refine WL.yd (Yd.pickF rfl rfl) rfl ?_
          refine WL.yd (Yd.move rfl) rfl ?_
          refine WL.skip rfl rfl ?_
          refine WL.skip rfl rfl ?_
          refine WL.skip rfl rfl ?_
          refine WL.skip rfl rfl ?_
          refine WL.yd (Yd.pickF rfl rfl) rfl ?_
          refine WL.no (SO.fail (Enters.func Try.call83 rfl) (fun w hI => mustK_no _ _) ?_)
          refine WP.thenPanic ?_
          refine WP.blkPanic ?_
          refine WP.thenPanic ?_
          refine WP.thenPanic ?_
          refine WP.blkPanic ?_
          refine WP.thenPanic ?_
          first
            | exact WP.panicBody rfl (fun w hI => ⟨fun h => absurd (hok.symm.trans h) (by decide), fun _ _ => ⟨rfl, hI.keep⟩, fun _ h => by rw [g60] at h; cases h⟩)
            | (refine WP.panicBody rfl (fun w hI => ?_)
               have hno : tksB T = false := by
                 cases hdb : tksB T with
                 | false => rfl
                 | true =>
                   exfalso
                   obtain ⟨h1, h2, h3⟩ := (tksB_iff T).1 hdb
                   first | (simp_all [inB]; done) | (simp_all [inB]; omega) | exact Bool.noConfusion ((tick_no (h3 k (by omega))).1.symm.trans g36 : true = false) | exact Bool.noConfusion ((tick_no (h3 k (by omega))).2.1.symm.trans g42 : true = false) | exact Bool.noConfusion ((tick_no (h3 k (by omega))).2.2.symm.trans g47 : true = false)
               exact ⟨fun _ => ⟨rfl, hI.keep⟩, fun h => absurd (hno.symm.trans h) (by decide), fun h => absurd (hno.symm.trans h) (by decide)⟩)
      · try simp only [zq1, zq2, zq3, zq4, zq5, zq6, zq7, zq8] at c26
        refine WC.exit ?_
        refine WP.thenExit ?_
        refine WP.thenExit ?_
        refine WP.blkHit ?_
        refine WP.thenC ?_
        refine WC.seq ?_
        obtain rfl : k = T.l.length := by omega
        have hok : tksB T = true := (tksB_iff T).2 ⟨by simp_all [inB], by omega, hd⟩
        refine WC.ofFr [(1, _), (2, _), (6, _)] ⟨rfl, rfl, rfl, trivial⟩ ?_
        refine WC.region ?_
        refine WL.yd (Yd.move rfl) rfl ?_
        refine WL.part 60 rfl (fun g60 => ?_) (fun g60 => ?_)
        · try simp only [zq1, zq2, zq3, zq4, zq5, zq6, zq7, zq8] at g60
          refine WL.so (SO.call (Enters.func Try.call83 rfl) (fun w hI => mustK_ok _ _)) rfl ?_
          rintro _ _ _ ⟨rfl, rfl, rfl⟩
          refine WL.nil ?_
          refine WP.thenC ?_
          refine WC.seq ?_
          refine WC.ofFr [(2, _), (6, _)] ⟨rfl, rfl, trivial⟩ ?_
          refine WC.region ?_
          refine WL.yd (Yd.move rfl) rfl ?_
          refine WL.yd (Yd.nilCheck rfl) rfl ?_
          refine WL.yd (Yd.fieldAddr FA146_1 rfl) rfl ?_
          refine WL.yd (Yd.load1 Try.isAgg22 rfl (by first | exact Rd.own (k := 0) rfl rfl | exact Rd.own (k := 1) rfl rfl)) rfl ?_
          refine WL.yd (Yd.func rfl rfl) rfl ?_
          refine WL.freezeK 1 rfl (fun hn2 => ?_)
          have hF2 := fun o => (DExt.refl w D).add (o := o) hn2 hb2
          refine WL.so (SO.alters (own := [_]) (hpc := owH o 3 ((List.range T.l.length).map nt) []) (S1 := keys (owH o 3 ((List.range T.l.length).map nt) [])) (fun _ h => h) (fun h => h) (fun _ h => h) (fun _ h => h) (Enters.func Try.call37 rfl) (fun w1 hI => sortO_g (byKey (hutKey T)) (List.range T.l.length) o T.l.length _ w1 w ⟨by simp, fun i hi => by rw [gt_range hi]; exact hi⟩ (by omega) ho 86 [pt b2] Try.call86 (fun i j => (gt T.l i).hut - (gt T.l j).hut) (fun w' hH' i j hi hj => cmp_g T a1 c1 _ b2 (hR.ext (hF2 _)) (Imm.add_self _ _ _) hok w' hH' i j hi hj) (fun i j _ _ => by unfold byKey hutKey; congr 1; apply propext; omega) hI)) rfl ?_
          rintro _ _ _ ⟨_, _, ⟨rfl, rfl, rfl⟩, rfl⟩
          refine WL.nil ?_
          refine WP.thenC ?_
          refine WC.seq ?_
          refine WC.ofFr [(6, _)] ⟨rfl, trivial⟩ ?_
          refine WC.region ?_
          have hso : (sortT (hutKey T) T.l.length).length = T.l.length := sortT_len _ _
          refine WL.freezeOw (f := natC) (m := 1) natC_len [_] [] o 3 (ordT T) rfl (by show owP w o (sortT (hutKey T) T.l.length).length 1; rw [hso]; exact ho) (by rw [flat_nt]; rfl) (fun D2 hX2 hS2 => ?_)
          refine WL.yd (Yd.move rfl) rfl ?_
          refine WL.yd (Yd.assign rfl) rfl ?_
          refine WL.nil ?_
          refine WP.thenC ?_
          refine WC.ret ?_
          refine WP.ret1 rfl rfl Try.results64 (RV.tmp rfl) (fun w1 hI => ⟨fun h => absurd (hok.symm.trans h) (by decide), fun _ h => (by rw [g60] at h; cases h), fun _ _ => ⟨_, _, rfl, hI.keep, hI.freeze.imm, (((hF2 _).trans hX2 (Nat.le_refl _)).add (hI.apart _ _ (List.mem_of_getElem? (i := 0) rfl)) hb21), _, _, by rw [owV_owL (owL_of ho)]; exact Imm.add_self _ _ _, by
            have h9 := hS2.ext ((DExt.refl w D2).add (o := offO T (.slice a1 T.l.length c1) (owV o T.l.length)) (hI.apart _ _ (List.mem_of_getElem? (i := 0) rfl)) hb21)
            rw [show (ordT T).length = T.l.length from hso] at h9
            exact ⟨h9, owCp_le ho⟩⟩⟩)
        · try simp only [zq1, zq2, zq3, zq4, zq5, zq6, zq7, zq8] at g60
          refine WL.no (SO.fail (Enters.func Try.call83 rfl) (fun w hI => mustK_no _ _) ?_)
          refine WP.thenPanic ?_
          first
            | exact WP.panicBody rfl (fun w hI => ⟨fun h => absurd (hok.symm.trans h) (by decide), fun _ _ => ⟨rfl, hI.keep⟩, fun _ h => by rw [g60] at h; cases h⟩)
            | (refine WP.panicBody rfl (fun w hI => ?_)
               have hno : tksB T = false := by
                 cases hdb : tksB T with
                 | false => rfl
                 | true =>
                   exfalso
                   obtain ⟨h1, h2, h3⟩ := (tksB_iff T).1 hdb
                   first | (simp_all [inB]; done) | (simp_all [inB]; omega) | exact Bool.noConfusion ((tick_no (h3 k (by omega))).1.symm.trans g36 : true = false) | exact Bool.noConfusion ((tick_no (h3 k (by omega))).2.1.symm.trans g42 : true = false) | exact Bool.noConfusion ((tick_no (h3 k (by omega))).2.2.symm.trans g47 : true = false)
               exact ⟨fun _ => ⟨rfl, hI.keep⟩, fun h => absurd (hno.symm.trans h) (by decide), fun h => absurd (hno.symm.trans h) (by decide)⟩)
    · try simp only [zq1, zq2, zq3, zq4, zq5, zq6, zq7, zq8] at g17
      refine WL.no (SO.fail (Enters.func Try.call83 rfl) (fun w hI => mustK_no _ _) ?_)
      refine WP.thenPanic ?_
      first
        | exact WP.panicBody rfl (fun w hI => ⟨fun h => absurd (hok.symm.trans h) (by decide), fun _ _ => ⟨rfl, hI.keep⟩, fun _ h => by rw [g60] at h; cases h⟩)
        | (refine WP.panicBody rfl (fun w hI => ?_)
           have hno : tksB T = false := by
             cases hdb : tksB T with
             | false => rfl
             | true =>
               exfalso
               obtain ⟨h1, h2, h3⟩ := (tksB_iff T).1 hdb
               first | (simp_all [inB]; done) | (simp_all [inB]; omega) | exact Bool.noConfusion ((tick_no (h3 k (by omega))).1.symm.trans g36 : true = false) | exact Bool.noConfusion ((tick_no (h3 k (by omega))).2.1.symm.trans g42 : true = false) | exact Bool.noConfusion ((tick_no (h3 k (by omega))).2.2.symm.trans g47 : true = false)
           exact ⟨fun _ => ⟨rfl, hI.keep⟩, fun h => absurd (hno.symm.trans h) (by decide), fun h => absurd (hno.symm.trans h) (by decide)⟩)
  · try simp only [zq1, zq2, zq3, zq4, zq5, zq6, zq7, zq8] at g12
    refine WL.skip rfl rfl ?_
    refine WL.skip rfl rfl ?_
    refine WL.skip rfl rfl ?_
    refine WL.skip rfl rfl ?_
    refine WL.yd (Yd.pickF rfl rfl) rfl ?_
    refine WL.no (SO.fail (Enters.func Try.call83 rfl) (fun w hI => mustK_no _ _) ?_)
    refine WP.thenPanic ?_
    first
      | exact WP.panicBody rfl (fun w hI => ⟨fun h => absurd (hok.symm.trans h) (by decide), fun _ _ => ⟨rfl, hI.keep⟩, fun _ h => by rw [g60] at h; cases h⟩)
      | (refine WP.panicBody rfl (fun w hI => ?_)
         have hno : tksB T = false := by
           cases hdb : tksB T with
           | false => rfl
           | true =>
             exfalso
             obtain ⟨h1, h2, h3⟩ := (tksB_iff T).1 hdb
             first | (simp_all [inB]; done) | (simp_all [inB]; omega) | exact Bool.noConfusion ((tick_no (h3 k (by omega))).1.symm.trans g36 : true = false) | exact Bool.noConfusion ((tick_no (h3 k (by omega))).2.1.symm.trans g42 : true = false) | exact Bool.noConfusion ((tick_no (h3 k (by omega))).2.2.symm.trans g47 : true = false)
         exact ⟨fun _ => ⟨rfl, hI.keep⟩, fun h => absurd (hno.symm.trans h) (by decide), fun h => absurd (hno.symm.trans h) (by decide)⟩)

end Go.Proofs.Ytpnbkdlejfmbeaa
