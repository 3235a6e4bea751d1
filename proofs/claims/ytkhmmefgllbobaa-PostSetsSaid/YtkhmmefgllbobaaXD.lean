import Derived.Test.YtkhmmefgllbobaaXM
import Derived.Test.YtkhmmefgllbobaaXP
import Derived.Test.YtkhmmefgllbobaaXV
set_option linter.unusedSimpArgs false
set_option linter.unusedVariables false
set_option linter.all false
namespace Go.Proofs.Ytkhmmefgllbobaa
open Go.W Go.Po
theorem FA23_0 : FieldAt Try.prog 23 0 0 := FieldAt.mk (t := 3) (off := 0) Try.underlying23 rfl Try.sizeOf3 (by decide)
theorem FA23_1 : FieldAt Try.prog 23 1 1 := FieldAt.mk (t := 3) (off := 1) Try.underlying23 rfl Try.sizeOf3 (by decide)
theorem FA27_1 : FieldAt Try.prog 27 1 2 := FieldAt.mk (t := 24) (off := 2) Try.underlying27 rfl Try.sizeOf24 (by decide)
theorem FA124_0 : FieldAt Try.prog 124 0 0 := FieldAt.mk (t := 30) (off := 0) Try.underlying124 rfl Try.sizeOf30 (by decide)
theorem SA124 : StructAt Try.prog 124 [.int .i64 0] [(0, 1)] := ⟨⟨_, Try.zeroValue124, rfl⟩, _, Try.underlying124, fun w => by simp [Try.sizeOf30]⟩
set_option maxRecDepth 100000 in
set_option maxHeartbeats 1000000 in
theorem within_g (n lo hi : Int) (w : World) : Gives Try.prog 92 [it n, it lo, it hi] w (.bool (inB n lo hi)) := by
  unfold Gives
  refine enter Try.func92 rfl 15 Try.ntmps92 (Nat.le_of_ble_eq_true rfl) (Inv.start (D := fun _ => none) (by intro _ _ h; cases h)) ?_
  refine WC.seq ?_
  refine WC.ofFr [(0, _), (1, _), (2, _)] ⟨rfl, rfl, rfl, trivial⟩ ?_
  refine WC.region ?_
  refine WL.yd (Yd.assign rfl) rfl ?_
  refine WL.nil ?_
  refine WP.thenC ?_
  refine WC.seq ?_
  refine WC.ofFr [(6, _), (0, _), (1, _), (2, _)] ⟨rfl, rfl, rfl, rfl, trivial⟩ ?_
  refine WC.region ?_
  refine WL.yd (Yd.move rfl) rfl ?_
  refine WL.yd (Yd.move rfl) rfl ?_
  refine WL.yd (Yd.leq rfl rfl) rfl ?_
  refine WL.yd (Yd.move rfl) rfl ?_
  refine WL.part 10 rfl (fun g10 => ?_) (fun g10 => ?_)
  · try simp only [zq1, zq2, zq3, zq4, zq5, zq6, zq7, zq8] at g10
    refine WL.ydg rfl (Yd.move rfl) rfl ?_
    refine WL.ydg rfl (Yd.move rfl) rfl ?_
    refine WL.ydg rfl (Yd.leq rfl rfl) rfl ?_
    refine WL.yd (Yd.pickT rfl rfl) rfl ?_
    refine WL.yd (Yd.assign rfl) rfl ?_
    refine WL.nil ?_
    refine WP.thenC ?_
    refine WC.ret ?_
    refine WP.ret1 rfl rfl Try.results92 (RV.tmp rfl) (fun w hI => ⟨ret_bool (by rw [Bool.eq_iff_iff]; simp [inB]; omega), hI.keep⟩)
  · try simp only [zq1, zq2, zq3, zq4, zq5, zq6, zq7, zq8] at g10
    refine WL.skip rfl rfl ?_
    refine WL.skip rfl rfl ?_
    refine WL.skip rfl rfl ?_
    refine WL.yd (Yd.pickF rfl rfl) rfl ?_
    refine WL.yd (Yd.assign rfl) rfl ?_
    refine WL.nil ?_
    refine WP.thenC ?_
    refine WC.ret ?_
    refine WP.ret1 rfl rfl Try.results92 (RV.tmp rfl) (fun w hI => ⟨ret_bool (by rw [Bool.eq_iff_iff]; simp [inB]; omega), hI.keep⟩)

set_option maxRecDepth 100000 in
set_option maxHeartbeats 1000000 in
theorem must_ok (e : Int) (w : World) : Gives Try.prog 83 [.bool true, it e] w (.tuple #[]) := by
  unfold Gives
  refine enter Try.func83 rfl 9 Try.ntmps83 (Nat.le_of_ble_eq_true rfl) (Inv.start (D := fun _ => none) (by intro _ _ h; cases h)) ?_
  refine WC.seq ?_
  refine WC.ofFr [(0, _), (1, _)] ⟨rfl, rfl, trivial⟩ ?_
  refine WC.region ?_
  refine WL.yd (Yd.move rfl) rfl ?_
  refine WL.yd (Yd.not rfl) rfl ?_
  refine WL.nil ?_
  refine WP.thenC ?_
  refine WC.condF rfl ?_
  refine WC.skip ?_
  refine WP.ret0 rfl rfl Try.results83  (fun w hI => ⟨rfl, hI.keep⟩)

set_option maxRecDepth 100000 in
set_option maxHeartbeats 1000000 in
theorem must_no (e : Int) (w : World) : Fails Try.prog 83 [.bool false, it e] w (stopC e) := by
  unfold Fails
  refine enter Try.func83 rfl 9 Try.ntmps83 (Nat.le_of_ble_eq_true rfl) (Inv.start (D := fun _ => none) (by intro _ _ h; cases h)) ?_
  refine WC.seq ?_
  refine WC.ofFr [(0, _), (1, _)] ⟨rfl, rfl, trivial⟩ ?_
  refine WC.region ?_
  refine WL.yd (Yd.move rfl) rfl ?_
  refine WL.yd (Yd.not rfl) rfl ?_
  refine WL.nil ?_
  refine WP.thenC ?_
  refine WC.condT rfl ?_
  refine WC.ofFr [(1, _)] ⟨rfl, trivial⟩ ?_
  refine WC.region ?_
  refine WL.yd (Yd.move rfl) rfl ?_
  refine WL.yd (Yd.build SA124 rfl (cs := [_]) rfl) rfl ?_
  refine WL.yd (Yd.iface Try.underlying124 (by intro _ h; cases h) rfl) rfl ?_
  refine WL.no (SO.panic rfl ?_)
  refine WP.panicBody rfl (fun w hI => ⟨rfl, hI.keep⟩)

set_option maxRecDepth 100000 in
set_option maxHeartbeats 1000000 in
theorem stopped_nil (v : Value) (w : World) : Gives Try.prog 48 [.nilIface, v] w (.tuple #[]) := by
  unfold Gives
  refine enter Try.func48 rfl 20 Try.ntmps48 (Nat.le_of_ble_eq_true rfl) (Inv.start (D := fun _ => none) (by intro _ _ h; cases h)) ?_
  refine WC.seq ?_
  refine WC.seq ?_
  refine WC.ofFr [(0, _), (1, _)] ⟨rfl, rfl, trivial⟩ ?_
  refine WC.region ?_
  refine WL.yd (Yd.move rfl) rfl ?_
  refine WL.yd (Yd.eqlNilNil Try.underlying20 rfl) rfl ?_
  refine WL.nil ?_
  refine WP.thenC ?_
  refine WC.condT rfl ?_
  refine WC.ret ?_
  refine WP.thenRet ?_
  refine WP.ret0 rfl rfl Try.results48  (fun w hI => ⟨rfl, hI.keep⟩)

set_option maxRecDepth 100000 in
set_option maxHeartbeats 1000000 in
theorem stopped_yes (e v0 : Int) (b : Nat) (t : TypeId) (w : World) (hb : w.heap[b]? = some (.cells (List.toArray [it v0]) t (0, 0))) : Calls Try.prog 48 (List.toArray [.iface 124 (.agg #[it e]), pt b]) w fun en w' => (en = .returned (.tuple #[]) ∧ Keep [b] w w') ∧ w'.heap[b]? = some (.cells (List.toArray [it e]) t (0, 0)) := by
  refine enter Try.func48 rfl 20 Try.ntmps48 (Nat.le_of_ble_eq_true rfl) (Inv.one hb) ?_
  refine WC.seq ?_
  refine WC.seq ?_
  refine WC.ofFr [(0, _), (1, _)] ⟨rfl, rfl, trivial⟩ ?_
  refine WC.region ?_
  refine WL.yd (Yd.move rfl) rfl ?_
  refine WL.yd (Yd.eqlNil Try.underlying20 rfl) rfl ?_
  refine WL.nil ?_
  refine WP.thenC ?_
  refine WC.condF rfl ?_
  refine WC.skip ?_
  refine WP.thenC ?_
  refine WC.seq ?_
  refine WC.ofFr [(0, _), (1, _)] ⟨rfl, rfl, trivial⟩ ?_
  refine WC.region ?_
  refine WL.yd (Yd.move rfl) rfl ?_
  refine WL.yd (Yd.assert Try.underlying124 (by intro _ h; cases h) rfl) rfl ?_
  refine WL.yd (Yd.move rfl) rfl ?_
  refine WL.yd (Yd.extract rfl rfl) rfl ?_
  refine WL.yd (Yd.extract rfl rfl) rfl ?_
  refine WL.so (SO.alloc Try.zeroValue124 rfl) rfl ?_
  rintro _ _ _ ⟨b4, hb4, rfl, rfl, rfl⟩ -- NEW
  refine WL.so (SO.store 0 rfl Try.sizeOf124 rfl rfl rfl rfl (Nat.le_of_ble_eq_true rfl) (oneB_spec rfl)) rfl ?_
  rintro _ _ _ ⟨rfl, rfl, rfl⟩
  refine WL.yd (Yd.assign rfl) rfl ?_
  refine WL.nil ?_
  refine WP.thenC ?_
  refine WC.seq ?_
  refine WC.seq ?_
  refine WC.ofFr [(5, _), (4, _), (0, _), (1, _)] ⟨rfl, rfl, rfl, rfl, trivial⟩ ?_
  refine WC.region ?_
  refine WL.yd (Yd.move rfl) rfl ?_
  refine WL.yd (Yd.not rfl) rfl ?_
  refine WL.nil ?_
  refine WP.thenC ?_
  refine WC.condF rfl ?_
  refine WC.skip ?_
  refine WP.thenC ?_
  refine WC.ofFr [(4, _), (1, _)] ⟨rfl, rfl, trivial⟩ ?_
  refine WC.region ?_
  refine WL.yd (Yd.move rfl) rfl ?_
  refine WL.yd (Yd.fieldAddr FA124_0 rfl) rfl ?_
  refine WL.yd (Yd.load1 Try.isAgg30 rfl (by first | exact Rd.own (k := 0) rfl rfl | exact Rd.own (k := 1) rfl rfl)) rfl ?_
  refine WL.yd (Yd.nilCheck rfl) rfl ?_
  refine WL.so (SO.store 1 rfl Try.sizeOf30 rfl rfl rfl rfl (Nat.le_of_ble_eq_true rfl) (oneB_spec rfl)) rfl ?_
  rintro _ _ _ ⟨rfl, rfl, rfl⟩
  refine WL.nil ?_
  refine WP.ret0 rfl rfl Try.results48  (fun w hI => ⟨⟨rfl, hI.keep⟩, hI.own _ _ (List.mem_of_getElem? (i := 1) rfl)⟩)

theorem idle47 (b : Nat) (w : World) : Idle Try.prog 47 [pt b] w := by
  refine callsD_of_wpS Try.func47 rfl fun c₀ cs hu => ?_
  apply wpS_region
  simp [wpOpsS, go_sem, recoverD, hu, Try.ntmps47]
  refine (stopped_nil (pt b) w).mono ?_
  rintro e w' ⟨rfl, hk⟩
  cases c₀
  simp only at hu
  subst hu
  simp [bodyPostS, results, Try.results47, hk]
theorem catch47 (b : Nat) (e v0 : Int) (t : TypeId) (w : World) (hb : w.heap[b]? = some (.cells (List.toArray [it v0]) t (0, 0))) : Catch Try.prog 47 [pt b] (.iface 124 (.agg #[it e])) b (.cells (List.toArray [it e]) t (0, 0)) w := by
  refine callsD_of_wpS Try.func47 rfl fun c₀ cs hu => ?_
  apply wpS_region
  simp [wpOpsS, go_sem, recoverD, hu, Try.ntmps47]
  refine (stopped_yes e v0 b t w hb).mono ?_
  rintro en w' ⟨⟨rfl, hk⟩, hb'⟩
  cases c₀
  simp only at hu
  subst hu
  simp [bodyPostS, results, Try.results47, hk, hb']

theorem idle56 (b : Nat) (w : World) : Idle Try.prog 56 [pt b] w := by
  refine callsD_of_wpS Try.func56 rfl fun c₀ cs hu => ?_
  apply wpS_region
  simp [wpOpsS, go_sem, recoverD, hu, Try.ntmps56]
  refine (stopped_nil (pt b) w).mono ?_
  rintro e w' ⟨rfl, hk⟩
  cases c₀
  simp only at hu
  subst hu
  simp [bodyPostS, results, Try.results56, hk]
theorem catch56 (b : Nat) (e v0 : Int) (t : TypeId) (w : World) (hb : w.heap[b]? = some (.cells (List.toArray [it v0]) t (0, 0))) : Catch Try.prog 56 [pt b] (.iface 124 (.agg #[it e])) b (.cells (List.toArray [it e]) t (0, 0)) w := by
  refine callsD_of_wpS Try.func56 rfl fun c₀ cs hu => ?_
  apply wpS_region
  simp [wpOpsS, go_sem, recoverD, hu, Try.ntmps56]
  refine (stopped_yes e v0 b t w hb).mono ?_
  rintro en w' ⟨⟨rfl, hk⟩, hb'⟩
  cases c₀
  simp only at hu
  subst hu
  simp [bodyPostS, results, Try.results56, hk, hb']

theorem idle59 (b : Nat) (w : World) : Idle Try.prog 59 [pt b] w := by
  refine callsD_of_wpS Try.func59 rfl fun c₀ cs hu => ?_
  apply wpS_region
  simp [wpOpsS, go_sem, recoverD, hu, Try.ntmps59]
  refine (stopped_nil (pt b) w).mono ?_
  rintro e w' ⟨rfl, hk⟩
  cases c₀
  simp only at hu
  subst hu
  simp [bodyPostS, results, Try.results59, hk]
theorem catch59 (b : Nat) (e v0 : Int) (t : TypeId) (w : World) (hb : w.heap[b]? = some (.cells (List.toArray [it v0]) t (0, 0))) : Catch Try.prog 59 [pt b] (.iface 124 (.agg #[it e])) b (.cells (List.toArray [it e]) t (0, 0)) w := by
  refine callsD_of_wpS Try.func59 rfl fun c₀ cs hu => ?_
  apply wpS_region
  simp [wpOpsS, go_sem, recoverD, hu, Try.ntmps59]
  refine (stopped_yes e v0 b t w hb).mono ?_
  rintro en w' ⟨⟨rfl, hk⟩, hb'⟩
  cases c₀
  simp only at hu
  subst hu
  simp [bodyPostS, results, Try.results59, hk, hb']

theorem idle60 (b : Nat) (w : World) : Idle Try.prog 60 [pt b] w := by
  refine callsD_of_wpS Try.func60 rfl fun c₀ cs hu => ?_
  apply wpS_region
  simp [wpOpsS, go_sem, recoverD, hu, Try.ntmps60]
  refine (stopped_nil (pt b) w).mono ?_
  rintro e w' ⟨rfl, hk⟩
  cases c₀
  simp only at hu
  subst hu
  simp [bodyPostS, results, Try.results60, hk]
theorem catch60 (b : Nat) (e v0 : Int) (t : TypeId) (w : World) (hb : w.heap[b]? = some (.cells (List.toArray [it v0]) t (0, 0))) : Catch Try.prog 60 [pt b] (.iface 124 (.agg #[it e])) b (.cells (List.toArray [it e]) t (0, 0)) w := by
  refine callsD_of_wpS Try.func60 rfl fun c₀ cs hu => ?_
  apply wpS_region
  simp [wpOpsS, go_sem, recoverD, hu, Try.ntmps60]
  refine (stopped_yes e v0 b t w hb).mono ?_
  rintro en w' ⟨⟨rfl, hk⟩, hb'⟩
  cases c₀
  simp only at hu
  subst hu
  simp [bodyPostS, results, Try.results60, hk, hb']

theorem idle67 (b : Nat) (w : World) : Idle Try.prog 67 [pt b] w := by
  refine callsD_of_wpS Try.func67 rfl fun c₀ cs hu => ?_
  apply wpS_region
  simp [wpOpsS, go_sem, recoverD, hu, Try.ntmps67]
  refine (stopped_nil (pt b) w).mono ?_
  rintro e w' ⟨rfl, hk⟩
  cases c₀
  simp only at hu
  subst hu
  simp [bodyPostS, results, Try.results67, hk]
theorem catch67 (b : Nat) (e v0 : Int) (t : TypeId) (w : World) (hb : w.heap[b]? = some (.cells (List.toArray [it v0]) t (0, 0))) : Catch Try.prog 67 [pt b] (.iface 124 (.agg #[it e])) b (.cells (List.toArray [it e]) t (0, 0)) w := by
  refine callsD_of_wpS Try.func67 rfl fun c₀ cs hu => ?_
  apply wpS_region
  simp [wpOpsS, go_sem, recoverD, hu, Try.ntmps67]
  refine (stopped_yes e v0 b t w hb).mono ?_
  rintro en w' ⟨⟨rfl, hk⟩, hb'⟩
  cases c₀
  simp only at hu
  subst hu
  simp [bodyPostS, results, Try.results67, hk, hb']

theorem idle70 (b : Nat) (w : World) : Idle Try.prog 70 [pt b] w := by
  refine callsD_of_wpS Try.func70 rfl fun c₀ cs hu => ?_
  apply wpS_region
  simp [wpOpsS, go_sem, recoverD, hu, Try.ntmps70]
  refine (stopped_nil (pt b) w).mono ?_
  rintro e w' ⟨rfl, hk⟩
  cases c₀
  simp only at hu
  subst hu
  simp [bodyPostS, results, Try.results70, hk]
theorem catch70 (b : Nat) (e v0 : Int) (t : TypeId) (w : World) (hb : w.heap[b]? = some (.cells (List.toArray [it v0]) t (0, 0))) : Catch Try.prog 70 [pt b] (.iface 124 (.agg #[it e])) b (.cells (List.toArray [it e]) t (0, 0)) w := by
  refine callsD_of_wpS Try.func70 rfl fun c₀ cs hu => ?_
  apply wpS_region
  simp [wpOpsS, go_sem, recoverD, hu, Try.ntmps70]
  refine (stopped_yes e v0 b t w hb).mono ?_
  rintro en w' ⟨⟨rfl, hk⟩, hb'⟩
  cases c₀
  simp only at hu
  subst hu
  simp [bodyPostS, results, Try.results70, hk, hb']

theorem idle74 (b : Nat) (w : World) : Idle Try.prog 74 [pt b] w := by
  refine callsD_of_wpS Try.func74 rfl fun c₀ cs hu => ?_
  apply wpS_region
  simp [wpOpsS, go_sem, recoverD, hu, Try.ntmps74]
  refine (stopped_nil (pt b) w).mono ?_
  rintro e w' ⟨rfl, hk⟩
  cases c₀
  simp only at hu
  subst hu
  simp [bodyPostS, results, Try.results74, hk]
theorem catch74 (b : Nat) (e v0 : Int) (t : TypeId) (w : World) (hb : w.heap[b]? = some (.cells (List.toArray [it v0]) t (0, 0))) : Catch Try.prog 74 [pt b] (.iface 124 (.agg #[it e])) b (.cells (List.toArray [it e]) t (0, 0)) w := by
  refine callsD_of_wpS Try.func74 rfl fun c₀ cs hu => ?_
  apply wpS_region
  simp [wpOpsS, go_sem, recoverD, hu, Try.ntmps74]
  refine (stopped_yes e v0 b t w hb).mono ?_
  rintro en w' ⟨⟨rfl, hk⟩, hb'⟩
  cases c₀
  simp only at hu
  subst hu
  simp [bodyPostS, results, Try.results74, hk, hb']

theorem idle82 (b : Nat) (w : World) : Idle Try.prog 82 [pt b] w := by
  refine callsD_of_wpS Try.func82 rfl fun c₀ cs hu => ?_
  apply wpS_region
  simp [wpOpsS, go_sem, recoverD, hu, Try.ntmps82]
  refine (stopped_nil (pt b) w).mono ?_
  rintro e w' ⟨rfl, hk⟩
  cases c₀
  simp only at hu
  subst hu
  simp [bodyPostS, results, Try.results82, hk]
theorem catch82 (b : Nat) (e v0 : Int) (t : TypeId) (w : World) (hb : w.heap[b]? = some (.cells (List.toArray [it v0]) t (0, 0))) : Catch Try.prog 82 [pt b] (.iface 124 (.agg #[it e])) b (.cells (List.toArray [it e]) t (0, 0)) w := by
  refine callsD_of_wpS Try.func82 rfl fun c₀ cs hu => ?_
  apply wpS_region
  simp [wpOpsS, go_sem, recoverD, hu, Try.ntmps82]
  refine (stopped_yes e v0 b t w hb).mono ?_
  rintro en w' ⟨⟨rfl, hk⟩, hb'⟩
  cases c₀
  simp only at hu
  subst hu
  simp [bodyPostS, results, Try.results82, hk, hb']

set_option maxRecDepth 100000 in
set_option maxHeartbeats 1000000 in
theorem isSpan_g (s : Sp) (w : World) : Gives Try.prog 90 [.agg #[it s.lo, it s.hi]] w (.bool (spanP s)) := by
  unfold Gives
  refine enter Try.func90 rfl 18 Try.ntmps90 (Nat.le_of_ble_eq_true rfl) (Inv.start (D := fun _ => none) (by intro _ _ h; cases h)) ?_
  refine WC.seq ?_
  refine WC.ofFr [(0, _)] ⟨rfl, trivial⟩ ?_
  refine WC.region ?_
  refine WL.so (SO.box rfl rfl) rfl ?_
  rintro _ _ _ ⟨b1, hb1, rfl, rfl, rfl⟩ -- NEW
  refine WL.yd (Yd.assign rfl) rfl ?_
  refine WL.nil ?_
  refine WP.thenC ?_
  refine WC.seq ?_
  refine WC.ofFr [(2, _), (1, _)] ⟨rfl, rfl, trivial⟩ ?_
  refine WC.region ?_
  refine WL.yd (Yd.fieldAddr FA23_0 rfl) rfl ?_
  refine WL.yd (Yd.load1 Try.isAgg3 rfl (by first | exact Rd.own (k := 0) rfl rfl)) rfl ?_
  refine WL.yd (Yd.leq rfl rfl) rfl ?_
  refine WL.yd (Yd.move rfl) rfl ?_
  refine WL.part 6 rfl (fun g6 => ?_) (fun g6 => ?_)
  · try simp only [zq1, zq2, zq3, zq4, zq5, zq6, zq7, zq8] at g6
    refine WL.ydg rfl (Yd.fieldAddr FA23_0 rfl) rfl ?_
    refine WL.ydg rfl (Yd.load1 Try.isAgg3 rfl (by first | exact Rd.own (k := 0) rfl rfl)) rfl ?_
    refine WL.ydg rfl (Yd.fieldAddr FA23_1 rfl) rfl ?_
    refine WL.ydg rfl (Yd.load1 Try.isAgg3 rfl (by first | exact Rd.own (k := 0) rfl rfl)) rfl ?_
    refine WL.ydg rfl (Yd.leq rfl rfl) rfl ?_
    refine WL.yd (Yd.pickT rfl rfl) rfl ?_
    refine WL.yd (Yd.move rfl) rfl ?_
    refine WL.part 13 rfl (fun g13 => ?_) (fun g13 => ?_)
    · try simp only [zq1, zq2, zq3, zq4, zq5, zq6, zq7, zq8] at g13
      refine WL.ydg rfl (Yd.fieldAddr FA23_1 rfl) rfl ?_
      refine WL.ydg rfl (Yd.load1 Try.isAgg3 rfl (by first | exact Rd.own (k := 0) rfl rfl)) rfl ?_
      refine WL.ydg rfl (Yd.leq rfl rfl) rfl ?_
      refine WL.yd (Yd.pickT rfl rfl) rfl ?_
      refine WL.yd (Yd.assign rfl) rfl ?_
      refine WL.nil ?_
      refine WP.thenC ?_
      refine WC.ret ?_
      refine WP.ret1 rfl rfl Try.results90 (RV.tmp rfl) (fun w hI => ⟨ret_bool (by rw [Bool.eq_iff_iff]; simp_all [spanP]; try omega), hI.keep⟩)
    · try simp only [zq1, zq2, zq3, zq4, zq5, zq6, zq7, zq8] at g13
      refine WL.skip rfl rfl ?_
      refine WL.skip rfl rfl ?_
      refine WL.skip rfl rfl ?_
      refine WL.yd (Yd.pickF rfl rfl) rfl ?_
      refine WL.yd (Yd.assign rfl) rfl ?_
      refine WL.nil ?_
      refine WP.thenC ?_
      refine WC.ret ?_
      refine WP.ret1 rfl rfl Try.results90 (RV.tmp rfl) (fun w hI => ⟨ret_bool (by rw [Bool.eq_iff_iff]; simp_all [spanP]; try omega), hI.keep⟩)
  · try simp only [zq1, zq2, zq3, zq4, zq5, zq6, zq7, zq8] at g6
    refine WL.skip rfl rfl ?_
    refine WL.skip rfl rfl ?_
    refine WL.skip rfl rfl ?_
    refine WL.skip rfl rfl ?_
    refine WL.skip rfl rfl ?_
    refine WL.yd (Yd.pickF rfl rfl) rfl ?_
    refine WL.yd (Yd.move rfl) rfl ?_
    refine WL.skip rfl rfl ?_
    refine WL.skip rfl rfl ?_
    refine WL.skip rfl rfl ?_
    refine WL.yd (Yd.pickF rfl rfl) rfl ?_
    refine WL.yd (Yd.assign rfl) rfl ?_
    refine WL.nil ?_
    refine WP.thenC ?_
    refine WC.ret ?_
    refine WP.ret1 rfl rfl Try.results90 (RV.tmp rfl) (fun w hI => ⟨ret_bool (by rw [Bool.eq_iff_iff]; simp_all [spanP]; try omega), hI.keep⟩)

set_option maxRecDepth 100000 in
set_option maxHeartbeats 1000000 in
theorem isP_g (p : Post) (a1 : Option Addr) (n1 c1 : Nat) (s2 : Value) (t : TypeId) (b : Nat) (n : Int) (w : World) (hb : w.heap[b]? = some (postO p (.slice a1 n1 c1) s2 t)) (hn : n1 = p.bathers.length) (hl : n1 ≤ 1000) : Gives Try.prog 91 [it n, pt b] w (.bool (whoP p n)) := by
  unfold Gives
  refine enter Try.func91 rfl 10 Try.ntmps91 (Nat.le_of_ble_eq_true rfl) (Inv.start (Holds.one hb)) ?_
  refine WC.seq ?_
  refine WC.ofFr [(0, _), (1, _)] ⟨rfl, rfl, trivial⟩ ?_
  refine WC.region ?_
  refine WL.yd (Yd.assign rfl) rfl ?_
  refine WL.nil ?_
  refine WP.thenC ?_
  refine WC.seq ?_
  refine WC.ofFr [(3, _), (0, _), (1, _)] ⟨rfl, rfl, rfl, trivial⟩ ?_
  refine WC.region ?_
  refine WL.yd (Yd.move rfl) rfl ?_
  refine WL.yd (Yd.fieldAddr FA27_1 rfl) rfl ?_
  refine WL.yd (Yd.load1 Try.isAgg24 rfl (by first | exact (Rd.imm (Imm.one_self _ _) (off := 2) rfl))) rfl ?_
  refine WL.yd (Yd.lenS rfl Try.underlying24 rfl) rfl ?_
  refine WL.yd (Yd.sub rfl rfl (wr64 ⟨by omega, by omega⟩)) rfl ?_
  refine WL.so (SO.callP Try.call92 rfl (fun w hI => within_g _ _ _ _)) rfl ?_
  rintro _ _ _ ⟨rfl, rfl, rfl⟩
  refine WL.yd (Yd.assign rfl) rfl ?_
  refine WL.nil ?_
  refine WP.thenC ?_
  refine WC.ret ?_
  refine WP.ret1 rfl rfl Try.results91 (RV.tmp rfl) (fun w hI => ⟨ret_bool (by subst hn; rfl), hI.keep⟩)

set_option maxRecDepth 100000 in
set_option maxHeartbeats 1000000 in
theorem notP_g (p : Post) (a1 : Option Addr) (n1 c1 : Nat) (s2 : Value) (t t2 : TypeId) (b b8 : Nat) (n : Int) (D : Imm) (w : World) (hb : D b = some (postO p (.slice a1 n1 c1) s2 t)) (h8 : D b8 = some (.cells (List.toArray [.func (.func 91) #[] #[pt b]]) t2 (0, 0))) (hn : n1 = p.bathers.length) (hl : n1 ≤ 1000) (hH : Holds D w) : Gives Try.prog 94 [it n, pt b8] w (.bool (!whoP p n)) := by
  unfold Gives
  refine enter Try.func94 rfl 8 Try.ntmps94 (Nat.le_of_ble_eq_true rfl) (Inv.start hH) ?_
  refine WC.seq ?_
  refine WC.ofFr [(0, _), (1, _)] ⟨rfl, rfl, trivial⟩ ?_
  refine WC.region ?_
  refine WL.yd (Yd.assign rfl) rfl ?_
  refine WL.nil ?_
  refine WP.thenC ?_
  refine WC.seq ?_
  refine WC.ofFr [(3, _), (0, _), (1, _)] ⟨rfl, rfl, rfl, trivial⟩ ?_
  refine WC.region ?_
  refine WL.yd (Yd.load1 Try.isAgg64 rfl (by first | exact (Rd.imm h8 rfl))) rfl ?_
  refine WL.yd (Yd.move rfl) rfl ?_
  refine WL.so (SO.call (Enters.val Try.call91 rfl rfl) (fun w hI => isP_g p a1 n1 c1 s2 t b n _ (hI.imm _ _ hb) hn hl)) rfl ?_
  rintro _ _ _ ⟨rfl, rfl, rfl⟩
  refine WL.yd (Yd.not rfl) rfl ?_
  refine WL.yd (Yd.assign rfl) rfl ?_
  refine WL.nil ?_
  refine WP.thenC ?_
  refine WC.ret ?_
  refine WP.ret1 rfl rfl Try.results94 (RV.tmp rfl) (fun w hI => ⟨rfl, hI.keep⟩)

def indI (bad : Int → Bool) (l : List Int) : Nat → Nat → Int
  | _, 0 => -1
  | i, n + 1 => if bad (gt l i) then (i : Int) else indI bad l (i + 1) n
theorem indI_ge (bad : Int → Bool) (l : List Int) : ∀ n i, 0 ≤ indI bad l i n ↔ ∃ j, i ≤ j ∧ j < i + n ∧ bad (gt l j) = true := by
  intro n
  induction n with
  | zero => intro i; simp [indI]; intro j h1 h2; omega
  | succ n ih =>
    intro i
    unfold indI
    by_cases h : bad (gt l i) = true
    · rw [if_pos h]
      exact ⟨fun _ => ⟨i, Nat.le_refl _, by omega, h⟩, fun _ => by omega⟩
    · rw [if_neg h, ih]
      constructor
      · rintro ⟨j, h1, h2, h3⟩; exact ⟨j, by omega, by omega, h3⟩
      · rintro ⟨j, h1, h2, h3⟩
        by_cases e : j = i
        · subst e; exact absurd h3 h
        · exact ⟨j, by omega, by omega, h3⟩
theorem indI_any (bad : Int → Bool) (l : List Int) : decide (0 ≤ indI bad l 0 l.length) = l.any bad := by
  rw [Bool.eq_iff_iff, decide_eq_true_eq, indI_ge, List.any_eq_true]
  constructor
  · rintro ⟨j, _, h2, h3⟩; exact ⟨gt l j, gt_mem (by omega), h3⟩
  · rintro ⟨x, hx, h3⟩
    obtain ⟨i, hi, rfl⟩ := List.getElem_of_mem hx
    exact ⟨i, by omega, by omega, by simpa [gt, List.getD, hi] using h3⟩

set_option maxRecDepth 100000 in
set_option maxHeartbeats 1000000 in
theorem index_g (D : Imm) (w : World) (hH : Holds D w) (l : List Int) (a3 : Option Addr) (n3 c3 : Nat) (hS : SlL D 1 (l.map intC) a3 n3) (hl3 : n3 ≤ 1000) (fi : FuncId) (cap : List Value) (hfi : ∀ args w, (callFunc fi args).run Try.prog w = .ok (.enter fi args) w) (bad : Int → Bool) (hF : ∀ w', Holds D w' → ∀ i, i < l.length → Gives Try.prog fi (it (gt l i) :: cap) w' (.bool (bad (gt l i)))) : Gives Try.prog 110 [.slice a3 n3 c3, .func (.func fi) #[] cap.toArray] w (it (indI bad l 0 l.length)) := by
  unfold Gives
  obtain rfl := hS.len'
  refine enter Try.func110 rfl 19 Try.ntmps110 (Nat.le_of_ble_eq_true rfl) (Inv.start hH) ?_
  refine WC.seq ?_
  refine WC.ofFr [(0, _), (1, _)] ⟨rfl, rfl, trivial⟩ ?_
  refine WC.region ?_
  refine WL.yd (Yd.assign rfl) rfl ?_
  refine WL.nil ?_
  refine WP.thenC ?_
  refine WC.seq ?_
  refine WC.seq ?_
  refine WC.ofFr [(4, _), (0, _), (1, _)] ⟨rfl, rfl, rfl, trivial⟩ ?_
  refine WC.region ?_
  refine WL.yd (Yd.move rfl) rfl ?_
  refine WL.yd (Yd.lenS rfl Try.underlying52 rfl) rfl ?_
  refine WL.yd (Yd.move rfl) rfl ?_
  refine WL.nil ?_
  refine WP.thenC ?_
  refine WC.block ?_
  refine WC.loopF (fun k : Nat => [(0, .slice a3 l.length c3), (1, .func (.func fi) #[] cap.toArray), (7, nt l.length), (8, nt k)]) (fun k => k ≤ l.length ∧ indI bad l 0 l.length = indI bad l k (l.length - k)) (fun k => l.length - k) 0 ⟨by omega, rfl⟩ (by exact ⟨rfl, rfl, rfl, rfl, trivial⟩) ?_
  intro k ⟨hk, hd⟩
  refine WC.seq ?_
  refine WC.ofFr [(0, _), (1, _), (7, _), (8, _)] ⟨rfl, rfl, rfl, rfl, trivial⟩ ?_
  refine WC.region ?_
  refine WL.yd (Yd.lss rfl rfl) rfl ?_
  refine WL.nil ?_
  refine WP.thenC ?_
  refine WC.seq ?_
  refine WC.cond rfl (fun c9 => ?_) (fun c9 => ?_)
  · try simp only [zq1, zq2, zq3, zq4, zq5, zq6, zq7, zq8] at c9
    refine WC.skip ?_
    refine WP.thenC ?_
    refine WC.seq ?_
    refine WC.block ?_
    refine WC.seq ?_
    refine WC.ofFr [(0, _), (1, _), (7, _), (8, _)] ⟨rfl, rfl, rfl, rfl, trivial⟩ ?_
    refine WC.region ?_
    refine WL.yd (Yd.move rfl) rfl ?_
    refine WL.yd (Yd.assign rfl) rfl ?_
    refine WL.nil ?_
    refine WP.thenC ?_
    refine WC.seq ?_
    refine WC.ofFr [(5, _), (0, _), (1, _), (7, _), (8, _)] ⟨rfl, rfl, rfl, rfl, rfl, trivial⟩ ?_
    refine WC.region ?_
    refine WL.yd (Yd.move rfl) rfl ?_
    refine WL.yd (Yd.move rfl) rfl ?_
    refine WL.yd (Yd.move rfl) rfl ?_
    refine WL.yd (Yd.indexS Try.underlying52 Try.sizeOf3 rfl rfl (by omega) (by omega) (by first | exact hS.addr k (by omega))) rfl ?_
    refine WL.yd (Yd.load1 Try.isAgg3 rfl (by first | exact (hS.at k (by omega)).rd 0 rfl)) rfl ?_
    refine WL.so (SO.call (Enters.val hfi rfl rfl) (fun w hI => hF w hI.imm k (by omega))) rfl ?_
    rintro _ _ _ ⟨rfl, rfl, rfl⟩
    refine WL.nil ?_
    refine WP.thenC ?_
    refine WC.cond rfl (fun c16 => ?_) (fun c16 => ?_)
    · try simp only [zq1, zq2, zq3, zq4, zq5, zq6, zq7, zq8] at c16
      refine WC.seq ?_
      refine WC.ofFr [(5, _), (0, _), (1, _), (7, _), (8, _)] ⟨rfl, rfl, rfl, rfl, rfl, trivial⟩ ?_
      refine WC.region ?_
      refine WL.yd (Yd.move rfl) rfl ?_
      refine WL.yd (Yd.assign rfl) rfl ?_
      refine WL.nil ?_
      refine WP.thenC ?_
      refine WC.ret ?_
      refine WP.blkRet ?_
      refine WP.thenRet ?_
      refine WP.thenRet ?_
      refine WP.blkRet ?_
      refine WP.thenRet ?_
      refine WP.ret1 rfl rfl Try.results110 (RV.tmp rfl) (fun w hI => ⟨ret_int (by
              rw [hd]
              first
                | (rw [show l.length - k = (l.length - (k + 1)) + 1 by omega, indI, if_pos c16]; done)
                | (rw [show l.length - k = 0 by omega]; rfl)), hI.keep⟩)
    · try simp only [zq1, zq2, zq3, zq4, zq5, zq6, zq7, zq8] at c16
      refine WC.skip ?_
      refine WP.blkNormal ?_
      refine WP.thenC ?_
      refine WC.ofFr [(0, _), (1, _), (7, _), (8, _)] ⟨rfl, rfl, rfl, rfl, trivial⟩ ?_
      refine WC.region ?_
      refine WL.yd (Yd.add rfl rfl (wr64 ⟨by omega, by omega⟩)) rfl ?_
      refine WL.yd (Yd.move rfl) rfl ?_
      refine WL.nil ?_
      exact WP.againF (k + 1) ⟨by omega, by rw [hd, show l.length - k = (l.length - (k + 1)) + 1 by omega, indI, if_neg (by rw [c16]; simp)]⟩ (by omega) ⟨rfl, rfl, rfl, rfl, trivial⟩ (fun _ h => h) (fun h => h)
  · try simp only [zq1, zq2, zq3, zq4, zq5, zq6, zq7, zq8] at c9
    refine WC.exit ?_
    refine WP.thenExit ?_
    refine WP.thenExit ?_
    refine WP.blkHit ?_
    refine WP.thenC ?_
    refine WC.seq ?_
    refine WC.ofFr [] trivial ?_
    refine WC.region ?_
    refine WL.yd (Yd.assign rfl) rfl ?_
    refine WL.nil ?_
    refine WP.thenC ?_
    refine WC.ret ?_
    refine WP.ret1 rfl rfl Try.results110 (RV.tmp rfl) (fun w hI => ⟨ret_int (by
            rw [hd]
            first
              | (rw [show l.length - k = (l.length - (k + 1)) + 1 by omega, indI, if_pos c16]; done)
              | (rw [show l.length - k = 0 by omega]; rfl)), hI.keep⟩)

set_option maxRecDepth 100000 in
set_option maxHeartbeats 1000000 in
theorem contains_g (D : Imm) (w : World) (hH : Holds D w) (l : List Int) (a3 : Option Addr) (n3 c3 : Nat) (hS : SlL D 1 (l.map intC) a3 n3) (hl3 : n3 ≤ 1000) (fi : FuncId) (cap : List Value) (hfi : ∀ args w, (callFunc fi args).run Try.prog w = .ok (.enter fi args) w) (bad : Int → Bool) (hF : ∀ w', Holds D w' → ∀ i, i < l.length → Gives Try.prog fi (it (gt l i) :: cap) w' (.bool (bad (gt l i)))) : Gives Try.prog 93 [.slice a3 n3 c3, .func (.func fi) #[] cap.toArray] w (.bool (l.any bad)) := by
  unfold Gives
  refine enter Try.func93 rfl 9 Try.ntmps93 (Nat.le_of_ble_eq_true rfl) (Inv.start hH) ?_
  refine WC.seq ?_
  refine WC.ofFr [(0, _), (1, _)] ⟨rfl, rfl, trivial⟩ ?_
  refine WC.region ?_
  refine WL.yd (Yd.assign rfl) rfl ?_
  refine WL.nil ?_
  refine WP.thenC ?_
  refine WC.seq ?_
  refine WC.ofFr [(4, _), (0, _), (1, _)] ⟨rfl, rfl, rfl, trivial⟩ ?_
  refine WC.region ?_
  refine WL.yd (Yd.move rfl) rfl ?_
  refine WL.yd (Yd.move rfl) rfl ?_
  refine WL.so (SO.callP Try.call110 rfl (fun w hI => index_g D _ hI.imm l a3 n3 c3 hS hl3 fi cap hfi bad hF)) rfl ?_
  rintro _ _ _ ⟨rfl, rfl, rfl⟩
  refine WL.yd (Yd.geq rfl rfl) rfl ?_
  refine WL.yd (Yd.assign rfl) rfl ?_
  refine WL.nil ?_
  refine WP.thenC ?_
  refine WC.ret ?_
  refine WP.ret1 rfl rfl Try.results93 (RV.tmp rfl) (fun w hI => ⟨ret_bool (indI_any bad l), hI.keep⟩)

end Go.Proofs.Ytkhmmefgllbobaa
namespace Go.Proofs.Ytkhmmefgllbobaa
open Go.W Go.Po
theorem FA27_0 : FieldAt Try.prog 27 0 0 := FieldAt.mk (t := 23) (off := 0) Try.underlying27 rfl Try.sizeOf23 (by decide)
theorem FA27_2 : FieldAt Try.prog 27 2 3 := FieldAt.mk (t := 25) (off := 3) Try.underlying27 rfl Try.sizeOf25 (by decide)
theorem FA47_0 : FieldAt Try.prog 47 0 0 := FieldAt.mk (t := 3) (off := 0) Try.underlying47 rfl Try.sizeOf3 (by decide)
theorem FA47_1 : FieldAt Try.prog 47 1 1 := FieldAt.mk (t := 3) (off := 1) Try.underlying47 rfl Try.sizeOf3 (by decide)
theorem FA56_1 : FieldAt Try.prog 56 1 1 := FieldAt.mk (t := 23) (off := 1) Try.underlying56 rfl Try.sizeOf23 (by decide)
theorem SA94 : StructAt Try.prog 94 [.int .i64 0, .int .i64 0, .slice none 0 0, .slice none 0 0] [(0, 4)] := ⟨⟨_, Try.zeroValue94, rfl⟩, _, Try.underlying94, fun w => by simp [Try.sizeOf27]⟩
def OpenR (p : Post) (s1 s2 : Value) (l : List Int) (D : Imm) (w : World) (e : Ending) (w' : World) : Prop :=
  (postB p = false → e = .panicked (stopC 1) ∧ Keep [] w w') ∧ (postB p = true → l.all (whoP p) = false → e = .panicked (stopC 2) ∧ Keep [] w w') ∧
  (postB p = true → l.all (whoP p) = true → ∃ b D', e = .returned (pt b) ∧ Keep [] w w' ∧ Holds D' w' ∧ DExt w D D' ∧ BeachAt D' b p s1 s2)
theorem any_not {α : Type} (f : α → Bool) (l : List α) : l.any (fun x => !f x) = !l.all f := by
  induction l with
  | nil => rfl
  | cons x l ih => simp [ih]

set_option maxRecDepth 100000 in
set_option maxHeartbeats 1000000 in
theorem open_g (p : Post) (a1 : Option Addr) (n1 c1 : Nat) (a2 : Option Addr) (n2 c2 : Nat) (D : Imm) (w : World) (hR : PostR D p a1 n1 a2 n2) (hH : Holds D w) (l : List Int) (a3 : Option Addr) (n3 c3 : Nat) (hS : SlL D 1 (l.map intC) a3 n3) (hl3 : n3 ≤ 1000) : Calls Try.prog 49 (List.toArray [.agg #[it p.post.lo, it p.post.hi, .slice a1 n1 c1, .slice a2 n2 c2], .slice a3 n3 c3]) w fun e w' => OpenR p (.slice a1 n1 c1) (.slice a2 n2 c2) l D w e w' := by
  obtain rfl := hR.bath.len'
  obtain rfl := hR.claim.len'
  have hl1 := hR.len1
  have hl2 := hR.len2
  refine enter Try.func49 rfl 68 Try.ntmps49 (Nat.le_of_ble_eq_true rfl) (Inv.start hH) ?_
  refine WC.seq ?_
  refine WC.ofFr [(0, _), (1, _)] ⟨rfl, rfl, trivial⟩ ?_
  refine WC.region ?_
  refine WL.so (SO.box rfl rfl) rfl ?_
  rintro _ _ _ ⟨b2, hb2, rfl, rfl, rfl⟩ -- NEW
  refine WL.yd (Yd.assign rfl) rfl ?_
  refine WL.nil ?_
  refine WP.thenC ?_
  refine WC.seq ?_
  refine WC.ofFr [(4, _), (2, _), (1, _)] ⟨rfl, rfl, rfl, trivial⟩ ?_
  refine WC.region ?_
  refine WL.yd (Yd.loadN Try.isAgg27 Try.sizeOf27 rfl (vs := [_, _, _, _]) rfl (by first | exact RdN.own (k := 0) (n := 4) rfl rfl | exact (hR.bath.at k (by omega)).rdn 0 3 rfl | exact (hR.claim.at k (by omega)).rdn 0 3 rfl)) rfl ?_
  refine WL.yd (Yd.build SA94 rfl (cs := [_, _, _, _]) rfl) rfl ?_
  refine WL.so (SO.box rfl rfl) rfl ?_
  rintro _ _ _ ⟨b13, hb13, rfl, rfl, rfl⟩ -- NEW
  refine WL.yd (Yd.assign rfl) rfl ?_
  refine WL.nil ?_
  refine WP.thenC ?_
  refine WC.seq ?_
  refine WC.ofFr [(5, _), (4, _), (2, _), (1, _)] ⟨rfl, rfl, rfl, rfl, trivial⟩ ?_
  refine WC.region ?_
  refine WL.yd (Yd.fieldAddr FA27_0 rfl) rfl ?_
  refine WL.yd (Yd.loadN Try.isAgg23 Try.sizeOf23 rfl (vs := [_, _]) rfl (by first | exact RdN.own (k := 0) (n := 2) rfl rfl | exact RdN.own (k := 1) (n := 2) rfl rfl | exact (hR.bath.at k (by omega)).rdn 0 3 rfl | exact (hR.claim.at k (by omega)).rdn 0 3 rfl)) rfl ?_
  refine WL.so (SO.callP Try.call90 rfl (fun w hI => isSpan_g ⟨_, _⟩ _)) rfl ?_
  rintro _ _ _ ⟨rfl, rfl, rfl⟩
  refine WL.yd (Yd.move rfl) rfl ?_
  refine WL.part 17 rfl (fun g17 => ?_) (fun g17 => ?_)
  · try simp only [zq1, zq2, zq3, zq4, zq5, zq6, zq7, zq8] at g17
    refine WL.ydg rfl (Yd.fieldAddr FA27_1 rfl) rfl ?_
    refine WL.ydg rfl (Yd.load1 Try.isAgg24 rfl (by first | exact Rd.own (k := 0) rfl rfl | exact Rd.own (k := 1) rfl rfl)) rfl ?_
    refine WL.ydg rfl (Yd.lenS rfl Try.underlying24 rfl) rfl ?_
    refine WL.ydg rfl (Yd.leq rfl rfl) rfl ?_
    refine WL.yd (Yd.pickT rfl rfl) rfl ?_
    refine WL.yd (Yd.move rfl) rfl ?_
    refine WL.part 23 rfl (fun g23 => ?_) (fun g23 => ?_)
    · try simp only [zq1, zq2, zq3, zq4, zq5, zq6, zq7, zq8] at g23
      refine WL.ydg rfl (Yd.fieldAddr FA27_2 rfl) rfl ?_
      refine WL.ydg rfl (Yd.load1 Try.isAgg25 rfl (by first | exact Rd.own (k := 0) rfl rfl | exact Rd.own (k := 1) rfl rfl)) rfl ?_
      refine WL.ydg rfl (Yd.lenS rfl Try.underlying25 rfl) rfl ?_
      refine WL.ydg rfl (Yd.leq rfl rfl) rfl ?_
      refine WL.yd (Yd.pickT rfl rfl) rfl ?_
      refine WL.part 28 rfl (fun g28 => ?_) (fun g28 => ?_)
      · try simp only [zq1, zq2, zq3, zq4, zq5, zq6, zq7, zq8] at g28
        refine WL.so (SO.call (Enters.func Try.call83 rfl) (fun w hI => must_ok _ _)) rfl ?_
        rintro _ _ _ ⟨rfl, rfl, rfl⟩
        refine WL.nil ?_
        refine WP.thenC ?_
        refine WC.seq ?_
        refine WC.seq ?_
        refine WC.ofFr [(5, _), (4, _), (2, _), (1, _)] ⟨rfl, rfl, rfl, rfl, trivial⟩ ?_
        refine WC.region ?_
        refine WL.yd (Yd.fieldAddr FA27_1 rfl) rfl ?_
        refine WL.yd (Yd.load1 Try.isAgg24 rfl (by first | exact Rd.own (k := 0) rfl rfl | exact Rd.own (k := 1) rfl rfl)) rfl ?_
        refine WL.yd (Yd.lenS rfl Try.underlying24 rfl) rfl ?_
        refine WL.yd (Yd.move rfl) rfl ?_
        refine WL.nil ?_
        refine WP.thenC ?_
        refine WC.block ?_
        refine WC.loopF (fun k : Nat => [(1, .slice a3 n3 c3), (2, pt b2), (5, pt b13), (31, .slice a1 p.bathers.length c1), (32, nt p.bathers.length), (33, nt k)]) (fun k => k ≤ p.bathers.length ∧ ∀ i, i < k → spanP (gt p.bathers i).place = true) (fun k => p.bathers.length - k) 0 ⟨by omega, by intro i hi; omega⟩ (by exact ⟨rfl, rfl, rfl, rfl, rfl, rfl, trivial⟩) ?_
        intro k ⟨hk, hd⟩
        refine WC.seq ?_
        refine WC.ofFr [(1, _), (2, _), (5, _), (31, _), (32, _), (33, _)] ⟨rfl, rfl, rfl, rfl, rfl, rfl, trivial⟩ ?_
        refine WC.region ?_
        refine WL.yd (Yd.lss rfl rfl) rfl ?_
        refine WL.nil ?_
        refine WP.thenC ?_
        refine WC.seq ?_
        refine WC.cond rfl (fun c34 => ?_) (fun c34 => ?_)
        · try simp only [zq1, zq2, zq3, zq4, zq5, zq6, zq7, zq8] at c34
          refine WC.skip ?_
          refine WP.thenC ?_
          refine WC.seq ?_
          refine WC.block ?_
          refine WC.seq ?_
          refine WC.ofFr [(1, _), (2, _), (5, _), (31, _), (32, _), (33, _)] ⟨rfl, rfl, rfl, rfl, rfl, rfl, trivial⟩ ?_
          refine WC.region ?_
          refine WL.yd (Yd.indexS Try.underlying24 Try.sizeOf56 rfl rfl (by omega) (by omega) (by first | exact hR.bath.addr k (by omega) | exact hR.claim.addr k (by omega))) rfl ?_
          refine WL.yd (Yd.loadN Try.isAgg56 Try.sizeOf56 rfl (vs := [_, _, _]) rfl (by first | exact RdN.own (k := 0) (n := 3) rfl rfl | exact RdN.own (k := 1) (n := 3) rfl rfl | exact (hR.bath.at k (by omega)).rdn 0 3 rfl | exact (hR.claim.at k (by omega)).rdn 0 3 rfl)) rfl ?_
          refine WL.so (SO.alloc Try.zeroValue56 rfl) rfl ?_
          rintro _ _ _ ⟨b7, hb7, rfl, rfl, rfl⟩ -- NEW
          refine WL.so (SO.store 0 rfl Try.sizeOf56 rfl rfl rfl rfl (Nat.le_of_ble_eq_true rfl) (oneB_spec rfl)) rfl ?_
          rintro _ _ _ ⟨rfl, rfl, rfl⟩
          refine WL.nil ?_
          refine WP.thenC ?_
          refine WC.ofFr [(7, _), (1, _), (2, _), (5, _), (31, _), (32, _), (33, _)] ⟨rfl, rfl, rfl, rfl, rfl, rfl, rfl, trivial⟩ ?_
          refine WC.region ?_
          refine WL.yd (Yd.fieldAddr FA56_1 rfl) rfl ?_
          refine WL.yd (Yd.loadN Try.isAgg23 Try.sizeOf23 rfl (vs := [_, _]) rfl (by first | exact RdN.own (k := 0) (n := 2) rfl rfl | exact RdN.own (k := 1) (n := 2) rfl rfl | exact RdN.own (k := 2) (n := 2) rfl rfl | exact (hR.bath.at k (by omega)).rdn 0 3 rfl | exact (hR.claim.at k (by omega)).rdn 0 3 rfl)) rfl ?_
          refine WL.so (SO.callP Try.call90 rfl (fun w hI => isSpan_g ⟨_, _⟩ _)) rfl ?_
          rintro _ _ _ ⟨rfl, rfl, rfl⟩
          refine WL.part 39 rfl (fun g39 => ?_) (fun g39 => ?_)
          · try simp only [zq1, zq2, zq3, zq4, zq5, zq6, zq7, zq8] at g39
            refine WL.so (SO.call (Enters.func Try.call83 rfl) (fun w hI => must_ok _ _)) rfl ?_
            rintro _ _ _ ⟨rfl, rfl, rfl⟩
            refine WL.nil ?_
            refine WP.blkNormal ?_
            refine WP.thenC ?_
            refine WC.ofFr [(1, _), (2, _), (5, _), (31, _), (32, _), (33, _)] ⟨rfl, rfl, rfl, rfl, rfl, rfl, trivial⟩ ?_
            refine WC.region ?_
            refine WL.yd (Yd.add rfl rfl (wr64 ⟨by omega, by omega⟩)) rfl ?_
            refine WL.yd (Yd.move rfl) rfl ?_
            refine WL.nil ?_
            exact WP.againF (k + 1) ⟨by omega, ext_round hd (by assumption)⟩ (by omega) ⟨rfl, rfl, rfl, rfl, rfl, rfl, trivial⟩ (fun _ h => List.mem_cons_of_mem _ h) (fun h => (List.nodup_cons.1 h).2)
          · try simp only [zq1, zq2, zq3, zq4, zq5, zq6, zq7, zq8] at g39
            refine WL.no (SO.fail (Enters.func Try.call83 rfl) (fun w hI => must_no _ _) ?_)
            refine WP.blkPanic ?_
            refine WP.thenPanic ?_
            refine WP.thenPanic ?_
            refine WP.blkPanic ?_
            refine WP.thenPanic ?_
            first
              | exact WP.panicBody rfl (fun w hI => ⟨fun h => absurd (hok.symm.trans h) (by decide), fun _ _ => ⟨rfl, hI.keep⟩, fun _ h => by rw [any_not, h] at g65; cases g65⟩)
              | (refine WP.panicBody rfl (fun w hI => ?_)
                 have hno : postB p = false := by
                   cases hdb : postB p with
                   | false => rfl
                   | true =>
                     exfalso
                     obtain ⟨h1, h2, h3, h4, h5⟩ := (postB_iff p).1 hdb
                     first | omega | (rw [h1] at g17; cases g17; done) | (have := h4 k (by omega); simp_all; done) | (have := h5 k (by omega); simp_all [claimP]; done)
                 exact ⟨fun _ => ⟨rfl, hI.keep⟩, fun h => absurd (hno.symm.trans h) (by decide), fun h => absurd (hno.symm.trans h) (by decide)⟩)
        · try simp only [zq1, zq2, zq3, zq4, zq5, zq6, zq7, zq8] at c34
          refine WC.exit ?_
          refine WP.thenExit ?_
          refine WP.thenExit ?_
          refine WP.blkHit ?_
          refine WP.thenC ?_
          refine WC.seq ?_
          refine WC.ofFr [(1, _), (2, _), (5, _)] ⟨rfl, rfl, rfl, trivial⟩ ?_
          refine WC.region ?_
          refine WL.yd (Yd.func rfl rfl) rfl ?_
          refine WL.so (SO.alloc Try.zeroValue64 rfl) rfl ?_
          rintro _ _ _ ⟨b8, hb8, rfl, rfl, rfl⟩ -- NEW
          refine WL.so (SO.store 0 rfl Try.sizeOf64 rfl rfl rfl rfl (Nat.le_of_ble_eq_true rfl) (oneB_spec rfl)) rfl ?_
          rintro _ _ _ ⟨rfl, rfl, rfl⟩
          refine WL.nil ?_
          refine WP.thenC ?_
          refine WC.seq ?_
          refine WC.seq ?_
          refine WC.ofFr [(8, _), (1, _), (2, _), (5, _)] ⟨rfl, rfl, rfl, rfl, trivial⟩ ?_
          refine WC.region ?_
          refine WL.yd (Yd.fieldAddr FA27_2 rfl) rfl ?_
          refine WL.yd (Yd.load1 Try.isAgg25 rfl (by first | exact Rd.own (k := 0) rfl rfl | exact Rd.own (k := 1) rfl rfl | exact Rd.own (k := 2) rfl rfl)) rfl ?_
          refine WL.yd (Yd.lenS rfl Try.underlying25 rfl) rfl ?_
          refine WL.yd (Yd.move rfl) rfl ?_
          refine WL.nil ?_
          refine WP.thenC ?_
          refine WC.block ?_
          have hd2 : ∀ i, i < p.bathers.length → spanP (gt p.bathers i).place = true := fun i hi => hd i (by omega)
          clear hd hk c34 k
          refine WC.loopF (fun k : Nat => [(1, .slice a3 n3 c3), (2, pt b2), (5, pt b13), (8, pt b8), (44, .slice a2 p.claims.length c2), (45, nt p.claims.length), (46, nt k)]) (fun k => k ≤ p.claims.length ∧ ∀ i, i < k → claimP p (gt p.claims i) = true) (fun k => p.claims.length - k) 0 ⟨by omega, by intro i hi; omega⟩ (by exact ⟨rfl, rfl, rfl, rfl, rfl, rfl, rfl, trivial⟩) ?_
          intro k ⟨hk, hd⟩
          refine WC.seq ?_
          refine WC.ofFr [(1, _), (2, _), (5, _), (8, _), (44, _), (45, _), (46, _)] ⟨rfl, rfl, rfl, rfl, rfl, rfl, rfl, trivial⟩ ?_
          refine WC.region ?_
          refine WL.yd (Yd.lss rfl rfl) rfl ?_
          refine WL.nil ?_
          refine WP.thenC ?_
          refine WC.seq ?_
          refine WC.cond rfl (fun c47 => ?_) (fun c47 => ?_)
          · try simp only [zq1, zq2, zq3, zq4, zq5, zq6, zq7, zq8] at c47
            refine WC.skip ?_
            refine WP.thenC ?_
            refine WC.seq ?_
            refine WC.block ?_
            refine WC.seq ?_
            refine WC.ofFr [(1, _), (2, _), (5, _), (8, _), (44, _), (45, _), (46, _)] ⟨rfl, rfl, rfl, rfl, rfl, rfl, rfl, trivial⟩ ?_
            refine WC.region ?_
            refine WL.yd (Yd.indexS Try.underlying25 Try.sizeOf47 rfl rfl (by omega) (by omega) (by first | exact hR.bath.addr k (by omega) | exact hR.claim.addr k (by omega))) rfl ?_
            refine WL.yd (Yd.loadN Try.isAgg47 Try.sizeOf47 rfl (vs := [_, _, _]) rfl (by first | exact RdN.own (k := 0) (n := 3) rfl rfl | exact RdN.own (k := 1) (n := 3) rfl rfl | exact RdN.own (k := 2) (n := 3) rfl rfl | exact (hR.bath.at k (by omega)).rdn 0 3 rfl | exact (hR.claim.at k (by omega)).rdn 0 3 rfl)) rfl ?_
            refine WL.so (SO.alloc Try.zeroValue47 rfl) rfl ?_
            rintro _ _ _ ⟨b10, hb10, rfl, rfl, rfl⟩ -- NEW
            refine WL.so (SO.store 0 rfl Try.sizeOf47 rfl rfl rfl rfl (Nat.le_of_ble_eq_true rfl) (oneB_spec rfl)) rfl ?_
            rintro _ _ _ ⟨rfl, rfl, rfl⟩
            refine WL.nil ?_
            refine WP.thenC ?_
            refine WC.ofFr [(10, _), (1, _), (2, _), (5, _), (8, _), (44, _), (45, _), (46, _)] ⟨rfl, rfl, rfl, rfl, rfl, rfl, rfl, rfl, trivial⟩ ?_
            refine WC.region ?_
            refine WL.yd (Yd.load1 Try.isAgg64 rfl (by first | exact Rd.own (k := 0) rfl rfl | exact Rd.own (k := 1) rfl rfl | exact Rd.own (k := 2) rfl rfl | exact Rd.own (k := 3) rfl rfl)) rfl ?_
            refine WL.yd (Yd.fieldAddr FA47_0 rfl) rfl ?_
            refine WL.yd (Yd.load1 Try.isAgg3 rfl (by first | exact Rd.own (k := 0) rfl rfl | exact Rd.own (k := 1) rfl rfl | exact Rd.own (k := 2) rfl rfl | exact Rd.own (k := 3) rfl rfl)) rfl ?_
            refine WL.so (SO.call (Enters.val Try.call91 rfl rfl) (fun w hI => isP_g p a1 _ c1 _ _ b2 _ _ (hI.own _ _ (List.mem_of_getElem? (i := 3) rfl)) rfl hl1)) rfl ?_
            rintro _ _ _ ⟨rfl, rfl, rfl⟩
            refine WL.yd (Yd.move rfl) rfl ?_
            refine WL.part 54 rfl (fun g54 => ?_) (fun g54 => ?_)
            · try simp only [zq1, zq2, zq3, zq4, zq5, zq6, zq7, zq8] at g54
              refine WL.ydg rfl (Yd.load1 Try.isAgg64 rfl (by first | exact Rd.own (k := 0) rfl rfl | exact Rd.own (k := 1) rfl rfl | exact Rd.own (k := 2) rfl rfl | exact Rd.own (k := 3) rfl rfl)) rfl ?_
              refine WL.ydg rfl (Yd.fieldAddr FA47_1 rfl) rfl ?_
              refine WL.ydg rfl (Yd.load1 Try.isAgg3 rfl (by first | exact Rd.own (k := 0) rfl rfl | exact Rd.own (k := 1) rfl rfl | exact Rd.own (k := 2) rfl rfl | exact Rd.own (k := 3) rfl rfl)) rfl ?_
              refine WL.sog rfl (SO.call (Enters.val Try.call91 rfl rfl) (fun w hI => isP_g p a1 _ c1 _ _ b2 _ _ (hI.own _ _ (List.mem_of_getElem? (i := 3) rfl)) rfl hl1)) rfl ?_
              rintro _ _ _ ⟨rfl, rfl, rfl⟩
              refine WL.yd (Yd.pickT rfl rfl) rfl ?_
              refine WL.part 59 rfl (fun g59 => ?_) (fun g59 => ?_)
              · try simp only [zq1, zq2, zq3, zq4, zq5, zq6, zq7, zq8] at g59
                refine WL.so (SO.call (Enters.func Try.call83 rfl) (fun w hI => must_ok _ _)) rfl ?_
                rintro _ _ _ ⟨rfl, rfl, rfl⟩
                refine WL.nil ?_
                refine WP.blkNormal ?_
                refine WP.thenC ?_
                refine WC.ofFr [(1, _), (2, _), (5, _), (8, _), (44, _), (45, _), (46, _)] ⟨rfl, rfl, rfl, rfl, rfl, rfl, rfl, trivial⟩ ?_
                refine WC.region ?_
                refine WL.yd (Yd.add rfl rfl (wr64 ⟨by omega, by omega⟩)) rfl ?_
                refine WL.yd (Yd.move rfl) rfl ?_
                refine WL.nil ?_
                exact WP.againF (k + 1) ⟨by omega, ext_round hd (by simp_all [claimP])⟩ (by omega) ⟨rfl, rfl, rfl, rfl, rfl, rfl, rfl, trivial⟩ (fun _ h => List.mem_cons_of_mem _ h) (fun h => (List.nodup_cons.1 h).2)
              · try simp only [zq1, zq2, zq3, zq4, zq5, zq6, zq7, zq8] at g59
                refine WL.no (SO.fail (Enters.func Try.call83 rfl) (fun w hI => must_no _ _) ?_)
                refine WP.blkPanic ?_
                refine WP.thenPanic ?_
                refine WP.thenPanic ?_
                refine WP.blkPanic ?_
                refine WP.thenPanic ?_
                first
                  | exact WP.panicBody rfl (fun w hI => ⟨fun h => absurd (hok.symm.trans h) (by decide), fun _ _ => ⟨rfl, hI.keep⟩, fun _ h => by rw [any_not, h] at g65; cases g65⟩)
                  | (refine WP.panicBody rfl (fun w hI => ?_)
                     have hno : postB p = false := by
                       cases hdb : postB p with
                       | false => rfl
                       | true =>
                         exfalso
                         obtain ⟨h1, h2, h3, h4, h5⟩ := (postB_iff p).1 hdb
                         first | omega | (rw [h1] at g17; cases g17; done) | (have := h4 k (by omega); simp_all; done) | (have := h5 k (by omega); simp_all [claimP]; done)
                     exact ⟨fun _ => ⟨rfl, hI.keep⟩, fun h => absurd (hno.symm.trans h) (by decide), fun h => absurd (hno.symm.trans h) (by decide)⟩)
            · try simp only [zq1, zq2, zq3, zq4, zq5, zq6, zq7, zq8] at g54
              refine WL.skip rfl rfl ?_
              refine WL.skip rfl rfl ?_
              refine WL.skip rfl rfl ?_
              refine WL.skip rfl rfl ?_
              refine WL.yd (Yd.pickF rfl rfl) rfl ?_
              refine WL.no (SO.fail (Enters.func Try.call83 rfl) (fun w hI => must_no _ _) ?_)
              refine WP.blkPanic ?_
              refine WP.thenPanic ?_
              refine WP.thenPanic ?_
              refine WP.blkPanic ?_
              refine WP.thenPanic ?_
              first
                | exact WP.panicBody rfl (fun w hI => ⟨fun h => absurd (hok.symm.trans h) (by decide), fun _ _ => ⟨rfl, hI.keep⟩, fun _ h => by rw [any_not, h] at g65; cases g65⟩)
                | (refine WP.panicBody rfl (fun w hI => ?_)
                   have hno : postB p = false := by
                     cases hdb : postB p with
                     | false => rfl
                     | true =>
                       exfalso
                       obtain ⟨h1, h2, h3, h4, h5⟩ := (postB_iff p).1 hdb
                       first | omega | (rw [h1] at g17; cases g17; done) | (have := h4 k (by omega); simp_all; done) | (have := h5 k (by omega); simp_all [claimP]; done)
                   exact ⟨fun _ => ⟨rfl, hI.keep⟩, fun h => absurd (hno.symm.trans h) (by decide), fun h => absurd (hno.symm.trans h) (by decide)⟩)
          · try simp only [zq1, zq2, zq3, zq4, zq5, zq6, zq7, zq8] at c47
            refine WC.exit ?_
            refine WP.thenExit ?_
            refine WP.thenExit ?_
            refine WP.blkHit ?_
            refine WP.thenC ?_
            refine WC.seq ?_
            have hok : postB p = true := (postB_iff p).2 ⟨g17, by omega, by omega, hd2, fun i hi => hd i (by omega)⟩
            refine WC.freezeK 0 rfl (fun hn8 => ?_)
            refine WC.freezeK 0 rfl (fun hn13 => ?_)
            refine WC.freezeK 0 rfl (fun hn2 => ?_)
            have hX3 : DExt w D (((D.add b8 (.cells (List.toArray [.func (.func 91) #[] #[pt b2]]) 64 (0, 0))).add b13 (postO p (.slice a1 p.bathers.length c1) (.slice a2 p.claims.length c2) 94)).add b2 (postO p (.slice a1 p.bathers.length c1) (.slice a2 p.claims.length c2) 27)) := (((DExt.refl w D).add hn8 hb8).add hn13 hb13).add hn2 hb2
            have hB13 : BeachAt (((D.add b8 (.cells (List.toArray [.func (.func 91) #[] #[pt b2]]) 64 (0, 0))).add b13 (postO p (.slice a1 p.bathers.length c1) (.slice a2 p.claims.length c2) 94)).add b2 (postO p (.slice a1 p.bathers.length c1) (.slice a2 p.claims.length c2) 27)) b13 p (.slice a1 p.bathers.length c1) (.slice a2 p.claims.length c2) := ((DExt.refl w _).add hn2 hb2).old _ _ (Imm.add_self _ _ _)
            have h8D : (((D.add b8 (.cells (List.toArray [.func (.func 91) #[] #[pt b2]]) 64 (0, 0))).add b13 (postO p (.slice a1 p.bathers.length c1) (.slice a2 p.claims.length c2) 94)).add b2 (postO p (.slice a1 p.bathers.length c1) (.slice a2 p.claims.length c2) 27)) b8 = some (.cells (List.toArray [.func (.func 91) #[] #[pt b2]]) 64 (0, 0)) := (((DExt.refl w _).add hn13 hb13).add hn2 hb2).old _ _ (Imm.add_self _ _ _)
            have hb2D : (((D.add b8 (.cells (List.toArray [.func (.func 91) #[] #[pt b2]]) 64 (0, 0))).add b13 (postO p (.slice a1 p.bathers.length c1) (.slice a2 p.claims.length c2) 94)).add b2 (postO p (.slice a1 p.bathers.length c1) (.slice a2 p.claims.length c2) 27)) b2 = some (postO p (.slice a1 p.bathers.length c1) (.slice a2 p.claims.length c2) 27) := Imm.add_self _ _ _
            refine (?_ : WC Try.prog _ _ (((D.add b8 (.cells (List.toArray [.func (.func 91) #[] #[pt b2]]) 64 (0, 0))).add b13 (postO p (.slice a1 p.bathers.length c1) (.slice a2 p.claims.length c2) 94)).add b2 (postO p (.slice a1 p.bathers.length c1) (.slice a2 p.claims.length c2) 27)) [] _ _)
            generalize (((D.add b8 (.cells (List.toArray [.func (.func 91) #[] #[pt b2]]) 64 (0, 0))).add b13 (postO p (.slice a1 p.bathers.length c1) (.slice a2 p.claims.length c2) 94)).add b2 (postO p (.slice a1 p.bathers.length c1) (.slice a2 p.claims.length c2) 27)) = D3 at hX3 hB13 h8D hb2D ⊢
            refine WC.ofFr [(1, _), (5, _), (8, _)] ⟨rfl, rfl, rfl, trivial⟩ ?_
            refine WC.region ?_
            refine WL.yd (Yd.move rfl) rfl ?_
            refine WL.yd (Yd.func rfl rfl) rfl ?_
            refine WL.so (SO.callP Try.call93 rfl (fun w hI => (contains_g D3 _ hI.imm l a3 n3 c3 (hS.ext hX3) hl3 94 [pt b8] Try.call94 (fun n => !whoP p n) (fun w' hH' i hi => notP_g p a1 _ c1 _ 27 64 b2 b8 _ D3 w' hb2D h8D rfl hl1 hH')))) rfl ?_
            rintro _ _ _ ⟨rfl, rfl, rfl⟩
            refine WL.yd (Yd.not rfl) rfl ?_
            refine WL.part 65 rfl (fun g65 => ?_) (fun g65 => ?_)
            · try simp only [zq1, zq2, zq3, zq4, zq5, zq6, zq7, zq8] at g65
              refine WL.so (SO.call (Enters.func Try.call83 rfl) (fun w hI => must_ok _ _)) rfl ?_
              rintro _ _ _ ⟨rfl, rfl, rfl⟩
              refine WL.nil ?_
              refine WP.thenC ?_
              refine WC.seq ?_
              refine WC.ofFr [(5, _)] ⟨rfl, trivial⟩ ?_
              refine WC.region ?_
              refine WL.yd (Yd.move rfl) rfl ?_
              refine WL.yd (Yd.assign rfl) rfl ?_
              refine WL.nil ?_
              refine WP.thenC ?_
              refine WC.ret ?_
              refine WP.ret1 rfl rfl Try.results49 (RV.tmp rfl) (fun w hI => ⟨fun h => absurd (hok.symm.trans h) (by decide), fun _ h => (by rw [any_not, h] at g65; cases g65), fun _ _ => ⟨_, _, rfl, hI.keep, hI.imm, hX3, hB13⟩⟩)
            · try simp only [zq1, zq2, zq3, zq4, zq5, zq6, zq7, zq8] at g65
              refine WL.no (SO.fail (Enters.func Try.call83 rfl) (fun w hI => must_no _ _) ?_)
              refine WP.thenPanic ?_
              first
                | exact WP.panicBody rfl (fun w hI => ⟨fun h => absurd (hok.symm.trans h) (by decide), fun _ _ => ⟨rfl, hI.keep⟩, fun _ h => by rw [any_not, h] at g65; cases g65⟩)
                | (refine WP.panicBody rfl (fun w hI => ?_)
                   have hno : postB p = false := by
                     cases hdb : postB p with
                     | false => rfl
                     | true =>
                       exfalso
                       obtain ⟨h1, h2, h3, h4, h5⟩ := (postB_iff p).1 hdb
                       first | omega | (rw [h1] at g17; cases g17; done) | (have := h4 k (by omega); simp_all; done) | (have := h5 k (by omega); simp_all [claimP]; done)
                   exact ⟨fun _ => ⟨rfl, hI.keep⟩, fun h => absurd (hno.symm.trans h) (by decide), fun h => absurd (hno.symm.trans h) (by decide)⟩)
      · try simp only [zq1, zq2, zq3, zq4, zq5, zq6, zq7, zq8] at g28
        refine WL.no (SO.fail (Enters.func Try.call83 rfl) (fun w hI => must_no _ _) ?_)
        refine WP.thenPanic ?_
        first
          | exact WP.panicBody rfl (fun w hI => ⟨fun h => absurd (hok.symm.trans h) (by decide), fun _ _ => ⟨rfl, hI.keep⟩, fun _ h => by rw [any_not, h] at g65; cases g65⟩)
          | (refine WP.panicBody rfl (fun w hI => ?_)
             have hno : postB p = false := by
               cases hdb : postB p with
               | false => rfl
               | true =>
                 exfalso
                 obtain ⟨h1, h2, h3, h4, h5⟩ := (postB_iff p).1 hdb
                 first | omega | (rw [h1] at g17; cases g17; done) | (have := h4 k (by omega); simp_all; done) | (have := h5 k (by omega); simp_all [claimP]; done)
             exact ⟨fun _ => ⟨rfl, hI.keep⟩, fun h => absurd (hno.symm.trans h) (by decide), fun h => absurd (hno.symm.trans h) (by decide)⟩)
    · try simp only [zq1, zq2, zq3, zq4, zq5, zq6, zq7, zq8] at g23
      refine WL.skip rfl rfl ?_
      refine WL.skip rfl rfl ?_
      refine WL.skip rfl rfl ?_
      refine WL.skip rfl rfl ?_
      refine WL.yd (Yd.pickF rfl rfl) rfl ?_
      refine WL.no (SO.fail (Enters.func Try.call83 rfl) (fun w hI => must_no _ _) ?_)
      refine WP.thenPanic ?_
      first
        | exact WP.panicBody rfl (fun w hI => ⟨fun h => absurd (hok.symm.trans h) (by decide), fun _ _ => ⟨rfl, hI.keep⟩, fun _ h => by rw [any_not, h] at g65; cases g65⟩)
        | (refine WP.panicBody rfl (fun w hI => ?_)
           have hno : postB p = false := by
             cases hdb : postB p with
             | false => rfl
             | true =>
               exfalso
               obtain ⟨h1, h2, h3, h4, h5⟩ := (postB_iff p).1 hdb
               first | omega | (rw [h1] at g17; cases g17; done) | (have := h4 k (by omega); simp_all; done) | (have := h5 k (by omega); simp_all [claimP]; done)
           exact ⟨fun _ => ⟨rfl, hI.keep⟩, fun h => absurd (hno.symm.trans h) (by decide), fun h => absurd (hno.symm.trans h) (by decide)⟩)
  · try simp only [zq1, zq2, zq3, zq4, zq5, zq6, zq7, zq8] at g17
    refine WL.skip rfl rfl ?_
    refine WL.skip rfl rfl ?_
    refine WL.skip rfl rfl ?_
    refine WL.skip rfl rfl ?_
    refine WL.yd (Yd.pickF rfl rfl) rfl ?_
    refine WL.yd (Yd.move rfl) rfl ?_
    refine WL.skip rfl rfl ?_
    refine WL.skip rfl rfl ?_
    refine WL.skip rfl rfl ?_
    refine WL.skip rfl rfl ?_
    refine WL.yd (Yd.pickF rfl rfl) rfl ?_
    refine WL.no (SO.fail (Enters.func Try.call83 rfl) (fun w hI => must_no _ _) ?_)
    refine WP.thenPanic ?_
    first
      | exact WP.panicBody rfl (fun w hI => ⟨fun h => absurd (hok.symm.trans h) (by decide), fun _ _ => ⟨rfl, hI.keep⟩, fun _ h => by rw [any_not, h] at g65; cases g65⟩)
      | (refine WP.panicBody rfl (fun w hI => ?_)
         have hno : postB p = false := by
           cases hdb : postB p with
           | false => rfl
           | true =>
             exfalso
             obtain ⟨h1, h2, h3, h4, h5⟩ := (postB_iff p).1 hdb
             first | omega | (rw [h1] at g17; cases g17; done) | (have := h4 k (by omega); simp_all; done) | (have := h5 k (by omega); simp_all [claimP]; done)
         exact ⟨fun _ => ⟨rfl, hI.keep⟩, fun h => absurd (hno.symm.trans h) (by decide), fun h => absurd (hno.symm.trans h) (by decide)⟩)

theorem open_1 (p : Post) (a1 : Option Addr) (n1 c1 : Nat) (a2 : Option Addr) (n2 c2 : Nat) (D : Imm) (w : World) (hR : PostR D p a1 n1 a2 n2) (hH : Holds D w) (l : List Int) (a3 : Option Addr) (n3 c3 : Nat) (hS : SlL D 1 (l.map intC) a3 n3) (hl3 : n3 ≤ 1000) (hv : postB p = false) : Fails Try.prog 49 [.agg #[it p.post.lo, it p.post.hi, .slice a1 n1 c1, .slice a2 n2 c2], .slice a3 n3 c3] w (stopC 1) :=
  (open_g p a1 n1 c1 a2 n2 c2 D w hR hH l a3 n3 c3 hS hl3).mono fun e w' h => h.1 hv
theorem open_2 (p : Post) (a1 : Option Addr) (n1 c1 : Nat) (a2 : Option Addr) (n2 c2 : Nat) (D : Imm) (w : World) (hR : PostR D p a1 n1 a2 n2) (hH : Holds D w) (l : List Int) (a3 : Option Addr) (n3 c3 : Nat) (hS : SlL D 1 (l.map intC) a3 n3) (hl3 : n3 ≤ 1000) (hv : postB p = true) (hw : l.all (whoP p) = false) : Fails Try.prog 49 [.agg #[it p.post.lo, it p.post.hi, .slice a1 n1 c1, .slice a2 n2 c2], .slice a3 n3 c3] w (stopC 2) :=
  (open_g p a1 n1 c1 a2 n2 c2 D w hR hH l a3 n3 c3 hS hl3).mono fun e w' h => h.2.1 hv hw
theorem open_ok (p : Post) (a1 : Option Addr) (n1 c1 : Nat) (a2 : Option Addr) (n2 c2 : Nat) (D : Imm) (w : World) (hR : PostR D p a1 n1 a2 n2) (hH : Holds D w) (l : List Int) (a3 : Option Addr) (n3 c3 : Nat) (hS : SlL D 1 (l.map intC) a3 n3) (hl3 : n3 ≤ 1000) (hv : postB p = true) (hw : l.all (whoP p) = true) : Makes Try.prog 49 [.agg #[it p.post.lo, it p.post.hi, .slice a1 n1 c1, .slice a2 n2 c2], .slice a3 n3 c3] w D (fun v D' => ∃ b, v = pt b ∧ BeachAt D' b p (.slice a1 n1 c1) (.slice a2 n2 c2)) :=
  (open_g p a1 n1 c1 a2 n2 c2 D w hR hH l a3 n3 c3 hS hl3).mono fun e w' h => by
    obtain ⟨b, D', h1, h2, h3, h4, h5⟩ := h.2.2 hv hw
    exact ⟨_, D', h1, h2, h3, h4, b, rfl, h5⟩

end Go.Proofs.Ytkhmmefgllbobaa
namespace Go.Proofs.Ytkhmmefgllbobaa
open Go.W Go.Po
theorem FA47_2 : FieldAt Try.prog 47 2 2 := FieldAt.mk (t := 4) (off := 2) Try.underlying47 rfl Try.sizeOf4 (by decide)
theorem FA94_0 : FieldAt Try.prog 94 0 0 := FieldAt.mk (t := 27) (off := 0) Try.underlying94 rfl Try.sizeOf27 (by decide)
theorem SA23 : StructAt Try.prog 23 [.int .i64 0, .int .i64 0] [(0, 1), (1, 1)] := ⟨⟨_, Try.zeroValue23, rfl⟩, _, Try.underlying23, fun w => by simp [Try.sizeOf3]⟩
theorem SA79 : StructAt Try.prog 79 [.int .i64 0, .int .i64 0] [(0, 1), (1, 1)] := ⟨⟨_, Try.zeroValue79, rfl⟩, _, Try.underlying79, fun w => by simp [Try.sizeOf3]⟩
theorem SA130 : StructAt Try.prog 130 [.int .i64 0, .int .i64 0] [(0, 2)] := ⟨⟨_, Try.zeroValue130, rfl⟩, _, Try.underlying130, fun w => by simp [Try.sizeOf79]⟩
theorem SA132 : StructAt Try.prog 132 [.int .i64 0, .int .i64 0] [(0, 2)] := ⟨⟨_, Try.zeroValue132, rfl⟩, _, Try.underlying132, fun w => by simp [Try.sizeOf130]⟩
set_option maxRecDepth 100000 in
set_option maxHeartbeats 1000000 in
theorem every_g (p : Post) (a1 : Option Addr) (n1 c1 : Nat) (a2 : Option Addr) (n2 c2 : Nat) (q : Nat) (D : Imm) (w : World) (hB : BeachAt D q p (.slice a1 n1 c1) (.slice a2 n2 c2)) (hR : PostR D p a1 n1 a2 n2) (hH : Holds D w) (hv : postB p = true) : Gives Try.prog 64 [pt q] w (ut (everyS p)) := by
  unfold Gives
  obtain rfl := hR.bath.len'
  obtain rfl := hR.claim.len'
  have hl1 := hR.len1
  have hl2 := hR.len2
  have h8 := (post_num hv).2.2.1
  refine enter Try.func64 rfl 11 Try.ntmps64 (Nat.le_of_ble_eq_true rfl) (Inv.start hH) ?_
  refine WC.seq ?_
  refine WC.ofFr [(0, _)] ⟨rfl, trivial⟩ ?_
  refine WC.region ?_
  refine WL.yd (Yd.assign rfl) rfl ?_
  refine WL.nil ?_
  refine WP.thenC ?_
  refine WC.seq ?_
  refine WC.ofFr [(2, _), (0, _)] ⟨rfl, rfl, trivial⟩ ?_
  refine WC.region ?_
  refine WL.yd (Yd.move rfl) rfl ?_
  refine WL.yd (Yd.nilCheck rfl) rfl ?_
  refine WL.yd (Yd.fieldAddr FA94_0 rfl) rfl ?_
  refine WL.yd (Yd.fieldAddr FA27_2 rfl) rfl ?_
  refine WL.yd (Yd.load1 Try.isAgg25 rfl (by first | exact (Rd.imm hB rfl))) rfl ?_
  refine WL.yd (Yd.lenS rfl Try.underlying25 rfl) rfl ?_
  refine WL.yd (Yd.shlU rfl rfl (by omega)) rfl ?_
  refine WL.yd (Yd.subU (j := 1) rfl rfl Nat.one_le_two_pow (by have := Nat.pow_le_pow_right (n := 2) (by omega) h8; omega)) rfl ?_
  refine WL.yd (Yd.assign rfl) rfl ?_
  refine WL.nil ?_
  refine WP.thenC ?_
  refine WC.ret ?_
  refine WP.ret1 rfl rfl Try.results64 (RV.tmp rfl) (fun w hI => ⟨rfl, hI.keep⟩)

set_option maxRecDepth 100000 in
set_option maxHeartbeats 1000000 in
theorem ruleOf_g (c : PClaim) (w : World) : Gives Try.prog 100 [.agg #[it c.a, it c.b, .bool c.not]] w (ruleV (claimR c)) := by
  unfold Gives
  refine enter Try.func100 rfl 20 Try.ntmps100 (Nat.le_of_ble_eq_true rfl) (Inv.start (D := fun _ => none) (by intro _ _ h; cases h)) ?_
  refine WC.seq ?_
  refine WC.ofFr [(0, _)] ⟨rfl, trivial⟩ ?_
  refine WC.region ?_
  refine WL.so (SO.box rfl rfl) rfl ?_
  rintro _ _ _ ⟨b1, hb1, rfl, rfl, rfl⟩ -- NEW
  refine WL.yd (Yd.assign rfl) rfl ?_
  refine WL.nil ?_
  refine WP.thenC ?_
  refine WC.seq ?_
  refine WC.seq ?_
  refine WC.ofFr [(2, _), (1, _)] ⟨rfl, rfl, trivial⟩ ?_
  refine WC.region ?_
  refine WL.yd (Yd.fieldAddr FA47_2 rfl) rfl ?_
  refine WL.yd (Yd.load1 Try.isAgg4 rfl (by first | exact Rd.own (k := 0) rfl rfl)) rfl ?_
  refine WL.nil ?_
  refine WP.thenC ?_
  refine WC.cond rfl (fun c4 => ?_) (fun c4 => ?_)
  · try simp only [zq1, zq2, zq3, zq4, zq5, zq6, zq7, zq8] at c4
    refine WC.seq ?_
    refine WC.ofFr [(2, _), (1, _)] ⟨rfl, rfl, trivial⟩ ?_
    refine WC.region ?_
    refine WL.yd (Yd.fieldAddr FA47_1 rfl) rfl ?_
    refine WL.yd (Yd.load1 Try.isAgg3 rfl (by first | exact Rd.own (k := 0) rfl rfl)) rfl ?_
    refine WL.yd (Yd.fieldAddr FA47_0 rfl) rfl ?_
    refine WL.yd (Yd.load1 Try.isAgg3 rfl (by first | exact Rd.own (k := 0) rfl rfl)) rfl ?_
    refine WL.yd (Yd.build SA79 rfl (cs := [_, _]) rfl) rfl ?_
    refine WL.yd (Yd.build SA130 rfl (cs := [_, _]) rfl) rfl ?_
    refine WL.yd (Yd.iface Try.underlying130 (by intro _ h; cases h) rfl) rfl ?_
    refine WL.yd (Yd.assign rfl) rfl ?_
    refine WL.nil ?_
    refine WP.thenC ?_
    refine WC.ret ?_
    refine WP.thenRet ?_
    refine WP.ret1 rfl rfl Try.results100 (RV.tmp rfl) (fun w hI => ⟨by unfold claimR; rw [if_pos c4]; rfl, hI.keep⟩)
  · try simp only [zq1, zq2, zq3, zq4, zq5, zq6, zq7, zq8] at c4
    refine WC.skip ?_
    refine WP.thenC ?_
    refine WC.seq ?_
    refine WC.ofFr [(2, _), (1, _)] ⟨rfl, rfl, trivial⟩ ?_
    refine WC.region ?_
    refine WL.yd (Yd.fieldAddr FA47_0 rfl) rfl ?_
    refine WL.yd (Yd.load1 Try.isAgg3 rfl (by first | exact Rd.own (k := 0) rfl rfl)) rfl ?_
    refine WL.yd (Yd.fieldAddr FA47_1 rfl) rfl ?_
    refine WL.yd (Yd.load1 Try.isAgg3 rfl (by first | exact Rd.own (k := 0) rfl rfl)) rfl ?_
    refine WL.yd (Yd.build SA79 rfl (cs := [_, _]) rfl) rfl ?_
    refine WL.yd (Yd.build SA130 rfl (cs := [_, _]) rfl) rfl ?_
    refine WL.yd (Yd.build SA132 rfl (cs := [_, _]) rfl) rfl ?_
    refine WL.yd (Yd.iface Try.underlying132 (by intro _ h; cases h) rfl) rfl ?_
    refine WL.yd (Yd.assign rfl) rfl ?_
    refine WL.nil ?_
    refine WP.thenC ?_
    refine WC.ret ?_
    refine WP.ret1 rfl rfl Try.results100 (RV.tmp rfl) (fun w hI => ⟨by unfold claimR; rw [if_neg (by rw [c4]; simp)]; rfl, hI.keep⟩)

set_option maxRecDepth 100000 in
set_option maxHeartbeats 1000000 in
theorem rules_g (p : Post) (a1 : Option Addr) (n1 c1 : Nat) (a2 : Option Addr) (n2 c2 : Nat) (q : Nat) (D : Imm) (w : World) (hB : BeachAt D q p (.slice a1 n1 c1) (.slice a2 n2 c2)) (hR : PostR D p a1 n1 a2 n2) (hH : Holds D w) (hv : postB p = true) (s : Nat) : News Try.prog 63 [pt q, ut s] w D (fun v D' hp' => ∃ o, v = owV o (selA p s).length ∧ owP w o (selA p s).length 1 ∧ hp' = owH o 88 ((selA p s).flatMap ruleC) []) := by
  unfold News
  obtain rfl := hR.bath.len'
  obtain rfl := hR.claim.len'
  have hl1 := hR.len1
  have hl2 := hR.len2
  have h8 := (post_num hv).2.2.1
  refine enter Try.func63 rfl 30 Try.ntmps63 (Nat.le_of_ble_eq_true rfl) (Inv.start hH) ?_
  refine WC.seq ?_
  refine WC.ofFr [(0, _), (1, _)] ⟨rfl, rfl, trivial⟩ ?_
  refine WC.region ?_
  refine WL.yd (Yd.assign rfl) rfl ?_
  refine WL.nil ?_
  refine WP.thenC ?_
  refine WC.seq ?_
  refine WC.seq ?_
  refine WC.ofFr [(4, _), (0, _), (1, _)] ⟨rfl, rfl, rfl, trivial⟩ ?_
  refine WC.region ?_
  refine WL.yd (Yd.move rfl) rfl ?_
  refine WL.yd (Yd.nilCheck rfl) rfl ?_
  refine WL.yd (Yd.fieldAddr FA94_0 rfl) rfl ?_
  refine WL.yd (Yd.fieldAddr FA27_2 rfl) rfl ?_
  refine WL.yd (Yd.load1 Try.isAgg25 rfl (by first | exact (Rd.imm hB rfl))) rfl ?_
  refine WL.yd (Yd.lenS rfl Try.underlying25 rfl) rfl ?_
  refine WL.yd (Yd.move rfl) rfl ?_
  refine WL.nil ?_
  refine WP.thenC ?_
  refine WC.block ?_
  refine WC.loop (fun y : Nat × Option Ow => [(1, ut s), (4, owV y.2 (selR p s y.1).length), (11, .slice a2 p.claims.length c2), (12, nt p.claims.length), (13, nt y.1)]) (fun y => (owH y.2 88 ((selR p s y.1).flatMap ruleC) [])) (fun _ => D) (fun y => y.1 ≤ p.claims.length ∧ owP w y.2 (selR p s y.1).length 1) (fun y => p.claims.length - y.1) (0, none) ⟨by omega, rfl⟩ (fun a w h => at_fr h ⟨rfl, rfl, rfl, rfl, rfl, trivial⟩) ?_
  rintro ⟨k, o⟩ ⟨hk, ho⟩
  dsimp only at hk ho
  refine WC.seq ?_
  refine WC.ofFr [(1, _), (4, _), (11, _), (12, _), (13, _)] ⟨rfl, rfl, rfl, rfl, rfl, trivial⟩ ?_
  refine WC.region ?_
  refine WL.yd (Yd.lss rfl rfl) rfl ?_
  refine WL.nil ?_
  refine WP.thenC ?_
  refine WC.seq ?_
  refine WC.cond rfl (fun c14 => ?_) (fun c14 => ?_)
  · try simp only [zq1, zq2, zq3, zq4, zq5, zq6, zq7, zq8] at c14
    have hsl := selR_len p s k
    refine WC.skip ?_
    refine WP.thenC ?_
    refine WC.seq ?_
    refine WC.block ?_
    refine WC.seq ?_
    refine WC.ofFr [(1, _), (4, _), (11, _), (12, _), (13, _)] ⟨rfl, rfl, rfl, rfl, rfl, trivial⟩ ?_
    refine WC.region ?_
    refine WL.yd (Yd.move rfl) rfl ?_
    refine WL.yd (Yd.indexS Try.underlying25 Try.sizeOf47 rfl rfl (by omega) (by omega) (by first | exact hR.claim.addr k (by omega))) rfl ?_
    refine WL.yd (Yd.loadN Try.isAgg47 Try.sizeOf47 rfl (vs := [_, _, _]) rfl (by first | exact (hR.claim.at k (by omega)).rdn 0 3 rfl)) rfl ?_
    refine WL.so (SO.alloc Try.zeroValue47 rfl) rfl ?_
    rintro _ _ _ ⟨b6, hb6, rfl, rfl, rfl⟩ -- NEW
    refine WL.yd (Yd.assign rfl) rfl ?_
    refine WL.so (SO.store 0 rfl Try.sizeOf47 rfl rfl rfl rfl (Nat.le_of_ble_eq_true rfl) (oneB_spec rfl)) rfl ?_
    rintro _ _ _ ⟨rfl, rfl, rfl⟩
    refine WL.nil ?_
    refine WP.thenC ?_
    refine WC.seq ?_
    refine WC.ofFr [(5, _), (6, _), (1, _), (4, _), (11, _), (12, _), (13, _)] ⟨rfl, rfl, rfl, rfl, rfl, rfl, rfl, trivial⟩ ?_
    refine WC.region ?_
    refine WL.yd (Yd.move rfl) rfl ?_
    refine WL.yd (Yd.move rfl) rfl ?_
    refine WL.yd (Yd.shrUN rfl rfl (by omega)) rfl ?_
    refine WL.yd (Yd.andU1 rfl rfl) rfl ?_
    refine WL.yd (Yd.eql rfl rfl) rfl ?_
    refine WL.nil ?_
    refine WP.thenC ?_
    refine WC.cond rfl (fun c22 => ?_) (fun c22 => ?_)
    · try simp only [zq1, zq2, zq3, zq4, zq5, zq6, zq7, zq8] at c22
      have hbit : s / 2 ^ k % 2 = 1 := by omega
      have hsr : selR p s (k + 1) = selR p s k ++ [claimR (gt p.claims k)] := if_pos hbit
      have hsn : (selR p s (k + 1)).length = (selR p s k).length + 1 := by rw [hsr, List.length_append]; rfl
      have hsc : (selR p s (k + 1)).flatMap ruleC = (selR p s k).flatMap ruleC ++ [ruleV (claimR (gt p.claims k))] := by rw [hsr, List.flatMap_append]; rfl
      refine WC.ofFr [(6, _), (1, _), (4, _), (11, _), (12, _), (13, _)] ⟨rfl, rfl, rfl, rfl, rfl, rfl, trivial⟩ ?_
      refine WC.region ?_
      refine WL.yd (Yd.move rfl) rfl ?_
      refine WL.yd (Yd.loadN Try.isAgg47 Try.sizeOf47 rfl (vs := [_, _, _]) rfl (by first | exact RdN.own (k := 0) (n := 3) rfl rfl | exact (hR.claim.at k (by omega)).rdn 0 3 rfl)) rfl ?_
      refine WL.so (SO.callP Try.call100 rfl (fun w hI => ruleOf_g ⟨_, _, _⟩ _)) rfl ?_
      rintro _ _ _ ⟨rfl, rfl, rfl⟩
      refine WL.so (SO.buildSlice Try.underlying97 Try.sizeOf88 Try.zeroValue88 rfl rfl rfl rfl (cs := [_]) rfl) rfl ?_
      rintro _ _ _ ⟨b26, hb26, rfl, rfl, rfl⟩ -- NEW
      refine WL.so (SO.appendOw (o := o) (len := (selR p s k).length) (n := 1) (xs := ((selR p s k).flatMap ruleC)) (size := 1) [_] [_] [] rfl rfl Try.underlying97 Try.sizeOf88 Try.typeInfo88 Try.zeroValue88 rfl rfl rfl rfl ⟨rfl, .inr ⟨_, _, _, rfl, RdN.own (k := 0) (n := 1) rfl rfl⟩⟩ (oneB_spec rfl) ho (flat_len ruleC_len _) (by omega) (by show (2 * (_ + _) + 1000) * 16 ≤ 2 ^ 48; omega) (by omega)) rfl ?_
      rintro _ _ _ ⟨u1, hu1, rfl, rfl, rfl⟩
      refine WL.yd (Yd.assign rfl) rfl ?_
      refine WL.nil ?_
      refine WP.blkNormal ?_
      refine WP.thenC ?_
      refine WC.ofFr [(4, _), (1, _), (11, _), (12, _), (13, _)] ⟨rfl, rfl, rfl, rfl, rfl, trivial⟩ ?_
      refine WC.region ?_
      refine WL.yd (Yd.add rfl rfl (wr64 ⟨by omega, by omega⟩)) rfl ?_
      refine WL.yd (Yd.move rfl) rfl ?_
      refine WL.nil ?_
      first
        | (refine WP.again (⟨k + 1, some u1⟩ : Nat × Option Ow) ⟨by simp only; omega, by simp only; rw [hsn]; exact hu1⟩ (by simp only; omega) (fun aa ww h => ?_)
           show At _ [(1, ut s), (4, owV (some u1) (selR p s (k + 1)).length), (11, .slice a2 p.claims.length c2), (12, nt p.claims.length), (13, nt (k + 1))] D (owH (some u1) 88 ((selR p s (k + 1)).flatMap ruleC) []) aa ww
           rw [hsc, hsn]
           exact at_less h ⟨rfl, rfl, rfl, rfl, rfl, trivial⟩ (fun _ h => List.mem_cons_of_mem _ h) (fun h => (List.nodup_cons.1 h).2))
        | (refine WP.again (⟨k + 1, o⟩ : Nat × Option Ow) ⟨by simp only; omega, by simp only; rw [hsr]; exact ho⟩ (by simp only; omega) (fun aa ww h => ?_)
           show At _ [(1, ut s), (4, owV o (selR p s (k + 1)).length), (11, .slice a2 p.claims.length c2), (12, nt p.claims.length), (13, nt (k + 1))] D (owH o 88 ((selR p s (k + 1)).flatMap ruleC) []) aa ww
           rw [hsr]
           exact at_less h ⟨rfl, rfl, rfl, rfl, rfl, trivial⟩ (fun _ h => List.mem_cons_of_mem _ h) (fun h => (List.nodup_cons.1 h).2))
    · try simp only [zq1, zq2, zq3, zq4, zq5, zq6, zq7, zq8] at c22
      have hbit : ¬ s / 2 ^ k % 2 = 1 := by omega
      have hsr : selR p s (k + 1) = selR p s k := if_neg hbit
      refine WC.skip ?_
      refine WP.blkNormal ?_
      refine WP.thenC ?_
      refine WC.ofFr [(1, _), (4, _), (11, _), (12, _), (13, _)] ⟨rfl, rfl, rfl, rfl, rfl, trivial⟩ ?_
      refine WC.region ?_
      refine WL.yd (Yd.add rfl rfl (wr64 ⟨by omega, by omega⟩)) rfl ?_
      refine WL.yd (Yd.move rfl) rfl ?_
      refine WL.nil ?_
      first
        | (refine WP.again (⟨k + 1, some u1⟩ : Nat × Option Ow) ⟨by simp only; omega, by simp only; rw [hsn]; exact hu1⟩ (by simp only; omega) (fun aa ww h => ?_)
           show At _ [(1, ut s), (4, owV (some u1) (selR p s (k + 1)).length), (11, .slice a2 p.claims.length c2), (12, nt p.claims.length), (13, nt (k + 1))] D (owH (some u1) 88 ((selR p s (k + 1)).flatMap ruleC) []) aa ww
           rw [hsc, hsn]
           exact at_less h ⟨rfl, rfl, rfl, rfl, rfl, trivial⟩ (fun _ h => List.mem_cons_of_mem _ h) (fun h => (List.nodup_cons.1 h).2))
        | (refine WP.again (⟨k + 1, o⟩ : Nat × Option Ow) ⟨by simp only; omega, by simp only; rw [hsr]; exact ho⟩ (by simp only; omega) (fun aa ww h => ?_)
           show At _ [(1, ut s), (4, owV o (selR p s (k + 1)).length), (11, .slice a2 p.claims.length c2), (12, nt p.claims.length), (13, nt (k + 1))] D (owH o 88 ((selR p s (k + 1)).flatMap ruleC) []) aa ww
           rw [hsr]
           exact at_less h ⟨rfl, rfl, rfl, rfl, rfl, trivial⟩ (fun _ h => List.mem_cons_of_mem _ h) (fun h => (List.nodup_cons.1 h).2))
  · try simp only [zq1, zq2, zq3, zq4, zq5, zq6, zq7, zq8] at c14
    refine WC.exit ?_
    refine WP.thenExit ?_
    refine WP.thenExit ?_
    refine WP.blkHit ?_
    refine WP.thenC ?_
    refine WC.seq ?_
    refine WC.ofFr [(4, _)] ⟨rfl, trivial⟩ ?_
    refine WC.region ?_
    refine WL.yd (Yd.move rfl) rfl ?_
    refine WL.yd (Yd.assign rfl) rfl ?_
    refine WL.nil ?_
    refine WP.thenC ?_
    refine WC.ret ?_
    refine WP.ret1 rfl rfl Try.results63 (RV.tmp rfl) (fun w1 hI => by
      obtain rfl : k = p.claims.length := by omega
      exact ⟨_, D, _, rfl, DExt.refl _ _, hI, o, rfl, ho, rfl⟩)

set_option maxRecDepth 100000 in
set_option maxHeartbeats 1000000 in
theorem place_g (p : Post) (a1 : Option Addr) (n1 c1 : Nat) (a2 : Option Addr) (n2 c2 : Nat) (q : Nat) (D : Imm) (w : World) (hB : BeachAt D q p (.slice a1 n1 c1) (.slice a2 n2 c2)) (hR : PostR D p a1 n1 a2 n2) (hH : Holds D w) (hv : postB p = true) (k : Nat) (hk : k < nodes p) : Gives Try.prog 99 [pt q, it ((k : Int) - 2)] w (.agg #[it (placeN p k).lo, it (placeN p k).hi]) := by
  unfold Gives
  obtain rfl := hR.bath.len'
  obtain rfl := hR.claim.len'
  have hl1 := hR.len1
  have hl2 := hR.len2
  refine enter Try.func99 rfl 25 Try.ntmps99 (Nat.le_of_ble_eq_true rfl) (Inv.start hH) ?_
  refine WC.seq ?_
  refine WC.ofFr [(0, _), (1, _)] ⟨rfl, rfl, trivial⟩ ?_
  refine WC.region ?_
  refine WL.so (SO.alloc Try.zeroValue23 rfl) rfl ?_
  rintro _ _ _ ⟨b4, hb4, rfl, rfl, rfl⟩ -- NEW
  refine WL.nil ?_
  refine WP.thenC ?_
  refine WC.seq ?_
  refine WC.seq ?_
  refine WC.ofFr [(4, _), (0, _), (1, _)] ⟨rfl, rfl, rfl, trivial⟩ ?_
  refine WC.region ?_
  refine WL.yd (Yd.move rfl) rfl ?_
  refine WL.nil ?_
  refine WP.thenC ?_
  refine WC.block ?_
  refine WC.seq ?_
  refine WC.ofFr [(5, _), (4, _), (0, _), (1, _)] ⟨rfl, rfl, rfl, rfl, trivial⟩ ?_
  refine WC.region ?_
  refine WL.yd (Yd.eql rfl rfl) rfl ?_
  refine WL.yd (Yd.assign rfl) rfl ?_
  refine WL.nil ?_
  refine WP.thenC ?_
  refine WC.cond rfl (fun c6 => ?_) (fun c6 => ?_)
  · try simp only [zq1, zq2, zq3, zq4, zq5, zq6, zq7, zq8] at c6
    obtain rfl : k = 0 := by omega
    refine WC.seq ?_
    refine WC.ofFr [(4, _), (0, _), (1, _)] ⟨rfl, rfl, rfl, trivial⟩ ?_
    refine WC.region ?_
    refine WL.yd (Yd.build SA23 rfl (cs := [_, _]) rfl) rfl ?_
    refine WL.so (SO.store 0 rfl Try.sizeOf23 rfl rfl rfl rfl (Nat.le_of_ble_eq_true rfl) (oneB_spec rfl)) rfl ?_
    rintro _ _ _ ⟨rfl, rfl, rfl⟩
    refine WL.nil ?_
    refine WP.thenC ?_
    refine WC.ret ?_
    refine WP.blkRet ?_
    refine WP.thenRet ?_
    refine WP.ret1 rfl rfl Try.results99 (RV.cellN Try.isAgg23 Try.sizeOf23 rfl (vs := [_, _]) rfl (by first | exact RdN.own (k := 0) (n := 2) rfl rfl | exact (RdN.imm (n := 2) hB rfl) | exact (hR.bath.at j (by omega)).rdn 1 2 rfl)) (fun w hI => ⟨rfl, hI.keep⟩)
  · try simp only [zq1, zq2, zq3, zq4, zq5, zq6, zq7, zq8] at c6
    refine WC.seq ?_
    refine WC.ofFr [(5, _), (4, _), (0, _), (1, _)] ⟨rfl, rfl, rfl, rfl, trivial⟩ ?_
    refine WC.region ?_
    refine WL.yd (Yd.eql rfl rfl) rfl ?_
    refine WL.yd (Yd.assign rfl) rfl ?_
    refine WL.nil ?_
    refine WP.thenC ?_
    refine WC.cond rfl (fun c9 => ?_) (fun c9 => ?_)
    · try simp only [zq1, zq2, zq3, zq4, zq5, zq6, zq7, zq8] at c9
      obtain rfl : k = 1 := by omega
      refine WC.seq ?_
      refine WC.ofFr [(4, _), (0, _), (1, _)] ⟨rfl, rfl, rfl, trivial⟩ ?_
      refine WC.region ?_
      refine WL.yd (Yd.move rfl) rfl ?_
      refine WL.yd (Yd.nilCheck rfl) rfl ?_
      refine WL.yd (Yd.fieldAddr FA94_0 rfl) rfl ?_
      refine WL.yd (Yd.fieldAddr FA27_0 rfl) rfl ?_
      refine WL.yd (Yd.loadN Try.isAgg23 Try.sizeOf23 rfl (vs := [_, _]) rfl (by first | exact RdN.own (k := 0) (n := 2) rfl rfl | exact (RdN.imm (n := 2) hB rfl) | exact (hR.bath.at j (by omega)).rdn 1 2 rfl)) rfl ?_
      refine WL.so (SO.store 0 rfl Try.sizeOf23 rfl rfl rfl rfl (Nat.le_of_ble_eq_true rfl) (oneB_spec rfl)) rfl ?_
      rintro _ _ _ ⟨rfl, rfl, rfl⟩
      refine WL.nil ?_
      refine WP.thenC ?_
      refine WC.ret ?_
      refine WP.blkRet ?_
      refine WP.thenRet ?_
      refine WP.ret1 rfl rfl Try.results99 (RV.cellN Try.isAgg23 Try.sizeOf23 rfl (vs := [_, _]) rfl (by first | exact RdN.own (k := 0) (n := 2) rfl rfl | exact (RdN.imm (n := 2) hB rfl) | exact (hR.bath.at j (by omega)).rdn 1 2 rfl)) (fun w hI => ⟨rfl, hI.keep⟩)
    · try simp only [zq1, zq2, zq3, zq4, zq5, zq6, zq7, zq8] at c9
      obtain ⟨j, rfl⟩ : ∃ j, k = j + 2 := ⟨k - 2, by omega⟩
      have hjn : j < p.bathers.length := by unfold nodes at hk; omega
      refine WC.know 1 (nt j) rfl (by unfold nt; congr 1; omega) ?_
      refine WC.skip ?_
      refine WP.blkNormal ?_
      refine WP.thenC ?_
      refine WC.seq ?_
      refine WC.ofFr [(4, _), (0, _), (1, _)] ⟨rfl, rfl, rfl, trivial⟩ ?_
      refine WC.region ?_
      refine WL.yd (Yd.move rfl) rfl ?_
      refine WL.yd (Yd.nilCheck rfl) rfl ?_
      refine WL.yd (Yd.fieldAddr FA94_0 rfl) rfl ?_
      refine WL.yd (Yd.fieldAddr FA27_1 rfl) rfl ?_
      refine WL.yd (Yd.load1 Try.isAgg24 rfl (by first | exact Rd.own (k := 0) rfl rfl | exact (Rd.imm hB rfl) | exact ((hR.bath.at j (by omega)).rd 0 rfl))) rfl ?_
      refine WL.yd (Yd.move rfl) rfl ?_
      refine WL.yd (Yd.indexS Try.underlying24 Try.sizeOf56 rfl rfl (by omega) (by omega) (by first | exact hR.bath.addr j (by omega))) rfl ?_
      refine WL.yd (Yd.fieldAddr FA56_1 rfl) rfl ?_
      refine WL.yd (Yd.loadN Try.isAgg23 Try.sizeOf23 rfl (vs := [_, _]) rfl (by first | exact RdN.own (k := 0) (n := 2) rfl rfl | exact (RdN.imm (n := 2) hB rfl) | exact (hR.bath.at j (by omega)).rdn 1 2 rfl)) rfl ?_
      refine WL.so (SO.store 0 rfl Try.sizeOf23 rfl rfl rfl rfl (Nat.le_of_ble_eq_true rfl) (oneB_spec rfl)) rfl ?_
      rintro _ _ _ ⟨rfl, rfl, rfl⟩
      refine WL.nil ?_
      refine WP.thenC ?_
      refine WC.ret ?_
      refine WP.ret1 rfl rfl Try.results99 (RV.cellN Try.isAgg23 Try.sizeOf23 rfl (vs := [_, _]) rfl (by first | exact RdN.own (k := 0) (n := 2) rfl rfl | exact (RdN.imm (n := 2) hB rfl) | exact (hR.bath.at j (by omega)).rdn 1 2 rfl)) (fun w hI => ⟨rfl, hI.keep⟩)

set_option maxRecDepth 100000 in
set_option maxHeartbeats 1000000 in
theorem all_g (q : Nat) (D : Imm) (w : World) (hH : Holds D w) : Makes Try.prog 98 [pt q] w D (fun v D' => ∃ b, v = .func (.func 111) #[] #[pt b] ∧ D' b = some (.cells (List.toArray [pt q]) 74 (0, 0))) := by
  unfold Makes
  refine enter Try.func98 rfl 4 Try.ntmps98 (Nat.le_of_ble_eq_true rfl) (Inv.start hH) ?_
  refine WC.seq ?_
  refine WC.ofFr [(0, _)] ⟨rfl, trivial⟩ ?_
  refine WC.region ?_
  refine WL.so (SO.box rfl rfl) rfl ?_
  rintro _ _ _ ⟨b1, hb1, rfl, rfl, rfl⟩ -- NEW
  refine WL.yd (Yd.assign rfl) rfl ?_
  refine WL.nil ?_
  refine WP.thenC ?_
  refine WC.seq ?_
  refine WC.ofFr [(2, _), (1, _)] ⟨rfl, rfl, trivial⟩ ?_
  refine WC.region ?_
  refine WL.yd (Yd.func rfl rfl) rfl ?_
  refine WL.yd (Yd.assign rfl) rfl ?_
  refine WL.nil ?_
  refine WP.thenC ?_
  refine WC.ret ?_
  refine WP.ret1 rfl rfl Try.results98 (RV.tmp rfl) (fun w1 hI => ⟨_, _, rfl, hI.keep, hI.freeze.imm, (DExt.refl w D).add (hI.apart _ _ (List.mem_of_getElem? (i := 0) rfl)) hb1, b1, rfl, Imm.add_self _ _ _⟩)

set_option maxRecDepth 100000 in
set_option maxHeartbeats 1000000 in
theorem all1_iter (p : Post) (a1 : Option Addr) (n1 c1 : Nat) (s2 : Value) (q b1 : Nat) (D : Imm) (hB0 : BeachAt D q p (.slice a1 n1 c1) s2) (hX0 : D b1 = some (.cells (List.toArray [pt q]) 74 (0, 0))) (hn : n1 = p.bathers.length) (hl : n1 ≤ 1000) (w : World) : IterC Try.prog 111 [pt b1] (nodes p) (fun k => it ((k : Int) - 2)) D w := by
  unfold IterC
  subst hn
  intro l S St Sp hSt hSp hSm hround h0 hS0 hI0
  unfold Alters
  refine enter Try.func111 rfl 18 Try.ntmps111 (Nat.le_of_ble_eq_true rfl) hI0 ?_
  refine WC.seq ?_
  refine WC.ofFr [(0, _), (1, _)] ⟨rfl, rfl, trivial⟩ ?_
  refine WC.region ?_
  refine WL.yd (Yd.assign rfl) rfl ?_
  refine WL.nil ?_
  refine WP.thenC ?_
  refine WC.block ?_
  refine WC.loop (fun y : Nat × Imm × Hp => [(0, .func (.yield l) #[] #[]), (1, pt b1), (3, it ((y.1 : Nat) - 2 : Int))]) (fun y => y.2.2) (fun y => y.2.1) (fun y => y.1 ≤ nodes p ∧ DExt w D y.2.1 ∧ St y.1 y.2.1 y.2.2) (fun y => nodes p - y.1) ⟨0, D, h0⟩ ⟨by omega, DExt.refl _ _, hS0⟩ (fun a w h => at_fr h ⟨rfl, rfl, rfl, trivial⟩) ?_
  rintro ⟨k, D1, hp1⟩ ⟨hk, hX1, hS1⟩
  dsimp only at hk hX1 hS1
  have hX := hX1.old _ _ hX0
  have hB := hB0.ext hX1
  refine WC.seq ?_
  refine WC.seq ?_
  refine WC.ofFr [(0, _), (1, _), (3, _)] ⟨rfl, rfl, rfl, trivial⟩ ?_
  refine WC.region ?_
  refine WL.yd (Yd.move rfl) rfl ?_
  refine WL.yd (Yd.load1 Try.isAgg74 rfl (by first | exact Rd.own (k := 0) rfl rfl | exact (Rd.imm hX rfl) | exact (Rd.imm hB rfl))) rfl ?_
  refine WL.yd (Yd.nilCheck rfl) rfl ?_
  refine WL.yd (Yd.fieldAddr FA94_0 rfl) rfl ?_
  refine WL.yd (Yd.fieldAddr FA27_1 rfl) rfl ?_
  refine WL.yd (Yd.load1 Try.isAgg24 rfl (by first | exact Rd.own (k := 0) rfl rfl | exact (Rd.imm hX rfl) | exact (Rd.imm hB rfl))) rfl ?_
  refine WL.yd (Yd.lenS rfl Try.underlying24 rfl) rfl ?_
  refine WL.yd (Yd.lss rfl rfl) rfl ?_
  refine WL.nil ?_
  refine WP.thenC ?_
  refine WC.cond rfl (fun c11 => ?_) (fun c11 => ?_)
  · try simp only [zq1, zq2, zq3, zq4, zq5, zq6, zq7, zq8] at c11
    have hkn : k < nodes p := by unfold nodes; omega
    refine WC.skip ?_
    refine WP.thenC ?_
    refine WC.seq ?_
    refine WC.block ?_
    refine WC.seq ?_
    refine WC.ofFr [(0, _), (1, _), (3, _)] ⟨rfl, rfl, rfl, trivial⟩ ?_
    refine WC.ofF ?_
    refine WCF.region ?_
    refine WLF.yd (by intro _ h; cases h) (Yd.move rfl) rfl ?_
    refine WLF.yd (by intro _ h; cases h) (Yd.move rfl) rfl ?_
    refine WLF.yield (l := l) (vals := [it ((k : Int) - 2)]) (S1 := S) [] hp1 (fun _ h => h) (fun h => h) (hSt _ _ _ hS1).1 (hSt _ _ _ hS1).2 rfl rfl rfl (fun w' hsz hI => hround k D1 hp1 w' (by omega) hsz hX1 hS1 hI) ?_
    rintro b16 D5 hp5 hK5 hX5
    refine WLF.yd (by intro _ h; cases h) (Yd.not rfl) rfl ?_
    refine WLF.nil ?_
    refine WP.thenC ?_
    refine WC.cond rfl (fun c17 => ?_) (fun c17 => ?_)
    · try simp only [zq1, zq2, zq3, zq4, zq5, zq6, zq7, zq8] at c17
      refine WC.ret ?_
      refine WP.blkRet ?_
      refine WP.thenRet ?_
      refine WP.thenRet ?_
      refine WP.blkRet ?_
      refine WP.ret0 rfl rfl Try.results111  (fun w1 hI => by
        obtain ⟨htt, _⟩ | ⟨_, hK5⟩ := hK5
        · simp_all
        · exact ⟨_, D5, hp5, rfl, hX1.trans hX5 (Nat.le_refl _), hI, hSp _ _ hK5, .inr hK5⟩)
    · try simp only [zq1, zq2, zq3, zq4, zq5, zq6, zq7, zq8] at c17
      refine WC.skip ?_
      refine WP.blkNormal ?_
      refine WP.thenC ?_
      refine WC.ofFr [(0, _), (1, _), (3, _)] ⟨rfl, rfl, rfl, trivial⟩ ?_
      refine WC.region ?_
      refine WL.yd (Yd.move rfl) rfl ?_
      refine WL.yd (Yd.add rfl rfl (wr64 ⟨by omega, by omega⟩)) rfl ?_
      refine WL.yd (Yd.assign rfl) rfl ?_
      refine WL.nil ?_
      obtain ⟨_, hK5⟩ | ⟨hff, _⟩ := hK5
      · refine WP.again (⟨k + 1, D5, hp5⟩ : Nat × Imm × Hp) ⟨by simp only; omega, hX1.trans hX5 (Nat.le_refl _), hK5⟩ (by simp only; omega) (fun a w h => at_fr h ⟨rfl, rfl, by show some (it _) = some (it _); congr 2; push_cast; omega, trivial⟩)
      · simp_all
  · try simp only [zq1, zq2, zq3, zq4, zq5, zq6, zq7, zq8] at c11
    refine WC.exit ?_
    refine WP.thenExit ?_
    refine WP.thenExit ?_
    refine WP.blkHit ?_
    refine WP.ret0 rfl rfl Try.results111  (fun w1 hI => by
      obtain rfl : k = nodes p := by unfold nodes at hk ⊢; omega
      exact ⟨_, D1, hp1, rfl, hX1, hI, (hSt _ _ _ hS1).2, .inl hS1⟩)

set_option maxRecDepth 100000 in
set_option maxHeartbeats 1000000 in
theorem set_g (F : FM) (es : Array MapEntry) (clock bm : Nat) (y : Nd2) (v : Int) (D : Imm) (w : World) (hM : MapF es clock F) (hI0 : Inv D [(bm, .map es clock)] [bm] w w) : Alters Try.prog 97 [.map (some bm), ndV y, it v] w D [bm] (fun _ D' hp' => D = D' ∧ ∃ es1 clock1, hp' = [(bm, .map es1 clock1)] ∧ MapF es1 clock1 (setN F y.1.val y.2.val v)) := by
  unfold Alters
  refine enter Try.func97 rfl 24 Try.ntmps97 (Nat.le_of_ble_eq_true rfl) hI0 ?_
  refine WC.seq ?_
  refine WC.ofFr [(0, _), (1, _), (2, _)] ⟨rfl, rfl, rfl, trivial⟩ ?_
  refine WC.region ?_
  refine WL.so (SO.box rfl (cs := [_, _]) rfl) rfl ?_
  rintro _ _ _ ⟨b4, hb4, rfl, rfl, rfl⟩
  refine WL.nil ?_
  refine WP.thenC ?_
  refine WC.seq ?_
  refine WC.ofFr [(4, _), (0, _), (2, _)] ⟨rfl, rfl, rfl, trivial⟩ ?_
  refine WC.region ?_
  refine WL.yd (Yd.move rfl) rfl ?_
  refine WL.yd (Yd.loadN Try.isAgg79 Try.sizeOf79 rfl (vs := [_, _]) rfl (by first | exact RdN.own (k := 0) (n := 2) rfl rfl)) rfl ?_
  refine WL.yd (Yd.lookOk (kv := ndV) (y := y) (j := 1) ndV_inj law79 key_nd Try.underlying73 Try.zeroValue3 rfl rfl rfl hM) rfl ?_
  refine WL.yd (Yd.move rfl) rfl ?_
  refine WL.yd (Yd.extract rfl rfl) rfl ?_
  refine WL.yd (Yd.extract rfl rfl) rfl ?_
  refine WL.yd (Yd.assign rfl) rfl ?_
  refine WL.yd (Yd.assign rfl) rfl ?_
  refine WL.nil ?_
  refine WP.thenC ?_
  refine WC.seq ?_
  refine WC.ofFr [(7, _), (6, _), (4, _), (0, _), (2, _)] ⟨rfl, rfl, rfl, rfl, rfl, trivial⟩ ?_
  refine WC.region ?_
  refine WL.yd (Yd.move rfl) rfl ?_
  refine WL.yd (Yd.not rfl) rfl ?_
  refine WL.yd (Yd.move rfl) rfl ?_
  refine WL.part 16 rfl (fun g16 => ?_) (fun g16 => ?_)
  · try simp only [zq1, zq2, zq3, zq4, zq5, zq6, zq7, zq8] at g16
    refine WL.skip rfl rfl ?_
    refine WL.skip rfl rfl ?_
    refine WL.skip rfl rfl ?_
    refine WL.yd (Yd.pickT rfl rfl) rfl ?_
    refine WL.nil ?_
    refine WP.thenC ?_
    refine WC.condT rfl ?_
    refine WC.ofFr [(4, _), (0, _), (2, _)] ⟨rfl, rfl, rfl, trivial⟩ ?_
    refine WC.region ?_
    refine WL.yd (Yd.move rfl) rfl ?_
    refine WL.yd (Yd.loadN Try.isAgg79 Try.sizeOf79 rfl (vs := [_, _]) rfl (by first | exact RdN.own (k := 0) (n := 2) rfl rfl)) rfl ?_
    refine WL.yd (Yd.move rfl) rfl ?_
    refine WL.so (SO.mapPut (kv := ndV) (y := y) (j := 1) ndV_inj law79 key_nd Try.underlying73 rfl rfl rfl rfl hM) rfl ?_
    rintro _ _ _ ⟨rfl, es1, clock1, rfl, hM1⟩
    refine WL.nil ?_
    refine WP.ret0 rfl rfl Try.results97  (fun w1 hI => by
      first
        | exact ⟨_, D, _, rfl, DExt.refl _ _, hI.drop 1, fun _ h => h, rfl, es1, clock1, rfl, by
            rw [set_yes (by first | exact .inl (by simpa using g16) | exact .inr (by simpa using c20))]
            unfold MapF
            rw [← mapF_put]; exact hM1⟩
        | exact ⟨_, D, _, rfl, DExt.refl _ _, hI.drop 1, fun _ h => h, rfl, es, clock, rfl, by
            rw [set_no (by simpa using g16) (by simpa using c20)]; exact hM⟩)
  · try simp only [zq1, zq2, zq3, zq4, zq5, zq6, zq7, zq8] at g16
    refine WL.ydg rfl (Yd.move rfl) rfl ?_
    refine WL.ydg rfl (Yd.move rfl) rfl ?_
    refine WL.ydg rfl (Yd.lss rfl rfl) rfl ?_
    refine WL.yd (Yd.pickF rfl rfl) rfl ?_
    refine WL.nil ?_
    refine WP.thenC ?_
    refine WC.cond rfl (fun c20 => ?_) (fun c20 => ?_)
    · try simp only [zq1, zq2, zq3, zq4, zq5, zq6, zq7, zq8] at c20
      refine WC.ofFr [(4, _), (0, _), (2, _)] ⟨rfl, rfl, rfl, trivial⟩ ?_
      refine WC.region ?_
      refine WL.yd (Yd.move rfl) rfl ?_
      refine WL.yd (Yd.loadN Try.isAgg79 Try.sizeOf79 rfl (vs := [_, _]) rfl (by first | exact RdN.own (k := 0) (n := 2) rfl rfl)) rfl ?_
      refine WL.yd (Yd.move rfl) rfl ?_
      refine WL.so (SO.mapPut (kv := ndV) (y := y) (j := 1) ndV_inj law79 key_nd Try.underlying73 rfl rfl rfl rfl hM) rfl ?_
      rintro _ _ _ ⟨rfl, es1, clock1, rfl, hM1⟩
      refine WL.nil ?_
      refine WP.ret0 rfl rfl Try.results97  (fun w1 hI => by
        first
          | exact ⟨_, D, _, rfl, DExt.refl _ _, hI.drop 1, fun _ h => h, rfl, es1, clock1, rfl, by
              rw [set_yes (by first | exact .inl (by simpa using g16) | exact .inr (by simpa using c20))]
              unfold MapF
              rw [← mapF_put]; exact hM1⟩
          | exact ⟨_, D, _, rfl, DExt.refl _ _, hI.drop 1, fun _ h => h, rfl, es, clock, rfl, by
              rw [set_no (by simpa using g16) (by simpa using c20)]; exact hM⟩)
    · try simp only [zq1, zq2, zq3, zq4, zq5, zq6, zq7, zq8] at c20
      refine WC.skip ?_
      refine WP.ret0 rfl rfl Try.results97  (fun w1 hI => by
        first
          | exact ⟨_, D, _, rfl, DExt.refl _ _, hI.drop 1, fun _ h => h, rfl, es1, clock1, rfl, by
              rw [set_yes (by first | exact .inl (by simpa using g16) | exact .inr (by simpa using c20))]
              unfold MapF
              rw [← mapF_put]; exact hM1⟩
          | exact ⟨_, D, _, rfl, DExt.refl _ _, hI.drop 1, fun _ h => h, rfl, es, clock, rfl, by
              rw [set_no (by simpa using g16) (by simpa using c20)]; exact hM⟩)

end Go.Proofs.Ytkhmmefgllbobaa
namespace Go.Proofs.Ytkhmmefgllbobaa
open Go.W Go.Po
theorem FA79_0 : FieldAt Try.prog 79 0 0 := FieldAt.mk (t := 3) (off := 0) Try.underlying79 rfl Try.sizeOf3 (by decide)
theorem FA79_1 : FieldAt Try.prog 79 1 1 := FieldAt.mk (t := 3) (off := 1) Try.underlying79 rfl Try.sizeOf3 (by decide)
theorem FA130_0 : FieldAt Try.prog 130 0 0 := FieldAt.mk (t := 79) (off := 0) Try.underlying130 rfl Try.sizeOf79 (by decide)
theorem FA132_0 : FieldAt Try.prog 132 0 0 := FieldAt.mk (t := 130) (off := 0) Try.underlying132 rfl Try.sizeOf130 (by decide)
theorem ruleIn_nd {p : Post} {r : Rule} (h : RuleIn p r) (h5 : p.bathers.length ≤ 5) : ∃ y : Nd2, y.1.val = ix r.to ∧ y.2.val = ix r.fr ∧ Value.agg #[it r.to, it r.fr] = ndV y := ndV_of (by have := h.2; omega) (by have := h.1; omega)

set_option maxRecDepth 100000 in
set_option maxHeartbeats 1000000 in
theorem put1_g (F : FM) (es : Array MapEntry) (clock bm : Nat) (p : Post) (r : Rule) (hr : RuleIn p r) (h5 : p.bathers.length ≤ 5) (D : Imm) (w : World) (hM : MapF es clock F) (hI0 : Inv D [(bm, .map es clock)] [bm] w w) : Alters Try.prog 135 [.agg #[it r.fr, it r.to], .map (some bm)] w D [bm] (fun _ D' hp' => D = D' ∧ ∃ es1 clock1, hp' = [(bm, .map es1 clock1)] ∧ MapF es1 clock1 (setN F (ix r.to) (ix r.fr) 0)) := by
  unfold Alters
  obtain ⟨y, hy1, hy2, hyv⟩ := ruleIn_nd hr h5
  refine enter Try.func135 rfl 13 Try.ntmps135 (Nat.le_of_ble_eq_true rfl) hI0 ?_
  refine WC.seq ?_
  refine WC.ofFr [(0, _), (1, _)] ⟨rfl, rfl, trivial⟩ ?_
  refine WC.region ?_
  refine WL.so (SO.box rfl rfl) rfl ?_
  rintro _ _ _ ⟨b2, hb2, rfl, rfl, rfl⟩ -- NEW
  refine WL.nil ?_
  refine WP.thenC ?_
  refine WC.ofFr [(2, _), (1, _)] ⟨rfl, rfl, trivial⟩ ?_
  refine WC.region ?_
  refine WL.yd (Yd.move rfl) rfl ?_
  refine WL.yd (Yd.fieldAddr FA130_0 rfl) rfl ?_
  refine WL.yd (Yd.fieldAddr FA79_1 rfl) rfl ?_
  refine WL.yd (Yd.load1 Try.isAgg3 rfl (by first | exact Rd.own (k := 0) rfl rfl | exact Rd.own (k := 1) rfl rfl)) rfl ?_
  refine WL.yd (Yd.fieldAddr FA130_0 rfl) rfl ?_
  refine WL.yd (Yd.fieldAddr FA79_0 rfl) rfl ?_
  refine WL.yd (Yd.load1 Try.isAgg3 rfl (by first | exact Rd.own (k := 0) rfl rfl | exact Rd.own (k := 1) rfl rfl)) rfl ?_
  refine WL.yd (Yd.build SA79 rfl (cs := [_, _]) rfl) rfl ?_
  refine WL.know 11 (ndV y) rfl hyv ?_
  refine WL.so (SO.alters (own := [_]) (hpc := [_]) (S1 := [bm]) (fun _ h => h) (fun h => h) (fun _ h => h) (fun _ h => h) (Enters.func Try.call97 rfl) (fun w1 hI => set_g F es clock bm y 0 D w1 hM hI)) rfl ?_
  rintro _ _ _ ⟨_, hX1, ⟨rfl, es1, clock1, rfl, hM1⟩, rfl⟩
  refine WL.nil ?_
  refine WP.ret0 rfl rfl Try.results135  (fun w1 hI => ⟨_, D, _, rfl, DExt.refl _ _, hI.drop 1, fun _ h => h, rfl, es1, clock1, rfl, by rw [hy1, hy2] at hM1; exact hM1⟩)

set_option maxRecDepth 100000 in
set_option maxHeartbeats 1000000 in
theorem put2_g (F : FM) (es : Array MapEntry) (clock bm : Nat) (p : Post) (r : Rule) (hr : RuleIn p r) (h5 : p.bathers.length ≤ 5) (D : Imm) (w : World) (hM : MapF es clock F) (hI0 : Inv D [(bm, .map es clock)] [bm] w w) : Alters Try.prog 136 [.agg #[it r.fr, it r.to], .map (some bm)] w D [bm] (fun _ D' hp' => D = D' ∧ ∃ es1 clock1, hp' = [(bm, .map es1 clock1)] ∧ MapF es1 clock1 (setN (setN F (ix r.to) (ix r.fr) 0) (ix r.to) (ix r.fr) (-1))) := by
  unfold Alters
  obtain ⟨y, hy1, hy2, hyv⟩ := ruleIn_nd hr h5
  refine enter Try.func136 rfl 19 Try.ntmps136 (Nat.le_of_ble_eq_true rfl) hI0 ?_
  refine WC.seq ?_
  refine WC.ofFr [(0, _), (1, _)] ⟨rfl, rfl, trivial⟩ ?_
  refine WC.region ?_
  refine WL.so (SO.box rfl rfl) rfl ?_
  rintro _ _ _ ⟨b2, hb2, rfl, rfl, rfl⟩ -- NEW
  refine WL.nil ?_
  refine WP.thenC ?_
  refine WC.seq ?_
  refine WC.ofFr [(2, _), (1, _)] ⟨rfl, rfl, trivial⟩ ?_
  refine WC.region ?_
  refine WL.yd (Yd.fieldAddr FA132_0 rfl) rfl ?_
  refine WL.yd (Yd.loadN Try.isAgg130 Try.sizeOf130 rfl (vs := [_, _]) rfl (by first | exact RdN.own (k := 0) (n := 2) rfl rfl | exact RdN.own (k := 1) (n := 2) rfl rfl)) rfl ?_
  refine WL.yd (Yd.move rfl) rfl ?_
  refine WL.so (SO.alters (own := [_]) (hpc := [_]) (S1 := [bm]) (fun _ h => h) (fun h => h) (fun _ h => h) (fun _ h => h) (Enters.func Try.call135 rfl) (fun w1 hI => put1_g F es clock bm p r hr h5 D w1 hM hI)) rfl ?_
  rintro _ _ _ ⟨_, hX1, ⟨rfl, es1, clock1, rfl, hM1⟩, rfl⟩
  refine WL.nil ?_
  refine WP.thenC ?_
  refine WC.ofFr [(2, _), (1, _)] ⟨rfl, rfl, trivial⟩ ?_
  refine WC.region ?_
  refine WL.yd (Yd.move rfl) rfl ?_
  refine WL.yd (Yd.fieldAddr FA132_0 rfl) rfl ?_
  refine WL.yd (Yd.fieldAddr FA130_0 rfl) rfl ?_
  refine WL.yd (Yd.fieldAddr FA79_1 rfl) rfl ?_
  refine WL.yd (Yd.load1 Try.isAgg3 rfl (by first | exact Rd.own (k := 0) rfl rfl | exact Rd.own (k := 1) rfl rfl)) rfl ?_
  refine WL.yd (Yd.fieldAddr FA132_0 rfl) rfl ?_
  refine WL.yd (Yd.fieldAddr FA130_0 rfl) rfl ?_
  refine WL.yd (Yd.fieldAddr FA79_0 rfl) rfl ?_
  refine WL.yd (Yd.load1 Try.isAgg3 rfl (by first | exact Rd.own (k := 0) rfl rfl | exact Rd.own (k := 1) rfl rfl)) rfl ?_
  refine WL.yd (Yd.build SA79 rfl (cs := [_, _]) rfl) rfl ?_
  refine WL.know 17 (ndV y) rfl hyv ?_
  refine WL.so (SO.alters (own := [_]) (hpc := [_]) (S1 := [bm]) (fun _ h => h) (fun h => h) (fun _ h => h) (fun _ h => h) (Enters.func Try.call97 rfl) (fun w1 hI => set_g _ es1 clock1 bm y (-1) D w1 hM1 hI)) rfl ?_
  rintro _ _ _ ⟨_, hX2, ⟨rfl, es2, clock2, rfl, hM2⟩, rfl⟩
  refine WL.nil ?_
  refine WP.ret0 rfl rfl Try.results136  (fun w1 hI => ⟨_, D, _, rfl, DExt.refl _ _, hI.drop 1, fun _ h => h, rfl, es2, clock2, rfl, by rw [hy1, hy2] at hM2; exact hM2⟩)

section
variable {x : Cx} {fr : Fr} {D : Imm} {hp : Hp} {ty : TypeId} {Q : Exit → Act → World → Prop}
theorem put_so (F : FM) (es : Array MapEntry) (clock bm : Nat) (p : Post) (r : Rule) (hr : RuleIn p r) (h5 : p.bathers.length ≤ 5) (own : Hp) {o : Operand} {A : List Operand} {ts : Array TypeId} (hhp : hp = own ++ [(bm, .map es clock)]) (hM : MapF es clock F)
    (ho : opv fr o = some (ruleV r)) (ha : opvs fr A = some [.map (some bm)]) :
    SO Try.prog x fr D hp (.call ⟨.invoke o "dipworks/post.put", A.toArray, ts⟩) ty Q (AltK x.w0 D own (fun _ D' hp' => D = D' ∧ ∃ es1 clock1, hp' = [(bm, .map es1 clock1)] ∧ MapF es1 clock1 (putR F r))) := by
  subst hhp
  cases hb : r.bef with
  | true =>
    have hv : opv fr o = some (.iface 132 (.agg #[it r.fr, it r.to])) := by rw [ho]; unfold ruleV; rw [hb]; rfl
    have he : putR F r = setN (setN F (ix r.to) (ix r.fr) 0) (ix r.to) (ix r.fr) (-1) := by unfold putR; rw [hb]; rfl
    rw [he]
    exact SO.alters (own := own) (hpc := [_]) (S1 := [bm]) (fun _ h => h) (fun h => h) (fun _ h => h) (fun _ h => h) (Enters.meth Try.call136 (fun w => by kernel_rfl) hv ha) (fun w1 hI => put2_g F es clock bm p r hr h5 D w1 hM hI)
  | false =>
    have hv : opv fr o = some (.iface 130 (.agg #[it r.fr, it r.to])) := by rw [ho]; unfold ruleV; rw [hb]; rfl
    have he : putR F r = setN F (ix r.to) (ix r.fr) 0 := by unfold putR; rw [hb]; rfl
    rw [he]
    exact SO.alters (own := own) (hpc := [_]) (S1 := [bm]) (fun _ h => h) (fun h => h) (fun _ h => h) (fun _ h => h) (Enters.meth Try.call135 (fun w => by kernel_rfl) hv ha) (fun w1 hI => put1_g F es clock bm p r hr h5 D w1 hM hI)
end

end Go.Proofs.Ytkhmmefgllbobaa
