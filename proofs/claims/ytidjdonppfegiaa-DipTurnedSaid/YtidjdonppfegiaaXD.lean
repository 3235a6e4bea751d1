import Derived.Test.YtidjdonppfegiaaXC
import Derived.Test.YtidjdonppfegiaaXA
import Derived.Test.YtidjdonppfegiaaXM
set_option linter.unusedSimpArgs false
set_option linter.unusedVariables false
set_option linter.all false
namespace Go.Proofs.Ytidjdonppfegiaa
open Go.W Go.Dp
theorem FA114_0 : FieldAt Try.prog 114 0 0 := FieldAt.mk (t := 29) (off := 0) Try.underlying114 rfl Try.sizeOf29 (by decide)
theorem SA114 : StructAt Try.prog 114 [.int .i64 0] [(0, 1)] := ⟨⟨_, Try.zeroValue114, rfl⟩, _, Try.underlying114, fun w => by simp [Try.sizeOf29]⟩
def stopC (e : Int) : List PanicEntry := [{ v := .iface 114 (.agg #[it e]), recovered := false }]

set_option maxRecDepth 100000 in
set_option maxHeartbeats 1000000 in
theorem within_g (n lo hi : Int) (w : World) : Gives Try.prog 88 [it n, it lo, it hi] w (.bool (inB n lo hi)) := by
  unfold Gives
  refine enter Try.func88 rfl 15 Try.ntmps88 (Nat.le_of_ble_eq_true rfl) (Inv.start (D := fun _ => none) (by intro _ _ h; cases h)) ?_
  refine WC.seq ?_
  refine WC.ofFr [(0, _), (1, _), (2, _)] ⟨rfl, rfl, rfl, trivial⟩ ?_
  refine WC.region ?_
  refine WL.yd (Yd.assign rfl) rfl ?_
  refine WL.nil ?_
  refine WP.thenC ?_
  refine WC.seq ?_
  refine WC.ofFr [(6, _), (0, _), (1, _), (2, _)] ⟨rfl, rfl, rfl, rfl, trivial⟩ ?_
  refine WC.region ?_
  refine WL.yd (Yd.move rfl) rfl ?_
  refine WL.yd (Yd.move rfl) rfl ?_
  refine WL.yd (Yd.leq rfl rfl) rfl ?_
  refine WL.yd (Yd.move rfl) rfl ?_
  refine WL.part 10 rfl (fun g10 => ?_) (fun g10 => ?_)
  · try simp only [zq1, zq2, zq3, zq4, zq5, zq6, zq7, zq8] at g10
    refine WL.ydg rfl (Yd.move rfl) rfl ?_
    refine WL.ydg rfl (Yd.move rfl) rfl ?_
    refine WL.ydg rfl (Yd.leq rfl rfl) rfl ?_
    refine WL.yd (Yd.pickT rfl rfl) rfl ?_
    refine WL.yd (Yd.assign rfl) rfl ?_
    refine WL.nil ?_
    refine WP.thenC ?_
    refine WC.ret ?_
    refine WP.ret1 rfl rfl Try.results88 (RV.tmp rfl) (fun w hI => ⟨ret_bool (by rw [Bool.eq_iff_iff]; simp [inB]; omega), hI.keep⟩)
  · try simp only [zq1, zq2, zq3, zq4, zq5, zq6, zq7, zq8] at g10
    refine WL.skip rfl rfl ?_
    refine WL.skip rfl rfl ?_
    refine WL.skip rfl rfl ?_
    refine WL.yd (Yd.pickF rfl rfl) rfl ?_
    refine WL.yd (Yd.assign rfl) rfl ?_
    refine WL.nil ?_
    refine WP.thenC ?_
    refine WC.ret ?_
    refine WP.ret1 rfl rfl Try.results88 (RV.tmp rfl) (fun w hI => ⟨ret_bool (by rw [Bool.eq_iff_iff]; simp [inB]; omega), hI.keep⟩)

set_option maxRecDepth 100000 in
set_option maxHeartbeats 1000000 in
theorem must_ok (e : Int) (w : World) : Gives Try.prog 52 [.bool true, it e] w (.tuple #[]) := by
  unfold Gives
  refine enter Try.func52 rfl 9 Try.ntmps52 (Nat.le_of_ble_eq_true rfl) (Inv.start (D := fun _ => none) (by intro _ _ h; cases h)) ?_
  refine WC.seq ?_
  refine WC.ofFr [(0, _), (1, _)] ⟨rfl, rfl, trivial⟩ ?_
  refine WC.region ?_
  refine WL.yd (Yd.move rfl) rfl ?_
  refine WL.yd (Yd.not rfl) rfl ?_
  refine WL.nil ?_
  refine WP.thenC ?_
  refine WC.condF rfl ?_
  refine WC.skip ?_
  refine WP.ret0 rfl rfl Try.results52  (fun w hI => ⟨rfl, hI.keep⟩)

set_option maxRecDepth 100000 in
set_option maxHeartbeats 1000000 in
theorem must_no (e : Int) (w : World) : Fails Try.prog 52 [.bool false, it e] w (stopC e) := by
  unfold Fails
  refine enter Try.func52 rfl 9 Try.ntmps52 (Nat.le_of_ble_eq_true rfl) (Inv.start (D := fun _ => none) (by intro _ _ h; cases h)) ?_
  refine WC.seq ?_
  refine WC.ofFr [(0, _), (1, _)] ⟨rfl, rfl, trivial⟩ ?_
  refine WC.region ?_
  refine WL.yd (Yd.move rfl) rfl ?_
  refine WL.yd (Yd.not rfl) rfl ?_
  refine WL.nil ?_
  refine WP.thenC ?_
  refine WC.condT rfl ?_
  refine WC.ofFr [(1, _)] ⟨rfl, trivial⟩ ?_
  refine WC.region ?_
  refine WL.yd (Yd.move rfl) rfl ?_
  refine WL.yd (Yd.build SA114 rfl (cs := [_]) rfl) rfl ?_
  refine WL.yd (Yd.iface Try.underlying114 (by intro _ h; cases h) rfl) rfl ?_
  refine WL.no (SO.panic rfl ?_)
  refine WP.panicBody rfl (fun w hI => ⟨rfl, hI.keep⟩)

set_option maxRecDepth 100000 in
set_option maxHeartbeats 1000000 in
theorem stopped_nil (v : Value) (w : World) : Gives Try.prog 48 [.nilIface, v] w (.tuple #[]) := by
  unfold Gives
  refine enter Try.func48 rfl 20 Try.ntmps48 (Nat.le_of_ble_eq_true rfl) (Inv.start (D := fun _ => none) (by intro _ _ h; cases h)) ?_
  refine WC.seq ?_
  refine WC.seq ?_
  refine WC.ofFr [(0, _), (1, _)] ⟨rfl, rfl, trivial⟩ ?_
  refine WC.region ?_
  refine WL.yd (Yd.move rfl) rfl ?_
  refine WL.yd (Yd.eqlNilNil Try.underlying20 rfl) rfl ?_
  refine WL.nil ?_
  refine WP.thenC ?_
  refine WC.condT rfl ?_
  refine WC.ret ?_
  refine WP.thenRet ?_
  refine WP.ret0 rfl rfl Try.results48  (fun w hI => ⟨rfl, hI.keep⟩)

set_option maxRecDepth 100000 in
set_option maxHeartbeats 1000000 in
theorem stopped_yes (e v0 : Int) (b : Nat) (t : TypeId) (w : World) (hb : w.heap[b]? = some (.cells (List.toArray [it v0]) t (0, 0))) : Calls Try.prog 48 (List.toArray [.iface 114 (.agg #[it e]), pt b]) w fun en w' => (en = .returned (.tuple #[]) ∧ Keep [b] w w') ∧ w'.heap[b]? = some (.cells (List.toArray [it e]) t (0, 0)) := by
  refine enter Try.func48 rfl 20 Try.ntmps48 (Nat.le_of_ble_eq_true rfl) (Inv.one hb) ?_
  refine WC.seq ?_
  refine WC.seq ?_
  refine WC.ofFr [(0, _), (1, _)] ⟨rfl, rfl, trivial⟩ ?_
  refine WC.region ?_
  refine WL.yd (Yd.move rfl) rfl ?_
  refine WL.yd (Yd.eqlNil Try.underlying20 rfl) rfl ?_
  refine WL.nil ?_
  refine WP.thenC ?_
  refine WC.condF rfl ?_
  refine WC.skip ?_
  refine WP.thenC ?_
  refine WC.seq ?_
  refine WC.ofFr [(0, _), (1, _)] ⟨rfl, rfl, trivial⟩ ?_
  refine WC.region ?_
  refine WL.yd (Yd.move rfl) rfl ?_
  refine WL.yd (Yd.assert Try.underlying114 (by intro _ h; cases h) rfl) rfl ?_
  refine WL.yd (Yd.move rfl) rfl ?_
  refine WL.yd (Yd.extract rfl rfl) rfl ?_
  refine WL.yd (Yd.extract rfl rfl) rfl ?_
  refine WL.so (SO.alloc Try.zeroValue114 rfl) rfl ?_
  rintro _ _ _ ⟨b4, hb4, rfl, rfl, rfl⟩ -- NEW
  refine WL.so (SO.store 0 rfl Try.sizeOf114 rfl rfl rfl rfl (Nat.le_of_ble_eq_true rfl) (oneB_spec rfl)) rfl ?_
  rintro _ _ _ ⟨rfl, rfl, rfl⟩
  refine WL.yd (Yd.assign rfl) rfl ?_
  refine WL.nil ?_
  refine WP.thenC ?_
  refine WC.seq ?_
  refine WC.seq ?_
  refine WC.ofFr [(5, _), (4, _), (0, _), (1, _)] ⟨rfl, rfl, rfl, rfl, trivial⟩ ?_
  refine WC.region ?_
  refine WL.yd (Yd.move rfl) rfl ?_
  refine WL.yd (Yd.not rfl) rfl ?_
  refine WL.nil ?_
  refine WP.thenC ?_
  refine WC.condF rfl ?_
  refine WC.skip ?_
  refine WP.thenC ?_
  refine WC.ofFr [(4, _), (1, _)] ⟨rfl, rfl, trivial⟩ ?_
  refine WC.region ?_
  refine WL.yd (Yd.move rfl) rfl ?_
  refine WL.yd (Yd.fieldAddr FA114_0 rfl) rfl ?_
  refine WL.yd (Yd.load1 Try.isAgg29 rfl (by first | exact Rd.own (k := 0) rfl rfl | exact Rd.own (k := 1) rfl rfl)) rfl ?_
  refine WL.yd (Yd.nilCheck rfl) rfl ?_
  refine WL.so (SO.store 1 rfl Try.sizeOf29 rfl rfl rfl rfl (Nat.le_of_ble_eq_true rfl) (oneB_spec rfl)) rfl ?_
  rintro _ _ _ ⟨rfl, rfl, rfl⟩
  refine WL.nil ?_
  refine WP.ret0 rfl rfl Try.results48  (fun w hI => ⟨⟨rfl, hI.keep⟩, hI.own _ _ (List.mem_of_getElem? (i := 1) rfl)⟩)

theorem idle47 (b : Nat) (w : World) : Idle Try.prog 47 [pt b] w := by
  refine callsD_of_wpS Try.func47 rfl fun c₀ cs hu => ?_
  apply wpS_region
  simp [wpOpsS, go_sem, recoverD, hu, Try.ntmps47]
  refine (stopped_nil (pt b) w).mono ?_
  rintro e w' ⟨rfl, hk⟩
  cases c₀
  simp only at hu
  subst hu
  simp [bodyPostS, results, Try.results47, hk]
theorem catch47 (b : Nat) (e v0 : Int) (t : TypeId) (w : World) (hb : w.heap[b]? = some (.cells (List.toArray [it v0]) t (0, 0))) : Catch Try.prog 47 [pt b] (.iface 114 (.agg #[it e])) b (.cells (List.toArray [it e]) t (0, 0)) w := by
  refine callsD_of_wpS Try.func47 rfl fun c₀ cs hu => ?_
  apply wpS_region
  simp [wpOpsS, go_sem, recoverD, hu, Try.ntmps47]
  refine (stopped_yes e v0 b t w hb).mono ?_
  rintro en w' ⟨⟨rfl, hk⟩, hb'⟩
  cases c₀
  simp only at hu
  subst hu
  simp [bodyPostS, results, Try.results47, hk, hb']

theorem idle55 (b : Nat) (w : World) : Idle Try.prog 55 [pt b] w := by
  refine callsD_of_wpS Try.func55 rfl fun c₀ cs hu => ?_
  apply wpS_region
  simp [wpOpsS, go_sem, recoverD, hu, Try.ntmps55]
  refine (stopped_nil (pt b) w).mono ?_
  rintro e w' ⟨rfl, hk⟩
  cases c₀
  simp only at hu
  subst hu
  simp [bodyPostS, results, Try.results55, hk]
theorem catch55 (b : Nat) (e v0 : Int) (t : TypeId) (w : World) (hb : w.heap[b]? = some (.cells (List.toArray [it v0]) t (0, 0))) : Catch Try.prog 55 [pt b] (.iface 114 (.agg #[it e])) b (.cells (List.toArray [it e]) t (0, 0)) w := by
  refine callsD_of_wpS Try.func55 rfl fun c₀ cs hu => ?_
  apply wpS_region
  simp [wpOpsS, go_sem, recoverD, hu, Try.ntmps55]
  refine (stopped_yes e v0 b t w hb).mono ?_
  rintro en w' ⟨⟨rfl, hk⟩, hb'⟩
  cases c₀
  simp only at hu
  subst hu
  simp [bodyPostS, results, Try.results55, hk, hb']

theorem idle58 (b : Nat) (w : World) : Idle Try.prog 58 [pt b] w := by
  refine callsD_of_wpS Try.func58 rfl fun c₀ cs hu => ?_
  apply wpS_region
  simp [wpOpsS, go_sem, recoverD, hu, Try.ntmps58]
  refine (stopped_nil (pt b) w).mono ?_
  rintro e w' ⟨rfl, hk⟩
  cases c₀
  simp only at hu
  subst hu
  simp [bodyPostS, results, Try.results58, hk]
theorem catch58 (b : Nat) (e v0 : Int) (t : TypeId) (w : World) (hb : w.heap[b]? = some (.cells (List.toArray [it v0]) t (0, 0))) : Catch Try.prog 58 [pt b] (.iface 114 (.agg #[it e])) b (.cells (List.toArray [it e]) t (0, 0)) w := by
  refine callsD_of_wpS Try.func58 rfl fun c₀ cs hu => ?_
  apply wpS_region
  simp [wpOpsS, go_sem, recoverD, hu, Try.ntmps58]
  refine (stopped_yes e v0 b t w hb).mono ?_
  rintro en w' ⟨⟨rfl, hk⟩, hb'⟩
  cases c₀
  simp only at hu
  subst hu
  simp [bodyPostS, results, Try.results58, hk, hb']

theorem idle66 (b : Nat) (w : World) : Idle Try.prog 66 [pt b] w := by
  refine callsD_of_wpS Try.func66 rfl fun c₀ cs hu => ?_
  apply wpS_region
  simp [wpOpsS, go_sem, recoverD, hu, Try.ntmps66]
  refine (stopped_nil (pt b) w).mono ?_
  rintro e w' ⟨rfl, hk⟩
  cases c₀
  simp only at hu
  subst hu
  simp [bodyPostS, results, Try.results66, hk]
theorem catch66 (b : Nat) (e v0 : Int) (t : TypeId) (w : World) (hb : w.heap[b]? = some (.cells (List.toArray [it v0]) t (0, 0))) : Catch Try.prog 66 [pt b] (.iface 114 (.agg #[it e])) b (.cells (List.toArray [it e]) t (0, 0)) w := by
  refine callsD_of_wpS Try.func66 rfl fun c₀ cs hu => ?_
  apply wpS_region
  simp [wpOpsS, go_sem, recoverD, hu, Try.ntmps66]
  refine (stopped_yes e v0 b t w hb).mono ?_
  rintro en w' ⟨⟨rfl, hk⟩, hb'⟩
  cases c₀
  simp only at hu
  subst hu
  simp [bodyPostS, results, Try.results66, hk, hb']

theorem idle70 (b : Nat) (w : World) : Idle Try.prog 70 [pt b] w := by
  refine callsD_of_wpS Try.func70 rfl fun c₀ cs hu => ?_
  apply wpS_region
  simp [wpOpsS, go_sem, recoverD, hu, Try.ntmps70]
  refine (stopped_nil (pt b) w).mono ?_
  rintro e w' ⟨rfl, hk⟩
  cases c₀
  simp only at hu
  subst hu
  simp [bodyPostS, results, Try.results70, hk]
theorem catch70 (b : Nat) (e v0 : Int) (t : TypeId) (w : World) (hb : w.heap[b]? = some (.cells (List.toArray [it v0]) t (0, 0))) : Catch Try.prog 70 [pt b] (.iface 114 (.agg #[it e])) b (.cells (List.toArray [it e]) t (0, 0)) w := by
  refine callsD_of_wpS Try.func70 rfl fun c₀ cs hu => ?_
  apply wpS_region
  simp [wpOpsS, go_sem, recoverD, hu, Try.ntmps70]
  refine (stopped_yes e v0 b t w hb).mono ?_
  rintro en w' ⟨⟨rfl, hk⟩, hb'⟩
  cases c₀
  simp only at hu
  subst hu
  simp [bodyPostS, results, Try.results70, hk, hb']

theorem idle73 (b : Nat) (w : World) : Idle Try.prog 73 [pt b] w := by
  refine callsD_of_wpS Try.func73 rfl fun c₀ cs hu => ?_
  apply wpS_region
  simp [wpOpsS, go_sem, recoverD, hu, Try.ntmps73]
  refine (stopped_nil (pt b) w).mono ?_
  rintro e w' ⟨rfl, hk⟩
  cases c₀
  simp only at hu
  subst hu
  simp [bodyPostS, results, Try.results73, hk]
theorem catch73 (b : Nat) (e v0 : Int) (t : TypeId) (w : World) (hb : w.heap[b]? = some (.cells (List.toArray [it v0]) t (0, 0))) : Catch Try.prog 73 [pt b] (.iface 114 (.agg #[it e])) b (.cells (List.toArray [it e]) t (0, 0)) w := by
  refine callsD_of_wpS Try.func73 rfl fun c₀ cs hu => ?_
  apply wpS_region
  simp [wpOpsS, go_sem, recoverD, hu, Try.ntmps73]
  refine (stopped_yes e v0 b t w hb).mono ?_
  rintro en w' ⟨⟨rfl, hk⟩, hb'⟩
  cases c₀
  simp only at hu
  subst hu
  simp [bodyPostS, results, Try.results73, hk, hb']

theorem idle78 (b : Nat) (w : World) : Idle Try.prog 78 [pt b] w := by
  refine callsD_of_wpS Try.func78 rfl fun c₀ cs hu => ?_
  apply wpS_region
  simp [wpOpsS, go_sem, recoverD, hu, Try.ntmps78]
  refine (stopped_nil (pt b) w).mono ?_
  rintro e w' ⟨rfl, hk⟩
  cases c₀
  simp only at hu
  subst hu
  simp [bodyPostS, results, Try.results78, hk]
theorem catch78 (b : Nat) (e v0 : Int) (t : TypeId) (w : World) (hb : w.heap[b]? = some (.cells (List.toArray [it v0]) t (0, 0))) : Catch Try.prog 78 [pt b] (.iface 114 (.agg #[it e])) b (.cells (List.toArray [it e]) t (0, 0)) w := by
  refine callsD_of_wpS Try.func78 rfl fun c₀ cs hu => ?_
  apply wpS_region
  simp [wpOpsS, go_sem, recoverD, hu, Try.ntmps78]
  refine (stopped_yes e v0 b t w hb).mono ?_
  rintro en w' ⟨⟨rfl, hk⟩, hb'⟩
  cases c₀
  simp only at hu
  subst hu
  simp [bodyPostS, results, Try.results78, hk, hb']

theorem idle82 (b : Nat) (w : World) : Idle Try.prog 82 [pt b] w := by
  refine callsD_of_wpS Try.func82 rfl fun c₀ cs hu => ?_
  apply wpS_region
  simp [wpOpsS, go_sem, recoverD, hu, Try.ntmps82]
  refine (stopped_nil (pt b) w).mono ?_
  rintro e w' ⟨rfl, hk⟩
  cases c₀
  simp only at hu
  subst hu
  simp [bodyPostS, results, Try.results82, hk]
theorem catch82 (b : Nat) (e v0 : Int) (t : TypeId) (w : World) (hb : w.heap[b]? = some (.cells (List.toArray [it v0]) t (0, 0))) : Catch Try.prog 82 [pt b] (.iface 114 (.agg #[it e])) b (.cells (List.toArray [it e]) t (0, 0)) w := by
  refine callsD_of_wpS Try.func82 rfl fun c₀ cs hu => ?_
  apply wpS_region
  simp [wpOpsS, go_sem, recoverD, hu, Try.ntmps82]
  refine (stopped_yes e v0 b t w hb).mono ?_
  rintro en w' ⟨⟨rfl, hk⟩, hb'⟩
  cases c₀
  simp only at hu
  subst hu
  simp [bodyPostS, results, Try.results82, hk, hb']

end Go.Proofs.Ytidjdonppfegiaa
namespace Go.Proofs.Ytidjdonppfegiaa
open Go.W Go.Dp
theorem SA82 : StructAt Try.prog 82 [] [] := ⟨⟨_, Try.zeroValue82, rfl⟩, _, Try.underlying82, fun w => by simp []⟩
theorem SA89 : StructAt Try.prog 89 [.int .i64 0, .slice none 0 0, .slice none 0 0, .nilIface] [(0, 3), (3, 1)] := ⟨⟨_, Try.zeroValue89, rfl⟩, _, Try.underlying89, fun w => by simp [Try.sizeOf25, Try.sizeOf87]⟩
set_option maxRecDepth 100000 in
set_option maxHeartbeats 1000000 in
theorem span2_g (s : Sp) (lo hi : Int) (w : World) : Gives Try.prog 89 [.agg #[it s.lo, it s.hi], it lo, it hi] w (.bool (spanB s lo hi)) := by
  unfold Gives
  refine enter Try.func89 rfl 24 Try.ntmps89 (Nat.le_of_ble_eq_true rfl) (Inv.start (D := fun _ => none) (by intro _ _ h; cases h)) ?_
  refine WC.seq ?_
  refine WC.ofFr [(0, _), (1, _), (2, _)] ⟨rfl, rfl, rfl, trivial⟩ ?_
  refine WC.region ?_
  refine WL.so (SO.box rfl rfl) rfl ?_
  rintro _ _ _ ⟨b3, hb3, rfl, rfl, rfl⟩ -- NEW
  refine WL.yd (Yd.assign rfl) rfl ?_
  refine WL.nil ?_
  refine WP.thenC ?_
  refine WC.seq ?_
  refine WC.ofFr [(6, _), (3, _), (1, _), (2, _)] ⟨rfl, rfl, rfl, rfl, trivial⟩ ?_
  refine WC.region ?_
  refine WL.yd (Yd.move rfl) rfl ?_
  refine WL.yd (Yd.fieldAddr FA35_0 rfl) rfl ?_
  refine WL.yd (Yd.load1 Try.isAgg3 rfl (by first | exact Rd.own (k := 0) rfl rfl)) rfl ?_
  refine WL.yd (Yd.leq rfl rfl) rfl ?_
  refine WL.yd (Yd.move rfl) rfl ?_
  refine WL.part 11 rfl (fun g11 => ?_) (fun g11 => ?_)
  · try simp only [zq1, zq2, zq3, zq4, zq5, zq6, zq7, zq8] at g11
    refine WL.ydg rfl (Yd.fieldAddr FA35_0 rfl) rfl ?_
    refine WL.ydg rfl (Yd.load1 Try.isAgg3 rfl (by first | exact Rd.own (k := 0) rfl rfl)) rfl ?_
    refine WL.ydg rfl (Yd.fieldAddr FA35_1 rfl) rfl ?_
    refine WL.ydg rfl (Yd.load1 Try.isAgg3 rfl (by first | exact Rd.own (k := 0) rfl rfl)) rfl ?_
    refine WL.ydg rfl (Yd.leq rfl rfl) rfl ?_
    refine WL.yd (Yd.pickT rfl rfl) rfl ?_
    refine WL.yd (Yd.move rfl) rfl ?_
    refine WL.part 18 rfl (fun g18 => ?_) (fun g18 => ?_)
    · try simp only [zq1, zq2, zq3, zq4, zq5, zq6, zq7, zq8] at g18
      refine WL.ydg rfl (Yd.fieldAddr FA35_1 rfl) rfl ?_
      refine WL.ydg rfl (Yd.load1 Try.isAgg3 rfl (by first | exact Rd.own (k := 0) rfl rfl)) rfl ?_
      refine WL.ydg rfl (Yd.move rfl) rfl ?_
      refine WL.ydg rfl (Yd.leq rfl rfl) rfl ?_
      refine WL.yd (Yd.pickT rfl rfl) rfl ?_
      refine WL.yd (Yd.assign rfl) rfl ?_
      refine WL.nil ?_
      refine WP.thenC ?_
      refine WC.ret ?_
      refine WP.ret1 rfl rfl Try.results89 (RV.tmp rfl) (fun w hI => ⟨ret_bool (by rw [Bool.eq_iff_iff]; simp [spanB]; omega), hI.keep⟩)
    · try simp only [zq1, zq2, zq3, zq4, zq5, zq6, zq7, zq8] at g18
      refine WL.skip rfl rfl ?_
      refine WL.skip rfl rfl ?_
      refine WL.skip rfl rfl ?_
      refine WL.skip rfl rfl ?_
      refine WL.yd (Yd.pickF rfl rfl) rfl ?_
      refine WL.yd (Yd.assign rfl) rfl ?_
      refine WL.nil ?_
      refine WP.thenC ?_
      refine WC.ret ?_
      refine WP.ret1 rfl rfl Try.results89 (RV.tmp rfl) (fun w hI => ⟨ret_bool (by rw [Bool.eq_iff_iff]; simp [spanB]; omega), hI.keep⟩)
  · try simp only [zq1, zq2, zq3, zq4, zq5, zq6, zq7, zq8] at g11
    refine WL.skip rfl rfl ?_
    refine WL.skip rfl rfl ?_
    refine WL.skip rfl rfl ?_
    refine WL.skip rfl rfl ?_
    refine WL.skip rfl rfl ?_
    refine WL.yd (Yd.pickF rfl rfl) rfl ?_
    refine WL.yd (Yd.move rfl) rfl ?_
    refine WL.skip rfl rfl ?_
    refine WL.skip rfl rfl ?_
    refine WL.skip rfl rfl ?_
    refine WL.skip rfl rfl ?_
    refine WL.yd (Yd.pickF rfl rfl) rfl ?_
    refine WL.yd (Yd.assign rfl) rfl ?_
    refine WL.nil ?_
    refine WP.thenC ?_
    refine WC.ret ?_
    refine WP.ret1 rfl rfl Try.results89 (RV.tmp rfl) (fun w hI => ⟨ret_bool (by rw [Bool.eq_iff_iff]; simp [spanB]; omega), hI.keep⟩)

theorem shl1 (h : Int) (h1 : 1 ≤ h) (h4 : h ≤ 4) : IntKind.i64.wrap (1 * 2 ^ (min h.toNat IntKind.i64.bits)) = ((2 ^ h.toNat : Nat) : Int) := by
  have : h = 1 ∨ h = 2 ∨ h = 3 ∨ h = 4 := by omega
  rcases this with rfl | rfl | rfl | rfl <;> rfl

set_option maxRecDepth 100000 in
set_option maxHeartbeats 1000000 in
theorem set_g (d : Dips) (s1 s2 : Value) (t : TypeId) (b : Nat) (s : Int) (w : World) (hb : w.heap[b]? = some (.cells (List.toArray [it d.hours, s1, s2]) t (0, 0))) (hh : 1 ≤ d.hours ∧ d.hours ≤ 4) : Gives Try.prog 90 [it s, pt b] w (.bool (setB d.hours s)) := by
  unfold Gives
  have hp1 : ((2 ^ d.hours.toNat : Nat) : Int) ≤ ((2 ^ 4 : Nat) : Int) := by exact_mod_cast Nat.pow_le_pow_right (by omega) (by omega)
  have hp0 : (0 : Int) ≤ ((2 ^ d.hours.toNat : Nat) : Int) := Int.natCast_nonneg _
  refine enter Try.func90 rfl 10 Try.ntmps90 (Nat.le_of_ble_eq_true rfl) (Inv.start (Holds.one hb)) ?_
  refine WC.seq ?_
  refine WC.ofFr [(0, _), (1, _)] ⟨rfl, rfl, trivial⟩ ?_
  refine WC.region ?_
  refine WL.yd (Yd.assign rfl) rfl ?_
  refine WL.nil ?_
  refine WP.thenC ?_
  refine WC.seq ?_
  refine WC.ofFr [(3, _), (0, _), (1, _)] ⟨rfl, rfl, rfl, trivial⟩ ?_
  refine WC.region ?_
  refine WL.yd (Yd.move rfl) rfl ?_
  refine WL.yd (Yd.fieldAddr FA25_0 rfl) rfl ?_
  refine WL.yd (Yd.load1 Try.isAgg3 rfl (by first | exact (Rd.imm (Imm.one_self _ _) (off := 0) rfl))) rfl ?_
  refine WL.yd (Yd.shl rfl rfl (by omega) (shl1 d.hours hh.1 hh.2)) rfl ?_
  refine WL.yd (Yd.sub rfl rfl (wr64 ⟨by omega, by omega⟩)) rfl ?_
  refine WL.so (SO.callP Try.call88 rfl (fun w hI => within_g _ _ _ _)) rfl ?_
  rintro _ _ _ ⟨rfl, rfl, rfl⟩
  refine WL.yd (Yd.assign rfl) rfl ?_
  refine WL.nil ?_
  refine WP.thenC ?_
  refine WC.ret ?_
  refine WP.ret1 rfl rfl Try.results90 (RV.tmp rfl) (fun w hI => ⟨rfl, hI.keep⟩)

/-- a beach in memory: dips and a truth -/
def beachC (d : Dips) (s1 s2 t : Value) : List Value := [it d.hours, s1, s2, t]
def BeachAt (D : Imm) (b : Nat) (d : Dips) (s1 s2 t : Value) : Prop := D b = some (.cells (List.toArray [it d.hours, s1, s2, t]) 89 (0, 0))
def worstV : Value := .iface 82 (.agg #[])
def OpenR (d : Dips) (s1 s2 : Value) (D : Imm) (v : Bool) (w : World) (e : Ending) (w' : World) : Prop :=
  (dipsB d = false → e = .panicked (stopC 1) ∧ Keep [] w w') ∧ (dipsB d = true → v = false → e = .panicked (stopC 2) ∧ Keep [] w w') ∧
  (dipsB d = true → v = true → ∃ b D', e = .returned (pt b) ∧ Keep [] w w' ∧ Holds D' w' ∧ DExt w D D' ∧ BeachAt D' b d s1 s2 worstV)

set_option maxRecDepth 100000 in
set_option maxHeartbeats 1000000 in
theorem open_g (d : Dips) (a1 : Option Addr) (n1 c1 : Nat) (a2 : Option Addr) (n2 c2 : Nat) (D : Imm) (w : World) (hR : DipsR D d a1 n1 a2 n2) (hH : Holds D w) (fi : FuncId) (cap : List Value) (hfi : ∀ args w, (callFunc fi args).run Try.prog w = .ok (.enter fi args) w) (v : Bool) (hIs : ∀ D' w' b, DExt w D D' → Holds D' w' → BeachAt D' b d (.slice a1 n1 c1) (.slice a2 n2 c2) worstV → dipsB d = true → Gives Try.prog fi (pt b :: cap) w' (.bool v)) : Calls Try.prog 49 (List.toArray [.agg #[it d.hours, .slice a1 n1 c1, .slice a2 n2 c2], .func (.func fi) #[] cap.toArray]) w fun e w' => OpenR d (.slice a1 n1 c1) (.slice a2 n2 c2) D v w e w' := by
  obtain rfl := hR.dip.len'
  obtain rfl := hR.bath.len'
  have hl1 := hR.len1
  have hl2 := hR.len2
  refine enter Try.func49 rfl 77 Try.ntmps49 (Nat.le_of_ble_eq_true rfl) (Inv.start hH) ?_
  refine WC.seq ?_
  refine WC.ofFr [(0, _), (1, _)] ⟨rfl, rfl, trivial⟩ ?_
  refine WC.region ?_
  refine WL.so (SO.box rfl rfl) rfl ?_
  rintro _ _ _ ⟨b2, hb2, rfl, rfl, rfl⟩ -- NEW
  refine WL.yd (Yd.assign rfl) rfl ?_
  refine WL.nil ?_
  refine WP.thenC ?_
  refine WC.seq ?_
  refine WC.ofFr [(4, _), (2, _), (1, _)] ⟨rfl, rfl, rfl, trivial⟩ ?_
  refine WC.region ?_
  refine WL.yd (Yd.fieldAddr FA25_0 rfl) rfl ?_
  refine WL.yd (Yd.load1 Try.isAgg3 rfl (by first | exact Rd.own (k := 0) rfl rfl)) rfl ?_
  refine WL.so (SO.callP Try.call88 rfl (fun w hI => within_g _ _ _ _)) rfl ?_
  rintro _ _ _ ⟨rfl, rfl, rfl⟩
  refine WL.yd (Yd.move rfl) rfl ?_
  refine WL.part 15 rfl (fun g15 => ?_) (fun g15 => ?_)
  · try simp only [zq1, zq2, zq3, zq4, zq5, zq6, zq7, zq8] at g15
    have hh : 1 ≤ d.hours ∧ d.hours ≤ 4 := by simpa [inB] using g15
    refine WL.ydg rfl (Yd.fieldAddr FA25_1 rfl) rfl ?_
    refine WL.ydg rfl (Yd.load1 Try.isAgg22 rfl (by first | exact Rd.own (k := 0) rfl rfl)) rfl ?_
    refine WL.ydg rfl (Yd.lenS rfl Try.underlying22 rfl) rfl ?_
    refine WL.ydg rfl (Yd.leq rfl rfl) rfl ?_
    refine WL.yd (Yd.pickT rfl rfl) rfl ?_
    refine WL.yd (Yd.move rfl) rfl ?_
    refine WL.part 21 rfl (fun g21 => ?_) (fun g21 => ?_)
    · try simp only [zq1, zq2, zq3, zq4, zq5, zq6, zq7, zq8] at g21
      refine WL.ydg rfl (Yd.fieldAddr FA25_2 rfl) rfl ?_
      refine WL.ydg rfl (Yd.load1 Try.isAgg23 rfl (by first | exact Rd.own (k := 0) rfl rfl)) rfl ?_
      refine WL.ydg rfl (Yd.lenS rfl Try.underlying23 rfl) rfl ?_
      refine WL.ydg rfl (Yd.leq rfl rfl) rfl ?_
      refine WL.yd (Yd.pickT rfl rfl) rfl ?_
      refine WL.part 26 rfl (fun g26 => ?_) (fun g26 => ?_)
      · try simp only [zq1, zq2, zq3, zq4, zq5, zq6, zq7, zq8] at g26
        refine WL.so (SO.call (Enters.func Try.call52 rfl) (fun w hI => must_ok _ _)) rfl ?_
        rintro _ _ _ ⟨rfl, rfl, rfl⟩
        refine WL.nil ?_
        refine WP.thenC ?_
        refine WC.seq ?_
        refine WC.ofFr [(4, _), (2, _), (1, _)] ⟨rfl, rfl, rfl, trivial⟩ ?_
        refine WC.region ?_
        refine WL.yd (Yd.assign rfl) rfl ?_
        refine WL.nil ?_
        refine WP.thenC ?_
        refine WC.seq ?_
        refine WC.ofFr [(5, _), (4, _), (2, _), (1, _)] ⟨rfl, rfl, rfl, rfl, trivial⟩ ?_
        refine WC.region ?_
        refine WL.yd (Yd.func rfl rfl) rfl ?_
        refine WL.yd (Yd.assign rfl) rfl ?_
        refine WL.nil ?_
        refine WP.thenC ?_
        refine WC.seq ?_
        refine WC.seq ?_
        refine WC.ofFr [(6, _), (5, _), (4, _), (2, _), (1, _)] ⟨rfl, rfl, rfl, rfl, rfl, trivial⟩ ?_
        refine WC.region ?_
        refine WL.yd (Yd.fieldAddr FA25_1 rfl) rfl ?_
        refine WL.yd (Yd.load1 Try.isAgg22 rfl (by first | exact Rd.own (k := 0) rfl rfl)) rfl ?_
        refine WL.yd (Yd.lenS rfl Try.underlying22 rfl) rfl ?_
        refine WL.yd (Yd.move rfl) rfl ?_
        refine WL.nil ?_
        refine WP.thenC ?_
        refine WC.block ?_
        refine WC.loopF (fun k : Nat => [(1, .func (.func fi) #[] cap.toArray), (2, pt b2), (5, .func (.func 89) #[] #[]), (6, .func (.func 90) #[] #[pt b2]), (30, .slice a1 d.dippers.length c1), (31, nt d.dippers.length), (32, nt k)]) (fun k => k ≤ d.dippers.length ∧ ∀ i, i < k → dipperB d.hours (gt d.dippers i) = true) (fun k => d.dippers.length - k) 0 ⟨by omega, by intro i hi; omega⟩ (by exact ⟨rfl, rfl, rfl, rfl, rfl, rfl, rfl, trivial⟩) ?_
        intro k ⟨hk, hd⟩
        refine WC.seq ?_
        refine WC.ofFr [(1, _), (2, _), (5, _), (6, _), (30, _), (31, _), (32, _)] ⟨rfl, rfl, rfl, rfl, rfl, rfl, rfl, trivial⟩ ?_
        refine WC.region ?_
        refine WL.yd (Yd.lss rfl rfl) rfl ?_
        refine WL.nil ?_
        refine WP.thenC ?_
        refine WC.seq ?_
        refine WC.cond rfl (fun c33 => ?_) (fun c33 => ?_)
        · try simp only [zq1, zq2, zq3, zq4, zq5, zq6, zq7, zq8] at c33
          refine WC.skip ?_
          refine WP.thenC ?_
          refine WC.seq ?_
          refine WC.block ?_
          refine WC.seq ?_
          refine WC.ofFr [(1, _), (2, _), (5, _), (6, _), (30, _), (31, _), (32, _)] ⟨rfl, rfl, rfl, rfl, rfl, rfl, rfl, trivial⟩ ?_
          refine WC.region ?_
          refine WL.yd (Yd.indexS Try.underlying22 Try.sizeOf53 rfl rfl (by omega) (by omega) (by first | exact hR.dip.addr k (by omega) | exact hR.bath.addr k (by omega))) rfl ?_
          refine WL.yd (Yd.loadN Try.isAgg53 Try.sizeOf53 rfl (vs := [_, _, _]) rfl (by first | exact RdN.own (k := 0) (n := 3) rfl rfl | exact (hR.dip.at k (by omega)).rdn 0 2 rfl | exact (hR.bath.at k (by omega)).rdn 0 2 rfl | exact (hR.dip.at k (by omega)).rdn 0 3 rfl | exact (hR.bath.at k (by omega)).rdn 0 3 rfl)) rfl ?_
          refine WL.so (SO.alloc Try.zeroValue53 rfl) rfl ?_
          rintro _ _ _ ⟨b8, hb8, rfl, rfl, rfl⟩ -- NEW
          refine WL.so (SO.store 0 rfl Try.sizeOf53 rfl rfl rfl rfl (Nat.le_of_ble_eq_true rfl) (oneB_spec rfl)) rfl ?_
          rintro _ _ _ ⟨rfl, rfl, rfl⟩
          refine WL.nil ?_
          refine WP.thenC ?_
          refine WC.ofFr [(8, _), (1, _), (2, _), (5, _), (6, _), (30, _), (31, _), (32, _)] ⟨rfl, rfl, rfl, rfl, rfl, rfl, rfl, rfl, trivial⟩ ?_
          refine WC.region ?_
          refine WL.yd (Yd.move rfl) rfl ?_
          refine WL.yd (Yd.fieldAddr FA53_0 rfl) rfl ?_
          refine WL.yd (Yd.loadN Try.isAgg35 Try.sizeOf35 rfl (vs := [_, _]) rfl (by first | exact RdN.own (k := 0) (n := 2) rfl rfl | exact RdN.own (k := 1) (n := 2) rfl rfl | exact (hR.dip.at k (by omega)).rdn 0 2 rfl | exact (hR.bath.at k (by omega)).rdn 0 2 rfl | exact (hR.dip.at k (by omega)).rdn 0 3 rfl | exact (hR.bath.at k (by omega)).rdn 0 3 rfl)) rfl ?_
          refine WL.so (SO.call (Enters.val Try.call89 rfl rfl) (fun w hI => span2_g ⟨_, _⟩ _ _ _)) rfl ?_
          rintro _ _ _ ⟨rfl, rfl, rfl⟩
          refine WL.yd (Yd.move rfl) rfl ?_
          refine WL.part 40 rfl (fun g40 => ?_) (fun g40 => ?_)
          · try simp only [zq1, zq2, zq3, zq4, zq5, zq6, zq7, zq8] at g40
            refine WL.ydg rfl (Yd.move rfl) rfl ?_
            refine WL.ydg rfl (Yd.fieldAddr FA53_1 rfl) rfl ?_
            refine WL.ydg rfl (Yd.load1 Try.isAgg3 rfl (by first | exact Rd.own (k := 0) rfl rfl | exact Rd.own (k := 1) rfl rfl)) rfl ?_
            refine WL.sog rfl (SO.call (Enters.val Try.call90 rfl rfl) (fun w hI => set_g d _ _ _ _ _ _ (hI.own _ _ (List.mem_of_getElem? (i := 1) rfl)) hh)) rfl ?_
            rintro _ _ _ ⟨rfl, rfl, rfl⟩
            refine WL.yd (Yd.pickT rfl rfl) rfl ?_
            refine WL.part 45 rfl (fun g45 => ?_) (fun g45 => ?_)
            · try simp only [zq1, zq2, zq3, zq4, zq5, zq6, zq7, zq8] at g45
              refine WL.so (SO.call (Enters.func Try.call52 rfl) (fun w hI => must_ok _ _)) rfl ?_
              rintro _ _ _ ⟨rfl, rfl, rfl⟩
              refine WL.nil ?_
              refine WP.blkNormal ?_
              refine WP.thenC ?_
              refine WC.ofFr [(1, _), (2, _), (5, _), (6, _), (30, _), (31, _), (32, _)] ⟨rfl, rfl, rfl, rfl, rfl, rfl, rfl, trivial⟩ ?_
              refine WC.region ?_
              refine WL.yd (Yd.add rfl rfl (wr64 ⟨by omega, by omega⟩)) rfl ?_
              refine WL.yd (Yd.move rfl) rfl ?_
              refine WL.nil ?_
              exact WP.againF (k + 1) ⟨by omega, ext_round hd (by simp_all [dipperB])⟩ (by omega) ⟨rfl, rfl, rfl, rfl, rfl, rfl, rfl, trivial⟩ (fun _ h => List.mem_cons_of_mem _ h) (fun h => (List.nodup_cons.1 h).2)
            · try simp only [zq1, zq2, zq3, zq4, zq5, zq6, zq7, zq8] at g45
              refine WL.no (SO.fail (Enters.func Try.call52 rfl) (fun w hI => must_no _ _) ?_)
              refine WP.blkPanic ?_
              refine WP.thenPanic ?_
              refine WP.thenPanic ?_
              refine WP.blkPanic ?_
              refine WP.thenPanic ?_
              first
                | exact WP.panicBody rfl (fun w hI => ⟨fun h => absurd (hok.symm.trans h) (by decide), fun _ _ => ⟨rfl, hI.keep⟩, fun _ h => absurd (g74.symm.trans h) (by decide)⟩)
                | (refine WP.panicBody rfl (fun w hI => ?_)
                   have hno : dipsB d = false := by
                     cases hdb : dipsB d with
                     | false => rfl
                     | true =>
                       exfalso
                       obtain ⟨h1, h2, h3, h4, h5⟩ := (dipsB_iff d).1 hdb
                       first | omega | (exact absurd (g15.symm.trans h1) (by decide)) | (have := h4 k (by omega); simp_all [dipperB]; done) | (have := h5 k (by omega); simp_all [batherB]; done)
                   exact ⟨fun _ => ⟨rfl, hI.keep⟩, fun h => absurd (hno.symm.trans h) (by decide), fun h => absurd (hno.symm.trans h) (by decide)⟩)
          · try simp only [zq1, zq2, zq3, zq4, zq5, zq6, zq7, zq8] at g40
            refine WL.skip rfl rfl ?_
            refine WL.skip rfl rfl ?_
            refine WL.skip rfl rfl ?_
            refine WL.skip rfl rfl ?_
            refine WL.yd (Yd.pickF rfl rfl) rfl ?_
            refine WL.no (SO.fail (Enters.func Try.call52 rfl) (fun w hI => must_no _ _) ?_)
            refine WP.blkPanic ?_
            refine WP.thenPanic ?_
            refine WP.thenPanic ?_
            refine WP.blkPanic ?_
            refine WP.thenPanic ?_
            first
              | exact WP.panicBody rfl (fun w hI => ⟨fun h => absurd (hok.symm.trans h) (by decide), fun _ _ => ⟨rfl, hI.keep⟩, fun _ h => absurd (g74.symm.trans h) (by decide)⟩)
              | (refine WP.panicBody rfl (fun w hI => ?_)
                 have hno : dipsB d = false := by
                   cases hdb : dipsB d with
                   | false => rfl
                   | true =>
                     exfalso
                     obtain ⟨h1, h2, h3, h4, h5⟩ := (dipsB_iff d).1 hdb
                     first | omega | (exact absurd (g15.symm.trans h1) (by decide)) | (have := h4 k (by omega); simp_all [dipperB]; done) | (have := h5 k (by omega); simp_all [batherB]; done)
                 exact ⟨fun _ => ⟨rfl, hI.keep⟩, fun h => absurd (hno.symm.trans h) (by decide), fun h => absurd (hno.symm.trans h) (by decide)⟩)
        · try simp only [zq1, zq2, zq3, zq4, zq5, zq6, zq7, zq8] at c33
          refine WC.exit ?_
          refine WP.thenExit ?_
          refine WP.thenExit ?_
          refine WP.blkHit ?_
          refine WP.thenC ?_
          refine WC.seq ?_
          refine WC.seq ?_
          refine WC.ofFr [(1, _), (2, _), (5, _), (6, _)] ⟨rfl, rfl, rfl, rfl, trivial⟩ ?_
          refine WC.region ?_
          refine WL.yd (Yd.fieldAddr FA25_2 rfl) rfl ?_
          refine WL.yd (Yd.load1 Try.isAgg23 rfl (by first | exact Rd.own (k := 0) rfl rfl)) rfl ?_
          refine WL.yd (Yd.lenS rfl Try.underlying23 rfl) rfl ?_
          refine WL.yd (Yd.move rfl) rfl ?_
          refine WL.nil ?_
          refine WP.thenC ?_
          refine WC.block ?_
          have hd2 : ∀ i, i < d.dippers.length → dipperB d.hours (gt d.dippers i) = true := fun i hi => hd i (by omega)
          clear hd hk c33 k
          refine WC.loopF (fun k : Nat => [(1, .func (.func fi) #[] cap.toArray), (2, pt b2), (5, .func (.func 89) #[] #[]), (6, .func (.func 90) #[] #[pt b2]), (49, .slice a2 d.bathers.length c2), (50, nt d.bathers.length), (51, nt k)]) (fun k => k ≤ d.bathers.length ∧ ∀ i, i < k → batherB d.hours (gt d.bathers i) = true) (fun k => d.bathers.length - k) 0 ⟨by omega, by intro i hi; omega⟩ (by exact ⟨rfl, rfl, rfl, rfl, rfl, rfl, rfl, trivial⟩) ?_
          intro k ⟨hk, hd⟩
          refine WC.seq ?_
          refine WC.ofFr [(1, _), (2, _), (5, _), (6, _), (49, _), (50, _), (51, _)] ⟨rfl, rfl, rfl, rfl, rfl, rfl, rfl, trivial⟩ ?_
          refine WC.region ?_
          refine WL.yd (Yd.lss rfl rfl) rfl ?_
          refine WL.nil ?_
          refine WP.thenC ?_
          refine WC.seq ?_
          refine WC.cond rfl (fun c52 => ?_) (fun c52 => ?_)
          · try simp only [zq1, zq2, zq3, zq4, zq5, zq6, zq7, zq8] at c52
            refine WC.skip ?_
            refine WP.thenC ?_
            refine WC.seq ?_
            refine WC.block ?_
            refine WC.seq ?_
            refine WC.ofFr [(1, _), (2, _), (5, _), (6, _), (49, _), (50, _), (51, _)] ⟨rfl, rfl, rfl, rfl, rfl, rfl, rfl, trivial⟩ ?_
            refine WC.region ?_
            refine WL.yd (Yd.indexS Try.underlying23 Try.sizeOf55 rfl rfl (by omega) (by omega) (by first | exact hR.dip.addr k (by omega) | exact hR.bath.addr k (by omega))) rfl ?_
            refine WL.yd (Yd.loadN Try.isAgg55 Try.sizeOf55 rfl (vs := [_, _, _]) rfl (by first | exact RdN.own (k := 0) (n := 3) rfl rfl | exact (hR.dip.at k (by omega)).rdn 0 2 rfl | exact (hR.bath.at k (by omega)).rdn 0 2 rfl | exact (hR.dip.at k (by omega)).rdn 0 3 rfl | exact (hR.bath.at k (by omega)).rdn 0 3 rfl)) rfl ?_
            refine WL.so (SO.alloc Try.zeroValue55 rfl) rfl ?_
            rintro _ _ _ ⟨b10, hb10, rfl, rfl, rfl⟩ -- NEW
            refine WL.so (SO.store 0 rfl Try.sizeOf55 rfl rfl rfl rfl (Nat.le_of_ble_eq_true rfl) (oneB_spec rfl)) rfl ?_
            rintro _ _ _ ⟨rfl, rfl, rfl⟩
            refine WL.nil ?_
            refine WP.thenC ?_
            refine WC.ofFr [(10, _), (1, _), (2, _), (5, _), (6, _), (49, _), (50, _), (51, _)] ⟨rfl, rfl, rfl, rfl, rfl, rfl, rfl, rfl, trivial⟩ ?_
            refine WC.region ?_
            refine WL.yd (Yd.move rfl) rfl ?_
            refine WL.yd (Yd.fieldAddr FA55_0 rfl) rfl ?_
            refine WL.yd (Yd.loadN Try.isAgg35 Try.sizeOf35 rfl (vs := [_, _]) rfl (by first | exact RdN.own (k := 0) (n := 2) rfl rfl | exact RdN.own (k := 1) (n := 2) rfl rfl | exact (hR.dip.at k (by omega)).rdn 0 2 rfl | exact (hR.bath.at k (by omega)).rdn 0 2 rfl | exact (hR.dip.at k (by omega)).rdn 0 3 rfl | exact (hR.bath.at k (by omega)).rdn 0 3 rfl)) rfl ?_
            refine WL.so (SO.call (Enters.val Try.call89 rfl rfl) (fun w hI => span2_g ⟨_, _⟩ _ _ _)) rfl ?_
            rintro _ _ _ ⟨rfl, rfl, rfl⟩
            refine WL.yd (Yd.move rfl) rfl ?_
            refine WL.part 59 rfl (fun g59 => ?_) (fun g59 => ?_)
            · try simp only [zq1, zq2, zq3, zq4, zq5, zq6, zq7, zq8] at g59
              refine WL.ydg rfl (Yd.move rfl) rfl ?_
              refine WL.ydg rfl (Yd.fieldAddr FA55_1 rfl) rfl ?_
              refine WL.ydg rfl (Yd.load1 Try.isAgg3 rfl (by first | exact Rd.own (k := 0) rfl rfl | exact Rd.own (k := 1) rfl rfl)) rfl ?_
              refine WL.sog rfl (SO.call (Enters.val Try.call90 rfl rfl) (fun w hI => set_g d _ _ _ _ _ _ (hI.own _ _ (List.mem_of_getElem? (i := 1) rfl)) hh)) rfl ?_
              rintro _ _ _ ⟨rfl, rfl, rfl⟩
              refine WL.yd (Yd.pickT rfl rfl) rfl ?_
              refine WL.part 64 rfl (fun g64 => ?_) (fun g64 => ?_)
              · try simp only [zq1, zq2, zq3, zq4, zq5, zq6, zq7, zq8] at g64
                refine WL.so (SO.call (Enters.func Try.call52 rfl) (fun w hI => must_ok _ _)) rfl ?_
                rintro _ _ _ ⟨rfl, rfl, rfl⟩
                refine WL.nil ?_
                refine WP.blkNormal ?_
                refine WP.thenC ?_
                refine WC.ofFr [(1, _), (2, _), (5, _), (6, _), (49, _), (50, _), (51, _)] ⟨rfl, rfl, rfl, rfl, rfl, rfl, rfl, trivial⟩ ?_
                refine WC.region ?_
                refine WL.yd (Yd.add rfl rfl (wr64 ⟨by omega, by omega⟩)) rfl ?_
                refine WL.yd (Yd.move rfl) rfl ?_
                refine WL.nil ?_
                exact WP.againF (k + 1) ⟨by omega, ext_round hd (by simp_all [batherB])⟩ (by omega) ⟨rfl, rfl, rfl, rfl, rfl, rfl, rfl, trivial⟩ (fun _ h => List.mem_cons_of_mem _ h) (fun h => (List.nodup_cons.1 h).2)
              · try simp only [zq1, zq2, zq3, zq4, zq5, zq6, zq7, zq8] at g64
                refine WL.no (SO.fail (Enters.func Try.call52 rfl) (fun w hI => must_no _ _) ?_)
                refine WP.blkPanic ?_
                refine WP.thenPanic ?_
                refine WP.thenPanic ?_
                refine WP.blkPanic ?_
                refine WP.thenPanic ?_
                first
                  | exact WP.panicBody rfl (fun w hI => ⟨fun h => absurd (hok.symm.trans h) (by decide), fun _ _ => ⟨rfl, hI.keep⟩, fun _ h => absurd (g74.symm.trans h) (by decide)⟩)
                  | (refine WP.panicBody rfl (fun w hI => ?_)
                     have hno : dipsB d = false := by
                       cases hdb : dipsB d with
                       | false => rfl
                       | true =>
                         exfalso
                         obtain ⟨h1, h2, h3, h4, h5⟩ := (dipsB_iff d).1 hdb
                         first | omega | (exact absurd (g15.symm.trans h1) (by decide)) | (have := h4 k (by omega); simp_all [dipperB]; done) | (have := h5 k (by omega); simp_all [batherB]; done)
                     exact ⟨fun _ => ⟨rfl, hI.keep⟩, fun h => absurd (hno.symm.trans h) (by decide), fun h => absurd (hno.symm.trans h) (by decide)⟩)
            · try simp only [zq1, zq2, zq3, zq4, zq5, zq6, zq7, zq8] at g59
              refine WL.skip rfl rfl ?_
              refine WL.skip rfl rfl ?_
              refine WL.skip rfl rfl ?_
              refine WL.skip rfl rfl ?_
              refine WL.yd (Yd.pickF rfl rfl) rfl ?_
              refine WL.no (SO.fail (Enters.func Try.call52 rfl) (fun w hI => must_no _ _) ?_)
              refine WP.blkPanic ?_
              refine WP.thenPanic ?_
              refine WP.thenPanic ?_
              refine WP.blkPanic ?_
              refine WP.thenPanic ?_
              first
                | exact WP.panicBody rfl (fun w hI => ⟨fun h => absurd (hok.symm.trans h) (by decide), fun _ _ => ⟨rfl, hI.keep⟩, fun _ h => absurd (g74.symm.trans h) (by decide)⟩)
                | (refine WP.panicBody rfl (fun w hI => ?_)
                   have hno : dipsB d = false := by
                     cases hdb : dipsB d with
                     | false => rfl
                     | true =>
                       exfalso
                       obtain ⟨h1, h2, h3, h4, h5⟩ := (dipsB_iff d).1 hdb
                       first | omega | (exact absurd (g15.symm.trans h1) (by decide)) | (have := h4 k (by omega); simp_all [dipperB]; done) | (have := h5 k (by omega); simp_all [batherB]; done)
                   exact ⟨fun _ => ⟨rfl, hI.keep⟩, fun h => absurd (hno.symm.trans h) (by decide), fun h => absurd (hno.symm.trans h) (by decide)⟩)
          · try simp only [zq1, zq2, zq3, zq4, zq5, zq6, zq7, zq8] at c52
            refine WC.exit ?_
            refine WP.thenExit ?_
            refine WP.thenExit ?_
            refine WP.blkHit ?_
            refine WP.thenC ?_
            refine WC.seq ?_
            refine WC.ofFr [(1, _), (2, _)] ⟨rfl, rfl, trivial⟩ ?_
            refine WC.region ?_
            refine WL.yd (Yd.loadN Try.isAgg25 Try.sizeOf25 rfl (vs := [_, _, _]) rfl (by first | exact RdN.own (k := 0) (n := 3) rfl rfl | exact (hR.dip.at k (by omega)).rdn 0 2 rfl | exact (hR.bath.at k (by omega)).rdn 0 2 rfl | exact (hR.dip.at k (by omega)).rdn 0 3 rfl | exact (hR.bath.at k (by omega)).rdn 0 3 rfl)) rfl ?_
            refine WL.yd (Yd.build SA82 rfl (cs := []) rfl) rfl ?_
            refine WL.yd (Yd.iface Try.underlying82 (by intro _ h; cases h) rfl) rfl ?_
            refine WL.yd (Yd.build SA89 rfl (cs := [_, _, _, _]) rfl) rfl ?_
            refine WL.so (SO.box rfl rfl) rfl ?_
            rintro _ _ _ ⟨b71, hb71, rfl, rfl, rfl⟩ -- NEW
            refine WL.yd (Yd.assign rfl) rfl ?_
            refine WL.nil ?_
            refine WP.thenC ?_
            refine WC.seq ?_
            refine WC.ofFr [(11, _), (1, _)] ⟨rfl, rfl, trivial⟩ ?_
            refine WC.region ?_
            have hok : dipsB d = true := (dipsB_iff d).2 ⟨g15, by omega, by omega, hd2, fun i hi => hd i (by omega)⟩
            refine WL.freeze (fun hn71 => ?_)
            have hDX := fun o => (DExt.refl w D).add (o := o) hn71 hb71
            refine WL.yd (Yd.move rfl) rfl ?_
            refine WL.yd (Yd.move rfl) rfl ?_
            refine WL.so (SO.call (Enters.val hfi rfl rfl) (fun w hI => hIs _ _ _ (hDX _) hI.imm (Imm.add_self _ _ _) hok)) rfl ?_
            rintro _ _ _ ⟨rfl, rfl, rfl⟩
            refine WL.part 74 rfl (fun g74 => ?_) (fun g74 => ?_)
            · try simp only [zq1, zq2, zq3, zq4, zq5, zq6, zq7, zq8] at g74
              refine WL.so (SO.call (Enters.func Try.call52 rfl) (fun w hI => must_ok _ _)) rfl ?_
              rintro _ _ _ ⟨rfl, rfl, rfl⟩
              refine WL.nil ?_
              refine WP.thenC ?_
              refine WC.seq ?_
              refine WC.ofFr [(11, _)] ⟨rfl, trivial⟩ ?_
              refine WC.region ?_
              refine WL.yd (Yd.move rfl) rfl ?_
              refine WL.yd (Yd.assign rfl) rfl ?_
              refine WL.nil ?_
              refine WP.thenC ?_
              refine WC.ret ?_
              refine WP.ret1 rfl rfl Try.results49 (RV.tmp rfl) (fun w hI => ⟨fun h => absurd (hok.symm.trans h) (by decide), fun _ h => absurd (g74.symm.trans h) (by decide), fun _ _ => ⟨_, _, rfl, hI.keep, hI.imm, hDX _, Imm.add_self _ _ _⟩⟩)
            · try simp only [zq1, zq2, zq3, zq4, zq5, zq6, zq7, zq8] at g74
              refine WL.no (SO.fail (Enters.func Try.call52 rfl) (fun w hI => must_no _ _) ?_)
              refine WP.thenPanic ?_
              first
                | exact WP.panicBody rfl (fun w hI => ⟨fun h => absurd (hok.symm.trans h) (by decide), fun _ _ => ⟨rfl, hI.keep⟩, fun _ h => absurd (g74.symm.trans h) (by decide)⟩)
                | (refine WP.panicBody rfl (fun w hI => ?_)
                   have hno : dipsB d = false := by
                     cases hdb : dipsB d with
                     | false => rfl
                     | true =>
                       exfalso
                       obtain ⟨h1, h2, h3, h4, h5⟩ := (dipsB_iff d).1 hdb
                       first | omega | (exact absurd (g15.symm.trans h1) (by decide)) | (have := h4 k (by omega); simp_all [dipperB]; done) | (have := h5 k (by omega); simp_all [batherB]; done)
                   exact ⟨fun _ => ⟨rfl, hI.keep⟩, fun h => absurd (hno.symm.trans h) (by decide), fun h => absurd (hno.symm.trans h) (by decide)⟩)
      · try simp only [zq1, zq2, zq3, zq4, zq5, zq6, zq7, zq8] at g26
        refine WL.no (SO.fail (Enters.func Try.call52 rfl) (fun w hI => must_no _ _) ?_)
        refine WP.thenPanic ?_
        first
          | exact WP.panicBody rfl (fun w hI => ⟨fun h => absurd (hok.symm.trans h) (by decide), fun _ _ => ⟨rfl, hI.keep⟩, fun _ h => absurd (g74.symm.trans h) (by decide)⟩)
          | (refine WP.panicBody rfl (fun w hI => ?_)
             have hno : dipsB d = false := by
               cases hdb : dipsB d with
               | false => rfl
               | true =>
                 exfalso
                 obtain ⟨h1, h2, h3, h4, h5⟩ := (dipsB_iff d).1 hdb
                 first | omega | (exact absurd (g15.symm.trans h1) (by decide)) | (have := h4 k (by omega); simp_all [dipperB]; done) | (have := h5 k (by omega); simp_all [batherB]; done)
             exact ⟨fun _ => ⟨rfl, hI.keep⟩, fun h => absurd (hno.symm.trans h) (by decide), fun h => absurd (hno.symm.trans h) (by decide)⟩)
    · try simp only [zq1, zq2, zq3, zq4, zq5, zq6, zq7, zq8] at g21
      refine WL.skip rfl rfl ?_
      refine WL.skip rfl rfl ?_
      refine WL.skip rfl rfl ?_
      refine WL.skip rfl rfl ?_
      refine WL.yd (Yd.pickF rfl rfl) rfl ?_
      refine WL.no (SO.fail (Enters.func Try.call52 rfl) (fun w hI => must_no _ _) ?_)
      refine WP.thenPanic ?_
      first
        | exact WP.panicBody rfl (fun w hI => ⟨fun h => absurd (hok.symm.trans h) (by decide), fun _ _ => ⟨rfl, hI.keep⟩, fun _ h => absurd (g74.symm.trans h) (by decide)⟩)
        | (refine WP.panicBody rfl (fun w hI => ?_)
           have hno : dipsB d = false := by
             cases hdb : dipsB d with
             | false => rfl
             | true =>
               exfalso
               obtain ⟨h1, h2, h3, h4, h5⟩ := (dipsB_iff d).1 hdb
               first | omega | (exact absurd (g15.symm.trans h1) (by decide)) | (have := h4 k (by omega); simp_all [dipperB]; done) | (have := h5 k (by omega); simp_all [batherB]; done)
           exact ⟨fun _ => ⟨rfl, hI.keep⟩, fun h => absurd (hno.symm.trans h) (by decide), fun h => absurd (hno.symm.trans h) (by decide)⟩)
  · try simp only [zq1, zq2, zq3, zq4, zq5, zq6, zq7, zq8] at g15
    refine WL.skip rfl rfl ?_
    refine WL.skip rfl rfl ?_
    refine WL.skip rfl rfl ?_
    refine WL.skip rfl rfl ?_
    refine WL.yd (Yd.pickF rfl rfl) rfl ?_
    refine WL.yd (Yd.move rfl) rfl ?_
    refine WL.skip rfl rfl ?_
    refine WL.skip rfl rfl ?_
    refine WL.skip rfl rfl ?_
    refine WL.skip rfl rfl ?_
    refine WL.yd (Yd.pickF rfl rfl) rfl ?_
    refine WL.no (SO.fail (Enters.func Try.call52 rfl) (fun w hI => must_no _ _) ?_)
    refine WP.thenPanic ?_
    first
      | exact WP.panicBody rfl (fun w hI => ⟨fun h => absurd (hok.symm.trans h) (by decide), fun _ _ => ⟨rfl, hI.keep⟩, fun _ h => absurd (g74.symm.trans h) (by decide)⟩)
      | (refine WP.panicBody rfl (fun w hI => ?_)
         have hno : dipsB d = false := by
           cases hdb : dipsB d with
           | false => rfl
           | true =>
             exfalso
             obtain ⟨h1, h2, h3, h4, h5⟩ := (dipsB_iff d).1 hdb
             first | omega | (exact absurd (g15.symm.trans h1) (by decide)) | (have := h4 k (by omega); simp_all [dipperB]; done) | (have := h5 k (by omega); simp_all [batherB]; done)
         exact ⟨fun _ => ⟨rfl, hI.keep⟩, fun h => absurd (hno.symm.trans h) (by decide), fun h => absurd (hno.symm.trans h) (by decide)⟩)

end Go.Proofs.Ytidjdonppfegiaa
namespace Go.Proofs.Ytidjdonppfegiaa
open Go.W Go.Dp
theorem FA89_0 : FieldAt Try.prog 89 0 0 := FieldAt.mk (t := 25) (off := 0) Try.underlying89 rfl Try.sizeOf25 (by decide)
theorem FA89_1 : FieldAt Try.prog 89 1 3 := FieldAt.mk (t := 87) (off := 3) Try.underlying89 rfl Try.sizeOf87 (by decide)
set_option maxRecDepth 100000 in
set_option maxHeartbeats 1000000 in
theorem isHour_g (d : Dips) (s1 s2 t : Value) (b : Nat) (D : Imm) (w : World) (hB : BeachAt D b d s1 s2 t) (hH : Holds D w) (n : Int) (hh : 1 ≤ d.hours ∧ d.hours ≤ 4) : Gives Try.prog 60 [pt b, it n] w (.bool (inB n 0 (d.hours - 1))) := by
  unfold Gives
  refine enter Try.func60 rfl 13 Try.ntmps60 (Nat.le_of_ble_eq_true rfl) (Inv.start hH) ?_
  refine WC.seq ?_
  refine WC.ofFr [(0, _), (1, _)] ⟨rfl, rfl, trivial⟩ ?_
  refine WC.region ?_
  refine WL.yd (Yd.assign rfl) rfl ?_
  refine WL.nil ?_
  refine WP.thenC ?_
  refine WC.seq ?_
  refine WC.ofFr [(4, _), (0, _), (1, _)] ⟨rfl, rfl, rfl, trivial⟩ ?_
  refine WC.region ?_
  refine WL.yd (Yd.move rfl) rfl ?_
  refine WL.yd (Yd.move rfl) rfl ?_
  refine WL.yd (Yd.nilCheck rfl) rfl ?_
  refine WL.yd (Yd.fieldAddr FA89_0 rfl) rfl ?_
  refine WL.yd (Yd.fieldAddr FA25_0 rfl) rfl ?_
  refine WL.yd (Yd.load1 Try.isAgg3 rfl (by first | exact (Rd.imm hB rfl))) rfl ?_
  refine WL.yd (Yd.sub rfl rfl (wr64 ⟨by omega, by omega⟩)) rfl ?_
  refine WL.so (SO.callP Try.call88 rfl (fun w hI => within_g _ _ _ _)) rfl ?_
  rintro _ _ _ ⟨rfl, rfl, rfl⟩
  refine WL.yd (Yd.assign rfl) rfl ?_
  refine WL.nil ?_
  refine WP.thenC ?_
  refine WC.ret ?_
  refine WP.ret1 rfl rfl Try.results60 (RV.tmp rfl) (fun w hI => ⟨rfl, hI.keep⟩)

set_option maxRecDepth 100000 in
set_option maxHeartbeats 1000000 in
theorem worstHas_g (s : Sp) (w : World) : Gives Try.prog 61 [.agg #[], .agg #[it s.lo, it s.hi]] w (it s.lo) := by
  unfold Gives
  refine enter Try.func61 rfl 7 Try.ntmps61 (Nat.le_of_ble_eq_true rfl) (Inv.start (D := fun _ => none) (by intro _ _ h; cases h)) ?_
  refine WC.seq ?_
  refine WC.ofFr [(0, _), (1, _)] ⟨rfl, rfl, trivial⟩ ?_
  refine WC.region ?_
  refine WL.so (SO.box rfl rfl) rfl ?_
  rintro _ _ _ ⟨b2, hb2, rfl, rfl, rfl⟩ -- NEW
  refine WL.so (SO.box rfl rfl) rfl ?_
  rintro _ _ _ ⟨b3, hb3, rfl, rfl, rfl⟩ -- NEW
  refine WL.yd (Yd.assign rfl) rfl ?_
  refine WL.nil ?_
  refine WP.thenC ?_
  refine WC.seq ?_
  refine WC.ofFr [(4, _), (3, _)] ⟨rfl, rfl, trivial⟩ ?_
  refine WC.region ?_
  refine WL.yd (Yd.fieldAddr FA35_0 rfl) rfl ?_
  refine WL.yd (Yd.load1 Try.isAgg3 rfl (by first | exact Rd.own (k := 0) rfl rfl | exact Rd.own (k := 1) rfl rfl)) rfl ?_
  refine WL.yd (Yd.assign rfl) rfl ?_
  refine WL.nil ?_
  refine WP.thenC ?_
  refine WC.ret ?_
  refine WP.ret1 rfl rfl Try.results61 (RV.tmp rfl) (fun w hI => ⟨rfl, hI.keep⟩)

set_option maxRecDepth 100000 in
set_option maxHeartbeats 1000000 in
theorem worstNeeds_g (s : Sp) (w : World) : Gives Try.prog 126 [.agg #[], .agg #[it s.lo, it s.hi]] w (it s.hi) := by
  unfold Gives
  refine enter Try.func126 rfl 7 Try.ntmps126 (Nat.le_of_ble_eq_true rfl) (Inv.start (D := fun _ => none) (by intro _ _ h; cases h)) ?_
  refine WC.seq ?_
  refine WC.ofFr [(0, _), (1, _)] ⟨rfl, rfl, trivial⟩ ?_
  refine WC.region ?_
  refine WL.so (SO.box rfl rfl) rfl ?_
  rintro _ _ _ ⟨b2, hb2, rfl, rfl, rfl⟩ -- NEW
  refine WL.so (SO.box rfl rfl) rfl ?_
  rintro _ _ _ ⟨b3, hb3, rfl, rfl, rfl⟩ -- NEW
  refine WL.yd (Yd.assign rfl) rfl ?_
  refine WL.nil ?_
  refine WP.thenC ?_
  refine WC.seq ?_
  refine WC.ofFr [(4, _), (3, _)] ⟨rfl, rfl, trivial⟩ ?_
  refine WC.region ?_
  refine WL.yd (Yd.fieldAddr FA35_1 rfl) rfl ?_
  refine WL.yd (Yd.load1 Try.isAgg3 rfl (by first | exact Rd.own (k := 0) rfl rfl | exact Rd.own (k := 1) rfl rfl)) rfl ?_
  refine WL.yd (Yd.assign rfl) rfl ?_
  refine WL.nil ?_
  refine WP.thenC ?_
  refine WC.ret ?_
  refine WP.ret1 rfl rfl Try.results126 (RV.tmp rfl) (fun w hI => ⟨rfl, hI.keep⟩)

set_option maxRecDepth 100000 in
set_option maxHeartbeats 1000000 in
theorem bestNeeds_g (s : Sp) (w : World) : Gives Try.prog 127 [.agg #[], .agg #[it s.lo, it s.hi]] w (it s.lo) := by
  unfold Gives
  refine enter Try.func127 rfl 7 Try.ntmps127 (Nat.le_of_ble_eq_true rfl) (Inv.start (D := fun _ => none) (by intro _ _ h; cases h)) ?_
  refine WC.seq ?_
  refine WC.ofFr [(0, _), (1, _)] ⟨rfl, rfl, trivial⟩ ?_
  refine WC.region ?_
  refine WL.so (SO.box rfl rfl) rfl ?_
  rintro _ _ _ ⟨b2, hb2, rfl, rfl, rfl⟩ -- NEW
  refine WL.so (SO.box rfl rfl) rfl ?_
  rintro _ _ _ ⟨b3, hb3, rfl, rfl, rfl⟩ -- NEW
  refine WL.yd (Yd.assign rfl) rfl ?_
  refine WL.nil ?_
  refine WP.thenC ?_
  refine WC.seq ?_
  refine WC.ofFr [(4, _), (3, _)] ⟨rfl, rfl, trivial⟩ ?_
  refine WC.region ?_
  refine WL.yd (Yd.fieldAddr FA35_0 rfl) rfl ?_
  refine WL.yd (Yd.load1 Try.isAgg3 rfl (by first | exact Rd.own (k := 0) rfl rfl | exact Rd.own (k := 1) rfl rfl)) rfl ?_
  refine WL.yd (Yd.assign rfl) rfl ?_
  refine WL.nil ?_
  refine WP.thenC ?_
  refine WC.ret ?_
  refine WP.ret1 rfl rfl Try.results127 (RV.tmp rfl) (fun w hI => ⟨rfl, hI.keep⟩)

def intC (x : Int) : List Value := [it x]
structure IntsR (D : Imm) (l : List Int) (a : Option Addr) (n : Nat) : Prop where
  sl : SlL D 1 (l.map intC) a n
  len : n ≤ 1000
  num : ∀ i, i < l.length → 0 ≤ gt l i ∧ gt l i ≤ 1000
def sumTo (l : List Int) : Nat → Int
  | 0 => 0
  | k + 1 => sumTo l k + gt l k
theorem sumTo_num {l : List Int} (h : ∀ i, i < l.length → 0 ≤ gt l i ∧ gt l i ≤ 1000) : ∀ k, k ≤ l.length → 0 ≤ sumTo l k ∧ sumTo l k ≤ 1000 * (k : Int) := by
  intro k
  induction k with
  | zero => intro _; simp [sumTo]
  | succ k ih => intro hk; have h1 := ih (by omega); have h2 := h k (by omega); simp only [sumTo]; omega

set_option maxRecDepth 100000 in
set_option maxHeartbeats 1000000 in
theorem sum_g (l : List Int) (a : Option Addr) (n c : Nat) (D : Imm) (w : World) (hS : IntsR D l a n) (hH : Holds D w) : Gives Try.prog 63 [.slice a n c] w (it (sumTo l l.length)) := by
  unfold Gives
  obtain rfl := hS.sl.len'
  have hl := hS.len
  refine enter Try.func63 rfl 16 Try.ntmps63 (Nat.le_of_ble_eq_true rfl) (Inv.start hH) ?_
  refine WC.seq ?_
  refine WC.ofFr [(0, _)] ⟨rfl, trivial⟩ ?_
  refine WC.region ?_
  refine WL.yd (Yd.assign rfl) rfl ?_
  refine WL.nil ?_
  refine WP.thenC ?_
  refine WC.seq ?_
  refine WC.seq ?_
  refine WC.ofFr [(2, _), (0, _)] ⟨rfl, rfl, trivial⟩ ?_
  refine WC.region ?_
  refine WL.yd (Yd.move rfl) rfl ?_
  refine WL.yd (Yd.lenS rfl Try.underlying51 rfl) rfl ?_
  refine WL.yd (Yd.move rfl) rfl ?_
  refine WL.nil ?_
  refine WP.thenC ?_
  refine WC.block ?_
  refine WC.loopF (fun k : Nat => [(2, it (sumTo l k)), (5, .slice a l.length c), (6, nt l.length), (7, nt k)]) (fun k => k ≤ l.length) (fun k => l.length - k) 0 (by omega) (by exact ⟨rfl, rfl, rfl, rfl, trivial⟩) ?_
  intro k hk
  have hb1 := sumTo_num hS.num k hk
  have hb2 : k < l.length → _ := fun h => hS.num k h
  refine WC.seq ?_
  refine WC.ofFr [(2, _), (5, _), (6, _), (7, _)] ⟨rfl, rfl, rfl, rfl, trivial⟩ ?_
  refine WC.region ?_
  refine WL.yd (Yd.lss rfl rfl) rfl ?_
  refine WL.nil ?_
  refine WP.thenC ?_
  refine WC.seq ?_
  refine WC.cond rfl (fun c8 => ?_) (fun c8 => ?_)
  · try simp only [zq1, zq2, zq3, zq4, zq5, zq6, zq7, zq8] at c8
    refine WC.skip ?_
    refine WP.thenC ?_
    refine WC.seq ?_
    refine WC.block ?_
    refine WC.seq ?_
    refine WC.ofFr [(2, _), (5, _), (6, _), (7, _)] ⟨rfl, rfl, rfl, rfl, trivial⟩ ?_
    refine WC.region ?_
    refine WL.yd (Yd.indexS Try.underlying51 Try.sizeOf3 rfl rfl (by omega) (by omega) (by first | exact hS.sl.addr k (by omega))) rfl ?_
    refine WL.yd (Yd.load1 Try.isAgg3 rfl (by first | exact (hS.sl.at k (by omega)).rd 0 rfl)) rfl ?_
    refine WL.yd (Yd.assign rfl) rfl ?_
    refine WL.nil ?_
    refine WP.thenC ?_
    refine WC.ofFr [(4, _), (2, _), (5, _), (6, _), (7, _)] ⟨rfl, rfl, rfl, rfl, rfl, trivial⟩ ?_
    refine WC.region ?_
    refine WL.yd (Yd.move rfl) rfl ?_
    refine WL.yd (Yd.move rfl) rfl ?_
    refine WL.yd (Yd.add rfl rfl (wr64 ⟨by omega, by omega⟩)) rfl ?_
    refine WL.yd (Yd.assign rfl) rfl ?_
    refine WL.nil ?_
    refine WP.blkNormal ?_
    refine WP.thenC ?_
    refine WC.ofFr [(2, _), (5, _), (6, _), (7, _)] ⟨rfl, rfl, rfl, rfl, trivial⟩ ?_
    refine WC.region ?_
    refine WL.yd (Yd.add rfl rfl (wr64 ⟨by omega, by omega⟩)) rfl ?_
    refine WL.yd (Yd.move rfl) rfl ?_
    refine WL.nil ?_
    exact WP.againF (k + 1) (by omega) (by omega) ⟨rfl, rfl, rfl, rfl, trivial⟩ (fun _ h => h) (fun h => h)
  · try simp only [zq1, zq2, zq3, zq4, zq5, zq6, zq7, zq8] at c8
    refine WC.exit ?_
    refine WP.thenExit ?_
    refine WP.thenExit ?_
    refine WP.blkHit ?_
    refine WP.thenC ?_
    refine WC.seq ?_
    refine WC.ofFr [(2, _)] ⟨rfl, trivial⟩ ?_
    refine WC.region ?_
    refine WL.yd (Yd.move rfl) rfl ?_
    refine WL.yd (Yd.assign rfl) rfl ?_
    refine WL.nil ?_
    refine WP.thenC ?_
    refine WC.ret ?_
    refine WP.ret1 rfl rfl Try.results63 (RV.tmp rfl) (fun w hI => ⟨by rw [show k = l.length from by omega], hI.keep⟩)

theorem slL_one {t : TypeId} {b cap : Nat} {w : World} {rest : List Value} (l : List Int) (hb : w.heap[b]? = some (.cells (List.toArray (l.flatMap intC ++ rest)) t (0, 0))) : SlL (Imm.one b (.cells (List.toArray (l.flatMap intC ++ rest)) t (0, 0))) 1 (l.map intC) (some ⟨b, 0, none⟩) l.length := by
  refine ⟨by simp, fun i r hr => ⟨rfl, _, _, _, Imm.one_self _ _, fun j v hv => ?_⟩⟩
  rw [List.getElem?_map] at hr
  cases hl : l[i]? with
  | none => rw [hl] at hr; cases hr
  | some x =>
    rw [hl] at hr
    cases hr
    have hil : i < l.length := (List.getElem?_eq_some_iff.1 hl).1
    have hj : j = 0 := by
      cases j with
      | zero => rfl
      | succ j => simp [intC] at hv
    subst hj
    have : ∀ (l : List Int), l.flatMap intC = l.map it := by
      intro l; induction l with
      | nil => rfl
      | cons x l ih => simp [intC, List.flatMap_cons, ih]
    rw [this]
    simp only [so, Nat.zero_add, Nat.mul_one, Nat.add_zero]
    rw [List.getElem?_append_left (by simpa using hil)]
    simp [hl]
    simpa [intC] using hv
theorem sum2_g (x y : Int) (t : TypeId) (b : Nat) (w : World) (hb : w.heap[b]? = some (.cells (List.toArray [it x, it y]) t (0, 0))) (hx : 0 ≤ x ∧ x ≤ 1000) (hy : 0 ≤ y ∧ y ≤ 1000) : Gives Try.prog 63 [.slice (some ⟨b, 0, none⟩) 2 2] w (it (x + y)) := by
  have h := slL_one (cap := 0) (t := t) (b := b) (w := w) (rest := []) [x, y] hb
  have h2 := sum_g [x, y] (some ⟨b, 0, none⟩) 2 2 _ w ⟨h, by omega, fun i hi => by
    have : i = 0 ∨ i = 1 := by simp at hi; omega
    rcases this with rfl | rfl
    · exact hx
    · exact hy⟩ (Holds.one hb)
  have e : sumTo [x, y] [x, y].length = x + y := by simp [sumTo, gt]
  rwa [e] at h2

set_option maxRecDepth 100000 in
set_option maxHeartbeats 1000000 in
theorem bestHas_g (s : Sp) (w : World) (hs : 0 ≤ s.lo ∧ s.lo ≤ s.hi ∧ s.hi ≤ 8) : Gives Try.prog 62 [.agg #[], .agg #[it s.lo, it s.hi]] w (it s.hi) := by
  unfold Gives
  refine enter Try.func62 rfl 16 Try.ntmps62 (Nat.le_of_ble_eq_true rfl) (Inv.start (D := fun _ => none) (by intro _ _ h; cases h)) ?_
  refine WC.seq ?_
  refine WC.ofFr [(0, _), (1, _)] ⟨rfl, rfl, trivial⟩ ?_
  refine WC.region ?_
  refine WL.so (SO.box rfl rfl) rfl ?_
  rintro _ _ _ ⟨b2, hb2, rfl, rfl, rfl⟩ -- NEW
  refine WL.so (SO.box rfl rfl) rfl ?_
  rintro _ _ _ ⟨b3, hb3, rfl, rfl, rfl⟩ -- NEW
  refine WL.yd (Yd.assign rfl) rfl ?_
  refine WL.nil ?_
  refine WP.thenC ?_
  refine WC.seq ?_
  refine WC.ofFr [(4, _), (3, _), (2, _)] ⟨rfl, rfl, rfl, trivial⟩ ?_
  refine WC.tail 9 [0, 1, 2, 3, 4, 5, 6, 7, 8] rfl (by kernel_rfl) (by kernel_rfl)  ?_
  refine WQ.q rfl (Yd.qt (Yd.fieldAddr0 1 Try.underlying84 rfl Try.sizeOf82 rfl rfl (by kernel_rfl) rfl rfl)) rfl ?_
  refine WQ.q rfl (Yd.qt (Yd.loadN Try.isAgg82 Try.sizeOf82 rfl (vs := []) rfl (by first | exact RdN.own (k := 0) (n := 0) rfl rfl | exact RdN.own (k := 1) (n := 0) rfl rfl))) rfl ?_
  refine WQ.q rfl (Yd.qt (Yd.loadN Try.isAgg35 Try.sizeOf35 rfl (vs := [_, _]) rfl (by first | exact RdN.own (k := 0) (n := 2) rfl rfl | exact RdN.own (k := 1) (n := 2) rfl rfl))) rfl ?_
  refine WQ.q rfl (Qt.callP Try.call61 rfl (fun w hI => worstHas_g s _)) rfl ?_
  refine WQ.q rfl (Yd.qt (Yd.fieldAddr FA35_1 rfl)) rfl ?_
  refine WQ.q rfl (Yd.qt (Yd.load1 Try.isAgg3 rfl (by first | exact Rd.own (k := 0) rfl rfl | exact Rd.own (k := 1) rfl rfl))) rfl ?_
  refine WQ.q rfl (Yd.qt (Yd.fieldAddr FA35_0 rfl)) rfl ?_
  refine WQ.q rfl (Yd.qt (Yd.load1 Try.isAgg3 rfl (by first | exact Rd.own (k := 0) rfl rfl | exact Rd.own (k := 1) rfl rfl))) rfl ?_
  refine WQ.q rfl (Yd.qt (Yd.sub rfl rfl (wr64 ⟨by omega, by omega⟩))) rfl ?_
  refine WQ.tail ?_
  refine WL.so (SO.buildSlice Try.underlying51 Try.sizeOf3 Try.zeroValue3 rfl rfl rfl rfl (cs := [_, _]) rfl) rfl ?_
  rintro _ _ _ ⟨b14, hb14, rfl, rfl, rfl⟩ -- NEW
  refine WL.so (SO.call (Enters.func Try.call63 rfl) (fun w hI => sum2_g _ _ _ _ _ (hI.own _ _ (List.mem_of_getElem? (i := 0) rfl)) (by omega) (by omega))) rfl ?_
  rintro _ _ _ ⟨rfl, rfl, rfl⟩
  refine WL.yd (Yd.assign rfl) rfl ?_
  refine WL.nil ?_
  refine WP.thenC ?_
  refine WC.ret ?_
  refine WP.ret1 rfl rfl Try.results62 (RV.tmp rfl) (fun w hI => ⟨ret_int (by omega), hI.keep⟩)

set_option maxRecDepth 100000 in
set_option maxHeartbeats 1000000 in
theorem in_call (h : Int) (s1 s2 t0 : Value) (tt : TypeId) (tv : Value) (w : World) (D : Imm) (hH : Holds D w) : Calls Try.prog 56 (List.toArray [.agg #[it h, s1, s2, t0], .iface tt tv]) w fun e w' => ∃ b D', e = .returned (pt b) ∧ Keep [] w w' ∧ Holds D' w' ∧ DExt w D D' ∧ D' b = some (.cells (List.toArray [it h, s1, s2, .iface tt tv]) 89 (0, 0)) := by
  refine enter Try.func56 rfl 7 Try.ntmps56 (Nat.le_of_ble_eq_true rfl) (Inv.start hH) ?_
  refine WC.seq ?_
  refine WC.ofFr [(0, _), (1, _)] ⟨rfl, rfl, trivial⟩ ?_
  refine WC.region ?_
  refine WL.so (SO.box rfl rfl) rfl ?_
  rintro _ _ _ ⟨b2, hb2, rfl, rfl, rfl⟩ -- NEW
  refine WL.yd (Yd.assign rfl) rfl ?_
  refine WL.nil ?_
  refine WP.thenC ?_
  refine WC.seq ?_
  refine WC.ofFr [(4, _), (2, _), (1, _)] ⟨rfl, rfl, rfl, trivial⟩ ?_
  refine WC.region ?_
  refine WL.yd (Yd.move rfl) rfl ?_
  refine WL.yd (Yd.fieldAddr FA89_1 rfl) rfl ?_
  refine WL.so (SO.store 0 rfl Try.sizeOf87 rfl rfl rfl rfl (Nat.le_of_ble_eq_true rfl) (oneB_spec rfl)) rfl ?_
  rintro _ _ _ ⟨rfl, rfl, rfl⟩
  refine WL.nil ?_
  refine WP.thenC ?_
  refine WC.seq ?_
  refine WC.ofFr [(4, _), (2, _)] ⟨rfl, rfl, trivial⟩ ?_
  refine WC.region ?_
  refine WL.yd (Yd.assign rfl) rfl ?_
  refine WL.nil ?_
  refine WP.thenC ?_
  refine WC.ret ?_
  refine WP.ret1 rfl rfl Try.results56 (RV.tmp rfl) (fun w hI => ⟨b2, _, rfl, hI.keep, hI.freeze.imm, (DExt.refl _ _).add (hI.apart _ _ (List.mem_of_getElem? (i := 0) rfl)) hb2, Imm.add_self _ _ _⟩)

end Go.Proofs.Ytidjdonppfegiaa
namespace Go.Proofs.Ytidjdonppfegiaa
open Go.W Go.Dp

set_option maxRecDepth 100000 in
set_option maxHeartbeats 1000000 in
theorem without_g (h : HM) (x y many : Int) (w : World) (hx : 0 ≤ x ∧ x < 4) (hy : 0 ≤ y ∧ y < 3) (hn : -1000 ≤ h x.toNat y.toNat ∧ h x.toNat y.toNat ≤ 1000) (hm : -1000 ≤ many ∧ many ≤ 1000) : Gives Try.prog 95 [.agg (handsC h).toArray, .agg #[it x, it y], it many] w (.agg (handsC (upd h x.toNat y.toNat (h x.toNat y.toNat - many))).toArray) := by
  unfold Gives
  refine enter Try.func95 rfl 19 Try.ntmps95 (Nat.le_of_ble_eq_true rfl) (Inv.start (D := fun _ => none) (by intro _ _ h; cases h)) ?_
  refine WC.seq ?_
  refine WC.ofFr [(0, _), (1, _), (2, _)] ⟨rfl, rfl, rfl, trivial⟩ ?_
  refine WC.region ?_
  refine WL.so (SO.box rfl rfl) rfl ?_
  rintro _ _ _ ⟨b3, hb3, rfl, rfl, rfl⟩ -- NEW
  refine WL.so (SO.box rfl rfl) rfl ?_
  rintro _ _ _ ⟨b4, hb4, rfl, rfl, rfl⟩ -- NEW
  refine WL.so (SO.alloc Try.zeroValue120 rfl) rfl ?_
  rintro _ _ _ ⟨b6, hb6, rfl, rfl, rfl⟩ -- NEW
  refine WL.nil ?_
  refine WP.thenC ?_
  refine WC.seq ?_
  refine WC.ofFr [(6, _), (4, _), (3, _), (2, _)] ⟨rfl, rfl, rfl, rfl, trivial⟩ ?_
  refine WC.tail 10 [0, 1, 2, 3, 4, 5, 6, 7, 8, 9] rfl (by kernel_rfl) (by kernel_rfl)  ?_
  refine WQ.q rfl (Yd.qt (Yd.fieldAddr FA61_0 rfl)) rfl ?_
  refine WQ.q rfl (Yd.qt (Yd.load1 Try.isAgg3 rfl (by first | exact Rd.own (k := 0) rfl rfl | exact Rd.own (k := 1) rfl rfl | exact Rd.own (k := 2) rfl rfl | exact (Rd.own (k := 2) rfl (hands_at h x.toNat y.toNat (by omega) (by omega)))))) rfl ?_
  refine WQ.q rfl (Yd.qt (Yd.fieldAddr FA61_1 rfl)) rfl ?_
  refine WQ.q rfl (Yd.qt (Yd.load1 Try.isAgg3 rfl (by first | exact Rd.own (k := 0) rfl rfl | exact Rd.own (k := 1) rfl rfl | exact Rd.own (k := 2) rfl rfl | exact (Rd.own (k := 2) rfl (hands_at h x.toNat y.toNat (by omega) (by omega)))))) rfl ?_
  refine WQ.q rfl (Yd.qt (Yd.indexA Try.underlying120 Try.sizeOf118 rfl rfl (by omega) (by omega))) rfl ?_
  refine WQ.q rfl (Yd.qt (Yd.indexA Try.underlying118 Try.sizeOf3 rfl rfl (by omega) (by omega))) rfl ?_
  refine WQ.q rfl (Yd.qt (Yd.load1 Try.isAgg3 rfl (by first | exact Rd.own (k := 0) rfl rfl | exact Rd.own (k := 1) rfl rfl | exact Rd.own (k := 2) rfl rfl | exact (Rd.own (k := 2) rfl (hands_at h x.toNat y.toNat (by omega) (by omega)))))) rfl ?_
  refine WQ.q rfl (Yd.qt (Yd.move rfl)) rfl ?_
  refine WQ.q rfl (Yd.qt (Yd.sub rfl rfl (wr64 ⟨by omega, by omega⟩))) rfl ?_
  refine WQ.q rfl (Yd.qt (Yd.indexA Try.underlying120 Try.sizeOf118 rfl rfl (by omega) (by omega))) rfl ?_
  refine WQ.tail ?_
  refine WL.yd (Yd.indexA Try.underlying118 Try.sizeOf3 rfl rfl (by omega) (by omega)) rfl ?_
  refine WL.so (SO.store 2 rfl Try.sizeOf3 rfl rfl rfl rfl (hb_ok _ _ (by omega) (by omega) (by first | rfl | (rw [splice_len _ _ _ (hb_ok _ _ (by omega) (by omega) rfl)]; rfl))) (oneB_spec rfl)) rfl ?_
  rintro _ _ _ ⟨rfl, rfl, rfl⟩
  refine WL.nil ?_
  refine WP.thenC ?_
  refine WC.seq ?_
  refine WC.ofFr [(6, _), (3, _)] ⟨rfl, rfl, trivial⟩ ?_
  refine WC.region ?_
  refine WL.yd (Yd.loadN Try.isAgg120 Try.sizeOf120 rfl (vs := handsC (upd h x.toNat y.toNat (h x.toNat y.toNat - many))) rfl (RdN.own (k := 2) (n := 12) rfl (by rw [splice_hands _ _ _ _ (by omega) (by omega)]; rfl))) rfl ?_
  refine WL.so (SO.store 0 rfl Try.sizeOf120 rfl rfl rfl rfl (Nat.le_of_ble_eq_true rfl) (oneB_spec rfl)) rfl ?_
  rintro _ _ _ ⟨rfl, rfl, rfl⟩
  refine WL.nil ?_
  refine WP.thenC ?_
  refine WC.ret ?_
  refine WP.ret1 rfl rfl Try.results95 (RV.cellN Try.isAgg120 Try.sizeOf120 rfl (vs := handsC (upd h x.toNat y.toNat (h x.toNat y.toNat - many))) rfl (RdN.own (k := 0) (n := 12) rfl rfl)) (fun w hI => ⟨rfl, hI.keep⟩)

set_option maxRecDepth 100000 in
set_option maxHeartbeats 1000000 in
theorem left_g (h : HM) (x y : Int) (w : World) (hx : 0 ≤ x ∧ x < 4) (hy : 0 ≤ y ∧ y < 3) : Gives Try.prog 96 [.agg (handsC h).toArray, .agg #[it x, it y]] w (it (h x.toNat y.toNat)) := by
  unfold Gives
  refine enter Try.func96 rfl 12 Try.ntmps96 (Nat.le_of_ble_eq_true rfl) (Inv.start (D := fun _ => none) (by intro _ _ h; cases h)) ?_
  refine WC.seq ?_
  refine WC.ofFr [(0, _), (1, _)] ⟨rfl, rfl, trivial⟩ ?_
  refine WC.region ?_
  refine WL.so (SO.box rfl rfl) rfl ?_
  rintro _ _ _ ⟨b2, hb2, rfl, rfl, rfl⟩ -- NEW
  refine WL.so (SO.box rfl rfl) rfl ?_
  rintro _ _ _ ⟨b3, hb3, rfl, rfl, rfl⟩ -- NEW
  refine WL.yd (Yd.assign rfl) rfl ?_
  refine WL.nil ?_
  refine WP.thenC ?_
  refine WC.seq ?_
  refine WC.ofFr [(4, _), (3, _), (2, _)] ⟨rfl, rfl, rfl, trivial⟩ ?_
  refine WC.tail 5 [0, 1, 2, 3, 4] rfl (by kernel_rfl) (by kernel_rfl)  ?_
  refine WQ.q rfl (Yd.qt (Yd.fieldAddr FA61_0 rfl)) rfl ?_
  refine WQ.q rfl (Yd.qt (Yd.load1 Try.isAgg3 rfl (by first | exact Rd.own (k := 0) rfl rfl | exact Rd.own (k := 1) rfl rfl | exact (Rd.own (k := 1) rfl (hands_at h x.toNat y.toNat (by omega) (by omega)))))) rfl ?_
  refine WQ.q rfl (Yd.qt (Yd.fieldAddr FA61_1 rfl)) rfl ?_
  refine WQ.q rfl (Yd.qt (Yd.load1 Try.isAgg3 rfl (by first | exact Rd.own (k := 0) rfl rfl | exact Rd.own (k := 1) rfl rfl | exact (Rd.own (k := 1) rfl (hands_at h x.toNat y.toNat (by omega) (by omega)))))) rfl ?_
  refine WQ.q rfl (Yd.qt (Yd.indexA Try.underlying120 Try.sizeOf118 rfl rfl (by omega) (by omega))) rfl ?_
  refine WQ.tail ?_
  refine WL.yd (Yd.indexA Try.underlying118 Try.sizeOf3 rfl rfl (by omega) (by omega)) rfl ?_
  refine WL.yd (Yd.load1 Try.isAgg3 rfl (by first | exact Rd.own (k := 0) rfl rfl | exact Rd.own (k := 1) rfl rfl | exact (Rd.own (k := 1) rfl (hands_at h x.toNat y.toNat (by omega) (by omega))))) rfl ?_
  refine WL.yd (Yd.assign rfl) rfl ?_
  refine WL.nil ?_
  refine WP.thenC ?_
  refine WC.ret ?_
  refine WP.ret1 rfl rfl Try.results96 (RV.tmp rfl) (fun w hI => ⟨rfl, hI.keep⟩)

set_option maxRecDepth 100000 in
set_option maxHeartbeats 1000000 in
theorem begin_true (d : Dips) (a1 : Option Addr) (n1 c1 : Nat) (a2 : Option Addr) (n2 c2 : Nat) (b : Nat) (D : Imm) (w : World) (hB : BeachAt D b d (.slice a1 n1 c1) (.slice a2 n2 c2) (truthV true)) (hR : DipsR D d a1 n1 a2 n2) (hH : Holds D w) (hv : dipsB d = true) : Gives Try.prog 94 [pt b] w (.agg (handsC (beginH d true)).toArray) := by
  unfold Gives
  obtain rfl := hR.dip.len'
  obtain rfl := hR.bath.len'
  have hl1 := hR.len1
  have hl2 := hR.len2
  obtain ⟨hh, hd1, hd2, hdn, hbn⟩ := dips_num hv
  refine enter Try.func94 rfl 44 Try.ntmps94 (Nat.le_of_ble_eq_true rfl) (Inv.start hH) ?_
  refine WC.seq ?_
  refine WC.ofFr [(0, _)] ⟨rfl, trivial⟩ ?_
  refine WC.region ?_
  refine WL.so (SO.alloc Try.zeroValue120 rfl) rfl ?_
  rintro _ _ _ ⟨b2, hb2, rfl, rfl, rfl⟩ -- NEW
  refine WL.nil ?_
  refine WP.thenC ?_
  refine WC.seq ?_
  refine WC.seq ?_
  refine WC.ofFr [(2, _), (0, _)] ⟨rfl, rfl, trivial⟩ ?_
  refine WC.region ?_
  refine WL.yd (Yd.move rfl) rfl ?_
  refine WL.nil ?_
  refine WP.thenC ?_
  refine WC.block ?_
  rw [show List.toArray [it 0, it 0, it 0, it 0, it 0, it 0, it 0, it 0, it 0, it 0, it 0, it 0] = (handsC (beginTo d true 0 0)).toArray from by rw [beginTo_zero]; rfl]
  refine WC.loop (fun k : Nat => [(0, pt b), (2, pt b2), (6, nt k)]) (fun k => [(b2, .cells (handsC (beginTo d true k 0)).toArray 120 (0, 0))]) (fun _ => D) (fun k => k ≤ 4) (fun k => 4 - k) 0 (by omega) (fun a w h => at_fr h ⟨rfl, rfl, rfl, trivial⟩) ?_
  intro k hk
  refine WC.seq ?_
  refine WC.ofFr [(0, _), (2, _), (6, _)] ⟨rfl, rfl, rfl, trivial⟩ ?_
  refine WC.region ?_
  refine WL.yd (Yd.lss rfl rfl) rfl ?_
  refine WL.nil ?_
  refine WP.thenC ?_
  refine WC.seq ?_
  refine WC.cond rfl (fun c7 => ?_) (fun c7 => ?_)
  · try simp only [zq1, zq2, zq3, zq4, zq5, zq6, zq7, zq8] at c7
    have hk4 : k < 4 := by omega
    refine WC.skip ?_
    refine WP.thenC ?_
    refine WC.seq ?_
    refine WC.block ?_
    refine WC.seq ?_
    refine WC.ofFr [(0, _), (2, _), (6, _)] ⟨rfl, rfl, rfl, trivial⟩ ?_
    refine WC.region ?_
    refine WL.yd (Yd.move rfl) rfl ?_
    refine WL.yd (Yd.assign rfl) rfl ?_
    refine WL.nil ?_
    refine WP.thenC ?_
    refine WC.seq ?_
    refine WC.ofFr [(3, _), (0, _), (2, _), (6, _)] ⟨rfl, rfl, rfl, rfl, trivial⟩ ?_
    refine WC.region ?_
    refine WL.yd (Yd.move rfl) rfl ?_
    refine WL.yd (Yd.nilCheck rfl) rfl ?_
    refine WL.yd (Yd.fieldAddr FA89_0 rfl) rfl ?_
    refine WL.yd (Yd.fieldAddr FA25_1 rfl) rfl ?_
    refine WL.yd (Yd.load1 Try.isAgg22 rfl (by first | exact Rd.own (k := 0) rfl rfl | exact (Rd.imm hB rfl) | exact (hR.dip.at j (by omega)).rd 0 rfl | exact (hR.dip.at j (by omega)).rd 1 rfl | exact (hR.dip.at j (by omega)).rd 2 rfl)) rfl ?_
    refine WL.yd (Yd.lenS rfl Try.underlying22 rfl) rfl ?_
    refine WL.yd (Yd.move rfl) rfl ?_
    refine WL.nil ?_
    refine WP.thenC ?_
    refine WC.block ?_
    refine WC.loop (fun j : Nat => [(0, pt b), (2, pt b2), (3, nt k), (6, nt k), (13, .slice a1 d.dippers.length c1), (14, nt d.dippers.length), (15, nt j)]) (fun j => [(b2, .cells (handsC (beginTo d true k j)).toArray 120 (0, 0))]) (fun _ => D) (fun j => j ≤ d.dippers.length) (fun j => d.dippers.length - j) 0 (by omega) (fun a w h => at_fr h ⟨rfl, rfl, rfl, rfl, rfl, rfl, rfl, trivial⟩) ?_
    intro j hj
    refine WC.seq ?_
    refine WC.ofFr [(0, _), (2, _), (3, _), (6, _), (13, _), (14, _), (15, _)] ⟨rfl, rfl, rfl, rfl, rfl, rfl, rfl, trivial⟩ ?_
    refine WC.region ?_
    refine WL.yd (Yd.lss rfl rfl) rfl ?_
    refine WL.nil ?_
    refine WP.thenC ?_
    refine WC.seq ?_
    refine WC.cond rfl (fun c16 => ?_) (fun c16 => ?_)
    · try simp only [zq1, zq2, zq3, zq4, zq5, zq6, zq7, zq8] at c16
      have hj3 : j < 3 := by omega
      have hbn1 := hdn j (by omega)
      refine WC.skip ?_
      refine WP.thenC ?_
      refine WC.seq ?_
      refine WC.block ?_
      refine WC.seq ?_
      refine WC.ofFr [(0, _), (2, _), (3, _), (6, _), (13, _), (14, _), (15, _)] ⟨rfl, rfl, rfl, rfl, rfl, rfl, rfl, trivial⟩ ?_
      refine WC.region ?_
      refine WL.yd (Yd.move rfl) rfl ?_
      refine WL.yd (Yd.indexS Try.underlying22 Try.sizeOf53 rfl rfl (by omega) (by omega) (by first | exact hR.dip.addr j (by omega))) rfl ?_
      refine WL.yd (Yd.loadN Try.isAgg53 Try.sizeOf53 rfl (vs := [_, _, _]) rfl (by first | exact RdN.own (k := 0) (n := 3) rfl rfl | exact (hR.dip.at j (by omega)).rdn 0 2 rfl | exact (hR.bath.at j (by omega)).rdn 0 2 rfl | exact (hR.dip.at j (by omega)).rdn 0 3 rfl | exact (hR.bath.at j (by omega)).rdn 0 3 rfl)) rfl ?_
      refine WL.so (SO.alloc Try.zeroValue53 rfl) rfl ?_
      rintro _ _ _ ⟨b5, hb5, rfl, rfl, rfl⟩ -- NEW
      refine WL.yd (Yd.assign rfl) rfl ?_
      refine WL.so (SO.store 0 rfl Try.sizeOf53 rfl rfl rfl rfl (Nat.le_of_ble_eq_true rfl) (oneB_spec rfl)) rfl ?_
      rintro _ _ _ ⟨rfl, rfl, rfl⟩
      refine WL.nil ?_
      refine WP.thenC ?_
      refine WC.seq ?_
      refine WC.ofFr [(4, _), (5, _), (0, _), (2, _), (3, _), (6, _), (13, _), (14, _), (15, _)] ⟨rfl, rfl, rfl, rfl, rfl, rfl, rfl, rfl, rfl, trivial⟩ ?_
      refine WC.region ?_
      refine WL.yd (Yd.move rfl) rfl ?_
      refine WL.yd (Yd.move rfl) rfl ?_
      refine WL.yd (Yd.indexA Try.underlying120 Try.sizeOf118 rfl rfl (by omega) (by omega)) rfl ?_
      refine WL.yd (Yd.indexA Try.underlying118 Try.sizeOf3 rfl rfl (by omega) (by omega)) rfl ?_
      refine WL.so (SO.store 1 rfl Try.sizeOf3 rfl rfl rfl rfl (hb_ok _ _ (by omega) (by omega) (by first | rfl | (rw [splice_len _ _ _ (hb_ok _ _ (by omega) (by omega) rfl)]; rfl))) (oneB_spec rfl)) rfl ?_
      rintro _ _ _ ⟨rfl, rfl, rfl⟩
      refine WL.nil ?_
      refine WP.thenC ?_
      refine WC.seq ?_
      refine WC.ofFr [(4, _), (5, _), (0, _), (2, _), (3, _), (6, _), (13, _), (14, _), (15, _)] ⟨rfl, rfl, rfl, rfl, rfl, rfl, rfl, rfl, rfl, trivial⟩ ?_
      refine WC.region ?_
      refine WL.yd (Yd.fieldAddr FA53_1 rfl) rfl ?_
      refine WL.yd (Yd.load1 Try.isAgg3 rfl (by first | exact Rd.own (k := 0) rfl rfl | exact Rd.own (k := 1) rfl rfl | exact (Rd.imm hB rfl) | exact (hR.dip.at j (by omega)).rd 0 rfl | exact (hR.dip.at j (by omega)).rd 1 rfl | exact (hR.dip.at j (by omega)).rd 2 rfl)) rfl ?_
      refine WL.yd (Yd.move rfl) rfl ?_
      refine WL.yd (Yd.shr rfl rfl (by omega)) rfl ?_
      refine WL.yd (Yd.and1 rfl rfl) rfl ?_
      refine WL.yd (Yd.eql rfl rfl) rfl ?_
      refine WL.nil ?_
      refine WP.thenC ?_
      refine WC.cond rfl (fun c29 => ?_) (fun c29 => ?_)
      · try simp only [zq1, zq2, zq3, zq4, zq5, zq6, zq7, zq8] at c29
        have hbit : bitN (gt d.dippers j).hours (k : Int) = 1 := c29
        refine WC.ofFr [(4, _), (5, _), (0, _), (2, _), (3, _), (6, _), (13, _), (14, _), (15, _)] ⟨rfl, rfl, rfl, rfl, rfl, rfl, rfl, rfl, rfl, trivial⟩ ?_
        refine WC.tail 10 [0, 1, 2, 3, 4, 5, 6, 7, 8, 9] rfl (by kernel_rfl) (by kernel_rfl)  ?_
        refine WQ.q rfl (Yd.qt (Yd.move rfl)) rfl ?_
        refine WQ.q rfl (Yd.qt (Yd.move rfl)) rfl ?_
        refine WQ.q rfl (Yd.qt (Yd.move rfl)) rfl ?_
        refine WQ.q rfl (Yd.qt (Yd.nilCheck rfl)) rfl ?_
        refine WQ.q rfl (Yd.qt (Yd.fieldAddr FA89_1 rfl)) rfl ?_
        refine WQ.q rfl (Yd.qt (Yd.load1 Try.isAgg87 rfl (by first | exact Rd.own (k := 0) rfl rfl | exact Rd.own (k := 1) rfl rfl | exact (Rd.imm hB rfl) | exact (hR.dip.at j (by omega)).rd 0 rfl | exact (hR.dip.at j (by omega)).rd 1 rfl | exact (hR.dip.at j (by omega)).rd 2 rfl))) rfl ?_
        refine WQ.q rfl (Yd.qt (Yd.fieldAddr FA53_0 rfl)) rfl ?_
        refine WQ.q rfl (Yd.qt (Yd.loadN Try.isAgg35 Try.sizeOf35 rfl (vs := [_, _]) rfl (by first | exact RdN.own (k := 0) (n := 2) rfl rfl | exact RdN.own (k := 1) (n := 2) rfl rfl | exact (hR.dip.at j (by omega)).rdn 0 2 rfl | exact (hR.bath.at j (by omega)).rdn 0 2 rfl | exact (hR.dip.at j (by omega)).rdn 0 3 rfl | exact (hR.bath.at j (by omega)).rdn 0 3 rfl))) rfl ?_
        refine WQ.q rfl (Qt.call (Enters.meth Try.call62 (fun w => by kernel_rfl) rfl rfl) (fun w hI => bestHas_g (gt d.dippers j).hands _ (by omega))) rfl ?_
        refine WQ.q rfl (Yd.qt (Yd.indexA Try.underlying120 Try.sizeOf118 rfl rfl (by omega) (by omega))) rfl ?_
        refine WQ.tail ?_
        refine WL.yd (Yd.indexA Try.underlying118 Try.sizeOf3 rfl rfl (by omega) (by omega)) rfl ?_
        refine WL.so (SO.store 1 rfl Try.sizeOf3 rfl rfl rfl rfl (hb_ok _ _ (by omega) (by omega) (by first | rfl | (rw [splice_len _ _ _ (hb_ok _ _ (by omega) (by omega) rfl)]; rfl))) (oneB_spec rfl)) rfl ?_
        rintro _ _ _ ⟨rfl, rfl, rfl⟩
        refine WL.nil ?_
        refine WP.blkNormal ?_
        refine WP.thenC ?_
        refine WC.ofFr [(0, _), (2, _), (3, _), (6, _), (13, _), (14, _), (15, _)] ⟨rfl, rfl, rfl, rfl, rfl, rfl, rfl, trivial⟩ ?_
        refine WC.region ?_
        refine WL.yd (Yd.add rfl rfl (wr64 ⟨by omega, by omega⟩)) rfl ?_
        refine WL.yd (Yd.move rfl) rfl ?_
        refine WL.nil ?_
        have hbh : beginH d true k j = (if bitN (gt d.dippers j).hours (k : Int) = 1 then hands0 true (gt d.dippers j) else -1) := if_pos (by omega)
        refine WP.again (j + 1) (by omega) (by omega) (fun a w h => ?_)
        show At _ [(0, pt b), (2, pt b2), (3, nt k), (6, nt k), (13, .slice a1 d.dippers.length c1), (14, nt d.dippers.length), (15, nt (j + 1))] D [(b2, .cells (handsC (beginTo d true k (j + 1))).toArray 120 (0, 0))] a w
        first
          | (rw [← beginTo_step, hbh, if_pos hbit, ← upd_upd _ _ _ (-1), ← splice_hands _ _ _ _ hk4 hj3, ← splice_hands _ _ _ _ hk4 hj3]
             exact at_less h ⟨rfl, rfl, rfl, rfl, rfl, rfl, rfl, trivial⟩ (fun _ h => List.mem_cons_of_mem _ h) (fun h => (List.nodup_cons.1 h).2))
          | (rw [← beginTo_step, hbh, if_neg hbit, ← splice_hands _ _ _ _ hk4 hj3]
             exact at_less h ⟨rfl, rfl, rfl, rfl, rfl, rfl, rfl, trivial⟩ (fun _ h => List.mem_cons_of_mem _ h) (fun h => (List.nodup_cons.1 h).2))
      · try simp only [zq1, zq2, zq3, zq4, zq5, zq6, zq7, zq8] at c29
        have hbit : ¬ bitN (gt d.dippers j).hours (k : Int) = 1 := c29
        refine WC.skip ?_
        refine WP.blkNormal ?_
        refine WP.thenC ?_
        refine WC.ofFr [(0, _), (2, _), (3, _), (6, _), (13, _), (14, _), (15, _)] ⟨rfl, rfl, rfl, rfl, rfl, rfl, rfl, trivial⟩ ?_
        refine WC.region ?_
        refine WL.yd (Yd.add rfl rfl (wr64 ⟨by omega, by omega⟩)) rfl ?_
        refine WL.yd (Yd.move rfl) rfl ?_
        refine WL.nil ?_
        have hbh : beginH d true k j = (if bitN (gt d.dippers j).hours (k : Int) = 1 then hands0 true (gt d.dippers j) else -1) := if_pos (by omega)
        refine WP.again (j + 1) (by omega) (by omega) (fun a w h => ?_)
        show At _ [(0, pt b), (2, pt b2), (3, nt k), (6, nt k), (13, .slice a1 d.dippers.length c1), (14, nt d.dippers.length), (15, nt (j + 1))] D [(b2, .cells (handsC (beginTo d true k (j + 1))).toArray 120 (0, 0))] a w
        first
          | (rw [← beginTo_step, hbh, if_pos hbit, ← upd_upd _ _ _ (-1), ← splice_hands _ _ _ _ hk4 hj3, ← splice_hands _ _ _ _ hk4 hj3]
             exact at_less h ⟨rfl, rfl, rfl, rfl, rfl, rfl, rfl, trivial⟩ (fun _ h => List.mem_cons_of_mem _ h) (fun h => (List.nodup_cons.1 h).2))
          | (rw [← beginTo_step, hbh, if_neg hbit, ← splice_hands _ _ _ _ hk4 hj3]
             exact at_less h ⟨rfl, rfl, rfl, rfl, rfl, rfl, rfl, trivial⟩ (fun _ h => List.mem_cons_of_mem _ h) (fun h => (List.nodup_cons.1 h).2))
    · try simp only [zq1, zq2, zq3, zq4, zq5, zq6, zq7, zq8] at c16
      refine WC.exit ?_
      refine WP.thenExit ?_
      refine WP.thenExit ?_
      refine WP.blkHit ?_
      refine WP.blkNormal ?_
      refine WP.thenC ?_
      refine WC.ofFr [(0, _), (2, _), (6, _)] ⟨rfl, rfl, rfl, trivial⟩ ?_
      refine WC.region ?_
      refine WL.yd (Yd.add rfl rfl (wr64 ⟨by omega, by omega⟩)) rfl ?_
      refine WL.yd (Yd.move rfl) rfl ?_
      refine WL.nil ?_
      obtain rfl : j = d.dippers.length := by omega
      refine WP.again (k + 1) (by omega) (by omega) (fun a w h => ?_)
      show At _ _ D [(b2, .cells (handsC (beginTo d true (k + 1) 0)).toArray 120 (0, 0))] a w
      rw [← beginTo_next]
      exact at_fr h ⟨rfl, rfl, rfl, trivial⟩
  · try simp only [zq1, zq2, zq3, zq4, zq5, zq6, zq7, zq8] at c7
    refine WC.exit ?_
    refine WP.thenExit ?_
    refine WP.thenExit ?_
    refine WP.blkHit ?_
    refine WP.thenC ?_
    refine WC.seq ?_
    refine WC.ofFr [(2, _)] ⟨rfl, trivial⟩ ?_
    refine WC.region ?_
    refine WL.yd (Yd.loadN Try.isAgg120 Try.sizeOf120 rfl (vs := handsC (beginTo d true k 0)) rfl (RdN.own (k := 0) (n := 12) rfl rfl)) rfl ?_
    refine WL.so (SO.store 0 rfl Try.sizeOf120 rfl rfl rfl rfl (Nat.le_of_ble_eq_true rfl) (oneB_spec rfl)) rfl ?_
    rintro _ _ _ ⟨rfl, rfl, rfl⟩
    refine WL.nil ?_
    refine WP.thenC ?_
    refine WC.ret ?_
    refine WP.ret1 rfl rfl Try.results94 (RV.cellN Try.isAgg120 Try.sizeOf120 rfl (vs := handsC (beginTo d true k 0)) rfl (RdN.own (k := 0) (n := 12) rfl rfl)) (fun w hI => ⟨by rw [show k = 4 from by omega, beginTo_all], hI.keep⟩)

set_option maxRecDepth 100000 in
set_option maxHeartbeats 1000000 in
theorem begin_false (d : Dips) (a1 : Option Addr) (n1 c1 : Nat) (a2 : Option Addr) (n2 c2 : Nat) (b : Nat) (D : Imm) (w : World) (hB : BeachAt D b d (.slice a1 n1 c1) (.slice a2 n2 c2) (truthV false)) (hR : DipsR D d a1 n1 a2 n2) (hH : Holds D w) (hv : dipsB d = true) : Gives Try.prog 94 [pt b] w (.agg (handsC (beginH d false)).toArray) := by
  unfold Gives
  obtain rfl := hR.dip.len'
  obtain rfl := hR.bath.len'
  have hl1 := hR.len1
  have hl2 := hR.len2
  obtain ⟨hh, hd1, hd2, hdn, hbn⟩ := dips_num hv
  refine enter Try.func94 rfl 44 Try.ntmps94 (Nat.le_of_ble_eq_true rfl) (Inv.start hH) ?_
  refine WC.seq ?_
  refine WC.ofFr [(0, _)] ⟨rfl, trivial⟩ ?_
  refine WC.region ?_
  refine WL.so (SO.alloc Try.zeroValue120 rfl) rfl ?_
  rintro _ _ _ ⟨b2, hb2, rfl, rfl, rfl⟩ -- NEW
  refine WL.nil ?_
  refine WP.thenC ?_
  refine WC.seq ?_
  refine WC.seq ?_
  refine WC.ofFr [(2, _), (0, _)] ⟨rfl, rfl, trivial⟩ ?_
  refine WC.region ?_
  refine WL.yd (Yd.move rfl) rfl ?_
  refine WL.nil ?_
  refine WP.thenC ?_
  refine WC.block ?_
  rw [show List.toArray [it 0, it 0, it 0, it 0, it 0, it 0, it 0, it 0, it 0, it 0, it 0, it 0] = (handsC (beginTo d false 0 0)).toArray from by rw [beginTo_zero]; rfl]
  refine WC.loop (fun k : Nat => [(0, pt b), (2, pt b2), (6, nt k)]) (fun k => [(b2, .cells (handsC (beginTo d false k 0)).toArray 120 (0, 0))]) (fun _ => D) (fun k => k ≤ 4) (fun k => 4 - k) 0 (by omega) (fun a w h => at_fr h ⟨rfl, rfl, rfl, trivial⟩) ?_
  intro k hk
  refine WC.seq ?_
  refine WC.ofFr [(0, _), (2, _), (6, _)] ⟨rfl, rfl, rfl, trivial⟩ ?_
  refine WC.region ?_
  refine WL.yd (Yd.lss rfl rfl) rfl ?_
  refine WL.nil ?_
  refine WP.thenC ?_
  refine WC.seq ?_
  refine WC.cond rfl (fun c7 => ?_) (fun c7 => ?_)
  · try simp only [zq1, zq2, zq3, zq4, zq5, zq6, zq7, zq8] at c7
    have hk4 : k < 4 := by omega
    refine WC.skip ?_
    refine WP.thenC ?_
    refine WC.seq ?_
    refine WC.block ?_
    refine WC.seq ?_
    refine WC.ofFr [(0, _), (2, _), (6, _)] ⟨rfl, rfl, rfl, trivial⟩ ?_
    refine WC.region ?_
    refine WL.yd (Yd.move rfl) rfl ?_
    refine WL.yd (Yd.assign rfl) rfl ?_
    refine WL.nil ?_
    refine WP.thenC ?_
    refine WC.seq ?_
    refine WC.ofFr [(3, _), (0, _), (2, _), (6, _)] ⟨rfl, rfl, rfl, rfl, trivial⟩ ?_
    refine WC.region ?_
    refine WL.yd (Yd.move rfl) rfl ?_
    refine WL.yd (Yd.nilCheck rfl) rfl ?_
    refine WL.yd (Yd.fieldAddr FA89_0 rfl) rfl ?_
    refine WL.yd (Yd.fieldAddr FA25_1 rfl) rfl ?_
    refine WL.yd (Yd.load1 Try.isAgg22 rfl (by first | exact Rd.own (k := 0) rfl rfl | exact (Rd.imm hB rfl) | exact (hR.dip.at j (by omega)).rd 0 rfl | exact (hR.dip.at j (by omega)).rd 1 rfl | exact (hR.dip.at j (by omega)).rd 2 rfl)) rfl ?_
    refine WL.yd (Yd.lenS rfl Try.underlying22 rfl) rfl ?_
    refine WL.yd (Yd.move rfl) rfl ?_
    refine WL.nil ?_
    refine WP.thenC ?_
    refine WC.block ?_
    refine WC.loop (fun j : Nat => [(0, pt b), (2, pt b2), (3, nt k), (6, nt k), (13, .slice a1 d.dippers.length c1), (14, nt d.dippers.length), (15, nt j)]) (fun j => [(b2, .cells (handsC (beginTo d false k j)).toArray 120 (0, 0))]) (fun _ => D) (fun j => j ≤ d.dippers.length) (fun j => d.dippers.length - j) 0 (by omega) (fun a w h => at_fr h ⟨rfl, rfl, rfl, rfl, rfl, rfl, rfl, trivial⟩) ?_
    intro j hj
    refine WC.seq ?_
    refine WC.ofFr [(0, _), (2, _), (3, _), (6, _), (13, _), (14, _), (15, _)] ⟨rfl, rfl, rfl, rfl, rfl, rfl, rfl, trivial⟩ ?_
    refine WC.region ?_
    refine WL.yd (Yd.lss rfl rfl) rfl ?_
    refine WL.nil ?_
    refine WP.thenC ?_
    refine WC.seq ?_
    refine WC.cond rfl (fun c16 => ?_) (fun c16 => ?_)
    · try simp only [zq1, zq2, zq3, zq4, zq5, zq6, zq7, zq8] at c16
      have hj3 : j < 3 := by omega
      have hbn1 := hdn j (by omega)
      refine WC.skip ?_
      refine WP.thenC ?_
      refine WC.seq ?_
      refine WC.block ?_
      refine WC.seq ?_
      refine WC.ofFr [(0, _), (2, _), (3, _), (6, _), (13, _), (14, _), (15, _)] ⟨rfl, rfl, rfl, rfl, rfl, rfl, rfl, trivial⟩ ?_
      refine WC.region ?_
      refine WL.yd (Yd.move rfl) rfl ?_
      refine WL.yd (Yd.indexS Try.underlying22 Try.sizeOf53 rfl rfl (by omega) (by omega) (by first | exact hR.dip.addr j (by omega))) rfl ?_
      refine WL.yd (Yd.loadN Try.isAgg53 Try.sizeOf53 rfl (vs := [_, _, _]) rfl (by first | exact RdN.own (k := 0) (n := 3) rfl rfl | exact (hR.dip.at j (by omega)).rdn 0 2 rfl | exact (hR.bath.at j (by omega)).rdn 0 2 rfl | exact (hR.dip.at j (by omega)).rdn 0 3 rfl | exact (hR.bath.at j (by omega)).rdn 0 3 rfl)) rfl ?_
      refine WL.so (SO.alloc Try.zeroValue53 rfl) rfl ?_
      rintro _ _ _ ⟨b5, hb5, rfl, rfl, rfl⟩ -- NEW
      refine WL.yd (Yd.assign rfl) rfl ?_
      refine WL.so (SO.store 0 rfl Try.sizeOf53 rfl rfl rfl rfl (Nat.le_of_ble_eq_true rfl) (oneB_spec rfl)) rfl ?_
      rintro _ _ _ ⟨rfl, rfl, rfl⟩
      refine WL.nil ?_
      refine WP.thenC ?_
      refine WC.seq ?_
      refine WC.ofFr [(4, _), (5, _), (0, _), (2, _), (3, _), (6, _), (13, _), (14, _), (15, _)] ⟨rfl, rfl, rfl, rfl, rfl, rfl, rfl, rfl, rfl, trivial⟩ ?_
      refine WC.region ?_
      refine WL.yd (Yd.move rfl) rfl ?_
      refine WL.yd (Yd.move rfl) rfl ?_
      refine WL.yd (Yd.indexA Try.underlying120 Try.sizeOf118 rfl rfl (by omega) (by omega)) rfl ?_
      refine WL.yd (Yd.indexA Try.underlying118 Try.sizeOf3 rfl rfl (by omega) (by omega)) rfl ?_
      refine WL.so (SO.store 1 rfl Try.sizeOf3 rfl rfl rfl rfl (hb_ok _ _ (by omega) (by omega) (by first | rfl | (rw [splice_len _ _ _ (hb_ok _ _ (by omega) (by omega) rfl)]; rfl))) (oneB_spec rfl)) rfl ?_
      rintro _ _ _ ⟨rfl, rfl, rfl⟩
      refine WL.nil ?_
      refine WP.thenC ?_
      refine WC.seq ?_
      refine WC.ofFr [(4, _), (5, _), (0, _), (2, _), (3, _), (6, _), (13, _), (14, _), (15, _)] ⟨rfl, rfl, rfl, rfl, rfl, rfl, rfl, rfl, rfl, trivial⟩ ?_
      refine WC.region ?_
      refine WL.yd (Yd.fieldAddr FA53_1 rfl) rfl ?_
      refine WL.yd (Yd.load1 Try.isAgg3 rfl (by first | exact Rd.own (k := 0) rfl rfl | exact Rd.own (k := 1) rfl rfl | exact (Rd.imm hB rfl) | exact (hR.dip.at j (by omega)).rd 0 rfl | exact (hR.dip.at j (by omega)).rd 1 rfl | exact (hR.dip.at j (by omega)).rd 2 rfl)) rfl ?_
      refine WL.yd (Yd.move rfl) rfl ?_
      refine WL.yd (Yd.shr rfl rfl (by omega)) rfl ?_
      refine WL.yd (Yd.and1 rfl rfl) rfl ?_
      refine WL.yd (Yd.eql rfl rfl) rfl ?_
      refine WL.nil ?_
      refine WP.thenC ?_
      refine WC.cond rfl (fun c29 => ?_) (fun c29 => ?_)
      · try simp only [zq1, zq2, zq3, zq4, zq5, zq6, zq7, zq8] at c29
        have hbit : bitN (gt d.dippers j).hours (k : Int) = 1 := c29
        refine WC.ofFr [(4, _), (5, _), (0, _), (2, _), (3, _), (6, _), (13, _), (14, _), (15, _)] ⟨rfl, rfl, rfl, rfl, rfl, rfl, rfl, rfl, rfl, trivial⟩ ?_
        refine WC.tail 10 [0, 1, 2, 3, 4, 5, 6, 7, 8, 9] rfl (by kernel_rfl) (by kernel_rfl)  ?_
        refine WQ.q rfl (Yd.qt (Yd.move rfl)) rfl ?_
        refine WQ.q rfl (Yd.qt (Yd.move rfl)) rfl ?_
        refine WQ.q rfl (Yd.qt (Yd.move rfl)) rfl ?_
        refine WQ.q rfl (Yd.qt (Yd.nilCheck rfl)) rfl ?_
        refine WQ.q rfl (Yd.qt (Yd.fieldAddr FA89_1 rfl)) rfl ?_
        refine WQ.q rfl (Yd.qt (Yd.load1 Try.isAgg87 rfl (by first | exact Rd.own (k := 0) rfl rfl | exact Rd.own (k := 1) rfl rfl | exact (Rd.imm hB rfl) | exact (hR.dip.at j (by omega)).rd 0 rfl | exact (hR.dip.at j (by omega)).rd 1 rfl | exact (hR.dip.at j (by omega)).rd 2 rfl))) rfl ?_
        refine WQ.q rfl (Yd.qt (Yd.fieldAddr FA53_0 rfl)) rfl ?_
        refine WQ.q rfl (Yd.qt (Yd.loadN Try.isAgg35 Try.sizeOf35 rfl (vs := [_, _]) rfl (by first | exact RdN.own (k := 0) (n := 2) rfl rfl | exact RdN.own (k := 1) (n := 2) rfl rfl | exact (hR.dip.at j (by omega)).rdn 0 2 rfl | exact (hR.bath.at j (by omega)).rdn 0 2 rfl | exact (hR.dip.at j (by omega)).rdn 0 3 rfl | exact (hR.bath.at j (by omega)).rdn 0 3 rfl))) rfl ?_
        refine WQ.q rfl (Qt.call (Enters.meth Try.call61 (fun w => by kernel_rfl) rfl rfl) (fun w hI => worstHas_g (gt d.dippers j).hands _)) rfl ?_
        refine WQ.q rfl (Yd.qt (Yd.indexA Try.underlying120 Try.sizeOf118 rfl rfl (by omega) (by omega))) rfl ?_
        refine WQ.tail ?_
        refine WL.yd (Yd.indexA Try.underlying118 Try.sizeOf3 rfl rfl (by omega) (by omega)) rfl ?_
        refine WL.so (SO.store 1 rfl Try.sizeOf3 rfl rfl rfl rfl (hb_ok _ _ (by omega) (by omega) (by first | rfl | (rw [splice_len _ _ _ (hb_ok _ _ (by omega) (by omega) rfl)]; rfl))) (oneB_spec rfl)) rfl ?_
        rintro _ _ _ ⟨rfl, rfl, rfl⟩
        refine WL.nil ?_
        refine WP.blkNormal ?_
        refine WP.thenC ?_
        refine WC.ofFr [(0, _), (2, _), (3, _), (6, _), (13, _), (14, _), (15, _)] ⟨rfl, rfl, rfl, rfl, rfl, rfl, rfl, trivial⟩ ?_
        refine WC.region ?_
        refine WL.yd (Yd.add rfl rfl (wr64 ⟨by omega, by omega⟩)) rfl ?_
        refine WL.yd (Yd.move rfl) rfl ?_
        refine WL.nil ?_
        have hbh : beginH d false k j = (if bitN (gt d.dippers j).hours (k : Int) = 1 then hands0 false (gt d.dippers j) else -1) := if_pos (by omega)
        refine WP.again (j + 1) (by omega) (by omega) (fun a w h => ?_)
        show At _ [(0, pt b), (2, pt b2), (3, nt k), (6, nt k), (13, .slice a1 d.dippers.length c1), (14, nt d.dippers.length), (15, nt (j + 1))] D [(b2, .cells (handsC (beginTo d false k (j + 1))).toArray 120 (0, 0))] a w
        first
          | (rw [← beginTo_step, hbh, if_pos hbit, ← upd_upd _ _ _ (-1), ← splice_hands _ _ _ _ hk4 hj3, ← splice_hands _ _ _ _ hk4 hj3]
             exact at_less h ⟨rfl, rfl, rfl, rfl, rfl, rfl, rfl, trivial⟩ (fun _ h => List.mem_cons_of_mem _ h) (fun h => (List.nodup_cons.1 h).2))
          | (rw [← beginTo_step, hbh, if_neg hbit, ← splice_hands _ _ _ _ hk4 hj3]
             exact at_less h ⟨rfl, rfl, rfl, rfl, rfl, rfl, rfl, trivial⟩ (fun _ h => List.mem_cons_of_mem _ h) (fun h => (List.nodup_cons.1 h).2))
      · try simp only [zq1, zq2, zq3, zq4, zq5, zq6, zq7, zq8] at c29
        have hbit : ¬ bitN (gt d.dippers j).hours (k : Int) = 1 := c29
        refine WC.skip ?_
        refine WP.blkNormal ?_
        refine WP.thenC ?_
        refine WC.ofFr [(0, _), (2, _), (3, _), (6, _), (13, _), (14, _), (15, _)] ⟨rfl, rfl, rfl, rfl, rfl, rfl, rfl, trivial⟩ ?_
        refine WC.region ?_
        refine WL.yd (Yd.add rfl rfl (wr64 ⟨by omega, by omega⟩)) rfl ?_
        refine WL.yd (Yd.move rfl) rfl ?_
        refine WL.nil ?_
        have hbh : beginH d false k j = (if bitN (gt d.dippers j).hours (k : Int) = 1 then hands0 false (gt d.dippers j) else -1) := if_pos (by omega)
        refine WP.again (j + 1) (by omega) (by omega) (fun a w h => ?_)
        show At _ [(0, pt b), (2, pt b2), (3, nt k), (6, nt k), (13, .slice a1 d.dippers.length c1), (14, nt d.dippers.length), (15, nt (j + 1))] D [(b2, .cells (handsC (beginTo d false k (j + 1))).toArray 120 (0, 0))] a w
        first
          | (rw [← beginTo_step, hbh, if_pos hbit, ← upd_upd _ _ _ (-1), ← splice_hands _ _ _ _ hk4 hj3, ← splice_hands _ _ _ _ hk4 hj3]
             exact at_less h ⟨rfl, rfl, rfl, rfl, rfl, rfl, rfl, trivial⟩ (fun _ h => List.mem_cons_of_mem _ h) (fun h => (List.nodup_cons.1 h).2))
          | (rw [← beginTo_step, hbh, if_neg hbit, ← splice_hands _ _ _ _ hk4 hj3]
             exact at_less h ⟨rfl, rfl, rfl, rfl, rfl, rfl, rfl, trivial⟩ (fun _ h => List.mem_cons_of_mem _ h) (fun h => (List.nodup_cons.1 h).2))
    · try simp only [zq1, zq2, zq3, zq4, zq5, zq6, zq7, zq8] at c16
      refine WC.exit ?_
      refine WP.thenExit ?_
      refine WP.thenExit ?_
      refine WP.blkHit ?_
      refine WP.blkNormal ?_
      refine WP.thenC ?_
      refine WC.ofFr [(0, _), (2, _), (6, _)] ⟨rfl, rfl, rfl, trivial⟩ ?_
      refine WC.region ?_
      refine WL.yd (Yd.add rfl rfl (wr64 ⟨by omega, by omega⟩)) rfl ?_
      refine WL.yd (Yd.move rfl) rfl ?_
      refine WL.nil ?_
      obtain rfl : j = d.dippers.length := by omega
      refine WP.again (k + 1) (by omega) (by omega) (fun a w h => ?_)
      show At _ _ D [(b2, .cells (handsC (beginTo d false (k + 1) 0)).toArray 120 (0, 0))] a w
      rw [← beginTo_next]
      exact at_fr h ⟨rfl, rfl, rfl, trivial⟩
  · try simp only [zq1, zq2, zq3, zq4, zq5, zq6, zq7, zq8] at c7
    refine WC.exit ?_
    refine WP.thenExit ?_
    refine WP.thenExit ?_
    refine WP.blkHit ?_
    refine WP.thenC ?_
    refine WC.seq ?_
    refine WC.ofFr [(2, _)] ⟨rfl, trivial⟩ ?_
    refine WC.region ?_
    refine WL.yd (Yd.loadN Try.isAgg120 Try.sizeOf120 rfl (vs := handsC (beginTo d false k 0)) rfl (RdN.own (k := 0) (n := 12) rfl rfl)) rfl ?_
    refine WL.so (SO.store 0 rfl Try.sizeOf120 rfl rfl rfl rfl (Nat.le_of_ble_eq_true rfl) (oneB_spec rfl)) rfl ?_
    rintro _ _ _ ⟨rfl, rfl, rfl⟩
    refine WL.nil ?_
    refine WP.thenC ?_
    refine WC.ret ?_
    refine WP.ret1 rfl rfl Try.results94 (RV.cellN Try.isAgg120 Try.sizeOf120 rfl (vs := handsC (beginTo d false k 0)) rfl (RdN.own (k := 0) (n := 12) rfl rfl)) (fun w hI => ⟨by rw [show k = 4 from by omega, beginTo_all], hI.keep⟩)

end Go.Proofs.Ytidjdonppfegiaa
namespace Go.Proofs.Ytidjdonppfegiaa
open Go.W Go.Dp

theorem firstR_hit (d : Dips) (plan : List Plc) (best : Bool) (i n : Nat) (h : brokenR d plan i best ≠ 0) : firstR d plan best i (n + 1) = ((i : Int), brokenR d plan i best) := by
  simp [firstR, h]

set_option maxRecDepth 100000 in
set_option maxHeartbeats 1000000 in
theorem brokenP_true (d : Dips) (a1 : Option Addr) (n1 c1 : Nat) (a2 : Option Addr) (n2 c2 : Nat) (b : Nat) (D : Imm) (w : World) (hB : BeachAt D b d (.slice a1 n1 c1) (.slice a2 n2 c2) (truthV true)) (hR : DipsR D d a1 n1 a2 n2) (hH : Holds D w) (hv : dipsB d = true) (plan : List Plc) (a3 : Option Addr) (n3 c3 : Nat) (hP : PlanR D plan a3 n3) (hq : PlOk d plan) (hl : plan.length = d.bathers.length) : Gives Try.prog 51 [pt b, .slice a3 n3 c3] w (.tuple #[it (firstR d plan true 0 plan.length).1, it (firstR d plan true 0 plan.length).2]) := by
  unfold Gives
  obtain rfl := hR.dip.len'
  obtain rfl := hR.bath.len'
  have hl1 := hR.len1
  have hl2 := hR.len2
  obtain rfl := hP.pl.len'
  have hl3 := hP.len
  obtain ⟨hh, hd1, hd2, hdn, hbn⟩ := dips_num hv
  refine enter Try.func51 rfl 70 Try.ntmps51 (Nat.le_of_ble_eq_true rfl) (Inv.start hH) ?_
  refine WC.seq ?_
  refine WC.ofFr [(0, _), (1, _)] ⟨rfl, rfl, trivial⟩ ?_
  refine WC.region ?_
  refine WL.yd (Yd.assign rfl) rfl ?_
  refine WL.yd (Yd.assign rfl) rfl ?_
  refine WL.nil ?_
  refine WP.thenC ?_
  refine WC.seq ?_
  refine WC.ofFr [(5, _), (4, _), (0, _), (1, _)] ⟨rfl, rfl, rfl, rfl, trivial⟩ ?_
  refine WC.region ?_
  refine WL.yd (Yd.move rfl) rfl ?_
  refine WL.so (SO.callP Try.call94 rfl (fun w hI => begin_true d a1 _ c1 a2 _ c2 b D _ hB hR hI.imm hv)) rfl ?_
  rintro _ _ _ ⟨rfl, rfl, rfl⟩
  refine WL.so (SO.alloc Try.zeroValue120 rfl) rfl ?_
  rintro _ _ _ ⟨b6, hb6, rfl, rfl, rfl⟩ -- NEW
  refine WL.so (SO.store 0 rfl Try.sizeOf120 rfl rfl rfl rfl (Nat.le_of_ble_eq_true rfl) (oneB_spec rfl)) rfl ?_
  rintro _ _ _ ⟨rfl, rfl, rfl⟩
  refine WL.nil ?_
  refine WP.thenC ?_
  refine WC.seq ?_
  refine WC.ofFr [(6, _), (5, _), (4, _), (0, _), (1, _)] ⟨rfl, rfl, rfl, rfl, rfl, trivial⟩ ?_
  refine WC.region ?_
  refine WL.yd (Yd.assign rfl) rfl ?_
  refine WL.nil ?_
  refine WP.thenC ?_
  refine WC.seq ?_
  refine WC.seq ?_
  refine WC.ofFr [(7, _), (6, _), (5, _), (4, _), (0, _), (1, _)] ⟨rfl, rfl, rfl, rfl, rfl, rfl, trivial⟩ ?_
  refine WC.region ?_
  refine WL.yd (Yd.move rfl) rfl ?_
  refine WL.yd (Yd.lenS rfl Try.underlying26 rfl) rfl ?_
  refine WL.yd (Yd.move rfl) rfl ?_
  refine WL.nil ?_
  refine WP.thenC ?_
  refine WC.block ?_
  refine WC.loop (fun k : Nat => [(0, pt b), (6, pt b6), (7, .func (.func 95) #[] #[]), (13, .slice a3 plan.length c3), (14, nt plan.length), (15, nt k)]) (fun k => [(b6, .cells (handsC (hAt d plan true k)).toArray 120 (0, 0))]) (fun _ => D) (fun k => k ≤ plan.length ∧ firstR d plan true 0 plan.length = firstR d plan true k (plan.length - k)) (fun k => plan.length - k) 0 ⟨by omega, rfl⟩ (fun a w h => at_fr h ⟨rfl, rfl, rfl, rfl, rfl, rfl, trivial⟩) ?_
  intro k ⟨hk, hd⟩
  refine WC.seq ?_
  refine WC.ofFr [(0, _), (6, _), (7, _), (13, _), (14, _), (15, _)] ⟨rfl, rfl, rfl, rfl, rfl, rfl, trivial⟩ ?_
  refine WC.region ?_
  refine WL.yd (Yd.lss rfl rfl) rfl ?_
  refine WL.nil ?_
  refine WP.thenC ?_
  refine WC.seq ?_
  refine WC.cond rfl (fun c16 => ?_) (fun c16 => ?_)
  · try simp only [zq1, zq2, zq3, zq4, zq5, zq6, zq7, zq8] at c16
    have hqk := hq k (by omega)
    have hdk := hdn (gt plan k).dipper.toNat (by omega)
    have hbk := hbn k (by omega)
    have hak := hAt_num hv plan true k (by omega) (gt plan k).hour.toNat (gt plan k).dipper.toNat
    refine WC.skip ?_
    refine WP.thenC ?_
    refine WC.seq ?_
    refine WC.block ?_
    refine WC.seq ?_
    refine WC.ofFr [(0, _), (6, _), (7, _), (13, _), (14, _), (15, _)] ⟨rfl, rfl, rfl, rfl, rfl, rfl, trivial⟩ ?_
    refine WC.region ?_
    refine WL.yd (Yd.move rfl) rfl ?_
    refine WL.yd (Yd.indexS Try.underlying26 Try.sizeOf61 rfl rfl (by omega) (by omega) (by first | exact hP.pl.addr k (by omega) | exact hR.bath.addr k (by omega) | exact hR.dip.addr (gt plan k).dipper.toNat (by omega))) rfl ?_
    refine WL.yd (Yd.loadN Try.isAgg61 Try.sizeOf61 rfl (vs := [_, _]) rfl (by first | exact RdN.own (k := 0) (n := 2) rfl rfl | exact (hP.pl.at k (by omega)).rdn 0 2 rfl | exact (hR.dip.at k (by omega)).rdn 0 2 rfl | exact (hR.bath.at k (by omega)).rdn 0 2 rfl | exact (hR.dip.at k (by omega)).rdn 0 3 rfl | exact (hR.bath.at k (by omega)).rdn 0 3 rfl)) rfl ?_
    refine WL.so (SO.alloc Try.zeroValue61 rfl) rfl ?_
    rintro _ _ _ ⟨b9, hb9, rfl, rfl, rfl⟩ -- NEW
    refine WL.yd (Yd.assign rfl) rfl ?_
    refine WL.so (SO.store 0 rfl Try.sizeOf61 rfl rfl rfl rfl (Nat.le_of_ble_eq_true rfl) (oneB_spec rfl)) rfl ?_
    rintro _ _ _ ⟨rfl, rfl, rfl⟩
    refine WL.nil ?_
    refine WP.thenC ?_
    refine WC.seq ?_
    refine WC.ofFr [(8, _), (9, _), (0, _), (6, _), (7, _), (13, _), (14, _), (15, _)] ⟨rfl, rfl, rfl, rfl, rfl, rfl, rfl, rfl, trivial⟩ ?_
    refine WC.region ?_
    refine WL.yd (Yd.move rfl) rfl ?_
    refine WL.yd (Yd.nilCheck rfl) rfl ?_
    refine WL.yd (Yd.fieldAddr FA89_0 rfl) rfl ?_
    refine WL.yd (Yd.fieldAddr FA25_2 rfl) rfl ?_
    refine WL.yd (Yd.load1 Try.isAgg23 rfl (by first | exact Rd.own (k := 0) rfl rfl | exact Rd.own (k := 1) rfl rfl | exact (Rd.imm hB rfl) | exact (hR.dip.at (gt plan k).dipper.toNat (by omega)).rd 0 rfl | exact (hR.dip.at (gt plan k).dipper.toNat (by omega)).rd 1 rfl | exact (hR.dip.at (gt plan k).dipper.toNat (by omega)).rd 2 rfl)) rfl ?_
    refine WL.yd (Yd.move rfl) rfl ?_
    refine WL.yd (Yd.indexS Try.underlying23 Try.sizeOf55 rfl rfl (by omega) (by omega) (by first | exact hP.pl.addr k (by omega) | exact hR.bath.addr k (by omega) | exact hR.dip.addr (gt plan k).dipper.toNat (by omega))) rfl ?_
    refine WL.yd (Yd.loadN Try.isAgg55 Try.sizeOf55 rfl (vs := [_, _, _]) rfl (by first | exact RdN.own (k := 0) (n := 3) rfl rfl | exact RdN.own (k := 1) (n := 3) rfl rfl | exact (hP.pl.at k (by omega)).rdn 0 2 rfl | exact (hR.dip.at k (by omega)).rdn 0 2 rfl | exact (hR.bath.at k (by omega)).rdn 0 2 rfl | exact (hR.dip.at k (by omega)).rdn 0 3 rfl | exact (hR.bath.at k (by omega)).rdn 0 3 rfl)) rfl ?_
    refine WL.so (SO.alloc Try.zeroValue55 rfl) rfl ?_
    rintro _ _ _ ⟨b10, hb10, rfl, rfl, rfl⟩ -- NEW
    refine WL.so (SO.store 0 rfl Try.sizeOf55 rfl rfl rfl rfl (Nat.le_of_ble_eq_true rfl) (oneB_spec rfl)) rfl ?_
    rintro _ _ _ ⟨rfl, rfl, rfl⟩
    refine WL.nil ?_
    refine WP.thenC ?_
    refine WC.seq ?_
    refine WC.seq ?_
    refine WC.ofFr [(10, _), (8, _), (9, _), (0, _), (6, _), (7, _), (13, _), (14, _), (15, _)] ⟨rfl, rfl, rfl, rfl, rfl, rfl, rfl, rfl, rfl, trivial⟩ ?_
    refine WC.tail 20 [0, 1, 2, 3, 4, 5, 6, 7, 8, 9, 10, 11, 12, 13, 14, 15, 16, 17, 18, 19] rfl (by kernel_rfl) (by kernel_rfl)  ?_
    refine WQ.q rfl (Yd.qt (Yd.fieldAddr FA55_1 rfl)) rfl ?_
    refine WQ.q rfl (Yd.qt (Yd.load1 Try.isAgg3 rfl (by first | exact Rd.own (k := 0) rfl rfl | exact Rd.own (k := 1) rfl rfl | exact Rd.own (k := 2) rfl rfl | exact (Rd.imm hB rfl) | exact (hR.dip.at (gt plan k).dipper.toNat (by omega)).rd 0 rfl | exact (hR.dip.at (gt plan k).dipper.toNat (by omega)).rd 1 rfl | exact (hR.dip.at (gt plan k).dipper.toNat (by omega)).rd 2 rfl))) rfl ?_
    refine WQ.q rfl (Yd.qt (Yd.fieldAddr FA61_0 rfl)) rfl ?_
    refine WQ.q rfl (Yd.qt (Yd.load1 Try.isAgg3 rfl (by first | exact Rd.own (k := 0) rfl rfl | exact Rd.own (k := 1) rfl rfl | exact Rd.own (k := 2) rfl rfl | exact (Rd.imm hB rfl) | exact (hR.dip.at (gt plan k).dipper.toNat (by omega)).rd 0 rfl | exact (hR.dip.at (gt plan k).dipper.toNat (by omega)).rd 1 rfl | exact (hR.dip.at (gt plan k).dipper.toNat (by omega)).rd 2 rfl))) rfl ?_
    refine WQ.q rfl (Yd.qt (Yd.shr rfl rfl (by omega))) rfl ?_
    refine WQ.q rfl (Yd.qt (Yd.and1 rfl rfl)) rfl ?_
    refine WQ.q rfl (Yd.qt (Yd.eql rfl rfl)) rfl ?_
    refine WQ.q rfl (Yd.qt (Yd.move rfl)) rfl ?_
    refine WQ.part 35 rfl (fun g35 => ?_) (fun g35 => ?_)
    · try simp only [zq1, zq2, zq3, zq4, zq5, zq6, zq7, zq8] at g35
      have hb0 : bitN (gt d.bathers k).hours (gt plan k).hour = 0 := g35
      refine WQ.skip rfl rfl rfl ?_
      refine WQ.skip rfl rfl rfl ?_
      refine WQ.skip rfl rfl rfl ?_
      refine WQ.skip rfl rfl rfl ?_
      refine WQ.skip rfl rfl rfl ?_
      refine WQ.skip rfl rfl rfl ?_
      refine WQ.skip rfl rfl rfl ?_
      refine WQ.skip rfl rfl rfl ?_
      refine WQ.skip rfl rfl rfl ?_
      refine WQ.skip rfl rfl rfl ?_
      refine WQ.skip rfl rfl rfl ?_
      refine WQ.skip rfl rfl rfl ?_
      refine WQ.tail ?_
      refine WL.skip rfl rfl ?_
      refine WL.skip rfl rfl ?_
      refine WL.skip rfl rfl ?_
      refine WL.yd (Yd.pickT rfl rfl) rfl ?_
      refine WL.nil ?_
      refine WP.thenC ?_
      refine WC.condT rfl ?_
      refine WC.seq ?_
      refine WC.ofFr [(10, _), (8, _), (9, _), (0, _), (6, _), (7, _), (13, _), (14, _), (15, _)] ⟨rfl, rfl, rfl, rfl, rfl, rfl, rfl, rfl, rfl, trivial⟩ ?_
      refine WC.region ?_
      refine WL.yd (Yd.move rfl) rfl ?_
      refine WL.yd (Yd.assign rfl) rfl ?_
      refine WL.yd (Yd.assign rfl) rfl ?_
      refine WL.nil ?_
      refine WP.thenC ?_
      refine WC.ret ?_
      refine WP.thenRet ?_
      refine WP.blkRet ?_
      refine WP.thenRet ?_
      refine WP.thenRet ?_
      refine WP.blkRet ?_
      refine WP.thenRet ?_
      refine WP.ret2 rfl rfl Try.results51 (RV.tmp rfl) (RV.tmp rfl) (fun w hI => ⟨congrArg Ending.returned (by
              rw [hd]
              first
                | (have hbr := broken_hour (best := true) hv (by omega) (by omega) (by omega) (by omega) (Or.inl hb0)
                   rw [show plan.length - k = (plan.length - (k + 1)) + 1 by omega, firstR_hit _ _ _ _ _ (by rw [hbr]; decide), hbr]; done)
                | (have hbr := broken_hour (best := true) hv (by omega) (by omega) (by omega) (by omega) (Or.inr hb0p)
                   rw [show plan.length - k = (plan.length - (k + 1)) + 1 by omega, firstR_hit _ _ _ _ _ (by rw [hbr]; decide), hbr]; done)
                | (rw [if_pos c67] at hbr
                   rw [show plan.length - k = (plan.length - (k + 1)) + 1 by omega, firstR_hit _ _ _ _ _ (by rw [hbr]; decide), hbr]; done)
                | (rw [show plan.length - k = 0 by omega]; rfl)), hI.keep⟩)
    · try simp only [zq1, zq2, zq3, zq4, zq5, zq6, zq7, zq8] at g35
      have hb1 : bitN (gt d.bathers k).hours (gt plan k).hour = 1 := (bit_01 _ _).resolve_left g35
      refine WQ.qg rfl rfl (Yd.qt (Yd.move rfl)) rfl ?_
      refine WQ.qg rfl rfl (Yd.qt (Yd.nilCheck rfl)) rfl ?_
      refine WQ.qg rfl rfl (Yd.qt (Yd.fieldAddr FA89_0 rfl)) rfl ?_
      refine WQ.qg rfl rfl (Yd.qt (Yd.fieldAddr FA25_1 rfl)) rfl ?_
      refine WQ.qg rfl rfl (Yd.qt (Yd.load1 Try.isAgg22 rfl (by first | exact Rd.own (k := 0) rfl rfl | exact Rd.own (k := 1) rfl rfl | exact Rd.own (k := 2) rfl rfl | exact (Rd.imm hB rfl) | exact (hR.dip.at (gt plan k).dipper.toNat (by omega)).rd 0 rfl | exact (hR.dip.at (gt plan k).dipper.toNat (by omega)).rd 1 rfl | exact (hR.dip.at (gt plan k).dipper.toNat (by omega)).rd 2 rfl))) rfl ?_
      refine WQ.qg rfl rfl (Yd.qt (Yd.fieldAddr FA61_1 rfl)) rfl ?_
      refine WQ.qg rfl rfl (Yd.qt (Yd.load1 Try.isAgg3 rfl (by first | exact Rd.own (k := 0) rfl rfl | exact Rd.own (k := 1) rfl rfl | exact Rd.own (k := 2) rfl rfl | exact (Rd.imm hB rfl) | exact (hR.dip.at (gt plan k).dipper.toNat (by omega)).rd 0 rfl | exact (hR.dip.at (gt plan k).dipper.toNat (by omega)).rd 1 rfl | exact (hR.dip.at (gt plan k).dipper.toNat (by omega)).rd 2 rfl))) rfl ?_
      refine WQ.qg rfl rfl (Yd.qt (Yd.indexS Try.underlying22 Try.sizeOf53 rfl rfl (by omega) (by omega) (by first | exact hP.pl.addr k (by omega) | exact hR.bath.addr k (by omega) | exact hR.dip.addr (gt plan k).dipper.toNat (by omega)))) rfl ?_
      refine WQ.qg rfl rfl (Yd.qt (Yd.fieldAddr FA53_1 rfl)) rfl ?_
      refine WQ.qg rfl rfl (Yd.qt (Yd.load1 Try.isAgg3 rfl (by first | exact Rd.own (k := 0) rfl rfl | exact Rd.own (k := 1) rfl rfl | exact Rd.own (k := 2) rfl rfl | exact (Rd.imm hB rfl) | exact (hR.dip.at (gt plan k).dipper.toNat (by omega)).rd 0 rfl | exact (hR.dip.at (gt plan k).dipper.toNat (by omega)).rd 1 rfl | exact (hR.dip.at (gt plan k).dipper.toNat (by omega)).rd 2 rfl))) rfl ?_
      refine WQ.qg rfl rfl (Yd.qt (Yd.fieldAddr FA61_0 rfl)) rfl ?_
      refine WQ.qg rfl rfl (Yd.qt (Yd.load1 Try.isAgg3 rfl (by first | exact Rd.own (k := 0) rfl rfl | exact Rd.own (k := 1) rfl rfl | exact Rd.own (k := 2) rfl rfl | exact (Rd.imm hB rfl) | exact (hR.dip.at (gt plan k).dipper.toNat (by omega)).rd 0 rfl | exact (hR.dip.at (gt plan k).dipper.toNat (by omega)).rd 1 rfl | exact (hR.dip.at (gt plan k).dipper.toNat (by omega)).rd 2 rfl))) rfl ?_
      refine WQ.tail ?_
      refine WL.ydg rfl (Yd.shr rfl rfl (by omega)) rfl ?_
      refine WL.ydg rfl (Yd.and1 rfl rfl) rfl ?_
      refine WL.ydg rfl (Yd.eql rfl rfl) rfl ?_
      refine WL.yd (Yd.pickF rfl rfl) rfl ?_
      refine WL.nil ?_
      refine WP.thenC ?_
      refine WC.cond rfl (fun c51 => ?_) (fun c51 => ?_)
      · try simp only [zq1, zq2, zq3, zq4, zq5, zq6, zq7, zq8] at c51
        have hb0p : bitN (gt d.dippers (gt plan k).dipper.toNat).hours (gt plan k).hour = 0 := c51
        refine WC.seq ?_
        refine WC.ofFr [(10, _), (8, _), (9, _), (0, _), (6, _), (7, _), (13, _), (14, _), (15, _)] ⟨rfl, rfl, rfl, rfl, rfl, rfl, rfl, rfl, rfl, trivial⟩ ?_
        refine WC.region ?_
        refine WL.yd (Yd.move rfl) rfl ?_
        refine WL.yd (Yd.assign rfl) rfl ?_
        refine WL.yd (Yd.assign rfl) rfl ?_
        refine WL.nil ?_
        refine WP.thenC ?_
        refine WC.ret ?_
        refine WP.thenRet ?_
        refine WP.blkRet ?_
        refine WP.thenRet ?_
        refine WP.thenRet ?_
        refine WP.blkRet ?_
        refine WP.thenRet ?_
        refine WP.ret2 rfl rfl Try.results51 (RV.tmp rfl) (RV.tmp rfl) (fun w hI => ⟨congrArg Ending.returned (by
                rw [hd]
                first
                  | (have hbr := broken_hour (best := true) hv (by omega) (by omega) (by omega) (by omega) (Or.inl hb0)
                     rw [show plan.length - k = (plan.length - (k + 1)) + 1 by omega, firstR_hit _ _ _ _ _ (by rw [hbr]; decide), hbr]; done)
                  | (have hbr := broken_hour (best := true) hv (by omega) (by omega) (by omega) (by omega) (Or.inr hb0p)
                     rw [show plan.length - k = (plan.length - (k + 1)) + 1 by omega, firstR_hit _ _ _ _ _ (by rw [hbr]; decide), hbr]; done)
                  | (rw [if_pos c67] at hbr
                     rw [show plan.length - k = (plan.length - (k + 1)) + 1 by omega, firstR_hit _ _ _ _ _ (by rw [hbr]; decide), hbr]; done)
                  | (rw [show plan.length - k = 0 by omega]; rfl)), hI.keep⟩)
      · try simp only [zq1, zq2, zq3, zq4, zq5, zq6, zq7, zq8] at c51
        have hb1p : bitN (gt d.dippers (gt plan k).dipper.toNat).hours (gt plan k).hour = 1 := (bit_01 _ _).resolve_left c51
        have hbr := broken_hands (best := true) hv (by omega) (by omega) hq (by omega) (by omega) hb1 hb1p
        refine WC.skip ?_
        refine WP.thenC ?_
        refine WC.seq ?_
        refine WC.ofFr [(10, _), (8, _), (9, _), (0, _), (6, _), (7, _), (13, _), (14, _), (15, _)] ⟨rfl, rfl, rfl, rfl, rfl, rfl, rfl, rfl, rfl, trivial⟩ ?_
        refine WC.tail 10 [0, 1, 2, 3, 4, 5, 6, 7, 8, 9] rfl (by kernel_rfl) (by kernel_rfl)  ?_
        refine WQ.q rfl (Yd.qt (Yd.move rfl)) rfl ?_
        refine WQ.q rfl (Yd.qt (Yd.loadN Try.isAgg120 Try.sizeOf120 rfl (vs := handsC (hAt d plan true k)) rfl (RdN.own (k := 2) (n := 12) rfl rfl))) rfl ?_
        refine WQ.q rfl (Yd.qt (Yd.loadN Try.isAgg61 Try.sizeOf61 rfl (vs := [_, _]) rfl (by first | exact RdN.own (k := 0) (n := 2) rfl rfl | exact RdN.own (k := 1) (n := 2) rfl rfl | exact RdN.own (k := 2) (n := 2) rfl rfl | exact (hP.pl.at k (by omega)).rdn 0 2 rfl | exact (hR.dip.at k (by omega)).rdn 0 2 rfl | exact (hR.bath.at k (by omega)).rdn 0 2 rfl | exact (hR.dip.at k (by omega)).rdn 0 3 rfl | exact (hR.bath.at k (by omega)).rdn 0 3 rfl))) rfl ?_
        refine WQ.q rfl (Yd.qt (Yd.move rfl)) rfl ?_
        refine WQ.q rfl (Yd.qt (Yd.nilCheck rfl)) rfl ?_
        refine WQ.q rfl (Yd.qt (Yd.fieldAddr FA89_1 rfl)) rfl ?_
        refine WQ.q rfl (Yd.qt (Yd.load1 Try.isAgg87 rfl (by first | exact Rd.own (k := 0) rfl rfl | exact Rd.own (k := 1) rfl rfl | exact Rd.own (k := 2) rfl rfl | exact (Rd.imm hB rfl) | exact (hR.dip.at (gt plan k).dipper.toNat (by omega)).rd 0 rfl | exact (hR.dip.at (gt plan k).dipper.toNat (by omega)).rd 1 rfl | exact (hR.dip.at (gt plan k).dipper.toNat (by omega)).rd 2 rfl))) rfl ?_
        refine WQ.q rfl (Yd.qt (Yd.fieldAddr FA55_0 rfl)) rfl ?_
        refine WQ.q rfl (Yd.qt (Yd.loadN Try.isAgg35 Try.sizeOf35 rfl (vs := [_, _]) rfl (by first | exact RdN.own (k := 0) (n := 2) rfl rfl | exact RdN.own (k := 1) (n := 2) rfl rfl | exact RdN.own (k := 2) (n := 2) rfl rfl | exact (hP.pl.at k (by omega)).rdn 0 2 rfl | exact (hR.dip.at k (by omega)).rdn 0 2 rfl | exact (hR.bath.at k (by omega)).rdn 0 2 rfl | exact (hR.dip.at k (by omega)).rdn 0 3 rfl | exact (hR.bath.at k (by omega)).rdn 0 3 rfl))) rfl ?_
        refine WQ.q rfl (Qt.call (Enters.meth Try.call127 (fun w => by kernel_rfl) rfl rfl) (fun w hI => bestNeeds_g (gt d.bathers k).needs _)) rfl ?_
        refine WQ.tail ?_
        refine WL.so (SO.call (Enters.val Try.call95 rfl rfl) (fun w hI => without_g (hAt d plan true k) _ _ _ _ (by omega) (by omega) (by omega) (by omega))) rfl ?_
        rintro _ _ _ ⟨rfl, rfl, rfl⟩
        refine WL.so (SO.store 2 rfl Try.sizeOf120 rfl rfl rfl rfl (Nat.le_of_ble_eq_true rfl) (oneB_spec rfl)) rfl ?_
        rintro _ _ _ ⟨rfl, rfl, rfl⟩
        refine WL.nil ?_
        refine WP.thenC ?_
        refine WC.seq ?_
        refine WC.ofFr [(8, _), (9, _), (0, _), (6, _), (7, _), (13, _), (14, _), (15, _)] ⟨rfl, rfl, rfl, rfl, rfl, rfl, rfl, rfl, trivial⟩ ?_
        refine WC.region ?_
        refine WL.yd (Yd.loadN Try.isAgg120 Try.sizeOf120 rfl (vs := handsC (hAt d plan true (k + 1))) rfl (RdN.own (k := 2) (n := 12) rfl rfl)) rfl ?_
        refine WL.yd (Yd.loadN Try.isAgg61 Try.sizeOf61 rfl (vs := [_, _]) rfl (by first | exact RdN.own (k := 0) (n := 2) rfl rfl | exact RdN.own (k := 1) (n := 2) rfl rfl | exact RdN.own (k := 2) (n := 2) rfl rfl | exact (hP.pl.at k (by omega)).rdn 0 2 rfl | exact (hR.dip.at k (by omega)).rdn 0 2 rfl | exact (hR.bath.at k (by omega)).rdn 0 2 rfl | exact (hR.dip.at k (by omega)).rdn 0 3 rfl | exact (hR.bath.at k (by omega)).rdn 0 3 rfl)) rfl ?_
        refine WL.so (SO.callP Try.call96 rfl (fun w hI => left_g (hAt d plan true (k + 1)) _ _ _ (by omega) (by omega))) rfl ?_
        rintro _ _ _ ⟨rfl, rfl, rfl⟩
        refine WL.yd (Yd.lss rfl rfl) rfl ?_
        refine WL.nil ?_
        refine WP.thenC ?_
        refine WC.cond rfl (fun c67 => ?_) (fun c67 => ?_)
        · try simp only [zq1, zq2, zq3, zq4, zq5, zq6, zq7, zq8] at c67
          refine WC.seq ?_
          refine WC.ofFr [(8, _), (0, _), (6, _), (7, _), (13, _), (14, _), (15, _)] ⟨rfl, rfl, rfl, rfl, rfl, rfl, rfl, trivial⟩ ?_
          refine WC.region ?_
          refine WL.yd (Yd.move rfl) rfl ?_
          refine WL.yd (Yd.assign rfl) rfl ?_
          refine WL.yd (Yd.assign rfl) rfl ?_
          refine WL.nil ?_
          refine WP.thenC ?_
          refine WC.ret ?_
          refine WP.blkRet ?_
          refine WP.thenRet ?_
          refine WP.thenRet ?_
          refine WP.blkRet ?_
          refine WP.thenRet ?_
          refine WP.ret2 rfl rfl Try.results51 (RV.tmp rfl) (RV.tmp rfl) (fun w hI => ⟨congrArg Ending.returned (by
                  rw [hd]
                  first
                    | (have hbr := broken_hour (best := true) hv (by omega) (by omega) (by omega) (by omega) (Or.inl hb0)
                       rw [show plan.length - k = (plan.length - (k + 1)) + 1 by omega, firstR_hit _ _ _ _ _ (by rw [hbr]; decide), hbr]; done)
                    | (have hbr := broken_hour (best := true) hv (by omega) (by omega) (by omega) (by omega) (Or.inr hb0p)
                       rw [show plan.length - k = (plan.length - (k + 1)) + 1 by omega, firstR_hit _ _ _ _ _ (by rw [hbr]; decide), hbr]; done)
                    | (rw [if_pos c67] at hbr
                       rw [show plan.length - k = (plan.length - (k + 1)) + 1 by omega, firstR_hit _ _ _ _ _ (by rw [hbr]; decide), hbr]; done)
                    | (rw [show plan.length - k = 0 by omega]; rfl)), hI.keep⟩)
        · try simp only [zq1, zq2, zq3, zq4, zq5, zq6, zq7, zq8] at c67
          refine WC.skip ?_
          refine WP.blkNormal ?_
          refine WP.thenC ?_
          refine WC.ofFr [(0, _), (6, _), (7, _), (13, _), (14, _), (15, _)] ⟨rfl, rfl, rfl, rfl, rfl, rfl, trivial⟩ ?_
          refine WC.region ?_
          refine WL.yd (Yd.add rfl rfl (wr64 ⟨by omega, by omega⟩)) rfl ?_
          refine WL.yd (Yd.move rfl) rfl ?_
          refine WL.nil ?_
          exact WP.again (k + 1) ⟨by omega, by rw [hd, show plan.length - k = (plan.length - (k + 1)) + 1 by omega]; exact firstR_step _ _ _ _ _ (by rw [hbr, if_neg (by omega)])⟩ (by omega) (fun a w h => at_less h ⟨rfl, rfl, rfl, rfl, rfl, rfl, trivial⟩ (fun _ h => List.mem_cons_of_mem _ (List.mem_cons_of_mem _ h)) (fun h => (List.nodup_cons.1 (List.nodup_cons.1 h).2).2))
  · try simp only [zq1, zq2, zq3, zq4, zq5, zq6, zq7, zq8] at c16
    refine WC.exit ?_
    refine WP.thenExit ?_
    refine WP.thenExit ?_
    refine WP.blkHit ?_
    refine WP.thenC ?_
    refine WC.seq ?_
    refine WC.ofFr [] trivial ?_
    refine WC.region ?_
    refine WL.yd (Yd.assign rfl) rfl ?_
    refine WL.yd (Yd.assign rfl) rfl ?_
    refine WL.nil ?_
    refine WP.thenC ?_
    refine WC.ret ?_
    refine WP.ret2 rfl rfl Try.results51 (RV.tmp rfl) (RV.tmp rfl) (fun w hI => ⟨congrArg Ending.returned (by
            rw [hd]
            first
              | (have hbr := broken_hour (best := true) hv (by omega) (by omega) (by omega) (by omega) (Or.inl hb0)
                 rw [show plan.length - k = (plan.length - (k + 1)) + 1 by omega, firstR_hit _ _ _ _ _ (by rw [hbr]; decide), hbr]; done)
              | (have hbr := broken_hour (best := true) hv (by omega) (by omega) (by omega) (by omega) (Or.inr hb0p)
                 rw [show plan.length - k = (plan.length - (k + 1)) + 1 by omega, firstR_hit _ _ _ _ _ (by rw [hbr]; decide), hbr]; done)
              | (rw [if_pos c67] at hbr
                 rw [show plan.length - k = (plan.length - (k + 1)) + 1 by omega, firstR_hit _ _ _ _ _ (by rw [hbr]; decide), hbr]; done)
              | (rw [show plan.length - k = 0 by omega]; rfl)), hI.keep⟩)

set_option maxRecDepth 100000 in
set_option maxHeartbeats 1000000 in
theorem brokenP_false (d : Dips) (a1 : Option Addr) (n1 c1 : Nat) (a2 : Option Addr) (n2 c2 : Nat) (b : Nat) (D : Imm) (w : World) (hB : BeachAt D b d (.slice a1 n1 c1) (.slice a2 n2 c2) (truthV false)) (hR : DipsR D d a1 n1 a2 n2) (hH : Holds D w) (hv : dipsB d = true) (plan : List Plc) (a3 : Option Addr) (n3 c3 : Nat) (hP : PlanR D plan a3 n3) (hq : PlOk d plan) (hl : plan.length = d.bathers.length) : Gives Try.prog 51 [pt b, .slice a3 n3 c3] w (.tuple #[it (firstR d plan false 0 plan.length).1, it (firstR d plan false 0 plan.length).2]) := by
  unfold Gives
  obtain rfl := hR.dip.len'
  obtain rfl := hR.bath.len'
  have hl1 := hR.len1
  have hl2 := hR.len2
  obtain rfl := hP.pl.len'
  have hl3 := hP.len
  obtain ⟨hh, hd1, hd2, hdn, hbn⟩ := dips_num hv
  refine enter Try.func51 rfl 70 Try.ntmps51 (Nat.le_of_ble_eq_true rfl) (Inv.start hH) ?_
  refine WC.seq ?_
  refine WC.ofFr [(0, _), (1, _)] ⟨rfl, rfl, trivial⟩ ?_
  refine WC.region ?_
  refine WL.yd (Yd.assign rfl) rfl ?_
  refine WL.yd (Yd.assign rfl) rfl ?_
  refine WL.nil ?_
  refine WP.thenC ?_
  refine WC.seq ?_
  refine WC.ofFr [(5, _), (4, _), (0, _), (1, _)] ⟨rfl, rfl, rfl, rfl, trivial⟩ ?_
  refine WC.region ?_
  refine WL.yd (Yd.move rfl) rfl ?_
  refine WL.so (SO.callP Try.call94 rfl (fun w hI => begin_false d a1 _ c1 a2 _ c2 b D _ hB hR hI.imm hv)) rfl ?_
  rintro _ _ _ ⟨rfl, rfl, rfl⟩
  refine WL.so (SO.alloc Try.zeroValue120 rfl) rfl ?_
  rintro _ _ _ ⟨b6, hb6, rfl, rfl, rfl⟩ -- NEW
  refine WL.so (SO.store 0 rfl Try.sizeOf120 rfl rfl rfl rfl (Nat.le_of_ble_eq_true rfl) (oneB_spec rfl)) rfl ?_
  rintro _ _ _ ⟨rfl, rfl, rfl⟩
  refine WL.nil ?_
  refine WP.thenC ?_
  refine WC.seq ?_
  refine WC.ofFr [(6, _), (5, _), (4, _), (0, _), (1, _)] ⟨rfl, rfl, rfl, rfl, rfl, trivial⟩ ?_
  refine WC.region ?_
  refine WL.yd (Yd.assign rfl) rfl ?_
  refine WL.nil ?_
  refine WP.thenC ?_
  refine WC.seq ?_
  refine WC.seq ?_
  refine WC.ofFr [(7, _), (6, _), (5, _), (4, _), (0, _), (1, _)] ⟨rfl, rfl, rfl, rfl, rfl, rfl, trivial⟩ ?_
  refine WC.region ?_
  refine WL.yd (Yd.move rfl) rfl ?_
  refine WL.yd (Yd.lenS rfl Try.underlying26 rfl) rfl ?_
  refine WL.yd (Yd.move rfl) rfl ?_
  refine WL.nil ?_
  refine WP.thenC ?_
  refine WC.block ?_
  refine WC.loop (fun k : Nat => [(0, pt b), (6, pt b6), (7, .func (.func 95) #[] #[]), (13, .slice a3 plan.length c3), (14, nt plan.length), (15, nt k)]) (fun k => [(b6, .cells (handsC (hAt d plan false k)).toArray 120 (0, 0))]) (fun _ => D) (fun k => k ≤ plan.length ∧ firstR d plan false 0 plan.length = firstR d plan false k (plan.length - k)) (fun k => plan.length - k) 0 ⟨by omega, rfl⟩ (fun a w h => at_fr h ⟨rfl, rfl, rfl, rfl, rfl, rfl, trivial⟩) ?_
  intro k ⟨hk, hd⟩
  refine WC.seq ?_
  refine WC.ofFr [(0, _), (6, _), (7, _), (13, _), (14, _), (15, _)] ⟨rfl, rfl, rfl, rfl, rfl, rfl, trivial⟩ ?_
  refine WC.region ?_
  refine WL.yd (Yd.lss rfl rfl) rfl ?_
  refine WL.nil ?_
  refine WP.thenC ?_
  refine WC.seq ?_
  refine WC.cond rfl (fun c16 => ?_) (fun c16 => ?_)
  · try simp only [zq1, zq2, zq3, zq4, zq5, zq6, zq7, zq8] at c16
    have hqk := hq k (by omega)
    have hdk := hdn (gt plan k).dipper.toNat (by omega)
    have hbk := hbn k (by omega)
    have hak := hAt_num hv plan false k (by omega) (gt plan k).hour.toNat (gt plan k).dipper.toNat
    refine WC.skip ?_
    refine WP.thenC ?_
    refine WC.seq ?_
    refine WC.block ?_
    refine WC.seq ?_
    refine WC.ofFr [(0, _), (6, _), (7, _), (13, _), (14, _), (15, _)] ⟨rfl, rfl, rfl, rfl, rfl, rfl, trivial⟩ ?_
    refine WC.region ?_
    refine WL.yd (Yd.move rfl) rfl ?_
    refine WL.yd (Yd.indexS Try.underlying26 Try.sizeOf61 rfl rfl (by omega) (by omega) (by first | exact hP.pl.addr k (by omega) | exact hR.bath.addr k (by omega) | exact hR.dip.addr (gt plan k).dipper.toNat (by omega))) rfl ?_
    refine WL.yd (Yd.loadN Try.isAgg61 Try.sizeOf61 rfl (vs := [_, _]) rfl (by first | exact RdN.own (k := 0) (n := 2) rfl rfl | exact (hP.pl.at k (by omega)).rdn 0 2 rfl | exact (hR.dip.at k (by omega)).rdn 0 2 rfl | exact (hR.bath.at k (by omega)).rdn 0 2 rfl | exact (hR.dip.at k (by omega)).rdn 0 3 rfl | exact (hR.bath.at k (by omega)).rdn 0 3 rfl)) rfl ?_
    refine WL.so (SO.alloc Try.zeroValue61 rfl) rfl ?_
    rintro _ _ _ ⟨b9, hb9, rfl, rfl, rfl⟩ -- NEW
    refine WL.yd (Yd.assign rfl) rfl ?_
    refine WL.so (SO.store 0 rfl Try.sizeOf61 rfl rfl rfl rfl (Nat.le_of_ble_eq_true rfl) (oneB_spec rfl)) rfl ?_
    rintro _ _ _ ⟨rfl, rfl, rfl⟩
    refine WL.nil ?_
    refine WP.thenC ?_
    refine WC.seq ?_
    refine WC.ofFr [(8, _), (9, _), (0, _), (6, _), (7, _), (13, _), (14, _), (15, _)] ⟨rfl, rfl, rfl, rfl, rfl, rfl, rfl, rfl, trivial⟩ ?_
    refine WC.region ?_
    refine WL.yd (Yd.move rfl) rfl ?_
    refine WL.yd (Yd.nilCheck rfl) rfl ?_
    refine WL.yd (Yd.fieldAddr FA89_0 rfl) rfl ?_
    refine WL.yd (Yd.fieldAddr FA25_2 rfl) rfl ?_
    refine WL.yd (Yd.load1 Try.isAgg23 rfl (by first | exact Rd.own (k := 0) rfl rfl | exact Rd.own (k := 1) rfl rfl | exact (Rd.imm hB rfl) | exact (hR.dip.at (gt plan k).dipper.toNat (by omega)).rd 0 rfl | exact (hR.dip.at (gt plan k).dipper.toNat (by omega)).rd 1 rfl | exact (hR.dip.at (gt plan k).dipper.toNat (by omega)).rd 2 rfl)) rfl ?_
    refine WL.yd (Yd.move rfl) rfl ?_
    refine WL.yd (Yd.indexS Try.underlying23 Try.sizeOf55 rfl rfl (by omega) (by omega) (by first | exact hP.pl.addr k (by omega) | exact hR.bath.addr k (by omega) | exact hR.dip.addr (gt plan k).dipper.toNat (by omega))) rfl ?_
    refine WL.yd (Yd.loadN Try.isAgg55 Try.sizeOf55 rfl (vs := [_, _, _]) rfl (by first | exact RdN.own (k := 0) (n := 3) rfl rfl | exact RdN.own (k := 1) (n := 3) rfl rfl | exact (hP.pl.at k (by omega)).rdn 0 2 rfl | exact (hR.dip.at k (by omega)).rdn 0 2 rfl | exact (hR.bath.at k (by omega)).rdn 0 2 rfl | exact (hR.dip.at k (by omega)).rdn 0 3 rfl | exact (hR.bath.at k (by omega)).rdn 0 3 rfl)) rfl ?_
    refine WL.so (SO.alloc Try.zeroValue55 rfl) rfl ?_
    rintro _ _ _ ⟨b10, hb10, rfl, rfl, rfl⟩ -- NEW
    refine WL.so (SO.store 0 rfl Try.sizeOf55 rfl rfl rfl rfl (Nat.le_of_ble_eq_true rfl) (oneB_spec rfl)) rfl ?_
    rintro _ _ _ ⟨rfl, rfl, rfl⟩
    refine WL.nil ?_
    refine WP.thenC ?_
    refine WC.seq ?_
    refine WC.seq ?_
    refine WC.ofFr [(10, _), (8, _), (9, _), (0, _), (6, _), (7, _), (13, _), (14, _), (15, _)] ⟨rfl, rfl, rfl, rfl, rfl, rfl, rfl, rfl, rfl, trivial⟩ ?_
    refine WC.tail 20 [0, 1, 2, 3, 4, 5, 6, 7, 8, 9, 10, 11, 12, 13, 14, 15, 16, 17, 18, 19] rfl (by kernel_rfl) (by kernel_rfl)  ?_
    refine WQ.q rfl (Yd.qt (Yd.fieldAddr FA55_1 rfl)) rfl ?_
    refine WQ.q rfl (Yd.qt (Yd.load1 Try.isAgg3 rfl (by first | exact Rd.own (k := 0) rfl rfl | exact Rd.own (k := 1) rfl rfl | exact Rd.own (k := 2) rfl rfl | exact (Rd.imm hB rfl) | exact (hR.dip.at (gt plan k).dipper.toNat (by omega)).rd 0 rfl | exact (hR.dip.at (gt plan k).dipper.toNat (by omega)).rd 1 rfl | exact (hR.dip.at (gt plan k).dipper.toNat (by omega)).rd 2 rfl))) rfl ?_
    refine WQ.q rfl (Yd.qt (Yd.fieldAddr FA61_0 rfl)) rfl ?_
    refine WQ.q rfl (Yd.qt (Yd.load1 Try.isAgg3 rfl (by first | exact Rd.own (k := 0) rfl rfl | exact Rd.own (k := 1) rfl rfl | exact Rd.own (k := 2) rfl rfl | exact (Rd.imm hB rfl) | exact (hR.dip.at (gt plan k).dipper.toNat (by omega)).rd 0 rfl | exact (hR.dip.at (gt plan k).dipper.toNat (by omega)).rd 1 rfl | exact (hR.dip.at (gt plan k).dipper.toNat (by omega)).rd 2 rfl))) rfl ?_
    refine WQ.q rfl (Yd.qt (Yd.shr rfl rfl (by omega))) rfl ?_
    refine WQ.q rfl (Yd.qt (Yd.and1 rfl rfl)) rfl ?_
    refine WQ.q rfl (Yd.qt (Yd.eql rfl rfl)) rfl ?_
    refine WQ.q rfl (Yd.qt (Yd.move rfl)) rfl ?_
    refine WQ.part 35 rfl (fun g35 => ?_) (fun g35 => ?_)
    · try simp only [zq1, zq2, zq3, zq4, zq5, zq6, zq7, zq8] at g35
      have hb0 : bitN (gt d.bathers k).hours (gt plan k).hour = 0 := g35
      refine WQ.skip rfl rfl rfl ?_
      refine WQ.skip rfl rfl rfl ?_
      refine WQ.skip rfl rfl rfl ?_
      refine WQ.skip rfl rfl rfl ?_
      refine WQ.skip rfl rfl rfl ?_
      refine WQ.skip rfl rfl rfl ?_
      refine WQ.skip rfl rfl rfl ?_
      refine WQ.skip rfl rfl rfl ?_
      refine WQ.skip rfl rfl rfl ?_
      refine WQ.skip rfl rfl rfl ?_
      refine WQ.skip rfl rfl rfl ?_
      refine WQ.skip rfl rfl rfl ?_
      refine WQ.tail ?_
      refine WL.skip rfl rfl ?_
      refine WL.skip rfl rfl ?_
      refine WL.skip rfl rfl ?_
      refine WL.yd (Yd.pickT rfl rfl) rfl ?_
      refine WL.nil ?_
      refine WP.thenC ?_
      refine WC.condT rfl ?_
      refine WC.seq ?_
      refine WC.ofFr [(10, _), (8, _), (9, _), (0, _), (6, _), (7, _), (13, _), (14, _), (15, _)] ⟨rfl, rfl, rfl, rfl, rfl, rfl, rfl, rfl, rfl, trivial⟩ ?_
      refine WC.region ?_
      refine WL.yd (Yd.move rfl) rfl ?_
      refine WL.yd (Yd.assign rfl) rfl ?_
      refine WL.yd (Yd.assign rfl) rfl ?_
      refine WL.nil ?_
      refine WP.thenC ?_
      refine WC.ret ?_
      refine WP.thenRet ?_
      refine WP.blkRet ?_
      refine WP.thenRet ?_
      refine WP.thenRet ?_
      refine WP.blkRet ?_
      refine WP.thenRet ?_
      refine WP.ret2 rfl rfl Try.results51 (RV.tmp rfl) (RV.tmp rfl) (fun w hI => ⟨congrArg Ending.returned (by
              rw [hd]
              first
                | (have hbr := broken_hour (best := false) hv (by omega) (by omega) (by omega) (by omega) (Or.inl hb0)
                   rw [show plan.length - k = (plan.length - (k + 1)) + 1 by omega, firstR_hit _ _ _ _ _ (by rw [hbr]; decide), hbr]; done)
                | (have hbr := broken_hour (best := false) hv (by omega) (by omega) (by omega) (by omega) (Or.inr hb0p)
                   rw [show plan.length - k = (plan.length - (k + 1)) + 1 by omega, firstR_hit _ _ _ _ _ (by rw [hbr]; decide), hbr]; done)
                | (rw [if_pos c67] at hbr
                   rw [show plan.length - k = (plan.length - (k + 1)) + 1 by omega, firstR_hit _ _ _ _ _ (by rw [hbr]; decide), hbr]; done)
                | (rw [show plan.length - k = 0 by omega]; rfl)), hI.keep⟩)
    · try simp only [zq1, zq2, zq3, zq4, zq5, zq6, zq7, zq8] at g35
      have hb1 : bitN (gt d.bathers k).hours (gt plan k).hour = 1 := (bit_01 _ _).resolve_left g35
      refine WQ.qg rfl rfl (Yd.qt (Yd.move rfl)) rfl ?_
      refine WQ.qg rfl rfl (Yd.qt (Yd.nilCheck rfl)) rfl ?_
      refine WQ.qg rfl rfl (Yd.qt (Yd.fieldAddr FA89_0 rfl)) rfl ?_
      refine WQ.qg rfl rfl (Yd.qt (Yd.fieldAddr FA25_1 rfl)) rfl ?_
      refine WQ.qg rfl rfl (Yd.qt (Yd.load1 Try.isAgg22 rfl (by first | exact Rd.own (k := 0) rfl rfl | exact Rd.own (k := 1) rfl rfl | exact Rd.own (k := 2) rfl rfl | exact (Rd.imm hB rfl) | exact (hR.dip.at (gt plan k).dipper.toNat (by omega)).rd 0 rfl | exact (hR.dip.at (gt plan k).dipper.toNat (by omega)).rd 1 rfl | exact (hR.dip.at (gt plan k).dipper.toNat (by omega)).rd 2 rfl))) rfl ?_
      refine WQ.qg rfl rfl (Yd.qt (Yd.fieldAddr FA61_1 rfl)) rfl ?_
      refine WQ.qg rfl rfl (Yd.qt (Yd.load1 Try.isAgg3 rfl (by first | exact Rd.own (k := 0) rfl rfl | exact Rd.own (k := 1) rfl rfl | exact Rd.own (k := 2) rfl rfl | exact (Rd.imm hB rfl) | exact (hR.dip.at (gt plan k).dipper.toNat (by omega)).rd 0 rfl | exact (hR.dip.at (gt plan k).dipper.toNat (by omega)).rd 1 rfl | exact (hR.dip.at (gt plan k).dipper.toNat (by omega)).rd 2 rfl))) rfl ?_
      refine WQ.qg rfl rfl (Yd.qt (Yd.indexS Try.underlying22 Try.sizeOf53 rfl rfl (by omega) (by omega) (by first | exact hP.pl.addr k (by omega) | exact hR.bath.addr k (by omega) | exact hR.dip.addr (gt plan k).dipper.toNat (by omega)))) rfl ?_
      refine WQ.qg rfl rfl (Yd.qt (Yd.fieldAddr FA53_1 rfl)) rfl ?_
      refine WQ.qg rfl rfl (Yd.qt (Yd.load1 Try.isAgg3 rfl (by first | exact Rd.own (k := 0) rfl rfl | exact Rd.own (k := 1) rfl rfl | exact Rd.own (k := 2) rfl rfl | exact (Rd.imm hB rfl) | exact (hR.dip.at (gt plan k).dipper.toNat (by omega)).rd 0 rfl | exact (hR.dip.at (gt plan k).dipper.toNat (by omega)).rd 1 rfl | exact (hR.dip.at (gt plan k).dipper.toNat (by omega)).rd 2 rfl))) rfl ?_
      refine WQ.qg rfl rfl (Yd.qt (Yd.fieldAddr FA61_0 rfl)) rfl ?_
      refine WQ.qg rfl rfl (Yd.qt (Yd.load1 Try.isAgg3 rfl (by first | exact Rd.own (k := 0) rfl rfl | exact Rd.own (k := 1) rfl rfl | exact Rd.own (k := 2) rfl rfl | exact (Rd.imm hB rfl) | exact (hR.dip.at (gt plan k).dipper.toNat (by omega)).rd 0 rfl | exact (hR.dip.at (gt plan k).dipper.toNat (by omega)).rd 1 rfl | exact (hR.dip.at (gt plan k).dipper.toNat (by omega)).rd 2 rfl))) rfl ?_
      refine WQ.tail ?_
      refine WL.ydg rfl (Yd.shr rfl rfl (by omega)) rfl ?_
      refine WL.ydg rfl (Yd.and1 rfl rfl) rfl ?_
      refine WL.ydg rfl (Yd.eql rfl rfl) rfl ?_
      refine WL.yd (Yd.pickF rfl rfl) rfl ?_
      refine WL.nil ?_
      refine WP.thenC ?_
      refine WC.cond rfl (fun c51 => ?_) (fun c51 => ?_)
      · try simp only [zq1, zq2, zq3, zq4, zq5, zq6, zq7, zq8] at c51
        have hb0p : bitN (gt d.dippers (gt plan k).dipper.toNat).hours (gt plan k).hour = 0 := c51
        refine WC.seq ?_
        refine WC.ofFr [(10, _), (8, _), (9, _), (0, _), (6, _), (7, _), (13, _), (14, _), (15, _)] ⟨rfl, rfl, rfl, rfl, rfl, rfl, rfl, rfl, rfl, trivial⟩ ?_
        refine WC.region ?_
        refine WL.yd (Yd.move rfl) rfl ?_
        refine WL.yd (Yd.assign rfl) rfl ?_
        refine WL.yd (Yd.assign rfl) rfl ?_
        refine WL.nil ?_
        refine WP.thenC ?_
        refine WC.ret ?_
        refine WP.thenRet ?_
        refine WP.blkRet ?_
        refine WP.thenRet ?_
        refine WP.thenRet ?_
        refine WP.blkRet ?_
        refine WP.thenRet ?_
        refine WP.ret2 rfl rfl Try.results51 (RV.tmp rfl) (RV.tmp rfl) (fun w hI => ⟨congrArg Ending.returned (by
                rw [hd]
                first
                  | (have hbr := broken_hour (best := false) hv (by omega) (by omega) (by omega) (by omega) (Or.inl hb0)
                     rw [show plan.length - k = (plan.length - (k + 1)) + 1 by omega, firstR_hit _ _ _ _ _ (by rw [hbr]; decide), hbr]; done)
                  | (have hbr := broken_hour (best := false) hv (by omega) (by omega) (by omega) (by omega) (Or.inr hb0p)
                     rw [show plan.length - k = (plan.length - (k + 1)) + 1 by omega, firstR_hit _ _ _ _ _ (by rw [hbr]; decide), hbr]; done)
                  | (rw [if_pos c67] at hbr
                     rw [show plan.length - k = (plan.length - (k + 1)) + 1 by omega, firstR_hit _ _ _ _ _ (by rw [hbr]; decide), hbr]; done)
                  | (rw [show plan.length - k = 0 by omega]; rfl)), hI.keep⟩)
      · try simp only [zq1, zq2, zq3, zq4, zq5, zq6, zq7, zq8] at c51
        have hb1p : bitN (gt d.dippers (gt plan k).dipper.toNat).hours (gt plan k).hour = 1 := (bit_01 _ _).resolve_left c51
        have hbr := broken_hands (best := false) hv (by omega) (by omega) hq (by omega) (by omega) hb1 hb1p
        refine WC.skip ?_
        refine WP.thenC ?_
        refine WC.seq ?_
        refine WC.ofFr [(10, _), (8, _), (9, _), (0, _), (6, _), (7, _), (13, _), (14, _), (15, _)] ⟨rfl, rfl, rfl, rfl, rfl, rfl, rfl, rfl, rfl, trivial⟩ ?_
        refine WC.tail 10 [0, 1, 2, 3, 4, 5, 6, 7, 8, 9] rfl (by kernel_rfl) (by kernel_rfl)  ?_
        refine WQ.q rfl (Yd.qt (Yd.move rfl)) rfl ?_
        refine WQ.q rfl (Yd.qt (Yd.loadN Try.isAgg120 Try.sizeOf120 rfl (vs := handsC (hAt d plan false k)) rfl (RdN.own (k := 2) (n := 12) rfl rfl))) rfl ?_
        refine WQ.q rfl (Yd.qt (Yd.loadN Try.isAgg61 Try.sizeOf61 rfl (vs := [_, _]) rfl (by first | exact RdN.own (k := 0) (n := 2) rfl rfl | exact RdN.own (k := 1) (n := 2) rfl rfl | exact RdN.own (k := 2) (n := 2) rfl rfl | exact (hP.pl.at k (by omega)).rdn 0 2 rfl | exact (hR.dip.at k (by omega)).rdn 0 2 rfl | exact (hR.bath.at k (by omega)).rdn 0 2 rfl | exact (hR.dip.at k (by omega)).rdn 0 3 rfl | exact (hR.bath.at k (by omega)).rdn 0 3 rfl))) rfl ?_
        refine WQ.q rfl (Yd.qt (Yd.move rfl)) rfl ?_
        refine WQ.q rfl (Yd.qt (Yd.nilCheck rfl)) rfl ?_
        refine WQ.q rfl (Yd.qt (Yd.fieldAddr FA89_1 rfl)) rfl ?_
        refine WQ.q rfl (Yd.qt (Yd.load1 Try.isAgg87 rfl (by first | exact Rd.own (k := 0) rfl rfl | exact Rd.own (k := 1) rfl rfl | exact Rd.own (k := 2) rfl rfl | exact (Rd.imm hB rfl) | exact (hR.dip.at (gt plan k).dipper.toNat (by omega)).rd 0 rfl | exact (hR.dip.at (gt plan k).dipper.toNat (by omega)).rd 1 rfl | exact (hR.dip.at (gt plan k).dipper.toNat (by omega)).rd 2 rfl))) rfl ?_
        refine WQ.q rfl (Yd.qt (Yd.fieldAddr FA55_0 rfl)) rfl ?_
        refine WQ.q rfl (Yd.qt (Yd.loadN Try.isAgg35 Try.sizeOf35 rfl (vs := [_, _]) rfl (by first | exact RdN.own (k := 0) (n := 2) rfl rfl | exact RdN.own (k := 1) (n := 2) rfl rfl | exact RdN.own (k := 2) (n := 2) rfl rfl | exact (hP.pl.at k (by omega)).rdn 0 2 rfl | exact (hR.dip.at k (by omega)).rdn 0 2 rfl | exact (hR.bath.at k (by omega)).rdn 0 2 rfl | exact (hR.dip.at k (by omega)).rdn 0 3 rfl | exact (hR.bath.at k (by omega)).rdn 0 3 rfl))) rfl ?_
        refine WQ.q rfl (Qt.call (Enters.meth Try.call126 (fun w => by kernel_rfl) rfl rfl) (fun w hI => worstNeeds_g (gt d.bathers k).needs _)) rfl ?_
        refine WQ.tail ?_
        refine WL.so (SO.call (Enters.val Try.call95 rfl rfl) (fun w hI => without_g (hAt d plan false k) _ _ _ _ (by omega) (by omega) (by omega) (by omega))) rfl ?_
        rintro _ _ _ ⟨rfl, rfl, rfl⟩
        refine WL.so (SO.store 2 rfl Try.sizeOf120 rfl rfl rfl rfl (Nat.le_of_ble_eq_true rfl) (oneB_spec rfl)) rfl ?_
        rintro _ _ _ ⟨rfl, rfl, rfl⟩
        refine WL.nil ?_
        refine WP.thenC ?_
        refine WC.seq ?_
        refine WC.ofFr [(8, _), (9, _), (0, _), (6, _), (7, _), (13, _), (14, _), (15, _)] ⟨rfl, rfl, rfl, rfl, rfl, rfl, rfl, rfl, trivial⟩ ?_
        refine WC.region ?_
        refine WL.yd (Yd.loadN Try.isAgg120 Try.sizeOf120 rfl (vs := handsC (hAt d plan false (k + 1))) rfl (RdN.own (k := 2) (n := 12) rfl rfl)) rfl ?_
        refine WL.yd (Yd.loadN Try.isAgg61 Try.sizeOf61 rfl (vs := [_, _]) rfl (by first | exact RdN.own (k := 0) (n := 2) rfl rfl | exact RdN.own (k := 1) (n := 2) rfl rfl | exact RdN.own (k := 2) (n := 2) rfl rfl | exact (hP.pl.at k (by omega)).rdn 0 2 rfl | exact (hR.dip.at k (by omega)).rdn 0 2 rfl | exact (hR.bath.at k (by omega)).rdn 0 2 rfl | exact (hR.dip.at k (by omega)).rdn 0 3 rfl | exact (hR.bath.at k (by omega)).rdn 0 3 rfl)) rfl ?_
        refine WL.so (SO.callP Try.call96 rfl (fun w hI => left_g (hAt d plan false (k + 1)) _ _ _ (by omega) (by omega))) rfl ?_
        rintro _ _ _ ⟨rfl, rfl, rfl⟩
        refine WL.yd (Yd.lss rfl rfl) rfl ?_
        refine WL.nil ?_
        refine WP.thenC ?_
        refine WC.cond rfl (fun c67 => ?_) (fun c67 => ?_)
        · try simp only [zq1, zq2, zq3, zq4, zq5, zq6, zq7, zq8] at c67
          refine WC.seq ?_
          refine WC.ofFr [(8, _), (0, _), (6, _), (7, _), (13, _), (14, _), (15, _)] ⟨rfl, rfl, rfl, rfl, rfl, rfl, rfl, trivial⟩ ?_
          refine WC.region ?_
          refine WL.yd (Yd.move rfl) rfl ?_
          refine WL.yd (Yd.assign rfl) rfl ?_
          refine WL.yd (Yd.assign rfl) rfl ?_
          refine WL.nil ?_
          refine WP.thenC ?_
          refine WC.ret ?_
          refine WP.blkRet ?_
          refine WP.thenRet ?_
          refine WP.thenRet ?_
          refine WP.blkRet ?_
          refine WP.thenRet ?_
          refine WP.ret2 rfl rfl Try.results51 (RV.tmp rfl) (RV.tmp rfl) (fun w hI => ⟨congrArg Ending.returned (by
                  rw [hd]
                  first
                    | (have hbr := broken_hour (best := false) hv (by omega) (by omega) (by omega) (by omega) (Or.inl hb0)
                       rw [show plan.length - k = (plan.length - (k + 1)) + 1 by omega, firstR_hit _ _ _ _ _ (by rw [hbr]; decide), hbr]; done)
                    | (have hbr := broken_hour (best := false) hv (by omega) (by omega) (by omega) (by omega) (Or.inr hb0p)
                       rw [show plan.length - k = (plan.length - (k + 1)) + 1 by omega, firstR_hit _ _ _ _ _ (by rw [hbr]; decide), hbr]; done)
                    | (rw [if_pos c67] at hbr
                       rw [show plan.length - k = (plan.length - (k + 1)) + 1 by omega, firstR_hit _ _ _ _ _ (by rw [hbr]; decide), hbr]; done)
                    | (rw [show plan.length - k = 0 by omega]; rfl)), hI.keep⟩)
        · try simp only [zq1, zq2, zq3, zq4, zq5, zq6, zq7, zq8] at c67
          refine WC.skip ?_
          refine WP.blkNormal ?_
          refine WP.thenC ?_
          refine WC.ofFr [(0, _), (6, _), (7, _), (13, _), (14, _), (15, _)] ⟨rfl, rfl, rfl, rfl, rfl, rfl, trivial⟩ ?_
          refine WC.region ?_
          refine WL.yd (Yd.add rfl rfl (wr64 ⟨by omega, by omega⟩)) rfl ?_
          refine WL.yd (Yd.move rfl) rfl ?_
          refine WL.nil ?_
          exact WP.again (k + 1) ⟨by omega, by rw [hd, show plan.length - k = (plan.length - (k + 1)) + 1 by omega]; exact firstR_step _ _ _ _ _ (by rw [hbr, if_neg (by omega)])⟩ (by omega) (fun a w h => at_less h ⟨rfl, rfl, rfl, rfl, rfl, rfl, trivial⟩ (fun _ h => List.mem_cons_of_mem _ (List.mem_cons_of_mem _ h)) (fun h => (List.nodup_cons.1 (List.nodup_cons.1 h).2).2))
  · try simp only [zq1, zq2, zq3, zq4, zq5, zq6, zq7, zq8] at c16
    refine WC.exit ?_
    refine WP.thenExit ?_
    refine WP.thenExit ?_
    refine WP.blkHit ?_
    refine WP.thenC ?_
    refine WC.seq ?_
    refine WC.ofFr [] trivial ?_
    refine WC.region ?_
    refine WL.yd (Yd.assign rfl) rfl ?_
    refine WL.yd (Yd.assign rfl) rfl ?_
    refine WL.nil ?_
    refine WP.thenC ?_
    refine WC.ret ?_
    refine WP.ret2 rfl rfl Try.results51 (RV.tmp rfl) (RV.tmp rfl) (fun w hI => ⟨congrArg Ending.returned (by
            rw [hd]
            first
              | (have hbr := broken_hour (best := false) hv (by omega) (by omega) (by omega) (by omega) (Or.inl hb0)
                 rw [show plan.length - k = (plan.length - (k + 1)) + 1 by omega, firstR_hit _ _ _ _ _ (by rw [hbr]; decide), hbr]; done)
              | (have hbr := broken_hour (best := false) hv (by omega) (by omega) (by omega) (by omega) (Or.inr hb0p)
                 rw [show plan.length - k = (plan.length - (k + 1)) + 1 by omega, firstR_hit _ _ _ _ _ (by rw [hbr]; decide), hbr]; done)
              | (rw [if_pos c67] at hbr
                 rw [show plan.length - k = (plan.length - (k + 1)) + 1 by omega, firstR_hit _ _ _ _ _ (by rw [hbr]; decide), hbr]; done)
              | (rw [show plan.length - k = 0 by omega]; rfl)), hI.keep⟩)

end Go.Proofs.Ytidjdonppfegiaa
namespace Go.Proofs.Ytidjdonppfegiaa
open Go.W Go.Dp

theorem Imm.add_ne {D : Imm} {b b' : Nat} {o : Obj} (h : b' ≠ b) : D.add b o b' = D b' := by simp [Imm.add, h]
theorem Holds.add {D : Imm} {w : World} {b : Nat} {o : Obj} (h : Holds D w) (hb : w.heap[b]? = some o) : Holds (D.add b o) w := fun b' o' h' => by
  unfold Imm.add at h'
  split at h'
  · rename_i e; subst e; cases h'; exact hb
  · exact h _ _ h'
theorem ne_of_obj {w : World} {a b : Nat} {o1 o2 : Obj} (h1 : w.heap[a]? = some o1) (h2 : w.heap[b]? = some o2) (h : o1 ≠ o2) : a ≠ b := fun e => by
  subst e; rw [h1] at h2; cases h2; exact h rfl
theorem DipsR.ext {w : World} {D D' : Imm} {d : Dips} {a1 a2 : Option Addr} {n1 n2 : Nat} (h : DipsR D d a1 n1 a2 n2) (hx : DExt w D D') : DipsR D' d a1 n1 a2 n2 := ⟨h.dip.ext hx, h.bath.ext hx, h.len1, h.len2⟩
theorem PlanR.ext {w : World} {D D' : Imm} {l : List Plc} {a : Option Addr} {n : Nat} (h : PlanR D l a n) (hx : DExt w D D') : PlanR D' l a n := ⟨h.pl.ext hx, h.len⟩
theorem BeachAt.ext {w : World} {D D' : Imm} {b : Nat} {d : Dips} {s1 s2 t : Value} (h : BeachAt D b d s1 s2 t) (hx : DExt w D D') : BeachAt D' b d s1 s2 t := hx.old _ _ h
def idxR (bad : Plc → Bool) (plan : List Plc) : Nat → Nat → Int
  | _, 0 => -1
  | i, n + 1 => if bad (gt plan i) = true then (i : Int) else idxR bad plan (i + 1) n
theorem idxR_iff (bad : Plc → Bool) (plan : List Plc) : ∀ n i, 0 ≤ idxR bad plan i n ↔ ∃ j, i ≤ j ∧ j < i + n ∧ bad (gt plan j) = true := by
  intro n
  induction n with
  | zero => intro i; simp only [idxR]; constructor
            · intro h; omega
            · rintro ⟨j, h1, h2, _⟩; omega
  | succ n ih =>
    intro i
    simp only [idxR]
    by_cases hb : bad (gt plan i) = true
    · rw [if_pos hb]; exact ⟨fun _ => ⟨i, by omega, by omega, hb⟩, fun _ => by omega⟩
    · rw [if_neg hb, ih]
      constructor
      · rintro ⟨j, h1, h2, h3⟩; exact ⟨j, by omega, by omega, h3⟩
      · rintro ⟨j, h1, h2, h3⟩
        refine ⟨j, ?_, by omega, h3⟩
        rcases Nat.lt_or_ge i j with h | h
        · omega
        · have : j = i := by omega
          subst this; exact absurd h3 hb

set_option maxRecDepth 100000 in
set_option maxHeartbeats 1000000 in
theorem isPlan_g (s : Option Addr) (n c : Nat) (D : Imm) (w : World) (hH : Holds D w) : Makes Try.prog 50 [.slice s n c] w D (fun v D' => ∃ b, v = .func (.func 91) #[] #[pt b] ∧ D' b = some (.cells (List.toArray [.slice s n c]) 26 (0, 0))) := by
  unfold Makes
  refine enter Try.func50 rfl 4 Try.ntmps50 (Nat.le_of_ble_eq_true rfl) (Inv.start hH) ?_
  refine WC.seq ?_
  refine WC.ofFr [(0, _)] ⟨rfl, trivial⟩ ?_
  refine WC.region ?_
  refine WL.so (SO.box rfl rfl) rfl ?_
  rintro _ _ _ ⟨b1, hb1, rfl, rfl, rfl⟩ -- NEW
  refine WL.yd (Yd.assign rfl) rfl ?_
  refine WL.nil ?_
  refine WP.thenC ?_
  refine WC.seq ?_
  refine WC.ofFr [(2, _), (1, _)] ⟨rfl, rfl, trivial⟩ ?_
  refine WC.region ?_
  refine WL.yd (Yd.func rfl rfl) rfl ?_
  refine WL.yd (Yd.assign rfl) rfl ?_
  refine WL.nil ?_
  refine WP.thenC ?_
  refine WC.ret ?_
  refine WP.ret1 rfl rfl Try.results50 (RV.tmp rfl) (fun w hI => ⟨_, _, rfl, hI.keep, hI.freeze.imm, (DExt.refl _ _).add (hI.apart _ _ (List.mem_of_getElem? (i := 0) rfl)) hb1, b1, rfl, Imm.add_self _ _ _⟩)

set_option maxRecDepth 100000 in
set_option maxHeartbeats 1000000 in
theorem bad_g (d : Dips) (s1 t : Value) (a1 : Option Addr) (n1 c1 : Nat) (q bx : Nat) (D : Imm) (x : Plc) (w : World) (hB : BeachAt D q d (.slice a1 n1 c1) s1 t) (hX : D bx = some (.cells (List.toArray [pt q]) 72 (0, 0))) (hH : Holds D w) (hh : 1 ≤ d.hours ∧ d.hours ≤ 4) (hn : n1 = d.dippers.length) (hn1 : n1 ≤ 1000) : Gives Try.prog 92 [.agg #[it x.hour, it x.dipper], pt bx] w (.bool (!placeB d x)) := by
  unfold Gives
  subst hn
  have hw : IntKind.i64.wrap (d.hours - 1) = d.hours - 1 := wr64 (by omega)
  refine enter Try.func92 rfl 22 Try.ntmps92 (Nat.le_of_ble_eq_true rfl) (Inv.start hH) ?_
  refine WC.seq ?_
  refine WC.ofFr [(0, _), (1, _)] ⟨rfl, rfl, trivial⟩ ?_
  refine WC.region ?_
  refine WL.so (SO.box rfl rfl) rfl ?_
  rintro _ _ _ ⟨b2, hb2, rfl, rfl, rfl⟩ -- NEW
  refine WL.yd (Yd.assign rfl) rfl ?_
  refine WL.nil ?_
  refine WP.thenC ?_
  refine WC.seq ?_
  refine WC.ofFr [(3, _), (2, _), (1, _)] ⟨rfl, rfl, rfl, trivial⟩ ?_
  refine WC.tail 15 [0, 1, 2, 3, 4, 5, 6, 7, 8, 9, 10, 11, 12, 13, 14] rfl (by kernel_rfl) (by kernel_rfl)  ?_
  refine WQ.q rfl (Yd.qt (Yd.load1 Try.isAgg72 rfl (by first | exact Rd.own (k := 0) rfl rfl | exact (Rd.imm hX rfl) | exact (Rd.imm hB rfl)))) rfl ?_
  refine WQ.q rfl (Yd.qt (Yd.fieldAddr FA61_0 rfl)) rfl ?_
  refine WQ.q rfl (Yd.qt (Yd.load1 Try.isAgg3 rfl (by first | exact Rd.own (k := 0) rfl rfl | exact (Rd.imm hX rfl) | exact (Rd.imm hB rfl)))) rfl ?_
  refine WQ.q rfl (Qt.callP Try.call60 rfl (fun w hI => isHour_g d _ _ _ q D _ hB hI.imm _ hh)) rfl ?_
  refine WQ.q rfl (Yd.qt (Yd.not rfl)) rfl ?_
  refine WQ.q rfl (Yd.qt (Yd.move rfl)) rfl ?_
  refine WQ.part 9 rfl (fun g9 => ?_) (fun g9 => ?_)
  · try simp only [zq1, zq2, zq3, zq4, zq5, zq6, zq7, zq8] at g9
    refine WQ.skip rfl rfl rfl ?_
    refine WQ.skip rfl rfl rfl ?_
    refine WQ.skip rfl rfl rfl ?_
    refine WQ.skip rfl rfl rfl ?_
    refine WQ.skip rfl rfl rfl ?_
    refine WQ.skip rfl rfl rfl ?_
    refine WQ.skip rfl rfl rfl ?_
    refine WQ.skip rfl rfl rfl ?_
    refine WQ.skip rfl rfl rfl ?_
    refine WQ.tail ?_
    refine WL.skip rfl rfl ?_
    refine WL.skip rfl rfl ?_
    refine WL.yd (Yd.pickT rfl rfl) rfl ?_
    refine WL.yd (Yd.assign rfl) rfl ?_
    refine WL.nil ?_
    refine WP.thenC ?_
    refine WC.ret ?_
    refine WP.ret1 rfl rfl Try.results92 (RV.tmp rfl) (fun w hI => ⟨ret_bool (by simp only [placeB, hw]; simp_all), hI.keep⟩)
  · try simp only [zq1, zq2, zq3, zq4, zq5, zq6, zq7, zq8] at g9
    refine WQ.qg rfl rfl (Yd.qt (Yd.fieldAddr FA61_1 rfl)) rfl ?_
    refine WQ.qg rfl rfl (Yd.qt (Yd.load1 Try.isAgg3 rfl (by first | exact Rd.own (k := 0) rfl rfl | exact (Rd.imm hX rfl) | exact (Rd.imm hB rfl)))) rfl ?_
    refine WQ.qg rfl rfl (Yd.qt (Yd.load1 Try.isAgg72 rfl (by first | exact Rd.own (k := 0) rfl rfl | exact (Rd.imm hX rfl) | exact (Rd.imm hB rfl)))) rfl ?_
    refine WQ.qg rfl rfl (Yd.qt (Yd.nilCheck rfl)) rfl ?_
    refine WQ.qg rfl rfl (Yd.qt (Yd.fieldAddr FA89_0 rfl)) rfl ?_
    refine WQ.qg rfl rfl (Yd.qt (Yd.fieldAddr FA25_1 rfl)) rfl ?_
    refine WQ.qg rfl rfl (Yd.qt (Yd.load1 Try.isAgg22 rfl (by first | exact Rd.own (k := 0) rfl rfl | exact (Rd.imm hX rfl) | exact (Rd.imm hB rfl)))) rfl ?_
    refine WQ.qg rfl rfl (Yd.qt (Yd.lenS rfl Try.underlying22 rfl)) rfl ?_
    refine WQ.qg rfl rfl (Yd.qt (Yd.sub rfl rfl (wr64 ⟨by omega, by omega⟩))) rfl ?_
    refine WQ.tail ?_
    refine WL.sog rfl (SO.callP Try.call88 rfl (fun w hI => within_g _ _ _ _)) rfl ?_
    rintro _ _ _ ⟨rfl, rfl, rfl⟩
    refine WL.ydg rfl (Yd.not rfl) rfl ?_
    refine WL.yd (Yd.pickF rfl rfl) rfl ?_
    refine WL.yd (Yd.assign rfl) rfl ?_
    refine WL.nil ?_
    refine WP.thenC ?_
    refine WC.ret ?_
    refine WP.ret1 rfl rfl Try.results92 (RV.tmp rfl) (fun w hI => ⟨ret_bool (by simp only [placeB, hw]; simp_all), hI.keep⟩)

set_option maxRecDepth 100000 in
set_option maxHeartbeats 1000000 in
theorem index_g (D : Imm) (w : World) (hH : Holds D w) (plan : List Plc) (a3 : Option Addr) (n3 c3 : Nat) (hP : PlanR D plan a3 n3) (fi : FuncId) (cap : List Value) (hfi : ∀ args w, (callFunc fi args).run Try.prog w = .ok (.enter fi args) w) (bad : Plc → Bool) (hF : ∀ w', Holds D w' → ∀ i, i < plan.length → Gives Try.prog fi (.agg #[it (gt plan i).hour, it (gt plan i).dipper] :: cap) w' (.bool (bad (gt plan i)))) : Gives Try.prog 104 [.slice a3 n3 c3, .func (.func fi) #[] cap.toArray] w (it (idxR bad plan 0 plan.length)) := by
  unfold Gives
  obtain rfl := hP.pl.len'
  have hl3 := hP.len
  refine enter Try.func104 rfl 19 Try.ntmps104 (Nat.le_of_ble_eq_true rfl) (Inv.start hH) ?_
  refine WC.seq ?_
  refine WC.ofFr [(0, _), (1, _)] ⟨rfl, rfl, trivial⟩ ?_
  refine WC.region ?_
  refine WL.yd (Yd.assign rfl) rfl ?_
  refine WL.nil ?_
  refine WP.thenC ?_
  refine WC.seq ?_
  refine WC.seq ?_
  refine WC.ofFr [(4, _), (0, _), (1, _)] ⟨rfl, rfl, rfl, trivial⟩ ?_
  refine WC.region ?_
  refine WL.yd (Yd.move rfl) rfl ?_
  refine WL.yd (Yd.lenS rfl Try.underlying26 rfl) rfl ?_
  refine WL.yd (Yd.move rfl) rfl ?_
  refine WL.nil ?_
  refine WP.thenC ?_
  refine WC.block ?_
  refine WC.loopF (fun k : Nat => [(0, .slice a3 plan.length c3), (1, .func (.func fi) #[] cap.toArray), (7, nt plan.length), (8, nt k)]) (fun k => k ≤ plan.length ∧ idxR bad plan 0 plan.length = idxR bad plan k (plan.length - k)) (fun k => plan.length - k) 0 ⟨by omega, rfl⟩ (by exact ⟨rfl, rfl, rfl, rfl, trivial⟩) ?_
  intro k ⟨hk, hd⟩
  refine WC.seq ?_
  refine WC.ofFr [(0, _), (1, _), (7, _), (8, _)] ⟨rfl, rfl, rfl, rfl, trivial⟩ ?_
  refine WC.region ?_
  refine WL.yd (Yd.lss rfl rfl) rfl ?_
  refine WL.nil ?_
  refine WP.thenC ?_
  refine WC.seq ?_
  refine WC.cond rfl (fun c9 => ?_) (fun c9 => ?_)
  · try simp only [zq1, zq2, zq3, zq4, zq5, zq6, zq7, zq8] at c9
    refine WC.skip ?_
    refine WP.thenC ?_
    refine WC.seq ?_
    refine WC.block ?_
    refine WC.seq ?_
    refine WC.ofFr [(0, _), (1, _), (7, _), (8, _)] ⟨rfl, rfl, rfl, rfl, trivial⟩ ?_
    refine WC.region ?_
    refine WL.yd (Yd.move rfl) rfl ?_
    refine WL.yd (Yd.assign rfl) rfl ?_
    refine WL.nil ?_
    refine WP.thenC ?_
    refine WC.seq ?_
    refine WC.ofFr [(5, _), (0, _), (1, _), (7, _), (8, _)] ⟨rfl, rfl, rfl, rfl, rfl, trivial⟩ ?_
    refine WC.region ?_
    refine WL.yd (Yd.move rfl) rfl ?_
    refine WL.yd (Yd.move rfl) rfl ?_
    refine WL.yd (Yd.move rfl) rfl ?_
    refine WL.yd (Yd.indexS Try.underlying26 Try.sizeOf61 rfl rfl (by omega) (by omega) (by first | exact hP.pl.addr k (by omega))) rfl ?_
    refine WL.yd (Yd.loadN Try.isAgg61 Try.sizeOf61 rfl (vs := [_, _]) rfl (by first | exact (hP.pl.at k (by omega)).rdn 0 2 rfl)) rfl ?_
    refine WL.so (SO.call (Enters.val hfi rfl rfl) (fun w hI => hF _ hI.imm k (by omega))) rfl ?_
    rintro _ _ _ ⟨rfl, rfl, rfl⟩
    refine WL.nil ?_
    refine WP.thenC ?_
    refine WC.cond rfl (fun c16 => ?_) (fun c16 => ?_)
    · try simp only [zq1, zq2, zq3, zq4, zq5, zq6, zq7, zq8] at c16
      refine WC.seq ?_
      refine WC.ofFr [(5, _), (0, _), (1, _), (7, _), (8, _)] ⟨rfl, rfl, rfl, rfl, rfl, trivial⟩ ?_
      refine WC.region ?_
      refine WL.yd (Yd.move rfl) rfl ?_
      refine WL.yd (Yd.assign rfl) rfl ?_
      refine WL.nil ?_
      refine WP.thenC ?_
      refine WC.ret ?_
      refine WP.blkRet ?_
      refine WP.thenRet ?_
      refine WP.thenRet ?_
      refine WP.blkRet ?_
      refine WP.thenRet ?_
      refine WP.ret1 rfl rfl Try.results104 (RV.tmp rfl) (fun w hI => ⟨ret_int (by
              rw [hd]
              first
                | (rw [show plan.length - k = (plan.length - (k + 1)) + 1 by omega, idxR, if_pos c16]; done)
                | (rw [show plan.length - k = 0 by omega]; rfl)), hI.keep⟩)
    · try simp only [zq1, zq2, zq3, zq4, zq5, zq6, zq7, zq8] at c16
      refine WC.skip ?_
      refine WP.blkNormal ?_
      refine WP.thenC ?_
      refine WC.ofFr [(0, _), (1, _), (7, _), (8, _)] ⟨rfl, rfl, rfl, rfl, trivial⟩ ?_
      refine WC.region ?_
      refine WL.yd (Yd.add rfl rfl (wr64 ⟨by omega, by omega⟩)) rfl ?_
      refine WL.yd (Yd.move rfl) rfl ?_
      refine WL.nil ?_
      exact WP.againF (k + 1) ⟨by omega, by rw [hd, show plan.length - k = (plan.length - (k + 1)) + 1 by omega, idxR, if_neg (by rw [c16]; decide)]⟩ (by omega) ⟨rfl, rfl, rfl, rfl, trivial⟩ (fun _ h => h) (fun h => h)
  · try simp only [zq1, zq2, zq3, zq4, zq5, zq6, zq7, zq8] at c9
    refine WC.exit ?_
    refine WP.thenExit ?_
    refine WP.thenExit ?_
    refine WP.blkHit ?_
    refine WP.thenC ?_
    refine WC.seq ?_
    refine WC.ofFr [] trivial ?_
    refine WC.region ?_
    refine WL.yd (Yd.assign rfl) rfl ?_
    refine WL.nil ?_
    refine WP.thenC ?_
    refine WC.ret ?_
    refine WP.ret1 rfl rfl Try.results104 (RV.tmp rfl) (fun w hI => ⟨ret_int (by
            rw [hd]
            first
              | (rw [show plan.length - k = (plan.length - (k + 1)) + 1 by omega, idxR, if_pos c16]; done)
              | (rw [show plan.length - k = 0 by omega]; rfl)), hI.keep⟩)

set_option maxRecDepth 100000 in
set_option maxHeartbeats 1000000 in
theorem contains_g (D : Imm) (w : World) (hH : Holds D w) (plan : List Plc) (a3 : Option Addr) (n3 c3 : Nat) (hP : PlanR D plan a3 n3) (fi : FuncId) (cap : List Value) (hfi : ∀ args w, (callFunc fi args).run Try.prog w = .ok (.enter fi args) w) (bad : Plc → Bool) (hF : ∀ w', Holds D w' → ∀ i, i < plan.length → Gives Try.prog fi (.agg #[it (gt plan i).hour, it (gt plan i).dipper] :: cap) w' (.bool (bad (gt plan i)))) : Gives Try.prog 93 [.slice a3 n3 c3, .func (.func fi) #[] cap.toArray] w (.bool (plan.any bad)) := by
  unfold Gives
  refine enter Try.func93 rfl 9 Try.ntmps93 (Nat.le_of_ble_eq_true rfl) (Inv.start hH) ?_
  refine WC.seq ?_
  refine WC.ofFr [(0, _), (1, _)] ⟨rfl, rfl, trivial⟩ ?_
  refine WC.region ?_
  refine WL.yd (Yd.assign rfl) rfl ?_
  refine WL.nil ?_
  refine WP.thenC ?_
  refine WC.seq ?_
  refine WC.ofFr [(4, _), (0, _), (1, _)] ⟨rfl, rfl, rfl, trivial⟩ ?_
  refine WC.region ?_
  refine WL.yd (Yd.move rfl) rfl ?_
  refine WL.yd (Yd.move rfl) rfl ?_
  refine WL.so (SO.callP Try.call104 rfl (fun w hI => index_g D _ hI.imm plan a3 _ c3 hP fi cap hfi bad hF)) rfl ?_
  rintro _ _ _ ⟨rfl, rfl, rfl⟩
  refine WL.yd (Yd.geq rfl rfl) rfl ?_
  refine WL.yd (Yd.assign rfl) rfl ?_
  refine WL.nil ?_
  refine WP.thenC ?_
  refine WC.ret ?_
  refine WP.ret1 rfl rfl Try.results93 (RV.tmp rfl) (fun w hI => ⟨ret_bool (by
          rw [Bool.eq_iff_iff, decide_eq_true_eq, idxR_iff, List.any_eq_true]
          constructor
          · rintro ⟨j, _, h2, h3⟩; exact ⟨_, gt_mem (by omega), h3⟩
          · rintro ⟨x, hx, hb⟩
            obtain ⟨j, hj, rfl⟩ := List.getElem_of_mem hx
            exact ⟨j, by omega, by omega, by simpa [gt, List.getD, hj] using hb⟩), hI.keep⟩)

set_option maxRecDepth 100000 in
set_option maxHeartbeats 1000000 in
theorem isPlan1_g (d : Dips) (a1 a2 : Option Addr) (n1 c1 n2 c2 : Nat) (t : Value) (q bp : Nat) (D : Imm) (w : World) (hB : BeachAt D q d (.slice a1 n1 c1) (.slice a2 n2 c2) t) (plan : List Plc) (a3 : Option Addr) (n3 c3 : Nat) (hP : PlanR D plan a3 n3) (hX : D bp = some (.cells (List.toArray [.slice a3 n3 c3]) 26 (0, 0))) (hR : DipsR D d a1 n1 a2 n2) (hH : Holds D w) (hv : dipsB d = true) : Gives Try.prog 91 [pt q, pt bp] w (.bool (listB d plan)) := by
  unfold Gives
  obtain rfl := hR.dip.len'
  obtain rfl := hR.bath.len'
  have hl1 := hR.len1
  have hl2 := hR.len2
  obtain rfl := hP.pl.len'
  have hl3 := hP.len
  obtain ⟨hh, hd1, hd2, hdn, hbn⟩ := dips_num hv
  refine enter Try.func91 rfl 21 Try.ntmps91 (Nat.le_of_ble_eq_true rfl) (Inv.start hH) ?_
  refine WC.seq ?_
  refine WC.ofFr [(0, _), (1, _)] ⟨rfl, rfl, trivial⟩ ?_
  refine WC.region ?_
  refine WL.so (SO.box rfl rfl) rfl ?_
  rintro _ _ _ ⟨b2, hb2, rfl, rfl, rfl⟩ -- NEW
  refine WL.yd (Yd.assign rfl) rfl ?_
  refine WL.nil ?_
  refine WP.thenC ?_
  refine WC.seq ?_
  refine WC.ofFr [(3, _), (2, _), (1, _)] ⟨rfl, rfl, rfl, trivial⟩ ?_
  refine WC.region ?_
  refine WL.yd (Yd.func rfl rfl) rfl ?_
  refine WL.yd (Yd.assign rfl) rfl ?_
  refine WL.nil ?_
  refine WP.thenC ?_
  refine WC.seq ?_
  refine WC.ofFr [(4, _), (3, _), (2, _), (1, _)] ⟨rfl, rfl, rfl, rfl, trivial⟩ ?_
  refine WC.tail 12 [0, 1, 2, 3, 4, 5, 6, 7, 8, 9, 10, 11] rfl (by kernel_rfl) (by kernel_rfl)  ?_
  refine WQ.q rfl (Yd.qt (Yd.load1 Try.isAgg26 rfl (by first | exact Rd.own (k := 0) rfl rfl | exact (Rd.imm hX rfl) | exact (Rd.imm hB rfl)))) rfl ?_
  refine WQ.q rfl (Yd.qt (Yd.lenS rfl Try.underlying26 rfl)) rfl ?_
  refine WQ.q rfl (Yd.qt (Yd.load1 Try.isAgg72 rfl (by first | exact Rd.own (k := 0) rfl rfl | exact (Rd.imm hX rfl) | exact (Rd.imm hB rfl)))) rfl ?_
  refine WQ.q rfl (Yd.qt (Yd.nilCheck rfl)) rfl ?_
  refine WQ.q rfl (Yd.qt (Yd.fieldAddr FA89_0 rfl)) rfl ?_
  refine WQ.q rfl (Yd.qt (Yd.fieldAddr FA25_2 rfl)) rfl ?_
  refine WQ.q rfl (Yd.qt (Yd.load1 Try.isAgg23 rfl (by first | exact Rd.own (k := 0) rfl rfl | exact (Rd.imm hX rfl) | exact (Rd.imm hB rfl)))) rfl ?_
  refine WQ.q rfl (Yd.qt (Yd.lenS rfl Try.underlying23 rfl)) rfl ?_
  refine WQ.q rfl (Yd.qt (Yd.eql rfl rfl)) rfl ?_
  refine WQ.q rfl (Yd.qt (Yd.move rfl)) rfl ?_
  refine WQ.part 15 rfl (fun g15 => ?_) (fun g15 => ?_)
  · try simp only [zq1, zq2, zq3, zq4, zq5, zq6, zq7, zq8] at g15
    refine WQ.qg rfl rfl (Yd.qt (Yd.load1 Try.isAgg26 rfl (by first | exact Rd.own (k := 0) rfl rfl | exact (Rd.imm hX rfl) | exact (Rd.imm hB rfl)))) rfl ?_
    refine WQ.qg rfl rfl (Yd.qt (Yd.move rfl)) rfl ?_
    refine WQ.tail ?_
    refine WL.sog rfl (SO.callP Try.call93 rfl (fun w hI => contains_g (D.add b2 _) _ (Holds.add hI.imm (hI.own _ _ (List.mem_of_getElem? (i := 0) rfl))) plan a3 _ c3 (hP.ext ((DExt.refl _ _).add (hI.apart _ _ (List.mem_of_getElem? (i := 0) rfl)) hb2)) 92 [pt b2] Try.call92 (fun x => !placeB d x) (fun w' hw' i hi => bad_g d _ _ _ _ _ q b2 _ _ _ ((hB.ext ((DExt.refl _ _).add (hI.apart _ _ (List.mem_of_getElem? (i := 0) rfl)) hb2))) (Imm.add_self _ _ _) hw' hh rfl (by omega)))) rfl ?_
    rintro _ _ _ ⟨rfl, rfl, rfl⟩
    refine WL.ydg rfl (Yd.not rfl) rfl ?_
    refine WL.yd (Yd.pickT rfl rfl) rfl ?_
    refine WL.yd (Yd.assign rfl) rfl ?_
    refine WL.nil ?_
    refine WP.thenC ?_
    refine WC.ret ?_
    refine WP.ret1 rfl rfl Try.results91 (RV.tmp rfl) (fun w hI => ⟨ret_bool (by
            rw [Bool.eq_iff_iff, listB_iff]
            first
              | (simp only [Bool.not_eq_true', List.any_eq_false, Bool.not_eq_true]
                 constructor
                 · intro h; exact ⟨fun i hi => by have := h _ (gt_mem hi); simpa using this, by omega⟩
                 · rintro ⟨h, _⟩ x hx
                   obtain ⟨j, hj, rfl⟩ := List.getElem_of_mem hx
                   have := h j hj; simpa [gt, List.getD, hj] using this)
              | (refine ⟨fun h => absurd h (by decide), fun ⟨_, h⟩ => ?_⟩; exfalso; omega)), hI.keep⟩)
  · try simp only [zq1, zq2, zq3, zq4, zq5, zq6, zq7, zq8] at g15
    refine WQ.skip rfl rfl rfl ?_
    refine WQ.skip rfl rfl rfl ?_
    refine WQ.tail ?_
    refine WL.skip rfl rfl ?_
    refine WL.skip rfl rfl ?_
    refine WL.yd (Yd.pickF rfl rfl) rfl ?_
    refine WL.yd (Yd.assign rfl) rfl ?_
    refine WL.nil ?_
    refine WP.thenC ?_
    refine WC.ret ?_
    refine WP.ret1 rfl rfl Try.results91 (RV.tmp rfl) (fun w hI => ⟨ret_bool (by
            rw [Bool.eq_iff_iff, listB_iff]
            first
              | (simp only [Bool.not_eq_true', List.any_eq_false, Bool.not_eq_true]
                 constructor
                 · intro h; exact ⟨fun i hi => by have := h _ (gt_mem hi); simpa using this, by omega⟩
                 · rintro ⟨h, _⟩ x hx
                   obtain ⟨j, hj, rfl⟩ := List.getElem_of_mem hx
                   have := h j hj; simpa [gt, List.getD, hj] using this)
              | (refine ⟨fun h => absurd h (by decide), fun ⟨_, h⟩ => ?_⟩; exfalso; omega)), hI.keep⟩)

end Go.Proofs.Ytidjdonppfegiaa
namespace Go.Proofs.Ytidjdonppfegiaa
open Go.W Go.Dp

theorem open_ok (d : Dips) (a1 : Option Addr) (n1 c1 : Nat) (a2 : Option Addr) (n2 c2 : Nat) (D : Imm) (w : World) (hR : DipsR D d a1 n1 a2 n2) (hH : Holds D w) (fi : FuncId) (cap : List Value) (hfi : ∀ args w, (callFunc fi args).run Try.prog w = .ok (.enter fi args) w) (hv : dipsB d = true) {v : Bool} (hvv : v = true) (hIs : ∀ D' w' b, DExt w D D' → Holds D' w' → BeachAt D' b d (.slice a1 n1 c1) (.slice a2 n2 c2) worstV → Gives Try.prog fi (pt b :: cap) w' (.bool v)) : Makes Try.prog 49 [.agg #[it d.hours, .slice a1 n1 c1, .slice a2 n2 c2], .func (.func fi) #[] cap.toArray] w D (fun u D' => ∃ b, u = pt b ∧ BeachAt D' b d (.slice a1 n1 c1) (.slice a2 n2 c2) worstV) :=
  (open_g d a1 n1 c1 a2 n2 c2 D w hR hH fi cap hfi v (fun D' w' b h1 h2 h3 _ => hIs D' w' b h1 h2 h3)).mono fun e w' h => by
    obtain ⟨b, D', he, hk, hH', hx, hb⟩ := h.2.2 hv hvv
    exact ⟨pt b, D', he, hk, hH', hx, b, rfl, hb⟩
theorem open_1 (d : Dips) (a1 : Option Addr) (n1 c1 : Nat) (a2 : Option Addr) (n2 c2 : Nat) (D : Imm) (w : World) (hR : DipsR D d a1 n1 a2 n2) (hH : Holds D w) (fi : FuncId) (cap : List Value) (hfi : ∀ args w, (callFunc fi args).run Try.prog w = .ok (.enter fi args) w) (hv : dipsB d = false) : Fails Try.prog 49 [.agg #[it d.hours, .slice a1 n1 c1, .slice a2 n2 c2], .func (.func fi) #[] cap.toArray] w (stopC 1) :=
  (open_g d a1 n1 c1 a2 n2 c2 D w hR hH fi cap hfi true (fun D' w' b h1 h2 h3 h => absurd (hv.symm.trans h) (by decide))).mono fun e w' h => h.1 hv
theorem open_2 (d : Dips) (a1 : Option Addr) (n1 c1 : Nat) (a2 : Option Addr) (n2 c2 : Nat) (D : Imm) (w : World) (hR : DipsR D d a1 n1 a2 n2) (hH : Holds D w) (fi : FuncId) (cap : List Value) (hfi : ∀ args w, (callFunc fi args).run Try.prog w = .ok (.enter fi args) w) (hv : dipsB d = true) {v : Bool} (hvv : v = false) (hIs : ∀ D' w' b, DExt w D D' → Holds D' w' → BeachAt D' b d (.slice a1 n1 c1) (.slice a2 n2 c2) worstV → Gives Try.prog fi (pt b :: cap) w' (.bool v)) : Fails Try.prog 49 [.agg #[it d.hours, .slice a1 n1 c1, .slice a2 n2 c2], .func (.func fi) #[] cap.toArray] w (stopC 2) :=
  (open_g d a1 n1 c1 a2 n2 c2 D w hR hH fi cap hfi v (fun D' w' b h1 h2 h3 _ => hIs D' w' b h1 h2 h3)).mono fun e w' h => h.2.1 hv hvv

set_option maxRecDepth 100000 in
set_option maxHeartbeats 1000000 in
theorem Check_1 (d : Dips) (a1 : Option Addr) (n1 c1 : Nat) (a2 : Option Addr) (n2 c2 : Nat) (D : Imm) (w : World) (hR : DipsR D d a1 n1 a2 n2) (hH : Holds D w) (plan : List Plc) (a3 : Option Addr) (n3 c3 : Nat) (hP : PlanR D plan a3 n3) (hv : dipsB d = false) : Gives Try.prog 15 [.agg #[it d.hours, .slice a1 n1 c1, .slice a2 n2 c2], .slice a3 n3 c3] w (.tuple #[it (CheckR d plan).1, it (CheckR d plan).2.1, it (CheckR d plan).2.2]) := by
  unfold Gives
  obtain rfl := hR.dip.len'
  obtain rfl := hR.bath.len'
  have hl1 := hR.len1
  have hl2 := hR.len2
  obtain rfl := hP.pl.len'
  have hl3 := hP.len
  refine enterD Try.func15 rfl 24 Try.ntmps15 (Nat.le_of_ble_eq_true rfl) (Inv.start hH) ?_
  refine WC.seq ?_
  refine WC.ofFr [(0, _), (1, _)] ⟨rfl, rfl, trivial⟩ ?_
  refine WC.region ?_
  refine WL.so (SO.box rfl rfl) rfl ?_
  rintro _ _ _ ⟨b2, hb2, rfl, rfl, rfl⟩ -- NEW
  refine WL.yd (Yd.assign rfl) rfl ?_
  refine WL.yd (Yd.assign rfl) rfl ?_
  refine WL.so (SO.alloc Try.zeroValue29 rfl) rfl ?_
  rintro _ _ _ ⟨b6, hb6, rfl, rfl, rfl⟩ -- NEW
  refine WL.nil ?_
  refine WP.thenC ?_
  refine WC.seq ?_
  refine WC.ofFr [(6, _), (5, _), (4, _), (2, _), (1, _)] ⟨rfl, rfl, rfl, rfl, rfl, trivial⟩ ?_
  refine WC.region ?_
  refine WL.yd (Yd.func rfl rfl) rfl ?_
  refine WL.defer rfl ?_
  refine WL.nil ?_
  refine WP.thenC ?_
  refine WC.seq ?_
  refine WC.ofFr [(6, _), (5, _), (4, _), (2, _), (1, _)] ⟨rfl, rfl, rfl, rfl, rfl, trivial⟩ ?_
  refine WC.drawD _ [(0, true), (1, true), (4, true), (2, false), (3, false), (5, false), (6, true), (7, true), (8, true), (9, true), (10, true)] (by kernel_rfl) (by kernel_rfl) (QuietOn.then (QuietOn.bodyD (by kernel_rfl))) (fun _ hI => hI) ?_
  refine WA.yd rfl (Yd.loadN Try.isAgg25 Try.sizeOf25 rfl (vs := [_, _, _]) rfl (by first | exact RdN.own (k := 0) (n := 3) rfl rfl | exact RdN.own (k := 1) (n := 3) rfl rfl)) rfl ?_
  refine WA.yd rfl (Yd.move rfl) rfl ?_
  refine WA.yd rfl (Yd.move rfl) rfl ?_
  refine WA.so rfl (SO.makes (Enters.func Try.call50 rfl) (fun w hI => isPlan_g _ _ _ _ _ hI.imm)) rfl ?_
  rintro _ D1 _ ⟨hX1, ⟨bp, rfl, hD1⟩, rfl⟩
  refine ⟨fun _ hI => hI.shrink hX1.old, ?_⟩
  refine WA.no rfl (SO.fail (Enters.func Try.call49 rfl) (fun w hI => open_1 d a1 _ c1 a2 _ c2 D1 _ (hR.ext hX1) hI.imm 91 [pt bp] Try.call91 hv) ?_)
  refine WP.thenPanic ?_
  refine WP.panicD (k := 0) [_, _, _] [_, _, _] rfl Try.call47 rfl (fun w hI => catch47 _ _ _ _ _ (hI.own _ _ (List.mem_of_getElem? (i := 0) rfl))) Try.results15 ⟨(RV.tmp rfl), (RV.tmp rfl), (RV.cell1 Try.isAgg29 rfl (by first | exact Rd.own (k := 0) rfl rfl | exact Rd.own (k := 1) rfl rfl)), trivial⟩ (fun w hI => ⟨congrArg Ending.returned (by simp [CheckR, checkR, hv, retV]), hI.keep⟩)

set_option maxRecDepth 100000 in
set_option maxHeartbeats 1000000 in
theorem Check_2 (d : Dips) (a1 : Option Addr) (n1 c1 : Nat) (a2 : Option Addr) (n2 c2 : Nat) (D : Imm) (w : World) (hR : DipsR D d a1 n1 a2 n2) (hH : Holds D w) (plan : List Plc) (a3 : Option Addr) (n3 c3 : Nat) (hP : PlanR D plan a3 n3) (hv : dipsB d = true) (hlb : listB d plan = false) : Gives Try.prog 15 [.agg #[it d.hours, .slice a1 n1 c1, .slice a2 n2 c2], .slice a3 n3 c3] w (.tuple #[it (CheckR d plan).1, it (CheckR d plan).2.1, it (CheckR d plan).2.2]) := by
  unfold Gives
  obtain rfl := hR.dip.len'
  obtain rfl := hR.bath.len'
  have hl1 := hR.len1
  have hl2 := hR.len2
  obtain rfl := hP.pl.len'
  have hl3 := hP.len
  refine enterD Try.func15 rfl 24 Try.ntmps15 (Nat.le_of_ble_eq_true rfl) (Inv.start hH) ?_
  refine WC.seq ?_
  refine WC.ofFr [(0, _), (1, _)] ⟨rfl, rfl, trivial⟩ ?_
  refine WC.region ?_
  refine WL.so (SO.box rfl rfl) rfl ?_
  rintro _ _ _ ⟨b2, hb2, rfl, rfl, rfl⟩ -- NEW
  refine WL.yd (Yd.assign rfl) rfl ?_
  refine WL.yd (Yd.assign rfl) rfl ?_
  refine WL.so (SO.alloc Try.zeroValue29 rfl) rfl ?_
  rintro _ _ _ ⟨b6, hb6, rfl, rfl, rfl⟩ -- NEW
  refine WL.nil ?_
  refine WP.thenC ?_
  refine WC.seq ?_
  refine WC.ofFr [(6, _), (5, _), (4, _), (2, _), (1, _)] ⟨rfl, rfl, rfl, rfl, rfl, trivial⟩ ?_
  refine WC.region ?_
  refine WL.yd (Yd.func rfl rfl) rfl ?_
  refine WL.defer rfl ?_
  refine WL.nil ?_
  refine WP.thenC ?_
  refine WC.seq ?_
  refine WC.ofFr [(6, _), (5, _), (4, _), (2, _), (1, _)] ⟨rfl, rfl, rfl, rfl, rfl, trivial⟩ ?_
  refine WC.drawD _ [(0, true), (1, true), (4, true), (2, false), (3, false), (5, false), (6, true), (7, true), (8, true), (9, true), (10, true)] (by kernel_rfl) (by kernel_rfl) (QuietOn.then (QuietOn.bodyD (by kernel_rfl))) (fun _ hI => hI) ?_
  refine WA.yd rfl (Yd.loadN Try.isAgg25 Try.sizeOf25 rfl (vs := [_, _, _]) rfl (by first | exact RdN.own (k := 0) (n := 3) rfl rfl | exact RdN.own (k := 1) (n := 3) rfl rfl)) rfl ?_
  refine WA.yd rfl (Yd.move rfl) rfl ?_
  refine WA.yd rfl (Yd.move rfl) rfl ?_
  refine WA.so rfl (SO.makes (Enters.func Try.call50 rfl) (fun w hI => isPlan_g _ _ _ _ _ hI.imm)) rfl ?_
  rintro _ D1 _ ⟨hX1, ⟨bp, rfl, hD1⟩, rfl⟩
  refine ⟨fun _ hI => hI.shrink hX1.old, ?_⟩
  refine WA.no rfl (SO.fail (Enters.func Try.call49 rfl) (fun w hI => open_2 d a1 _ c1 a2 _ c2 D1 _ (hR.ext hX1) hI.imm 91 [pt bp] Try.call91 hv hlb (fun D' w' b hx hh hb => isPlan1_g d a1 a2 _ c1 _ c2 worstV b bp D' w' hb plan a3 _ c3 ((hP.ext hX1).ext hx) (hx.old _ _ hD1) ((hR.ext hX1).ext hx) hh hv)) ?_)
  refine WP.thenPanic ?_
  refine WP.panicD (k := 0) [_, _, _] [_, _, _] rfl Try.call47 rfl (fun w hI => catch47 _ _ _ _ _ (hI.own _ _ (List.mem_of_getElem? (i := 0) rfl))) Try.results15 ⟨(RV.tmp rfl), (RV.tmp rfl), (RV.cell1 Try.isAgg29 rfl (by first | exact Rd.own (k := 0) rfl rfl | exact Rd.own (k := 1) rfl rfl)), trivial⟩ (fun w hI => ⟨congrArg Ending.returned (by simp [CheckR, checkR, hv, hlb, retV]), hI.keep⟩)

set_option maxRecDepth 100000 in
set_option maxHeartbeats 1000000 in
theorem Check_ok (d : Dips) (a1 : Option Addr) (n1 c1 : Nat) (a2 : Option Addr) (n2 c2 : Nat) (D : Imm) (w : World) (hR : DipsR D d a1 n1 a2 n2) (hH : Holds D w) (plan : List Plc) (a3 : Option Addr) (n3 c3 : Nat) (hP : PlanR D plan a3 n3) (hv : dipsB d = true) (hlb : listB d plan = true) : Gives Try.prog 15 [.agg #[it d.hours, .slice a1 n1 c1, .slice a2 n2 c2], .slice a3 n3 c3] w (.tuple #[it (CheckR d plan).1, it (CheckR d plan).2.1, it (CheckR d plan).2.2]) := by
  unfold Gives
  obtain rfl := hR.dip.len'
  obtain rfl := hR.bath.len'
  have hl1 := hR.len1
  have hl2 := hR.len2
  obtain rfl := hP.pl.len'
  have hl3 := hP.len
  refine enterD Try.func15 rfl 24 Try.ntmps15 (Nat.le_of_ble_eq_true rfl) (Inv.start hH) ?_
  refine WC.seq ?_
  refine WC.ofFr [(0, _), (1, _)] ⟨rfl, rfl, trivial⟩ ?_
  refine WC.region ?_
  refine WL.so (SO.box rfl rfl) rfl ?_
  rintro _ _ _ ⟨b2, hb2, rfl, rfl, rfl⟩ -- NEW
  refine WL.yd (Yd.assign rfl) rfl ?_
  refine WL.yd (Yd.assign rfl) rfl ?_
  refine WL.so (SO.alloc Try.zeroValue29 rfl) rfl ?_
  rintro _ _ _ ⟨b6, hb6, rfl, rfl, rfl⟩ -- NEW
  refine WL.nil ?_
  refine WP.thenC ?_
  refine WC.seq ?_
  refine WC.ofFr [(6, _), (5, _), (4, _), (2, _), (1, _)] ⟨rfl, rfl, rfl, rfl, rfl, trivial⟩ ?_
  refine WC.region ?_
  refine WL.yd (Yd.func rfl rfl) rfl ?_
  refine WL.defer rfl ?_
  refine WL.nil ?_
  refine WP.thenC ?_
  refine WC.seq ?_
  refine WC.ofFr [(6, _), (5, _), (4, _), (2, _), (1, _)] ⟨rfl, rfl, rfl, rfl, rfl, trivial⟩ ?_
  refine WC.drawD _ [(0, true), (1, true), (4, true), (2, false), (3, false), (5, false), (6, true), (7, true), (8, true), (9, true), (10, true)] (by kernel_rfl) (by kernel_rfl) (QuietOn.then (QuietOn.bodyD (by kernel_rfl))) (fun _ hI => hI) ?_
  refine WA.yd rfl (Yd.loadN Try.isAgg25 Try.sizeOf25 rfl (vs := [_, _, _]) rfl (by first | exact RdN.own (k := 0) (n := 3) rfl rfl | exact RdN.own (k := 1) (n := 3) rfl rfl)) rfl ?_
  refine WA.yd rfl (Yd.move rfl) rfl ?_
  refine WA.yd rfl (Yd.move rfl) rfl ?_
  refine WA.so rfl (SO.makes (Enters.func Try.call50 rfl) (fun w hI => isPlan_g _ _ _ _ _ hI.imm)) rfl ?_
  rintro _ D1 _ ⟨hX1, ⟨bp, rfl, hD1⟩, rfl⟩
  refine ⟨fun _ hI => hI.shrink hX1.old, ?_⟩
  refine WA.so rfl (SO.makes (Enters.func Try.call49 rfl) (fun w hI => open_ok d a1 _ c1 a2 _ c2 D1 _ (hR.ext hX1) hI.imm 91 [pt bp] Try.call91 hv hlb (fun D' w' b hx hh hb => isPlan1_g d a1 a2 _ c1 _ c2 worstV b bp D' w' hb plan a3 _ c3 ((hP.ext hX1).ext hx) (hx.old _ _ hD1) ((hR.ext hX1).ext hx) hh hv))) rfl ?_
  rintro _ D2 _ ⟨hX2, ⟨bq, rfl, hB⟩, rfl⟩
  have hX12 := hX1.trans hX2 (Nat.le_refl _)
  refine ⟨fun _ hI => hI.shrink hX12.old, ?_⟩
  refine WA.so rfl (SO.callP Try.call51 rfl (fun w hI => brokenP_false d a1 _ c1 a2 _ c2 bq D2 _ hB (hR.ext hX12) hI.imm hv plan a3 _ c3 (hP.ext hX12) (plok_of hv hlb).1 (plok_of hv hlb).2)) rfl ?_
  rintro _ _ _ ⟨rfl, rfl, rfl⟩
  refine ⟨fun _ hI => hI.shrink hX12.old, ?_⟩
  refine WA.yd rfl (Yd.move rfl) rfl ?_
  refine WA.yd rfl (Yd.extract rfl rfl) rfl ?_
  refine WA.yd rfl (Yd.extract rfl rfl) rfl ?_
  refine WA.yd rfl (Yd.assign rfl) rfl ?_
  refine WA.yd rfl (Yd.assign rfl) rfl ?_
  refine WA.nil ?_
  refine WP.thenC ?_
  refine WC.seq ?_
  refine WC.ofFr [(8, _), (7, _), (6, _), (5, _), (4, _)] ⟨rfl, rfl, rfl, rfl, rfl, trivial⟩ ?_
  refine WC.region ?_
  refine WL.yd (Yd.move rfl) rfl ?_
  refine WL.yd (Yd.neq rfl rfl) rfl ?_
  refine WL.part 20 rfl (fun g20 => ?_) (fun g20 => ?_)
  · try simp only [zq1, zq2, zq3, zq4, zq5, zq6, zq7, zq8] at g20
    refine WL.so (SO.call (Enters.func Try.call52 rfl) (fun w hI => must_ok _ _)) rfl ?_
    rintro _ _ _ ⟨rfl, rfl, rfl⟩
    refine WL.nil ?_
    refine WP.thenC ?_
    refine WC.seq ?_
    refine WC.ofFr [(8, _), (7, _), (6, _), (5, _), (4, _)] ⟨rfl, rfl, rfl, rfl, rfl, trivial⟩ ?_
    refine WC.region ?_
    refine WL.yd (Yd.move rfl) rfl ?_
    refine WL.yd (Yd.move rfl) rfl ?_
    refine WL.yd (Yd.assign rfl) rfl ?_
    refine WL.yd (Yd.assign rfl) rfl ?_
    refine WL.so (SO.store 0 rfl Try.sizeOf29 rfl rfl rfl rfl (Nat.le_of_ble_eq_true rfl) (oneB_spec rfl)) rfl ?_
    rintro _ _ _ ⟨rfl, rfl, rfl⟩
    refine WL.nil ?_
    refine WP.thenC ?_
    refine WC.ret ?_
    refine WP.endD [_, _, _] [_, _, _] rfl rfl Try.call47 (fun w hI => idle47 _ _) Try.results15 ⟨(RV.tmp rfl), (RV.tmp rfl), (RV.cell1 Try.isAgg29 rfl (by first | exact Rd.own (k := 0) rfl rfl | exact Rd.own (k := 1) rfl rfl)), trivial⟩ (fun w hI => ⟨congrArg Ending.returned (by simp only [CheckR, checkR, hv, hlb]; simp_all [retV]), hI.keep⟩)
  · try simp only [zq1, zq2, zq3, zq4, zq5, zq6, zq7, zq8] at g20
    refine WL.no (SO.fail (Enters.func Try.call52 rfl) (fun w hI => must_no _ _) ?_)
    refine WP.thenPanic ?_
    refine WP.panicD (k := 0) [_, _, _] [_, _, _] rfl Try.call47 rfl (fun w hI => catch47 _ _ _ _ _ (hI.own _ _ (List.mem_of_getElem? (i := 0) rfl))) Try.results15 ⟨(RV.tmp rfl), (RV.tmp rfl), (RV.cell1 Try.isAgg29 rfl (by first | exact Rd.own (k := 0) rfl rfl | exact Rd.own (k := 1) rfl rfl)), trivial⟩ (fun w hI => ⟨congrArg Ending.returned (by simp only [CheckR, checkR, hv, hlb]; simp_all [retV]), hI.keep⟩)

end Go.Proofs.Ytidjdonppfegiaa
namespace Go.Proofs.Ytidjdonppfegiaa
open Go.W Go.Dp
theorem SA84 : StructAt Try.prog 84 [] [(0, 0)] := ⟨⟨_, Try.zeroValue84, rfl⟩, _, Try.underlying84, fun w => by simp [Try.sizeOf82]⟩
theorem firstR_iff (d : Dips) (plan : List Plc) (best : Bool) : ∀ n i, (firstR d plan best i n).2 = 0 ↔ ∀ j, i ≤ j → j < i + n → brokenR d plan j best = 0 := by
  intro n
  induction n with
  | zero => intro i; simp only [firstR, true_iff]; intro j h1 h2; omega
  | succ n ih =>
    intro i
    simp only [firstR]
    by_cases hb : brokenR d plan i best = 0
    · rw [if_neg (by simpa using hb), ih]
      constructor
      · intro h j h1 h2
        rcases Nat.lt_or_ge i j with h3 | h3
        · exact h j (by omega) (by omega)
        · rw [show j = i by omega]; exact hb
      · intro h j h1 h2; exact h j (by omega) (by omega)
    · rw [if_pos hb]
      simp only
      constructor
      · intro h; exact absurd h hb
      · intro h; exact absurd (h i (Nat.le_refl _) (by omega)) hb
theorem firstR_fine (d : Dips) (plan : List Plc) (best : Bool) : (firstR d plan best 0 plan.length).2 = 0 ↔ fineR d plan best = true := by
  rw [firstR_iff]; unfold fineR; rw [decide_eq_true_eq]
  constructor
  · intro h i hi; exact h i (by omega) (by omega)
  · intro h j _ hj; exact h j (by omega)
theorem in_g2 (h : Int) (s1 s2 t0 : Value) (tt : TypeId) (tv : Value) (w : World) (D : Imm) (hH : Holds D w) : Makes Try.prog 56 [.agg #[it h, s1, s2, t0], .iface tt tv] w D (fun v D' => ∃ b, v = pt b ∧ D' b = some (.cells (List.toArray [it h, s1, s2, .iface tt tv]) 89 (0, 0))) :=
  (in_call h s1 s2 t0 tt tv w D hH).mono fun e w' ⟨b, D', he, hk, hH', hx, hb⟩ => ⟨pt b, D', he, hk, hH', hx, b, rfl, hb⟩

set_option maxRecDepth 100000 in
set_option maxHeartbeats 1000000 in
theorem Right_1 (d : Dips) (a1 : Option Addr) (n1 c1 : Nat) (a2 : Option Addr) (n2 c2 : Nat) (D : Imm) (w : World) (hR : DipsR D d a1 n1 a2 n2) (hH : Holds D w) (plan : List Plc) (a3 : Option Addr) (n3 c3 : Nat) (hP : PlanR D plan a3 n3) (hv : dipsB d = false) : Gives Try.prog 17 [.agg #[it d.hours, .slice a1 n1 c1, .slice a2 n2 c2], .slice a3 n3 c3] w (.tuple #[it (RightR d plan).1, it (RightR d plan).2]) := by
  unfold Gives
  obtain rfl := hR.dip.len'
  obtain rfl := hR.bath.len'
  have hl1 := hR.len1
  have hl2 := hR.len2
  obtain rfl := hP.pl.len'
  have hl3 := hP.len
  refine enterD Try.func17 rfl 37 Try.ntmps17 (Nat.le_of_ble_eq_true rfl) (Inv.start hH) ?_
  refine WC.seq ?_
  refine WC.ofFr [(0, _), (1, _)] ⟨rfl, rfl, trivial⟩ ?_
  refine WC.region ?_
  refine WL.so (SO.box rfl rfl) rfl ?_
  rintro _ _ _ ⟨b2, hb2, rfl, rfl, rfl⟩ -- NEW
  refine WL.yd (Yd.assign rfl) rfl ?_
  refine WL.so (SO.alloc Try.zeroValue29 rfl) rfl ?_
  rintro _ _ _ ⟨b5, hb5, rfl, rfl, rfl⟩ -- NEW
  refine WL.nil ?_
  refine WP.thenC ?_
  refine WC.seq ?_
  refine WC.ofFr [(5, _), (4, _), (2, _), (1, _)] ⟨rfl, rfl, rfl, rfl, trivial⟩ ?_
  refine WC.region ?_
  refine WL.yd (Yd.func rfl rfl) rfl ?_
  refine WL.defer rfl ?_
  refine WL.nil ?_
  refine WP.thenC ?_
  refine WC.seq ?_
  refine WC.ofFr [(5, _), (4, _), (2, _), (1, _)] ⟨rfl, rfl, rfl, rfl, trivial⟩ ?_
  refine WC.drawD _ [(0, true), (1, true), (2, false), (3, false), (4, true)] (by kernel_rfl) (by kernel_rfl) (QuietOn.then (QuietOn.bodyD (by kernel_rfl))) (fun _ hI => hI) ?_
  refine WA.yd rfl (Yd.loadN Try.isAgg25 Try.sizeOf25 rfl (vs := [_, _, _]) rfl (by first | exact RdN.own (k := 0) (n := 3) rfl rfl | exact RdN.own (k := 1) (n := 3) rfl rfl | exact (RdN.imm (n := 4) hB rfl))) rfl ?_
  refine WA.yd rfl (Yd.move rfl) rfl ?_
  refine WA.so rfl (SO.makes (Enters.func Try.call50 rfl) (fun w hI => isPlan_g _ _ _ _ _ hI.imm)) rfl ?_
  rintro _ D1 _ ⟨hX1, ⟨bp, rfl, hD1⟩, rfl⟩
  refine ⟨fun _ hI => hI.shrink hX1.old, ?_⟩
  refine WA.no rfl (SO.fail (Enters.func Try.call49 rfl) (fun w hI => open_1 d a1 _ c1 a2 _ c2 D1 _ (hR.ext hX1) hI.imm 91 [pt bp] Try.call91 hv) ?_)
  refine WP.thenPanic ?_
  refine WP.panicD (k := 0) [_, _] [_, _] rfl Try.call55 rfl (fun w hI => catch55 _ _ _ _ _ (hI.own _ _ (List.mem_of_getElem? (i := 0) rfl))) Try.results17 ⟨(RV.tmp rfl), (RV.cell1 Try.isAgg29 rfl (by first | exact Rd.own (k := 0) rfl rfl | exact Rd.own (k := 1) rfl rfl)), trivial⟩ (fun w hI => ⟨congrArg Ending.returned (by simp [RightR, checkR, hv, retV]), hI.keep⟩)

set_option maxRecDepth 100000 in
set_option maxHeartbeats 1000000 in
theorem Right_2 (d : Dips) (a1 : Option Addr) (n1 c1 : Nat) (a2 : Option Addr) (n2 c2 : Nat) (D : Imm) (w : World) (hR : DipsR D d a1 n1 a2 n2) (hH : Holds D w) (plan : List Plc) (a3 : Option Addr) (n3 c3 : Nat) (hP : PlanR D plan a3 n3) (hv : dipsB d = true) (hlb : listB d plan = false) : Gives Try.prog 17 [.agg #[it d.hours, .slice a1 n1 c1, .slice a2 n2 c2], .slice a3 n3 c3] w (.tuple #[it (RightR d plan).1, it (RightR d plan).2]) := by
  unfold Gives
  obtain rfl := hR.dip.len'
  obtain rfl := hR.bath.len'
  have hl1 := hR.len1
  have hl2 := hR.len2
  obtain rfl := hP.pl.len'
  have hl3 := hP.len
  refine enterD Try.func17 rfl 37 Try.ntmps17 (Nat.le_of_ble_eq_true rfl) (Inv.start hH) ?_
  refine WC.seq ?_
  refine WC.ofFr [(0, _), (1, _)] ⟨rfl, rfl, trivial⟩ ?_
  refine WC.region ?_
  refine WL.so (SO.box rfl rfl) rfl ?_
  rintro _ _ _ ⟨b2, hb2, rfl, rfl, rfl⟩ -- NEW
  refine WL.yd (Yd.assign rfl) rfl ?_
  refine WL.so (SO.alloc Try.zeroValue29 rfl) rfl ?_
  rintro _ _ _ ⟨b5, hb5, rfl, rfl, rfl⟩ -- NEW
  refine WL.nil ?_
  refine WP.thenC ?_
  refine WC.seq ?_
  refine WC.ofFr [(5, _), (4, _), (2, _), (1, _)] ⟨rfl, rfl, rfl, rfl, trivial⟩ ?_
  refine WC.region ?_
  refine WL.yd (Yd.func rfl rfl) rfl ?_
  refine WL.defer rfl ?_
  refine WL.nil ?_
  refine WP.thenC ?_
  refine WC.seq ?_
  refine WC.ofFr [(5, _), (4, _), (2, _), (1, _)] ⟨rfl, rfl, rfl, rfl, trivial⟩ ?_
  refine WC.drawD _ [(0, true), (1, true), (2, false), (3, false), (4, true)] (by kernel_rfl) (by kernel_rfl) (QuietOn.then (QuietOn.bodyD (by kernel_rfl))) (fun _ hI => hI) ?_
  refine WA.yd rfl (Yd.loadN Try.isAgg25 Try.sizeOf25 rfl (vs := [_, _, _]) rfl (by first | exact RdN.own (k := 0) (n := 3) rfl rfl | exact RdN.own (k := 1) (n := 3) rfl rfl | exact (RdN.imm (n := 4) hB rfl))) rfl ?_
  refine WA.yd rfl (Yd.move rfl) rfl ?_
  refine WA.so rfl (SO.makes (Enters.func Try.call50 rfl) (fun w hI => isPlan_g _ _ _ _ _ hI.imm)) rfl ?_
  rintro _ D1 _ ⟨hX1, ⟨bp, rfl, hD1⟩, rfl⟩
  refine ⟨fun _ hI => hI.shrink hX1.old, ?_⟩
  refine WA.no rfl (SO.fail (Enters.func Try.call49 rfl) (fun w hI => open_2 d a1 _ c1 a2 _ c2 D1 _ (hR.ext hX1) hI.imm 91 [pt bp] Try.call91 hv hlb (fun D' w' b hx hh hb => isPlan1_g d a1 a2 _ c1 _ c2 worstV b bp D' w' hb plan a3 _ c3 ((hP.ext hX1).ext hx) (hx.old _ _ hD1) ((hR.ext hX1).ext hx) hh hv)) ?_)
  refine WP.thenPanic ?_
  refine WP.panicD (k := 0) [_, _] [_, _] rfl Try.call55 rfl (fun w hI => catch55 _ _ _ _ _ (hI.own _ _ (List.mem_of_getElem? (i := 0) rfl))) Try.results17 ⟨(RV.tmp rfl), (RV.cell1 Try.isAgg29 rfl (by first | exact Rd.own (k := 0) rfl rfl | exact Rd.own (k := 1) rfl rfl)), trivial⟩ (fun w hI => ⟨congrArg Ending.returned (by simp [RightR, checkR, hv, hlb, retV]), hI.keep⟩)

set_option maxRecDepth 100000 in
set_option maxHeartbeats 1000000 in
theorem Right_ok (d : Dips) (a1 : Option Addr) (n1 c1 : Nat) (a2 : Option Addr) (n2 c2 : Nat) (D : Imm) (w : World) (hR : DipsR D d a1 n1 a2 n2) (hH : Holds D w) (plan : List Plc) (a3 : Option Addr) (n3 c3 : Nat) (hP : PlanR D plan a3 n3) (hv : dipsB d = true) (hlb : listB d plan = true) : Gives Try.prog 17 [.agg #[it d.hours, .slice a1 n1 c1, .slice a2 n2 c2], .slice a3 n3 c3] w (.tuple #[it (RightR d plan).1, it (RightR d plan).2]) := by
  unfold Gives
  obtain rfl := hR.dip.len'
  obtain rfl := hR.bath.len'
  have hl1 := hR.len1
  have hl2 := hR.len2
  obtain rfl := hP.pl.len'
  have hl3 := hP.len
  refine enterD Try.func17 rfl 37 Try.ntmps17 (Nat.le_of_ble_eq_true rfl) (Inv.start hH) ?_
  refine WC.seq ?_
  refine WC.ofFr [(0, _), (1, _)] ⟨rfl, rfl, trivial⟩ ?_
  refine WC.region ?_
  refine WL.so (SO.box rfl rfl) rfl ?_
  rintro _ _ _ ⟨b2, hb2, rfl, rfl, rfl⟩ -- NEW
  refine WL.yd (Yd.assign rfl) rfl ?_
  refine WL.so (SO.alloc Try.zeroValue29 rfl) rfl ?_
  rintro _ _ _ ⟨b5, hb5, rfl, rfl, rfl⟩ -- NEW
  refine WL.nil ?_
  refine WP.thenC ?_
  refine WC.seq ?_
  refine WC.ofFr [(5, _), (4, _), (2, _), (1, _)] ⟨rfl, rfl, rfl, rfl, trivial⟩ ?_
  refine WC.region ?_
  refine WL.yd (Yd.func rfl rfl) rfl ?_
  refine WL.defer rfl ?_
  refine WL.nil ?_
  refine WP.thenC ?_
  refine WC.seq ?_
  refine WC.ofFr [(5, _), (4, _), (2, _), (1, _)] ⟨rfl, rfl, rfl, rfl, trivial⟩ ?_
  refine WC.drawD _ [(0, true), (1, true), (2, false), (3, false), (4, true)] (by kernel_rfl) (by kernel_rfl) (QuietOn.then (QuietOn.bodyD (by kernel_rfl))) (fun _ hI => hI) ?_
  refine WA.yd rfl (Yd.loadN Try.isAgg25 Try.sizeOf25 rfl (vs := [_, _, _]) rfl (by first | exact RdN.own (k := 0) (n := 3) rfl rfl | exact RdN.own (k := 1) (n := 3) rfl rfl | exact (RdN.imm (n := 4) hB rfl))) rfl ?_
  refine WA.yd rfl (Yd.move rfl) rfl ?_
  refine WA.so rfl (SO.makes (Enters.func Try.call50 rfl) (fun w hI => isPlan_g _ _ _ _ _ hI.imm)) rfl ?_
  rintro _ D1 _ ⟨hX1, ⟨bp, rfl, hD1⟩, rfl⟩
  refine ⟨fun _ hI => hI.shrink hX1.old, ?_⟩
  refine WA.so rfl (SO.makes (Enters.func Try.call49 rfl) (fun w hI => open_ok d a1 _ c1 a2 _ c2 D1 _ (hR.ext hX1) hI.imm 91 [pt bp] Try.call91 hv hlb (fun D' w' b hx hh hb => isPlan1_g d a1 a2 _ c1 _ c2 worstV b bp D' w' hb plan a3 _ c3 ((hP.ext hX1).ext hx) (hx.old _ _ hD1) ((hR.ext hX1).ext hx) hh hv))) rfl ?_
  rintro _ D2 _ ⟨hX2, ⟨bq, rfl, hB⟩, rfl⟩
  have hX12 := hX1.trans hX2 (Nat.le_refl _)
  refine ⟨fun _ hI => hI.shrink hX12.old, ?_⟩
  refine WA.yd rfl (Yd.assign rfl) rfl ?_
  refine WA.nil ?_
  refine WP.thenC ?_
  refine WC.seq ?_
  refine WC.seq ?_
  refine WC.ofFr [(6, _), (5, _), (4, _), (1, _)] ⟨rfl, rfl, rfl, rfl, trivial⟩ ?_
  refine WC.region ?_
  refine WL.yd (Yd.move rfl) rfl ?_
  refine WL.yd (Yd.move rfl) rfl ?_
  refine WL.so (SO.callP Try.call51 rfl (fun w hI => brokenP_false d a1 _ c1 a2 _ c2 bq D2 _ hB (hR.ext hX12) hI.imm hv plan a3 _ c3 (hP.ext hX12) (plok_of hv hlb).1 (plok_of hv hlb).2)) rfl ?_
  rintro _ _ _ ⟨rfl, rfl, rfl⟩
  refine WL.yd (Yd.move rfl) rfl ?_
  refine WL.yd (Yd.extract rfl rfl) rfl ?_
  refine WL.yd (Yd.extract rfl rfl) rfl ?_
  refine WL.yd (Yd.assign rfl) rfl ?_
  refine WL.yd (Yd.assign rfl) rfl ?_
  refine WL.nil ?_
  refine WP.thenC ?_
  refine WC.seq ?_
  refine WC.ofFr [(8, _), (6, _), (5, _), (4, _), (1, _)] ⟨rfl, rfl, rfl, rfl, rfl, trivial⟩ ?_
  refine WC.region ?_
  refine WL.yd (Yd.move rfl) rfl ?_
  refine WL.yd (Yd.eql rfl rfl) rfl ?_
  refine WL.nil ?_
  refine WP.thenC ?_
  refine WC.cond rfl (fun c23 => ?_) (fun c23 => ?_)
  · try simp only [zq1, zq2, zq3, zq4, zq5, zq6, zq7, zq8] at c23
    refine WC.seq ?_
    refine WC.ofFr [(6, _), (5, _), (4, _), (1, _)] ⟨rfl, rfl, rfl, rfl, trivial⟩ ?_
    refine WC.region ?_
    refine WL.yd (Yd.assign rfl) rfl ?_
    refine WL.so (SO.store 0 rfl Try.sizeOf29 rfl rfl rfl rfl (Nat.le_of_ble_eq_true rfl) (oneB_spec rfl)) rfl ?_
    rintro _ _ _ ⟨rfl, rfl, rfl⟩
    refine WL.nil ?_
    refine WP.thenC ?_
    refine WC.ret ?_
    refine WP.thenRet ?_
    refine WP.endD [_, _] [_, _] rfl rfl Try.call55 (fun w hI => idle55 _ _) Try.results17 ⟨(RV.tmp rfl), (RV.cell1 Try.isAgg29 rfl (by first | exact Rd.own (k := 0) rfl rfl | exact Rd.own (k := 1) rfl rfl)), trivial⟩ (fun w hI => ⟨congrArg Ending.returned (by
              simp only [RightR, checkR, hv, hlb]
              first
                | (rw [firstR_fine] at c23; simp [c23, retV]; done)
                | (rw [firstR_fine] at c23; rw [firstR_fine] at c36; simp [c23, c36, retV]; done)
                | (rw [firstR_fine] at c23; rw [ne_eq, firstR_fine] at c36; simp [c23, c36, retV]; done)
                | (have h23 := mt (firstR_fine d plan false).2 c23; have h36 := (firstR_fine d plan true).1 (by omega); simp [h23, h36, retV]; done)
                | (have h23 := mt (firstR_fine d plan false).2 c23; have h36 := mt (firstR_fine d plan true).2 c36; simp [h23, h36, retV]; done)), hI.keep⟩)
  · try simp only [zq1, zq2, zq3, zq4, zq5, zq6, zq7, zq8] at c23
    refine WC.skip ?_
    refine WP.thenC ?_
    refine WC.seq ?_
    refine WC.seq ?_
    refine WC.ofFr [(6, _), (5, _), (4, _), (1, _)] ⟨rfl, rfl, rfl, rfl, trivial⟩ ?_
    refine WC.region ?_
    refine WL.yd (Yd.move rfl) rfl ?_
    refine WL.yd (Yd.nilCheck rfl) rfl ?_
    refine WL.yd (Yd.loadN Try.isAgg89 Try.sizeOf89 rfl (vs := [_, _, _, _]) rfl (by first | exact RdN.own (k := 0) (n := 4) rfl rfl | exact RdN.own (k := 1) (n := 4) rfl rfl | exact (RdN.imm (n := 4) hB rfl))) rfl ?_
    refine WL.yd (Yd.build SA84 rfl (cs := []) rfl) rfl ?_
    refine WL.yd (Yd.iface Try.underlying84 (by intro _ h; cases h) rfl) rfl ?_
    refine WL.so (SO.makes (Enters.func Try.call56 rfl) (fun w hI => in_g2 _ _ _ _ _ _ _ _ hI.imm)) rfl ?_
    rintro _ D3 _ ⟨hX3, ⟨bq2, rfl, hB2⟩, rfl⟩
    have hX13 := hX12.trans hX3 (Nat.le_refl _)
    refine WL.yd (Yd.move rfl) rfl ?_
    refine WL.so (SO.callP Try.call51 rfl (fun w hI => brokenP_true d a1 _ c1 a2 _ c2 bq2 D3 _ hB2 (hR.ext hX13) hI.imm hv plan a3 _ c3 (hP.ext hX13) (plok_of hv hlb).1 (plok_of hv hlb).2)) rfl ?_
    rintro _ _ _ ⟨rfl, rfl, rfl⟩
    refine WL.yd (Yd.move rfl) rfl ?_
    refine WL.yd (Yd.extract rfl rfl) rfl ?_
    refine WL.yd (Yd.extract rfl rfl) rfl ?_
    refine WL.yd (Yd.assign rfl) rfl ?_
    refine WL.yd (Yd.assign rfl) rfl ?_
    refine WL.nil ?_
    refine WP.thenC ?_
    refine WC.seq ?_
    refine WC.ofFr [(10, _), (5, _), (4, _)] ⟨rfl, rfl, rfl, trivial⟩ ?_
    refine WC.region ?_
    refine WL.yd (Yd.move rfl) rfl ?_
    refine WL.yd (Yd.neq rfl rfl) rfl ?_
    refine WL.nil ?_
    refine WP.thenC ?_
    refine WC.cond rfl (fun c36 => ?_) (fun c36 => ?_)
    · try simp only [zq1, zq2, zq3, zq4, zq5, zq6, zq7, zq8] at c36
      refine WC.seq ?_
      refine WC.ofFr [(5, _), (4, _)] ⟨rfl, rfl, trivial⟩ ?_
      refine WC.region ?_
      refine WL.yd (Yd.assign rfl) rfl ?_
      refine WL.so (SO.store 0 rfl Try.sizeOf29 rfl rfl rfl rfl (Nat.le_of_ble_eq_true rfl) (oneB_spec rfl)) rfl ?_
      rintro _ _ _ ⟨rfl, rfl, rfl⟩
      refine WL.nil ?_
      refine WP.thenC ?_
      refine WC.ret ?_
      refine WP.thenRet ?_
      refine WP.endD [_, _] [_, _] rfl rfl Try.call55 (fun w hI => idle55 _ _) Try.results17 ⟨(RV.tmp rfl), (RV.cell1 Try.isAgg29 rfl (by first | exact Rd.own (k := 0) rfl rfl | exact Rd.own (k := 1) rfl rfl)), trivial⟩ (fun w hI => ⟨congrArg Ending.returned (by
                simp only [RightR, checkR, hv, hlb]
                first
                  | (rw [firstR_fine] at c23; simp [c23, retV]; done)
                  | (rw [firstR_fine] at c23; rw [firstR_fine] at c36; simp [c23, c36, retV]; done)
                  | (rw [firstR_fine] at c23; rw [ne_eq, firstR_fine] at c36; simp [c23, c36, retV]; done)
                  | (have h23 := mt (firstR_fine d plan false).2 c23; have h36 := (firstR_fine d plan true).1 (by omega); simp [h23, h36, retV]; done)
                  | (have h23 := mt (firstR_fine d plan false).2 c23; have h36 := mt (firstR_fine d plan true).2 c36; simp [h23, h36, retV]; done)), hI.keep⟩)
    · try simp only [zq1, zq2, zq3, zq4, zq5, zq6, zq7, zq8] at c36
      refine WC.skip ?_
      refine WP.thenC ?_
      refine WC.seq ?_
      refine WC.ofFr [(5, _), (4, _)] ⟨rfl, rfl, trivial⟩ ?_
      refine WC.region ?_
      refine WL.yd (Yd.assign rfl) rfl ?_
      refine WL.so (SO.store 0 rfl Try.sizeOf29 rfl rfl rfl rfl (Nat.le_of_ble_eq_true rfl) (oneB_spec rfl)) rfl ?_
      rintro _ _ _ ⟨rfl, rfl, rfl⟩
      refine WL.nil ?_
      refine WP.thenC ?_
      refine WC.ret ?_
      refine WP.endD [_, _] [_, _] rfl rfl Try.call55 (fun w hI => idle55 _ _) Try.results17 ⟨(RV.tmp rfl), (RV.cell1 Try.isAgg29 rfl (by first | exact Rd.own (k := 0) rfl rfl | exact Rd.own (k := 1) rfl rfl)), trivial⟩ (fun w hI => ⟨congrArg Ending.returned (by
                simp only [RightR, checkR, hv, hlb]
                first
                  | (rw [firstR_fine] at c23; simp [c23, retV]; done)
                  | (rw [firstR_fine] at c23; rw [firstR_fine] at c36; simp [c23, c36, retV]; done)
                  | (rw [firstR_fine] at c23; rw [ne_eq, firstR_fine] at c36; simp [c23, c36, retV]; done)
                  | (have h23 := mt (firstR_fine d plan false).2 c23; have h36 := (firstR_fine d plan true).1 (by omega); simp [h23, h36, retV]; done)
                  | (have h23 := mt (firstR_fine d plan false).2 c23; have h36 := mt (firstR_fine d plan true).2 c36; simp [h23, h36, retV]; done)), hI.keep⟩)

end Go.Proofs.Ytidjdonppfegiaa
namespace Go.Proofs.Ytidjdonppfegiaa
open Go.W Go.Dp

/-- the dippers who are there in an hour, of the first k -/
def presTo (d : Dips) (hour : Int) : Nat → List Dipper
  | 0 => []
  | k + 1 => if bitN (gt d.dippers k).hours hour = 1 then presTo d hour k ++ [gt d.dippers k] else presTo d hour k
theorem presTo_len (d : Dips) (hour : Int) : ∀ k, (presTo d hour k).length ≤ k := by
  intro k; induction k with
  | zero => simp [presTo]
  | succ k ih =>
    simp only [presTo]
    split
    · rw [List.length_append, List.length_singleton]; omega
    · omega
def los (l : List Dipper) : List Value := l.map fun x => it x.hands.lo
def his (l : List Dipper) : List Value := l.map fun x => it x.hands.hi
theorem los_snoc (l : List Dipper) (x : Dipper) : los (l ++ [x]) = los l ++ [it x.hands.lo] := by simp [los]
theorem his_snoc (l : List Dipper) (x : Dipper) : his (l ++ [x]) = his l ++ [it x.hands.hi] := by simp [his]
theorem sumTo_append (l m : List Int) : ∀ k, k ≤ l.length → sumTo (l ++ m) k = sumTo l k := by
  intro k
  induction k with
  | zero => intro _; rfl
  | succ k ih => intro hk; simp only [sumTo]; rw [ih (by omega)]; simp [gt, List.getD, List.getElem?_append_left (show k < l.length by omega)]
theorem sumTo_snoc (l : List Int) (x : Int) : sumTo (l ++ [x]) (l ++ [x]).length = sumTo l l.length + x := by
  rw [List.length_append, List.length_singleton]
  show sumTo (l ++ [x]) (l.length + 1) = _
  simp only [sumTo]
  rw [sumTo_append l [x] _ (Nat.le_refl _)]
  simp [gt, List.getD]
theorem sum_pres {d : Dips} (hv : dipsB d = true) (hour : Int) (h0 : 0 ≤ hour) (h1 : hour ≤ 60) : ∀ k, k ≤ d.dippers.length →
    sumTo ((presTo d hour k).map (·.hands.lo)) ((presTo d hour k).map (·.hands.lo)).length = (handsR d hour k).lo ∧ sumTo ((presTo d hour k).map (·.hands.hi)) ((presTo d hour k).map (·.hands.hi)).length = (handsR d hour k).hi := by
  intro k
  induction k with
  | zero => intro _; exact ⟨rfl, rfl⟩
  | succ k ih =>
    intro hk
    have h2 := ih (by omega)
    have h3 := (dips_num hv).2.2.2.1 k (by omega)
    simp only [presTo, handsR]
    rw [bit_has (by omega) h0 h1]
    by_cases hb : bitN (gt d.dippers k).hours hour = 1
    · rw [if_pos hb, if_pos (by rw [decide_eq_true_eq]; exact hb), List.map_append, List.map_append, List.map_singleton, List.map_singleton, sumTo_snoc, sumTo_snoc, h2.1, h2.2]; exact ⟨rfl, rfl⟩
    · rw [if_neg hb, if_neg (by rw [decide_eq_true_eq]; exact hb)]; exact h2
theorem pres_mem {d : Dips} (hour : Int) : ∀ k, k ≤ d.dippers.length → ∀ x ∈ presTo d hour k, ∃ i, i < d.dippers.length ∧ x = gt d.dippers i := by
  intro k
  induction k with
  | zero => intro _ x hx; cases hx
  | succ k ih =>
    intro hk x hx
    simp only [presTo] at hx
    split at hx
    · rcases List.mem_append.1 hx with h | h
      · exact ih (by omega) x h
      · exact ⟨k, by omega, by simpa using h⟩
    · exact ih (by omega) x hx
/-- a slice of one's own of integers, summed -/
theorem sumOw_g (l : List Int) (xs : List Value) (n : Nat) (o : Option Ow) (t : TypeId) (w : World) (hnl : l.length = n) (hxs : xs = l.map it) (hn : n ≤ 1000) (hnum : ∀ x ∈ l, 0 ≤ x ∧ x ≤ 1000) (ho : o = none → n = 0) (hb : ∀ u, o = some u → w.heap[u.b]? = some (.cells (List.toArray (xs ++ u.rest)) t (0, 0))) :
    Gives Try.prog 63 [owV o n] w (it (sumTo l l.length)) := by
  subst hnl
  subst hxs
  have hm : ∀ l : List Int, l.flatMap intC = l.map it := by
    intro l; induction l with
    | nil => rfl
    | cons x l ih => simp [intC, List.flatMap_cons, ih]
  cases o with
  | none =>
    have : l = [] := List.length_eq_zero_iff.1 (ho rfl)
    subst this
    exact sum_g [] none 0 0 (fun _ => none) w ⟨⟨rfl, fun i r hr => by simp at hr⟩, by omega, fun i hi => by simp at hi⟩ (by intro _ _ h; cases h)
  | some u =>
    have h1 := hb u rfl
    rw [← hm] at h1
    exact sum_g l (some ⟨u.b, 0, none⟩) l.length u.cap _ w ⟨slL_one (cap := 0) (w := w) l h1, hn, fun i hi => hnum _ (gt_mem hi)⟩ (Holds.one h1)

theorem nodup32 {a b c : Nat} (h : [a, b, c].Nodup) : [a, b].Nodup := by simp only [List.nodup_cons, List.mem_cons, not_or] at h ⊢; simp_all
set_option maxRecDepth 100000 in
set_option maxHeartbeats 1000000 in
theorem hour_g (d : Dips) (s1 s2 t : Value) (q bx : Nat) (hour : Int) (D : Imm) (w : World) (hB : BeachAt D q d s1 s2 t) (hX : D bx = some (.cells (List.toArray [it hour]) 3 (0, 0))) (hH : Holds D w) (hv : dipsB d = true) : Gives Try.prog 59 [pt q, pt bx] w (.bool (hourB d hour)) := by
  unfold Gives
  refine enter Try.func59 rfl 7 Try.ntmps59 (Nat.le_of_ble_eq_true rfl) (Inv.start hH) ?_
  refine WC.seq ?_
  refine WC.ofFr [(0, _), (1, _)] ⟨rfl, rfl, trivial⟩ ?_
  refine WC.region ?_
  refine WL.yd (Yd.assign rfl) rfl ?_
  refine WL.nil ?_
  refine WP.thenC ?_
  refine WC.seq ?_
  refine WC.ofFr [(3, _), (0, _), (1, _)] ⟨rfl, rfl, rfl, trivial⟩ ?_
  refine WC.region ?_
  refine WL.yd (Yd.move rfl) rfl ?_
  refine WL.yd (Yd.load1 Try.isAgg3 rfl (by first | exact (Rd.imm hX rfl))) rfl ?_
  refine WL.so (SO.callP Try.call60 rfl (fun w hI => isHour_g d _ _ _ q D _ hB hI.imm _ (dips_num hv).1)) rfl ?_
  rintro _ _ _ ⟨rfl, rfl, rfl⟩
  refine WL.yd (Yd.assign rfl) rfl ?_
  refine WL.nil ?_
  refine WP.thenC ?_
  refine WC.ret ?_
  refine WP.ret1 rfl rfl Try.results59 (RV.tmp rfl) (fun w hI => ⟨by rw [hourB, wrap_hours hv], hI.keep⟩)

set_option maxRecDepth 100000 in
set_option maxHeartbeats 1000000 in
theorem Hands_1 (d : Dips) (a1 : Option Addr) (n1 c1 : Nat) (a2 : Option Addr) (n2 c2 : Nat) (D : Imm) (w : World) (hR : DipsR D d a1 n1 a2 n2) (hH : Holds D w) (hour : Int) (hv : dipsB d = false) : Gives Try.prog 19 [.agg #[it d.hours, .slice a1 n1 c1, .slice a2 n2 c2], it hour] w (.tuple #[.agg #[it (HandsR d hour).1.lo, it (HandsR d hour).1.hi], it (HandsR d hour).2]) := by
  unfold Gives
  obtain rfl := hR.dip.len'
  obtain rfl := hR.bath.len'
  have hl1 := hR.len1
  have hl2 := hR.len2
  refine enterD Try.func19 rfl 51 Try.ntmps19 (Nat.le_of_ble_eq_true rfl) (Inv.start hH) ?_
  refine WC.seq ?_
  refine WC.ofFr [(0, _), (1, _)] ⟨rfl, rfl, trivial⟩ ?_
  refine WC.region ?_
  refine WL.so (SO.box rfl rfl) rfl ?_
  rintro _ _ _ ⟨b2, hb2, rfl, rfl, rfl⟩ -- NEW
  refine WL.so (SO.box rfl rfl) rfl ?_
  rintro _ _ _ ⟨b3, hb3, rfl, rfl, rfl⟩ -- NEW
  refine WL.so (SO.alloc Try.zeroValue35 rfl) rfl ?_
  rintro _ _ _ ⟨b4, hb4, rfl, rfl, rfl⟩ -- NEW
  refine WL.so (SO.alloc Try.zeroValue29 rfl) rfl ?_
  rintro _ _ _ ⟨b5, hb5, rfl, rfl, rfl⟩ -- NEW
  refine WL.nil ?_
  refine WP.thenC ?_
  refine WC.seq ?_
  refine WC.ofFr [(5, _), (4, _), (3, _), (2, _)] ⟨rfl, rfl, rfl, rfl, trivial⟩ ?_
  refine WC.region ?_
  refine WL.yd (Yd.func rfl rfl) rfl ?_
  refine WL.defer rfl ?_
  refine WL.nil ?_
  refine WP.thenC ?_
  refine WC.seq ?_
  refine WC.ofFr [(5, _), (4, _), (3, _), (2, _)] ⟨rfl, rfl, rfl, rfl, trivial⟩ ?_
  refine WC.region ?_
  refine WL.yd (Yd.loadN Try.isAgg25 Try.sizeOf25 rfl (vs := [_, _, _]) rfl (by first | exact RdN.own (k := 0) (n := 3) rfl rfl | exact RdN.own (k := 1) (n := 3) rfl rfl | exact RdN.own (k := 2) (n := 3) rfl rfl | exact RdN.own (k := 3) (n := 3) rfl rfl | exact (hR2.dip.at k (by omega)).rdn 0 3 rfl)) rfl ?_
  refine WL.yd (Yd.func rfl rfl) rfl ?_
  refine WL.freezeK 2 rfl (fun hn3 => ?_)
  have hF3 := fun o => (DExt.refl w D).add (o := o) hn3 hb3
  refine WL.no (SO.fail (Enters.func Try.call49 rfl) (fun w hI => open_1 d a1 _ c1 a2 _ c2 _ _ (hR.ext (hF3 _)) hI.imm 59 [pt b3] Try.call59 hv) ?_)
  refine WP.thenPanic ?_
  refine WP.panicD (k := 0) [_, _] [_, _] rfl Try.call58 rfl (fun w hI => catch58 _ _ _ _ _ (hI.own _ _ (List.mem_of_getElem? (i := 0) rfl))) Try.results19 ⟨(RV.cellN Try.isAgg35 Try.sizeOf35 rfl (vs := [_, _]) rfl (by first | exact RdN.own (k := 0) (n := 2) rfl rfl | exact RdN.own (k := 1) (n := 2) rfl rfl | exact RdN.own (k := 2) (n := 2) rfl rfl | exact (hR2.dip.at k (by omega)).rdn 0 3 rfl)), (RV.cell1 Try.isAgg29 rfl (by first | exact Rd.own (k := 0) rfl rfl | exact Rd.own (k := 1) rfl rfl | exact Rd.own (k := 2) rfl rfl | exact (Rd.imm hB rfl) | exact (Rd.imm hb3D rfl))), trivial⟩ (fun w hI => ⟨congrArg Ending.returned (by simp [HandsR, checkR, hv, retV]), hI.keep⟩)

set_option maxRecDepth 100000 in
set_option maxHeartbeats 1000000 in
theorem Hands_2 (d : Dips) (a1 : Option Addr) (n1 c1 : Nat) (a2 : Option Addr) (n2 c2 : Nat) (D : Imm) (w : World) (hR : DipsR D d a1 n1 a2 n2) (hH : Holds D w) (hour : Int) (hv : dipsB d = true) (hlb : hourB d hour = false) : Gives Try.prog 19 [.agg #[it d.hours, .slice a1 n1 c1, .slice a2 n2 c2], it hour] w (.tuple #[.agg #[it (HandsR d hour).1.lo, it (HandsR d hour).1.hi], it (HandsR d hour).2]) := by
  unfold Gives
  obtain rfl := hR.dip.len'
  obtain rfl := hR.bath.len'
  have hl1 := hR.len1
  have hl2 := hR.len2
  refine enterD Try.func19 rfl 51 Try.ntmps19 (Nat.le_of_ble_eq_true rfl) (Inv.start hH) ?_
  refine WC.seq ?_
  refine WC.ofFr [(0, _), (1, _)] ⟨rfl, rfl, trivial⟩ ?_
  refine WC.region ?_
  refine WL.so (SO.box rfl rfl) rfl ?_
  rintro _ _ _ ⟨b2, hb2, rfl, rfl, rfl⟩ -- NEW
  refine WL.so (SO.box rfl rfl) rfl ?_
  rintro _ _ _ ⟨b3, hb3, rfl, rfl, rfl⟩ -- NEW
  refine WL.so (SO.alloc Try.zeroValue35 rfl) rfl ?_
  rintro _ _ _ ⟨b4, hb4, rfl, rfl, rfl⟩ -- NEW
  refine WL.so (SO.alloc Try.zeroValue29 rfl) rfl ?_
  rintro _ _ _ ⟨b5, hb5, rfl, rfl, rfl⟩ -- NEW
  refine WL.nil ?_
  refine WP.thenC ?_
  refine WC.seq ?_
  refine WC.ofFr [(5, _), (4, _), (3, _), (2, _)] ⟨rfl, rfl, rfl, rfl, trivial⟩ ?_
  refine WC.region ?_
  refine WL.yd (Yd.func rfl rfl) rfl ?_
  refine WL.defer rfl ?_
  refine WL.nil ?_
  refine WP.thenC ?_
  refine WC.seq ?_
  refine WC.ofFr [(5, _), (4, _), (3, _), (2, _)] ⟨rfl, rfl, rfl, rfl, trivial⟩ ?_
  refine WC.region ?_
  refine WL.yd (Yd.loadN Try.isAgg25 Try.sizeOf25 rfl (vs := [_, _, _]) rfl (by first | exact RdN.own (k := 0) (n := 3) rfl rfl | exact RdN.own (k := 1) (n := 3) rfl rfl | exact RdN.own (k := 2) (n := 3) rfl rfl | exact RdN.own (k := 3) (n := 3) rfl rfl | exact (hR2.dip.at k (by omega)).rdn 0 3 rfl)) rfl ?_
  refine WL.yd (Yd.func rfl rfl) rfl ?_
  refine WL.freezeK 2 rfl (fun hn3 => ?_)
  have hF3 := fun o => (DExt.refl w D).add (o := o) hn3 hb3
  refine WL.no (SO.fail (Enters.func Try.call49 rfl) (fun w hI => open_2 d a1 _ c1 a2 _ c2 _ _ (hR.ext (hF3 _)) hI.imm 59 [pt b3] Try.call59 hv hlb (fun D' w' b hx hh hb => hour_g d _ _ _ b b3 hour D' w' hb (hx.old _ _ (Imm.add_self _ _ _)) hh hv)) ?_)
  refine WP.thenPanic ?_
  refine WP.panicD (k := 0) [_, _] [_, _] rfl Try.call58 rfl (fun w hI => catch58 _ _ _ _ _ (hI.own _ _ (List.mem_of_getElem? (i := 0) rfl))) Try.results19 ⟨(RV.cellN Try.isAgg35 Try.sizeOf35 rfl (vs := [_, _]) rfl (by first | exact RdN.own (k := 0) (n := 2) rfl rfl | exact RdN.own (k := 1) (n := 2) rfl rfl | exact RdN.own (k := 2) (n := 2) rfl rfl | exact (hR2.dip.at k (by omega)).rdn 0 3 rfl)), (RV.cell1 Try.isAgg29 rfl (by first | exact Rd.own (k := 0) rfl rfl | exact Rd.own (k := 1) rfl rfl | exact Rd.own (k := 2) rfl rfl | exact (Rd.imm hB rfl) | exact (Rd.imm hb3D rfl))), trivial⟩ (fun w hI => ⟨congrArg Ending.returned (by simp [HandsR, checkR, hv, hlb, retV]), hI.keep⟩)

set_option maxRecDepth 100000 in
set_option maxHeartbeats 1000000 in
theorem Hands_ok (d : Dips) (a1 : Option Addr) (n1 c1 : Nat) (a2 : Option Addr) (n2 c2 : Nat) (D : Imm) (w : World) (hR : DipsR D d a1 n1 a2 n2) (hH : Holds D w) (hour : Int) (hv : dipsB d = true) (hlb : hourB d hour = true) : Gives Try.prog 19 [.agg #[it d.hours, .slice a1 n1 c1, .slice a2 n2 c2], it hour] w (.tuple #[.agg #[it (HandsR d hour).1.lo, it (HandsR d hour).1.hi], it (HandsR d hour).2]) := by
  unfold Gives
  obtain rfl := hR.dip.len'
  obtain rfl := hR.bath.len'
  have hl1 := hR.len1
  have hl2 := hR.len2
  obtain ⟨hh, hd1, hd2, hdn, hbn⟩ := dips_num hv
  have hho := hlb
  simp only [hourB, inB, wrap_hours hv, decide_eq_true_eq] at hho
  have hsp := sum_pres hv hour (by omega) (by omega) d.dippers.length (Nat.le_refl _)
  refine enterD Try.func19 rfl 51 Try.ntmps19 (Nat.le_of_ble_eq_true rfl) (Inv.start hH) ?_
  refine WC.seq ?_
  refine WC.ofFr [(0, _), (1, _)] ⟨rfl, rfl, trivial⟩ ?_
  refine WC.region ?_
  refine WL.so (SO.box rfl rfl) rfl ?_
  rintro _ _ _ ⟨b2, hb2, rfl, rfl, rfl⟩ -- NEW
  refine WL.so (SO.box rfl rfl) rfl ?_
  rintro _ _ _ ⟨b3, hb3, rfl, rfl, rfl⟩ -- NEW
  refine WL.so (SO.alloc Try.zeroValue35 rfl) rfl ?_
  rintro _ _ _ ⟨b4, hb4, rfl, rfl, rfl⟩ -- NEW
  refine WL.so (SO.alloc Try.zeroValue29 rfl) rfl ?_
  rintro _ _ _ ⟨b5, hb5, rfl, rfl, rfl⟩ -- NEW
  refine WL.nil ?_
  refine WP.thenC ?_
  refine WC.seq ?_
  refine WC.ofFr [(5, _), (4, _), (3, _), (2, _)] ⟨rfl, rfl, rfl, rfl, trivial⟩ ?_
  refine WC.region ?_
  refine WL.yd (Yd.func rfl rfl) rfl ?_
  refine WL.defer rfl ?_
  refine WL.nil ?_
  refine WP.thenC ?_
  refine WC.seq ?_
  refine WC.ofFr [(5, _), (4, _), (3, _), (2, _)] ⟨rfl, rfl, rfl, rfl, trivial⟩ ?_
  refine WC.region ?_
  refine WL.yd (Yd.loadN Try.isAgg25 Try.sizeOf25 rfl (vs := [_, _, _]) rfl (by first | exact RdN.own (k := 0) (n := 3) rfl rfl | exact RdN.own (k := 1) (n := 3) rfl rfl | exact RdN.own (k := 2) (n := 3) rfl rfl | exact RdN.own (k := 3) (n := 3) rfl rfl | exact (hR2.dip.at k (by omega)).rdn 0 3 rfl)) rfl ?_
  refine WL.yd (Yd.func rfl rfl) rfl ?_
  refine WL.freezeK 2 rfl (fun hn3 => ?_)
  have hF3 := fun o => (DExt.refl w D).add (o := o) hn3 hb3
  refine WL.so (SO.makes (Enters.func Try.call49 rfl) (fun w hI => open_ok d a1 _ c1 a2 _ c2 _ _ (hR.ext (hF3 _)) hI.imm 59 [pt b3] Try.call59 hv hlb (fun D' w' b hx hh hb => hour_g d _ _ _ b b3 hour D' w' hb (hx.old _ _ (Imm.add_self _ _ _)) hh hv))) rfl ?_
  rintro _ D2 _ ⟨hX2, ⟨bq, rfl, hB⟩, rfl⟩
  have hX12 := (hF3 _).trans hX2 (Nat.le_refl _)
  have hb3D := hX2.old _ _ (Imm.add_self D b3 _)
  have hR2 := hR.ext hX12
  refine WL.yd (Yd.assign rfl) rfl ?_
  refine WL.nil ?_
  refine WP.thenC ?_
  refine WC.seq ?_
  refine WC.ofFr [(6, _), (5, _), (4, _), (3, _)] ⟨rfl, rfl, rfl, rfl, trivial⟩ ?_
  refine WC.region ?_
  refine WL.yd (Yd.assign rfl) rfl ?_
  refine WL.yd (Yd.assign rfl) rfl ?_
  refine WL.nil ?_
  refine WP.thenC ?_
  refine WC.seq ?_
  refine WC.seq ?_
  refine WC.ofFr [(8, _), (7, _), (6, _), (5, _), (4, _), (3, _)] ⟨rfl, rfl, rfl, rfl, rfl, rfl, trivial⟩ ?_
  refine WC.region ?_
  refine WL.yd (Yd.move rfl) rfl ?_
  refine WL.yd (Yd.nilCheck rfl) rfl ?_
  refine WL.yd (Yd.fieldAddr FA89_0 rfl) rfl ?_
  refine WL.yd (Yd.fieldAddr FA25_1 rfl) rfl ?_
  refine WL.yd (Yd.load1 Try.isAgg22 rfl (by first | exact Rd.own (k := 0) rfl rfl | exact Rd.own (k := 1) rfl rfl | exact Rd.own (k := 2) rfl rfl | exact (Rd.imm hB rfl) | exact (Rd.imm hb3D rfl))) rfl ?_
  refine WL.yd (Yd.lenS rfl Try.underlying22 rfl) rfl ?_
  refine WL.yd (Yd.move rfl) rfl ?_
  refine WL.nil ?_
  refine WP.thenC ?_
  refine WC.block ?_
  refine WC.loop (fun (y : Nat × Option Ow × Option Ow) => [(3, pt b3), (4, pt b4), (5, pt b5), (7, owV y.2.1 (presTo d hour y.1).length), (8, owV y.2.2 (presTo d hour y.1).length), (19, .slice a1 d.dippers.length c1), (20, nt d.dippers.length), (21, nt y.1)]) (fun y => [(b5, .cells (List.toArray [it 0]) 29 (0, 0)), (b4, .cells (List.toArray [it 0, it 0]) 35 (0, 0))] ++ owH y.2.1 3 (los (presTo d hour y.1)) (owH y.2.2 3 (his (presTo d hour y.1)) [])) (fun _ => D2) (fun y => y.1 ≤ d.dippers.length ∧ owP w y.2.1 (presTo d hour y.1).length 1 ∧ owP w y.2.2 (presTo d hour y.1).length 1) (fun y => d.dippers.length - y.1) (0, none, none) ⟨by omega, rfl, rfl⟩ (fun a w h => at_less h ⟨rfl, rfl, rfl, rfl, rfl, rfl, rfl, rfl, trivial⟩ (fun _ h => List.mem_append_left [_] h) (fun h => by exact nodup32 h)) ?_
  rintro ⟨k, o1, o2⟩ ⟨hk, ho1, ho2⟩
  simp only at hk ho1 ho2
  have hpl := presTo_len d hour k
  refine WC.seq ?_
  refine WC.ofFr [(3, _), (4, _), (5, _), (7, _), (8, _), (19, _), (20, _), (21, _)] ⟨rfl, rfl, rfl, rfl, rfl, rfl, rfl, rfl, trivial⟩ ?_
  refine WC.region ?_
  refine WL.yd (Yd.lss rfl rfl) rfl ?_
  refine WL.nil ?_
  refine WP.thenC ?_
  refine WC.seq ?_
  refine WC.cond rfl (fun c22 => ?_) (fun c22 => ?_)
  · try simp only [zq1, zq2, zq3, zq4, zq5, zq6, zq7, zq8] at c22
    have hbk := hdn k (by omega)
    refine WC.skip ?_
    refine WP.thenC ?_
    refine WC.seq ?_
    refine WC.block ?_
    refine WC.seq ?_
    refine WC.ofFr [(3, _), (4, _), (5, _), (7, _), (8, _), (19, _), (20, _), (21, _)] ⟨rfl, rfl, rfl, rfl, rfl, rfl, rfl, rfl, trivial⟩ ?_
    refine WC.region ?_
    refine WL.yd (Yd.indexS Try.underlying22 Try.sizeOf53 rfl rfl (by omega) (by omega) (by first | exact hR2.dip.addr k (by omega))) rfl ?_
    refine WL.yd (Yd.loadN Try.isAgg53 Try.sizeOf53 rfl (vs := [_, _, _]) rfl (by first | exact RdN.own (k := 0) (n := 3) rfl rfl | exact RdN.own (k := 1) (n := 3) rfl rfl | exact (hR2.dip.at k (by omega)).rdn 0 3 rfl)) rfl ?_
    refine WL.so (SO.alloc Try.zeroValue53 rfl) rfl ?_
    rintro _ _ _ ⟨b10, hb10, rfl, rfl, rfl⟩ -- NEW
    refine WL.so (SO.store 0 rfl Try.sizeOf53 rfl rfl rfl rfl (Nat.le_of_ble_eq_true rfl) (oneB_spec rfl)) rfl ?_
    rintro _ _ _ ⟨rfl, rfl, rfl⟩
    refine WL.nil ?_
    refine WP.thenC ?_
    refine WC.seq ?_
    refine WC.ofFr [(10, _), (3, _), (4, _), (5, _), (7, _), (8, _), (19, _), (20, _), (21, _)] ⟨rfl, rfl, rfl, rfl, rfl, rfl, rfl, rfl, rfl, trivial⟩ ?_
    refine WC.region ?_
    refine WL.yd (Yd.fieldAddr FA53_1 rfl) rfl ?_
    refine WL.yd (Yd.load1 Try.isAgg3 rfl (by first | exact Rd.own (k := 0) rfl rfl | exact Rd.own (k := 1) rfl rfl | exact Rd.own (k := 2) rfl rfl | exact (Rd.imm hB rfl) | exact (Rd.imm hb3D rfl))) rfl ?_
    refine WL.yd (Yd.load1 Try.isAgg3 rfl (by first | exact Rd.own (k := 0) rfl rfl | exact Rd.own (k := 1) rfl rfl | exact Rd.own (k := 2) rfl rfl | exact (Rd.imm hB rfl) | exact (Rd.imm hb3D rfl))) rfl ?_
    refine WL.yd (Yd.shr rfl rfl (by omega)) rfl ?_
    refine WL.yd (Yd.and1 rfl rfl) rfl ?_
    refine WL.yd (Yd.eql rfl rfl) rfl ?_
    refine WL.nil ?_
    refine WP.thenC ?_
    refine WC.cond rfl (fun c30 => ?_) (fun c30 => ?_)
    · try simp only [zq1, zq2, zq3, zq4, zq5, zq6, zq7, zq8] at c30
      have hbit : bitN (gt d.dippers k).hours hour = 1 := c30
      refine WC.ofFr [(10, _), (3, _), (4, _), (5, _), (7, _), (8, _), (19, _), (20, _), (21, _)] ⟨rfl, rfl, rfl, rfl, rfl, rfl, rfl, rfl, rfl, trivial⟩ ?_
      refine WC.drawD _ [(0, true), (1, true), (2, true), (3, true), (7, true), (8, true), (9, true), (10, true), (4, false), (5, false), (6, false), (11, false), (12, false), (13, false), (14, true), (15, true)] (by kernel_rfl) (by kernel_rfl) (QuietOn.blk (QuietOn.then (QuietOn.then (QuietOn.blk (QuietOn.then (QuietOn.bodyD (by kernel_rfl))))))) (fun w hI => Inv.left (l1 := [_, _, _]) hI) ?_
      refine WA.yd rfl (Yd.move rfl) rfl ?_
      refine WA.yd rfl (Yd.build SA82 rfl (cs := []) rfl) rfl ?_
      refine WA.yd rfl (Yd.fieldAddr FA53_0 rfl) rfl ?_
      refine WA.yd rfl (Yd.loadN Try.isAgg35 Try.sizeOf35 rfl (vs := [_, _]) rfl (by first | exact RdN.own (k := 0) (n := 2) rfl rfl | exact RdN.own (k := 1) (n := 2) rfl rfl | exact RdN.own (k := 2) (n := 2) rfl rfl | exact (hR2.dip.at k (by omega)).rdn 0 3 rfl)) rfl ?_
      refine WA.yd rfl (Yd.move rfl) rfl ?_
      refine WA.yd rfl (Yd.build SA84 rfl (cs := []) rfl) rfl ?_
      refine WA.yd rfl (Yd.fieldAddr FA53_0 rfl) rfl ?_
      refine WA.yd rfl (Yd.loadN Try.isAgg35 Try.sizeOf35 rfl (vs := [_, _]) rfl (by first | exact RdN.own (k := 0) (n := 2) rfl rfl | exact RdN.own (k := 1) (n := 2) rfl rfl | exact RdN.own (k := 2) (n := 2) rfl rfl | exact (hR2.dip.at k (by omega)).rdn 0 3 rfl)) rfl ?_
      refine WA.so rfl (SO.callP Try.call61 rfl (fun w hI => worstHas_g (gt d.dippers k).hands _)) rfl ?_
      rintro _ _ _ ⟨rfl, rfl, rfl⟩
      refine ⟨fun _ hI => Inv.left (l1 := [_, _, _]) hI, ?_⟩
      refine WA.so rfl (SO.buildSlice Try.underlying51 Try.sizeOf3 Try.zeroValue3 rfl rfl rfl rfl (cs := [_]) rfl) rfl ?_
      rintro _ _ _ ⟨b36, hb36, rfl, rfl, rfl⟩ -- NEW
      refine ⟨fun _ hI => Inv.left (l1 := [_, _, _]) hI.tail, ?_⟩
      refine WA.so rfl (SO.appendOw (o := o1) (len := (presTo d hour k).length) (n := 1) (xs := los (presTo d hour k)) (size := 1) [_] [_, _, _] (owH o2 3 (his (presTo d hour k)) []) rfl rfl Try.underlying51 Try.sizeOf3 Try.typeInfo3 Try.zeroValue3 rfl rfl rfl rfl ⟨rfl, .inr ⟨_, _, _, rfl, RdN.own (k := 0) (n := 1) rfl rfl⟩⟩ (oneB_spec rfl) ho1 (by simp [los]) (by omega) (by show (2 * (_ + _) + 1000) * 8 ≤ 2 ^ 48; omega) (by omega)) rfl ?_
      rintro _ _ _ ⟨u1, hu1, rfl, rfl, rfl⟩
      refine ⟨fun _ hI => Inv.left (l1 := [_, _, _]) hI, ?_⟩
      refine WA.so rfl (SO.callP Try.call62 rfl (fun w hI => bestHas_g (gt d.dippers k).hands _ (by omega))) rfl ?_
      rintro _ _ _ ⟨rfl, rfl, rfl⟩
      refine ⟨fun _ hI => Inv.left (l1 := [_, _, _]) hI, ?_⟩
      refine WA.so rfl (SO.buildSlice Try.underlying51 Try.sizeOf3 Try.zeroValue3 rfl rfl rfl rfl (cs := [_]) rfl) rfl ?_
      rintro _ _ _ ⟨b43, hb43, rfl, rfl, rfl⟩ -- NEW
      refine ⟨fun _ hI => Inv.left (l1 := [_, _, _]) hI.tail, ?_⟩
      refine WA.so rfl (SO.appendOw (o := o2) (len := (presTo d hour k).length) (n := 1) (xs := his (presTo d hour k)) (size := 1) [_] [_, _, _, _] [] rfl rfl Try.underlying51 Try.sizeOf3 Try.typeInfo3 Try.zeroValue3 rfl rfl rfl rfl ⟨rfl, .inr ⟨_, _, _, rfl, RdN.own (k := 0) (n := 1) rfl rfl⟩⟩ (oneB_spec rfl) ho2 (by simp [his]) (by omega) (by show (2 * (_ + _) + 1000) * 8 ≤ 2 ^ 48; omega) (by omega)) rfl ?_
      rintro _ _ _ ⟨u2, hu2, rfl, rfl, rfl⟩
      refine ⟨fun _ hI => Inv.left (l1 := [_, _, _]) hI, ?_⟩
      refine WA.yd rfl (Yd.assign rfl) rfl ?_
      refine WA.yd rfl (Yd.assign rfl) rfl ?_
      refine WA.nil ?_
      refine WP.blkNormal ?_
      refine WP.thenC ?_
      refine WC.ofFr [(8, _), (7, _), (3, _), (4, _), (5, _), (19, _), (20, _), (21, _)] ⟨rfl, rfl, rfl, rfl, rfl, rfl, rfl, rfl, trivial⟩ ?_
      refine WC.region ?_
      refine WL.yd (Yd.add rfl rfl (wr64 ⟨by omega, by omega⟩)) rfl ?_
      refine WL.yd (Yd.move rfl) rfl ?_
      refine WL.nil ?_
      first
        | (have hp1 : presTo d hour (k + 1) = presTo d hour k ++ [gt d.dippers k] := if_pos hbit
           have hp2 : (presTo d hour (k + 1)).length = (presTo d hour k).length + 1 := by rw [hp1, List.length_append, List.length_singleton]
           refine WP.again (⟨k + 1, some u1, some u2⟩ : Nat × Option Ow × Option Ow) ⟨by simp only; omega, by simp only; rw [hp2]; exact hu1, by simp only; rw [hp2]; exact hu2⟩ (by simp only; omega) (fun a w h => ?_)
           show At _ [(3, pt b3), (4, pt b4), (5, pt b5), (7, owV (some u1) (presTo d hour (k + 1)).length), (8, owV (some u2) (presTo d hour (k + 1)).length), (19, .slice a1 d.dippers.length c1), (20, nt d.dippers.length), (21, nt (k + 1))] D2 ([(b5, .cells (List.toArray [it 0]) 29 (0, 0)), (b4, .cells (List.toArray [it 0, it 0]) 35 (0, 0))] ++ owH (some u1) 3 (los (presTo d hour (k + 1))) (owH (some u2) 3 (his (presTo d hour (k + 1))) [])) a w
           rw [hp2, hp1, los_snoc, his_snoc]
           exact at_less h ⟨rfl, rfl, rfl, rfl, rfl, rfl, rfl, rfl, trivial⟩ (fun _ h => List.mem_cons_of_mem _ h) (fun h => (List.nodup_cons.1 h).2))
        | (have hp1 : presTo d hour (k + 1) = presTo d hour k := if_neg hbit
           refine WP.again (⟨k + 1, o1, o2⟩ : Nat × Option Ow × Option Ow) ⟨by simp only; omega, by simp only; rw [hp1]; exact ho1, by simp only; rw [hp1]; exact ho2⟩ (by simp only; omega) (fun a w h => ?_)
           show At _ [(3, pt b3), (4, pt b4), (5, pt b5), (7, owV o1 (presTo d hour (k + 1)).length), (8, owV o2 (presTo d hour (k + 1)).length), (19, .slice a1 d.dippers.length c1), (20, nt d.dippers.length), (21, nt (k + 1))] D2 ([(b5, .cells (List.toArray [it 0]) 29 (0, 0)), (b4, .cells (List.toArray [it 0, it 0]) 35 (0, 0))] ++ owH o1 3 (los (presTo d hour (k + 1))) (owH o2 3 (his (presTo d hour (k + 1))) [])) a w
           rw [hp1]
           exact at_less h ⟨rfl, rfl, rfl, rfl, rfl, rfl, rfl, rfl, trivial⟩ (fun _ h => List.mem_cons_of_mem _ h) (fun h => (List.nodup_cons.1 h).2))
    · try simp only [zq1, zq2, zq3, zq4, zq5, zq6, zq7, zq8] at c30
      have hbit : ¬ bitN (gt d.dippers k).hours hour = 1 := c30
      refine WC.skip ?_
      refine WP.blkNormal ?_
      refine WP.thenC ?_
      refine WC.ofFr [(3, _), (4, _), (5, _), (7, _), (8, _), (19, _), (20, _), (21, _)] ⟨rfl, rfl, rfl, rfl, rfl, rfl, rfl, rfl, trivial⟩ ?_
      refine WC.region ?_
      refine WL.yd (Yd.add rfl rfl (wr64 ⟨by omega, by omega⟩)) rfl ?_
      refine WL.yd (Yd.move rfl) rfl ?_
      refine WL.nil ?_
      first
        | (have hp1 : presTo d hour (k + 1) = presTo d hour k ++ [gt d.dippers k] := if_pos hbit
           have hp2 : (presTo d hour (k + 1)).length = (presTo d hour k).length + 1 := by rw [hp1, List.length_append, List.length_singleton]
           refine WP.again (⟨k + 1, some u1, some u2⟩ : Nat × Option Ow × Option Ow) ⟨by simp only; omega, by simp only; rw [hp2]; exact hu1, by simp only; rw [hp2]; exact hu2⟩ (by simp only; omega) (fun a w h => ?_)
           show At _ [(3, pt b3), (4, pt b4), (5, pt b5), (7, owV (some u1) (presTo d hour (k + 1)).length), (8, owV (some u2) (presTo d hour (k + 1)).length), (19, .slice a1 d.dippers.length c1), (20, nt d.dippers.length), (21, nt (k + 1))] D2 ([(b5, .cells (List.toArray [it 0]) 29 (0, 0)), (b4, .cells (List.toArray [it 0, it 0]) 35 (0, 0))] ++ owH (some u1) 3 (los (presTo d hour (k + 1))) (owH (some u2) 3 (his (presTo d hour (k + 1))) [])) a w
           rw [hp2, hp1, los_snoc, his_snoc]
           exact at_less h ⟨rfl, rfl, rfl, rfl, rfl, rfl, rfl, rfl, trivial⟩ (fun _ h => List.mem_cons_of_mem _ h) (fun h => (List.nodup_cons.1 h).2))
        | (have hp1 : presTo d hour (k + 1) = presTo d hour k := if_neg hbit
           refine WP.again (⟨k + 1, o1, o2⟩ : Nat × Option Ow × Option Ow) ⟨by simp only; omega, by simp only; rw [hp1]; exact ho1, by simp only; rw [hp1]; exact ho2⟩ (by simp only; omega) (fun a w h => ?_)
           show At _ [(3, pt b3), (4, pt b4), (5, pt b5), (7, owV o1 (presTo d hour (k + 1)).length), (8, owV o2 (presTo d hour (k + 1)).length), (19, .slice a1 d.dippers.length c1), (20, nt d.dippers.length), (21, nt (k + 1))] D2 ([(b5, .cells (List.toArray [it 0]) 29 (0, 0)), (b4, .cells (List.toArray [it 0, it 0]) 35 (0, 0))] ++ owH o1 3 (los (presTo d hour (k + 1))) (owH o2 3 (his (presTo d hour (k + 1))) [])) a w
           rw [hp1]
           exact at_less h ⟨rfl, rfl, rfl, rfl, rfl, rfl, rfl, rfl, trivial⟩ (fun _ h => List.mem_cons_of_mem _ h) (fun h => (List.nodup_cons.1 h).2))
  · try simp only [zq1, zq2, zq3, zq4, zq5, zq6, zq7, zq8] at c22
    refine WC.exit ?_
    refine WP.thenExit ?_
    refine WP.thenExit ?_
    refine WP.blkHit ?_
    refine WP.thenC ?_
    refine WC.seq ?_
    refine WC.ofFr [(4, _), (5, _), (7, _), (8, _)] ⟨rfl, rfl, rfl, rfl, trivial⟩ ?_
    refine WC.region ?_
    obtain rfl : k = d.dippers.length := by omega
    have hpm := pres_mem (d := d) hour d.dippers.length (Nat.le_refl _)
    have hnumL : ∀ x ∈ (presTo d hour d.dippers.length).map (·.hands.lo), 0 ≤ x ∧ x ≤ 1000 := fun x hx => by
      obtain ⟨y, hy, rfl⟩ := List.mem_map.1 hx
      obtain ⟨i, hi, rfl⟩ := hpm y hy
      have := hdn i hi; omega
    have hnumH : ∀ x ∈ (presTo d hour d.dippers.length).map (·.hands.hi), 0 ≤ x ∧ x ≤ 1000 := fun x hx => by
      obtain ⟨y, hy, rfl⟩ := List.mem_map.1 hx
      obtain ⟨i, hi, rfl⟩ := hpm y hy
      have := hdn i hi; omega
    refine WL.yd (Yd.move rfl) rfl ?_
    refine WL.so (SO.callP Try.call63 rfl (fun w hI => sumOw_g ((presTo d hour d.dippers.length).map (·.hands.lo)) (los (presTo d hour d.dippers.length)) _ o1 3 _ (by simp) (by simp [los]) (Nat.le_trans hpl (by omega)) hnumL (fun h => by subst h; exact ho1) (fun u hu => by subst hu; exact hI.own _ _ (List.mem_of_getElem? (i := 2) rfl)))) rfl ?_
    rintro _ _ _ ⟨rfl, rfl, rfl⟩
    refine WL.yd (Yd.move rfl) rfl ?_
    refine WL.so (SO.callP Try.call63 rfl (fun w hI => sumOw_g ((presTo d hour d.dippers.length).map (·.hands.hi)) (his (presTo d hour d.dippers.length)) _ o2 3 _ (by simp) (by simp [his]) (Nat.le_trans hpl (by omega)) hnumH (fun h => by subst h; exact ho2) (fun u hu => by subst hu; exact hI.own _ _ (by cases o1 <;> simp [owH])))) rfl ?_
    rintro _ _ _ ⟨rfl, rfl, rfl⟩
    refine WL.yd (Yd.build SA35 rfl (cs := [_, _]) rfl) rfl ?_
    refine WL.so (SO.store 1 rfl Try.sizeOf35 rfl rfl rfl rfl (Nat.le_of_ble_eq_true rfl) (oneB_spec rfl)) rfl ?_
    rintro _ _ _ ⟨rfl, rfl, rfl⟩
    refine WL.so (SO.store 0 rfl Try.sizeOf29 rfl rfl rfl rfl (Nat.le_of_ble_eq_true rfl) (oneB_spec rfl)) rfl ?_
    rintro _ _ _ ⟨rfl, rfl, rfl⟩
    refine WL.nil ?_
    refine WP.thenC ?_
    refine WC.ret ?_
    refine WP.endD [_, _] [_, _] rfl rfl Try.call58 (fun w hI => idle58 _ _) Try.results19 ⟨(RV.cellN Try.isAgg35 Try.sizeOf35 rfl (vs := [_, _]) rfl (by first | exact RdN.own (k := 0) (n := 2) rfl rfl | exact RdN.own (k := 1) (n := 2) rfl rfl | exact (hR2.dip.at k (by omega)).rdn 0 3 rfl)), (RV.cell1 Try.isAgg29 rfl (by first | exact Rd.own (k := 0) rfl rfl | exact Rd.own (k := 1) rfl rfl | exact (Rd.imm hB rfl) | exact (Rd.imm hb3D rfl))), trivial⟩ (fun w hI => ⟨congrArg Ending.returned (by rw [(hsp).1, (hsp).2]; simp [HandsR, checkR, hv, hlb, retV]; exact ⟨rfl, rfl⟩), hI.keep⟩)

end Go.Proofs.Ytidjdonppfegiaa
