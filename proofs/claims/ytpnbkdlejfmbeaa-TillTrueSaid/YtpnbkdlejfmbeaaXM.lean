import Derived.Test.YtpnbkdlejfmbeaaXK
import Derived.Test.YtpnbkdlejfmbeaaXT
import Derived.Test.YtpnbkdlejfmbeaaXB
set_option linter.unusedSimpArgs false
set_option linter.unusedVariables false
set_option linter.all false
namespace Go.Proofs.Ytpnbkdlejfmbeaa
open Go.W Go.Ti
theorem SA73 : StructAt Try.prog 73 [.nilFunc] [(0, 1)] := ⟨⟨_, Try.zeroValue73, rfl⟩, _, Try.underlying73, fun w => by simp [Try.sizeOf52]⟩
theorem zeroN : ∀ n, zeroL [.int .i64 0] (n * 1) = (List.replicate n 0).map nt ++ [] := by
  intro n
  rw [Nat.mul_one, List.append_nil]
  induction n with
  | zero => rfl
  | succ n ih => rw [List.replicate_succ', List.map_append, ← ih]; simp [zeroL, Nat.mod_one]
theorem nat_flat (l : List Nat) : l.flatMap natC = l.map nt := flat_nt l
def remI (M A : Nat) (qs : List Nat) (i : Nat) : Int := ((M : Int) * ((gt qs i : Nat) : Int)) % (A : Int)
theorem remI_eq (M A : Nat) (qs : List Nat) (i : Nat) : remI M A qs i = (remN M A qs i : Int) := by
  unfold remI remN
  rw [← Int.natCast_mul, ← Int.natCast_emod]
theorem rng_flat (n : Nat) : ((List.range n).map fun i : Nat => (i : Int)).flatMap intC = (List.range n).map nt := int_flat _ n
theorem nt_one (l : List Nat) : ∀ v ∈ l.map nt, v.oneCell' = true := fun v hv => by obtain ⟨x, _, rfl⟩ := List.mem_map.1 hv; rfl

set_option maxRecDepth 100000 in
set_option maxHeartbeats 1000000 in
theorem splId_g (i : Nat) (w : World) : Gives Try.prog 36 [nt i] w (it (i : Int)) := by
  unfold Gives
  refine enter Try.func36 rfl 4 Try.ntmps36 (Nat.le_of_ble_eq_true rfl) (Inv.start (D := fun _ => none) (by intro _ _ h; cases h)) ?_
  refine WC.seq ?_
  refine WC.ofFr [(0, _)] ⟨rfl, trivial⟩ ?_
  refine WC.region ?_
  refine WL.yd (Yd.assign rfl) rfl ?_
  refine WL.nil ?_
  refine WP.thenC ?_
  refine WC.seq ?_
  refine WC.ofFr [(2, _), (0, _)] ⟨rfl, rfl, trivial⟩ ?_
  refine WC.region ?_
  refine WL.yd (Yd.move rfl) rfl ?_
  refine WL.yd (Yd.assign rfl) rfl ?_
  refine WL.nil ?_
  refine WP.thenC ?_
  refine WC.ret ?_
  refine WP.ret1 rfl rfl Try.results36 (RV.tmp rfl) (fun w hI => ⟨rfl, hI.keep⟩)

set_option maxRecDepth 100000 in
set_option maxHeartbeats 1000000 in
theorem splCmp_g (M : Nat) (hM : M ≤ 5000) (qs : List Nat) (h6 : qs.length ≤ 6) (hq : ∀ i, i < qs.length → gt qs i ≤ 20) (ap : Option Addr) (cp : Nat) (D : Imm) (hS : SlL D 1 (qs.map natC) ap qs.length) (hA : 0 < qs.sum) (b2 b3 b6 : Nat) (h2 : D b2 = some (.cells (List.toArray [nt M]) 3 (0, 0))) (h3 : D b3 = some (.cells (List.toArray [.slice ap qs.length cp]) 22 (0, 0))) (h6' : D b6 = some (.cells (List.toArray [nt qs.sum]) 3 (0, 0))) (i j : Nat) (hi : i < qs.length) (hj : j < qs.length) (w : World) (hH : Holds D w) : Gives Try.prog 38 [nt i, nt j, pt b2, pt b3, pt b6] w (it (remI M qs.sum qs j - remI M qs.sum qs i)) := by
  unfold Gives
  have hqi := hq i hi
  have hqj := hq j hj
  have hpi : 0 ≤ (M : Int) * ((gt qs i : Nat) : Int) ∧ (M : Int) * ((gt qs i : Nat) : Int) ≤ 100000 := by have h1 := (down_num (A := qs.sum) hM hq hi).1; rw [← Int.natCast_mul]; omega
  have hpj : 0 ≤ (M : Int) * ((gt qs j : Nat) : Int) ∧ (M : Int) * ((gt qs j : Nat) : Int) ≤ 100000 := by have h1 := (down_num (A := qs.sum) hM hq hj).1; rw [← Int.natCast_mul]; omega
  have hAA : (0 : Int) < (qs.sum : Int) := by omega
  have hAB : qs.sum ≤ 20 * 6 := by have h1 := sumN_bound hq qs.length (Nat.le_refl _); rw [List.take_length] at h1; omega
  have hri := remI_eq M qs.sum qs i
  have hrj := remI_eq M qs.sum qs j
  have hmi : remN M qs.sum qs i < qs.sum := Nat.mod_lt _ hA
  have hmj : remN M qs.sum qs j < qs.sum := Nat.mod_lt _ hA
  unfold remI at hri hrj
  refine enter Try.func38 rfl 25 Try.ntmps38 (Nat.le_of_ble_eq_true rfl) (Inv.start hH) ?_
  refine WC.seq ?_
  refine WC.ofFr [(0, _), (1, _), (2, _), (3, _), (4, _)] ⟨rfl, rfl, rfl, rfl, rfl, trivial⟩ ?_
  refine WC.region ?_
  refine WL.yd (Yd.assign rfl) rfl ?_
  refine WL.nil ?_
  refine WP.thenC ?_
  refine WC.seq ?_
  refine WC.ofFr [(7, _), (0, _), (1, _), (2, _), (3, _), (4, _)] ⟨rfl, rfl, rfl, rfl, rfl, rfl, trivial⟩ ?_
  refine WC.tail 16 [0, 1, 2, 3, 4, 5, 6, 7, 8, 9, 10, 11, 12, 13, 14, 15] rfl (by kernel_rfl) (by kernel_rfl)  ?_
  refine WQ.q rfl (Yd.qt (Yd.load1 Try.isAgg3 rfl (by first | exact (Rd.imm h2 rfl) | exact (Rd.imm h3 rfl) | exact (Rd.imm h6' rfl) | exact ((hS.at i hi).rd 0 rfl) | exact ((hS.at j hj).rd 0 rfl)))) rfl ?_
  refine WQ.q rfl (Yd.qt (Yd.load1 Try.isAgg22 rfl (by first | exact (Rd.imm h2 rfl) | exact (Rd.imm h3 rfl) | exact (Rd.imm h6' rfl) | exact ((hS.at i hi).rd 0 rfl) | exact ((hS.at j hj).rd 0 rfl)))) rfl ?_
  refine WQ.q rfl (Yd.qt (Yd.move rfl)) rfl ?_
  refine WQ.q rfl (Yd.qt (Yd.indexS Try.underlying22 Try.sizeOf3 rfl rfl (by omega) (by omega) (by first | exact hS.addr i hi | exact hS.addr j hj))) rfl ?_
  refine WQ.q rfl (Yd.qt (Yd.load1 Try.isAgg3 rfl (by first | exact (Rd.imm h2 rfl) | exact (Rd.imm h3 rfl) | exact (Rd.imm h6' rfl) | exact ((hS.at i hi).rd 0 rfl) | exact ((hS.at j hj).rd 0 rfl)))) rfl ?_
  refine WQ.q rfl (Yd.qt (Yd.mul rfl rfl (wr64 ⟨by omega, by omega⟩))) rfl ?_
  refine WQ.q rfl (Yd.qt (Yd.load1 Try.isAgg3 rfl (by first | exact (Rd.imm h2 rfl) | exact (Rd.imm h3 rfl) | exact (Rd.imm h6' rfl) | exact ((hS.at i hi).rd 0 rfl) | exact ((hS.at j hj).rd 0 rfl)))) rfl ?_
  refine WQ.q rfl (Yd.qt (Yd.rem rfl rfl (by omega) (by omega))) rfl ?_
  refine WQ.q rfl (Yd.qt (Yd.load1 Try.isAgg3 rfl (by first | exact (Rd.imm h2 rfl) | exact (Rd.imm h3 rfl) | exact (Rd.imm h6' rfl) | exact ((hS.at i hi).rd 0 rfl) | exact ((hS.at j hj).rd 0 rfl)))) rfl ?_
  refine WQ.q rfl (Yd.qt (Yd.load1 Try.isAgg22 rfl (by first | exact (Rd.imm h2 rfl) | exact (Rd.imm h3 rfl) | exact (Rd.imm h6' rfl) | exact ((hS.at i hi).rd 0 rfl) | exact ((hS.at j hj).rd 0 rfl)))) rfl ?_
  refine WQ.q rfl (Yd.qt (Yd.move rfl)) rfl ?_
  refine WQ.q rfl (Yd.qt (Yd.indexS Try.underlying22 Try.sizeOf3 rfl rfl (by omega) (by omega) (by first | exact hS.addr i hi | exact hS.addr j hj))) rfl ?_
  refine WQ.q rfl (Yd.qt (Yd.load1 Try.isAgg3 rfl (by first | exact (Rd.imm h2 rfl) | exact (Rd.imm h3 rfl) | exact (Rd.imm h6' rfl) | exact ((hS.at i hi).rd 0 rfl) | exact ((hS.at j hj).rd 0 rfl)))) rfl ?_
  refine WQ.q rfl (Yd.qt (Yd.mul rfl rfl (wr64 ⟨by omega, by omega⟩))) rfl ?_
  refine WQ.q rfl (Yd.qt (Yd.load1 Try.isAgg3 rfl (by first | exact (Rd.imm h2 rfl) | exact (Rd.imm h3 rfl) | exact (Rd.imm h6' rfl) | exact ((hS.at i hi).rd 0 rfl) | exact ((hS.at j hj).rd 0 rfl)))) rfl ?_
  refine WQ.q rfl (Yd.qt (Yd.rem rfl rfl (by omega) (by omega))) rfl ?_
  refine WQ.tail ?_
  refine WL.yd (Yd.sub rfl rfl (wr64 ⟨by omega, by omega⟩)) rfl ?_
  refine WL.yd (Yd.assign rfl) rfl ?_
  refine WL.nil ?_
  refine WP.thenC ?_
  refine WC.ret ?_
  refine WP.ret1 rfl rfl Try.results38 (RV.tmp rfl) (fun w hI => ⟨rfl, hI.keep⟩)

theorem left_step (M A : Nat) (qs : List Nat) (k : Nat) : leftN M A qs (k + 1) = leftN M A qs k - downN M A qs k := by
  show M - (sumF (downN M A qs) k + _) = M - sumF (downN M A qs) k - _
  omega
theorem natSl {D : Imm} {b : Nat} {l : List Nat} (h : D b = some (datN l [])) : SlL D 1 (l.map natC) (some ⟨b, 0, none⟩) l.length := by
  unfold datN at h
  rw [← flat_nt] at h
  exact SlL.ofBlock natC_len h
theorem splice_zeros (n : Nat) : splice (zeroL [.int .i64 0] (n * 1)) 0 ((List.range n).map nt) = (List.range n).map nt ++ [] := by
  unfold splice
  rw [List.take_zero, List.drop_eq_nil_of_le (by rw [zeroL_len]; simp)]
  simp

set_option maxRecDepth 100000 in
set_option maxHeartbeats 1000000 in
theorem Split_e (m : Int) (ps : List Int) (ap : Option Addr) (np cp : Nat) (D : Imm) (w : World) (hS : SlL D 1 (ps.map intC) ap np) (hl : np ≤ 1000) (hH : Holds D w) (hv : splitB m ps = false) : Gives Try.prog 9 [it m, .slice ap np cp] w (.tuple #[.slice none 0 0, it 1]) := by
  unfold Gives
  obtain rfl := hS.len'
  refine enterD Try.func9 rfl 97 Try.ntmps9 (Nat.le_of_ble_eq_true rfl) (Inv.start hH) ?_
  refine WC.seq ?_
  refine WC.ofFr [(0, _), (1, _)] ⟨rfl, rfl, trivial⟩ ?_
  refine WC.region ?_
  refine WL.so (SO.box rfl rfl) rfl ?_
  rintro _ _ _ ⟨b2, hb2, rfl, rfl, rfl⟩ -- NEW
  refine WL.so (SO.box rfl rfl) rfl ?_
  rintro _ _ _ ⟨b3, hb3, rfl, rfl, rfl⟩ -- NEW
  refine WL.yd (Yd.assign rfl) rfl ?_
  refine WL.so (SO.alloc Try.zeroValue24 rfl) rfl ?_
  rintro _ _ _ ⟨b5, hb5, rfl, rfl, rfl⟩ -- NEW
  refine WL.nil ?_
  refine WP.thenC ?_
  refine WC.seq ?_
  refine WC.ofFr [(5, _), (4, _), (3, _), (2, _)] ⟨rfl, rfl, rfl, rfl, trivial⟩ ?_
  refine WC.region ?_
  refine WL.yd (Yd.func rfl rfl) rfl ?_
  refine WL.defer rfl ?_
  refine WL.nil ?_
  refine WP.thenC ?_
  refine WC.seq ?_
  refine WC.ofFr [(5, _), (4, _), (3, _), (2, _)] ⟨rfl, rfl, rfl, rfl, trivial⟩ ?_
  refine WC.region ?_
  refine WL.yd (Yd.load1 Try.isAgg3 rfl (by first | exact Rd.own (k := 0) rfl rfl | exact Rd.own (k := 1) rfl rfl | exact Rd.own (k := 2) rfl rfl)) rfl ?_
  refine WL.so (SO.callP Try.call34 rfl (fun w hI => withinT_g _ _ _ _)) rfl ?_
  rintro _ _ _ ⟨rfl, rfl, rfl⟩
  refine WL.yd (Yd.move rfl) rfl ?_
  refine WL.part 20 rfl (fun g20 => ?_) (fun g20 => ?_)
  · try simp only [zq1, zq2, zq3, zq4, zq5, zq6, zq7, zq8] at g20
    refine WL.ydg rfl (Yd.load1 Try.isAgg22 rfl (by first | exact Rd.own (k := 0) rfl rfl | exact Rd.own (k := 1) rfl rfl | exact Rd.own (k := 2) rfl rfl)) rfl ?_
    refine WL.ydg rfl (Yd.lenS rfl Try.underlying22 rfl) rfl ?_
    refine WL.ydg rfl (Yd.leq rfl rfl) rfl ?_
    refine WL.yd (Yd.pickT rfl rfl) rfl ?_
    refine WL.part 24 rfl (fun g24 => ?_) (fun g24 => ?_)
    · try simp only [zq1, zq2, zq3, zq4, zq5, zq6, zq7, zq8] at g24
      refine WL.so (SO.call (Enters.func Try.call33 rfl) (fun w hI => mustT_ok _ _)) rfl ?_
      rintro _ _ _ ⟨rfl, rfl, rfl⟩
      refine WL.nil ?_
      refine WP.thenC ?_
      refine WC.seq ?_
      refine WC.ofFr [(5, _), (4, _), (3, _), (2, _)] ⟨rfl, rfl, rfl, rfl, trivial⟩ ?_
      refine WC.region ?_
      refine WL.so (SO.alloc Try.zeroValue3 rfl) rfl ?_
      rintro _ _ _ ⟨b6, hb6, rfl, rfl, rfl⟩ -- NEW
      refine WL.so (SO.store 0 rfl Try.sizeOf3 rfl rfl rfl rfl (Nat.le_of_ble_eq_true rfl) (oneB_spec rfl)) rfl ?_
      rintro _ _ _ ⟨rfl, rfl, rfl⟩
      refine WL.nil ?_
      refine WP.thenC ?_
      refine WC.seq ?_
      refine WC.seq ?_
      refine WC.ofFr [(6, _), (5, _), (4, _), (3, _), (2, _)] ⟨rfl, rfl, rfl, rfl, rfl, trivial⟩ ?_
      refine WC.region ?_
      refine WL.yd (Yd.load1 Try.isAgg22 rfl (by first | exact Rd.own (k := 0) rfl rfl | exact Rd.own (k := 1) rfl rfl | exact Rd.own (k := 2) rfl rfl | exact Rd.own (k := 3) rfl rfl)) rfl ?_
      refine WL.yd (Yd.lenS rfl Try.underlying22 rfl) rfl ?_
      refine WL.yd (Yd.move rfl) rfl ?_
      refine WL.nil ?_
      refine WP.thenC ?_
      refine WC.block ?_
      refine WC.loop (fun k : Nat => [(4, .slice none 0 0), (5, pt b5), (6, pt b6), (26, .slice ap ps.length cp), (27, nt ps.length), (28, nt k)]) (fun k => [(b6, .cells (List.toArray [it (ps.take k).sum]) 3 (0, 0)), (b5, .cells (List.toArray [it 0]) 24 (0, 0)), (b3, .cells (List.toArray [.slice ap ps.length cp]) 22 (0, 0)), (b2, .cells (List.toArray [it m]) 3 (0, 0))]) (fun _ => D) (fun k => k ≤ ps.length ∧ ∀ i, i < k → inB (gt ps i) 0 20 = true) (fun k => ps.length - k) 0 ⟨by omega, by intro i hi; omega⟩ (fun a w h => at_fr h ⟨rfl, rfl, rfl, rfl, rfl, rfl, trivial⟩) ?_
      intro k ⟨hk, hd⟩
      refine WC.seq ?_
      refine WC.ofFr [(4, _), (5, _), (6, _), (26, _), (27, _), (28, _)] ⟨rfl, rfl, rfl, rfl, rfl, rfl, trivial⟩ ?_
      refine WC.region ?_
      refine WL.yd (Yd.lss rfl rfl) rfl ?_
      refine WL.nil ?_
      refine WP.thenC ?_
      refine WC.seq ?_
      refine WC.cond rfl (fun c29 => ?_) (fun c29 => ?_)
      · try simp only [zq1, zq2, zq3, zq4, zq5, zq6, zq7, zq8] at c29
        have hkn : k < ps.length := by omega
        refine WC.skip ?_
        refine WP.thenC ?_
        refine WC.seq ?_
        refine WC.block ?_
        refine WC.seq ?_
        refine WC.ofFr [(4, _), (5, _), (6, _), (26, _), (27, _), (28, _)] ⟨rfl, rfl, rfl, rfl, rfl, rfl, trivial⟩ ?_
        refine WC.region ?_
        refine WL.yd (Yd.indexS Try.underlying22 Try.sizeOf3 rfl rfl (by omega) (by omega) (by first | exact hS.addr k (by omega))) rfl ?_
        refine WL.yd (Yd.load1 Try.isAgg3 rfl (by first | exact Rd.own (k := 0) rfl rfl | exact Rd.own (k := 1) rfl rfl | exact Rd.own (k := 2) rfl rfl | exact Rd.own (k := 3) rfl rfl | exact ((hS.at k (by omega)).rd 0 rfl))) rfl ?_
        refine WL.yd (Yd.assign rfl) rfl ?_
        refine WL.nil ?_
        refine WP.thenC ?_
        refine WC.seq ?_
        refine WC.ofFr [(8, _), (4, _), (5, _), (6, _), (26, _), (27, _), (28, _)] ⟨rfl, rfl, rfl, rfl, rfl, rfl, rfl, trivial⟩ ?_
        refine WC.region ?_
        refine WL.yd (Yd.move rfl) rfl ?_
        refine WL.so (SO.callP Try.call34 rfl (fun w hI => withinT_g _ _ _ _)) rfl ?_
        rintro _ _ _ ⟨rfl, rfl, rfl⟩
        refine WL.part 33 rfl (fun g33 => ?_) (fun g33 => ?_)
        · try simp only [zq1, zq2, zq3, zq4, zq5, zq6, zq7, zq8] at g33
          have hp20 : 0 ≤ gt ps k ∧ gt ps k ≤ 20 := of_decide_eq_true g33
          have hsb := sumI_bound (l := ps) (n := k) (by omega) hd
          refine WL.so (SO.call (Enters.func Try.call33 rfl) (fun w hI => mustT_ok _ _)) rfl ?_
          rintro _ _ _ ⟨rfl, rfl, rfl⟩
          refine WL.nil ?_
          refine WP.thenC ?_
          refine WC.ofFr [(8, _), (4, _), (5, _), (6, _), (26, _), (27, _), (28, _)] ⟨rfl, rfl, rfl, rfl, rfl, rfl, rfl, trivial⟩ ?_
          refine WC.region ?_
          refine WL.yd (Yd.load1 Try.isAgg3 rfl (by first | exact Rd.own (k := 0) rfl rfl | exact Rd.own (k := 1) rfl rfl | exact Rd.own (k := 2) rfl rfl | exact Rd.own (k := 3) rfl rfl)) rfl ?_
          refine WL.yd (Yd.move rfl) rfl ?_
          refine WL.know 35 (it (ps.take k).sum) rfl rfl ?_
          refine WL.yd (Yd.add rfl rfl (wr64 ⟨by omega, by omega⟩)) rfl ?_
          refine WL.so (SO.store 0 rfl Try.sizeOf3 rfl rfl rfl rfl (Nat.le_of_ble_eq_true rfl) (oneB_spec rfl)) rfl ?_
          rintro _ _ _ ⟨rfl, rfl, rfl⟩
          refine WL.nil ?_
          refine WP.blkNormal ?_
          refine WP.thenC ?_
          rw [← sum_take hkn]
          refine WC.ofFr [(4, _), (5, _), (6, _), (26, _), (27, _), (28, _)] ⟨rfl, rfl, rfl, rfl, rfl, rfl, trivial⟩ ?_
          refine WC.region ?_
          refine WL.yd (Yd.add rfl rfl (wr64 ⟨by omega, by omega⟩)) rfl ?_
          refine WL.yd (Yd.move rfl) rfl ?_
          refine WL.nil ?_
          exact WP.again (k + 1) ⟨by omega, ext_round hd g33⟩ (by omega) (fun a w h => at_fr h ⟨rfl, rfl, rfl, rfl, rfl, rfl, trivial⟩)
        · try simp only [zq1, zq2, zq3, zq4, zq5, zq6, zq7, zq8] at g33
          refine WL.no (SO.fail (Enters.func Try.call33 rfl) (fun w hI => mustT_no _ _) ?_)
          refine WP.thenPanic ?_
          refine WP.blkPanic ?_
          refine WP.thenPanic ?_
          refine WP.thenPanic ?_
          refine WP.blkPanic ?_
          refine WP.thenPanic ?_
          refine WP.panicD (k := 1) [_, _] [_, _] rfl Try.call31 rfl (fun w hI => catch31 _ _ _ _ _ (hI.own _ _ (List.mem_of_getElem? (i := 1) rfl))) Try.results9 ⟨(RV.tmp rfl), (RV.cell1 Try.isAgg24 rfl (by first | exact Rd.own (k := 0) rfl rfl | exact Rd.own (k := 1) rfl rfl | exact Rd.own (k := 2) rfl rfl | exact Rd.own (k := 3) rfl rfl)), trivial⟩ (fun w hI => ⟨congrArg Ending.returned rfl, hI.keep⟩)
      · try simp only [zq1, zq2, zq3, zq4, zq5, zq6, zq7, zq8] at c29
        exfalso
        obtain rfl : k = ps.length := by omega
        have hvt : splitB m ps = true := by
          unfold splitB
          rw [g20, decide_eq_true (show ps.length ≤ 6 by omega), all_iff.2 hd]; rfl
        rw [hv] at hvt; cases hvt
    · try simp only [zq1, zq2, zq3, zq4, zq5, zq6, zq7, zq8] at g24
      refine WL.no (SO.fail (Enters.func Try.call33 rfl) (fun w hI => mustT_no _ _) ?_)
      refine WP.thenPanic ?_
      refine WP.panicD (k := 0) [_, _] [_, _] rfl Try.call31 rfl (fun w hI => catch31 _ _ _ _ _ (hI.own _ _ (List.mem_of_getElem? (i := 0) rfl))) Try.results9 ⟨(RV.tmp rfl), (RV.cell1 Try.isAgg24 rfl (by first | exact Rd.own (k := 0) rfl rfl | exact Rd.own (k := 1) rfl rfl | exact Rd.own (k := 2) rfl rfl)), trivial⟩ (fun w hI => ⟨congrArg Ending.returned rfl, hI.keep⟩)
  · try simp only [zq1, zq2, zq3, zq4, zq5, zq6, zq7, zq8] at g20
    refine WL.skip rfl rfl ?_
    refine WL.skip rfl rfl ?_
    refine WL.skip rfl rfl ?_
    refine WL.yd (Yd.pickF rfl rfl) rfl ?_
    refine WL.no (SO.fail (Enters.func Try.call33 rfl) (fun w hI => mustT_no _ _) ?_)
    refine WP.thenPanic ?_
    refine WP.panicD (k := 0) [_, _] [_, _] rfl Try.call31 rfl (fun w hI => catch31 _ _ _ _ _ (hI.own _ _ (List.mem_of_getElem? (i := 0) rfl))) Try.results9 ⟨(RV.tmp rfl), (RV.cell1 Try.isAgg24 rfl (by first | exact Rd.own (k := 0) rfl rfl | exact Rd.own (k := 1) rfl rfl | exact Rd.own (k := 2) rfl rfl)), trivial⟩ (fun w hI => ⟨congrArg Ending.returned rfl, hI.keep⟩)

set_option maxRecDepth 100000 in
set_option maxHeartbeats 1000000 in
theorem Split_ok (M : Nat) (hM : M ≤ 5000) (qs : List Nat) (h6 : qs.length ≤ 6) (hq : ∀ i, i < qs.length → gt qs i ≤ 20) (ap : Option Addr) (cp : Nat) (D : Imm) (hS : SlL D 1 (qs.map natC) ap qs.length) (w : World) (hH : Holds D w) : Makes Try.prog 9 [nt M, .slice ap qs.length cp] w D (fun v D' => ∃ a c, v = .tuple #[.slice a qs.length c, it 0] ∧ SlL D' 1 ((splitL M qs).map natC) a qs.length) := by
  unfold Makes
  refine enterD Try.func9 rfl 97 Try.ntmps9 (Nat.le_of_ble_eq_true rfl) (Inv.start hH) ?_
  refine WC.seq ?_
  refine WC.ofFr [(0, _), (1, _)] ⟨rfl, rfl, trivial⟩ ?_
  refine WC.region ?_
  refine WL.so (SO.box rfl rfl) rfl ?_
  rintro _ _ _ ⟨b2, hb2, rfl, rfl, rfl⟩ -- NEW
  refine WL.so (SO.box rfl rfl) rfl ?_
  rintro _ _ _ ⟨b3, hb3, rfl, rfl, rfl⟩ -- NEW
  refine WL.yd (Yd.assign rfl) rfl ?_
  refine WL.so (SO.alloc Try.zeroValue24 rfl) rfl ?_
  rintro _ _ _ ⟨b5, hb5, rfl, rfl, rfl⟩ -- NEW
  refine WL.nil ?_
  refine WP.thenC ?_
  refine WC.seq ?_
  refine WC.ofFr [(5, _), (4, _), (3, _), (2, _)] ⟨rfl, rfl, rfl, rfl, trivial⟩ ?_
  refine WC.region ?_
  refine WL.yd (Yd.func rfl rfl) rfl ?_
  refine WL.defer rfl ?_
  refine WL.nil ?_
  refine WP.thenC ?_
  refine WC.seq ?_
  refine WC.freezeN 1 b3 (.cells (List.toArray [.slice ap qs.length cp]) 22 (0, 0)) rfl rfl hb3 (fun D3 hX3 h3 => ?_)
  refine WC.freezeN 1 b2 (.cells (List.toArray [nt M]) 3 (0, 0)) rfl rfl hb2 (fun D2 hX2 h2 => ?_)
  replace h3 := hX2.old _ _ h3
  have hX0 := hX3.trans hX2 (Nat.le_refl _)
  replace hS := hS.ext hX0
  refine WC.ofFr [(5, _), (4, _), (3, _), (2, _)] ⟨rfl, rfl, rfl, rfl, trivial⟩ ?_
  refine WC.region ?_
  refine WL.yd (Yd.load1 Try.isAgg3 rfl (by first | exact Rd.own (k := 0) rfl rfl | exact (Rd.imm h2 rfl) | exact (Rd.imm h3 rfl))) rfl ?_
  refine WL.so (SO.callP Try.call34 rfl (fun w hI => withinT_g _ _ _ _)) rfl ?_
  rintro _ _ _ ⟨rfl, rfl, rfl⟩
  refine WL.know 19 (.bool true) rfl (congrArg Value.bool (decide_eq_true (show (0 : Int) ≤ (M : Int) ∧ (M : Int) ≤ 5000 by omega))) ?_
  refine WL.yd (Yd.move rfl) rfl ?_
  refine WL.ydg rfl (Yd.load1 Try.isAgg22 rfl (by first | exact Rd.own (k := 0) rfl rfl | exact (Rd.imm h2 rfl) | exact (Rd.imm h3 rfl))) rfl ?_
  refine WL.ydg rfl (Yd.lenS rfl Try.underlying22 rfl) rfl ?_
  refine WL.ydg rfl (Yd.leq rfl rfl) rfl ?_
  refine WL.know 23 (.bool true) rfl (congrArg Value.bool (decide_eq_true (show ((qs.length : Nat) : Int) ≤ 6 by omega))) ?_
  refine WL.yd (Yd.pickT rfl rfl) rfl ?_
  refine WL.so (SO.call (Enters.func Try.call33 rfl) (fun w hI => mustT_ok _ _)) rfl ?_
  rintro _ _ _ ⟨rfl, rfl, rfl⟩
  refine WL.nil ?_
  refine WP.thenC ?_
  refine WC.seq ?_
  refine WC.ofFr [(5, _), (4, _), (3, _), (2, _)] ⟨rfl, rfl, rfl, rfl, trivial⟩ ?_
  refine WC.region ?_
  refine WL.so (SO.alloc Try.zeroValue3 rfl) rfl ?_
  rintro _ _ _ ⟨b6, hb6, rfl, rfl, rfl⟩ -- NEW
  refine WL.so (SO.store 0 rfl Try.sizeOf3 rfl rfl rfl rfl (Nat.le_of_ble_eq_true rfl) (oneB_spec rfl)) rfl ?_
  rintro _ _ _ ⟨rfl, rfl, rfl⟩
  refine WL.nil ?_
  refine WP.thenC ?_
  refine WC.seq ?_
  refine WC.seq ?_
  refine WC.ofFr [(6, _), (5, _), (4, _), (3, _), (2, _)] ⟨rfl, rfl, rfl, rfl, rfl, trivial⟩ ?_
  refine WC.region ?_
  refine WL.yd (Yd.load1 Try.isAgg22 rfl (by first | exact Rd.own (k := 0) rfl rfl | exact Rd.own (k := 1) rfl rfl | exact (Rd.imm h3 rfl))) rfl ?_
  refine WL.yd (Yd.lenS rfl Try.underlying22 rfl) rfl ?_
  refine WL.yd (Yd.move rfl) rfl ?_
  refine WL.nil ?_
  refine WP.thenC ?_
  refine WC.block ?_
  refine WC.loop (fun k : Nat => [(2, pt b2), (3, pt b3), (4, .slice none 0 0), (5, pt b5), (6, pt b6), (26, .slice ap qs.length cp), (27, nt qs.length), (28, nt k)]) (fun k => [(b6, .cells (List.toArray [nt (qs.take k).sum]) 3 (0, 0)), (b5, .cells (List.toArray [it 0]) 24 (0, 0))]) (fun _ => D2) (fun k => k ≤ qs.length) (fun k => qs.length - k) 0 (by omega) (fun a w h => at_fr h ⟨rfl, rfl, rfl, rfl, rfl, rfl, rfl, rfl, trivial⟩) ?_
  intro k hk
  refine WC.seq ?_
  refine WC.ofFr [(2, _), (3, _), (4, _), (5, _), (6, _), (26, _), (27, _), (28, _)] ⟨rfl, rfl, rfl, rfl, rfl, rfl, rfl, rfl, trivial⟩ ?_
  refine WC.region ?_
  refine WL.yd (Yd.lss rfl rfl) rfl ?_
  refine WL.nil ?_
  refine WP.thenC ?_
  refine WC.seq ?_
  refine WC.cond rfl (fun c29 => ?_) (fun c29 => ?_)
  · try simp only [zq1, zq2, zq3, zq4, zq5, zq6, zq7, zq8] at c29
    have hkn : k < qs.length := by omega
    have hqk := hq k hkn
    have hsk := sumN_bound hq k (by omega)
    refine WC.skip ?_
    refine WP.thenC ?_
    refine WC.seq ?_
    refine WC.block ?_
    refine WC.seq ?_
    refine WC.ofFr [(2, _), (3, _), (4, _), (5, _), (6, _), (26, _), (27, _), (28, _)] ⟨rfl, rfl, rfl, rfl, rfl, rfl, rfl, rfl, trivial⟩ ?_
    refine WC.region ?_
    refine WL.yd (Yd.indexS Try.underlying22 Try.sizeOf3 rfl rfl (by (try dsimp only); omega) (by (try dsimp only); omega) (by first | exact hS.addr k (by omega))) rfl ?_
    refine WL.yd (Yd.load1 Try.isAgg3 rfl (by first | exact Rd.own (k := 0) rfl rfl | exact Rd.own (k := 1) rfl rfl | exact ((hS.at k (by omega)).rd 0 rfl))) rfl ?_
    refine WL.yd (Yd.assign rfl) rfl ?_
    refine WL.nil ?_
    refine WP.thenC ?_
    refine WC.seq ?_
    refine WC.ofFr [(8, _), (2, _), (3, _), (4, _), (5, _), (6, _), (26, _), (27, _), (28, _)] ⟨rfl, rfl, rfl, rfl, rfl, rfl, rfl, rfl, rfl, trivial⟩ ?_
    refine WC.region ?_
    refine WL.yd (Yd.move rfl) rfl ?_
    refine WL.so (SO.callP Try.call34 rfl (fun w hI => withinT_g _ _ _ _)) rfl ?_
    rintro _ _ _ ⟨rfl, rfl, rfl⟩
    refine WL.know 33 (.bool true) rfl (congrArg Value.bool (decide_eq_true (show (0 : Int) ≤ ((gt qs k : Nat) : Int) ∧ ((gt qs k : Nat) : Int) ≤ 20 by omega))) ?_
    refine WL.so (SO.call (Enters.func Try.call33 rfl) (fun w hI => mustT_ok _ _)) rfl ?_
    rintro _ _ _ ⟨rfl, rfl, rfl⟩
    refine WL.nil ?_
    refine WP.thenC ?_
    refine WC.ofFr [(8, _), (2, _), (3, _), (4, _), (5, _), (6, _), (26, _), (27, _), (28, _)] ⟨rfl, rfl, rfl, rfl, rfl, rfl, rfl, rfl, rfl, trivial⟩ ?_
    refine WC.region ?_
    refine WL.yd (Yd.load1 Try.isAgg3 rfl (by first | exact Rd.own (k := 0) rfl rfl | exact Rd.own (k := 1) rfl rfl)) rfl ?_
    refine WL.yd (Yd.move rfl) rfl ?_
    refine WL.know 35 (nt (qs.take k).sum) rfl rfl ?_
    refine WL.know 36 (nt (gt qs k)) rfl rfl ?_
    refine WL.yd (Yd.addN rfl rfl (by (try dsimp only); omega)) rfl ?_
    refine WL.so (SO.store 0 rfl Try.sizeOf3 rfl rfl rfl rfl (Nat.le_of_ble_eq_true rfl) (oneB_spec rfl)) rfl ?_
    rintro _ _ _ ⟨rfl, rfl, rfl⟩
    refine WL.nil ?_
    refine WP.blkNormal ?_
    refine WP.thenC ?_
    rw [← sumN_take hkn]
    refine WC.ofFr [(2, _), (3, _), (4, _), (5, _), (6, _), (26, _), (27, _), (28, _)] ⟨rfl, rfl, rfl, rfl, rfl, rfl, rfl, rfl, trivial⟩ ?_
    refine WC.region ?_
    refine WL.yd (Yd.addN rfl rfl (by (try dsimp only); omega)) rfl ?_
    refine WL.yd (Yd.move rfl) rfl ?_
    refine WL.nil ?_
    exact WP.again (k + 1) (by omega) (by omega) (fun a w h => at_fr h ⟨rfl, rfl, rfl, rfl, rfl, rfl, rfl, rfl, trivial⟩)
  · try simp only [zq1, zq2, zq3, zq4, zq5, zq6, zq7, zq8] at c29
    refine WC.exit ?_
    refine WP.thenExit ?_
    refine WP.thenExit ?_
    refine WP.blkHit ?_
    refine WP.thenC ?_
    refine WC.seq ?_
    obtain rfl : k = qs.length := by omega
    rw [List.take_length]
    refine WC.freezeN 0 b6 (.cells (List.toArray [nt qs.sum]) 3 (0, 0)) rfl rfl hb6 (fun D6 hX6 h6v0 => ?_)
    have h6v := h6v0
    replace h2 := hX6.old _ _ h2
    replace h3 := hX6.old _ _ h3
    replace hS := hS.ext hX6
    replace hX0 := hX0.trans hX6 (Nat.le_refl _)
    refine WC.ofFr [(2, _), (3, _), (4, _), (5, _), (6, _)] ⟨rfl, rfl, rfl, rfl, rfl, trivial⟩ ?_
    refine WC.region ?_
    refine WL.yd (Yd.load1 Try.isAgg22 rfl (by first | exact Rd.own (k := 0) rfl rfl | exact (Rd.imm h3 rfl))) rfl ?_
    refine WL.yd (Yd.lenS rfl Try.underlying22 rfl) rfl ?_
    refine WL.so (SO.makeSlice Try.underlying22 Try.sizeOf3 Try.typeInfo3 Try.zeroValue3 rfl rfl rfl (by omega) (by show 8 * ((qs.length : Nat) : Int) ≤ 2 ^ 48; omega)) rfl ?_
    rintro _ _ _ ⟨b41, hb41, rfl, rfl, rfl⟩ -- NEW
    refine WL.yd (Yd.assign rfl) rfl ?_
    refine WL.nil ?_
    refine WP.thenC ?_
    refine WC.seq ?_
    refine WC.seq ?_
    refine WC.hpEq (hp' := [(b41, .cells (List.toArray ((List.replicate qs.length 0).map nt ++ [])) 3 (0, 0)), (b5, .cells (List.toArray [it 0]) 24 (0, 0))]) (by rw [← zeroN]; rfl) ?_
    refine WC.ofFr [(9, _), (2, _), (3, _), (4, _), (5, _), (6, _)] ⟨rfl, rfl, rfl, rfl, rfl, rfl, trivial⟩ ?_
    refine WC.region ?_
    refine WL.yd (Yd.load1 Try.isAgg3 rfl (by first | exact Rd.own (k := 0) rfl rfl | exact Rd.own (k := 1) rfl rfl | exact (Rd.imm h6v rfl))) rfl ?_
    refine WL.yd (Yd.eql rfl rfl) rfl ?_
    refine WL.nil ?_
    refine WP.thenC ?_
    refine WC.cond rfl (fun c43 => ?_) (fun c43 => ?_)
    · try simp only [zq1, zq2, zq3, zq4, zq5, zq6, zq7, zq8] at c43
      refine WC.seq ?_
      refine WC.freezeN 0 b41 (datN (List.replicate qs.length 0) []) rfl rfl hb41 (fun D41 hX41 h41 => ?_)
      
      refine WC.ofFr [(9, _), (2, _), (3, _), (4, _), (5, _), (6, _)] ⟨rfl, rfl, rfl, rfl, rfl, rfl, trivial⟩ ?_
      refine WC.region ?_
      refine WL.yd (Yd.move rfl) rfl ?_
      refine WL.yd (Yd.assign rfl) rfl ?_
      refine WL.so (SO.store 0 rfl Try.sizeOf24 rfl rfl rfl rfl (Nat.le_of_ble_eq_true rfl) (oneB_spec rfl)) rfl ?_
      rintro _ _ _ ⟨rfl, rfl, rfl⟩
      refine WL.nil ?_
      refine WP.thenC ?_
      refine WC.ret ?_
      refine WP.thenRet ?_
      refine WP.endD [_, _] [_, _] rfl rfl Try.call31 (fun w hI => idle31 _ _) Try.results9 ⟨(RV.tmp rfl), (RV.cell1 Try.isAgg24 rfl (by first | exact Rd.own (k := 0) rfl rfl)), trivial⟩ (fun w1 hI => ⟨_, D41, rfl, hI.keep, hI.imm, hX0.trans hX41 (Nat.le_refl _), _, _, rfl, by
        have h9 := natSl h41
        rw [List.length_replicate] at h9
        rw [show splitL M qs = List.replicate qs.length 0 by unfold splitL; rw [if_pos (by omega)]]
        exact h9⟩)
    · try simp only [zq1, zq2, zq3, zq4, zq5, zq6, zq7, zq8] at c43
      refine WC.skip ?_
      refine WP.thenC ?_
      refine WC.seq ?_
      have hA : 0 < qs.sum := by omega
      refine WC.ofFr [(9, _), (2, _), (3, _), (4, _), (5, _), (6, _)] ⟨rfl, rfl, rfl, rfl, rfl, rfl, trivial⟩ ?_
      refine WC.region ?_
      refine WL.yd (Yd.load1 Try.isAgg3 rfl (by first | exact Rd.own (k := 0) rfl rfl | exact Rd.own (k := 1) rfl rfl | exact (Rd.imm h2 rfl))) rfl ?_
      refine WL.yd (Yd.assign rfl) rfl ?_
      refine WL.nil ?_
      refine WP.thenC ?_
      refine WC.seq ?_
      refine WC.ofFr [(10, _), (9, _), (2, _), (3, _), (4, _), (5, _), (6, _)] ⟨rfl, rfl, rfl, rfl, rfl, rfl, rfl, trivial⟩ ?_
      refine WC.region ?_
      refine WL.yd (Yd.load1 Try.isAgg22 rfl (by first | exact Rd.own (k := 0) rfl rfl | exact Rd.own (k := 1) rfl rfl | exact (Rd.imm h3 rfl))) rfl ?_
      refine WL.yd (Yd.lenS rfl Try.underlying22 rfl) rfl ?_
      refine WL.yd (Yd.build SA73 rfl (cs := [_]) rfl) rfl ?_
      refine WL.so (SO.makes (Enters.func Try.call35 rfl) (fun w hI => foundI_g qs.length (by omega) 36 [] (fun i => (i : Int)) D6 _ hI.imm Try.call36 (fun i _ w' _ => splId_g i w'))) rfl ?_
      rintro _ D7 _ ⟨hX7, ⟨a11, c11, rfl, hS11⟩, rfl⟩
      replace h2 := hX7.old _ _ h2
      replace h3 := hX7.old _ _ h3
      replace h6v := hX7.old _ _ h6v
      replace hS := hS.ext hX7
      replace hX0 := hX0.trans hX7 (Nat.le_refl _)
      refine WL.yd (Yd.assign rfl) rfl ?_
      refine WL.nil ?_
      refine WP.thenC ?_
      refine WC.seq ?_
      refine WC.seq ?_
      refine WC.ofFr [(11, _), (10, _), (9, _), (2, _), (3, _), (4, _), (5, _), (6, _)] ⟨rfl, rfl, rfl, rfl, rfl, rfl, rfl, rfl, trivial⟩ ?_
      refine WC.region ?_
      refine WL.yd (Yd.load1 Try.isAgg22 rfl (by first | exact Rd.own (k := 0) rfl rfl | exact Rd.own (k := 1) rfl rfl | exact (Rd.imm h3 rfl))) rfl ?_
      refine WL.yd (Yd.lenS rfl Try.underlying22 rfl) rfl ?_
      refine WL.yd (Yd.move rfl) rfl ?_
      refine WL.nil ?_
      refine WP.thenC ?_
      refine WC.block ?_
      refine WC.loop (fun k : Nat => [(2, pt b2), (3, pt b3), (4, .slice none 0 0), (5, pt b5), (6, pt b6), (9, .slice (some ⟨b41, 0, none⟩) qs.length qs.length), (10, nt (leftN M qs.sum qs k)), (11, .slice a11 qs.length c11), (50, .slice ap qs.length cp), (51, nt qs.length), (52, nt k)]) (fun k => [(b41, .cells (List.toArray ((downL M qs.sum qs k qs.length).map nt ++ [])) 3 (0, 0)), (b5, .cells (List.toArray [it 0]) 24 (0, 0))]) (fun _ => D7) (fun k => k ≤ qs.length) (fun k => qs.length - k) 0 (by omega) (fun a w h => by rw [downL_zero]; exact at_fr h ⟨rfl, rfl, rfl, rfl, rfl, rfl, rfl, rfl, rfl, rfl, rfl, trivial⟩) ?_
      intro k hk
      refine WC.seq ?_
      refine WC.ofFr [(2, _), (3, _), (4, _), (5, _), (6, _), (9, _), (10, _), (11, _), (50, _), (51, _), (52, _)] ⟨rfl, rfl, rfl, rfl, rfl, rfl, rfl, rfl, rfl, rfl, rfl, trivial⟩ ?_
      refine WC.region ?_
      refine WL.yd (Yd.lss rfl rfl) rfl ?_
      refine WL.nil ?_
      refine WP.thenC ?_
      refine WC.seq ?_
      refine WC.cond rfl (fun c53 => ?_) (fun c53 => ?_)
      · try simp only [zq1, zq2, zq3, zq4, zq5, zq6, zq7, zq8] at c53
        have hkn : k < qs.length := by omega
        have hpk : 0 ≤ (M : Int) * ((gt qs k : Nat) : Int) ∧ (M : Int) * ((gt qs k : Nat) : Int) ≤ 100000 := by have h1 := (down_num (A := qs.sum) hM hq hkn).1; rw [← Int.natCast_mul]; omega
        have hd1 : sumF (downN M qs.sum qs) (k + 1) ≤ M := down_le rfl hA (by omega)
        have hd2 : downN M qs.sum qs k ≤ leftN M qs.sum qs k := by unfold leftN; unfold sumF at hd1; omega
        have hd3 : leftN M qs.sum qs k ≤ 5000 := by unfold leftN; omega
        refine WC.skip ?_
        refine WP.thenC ?_
        refine WC.seq ?_
        refine WC.block ?_
        refine WC.seq ?_
        refine WC.ofFr [(2, _), (3, _), (4, _), (5, _), (6, _), (9, _), (10, _), (11, _), (50, _), (51, _), (52, _)] ⟨rfl, rfl, rfl, rfl, rfl, rfl, rfl, rfl, rfl, rfl, rfl, trivial⟩ ?_
        refine WC.region ?_
        refine WL.yd (Yd.move rfl) rfl ?_
        refine WL.yd (Yd.indexS Try.underlying22 Try.sizeOf3 rfl rfl (by (try dsimp only); omega) (by (try dsimp only); omega) (by first | exact hS.addr k (by omega))) rfl ?_
        refine WL.yd (Yd.load1 Try.isAgg3 rfl (by first | exact Rd.own (k := 0) rfl rfl | exact Rd.own (k := 1) rfl rfl | exact ((hS.at k (by omega)).rd 0 rfl))) rfl ?_
        refine WL.yd (Yd.assign rfl) rfl ?_
        refine WL.yd (Yd.assign rfl) rfl ?_
        refine WL.nil ?_
        refine WP.thenC ?_
        refine WC.seq ?_
        refine WC.ofFr [(13, _), (12, _), (2, _), (3, _), (4, _), (5, _), (6, _), (9, _), (10, _), (11, _), (50, _), (51, _), (52, _)] ⟨rfl, rfl, rfl, rfl, rfl, rfl, rfl, rfl, rfl, rfl, rfl, rfl, rfl, trivial⟩ ?_
        refine WC.region ?_
        refine WL.yd (Yd.move rfl) rfl ?_
        refine WL.yd (Yd.move rfl) rfl ?_
        refine WL.yd (Yd.load1 Try.isAgg3 rfl (by first | exact Rd.own (k := 0) rfl rfl | exact Rd.own (k := 1) rfl rfl | exact (Rd.imm h2 rfl) | exact (Rd.imm h6v rfl))) rfl ?_
        refine WL.yd (Yd.move rfl) rfl ?_
        refine WL.yd (Yd.mul rfl rfl (wr64 ⟨by (try dsimp only); omega, by (try dsimp only); omega⟩)) rfl ?_
        refine WL.yd (Yd.load1 Try.isAgg3 rfl (by first | exact Rd.own (k := 0) rfl rfl | exact Rd.own (k := 1) rfl rfl | exact (Rd.imm h2 rfl) | exact (Rd.imm h6v rfl))) rfl ?_
        refine WL.yd (Yd.quoN (i := M * gt qs k) (j := qs.sum) rfl rfl hA (by have := (down_num (A := qs.sum) hM hq hkn).1; omega)) rfl ?_
        refine WL.yd (Yd.indexS Try.underlying22 Try.sizeOf3 rfl rfl (by (try dsimp only); omega) (by (try dsimp only); omega) (by first | exact rfl)) rfl ?_
        refine WL.so (SO.store 0 rfl Try.sizeOf3 rfl rfl rfl rfl (len_dataN _ _ (by rw [downL_len]; exact hkn)) (oneB_spec rfl)) rfl ?_
        rintro _ _ _ ⟨rfl, rfl, rfl⟩
        refine WL.nil ?_
        refine WP.thenC ?_
        refine WC.hpEq (hp' := [(b41, .cells (List.toArray ((downL M qs.sum qs (k + 1) qs.length).map nt ++ [])) 3 (0, 0)), (b5, .cells (List.toArray [it 0]) 24 (0, 0))]) (by show ([(b41, .cells (List.toArray (splice ((downL M qs.sum qs k qs.length).map nt ++ []) (0 + k * 1) [nt (downN M qs.sum qs k)])) 3 (0, 0)), (b5, .cells (List.toArray [it 0]) 24 (0, 0))] : Hp) = _; rw [splice_dataN _ _ _ _ (by rw [downL_len]; exact hkn), downL_step]) ?_
        refine WC.ofFr [(12, _), (2, _), (3, _), (4, _), (5, _), (6, _), (9, _), (10, _), (11, _), (50, _), (51, _), (52, _)] ⟨rfl, rfl, rfl, rfl, rfl, rfl, rfl, rfl, rfl, rfl, rfl, rfl, trivial⟩ ?_
        refine WC.region ?_
        refine WL.yd (Yd.move rfl) rfl ?_
        refine WL.yd (Yd.move rfl) rfl ?_
        refine WL.yd (Yd.move rfl) rfl ?_
        refine WL.yd (Yd.indexS Try.underlying22 Try.sizeOf3 rfl rfl (by (try dsimp only); omega) (by (try dsimp only); omega) (by first | exact rfl)) rfl ?_
        refine WL.yd (Yd.load1 Try.isAgg3 rfl (by first | exact Rd.own (k := 0) rfl rfl | exact Rd.own (k := 1) rfl rfl | exact (rd_dataN (k := 0) rfl (by rw [downL_len]; exact hkn)))) rfl ?_
        refine WL.know 69 (nt (downN M qs.sum qs k)) rfl (by show nt (gt (downL M qs.sum qs (k + 1) qs.length) k) = _; rw [downL_at _ _ _ hkn, if_pos (by omega)]) ?_
        refine WL.yd (Yd.subN rfl rfl (by (try dsimp only); omega) (by (try dsimp only); omega)) rfl ?_
        refine WL.yd (Yd.assign rfl) rfl ?_
        refine WL.nil ?_
        refine WP.blkNormal ?_
        refine WP.thenC ?_
        refine WC.ofFr [(10, _), (2, _), (3, _), (4, _), (5, _), (6, _), (9, _), (11, _), (50, _), (51, _), (52, _)] ⟨rfl, rfl, rfl, rfl, rfl, rfl, rfl, rfl, rfl, rfl, rfl, trivial⟩ ?_
        refine WC.region ?_
        refine WL.yd (Yd.addN rfl rfl (by (try dsimp only); omega)) rfl ?_
        refine WL.yd (Yd.move rfl) rfl ?_
        refine WL.nil ?_
        exact WP.again (k + 1) (by omega) (by omega) (fun a w h => at_fr h ⟨rfl, rfl, rfl, rfl, rfl, rfl, by rw [left_step]; rfl, rfl, rfl, rfl, rfl, trivial⟩)
      · try simp only [zq1, zq2, zq3, zq4, zq5, zq6, zq7, zq8] at c53
        refine WC.exit ?_
        refine WP.thenExit ?_
        refine WP.thenExit ?_
        refine WP.blkHit ?_
        refine WP.thenC ?_
        refine WC.seq ?_
        obtain rfl : k = qs.length := by omega
        have hlt := left_lt (M := M) (A := qs.sum) rfl hA
        refine WC.ofFr [(2, _), (3, _), (4, _), (5, _), (6, _), (9, _), (10, _), (11, _)] ⟨rfl, rfl, rfl, rfl, rfl, rfl, rfl, rfl, trivial⟩ ?_
        refine WC.region ?_
        refine WL.yd (Yd.move rfl) rfl ?_
        refine WL.yd (Yd.lenS rfl Try.underlying22 rfl) rfl ?_
        refine WL.so (SO.makeSlice Try.underlying22 Try.sizeOf3 Try.typeInfo3 Try.zeroValue3 rfl rfl rfl (by omega) (by show 8 * ((qs.length : Nat) : Int) ≤ 2 ^ 48; omega)) rfl ?_
        rintro _ _ _ ⟨b74, hb74, rfl, rfl, rfl⟩ -- NEW
        refine WL.yd (Yd.assign rfl) rfl ?_
        refine WL.nil ?_
        refine WP.thenC ?_
        refine WC.seq ?_
        refine WC.ofFr [(14, _), (2, _), (3, _), (4, _), (5, _), (6, _), (9, _), (10, _), (11, _)] ⟨rfl, rfl, rfl, rfl, rfl, rfl, rfl, rfl, rfl, trivial⟩ ?_
        refine WC.region ?_
        refine WL.yd (Yd.move rfl) rfl ?_
        refine WL.yd (Yd.move rfl) rfl ?_
        refine WL.so (SO.copy (k := 0) (cs := zeroL [.int .i64 0] (qs.length * 1)) rfl Try.underlying22 Try.sizeOf3 rfl rfl rfl (ys := (List.range qs.length).map nt) (by rw [← rng_flat]; exact hS11.rdS intC_len (fun e => by have h0 := congrArg List.length e; simp only [List.length_map, List.length_range, List.length_nil] at h0; omega)) (nt_one _) (by rw [zeroL_len]; simp)) rfl ?_
        rintro _ _ _ ⟨rfl, rfl⟩
        refine WL.nil ?_
        refine WP.thenC ?_
        refine WC.seq ?_
        refine WC.hpEq (hp' := [(b74, datN (List.range qs.length) []), (b41, .cells (List.toArray (((downL M qs.sum qs qs.length qs.length)).map nt ++ [])) 3 (0, 0)), (b5, .cells (List.toArray [it 0]) 24 (0, 0))]) (by show ([(b74, .cells (List.toArray (splice (zeroL [.int .i64 0] (qs.length * 1)) 0 ((List.range qs.length).map nt))) 3 (0, 0)), (b41, .cells (List.toArray (((downL M qs.sum qs qs.length qs.length)).map nt ++ [])) 3 (0, 0)), (b5, .cells (List.toArray [it 0]) 24 (0, 0))] : Hp) = _; rw [splice_zeros]; rfl) ?_
        refine WC.hpPerm [(b41, .cells (List.toArray (((downL M qs.sum qs qs.length qs.length)).map nt ++ [])) 3 (0, 0)), (b5, .cells (List.toArray [it 0]) 24 (0, 0)), (b74, datN (List.range qs.length) [])] (List.perm_append_comm (l₁ := [_]) (l₂ := [_, _])) ?_
        refine WC.ofFr [(14, _), (2, _), (3, _), (4, _), (5, _), (6, _), (9, _), (10, _)] ⟨rfl, rfl, rfl, rfl, rfl, rfl, rfl, rfl, trivial⟩ ?_
        refine WC.region ?_
        refine WL.yd (Yd.move rfl) rfl ?_
        refine WL.yd (Yd.func rfl rfl) rfl ?_
        refine WL.so (SO.alters (own := [_, _]) (hpc := [_]) (S1 := [b74]) (fun _ h => h) (fun h => h) (fun _ h => h) (fun _ h => h) (Enters.func Try.call37 rfl) (fun w1 hI => sort_g (byKey (keyS M qs.sum qs)) (List.range qs.length) [] b74 qs.length qs.length D7 w1 ⟨by simp, fun i hi => by rw [gt_range hi]; exact hi⟩ (by omega) 38 [pt b2, pt b3, pt b6] Try.call38 (fun i j => remI M qs.sum qs j - remI M qs.sum qs i) (fun w' hH' i j hi hj => splCmp_g M hM qs h6 hq ap cp D7 hS hA b2 b3 b6 h2 h3 h6v i j hi hj w' hH') (fun i j _ _ => by unfold byKey keyS; rw [remI_eq, remI_eq]; congr 1; apply propext; omega) hI)) rfl ?_
        rintro _ _ _ ⟨_, _, ⟨rfl, rfl, rfl⟩, rfl⟩
        refine WL.nil ?_
        refine WP.thenC ?_
        refine WC.seq ?_
        refine WC.seq ?_
        refine WC.ofFr [(14, _), (4, _), (5, _), (9, _), (10, _)] ⟨rfl, rfl, rfl, rfl, rfl, trivial⟩ ?_
        refine WC.region ?_
        refine WL.yd (Yd.move rfl) rfl ?_
        refine WL.yd (Yd.move rfl) rfl ?_
        refine WL.yd (Yd.sliceTo (h := (leftN M qs.sum qs qs.length)) Try.underlying22 Try.sizeOf3 rfl rfl (by omega)) rfl ?_
        refine WL.yd (Yd.lenS rfl Try.underlying22 rfl) rfl ?_
        refine WL.yd (Yd.move rfl) rfl ?_
        refine WL.nil ?_
        refine WP.thenC ?_
        refine WC.block ?_
        refine WC.loop (fun k : Nat => [(4, .slice none 0 0), (5, pt b5), (9, .slice (some ⟨b41, 0, none⟩) qs.length qs.length), (83, .slice (some ⟨b74, 0, none⟩) (leftN M qs.sum qs qs.length) qs.length), (84, nt (leftN M qs.sum qs qs.length)), (85, nt k)]) (fun k => [(b41, .cells (List.toArray (((incL (downL M qs.sum qs qs.length qs.length) ((sortT (keyS M qs.sum qs) qs.length).take k))).map nt ++ [])) 3 (0, 0)), (b5, .cells (List.toArray [it 0]) 24 (0, 0)), (b74, .cells (List.toArray (((sortT (keyS M qs.sum qs) qs.length)).map nt ++ [])) 3 (0, 0))]) (fun _ => D7) (fun k => k ≤ (leftN M qs.sum qs qs.length)) (fun k => (leftN M qs.sum qs qs.length) - k) 0 (by omega) (fun a w h => at_fr h ⟨rfl, rfl, rfl, rfl, rfl, rfl, trivial⟩) ?_
        intro k hk
        refine WC.seq ?_
        refine WC.ofFr [(4, _), (5, _), (9, _), (83, _), (84, _), (85, _)] ⟨rfl, rfl, rfl, rfl, rfl, rfl, trivial⟩ ?_
        refine WC.region ?_
        refine WL.yd (Yd.lss rfl rfl) rfl ?_
        refine WL.nil ?_
        refine WP.thenC ?_
        refine WC.seq ?_
        refine WC.cond rfl (fun c86 => ?_) (fun c86 => ?_)
        · try simp only [zq1, zq2, zq3, zq4, zq5, zq6, zq7, zq8] at c86
          have hoi : gt (sortT (keyS M qs.sum qs) qs.length) k < qs.length := sortT_lt _ _ (by omega)
          have hib := inc_bound (l := (downL M qs.sum qs qs.length qs.length)) (c := 100000) (fun i hi => by rw [downL_len] at hi; rw [downL_at _ _ _ hi]; split; exact (down_num hM hq hi).2; omega) (sortT (keyS M qs.sum qs) qs.length) (fun i hi => by rw [sortT_len] at hi; rw [downL_len]; exact sortT_lt _ _ hi) k (by rw [sortT_len]; omega) (gt (sortT (keyS M qs.sum qs) qs.length) k) (by rw [downL_len]; exact hoi)
          refine WC.skip ?_
          refine WP.thenC ?_
          refine WC.seq ?_
          refine WC.block ?_
          refine WC.seq ?_
          refine WC.ofFr [(4, _), (5, _), (9, _), (83, _), (84, _), (85, _)] ⟨rfl, rfl, rfl, rfl, rfl, rfl, trivial⟩ ?_
          refine WC.region ?_
          refine WL.yd (Yd.indexS Try.underlying22 Try.sizeOf3 rfl rfl (by (try dsimp only); omega) (by (try dsimp only); omega) (by first | exact rfl)) rfl ?_
          refine WL.yd (Yd.load1 Try.isAgg3 rfl (by first | exact Rd.own (k := 0) rfl rfl | exact Rd.own (k := 1) rfl rfl | exact Rd.own (k := 2) rfl rfl | exact (rd_dataN (k := 2) rfl (by rw [sortT_len]; omega)))) rfl ?_
          refine WL.yd (Yd.assign rfl) rfl ?_
          refine WL.nil ?_
          refine WP.thenC ?_
          refine WC.ofFr [(16, _), (4, _), (5, _), (9, _), (83, _), (84, _), (85, _)] ⟨rfl, rfl, rfl, rfl, rfl, rfl, rfl, trivial⟩ ?_
          refine WC.region ?_
          refine WL.yd (Yd.move rfl) rfl ?_
          refine WL.yd (Yd.move rfl) rfl ?_
          refine WL.know 90 (nt (gt (sortT (keyS M qs.sum qs) qs.length) k)) rfl rfl ?_
          refine WL.yd (Yd.indexS Try.underlying22 Try.sizeOf3 rfl rfl (by (try dsimp only); omega) (by (try dsimp only); omega) (by first | exact rfl)) rfl ?_
          refine WL.yd (Yd.load1 Try.isAgg3 rfl (by first | exact Rd.own (k := 0) rfl rfl | exact Rd.own (k := 1) rfl rfl | exact Rd.own (k := 2) rfl rfl | exact (rd_dataN (k := 0) rfl (by rw [inc_len, downL_len]; exact hoi)))) rfl ?_
          refine WL.know 92 (nt (gt (incL (downL M qs.sum qs qs.length qs.length) ((sortT (keyS M qs.sum qs) qs.length).take k)) (gt (sortT (keyS M qs.sum qs) qs.length) k))) rfl rfl ?_
          refine WL.yd (Yd.addN rfl rfl (by (try dsimp only); omega)) rfl ?_
          refine WL.yd (Yd.indexS Try.underlying22 Try.sizeOf3 rfl rfl (by (try dsimp only); omega) (by (try dsimp only); omega) (by first | exact rfl)) rfl ?_
          refine WL.so (SO.store 0 rfl Try.sizeOf3 rfl rfl rfl rfl (len_dataN _ _ (by rw [inc_len, downL_len]; exact hoi)) (oneB_spec rfl)) rfl ?_
          rintro _ _ _ ⟨rfl, rfl, rfl⟩
          refine WL.nil ?_
          refine WP.blkNormal ?_
          refine WP.thenC ?_
          refine WC.hpEq (hp' := [(b41, .cells (List.toArray (((incL (downL M qs.sum qs qs.length qs.length) ((sortT (keyS M qs.sum qs) qs.length).take (k + 1)))).map nt ++ [])) 3 (0, 0)), (b5, .cells (List.toArray [it 0]) 24 (0, 0)), (b74, .cells (List.toArray (((sortT (keyS M qs.sum qs) qs.length)).map nt ++ [])) 3 (0, 0))]) (by show ([(b41, .cells (List.toArray (splice ((incL (downL M qs.sum qs qs.length qs.length) ((sortT (keyS M qs.sum qs) qs.length).take k)).map nt ++ []) (0 + gt (sortT (keyS M qs.sum qs) qs.length) k * 1) [nt (gt (incL (downL M qs.sum qs qs.length qs.length) ((sortT (keyS M qs.sum qs) qs.length).take k)) (gt (sortT (keyS M qs.sum qs) qs.length) k) + 1)])) 3 (0, 0)), (b5, .cells (List.toArray [it 0]) 24 (0, 0)), (b74, .cells (List.toArray (((sortT (keyS M qs.sum qs) qs.length)).map nt ++ [])) 3 (0, 0))] : Hp) = _; rw [splice_dataN _ _ _ _ (by rw [inc_len, downL_len]; exact hoi), ← inc_take (by rw [sortT_len]; omega)]) ?_
          refine WC.ofFr [(4, _), (5, _), (9, _), (83, _), (84, _), (85, _)] ⟨rfl, rfl, rfl, rfl, rfl, rfl, trivial⟩ ?_
          refine WC.region ?_
          refine WL.yd (Yd.addN rfl rfl (by (try dsimp only); omega)) rfl ?_
          refine WL.yd (Yd.move rfl) rfl ?_
          refine WL.nil ?_
          exact WP.again (k + 1) (by omega) (by omega) (fun a w h => at_fr h ⟨rfl, rfl, rfl, rfl, rfl, rfl, trivial⟩)
        · try simp only [zq1, zq2, zq3, zq4, zq5, zq6, zq7, zq8] at c86
          refine WC.exit ?_
          refine WP.thenExit ?_
          refine WP.thenExit ?_
          refine WP.blkHit ?_
          refine WP.thenC ?_
          refine WC.seq ?_
          obtain rfl : k = (leftN M qs.sum qs qs.length) := by omega
          refine WC.freezeN 0 b41 (datN (incL (downL M qs.sum qs qs.length qs.length) ((sortT (keyS M qs.sum qs) qs.length).take (leftN M qs.sum qs qs.length))) []) rfl rfl hb41 (fun D41 hX41 h41 => ?_)
          
          refine WC.ofFr [(4, _), (5, _), (9, _)] ⟨rfl, rfl, rfl, trivial⟩ ?_
          refine WC.region ?_
          refine WL.yd (Yd.move rfl) rfl ?_
          refine WL.yd (Yd.assign rfl) rfl ?_
          refine WL.so (SO.store 0 rfl Try.sizeOf24 rfl rfl rfl rfl (Nat.le_of_ble_eq_true rfl) (oneB_spec rfl)) rfl ?_
          rintro _ _ _ ⟨rfl, rfl, rfl⟩
          refine WL.nil ?_
          refine WP.thenC ?_
          refine WC.ret ?_
          refine WP.endD [_, _] [_, _] rfl rfl Try.call31 (fun w hI => idle31 _ _) Try.results9 ⟨(RV.tmp rfl), (RV.cell1 Try.isAgg24 rfl (by first | exact Rd.own (k := 0) rfl rfl | exact Rd.own (k := 1) rfl rfl)), trivial⟩ (fun w1 hI => ⟨_, D41, rfl, hI.keep, hI.imm, hX0.trans hX41 (Nat.le_refl _), _, _, rfl, by
            have h9 := natSl h41
            rw [inc_len, downL_len] at h9
            rw [show splitL M qs = (incL (downL M qs.sum qs qs.length qs.length) ((sortT (keyS M qs.sum qs) qs.length).take (leftN M qs.sum qs qs.length))) by unfold splitL; rw [if_neg (by omega)]]
            exact h9⟩)

end Go.Proofs.Ytpnbkdlejfmbeaa
namespace Go.Proofs.Ytpnbkdlejfmbeaa
open Go.W Go.Ti
theorem SA35 : StructAt Try.prog 35 [.int .i64 0, .slice none 0 0] [(0, 1), (1, 1)] := ⟨⟨_, Try.zeroValue35, rfl⟩, _, Try.underlying35, fun w => by simp [Try.sizeOf3, Try.sizeOf33]⟩
theorem SA37 : StructAt Try.prog 37 [.int .i64 0, .slice none 0 0, .int .i64 0, .int .i64 0, .int .i64 0] [(0, 2), (2, 1), (3, 1), (4, 1)] := ⟨⟨_, Try.zeroValue37, rfl⟩, _, Try.underlying37, fun w => by simp [Try.sizeOf3, Try.sizeOf35]⟩
theorem SA44 : StructAt Try.prog 44 [.int .i64 0, .int .i64 0, .int .i64 0] [(0, 1), (1, 1), (2, 1)] := ⟨⟨_, Try.zeroValue44, rfl⟩, _, Try.underlying44, fun w => by simp [Try.sizeOf3]⟩
theorem SA78 : StructAt Try.prog 78 [.int .i64 0, .int .i64 0, .int .i64 0, .int .i64 0, .int .i64 0] [(0, 2), (2, 1), (3, 2)] := ⟨⟨_, Try.zeroValue78, rfl⟩, _, Try.underlying78, fun w => by simp [Try.sizeOf3, Try.sizeOf30]⟩
set_option maxRecDepth 100000 in
set_option maxHeartbeats 1000000 in
theorem lspan_g (lo hi : Int) (w : World) : Gives Try.prog 21 [it lo, it hi] w (.agg #[it lo, it hi]) := by
  unfold Gives
  refine enter Try.func21 rfl 8 Try.ntmps21 (Nat.le_of_ble_eq_true rfl) (Inv.start (D := fun _ => none) (by intro _ _ h; cases h)) ?_
  refine WC.seq ?_
  refine WC.ofFr [(0, _), (1, _)] ⟨rfl, rfl, trivial⟩ ?_
  refine WC.region ?_
  refine WL.so (SO.alloc Try.zeroValue30 rfl) rfl ?_
  rintro _ _ _ ⟨b4, hb4, rfl, rfl, rfl⟩ -- NEW
  refine WL.nil ?_
  refine WP.thenC ?_
  refine WC.seq ?_
  refine WC.ofFr [(4, _), (0, _), (1, _)] ⟨rfl, rfl, rfl, trivial⟩ ?_
  refine WC.region ?_
  refine WL.yd (Yd.move rfl) rfl ?_
  refine WL.yd (Yd.move rfl) rfl ?_
  refine WL.yd (Yd.build SA30 rfl (cs := [_, _]) rfl) rfl ?_
  refine WL.so (SO.store 0 rfl Try.sizeOf30 rfl rfl rfl rfl (Nat.le_of_ble_eq_true rfl) (oneB_spec rfl)) rfl ?_
  rintro _ _ _ ⟨rfl, rfl, rfl⟩
  refine WL.nil ?_
  refine WP.thenC ?_
  refine WC.ret ?_
  refine WP.ret1 rfl rfl Try.results21 (RV.cellN Try.isAgg30 Try.sizeOf30 rfl (vs := [_, _]) rfl (by first | exact RdN.own (k := 0) (n := 2) rfl rfl)) (fun w hI => ⟨rfl, hI.keep⟩)

set_option maxRecDepth 100000 in
set_option maxHeartbeats 1000000 in
theorem lent_g (a b c : Int) (w : World) : Gives Try.prog 17 [it a, it b, it c] w (.agg #[it a, it b, it c]) := by
  unfold Gives
  refine enter Try.func17 rfl 11 Try.ntmps17 (Nat.le_of_ble_eq_true rfl) (Inv.start (D := fun _ => none) (by intro _ _ h; cases h)) ?_
  refine WC.seq ?_
  refine WC.ofFr [(0, _), (1, _), (2, _)] ⟨rfl, rfl, rfl, trivial⟩ ?_
  refine WC.region ?_
  refine WL.so (SO.alloc Try.zeroValue44 rfl) rfl ?_
  rintro _ _ _ ⟨b6, hb6, rfl, rfl, rfl⟩ -- NEW
  refine WL.nil ?_
  refine WP.thenC ?_
  refine WC.seq ?_
  refine WC.ofFr [(6, _), (0, _), (1, _), (2, _)] ⟨rfl, rfl, rfl, rfl, trivial⟩ ?_
  refine WC.region ?_
  refine WL.yd (Yd.move rfl) rfl ?_
  refine WL.yd (Yd.move rfl) rfl ?_
  refine WL.yd (Yd.move rfl) rfl ?_
  refine WL.yd (Yd.build SA44 rfl (cs := [_, _, _]) rfl) rfl ?_
  refine WL.so (SO.store 0 rfl Try.sizeOf44 rfl rfl rfl rfl (Nat.le_of_ble_eq_true rfl) (oneB_spec rfl)) rfl ?_
  rintro _ _ _ ⟨rfl, rfl, rfl⟩
  refine WL.nil ?_
  refine WP.thenC ?_
  refine WC.ret ?_
  refine WP.ret1 rfl rfl Try.results17 (RV.cellN Try.isAgg44 Try.sizeOf44 rfl (vs := [_, _, _]) rfl (by first | exact RdN.own (k := 0) (n := 3) rfl rfl)) (fun w hI => ⟨rfl, hI.keep⟩)

def sampX (d : Int) : Till := ⟨⟨2, [⟨⟨0, 0⟩, 0, ⟨10, 11⟩⟩, ⟨⟨2, 3⟩, 1, ⟨8, 8⟩⟩, ⟨⟨3, 4⟩, 0, ⟨d, d + 1⟩⟩]⟩, 12, 5, 2⟩
def bookL (l : List Ent) : List Ent := [⟨0, 1, 12⟩, ⟨1, 1, 12⟩, ⟨1, 2, 5⟩, ⟨2, 3, 6⟩] ++ l
theorem entC_ones : ∀ x : Ent, ∀ v ∈ entC x, v.oneCell' = true := fun x v hv => by
  simp only [entC, List.mem_cons, List.mem_nil_iff, or_false] at hv
  rcases hv with rfl | rfl | rfl <;> rfl
theorem one_ent {D : Imm} {b : Nat} {t : TypeId} {fz : Nat × Nat} (x : Ent) (hD : D b = some (.cells (entC x).toArray t fz)) : SlL D 3 ([x].map entC) (some ⟨b, 0, none⟩) 1 :=
  SlL.ofBlock (f := entC) (l := [x]) (rest := []) entC_len (by rw [List.append_nil, List.flatMap_cons, List.flatMap_nil, List.append_nil]; exact hD)
theorem nil_ent (D : Imm) : SlL D 3 (([] : List Ent).map entC) none 0 := ⟨rfl, fun i r hr => by simp at hr⟩

set_option maxRecDepth 100000 in
set_option maxHeartbeats 1000000 in
theorem sample_g (d : Int) (hd : 0 ≤ d ∧ d ≤ 240) (D : Imm) (w : World) (hH : Holds D w) : Makes Try.prog 13 [it d] w D (fun v D' => ∃ a1 c1, v = .agg #[it 2, .slice a1 3 c1, it 12, it 5, it 2] ∧ TksR D' (sampX d).tk a1 3) := by
  unfold Makes
  refine enter Try.func13 rfl 17 Try.ntmps13 (Nat.le_of_ble_eq_true rfl) (Inv.start hH) ?_
  refine WC.seq ?_
  refine WC.ofFr [(0, _)] ⟨rfl, trivial⟩ ?_
  refine WC.region ?_
  refine WL.so (SO.alloc Try.zeroValue37 rfl) rfl ?_
  rintro _ _ _ ⟨b2, hb2, rfl, rfl, rfl⟩ -- NEW
  refine WL.nil ?_
  refine WP.thenC ?_
  refine WC.seq ?_
  refine WC.ofFr [(2, _), (0, _)] ⟨rfl, rfl, trivial⟩ ?_
  refine WC.region ?_
  refine WL.so (SO.callP Try.call21 rfl (fun w hI => lspan_g _ _ _)) rfl ?_
  rintro _ _ _ ⟨rfl, rfl, rfl⟩
  refine WL.yd (Yd.build SA78 rfl (cs := [_, _, _, _, _]) rfl) rfl ?_
  refine WL.so (SO.callP Try.call21 rfl (fun w hI => lspan_g _ _ _)) rfl ?_
  rintro _ _ _ ⟨rfl, rfl, rfl⟩
  refine WL.so (SO.callP Try.call21 rfl (fun w hI => lspan_g _ _ _)) rfl ?_
  rintro _ _ _ ⟨rfl, rfl, rfl⟩
  refine WL.yd (Yd.build SA78 rfl (cs := [_, _, _, _, _]) rfl) rfl ?_
  refine WL.so (SO.callP Try.call21 rfl (fun w hI => lspan_g _ _ _)) rfl ?_
  rintro _ _ _ ⟨rfl, rfl, rfl⟩
  refine WL.yd (Yd.move rfl) rfl ?_
  refine WL.yd (Yd.move rfl) rfl ?_
  refine WL.yd (Yd.add rfl rfl (wr64 ⟨by omega, by omega⟩)) rfl ?_
  refine WL.so (SO.callP Try.call21 rfl (fun w hI => lspan_g _ _ _)) rfl ?_
  rintro _ _ _ ⟨rfl, rfl, rfl⟩
  refine WL.yd (Yd.build SA78 rfl (cs := [_, _, _, _, _]) rfl) rfl ?_
  refine WL.so (SO.buildSlice Try.underlying33 Try.sizeOf78 Try.zeroValue78 rfl rfl rfl rfl (cs := [_, _, _, _, _, _, _, _, _, _, _, _, _, _, _]) rfl) rfl ?_
  rintro _ _ _ ⟨b14, hb14, rfl, rfl, rfl⟩ -- NEW
  refine WL.yd (Yd.build SA35 rfl (cs := [_, _]) rfl) rfl ?_
  refine WL.yd (Yd.build SA37 rfl (cs := [_, _, _, _, _]) rfl) rfl ?_
  refine WL.so (SO.store 1 rfl Try.sizeOf37 rfl rfl rfl rfl (Nat.le_of_ble_eq_true rfl) (oneB_spec rfl)) rfl ?_
  rintro _ _ _ ⟨rfl, rfl, rfl⟩
  refine WL.nil ?_
  refine WP.thenC ?_
  refine WC.ret ?_
  refine WP.ret1 rfl rfl Try.results13 (RV.cellN Try.isAgg37 Try.sizeOf37 rfl (vs := [_, _, _, _, _]) rfl (by first | exact RdN.own (k := 0) (n := 5) rfl rfl | exact RdN.own (k := 1) (n := 5) rfl rfl)) (fun w1 hI => ?_)
  have hf := hI.freeze
  have hn := hI.apart _ _ (List.mem_of_getElem? (i := 0) rfl)
  refine ⟨_, _, rfl, hI.keep, hf.imm, (DExt.refl w D).add hn hb14, some ⟨b14, 0, none⟩, 3, rfl, ?_, by decide⟩
  exact SlL.ofBlock (f := tickC) (m := 5) (l := (sampX d).tk.l) (rest := []) tickC_len (Imm.add_self _ _ _)

set_option maxRecDepth 100000 in
set_option maxHeartbeats 1000000 in
theorem book_g (l : List Ent) (a : Option Addr) (n c : Nat) (D : Imm) (w : World) (hS : SlL D 3 (l.map entC) a n) (h0 : l = [] → a = none) (hn : n ≤ 1) (hH : Holds D w) : Makes Try.prog 16 [.slice a n c] w D (fun v D' => ∃ a1 c1, v = .slice a1 (4 + n) c1 ∧ BookR D' (bookL l) a1 (4 + n)) := by
  unfold Makes
  refine enter Try.func16 rfl 10 Try.ntmps16 (Nat.le_of_ble_eq_true rfl) (Inv.start hH) ?_
  refine WC.seq ?_
  refine WC.ofFr [(0, _)] ⟨rfl, trivial⟩ ?_
  refine WC.region ?_
  refine WL.yd (Yd.assign rfl) rfl ?_
  refine WL.nil ?_
  refine WP.thenC ?_
  refine WC.seq ?_
  refine WC.ofFr [(2, _), (0, _)] ⟨rfl, rfl, trivial⟩ ?_
  refine WC.region ?_
  refine WL.so (SO.callP Try.call17 rfl (fun w hI => lent_g _ _ _ _)) rfl ?_
  rintro _ _ _ ⟨rfl, rfl, rfl⟩
  refine WL.so (SO.callP Try.call17 rfl (fun w hI => lent_g _ _ _ _)) rfl ?_
  rintro _ _ _ ⟨rfl, rfl, rfl⟩
  refine WL.so (SO.callP Try.call17 rfl (fun w hI => lent_g _ _ _ _)) rfl ?_
  rintro _ _ _ ⟨rfl, rfl, rfl⟩
  refine WL.so (SO.callP Try.call17 rfl (fun w hI => lent_g _ _ _ _)) rfl ?_
  rintro _ _ _ ⟨rfl, rfl, rfl⟩
  refine WL.so (SO.buildSlice Try.underlying41 Try.sizeOf44 Try.zeroValue44 rfl rfl rfl rfl (cs := [_, _, _, _, _, _, _, _, _, _, _, _]) rfl) rfl ?_
  rintro _ _ _ ⟨b7, hb7, rfl, rfl, rfl⟩ -- NEW
  refine WL.yd (Yd.move rfl) rfl ?_
  refine WL.so (SO.appendSome (o := ⟨b7, 4, []⟩) (len := 4) (n := n) (xs := (bookL []).flatMap entC) (ys := l.flatMap entC) (size := 3) [] [] rfl rfl Try.underlying41 Try.sizeOf44 Try.typeInfo44 Try.zeroValue44 rfl rfl rfl rfl (hS.rdS entC_len h0) (fun v hv => by obtain ⟨x, _, hx⟩ := List.mem_flatMap.1 hv; exact entC_ones x v hx) ⟨hb7, Nat.le_refl 4, rfl⟩ rfl (by show (2 * (_ + _) + 1000) * 24 ≤ 2 ^ 48; omega) (by omega)) rfl ?_
  rintro _ _ _ ⟨u1, hu1, rfl, rfl, rfl⟩
  refine WL.yd (Yd.assign rfl) rfl ?_
  refine WL.nil ?_
  refine WP.thenC ?_
  refine WC.ret ?_
  refine WP.ret1 rfl rfl Try.results16 (RV.tmp rfl) (fun w1 hI => ?_)
  have hf := hI.freeze
  have hn1 := hI.apart _ _ (List.mem_of_getElem? (i := 0) rfl)
  have hX1 := fun o => (DExt.refl w D).add (o := o) hn1 hu1.1
  obtain rfl := hS.len'
  refine ⟨_, _, rfl, hI.keep, hf.imm, hX1 _, some ⟨u1.b, 0, none⟩, u1.cap, rfl, ?_, by omega⟩
  have e : (bookL l).length = 4 + l.length := by simp [bookL]; omega
  rw [← e]
  exact SlL.ofBlock (f := entC) (m := 3) (l := bookL l) (rest := u1.rest) entC_len (by rw [show bookL l = bookL [] ++ l by simp [bookL], List.flatMap_append]; exact Imm.add_self _ _ _)

end Go.Proofs.Ytpnbkdlejfmbeaa
namespace Go.Proofs.Ytpnbkdlejfmbeaa
open Go.W Go.Ti

theorem ints_ext {l1 l2 : List Int} (hl : l1.length = l2.length) (h : ∀ i, i < l1.length → gt l1 i = gt l2 i) : l1 = l2 := by
  apply List.ext_getElem hl
  intro i h1 h2
  have := h i h1
  simpa [gt, List.getD, h1, h2] using this
theorem nat_int {D : Imm} {l : List Nat} {a : Option Addr} {n : Nat} (h : SlL D 1 (l.map natC) a n) : SlL D 1 ((l.map fun x : Nat => (x : Int)).map intC) a n := by
  rw [List.map_map]; exact h

set_option maxRecDepth 100000 in
set_option maxHeartbeats 1000000 in
theorem Ints_g (l1 l2 : List Int) (a1 a2 : Option Addr) (n1 n2 c1 c2 : Nat) (D : Imm) (w : World) (hS1 : SlL D 1 (l1.map intC) a1 n1) (hS2 : SlL D 1 (l2.map intC) a2 n2) (hb1 : n1 ≤ 1000) (hb2 : n2 ≤ 1000) (hH : Holds D w) : Gives Try.prog 11 [.slice a1 n1 c1, .slice a2 n2 c2] w (.bool (decide (l1 = l2))) := by
  unfold Gives
  obtain rfl := hS1.len'
  obtain rfl := hS2.len'
  refine enter Try.func11 rfl 26 Try.ntmps11 (Nat.le_of_ble_eq_true rfl) (Inv.start hH) ?_
  refine WC.seq ?_
  refine WC.ofFr [(0, _), (1, _)] ⟨rfl, rfl, trivial⟩ ?_
  refine WC.region ?_
  refine WL.yd (Yd.assign rfl) rfl ?_
  refine WL.nil ?_
  refine WP.thenC ?_
  refine WC.seq ?_
  refine WC.seq ?_
  refine WC.ofFr [(4, _), (0, _), (1, _)] ⟨rfl, rfl, rfl, trivial⟩ ?_
  refine WC.region ?_
  refine WL.yd (Yd.move rfl) rfl ?_
  refine WL.yd (Yd.lenS rfl Try.underlying22 rfl) rfl ?_
  refine WL.yd (Yd.move rfl) rfl ?_
  refine WL.yd (Yd.lenS rfl Try.underlying22 rfl) rfl ?_
  refine WL.yd (Yd.neq rfl rfl) rfl ?_
  refine WL.nil ?_
  refine WP.thenC ?_
  refine WC.cond rfl (fun c10 => ?_) (fun c10 => ?_)
  · try simp only [zq1, zq2, zq3, zq4, zq5, zq6, zq7, zq8] at c10
    refine WC.seq ?_
    refine WC.ofFr [(4, _), (0, _), (1, _)] ⟨rfl, rfl, rfl, trivial⟩ ?_
    refine WC.region ?_
    refine WL.yd (Yd.assign rfl) rfl ?_
    refine WL.nil ?_
    refine WP.thenC ?_
    refine WC.ret ?_
    refine WP.thenRet ?_
    refine WP.ret1 rfl rfl Try.results11 (RV.tmp rfl) (fun w hI => ⟨ret_bool (Eq.symm (decide_eq_false fun e => c10 (by rw [e]))), hI.keep⟩)
  · try simp only [zq1, zq2, zq3, zq4, zq5, zq6, zq7, zq8] at c10
    obtain hle : l1.length = l2.length := by omega
    rw [← hle]
    rw [← hle] at hS2
    refine WC.skip ?_
    refine WP.thenC ?_
    refine WC.seq ?_
    refine WC.seq ?_
    refine WC.ofFr [(4, _), (0, _), (1, _)] ⟨rfl, rfl, rfl, trivial⟩ ?_
    refine WC.region ?_
    refine WL.yd (Yd.assign rfl) rfl ?_
    refine WL.nil ?_
    refine WP.thenC ?_
    refine WC.block ?_
    refine WC.loopF (fun k : Nat => [(0, .slice a1 l1.length c1), (1, .slice a2 l1.length c2), (5, nt k)]) (fun k => k ≤ l1.length ∧ ∀ i, i < k → gt l1 i = gt l2 i) (fun k => l1.length - k) 0 ⟨by omega, by intro i hi; omega⟩ ⟨rfl, rfl, rfl, trivial⟩ ?_
    intro k ⟨hk, hd⟩
    refine WC.seq ?_
    refine WC.seq ?_
    refine WC.ofFr [(0, _), (1, _), (5, _)] ⟨rfl, rfl, rfl, trivial⟩ ?_
    refine WC.region ?_
    refine WL.yd (Yd.move rfl) rfl ?_
    refine WL.yd (Yd.move rfl) rfl ?_
    refine WL.yd (Yd.lenS rfl Try.underlying22 rfl) rfl ?_
    refine WL.yd (Yd.lss rfl rfl) rfl ?_
    refine WL.nil ?_
    refine WP.thenC ?_
    refine WC.cond rfl (fun c14 => ?_) (fun c14 => ?_)
    · try simp only [zq1, zq2, zq3, zq4, zq5, zq6, zq7, zq8] at c14
      have hkl : k < l1.length := by omega
      refine WC.skip ?_
      refine WP.thenC ?_
      refine WC.seq ?_
      refine WC.block ?_
      refine WC.seq ?_
      refine WC.ofFr [(0, _), (1, _), (5, _)] ⟨rfl, rfl, rfl, trivial⟩ ?_
      refine WC.tail 8 [0, 1, 2, 3, 4, 5, 6, 7] rfl (by kernel_rfl) (by kernel_rfl)  ?_
      refine WQ.q rfl (Yd.qt (Yd.move rfl)) rfl ?_
      refine WQ.q rfl (Yd.qt (Yd.move rfl)) rfl ?_
      refine WQ.q rfl (Yd.qt (Yd.indexS Try.underlying22 Try.sizeOf3 rfl rfl (by (try dsimp only); omega) (by (try dsimp only); omega) (by first | exact hS1.addr k (by omega) | exact hS2.addr k (by omega)))) rfl ?_
      refine WQ.q rfl (Yd.qt (Yd.load1 Try.isAgg3 rfl (by first | exact ((hS1.at k (by omega)).rd 0 rfl) | exact ((hS2.at k (by omega)).rd 0 rfl)))) rfl ?_
      refine WQ.q rfl (Yd.qt (Yd.move rfl)) rfl ?_
      refine WQ.q rfl (Yd.qt (Yd.move rfl)) rfl ?_
      refine WQ.q rfl (Yd.qt (Yd.indexS Try.underlying22 Try.sizeOf3 rfl rfl (by (try dsimp only); omega) (by (try dsimp only); omega) (by first | exact hS1.addr k (by omega) | exact hS2.addr k (by omega)))) rfl ?_
      refine WQ.q rfl (Yd.qt (Yd.load1 Try.isAgg3 rfl (by first | exact ((hS1.at k (by omega)).rd 0 rfl) | exact ((hS2.at k (by omega)).rd 0 rfl)))) rfl ?_
      refine WQ.tail ?_
      refine WL.yd (Yd.neq rfl rfl) rfl ?_
      refine WL.nil ?_
      refine WP.thenC ?_
      refine WC.cond rfl (fun c25 => ?_) (fun c25 => ?_)
      · try simp only [zq1, zq2, zq3, zq4, zq5, zq6, zq7, zq8] at c25
        refine WC.seq ?_
        refine WC.ofFr [(0, _), (1, _), (5, _)] ⟨rfl, rfl, rfl, trivial⟩ ?_
        refine WC.region ?_
        refine WL.yd (Yd.assign rfl) rfl ?_
        refine WL.nil ?_
        refine WP.thenC ?_
        refine WC.ret ?_
        refine WP.blkRet ?_
        refine WP.thenRet ?_
        refine WP.thenRet ?_
        refine WP.blkRet ?_
        refine WP.thenRet ?_
        refine WP.ret1 rfl rfl Try.results11 (RV.tmp rfl) (fun w hI => ⟨ret_bool (Eq.symm (decide_eq_false fun e => c25 (by rw [e]))), hI.keep⟩)
      · try simp only [zq1, zq2, zq3, zq4, zq5, zq6, zq7, zq8] at c25
        refine WC.skip ?_
        refine WP.blkNormal ?_
        refine WP.thenC ?_
        refine WC.ofFr [(0, _), (1, _), (5, _)] ⟨rfl, rfl, rfl, trivial⟩ ?_
        refine WC.region ?_
        refine WL.yd (Yd.move rfl) rfl ?_
        refine WL.yd (Yd.addN rfl rfl (by (try dsimp only); omega)) rfl ?_
        refine WL.yd (Yd.assign rfl) rfl ?_
        refine WL.nil ?_
        exact WP.againF (k + 1) ⟨by omega, ext_round hd (Classical.not_not.1 c25)⟩ (by omega) ⟨rfl, rfl, rfl, trivial⟩ (fun _ h => h) (fun h => h)
    · try simp only [zq1, zq2, zq3, zq4, zq5, zq6, zq7, zq8] at c14
      obtain rfl : k = l1.length := by omega
      refine WC.exit ?_
      refine WP.thenExit ?_
      refine WP.thenExit ?_
      refine WP.blkHit ?_
      refine WP.thenC ?_
      refine WC.seq ?_
      refine WC.ofFr [] trivial ?_
      refine WC.region ?_
      refine WL.yd (Yd.assign rfl) rfl ?_
      refine WL.nil ?_
      refine WP.thenC ?_
      refine WC.ret ?_
      refine WP.ret1 rfl rfl Try.results11 (RV.tmp rfl) (fun w hI => ⟨ret_bool (Eq.symm (decide_eq_true (ints_ext hle hd))), hI.keep⟩)

end Go.Proofs.Ytpnbkdlejfmbeaa
