import Derived.Test.YtpnbkdlejfmbeaaYB35
set_option linter.unusedSimpArgs false
set_option linter.unusedVariables false
set_option linter.all false
namespace Go.Proofs.Ytpnbkdlejfmbeaa
open Go.W Go.Ti

theorem fineO_0 {X : Till} {n : Int} (h : spanE X n = 0) : FineOut X n = (fineSp X n, 0) := by unfold FineOut; rw [if_neg (by rw [h]; simp)]
theorem backO_0 {X : Till} {n : Int} (h : spanE X n = 0) : BackOut X n = (backSp X n, 0) := by unfold BackOut; rw [if_neg (by rw [h]; simp)]
theorem finesO_0 {X : Till} (h : toldE X [] = 0) : FinesOut X = (⟨(WrongOut X.tk).1.lo * X.fine, (WrongOut X.tk).1.hi * X.fine⟩, 0) := by unfold FinesOut; rw [if_neg (by rw [h]; simp)]
theorem spanT_0 {X : Till} (hb : tillB X = true) (hW : tksE X.tk true = 0) {n : Int} (hn : isT X.tk n = true) : spanE X n = 0 := by
  unfold spanE
  rw [tillE_0 hb (by simp) hn (by intro k hk; simp at hk), if_neg (by simp), hW]
theorem told_0 {X : Till} (hb : tillB X = true) (hW : tksE X.tk true = 0) : toldE X [] = 0 := by
  rw [toldE_2 (tillE_0 hb (by simp) rfl (by intro k hk; simp at hk)), hW]
def fineO (X : Till) (y : List Pr) (k i : Nat) : Int := if (List.range i).any (overT (gt y) k) then X.fine else 0
theorem fineO_y {X : Till} {y : List Pr} {k i : Nat} (h : overT (gt y) k i = true) : fineO X y k (i + 1) = X.fine := by
  unfold fineO; rw [List.range_succ, List.any_append, if_pos (by simp [h])]
theorem fineO_n {X : Till} {y : List Pr} {k i : Nat} (h : overT (gt y) k i = false) : fineO X y k (i + 1) = fineO X y k i := by
  unfold fineO; rw [List.range_succ, List.any_append]; simp [h]
theorem fineO_all (X : Till) (y : List Pr) (k : Nat) : fineO X y k y.length = fineY X y k := by
  unfold fineO fineY turnT
  cases (List.range y.length).any (overT (gt y) k) <;> simp
theorem over_y {y : List Pr} {k i : Nat} (h1 : (gt y i).1 < (gt y k).1 ∨ ((gt y i).1 = (gt y k).1 ∧ i < k)) (h2 : (gt y k).2 < (gt y i).2) : overT (gt y) k i = true := by
  unfold overT befT; rw [decide_eq_true h1, decide_eq_true h2]; rfl
theorem over_n1 {y : List Pr} {k i : Nat} (h1 : ¬ ((gt y i).1 < (gt y k).1 ∨ ((gt y i).1 = (gt y k).1 ∧ i < k))) : overT (gt y) k i = false := by
  unfold overT befT; rw [decide_eq_false h1]; rfl
theorem over_n2 {y : List Pr} {k i : Nat} (h2 : ¬ (gt y k).2 < (gt y i).2) : overT (gt y) k i = false := by
  unfold overT; rw [decide_eq_false h2]; simp
theorem due_11 {X : Till} {y : List Pr} {i : Nat} (h1 : fineY X y i > 0) (h2 : backY X y i > 0) : bookY X y (i + 1) = bookY X y i ++ [⟨(i : Int), 1, X.price⟩, ⟨(i : Int), 2, fineY X y i⟩, ⟨(i : Int), 3, backY X y i⟩] := by
  rw [bookY, dueY, dueF, dueB, if_pos h1, if_pos h2]; rfl
theorem due_10 {X : Till} {y : List Pr} {i : Nat} (h1 : fineY X y i > 0) (h2 : ¬ backY X y i > 0) : bookY X y (i + 1) = bookY X y i ++ [⟨(i : Int), 1, X.price⟩, ⟨(i : Int), 2, fineY X y i⟩] := by
  rw [bookY, dueY, dueF, dueB, if_pos h1, if_neg h2]; rfl
theorem due_01 {X : Till} {y : List Pr} {i : Nat} (h1 : ¬ fineY X y i > 0) (h2 : backY X y i > 0) : bookY X y (i + 1) = bookY X y i ++ [⟨(i : Int), 1, X.price⟩, ⟨(i : Int), 3, backY X y i⟩] := by
  rw [bookY, dueY, dueF, dueB, if_neg h1, if_pos h2]; rfl
theorem due_00 {X : Till} {y : List Pr} {i : Nat} (h1 : ¬ fineY X y i > 0) (h2 : ¬ backY X y i > 0) : bookY X y (i + 1) = bookY X y i ++ [⟨(i : Int), 1, X.price⟩] := by
  rw [bookY, dueY, dueF, dueB, if_neg h1, if_neg h2]; rfl
theorem ent_1 (l : List Ent) (a : Ent) : (l ++ [a]).flatMap entC = l.flatMap entC ++ entC a := by simp [List.flatMap_append]
theorem ent_2 (l : List Ent) (a b : Ent) : (l ++ [a, b]).flatMap entC = (l.flatMap entC ++ entC a) ++ entC b := by simp [List.flatMap_append]
theorem ent_3 (l : List Ent) (a b c : Ent) : (l ++ [a, b, c]).flatMap entC = ((l.flatMap entC ++ entC a) ++ entC b) ++ entC c := by simp [List.flatMap_append]
theorem ow_some {w : World} {o : Option Ow} {n m : Nat} (h : owP w o n m) (hn : 0 < n) : ∃ u, o = some u := by
  cases o with
  | none => have : n = 0 := h; omega
  | some u => exact ⟨u, rfl⟩
theorem tru_0 {X : Till} (hb : tillB X = true) {y : List Pr} (hl : y.length = X.tk.l.length) (hs : Sol X.tk (gt y)) : tksE X.tk true = 0 ∧ y ∈ RF X.tk := by
  refine ⟨?_, ref_sol.2 ⟨hl, hs⟩⟩
  have hm := mem_allT.2 hs
  unfold tksE
  rw [if_neg (by rw [(tillB_num hb).1]; simp), if_neg (by simp), if_neg]
  intro he
  rw [List.isEmpty_iff.1 he] at hm
  cases hm

set_option maxRecDepth 100000 in
set_option maxHeartbeats 1000000 in
theorem linside_g (n : Int) (s : Sp) (w : World) : Gives Try.prog 24 [it n, spV s] w (.bool (decide (s.lo ≤ n ∧ n ≤ s.hi))) := by
  unfold Gives
  refine enter Try.func24 rfl 15 Try.ntmps24 (Nat.le_of_ble_eq_true rfl) (Inv.start (D := fun _ => none) (by intro _ _ h; cases h)) ?_
  refine WC.seq ?_
  refine WC.ofFr [(0, _), (1, _)] ⟨rfl, rfl, trivial⟩ ?_
  refine WC.region ?_
  refine WL.so (SO.box rfl rfl) rfl ?_
  rintro _ _ _ ⟨b3, hb3, rfl, rfl, rfl⟩ -- NEW
  refine WL.yd (Yd.assign rfl) rfl ?_
  refine WL.nil ?_
  refine WP.thenC ?_
  refine WC.seq ?_
  refine WC.ofFr [(4, _), (3, _), (0, _)] ⟨rfl, rfl, rfl, trivial⟩ ?_
  refine WC.region ?_
  refine WL.yd (Yd.fieldAddr FA30_0 rfl) rfl ?_
  refine WL.yd (Yd.load1 Try.isAgg3 rfl (by first | exact Rd.own (k := 0) rfl rfl)) rfl ?_
  refine WL.yd (Yd.move rfl) rfl ?_
  refine WL.yd (Yd.leq rfl rfl) rfl ?_
  refine WL.yd (Yd.move rfl) rfl ?_
  refine WL.part 9 rfl (fun g9 => ?_) (fun g9 => ?_)
  · try simp only [zq1, zq2, zq3, zq4, zq5, zq6, zq7, zq8] at g9
    refine WL.ydg rfl (Yd.move rfl) rfl ?_
    refine WL.ydg rfl (Yd.fieldAddr FA30_1 rfl) rfl ?_
    refine WL.ydg rfl (Yd.load1 Try.isAgg3 rfl (by first | exact Rd.own (k := 0) rfl rfl)) rfl ?_
    refine WL.ydg rfl (Yd.leq rfl rfl) rfl ?_
    refine WL.yd (Yd.pickT rfl rfl) rfl ?_
    refine WL.yd (Yd.assign rfl) rfl ?_
    refine WL.nil ?_
    refine WP.thenC ?_
    refine WC.ret ?_
    refine WP.ret1 rfl rfl Try.results24 (RV.tmp rfl) (fun w hI => ⟨ret_bool (by rw [Bool.eq_iff_iff]; simp; omega), hI.keep⟩)
  · try simp only [zq1, zq2, zq3, zq4, zq5, zq6, zq7, zq8] at g9
    refine WL.skip rfl rfl ?_
    refine WL.skip rfl rfl ?_
    refine WL.skip rfl rfl ?_
    refine WL.skip rfl rfl ?_
    refine WL.yd (Yd.pickF rfl rfl) rfl ?_
    refine WL.yd (Yd.assign rfl) rfl ?_
    refine WL.nil ?_
    refine WP.thenC ?_
    refine WC.ret ?_
    refine WP.ret1 rfl rfl Try.results24 (RV.tmp rfl) (fun w hI => ⟨ret_bool (by rw [Bool.eq_iff_iff]; simp; omega), hI.keep⟩)

set_option maxRecDepth 100000 in
set_option maxHeartbeats 1000000 in
theorem true_g (by_ : List Int) (a0 : Option Addr) (n0 c0 : Nat) (D : Imm) (w : World) (hS : SlL D 1 (by_.map u16C) a0 n0) (hn : ∀ i, i < by_.length → 0 ≤ gt by_ i ∧ gt by_ i ≤ 65535) (hH : Holds D w) : Gives Try.prog 5 [.slice a0 n0 c0] w (.bool true) := by
  unfold Gives
  refine enter Try.func5 rfl 277 Try.ntmps5 (Nat.le_of_ble_eq_true rfl) (Inv.start hH) ?_
  refine WC.seq ?_
  refine WC.ofFr [(0, _)] ⟨rfl, trivial⟩ ?_
  refine WC.region ?_
  refine WL.yd (Yd.assign rfl) rfl ?_
  refine WL.nil ?_
  refine WP.thenC ?_
  refine WC.seq ?_
  refine WC.ofFr [(2, _), (0, _)] ⟨rfl, rfl, trivial⟩ ?_
  refine WC.region ?_
  refine WL.yd (Yd.move rfl) rfl ?_
  refine WL.so (SO.news (Enters.func Try.call22 rfl) (fun w hI => draws_g by_ a0 n0 c0 _ w hS hn hI.imm)) rfl ?_
  rintro _ D1 _ ⟨_, hX1, ⟨bc, bb, rfl, hB, rfl⟩, rfl⟩
  refine WL.yd (Yd.assign rfl) rfl ?_
  refine WL.nil ?_
  refine WP.thenC ?_
  refine WC.seq ?_
  refine WC.ofFr [(3, _), (2, _)] ⟨rfl, rfl, trivial⟩ ?_
  refine WC.region ?_
  refine WL.yd (Yd.move rfl) rfl ?_
  refine WL.so (SO.altersN (own := []) (hpc := [(bc, cntO 0)]) (S1 := [bc]) (fun _ h => h) (fun h => h) (fun _ h => h) (fun _ h => h) (Enters.func Try.call23 rfl) (fun w hI => made_g by_ bc bb 0 D1 w hB (by omega) hI)) rfl ?_
  rintro _ D2 _ ⟨_, hX2, ⟨X, y, a1, c1, a2, c2, a3, c3, j1, rfl, hb, hyl, hsol, hR, hS2, hS3, hj1, rfl⟩, rfl⟩
  have hv := (tillB_num hb).1
  have hl1 := hR.len
  have h5 := (tks_num hv).2.1
  obtain ⟨hW, hy⟩ := tru_0 hb hyl hsol
  have htn := tillB_num hb
  have hpl : 0 ≤ X.price * (X.tk.l.length : Int) ∧ X.price * (X.tk.l.length : Int) ≤ 2400 := mul_100 htn.2.1 (by omega)
  replace hB := hB.ext hX2
  refine WL.yd (Yd.move rfl) rfl ?_
  refine WL.yd (Yd.extract rfl rfl) rfl ?_
  refine WL.yd (Yd.extract rfl rfl) rfl ?_
  refine WL.yd (Yd.extract rfl rfl) rfl ?_
  refine WL.so (SO.alloc Try.zeroValue37 rfl) rfl ?_
  rintro _ _ _ ⟨b4, hb4, rfl, rfl, rfl⟩ -- NEW
  refine WL.so (SO.store 0 rfl Try.sizeOf37 rfl rfl rfl rfl (Nat.le_of_ble_eq_true rfl) (oneB_spec rfl)) rfl ?_
  rintro _ _ _ ⟨rfl, rfl, rfl⟩
  refine WL.yd (Yd.assign rfl) rfl ?_
  refine WL.yd (Yd.assign rfl) rfl ?_
  refine WL.nil ?_
  refine WP.thenC ?_
  refine WC.seq ?_
  refine WC.freezeN 0 b4 (.cells (List.toArray (tillC X (.slice a1 X.tk.l.length c1))) 37 (0, 0)) rfl rfl hb4 (fun D4 hX4 h4 => ?_)
  replace hR := hR.ext hX4
  replace hB := hB.ext hX4
  replace hS2 := hS2.ext hX4
  replace hS3 := hS3.ext hX4
  refine WC.ofFr [(6, _), (5, _), (4, _), (3, _), (2, _)] ⟨rfl, rfl, rfl, rfl, rfl, trivial⟩ ?_
  refine WC.region ?_
  refine WL.yd (Yd.loadN Try.isAgg37 Try.sizeOf37 rfl (vs := [_, _, _, _, _]) rfl (by first | exact RdN.own (k := 0) (n := 5) rfl rfl | exact (RdN.imm (n := 5) h4 rfl) | exact (RdN.own (k := 0) (n := 2) rfl rfl) | exact (RdN.own (k := 1) (n := 2) rfl rfl))) rfl ?_
  refine WL.so (SO.callP Try.call20 rfl (fun w hI => Gives.cv (.tuple #[it (X.price * X.tk.l.length), it 0]) (Takings_g X a1 _ c1 _ _ hR hI.imm) (by rw [show TakingsOut X = (X.price * X.tk.l.length, 0) by unfold TakingsOut; rw [if_neg (by rw [hb]; simp)]]))) rfl ?_
  rintro _ _ _ ⟨rfl, rfl, rfl⟩
  refine WL.yd (Yd.move rfl) rfl ?_
  refine WL.yd (Yd.extract rfl rfl) rfl ?_
  refine WL.yd (Yd.extract rfl rfl) rfl ?_
  refine WL.yd (Yd.assign rfl) rfl ?_
  refine WL.yd (Yd.assign rfl) rfl ?_
  refine WL.nil ?_
  refine WP.thenC ?_
  refine WC.seq ?_
  refine WC.ofFr [(8, _), (7, _), (6, _), (5, _), (4, _), (3, _), (2, _)] ⟨rfl, rfl, rfl, rfl, rfl, rfl, rfl, trivial⟩ ?_
  refine WC.region ?_
  refine WL.yd (Yd.loadN Try.isAgg37 Try.sizeOf37 rfl (vs := [_, _, _, _, _]) rfl (by first | exact RdN.own (k := 0) (n := 5) rfl rfl | exact (RdN.imm (n := 5) h4 rfl) | exact (RdN.own (k := 0) (n := 2) rfl rfl) | exact (RdN.own (k := 1) (n := 2) rfl rfl))) rfl ?_
  refine WL.so (SO.callP Try.call19 rfl (fun w hI => Gives.cv (.tuple #[spV ⟨(WrongOut X.tk).1.lo * X.fine, (WrongOut X.tk).1.hi * X.fine⟩, it 0]) (Fines_g X a1 _ c1 _ _ hR hI.imm) (by rw [finesO_0 (told_0 hb hW)]))) rfl ?_
  rintro _ _ _ ⟨rfl, rfl, rfl⟩
  refine WL.yd (Yd.move rfl) rfl ?_
  refine WL.yd (Yd.extract rfl rfl) rfl ?_
  refine WL.yd (Yd.extract rfl rfl) rfl ?_
  refine WL.so (SO.alloc Try.zeroValue30 rfl) rfl ?_
  rintro _ _ _ ⟨b9, hb9, rfl, rfl, rfl⟩ -- NEW
  refine WL.so (SO.store 0 rfl Try.sizeOf30 rfl rfl rfl rfl (Nat.le_of_ble_eq_true rfl) (oneB_spec rfl)) rfl ?_
  rintro _ _ _ ⟨rfl, rfl, rfl⟩
  refine WL.yd (Yd.assign rfl) rfl ?_
  refine WL.nil ?_
  refine WP.thenC ?_
  refine WC.seq ?_
  refine WC.seq ?_
  refine WC.freezeN 0 b9 (.cells (List.toArray [it ((WrongOut X.tk).1.lo * X.fine), it ((WrongOut X.tk).1.hi * X.fine)]) 30 (0, 0)) rfl rfl hb9 (fun D5 hX9 h9 => ?_)
  replace hR := hR.ext hX9
  replace hB := hB.ext hX9
  replace hS2 := hS2.ext hX9
  replace hS3 := hS3.ext hX9
  replace h4 := hX9.old _ _ h4
  refine WC.ofFr [(10, _), (9, _), (8, _), (7, _), (6, _), (5, _), (4, _), (3, _), (2, _)] ⟨rfl, rfl, rfl, rfl, rfl, rfl, rfl, rfl, rfl, trivial⟩ ?_
  refine WC.region ?_
  refine WL.yd (Yd.move rfl) rfl ?_
  refine WL.yd (Yd.neq rfl rfl) rfl ?_
  refine WL.know 52 (.bool false) rfl (congrArg Value.bool (by decide)) ?_
  refine WL.yd (Yd.move rfl) rfl ?_
  refine WL.ydg rfl (Yd.move rfl) rfl ?_
  refine WL.ydg rfl (Yd.neq rfl rfl) rfl ?_
  refine WL.know 55 (.bool false) rfl (congrArg Value.bool (by decide)) ?_
  refine WL.yd (Yd.pickF rfl rfl) rfl ?_
  refine WL.yd (Yd.move rfl) rfl ?_
  refine WL.ydg rfl (Yd.move rfl) rfl ?_
  refine WL.ydg rfl (Yd.fieldAddr FA37_1 rfl) rfl ?_
  refine WL.ydg rfl (Yd.load1 Try.isAgg3 rfl (by first | exact Rd.own (k := 0) rfl rfl | exact (Rd.imm h4 rfl))) rfl ?_
  refine WL.ydg rfl (Yd.move rfl) rfl ?_
  refine WL.ydg rfl (Yd.lenS rfl Try.underlying22 rfl) rfl ?_
  refine WL.ydg rfl (Yd.mul (i := X.price) (j := (X.tk.l.length : Int)) rfl rfl (wr64 ⟨by omega, by omega⟩)) rfl ?_
  refine WL.ydg rfl (Yd.neq rfl rfl) rfl ?_
  refine WL.know 64 (.bool false) rfl (congrArg Value.bool (decide_eq_false (by (try dsimp only); omega))) ?_
  refine WL.yd (Yd.pickF rfl rfl) rfl ?_
  refine WL.nil ?_
  refine WP.thenC ?_
  refine WC.condF rfl ?_
  refine WC.skip ?_
  refine WP.thenC ?_
  refine WC.seq ?_
  refine WC.ofFr [(9, _), (6, _), (5, _), (4, _), (3, _), (2, _)] ⟨rfl, rfl, rfl, rfl, rfl, rfl, trivial⟩ ?_
  refine WC.region ?_
  refine WL.yd (Yd.assign rfl) rfl ?_
  refine WL.nil ?_
  refine WP.thenC ?_
  refine WC.seq ?_
  refine WC.ofFr [(11, _), (9, _), (6, _), (5, _), (4, _), (3, _), (2, _)] ⟨rfl, rfl, rfl, rfl, rfl, rfl, rfl, trivial⟩ ?_
  refine WC.region ?_
  refine WL.yd (Yd.assign rfl) rfl ?_
  refine WL.yd (Yd.assign rfl) rfl ?_
  refine WL.nil ?_
  refine WP.thenC ?_
  refine WC.seq ?_
  refine WC.seq ?_
  refine WC.ofFr [(13, _), (12, _), (11, _), (9, _), (6, _), (5, _), (4, _), (3, _), (2, _)] ⟨rfl, rfl, rfl, rfl, rfl, rfl, rfl, rfl, rfl, trivial⟩ ?_
  refine WC.region ?_
  refine WL.yd (Yd.move rfl) rfl ?_
  refine WL.yd (Yd.lenS rfl Try.underlying22 rfl) rfl ?_
  refine WL.yd (Yd.move rfl) rfl ?_
  refine WL.nil ?_
  refine WP.thenC ?_
  refine WC.block ?_
  refine WC.loop (fun q : Nat × Option Ow => [(3, fvV bc bb), (4, pt b4), (5, .slice a2 X.tk.l.length c2), (6, .slice a3 X.tk.l.length c3), (9, pt b9), (11, owV q.2 (bookY X y q.1).length), (12, it (sumT X y q.1)), (13, it (sumFi X y q.1)), (67, nt X.tk.l.length), (68, nt q.1)]) (fun q => ((bc, cntO j1) :: owH q.2 44 ((bookY X y q.1).flatMap entC) [])) (fun _ => D5) (fun q => q.1 ≤ X.tk.l.length ∧ owP w q.2 (bookY X y q.1).length 3) (fun q => X.tk.l.length - q.1) (0, none) ⟨by omega, rfl⟩ (fun a w h => at_fr h ⟨rfl, rfl, rfl, rfl, rfl, rfl, rfl, rfl, rfl, rfl, trivial⟩) ?_
  rintro ⟨k, o⟩ ⟨hk, ho⟩
  dsimp only at hk ho
  refine WC.seq ?_
  refine WC.ofFr [(3, _), (4, _), (5, _), (6, _), (9, _), (11, _), (12, _), (13, _), (67, _), (68, _)] ⟨rfl, rfl, rfl, rfl, rfl, rfl, rfl, rfl, rfl, rfl, trivial⟩ ?_
  refine WC.region ?_
  refine WL.yd (Yd.lss rfl rfl) rfl ?_
  refine WL.nil ?_
  refine WP.thenC ?_
  refine WC.seq ?_
  refine WC.cond rfl (fun c69 => ?_) (fun c69 => ?_)
  · try simp only [zq1, zq2, zq3, zq4, zq5, zq6, zq7, zq8] at c69
    have hkl : k < X.tk.l.length := by omega
    have hin : isT X.tk (k : Int) = true := decide_eq_true (by omega)
    have hsE := spanT_0 hb hW hin
    have hqn := sol_num hv (ref_all hy).2 hkl
    have hfi := fine_in hb hW hy hkl
    have hbi := back_in hb hW hy hkl
    have hfn := fineY_num hb y k
    have hsn := sumT_num hb hy k (by omega)
    have hpn := sumFi_num hb y k
    have hbl := bookY_len X y k
    have hbw : 0 ≤ ((gt y k).2 - (gt y k).1) / 10 * X.wait ∧ ((gt y k).2 - (gt y k).1) / 10 * X.wait ≤ 2400 := backY_num hb hy hkl
    refine WC.skip ?_
    refine WP.thenC ?_
    refine WC.seq ?_
    refine WC.block ?_
    refine WC.seq ?_
    refine WC.ofFr [(3, _), (4, _), (5, _), (6, _), (9, _), (11, _), (12, _), (13, _), (67, _), (68, _)] ⟨rfl, rfl, rfl, rfl, rfl, rfl, rfl, rfl, rfl, rfl, trivial⟩ ?_
    refine WC.region ?_
    refine WL.yd (Yd.move rfl) rfl ?_
    refine WL.yd (Yd.assign rfl) rfl ?_
    refine WL.nil ?_
    refine WP.thenC ?_
    refine WC.seq ?_
    refine WC.ofFr [(14, _), (3, _), (4, _), (5, _), (6, _), (9, _), (11, _), (12, _), (13, _), (67, _), (68, _)] ⟨rfl, rfl, rfl, rfl, rfl, rfl, rfl, rfl, rfl, rfl, rfl, trivial⟩ ?_
    refine WC.region ?_
    refine WL.yd (Yd.assign rfl) rfl ?_
    refine WL.nil ?_
    refine WP.thenC ?_
    refine WC.seq ?_
    refine WC.seq ?_
    refine WC.ofFr [(15, _), (14, _), (3, _), (4, _), (5, _), (6, _), (9, _), (11, _), (12, _), (13, _), (67, _), (68, _)] ⟨rfl, rfl, rfl, rfl, rfl, rfl, rfl, rfl, rfl, rfl, rfl, rfl, trivial⟩ ?_
    refine WC.region ?_
    refine WL.yd (Yd.move rfl) rfl ?_
    refine WL.yd (Yd.lenS rfl Try.underlying22 rfl) rfl ?_
    refine WL.yd (Yd.move rfl) rfl ?_
    refine WL.nil ?_
    refine WP.thenC ?_
    refine WC.block ?_
    refine WC.loopF (fun i : Nat => [(3, fvV bc bb), (4, pt b4), (5, .slice a2 X.tk.l.length c2), (6, .slice a3 X.tk.l.length c3), (9, pt b9), (11, owV o (bookY X y k).length), (12, it (sumT X y k)), (13, it (sumFi X y k)), (67, nt X.tk.l.length), (68, nt k), (14, nt k), (15, it (fineO X y k i)), (72, nt X.tk.l.length), (73, nt i)]) (fun i => i ≤ X.tk.l.length) (fun i => X.tk.l.length - i) 0 (by omega) ⟨rfl, rfl, rfl, rfl, rfl, rfl, rfl, rfl, rfl, rfl, rfl, rfl, rfl, rfl, trivial⟩ ?_
    intro i hi
    refine WC.seq ?_
    refine WC.ofFr [(3, _), (4, _), (5, _), (6, _), (9, _), (11, _), (12, _), (13, _), (67, _), (68, _), (14, _), (15, _), (72, _), (73, _)] ⟨rfl, rfl, rfl, rfl, rfl, rfl, rfl, rfl, rfl, rfl, rfl, rfl, rfl, rfl, trivial⟩ ?_
    refine WC.region ?_
    refine WL.yd (Yd.lss rfl rfl) rfl ?_
    refine WL.nil ?_
    refine WP.thenC ?_
    refine WC.seq ?_
    refine WC.cond rfl (fun c74 => ?_) (fun c74 => ?_)
    · try simp only [zq1, zq2, zq3, zq4, zq5, zq6, zq7, zq8] at c74
      have hil : i < X.tk.l.length := by omega
      refine WC.skip ?_
      refine WP.thenC ?_
      refine WC.seq ?_
      refine WC.block ?_
      refine WC.seq ?_
      refine WC.ofFr [(3, _), (4, _), (5, _), (6, _), (9, _), (11, _), (12, _), (13, _), (67, _), (68, _), (14, _), (15, _), (72, _), (73, _)] ⟨rfl, rfl, rfl, rfl, rfl, rfl, rfl, rfl, rfl, rfl, rfl, rfl, rfl, rfl, trivial⟩ ?_
      refine WC.region ?_
      refine WL.yd (Yd.move rfl) rfl ?_
      refine WL.yd (Yd.assign rfl) rfl ?_
      refine WL.nil ?_
      refine WP.thenC ?_
      refine WC.seq ?_
      refine WC.ofFr [(16, _), (3, _), (4, _), (5, _), (6, _), (9, _), (11, _), (12, _), (13, _), (67, _), (68, _), (14, _), (15, _), (72, _), (73, _)] ⟨rfl, rfl, rfl, rfl, rfl, rfl, rfl, rfl, rfl, rfl, rfl, rfl, rfl, rfl, rfl, trivial⟩ ?_
      refine WC.tail 34 [0, 1, 2, 3, 4, 5, 6, 7, 8, 9, 10, 11, 12, 13, 14, 15, 16, 17, 18, 19, 20, 21, 22, 23, 24, 25, 26, 27, 28, 29, 30, 31, 32, 33] rfl (by kernel_rfl) (by kernel_rfl)  ?_
      refine WQ.q rfl (Yd.qt (Yd.move rfl)) rfl ?_
      refine WQ.q rfl (Yd.qt (Yd.move rfl)) rfl ?_
      refine WQ.q rfl (Yd.qt (Yd.indexS Try.underlying22 Try.sizeOf3 rfl rfl (by (try dsimp only); omega) (by (try dsimp only); omega) (by first | exact hS2.addr i (by omega) | exact hS2.addr k (by omega) | exact hS3.addr i (by omega) | exact hS3.addr k (by omega)))) rfl ?_
      refine WQ.q rfl (Yd.qt (Yd.load1 Try.isAgg3 rfl (by first | exact Rd.own (k := 0) rfl rfl | exact Rd.own (k := 1) rfl rfl | exact ((hS2.at i (by omega)).rd 0 rfl) | exact ((hS2.at k (by omega)).rd 0 rfl) | exact ((hS3.at i (by omega)).rd 0 rfl) | exact ((hS3.at k (by omega)).rd 0 rfl)))) rfl ?_
      refine WQ.q rfl (Yd.qt (Yd.move rfl)) rfl ?_
      refine WQ.q rfl (Yd.qt (Yd.move rfl)) rfl ?_
      refine WQ.q rfl (Yd.qt (Yd.indexS Try.underlying22 Try.sizeOf3 rfl rfl (by (try dsimp only); omega) (by (try dsimp only); omega) (by first | exact hS2.addr i (by omega) | exact hS2.addr k (by omega) | exact hS3.addr i (by omega) | exact hS3.addr k (by omega)))) rfl ?_
      refine WQ.q rfl (Yd.qt (Yd.load1 Try.isAgg3 rfl (by first | exact Rd.own (k := 0) rfl rfl | exact Rd.own (k := 1) rfl rfl | exact ((hS2.at i (by omega)).rd 0 rfl) | exact ((hS2.at k (by omega)).rd 0 rfl) | exact ((hS3.at i (by omega)).rd 0 rfl) | exact ((hS3.at k (by omega)).rd 0 rfl)))) rfl ?_
      refine WQ.q rfl (Yd.qt (Yd.lss rfl rfl)) rfl ?_
      refine WQ.q rfl (Yd.qt (Yd.move rfl)) rfl ?_
      refine WQ.part 85 rfl (fun g85 => ?_) (fun g85 => ?_)
      · try simp only [zq1, zq2, zq3, zq4, zq5, zq6, zq7, zq8] at g85
        refine WQ.skip rfl rfl rfl ?_
        refine WQ.skip rfl rfl rfl ?_
        refine WQ.skip rfl rfl rfl ?_
        refine WQ.skip rfl rfl rfl ?_
        refine WQ.skip rfl rfl rfl ?_
        refine WQ.skip rfl rfl rfl ?_
        refine WQ.skip rfl rfl rfl ?_
        refine WQ.skip rfl rfl rfl ?_
        refine WQ.skip rfl rfl rfl ?_
        refine WQ.skip rfl rfl rfl ?_
        refine WQ.skipU rfl rfl rfl ?_
        refine WQ.skipU rfl rfl rfl ?_
        refine WQ.skipU rfl rfl rfl ?_
        refine WQ.skip rfl rfl rfl ?_
        refine WQ.q rfl (Yd.qt (Yd.pickT rfl rfl)) rfl ?_
        refine WQ.q rfl (Yd.qt (Yd.move rfl)) rfl ?_
        refine WQ.qg rfl rfl (Yd.qt (Yd.move rfl)) rfl ?_
        refine WQ.qg rfl rfl (Yd.qt (Yd.move rfl)) rfl ?_
        refine WQ.qg rfl rfl (Yd.qt (Yd.indexS Try.underlying22 Try.sizeOf3 rfl rfl (by (try dsimp only); omega) (by (try dsimp only); omega) (by first | exact hS2.addr i (by omega) | exact hS2.addr k (by omega) | exact hS3.addr i (by omega) | exact hS3.addr k (by omega)))) rfl ?_
        refine WQ.qg rfl rfl (Yd.qt (Yd.load1 Try.isAgg3 rfl (by first | exact Rd.own (k := 0) rfl rfl | exact Rd.own (k := 1) rfl rfl | exact ((hS2.at i (by omega)).rd 0 rfl) | exact ((hS2.at k (by omega)).rd 0 rfl) | exact ((hS3.at i (by omega)).rd 0 rfl) | exact ((hS3.at k (by omega)).rd 0 rfl)))) rfl ?_
        refine WQ.qg rfl rfl (Yd.qt (Yd.move rfl)) rfl ?_
        refine WQ.qg rfl rfl (Yd.qt (Yd.move rfl)) rfl ?_
        refine WQ.qg rfl rfl (Yd.qt (Yd.indexS Try.underlying22 Try.sizeOf3 rfl rfl (by (try dsimp only); omega) (by (try dsimp only); omega) (by first | exact hS2.addr i (by omega) | exact hS2.addr k (by omega) | exact hS3.addr i (by omega) | exact hS3.addr k (by omega)))) rfl ?_
        refine WQ.qg rfl rfl (Yd.qt (Yd.load1 Try.isAgg3 rfl (by first | exact Rd.own (k := 0) rfl rfl | exact Rd.own (k := 1) rfl rfl | exact ((hS2.at i (by omega)).rd 0 rfl) | exact ((hS2.at k (by omega)).rd 0 rfl) | exact ((hS3.at i (by omega)).rd 0 rfl) | exact ((hS3.at k (by omega)).rd 0 rfl)))) rfl ?_
        refine WQ.tail ?_
        refine WL.ydg rfl (Yd.gtr rfl rfl) rfl ?_
        refine WL.yd (Yd.pickT rfl rfl) rfl ?_
        refine WL.nil ?_
        refine WP.thenC ?_
        refine WC.cond rfl (fun c111 => ?_) (fun c111 => ?_)
        · try simp only [zq1, zq2, zq3, zq4, zq5, zq6, zq7, zq8] at c111
          refine WC.ofFr [(3, _), (4, _), (5, _), (6, _), (9, _), (11, _), (12, _), (13, _), (67, _), (68, _), (14, _), (15, _), (72, _), (73, _)] ⟨rfl, rfl, rfl, rfl, rfl, rfl, rfl, rfl, rfl, rfl, rfl, rfl, rfl, rfl, trivial⟩ ?_
          refine WC.region ?_
          refine WL.yd (Yd.fieldAddr FA37_2 rfl) rfl ?_
          refine WL.yd (Yd.load1 Try.isAgg3 rfl (by first | exact Rd.own (k := 0) rfl rfl | exact Rd.own (k := 1) rfl rfl | exact (Rd.imm h4 rfl))) rfl ?_
          refine WL.yd (Yd.assign rfl) rfl ?_
          refine WL.nil ?_
          refine WP.blkNormal ?_
          refine WP.thenC ?_
          refine WC.ofFr [(15, _), (3, _), (4, _), (5, _), (6, _), (9, _), (11, _), (12, _), (13, _), (67, _), (68, _), (14, _), (72, _), (73, _)] ⟨rfl, rfl, rfl, rfl, rfl, rfl, rfl, rfl, rfl, rfl, rfl, rfl, rfl, rfl, trivial⟩ ?_
          refine WC.region ?_
          refine WL.yd (Yd.addN (i := i) (j := 1) rfl rfl (by omega)) rfl ?_
          refine WL.yd (Yd.move rfl) rfl ?_
          refine WL.nil ?_
          first
            | exact WP.againF (i + 1) (by omega) (by omega) ⟨rfl, rfl, rfl, rfl, rfl, rfl, rfl, rfl, rfl, rfl, rfl, by rw [fineO_y (by first | exact over_y (by omega) (by omega))]; rfl, rfl, rfl, trivial⟩ (fun _ h => h) (fun h => h)
            | exact WP.againF (i + 1) (by omega) (by omega) ⟨rfl, rfl, rfl, rfl, rfl, rfl, rfl, rfl, rfl, rfl, rfl, by rw [fineO_n (by first | exact over_n2 (by omega) | exact over_n1 (by omega))]; rfl, rfl, rfl, trivial⟩ (fun _ h => h) (fun h => h)
        · try simp only [zq1, zq2, zq3, zq4, zq5, zq6, zq7, zq8] at c111
          refine WC.skip ?_
          refine WP.blkNormal ?_
          refine WP.thenC ?_
          refine WC.ofFr [(3, _), (4, _), (5, _), (6, _), (9, _), (11, _), (12, _), (13, _), (67, _), (68, _), (14, _), (15, _), (72, _), (73, _)] ⟨rfl, rfl, rfl, rfl, rfl, rfl, rfl, rfl, rfl, rfl, rfl, rfl, rfl, rfl, trivial⟩ ?_
          refine WC.region ?_
          refine WL.yd (Yd.addN (i := i) (j := 1) rfl rfl (by omega)) rfl ?_
          refine WL.yd (Yd.move rfl) rfl ?_
          refine WL.nil ?_
          first
            | exact WP.againF (i + 1) (by omega) (by omega) ⟨rfl, rfl, rfl, rfl, rfl, rfl, rfl, rfl, rfl, rfl, rfl, by rw [fineO_y (by first | exact over_y (by omega) (by omega))]; rfl, rfl, rfl, trivial⟩ (fun _ h => h) (fun h => h)
            | exact WP.againF (i + 1) (by omega) (by omega) ⟨rfl, rfl, rfl, rfl, rfl, rfl, rfl, rfl, rfl, rfl, rfl, by rw [fineO_n (by first | exact over_n2 (by omega) | exact over_n1 (by omega))]; rfl, rfl, rfl, trivial⟩ (fun _ h => h) (fun h => h)
      · try simp only [zq1, zq2, zq3, zq4, zq5, zq6, zq7, zq8] at g85
        refine WQ.qg rfl rfl (Yd.qt (Yd.move rfl)) rfl ?_
        refine WQ.qg rfl rfl (Yd.qt (Yd.move rfl)) rfl ?_
        refine WQ.qg rfl rfl (Yd.qt (Yd.indexS Try.underlying22 Try.sizeOf3 rfl rfl (by (try dsimp only); omega) (by (try dsimp only); omega) (by first | exact hS2.addr i (by omega) | exact hS2.addr k (by omega) | exact hS3.addr i (by omega) | exact hS3.addr k (by omega)))) rfl ?_
        refine WQ.qg rfl rfl (Yd.qt (Yd.load1 Try.isAgg3 rfl (by first | exact Rd.own (k := 0) rfl rfl | exact Rd.own (k := 1) rfl rfl | exact ((hS2.at i (by omega)).rd 0 rfl) | exact ((hS2.at k (by omega)).rd 0 rfl) | exact ((hS3.at i (by omega)).rd 0 rfl) | exact ((hS3.at k (by omega)).rd 0 rfl)))) rfl ?_
        refine WQ.qg rfl rfl (Yd.qt (Yd.move rfl)) rfl ?_
        refine WQ.qg rfl rfl (Yd.qt (Yd.move rfl)) rfl ?_
        refine WQ.qg rfl rfl (Yd.qt (Yd.indexS Try.underlying22 Try.sizeOf3 rfl rfl (by (try dsimp only); omega) (by (try dsimp only); omega) (by first | exact hS2.addr i (by omega) | exact hS2.addr k (by omega) | exact hS3.addr i (by omega) | exact hS3.addr k (by omega)))) rfl ?_
        refine WQ.qg rfl rfl (Yd.qt (Yd.load1 Try.isAgg3 rfl (by first | exact Rd.own (k := 0) rfl rfl | exact Rd.own (k := 1) rfl rfl | exact ((hS2.at i (by omega)).rd 0 rfl) | exact ((hS2.at k (by omega)).rd 0 rfl) | exact ((hS3.at i (by omega)).rd 0 rfl) | exact ((hS3.at k (by omega)).rd 0 rfl)))) rfl ?_
        refine WQ.qg rfl rfl (Yd.qt (Yd.eql rfl rfl)) rfl ?_
        refine WQ.qg rfl rfl (Yd.qt (Yd.move rfl)) rfl ?_
        refine WQ.part 95 rfl (fun g95 => ?_) (fun g95 => ?_)
        · try simp only [zq1, zq2, zq3, zq4, zq5, zq6, zq7, zq8] at g95
          refine WQ.qg rfl rfl (Yd.qt (Yd.move rfl)) rfl ?_
          refine WQ.qg rfl rfl (Yd.qt (Yd.move rfl)) rfl ?_
          refine WQ.qg rfl rfl (Yd.qt (Yd.lss rfl rfl)) rfl ?_
          refine WQ.qg rfl rfl (Yd.qt (Yd.pickT rfl rfl)) rfl ?_
          refine WQ.q rfl (Yd.qt (Yd.pickF rfl rfl)) rfl ?_
          refine WQ.q rfl (Yd.qt (Yd.move rfl)) rfl ?_
          refine WQ.part 101 rfl (fun g101 => ?_) (fun g101 => ?_)
          · try simp only [zq1, zq2, zq3, zq4, zq5, zq6, zq7, zq8] at g101
            refine WQ.qg rfl rfl (Yd.qt (Yd.move rfl)) rfl ?_
            refine WQ.qg rfl rfl (Yd.qt (Yd.move rfl)) rfl ?_
            refine WQ.qg rfl rfl (Yd.qt (Yd.indexS Try.underlying22 Try.sizeOf3 rfl rfl (by (try dsimp only); omega) (by (try dsimp only); omega) (by first | exact hS2.addr i (by omega) | exact hS2.addr k (by omega) | exact hS3.addr i (by omega) | exact hS3.addr k (by omega)))) rfl ?_
            refine WQ.qg rfl rfl (Yd.qt (Yd.load1 Try.isAgg3 rfl (by first | exact Rd.own (k := 0) rfl rfl | exact Rd.own (k := 1) rfl rfl | exact ((hS2.at i (by omega)).rd 0 rfl) | exact ((hS2.at k (by omega)).rd 0 rfl) | exact ((hS3.at i (by omega)).rd 0 rfl) | exact ((hS3.at k (by omega)).rd 0 rfl)))) rfl ?_
            refine WQ.qg rfl rfl (Yd.qt (Yd.move rfl)) rfl ?_
            refine WQ.qg rfl rfl (Yd.qt (Yd.move rfl)) rfl ?_
            refine WQ.qg rfl rfl (Yd.qt (Yd.indexS Try.underlying22 Try.sizeOf3 rfl rfl (by (try dsimp only); omega) (by (try dsimp only); omega) (by first | exact hS2.addr i (by omega) | exact hS2.addr k (by omega) | exact hS3.addr i (by omega) | exact hS3.addr k (by omega)))) rfl ?_
            refine WQ.qg rfl rfl (Yd.qt (Yd.load1 Try.isAgg3 rfl (by first | exact Rd.own (k := 0) rfl rfl | exact Rd.own (k := 1) rfl rfl | exact ((hS2.at i (by omega)).rd 0 rfl) | exact ((hS2.at k (by omega)).rd 0 rfl) | exact ((hS3.at i (by omega)).rd 0 rfl) | exact ((hS3.at k (by omega)).rd 0 rfl)))) rfl ?_
            refine WQ.tail ?_
            refine WL.ydg rfl (Yd.gtr rfl rfl) rfl ?_
            refine WL.yd (Yd.pickT rfl rfl) rfl ?_
            refine WL.nil ?_
            refine WP.thenC ?_
            refine WC.cond rfl (fun c111 => ?_) (fun c111 => ?_)
            · try simp only [zq1, zq2, zq3, zq4, zq5, zq6, zq7, zq8] at c111
              refine WC.ofFr [(3, _), (4, _), (5, _), (6, _), (9, _), (11, _), (12, _), (13, _), (67, _), (68, _), (14, _), (15, _), (72, _), (73, _)] ⟨rfl, rfl, rfl, rfl, rfl, rfl, rfl, rfl, rfl, rfl, rfl, rfl, rfl, rfl, trivial⟩ ?_
              refine WC.region ?_
              refine WL.yd (Yd.fieldAddr FA37_2 rfl) rfl ?_
              refine WL.yd (Yd.load1 Try.isAgg3 rfl (by first | exact Rd.own (k := 0) rfl rfl | exact Rd.own (k := 1) rfl rfl | exact (Rd.imm h4 rfl))) rfl ?_
              refine WL.yd (Yd.assign rfl) rfl ?_
              refine WL.nil ?_
              refine WP.blkNormal ?_
              refine WP.thenC ?_
              refine WC.ofFr [(15, _), (3, _), (4, _), (5, _), (6, _), (9, _), (11, _), (12, _), (13, _), (67, _), (68, _), (14, _), (72, _), (73, _)] ⟨rfl, rfl, rfl, rfl, rfl, rfl, rfl, rfl, rfl, rfl, rfl, rfl, rfl, rfl, trivial⟩ ?_
              refine WC.region ?_
              refine WL.yd (Yd.addN (i := i) (j := 1) rfl rfl (by omega)) rfl ?_
              refine WL.yd (Yd.move rfl) rfl ?_
              refine WL.nil ?_
              first
                | exact WP.againF (i + 1) (by omega) (by omega) ⟨rfl, rfl, rfl, rfl, rfl, rfl, rfl, rfl, rfl, rfl, rfl, by rw [fineO_y (by first | exact over_y (by omega) (by omega))]; rfl, rfl, rfl, trivial⟩ (fun _ h => h) (fun h => h)
                | exact WP.againF (i + 1) (by omega) (by omega) ⟨rfl, rfl, rfl, rfl, rfl, rfl, rfl, rfl, rfl, rfl, rfl, by rw [fineO_n (by first | exact over_n2 (by omega) | exact over_n1 (by omega))]; rfl, rfl, rfl, trivial⟩ (fun _ h => h) (fun h => h)
            · try simp only [zq1, zq2, zq3, zq4, zq5, zq6, zq7, zq8] at c111
              refine WC.skip ?_
              refine WP.blkNormal ?_
              refine WP.thenC ?_
              refine WC.ofFr [(3, _), (4, _), (5, _), (6, _), (9, _), (11, _), (12, _), (13, _), (67, _), (68, _), (14, _), (15, _), (72, _), (73, _)] ⟨rfl, rfl, rfl, rfl, rfl, rfl, rfl, rfl, rfl, rfl, rfl, rfl, rfl, rfl, trivial⟩ ?_
              refine WC.region ?_
              refine WL.yd (Yd.addN (i := i) (j := 1) rfl rfl (by omega)) rfl ?_
              refine WL.yd (Yd.move rfl) rfl ?_
              refine WL.nil ?_
              first
                | exact WP.againF (i + 1) (by omega) (by omega) ⟨rfl, rfl, rfl, rfl, rfl, rfl, rfl, rfl, rfl, rfl, rfl, by rw [fineO_y (by first | exact over_y (by omega) (by omega))]; rfl, rfl, rfl, trivial⟩ (fun _ h => h) (fun h => h)
                | exact WP.againF (i + 1) (by omega) (by omega) ⟨rfl, rfl, rfl, rfl, rfl, rfl, rfl, rfl, rfl, rfl, rfl, by rw [fineO_n (by first | exact over_n2 (by omega) | exact over_n1 (by omega))]; rfl, rfl, rfl, trivial⟩ (fun _ h => h) (fun h => h)
          · try simp only [zq1, zq2, zq3, zq4, zq5, zq6, zq7, zq8] at g101
            refine WQ.skip rfl rfl rfl ?_
            refine WQ.skip rfl rfl rfl ?_
            refine WQ.skip rfl rfl rfl ?_
            refine WQ.skip rfl rfl rfl ?_
            refine WQ.skip rfl rfl rfl ?_
            refine WQ.skip rfl rfl rfl ?_
            refine WQ.skip rfl rfl rfl ?_
            refine WQ.skip rfl rfl rfl ?_
            refine WQ.tail ?_
            refine WL.skip rfl rfl ?_
            refine WL.yd (Yd.pickF rfl rfl) rfl ?_
            refine WL.nil ?_
            refine WP.thenC ?_
            refine WC.condF rfl ?_
            refine WC.skip ?_
            refine WP.blkNormal ?_
            refine WP.thenC ?_
            refine WC.ofFr [(3, _), (4, _), (5, _), (6, _), (9, _), (11, _), (12, _), (13, _), (67, _), (68, _), (14, _), (15, _), (72, _), (73, _)] ⟨rfl, rfl, rfl, rfl, rfl, rfl, rfl, rfl, rfl, rfl, rfl, rfl, rfl, rfl, trivial⟩ ?_
            refine WC.region ?_
            refine WL.yd (Yd.addN (i := i) (j := 1) rfl rfl (by omega)) rfl ?_
            refine WL.yd (Yd.move rfl) rfl ?_
            refine WL.nil ?_
            first
              | exact WP.againF (i + 1) (by omega) (by omega) ⟨rfl, rfl, rfl, rfl, rfl, rfl, rfl, rfl, rfl, rfl, rfl, by rw [fineO_y (by first | exact over_y (by omega) (by omega))]; rfl, rfl, rfl, trivial⟩ (fun _ h => h) (fun h => h)
              | exact WP.againF (i + 1) (by omega) (by omega) ⟨rfl, rfl, rfl, rfl, rfl, rfl, rfl, rfl, rfl, rfl, rfl, by rw [fineO_n (by first | exact over_n2 (by omega) | exact over_n1 (by omega))]; rfl, rfl, rfl, trivial⟩ (fun _ h => h) (fun h => h)
        · try simp only [zq1, zq2, zq3, zq4, zq5, zq6, zq7, zq8] at g95
          refine WQ.skip rfl rfl rfl ?_
          refine WQ.skip rfl rfl rfl ?_
          refine WQ.skip rfl rfl rfl ?_
          refine WQ.qg rfl rfl (Yd.qt (Yd.pickF rfl rfl)) rfl ?_
          refine WQ.q rfl (Yd.qt (Yd.pickF rfl rfl)) rfl ?_
          refine WQ.q rfl (Yd.qt (Yd.move rfl)) rfl ?_
          refine WQ.skip rfl rfl rfl ?_
          refine WQ.skip rfl rfl rfl ?_
          refine WQ.skip rfl rfl rfl ?_
          refine WQ.skip rfl rfl rfl ?_
          refine WQ.skip rfl rfl rfl ?_
          refine WQ.skip rfl rfl rfl ?_
          refine WQ.skip rfl rfl rfl ?_
          refine WQ.skip rfl rfl rfl ?_
          refine WQ.tail ?_
          refine WL.skip rfl rfl ?_
          refine WL.yd (Yd.pickF rfl rfl) rfl ?_
          refine WL.nil ?_
          refine WP.thenC ?_
          refine WC.condF rfl ?_
          refine WC.skip ?_
          refine WP.blkNormal ?_
          refine WP.thenC ?_
          refine WC.ofFr [(3, _), (4, _), (5, _), (6, _), (9, _), (11, _), (12, _), (13, _), (67, _), (68, _), (14, _), (15, _), (72, _), (73, _)] ⟨rfl, rfl, rfl, rfl, rfl, rfl, rfl, rfl, rfl, rfl, rfl, rfl, rfl, rfl, trivial⟩ ?_
          refine WC.region ?_
          refine WL.yd (Yd.addN (i := i) (j := 1) rfl rfl (by omega)) rfl ?_
          refine WL.yd (Yd.move rfl) rfl ?_
          refine WL.nil ?_
          first
            | exact WP.againF (i + 1) (by omega) (by omega) ⟨rfl, rfl, rfl, rfl, rfl, rfl, rfl, rfl, rfl, rfl, rfl, by rw [fineO_y (by first | exact over_y (by omega) (by omega))]; rfl, rfl, rfl, trivial⟩ (fun _ h => h) (fun h => h)
            | exact WP.againF (i + 1) (by omega) (by omega) ⟨rfl, rfl, rfl, rfl, rfl, rfl, rfl, rfl, rfl, rfl, rfl, by rw [fineO_n (by first | exact over_n2 (by omega) | exact over_n1 (by omega))]; rfl, rfl, rfl, trivial⟩ (fun _ h => h) (fun h => h)
    · try simp only [zq1, zq2, zq3, zq4, zq5, zq6, zq7, zq8] at c74
      obtain rfl : i = X.tk.l.length := by omega
      refine WC.exit ?_
      refine WP.thenExit ?_
      refine WP.thenExit ?_
      refine WP.blkHit ?_
      refine WP.thenC ?_
      refine WC.seq ?_
      refine WC.know 15 (it (fineY X y k)) rfl (by rw [← hyl, fineO_all]) ?_
      refine WC.ofFr [(3, _), (4, _), (5, _), (6, _), (9, _), (11, _), (12, _), (13, _), (67, _), (68, _), (14, _), (15, _)] ⟨rfl, rfl, rfl, rfl, rfl, rfl, rfl, rfl, rfl, rfl, rfl, rfl, trivial⟩ ?_
      refine WC.tail 12 [0, 1, 2, 3, 4, 5, 6, 7, 8, 9, 10, 11] rfl (by kernel_rfl) (by kernel_rfl)  ?_
      refine WQ.q rfl (Yd.qt (Yd.move rfl)) rfl ?_
      refine WQ.q rfl (Yd.qt (Yd.move rfl)) rfl ?_
      refine WQ.q rfl (Yd.qt (Yd.indexS Try.underlying22 Try.sizeOf3 rfl rfl (by (try dsimp only); omega) (by (try dsimp only); omega) (by first | exact hS3.addr k (by omega) | exact hS2.addr k (by omega)))) rfl ?_
      refine WQ.q rfl (Yd.qt (Yd.load1 Try.isAgg3 rfl (by first | exact Rd.own (k := 0) rfl rfl | exact Rd.own (k := 1) rfl rfl | exact ((hS3.at k (by omega)).rd 0 rfl) | exact ((hS2.at k (by omega)).rd 0 rfl) | exact (Rd.imm h4 rfl)))) rfl ?_
      refine WQ.q rfl (Yd.qt (Yd.move rfl)) rfl ?_
      refine WQ.q rfl (Yd.qt (Yd.move rfl)) rfl ?_
      refine WQ.q rfl (Yd.qt (Yd.indexS Try.underlying22 Try.sizeOf3 rfl rfl (by (try dsimp only); omega) (by (try dsimp only); omega) (by first | exact hS3.addr k (by omega) | exact hS2.addr k (by omega)))) rfl ?_
      refine WQ.q rfl (Yd.qt (Yd.load1 Try.isAgg3 rfl (by first | exact Rd.own (k := 0) rfl rfl | exact Rd.own (k := 1) rfl rfl | exact ((hS3.at k (by omega)).rd 0 rfl) | exact ((hS2.at k (by omega)).rd 0 rfl) | exact (Rd.imm h4 rfl)))) rfl ?_
      refine WQ.q rfl (Yd.qt (Yd.sub rfl rfl (wr64 ⟨by (try dsimp only); omega, by (try dsimp only); omega⟩))) rfl ?_
      refine WQ.q rfl (Yd.qt (Yd.quo rfl rfl (by (try dsimp only); omega) (by (try dsimp only); omega) (wr64 ⟨by (try dsimp only); omega, by (try dsimp only); omega⟩))) rfl ?_
      refine WQ.q rfl (Yd.qt (Yd.fieldAddr FA37_3 rfl)) rfl ?_
      refine WQ.q rfl (Yd.qt (Yd.load1 Try.isAgg3 rfl (by first | exact Rd.own (k := 0) rfl rfl | exact Rd.own (k := 1) rfl rfl | exact ((hS3.at k (by omega)).rd 0 rfl) | exact ((hS2.at k (by omega)).rd 0 rfl) | exact (Rd.imm h4 rfl)))) rfl ?_
      refine WQ.tail ?_
      refine WL.yd (Yd.mul (i := ((gt y k).2 - (gt y k).1) / 10) (j := X.wait) rfl rfl (wr64 ⟨by omega, by omega⟩)) rfl ?_
      refine WL.yd (Yd.assign rfl) rfl ?_
      refine WL.nil ?_
      refine WP.thenC ?_
      refine WC.seq ?_
      refine WC.know 17 (it (backY X y k)) rfl rfl ?_
      have hbk := backY_num hb hy hkl
      refine WC.ofFr [(17, _), (3, _), (4, _), (5, _), (6, _), (9, _), (11, _), (12, _), (13, _), (67, _), (68, _), (14, _), (15, _)] ⟨rfl, rfl, rfl, rfl, rfl, rfl, rfl, rfl, rfl, rfl, rfl, rfl, rfl, trivial⟩ ?_
      refine WC.region ?_
      refine WL.yd (Yd.loadN Try.isAgg37 Try.sizeOf37 rfl (vs := [_, _, _, _, _]) rfl (by first | exact RdN.own (k := 0) (n := 5) rfl rfl | exact RdN.own (k := 1) (n := 5) rfl rfl | exact (RdN.imm (n := 5) h4 rfl) | exact (RdN.own (k := 0) (n := 2) rfl rfl) | exact (RdN.own (k := 1) (n := 2) rfl rfl))) rfl ?_
      refine WL.yd (Yd.move rfl) rfl ?_
      refine WL.so (SO.callP Try.call12 rfl (fun w hI => Gives.cv (.tuple #[spV (fineSp X (k : Int)), it 0]) (Fine_g X a1 _ c1 _ _ hR hI.imm (k : Int)) (by rw [fineO_0 hsE]))) rfl ?_
      rintro _ _ _ ⟨rfl, rfl, rfl⟩
      refine WL.yd (Yd.move rfl) rfl ?_
      refine WL.yd (Yd.extract rfl rfl) rfl ?_
      refine WL.yd (Yd.extract rfl rfl) rfl ?_
      refine WL.so (SO.alloc Try.zeroValue30 rfl) rfl ?_
      rintro _ _ _ ⟨b18, hb18, rfl, rfl, rfl⟩ -- NEW
      refine WL.so (SO.store 0 rfl Try.sizeOf30 rfl rfl rfl rfl (Nat.le_of_ble_eq_true rfl) (oneB_spec rfl)) rfl ?_
      rintro _ _ _ ⟨rfl, rfl, rfl⟩
      refine WL.yd (Yd.assign rfl) rfl ?_
      refine WL.nil ?_
      refine WP.thenC ?_
      refine WC.seq ?_
      refine WC.ofFr [(19, _), (18, _), (17, _), (3, _), (4, _), (5, _), (6, _), (9, _), (11, _), (12, _), (13, _), (67, _), (68, _), (14, _), (15, _)] ⟨rfl, rfl, rfl, rfl, rfl, rfl, rfl, rfl, rfl, rfl, rfl, rfl, rfl, rfl, rfl, trivial⟩ ?_
      refine WC.region ?_
      refine WL.yd (Yd.loadN Try.isAgg37 Try.sizeOf37 rfl (vs := [_, _, _, _, _]) rfl (by first | exact RdN.own (k := 0) (n := 5) rfl rfl | exact RdN.own (k := 1) (n := 5) rfl rfl | exact RdN.own (k := 2) (n := 5) rfl rfl | exact (RdN.imm (n := 5) h4 rfl) | exact (RdN.own (k := 0) (n := 2) rfl rfl) | exact (RdN.own (k := 1) (n := 2) rfl rfl))) rfl ?_
      refine WL.yd (Yd.move rfl) rfl ?_
      refine WL.so (SO.callP Try.call14 rfl (fun w hI => Gives.cv (.tuple #[spV (backSp X (k : Int)), it 0]) (Back_g X a1 _ c1 _ _ hR hI.imm (k : Int)) (by rw [backO_0 hsE]))) rfl ?_
      rintro _ _ _ ⟨rfl, rfl, rfl⟩
      refine WL.yd (Yd.move rfl) rfl ?_
      refine WL.yd (Yd.extract rfl rfl) rfl ?_
      refine WL.yd (Yd.extract rfl rfl) rfl ?_
      refine WL.so (SO.alloc Try.zeroValue30 rfl) rfl ?_
      rintro _ _ _ ⟨b20, hb20, rfl, rfl, rfl⟩ -- NEW
      refine WL.so (SO.store 0 rfl Try.sizeOf30 rfl rfl rfl rfl (Nat.le_of_ble_eq_true rfl) (oneB_spec rfl)) rfl ?_
      rintro _ _ _ ⟨rfl, rfl, rfl⟩
      refine WL.yd (Yd.assign rfl) rfl ?_
      refine WL.nil ?_
      refine WP.thenC ?_
      refine WC.seq ?_
      refine WC.seq ?_
      refine WC.ofFr [(21, _), (20, _), (19, _), (18, _), (17, _), (3, _), (4, _), (5, _), (6, _), (9, _), (11, _), (12, _), (13, _), (67, _), (68, _), (14, _), (15, _)] ⟨rfl, rfl, rfl, rfl, rfl, rfl, rfl, rfl, rfl, rfl, rfl, rfl, rfl, rfl, rfl, rfl, rfl, trivial⟩ ?_
      refine WC.region ?_
      refine WL.yd (Yd.move rfl) rfl ?_
      refine WL.yd (Yd.neq rfl rfl) rfl ?_
      refine WL.know 141 (.bool false) rfl (congrArg Value.bool (by decide)) ?_
      refine WL.yd (Yd.move rfl) rfl ?_
      refine WL.ydg rfl (Yd.move rfl) rfl ?_
      refine WL.ydg rfl (Yd.neq rfl rfl) rfl ?_
      refine WL.know 144 (.bool false) rfl (congrArg Value.bool (by decide)) ?_
      refine WL.yd (Yd.pickF rfl rfl) rfl ?_
      refine WL.yd (Yd.move rfl) rfl ?_
      refine WL.ydg rfl (Yd.move rfl) rfl ?_
      refine WL.ydg rfl (Yd.loadN Try.isAgg30 Try.sizeOf30 rfl (vs := [_, _]) rfl (by first | exact RdN.own (k := 0) (n := 2) rfl rfl | exact RdN.own (k := 1) (n := 2) rfl rfl | exact RdN.own (k := 2) (n := 2) rfl rfl | exact RdN.own (k := 3) (n := 2) rfl rfl | exact (RdN.imm (n := 5) h4 rfl) | exact (RdN.own (k := 0) (n := 2) rfl rfl) | exact (RdN.own (k := 1) (n := 2) rfl rfl))) rfl ?_
      refine WL.sog rfl (SO.callP Try.call24 rfl (fun w hI => linside_g _ _ _)) rfl ?_
      rintro _ _ _ ⟨rfl, rfl, rfl⟩
      refine WL.know 149 (.bool true) rfl (congrArg Value.bool (decide_eq_true hfi)) ?_
      refine WL.ydg rfl (Yd.not rfl) rfl ?_
      refine WL.yd (Yd.pickF rfl rfl) rfl ?_
      refine WL.yd (Yd.move rfl) rfl ?_
      refine WL.ydg rfl (Yd.move rfl) rfl ?_
      refine WL.ydg rfl (Yd.loadN Try.isAgg30 Try.sizeOf30 rfl (vs := [_, _]) rfl (by first | exact RdN.own (k := 0) (n := 2) rfl rfl | exact RdN.own (k := 1) (n := 2) rfl rfl | exact RdN.own (k := 2) (n := 2) rfl rfl | exact RdN.own (k := 3) (n := 2) rfl rfl | exact (RdN.imm (n := 5) h4 rfl) | exact (RdN.own (k := 0) (n := 2) rfl rfl) | exact (RdN.own (k := 1) (n := 2) rfl rfl))) rfl ?_
      refine WL.sog rfl (SO.callP Try.call24 rfl (fun w hI => linside_g _ _ _)) rfl ?_
      rintro _ _ _ ⟨rfl, rfl, rfl⟩
      refine WL.know 155 (.bool true) rfl (congrArg Value.bool (decide_eq_true hbi)) ?_
      refine WL.ydg rfl (Yd.not rfl) rfl ?_
      refine WL.yd (Yd.pickF rfl rfl) rfl ?_
      refine WL.nil ?_
      refine WP.thenC ?_
      refine WC.condF rfl ?_
      refine WC.skip ?_
      refine WP.thenC ?_
      refine WC.seq ?_
      refine WC.ofFr [(17, _), (3, _), (4, _), (5, _), (6, _), (9, _), (11, _), (12, _), (13, _), (67, _), (68, _), (14, _), (15, _)] ⟨rfl, rfl, rfl, rfl, rfl, rfl, rfl, rfl, rfl, rfl, rfl, rfl, rfl, trivial⟩ ?_
      refine WC.region ?_
      refine WL.yd (Yd.move rfl) rfl ?_
      refine WL.yd (Yd.move rfl) rfl ?_
      refine WL.yd (Yd.fieldAddr FA37_1 rfl) rfl ?_
      refine WL.yd (Yd.load1 Try.isAgg3 rfl (by first | exact Rd.own (k := 0) rfl rfl | exact Rd.own (k := 1) rfl rfl | exact Rd.own (k := 2) rfl rfl | exact Rd.own (k := 3) rfl rfl | exact (Rd.imm h4 rfl))) rfl ?_
      refine WL.so (SO.callP Try.call17 rfl (fun w hI => lent_g _ _ _ _)) rfl ?_
      rintro _ _ _ ⟨rfl, rfl, rfl⟩
      refine WL.so (SO.buildSlice Try.underlying41 Try.sizeOf44 Try.zeroValue44 rfl rfl rfl rfl (cs := [_, _, _]) rfl) rfl ?_
      rintro _ _ _ ⟨b163, hb163, rfl, rfl, rfl⟩ -- NEW
      refine WL.so (SO.appendOw (o := o) (len := ((bookY X y k).length)) (n := 1) (xs := ((bookY X y k).flatMap entC)) (ys := entC ⟨(k : Int), 1, X.price⟩) (size := 3) [_] [_, _, _] [] rfl rfl Try.underlying41 Try.sizeOf44 Try.typeInfo44 Try.zeroValue44 rfl rfl rfl rfl ⟨rfl, .inr ⟨_, _, _, rfl, RdN.own (k := 0) (n := 3) rfl rfl⟩⟩ (oneB_spec rfl) ho (by simp only [List.length_append, flat_len entC_len, entC_len]; first | done | omega) (by omega) (by show (2 * (_ + _) + 1000) * 24 ≤ 2 ^ 48; omega) (by omega)) rfl ?_
      rintro _ _ _ ⟨u1, hu1, rfl, rfl, rfl⟩
      refine WL.yd (Yd.assign rfl) rfl ?_
      refine WL.nil ?_
      refine WP.thenC ?_
      refine WC.seq ?_
      refine WC.seq ?_
      refine WC.ofFr [(11, _), (17, _), (3, _), (4, _), (5, _), (6, _), (9, _), (12, _), (13, _), (67, _), (68, _), (14, _), (15, _)] ⟨rfl, rfl, rfl, rfl, rfl, rfl, rfl, rfl, rfl, rfl, rfl, rfl, rfl, trivial⟩ ?_
      refine WC.region ?_
      refine WL.yd (Yd.move rfl) rfl ?_
      refine WL.yd (Yd.gtr rfl rfl) rfl ?_
      refine WL.nil ?_
      refine WP.thenC ?_
      refine WC.cond rfl (fun c166 => ?_) (fun c166 => ?_)
      · try simp only [zq1, zq2, zq3, zq4, zq5, zq6, zq7, zq8] at c166
        refine WC.ofFr [(11, _), (17, _), (3, _), (4, _), (5, _), (6, _), (9, _), (12, _), (13, _), (67, _), (68, _), (14, _), (15, _)] ⟨rfl, rfl, rfl, rfl, rfl, rfl, rfl, rfl, rfl, rfl, rfl, rfl, rfl, trivial⟩ ?_
        refine WC.region ?_
        refine WL.yd (Yd.move rfl) rfl ?_
        refine WL.yd (Yd.move rfl) rfl ?_
        refine WL.yd (Yd.move rfl) rfl ?_
        refine WL.so (SO.callP Try.call17 rfl (fun w hI => lent_g _ _ _ _)) rfl ?_
        rintro _ _ _ ⟨rfl, rfl, rfl⟩
        refine WL.so (SO.buildSlice Try.underlying41 Try.sizeOf44 Try.zeroValue44 rfl rfl rfl rfl (cs := [_, _, _]) rfl) rfl ?_
        rintro _ _ _ ⟨b171, hb171, rfl, rfl, rfl⟩ -- NEW
        refine WL.so (SO.appendOw (o := (some u1)) (len := ((bookY X y k).length + 1)) (n := 1) (xs := (((bookY X y k).flatMap entC) ++ entC ⟨(k : Int), 1, X.price⟩)) (ys := entC ⟨(k : Int), 2, fineY X y k⟩) (size := 3) [_] [_, _, _] [] rfl rfl Try.underlying41 Try.sizeOf44 Try.typeInfo44 Try.zeroValue44 rfl rfl rfl rfl ⟨rfl, .inr ⟨_, _, _, rfl, RdN.own (k := 0) (n := 3) rfl rfl⟩⟩ (oneB_spec rfl) hu1 (by simp only [List.length_append, flat_len entC_len, entC_len]; first | done | omega) (by omega) (by show (2 * (_ + _) + 1000) * 24 ≤ 2 ^ 48; omega) (by omega)) rfl ?_
        rintro _ _ _ ⟨u2, hu2, rfl, rfl, rfl⟩
        refine WL.yd (Yd.assign rfl) rfl ?_
        refine WL.nil ?_
        refine WP.thenC ?_
        refine WC.seq ?_
        refine WC.seq ?_
        refine WC.ofFr [(11, _), (17, _), (3, _), (4, _), (5, _), (6, _), (9, _), (12, _), (13, _), (67, _), (68, _), (14, _), (15, _)] ⟨rfl, rfl, rfl, rfl, rfl, rfl, rfl, rfl, rfl, rfl, rfl, rfl, rfl, trivial⟩ ?_
        refine WC.region ?_
        refine WL.yd (Yd.move rfl) rfl ?_
        refine WL.yd (Yd.gtr rfl rfl) rfl ?_
        refine WL.nil ?_
        refine WP.thenC ?_
        refine WC.cond rfl (fun c174 => ?_) (fun c174 => ?_)
        · try simp only [zq1, zq2, zq3, zq4, zq5, zq6, zq7, zq8] at c174
          refine WC.ofFr [(11, _), (17, _), (3, _), (4, _), (5, _), (6, _), (9, _), (12, _), (13, _), (67, _), (68, _), (14, _), (15, _)] ⟨rfl, rfl, rfl, rfl, rfl, rfl, rfl, rfl, rfl, rfl, rfl, rfl, rfl, trivial⟩ ?_
          refine WC.region ?_
          refine WL.yd (Yd.move rfl) rfl ?_
          refine WL.yd (Yd.move rfl) rfl ?_
          refine WL.yd (Yd.move rfl) rfl ?_
          refine WL.so (SO.callP Try.call17 rfl (fun w hI => lent_g _ _ _ _)) rfl ?_
          rintro _ _ _ ⟨rfl, rfl, rfl⟩
          refine WL.so (SO.buildSlice Try.underlying41 Try.sizeOf44 Try.zeroValue44 rfl rfl rfl rfl (cs := [_, _, _]) rfl) rfl ?_
          rintro _ _ _ ⟨b179, hb179, rfl, rfl, rfl⟩ -- NEW
          refine WL.so (SO.appendOw (o := (some u2)) (len := ((bookY X y k).length + 1 + 1)) (n := 1) (xs := ((((bookY X y k).flatMap entC) ++ entC ⟨(k : Int), 1, X.price⟩) ++ entC ⟨(k : Int), 2, fineY X y k⟩)) (ys := entC ⟨(k : Int), 3, backY X y k⟩) (size := 3) [_] [_, _, _] [] rfl rfl Try.underlying41 Try.sizeOf44 Try.typeInfo44 Try.zeroValue44 rfl rfl rfl rfl ⟨rfl, .inr ⟨_, _, _, rfl, RdN.own (k := 0) (n := 3) rfl rfl⟩⟩ (oneB_spec rfl) hu2 (by simp only [List.length_append, flat_len entC_len, entC_len]; first | done | omega) (by omega) (by show (2 * (_ + _) + 1000) * 24 ≤ 2 ^ 48; omega) (by omega)) rfl ?_
          rintro _ _ _ ⟨u3, hu3, rfl, rfl, rfl⟩
          refine WL.yd (Yd.assign rfl) rfl ?_
          refine WL.nil ?_
          refine WP.thenC ?_
          refine WC.ofFr [(11, _), (17, _), (3, _), (4, _), (5, _), (6, _), (9, _), (12, _), (13, _), (67, _), (68, _), (15, _)] ⟨rfl, rfl, rfl, rfl, rfl, rfl, rfl, rfl, rfl, rfl, rfl, rfl, trivial⟩ ?_
          refine WC.region ?_
          refine WL.yd (Yd.move rfl) rfl ?_
          refine WL.yd (Yd.fieldAddr FA37_1 rfl) rfl ?_
          refine WL.yd (Yd.load1 Try.isAgg3 rfl (by first | exact Rd.own (k := 0) rfl rfl | exact Rd.own (k := 1) rfl rfl | exact Rd.own (k := 2) rfl rfl | exact Rd.own (k := 3) rfl rfl | exact (Rd.imm h4 rfl))) rfl ?_
          refine WL.yd (Yd.add rfl rfl (wr64 ⟨by (try dsimp only); omega, by (try dsimp only); omega⟩)) rfl ?_
          refine WL.yd (Yd.move rfl) rfl ?_
          refine WL.yd (Yd.add rfl rfl (wr64 ⟨by (try dsimp only); omega, by (try dsimp only); omega⟩)) rfl ?_
          refine WL.yd (Yd.move rfl) rfl ?_
          refine WL.yd (Yd.sub rfl rfl (wr64 ⟨by (try dsimp only); omega, by (try dsimp only); omega⟩)) rfl ?_
          refine WL.yd (Yd.move rfl) rfl ?_
          refine WL.yd (Yd.move rfl) rfl ?_
          refine WL.yd (Yd.add rfl rfl (wr64 ⟨by (try dsimp only); omega, by (try dsimp only); omega⟩)) rfl ?_
          refine WL.yd (Yd.assign rfl) rfl ?_
          refine WL.yd (Yd.assign rfl) rfl ?_
          refine WL.nil ?_
          refine WP.blkNormal ?_
          refine WP.thenC ?_
          refine WC.ofFr [(13, _), (12, _), (11, _), (3, _), (4, _), (5, _), (6, _), (9, _), (67, _), (68, _)] ⟨rfl, rfl, rfl, rfl, rfl, rfl, rfl, rfl, rfl, rfl, trivial⟩ ?_
          refine WC.region ?_
          refine WL.yd (Yd.addN (i := k) (j := 1) rfl rfl (by omega)) rfl ?_
          refine WL.yd (Yd.move rfl) rfl ?_
          refine WL.nil ?_
          first
            | (have eb := due_11 (X := X) (y := y) (i := k) (by omega) (by omega)
               refine WP.again (⟨k + 1, some u3⟩ : Nat × Option Ow) ⟨by simp only; omega, by simp only; rw [eb, List.length_append]; exact hu3⟩ (by simp only; omega) (fun aa ww h => ?_)
               show At _ [(3, fvV bc bb), (4, pt b4), (5, .slice a2 X.tk.l.length c2), (6, .slice a3 X.tk.l.length c3), (9, pt b9), (11, owV (some u3) (bookY X y (k + 1)).length), (12, it (sumT X y (k + 1))), (13, it (sumFi X y (k + 1))), (67, nt X.tk.l.length), (68, nt (k + 1))] D5 ((bc, cntO j1) :: owH (some u3) 44 ((bookY X y (k + 1)).flatMap entC) []) aa ww
               rw [eb, ent_3, List.length_append, sumFi_succ]
               exact at_less h ⟨rfl, rfl, rfl, rfl, rfl, rfl, rfl, rfl, rfl, rfl, trivial⟩ (fun _ h => .tail _ (.tail _ h)) (fun h => (List.nodup_cons.1 (List.nodup_cons.1 h).2).2))
            | (have eb := due_10 (X := X) (y := y) (i := k) (by omega) (by omega)
               refine WP.again (⟨k + 1, some u2⟩ : Nat × Option Ow) ⟨by simp only; omega, by simp only; rw [eb, List.length_append]; exact hu2⟩ (by simp only; omega) (fun aa ww h => ?_)
               show At _ [(3, fvV bc bb), (4, pt b4), (5, .slice a2 X.tk.l.length c2), (6, .slice a3 X.tk.l.length c3), (9, pt b9), (11, owV (some u2) (bookY X y (k + 1)).length), (12, it (sumT X y (k + 1))), (13, it (sumFi X y (k + 1))), (67, nt X.tk.l.length), (68, nt (k + 1))] D5 ((bc, cntO j1) :: owH (some u2) 44 ((bookY X y (k + 1)).flatMap entC) []) aa ww
               rw [eb, ent_2, List.length_append, sumFi_succ]
               exact at_less h ⟨rfl, rfl, rfl, rfl, rfl, rfl, rfl, rfl, rfl, rfl, trivial⟩ (fun _ h => .tail _ (.tail _ h)) (fun h => (List.nodup_cons.1 (List.nodup_cons.1 h).2).2))
            | (have eb := due_01 (X := X) (y := y) (i := k) (by omega) (by omega)
               refine WP.again (⟨k + 1, some u3⟩ : Nat × Option Ow) ⟨by simp only; omega, by simp only; rw [eb, List.length_append]; exact hu3⟩ (by simp only; omega) (fun aa ww h => ?_)
               show At _ [(3, fvV bc bb), (4, pt b4), (5, .slice a2 X.tk.l.length c2), (6, .slice a3 X.tk.l.length c3), (9, pt b9), (11, owV (some u3) (bookY X y (k + 1)).length), (12, it (sumT X y (k + 1))), (13, it (sumFi X y (k + 1))), (67, nt X.tk.l.length), (68, nt (k + 1))] D5 ((bc, cntO j1) :: owH (some u3) 44 ((bookY X y (k + 1)).flatMap entC) []) aa ww
               rw [eb, ent_2, List.length_append, sumFi_succ]
               exact at_less h ⟨rfl, rfl, rfl, rfl, rfl, rfl, rfl, rfl, rfl, rfl, trivial⟩ (fun _ h => .tail _ (.tail _ h)) (fun h => (List.nodup_cons.1 (List.nodup_cons.1 h).2).2))
            | (have eb := due_00 (X := X) (y := y) (i := k) (by omega) (by omega)
               refine WP.again (⟨k + 1, some u1⟩ : Nat × Option Ow) ⟨by simp only; omega, by simp only; rw [eb, List.length_append]; exact hu1⟩ (by simp only; omega) (fun aa ww h => ?_)
               show At _ [(3, fvV bc bb), (4, pt b4), (5, .slice a2 X.tk.l.length c2), (6, .slice a3 X.tk.l.length c3), (9, pt b9), (11, owV (some u1) (bookY X y (k + 1)).length), (12, it (sumT X y (k + 1))), (13, it (sumFi X y (k + 1))), (67, nt X.tk.l.length), (68, nt (k + 1))] D5 ((bc, cntO j1) :: owH (some u1) 44 ((bookY X y (k + 1)).flatMap entC) []) aa ww
               rw [eb, ent_1, List.length_append, sumFi_succ]
               exact at_less h ⟨rfl, rfl, rfl, rfl, rfl, rfl, rfl, rfl, rfl, rfl, trivial⟩ (fun _ h => .tail _ (.tail _ h)) (fun h => (List.nodup_cons.1 (List.nodup_cons.1 h).2).2))
        · try simp only [zq1, zq2, zq3, zq4, zq5, zq6, zq7, zq8] at c174
          refine WC.skip ?_
          refine WP.thenC ?_
          refine WC.ofFr [(11, _), (17, _), (3, _), (4, _), (5, _), (6, _), (9, _), (12, _), (13, _), (67, _), (68, _), (15, _)] ⟨rfl, rfl, rfl, rfl, rfl, rfl, rfl, rfl, rfl, rfl, rfl, rfl, trivial⟩ ?_
          refine WC.region ?_
          refine WL.yd (Yd.move rfl) rfl ?_
          refine WL.yd (Yd.fieldAddr FA37_1 rfl) rfl ?_
          refine WL.yd (Yd.load1 Try.isAgg3 rfl (by first | exact Rd.own (k := 0) rfl rfl | exact Rd.own (k := 1) rfl rfl | exact Rd.own (k := 2) rfl rfl | exact Rd.own (k := 3) rfl rfl | exact (Rd.imm h4 rfl))) rfl ?_
          refine WL.yd (Yd.add rfl rfl (wr64 ⟨by (try dsimp only); omega, by (try dsimp only); omega⟩)) rfl ?_
          refine WL.yd (Yd.move rfl) rfl ?_
          refine WL.yd (Yd.add rfl rfl (wr64 ⟨by (try dsimp only); omega, by (try dsimp only); omega⟩)) rfl ?_
          refine WL.yd (Yd.move rfl) rfl ?_
          refine WL.yd (Yd.sub rfl rfl (wr64 ⟨by (try dsimp only); omega, by (try dsimp only); omega⟩)) rfl ?_
          refine WL.yd (Yd.move rfl) rfl ?_
          refine WL.yd (Yd.move rfl) rfl ?_
          refine WL.yd (Yd.add rfl rfl (wr64 ⟨by (try dsimp only); omega, by (try dsimp only); omega⟩)) rfl ?_
          refine WL.yd (Yd.assign rfl) rfl ?_
          refine WL.yd (Yd.assign rfl) rfl ?_
          refine WL.nil ?_
          refine WP.blkNormal ?_
          refine WP.thenC ?_
          refine WC.ofFr [(13, _), (12, _), (11, _), (3, _), (4, _), (5, _), (6, _), (9, _), (67, _), (68, _)] ⟨rfl, rfl, rfl, rfl, rfl, rfl, rfl, rfl, rfl, rfl, trivial⟩ ?_
          refine WC.region ?_
          refine WL.yd (Yd.addN (i := k) (j := 1) rfl rfl (by omega)) rfl ?_
          refine WL.yd (Yd.move rfl) rfl ?_
          refine WL.nil ?_
          first
            | (have eb := due_11 (X := X) (y := y) (i := k) (by omega) (by omega)
               refine WP.again (⟨k + 1, some u3⟩ : Nat × Option Ow) ⟨by simp only; omega, by simp only; rw [eb, List.length_append]; exact hu3⟩ (by simp only; omega) (fun aa ww h => ?_)
               show At _ [(3, fvV bc bb), (4, pt b4), (5, .slice a2 X.tk.l.length c2), (6, .slice a3 X.tk.l.length c3), (9, pt b9), (11, owV (some u3) (bookY X y (k + 1)).length), (12, it (sumT X y (k + 1))), (13, it (sumFi X y (k + 1))), (67, nt X.tk.l.length), (68, nt (k + 1))] D5 ((bc, cntO j1) :: owH (some u3) 44 ((bookY X y (k + 1)).flatMap entC) []) aa ww
               rw [eb, ent_3, List.length_append, sumFi_succ]
               exact at_less h ⟨rfl, rfl, rfl, rfl, rfl, rfl, rfl, rfl, rfl, rfl, trivial⟩ (fun _ h => .tail _ (.tail _ h)) (fun h => (List.nodup_cons.1 (List.nodup_cons.1 h).2).2))
            | (have eb := due_10 (X := X) (y := y) (i := k) (by omega) (by omega)
               refine WP.again (⟨k + 1, some u2⟩ : Nat × Option Ow) ⟨by simp only; omega, by simp only; rw [eb, List.length_append]; exact hu2⟩ (by simp only; omega) (fun aa ww h => ?_)
               show At _ [(3, fvV bc bb), (4, pt b4), (5, .slice a2 X.tk.l.length c2), (6, .slice a3 X.tk.l.length c3), (9, pt b9), (11, owV (some u2) (bookY X y (k + 1)).length), (12, it (sumT X y (k + 1))), (13, it (sumFi X y (k + 1))), (67, nt X.tk.l.length), (68, nt (k + 1))] D5 ((bc, cntO j1) :: owH (some u2) 44 ((bookY X y (k + 1)).flatMap entC) []) aa ww
               rw [eb, ent_2, List.length_append, sumFi_succ]
               exact at_less h ⟨rfl, rfl, rfl, rfl, rfl, rfl, rfl, rfl, rfl, rfl, trivial⟩ (fun _ h => .tail _ (.tail _ h)) (fun h => (List.nodup_cons.1 (List.nodup_cons.1 h).2).2))
            | (have eb := due_01 (X := X) (y := y) (i := k) (by omega) (by omega)
               refine WP.again (⟨k + 1, some u3⟩ : Nat × Option Ow) ⟨by simp only; omega, by simp only; rw [eb, List.length_append]; exact hu3⟩ (by simp only; omega) (fun aa ww h => ?_)
               show At _ [(3, fvV bc bb), (4, pt b4), (5, .slice a2 X.tk.l.length c2), (6, .slice a3 X.tk.l.length c3), (9, pt b9), (11, owV (some u3) (bookY X y (k + 1)).length), (12, it (sumT X y (k + 1))), (13, it (sumFi X y (k + 1))), (67, nt X.tk.l.length), (68, nt (k + 1))] D5 ((bc, cntO j1) :: owH (some u3) 44 ((bookY X y (k + 1)).flatMap entC) []) aa ww
               rw [eb, ent_2, List.length_append, sumFi_succ]
               exact at_less h ⟨rfl, rfl, rfl, rfl, rfl, rfl, rfl, rfl, rfl, rfl, trivial⟩ (fun _ h => .tail _ (.tail _ h)) (fun h => (List.nodup_cons.1 (List.nodup_cons.1 h).2).2))
            | (have eb := due_00 (X := X) (y := y) (i := k) (by omega) (by omega)
               refine WP.again (⟨k + 1, some u1⟩ : Nat × Option Ow) ⟨by simp only; omega, by simp only; rw [eb, List.length_append]; exact hu1⟩ (by simp only; omega) (fun aa ww h => ?_)
               show At _ [(3, fvV bc bb), (4, pt b4), (5, .slice a2 X.tk.l.length c2), (6, .slice a3 X.tk.l.length c3), (9, pt b9), (11, owV (some u1) (bookY X y (k + 1)).length), (12, it (sumT X y (k + 1))), (13, it (sumFi X y (k + 1))), (67, nt X.tk.l.length), (68, nt (k + 1))] D5 ((bc, cntO j1) :: owH (some u1) 44 ((bookY X y (k + 1)).flatMap entC) []) aa ww
               rw [eb, ent_1, List.length_append, sumFi_succ]
               exact at_less h ⟨rfl, rfl, rfl, rfl, rfl, rfl, rfl, rfl, rfl, rfl, trivial⟩ (fun _ h => .tail _ (.tail _ h)) (fun h => (List.nodup_cons.1 (List.nodup_cons.1 h).2).2))
      · try simp only [zq1, zq2, zq3, zq4, zq5, zq6, zq7, zq8] at c166
        refine WC.skip ?_
        refine WP.thenC ?_
        refine WC.seq ?_
        refine WC.seq ?_
        refine WC.ofFr [(11, _), (17, _), (3, _), (4, _), (5, _), (6, _), (9, _), (12, _), (13, _), (67, _), (68, _), (14, _), (15, _)] ⟨rfl, rfl, rfl, rfl, rfl, rfl, rfl, rfl, rfl, rfl, rfl, rfl, rfl, trivial⟩ ?_
        refine WC.region ?_
        refine WL.yd (Yd.move rfl) rfl ?_
        refine WL.yd (Yd.gtr rfl rfl) rfl ?_
        refine WL.nil ?_
        refine WP.thenC ?_
        refine WC.cond rfl (fun c174 => ?_) (fun c174 => ?_)
        · try simp only [zq1, zq2, zq3, zq4, zq5, zq6, zq7, zq8] at c174
          refine WC.ofFr [(11, _), (17, _), (3, _), (4, _), (5, _), (6, _), (9, _), (12, _), (13, _), (67, _), (68, _), (14, _), (15, _)] ⟨rfl, rfl, rfl, rfl, rfl, rfl, rfl, rfl, rfl, rfl, rfl, rfl, rfl, trivial⟩ ?_
          refine WC.region ?_
          refine WL.yd (Yd.move rfl) rfl ?_
          refine WL.yd (Yd.move rfl) rfl ?_
          refine WL.yd (Yd.move rfl) rfl ?_
          refine WL.so (SO.callP Try.call17 rfl (fun w hI => lent_g _ _ _ _)) rfl ?_
          rintro _ _ _ ⟨rfl, rfl, rfl⟩
          refine WL.so (SO.buildSlice Try.underlying41 Try.sizeOf44 Try.zeroValue44 rfl rfl rfl rfl (cs := [_, _, _]) rfl) rfl ?_
          rintro _ _ _ ⟨b179, hb179, rfl, rfl, rfl⟩ -- NEW
          refine WL.so (SO.appendOw (o := (some u1)) (len := ((bookY X y k).length + 1)) (n := 1) (xs := (((bookY X y k).flatMap entC) ++ entC ⟨(k : Int), 1, X.price⟩)) (ys := entC ⟨(k : Int), 3, backY X y k⟩) (size := 3) [_] [_, _, _] [] rfl rfl Try.underlying41 Try.sizeOf44 Try.typeInfo44 Try.zeroValue44 rfl rfl rfl rfl ⟨rfl, .inr ⟨_, _, _, rfl, RdN.own (k := 0) (n := 3) rfl rfl⟩⟩ (oneB_spec rfl) hu1 (by simp only [List.length_append, flat_len entC_len, entC_len]; first | done | omega) (by omega) (by show (2 * (_ + _) + 1000) * 24 ≤ 2 ^ 48; omega) (by omega)) rfl ?_
          rintro _ _ _ ⟨u3, hu3, rfl, rfl, rfl⟩
          refine WL.yd (Yd.assign rfl) rfl ?_
          refine WL.nil ?_
          refine WP.thenC ?_
          refine WC.ofFr [(11, _), (17, _), (3, _), (4, _), (5, _), (6, _), (9, _), (12, _), (13, _), (67, _), (68, _), (15, _)] ⟨rfl, rfl, rfl, rfl, rfl, rfl, rfl, rfl, rfl, rfl, rfl, rfl, trivial⟩ ?_
          refine WC.region ?_
          refine WL.yd (Yd.move rfl) rfl ?_
          refine WL.yd (Yd.fieldAddr FA37_1 rfl) rfl ?_
          refine WL.yd (Yd.load1 Try.isAgg3 rfl (by first | exact Rd.own (k := 0) rfl rfl | exact Rd.own (k := 1) rfl rfl | exact Rd.own (k := 2) rfl rfl | exact Rd.own (k := 3) rfl rfl | exact (Rd.imm h4 rfl))) rfl ?_
          refine WL.yd (Yd.add rfl rfl (wr64 ⟨by (try dsimp only); omega, by (try dsimp only); omega⟩)) rfl ?_
          refine WL.yd (Yd.move rfl) rfl ?_
          refine WL.yd (Yd.add rfl rfl (wr64 ⟨by (try dsimp only); omega, by (try dsimp only); omega⟩)) rfl ?_
          refine WL.yd (Yd.move rfl) rfl ?_
          refine WL.yd (Yd.sub rfl rfl (wr64 ⟨by (try dsimp only); omega, by (try dsimp only); omega⟩)) rfl ?_
          refine WL.yd (Yd.move rfl) rfl ?_
          refine WL.yd (Yd.move rfl) rfl ?_
          refine WL.yd (Yd.add rfl rfl (wr64 ⟨by (try dsimp only); omega, by (try dsimp only); omega⟩)) rfl ?_
          refine WL.yd (Yd.assign rfl) rfl ?_
          refine WL.yd (Yd.assign rfl) rfl ?_
          refine WL.nil ?_
          refine WP.blkNormal ?_
          refine WP.thenC ?_
          refine WC.ofFr [(13, _), (12, _), (11, _), (3, _), (4, _), (5, _), (6, _), (9, _), (67, _), (68, _)] ⟨rfl, rfl, rfl, rfl, rfl, rfl, rfl, rfl, rfl, rfl, trivial⟩ ?_
          refine WC.region ?_
          refine WL.yd (Yd.addN (i := k) (j := 1) rfl rfl (by omega)) rfl ?_
          refine WL.yd (Yd.move rfl) rfl ?_
          refine WL.nil ?_
          first
            | (have eb := due_11 (X := X) (y := y) (i := k) (by omega) (by omega)
               refine WP.again (⟨k + 1, some u3⟩ : Nat × Option Ow) ⟨by simp only; omega, by simp only; rw [eb, List.length_append]; exact hu3⟩ (by simp only; omega) (fun aa ww h => ?_)
               show At _ [(3, fvV bc bb), (4, pt b4), (5, .slice a2 X.tk.l.length c2), (6, .slice a3 X.tk.l.length c3), (9, pt b9), (11, owV (some u3) (bookY X y (k + 1)).length), (12, it (sumT X y (k + 1))), (13, it (sumFi X y (k + 1))), (67, nt X.tk.l.length), (68, nt (k + 1))] D5 ((bc, cntO j1) :: owH (some u3) 44 ((bookY X y (k + 1)).flatMap entC) []) aa ww
               rw [eb, ent_3, List.length_append, sumFi_succ]
               exact at_less h ⟨rfl, rfl, rfl, rfl, rfl, rfl, rfl, rfl, rfl, rfl, trivial⟩ (fun _ h => .tail _ (.tail _ h)) (fun h => (List.nodup_cons.1 (List.nodup_cons.1 h).2).2))
            | (have eb := due_10 (X := X) (y := y) (i := k) (by omega) (by omega)
               refine WP.again (⟨k + 1, some u2⟩ : Nat × Option Ow) ⟨by simp only; omega, by simp only; rw [eb, List.length_append]; exact hu2⟩ (by simp only; omega) (fun aa ww h => ?_)
               show At _ [(3, fvV bc bb), (4, pt b4), (5, .slice a2 X.tk.l.length c2), (6, .slice a3 X.tk.l.length c3), (9, pt b9), (11, owV (some u2) (bookY X y (k + 1)).length), (12, it (sumT X y (k + 1))), (13, it (sumFi X y (k + 1))), (67, nt X.tk.l.length), (68, nt (k + 1))] D5 ((bc, cntO j1) :: owH (some u2) 44 ((bookY X y (k + 1)).flatMap entC) []) aa ww
               rw [eb, ent_2, List.length_append, sumFi_succ]
               exact at_less h ⟨rfl, rfl, rfl, rfl, rfl, rfl, rfl, rfl, rfl, rfl, trivial⟩ (fun _ h => .tail _ (.tail _ h)) (fun h => (List.nodup_cons.1 (List.nodup_cons.1 h).2).2))
            | (have eb := due_01 (X := X) (y := y) (i := k) (by omega) (by omega)
               refine WP.again (⟨k + 1, some u3⟩ : Nat × Option Ow) ⟨by simp only; omega, by simp only; rw [eb, List.length_append]; exact hu3⟩ (by simp only; omega) (fun aa ww h => ?_)
               show At _ [(3, fvV bc bb), (4, pt b4), (5, .slice a2 X.tk.l.length c2), (6, .slice a3 X.tk.l.length c3), (9, pt b9), (11, owV (some u3) (bookY X y (k + 1)).length), (12, it (sumT X y (k + 1))), (13, it (sumFi X y (k + 1))), (67, nt X.tk.l.length), (68, nt (k + 1))] D5 ((bc, cntO j1) :: owH (some u3) 44 ((bookY X y (k + 1)).flatMap entC) []) aa ww
               rw [eb, ent_2, List.length_append, sumFi_succ]
               exact at_less h ⟨rfl, rfl, rfl, rfl, rfl, rfl, rfl, rfl, rfl, rfl, trivial⟩ (fun _ h => .tail _ (.tail _ h)) (fun h => (List.nodup_cons.1 (List.nodup_cons.1 h).2).2))
            | (have eb := due_00 (X := X) (y := y) (i := k) (by omega) (by omega)
               refine WP.again (⟨k + 1, some u1⟩ : Nat × Option Ow) ⟨by simp only; omega, by simp only; rw [eb, List.length_append]; exact hu1⟩ (by simp only; omega) (fun aa ww h => ?_)
               show At _ [(3, fvV bc bb), (4, pt b4), (5, .slice a2 X.tk.l.length c2), (6, .slice a3 X.tk.l.length c3), (9, pt b9), (11, owV (some u1) (bookY X y (k + 1)).length), (12, it (sumT X y (k + 1))), (13, it (sumFi X y (k + 1))), (67, nt X.tk.l.length), (68, nt (k + 1))] D5 ((bc, cntO j1) :: owH (some u1) 44 ((bookY X y (k + 1)).flatMap entC) []) aa ww
               rw [eb, ent_1, List.length_append, sumFi_succ]
               exact at_less h ⟨rfl, rfl, rfl, rfl, rfl, rfl, rfl, rfl, rfl, rfl, trivial⟩ (fun _ h => .tail _ (.tail _ h)) (fun h => (List.nodup_cons.1 (List.nodup_cons.1 h).2).2))
        · try simp only [zq1, zq2, zq3, zq4, zq5, zq6, zq7, zq8] at c174
          refine WC.skip ?_
          refine WP.thenC ?_
          refine WC.ofFr [(11, _), (17, _), (3, _), (4, _), (5, _), (6, _), (9, _), (12, _), (13, _), (67, _), (68, _), (15, _)] ⟨rfl, rfl, rfl, rfl, rfl, rfl, rfl, rfl, rfl, rfl, rfl, rfl, trivial⟩ ?_
          refine WC.region ?_
          refine WL.yd (Yd.move rfl) rfl ?_
          refine WL.yd (Yd.fieldAddr FA37_1 rfl) rfl ?_
          refine WL.yd (Yd.load1 Try.isAgg3 rfl (by first | exact Rd.own (k := 0) rfl rfl | exact Rd.own (k := 1) rfl rfl | exact Rd.own (k := 2) rfl rfl | exact Rd.own (k := 3) rfl rfl | exact (Rd.imm h4 rfl))) rfl ?_
          refine WL.yd (Yd.add rfl rfl (wr64 ⟨by (try dsimp only); omega, by (try dsimp only); omega⟩)) rfl ?_
          refine WL.yd (Yd.move rfl) rfl ?_
          refine WL.yd (Yd.add rfl rfl (wr64 ⟨by (try dsimp only); omega, by (try dsimp only); omega⟩)) rfl ?_
          refine WL.yd (Yd.move rfl) rfl ?_
          refine WL.yd (Yd.sub rfl rfl (wr64 ⟨by (try dsimp only); omega, by (try dsimp only); omega⟩)) rfl ?_
          refine WL.yd (Yd.move rfl) rfl ?_
          refine WL.yd (Yd.move rfl) rfl ?_
          refine WL.yd (Yd.add rfl rfl (wr64 ⟨by (try dsimp only); omega, by (try dsimp only); omega⟩)) rfl ?_
          refine WL.yd (Yd.assign rfl) rfl ?_
          refine WL.yd (Yd.assign rfl) rfl ?_
          refine WL.nil ?_
          refine WP.blkNormal ?_
          refine WP.thenC ?_
          refine WC.ofFr [(13, _), (12, _), (11, _), (3, _), (4, _), (5, _), (6, _), (9, _), (67, _), (68, _)] ⟨rfl, rfl, rfl, rfl, rfl, rfl, rfl, rfl, rfl, rfl, trivial⟩ ?_
          refine WC.region ?_
          refine WL.yd (Yd.addN (i := k) (j := 1) rfl rfl (by omega)) rfl ?_
          refine WL.yd (Yd.move rfl) rfl ?_
          refine WL.nil ?_
          first
            | (have eb := due_11 (X := X) (y := y) (i := k) (by omega) (by omega)
               refine WP.again (⟨k + 1, some u3⟩ : Nat × Option Ow) ⟨by simp only; omega, by simp only; rw [eb, List.length_append]; exact hu3⟩ (by simp only; omega) (fun aa ww h => ?_)
               show At _ [(3, fvV bc bb), (4, pt b4), (5, .slice a2 X.tk.l.length c2), (6, .slice a3 X.tk.l.length c3), (9, pt b9), (11, owV (some u3) (bookY X y (k + 1)).length), (12, it (sumT X y (k + 1))), (13, it (sumFi X y (k + 1))), (67, nt X.tk.l.length), (68, nt (k + 1))] D5 ((bc, cntO j1) :: owH (some u3) 44 ((bookY X y (k + 1)).flatMap entC) []) aa ww
               rw [eb, ent_3, List.length_append, sumFi_succ]
               exact at_less h ⟨rfl, rfl, rfl, rfl, rfl, rfl, rfl, rfl, rfl, rfl, trivial⟩ (fun _ h => .tail _ (.tail _ h)) (fun h => (List.nodup_cons.1 (List.nodup_cons.1 h).2).2))
            | (have eb := due_10 (X := X) (y := y) (i := k) (by omega) (by omega)
               refine WP.again (⟨k + 1, some u2⟩ : Nat × Option Ow) ⟨by simp only; omega, by simp only; rw [eb, List.length_append]; exact hu2⟩ (by simp only; omega) (fun aa ww h => ?_)
               show At _ [(3, fvV bc bb), (4, pt b4), (5, .slice a2 X.tk.l.length c2), (6, .slice a3 X.tk.l.length c3), (9, pt b9), (11, owV (some u2) (bookY X y (k + 1)).length), (12, it (sumT X y (k + 1))), (13, it (sumFi X y (k + 1))), (67, nt X.tk.l.length), (68, nt (k + 1))] D5 ((bc, cntO j1) :: owH (some u2) 44 ((bookY X y (k + 1)).flatMap entC) []) aa ww
               rw [eb, ent_2, List.length_append, sumFi_succ]
               exact at_less h ⟨rfl, rfl, rfl, rfl, rfl, rfl, rfl, rfl, rfl, rfl, trivial⟩ (fun _ h => .tail _ (.tail _ h)) (fun h => (List.nodup_cons.1 (List.nodup_cons.1 h).2).2))
            | (have eb := due_01 (X := X) (y := y) (i := k) (by omega) (by omega)
               refine WP.again (⟨k + 1, some u3⟩ : Nat × Option Ow) ⟨by simp only; omega, by simp only; rw [eb, List.length_append]; exact hu3⟩ (by simp only; omega) (fun aa ww h => ?_)
               show At _ [(3, fvV bc bb), (4, pt b4), (5, .slice a2 X.tk.l.length c2), (6, .slice a3 X.tk.l.length c3), (9, pt b9), (11, owV (some u3) (bookY X y (k + 1)).length), (12, it (sumT X y (k + 1))), (13, it (sumFi X y (k + 1))), (67, nt X.tk.l.length), (68, nt (k + 1))] D5 ((bc, cntO j1) :: owH (some u3) 44 ((bookY X y (k + 1)).flatMap entC) []) aa ww
               rw [eb, ent_2, List.length_append, sumFi_succ]
               exact at_less h ⟨rfl, rfl, rfl, rfl, rfl, rfl, rfl, rfl, rfl, rfl, trivial⟩ (fun _ h => .tail _ (.tail _ h)) (fun h => (List.nodup_cons.1 (List.nodup_cons.1 h).2).2))
            | (have eb := due_00 (X := X) (y := y) (i := k) (by omega) (by omega)
               refine WP.again (⟨k + 1, some u1⟩ : Nat × Option Ow) ⟨by simp only; omega, by simp only; rw [eb, List.length_append]; exact hu1⟩ (by simp only; omega) (fun aa ww h => ?_)
               show At _ [(3, fvV bc bb), (4, pt b4), (5, .slice a2 X.tk.l.length c2), (6, .slice a3 X.tk.l.length c3), (9, pt b9), (11, owV (some u1) (bookY X y (k + 1)).length), (12, it (sumT X y (k + 1))), (13, it (sumFi X y (k + 1))), (67, nt X.tk.l.length), (68, nt (k + 1))] D5 ((bc, cntO j1) :: owH (some u1) 44 ((bookY X y (k + 1)).flatMap entC) []) aa ww
               rw [eb, ent_1, List.length_append, sumFi_succ]
               exact at_less h ⟨rfl, rfl, rfl, rfl, rfl, rfl, rfl, rfl, rfl, rfl, trivial⟩ (fun _ h => .tail _ (.tail _ h)) (fun h => (List.nodup_cons.1 (List.nodup_cons.1 h).2).2))
  · try simp only [zq1, zq2, zq3, zq4, zq5, zq6, zq7, zq8] at c69
    obtain rfl : k = X.tk.l.length := by omega
    refine WC.exit ?_
    refine WP.thenExit ?_
    refine WP.thenExit ?_
    refine WP.blkHit ?_
    refine WP.thenC ?_
    refine WC.seq ?_
    refine WC.seq ?_
    refine WC.ofFr [(3, _), (4, _), (9, _), (11, _), (12, _), (13, _)] ⟨rfl, rfl, rfl, rfl, rfl, rfl, trivial⟩ ?_
    refine WC.region ?_
    refine WL.yd (Yd.move rfl) rfl ?_
    refine WL.know 193 (.slice (owAt o) (bookY X y X.tk.l.length).length (owCp o (bookY X y X.tk.l.length).length)) rfl (owV_eqP ho) ?_
    refine WL.yd (Yd.lenS rfl Try.underlying41 rfl) rfl ?_
    refine WL.yd (Yd.move rfl) rfl ?_
    refine WL.nil ?_
    refine WP.thenC ?_
    refine WC.block ?_
    have hbL := bookY_len X y X.tk.l.length
    refine WC.loop (fun q : Nat × List Ent => [(3, fvV bc bb), (4, pt b4), (9, pt b9), (11, owV o q.2.length), (12, it (sumT X y X.tk.l.length)), (13, it (sumFi X y X.tk.l.length)), (194, nt q.2.length), (195, nt q.1)]) (fun q => ((bc, cntO (j1 + q.1)) :: owH o 44 (q.2.flatMap entC) [])) (fun _ => D5) (fun q => q.1 ≤ q.2.length ∧ (bookY X y X.tk.l.length).Perm q.2) (fun q => q.2.length - q.1) (0, (bookY X y X.tk.l.length)) ⟨by simp only; omega, List.Perm.refl _⟩ (fun a w h => at_fr h ⟨rfl, rfl, rfl, rfl, rfl, rfl, rfl, rfl, trivial⟩) ?_
    rintro ⟨i, l⟩ ⟨hi, hpm⟩
    dsimp only at hi hpm
    have hll := hpm.length_eq
    have hl20 : l.length ≤ 20 := by omega
    rw [hll] at ho
    refine WC.know 194 (nt l.length) rfl rfl ?_
    refine WC.know 11 (owV o l.length) rfl rfl ?_
    refine WC.know 195 (nt i) rfl rfl ?_
    refine WC.seq ?_
    refine WC.ofFr [(3, _), (4, _), (9, _), (11, _), (12, _), (13, _), (194, _), (195, _)] ⟨rfl, rfl, rfl, rfl, rfl, rfl, rfl, rfl, trivial⟩ ?_
    refine WC.region ?_
    refine WL.yd (Yd.lss rfl rfl) rfl ?_
    refine WL.nil ?_
    refine WP.thenC ?_
    refine WC.seq ?_
    refine WC.cond rfl (fun c196 => ?_) (fun c196 => ?_)
    · try simp only [zq1, zq2, zq3, zq4, zq5, zq6, zq7, zq8] at c196
      have hil : i < l.length := by omega
      obtain ⟨u, rfl⟩ := ow_some ho (by omega)
      have hdr := drawV_num by_ (j1 + i + 1) (n := (l.length : Int) - (i : Int)) (by omega)
      have hkl2 : ((i : Int) + (drawV by_ (j1 + i + 1) ((l.length : Int) - (i : Int)))).toNat < l.length := by omega
      refine WC.skip ?_
      refine WP.thenC ?_
      refine WC.seq ?_
      refine WC.block ?_
      refine WC.seq ?_
      refine WC.ofFr [(3, _), (4, _), (9, _), (11, _), (12, _), (13, _), (194, _), (195, _)] ⟨rfl, rfl, rfl, rfl, rfl, rfl, rfl, rfl, trivial⟩ ?_
      refine WC.region ?_
      refine WL.yd (Yd.move rfl) rfl ?_
      refine WL.yd (Yd.assign rfl) rfl ?_
      refine WL.nil ?_
      refine WP.thenC ?_
      refine WC.seq ?_
      refine WC.ofFr [(22, _), (3, _), (4, _), (9, _), (11, _), (12, _), (13, _), (194, _), (195, _)] ⟨rfl, rfl, rfl, rfl, rfl, rfl, rfl, rfl, rfl, trivial⟩ ?_
      refine WC.region ?_
      refine WL.yd (Yd.move rfl) rfl ?_
      refine WL.yd (Yd.move rfl) rfl ?_
      refine WL.yd (Yd.move rfl) rfl ?_
      refine WL.yd (Yd.lenS rfl Try.underlying41 rfl) rfl ?_
      refine WL.yd (Yd.move rfl) rfl ?_
      refine WL.yd (Yd.sub rfl rfl (wr64 ⟨by (try dsimp only); omega, by (try dsimp only); omega⟩)) rfl ?_
      refine WL.so (SO.altersF (own := _) (hpc := [(bc, cntO (j1 + i))]) (S1 := [bc]) rfl (fun _ h => h) (fun _ h => h) (Enters.val Try.call57 rfl rfl) (fun w1 hI => draw_g by_ bc bb _ w1 hB _ (by omega) (j1 + i) (by omega) hI)) rfl ?_
      rintro _ _ _ ⟨_, _, ⟨rfl, rfl, rfl⟩, rfl⟩
      refine WL.yd (Yd.add rfl rfl (wr64 ⟨by (try dsimp only); omega, by (try dsimp only); omega⟩)) rfl ?_
      refine WL.yd (Yd.assign rfl) rfl ?_
      refine WL.nil ?_
      refine WP.thenC ?_
      refine WC.know 23 (nt ((i : Int) + (drawV by_ (j1 + i + 1) ((l.length : Int) - (i : Int)))).toNat) rfl (congrArg (Value.int .i64) (by omega)) ?_
      refine WC.ofFr [(23, _), (22, _), (3, _), (4, _), (9, _), (11, _), (12, _), (13, _), (194, _), (195, _)] ⟨rfl, rfl, rfl, rfl, rfl, rfl, rfl, rfl, rfl, rfl, trivial⟩ ?_
      refine WC.drawH [] (by kernel_rfl) (fun _ hI => Inv.nil hI) ?_
      refine WH.yd (i := 0) (by kernel_rfl) (fun _ o v c a w _ h => (QuietPanic.blk (QuietPanic.then (QuietPanic.then (QuietPanic.blk (QuietPanic.then QuietPanic.body))))) c o.dst v a w h) rfl (Yd.move rfl) rfl ?_
      refine WH.yd (i := 1) (by kernel_rfl) (fun _ o v c a w _ h => (QuietPanic.blk (QuietPanic.then (QuietPanic.then (QuietPanic.blk (QuietPanic.then QuietPanic.body))))) c o.dst v a w h) rfl (Yd.move rfl) rfl ?_
      refine WH.yd (i := 2) (by kernel_rfl) (fun _ o v c a w _ h => (QuietPanic.blk (QuietPanic.then (QuietPanic.then (QuietPanic.blk (QuietPanic.then QuietPanic.body))))) c o.dst v a w h) rfl (Yd.move rfl) rfl ?_
      refine WH.yd (i := 3) (by kernel_rfl) (fun _ o v c a w _ h => (QuietPanic.blk (QuietPanic.then (QuietPanic.then (QuietPanic.blk (QuietPanic.then QuietPanic.body))))) c o.dst v a w h) rfl (Yd.move rfl) rfl ?_
      refine WH.yd (i := 4) (by kernel_rfl) (fun _ o v c a w _ h => (QuietPanic.blk (QuietPanic.then (QuietPanic.then (QuietPanic.blk (QuietPanic.then QuietPanic.body))))) c o.dst v a w h) rfl (Yd.move rfl) rfl ?_
      refine WH.yd (i := 5) (by kernel_rfl) (fun _ o v c a w _ h => (QuietPanic.blk (QuietPanic.then (QuietPanic.then (QuietPanic.blk (QuietPanic.then QuietPanic.body))))) c o.dst v a w h) rfl (Yd.move rfl) rfl ?_
      refine WH.yd (i := 6) (by kernel_rfl) (fun _ o v c a w _ h => (QuietPanic.blk (QuietPanic.then (QuietPanic.then (QuietPanic.blk (QuietPanic.then QuietPanic.body))))) c o.dst v a w h) rfl (Yd.indexS Try.underlying41 Try.sizeOf44 rfl rfl (by (try dsimp only); omega) (by (try dsimp only); omega) (by first | exact rfl)) rfl ?_
      refine WH.yd (i := 8) (by kernel_rfl) (fun _ o v c a w _ h => (QuietPanic.blk (QuietPanic.then (QuietPanic.then (QuietPanic.blk (QuietPanic.then QuietPanic.body))))) c o.dst v a w h) rfl (Yd.move rfl) rfl ?_
      refine WH.yd (i := 9) (by kernel_rfl) (fun _ o v c a w _ h => (QuietPanic.blk (QuietPanic.then (QuietPanic.then (QuietPanic.blk (QuietPanic.then QuietPanic.body))))) c o.dst v a w h) rfl (Yd.move rfl) rfl ?_
      refine WH.yd (i := 10) (by kernel_rfl) (fun _ o v c a w _ h => (QuietPanic.blk (QuietPanic.then (QuietPanic.then (QuietPanic.blk (QuietPanic.then QuietPanic.body))))) c o.dst v a w h) rfl (Yd.indexS Try.underlying41 Try.sizeOf44 rfl rfl (by (try dsimp only); omega) (by (try dsimp only); omega) (by first | exact rfl)) rfl ?_
      refine WH.two (i := 7) (j := 11) (by kernel_rfl) ?_ ?_
      · refine WHo.yd rfl (Yd.loadN Try.isAgg44 Try.sizeOf44 rfl (vs := [_, _, _]) rfl (by first | exact RdN.own (k := 0) (n := 3) rfl rfl | exact RdN.own (k := 1) (n := 3) rfl rfl | exact (RdN.flat entC_len (k := 1) (i := i) (j := 0) (n := 3) rfl hil rfl) | exact (RdN.flat entC_len (k := 1) (i := ((i : Int) + (drawV by_ (j1 + i + 1) ((l.length : Int) - (i : Int)))).toNat) (j := 0) (n := 3) rfl hkl2 rfl))) rfl ?_
        refine WH.one (i := 11) (by kernel_rfl) (WHo.yd rfl (Yd.loadN Try.isAgg44 Try.sizeOf44 rfl (vs := [_, _, _]) rfl (by first | exact RdN.own (k := 0) (n := 3) rfl rfl | exact RdN.own (k := 1) (n := 3) rfl rfl | exact (RdN.flat entC_len (k := 1) (i := i) (j := 0) (n := 3) rfl hil rfl) | exact (RdN.flat entC_len (k := 1) (i := ((i : Int) + (drawV by_ (j1 + i + 1) ((l.length : Int) - (i : Int)))).toNat) (j := 0) (n := 3) rfl hkl2 rfl))) rfl ?_)
        refine WH.yd (i := 12) (by kernel_rfl) (fun _ o v c a w _ h => (QuietPanic.blk (QuietPanic.then (QuietPanic.then (QuietPanic.blk (QuietPanic.then QuietPanic.body))))) c o.dst v a w h) rfl (Yd.indexS Try.underlying41 Try.sizeOf44 rfl rfl (by (try dsimp only); omega) (by (try dsimp only); omega) (by first | exact rfl)) rfl ?_
        refine WH.one (i := 13) (by kernel_rfl) (WHo.so rfl (SO.storeRow (f := entC) (m := 3) entC_len (l := l) (i := i) (y := gt l ((i : Int) + (drawV by_ (j1 + i + 1) ((l.length : Int) - (i : Int)))).toNat) 1 rfl Try.sizeOf44 rfl rfl rfl hil (oneB_spec rfl)) rfl ?_)
        rintro _ _ _ ⟨rfl, rfl, rfl⟩
        refine ⟨(fun _ hI => Inv.nil hI), ?_⟩
        refine WH.yd (i := 14) (by kernel_rfl) (fun _ o v c a w _ h => (QuietPanic.blk (QuietPanic.then (QuietPanic.then (QuietPanic.blk (QuietPanic.then QuietPanic.body))))) c o.dst v a w h) rfl (Yd.indexS Try.underlying41 Try.sizeOf44 rfl rfl (by (try dsimp only); omega) (by (try dsimp only); omega) (by first | exact rfl)) rfl ?_
        refine WH.one (i := 15) (by kernel_rfl) (WHo.so rfl (SO.storeRow (f := entC) (m := 3) entC_len (l := l.set i (gt l ((i : Int) + (drawV by_ (j1 + i + 1) ((l.length : Int) - (i : Int)))).toNat)) (i := ((i : Int) + (drawV by_ (j1 + i + 1) ((l.length : Int) - (i : Int)))).toNat) (y := gt l i) 1 rfl Try.sizeOf44 rfl rfl rfl (by rw [List.length_set]; exact hkl2) (oneB_spec rfl)) rfl ?_)
        rintro _ _ _ ⟨rfl, rfl, rfl⟩
        refine ⟨(fun _ hI => Inv.nil hI), ?_⟩
        refine WH.nil (by kernel_rfl) ?_
        refine WP.blkNormal ?_
        refine WP.thenC ?_
        refine WC.ofFr [(3, _), (4, _), (9, _), (11, _), (12, _), (13, _), (194, _), (195, _)] ⟨rfl, rfl, rfl, rfl, rfl, rfl, rfl, rfl, trivial⟩ ?_
        refine WC.region ?_
        refine WL.yd (Yd.addN (i := i) (j := 1) rfl rfl (by omega)) rfl ?_
        refine WL.yd (Yd.move rfl) rfl ?_
        refine WL.nil ?_
        refine WP.again (⟨i + 1, swpE l i ((i : Int) + (drawV by_ (j1 + i + 1) ((l.length : Int) - (i : Int)))).toNat⟩ : Nat × List Ent) ⟨by simp only; rw [swpE_len]; omega, hpm.trans (swpE_perm hil hkl2)⟩ (by simp only; rw [swpE_len]; omega) (fun aa ww h => ?_)
        show At _ [(3, fvV bc bb), (4, pt b4), (9, pt b9), (11, owV (some u) (swpE l i ((i : Int) + (drawV by_ (j1 + i + 1) ((l.length : Int) - (i : Int)))).toNat).length), (12, it (sumT X y X.tk.l.length)), (13, it (sumFi X y X.tk.l.length)), (194, nt (swpE l i ((i : Int) + (drawV by_ (j1 + i + 1) ((l.length : Int) - (i : Int)))).toNat).length), (195, nt (i + 1))] D5 ((bc, cntO (j1 + (i + 1))) :: owH (some u) 44 ((swpE l i ((i : Int) + (drawV by_ (j1 + i + 1) ((l.length : Int) - (i : Int)))).toNat).flatMap entC) []) aa ww
        rw [swpE_len]
        exact at_fr h ⟨rfl, rfl, rfl, rfl, rfl, rfl, rfl, rfl, trivial⟩
      · refine WHo.yd rfl (Yd.loadN Try.isAgg44 Try.sizeOf44 rfl (vs := [_, _, _]) rfl (by first | exact RdN.own (k := 0) (n := 3) rfl rfl | exact RdN.own (k := 1) (n := 3) rfl rfl | exact (RdN.flat entC_len (k := 1) (i := i) (j := 0) (n := 3) rfl hil rfl) | exact (RdN.flat entC_len (k := 1) (i := ((i : Int) + (drawV by_ (j1 + i + 1) ((l.length : Int) - (i : Int)))).toNat) (j := 0) (n := 3) rfl hkl2 rfl))) rfl ?_
        refine WH.one (i := 7) (by kernel_rfl) (WHo.yd rfl (Yd.loadN Try.isAgg44 Try.sizeOf44 rfl (vs := [_, _, _]) rfl (by first | exact RdN.own (k := 0) (n := 3) rfl rfl | exact RdN.own (k := 1) (n := 3) rfl rfl | exact (RdN.flat entC_len (k := 1) (i := i) (j := 0) (n := 3) rfl hil rfl) | exact (RdN.flat entC_len (k := 1) (i := ((i : Int) + (drawV by_ (j1 + i + 1) ((l.length : Int) - (i : Int)))).toNat) (j := 0) (n := 3) rfl hkl2 rfl))) rfl ?_)
        refine WH.yd (i := 12) (by kernel_rfl) (fun _ o v c a w _ h => (QuietPanic.blk (QuietPanic.then (QuietPanic.then (QuietPanic.blk (QuietPanic.then QuietPanic.body))))) c o.dst v a w h) rfl (Yd.indexS Try.underlying41 Try.sizeOf44 rfl rfl (by (try dsimp only); omega) (by (try dsimp only); omega) (by first | exact rfl)) rfl ?_
        refine WH.one (i := 13) (by kernel_rfl) (WHo.so rfl (SO.storeRow (f := entC) (m := 3) entC_len (l := l) (i := i) (y := gt l ((i : Int) + (drawV by_ (j1 + i + 1) ((l.length : Int) - (i : Int)))).toNat) 1 rfl Try.sizeOf44 rfl rfl rfl hil (oneB_spec rfl)) rfl ?_)
        rintro _ _ _ ⟨rfl, rfl, rfl⟩
        refine ⟨(fun _ hI => Inv.nil hI), ?_⟩
        refine WH.yd (i := 14) (by kernel_rfl) (fun _ o v c a w _ h => (QuietPanic.blk (QuietPanic.then (QuietPanic.then (QuietPanic.blk (QuietPanic.then QuietPanic.body))))) c o.dst v a w h) rfl (Yd.indexS Try.underlying41 Try.sizeOf44 rfl rfl (by (try dsimp only); omega) (by (try dsimp only); omega) (by first | exact rfl)) rfl ?_
        refine WH.one (i := 15) (by kernel_rfl) (WHo.so rfl (SO.storeRow (f := entC) (m := 3) entC_len (l := l.set i (gt l ((i : Int) + (drawV by_ (j1 + i + 1) ((l.length : Int) - (i : Int)))).toNat)) (i := ((i : Int) + (drawV by_ (j1 + i + 1) ((l.length : Int) - (i : Int)))).toNat) (y := gt l i) 1 rfl Try.sizeOf44 rfl rfl rfl (by rw [List.length_set]; exact hkl2) (oneB_spec rfl)) rfl ?_)
        rintro _ _ _ ⟨rfl, rfl, rfl⟩
        refine ⟨(fun _ hI => Inv.nil hI), ?_⟩
        refine WH.nil (by kernel_rfl) ?_
        refine WP.blkNormal ?_
        refine WP.thenC ?_
        refine WC.ofFr [(3, _), (4, _), (9, _), (11, _), (12, _), (13, _), (194, _), (195, _)] ⟨rfl, rfl, rfl, rfl, rfl, rfl, rfl, rfl, trivial⟩ ?_
        refine WC.region ?_
        refine WL.yd (Yd.addN (i := i) (j := 1) rfl rfl (by omega)) rfl ?_
        refine WL.yd (Yd.move rfl) rfl ?_
        refine WL.nil ?_
        refine WP.again (⟨i + 1, swpE l i ((i : Int) + (drawV by_ (j1 + i + 1) ((l.length : Int) - (i : Int)))).toNat⟩ : Nat × List Ent) ⟨by simp only; rw [swpE_len]; omega, hpm.trans (swpE_perm hil hkl2)⟩ (by simp only; rw [swpE_len]; omega) (fun aa ww h => ?_)
        show At _ [(3, fvV bc bb), (4, pt b4), (9, pt b9), (11, owV (some u) (swpE l i ((i : Int) + (drawV by_ (j1 + i + 1) ((l.length : Int) - (i : Int)))).toNat).length), (12, it (sumT X y X.tk.l.length)), (13, it (sumFi X y X.tk.l.length)), (194, nt (swpE l i ((i : Int) + (drawV by_ (j1 + i + 1) ((l.length : Int) - (i : Int)))).toNat).length), (195, nt (i + 1))] D5 ((bc, cntO (j1 + (i + 1))) :: owH (some u) 44 ((swpE l i ((i : Int) + (drawV by_ (j1 + i + 1) ((l.length : Int) - (i : Int)))).toNat).flatMap entC) []) aa ww
        rw [swpE_len]
        exact at_fr h ⟨rfl, rfl, rfl, rfl, rfl, rfl, rfl, rfl, trivial⟩
    · try simp only [zq1, zq2, zq3, zq4, zq5, zq6, zq7, zq8] at c196
      refine WC.exit ?_
      refine WP.thenExit ?_
      refine WP.thenExit ?_
      refine WP.blkHit ?_
      refine WP.thenC ?_
      refine WC.seq ?_
      refine WC.know 11 (.slice (owAt o) l.length (owCp o l.length)) rfl (owV_eqP ho) ?_
      refine WC.freezeOw (f := entC) (m := 3) entC_len [_] [] o 44 l rfl ho rfl (fun D7 hX7 hSl => ?_)
      replace hR := hR.ext hX7
      replace h4 := hX7.old _ _ h4
      replace h9 := hX7.old _ _ h9
      have hBk : BookR D7 l (owAt o) l.length := ⟨hSl, by omega⟩
      refine WC.ofFr [(4, _), (9, _), (11, _), (12, _), (13, _)] ⟨rfl, rfl, rfl, rfl, rfl, trivial⟩ ?_
      refine WC.region ?_
      refine WL.yd (Yd.loadN Try.isAgg37 Try.sizeOf37 rfl (vs := [_, _, _, _, _]) rfl (by first | exact RdN.own (k := 0) (n := 5) rfl rfl | exact (RdN.imm (n := 5) h4 rfl) | exact (RdN.own (k := 0) (n := 2) rfl rfl) | exact (RdN.own (k := 1) (n := 2) rfl rfl))) rfl ?_
      refine WL.yd (Yd.move rfl) rfl ?_
      refine WL.so (SO.callP Try.call15 rfl (fun w hI => Gives.cv (.tuple #[it 0, it 0, it 4]) (Check_g X a1 _ c1 _ _ hR hI.imm l (owAt o) _ (owCp o l.length) hBk) (by rw [perm_check hb hW hy hpm hl20]))) rfl ?_
      rintro _ _ _ ⟨rfl, rfl, rfl⟩
      refine WL.yd (Yd.move rfl) rfl ?_
      refine WL.yd (Yd.extract rfl rfl) rfl ?_
      refine WL.yd (Yd.extract rfl rfl) rfl ?_
      refine WL.yd (Yd.extract rfl rfl) rfl ?_
      refine WL.yd (Yd.assign rfl) rfl ?_
      refine WL.yd (Yd.assign rfl) rfl ?_
      refine WL.yd (Yd.assign rfl) rfl ?_
      refine WL.nil ?_
      refine WP.thenC ?_
      refine WC.seq ?_
      refine WC.ofFr [(26, _), (4, _), (9, _), (11, _), (12, _), (13, _)] ⟨rfl, rfl, rfl, rfl, rfl, rfl, trivial⟩ ?_
      refine WC.region ?_
      refine WL.yd (Yd.loadN Try.isAgg37 Try.sizeOf37 rfl (vs := [_, _, _, _, _]) rfl (by first | exact RdN.own (k := 0) (n := 5) rfl rfl | exact (RdN.imm (n := 5) h4 rfl) | exact (RdN.own (k := 0) (n := 2) rfl rfl) | exact (RdN.own (k := 1) (n := 2) rfl rfl))) rfl ?_
      refine WL.yd (Yd.move rfl) rfl ?_
      refine WL.so (SO.callP Try.call25 rfl (fun w hI => Gives.cv (.tuple #[it 0, it 0, it 0, it 0]) (Missing_g X a1 _ c1 _ _ hR hI.imm l (owAt o) _ (owCp o l.length) hBk) (by rw [perm_miss hb hW hy hpm hl20]))) rfl ?_
      rintro _ _ _ ⟨rfl, rfl, rfl⟩
      refine WL.yd (Yd.move rfl) rfl ?_
      refine WL.yd (Yd.extract rfl rfl) rfl ?_
      refine WL.yd (Yd.extract rfl rfl) rfl ?_
      refine WL.yd (Yd.extract rfl rfl) rfl ?_
      refine WL.yd (Yd.extract rfl rfl) rfl ?_
      refine WL.yd (Yd.assign rfl) rfl ?_
      refine WL.yd (Yd.assign rfl) rfl ?_
      refine WL.yd (Yd.assign rfl) rfl ?_
      refine WL.yd (Yd.assign rfl) rfl ?_
      refine WL.nil ?_
      refine WP.thenC ?_
      refine WC.seq ?_
      refine WC.ofFr [(30, _), (29, _), (28, _), (27, _), (26, _), (4, _), (9, _), (11, _), (12, _), (13, _)] ⟨rfl, rfl, rfl, rfl, rfl, rfl, rfl, rfl, rfl, rfl, trivial⟩ ?_
      refine WC.region ?_
      refine WL.yd (Yd.loadN Try.isAgg37 Try.sizeOf37 rfl (vs := [_, _, _, _, _]) rfl (by first | exact RdN.own (k := 0) (n := 5) rfl rfl | exact (RdN.imm (n := 5) h4 rfl) | exact (RdN.own (k := 0) (n := 2) rfl rfl) | exact (RdN.own (k := 1) (n := 2) rfl rfl))) rfl ?_
      refine WL.yd (Yd.move rfl) rfl ?_
      refine WL.so (SO.callP Try.call18 rfl (fun w hI => Gives.cv (.tuple #[it (sumT X y X.tk.l.length), it 0]) (Sum_g X a1 _ c1 _ _ hR hI.imm l (owAt o) _ (owCp o l.length) hBk) (by rw [perm_sum hb hW hy hpm hl20]))) rfl ?_
      rintro _ _ _ ⟨rfl, rfl, rfl⟩
      refine WL.yd (Yd.move rfl) rfl ?_
      refine WL.yd (Yd.extract rfl rfl) rfl ?_
      refine WL.yd (Yd.extract rfl rfl) rfl ?_
      refine WL.yd (Yd.assign rfl) rfl ?_
      refine WL.yd (Yd.assign rfl) rfl ?_
      refine WL.nil ?_
      refine WP.thenC ?_
      refine WC.seq ?_
      refine WC.ofFr [(32, _), (31, _), (30, _), (29, _), (28, _), (27, _), (26, _), (9, _), (12, _), (13, _)] ⟨rfl, rfl, rfl, rfl, rfl, rfl, rfl, rfl, rfl, rfl, trivial⟩ ?_
      refine WC.region ?_
      refine WL.yd (Yd.move rfl) rfl ?_
      refine WL.yd (Yd.loadN Try.isAgg30 Try.sizeOf30 rfl (vs := [_, _]) rfl (by first | exact RdN.own (k := 0) (n := 2) rfl rfl | exact (RdN.imm (n := 2) h9 rfl))) rfl ?_
      refine WL.so (SO.callP Try.call24 rfl (fun w hI => linside_g _ ⟨(WrongOut X.tk).1.lo * X.fine, (WrongOut X.tk).1.hi * X.fine⟩ _)) rfl ?_
      rintro _ _ _ ⟨rfl, rfl, rfl⟩
      refine WL.know 244 (.bool true) rfl (congrArg Value.bool (decide_eq_true (fines_in hb hW hy))) ?_
      refine WL.yd (Yd.move rfl) rfl ?_
      refine WL.ydg rfl (Yd.move rfl) rfl ?_
      refine WL.ydg rfl (Yd.eql rfl rfl) rfl ?_
      refine WL.know 247 (.bool true) rfl (congrArg Value.bool (by decide)) ?_
      refine WL.yd (Yd.pickT rfl rfl) rfl ?_
      refine WL.yd (Yd.move rfl) rfl ?_
      refine WL.ydg rfl (Yd.move rfl) rfl ?_
      refine WL.ydg rfl (Yd.eql rfl rfl) rfl ?_
      refine WL.know 251 (.bool true) rfl (congrArg Value.bool (by decide)) ?_
      refine WL.yd (Yd.pickT rfl rfl) rfl ?_
      refine WL.yd (Yd.move rfl) rfl ?_
      refine WL.ydg rfl (Yd.move rfl) rfl ?_
      refine WL.ydg rfl (Yd.eql rfl rfl) rfl ?_
      refine WL.know 255 (.bool true) rfl (congrArg Value.bool (by decide)) ?_
      refine WL.yd (Yd.pickT rfl rfl) rfl ?_
      refine WL.yd (Yd.move rfl) rfl ?_
      refine WL.ydg rfl (Yd.move rfl) rfl ?_
      refine WL.ydg rfl (Yd.eql rfl rfl) rfl ?_
      refine WL.know 259 (.bool true) rfl (congrArg Value.bool (by decide)) ?_
      refine WL.yd (Yd.pickT rfl rfl) rfl ?_
      refine WL.yd (Yd.move rfl) rfl ?_
      refine WL.ydg rfl (Yd.move rfl) rfl ?_
      refine WL.ydg rfl (Yd.eql rfl rfl) rfl ?_
      refine WL.know 263 (.bool true) rfl (congrArg Value.bool (by decide)) ?_
      refine WL.yd (Yd.pickT rfl rfl) rfl ?_
      refine WL.yd (Yd.move rfl) rfl ?_
      refine WL.ydg rfl (Yd.move rfl) rfl ?_
      refine WL.ydg rfl (Yd.move rfl) rfl ?_
      refine WL.ydg rfl (Yd.eql rfl rfl) rfl ?_
      refine WL.know 268 (.bool true) rfl (congrArg Value.bool (decide_eq_true rfl)) ?_
      refine WL.yd (Yd.pickT rfl rfl) rfl ?_
      refine WL.yd (Yd.move rfl) rfl ?_
      refine WL.ydg rfl (Yd.move rfl) rfl ?_
      refine WL.ydg rfl (Yd.eql rfl rfl) rfl ?_
      refine WL.know 272 (.bool true) rfl (congrArg Value.bool (by decide)) ?_
      refine WL.yd (Yd.pickT rfl rfl) rfl ?_
      refine WL.yd (Yd.move rfl) rfl ?_
      refine WL.sog rfl (SO.callP Try.call8 rfl (fun w hI => alive_g _ _ hI.imm)) rfl ?_
      rintro _ _ _ ⟨rfl, rfl, rfl⟩
      refine WL.know 275 (.bool true) rfl rfl ?_
      refine WL.yd (Yd.pickT rfl rfl) rfl ?_
      refine WL.yd (Yd.assign rfl) rfl ?_
      refine WL.nil ?_
      refine WP.thenC ?_
      refine WC.ret ?_
      refine WP.ret1 rfl rfl Try.results5 (RV.tmp rfl) (fun w hI => ⟨rfl, hI.keep⟩)

end Go.Proofs.Ytpnbkdlejfmbeaa
