import Derived.Test.YtidjdonppfegiaaXQ
import Derived.Test.YtidjdonppfegiaaXK
set_option linter.unusedSimpArgs false
set_option linter.unusedVariables false
set_option linter.all false
namespace Go.Proofs.Ytidjdonppfegiaa
open Go.W Go.Dp

theorem inv_swap {D : Imm} {e1 e2 : Nat × Obj} {S : List Nat} {w0 w : World} (h : W.Inv D [e1, e2] S w0 w) : W.Inv D [e2, e1] S w0 w :=
  h.sub (fun e he => by simp only [List.mem_cons, List.mem_nil_iff, or_false] at he ⊢; exact he.symm) (by have := h.nodup; simp at this ⊢; exact fun e => this e.symm)
def u16C (x : Int) : List Value := [.int .u16 x]
theorem u16C_len (x : Int) : (u16C x).length = 1 := rfl
theorem owH_app (o : Option Ow) (e : TypeId) (xs : List Value) (hp : Hp) : owH o e xs [] ++ hp = owH o e xs hp := by cases o <;> rfl
def cntO (j : Nat) : Obj := .cells (List.toArray [nt j]) 3 (0, 0)
def fvV (b3 b1 : Nat) : Value := .func (.func 87) #[] (List.toArray [pt b3, pt b1])
/-- what the draws lean on -/
structure ByR (D : Imm) (by_ : List Int) (b1 : Nat) : Prop where
  blk : ∃ a c, D b1 = some (.cells (List.toArray [.slice a by_.length c]) 48 (0, 0)) ∧ SlL D 1 (by_.map u16C) a by_.length
  num : ∀ i, i < by_.length → 0 ≤ gt by_ i ∧ gt by_ i ≤ 65535
theorem ByR.ext {w : World} {D D' : Imm} {by_ : List Int} {b1 : Nat} (h : ByR D by_ b1) (hX : DExt w D D') : ByR D' by_ b1 := by
  obtain ⟨⟨a, c, h1, h2⟩, h3⟩ := h
  exact ⟨⟨a, c, hX.old _ _ h1, h2.ext hX⟩, h3⟩

set_option maxRecDepth 100000 in
set_option maxHeartbeats 1000000 in
theorem draws_g (by_ : List Int) (a : Option Addr) (n c : Nat) (D : Imm) (w : World) (hS : SlL D 1 (by_.map u16C) a n) (hn : ∀ i, i < by_.length → 0 ≤ gt by_ i ∧ gt by_ i ≤ 65535) (hH : Holds D w) : News Try.prog 37 [.slice a n c] w D (fun v D' hpc' => ∃ b3 b1, v = fvV b3 b1 ∧ ByR D' by_ b1 ∧ hpc' = [(b3, cntO 0)]) := by
  unfold News
  obtain rfl : n = by_.length := by have := hS.len; simpa using this
  refine enter Try.func37 rfl 5 Try.ntmps37 (Nat.le_of_ble_eq_true rfl) (Inv.start hH) ?_
  refine WC.seq ?_
  refine WC.ofFr [(0, _)] ⟨rfl, trivial⟩ ?_
  refine WC.region ?_
  refine WL.so (SO.box rfl rfl) rfl ?_
  rintro _ _ _ ⟨b1, hb1, rfl, rfl, rfl⟩ -- NEW
  refine WL.yd (Yd.assign rfl) rfl ?_
  refine WL.nil ?_
  refine WP.thenC ?_
  refine WC.seq ?_
  refine WC.ofFr [(2, _), (1, _)] ⟨rfl, rfl, trivial⟩ ?_
  refine WC.region ?_
  refine WL.so (SO.alloc Try.zeroValue3 rfl) rfl ?_
  rintro _ _ _ ⟨b3, hb3, rfl, rfl, rfl⟩ -- NEW
  refine WL.so (SO.store 0 rfl Try.sizeOf3 rfl rfl rfl rfl (Nat.le_of_ble_eq_true rfl) (oneB_spec rfl)) rfl ?_
  rintro _ _ _ ⟨rfl, rfl, rfl⟩
  refine WL.nil ?_
  refine WP.thenC ?_
  refine WC.seq ?_
  refine WC.ofFr [(3, _), (2, _), (1, _)] ⟨rfl, rfl, rfl, trivial⟩ ?_
  refine WC.region ?_
  refine WL.yd (Yd.func rfl rfl) rfl ?_
  refine WL.yd (Yd.assign rfl) rfl ?_
  refine WL.nil ?_
  refine WP.thenC ?_
  refine WC.ret ?_
  refine WP.ret1 rfl rfl Try.results37 (RV.tmp rfl) (fun w1 hI => ?_)
  have hI2 : W.Inv D [(b1, .cells (List.toArray [.slice a by_.length c]) 48 (0, 0)), (b3, cntO 0)] [] w w1 := inv_swap (by exact hI)
  have hn1 := hI2.apart _ _ (List.mem_of_getElem? (i := 0) rfl)
  have hX1 := fun o => (DExt.refl w D).add (o := o) hn1 hb1
  exact ⟨_, _, _, rfl, hX1 _, hI2.freeze, b3, b1, rfl, ⟨⟨a, c, Imm.add_self _ _ _, hS.ext (hX1 _)⟩, hn⟩, rfl⟩

set_option maxRecDepth 100000 in
set_option maxHeartbeats 1000000 in
theorem draw_g (by_ : List Int) (b3 b1 : Nat) (D : Imm) (w : World) (hB : ByR D by_ b1) (m : Int) (hm : 1 ≤ m ∧ m ≤ 1000) (j : Nat) (hj : j ≤ 10000) (hI0 : Inv D [(b3, cntO j)] [b3] w w) : Alters Try.prog 87 [it m, pt b3, pt b1] w D [b3] (fun v D' hpc' => v = it (drawV by_ (j + 1) m) ∧ D = D' ∧ hpc' = [(b3, cntO (j + 1))]) := by
  unfold Alters
  obtain ⟨⟨a, c, hbD, hS⟩, hn⟩ := hB
  refine enter Try.func87 rfl 26 Try.ntmps87 (Nat.le_of_ble_eq_true rfl) hI0 ?_
  refine WC.seq ?_
  refine WC.ofFr [(0, _), (1, _), (2, _)] ⟨rfl, rfl, rfl, trivial⟩ ?_
  refine WC.region ?_
  refine WL.yd (Yd.assign rfl) rfl ?_
  refine WL.nil ?_
  refine WP.thenC ?_
  refine WC.seq ?_
  refine WC.ofFr [(4, _), (0, _), (1, _), (2, _)] ⟨rfl, rfl, rfl, rfl, trivial⟩ ?_
  refine WC.region ?_
  refine WL.yd (Yd.load1 Try.isAgg3 rfl (by first | exact Rd.own (k := 0) rfl rfl | exact (Rd.imm hbD rfl) | exact ((hS.at ((j + 1) % by_.length) hlt).rd 0 rfl))) rfl ?_
  refine WL.yd (Yd.addN rfl rfl (by (try dsimp only); omega)) rfl ?_
  refine WL.so (SO.store 0 rfl Try.sizeOf3 rfl rfl rfl rfl (Nat.le_of_ble_eq_true rfl) (oneB_spec rfl)) rfl ?_
  rintro _ _ _ ⟨rfl, rfl, rfl⟩
  refine WL.nil ?_
  refine WP.thenC ?_
  refine WC.seq ?_
  refine WC.seq ?_
  refine WC.ofFr [(4, _), (0, _), (1, _), (2, _)] ⟨rfl, rfl, rfl, rfl, trivial⟩ ?_
  refine WC.region ?_
  refine WL.yd (Yd.load1 Try.isAgg48 rfl (by first | exact Rd.own (k := 0) rfl rfl | exact (Rd.imm hbD rfl) | exact ((hS.at ((j + 1) % by_.length) hlt).rd 0 rfl))) rfl ?_
  refine WL.yd (Yd.lenS rfl Try.underlying48 rfl) rfl ?_
  refine WL.yd (Yd.eql rfl rfl) rfl ?_
  refine WL.nil ?_
  refine WP.thenC ?_
  refine WC.cond rfl (fun c9 => ?_) (fun c9 => ?_)
  · try simp only [decide_eq_true_eq, decide_eq_false_iff_not, Bool.not_eq_true', Bool.not_eq_false', Int.not_lt, Int.not_le, Bool.not_true, Bool.not_false] at c9
    have hl0 : by_.length = 0 := by omega
    refine WC.seq ?_
    refine WC.ofFr [(4, _), (0, _), (1, _), (2, _)] ⟨rfl, rfl, rfl, rfl, trivial⟩ ?_
    refine WC.region ?_
    refine WL.yd (Yd.load1 Try.isAgg3 rfl (by first | exact Rd.own (k := 0) rfl rfl | exact (Rd.imm hbD rfl) | exact ((hS.at ((j + 1) % by_.length) hlt).rd 0 rfl))) rfl ?_
    refine WL.yd (Yd.move rfl) rfl ?_
    refine WL.yd (Yd.rem rfl rfl (by (try dsimp only); omega) (by (try dsimp only); omega)) rfl ?_
    refine WL.yd (Yd.assign rfl) rfl ?_
    refine WL.nil ?_
    refine WP.thenC ?_
    refine WC.ret ?_
    refine WP.thenRet ?_
    refine WP.ret1 rfl rfl Try.results87 (RV.tmp rfl) (fun w1 hI => ⟨_, _, _, rfl, DExt.refl _ _, hI, fun _ h => h, by rw [drawV, if_pos hl0], rfl, rfl⟩)
  · try simp only [decide_eq_true_eq, decide_eq_false_iff_not, Bool.not_eq_true', Bool.not_eq_false', Int.not_lt, Int.not_le, Bool.not_true, Bool.not_false] at c9
    have hl0 : ¬ by_.length = 0 := by omega
    have hlt : (j + 1) % by_.length < by_.length := Nat.mod_lt _ (by omega)
    have hgn := hn _ hlt
    have hie : ((j + 1 : Nat) : Int) % (by_.length : Int) = (((j + 1) % by_.length : Nat) : Int) := rfl
    refine WC.skip ?_
    refine WP.thenC ?_
    refine WC.seq ?_
    refine WC.ofFr [(4, _), (0, _), (1, _), (2, _)] ⟨rfl, rfl, rfl, rfl, trivial⟩ ?_
    refine WC.tail 12 [0, 1, 2, 3, 4, 5, 6, 7, 8, 9, 10, 11] rfl (by kernel_rfl) (by kernel_rfl)  ?_
    refine WQ.q rfl (Yd.qt (Yd.load1 Try.isAgg48 rfl (by first | exact Rd.own (k := 0) rfl rfl | exact (Rd.imm hbD rfl) | exact ((hS.at ((j + 1) % by_.length) hlt).rd 0 rfl)))) rfl ?_
    refine WQ.q rfl (Yd.qt (Yd.load1 Try.isAgg3 rfl (by first | exact Rd.own (k := 0) rfl rfl | exact (Rd.imm hbD rfl) | exact ((hS.at ((j + 1) % by_.length) hlt).rd 0 rfl)))) rfl ?_
    refine WQ.q rfl (Yd.qt (Yd.load1 Try.isAgg48 rfl (by first | exact Rd.own (k := 0) rfl rfl | exact (Rd.imm hbD rfl) | exact ((hS.at ((j + 1) % by_.length) hlt).rd 0 rfl)))) rfl ?_
    refine WQ.q rfl (Yd.qt (Yd.lenS rfl Try.underlying48 rfl)) rfl ?_
    refine WQ.q rfl (Yd.qt (Yd.rem rfl rfl (by (try dsimp only); omega) (by (try dsimp only); omega))) rfl ?_
    refine WQ.q rfl (Yd.qt (Yd.indexS Try.underlying48 Try.sizeOf111 rfl rfl (by rw [hie]; omega) (by rw [hie]; omega) (hS.addr ((j + 1) % by_.length) hlt))) rfl ?_
    refine WQ.q rfl (Yd.qt (Yd.load1 Try.isAgg111 rfl (by first | exact Rd.own (k := 0) rfl rfl | exact (Rd.imm hbD rfl) | exact ((hS.at ((j + 1) % by_.length) hlt).rd 0 rfl)))) rfl ?_
    refine WQ.q rfl (Yd.qt (Yd.conv Try.underlying111 Try.underlying3 rfl (wr64 ⟨by omega, by omega⟩))) rfl ?_
    refine WQ.q rfl (Yd.qt (Yd.load1 Try.isAgg3 rfl (by first | exact Rd.own (k := 0) rfl rfl | exact (Rd.imm hbD rfl) | exact ((hS.at ((j + 1) % by_.length) hlt).rd 0 rfl)))) rfl ?_
    refine WQ.q rfl (Yd.qt (Yd.mul rfl rfl (wr64 ⟨by (try dsimp only); omega, by (try dsimp only); omega⟩))) rfl ?_
    refine WQ.q rfl (Yd.qt (Yd.add rfl rfl (wr64 ⟨by (try dsimp only); omega, by (try dsimp only); omega⟩))) rfl ?_
    refine WQ.q rfl (Yd.qt (Yd.move rfl)) rfl ?_
    refine WQ.tail ?_
    refine WL.yd (Yd.rem rfl rfl (by (try dsimp only); omega) (by (try dsimp only); omega)) rfl ?_
    refine WL.yd (Yd.assign rfl) rfl ?_
    refine WL.nil ?_
    refine WP.thenC ?_
    refine WC.ret ?_
    refine WP.ret1 rfl rfl Try.results87 (RV.tmp rfl) (fun w1 hI => ⟨_, _, _, rfl, DExt.refl _ _, hI, fun _ h => h, by rw [drawV, if_neg hl0], rfl, rfl⟩)

set_option maxRecDepth 100000 in
set_option maxHeartbeats 1000000 in
theorem made_0 (d : Dips) (a1 : Option Addr) (n1 c1 : Nat) (a2 : Option Addr) (n2 c2 : Nat) (D : Imm) (w : World) (hR : DipsR D d a1 n1 a2 n2) (hH : Holds D w) (hv : dipsB d = true) (hz : d.dippers.length = 0) (by_ : List Int) (b3 b1 j : Nat) (hB : ByR D by_ b1) (hj : j ≤ 1000) (hI0 : Inv D [(b3, cntO j)] [b3] w w) : AltersN Try.prog 40 [.agg #[it d.hours, .slice a1 n1 c1, .slice a2 n2 c2], fvV b3 b1] w D [b3] (fun v D' hpc' => ∃ a n c, v = .tuple #[.slice a n c, .bool (madeIs d)] ∧ PlanR D' (madeL d by_ j) a n ∧ n ≤ c ∧ hpc' = [(b3, cntO (madeN d j))]) := by
  unfold AltersN
  obtain rfl := hR.dip.len'
  obtain rfl := hR.bath.len'
  have hl1 := hR.len1
  have hl2 := hR.len2
  have hnum := dips_num hv
  refine enter Try.func40 rfl 34 Try.ntmps40 (Nat.le_of_ble_eq_true rfl) hI0 ?_
  refine WC.seq ?_
  refine WC.ofFr [(0, _), (1, _)] ⟨rfl, rfl, trivial⟩ ?_
  refine WC.region ?_
  refine WL.so (SO.box rfl rfl) rfl ?_
  rintro _ _ _ ⟨b2, hb2, rfl, rfl, rfl⟩ -- NEW
  refine WL.yd (Yd.assign rfl) rfl ?_
  refine WL.yd (Yd.assign rfl) rfl ?_
  refine WL.nil ?_
  refine WP.thenC ?_
  refine WC.seq ?_
  refine WC.seq ?_
  refine WC.ofFr [(5, _), (4, _), (2, _), (1, _)] ⟨rfl, rfl, rfl, rfl, trivial⟩ ?_
  refine WC.region ?_
  refine WL.yd (Yd.fieldAddr FA25_1 rfl) rfl ?_
  refine WL.yd (Yd.load1 Try.isAgg22 rfl (by first | exact Rd.own (k := 0) rfl rfl | exact Rd.own (k := 1) rfl rfl)) rfl ?_
  refine WL.yd (Yd.lenS rfl Try.underlying22 rfl) rfl ?_
  refine WL.yd (Yd.eql rfl rfl) rfl ?_
  refine WL.nil ?_
  refine WP.thenC ?_
  refine WC.cond rfl (fun c9 => ?_) (fun c9 => ?_)
  · try simp only [decide_eq_true_eq, decide_eq_false_iff_not, Bool.not_eq_true', Bool.not_eq_false', Int.not_lt, Int.not_le, Bool.not_true, Bool.not_false] at c9
    refine WC.seq ?_
    refine WC.ofFr [(5, _), (4, _), (2, _), (1, _)] ⟨rfl, rfl, rfl, rfl, trivial⟩ ?_
    refine WC.tail 5 [0, 1, 2, 3, 4] rfl (by kernel_rfl) (by kernel_rfl)  ?_
    refine WQ.q rfl (Yd.qt (Yd.fieldAddr FA25_2 rfl)) rfl ?_
    refine WQ.q rfl (Yd.qt (Yd.load1 Try.isAgg23 rfl (by first | exact Rd.own (k := 0) rfl rfl | exact Rd.own (k := 1) rfl rfl))) rfl ?_
    refine WQ.q rfl (Yd.qt (Yd.lenS rfl Try.underlying23 rfl)) rfl ?_
    refine WQ.q rfl (Yd.qt (Yd.eql rfl rfl)) rfl ?_
    refine WQ.q rfl (Yd.qt (Yd.assign rfl)) rfl ?_
    refine WQ.tail ?_
    refine WL.yd (Yd.assign rfl) rfl ?_
    refine WL.nil ?_
    refine WP.thenC ?_
    refine WC.ret ?_
    refine WP.thenRet ?_
    refine WP.ret2 rfl rfl Try.results40 (RV.tmp rfl) (RV.tmp rfl) (fun w1 hI => ⟨_, D, [(b3, cntO (madeN d j))], rfl, DExt.refl _ _, by rw [madeN, if_pos hz]; exact hI.tail, none, 0, 0, by rw [madeIs, if_pos hz], by rw [madeL, if_pos hz]; exact PlanR.nil D, Nat.le_refl _, rfl⟩)
  · try simp only [decide_eq_true_eq, decide_eq_false_iff_not, Bool.not_eq_true', Bool.not_eq_false', Int.not_lt, Int.not_le, Bool.not_true, Bool.not_false] at c9
    omega

set_option maxRecDepth 100000 in
set_option maxHeartbeats 1000000 in
theorem made_n (d : Dips) (a1 : Option Addr) (n1 c1 : Nat) (a2 : Option Addr) (n2 c2 : Nat) (D : Imm) (w : World) (hR : DipsR D d a1 n1 a2 n2) (hH : Holds D w) (hv : dipsB d = true) (hz : ¬ d.dippers.length = 0) (by_ : List Int) (b3 b1 j : Nat) (hB : ByR D by_ b1) (hj : j ≤ 1000) (hI0 : Inv D [(b3, cntO j)] [b3] w w) : AltersN Try.prog 40 [.agg #[it d.hours, .slice a1 n1 c1, .slice a2 n2 c2], fvV b3 b1] w D [b3] (fun v D' hpc' => ∃ a n c, v = .tuple #[.slice a n c, .bool (madeIs d)] ∧ PlanR D' (madeL d by_ j) a n ∧ n ≤ c ∧ hpc' = [(b3, cntO (madeN d j))]) := by
  unfold AltersN
  obtain rfl := hR.dip.len'
  obtain rfl := hR.bath.len'
  have hl1 := hR.len1
  have hl2 := hR.len2
  have hnum := dips_num hv
  refine enter Try.func40 rfl 34 Try.ntmps40 (Nat.le_of_ble_eq_true rfl) hI0 ?_
  refine WC.seq ?_
  refine WC.ofFr [(0, _), (1, _)] ⟨rfl, rfl, trivial⟩ ?_
  refine WC.region ?_
  refine WL.so (SO.box rfl rfl) rfl ?_
  rintro _ _ _ ⟨b2, hb2, rfl, rfl, rfl⟩ -- NEW
  refine WL.yd (Yd.assign rfl) rfl ?_
  refine WL.yd (Yd.assign rfl) rfl ?_
  refine WL.nil ?_
  refine WP.thenC ?_
  refine WC.seq ?_
  refine WC.seq ?_
  refine WC.ofFr [(5, _), (4, _), (2, _), (1, _)] ⟨rfl, rfl, rfl, rfl, trivial⟩ ?_
  refine WC.region ?_
  refine WL.yd (Yd.fieldAddr FA25_1 rfl) rfl ?_
  refine WL.yd (Yd.load1 Try.isAgg22 rfl (by first | exact Rd.own (k := 0) rfl rfl | exact Rd.own (k := 1) rfl rfl)) rfl ?_
  refine WL.yd (Yd.lenS rfl Try.underlying22 rfl) rfl ?_
  refine WL.yd (Yd.eql rfl rfl) rfl ?_
  refine WL.nil ?_
  refine WP.thenC ?_
  refine WC.cond rfl (fun c9 => ?_) (fun c9 => ?_)
  · try simp only [decide_eq_true_eq, decide_eq_false_iff_not, Bool.not_eq_true', Bool.not_eq_false', Int.not_lt, Int.not_le, Bool.not_true, Bool.not_false] at c9
    omega
  · try simp only [decide_eq_true_eq, decide_eq_false_iff_not, Bool.not_eq_true', Bool.not_eq_false', Int.not_lt, Int.not_le, Bool.not_true, Bool.not_false] at c9
    refine WC.skip ?_
    refine WP.thenC ?_
    refine WC.seq ?_
    refine WC.seq ?_
    refine WC.ofFr [(5, _), (4, _), (2, _), (1, _)] ⟨rfl, rfl, rfl, rfl, trivial⟩ ?_
    refine WC.region ?_
    refine WL.yd (Yd.fieldAddr FA25_2 rfl) rfl ?_
    refine WL.yd (Yd.load1 Try.isAgg23 rfl (by first | exact Rd.own (k := 0) rfl rfl | exact Rd.own (k := 1) rfl rfl)) rfl ?_
    refine WL.yd (Yd.lenS rfl Try.underlying23 rfl) rfl ?_
    refine WL.yd (Yd.move rfl) rfl ?_
    refine WL.nil ?_
    refine WP.thenC ?_
    refine WC.block ?_
    refine WC.loop (fun y : Nat × Option Ow => [(1, fvV b3 b1), (2, pt b2), (4, owV y.2 y.1), (16, nt d.bathers.length), (17, nt y.1)]) (fun y => ((b2, .cells (List.toArray [it d.hours, .slice a1 d.dippers.length c1, .slice a2 d.bathers.length c2]) 25 (0, 0)) :: owH y.2 61 (mkCs d by_ j y.1) []) ++ [(b3, cntO (j + 2 * y.1))]) (fun _ => D) (fun y => y.1 ≤ d.bathers.length ∧ owP w y.2 y.1 2) (fun y => d.bathers.length - y.1) (0, none) ⟨by omega, rfl⟩ (fun a w h => at_fr h ⟨rfl, rfl, rfl, rfl, rfl, trivial⟩) ?_
    rintro ⟨k, o⟩ ⟨hk, ho⟩
    dsimp only at hk ho
    refine WC.seq ?_
    refine WC.ofFr [(1, _), (2, _), (4, _), (16, _), (17, _)] ⟨rfl, rfl, rfl, rfl, rfl, trivial⟩ ?_
    refine WC.region ?_
    refine WL.yd (Yd.lss rfl rfl) rfl ?_
    refine WL.nil ?_
    refine WP.thenC ?_
    refine WC.seq ?_
    refine WC.cond rfl (fun c18 => ?_) (fun c18 => ?_)
    · try simp only [decide_eq_true_eq, decide_eq_false_iff_not, Bool.not_eq_true', Bool.not_eq_false', Int.not_lt, Int.not_le, Bool.not_true, Bool.not_false] at c18
      refine WC.skip ?_
      refine WP.thenC ?_
      refine WC.seq ?_
      refine WC.block ?_
      refine WC.ofFr [(1, _), (2, _), (4, _), (16, _), (17, _)] ⟨rfl, rfl, rfl, rfl, rfl, trivial⟩ ?_
      refine WC.drawO [_] [(0, true), (1, true), (2, true), (3, true), (5, true), (6, true), (7, true), (8, true), (4, false), (9, false), (10, true), (11, false), (12, false), (13, true)] (by kernel_rfl) (by kernel_rfl) (QuietPanic.blk (QuietPanic.then (QuietPanic.then (QuietPanic.blk (QuietPanic.then QuietPanic.body))))) (fun w hI => Inv.left (l1 := [_]) hI) ?_
      refine WA.yd rfl (Yd.move rfl) rfl ?_
      refine WA.yd rfl (Yd.move rfl) rfl ?_
      refine WA.yd rfl (Yd.fieldAddr FA25_0 rfl) rfl ?_
      refine WA.yd rfl (Yd.load1 Try.isAgg3 rfl (by first | exact Rd.own (k := 0) rfl rfl)) rfl ?_
      refine WA.yd rfl (Yd.move rfl) rfl ?_
      refine WA.yd rfl (Yd.fieldAddr FA25_1 rfl) rfl ?_
      refine WA.yd rfl (Yd.load1 Try.isAgg22 rfl (by first | exact Rd.own (k := 0) rfl rfl)) rfl ?_
      refine WA.yd rfl (Yd.lenS rfl Try.underlying22 rfl) rfl ?_
      refine WA.so rfl (SO.alters (own := ((b2, .cells (List.toArray [it d.hours, .slice a1 d.dippers.length c1, .slice a2 d.bathers.length c2]) 25 (0, 0)) :: owH o 61 (mkCs d by_ j k) [])) (hpc := [(b3, cntO (j + 2 * k))]) (S1 := [b3]) (fun _ h => h) (fun h => h) (fun _ h => h) (fun _ h => h) (Enters.val Try.call87 rfl rfl) (fun w1 hI => draw_g by_ b3 b1 _ w1 hB d.hours (by omega) (j + 2 * k) (by omega) hI)) rfl ?_
      rintro _ _ _ ⟨_, _, ⟨rfl, rfl, rfl⟩, rfl⟩
      refine ⟨fun _ hI => Inv.left (l1 := [_]) hI, ?_⟩
      refine WA.so rfl (SO.alters (own := ((b2, .cells (List.toArray [it d.hours, .slice a1 d.dippers.length c1, .slice a2 d.bathers.length c2]) 25 (0, 0)) :: owH o 61 (mkCs d by_ j k) [])) (hpc := [(b3, cntO (j + 2 * k + 1))]) (S1 := [b3]) (fun _ h => h) (fun h => h) (fun _ h => h) (fun _ h => h) (Enters.val Try.call87 rfl rfl) (fun w1 hI => draw_g by_ b3 b1 _ w1 hB d.dippers.length (by omega) (j + 2 * k + 1) (by omega) hI)) rfl ?_
      rintro _ _ _ ⟨_, _, ⟨rfl, rfl, rfl⟩, rfl⟩
      refine ⟨fun _ hI => Inv.left (l1 := [_]) hI, ?_⟩
      refine WA.yd rfl (Yd.build SA61 rfl (cs := [_, _]) rfl) rfl ?_
      refine WA.so rfl (SO.buildSlice Try.underlying26 Try.sizeOf61 Try.zeroValue61 rfl rfl rfl rfl (cs := [_, _]) rfl) rfl ?_
      rintro _ _ _ ⟨b30, hb30, rfl, rfl, rfl⟩ -- NEW
      refine ⟨fun _ hI => Inv.left (l1 := [_]) hI.tail, ?_⟩
      refine WA.so rfl (SO.appendOw (o := o) (len := k) (n := 1) (xs := mkCs d by_ j k) (size := 2) [_] [_] [(b3, cntO (j + 2 * k + 1 + 1))] rfl rfl Try.underlying26 Try.sizeOf61 Try.typeInfo61 Try.zeroValue61 rfl rfl rfl (congrArg (fun z => _ :: _ :: z) (owH_app _ _ _ _)) ⟨rfl, .inr ⟨_, _, _, rfl, RdN.own (k := 0) (n := 2) rfl rfl⟩⟩ (oneB_spec rfl) ho (mkCs_len _ _ _ _) (by omega) (by show (2 * (_ + _) + 1000) * 16 ≤ 2 ^ 48; omega) (by omega)) rfl ?_
      rintro _ _ _ ⟨u1, hu1, rfl, rfl, rfl⟩
      refine ⟨fun _ hI => Inv.left (l1 := [_]) hI, ?_⟩
      refine WA.yd rfl (Yd.assign rfl) rfl ?_
      refine WA.nil ?_
      refine WP.blkNormal ?_
      refine WP.thenC ?_
      refine WC.ofFr [(4, _), (1, _), (2, _), (16, _), (17, _)] ⟨rfl, rfl, rfl, rfl, rfl, trivial⟩ ?_
      refine WC.region ?_
      refine WL.yd (Yd.add rfl rfl (wr64 ⟨by omega, by omega⟩)) rfl ?_
      refine WL.yd (Yd.move rfl) rfl ?_
      refine WL.nil ?_
      refine WP.again (⟨k + 1, some u1⟩ : Nat × Option Ow) ⟨by simp only; omega, hu1⟩ (by simp only; omega) (fun aa ww h => ?_)
      show At _ [(1, fvV b3 b1), (2, pt b2), (4, owV (some u1) (k + 1)), (16, nt d.bathers.length), (17, nt (k + 1))] D (((b2, .cells (List.toArray [it d.hours, .slice a1 d.dippers.length c1, .slice a2 d.bathers.length c2]) 25 (0, 0)) :: owH (some u1) 61 (mkCs d by_ j (k + 1)) []) ++ [(b3, cntO (j + 2 * (k + 1)))]) aa ww
      rw [mkCs_succ]
      exact at_fr h ⟨rfl, rfl, rfl, rfl, rfl, trivial⟩
    · try simp only [decide_eq_true_eq, decide_eq_false_iff_not, Bool.not_eq_true', Bool.not_eq_false', Int.not_lt, Int.not_le, Bool.not_true, Bool.not_false] at c18
      refine WC.exit ?_
      refine WP.thenExit ?_
      refine WP.thenExit ?_
      refine WP.blkHit ?_
      refine WP.thenC ?_
      refine WC.seq ?_
      refine WC.ofFr [(4, _)] ⟨rfl, trivial⟩ ?_
      refine WC.region ?_
      obtain rfl : k = d.bathers.length := by omega
      refine WL.know 4 (.slice (owA o) d.bathers.length (owC o d.bathers.length)) rfl (owV_eqN (by exact ho)) ?_
      refine WL.yd (Yd.move rfl) rfl ?_
      refine WL.yd (Yd.assign rfl) rfl ?_
      refine WL.yd (Yd.assign rfl) rfl ?_
      refine WL.nil ?_
      refine WP.thenC ?_
      refine WC.ret ?_
      refine WP.ret2 rfl rfl Try.results40 (RV.tmp rfl) (RV.tmp rfl) (fun w1 hI => ?_)
      cases o with
      | none =>
        have h0 : d.bathers.length = 0 := ho
        refine ⟨_, D, [(b3, cntO (madeN d j))], rfl, DExt.refl _ _, ?_, none, d.bathers.length, 0, by rw [madeIs, if_neg hz]; rfl, ?_, by omega, rfl⟩
        · rw [madeN, if_neg hz]; exact hI.tail
        · rw [madeL, if_neg hz, h0]; exact PlanR.nil D
      | some u =>
        have hf := hI.tail.freeze
        have hnu := hI.tail.apart _ _ (List.mem_of_getElem? (i := 0) rfl)
        have hXu := fun o => (DExt.refl w D).add (o := o) hnu ho.1
        refine ⟨_, D.add u.b (.cells (List.toArray (mkCs d by_ j d.bathers.length ++ u.rest)) 61 (0, 0)), [(b3, cntO (madeN d j))], rfl, hXu _, ?_, some ⟨u.b, 0, none⟩, d.bathers.length, u.cap, by rw [madeIs, if_neg hz]; rfl, ?_, ho.2.1, rfl⟩
        · rw [madeN, if_neg hz]; exact hf
        · rw [madeL, if_neg hz]; exact PlanR.ofBlock (Imm.add_self _ _ _) _ (mkTo_len _ _ _ _).symm (by omega)

theorem made_g (d : Dips) (a1 : Option Addr) (n1 c1 : Nat) (a2 : Option Addr) (n2 c2 : Nat) (D : Imm) (w : World) (hR : DipsR D d a1 n1 a2 n2) (hH : Holds D w) (hv : dipsB d = true) (by_ : List Int) (b3 b1 j : Nat) (hB : ByR D by_ b1) (hj : j ≤ 1000) (hI0 : Inv D [(b3, cntO j)] [b3] w w) : AltersN Try.prog 40 [.agg #[it d.hours, .slice a1 n1 c1, .slice a2 n2 c2], fvV b3 b1] w D [b3] (fun v D' hpc' => ∃ a n c, v = .tuple #[.slice a n c, .bool (madeIs d)] ∧ PlanR D' (madeL d by_ j) a n ∧ n ≤ c ∧ hpc' = [(b3, cntO (madeN d j))]) := by
  by_cases hz : d.dippers.length = 0
  · exact made_0 d a1 n1 c1 a2 n2 c2 D w hR hH hv hz by_ b3 b1 j hB hj hI0
  · exact made_n d a1 n1 c1 a2 n2 c2 D w hR hH hv hz by_ b3 b1 j hB hj hI0

end Go.Proofs.Ytidjdonppfegiaa
namespace Go.Proofs.Ytidjdonppfegiaa
open Go.W Go.Dp

set_option maxRecDepth 100000 in
set_option maxHeartbeats 1000000 in
theorem fits_g (d : Dips) (a1 : Option Addr) (n1 c1 : Nat) (a2 : Option Addr) (n2 c2 : Nat) (D : Imm) (w : World) (hR : DipsR D d a1 n1 a2 n2) (hH : Holds D w) (hv : dipsB d = true) (l : List Plc) (a3 : Option Addr) (n3 c3 : Nat) (hP : PlanR D l a3 n3) (hq : PlOk d l) (hands : List Int) (a6 : Option Addr) (n6 c6 : Nat) (hS6 : SlL D 1 (hands.map fun x => [it x]) a6 n6) (nd : List Int) (a7 : Option Addr) (n7 c7 : Nat) (hS7 : SlL D 1 (nd.map fun x => [it x]) a7 n7)
    (hlb : l.length ≤ d.bathers.length) (hl7 : l.length ≤ nd.length) (hl6 : d.dippers.length ≤ hands.length) (hnd : ∀ i, i < nd.length → 0 ≤ gt nd i ∧ gt nd i ≤ 1000) : Gives Try.prog 39 [.agg #[it d.hours, .slice a1 n1 c1, .slice a2 n2 c2], .slice a3 n3 c3, .slice a6 n6 c6, .slice a7 n7 c7] w (.bool (fitsB d l hands nd)) := by
  unfold Gives
  obtain rfl := hR.dip.len'
  obtain rfl := hR.bath.len'
  have hl1 := hR.len1
  have hl2 := hR.len2
  obtain rfl := hP.pl.len'
  have hl3 := hP.len
  obtain rfl : n6 = hands.length := by have := hS6.len; simpa using this
  obtain rfl : n7 = nd.length := by have := hS7.len; simpa using this
  have hnum := dips_num hv
  refine enter Try.func39 rfl 67 Try.ntmps39 (Nat.le_of_ble_eq_true rfl) (Inv.start hH) ?_
  refine WC.seq ?_
  refine WC.ofFr [(0, _), (1, _), (2, _), (3, _)] ⟨rfl, rfl, rfl, rfl, trivial⟩ ?_
  refine WC.region ?_
  refine WL.so (SO.box rfl rfl) rfl ?_
  rintro _ _ _ ⟨b4, hb4, rfl, rfl, rfl⟩ -- NEW
  refine WL.yd (Yd.assign rfl) rfl ?_
  refine WL.nil ?_
  refine WP.thenC ?_
  refine WC.seq ?_
  refine WC.ofFr [(8, _), (4, _), (1, _), (2, _), (3, _)] ⟨rfl, rfl, rfl, rfl, rfl, trivial⟩ ?_
  refine WC.region ?_
  refine WL.so SO.makeMap rfl ?_
  rintro _ _ _ ⟨b12, hb12, rfl, rfl, rfl⟩ -- NEW
  refine WL.yd (Yd.assign rfl) rfl ?_
  refine WL.nil ?_
  refine WP.thenC ?_
  refine WC.seq ?_
  refine WC.seq ?_
  refine WC.ofFr [(9, _), (8, _), (4, _), (1, _), (2, _), (3, _)] ⟨rfl, rfl, rfl, rfl, rfl, rfl, trivial⟩ ?_
  refine WC.region ?_
  refine WL.yd (Yd.move rfl) rfl ?_
  refine WL.yd (Yd.lenS rfl Try.underlying26 rfl) rfl ?_
  refine WL.yd (Yd.move rfl) rfl ?_
  refine WL.nil ?_
  refine WP.thenC ?_
  refine WC.block ?_
  refine WC.loop (fun y : Nat × Array MapEntry × Nat × (PK → Option Int) => [(2, .slice a6 hands.length c6), (3, .slice a7 nd.length c7), (4, pt b4), (9, .map (some b12)), (13, .slice a3 l.length c3), (14, nt l.length), (15, nt y.1)]) (fun y => [(b4, .cells (List.toArray [it d.hours, .slice a1 d.dippers.length c1, .slice a2 d.bathers.length c2]) 25 (0, 0)), (b12, .map y.2.1 y.2.2.1)]) (fun _ => D) (fun y => y.1 ≤ l.length ∧ MapR pkV y.2.1 y.2.2.1 y.2.2.2 ∧ HeldF l nd y.1 y.2.2.2 ∧ ∀ i, i < y.1 → okF d l hands nd i) (fun y => l.length - y.1) (0, #[], 0, fun _ => none) ⟨by omega, MapR.empty _, fun y => rfl, fun i hi => by omega⟩ (fun a w h => at_less h ⟨rfl, rfl, rfl, rfl, rfl, rfl, rfl, trivial⟩ (fun e he => by simp only [List.mem_cons, List.mem_nil_iff, or_false] at he ⊢; exact he.symm) (fun hn => by simp at hn ⊢; exact fun e => hn e.symm)) ?_
  rintro ⟨k, es, clock, F⟩ ⟨hk, hM, hHF, hok⟩
  dsimp only at hk hM hHF hok
  refine WC.seq ?_
  refine WC.ofFr [(2, _), (3, _), (4, _), (9, _), (13, _), (14, _), (15, _)] ⟨rfl, rfl, rfl, rfl, rfl, rfl, rfl, trivial⟩ ?_
  refine WC.region ?_
  refine WL.yd (Yd.lss rfl rfl) rfl ?_
  refine WL.nil ?_
  refine WP.thenC ?_
  refine WC.seq ?_
  refine WC.cond rfl (fun c16 => ?_) (fun c16 => ?_)
  · try simp only [decide_eq_true_eq, decide_eq_false_iff_not, Bool.not_eq_true', Bool.not_eq_false', Int.not_lt, Int.not_le, Bool.not_true, Bool.not_false] at c16
    have hx := hq k (by omega)
    have hnk := hnd k (by omega)
    obtain ⟨y, hyP, hyV⟩ := pk_of (x := gt l k) (by omega) (by omega) (by omega) (by omega)
    have hyk : some (Value.agg #[it (gt l k).hour, it (gt l k).dipper]) = some (pkV y) := by rw [hyV]
    have hdn1 := hnum.2.2.2.1 (gt l k).dipper.toNat (by omega)
    have hdn2 := hnum.2.2.2.2 k (by omega)
    have hht := heldTo_num (l := l) (nd := nd) (gt l k) k (fun i hi => hnd i (by omega))
    have hFy : (F y).getD 0 = heldTo l nd (gt l k) k := by rw [hHF y, hyP]
    have hF1y : (putF F y ((F y).getD 0) y).getD 0 = heldTo l nd (gt l k) k := by rw [← hFy]; simp [putF]
    refine WC.skip ?_
    refine WP.thenC ?_
    refine WC.seq ?_
    refine WC.block ?_
    refine WC.seq ?_
    refine WC.ofFr [(2, _), (3, _), (4, _), (9, _), (13, _), (14, _), (15, _)] ⟨rfl, rfl, rfl, rfl, rfl, rfl, rfl, trivial⟩ ?_
    refine WC.region ?_
    refine WL.yd (Yd.move rfl) rfl ?_
    refine WL.yd (Yd.indexS Try.underlying26 Try.sizeOf61 rfl rfl (by omega) (by omega) (by first | exact hP.pl.addr k (by omega) | exact hR.bath.addr k (by omega) | exact hR.dip.addr (gt l k).dipper.toNat (by omega) | exact hS6.addr (gt l k).dipper.toNat (by omega) | exact hS7.addr k (by omega))) rfl ?_
    refine WL.yd (Yd.loadN Try.isAgg61 Try.sizeOf61 rfl (vs := [_, _]) rfl (by first | exact RdN.own (k := 0) (n := 2) rfl rfl | exact RdN.own (k := 1) (n := 2) rfl rfl | exact (hP.pl.at k (by omega)).rdn 0 2 rfl)) rfl ?_
    refine WL.so (SO.alloc Try.zeroValue61 rfl) rfl ?_
    rintro _ _ _ ⟨b11, hb11, rfl, rfl, rfl⟩ -- NEW
    refine WL.yd (Yd.assign rfl) rfl ?_
    refine WL.so (SO.store 0 rfl Try.sizeOf61 rfl rfl rfl rfl (Nat.le_of_ble_eq_true rfl) (oneB_spec rfl)) rfl ?_
    rintro _ _ _ ⟨rfl, rfl, rfl⟩
    refine WL.nil ?_
    refine WP.thenC ?_
    refine WC.seq ?_
    refine WC.ofFr [(10, _), (11, _), (2, _), (3, _), (4, _), (9, _), (13, _), (14, _), (15, _)] ⟨rfl, rfl, rfl, rfl, rfl, rfl, rfl, rfl, rfl, trivial⟩ ?_
    refine WC.drawH [_, _] (by kernel_rfl) (fun _ hI => Inv.left (l1 := [_, _]) hI) ?_
    refine WH.yd (i := 0) (by kernel_rfl) (fun _ o v c a w _ h => (QuietPanic.then (QuietPanic.blk (QuietPanic.then (QuietPanic.then (QuietPanic.blk (QuietPanic.then QuietPanic.body)))))) c o.dst v a w h) rfl (Yd.move rfl) rfl ?_
    refine WH.yd (i := 1) (by kernel_rfl) (fun _ o v c a w _ h => (QuietPanic.then (QuietPanic.blk (QuietPanic.then (QuietPanic.then (QuietPanic.blk (QuietPanic.then QuietPanic.body)))))) c o.dst v a w h) rfl (Yd.loadN Try.isAgg61 Try.sizeOf61 rfl (vs := [_, _]) rfl (by first | exact RdN.own (k := 0) (n := 2) rfl rfl | exact RdN.own (k := 1) (n := 2) rfl rfl | exact RdN.own (k := 2) (n := 2) rfl rfl | exact (hP.pl.at k (by omega)).rdn 0 2 rfl)) rfl ?_
    refine WH.yd (i := 3) (by kernel_rfl) (fun _ o v c a w _ h => (QuietPanic.then (QuietPanic.blk (QuietPanic.then (QuietPanic.then (QuietPanic.blk (QuietPanic.then QuietPanic.body)))))) c o.dst v a w h) rfl (Yd.move rfl) rfl ?_
    refine WH.yd (i := 4) (by kernel_rfl) (fun _ o v c a w _ h => (QuietPanic.then (QuietPanic.blk (QuietPanic.then (QuietPanic.then (QuietPanic.blk (QuietPanic.then QuietPanic.body)))))) c o.dst v a w h) rfl (Yd.move rfl) rfl ?_
    refine WH.yd (i := 5) (by kernel_rfl) (fun _ o v c a w _ h => (QuietPanic.then (QuietPanic.blk (QuietPanic.then (QuietPanic.then (QuietPanic.blk (QuietPanic.then QuietPanic.body)))))) c o.dst v a w h) rfl (Yd.indexS Try.underlying51 Try.sizeOf3 rfl rfl (by omega) (by omega) (by first | exact hP.pl.addr k (by omega) | exact hR.bath.addr k (by omega) | exact hR.dip.addr (gt l k).dipper.toNat (by omega) | exact hS6.addr (gt l k).dipper.toNat (by omega) | exact hS7.addr k (by omega))) rfl ?_
    refine WH.yd (i := 6) (by kernel_rfl) (fun _ o v c a w _ h => (QuietPanic.then (QuietPanic.blk (QuietPanic.then (QuietPanic.then (QuietPanic.blk (QuietPanic.then QuietPanic.body)))))) c o.dst v a w h) rfl (Yd.load1 Try.isAgg3 rfl (by first | exact Rd.own (k := 0) rfl rfl | exact Rd.own (k := 1) rfl rfl | exact Rd.own (k := 2) rfl rfl | exact ((hS7.at k (by omega)).rd 0 rfl) | exact ((hS6.at (gt l k).dipper.toNat (by omega)).rd 0 rfl) | exact ((hR.bath.at k (by omega)).rd 2 rfl) | exact ((hR.dip.at (gt l k).dipper.toNat (by omega)).rd 2 rfl))) rfl ?_
    refine WH.two (i := 2) (j := 8) (by kernel_rfl) ?_ ?_
    · refine WHo.yd rfl (Yd.look0 (kv := pkV) (F := F) (y := y) (j := 2) pkV_inj law61 key_pk Try.underlying112 Try.zeroValue3 rfl hyk rfl hM) rfl ?_
      refine WH.yd (i := 7) (by kernel_rfl) (fun _ o v c a w _ h => (QuietPanic.then (QuietPanic.blk (QuietPanic.then (QuietPanic.then (QuietPanic.blk (QuietPanic.then QuietPanic.body)))))) c o.dst v a w h) rfl (Yd.add rfl rfl (wr64 ⟨by omega, by omega⟩)) rfl ?_
      refine WH.one (i := 8) (by kernel_rfl) (WHo.so rfl (SO.mapEntry (kv := pkV) (F := F) (y := y) (j := 2) pkV_inj law61 key_pk Try.underlying112 Try.zeroValue3 rfl hyk rfl hM) rfl ?_)
      rintro _ _ _ ⟨rfl, es1, clock1, st1, rfl, rfl, hM1, hE1⟩
      refine ⟨(fun _ hI => Inv.left (l1 := [_, _]) hI), ?_⟩
      refine WH.yd (i := 9) (by kernel_rfl) (fun _ o v c a w _ h => (QuietPanic.then (QuietPanic.blk (QuietPanic.then (QuietPanic.then (QuietPanic.blk (QuietPanic.then QuietPanic.body)))))) c o.dst v a w h) rfl (Yd.extract rfl rfl) rfl ?_
      refine WH.one (i := 10) (by kernel_rfl) (WHo.so rfl (SO.entryStore (kv := pkV) (y := y) (st := st1) (j := 2) pkV_inj rfl rfl rfl rfl hM1 hE1) rfl ?_)
      rintro _ _ _ ⟨rfl, es2, clock2, rfl, hM2⟩
      refine ⟨(fun _ hI => Inv.left (l1 := [_, _]) hI), ?_⟩
      refine WH.nil (by kernel_rfl) ?_
      refine WP.thenC ?_
      refine WC.seq ?_
      refine WC.ofFr [(10, _), (11, _), (2, _), (3, _), (4, _), (9, _), (13, _), (14, _), (15, _)] ⟨rfl, rfl, rfl, rfl, rfl, rfl, rfl, rfl, rfl, trivial⟩ ?_
      refine WC.tail 34 [0, 1, 2, 3, 4, 5, 6, 7, 8, 9, 10, 11, 12, 13, 14, 15, 16, 17, 18, 19, 20, 21, 22, 23, 24, 25, 26, 27, 28, 29, 30, 31, 32, 33] rfl (by kernel_rfl) (by kernel_rfl)  ?_
      obtain ⟨F2, hM2, hHF2⟩ : ∃ F2, MapR pkV es2 clock2 F2 ∧ HeldF l nd (k + 1) F2 := by first | exact ⟨_, hM2, (hHF.same (y := y)).step hyP (by omega)⟩ | exact ⟨_, hM2, (hHF.same (y := y)).step hyP (by omega)⟩
      have hF2y : (F2 y).getD 0 = heldTo l nd (gt l k) (k + 1) := by rw [hHF2 y, hyP]
      refine WQ.q rfl (Yd.qt (Yd.fieldAddr FA25_2 rfl)) rfl ?_
      refine WQ.q rfl (Yd.qt (Yd.load1 Try.isAgg23 rfl (by first | exact Rd.own (k := 0) rfl rfl | exact Rd.own (k := 1) rfl rfl | exact Rd.own (k := 2) rfl rfl | exact ((hS7.at k (by omega)).rd 0 rfl) | exact ((hS6.at (gt l k).dipper.toNat (by omega)).rd 0 rfl) | exact ((hR.bath.at k (by omega)).rd 2 rfl) | exact ((hR.dip.at (gt l k).dipper.toNat (by omega)).rd 2 rfl)))) rfl ?_
      refine WQ.q rfl (Yd.qt (Yd.move rfl)) rfl ?_
      refine WQ.q rfl (Yd.qt (Yd.indexS Try.underlying23 Try.sizeOf55 rfl rfl (by omega) (by omega) (by first | exact hP.pl.addr k (by omega) | exact hR.bath.addr k (by omega) | exact hR.dip.addr (gt l k).dipper.toNat (by omega) | exact hS6.addr (gt l k).dipper.toNat (by omega) | exact hS7.addr k (by omega)))) rfl ?_
      refine WQ.q rfl (Yd.qt (Yd.fieldAddr FA55_1 rfl)) rfl ?_
      refine WQ.q rfl (Yd.qt (Yd.load1 Try.isAgg3 rfl (by first | exact Rd.own (k := 0) rfl rfl | exact Rd.own (k := 1) rfl rfl | exact Rd.own (k := 2) rfl rfl | exact ((hS7.at k (by omega)).rd 0 rfl) | exact ((hS6.at (gt l k).dipper.toNat (by omega)).rd 0 rfl) | exact ((hR.bath.at k (by omega)).rd 2 rfl) | exact ((hR.dip.at (gt l k).dipper.toNat (by omega)).rd 2 rfl)))) rfl ?_
      refine WQ.q rfl (Yd.qt (Yd.fieldAddr FA61_0 rfl)) rfl ?_
      refine WQ.q rfl (Yd.qt (Yd.load1 Try.isAgg3 rfl (by first | exact Rd.own (k := 0) rfl rfl | exact Rd.own (k := 1) rfl rfl | exact Rd.own (k := 2) rfl rfl | exact ((hS7.at k (by omega)).rd 0 rfl) | exact ((hS6.at (gt l k).dipper.toNat (by omega)).rd 0 rfl) | exact ((hR.bath.at k (by omega)).rd 2 rfl) | exact ((hR.dip.at (gt l k).dipper.toNat (by omega)).rd 2 rfl)))) rfl ?_
      refine WQ.q rfl (Yd.qt (Yd.shr rfl rfl (by omega))) rfl ?_
      refine WQ.q rfl (Yd.qt (Yd.and1 rfl rfl)) rfl ?_
      refine WQ.q rfl (Yd.qt (Yd.eql rfl rfl)) rfl ?_
      refine WQ.q rfl (Yd.qt (Yd.move rfl)) rfl ?_
      refine WQ.part 41 rfl (fun g41 => ?_) (fun g41 => ?_)
      · try simp only [decide_eq_true_eq, decide_eq_false_iff_not, Bool.not_eq_true', Bool.not_eq_false', Int.not_lt, Int.not_le, Bool.not_true, Bool.not_false] at g41
        refine WQ.skip rfl rfl rfl ?_
        refine WQ.skip rfl rfl rfl ?_
        refine WQ.skip rfl rfl rfl ?_
        refine WQ.skip rfl rfl rfl ?_
        refine WQ.skip rfl rfl rfl ?_
        refine WQ.skip rfl rfl rfl ?_
        refine WQ.skip rfl rfl rfl ?_
        refine WQ.skip rfl rfl rfl ?_
        refine WQ.skip rfl rfl rfl ?_
        refine WQ.skip rfl rfl rfl ?_
        refine WQ.skip rfl rfl rfl ?_
        refine WQ.skip rfl rfl rfl ?_
        refine WQ.q rfl (Yd.qt (Yd.pickT rfl rfl)) rfl ?_
        refine WQ.q rfl (Yd.qt (Yd.move rfl)) rfl ?_
        refine WQ.skip rfl rfl rfl ?_
        refine WQ.skip rfl rfl rfl ?_
        refine WQ.skip rfl rfl rfl ?_
        refine WQ.skip rfl rfl rfl ?_
        refine WQ.skip rfl rfl rfl ?_
        refine WQ.skip rfl rfl rfl ?_
        refine WQ.skip rfl rfl rfl ?_
        refine WQ.skip rfl rfl rfl ?_
        refine WQ.tail ?_
        refine WL.skip rfl rfl ?_
        refine WL.yd (Yd.pickT rfl rfl) rfl ?_
        refine WL.nil ?_
        refine WP.thenC ?_
        refine WC.condT rfl ?_
        refine WC.seq ?_
        refine WC.ofFr [(2, _), (3, _), (4, _), (9, _), (13, _), (14, _), (15, _)] ⟨rfl, rfl, rfl, rfl, rfl, rfl, rfl, trivial⟩ ?_
        refine WC.region ?_
        refine WL.yd (Yd.assign rfl) rfl ?_
        refine WL.nil ?_
        refine WP.thenC ?_
        refine WC.ret ?_
        refine WP.blkRet ?_
        refine WP.thenRet ?_
        refine WP.thenRet ?_
        refine WP.blkRet ?_
        refine WP.thenRet ?_
        refine WP.ret1 rfl rfl Try.results39 (RV.tmp rfl) (fun w hI => by
          first
          | exact ⟨congrArg Ending.returned (congrArg Value.bool (by simp only [fitsB]; rw [decide_eq_false]; exact fun hh => (hh k (by omega)).1 g41)), hI.keep⟩
          | exact ⟨congrArg Ending.returned (congrArg Value.bool (by simp only [fitsB]; rw [decide_eq_false]; exact fun hh => (hh k (by omega)).2.1 g55)), hI.keep⟩
          | exact ⟨congrArg Ending.returned (congrArg Value.bool (by simp only [fitsB]; rw [decide_eq_false]; exact fun hh => by have h9 := (hh k (by omega)).2.2; omega)), hI.keep⟩
          | exact ⟨congrArg Ending.returned (congrArg Value.bool (by simp only [fitsB]; rw [decide_eq_true]; exact fun i hi => hok i (by omega))), hI.keep⟩)
      · try simp only [decide_eq_true_eq, decide_eq_false_iff_not, Bool.not_eq_true', Bool.not_eq_false', Int.not_lt, Int.not_le, Bool.not_true, Bool.not_false] at g41
        refine WQ.qg rfl rfl (Yd.qt (Yd.fieldAddr FA25_1 rfl)) rfl ?_
        refine WQ.qg rfl rfl (Yd.qt (Yd.load1 Try.isAgg22 rfl (by first | exact Rd.own (k := 0) rfl rfl | exact Rd.own (k := 1) rfl rfl | exact Rd.own (k := 2) rfl rfl | exact ((hS7.at k (by omega)).rd 0 rfl) | exact ((hS6.at (gt l k).dipper.toNat (by omega)).rd 0 rfl) | exact ((hR.bath.at k (by omega)).rd 2 rfl) | exact ((hR.dip.at (gt l k).dipper.toNat (by omega)).rd 2 rfl)))) rfl ?_
        refine WQ.qg rfl rfl (Yd.qt (Yd.fieldAddr FA61_1 rfl)) rfl ?_
        refine WQ.qg rfl rfl (Yd.qt (Yd.load1 Try.isAgg3 rfl (by first | exact Rd.own (k := 0) rfl rfl | exact Rd.own (k := 1) rfl rfl | exact Rd.own (k := 2) rfl rfl | exact ((hS7.at k (by omega)).rd 0 rfl) | exact ((hS6.at (gt l k).dipper.toNat (by omega)).rd 0 rfl) | exact ((hR.bath.at k (by omega)).rd 2 rfl) | exact ((hR.dip.at (gt l k).dipper.toNat (by omega)).rd 2 rfl)))) rfl ?_
        refine WQ.qg rfl rfl (Yd.qt (Yd.indexS Try.underlying22 Try.sizeOf53 rfl rfl (by omega) (by omega) (by first | exact hP.pl.addr k (by omega) | exact hR.bath.addr k (by omega) | exact hR.dip.addr (gt l k).dipper.toNat (by omega) | exact hS6.addr (gt l k).dipper.toNat (by omega) | exact hS7.addr k (by omega)))) rfl ?_
        refine WQ.qg rfl rfl (Yd.qt (Yd.fieldAddr FA53_1 rfl)) rfl ?_
        refine WQ.qg rfl rfl (Yd.qt (Yd.load1 Try.isAgg3 rfl (by first | exact Rd.own (k := 0) rfl rfl | exact Rd.own (k := 1) rfl rfl | exact Rd.own (k := 2) rfl rfl | exact ((hS7.at k (by omega)).rd 0 rfl) | exact ((hS6.at (gt l k).dipper.toNat (by omega)).rd 0 rfl) | exact ((hR.bath.at k (by omega)).rd 2 rfl) | exact ((hR.dip.at (gt l k).dipper.toNat (by omega)).rd 2 rfl)))) rfl ?_
        refine WQ.qg rfl rfl (Yd.qt (Yd.fieldAddr FA61_0 rfl)) rfl ?_
        refine WQ.qg rfl rfl (Yd.qt (Yd.load1 Try.isAgg3 rfl (by first | exact Rd.own (k := 0) rfl rfl | exact Rd.own (k := 1) rfl rfl | exact Rd.own (k := 2) rfl rfl | exact ((hS7.at k (by omega)).rd 0 rfl) | exact ((hS6.at (gt l k).dipper.toNat (by omega)).rd 0 rfl) | exact ((hR.bath.at k (by omega)).rd 2 rfl) | exact ((hR.dip.at (gt l k).dipper.toNat (by omega)).rd 2 rfl)))) rfl ?_
        refine WQ.qg rfl rfl (Yd.qt (Yd.shr rfl rfl (by omega))) rfl ?_
        refine WQ.qg rfl rfl (Yd.qt (Yd.and1 rfl rfl)) rfl ?_
        refine WQ.qg rfl rfl (Yd.qt (Yd.eql rfl rfl)) rfl ?_
        refine WQ.q rfl (Yd.qt (Yd.pickF rfl rfl)) rfl ?_
        refine WQ.q rfl (Yd.qt (Yd.move rfl)) rfl ?_
        refine WQ.part 55 rfl (fun g55 => ?_) (fun g55 => ?_)
        · try simp only [decide_eq_true_eq, decide_eq_false_iff_not, Bool.not_eq_true', Bool.not_eq_false', Int.not_lt, Int.not_le, Bool.not_true, Bool.not_false] at g55
          refine WQ.skip rfl rfl rfl ?_
          refine WQ.skip rfl rfl rfl ?_
          refine WQ.skip rfl rfl rfl ?_
          refine WQ.skip rfl rfl rfl ?_
          refine WQ.skip rfl rfl rfl ?_
          refine WQ.skip rfl rfl rfl ?_
          refine WQ.skip rfl rfl rfl ?_
          refine WQ.skip rfl rfl rfl ?_
          refine WQ.tail ?_
          refine WL.skip rfl rfl ?_
          refine WL.yd (Yd.pickT rfl rfl) rfl ?_
          refine WL.nil ?_
          refine WP.thenC ?_
          refine WC.condT rfl ?_
          refine WC.seq ?_
          refine WC.ofFr [(2, _), (3, _), (4, _), (9, _), (13, _), (14, _), (15, _)] ⟨rfl, rfl, rfl, rfl, rfl, rfl, rfl, trivial⟩ ?_
          refine WC.region ?_
          refine WL.yd (Yd.assign rfl) rfl ?_
          refine WL.nil ?_
          refine WP.thenC ?_
          refine WC.ret ?_
          refine WP.blkRet ?_
          refine WP.thenRet ?_
          refine WP.thenRet ?_
          refine WP.blkRet ?_
          refine WP.thenRet ?_
          refine WP.ret1 rfl rfl Try.results39 (RV.tmp rfl) (fun w hI => by
            first
            | exact ⟨congrArg Ending.returned (congrArg Value.bool (by simp only [fitsB]; rw [decide_eq_false]; exact fun hh => (hh k (by omega)).1 g41)), hI.keep⟩
            | exact ⟨congrArg Ending.returned (congrArg Value.bool (by simp only [fitsB]; rw [decide_eq_false]; exact fun hh => (hh k (by omega)).2.1 g55)), hI.keep⟩
            | exact ⟨congrArg Ending.returned (congrArg Value.bool (by simp only [fitsB]; rw [decide_eq_false]; exact fun hh => by have h9 := (hh k (by omega)).2.2; omega)), hI.keep⟩
            | exact ⟨congrArg Ending.returned (congrArg Value.bool (by simp only [fitsB]; rw [decide_eq_true]; exact fun i hi => hok i (by omega))), hI.keep⟩)
        · try simp only [decide_eq_true_eq, decide_eq_false_iff_not, Bool.not_eq_true', Bool.not_eq_false', Int.not_lt, Int.not_le, Bool.not_true, Bool.not_false] at g55
          refine WQ.qg rfl rfl (Yd.qt (Yd.move rfl)) rfl ?_
          refine WQ.qg rfl rfl (Yd.qt (Yd.loadN Try.isAgg61 Try.sizeOf61 rfl (vs := [_, _]) rfl (by first | exact RdN.own (k := 0) (n := 2) rfl rfl | exact RdN.own (k := 1) (n := 2) rfl rfl | exact RdN.own (k := 2) (n := 2) rfl rfl | exact (hP.pl.at k (by omega)).rdn 0 2 rfl))) rfl ?_
          refine WQ.qg rfl rfl (Yd.qt (Yd.look0 (kv := pkV) (F := F2) (y := y) (j := 2) pkV_inj law61 key_pk Try.underlying112 Try.zeroValue3 rfl hyk rfl hM2)) rfl ?_
          refine WQ.qg rfl rfl (Yd.qt (Yd.move rfl)) rfl ?_
          refine WQ.qg rfl rfl (Yd.qt (Yd.fieldAddr FA61_1 rfl)) rfl ?_
          refine WQ.qg rfl rfl (Yd.qt (Yd.load1 Try.isAgg3 rfl (by first | exact Rd.own (k := 0) rfl rfl | exact Rd.own (k := 1) rfl rfl | exact Rd.own (k := 2) rfl rfl | exact ((hS7.at k (by omega)).rd 0 rfl) | exact ((hS6.at (gt l k).dipper.toNat (by omega)).rd 0 rfl) | exact ((hR.bath.at k (by omega)).rd 2 rfl) | exact ((hR.dip.at (gt l k).dipper.toNat (by omega)).rd 2 rfl)))) rfl ?_
          refine WQ.qg rfl rfl (Yd.qt (Yd.indexS Try.underlying51 Try.sizeOf3 rfl rfl (by omega) (by omega) (by first | exact hP.pl.addr k (by omega) | exact hR.bath.addr k (by omega) | exact hR.dip.addr (gt l k).dipper.toNat (by omega) | exact hS6.addr (gt l k).dipper.toNat (by omega) | exact hS7.addr k (by omega)))) rfl ?_
          refine WQ.qg rfl rfl (Yd.qt (Yd.load1 Try.isAgg3 rfl (by first | exact Rd.own (k := 0) rfl rfl | exact Rd.own (k := 1) rfl rfl | exact Rd.own (k := 2) rfl rfl | exact ((hS7.at k (by omega)).rd 0 rfl) | exact ((hS6.at (gt l k).dipper.toNat (by omega)).rd 0 rfl) | exact ((hR.bath.at k (by omega)).rd 2 rfl) | exact ((hR.dip.at (gt l k).dipper.toNat (by omega)).rd 2 rfl)))) rfl ?_
          refine WQ.tail ?_
          refine WL.ydg rfl (Yd.gtr rfl rfl) rfl ?_
          refine WL.yd (Yd.pickF rfl rfl) rfl ?_
          refine WL.nil ?_
          refine WP.thenC ?_
          refine WC.cond rfl (fun c65 => ?_) (fun c65 => ?_)
          · try simp only [decide_eq_true_eq, decide_eq_false_iff_not, Bool.not_eq_true', Bool.not_eq_false', Int.not_lt, Int.not_le, Bool.not_true, Bool.not_false] at c65
            refine WC.seq ?_
            refine WC.ofFr [(2, _), (3, _), (4, _), (9, _), (13, _), (14, _), (15, _)] ⟨rfl, rfl, rfl, rfl, rfl, rfl, rfl, trivial⟩ ?_
            refine WC.region ?_
            refine WL.yd (Yd.assign rfl) rfl ?_
            refine WL.nil ?_
            refine WP.thenC ?_
            refine WC.ret ?_
            refine WP.blkRet ?_
            refine WP.thenRet ?_
            refine WP.thenRet ?_
            refine WP.blkRet ?_
            refine WP.thenRet ?_
            refine WP.ret1 rfl rfl Try.results39 (RV.tmp rfl) (fun w hI => by
              first
              | exact ⟨congrArg Ending.returned (congrArg Value.bool (by simp only [fitsB]; rw [decide_eq_false]; exact fun hh => (hh k (by omega)).1 g41)), hI.keep⟩
              | exact ⟨congrArg Ending.returned (congrArg Value.bool (by simp only [fitsB]; rw [decide_eq_false]; exact fun hh => (hh k (by omega)).2.1 g55)), hI.keep⟩
              | exact ⟨congrArg Ending.returned (congrArg Value.bool (by simp only [fitsB]; rw [decide_eq_false]; exact fun hh => by have h9 := (hh k (by omega)).2.2; omega)), hI.keep⟩
              | exact ⟨congrArg Ending.returned (congrArg Value.bool (by simp only [fitsB]; rw [decide_eq_true]; exact fun i hi => hok i (by omega))), hI.keep⟩)
          · try simp only [decide_eq_true_eq, decide_eq_false_iff_not, Bool.not_eq_true', Bool.not_eq_false', Int.not_lt, Int.not_le, Bool.not_true, Bool.not_false] at c65
            refine WC.skip ?_
            refine WP.blkNormal ?_
            refine WP.thenC ?_
            refine WC.ofFr [(2, _), (3, _), (4, _), (9, _), (13, _), (14, _), (15, _)] ⟨rfl, rfl, rfl, rfl, rfl, rfl, rfl, trivial⟩ ?_
            refine WC.region ?_
            refine WL.yd (Yd.add rfl rfl (wr64 ⟨by omega, by omega⟩)) rfl ?_
            refine WL.yd (Yd.move rfl) rfl ?_
            refine WL.nil ?_
            refine WP.again (⟨k + 1, es2, clock2, F2⟩ : Nat × Array MapEntry × Nat × (PK → Option Int)) ⟨by simp only; omega, hM2, hHF2, ext_round hok ⟨g41, g55, by omega⟩⟩ (by simp only; omega) (fun aa ww h => at_less h ⟨rfl, rfl, rfl, rfl, rfl, rfl, rfl, trivial⟩ (fun e he => List.mem_cons_of_mem _ he) (fun hn => (List.nodup_cons.1 hn).2))
    · refine WHo.so rfl (SO.mapEntry (kv := pkV) (F := F) (y := y) (j := 2) pkV_inj law61 key_pk Try.underlying112 Try.zeroValue3 rfl hyk rfl hM) rfl ?_
      rintro _ _ _ ⟨rfl, es1, clock1, st1, rfl, rfl, hM1, hE1⟩
      refine ⟨(fun _ hI => Inv.left (l1 := [_, _]) hI), ?_⟩
      refine WH.yd (i := 9) (by kernel_rfl) (fun _ o v c a w _ h => (QuietPanic.then (QuietPanic.blk (QuietPanic.then (QuietPanic.then (QuietPanic.blk (QuietPanic.then QuietPanic.body)))))) c o.dst v a w h) rfl (Yd.extract rfl rfl) rfl ?_
      refine WH.one (i := 2) (by kernel_rfl) (WHo.yd rfl (Yd.look0 (kv := pkV) (F := _) (y := y) (j := 2) pkV_inj law61 key_pk Try.underlying112 Try.zeroValue3 rfl hyk rfl hM1) rfl ?_)
      refine WH.yd (i := 7) (by kernel_rfl) (fun _ o v c a w _ h => (QuietPanic.then (QuietPanic.blk (QuietPanic.then (QuietPanic.then (QuietPanic.blk (QuietPanic.then QuietPanic.body)))))) c o.dst v a w h) rfl (Yd.add rfl rfl (wr64 ⟨by omega, by omega⟩)) rfl ?_
      refine WH.one (i := 10) (by kernel_rfl) (WHo.so rfl (SO.entryStore (kv := pkV) (y := y) (st := st1) (j := 2) pkV_inj rfl rfl rfl rfl hM1 hE1) rfl ?_)
      rintro _ _ _ ⟨rfl, es2, clock2, rfl, hM2⟩
      refine ⟨(fun _ hI => Inv.left (l1 := [_, _]) hI), ?_⟩
      refine WH.nil (by kernel_rfl) ?_
      refine WP.thenC ?_
      refine WC.seq ?_
      refine WC.ofFr [(10, _), (11, _), (2, _), (3, _), (4, _), (9, _), (13, _), (14, _), (15, _)] ⟨rfl, rfl, rfl, rfl, rfl, rfl, rfl, rfl, rfl, trivial⟩ ?_
      refine WC.tail 34 [0, 1, 2, 3, 4, 5, 6, 7, 8, 9, 10, 11, 12, 13, 14, 15, 16, 17, 18, 19, 20, 21, 22, 23, 24, 25, 26, 27, 28, 29, 30, 31, 32, 33] rfl (by kernel_rfl) (by kernel_rfl)  ?_
      obtain ⟨F2, hM2, hHF2⟩ : ∃ F2, MapR pkV es2 clock2 F2 ∧ HeldF l nd (k + 1) F2 := by first | exact ⟨_, hM2, (hHF.same (y := y)).step hyP (by omega)⟩ | exact ⟨_, hM2, (hHF.same (y := y)).step hyP (by omega)⟩
      have hF2y : (F2 y).getD 0 = heldTo l nd (gt l k) (k + 1) := by rw [hHF2 y, hyP]
      refine WQ.q rfl (Yd.qt (Yd.fieldAddr FA25_2 rfl)) rfl ?_
      refine WQ.q rfl (Yd.qt (Yd.load1 Try.isAgg23 rfl (by first | exact Rd.own (k := 0) rfl rfl | exact Rd.own (k := 1) rfl rfl | exact Rd.own (k := 2) rfl rfl | exact ((hS7.at k (by omega)).rd 0 rfl) | exact ((hS6.at (gt l k).dipper.toNat (by omega)).rd 0 rfl) | exact ((hR.bath.at k (by omega)).rd 2 rfl) | exact ((hR.dip.at (gt l k).dipper.toNat (by omega)).rd 2 rfl)))) rfl ?_
      refine WQ.q rfl (Yd.qt (Yd.move rfl)) rfl ?_
      refine WQ.q rfl (Yd.qt (Yd.indexS Try.underlying23 Try.sizeOf55 rfl rfl (by omega) (by omega) (by first | exact hP.pl.addr k (by omega) | exact hR.bath.addr k (by omega) | exact hR.dip.addr (gt l k).dipper.toNat (by omega) | exact hS6.addr (gt l k).dipper.toNat (by omega) | exact hS7.addr k (by omega)))) rfl ?_
      refine WQ.q rfl (Yd.qt (Yd.fieldAddr FA55_1 rfl)) rfl ?_
      refine WQ.q rfl (Yd.qt (Yd.load1 Try.isAgg3 rfl (by first | exact Rd.own (k := 0) rfl rfl | exact Rd.own (k := 1) rfl rfl | exact Rd.own (k := 2) rfl rfl | exact ((hS7.at k (by omega)).rd 0 rfl) | exact ((hS6.at (gt l k).dipper.toNat (by omega)).rd 0 rfl) | exact ((hR.bath.at k (by omega)).rd 2 rfl) | exact ((hR.dip.at (gt l k).dipper.toNat (by omega)).rd 2 rfl)))) rfl ?_
      refine WQ.q rfl (Yd.qt (Yd.fieldAddr FA61_0 rfl)) rfl ?_
      refine WQ.q rfl (Yd.qt (Yd.load1 Try.isAgg3 rfl (by first | exact Rd.own (k := 0) rfl rfl | exact Rd.own (k := 1) rfl rfl | exact Rd.own (k := 2) rfl rfl | exact ((hS7.at k (by omega)).rd 0 rfl) | exact ((hS6.at (gt l k).dipper.toNat (by omega)).rd 0 rfl) | exact ((hR.bath.at k (by omega)).rd 2 rfl) | exact ((hR.dip.at (gt l k).dipper.toNat (by omega)).rd 2 rfl)))) rfl ?_
      refine WQ.q rfl (Yd.qt (Yd.shr rfl rfl (by omega))) rfl ?_
      refine WQ.q rfl (Yd.qt (Yd.and1 rfl rfl)) rfl ?_
      refine WQ.q rfl (Yd.qt (Yd.eql rfl rfl)) rfl ?_
      refine WQ.q rfl (Yd.qt (Yd.move rfl)) rfl ?_
      refine WQ.part 41 rfl (fun g41 => ?_) (fun g41 => ?_)
      · try simp only [decide_eq_true_eq, decide_eq_false_iff_not, Bool.not_eq_true', Bool.not_eq_false', Int.not_lt, Int.not_le, Bool.not_true, Bool.not_false] at g41
        refine WQ.skip rfl rfl rfl ?_
        refine WQ.skip rfl rfl rfl ?_
        refine WQ.skip rfl rfl rfl ?_
        refine WQ.skip rfl rfl rfl ?_
        refine WQ.skip rfl rfl rfl ?_
        refine WQ.skip rfl rfl rfl ?_
        refine WQ.skip rfl rfl rfl ?_
        refine WQ.skip rfl rfl rfl ?_
        refine WQ.skip rfl rfl rfl ?_
        refine WQ.skip rfl rfl rfl ?_
        refine WQ.skip rfl rfl rfl ?_
        refine WQ.skip rfl rfl rfl ?_
        refine WQ.q rfl (Yd.qt (Yd.pickT rfl rfl)) rfl ?_
        refine WQ.q rfl (Yd.qt (Yd.move rfl)) rfl ?_
        refine WQ.skip rfl rfl rfl ?_
        refine WQ.skip rfl rfl rfl ?_
        refine WQ.skip rfl rfl rfl ?_
        refine WQ.skip rfl rfl rfl ?_
        refine WQ.skip rfl rfl rfl ?_
        refine WQ.skip rfl rfl rfl ?_
        refine WQ.skip rfl rfl rfl ?_
        refine WQ.skip rfl rfl rfl ?_
        refine WQ.tail ?_
        refine WL.skip rfl rfl ?_
        refine WL.yd (Yd.pickT rfl rfl) rfl ?_
        refine WL.nil ?_
        refine WP.thenC ?_
        refine WC.condT rfl ?_
        refine WC.seq ?_
        refine WC.ofFr [(2, _), (3, _), (4, _), (9, _), (13, _), (14, _), (15, _)] ⟨rfl, rfl, rfl, rfl, rfl, rfl, rfl, trivial⟩ ?_
        refine WC.region ?_
        refine WL.yd (Yd.assign rfl) rfl ?_
        refine WL.nil ?_
        refine WP.thenC ?_
        refine WC.ret ?_
        refine WP.blkRet ?_
        refine WP.thenRet ?_
        refine WP.thenRet ?_
        refine WP.blkRet ?_
        refine WP.thenRet ?_
        refine WP.ret1 rfl rfl Try.results39 (RV.tmp rfl) (fun w hI => by
          first
          | exact ⟨congrArg Ending.returned (congrArg Value.bool (by simp only [fitsB]; rw [decide_eq_false]; exact fun hh => (hh k (by omega)).1 g41)), hI.keep⟩
          | exact ⟨congrArg Ending.returned (congrArg Value.bool (by simp only [fitsB]; rw [decide_eq_false]; exact fun hh => (hh k (by omega)).2.1 g55)), hI.keep⟩
          | exact ⟨congrArg Ending.returned (congrArg Value.bool (by simp only [fitsB]; rw [decide_eq_false]; exact fun hh => by have h9 := (hh k (by omega)).2.2; omega)), hI.keep⟩
          | exact ⟨congrArg Ending.returned (congrArg Value.bool (by simp only [fitsB]; rw [decide_eq_true]; exact fun i hi => hok i (by omega))), hI.keep⟩)
      · try simp only [decide_eq_true_eq, decide_eq_false_iff_not, Bool.not_eq_true', Bool.not_eq_false', Int.not_lt, Int.not_le, Bool.not_true, Bool.not_false] at g41
        refine WQ.qg rfl rfl (Yd.qt (Yd.fieldAddr FA25_1 rfl)) rfl ?_
        refine WQ.qg rfl rfl (Yd.qt (Yd.load1 Try.isAgg22 rfl (by first | exact Rd.own (k := 0) rfl rfl | exact Rd.own (k := 1) rfl rfl | exact Rd.own (k := 2) rfl rfl | exact ((hS7.at k (by omega)).rd 0 rfl) | exact ((hS6.at (gt l k).dipper.toNat (by omega)).rd 0 rfl) | exact ((hR.bath.at k (by omega)).rd 2 rfl) | exact ((hR.dip.at (gt l k).dipper.toNat (by omega)).rd 2 rfl)))) rfl ?_
        refine WQ.qg rfl rfl (Yd.qt (Yd.fieldAddr FA61_1 rfl)) rfl ?_
        refine WQ.qg rfl rfl (Yd.qt (Yd.load1 Try.isAgg3 rfl (by first | exact Rd.own (k := 0) rfl rfl | exact Rd.own (k := 1) rfl rfl | exact Rd.own (k := 2) rfl rfl | exact ((hS7.at k (by omega)).rd 0 rfl) | exact ((hS6.at (gt l k).dipper.toNat (by omega)).rd 0 rfl) | exact ((hR.bath.at k (by omega)).rd 2 rfl) | exact ((hR.dip.at (gt l k).dipper.toNat (by omega)).rd 2 rfl)))) rfl ?_
        refine WQ.qg rfl rfl (Yd.qt (Yd.indexS Try.underlying22 Try.sizeOf53 rfl rfl (by omega) (by omega) (by first | exact hP.pl.addr k (by omega) | exact hR.bath.addr k (by omega) | exact hR.dip.addr (gt l k).dipper.toNat (by omega) | exact hS6.addr (gt l k).dipper.toNat (by omega) | exact hS7.addr k (by omega)))) rfl ?_
        refine WQ.qg rfl rfl (Yd.qt (Yd.fieldAddr FA53_1 rfl)) rfl ?_
        refine WQ.qg rfl rfl (Yd.qt (Yd.load1 Try.isAgg3 rfl (by first | exact Rd.own (k := 0) rfl rfl | exact Rd.own (k := 1) rfl rfl | exact Rd.own (k := 2) rfl rfl | exact ((hS7.at k (by omega)).rd 0 rfl) | exact ((hS6.at (gt l k).dipper.toNat (by omega)).rd 0 rfl) | exact ((hR.bath.at k (by omega)).rd 2 rfl) | exact ((hR.dip.at (gt l k).dipper.toNat (by omega)).rd 2 rfl)))) rfl ?_
        refine WQ.qg rfl rfl (Yd.qt (Yd.fieldAddr FA61_0 rfl)) rfl ?_
        refine WQ.qg rfl rfl (Yd.qt (Yd.load1 Try.isAgg3 rfl (by first | exact Rd.own (k := 0) rfl rfl | exact Rd.own (k := 1) rfl rfl | exact Rd.own (k := 2) rfl rfl | exact ((hS7.at k (by omega)).rd 0 rfl) | exact ((hS6.at (gt l k).dipper.toNat (by omega)).rd 0 rfl) | exact ((hR.bath.at k (by omega)).rd 2 rfl) | exact ((hR.dip.at (gt l k).dipper.toNat (by omega)).rd 2 rfl)))) rfl ?_
        refine WQ.qg rfl rfl (Yd.qt (Yd.shr rfl rfl (by omega))) rfl ?_
        refine WQ.qg rfl rfl (Yd.qt (Yd.and1 rfl rfl)) rfl ?_
        refine WQ.qg rfl rfl (Yd.qt (Yd.eql rfl rfl)) rfl ?_
        refine WQ.q rfl (Yd.qt (Yd.pickF rfl rfl)) rfl ?_
        refine WQ.q rfl (Yd.qt (Yd.move rfl)) rfl ?_
        refine WQ.part 55 rfl (fun g55 => ?_) (fun g55 => ?_)
        · try simp only [decide_eq_true_eq, decide_eq_false_iff_not, Bool.not_eq_true', Bool.not_eq_false', Int.not_lt, Int.not_le, Bool.not_true, Bool.not_false] at g55
          refine WQ.skip rfl rfl rfl ?_
          refine WQ.skip rfl rfl rfl ?_
          refine WQ.skip rfl rfl rfl ?_
          refine WQ.skip rfl rfl rfl ?_
          refine WQ.skip rfl rfl rfl ?_
          refine WQ.skip rfl rfl rfl ?_
          refine WQ.skip rfl rfl rfl ?_
          refine WQ.skip rfl rfl rfl ?_
          refine WQ.tail ?_
          refine WL.skip rfl rfl ?_
          refine WL.yd (Yd.pickT rfl rfl) rfl ?_
          refine WL.nil ?_
          refine WP.thenC ?_
          refine WC.condT rfl ?_
          refine WC.seq ?_
          refine WC.ofFr [(2, _), (3, _), (4, _), (9, _), (13, _), (14, _), (15, _)] ⟨rfl, rfl, rfl, rfl, rfl, rfl, rfl, trivial⟩ ?_
          refine WC.region ?_
          refine WL.yd (Yd.assign rfl) rfl ?_
          refine WL.nil ?_
          refine WP.thenC ?_
          refine WC.ret ?_
          refine WP.blkRet ?_
          refine WP.thenRet ?_
          refine WP.thenRet ?_
          refine WP.blkRet ?_
          refine WP.thenRet ?_
          refine WP.ret1 rfl rfl Try.results39 (RV.tmp rfl) (fun w hI => by
            first
            | exact ⟨congrArg Ending.returned (congrArg Value.bool (by simp only [fitsB]; rw [decide_eq_false]; exact fun hh => (hh k (by omega)).1 g41)), hI.keep⟩
            | exact ⟨congrArg Ending.returned (congrArg Value.bool (by simp only [fitsB]; rw [decide_eq_false]; exact fun hh => (hh k (by omega)).2.1 g55)), hI.keep⟩
            | exact ⟨congrArg Ending.returned (congrArg Value.bool (by simp only [fitsB]; rw [decide_eq_false]; exact fun hh => by have h9 := (hh k (by omega)).2.2; omega)), hI.keep⟩
            | exact ⟨congrArg Ending.returned (congrArg Value.bool (by simp only [fitsB]; rw [decide_eq_true]; exact fun i hi => hok i (by omega))), hI.keep⟩)
        · try simp only [decide_eq_true_eq, decide_eq_false_iff_not, Bool.not_eq_true', Bool.not_eq_false', Int.not_lt, Int.not_le, Bool.not_true, Bool.not_false] at g55
          refine WQ.qg rfl rfl (Yd.qt (Yd.move rfl)) rfl ?_
          refine WQ.qg rfl rfl (Yd.qt (Yd.loadN Try.isAgg61 Try.sizeOf61 rfl (vs := [_, _]) rfl (by first | exact RdN.own (k := 0) (n := 2) rfl rfl | exact RdN.own (k := 1) (n := 2) rfl rfl | exact RdN.own (k := 2) (n := 2) rfl rfl | exact (hP.pl.at k (by omega)).rdn 0 2 rfl))) rfl ?_
          refine WQ.qg rfl rfl (Yd.qt (Yd.look0 (kv := pkV) (F := F2) (y := y) (j := 2) pkV_inj law61 key_pk Try.underlying112 Try.zeroValue3 rfl hyk rfl hM2)) rfl ?_
          refine WQ.qg rfl rfl (Yd.qt (Yd.move rfl)) rfl ?_
          refine WQ.qg rfl rfl (Yd.qt (Yd.fieldAddr FA61_1 rfl)) rfl ?_
          refine WQ.qg rfl rfl (Yd.qt (Yd.load1 Try.isAgg3 rfl (by first | exact Rd.own (k := 0) rfl rfl | exact Rd.own (k := 1) rfl rfl | exact Rd.own (k := 2) rfl rfl | exact ((hS7.at k (by omega)).rd 0 rfl) | exact ((hS6.at (gt l k).dipper.toNat (by omega)).rd 0 rfl) | exact ((hR.bath.at k (by omega)).rd 2 rfl) | exact ((hR.dip.at (gt l k).dipper.toNat (by omega)).rd 2 rfl)))) rfl ?_
          refine WQ.qg rfl rfl (Yd.qt (Yd.indexS Try.underlying51 Try.sizeOf3 rfl rfl (by omega) (by omega) (by first | exact hP.pl.addr k (by omega) | exact hR.bath.addr k (by omega) | exact hR.dip.addr (gt l k).dipper.toNat (by omega) | exact hS6.addr (gt l k).dipper.toNat (by omega) | exact hS7.addr k (by omega)))) rfl ?_
          refine WQ.qg rfl rfl (Yd.qt (Yd.load1 Try.isAgg3 rfl (by first | exact Rd.own (k := 0) rfl rfl | exact Rd.own (k := 1) rfl rfl | exact Rd.own (k := 2) rfl rfl | exact ((hS7.at k (by omega)).rd 0 rfl) | exact ((hS6.at (gt l k).dipper.toNat (by omega)).rd 0 rfl) | exact ((hR.bath.at k (by omega)).rd 2 rfl) | exact ((hR.dip.at (gt l k).dipper.toNat (by omega)).rd 2 rfl)))) rfl ?_
          refine WQ.tail ?_
          refine WL.ydg rfl (Yd.gtr rfl rfl) rfl ?_
          refine WL.yd (Yd.pickF rfl rfl) rfl ?_
          refine WL.nil ?_
          refine WP.thenC ?_
          refine WC.cond rfl (fun c65 => ?_) (fun c65 => ?_)
          · try simp only [decide_eq_true_eq, decide_eq_false_iff_not, Bool.not_eq_true', Bool.not_eq_false', Int.not_lt, Int.not_le, Bool.not_true, Bool.not_false] at c65
            refine WC.seq ?_
            refine WC.ofFr [(2, _), (3, _), (4, _), (9, _), (13, _), (14, _), (15, _)] ⟨rfl, rfl, rfl, rfl, rfl, rfl, rfl, trivial⟩ ?_
            refine WC.region ?_
            refine WL.yd (Yd.assign rfl) rfl ?_
            refine WL.nil ?_
            refine WP.thenC ?_
            refine WC.ret ?_
            refine WP.blkRet ?_
            refine WP.thenRet ?_
            refine WP.thenRet ?_
            refine WP.blkRet ?_
            refine WP.thenRet ?_
            refine WP.ret1 rfl rfl Try.results39 (RV.tmp rfl) (fun w hI => by
              first
              | exact ⟨congrArg Ending.returned (congrArg Value.bool (by simp only [fitsB]; rw [decide_eq_false]; exact fun hh => (hh k (by omega)).1 g41)), hI.keep⟩
              | exact ⟨congrArg Ending.returned (congrArg Value.bool (by simp only [fitsB]; rw [decide_eq_false]; exact fun hh => (hh k (by omega)).2.1 g55)), hI.keep⟩
              | exact ⟨congrArg Ending.returned (congrArg Value.bool (by simp only [fitsB]; rw [decide_eq_false]; exact fun hh => by have h9 := (hh k (by omega)).2.2; omega)), hI.keep⟩
              | exact ⟨congrArg Ending.returned (congrArg Value.bool (by simp only [fitsB]; rw [decide_eq_true]; exact fun i hi => hok i (by omega))), hI.keep⟩)
          · try simp only [decide_eq_true_eq, decide_eq_false_iff_not, Bool.not_eq_true', Bool.not_eq_false', Int.not_lt, Int.not_le, Bool.not_true, Bool.not_false] at c65
            refine WC.skip ?_
            refine WP.blkNormal ?_
            refine WP.thenC ?_
            refine WC.ofFr [(2, _), (3, _), (4, _), (9, _), (13, _), (14, _), (15, _)] ⟨rfl, rfl, rfl, rfl, rfl, rfl, rfl, trivial⟩ ?_
            refine WC.region ?_
            refine WL.yd (Yd.add rfl rfl (wr64 ⟨by omega, by omega⟩)) rfl ?_
            refine WL.yd (Yd.move rfl) rfl ?_
            refine WL.nil ?_
            refine WP.again (⟨k + 1, es2, clock2, F2⟩ : Nat × Array MapEntry × Nat × (PK → Option Int)) ⟨by simp only; omega, hM2, hHF2, ext_round hok ⟨g41, g55, by omega⟩⟩ (by simp only; omega) (fun aa ww h => at_less h ⟨rfl, rfl, rfl, rfl, rfl, rfl, rfl, trivial⟩ (fun e he => List.mem_cons_of_mem _ he) (fun hn => (List.nodup_cons.1 hn).2))
  · try simp only [decide_eq_true_eq, decide_eq_false_iff_not, Bool.not_eq_true', Bool.not_eq_false', Int.not_lt, Int.not_le, Bool.not_true, Bool.not_false] at c16
    refine WC.exit ?_
    refine WP.thenExit ?_
    refine WP.thenExit ?_
    refine WP.blkHit ?_
    refine WP.thenC ?_
    refine WC.seq ?_
    refine WC.ofFr [] trivial ?_
    refine WC.region ?_
    refine WL.yd (Yd.assign rfl) rfl ?_
    refine WL.nil ?_
    refine WP.thenC ?_
    refine WC.ret ?_
    refine WP.ret1 rfl rfl Try.results39 (RV.tmp rfl) (fun w hI => by
      first
      | exact ⟨congrArg Ending.returned (congrArg Value.bool (by simp only [fitsB]; rw [decide_eq_false]; exact fun hh => (hh k (by omega)).1 g41)), hI.keep⟩
      | exact ⟨congrArg Ending.returned (congrArg Value.bool (by simp only [fitsB]; rw [decide_eq_false]; exact fun hh => (hh k (by omega)).2.1 g55)), hI.keep⟩
      | exact ⟨congrArg Ending.returned (congrArg Value.bool (by simp only [fitsB]; rw [decide_eq_false]; exact fun hh => by have h9 := (hh k (by omega)).2.2; omega)), hI.keep⟩
      | exact ⟨congrArg Ending.returned (congrArg Value.bool (by simp only [fitsB]; rw [decide_eq_true]; exact fun i hi => hok i (by omega))), hI.keep⟩)

end Go.Proofs.Ytidjdonppfegiaa
