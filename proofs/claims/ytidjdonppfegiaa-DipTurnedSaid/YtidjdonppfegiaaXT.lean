import Derived.Test.YtidjdonppfegiaaXQ
import Derived.Test.YtidjdonppfegiaaXK
set_option linter.unusedSimpArgs false
set_option linter.unusedVariables false
set_option linter.all false
namespace Go.Proofs.Ytidjdonppfegiaa
open Go.W Go.Dp

theorem inv_swap {D : Imm} {e1 e2 : Nat × Obj} {S : List Nat} {w0 w : World} (h : W.Inv D [e1, e2] S w0 w) : W.Inv D [e2, e1] S w0 w :=
  h.sub (fun e he => by simp only [List.mem_cons, List.mem_nil_iff, or_false] at he ⊢; exact he.symm) (by have := h.nodup; simp at this ⊢; exact fun e => this e.symm)
def u16C (x : Int) : List Value := [.int .u16 x]
theorem u16C_len (x : Int) : (u16C x).length = 1 := rfl
theorem owH_app (o : Option Ow) (e : TypeId) (xs : List Value) (hp : Hp) : owH o e xs [] ++ hp = owH o e xs hp := by cases o <;> rfl
def cntO (j : Nat) : Obj := .cells (List.toArray [nt j]) 3 (0, 0)
def fvV (b3 b1 : Nat) : Value := .func (.func 87) #[] (List.toArray [pt b3, pt b1])
/-- what the draws lean on -/
structure ByR (D : Imm) (by_ : List Int) (b1 : Nat) : Prop where
  blk : ∃ a c, D b1 = some (.cells (List.toArray [.slice a by_.length c]) 48 (0, 0)) ∧ SlL D 1 (by_.map u16C) a by_.length
  num : ∀ i, i < by_.length → 0 ≤ gt by_ i ∧ gt by_ i ≤ 65535
theorem ByR.ext {w : World} {D D' : Imm} {by_ : List Int} {b1 : Nat} (h : ByR D by_ b1) (hX : DExt w D D') : ByR D' by_ b1 := by
  obtain ⟨⟨a, c, h1, h2⟩, h3⟩ := h
  exact ⟨⟨a, c, hX.old _ _ h1, h2.ext hX⟩, h3⟩

set_option maxRecDepth 100000 in
set_option maxHeartbeats 1000000 in
theorem draws_g (by_ : List Int) (a : Option Addr) (n c : Nat) (D : Imm) (w : World) (hS : SlL D 1 (by_.map u16C) a n) (hn : ∀ i, i < by_.length → 0 ≤ gt by_ i ∧ gt by_ i ≤ 65535) (hH : Holds D w) : News Try.prog 37 [.slice a n c] w D (fun v D' hpc' => ∃ b3 b1, v = fvV b3 b1 ∧ ByR D' by_ b1 ∧ hpc' = [(b3, cntO 0)]) := by
  unfold News
  obtain rfl : n = by_.length := by have := hS.len; simpa using this
  refine enter Try.func37 rfl 5 Try.ntmps37 (Nat.le_of_ble_eq_true rfl) (Inv.start hH) ?_
  refine WC.seq ?_
  refine WC.ofFr [(0, _)] ⟨rfl, trivial⟩ ?_
  refine WC.region ?_
  refine WL.so (SO.box rfl rfl) rfl ?_
  rintro _ _ _ ⟨b1, hb1, rfl, rfl, rfl⟩ -- NEW
  refine WL.yd (Yd.assign rfl) rfl ?_
  refine WL.nil ?_
  refine WP.thenC ?_
  refine WC.seq ?_
  refine WC.ofFr [(2, _), (1, _)] ⟨rfl, rfl, trivial⟩ ?_
  refine WC.region ?_
  refine WL.so (SO.alloc Try.zeroValue3 rfl) rfl ?_
  rintro _ _ _ ⟨b3, hb3, rfl, rfl, rfl⟩ -- NEW
  refine WL.so (SO.store 0 rfl Try.sizeOf3 rfl rfl rfl rfl (Nat.le_of_ble_eq_true rfl) (oneB_spec rfl)) rfl ?_
  rintro _ _ _ ⟨rfl, rfl, rfl⟩
  refine WL.nil ?_
  refine WP.thenC ?_
  refine WC.seq ?_
  refine WC.ofFr [(3, _), (2, _), (1, _)] ⟨rfl, rfl, rfl, trivial⟩ ?_
  refine WC.region ?_
  refine WL.yd (Yd.func rfl rfl) rfl ?_
  refine WL.yd (Yd.assign rfl) rfl ?_
  refine WL.nil ?_
  refine WP.thenC ?_
  refine WC.ret ?_
  refine WP.ret1 rfl rfl Try.results37 (RV.tmp rfl) (fun w1 hI => ?_)
  have hI2 : W.Inv D [(b1, .cells (List.toArray [.slice a by_.length c]) 48 (0, 0)), (b3, cntO 0)] [] w w1 := inv_swap (by exact hI)
  have hn1 := hI2.apart _ _ (List.mem_of_getElem? (i := 0) rfl)
  have hX1 := fun o => (DExt.refl w D).add (o := o) hn1 hb1
  exact ⟨_, _, _, rfl, hX1 _, hI2.freeze, b3, b1, rfl, ⟨⟨a, c, Imm.add_self _ _ _, hS.ext (hX1 _)⟩, hn⟩, rfl⟩

set_option maxRecDepth 100000 in
set_option maxHeartbeats 1000000 in
theorem draw_g (by_ : List Int) (b3 b1 : Nat) (D : Imm) (w : World) (hB : ByR D by_ b1) (m : Int) (hm : 1 ≤ m ∧ m ≤ 1000) (j : Nat) (hj : j ≤ 10000) (hI0 : Inv D [(b3, cntO j)] [b3] w w) : Alters Try.prog 87 [it m, pt b3, pt b1] w D [b3] (fun v D' hpc' => v = it (drawV by_ (j + 1) m) ∧ D = D' ∧ hpc' = [(b3, cntO (j + 1))]) := by
  unfold Alters
  obtain ⟨⟨a, c, hbD, hS⟩, hn⟩ := hB
  refine enter Try.func87 rfl 26 Try.ntmps87 (Nat.le_of_ble_eq_true rfl) hI0 ?_
  refine WC.seq ?_
  refine WC.ofFr [(0, _), (1, _), (2, _)] ⟨rfl, rfl, rfl, trivial⟩ ?_
  refine WC.region ?_
  refine WL.yd (Yd.assign rfl) rfl ?_
  refine WL.nil ?_
  refine WP.thenC ?_
  refine WC.seq ?_
  refine WC.ofFr [(4, _), (0, _), (1, _), (2, _)] ⟨rfl, rfl, rfl, rfl, trivial⟩ ?_
  refine WC.region ?_
  refine WL.yd (Yd.load1 Try.isAgg3 rfl (by first | exact Rd.own (k := 0) rfl rfl | exact (Rd.imm hbD rfl) | exact ((hS.at ((j + 1) % by_.length) hlt).rd 0 rfl))) rfl ?_
  refine WL.yd (Yd.addN rfl rfl (by (try dsimp only); omega)) rfl ?_
  refine WL.so (SO.store 0 rfl Try.sizeOf3 rfl rfl rfl rfl (Nat.le_of_ble_eq_true rfl) (oneB_spec rfl)) rfl ?_
  rintro _ _ _ ⟨rfl, rfl, rfl⟩
  refine WL.nil ?_
  refine WP.thenC ?_
  refine WC.seq ?_
  refine WC.seq ?_
  refine WC.ofFr [(4, _), (0, _), (1, _), (2, _)] ⟨rfl, rfl, rfl, rfl, trivial⟩ ?_
  refine WC.region ?_
  refine WL.yd (Yd.load1 Try.isAgg48 rfl (by first | exact Rd.own (k := 0) rfl rfl | exact (Rd.imm hbD rfl) | exact ((hS.at ((j + 1) % by_.length) hlt).rd 0 rfl))) rfl ?_
  refine WL.yd (Yd.lenS rfl Try.underlying48 rfl) rfl ?_
  refine WL.yd (Yd.eql rfl rfl) rfl ?_
  refine WL.nil ?_
  refine WP.thenC ?_
  refine WC.cond rfl (fun c9 => ?_) (fun c9 => ?_)
  · try simp only [zq1, zq2, zq3, zq4, zq5, zq6, zq7, zq8] at c9
    have hl0 : by_.length = 0 := by omega
    refine WC.seq ?_
    refine WC.ofFr [(4, _), (0, _), (1, _), (2, _)] ⟨rfl, rfl, rfl, rfl, trivial⟩ ?_
    refine WC.region ?_
    refine WL.yd (Yd.load1 Try.isAgg3 rfl (by first | exact Rd.own (k := 0) rfl rfl | exact (Rd.imm hbD rfl) | exact ((hS.at ((j + 1) % by_.length) hlt).rd 0 rfl))) rfl ?_
    refine WL.yd (Yd.move rfl) rfl ?_
    refine WL.yd (Yd.rem rfl rfl (by (try dsimp only); omega) (by (try dsimp only); omega)) rfl ?_
    refine WL.yd (Yd.assign rfl) rfl ?_
    refine WL.nil ?_
    refine WP.thenC ?_
    refine WC.ret ?_
    refine WP.thenRet ?_
    refine WP.ret1 rfl rfl Try.results87 (RV.tmp rfl) (fun w1 hI => ⟨_, _, _, rfl, DExt.refl _ _, hI, fun _ h => h, by rw [drawV, if_pos hl0], rfl, rfl⟩)
  · try simp only [zq1, zq2, zq3, zq4, zq5, zq6, zq7, zq8] at c9
    have hl0 : ¬ by_.length = 0 := by omega
    have hlt : (j + 1) % by_.length < by_.length := Nat.mod_lt _ (by omega)
    have hgn := hn _ hlt
    have hie : ((j + 1 : Nat) : Int) % (by_.length : Int) = (((j + 1) % by_.length : Nat) : Int) := rfl
    refine WC.skip ?_
    refine WP.thenC ?_
    refine WC.seq ?_
    refine WC.ofFr [(4, _), (0, _), (1, _), (2, _)] ⟨rfl, rfl, rfl, rfl, trivial⟩ ?_
    refine WC.tail 12 [0, 1, 2, 3, 4, 5, 6, 7, 8, 9, 10, 11] rfl (by kernel_rfl) (by kernel_rfl)  ?_
    refine WQ.q rfl (Yd.qt (Yd.load1 Try.isAgg48 rfl (by first | exact Rd.own (k := 0) rfl rfl | exact (Rd.imm hbD rfl) | exact ((hS.at ((j + 1) % by_.length) hlt).rd 0 rfl)))) rfl ?_
    refine WQ.q rfl (Yd.qt (Yd.load1 Try.isAgg3 rfl (by first | exact Rd.own (k := 0) rfl rfl | exact (Rd.imm hbD rfl) | exact ((hS.at ((j + 1) % by_.length) hlt).rd 0 rfl)))) rfl ?_
    refine WQ.q rfl (Yd.qt (Yd.load1 Try.isAgg48 rfl (by first | exact Rd.own (k := 0) rfl rfl | exact (Rd.imm hbD rfl) | exact ((hS.at ((j + 1) % by_.length) hlt).rd 0 rfl)))) rfl ?_
    refine WQ.q rfl (Yd.qt (Yd.lenS rfl Try.underlying48 rfl)) rfl ?_
    refine WQ.q rfl (Yd.qt (Yd.rem rfl rfl (by (try dsimp only); omega) (by (try dsimp only); omega))) rfl ?_
    refine WQ.q rfl (Yd.qt (Yd.indexS Try.underlying48 Try.sizeOf111 rfl rfl (by rw [hie]; omega) (by rw [hie]; omega) (hS.addr ((j + 1) % by_.length) hlt))) rfl ?_
    refine WQ.q rfl (Yd.qt (Yd.load1 Try.isAgg111 rfl (by first | exact Rd.own (k := 0) rfl rfl | exact (Rd.imm hbD rfl) | exact ((hS.at ((j + 1) % by_.length) hlt).rd 0 rfl)))) rfl ?_
    refine WQ.q rfl (Yd.qt (Yd.conv Try.underlying111 Try.underlying3 rfl (wr64 ⟨by omega, by omega⟩))) rfl ?_
    refine WQ.q rfl (Yd.qt (Yd.load1 Try.isAgg3 rfl (by first | exact Rd.own (k := 0) rfl rfl | exact (Rd.imm hbD rfl) | exact ((hS.at ((j + 1) % by_.length) hlt).rd 0 rfl)))) rfl ?_
    refine WQ.q rfl (Yd.qt (Yd.mul rfl rfl (wr64 ⟨by (try dsimp only); omega, by (try dsimp only); omega⟩))) rfl ?_
    refine WQ.q rfl (Yd.qt (Yd.add rfl rfl (wr64 ⟨by (try dsimp only); omega, by (try dsimp only); omega⟩))) rfl ?_
    refine WQ.q rfl (Yd.qt (Yd.move rfl)) rfl ?_
    refine WQ.tail ?_
    refine WL.yd (Yd.rem rfl rfl (by (try dsimp only); omega) (by (try dsimp only); omega)) rfl ?_
    refine WL.yd (Yd.assign rfl) rfl ?_
    refine WL.nil ?_
    refine WP.thenC ?_
    refine WC.ret ?_
    refine WP.ret1 rfl rfl Try.results87 (RV.tmp rfl) (fun w1 hI => ⟨_, _, _, rfl, DExt.refl _ _, hI, fun _ h => h, by rw [drawV, if_neg hl0], rfl, rfl⟩)

set_option maxRecDepth 100000 in
set_option maxHeartbeats 1000000 in
theorem made_0 (d : Dips) (a1 : Option Addr) (n1 c1 : Nat) (a2 : Option Addr) (n2 c2 : Nat) (D : Imm) (w : World) (hR : DipsR D d a1 n1 a2 n2) (hH : Holds D w) (hv : dipsB d = true) (hz : d.dippers.length = 0) (by_ : List Int) (b3 b1 j : Nat) (hB : ByR D by_ b1) (hj : j ≤ 1000) (hI0 : Inv D [(b3, cntO j)] [b3] w w) : AltersN Try.prog 40 [.agg #[it d.hours, .slice a1 n1 c1, .slice a2 n2 c2], fvV b3 b1] w D [b3] (fun v D' hpc' => ∃ a n c, v = .tuple #[.slice a n c, .bool (madeIs d)] ∧ PlanR D' (madeL d by_ j) a n ∧ n ≤ c ∧ hpc' = [(b3, cntO (madeN d j))]) := by
  unfold AltersN
  obtain rfl := hR.dip.len'
  obtain rfl := hR.bath.len'
  have hl1 := hR.len1
  have hl2 := hR.len2
  have hnum := dips_num hv
  refine enter Try.func40 rfl 34 Try.ntmps40 (Nat.le_of_ble_eq_true rfl) hI0 ?_
  refine WC.seq ?_
  refine WC.ofFr [(0, _), (1, _)] ⟨rfl, rfl, trivial⟩ ?_
  refine WC.region ?_
  refine WL.so (SO.box rfl rfl) rfl ?_
  rintro _ _ _ ⟨b2, hb2, rfl, rfl, rfl⟩ -- NEW
  refine WL.yd (Yd.assign rfl) rfl ?_
  refine WL.yd (Yd.assign rfl) rfl ?_
  refine WL.nil ?_
  refine WP.thenC ?_
  refine WC.seq ?_
  refine WC.seq ?_
  refine WC.ofFr [(5, _), (4, _), (2, _), (1, _)] ⟨rfl, rfl, rfl, rfl, trivial⟩ ?_
  refine WC.region ?_
  refine WL.yd (Yd.fieldAddr FA25_1 rfl) rfl ?_
  refine WL.yd (Yd.load1 Try.isAgg22 rfl (by first | exact Rd.own (k := 0) rfl rfl | exact Rd.own (k := 1) rfl rfl)) rfl ?_
  refine WL.yd (Yd.lenS rfl Try.underlying22 rfl) rfl ?_
  refine WL.yd (Yd.eql rfl rfl) rfl ?_
  refine WL.nil ?_
  refine WP.thenC ?_
  refine WC.cond rfl (fun c9 => ?_) (fun c9 => ?_)
  · try simp only [zq1, zq2, zq3, zq4, zq5, zq6, zq7, zq8] at c9
    refine WC.seq ?_
    refine WC.ofFr [(5, _), (4, _), (2, _), (1, _)] ⟨rfl, rfl, rfl, rfl, trivial⟩ ?_
    refine WC.tail 5 [0, 1, 2, 3, 4] rfl (by kernel_rfl) (by kernel_rfl)  ?_
    refine WQ.q rfl (Yd.qt (Yd.fieldAddr FA25_2 rfl)) rfl ?_
    refine WQ.q rfl (Yd.qt (Yd.load1 Try.isAgg23 rfl (by first | exact Rd.own (k := 0) rfl rfl | exact Rd.own (k := 1) rfl rfl))) rfl ?_
    refine WQ.q rfl (Yd.qt (Yd.lenS rfl Try.underlying23 rfl)) rfl ?_
    refine WQ.q rfl (Yd.qt (Yd.eql rfl rfl)) rfl ?_
    refine WQ.q rfl (Yd.qt (Yd.assign rfl)) rfl ?_
    refine WQ.tail ?_
    refine WL.yd (Yd.assign rfl) rfl ?_
    refine WL.nil ?_
    refine WP.thenC ?_
    refine WC.ret ?_
    refine WP.thenRet ?_
    refine WP.ret2 rfl rfl Try.results40 (RV.tmp rfl) (RV.tmp rfl) (fun w1 hI => ⟨_, D, [(b3, cntO (madeN d j))], rfl, DExt.refl _ _, by rw [madeN, if_pos hz]; exact hI.tail, none, 0, 0, by rw [madeIs, if_pos hz], by rw [madeL, if_pos hz]; exact PlanR.nil D, Nat.le_refl _, rfl⟩)
  · try simp only [zq1, zq2, zq3, zq4, zq5, zq6, zq7, zq8] at c9
    omega

set_option maxRecDepth 100000 in
set_option maxHeartbeats 1000000 in
theorem made_n (d : Dips) (a1 : Option Addr) (n1 c1 : Nat) (a2 : Option Addr) (n2 c2 : Nat) (D : Imm) (w : World) (hR : DipsR D d a1 n1 a2 n2) (hH : Holds D w) (hv : dipsB d = true) (hz : ¬ d.dippers.length = 0) (by_ : List Int) (b3 b1 j : Nat) (hB : ByR D by_ b1) (hj : j ≤ 1000) (hI0 : Inv D [(b3, cntO j)] [b3] w w) : AltersN Try.prog 40 [.agg #[it d.hours, .slice a1 n1 c1, .slice a2 n2 c2], fvV b3 b1] w D [b3] (fun v D' hpc' => ∃ a n c, v = .tuple #[.slice a n c, .bool (madeIs d)] ∧ PlanR D' (madeL d by_ j) a n ∧ n ≤ c ∧ hpc' = [(b3, cntO (madeN d j))]) := by
  unfold AltersN
  obtain rfl := hR.dip.len'
  obtain rfl := hR.bath.len'
  have hl1 := hR.len1
  have hl2 := hR.len2
  have hnum := dips_num hv
  refine enter Try.func40 rfl 34 Try.ntmps40 (Nat.le_of_ble_eq_true rfl) hI0 ?_
  refine WC.seq ?_
  refine WC.ofFr [(0, _), (1, _)] ⟨rfl, rfl, trivial⟩ ?_
  refine WC.region ?_
  refine WL.so (SO.box rfl rfl) rfl ?_
  rintro _ _ _ ⟨b2, hb2, rfl, rfl, rfl⟩ -- NEW
  refine WL.yd (Yd.assign rfl) rfl ?_
  refine WL.yd (Yd.assign rfl) rfl ?_
  refine WL.nil ?_
  refine WP.thenC ?_
  refine WC.seq ?_
  refine WC.seq ?_
  refine WC.ofFr [(5, _), (4, _), (2, _), (1, _)] ⟨rfl, rfl, rfl, rfl, trivial⟩ ?_
  refine WC.region ?_
  refine WL.yd (Yd.fieldAddr FA25_1 rfl) rfl ?_
  refine WL.yd (Yd.load1 Try.isAgg22 rfl (by first | exact Rd.own (k := 0) rfl rfl | exact Rd.own (k := 1) rfl rfl)) rfl ?_
  refine WL.yd (Yd.lenS rfl Try.underlying22 rfl) rfl ?_
  refine WL.yd (Yd.eql rfl rfl) rfl ?_
  refine WL.nil ?_
  refine WP.thenC ?_
  refine WC.cond rfl (fun c9 => ?_) (fun c9 => ?_)
  · try simp only [zq1, zq2, zq3, zq4, zq5, zq6, zq7, zq8] at c9
    omega
  · try simp only [zq1, zq2, zq3, zq4, zq5, zq6, zq7, zq8] at c9
    refine WC.skip ?_
    refine WP.thenC ?_
    refine WC.seq ?_
    refine WC.seq ?_
    refine WC.ofFr [(5, _), (4, _), (2, _), (1, _)] ⟨rfl, rfl, rfl, rfl, trivial⟩ ?_
    refine WC.region ?_
    refine WL.yd (Yd.fieldAddr FA25_2 rfl) rfl ?_
    refine WL.yd (Yd.load1 Try.isAgg23 rfl (by first | exact Rd.own (k := 0) rfl rfl | exact Rd.own (k := 1) rfl rfl)) rfl ?_
    refine WL.yd (Yd.lenS rfl Try.underlying23 rfl) rfl ?_
    refine WL.yd (Yd.move rfl) rfl ?_
    refine WL.nil ?_
    refine WP.thenC ?_
    refine WC.block ?_
    refine WC.loop (fun y : Nat × Option Ow => [(1, fvV b3 b1), (2, pt b2), (4, owV y.2 y.1), (16, nt d.bathers.length), (17, nt y.1)]) (fun y => ((b2, .cells (List.toArray [it d.hours, .slice a1 d.dippers.length c1, .slice a2 d.bathers.length c2]) 25 (0, 0)) :: owH y.2 61 (mkCs d by_ j y.1) []) ++ [(b3, cntO (j + 2 * y.1))]) (fun _ => D) (fun y => y.1 ≤ d.bathers.length ∧ owP w y.2 y.1 2) (fun y => d.bathers.length - y.1) (0, none) ⟨by omega, rfl⟩ (fun a w h => at_fr h ⟨rfl, rfl, rfl, rfl, rfl, trivial⟩) ?_
    rintro ⟨k, o⟩ ⟨hk, ho⟩
    dsimp only at hk ho
    refine WC.seq ?_
    refine WC.ofFr [(1, _), (2, _), (4, _), (16, _), (17, _)] ⟨rfl, rfl, rfl, rfl, rfl, trivial⟩ ?_
    refine WC.region ?_
    refine WL.yd (Yd.lss rfl rfl) rfl ?_
    refine WL.nil ?_
    refine WP.thenC ?_
    refine WC.seq ?_
    refine WC.cond rfl (fun c18 => ?_) (fun c18 => ?_)
    · try simp only [zq1, zq2, zq3, zq4, zq5, zq6, zq7, zq8] at c18
      refine WC.skip ?_
      refine WP.thenC ?_
      refine WC.seq ?_
      refine WC.block ?_
      refine WC.ofFr [(1, _), (2, _), (4, _), (16, _), (17, _)] ⟨rfl, rfl, rfl, rfl, rfl, trivial⟩ ?_
      refine WC.drawO [_] [(0, true), (1, true), (2, true), (3, true), (5, true), (6, true), (7, true), (8, true), (4, false), (9, false), (10, true), (11, false), (12, false), (13, true)] (by kernel_rfl) (by kernel_rfl) (QuietPanic.blk (QuietPanic.then (QuietPanic.then (QuietPanic.blk (QuietPanic.then QuietPanic.body))))) (fun w hI => Inv.left (l1 := [_]) hI) ?_
      refine WA.yd rfl (Yd.move rfl) rfl ?_
      refine WA.yd rfl (Yd.move rfl) rfl ?_
      refine WA.yd rfl (Yd.fieldAddr FA25_0 rfl) rfl ?_
      refine WA.yd rfl (Yd.load1 Try.isAgg3 rfl (by first | exact Rd.own (k := 0) rfl rfl)) rfl ?_
      refine WA.yd rfl (Yd.move rfl) rfl ?_
      refine WA.yd rfl (Yd.fieldAddr FA25_1 rfl) rfl ?_
      refine WA.yd rfl (Yd.load1 Try.isAgg22 rfl (by first | exact Rd.own (k := 0) rfl rfl)) rfl ?_
      refine WA.yd rfl (Yd.lenS rfl Try.underlying22 rfl) rfl ?_
      refine WA.so rfl (SO.alters (own := ((b2, .cells (List.toArray [it d.hours, .slice a1 d.dippers.length c1, .slice a2 d.bathers.length c2]) 25 (0, 0)) :: owH o 61 (mkCs d by_ j k) [])) (hpc := [(b3, cntO (j + 2 * k))]) (S1 := [b3]) (fun _ h => h) (fun h => h) (fun _ h => h) (fun _ h => h) (Enters.val Try.call87 rfl rfl) (fun w1 hI => draw_g by_ b3 b1 _ w1 hB d.hours (by omega) (j + 2 * k) (by omega) hI)) rfl ?_
      rintro _ _ _ ⟨_, _, ⟨rfl, rfl, rfl⟩, rfl⟩
      refine ⟨fun _ hI => Inv.left (l1 := [_]) hI, ?_⟩
      refine WA.so rfl (SO.alters (own := ((b2, .cells (List.toArray [it d.hours, .slice a1 d.dippers.length c1, .slice a2 d.bathers.length c2]) 25 (0, 0)) :: owH o 61 (mkCs d by_ j k) [])) (hpc := [(b3, cntO (j + 2 * k + 1))]) (S1 := [b3]) (fun _ h => h) (fun h => h) (fun _ h => h) (fun _ h => h) (Enters.val Try.call87 rfl rfl) (fun w1 hI => draw_g by_ b3 b1 _ w1 hB d.dippers.length (by omega) (j + 2 * k + 1) (by omega) hI)) rfl ?_
      rintro _ _ _ ⟨_, _, ⟨rfl, rfl, rfl⟩, rfl⟩
      refine ⟨fun _ hI => Inv.left (l1 := [_]) hI, ?_⟩
      refine WA.yd rfl (Yd.build SA61 rfl (cs := [_, _]) rfl) rfl ?_
      refine WA.so rfl (SO.buildSlice Try.underlying26 Try.sizeOf61 Try.zeroValue61 rfl rfl rfl rfl (cs := [_, _]) rfl) rfl ?_
      rintro _ _ _ ⟨b30, hb30, rfl, rfl, rfl⟩ -- NEW
      refine ⟨fun _ hI => Inv.left (l1 := [_]) hI.tail, ?_⟩
      refine WA.so rfl (SO.appendOw (o := o) (len := k) (n := 1) (xs := mkCs d by_ j k) (size := 2) [_] [_] [(b3, cntO (j + 2 * k + 1 + 1))] rfl rfl Try.underlying26 Try.sizeOf61 Try.typeInfo61 Try.zeroValue61 rfl rfl rfl (congrArg (fun z => _ :: _ :: z) (owH_app _ _ _ _)) ⟨rfl, .inr ⟨_, _, _, rfl, RdN.own (k := 0) (n := 2) rfl rfl⟩⟩ (oneB_spec rfl) ho (mkCs_len _ _ _ _) (by omega) (by show (2 * (_ + _) + 1000) * 16 ≤ 2 ^ 48; omega) (by omega)) rfl ?_
      rintro _ _ _ ⟨u1, hu1, rfl, rfl, rfl⟩
      refine ⟨fun _ hI => Inv.left (l1 := [_]) hI, ?_⟩
      refine WA.yd rfl (Yd.assign rfl) rfl ?_
      refine WA.nil ?_
      refine WP.blkNormal ?_
      refine WP.thenC ?_
      refine WC.ofFr [(4, _), (1, _), (2, _), (16, _), (17, _)] ⟨rfl, rfl, rfl, rfl, rfl, trivial⟩ ?_
      refine WC.region ?_
      refine WL.yd (Yd.add rfl rfl (wr64 ⟨by omega, by omega⟩)) rfl ?_
      refine WL.yd (Yd.move rfl) rfl ?_
      refine WL.nil ?_
      refine WP.again (⟨k + 1, some u1⟩ : Nat × Option Ow) ⟨by simp only; omega, hu1⟩ (by simp only; omega) (fun aa ww h => ?_)
      show At _ [(1, fvV b3 b1), (2, pt b2), (4, owV (some u1) (k + 1)), (16, nt d.bathers.length), (17, nt (k + 1))] D (((b2, .cells (List.toArray [it d.hours, .slice a1 d.dippers.length c1, .slice a2 d.bathers.length c2]) 25 (0, 0)) :: owH (some u1) 61 (mkCs d by_ j (k + 1)) []) ++ [(b3, cntO (j + 2 * (k + 1)))]) aa ww
      rw [mkCs_succ]
      exact at_fr h ⟨rfl, rfl, rfl, rfl, rfl, trivial⟩
    · try simp only [zq1, zq2, zq3, zq4, zq5, zq6, zq7, zq8] at c18
      refine WC.exit ?_
      refine WP.thenExit ?_
      refine WP.thenExit ?_
      refine WP.blkHit ?_
      refine WP.thenC ?_
      refine WC.seq ?_
      refine WC.ofFr [(4, _)] ⟨rfl, trivial⟩ ?_
      refine WC.region ?_
      obtain rfl : k = d.bathers.length := by omega
      refine WL.know 4 (.slice (owA o) d.bathers.length (owC o d.bathers.length)) rfl (owV_eqN (by exact ho)) ?_
      refine WL.yd (Yd.move rfl) rfl ?_
      refine WL.yd (Yd.assign rfl) rfl ?_
      refine WL.yd (Yd.assign rfl) rfl ?_
      refine WL.nil ?_
      refine WP.thenC ?_
      refine WC.ret ?_
      refine WP.ret2 rfl rfl Try.results40 (RV.tmp rfl) (RV.tmp rfl) (fun w1 hI => ?_)
      cases o with
      | none =>
        have h0 : d.bathers.length = 0 := ho
        refine ⟨_, D, [(b3, cntO (madeN d j))], rfl, DExt.refl _ _, ?_, none, d.bathers.length, 0, by rw [madeIs, if_neg hz]; rfl, ?_, by omega, rfl⟩
        · rw [madeN, if_neg hz]; exact hI.tail
        · rw [madeL, if_neg hz, h0]; exact PlanR.nil D
      | some u =>
        have hf := hI.tail.freeze
        have hnu := hI.tail.apart _ _ (List.mem_of_getElem? (i := 0) rfl)
        have hXu := fun o => (DExt.refl w D).add (o := o) hnu ho.1
        refine ⟨_, D.add u.b (.cells (List.toArray (mkCs d by_ j d.bathers.length ++ u.rest)) 61 (0, 0)), [(b3, cntO (madeN d j))], rfl, hXu _, ?_, some ⟨u.b, 0, none⟩, d.bathers.length, u.cap, by rw [madeIs, if_neg hz]; rfl, ?_, ho.2.1, rfl⟩
        · rw [madeN, if_neg hz]; exact hf
        · rw [madeL, if_neg hz]; exact PlanR.ofBlock (Imm.add_self _ _ _) _ (mkTo_len _ _ _ _).symm (by omega)

theorem made_g (d : Dips) (a1 : Option Addr) (n1 c1 : Nat) (a2 : Option Addr) (n2 c2 : Nat) (D : Imm) (w : World) (hR : DipsR D d a1 n1 a2 n2) (hH : Holds D w) (hv : dipsB d = true) (by_ : List Int) (b3 b1 j : Nat) (hB : ByR D by_ b1) (hj : j ≤ 1000) (hI0 : Inv D [(b3, cntO j)] [b3] w w) : AltersN Try.prog 40 [.agg #[it d.hours, .slice a1 n1 c1, .slice a2 n2 c2], fvV b3 b1] w D [b3] (fun v D' hpc' => ∃ a n c, v = .tuple #[.slice a n c, .bool (madeIs d)] ∧ PlanR D' (madeL d by_ j) a n ∧ n ≤ c ∧ hpc' = [(b3, cntO (madeN d j))]) := by
  by_cases hz : d.dippers.length = 0
  · exact made_0 d a1 n1 c1 a2 n2 c2 D w hR hH hv hz by_ b3 b1 j hB hj hI0
  · exact made_n d a1 n1 c1 a2 n2 c2 D w hR hH hv hz by_ b3 b1 j hB hj hI0

end Go.Proofs.Ytidjdonppfegiaa
