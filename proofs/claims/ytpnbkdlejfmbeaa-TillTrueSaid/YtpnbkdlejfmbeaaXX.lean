import Derived.Test.YtpnbkdlejfmbeaaXN
import Derived.Test.YtpnbkdlejfmbeaaXR
import Derived.Test.YtpnbkdlejfmbeaaXW
set_option linter.unusedSimpArgs false
set_option linter.unusedVariables false
set_option linter.all false
namespace Go.Proofs.Ytpnbkdlejfmbeaa
open Go.W Go.Ti

theorem inv_swap {D : Imm} {e1 e2 : Nat × Obj} {S : List Nat} {w0 w : World} (h : W.Inv D [e1, e2] S w0 w) : W.Inv D [e2, e1] S w0 w :=
  h.sub (fun e he => by simp only [List.mem_cons, List.mem_nil_iff, or_false] at he ⊢; exact he.symm) (by have := h.nodup; simp at this ⊢; exact fun e => this e.symm)
def u16C (x : Int) : List Value := [.int .u16 x]
theorem u16C_len (x : Int) : (u16C x).length = 1 := rfl
theorem owH_app (o : Option Ow) (e : TypeId) (xs : List Value) (hp : Hp) : owH o e xs [] ++ hp = owH o e xs hp := by cases o <;> rfl
theorem owV_one (o : Option Ow) (n : Nat) : (owV o n).oneCell' = true := by cases o <;> rfl
def cntO (j : Nat) : Obj := .cells (List.toArray [nt j]) 3 (0, 0)
def fvV (b3 b1 : Nat) : Value := .func (.func 57) #[] (List.toArray [pt b3, pt b1])
/-- what the draws lean on -/
structure ByR (D : Imm) (by_ : List Int) (b1 : Nat) : Prop where
  blk : ∃ a c, D b1 = some (.cells (List.toArray [.slice a by_.length c]) 51 (0, 0)) ∧ SlL D 1 (by_.map u16C) a by_.length
  num : ∀ i, i < by_.length → 0 ≤ gt by_ i ∧ gt by_ i ≤ 65535
theorem ByR.ext {w : World} {D D' : Imm} {by_ : List Int} {b1 : Nat} (h : ByR D by_ b1) (hX : DExt w D D') : ByR D' by_ b1 := by
  obtain ⟨⟨a, c, h1, h2⟩, h3⟩ := h
  exact ⟨⟨a, c, hX.old _ _ h1, h2.ext hX⟩, h3⟩

set_option maxRecDepth 100000 in
set_option maxHeartbeats 1000000 in
theorem draws_g (by_ : List Int) (a : Option Addr) (n c : Nat) (D : Imm) (w : World) (hS : SlL D 1 (by_.map u16C) a n) (hn : ∀ i, i < by_.length → 0 ≤ gt by_ i ∧ gt by_ i ≤ 65535) (hH : Holds D w) : News Try.prog 22 [.slice a n c] w D (fun v D' hpc' => ∃ b3 b1, v = fvV b3 b1 ∧ ByR D' by_ b1 ∧ hpc' = [(b3, cntO 0)]) := by
  unfold News
  obtain rfl : n = by_.length := by have := hS.len; simpa using this
  refine enter Try.func22 rfl 5 Try.ntmps22 (Nat.le_of_ble_eq_true rfl) (Inv.start hH) ?_
  refine WC.seq ?_
  refine WC.ofFr [(0, _)] ⟨rfl, trivial⟩ ?_
  refine WC.region ?_
  refine WL.so (SO.box rfl rfl) rfl ?_
  rintro _ _ _ ⟨b1, hb1, rfl, rfl, rfl⟩ -- NEW
  refine WL.yd (Yd.assign rfl) rfl ?_
  refine WL.nil ?_
  refine WP.thenC ?_
  refine WC.seq ?_
  refine WC.ofFr [(2, _), (1, _)] ⟨rfl, rfl, trivial⟩ ?_
  refine WC.region ?_
  refine WL.so (SO.alloc Try.zeroValue3 rfl) rfl ?_
  rintro _ _ _ ⟨b3, hb3, rfl, rfl, rfl⟩ -- NEW
  refine WL.so (SO.store 0 rfl Try.sizeOf3 rfl rfl rfl rfl (Nat.le_of_ble_eq_true rfl) (oneB_spec rfl)) rfl ?_
  rintro _ _ _ ⟨rfl, rfl, rfl⟩
  refine WL.nil ?_
  refine WP.thenC ?_
  refine WC.seq ?_
  refine WC.ofFr [(3, _), (2, _), (1, _)] ⟨rfl, rfl, rfl, trivial⟩ ?_
  refine WC.region ?_
  refine WL.yd (Yd.func rfl rfl) rfl ?_
  refine WL.yd (Yd.assign rfl) rfl ?_
  refine WL.nil ?_
  refine WP.thenC ?_
  refine WC.ret ?_
  refine WP.ret1 rfl rfl Try.results22 (RV.tmp rfl) (fun w1 hI => ?_)
  have hI2 : W.Inv D [(b1, .cells (List.toArray [.slice a by_.length c]) 51 (0, 0)), (b3, cntO 0)] [] w w1 := inv_swap (by exact hI)
  have hn1 := hI2.apart _ _ (List.mem_of_getElem? (i := 0) rfl)
  have hX1 := fun o => (DExt.refl w D).add (o := o) hn1 hb1
  exact ⟨_, _, _, rfl, hX1 _, hI2.freeze, b3, b1, rfl, ⟨⟨a, c, Imm.add_self _ _ _, hS.ext (hX1 _)⟩, hn⟩, rfl⟩

set_option maxRecDepth 100000 in
set_option maxHeartbeats 1000000 in
theorem draw_g (by_ : List Int) (b3 b1 : Nat) (D : Imm) (w : World) (hB : ByR D by_ b1) (m : Int) (hm : 1 ≤ m ∧ m ≤ 1000) (j : Nat) (hj : j ≤ 10000) (hI0 : Inv D [(b3, cntO j)] [b3] w w) : Alters Try.prog 57 [it m, pt b3, pt b1] w D [b3] (fun v D' hpc' => v = it (drawV by_ (j + 1) m) ∧ D = D' ∧ hpc' = [(b3, cntO (j + 1))]) := by
  unfold Alters
  obtain ⟨⟨a, c, hbD, hS⟩, hn⟩ := hB
  refine enter Try.func57 rfl 26 Try.ntmps57 (Nat.le_of_ble_eq_true rfl) hI0 ?_
  refine WC.seq ?_
  refine WC.ofFr [(0, _), (1, _), (2, _)] ⟨rfl, rfl, rfl, trivial⟩ ?_
  refine WC.region ?_
  refine WL.yd (Yd.assign rfl) rfl ?_
  refine WL.nil ?_
  refine WP.thenC ?_
  refine WC.seq ?_
  refine WC.ofFr [(4, _), (0, _), (1, _), (2, _)] ⟨rfl, rfl, rfl, rfl, trivial⟩ ?_
  refine WC.region ?_
  refine WL.yd (Yd.load1 Try.isAgg3 rfl (by first | exact Rd.own (k := 0) rfl rfl | exact (Rd.imm hbD rfl) | exact ((hS.at ((j + 1) % by_.length) hlt).rd 0 rfl))) rfl ?_
  refine WL.yd (Yd.addN rfl rfl (by (try dsimp only); omega)) rfl ?_
  refine WL.so (SO.store 0 rfl Try.sizeOf3 rfl rfl rfl rfl (Nat.le_of_ble_eq_true rfl) (oneB_spec rfl)) rfl ?_
  rintro _ _ _ ⟨rfl, rfl, rfl⟩
  refine WL.nil ?_
  refine WP.thenC ?_
  refine WC.seq ?_
  refine WC.seq ?_
  refine WC.ofFr [(4, _), (0, _), (1, _), (2, _)] ⟨rfl, rfl, rfl, rfl, trivial⟩ ?_
  refine WC.region ?_
  refine WL.yd (Yd.load1 Try.isAgg51 rfl (by first | exact Rd.own (k := 0) rfl rfl | exact (Rd.imm hbD rfl) | exact ((hS.at ((j + 1) % by_.length) hlt).rd 0 rfl))) rfl ?_
  refine WL.yd (Yd.lenS rfl Try.underlying51 rfl) rfl ?_
  refine WL.yd (Yd.eql rfl rfl) rfl ?_
  refine WL.nil ?_
  refine WP.thenC ?_
  refine WC.cond rfl (fun c9 => ?_) (fun c9 => ?_)
  · try simp only [zq1, zq2, zq3, zq4, zq5, zq6, zq7, zq8] at c9
    have hl0 : by_.length = 0 := by omega
    refine WC.seq ?_
    refine WC.ofFr [(4, _), (0, _), (1, _), (2, _)] ⟨rfl, rfl, rfl, rfl, trivial⟩ ?_
    refine WC.region ?_
    refine WL.yd (Yd.load1 Try.isAgg3 rfl (by first | exact Rd.own (k := 0) rfl rfl | exact (Rd.imm hbD rfl) | exact ((hS.at ((j + 1) % by_.length) hlt).rd 0 rfl))) rfl ?_
    refine WL.yd (Yd.move rfl) rfl ?_
    refine WL.yd (Yd.rem rfl rfl (by (try dsimp only); omega) (by (try dsimp only); omega)) rfl ?_
    refine WL.yd (Yd.assign rfl) rfl ?_
    refine WL.nil ?_
    refine WP.thenC ?_
    refine WC.ret ?_
    refine WP.thenRet ?_
    refine WP.ret1 rfl rfl Try.results57 (RV.tmp rfl) (fun w1 hI => ⟨_, _, _, rfl, DExt.refl _ _, hI, fun _ h => h, by rw [drawV, if_pos hl0], rfl, rfl⟩)
  · try simp only [zq1, zq2, zq3, zq4, zq5, zq6, zq7, zq8] at c9
    have hl0 : ¬ by_.length = 0 := by omega
    have hlt : (j + 1) % by_.length < by_.length := Nat.mod_lt _ (by omega)
    have hgn := hn _ hlt
    have hie : ((j + 1 : Nat) : Int) % (by_.length : Int) = (((j + 1) % by_.length : Nat) : Int) := rfl
    refine WC.skip ?_
    refine WP.thenC ?_
    refine WC.seq ?_
    refine WC.ofFr [(4, _), (0, _), (1, _), (2, _)] ⟨rfl, rfl, rfl, rfl, trivial⟩ ?_
    refine WC.tail 12 [0, 1, 2, 3, 4, 5, 6, 7, 8, 9, 10, 11] rfl (by kernel_rfl) (by kernel_rfl)  ?_
    refine WQ.q rfl (Yd.qt (Yd.load1 Try.isAgg51 rfl (by first | exact Rd.own (k := 0) rfl rfl | exact (Rd.imm hbD rfl) | exact ((hS.at ((j + 1) % by_.length) hlt).rd 0 rfl)))) rfl ?_
    refine WQ.q rfl (Yd.qt (Yd.load1 Try.isAgg3 rfl (by first | exact Rd.own (k := 0) rfl rfl | exact (Rd.imm hbD rfl) | exact ((hS.at ((j + 1) % by_.length) hlt).rd 0 rfl)))) rfl ?_
    refine WQ.q rfl (Yd.qt (Yd.load1 Try.isAgg51 rfl (by first | exact Rd.own (k := 0) rfl rfl | exact (Rd.imm hbD rfl) | exact ((hS.at ((j + 1) % by_.length) hlt).rd 0 rfl)))) rfl ?_
    refine WQ.q rfl (Yd.qt (Yd.lenS rfl Try.underlying51 rfl)) rfl ?_
    refine WQ.q rfl (Yd.qt (Yd.rem rfl rfl (by (try dsimp only); omega) (by (try dsimp only); omega))) rfl ?_
    refine WQ.q rfl (Yd.qt (Yd.indexS Try.underlying51 Try.sizeOf95 rfl rfl (by rw [hie]; omega) (by rw [hie]; omega) (hS.addr ((j + 1) % by_.length) hlt))) rfl ?_
    refine WQ.q rfl (Yd.qt (Yd.load1 Try.isAgg95 rfl (by first | exact Rd.own (k := 0) rfl rfl | exact (Rd.imm hbD rfl) | exact ((hS.at ((j + 1) % by_.length) hlt).rd 0 rfl)))) rfl ?_
    refine WQ.q rfl (Yd.qt (Yd.conv Try.underlying95 Try.underlying3 rfl (wr64 ⟨by omega, by omega⟩))) rfl ?_
    refine WQ.q rfl (Yd.qt (Yd.load1 Try.isAgg3 rfl (by first | exact Rd.own (k := 0) rfl rfl | exact (Rd.imm hbD rfl) | exact ((hS.at ((j + 1) % by_.length) hlt).rd 0 rfl)))) rfl ?_
    refine WQ.q rfl (Yd.qt (Yd.mul rfl rfl (wr64 ⟨by (try dsimp only); omega, by (try dsimp only); omega⟩))) rfl ?_
    refine WQ.q rfl (Yd.qt (Yd.add rfl rfl (wr64 ⟨by (try dsimp only); omega, by (try dsimp only); omega⟩))) rfl ?_
    refine WQ.q rfl (Yd.qt (Yd.move rfl)) rfl ?_
    refine WQ.tail ?_
    refine WL.yd (Yd.rem rfl rfl (by (try dsimp only); omega) (by (try dsimp only); omega)) rfl ?_
    refine WL.yd (Yd.assign rfl) rfl ?_
    refine WL.nil ?_
    refine WP.thenC ?_
    refine WC.ret ?_
    refine WP.ret1 rfl rfl Try.results57 (RV.tmp rfl) (fun w1 hI => ⟨_, _, _, rfl, DExt.refl _ _, hI, fun _ h => h, by rw [drawV, if_neg hl0], rfl, rfl⟩)

end Go.Proofs.Ytpnbkdlejfmbeaa
namespace Go.Proofs.Ytpnbkdlejfmbeaa
open Go.W Go.Ti

set_option maxRecDepth 100000 in
set_option maxHeartbeats 1000000 in
theorem arnd_g (v : Int) (hv : 0 ≤ v ∧ v ≤ 400) (by_ : List Int) (bc bb bf : Nat) (D : Imm) (w : World) (hB : ByR D by_ bb) (hf : D bf = some (.cells (List.toArray [fvV bc bb]) 52 (0, 0))) (j : Nat) (hj : j ≤ 1000) (hI0 : Inv D [(bc, cntO j)] [bc] w w) : AltersN Try.prog 58 [it v, pt bf] w D [bc] (fun r D' hpc' => ∃ s, r = spV s ∧ arnd v s ∧ D = D' ∧ hpc' = [(bc, cntO (j + 2))]) := by
  unfold AltersN
  have hd1 := drawV_num by_ (j + 1) (n := 2) (by omega)
  have hd2 := drawV_num by_ (j + 1 + 1) (n := 3 - (v - max 0 (v - drawV by_ (j + 1) 2))) (by omega)
  refine enter Try.func58 rfl 20 Try.ntmps58 (Nat.le_of_ble_eq_true rfl) hI0 ?_
  refine WC.seq ?_
  refine WC.ofFr [(0, _), (1, _)] ⟨rfl, rfl, trivial⟩ ?_
  refine WC.region ?_
  refine WL.so (SO.alloc Try.zeroValue30 rfl) rfl ?_
  rintro _ _ _ ⟨b3, hb3, rfl, rfl, rfl⟩ -- NEW
  refine WL.nil ?_
  refine WP.thenC ?_
  refine WC.seq ?_
  refine WC.hpPerm [(bc, cntO j), (b3, .cells (List.toArray [it 0, it 0]) 30 (0, 0))] (List.Perm.swap _ _ _) ?_
  refine WC.ofFr [(3, _), (0, _), (1, _)] ⟨rfl, rfl, rfl, trivial⟩ ?_
  refine WC.region ?_
  refine WL.yd (Yd.move rfl) rfl ?_
  refine WL.yd (Yd.load1 Try.isAgg52 rfl (by first | exact Rd.own (k := 0) rfl rfl | exact Rd.own (k := 1) rfl rfl | exact (Rd.imm hf rfl))) rfl ?_
  refine WL.so (SO.altersF (own := _) (hpc := [(bc, cntO j)]) (S1 := [bc]) rfl (fun _ h => h) (fun _ h => h) (Enters.val Try.call57 rfl rfl) (fun w1 hI => draw_g by_ bc bb _ w1 hB 2 (by omega) j (by omega) hI)) rfl ?_
  rintro _ _ _ ⟨_, _, ⟨rfl, rfl, rfl⟩, rfl⟩
  refine WL.yd (Yd.sub rfl rfl (wr64 ⟨by omega, by omega⟩)) rfl ?_
  refine WL.yd (Yd.max2 rfl rfl) rfl ?_
  refine WL.yd (Yd.assign rfl) rfl ?_
  refine WL.nil ?_
  refine WP.thenC ?_
  refine WC.seq ?_
  refine WC.ofFr [(4, _), (3, _), (0, _), (1, _)] ⟨rfl, rfl, rfl, rfl, trivial⟩ ?_
  refine WC.region ?_
  refine WL.yd (Yd.move rfl) rfl ?_
  refine WL.yd (Yd.move rfl) rfl ?_
  refine WL.yd (Yd.load1 Try.isAgg52 rfl (by first | exact Rd.own (k := 0) rfl rfl | exact Rd.own (k := 1) rfl rfl | exact (Rd.imm hf rfl))) rfl ?_
  refine WL.yd (Yd.move rfl) rfl ?_
  refine WL.yd (Yd.move rfl) rfl ?_
  refine WL.yd (Yd.sub rfl rfl (wr64 ⟨by omega, by omega⟩)) rfl ?_
  refine WL.yd (Yd.sub rfl rfl (wr64 ⟨by omega, by omega⟩)) rfl ?_
  refine WL.so (SO.altersF (own := _) (hpc := [(bc, cntO (j + 1))]) (S1 := [bc]) rfl (fun _ h => h) (fun _ h => h) (Enters.val Try.call57 rfl rfl) (fun w1 hI => draw_g by_ bc bb _ w1 hB _ (by omega) (j + 1) (by omega) hI)) rfl ?_
  rintro _ _ _ ⟨_, _, ⟨rfl, rfl, rfl⟩, rfl⟩
  refine WL.yd (Yd.add rfl rfl (wr64 ⟨by omega, by omega⟩)) rfl ?_
  refine WL.so (SO.callP Try.call21 rfl (fun w hI => lspan_g _ _ _)) rfl ?_
  rintro _ _ _ ⟨rfl, rfl, rfl⟩
  refine WL.so (SO.store 1 rfl Try.sizeOf30 rfl rfl rfl rfl (Nat.le_of_ble_eq_true rfl) (oneB_spec rfl)) rfl ?_
  rintro _ _ _ ⟨rfl, rfl, rfl⟩
  refine WL.nil ?_
  refine WP.thenC ?_
  refine WC.ret ?_
  refine WP.ret1 rfl rfl Try.results58 (RV.cellN Try.isAgg30 Try.sizeOf30 rfl (vs := [_, _]) rfl (by first | exact RdN.own (k := 0) (n := 2) rfl rfl | exact RdN.own (k := 1) (n := 2) rfl rfl)) (fun w1 hI => ⟨_, D, [(bc, cntO (j + 2))], rfl, DExt.refl _ _, (Inv.turn (a := [_]) (b := [_]) hI).tail, ⟨max 0 (v - drawV by_ (j + 1) 2), v + drawV by_ (j + 1 + 1) (3 - (v - max 0 (v - drawV by_ (j + 1) 2)))⟩, rfl, by unfold arnd; dsimp only; omega, rfl, rfl⟩)

end Go.Proofs.Ytpnbkdlejfmbeaa
