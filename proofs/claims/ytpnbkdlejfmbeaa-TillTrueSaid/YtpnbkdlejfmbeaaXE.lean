import Derived.Test.YtpnbkdlejfmbeaaXD
import Derived.Test.YtpnbkdlejfmbeaaXV
set_option linter.unusedSimpArgs false
set_option linter.unusedVariables false
set_option linter.all false
namespace Go.Proofs.Ytpnbkdlejfmbeaa
open Go.W Go.Ti
theorem SA112 : StructAt Try.prog 112 [.int .i64 0, .int .i64 0] [(0, 1), (1, 1)] := ⟨⟨_, Try.zeroValue112, rfl⟩, _, Try.underlying112, fun w => by simp [Try.sizeOf3]⟩
theorem open_ok (T : Tks) (a1 : Option Addr) (n1 c1 : Nat) (D : Imm) (w : World) (hR : TksR D T a1 n1) (hH : Holds D w) (hv : tksB T = true) : Makes Try.prog 64 [.agg #[it T.huts, .slice a1 n1 c1], .bool true] w D (fun v D' => ∃ q, v = pt q ∧ OffAt D' q T (.slice a1 n1 c1)) :=
  (open_g T a1 n1 c1 D w hR hH true).mono fun e w' h => by
    obtain ⟨q, D', h1, h2, h3, h4, h5⟩ := h.2.2 hv rfl
    exact ⟨_, D', h1, h2, h3, h4, q, rfl, h5⟩
theorem open_1 (T : Tks) (a1 : Option Addr) (n1 c1 : Nat) (D : Imm) (w : World) (hR : TksR D T a1 n1) (hH : Holds D w) (is : Bool) (hv : tksB T = false) : Fails Try.prog 64 [.agg #[it T.huts, .slice a1 n1 c1], .bool is] w (stopK 1) := (open_g T a1 n1 c1 D w hR hH is).mono fun e w' h => h.1 hv
theorem open_2 (T : Tks) (a1 : Option Addr) (n1 c1 : Nat) (D : Imm) (w : World) (hR : TksR D T a1 n1) (hH : Holds D w) (hv : tksB T = true) : Fails Try.prog 64 [.agg #[it T.huts, .slice a1 n1 c1], .bool false] w (stopK 2) := (open_g T a1 n1 c1 D w hR hH false).mono fun e w' h => h.2.1 hv rfl
def prV (p : Pr) : Value := .agg #[it p.1, it p.2]
theorem flat_at {α β : Type} [Inhabited α] [Inhabited β] (l : List α) (f : α → List β) {i j : Nat} (hi : i < l.length) (hj : j < (f (gt l i)).length) : ((l.take i).flatMap f).length + j < (l.flatMap f).length ∧ gt (l.flatMap f) (((l.take i).flatMap f).length + j) = gt (f (gt l i)) j := by
  have hg : gt l i = l[i] := by simp [gt, List.getD, hi]
  have hsp : l = l.take i ++ l[i] :: l.drop (i + 1) := by rw [List.getElem_cons_drop]; exact (List.take_append_drop i l).symm
  have hfl : l.flatMap f = (l.take i).flatMap f ++ (f l[i] ++ (l.drop (i + 1)).flatMap f) := by
    conv => lhs; rw [hsp]
    rw [List.flatMap_append, List.flatMap_cons]
  rw [hg] at hj ⊢
  rw [hfl]
  refine ⟨by simp only [List.length_append]; omega, ?_⟩
  simp only [gt, List.getD]
  rw [List.getElem?_append_right (by omega), List.getElem?_append_left (by omega)]
  congr 2; omega
theorem gt_rng {lo hi : Int} {i : Nat} (h : i < (hi - lo + 1).toNat) : gt (rng lo hi) i = lo + (i : Int) := by
  simp [gt, rng, List.getD, h]
theorem rng_len (lo hi : Int) : (rng lo hi).length = (hi - lo + 1).toNat := by simp [rng]
def numP (x : Tick) : Nat := (x.bought.hi - x.bought.lo + 1).toNat
def mP (x : Tick) (i : Nat) : Nat := (x.door.hi - max (x.bought.lo + (i : Int)) x.door.lo + 1).toNat
def cntP (x : Tick) (i : Nat) : Nat := (((rng x.bought.lo x.bought.hi).take i).flatMap (doorsFrom x)).length
theorem doors_len (x : Tick) (a : Int) : (doorsFrom x a).length = (x.door.hi - max a x.door.lo + 1).toNat := by simp [doorsFrom, rng_len]
theorem doors_at (x : Tick) (a : Int) {j : Nat} (h : j < (x.door.hi - max a x.door.lo + 1).toNat) : gt (doorsFrom x a) j = (a, max a x.door.lo + (j : Int)) := by
  simp [gt, doorsFrom, rng, List.getD, h]
theorem pairs_at {x : Tick} {i j : Nat} (hi : i < numP x) (hj : j < mP x i) : cntP x i + j < (pairsL x).length ∧ gt (pairsL x) (cntP x i + j) = (x.bought.lo + (i : Int), max (x.bought.lo + (i : Int)) x.door.lo + (j : Int)) := by
  have hr := gt_rng (lo := x.bought.lo) (hi := x.bought.hi) hi
  obtain ⟨h1, h2⟩ := flat_at (rng x.bought.lo x.bought.hi) (doorsFrom x) (i := i) (j := j) (by rw [rng_len]; exact hi) (by rw [hr, doors_len]; exact hj)
  refine ⟨h1, h2.trans ?_⟩
  rw [hr, doors_at _ _ hj]
theorem cnt_zero (x : Tick) : cntP x 0 = 0 := rfl
theorem cnt_succ {x : Tick} {i : Nat} (hi : i < numP x) : cntP x (i + 1) = cntP x i + mP x i := by
  have hl : i < (rng x.bought.lo x.bought.hi).length := by rw [rng_len]; exact hi
  have hr := gt_rng (lo := x.bought.lo) (hi := x.bought.hi) hi
  have hg : gt (rng x.bought.lo x.bought.hi) i = (rng x.bought.lo x.bought.hi)[i] := by simp [gt, List.getD, hl]
  unfold cntP
  rw [List.take_succ_eq_append_getElem hl, List.flatMap_append, List.length_append, ← hg, hr]
  simp only [List.flatMap_cons, List.flatMap_nil, List.append_nil, doors_len]
  rfl
theorem cnt_all (x : Tick) : cntP x (numP x) = (pairsL x).length := by
  unfold cntP pairsL
  rw [List.take_of_length_le (by rw [rng_len]; exact Nat.le_refl _)]

set_option maxRecDepth 100000 in
set_option maxHeartbeats 1000000 in
theorem pairs1_iter (x : Tick) (b5 : Nat) (D : Imm) (w : World) (hx : 0 ≤ x.bought.lo ∧ x.bought.lo ≤ x.bought.hi ∧ x.bought.hi ≤ 240 ∧ 0 ≤ x.door.lo ∧ x.door.lo ≤ x.door.hi ∧ x.door.hi ≤ 240) (h5 : D b5 = some (.cells (List.toArray (tickC x)) 78 (0, 0))) : IterN Try.prog 98 [pt b5] (pairsL x).length (fun k => prV (gt (pairsL x) k)) D w := by
  unfold IterN
  intro l St Sp hSm hround h0 hS0 hI0
  unfold AltersN
  obtain ⟨hx1, hx2, hx3, hx4, hx5, hx6⟩ := hx
  refine enter Try.func98 rfl 33 Try.ntmps98 (Nat.le_of_ble_eq_true rfl) hI0 ?_
  refine WC.seq ?_
  refine WC.ofFr [(0, _), (1, _)] ⟨rfl, rfl, trivial⟩ ?_
  refine WC.region ?_
  refine WL.yd (Yd.fieldAddr FA78_0 rfl) rfl ?_
  refine WL.yd (Yd.fieldAddr FA30_0 rfl) rfl ?_
  refine WL.yd (Yd.load1 Try.isAgg3 rfl (by first | exact Rd.own (k := 0) rfl rfl | exact (Rd.imm (hX1.old _ _ h5) rfl) | exact (Rd.imm (hX2.old _ _ h5) rfl) | exact (Rd.imm h5 rfl))) rfl ?_
  refine WL.yd (Yd.assign rfl) rfl ?_
  refine WL.nil ?_
  refine WP.thenC ?_
  refine WC.block ?_
  refine WC.loop (fun y : Nat × Imm × Hp => [(0, .func (.yield l) #[] #[]), (1, pt b5), (3, it (x.bought.lo + ((y.1 : Nat) : Int)))]) (fun y => y.2.2) (fun y => y.2.1) (fun y => y.1 ≤ numP x ∧ DExt w D y.2.1 ∧ St (cntP x y.1) y.2.1 y.2.2) (fun y => numP x - y.1) ⟨0, D, h0⟩ ⟨by omega, DExt.refl _ _, hS0⟩ (fun a w h => at_fr h ⟨rfl, rfl, by show some (it _) = some (it _); congr 2; push_cast; omega, trivial⟩) ?_
  rintro ⟨i, D1, h1⟩ ⟨hi, hX1, hS1⟩
  dsimp only at hi hX1 hS1
  refine WC.seq ?_
  refine WC.seq ?_
  refine WC.ofFr [(0, _), (1, _), (3, _)] ⟨rfl, rfl, rfl, trivial⟩ ?_
  refine WC.region ?_
  refine WL.yd (Yd.move rfl) rfl ?_
  refine WL.yd (Yd.fieldAddr FA78_0 rfl) rfl ?_
  refine WL.yd (Yd.fieldAddr FA30_1 rfl) rfl ?_
  refine WL.yd (Yd.load1 Try.isAgg3 rfl (by first | exact Rd.own (k := 0) rfl rfl | exact (Rd.imm (hX1.old _ _ h5) rfl) | exact (Rd.imm (hX2.old _ _ h5) rfl) | exact (Rd.imm h5 rfl))) rfl ?_
  refine WL.yd (Yd.leq rfl rfl) rfl ?_
  refine WL.nil ?_
  refine WP.thenC ?_
  refine WC.cond rfl (fun c12 => ?_) (fun c12 => ?_)
  · try simp only [zq1, zq2, zq3, zq4, zq5, zq6, zq7, zq8] at c12
    have hiN : i < numP x := by unfold numP; omega
    refine WC.skip ?_
    refine WP.thenC ?_
    refine WC.seq ?_
    refine WC.block ?_
    refine WC.seq ?_
    refine WC.ofFr [(0, _), (1, _), (3, _)] ⟨rfl, rfl, rfl, trivial⟩ ?_
    refine WC.region ?_
    refine WL.yd (Yd.move rfl) rfl ?_
    refine WL.yd (Yd.fieldAddr FA78_2 rfl) rfl ?_
    refine WL.yd (Yd.fieldAddr FA30_0 rfl) rfl ?_
    refine WL.yd (Yd.load1 Try.isAgg3 rfl (by first | exact Rd.own (k := 0) rfl rfl | exact (Rd.imm (hX1.old _ _ h5) rfl) | exact (Rd.imm (hX2.old _ _ h5) rfl) | exact (Rd.imm h5 rfl))) rfl ?_
    refine WL.yd (Yd.max2 rfl rfl) rfl ?_
    refine WL.yd (Yd.assign rfl) rfl ?_
    refine WL.nil ?_
    refine WP.thenC ?_
    refine WC.block ?_
    refine WC.loop (fun y : Nat × Imm × Hp => [(0, .func (.yield l) #[] #[]), (1, pt b5), (3, it (x.bought.lo + (i : Int))), (4, it (max (x.bought.lo + (i : Int)) x.door.lo + ((y.1 : Nat) : Int)))]) (fun y => y.2.2) (fun y => y.2.1) (fun y => y.1 ≤ mP x i ∧ DExt w D y.2.1 ∧ St (cntP x i + y.1) y.2.1 y.2.2) (fun y => mP x i - y.1) ⟨0, D1, h1⟩ ⟨by omega, hX1, hS1⟩ (fun a w h => at_fr h ⟨rfl, rfl, rfl, by show some (it _) = some (it _); congr 2; push_cast; omega, trivial⟩) ?_
    rintro ⟨j, D2, h2⟩ ⟨hj, hX2, hS2⟩
    dsimp only at hj hX2 hS2
    refine WC.seq ?_
    refine WC.seq ?_
    refine WC.ofFr [(0, _), (1, _), (3, _), (4, _)] ⟨rfl, rfl, rfl, rfl, trivial⟩ ?_
    refine WC.region ?_
    refine WL.yd (Yd.move rfl) rfl ?_
    refine WL.yd (Yd.fieldAddr FA78_2 rfl) rfl ?_
    refine WL.yd (Yd.fieldAddr FA30_1 rfl) rfl ?_
    refine WL.yd (Yd.load1 Try.isAgg3 rfl (by first | exact Rd.own (k := 0) rfl rfl | exact (Rd.imm (hX1.old _ _ h5) rfl) | exact (Rd.imm (hX2.old _ _ h5) rfl) | exact (Rd.imm h5 rfl))) rfl ?_
    refine WL.yd (Yd.leq rfl rfl) rfl ?_
    refine WL.nil ?_
    refine WP.thenC ?_
    refine WC.cond rfl (fun c24 => ?_) (fun c24 => ?_)
    · try simp only [zq1, zq2, zq3, zq4, zq5, zq6, zq7, zq8] at c24
      have hjM : j < mP x i := by unfold mP; omega
      refine WC.skip ?_
      refine WP.thenC ?_
      refine WC.seq ?_
      refine WC.block ?_
      refine WC.seq ?_
      refine WC.ofFr [(0, _), (1, _), (3, _), (4, _)] ⟨rfl, rfl, rfl, rfl, trivial⟩ ?_
      refine WC.ofF ?_
      refine WCF.region ?_
      refine WLF.yd (by intro _ h; cases h) (Yd.move rfl) rfl ?_
      refine WLF.yd (by intro _ h; cases h) (Yd.move rfl) rfl ?_
      refine WLF.yd (by intro _ h; cases h) (Yd.move rfl) rfl ?_
      refine WLF.yd (by intro _ h; cases h) (Yd.build SA112 rfl (cs := [_, _]) rfl) rfl ?_
      refine WLF.yieldN (l := l) (vals := [prV (x.bought.lo + (i : Int), max (x.bought.lo + (i : Int)) x.door.lo + (j : Int))]) [] h2 (fun _ h => h) (fun h => h) rfl rfl rfl (fun w' hsz hI => by rw [← (pairs_at hiN hjM).2]; exact hround (cntP x i + j) D2 h2 w' (pairs_at hiN hjM).1 hsz hX2 hS2 hI) ?_
      rintro b31 D5 hp5 hK5 hX5
      refine WLF.yd (by intro _ h; cases h) (Yd.not rfl) rfl ?_
      refine WLF.nil ?_
      refine WP.thenC ?_
      refine WC.cond rfl (fun c32 => ?_) (fun c32 => ?_)
      · try simp only [zq1, zq2, zq3, zq4, zq5, zq6, zq7, zq8] at c32
        refine WC.ret ?_
        refine WP.blkRet ?_
        refine WP.thenRet ?_
        refine WP.thenRet ?_
        refine WP.blkRet ?_
        refine WP.blkRet ?_
        refine WP.thenRet ?_
        refine WP.thenRet ?_
        refine WP.blkRet ?_
        refine WP.ret0 rfl rfl Try.results98  (fun w1 hI => by
          obtain ⟨htt, _⟩ | ⟨_, hK5⟩ := hK5
          · simp_all
          · exact ⟨_, D5, hp5, rfl, hX2.trans hX5 (Nat.le_refl _), hI, .inr hK5⟩)
      · try simp only [zq1, zq2, zq3, zq4, zq5, zq6, zq7, zq8] at c32
        refine WC.skip ?_
        refine WP.blkNormal ?_
        refine WP.thenC ?_
        refine WC.ofFr [(0, _), (1, _), (3, _), (4, _)] ⟨rfl, rfl, rfl, rfl, trivial⟩ ?_
        refine WC.region ?_
        refine WL.yd (Yd.move rfl) rfl ?_
        refine WL.yd (Yd.add rfl rfl (wr64 ⟨by omega, by omega⟩)) rfl ?_
        refine WL.yd (Yd.assign rfl) rfl ?_
        refine WL.nil ?_
        obtain ⟨_, hK5⟩ | ⟨hff, _⟩ := hK5
        · refine WP.again (⟨j + 1, D5, hp5⟩ : Nat × Imm × Hp) ⟨by simp only; omega, hX2.trans hX5 (Nat.le_refl _), hK5⟩ (by simp only; omega) (fun a w h => at_fr h ⟨rfl, rfl, rfl, by show some (it _) = some (it _); congr 2; push_cast; omega, trivial⟩)
        · simp_all
    · try simp only [zq1, zq2, zq3, zq4, zq5, zq6, zq7, zq8] at c24
      obtain rfl : j = mP x i := by unfold mP at hj ⊢; omega
      refine WC.exit ?_
      refine WP.thenExit ?_
      refine WP.thenExit ?_
      refine WP.blkHit ?_
      refine WP.blkNormal ?_
      refine WP.thenC ?_
      refine WC.ofFr [(0, _), (1, _), (3, _)] ⟨rfl, rfl, rfl, trivial⟩ ?_
      refine WC.region ?_
      refine WL.yd (Yd.move rfl) rfl ?_
      refine WL.yd (Yd.add rfl rfl (wr64 ⟨by omega, by omega⟩)) rfl ?_
      refine WL.yd (Yd.assign rfl) rfl ?_
      refine WL.nil ?_
      exact WP.again (⟨i + 1, D2, h2⟩ : Nat × Imm × Hp) ⟨by simp only; omega, hX2, by simp only; rw [cnt_succ hiN]; exact hS2⟩ (by simp only; omega) (fun a w h => at_fr h ⟨rfl, rfl, by show some (it _) = some (it _); congr 2; push_cast; omega, trivial⟩)
  · try simp only [zq1, zq2, zq3, zq4, zq5, zq6, zq7, zq8] at c12
    obtain rfl : i = numP x := by unfold numP at hi ⊢; omega
    refine WC.exit ?_
    refine WP.thenExit ?_
    refine WP.thenExit ?_
    refine WP.blkHit ?_
    refine WP.ret0 rfl rfl Try.results98  (fun w1 hI => ⟨_, D1, h1, rfl, hX1, hI, .inl (by rw [← cnt_all]; exact hS1)⟩)

end Go.Proofs.Ytpnbkdlejfmbeaa
namespace Go.Proofs.Ytpnbkdlejfmbeaa
open Go.W Go.Ti
theorem FA146_0 : FieldAt Try.prog 146 0 0 := FieldAt.mk (t := 35) (off := 0) Try.underlying146 rfl Try.sizeOf35 (by decide)
def truC (t : Tru) : List Value := [it (t 0).1, it (t 0).2, it (t 1).1, it (t 1).2, it (t 2).1, it (t 2).2, it (t 3).1, it (t 3).2, it (t 4).1, it (t 4).2]
def truV (t : Tru) : Value := .agg (truC t).toArray
theorem spl_tru (t : Tru) {i : Nat} (hi : i < 5) (p : Pr) : splice (truC t) (0 + i * 2) [it p.1, it p.2] = truC (upd t i p) := by
  rcases (show i = 0 ∨ i = 1 ∨ i = 2 ∨ i = 3 ∨ i = 4 by omega) with rfl | rfl | rfl | rfl | rfl <;> rfl
theorem tru_len (t : Tru) : (truC t).length = 10 := rfl
theorem tru_rd (t : Tru) {i : Nat} (hi : i < 5) : (truC t)[0 + i * 2]? = some (it (t i).1) ∧ (truC t)[0 + i * 2 + 1]? = some (it (t i).2) := by
  rcases (show i = 0 ∨ i = 1 ∨ i = 2 ∨ i = 3 ∨ i = 4 by omega) with rfl | rfl | rfl | rfl | rfl <;> exact ⟨rfl, rfl⟩

set_option maxRecDepth 100000 in
set_option maxHeartbeats 1000000 in
theorem with_g (t : Tru) (i : Nat) (p : Pr) (hi : i < 5) (w : World) : Gives Try.prog 95 [truV t, nt i, prV p] w (truV (upd t i p)) := by
  unfold Gives
  refine enter Try.func95 rfl 11 Try.ntmps95 (Nat.le_of_ble_eq_true rfl) (Inv.start (D := fun _ => none) (by intro _ _ h; cases h)) ?_
  refine WC.seq ?_
  refine WC.ofFr [(0, _), (1, _), (2, _)] ⟨rfl, rfl, rfl, trivial⟩ ?_
  refine WC.region ?_
  refine WL.so (SO.box rfl rfl) rfl ?_
  rintro _ _ _ ⟨b3, hb3, rfl, rfl, rfl⟩ -- NEW
  refine WL.so (SO.box rfl rfl) rfl ?_
  rintro _ _ _ ⟨b5, hb5, rfl, rfl, rfl⟩ -- NEW
  refine WL.so (SO.alloc Try.zeroValue114 rfl) rfl ?_
  rintro _ _ _ ⟨b6, hb6, rfl, rfl, rfl⟩ -- NEW
  refine WL.nil ?_
  refine WP.thenC ?_
  refine WC.seq ?_
  refine WC.ofFr [(6, _), (5, _), (3, _), (1, _)] ⟨rfl, rfl, rfl, rfl, trivial⟩ ?_
  refine WC.region ?_
  refine WL.yd (Yd.move rfl) rfl ?_
  refine WL.yd (Yd.loadN Try.isAgg112 Try.sizeOf112 rfl (vs := [_, _]) rfl (by first | exact RdN.own (k := 0) (n := 2) rfl rfl | exact RdN.own (k := 1) (n := 2) rfl rfl | exact RdN.own (k := 2) (n := 2) rfl rfl)) rfl ?_
  refine WL.yd (Yd.indexA Try.underlying114 Try.sizeOf112 rfl rfl (by omega) (by omega)) rfl ?_
  refine WL.so (SO.store 2 rfl Try.sizeOf112 rfl rfl rfl rfl (by show 0 + i * 2 + 2 ≤ 10; omega) (oneB_spec rfl)) rfl ?_
  rintro _ _ _ ⟨rfl, rfl, rfl⟩
  refine WL.nil ?_
  refine WP.thenC ?_
  refine WC.seq ?_
  refine WC.ofFr [(6, _), (3, _)] ⟨rfl, rfl, trivial⟩ ?_
  refine WC.region ?_
  rw [show splice (truC t) (0 + (i : Int).toNat * 2) [it p.1, it p.2] = truC (upd t i p) from spl_tru t hi p]
  refine WL.yd (Yd.loadN Try.isAgg114 Try.sizeOf114 rfl (vs := [_, _, _, _, _, _, _, _, _, _]) rfl (by first | exact RdN.own (k := 0) (n := 10) rfl rfl | exact RdN.own (k := 1) (n := 10) rfl rfl | exact RdN.own (k := 2) (n := 10) rfl rfl)) rfl ?_
  refine WL.so (SO.store 0 rfl Try.sizeOf114 rfl rfl rfl rfl (Nat.le_of_ble_eq_true rfl) (oneB_spec rfl)) rfl ?_
  rintro _ _ _ ⟨rfl, rfl, rfl⟩
  refine WL.nil ?_
  refine WP.thenC ?_
  refine WC.ret ?_
  refine WP.ret1 rfl rfl Try.results95 (RV.cellN Try.isAgg114 Try.sizeOf114 rfl (vs := [_, _, _, _, _, _, _, _, _, _]) rfl (by first | exact RdN.own (k := 0) (n := 10) rfl rfl | exact RdN.own (k := 1) (n := 10) rfl rfl | exact RdN.own (k := 2) (n := 10) rfl rfl)) (fun w hI => ⟨rfl, hI.keep⟩)

set_option maxRecDepth 100000 in
set_option maxHeartbeats 1000000 in
theorem pairs_g (T : Tks) (a1 : Option Addr) (n1 c1 : Nat) (q : Nat) (D : Imm) (w : World) (hO : OffAt D q T (.slice a1 n1 c1)) (hR : TksR D T a1 n1) (hH : Holds D w) (i : Nat) (hi : i < T.l.length) : Makes Try.prog 96 [pt q, nt i] w D (fun v D' => ∃ b, v = .func (.func 98) #[] #[pt b] ∧ D' b = some (.cells (List.toArray (tickC (gt T.l i))) 78 (0, 0))) := by
  unfold Makes
  obtain rfl := hR.tick.len'
  have hl1 := hR.len
  obtain ⟨a3, c3, hq, hS3, hc3⟩ := hO
  refine enter Try.func96 rfl 15 Try.ntmps96 (Nat.le_of_ble_eq_true rfl) (Inv.start hH) ?_
  refine WC.seq ?_
  refine WC.ofFr [(0, _), (1, _)] ⟨rfl, rfl, trivial⟩ ?_
  refine WC.region ?_
  refine WL.yd (Yd.assign rfl) rfl ?_
  refine WL.nil ?_
  refine WP.thenC ?_
  refine WC.seq ?_
  refine WC.ofFr [(4, _), (0, _), (1, _)] ⟨rfl, rfl, rfl, trivial⟩ ?_
  refine WC.region ?_
  refine WL.yd (Yd.move rfl) rfl ?_
  refine WL.yd (Yd.nilCheck rfl) rfl ?_
  refine WL.yd (Yd.fieldAddr FA146_0 rfl) rfl ?_
  refine WL.yd (Yd.fieldAddr FA35_1 rfl) rfl ?_
  refine WL.yd (Yd.load1 Try.isAgg33 rfl (by first | exact (Rd.imm hq rfl))) rfl ?_
  refine WL.yd (Yd.move rfl) rfl ?_
  refine WL.yd (Yd.indexS Try.underlying33 Try.sizeOf78 rfl rfl (by omega) (by omega) (by first | exact hR.tick.addr i (by omega))) rfl ?_
  refine WL.yd (Yd.loadN Try.isAgg78 Try.sizeOf78 rfl (vs := [_, _, _, _, _]) rfl (by first | exact (hR.tick.at i (by omega)).rdn 0 5 rfl)) rfl ?_
  refine WL.so (SO.alloc Try.zeroValue78 rfl) rfl ?_
  rintro _ _ _ ⟨b5, hb5, rfl, rfl, rfl⟩ -- NEW
  refine WL.so (SO.store 0 rfl Try.sizeOf78 rfl rfl rfl rfl (Nat.le_of_ble_eq_true rfl) (oneB_spec rfl)) rfl ?_
  rintro _ _ _ ⟨rfl, rfl, rfl⟩
  refine WL.nil ?_
  refine WP.thenC ?_
  refine WC.seq ?_
  refine WC.ofFr [(5, _), (4, _)] ⟨rfl, rfl, trivial⟩ ?_
  refine WC.region ?_
  refine WL.yd (Yd.func rfl rfl) rfl ?_
  refine WL.yd (Yd.assign rfl) rfl ?_
  refine WL.nil ?_
  refine WP.thenC ?_
  refine WC.ret ?_
  refine WP.ret1 rfl rfl Try.results96 (RV.tmp rfl) (fun w1 hI => ⟨_, _, rfl, hI.keep, hI.freeze.imm, (DExt.refl w D).add (hI.apart _ _ (List.mem_of_getElem? (i := 0) rfl)) hb5, b5, rfl, Imm.add_self _ _ _⟩)

set_option maxRecDepth 100000 in
set_option maxHeartbeats 1000000 in
theorem truths_g (q : Nat) (D : Imm) (w : World) (hH : Holds D w) : Makes Try.prog 87 [pt q] w D (fun v D' => ∃ b, v = .func (.func 93) #[] #[pt b] ∧ D' b = some (.cells (List.toArray [pt q]) 107 (0, 0))) := by
  unfold Makes
  refine enter Try.func87 rfl 4 Try.ntmps87 (Nat.le_of_ble_eq_true rfl) (Inv.start hH) ?_
  refine WC.seq ?_
  refine WC.ofFr [(0, _)] ⟨rfl, trivial⟩ ?_
  refine WC.region ?_
  refine WL.so (SO.box rfl rfl) rfl ?_
  rintro _ _ _ ⟨b1, hb1, rfl, rfl, rfl⟩ -- NEW
  refine WL.yd (Yd.assign rfl) rfl ?_
  refine WL.nil ?_
  refine WP.thenC ?_
  refine WC.seq ?_
  refine WC.ofFr [(2, _), (1, _)] ⟨rfl, rfl, trivial⟩ ?_
  refine WC.region ?_
  refine WL.yd (Yd.func rfl rfl) rfl ?_
  refine WL.yd (Yd.assign rfl) rfl ?_
  refine WL.nil ?_
  refine WP.thenC ?_
  refine WC.ret ?_
  refine WP.ret1 rfl rfl Try.results87 (RV.tmp rfl) (fun w1 hI => ⟨_, _, rfl, hI.keep, hI.freeze.imm, (DExt.refl w D).add (hI.apart _ _ (List.mem_of_getElem? (i := 0) rfl)) hb1, b1, rfl, Imm.add_self _ _ _⟩)

end Go.Proofs.Ytpnbkdlejfmbeaa
namespace Go.Proofs.Ytpnbkdlejfmbeaa
open Go.W Go.Ti
theorem FA112_1 : FieldAt Try.prog 112 1 1 := FieldAt.mk (t := 3) (off := 1) Try.underlying112 rfl Try.sizeOf3 (by decide)
def PartOf {α : Type} (A L : List α) (k : Nat) : Prop := ∃ pre post, A = pre ++ (L ++ post) ∧ pre.length = k
theorem PartOf.at {α : Type} [Inhabited α] {A L : List α} {k : Nat} (h : PartOf A L k) (j : Nat) (hj : j < L.length) : gt A (k + j) = gt L j ∧ k + j < A.length := by
  obtain ⟨pre, post, rfl, rfl⟩ := h
  refine ⟨?_, by simp only [List.length_append]; omega⟩
  simp only [gt, List.getD]
  rw [List.getElem?_append_right (by omega), List.getElem?_append_left (by omega)]
  congr 2; omega
theorem PartOf.step {α β : Type} [Inhabited α] {A : List β} {l : List α} {f : α → List β} {k i : Nat} (h : PartOf A (l.flatMap f) k) (hi : i < l.length) : PartOf A (f (gt l i)) (k + ((l.take i).flatMap f).length) := by
  obtain ⟨pre, post, rfl, rfl⟩ := h
  have hg : gt l i = l[i] := by simp [gt, List.getD, hi]
  have hsp : l = l.take i ++ l[i] :: l.drop (i + 1) := by rw [List.getElem_cons_drop]; exact (List.take_append_drop i l).symm
  have hfl : l.flatMap f = (l.take i).flatMap f ++ (f l[i] ++ (l.drop (i + 1)).flatMap f) := by
    conv => lhs; rw [hsp]
    rw [List.flatMap_append, List.flatMap_cons]
  refine ⟨pre ++ (l.take i).flatMap f, (l.drop (i + 1)).flatMap f ++ post, ?_, by simp⟩
  rw [hfl, hg]; simp [List.append_assoc]
theorem take_flat {α β : Type} [Inhabited α] {l : List α} (f : α → List β) {i : Nat} (hi : i < l.length) : ((l.take (i + 1)).flatMap f).length = ((l.take i).flatMap f).length + (f (gt l i)).length := by
  have hg : gt l i = l[i] := by simp [gt, List.getD, hi]
  rw [List.take_succ_eq_append_getElem hi, List.flatMap_append, List.length_append, hg]
  simp
def onP (T : Tks) (ord : List Nat) (rem : Nat) (t : Tru) (at_ : Nat) (p : Pr) : List Tru := if freeO T ord t at_ (gt ord at_) p then truL T ord rem (upd t (gt ord at_) p) (at_ + 1) else []
theorem truL_succ (T : Tks) (ord : List Nat) (rem : Nat) (t : Tru) (at_ : Nat) : truL T ord (rem + 1) t at_ = (pairsL (gt T.l (gt ord at_))).flatMap (onP T ord rem t at_) := rfl
def okTr (t : Tru) : Prop := ∀ i, (0 ≤ (t i).1 ∧ (t i).1 ≤ 240) ∧ 0 ≤ (t i).2 ∧ (t i).2 ≤ 240
theorem okTr_zero : okTr zeroT := fun i => by simp [zeroT]
theorem okTr_upd {t : Tru} (h : okTr t) (i : Nat) {p : Pr} (hp : (0 ≤ p.1 ∧ p.1 ≤ 240) ∧ 0 ≤ p.2 ∧ p.2 ≤ 240) : okTr (upd t i p) := fun j => by
  unfold upd; split
  · exact hp
  · exact h j
def onN (T : Tks) (ord : List Nat) (rem : Nat) (t : Tru) (at_ k : Nat) : Nat := (((pairsL (gt T.l (gt ord at_))).take k).flatMap (onP T ord rem t at_)).length
theorem freeO_clash {T : Tks} {ord : List Nat} {t : Tru} {at_ i : Nat} {p : Pr} {j : Nat} (hj : j < at_) (h : clashB T t (gt ord j) i p = true) : freeO T ord t at_ i p = false := by
  cases hf : freeO T ord t at_ i p with
  | false => rfl
  | true =>
    have := List.all_eq_true.1 hf j (List.mem_range.2 hj)
    rw [h] at this; cases this
theorem freeO_all {T : Tks} {ord : List Nat} {t : Tru} {at_ i : Nat} {p : Pr} (h : ∀ j, j < at_ → clashB T t (gt ord j) i p = false) : freeO T ord t at_ i p = true := by
  unfold freeO
  rw [List.all_eq_true]
  intro j hj
  rw [h j (List.mem_range.1 hj)]; rfl
theorem onN_skip {T : Tks} {ord : List Nat} {rem : Nat} {t : Tru} {at_ k : Nat} (hk : k < (pairsL (gt T.l (gt ord at_))).length) (h : freeO T ord t at_ (gt ord at_) (gt (pairsL (gt T.l (gt ord at_))) k) = false) : onN T ord rem t at_ (k + 1) = onN T ord rem t at_ k := by
  unfold onN
  rw [take_flat _ hk]
  unfold onP
  rw [if_neg (by rw [h]; simp)]
  rfl
theorem onN_on {T : Tks} {ord : List Nat} {rem : Nat} {t : Tru} {at_ k : Nat} (hk : k < (pairsL (gt T.l (gt ord at_))).length) (h : freeO T ord t at_ (gt ord at_) (gt (pairsL (gt T.l (gt ord at_))) k) = true) :
    onN T ord rem t at_ (k + 1) = onN T ord rem t at_ k + (truL T ord rem (upd t (gt ord at_) (gt (pairsL (gt T.l (gt ord at_))) k)) (at_ + 1)).length := by
  unfold onN
  rw [take_flat _ hk]
  congr 1
  unfold onP
  rw [if_pos h]
theorem onN_part {T : Tks} {ord : List Nat} {rem : Nat} {t : Tru} {at_ k k0 : Nat} {A : List Tru} (hA : PartOf A (truL T ord (rem + 1) t at_) k0) (hk : k < (pairsL (gt T.l (gt ord at_))).length) (h : freeO T ord t at_ (gt ord at_) (gt (pairsL (gt T.l (gt ord at_))) k) = true) :
    PartOf A (truL T ord rem (upd t (gt ord at_) (gt (pairsL (gt T.l (gt ord at_))) k)) (at_ + 1)) (k0 + onN T ord rem t at_ k) := by
  rw [truL_succ] at hA
  have := hA.step hk
  unfold onP at this
  rw [if_pos h] at this
  exact this
theorem onN_all {T : Tks} {ord : List Nat} {rem : Nat} {t : Tru} {at_ : Nat} : onN T ord rem t at_ (pairsL (gt T.l (gt ord at_))).length = (truL T ord (rem + 1) t at_).length := by
  unfold onN
  rw [truL_succ, List.take_length]

set_option maxRecDepth 100000 in
set_option maxHeartbeats 1000000 in
theorem on_0 (T : Tks) (a1 : Option Addr) (n1 c1 : Nat) (q b1 b2 b3 ly : Nat) (St : Nat → Imm → Hp → Prop) (Sp : Imm → Hp → Prop) (w0 : World) (A : List Tru) (hv : tksB T = true)
    (hSm : ∀ k D1 D2 h, DExt w0 D1 D2 → St k D1 h → St k D2 h)
    (DD : Imm) (hround : ∀ k D' h w', k < A.length → w0.heap.size ≤ w'.heap.size → DExt w0 DD D' → St k D' h → Inv D' h (keys h) w' w' → YieldAt Fence.wide 0 Try.prog ly #[truV (gt A k)] w' (RoundN w' D' (keys h) (fun b D'' h' => (b = true ∧ St (k + 1) D'' h') ∨ (b = false ∧ Sp D'' h')))) : ∀ (t : Tru) (at_ k0 : Nat) (D : Imm) (w : World) (h0 : Hp), at_ + 0 = T.l.length → PartOf A (truL T (ordT T) 0 t at_) k0 → okTr t → w0.heap.size ≤ w.heap.size → DExt w0 DD D → OffAt D q T (.slice a1 n1 c1) → TksR D T a1 n1 → D b1 = some (.cells (List.toArray [pt q]) 107 (0, 0)) → D b2 = some (.cells (List.toArray [.func (.yield ly) #[] #[]]) 158 (0, 0)) → D b3 = some (.cells (List.toArray [.func (.func 94) #[] #[pt b1, pt b2, pt b3]]) 159 (0, 0)) → St k0 D h0 → Inv D h0 (keys h0) w w → AltersN Try.prog 94 [truV t, nt at_, pt b1, pt b2, pt b3] w D (keys h0) (fun v D' h' => ∃ b, v = .bool b ∧ ((b = true ∧ St (k0 + (truL T (ordT T) 0 t at_).length) D' h') ∨ (b = false ∧ Sp D' h'))) := by
  intro t at_ k0 D w h0 hin hpart hoT hsw hXX hO hR h1 h2 h3 hS0 hI0
  obtain rfl := hR.tick.len'
  have hl1 := hR.len
  have h5 := (tks_num hv).2.1
  obtain ⟨a3, c3, hq, hS3, hc3⟩ := hO
  unfold AltersN
  refine enter Try.func94 rfl 86 Try.ntmps94 (Nat.le_of_ble_eq_true rfl) hI0 ?_
  refine WC.seq ?_
  refine WC.ofFr [(0, _), (1, _), (2, _), (3, _), (4, _)] ⟨rfl, rfl, rfl, rfl, rfl, trivial⟩ ?_
  refine WC.region ?_
  refine WL.so (SO.box rfl rfl) rfl ?_
  rintro _ _ _ ⟨b5, hb5, rfl, rfl, rfl⟩ -- NEW
  refine WL.so (SO.box rfl rfl) rfl ?_
  rintro _ _ _ ⟨b6, hb6, rfl, rfl, rfl⟩ -- NEW
  refine WL.so (SO.alloc Try.zeroValue4 rfl) rfl ?_
  rintro _ _ _ ⟨b7, hb7, rfl, rfl, rfl⟩ -- NEW
  refine WL.nil ?_
  refine WP.thenC ?_
  refine WC.scope ?_
  refine WC.seq ?_
  refine WC.seq ?_
  refine WC.ofFr [(7, _), (6, _), (5, _), (2, _), (3, _), (4, _)] ⟨rfl, rfl, rfl, rfl, rfl, rfl, trivial⟩ ?_
  refine WC.tail 6 [0, 1, 2, 3, 4, 5] rfl (by kernel_rfl) (by kernel_rfl)  ?_
  refine WQ.q rfl (Yd.qt (Yd.load1 Try.isAgg3 rfl (by first | exact Rd.own (k := 0) rfl rfl | exact Rd.own (k := 1) rfl rfl | exact Rd.own (k := 2) rfl rfl | exact Rd.own (k := 3) rfl rfl | exact (Rd.imm h1 rfl) | exact (Rd.imm h2 rfl) | exact (Rd.imm h3 rfl) | exact (Rd.imm hq rfl)))) rfl ?_
  refine WQ.q rfl (Yd.qt (Yd.load1 Try.isAgg107 rfl (by first | exact Rd.own (k := 0) rfl rfl | exact Rd.own (k := 1) rfl rfl | exact Rd.own (k := 2) rfl rfl | exact Rd.own (k := 3) rfl rfl | exact (Rd.imm h1 rfl) | exact (Rd.imm h2 rfl) | exact (Rd.imm h3 rfl) | exact (Rd.imm hq rfl)))) rfl ?_
  refine WQ.q rfl (Yd.qt (Yd.nilCheck rfl)) rfl ?_
  refine WQ.q rfl (Yd.qt (Yd.fieldAddr FA146_1 rfl)) rfl ?_
  refine WQ.q rfl (Yd.qt (Yd.load1 Try.isAgg22 rfl (by first | exact Rd.own (k := 0) rfl rfl | exact Rd.own (k := 1) rfl rfl | exact Rd.own (k := 2) rfl rfl | exact Rd.own (k := 3) rfl rfl | exact (Rd.imm h1 rfl) | exact (Rd.imm h2 rfl) | exact (Rd.imm h3 rfl) | exact (Rd.imm hq rfl)))) rfl ?_
  refine WQ.q rfl (Yd.qt (Yd.lenS rfl Try.underlying22 rfl)) rfl ?_
  refine WQ.tail ?_
  refine WL.yd (Yd.eql rfl rfl) rfl ?_
  refine WL.nil ?_
  refine WP.thenC ?_
  refine WC.cond rfl (fun c19 => ?_) (fun c19 => ?_)
  · try simp only [zq1, zq2, zq3, zq4, zq5, zq6, zq7, zq8] at c19
    have hkA := hpart.at 0 (by exact Nat.zero_lt_one)
    have hgA : gt A k0 = t := hkA.1
    refine WC.seq ?_
    refine WC.ofFr [(7, _), (6, _), (5, _), (2, _), (3, _), (4, _)] ⟨rfl, rfl, rfl, rfl, rfl, rfl, trivial⟩ ?_
    refine WC.ofF ?_
    refine WCF.region ?_
    refine WLF.yd (by intro _ h; cases h) (Yd.load1 Try.isAgg158 rfl (by first | exact Rd.own (k := 0) rfl rfl | exact Rd.own (k := 1) rfl rfl | exact Rd.own (k := 2) rfl rfl | exact Rd.own (k := 3) rfl rfl | exact (Rd.imm h1 rfl) | exact (Rd.imm h2 rfl) | exact (Rd.imm h3 rfl) | exact (Rd.imm hq rfl))) rfl ?_
    refine WLF.yd (by intro _ h; cases h) (Yd.loadN Try.isAgg114 Try.sizeOf114 rfl (vs := [_, _, _, _, _, _, _, _, _, _]) rfl (by first | exact RdN.own (k := 0) (n := 10) rfl rfl | exact RdN.own (k := 1) (n := 10) rfl rfl | exact RdN.own (k := 2) (n := 10) rfl rfl | exact RdN.own (k := 3) (n := 10) rfl rfl)) rfl ?_
    refine WLF.yieldN (l := ly) (vals := [truV t]) [_, _, _] h0 (fun _ h => h) (fun h => h) rfl rfl rfl (fun w' hsz hI => by rw [← hgA]; exact hround k0 D h0 w' hkA.2 (Nat.le_trans hsw hsz) hXX hS0 hI) ?_
    rintro b22 D5 hp5 hK5 hX5
    refine WLF.so (by intro _ h; cases h) (SO.store 0 rfl Try.sizeOf4 rfl rfl rfl rfl (Nat.le_of_ble_eq_true rfl) (oneB_spec rfl)) rfl ?_
    rintro _ _ _ ⟨rfl, rfl, rfl⟩
    refine WLF.nil ?_
    refine WP.thenC ?_
    refine WC.ret ?_
    refine WP.thenRet ?_
    refine WP.scRet ?_
    refine WP.ret1 rfl rfl Try.results94 (RV.cell1 Try.isAgg4 rfl (by first | exact Rd.own (k := 0) rfl rfl | exact Rd.own (k := 1) rfl rfl | exact Rd.own (k := 2) rfl rfl | exact Rd.own (k := 3) rfl rfl | exact (Rd.imm h1 rfl) | exact (Rd.imm h2 rfl) | exact (Rd.imm h3 rfl) | exact (Rd.imm hq rfl))) (fun w1 hI => by
      rcases hK5 with ⟨rfl, hK5⟩ | ⟨rfl, hK5⟩
      · exact ⟨_, D5, hp5, rfl, hX5, hI.drop 3, true, rfl, .inl ⟨rfl, hK5⟩⟩
      · exact ⟨_, D5, hp5, rfl, hX5, hI.drop 3, false, rfl, .inr ⟨rfl, hK5⟩⟩)
  · try simp only [zq1, zq2, zq3, zq4, zq5, zq6, zq7, zq8] at c19
    omega

set_option maxRecDepth 100000 in
set_option maxHeartbeats 1000000 in
theorem on_s (T : Tks) (a1 : Option Addr) (n1 c1 : Nat) (q b1 b2 b3 ly : Nat) (St : Nat → Imm → Hp → Prop) (Sp : Imm → Hp → Prop) (w0 : World) (A : List Tru) (hv : tksB T = true)
    (hSm : ∀ k D1 D2 h, DExt w0 D1 D2 → St k D1 h → St k D2 h)
    (DD : Imm) (hround : ∀ k D' h w', k < A.length → w0.heap.size ≤ w'.heap.size → DExt w0 DD D' → St k D' h → Inv D' h (keys h) w' w' → YieldAt Fence.wide 0 Try.prog ly #[truV (gt A k)] w' (RoundN w' D' (keys h) (fun b D'' h' => (b = true ∧ St (k + 1) D'' h') ∨ (b = false ∧ Sp D'' h')))) (rem : Nat) (ih : ∀ (t : Tru) (at_ k0 : Nat) (D : Imm) (w : World) (h0 : Hp), at_ + rem = T.l.length → PartOf A (truL T (ordT T) rem t at_) k0 → okTr t → w0.heap.size ≤ w.heap.size → DExt w0 DD D → OffAt D q T (.slice a1 n1 c1) → TksR D T a1 n1 → D b1 = some (.cells (List.toArray [pt q]) 107 (0, 0)) → D b2 = some (.cells (List.toArray [.func (.yield ly) #[] #[]]) 158 (0, 0)) → D b3 = some (.cells (List.toArray [.func (.func 94) #[] #[pt b1, pt b2, pt b3]]) 159 (0, 0)) → St k0 D h0 → Inv D h0 (keys h0) w w → AltersN Try.prog 94 [truV t, nt at_, pt b1, pt b2, pt b3] w D (keys h0) (fun v D' h' => ∃ b, v = .bool b ∧ ((b = true ∧ St (k0 + (truL T (ordT T) rem t at_).length) D' h') ∨ (b = false ∧ Sp D' h')))) : ∀ (t : Tru) (at_ k0 : Nat) (D : Imm) (w : World) (h0 : Hp), at_ + (rem + 1) = T.l.length → PartOf A (truL T (ordT T) (rem + 1) t at_) k0 → okTr t → w0.heap.size ≤ w.heap.size → DExt w0 DD D → OffAt D q T (.slice a1 n1 c1) → TksR D T a1 n1 → D b1 = some (.cells (List.toArray [pt q]) 107 (0, 0)) → D b2 = some (.cells (List.toArray [.func (.yield ly) #[] #[]]) 158 (0, 0)) → D b3 = some (.cells (List.toArray [.func (.func 94) #[] #[pt b1, pt b2, pt b3]]) 159 (0, 0)) → St k0 D h0 → Inv D h0 (keys h0) w w → AltersN Try.prog 94 [truV t, nt at_, pt b1, pt b2, pt b3] w D (keys h0) (fun v D' h' => ∃ b, v = .bool b ∧ ((b = true ∧ St (k0 + (truL T (ordT T) (rem + 1) t at_).length) D' h') ∨ (b = false ∧ Sp D' h'))) := by
  intro t at_ k0 D w h0 hin hpart hoT hsw hXX hO hR h1 h2 h3 hS0 hI0
  obtain rfl := hR.tick.len'
  have hl1 := hR.len
  have h5 := (tks_num hv).2.1
  obtain ⟨a3, c3, hq, hS3, hc3⟩ := hO
  unfold AltersN
  refine enterM Try.func94 rfl 86 Try.ntmps94 (Nat.le_of_ble_eq_true rfl) hI0 ?_
  refine WC.seq ?_
  refine WC.ofFr [(0, _), (1, _), (2, _), (3, _), (4, _)] ⟨rfl, rfl, rfl, rfl, rfl, trivial⟩ ?_
  refine WC.region ?_
  refine WL.so (SO.box rfl rfl) rfl ?_
  rintro _ _ _ ⟨b5, hb5, rfl, rfl, rfl⟩ -- NEW
  refine WL.so (SO.box rfl rfl) rfl ?_
  rintro _ _ _ ⟨b6, hb6, rfl, rfl, rfl⟩ -- NEW
  refine WL.so (SO.alloc Try.zeroValue4 rfl) rfl ?_
  rintro _ _ _ ⟨b7, hb7, rfl, rfl, rfl⟩ -- NEW
  refine WL.nil ?_
  refine WP.thenC ?_
  refine WC.scope ?_
  refine WC.seq ?_
  refine WC.seq ?_
  refine WC.ofFr [(7, _), (6, _), (5, _), (2, _), (3, _), (4, _)] ⟨rfl, rfl, rfl, rfl, rfl, rfl, trivial⟩ ?_
  refine WC.tail 6 [0, 1, 2, 3, 4, 5] rfl (by kernel_rfl) (by kernel_rfl)  ?_
  refine WQ.q rfl (Yd.qt (Yd.load1 Try.isAgg3 rfl (by first | exact Rd.own (k := 0) rfl rfl | exact Rd.own (k := 1) rfl rfl | exact Rd.own (k := 2) rfl rfl | exact Rd.own (k := 3) rfl rfl | exact (Rd.imm h1 rfl) | exact (Rd.imm h2 rfl) | exact (Rd.imm h3 rfl) | exact (Rd.imm hq rfl)))) rfl ?_
  refine WQ.q rfl (Yd.qt (Yd.load1 Try.isAgg107 rfl (by first | exact Rd.own (k := 0) rfl rfl | exact Rd.own (k := 1) rfl rfl | exact Rd.own (k := 2) rfl rfl | exact Rd.own (k := 3) rfl rfl | exact (Rd.imm h1 rfl) | exact (Rd.imm h2 rfl) | exact (Rd.imm h3 rfl) | exact (Rd.imm hq rfl)))) rfl ?_
  refine WQ.q rfl (Yd.qt (Yd.nilCheck rfl)) rfl ?_
  refine WQ.q rfl (Yd.qt (Yd.fieldAddr FA146_1 rfl)) rfl ?_
  refine WQ.q rfl (Yd.qt (Yd.load1 Try.isAgg22 rfl (by first | exact Rd.own (k := 0) rfl rfl | exact Rd.own (k := 1) rfl rfl | exact Rd.own (k := 2) rfl rfl | exact Rd.own (k := 3) rfl rfl | exact (Rd.imm h1 rfl) | exact (Rd.imm h2 rfl) | exact (Rd.imm h3 rfl) | exact (Rd.imm hq rfl)))) rfl ?_
  refine WQ.q rfl (Yd.qt (Yd.lenS rfl Try.underlying22 rfl)) rfl ?_
  refine WQ.tail ?_
  refine WL.yd (Yd.eql rfl rfl) rfl ?_
  refine WL.nil ?_
  refine WP.thenC ?_
  refine WC.cond rfl (fun c19 => ?_) (fun c19 => ?_)
  · try simp only [zq1, zq2, zq3, zq4, zq5, zq6, zq7, zq8] at c19
    omega
  · try simp only [zq1, zq2, zq3, zq4, zq5, zq6, zq7, zq8] at c19
    have hat : at_ < T.l.length := by omega
    have hi : (gt (ordT T) at_) < T.l.length := sortT_lt _ _ hat
    have hi5 : (gt (ordT T) at_) < 5 := by omega
    have hnum := (tks_num hv).2.2 _ hi
    obtain ⟨hh, hpb, hpd⟩ := hnum
    refine WC.skip ?_
    refine WP.thenC ?_
    refine WC.seq ?_
    refine WC.ofFr [(7, _), (6, _), (5, _), (2, _), (4, _)] ⟨rfl, rfl, rfl, rfl, rfl, trivial⟩ ?_
    refine WC.drawD _ [(0, true), (1, true), (2, true), (3, true), (4, true), (5, true), (6, true), (7, false), (8, false)] (by kernel_rfl) (by kernel_rfl) (QuietOn.then (QuietOn.sc (QuietOn.bodyM (by kernel_rfl)))) (fun _ hI => hI) ?_
    refine WA.yd rfl (Yd.load1 Try.isAgg107 rfl (by first | exact Rd.own (k := 0) rfl rfl | exact Rd.own (k := 1) rfl rfl | exact Rd.own (k := 2) rfl rfl | exact Rd.own (k := 3) rfl rfl | exact (Rd.imm h1 rfl) | exact (Rd.imm h2 rfl) | exact (Rd.imm h3 rfl) | exact (Rd.imm hq rfl) | exact ((hS3.at at_ (by omega)).rd 0 rfl))) rfl ?_
    refine WA.yd rfl (Yd.nilCheck rfl) rfl ?_
    refine WA.yd rfl (Yd.fieldAddr FA146_1 rfl) rfl ?_
    refine WA.yd rfl (Yd.load1 Try.isAgg22 rfl (by first | exact Rd.own (k := 0) rfl rfl | exact Rd.own (k := 1) rfl rfl | exact Rd.own (k := 2) rfl rfl | exact Rd.own (k := 3) rfl rfl | exact (Rd.imm h1 rfl) | exact (Rd.imm h2 rfl) | exact (Rd.imm h3 rfl) | exact (Rd.imm hq rfl) | exact ((hS3.at at_ (by omega)).rd 0 rfl))) rfl ?_
    refine WA.yd rfl (Yd.load1 Try.isAgg3 rfl (by first | exact Rd.own (k := 0) rfl rfl | exact Rd.own (k := 1) rfl rfl | exact Rd.own (k := 2) rfl rfl | exact Rd.own (k := 3) rfl rfl | exact (Rd.imm h1 rfl) | exact (Rd.imm h2 rfl) | exact (Rd.imm h3 rfl) | exact (Rd.imm hq rfl) | exact ((hS3.at at_ (by omega)).rd 0 rfl))) rfl ?_
    refine WA.yd rfl (Yd.indexS Try.underlying22 Try.sizeOf3 rfl rfl (by omega) (by omega) (by first | exact hS3.addr at_ (by omega))) rfl ?_
    refine WA.yd rfl (Yd.load1 Try.isAgg3 rfl (by first | exact Rd.own (k := 0) rfl rfl | exact Rd.own (k := 1) rfl rfl | exact Rd.own (k := 2) rfl rfl | exact Rd.own (k := 3) rfl rfl | exact (Rd.imm h1 rfl) | exact (Rd.imm h2 rfl) | exact (Rd.imm h3 rfl) | exact (Rd.imm hq rfl) | exact ((hS3.at at_ (by omega)).rd 0 rfl))) rfl ?_
    refine WA.so rfl (SO.alloc Try.zeroValue3 rfl) rfl ?_
    rintro _ _ _ ⟨b8, hb8, rfl, rfl, rfl⟩ -- NEW
    refine ⟨fun _ hI => hI.tail, ?_⟩
    refine WA.so rfl (SO.store 0 rfl Try.sizeOf3 rfl rfl rfl rfl (Nat.le_of_ble_eq_true rfl) (oneB_spec rfl)) rfl ?_
    rintro _ _ _ ⟨rfl, rfl, rfl⟩
    refine ⟨fun _ hI => hI.drop 1, ?_⟩
    refine WA.nil ?_
    refine WP.thenC ?_
    refine WC.seq ?_
    refine WC.ofFr [(8, _), (7, _), (6, _), (5, _), (2, _), (4, _)] ⟨rfl, rfl, rfl, rfl, rfl, rfl, trivial⟩ ?_
    refine WC.region ?_
    refine WL.yd (Yd.loadN Try.isAgg114 Try.sizeOf114 rfl (vs := [_, _, _, _, _, _, _, _, _, _]) rfl (by first | exact RdN.own (k := 0) (n := 10) rfl rfl | exact RdN.own (k := 1) (n := 10) rfl rfl | exact RdN.own (k := 2) (n := 10) rfl rfl | exact RdN.own (k := 3) (n := 10) rfl rfl | exact RdN.own (k := 4) (n := 10) rfl rfl)) rfl ?_
    refine WL.yd (Yd.func rfl rfl) rfl ?_
    refine WL.so (SO.alloc Try.zeroValue160 rfl) rfl ?_
    rintro _ _ _ ⟨b9, hb9, rfl, rfl, rfl⟩ -- NEW
    refine WL.so (SO.store 0 rfl Try.sizeOf160 rfl rfl rfl rfl (Nat.le_of_ble_eq_true rfl) (oneB_spec rfl)) rfl ?_
    rintro _ _ _ ⟨rfl, rfl, rfl⟩
    refine WL.nil ?_
    refine WP.thenC ?_
    refine WC.seq ?_
    refine WC.label ?_
    refine WP.thenC ?_
    refine WC.seq ?_
    refine WC.seq ?_
    refine WC.ofFr [(9, _), (8, _), (7, _), (6, _), (5, _), (2, _), (4, _)] ⟨rfl, rfl, rfl, rfl, rfl, rfl, rfl, trivial⟩ ?_
    refine WC.region ?_
    refine WL.yd (Yd.load1 Try.isAgg107 rfl (by first | exact Rd.own (k := 0) rfl rfl | exact Rd.own (k := 1) rfl rfl | exact Rd.own (k := 2) rfl rfl | exact Rd.own (k := 3) rfl rfl | exact Rd.own (k := 4) rfl rfl | exact Rd.own (k := 5) rfl rfl | exact (Rd.imm h1 rfl) | exact (Rd.imm h2 rfl) | exact (Rd.imm h3 rfl) | exact (Rd.imm hq rfl))) rfl ?_
    refine WL.yd (Yd.load1 Try.isAgg3 rfl (by first | exact Rd.own (k := 0) rfl rfl | exact Rd.own (k := 1) rfl rfl | exact Rd.own (k := 2) rfl rfl | exact Rd.own (k := 3) rfl rfl | exact Rd.own (k := 4) rfl rfl | exact Rd.own (k := 5) rfl rfl | exact (Rd.imm h1 rfl) | exact (Rd.imm h2 rfl) | exact (Rd.imm h3 rfl) | exact (Rd.imm hq rfl))) rfl ?_
    refine WL.so (SO.makes (Enters.func Try.call96 rfl) (fun w hI => pairs_g T a1 _ c1 q D _ ⟨a3, c3, hq, hS3, hc3⟩ hR hI.imm (gt (ordT T) at_) hi)) rfl ?_
    rintro _ D2 _ ⟨hX2, ⟨bp, rfl, hbp⟩, rfl⟩
    replace hXX := hXX.trans (hX2) hsw
    replace hR := hR.ext (hX2)
    replace hq := (hX2).old _ _ hq
    replace hS3 := hS3.ext (hX2)
    replace h1 := (hX2).old _ _ h1
    replace h2 := (hX2).old _ _ h2
    replace h3 := (hX2).old _ _ h3
    refine WL.nil ?_
    refine WP.thenC ?_
    refine WC.block ?_
    refine WC.ofFr [(2, _), (4, _), (5, _), (6, _), (7, _), (8, _), (9, _), (34, _)] ⟨rfl, rfl, rfl, rfl, rfl, rfl, rfl, rfl, trivial⟩ ?_
    refine WC.rangeIterN (N := (pairsL (gt T.l (gt (ordT T) at_))).length) (arg := fun k => prV (gt (pairsL (gt T.l (gt (ordT T) at_))) k)) (fun w1 _ hD1 => pairs1_iter (gt T.l (gt (ordT T) at_)) bp D2 w1 (by omega) hbp) rfl Try.call98 rfl (fun k D' h => ∃ hG, h = ((b9, .cells (List.toArray [.func (.func 95) #[truV t] #[]]) 160 (0, 0)) :: (b8, .cells (List.toArray [nt (gt (ordT T) at_)]) 3 (0, 0)) :: (b7, .cells (List.toArray [.bool false]) 4 (0, 0)) :: (b6, .cells (List.toArray [nt at_]) 3 (0, 0)) :: (b5, .cells (List.toArray (truC t)) 114 (0, 0)) :: hG) ∧ St (k0 + onN T (ordT T) rem t at_ k) D' hG) (fun c D' h => c = .ret ∧ ∃ hG, h = ((b9, .cells (List.toArray [.func (.func 95) #[truV t] #[]]) 160 (0, 0)) :: (b8, .cells (List.toArray [nt (gt (ordT T) at_)]) 3 (0, 0)) :: (b7, .cells (List.toArray [.bool false]) 4 (0, 0)) :: (b6, .cells (List.toArray [nt at_]) 3 (0, 0)) :: (b5, .cells (List.toArray (truC t)) 114 (0, 0)) :: hG) ∧ Sp D' hG) (fun k D1 D2 h hx ⟨hG, e, hs⟩ => ⟨hG, e, hSm _ _ _ _ (hx.wide hsw) hs⟩) ⟨h0, rfl, hSm _ _ _ _ (hX2.wide hsw) hS0⟩ ?_ ?_ ?_
    · rintro rec1 l1 Dn0 k D3 _ w1 hrec hk ⟨hG, rfl, hSG⟩ hX3 hsz
      unfold RoundGN
      replace hXX := hXX.trans (hX3) hsw
      replace hR := hR.ext (hX3)
      replace hq := (hX3).old _ _ hq
      replace hS3 := hS3.ext (hX3)
      replace h1 := (hX3).old _ _ h1
      replace h2 := (hX3).old _ _ h2
      replace h3 := (hX3).old _ _ h3
      have hpp0 := pairP_iff.1 (mem_pairs.1 (gt_mem hk))
      have hpp : (0 ≤ (gt (pairsL (gt T.l (gt (ordT T) at_))) k).1 ∧ (gt (pairsL (gt T.l (gt (ordT T) at_))) k).1 ≤ 240) ∧ 0 ≤ (gt (pairsL (gt T.l (gt (ordT T) at_))) k).2 ∧ (gt (pairsL (gt T.l (gt (ordT T) at_))) k).2 ≤ 240 := by omega
      refine WCF.ofFr [(35, _), (2, _), (4, _), (5, _), (6, _), (7, _), (8, _), (9, _)] ⟨rfl, rfl, rfl, rfl, rfl, rfl, rfl, rfl, trivial⟩ ?_
      refine WCF.region ?_
      refine WLF.so (by intro _ h; cases h) (SO.alloc Try.zeroValue112 rfl) rfl ?_
      rintro _ _ _ ⟨b10, hb10, rfl, rfl, rfl⟩ -- NEW
      refine WLF.so (by intro _ h; cases h) (SO.store 0 rfl Try.sizeOf112 rfl rfl rfl rfl (Nat.le_of_ble_eq_true rfl) (oneB_spec rfl)) rfl ?_
      rintro _ _ _ ⟨rfl, rfl, rfl⟩
      refine WLF.nil ?_
      refine WP.iterBegin 1 rfl hrec ?_
      refine WCF.block ?_
      refine WCF.seq ?_
      refine WCF.seq ?_
      refine WCF.ofFr [(10, _), (2, _), (4, _), (5, _), (6, _), (7, _), (8, _), (9, _)] ⟨rfl, rfl, rfl, rfl, rfl, rfl, rfl, rfl, trivial⟩ ?_
      refine WCF.drawH _ (by kernel_rfl) (by kernel_rfl) (noLets.then (noLets.then (noLets.blk noLets.round))) (fun _ hI => hI) ?_
      refine WH.yd (i := 0) (by kernel_rfl) (fun _ o v c a w _ h => (QuietPanic.then (QuietPanic.then (QuietPanic.blk QuietPanic.round))) c o.dst v a w h) rfl (Yd.load1 Try.isAgg107 rfl (by first | exact Rd.own (k := 0) rfl rfl | exact Rd.own (k := 1) rfl rfl | exact Rd.own (k := 2) rfl rfl | exact Rd.own (k := 3) rfl rfl | exact Rd.own (k := 4) rfl rfl | exact Rd.own (k := 5) rfl rfl | exact Rd.own (k := 6) rfl rfl | exact Rd.own (k := 7) rfl rfl | exact Rd.own (k := 8) rfl rfl | exact (Rd.imm h1 rfl) | exact (Rd.imm h2 rfl) | exact (Rd.imm h3 rfl) | exact (Rd.imm hq rfl))) rfl ?_
      refine WH.yd (i := 1) (by kernel_rfl) (fun _ o v c a w _ h => (QuietPanic.then (QuietPanic.then (QuietPanic.blk QuietPanic.round))) c o.dst v a w h) rfl (Yd.nilCheck rfl) rfl ?_
      refine WH.yd (i := 2) (by kernel_rfl) (fun _ o v c a w _ h => (QuietPanic.then (QuietPanic.then (QuietPanic.blk QuietPanic.round))) c o.dst v a w h) rfl (Yd.fieldAddr FA146_1 rfl) rfl ?_
      refine WH.yd (i := 3) (by kernel_rfl) (fun _ o v c a w _ h => (QuietPanic.then (QuietPanic.then (QuietPanic.blk QuietPanic.round))) c o.dst v a w h) rfl (Yd.load1 Try.isAgg22 rfl (by first | exact Rd.own (k := 0) rfl rfl | exact Rd.own (k := 1) rfl rfl | exact Rd.own (k := 2) rfl rfl | exact Rd.own (k := 3) rfl rfl | exact Rd.own (k := 4) rfl rfl | exact Rd.own (k := 5) rfl rfl | exact Rd.own (k := 6) rfl rfl | exact Rd.own (k := 7) rfl rfl | exact Rd.own (k := 8) rfl rfl | exact (Rd.imm h1 rfl) | exact (Rd.imm h2 rfl) | exact (Rd.imm h3 rfl) | exact (Rd.imm hq rfl))) rfl ?_
      refine WH.yd (i := 4) (by kernel_rfl) (fun _ o v c a w _ h => (QuietPanic.then (QuietPanic.then (QuietPanic.blk QuietPanic.round))) c o.dst v a w h) rfl (Yd.load1 Try.isAgg3 rfl (by first | exact Rd.own (k := 0) rfl rfl | exact Rd.own (k := 1) rfl rfl | exact Rd.own (k := 2) rfl rfl | exact Rd.own (k := 3) rfl rfl | exact Rd.own (k := 4) rfl rfl | exact Rd.own (k := 5) rfl rfl | exact Rd.own (k := 6) rfl rfl | exact Rd.own (k := 7) rfl rfl | exact Rd.own (k := 8) rfl rfl | exact (Rd.imm h1 rfl) | exact (Rd.imm h2 rfl) | exact (Rd.imm h3 rfl) | exact (Rd.imm hq rfl))) rfl ?_
      refine WH.yd (i := 5) (by kernel_rfl) (fun _ o v c a w _ h => (QuietPanic.then (QuietPanic.then (QuietPanic.blk QuietPanic.round))) c o.dst v a w h) rfl (Yd.sliceTo (h := at_) Try.underlying22 Try.sizeOf3 rfl rfl (by omega)) rfl ?_
      refine WH.yd (i := 6) (by kernel_rfl) (fun _ o v c a w _ h => (QuietPanic.then (QuietPanic.then (QuietPanic.blk QuietPanic.round))) c o.dst v a w h) rfl (Yd.lenS rfl Try.underlying22 rfl) rfl ?_
      refine WH.yd (i := 7) (by kernel_rfl) (fun _ o v c a w _ h => (QuietPanic.then (QuietPanic.then (QuietPanic.blk QuietPanic.round))) c o.dst v a w h) rfl (Yd.move rfl) rfl ?_
      refine WH.nil (by kernel_rfl) ?_
      refine WP.thenCF ?_
      refine WCF.block ?_
      refine WCF.loopF (fun j : Nat => [(2, pt b1), (4, pt b3), (5, pt b5), (6, pt b6), (7, pt b7), (8, pt b8), (9, pt b9), (10, pt b10), (41, .slice a3 at_ c3), (42, nt at_), (43, nt j)]) (fun j => j ≤ at_ ∧ ∀ i, i < j → clashB T t (gt (ordT T) i) (gt (ordT T) at_) (gt (pairsL (gt T.l (gt (ordT T) at_))) k) = false) (fun j => at_ - j) 0 ⟨by omega, by intro i hi; omega⟩ (by exact ⟨rfl, rfl, rfl, rfl, rfl, rfl, rfl, rfl, rfl, rfl, rfl, trivial⟩) ?_
      intro j ⟨hj, hcl⟩
      refine WCF.seq ?_
      refine WCF.ofFr [(2, _), (4, _), (5, _), (6, _), (7, _), (8, _), (9, _), (10, _), (41, _), (42, _), (43, _)] ⟨rfl, rfl, rfl, rfl, rfl, rfl, rfl, rfl, rfl, rfl, rfl, trivial⟩ ?_
      refine WCF.region ?_
      refine WLF.yd (by intro _ h; cases h) (Yd.lss rfl rfl) rfl ?_
      refine WLF.nil ?_
      refine WP.thenCF ?_
      refine WCF.seq ?_
      refine WCF.cond rfl (fun c44 => ?_) (fun c44 => ?_)
      · try simp only [zq1, zq2, zq3, zq4, zq5, zq6, zq7, zq8] at c44
        have hjl : gt (ordT T) j < T.l.length := sortT_lt _ _ (by omega)
        have hj5 : gt (ordT T) j < 5 := by omega
        have hbt := hoT (gt (ordT T) j)
        refine WCF.skip ?_
        refine WP.thenCF ?_
        refine WCF.seq ?_
        refine WCF.block ?_
        refine WCF.seq ?_
        refine WCF.ofFr [(2, _), (4, _), (5, _), (6, _), (7, _), (8, _), (9, _), (10, _), (41, _), (42, _), (43, _)] ⟨rfl, rfl, rfl, rfl, rfl, rfl, rfl, rfl, rfl, rfl, rfl, trivial⟩ ?_
        refine WCF.region ?_
        refine WLF.yd (by intro _ h; cases h) (Yd.indexS Try.underlying22 Try.sizeOf3 rfl rfl (by omega) (by omega) (by first | exact hS3.addr j (by omega))) rfl ?_
        refine WLF.yd (by intro _ h; cases h) (Yd.load1 Try.isAgg3 rfl (by first | exact Rd.own (k := 0) rfl rfl | exact Rd.own (k := 1) rfl rfl | exact Rd.own (k := 2) rfl rfl | exact Rd.own (k := 3) rfl rfl | exact Rd.own (k := 4) rfl rfl | exact Rd.own (k := 5) rfl rfl | exact Rd.own (k := 6) rfl rfl | exact Rd.own (k := 7) rfl rfl | exact Rd.own (k := 8) rfl rfl | exact (Rd.imm h1 rfl) | exact (Rd.imm h2 rfl) | exact (Rd.imm h3 rfl) | exact (Rd.imm hq rfl) | exact ((hS3.at j (by omega)).rd 0 rfl))) rfl ?_
        refine WLF.yd (by intro _ h; cases h) (Yd.assign rfl) rfl ?_
        refine WLF.nil ?_
        refine WP.thenCF ?_
        refine WCF.seq ?_
        refine WCF.ofFr [(12, _), (2, _), (4, _), (5, _), (6, _), (7, _), (8, _), (9, _), (10, _), (41, _), (42, _), (43, _)] ⟨rfl, rfl, rfl, rfl, rfl, rfl, rfl, rfl, rfl, rfl, rfl, rfl, trivial⟩ ?_
        refine WCF.tail 26 [0, 1, 2, 3, 4, 5, 6, 7, 8, 9, 10, 11, 12, 13, 14, 15, 16, 17, 18, 19, 20, 21, 22, 23, 24, 25] rfl (by kernel_rfl) (by kernel_rfl) (noLets.then (noLets.blk (noLets.then (noLets.then (noLets.blk (noLets.then (noLets.blk noLets.round))))))) ?_
        refine WQ.q rfl (Yd.qt (Yd.load1 Try.isAgg107 rfl (by first | exact Rd.own (k := 0) rfl rfl | exact Rd.own (k := 1) rfl rfl | exact Rd.own (k := 2) rfl rfl | exact Rd.own (k := 3) rfl rfl | exact Rd.own (k := 4) rfl rfl | exact Rd.own (k := 5) rfl rfl | exact Rd.own (k := 6) rfl rfl | exact Rd.own (k := 7) rfl rfl | exact Rd.own (k := 8) rfl rfl | exact (Rd.imm h1 rfl) | exact (Rd.imm h2 rfl) | exact (Rd.imm h3 rfl) | exact (Rd.imm hq rfl) | exact ((hR.tick.at (gt (ordT T) j) hjl).rd 2 rfl) | exact ((hR.tick.at (gt (ordT T) at_) hi).rd 2 rfl) | exact (Rd.own (k := 7) rfl (tru_rd t hj5).2)))) rfl ?_
        refine WQ.q rfl (Yd.qt (Yd.nilCheck rfl)) rfl ?_
        refine WQ.q rfl (Yd.qt (Yd.fieldAddr FA146_0 rfl)) rfl ?_
        refine WQ.q rfl (Yd.qt (Yd.fieldAddr FA35_1 rfl)) rfl ?_
        refine WQ.q rfl (Yd.qt (Yd.load1 Try.isAgg33 rfl (by first | exact Rd.own (k := 0) rfl rfl | exact Rd.own (k := 1) rfl rfl | exact Rd.own (k := 2) rfl rfl | exact Rd.own (k := 3) rfl rfl | exact Rd.own (k := 4) rfl rfl | exact Rd.own (k := 5) rfl rfl | exact Rd.own (k := 6) rfl rfl | exact Rd.own (k := 7) rfl rfl | exact Rd.own (k := 8) rfl rfl | exact (Rd.imm h1 rfl) | exact (Rd.imm h2 rfl) | exact (Rd.imm h3 rfl) | exact (Rd.imm hq rfl) | exact ((hR.tick.at (gt (ordT T) j) hjl).rd 2 rfl) | exact ((hR.tick.at (gt (ordT T) at_) hi).rd 2 rfl) | exact (Rd.own (k := 7) rfl (tru_rd t hj5).2)))) rfl ?_
        refine WQ.q rfl (Yd.qt (Yd.move rfl)) rfl ?_
        refine WQ.q rfl (Yd.qt (Yd.indexS Try.underlying33 Try.sizeOf78 rfl rfl (by omega) (by omega) (by first | exact hR.tick.addr (gt (ordT T) j) hjl | exact hR.tick.addr (gt (ordT T) at_) hi))) rfl ?_
        refine WQ.q rfl (Yd.qt (Yd.fieldAddr FA78_1 rfl)) rfl ?_
        refine WQ.q rfl (Yd.qt (Yd.load1 Try.isAgg3 rfl (by first | exact Rd.own (k := 0) rfl rfl | exact Rd.own (k := 1) rfl rfl | exact Rd.own (k := 2) rfl rfl | exact Rd.own (k := 3) rfl rfl | exact Rd.own (k := 4) rfl rfl | exact Rd.own (k := 5) rfl rfl | exact Rd.own (k := 6) rfl rfl | exact Rd.own (k := 7) rfl rfl | exact Rd.own (k := 8) rfl rfl | exact (Rd.imm h1 rfl) | exact (Rd.imm h2 rfl) | exact (Rd.imm h3 rfl) | exact (Rd.imm hq rfl) | exact ((hR.tick.at (gt (ordT T) j) hjl).rd 2 rfl) | exact ((hR.tick.at (gt (ordT T) at_) hi).rd 2 rfl) | exact (Rd.own (k := 7) rfl (tru_rd t hj5).2)))) rfl ?_
        refine WQ.q rfl (Yd.qt (Yd.load1 Try.isAgg107 rfl (by first | exact Rd.own (k := 0) rfl rfl | exact Rd.own (k := 1) rfl rfl | exact Rd.own (k := 2) rfl rfl | exact Rd.own (k := 3) rfl rfl | exact Rd.own (k := 4) rfl rfl | exact Rd.own (k := 5) rfl rfl | exact Rd.own (k := 6) rfl rfl | exact Rd.own (k := 7) rfl rfl | exact Rd.own (k := 8) rfl rfl | exact (Rd.imm h1 rfl) | exact (Rd.imm h2 rfl) | exact (Rd.imm h3 rfl) | exact (Rd.imm hq rfl) | exact ((hR.tick.at (gt (ordT T) j) hjl).rd 2 rfl) | exact ((hR.tick.at (gt (ordT T) at_) hi).rd 2 rfl) | exact (Rd.own (k := 7) rfl (tru_rd t hj5).2)))) rfl ?_
        refine WQ.q rfl (Yd.qt (Yd.nilCheck rfl)) rfl ?_
        refine WQ.q rfl (Yd.qt (Yd.fieldAddr FA146_0 rfl)) rfl ?_
        refine WQ.q rfl (Yd.qt (Yd.fieldAddr FA35_1 rfl)) rfl ?_
        refine WQ.q rfl (Yd.qt (Yd.load1 Try.isAgg33 rfl (by first | exact Rd.own (k := 0) rfl rfl | exact Rd.own (k := 1) rfl rfl | exact Rd.own (k := 2) rfl rfl | exact Rd.own (k := 3) rfl rfl | exact Rd.own (k := 4) rfl rfl | exact Rd.own (k := 5) rfl rfl | exact Rd.own (k := 6) rfl rfl | exact Rd.own (k := 7) rfl rfl | exact Rd.own (k := 8) rfl rfl | exact (Rd.imm h1 rfl) | exact (Rd.imm h2 rfl) | exact (Rd.imm h3 rfl) | exact (Rd.imm hq rfl) | exact ((hR.tick.at (gt (ordT T) j) hjl).rd 2 rfl) | exact ((hR.tick.at (gt (ordT T) at_) hi).rd 2 rfl) | exact (Rd.own (k := 7) rfl (tru_rd t hj5).2)))) rfl ?_
        refine WQ.q rfl (Yd.qt (Yd.load1 Try.isAgg3 rfl (by first | exact Rd.own (k := 0) rfl rfl | exact Rd.own (k := 1) rfl rfl | exact Rd.own (k := 2) rfl rfl | exact Rd.own (k := 3) rfl rfl | exact Rd.own (k := 4) rfl rfl | exact Rd.own (k := 5) rfl rfl | exact Rd.own (k := 6) rfl rfl | exact Rd.own (k := 7) rfl rfl | exact Rd.own (k := 8) rfl rfl | exact (Rd.imm h1 rfl) | exact (Rd.imm h2 rfl) | exact (Rd.imm h3 rfl) | exact (Rd.imm hq rfl) | exact ((hR.tick.at (gt (ordT T) j) hjl).rd 2 rfl) | exact ((hR.tick.at (gt (ordT T) at_) hi).rd 2 rfl) | exact (Rd.own (k := 7) rfl (tru_rd t hj5).2)))) rfl ?_
        refine WQ.q rfl (Yd.qt (Yd.indexS Try.underlying33 Try.sizeOf78 rfl rfl (by omega) (by omega) (by first | exact hR.tick.addr (gt (ordT T) j) hjl | exact hR.tick.addr (gt (ordT T) at_) hi))) rfl ?_
        refine WQ.q rfl (Yd.qt (Yd.fieldAddr FA78_1 rfl)) rfl ?_
        refine WQ.q rfl (Yd.qt (Yd.load1 Try.isAgg3 rfl (by first | exact Rd.own (k := 0) rfl rfl | exact Rd.own (k := 1) rfl rfl | exact Rd.own (k := 2) rfl rfl | exact Rd.own (k := 3) rfl rfl | exact Rd.own (k := 4) rfl rfl | exact Rd.own (k := 5) rfl rfl | exact Rd.own (k := 6) rfl rfl | exact Rd.own (k := 7) rfl rfl | exact Rd.own (k := 8) rfl rfl | exact (Rd.imm h1 rfl) | exact (Rd.imm h2 rfl) | exact (Rd.imm h3 rfl) | exact (Rd.imm hq rfl) | exact ((hR.tick.at (gt (ordT T) j) hjl).rd 2 rfl) | exact ((hR.tick.at (gt (ordT T) at_) hi).rd 2 rfl) | exact (Rd.own (k := 7) rfl (tru_rd t hj5).2)))) rfl ?_
        refine WQ.q rfl (Yd.qt (Yd.eql rfl rfl)) rfl ?_
        refine WQ.q rfl (Yd.qt (Yd.move rfl)) rfl ?_
        refine WQ.part 66 rfl (fun g66 => ?_) (fun g66 => ?_)
        · try simp only [zq1, zq2, zq3, zq4, zq5, zq6, zq7, zq8] at g66
          refine WQ.qg rfl rfl (Yd.qt (Yd.move rfl)) rfl ?_
          refine WQ.qg rfl rfl (Yd.qt (Yd.indexA Try.underlying114 Try.sizeOf112 rfl rfl (by omega) (by omega))) rfl ?_
          refine WQ.qg rfl rfl (Yd.qt (Yd.fieldAddr FA112_1 rfl)) rfl ?_
          refine WQ.qg rfl rfl (Yd.qt (Yd.load1 Try.isAgg3 rfl (by first | exact Rd.own (k := 0) rfl rfl | exact Rd.own (k := 1) rfl rfl | exact Rd.own (k := 2) rfl rfl | exact Rd.own (k := 3) rfl rfl | exact Rd.own (k := 4) rfl rfl | exact Rd.own (k := 5) rfl rfl | exact Rd.own (k := 6) rfl rfl | exact Rd.own (k := 7) rfl rfl | exact Rd.own (k := 8) rfl rfl | exact (Rd.imm h1 rfl) | exact (Rd.imm h2 rfl) | exact (Rd.imm h3 rfl) | exact (Rd.imm hq rfl) | exact ((hR.tick.at (gt (ordT T) j) hjl).rd 2 rfl) | exact ((hR.tick.at (gt (ordT T) at_) hi).rd 2 rfl) | exact (Rd.own (k := 7) rfl (tru_rd t hj5).2)))) rfl ?_
          refine WQ.qg rfl rfl (Yd.qt (Yd.fieldAddr FA112_1 rfl)) rfl ?_
          refine WQ.qg rfl rfl (Yd.qt (Yd.load1 Try.isAgg3 rfl (by first | exact Rd.own (k := 0) rfl rfl | exact Rd.own (k := 1) rfl rfl | exact Rd.own (k := 2) rfl rfl | exact Rd.own (k := 3) rfl rfl | exact Rd.own (k := 4) rfl rfl | exact Rd.own (k := 5) rfl rfl | exact Rd.own (k := 6) rfl rfl | exact Rd.own (k := 7) rfl rfl | exact Rd.own (k := 8) rfl rfl | exact (Rd.imm h1 rfl) | exact (Rd.imm h2 rfl) | exact (Rd.imm h3 rfl) | exact (Rd.imm hq rfl) | exact ((hR.tick.at (gt (ordT T) j) hjl).rd 2 rfl) | exact ((hR.tick.at (gt (ordT T) at_) hi).rd 2 rfl) | exact (Rd.own (k := 7) rfl (tru_rd t hj5).2)))) rfl ?_
          refine WQ.tailR ?_
          refine WLF.ydg (by intro _ h; cases h) rfl (Yd.sub rfl rfl (wr64 ⟨by omega, by omega⟩)) rfl ?_
          refine WLF.sog (by intro _ h; cases h) rfl (SO.callP Try.call84 rfl (fun w hI => withinK_g _ _ _ _)) rfl ?_
          rintro _ _ _ ⟨rfl, rfl, rfl⟩
          refine WLF.yd (by intro _ h; cases h) (Yd.pickT rfl rfl) rfl ?_
          refine WLF.nil ?_
          refine WP.thenCF ?_
          refine WCF.cond rfl (fun c75 => ?_) (fun c75 => ?_)
          · try simp only [zq1, zq2, zq3, zq4, zq5, zq6, zq7, zq8] at c75
            have hfr : freeO T (ordT T) t at_ (gt (ordT T) at_) (gt (pairsL (gt T.l (gt (ordT T) at_))) k) = false := freeO_clash (j := j) (by omega) (by unfold clashB; rw [decide_eq_true g66]; exact c75)
            refine WCF.exit ?_
            refine WP.blkMiss rfl ?_
            refine WP.thenExit ?_
            refine WP.thenExit ?_
            refine WP.blkMiss rfl ?_
            refine WP.thenExit ?_
            refine WP.blkHit ?_
            first
              | exact WP.iterOnN hrec (h1 := ((b9, .cells (List.toArray [.func (.func 95) #[truV t] #[]]) 160 (0, 0)) :: (b8, .cells (List.toArray [nt (gt (ordT T) at_)]) 3 (0, 0)) :: (b7, .cells (List.toArray [.bool false]) 4 (0, 0)) :: (b6, .cells (List.toArray [nt at_]) 3 (0, 0)) :: (b5, .cells (List.toArray (truC t)) 114 (0, 0)) :: hG)) (fun _ h => List.mem_cons_of_mem _ h) (fun h => (List.nodup_cons.1 h).2) (DExt.refl _ _) ⟨hG, rfl, by rw [onN_skip hk hfr]; exact hSG⟩
              | (have hb84 : b84 = true := by simpa using c85
                 rcases hK8 with ⟨_, hK8⟩ | ⟨hff, _⟩
                 · exact WP.iterOnN hrec (h1 := ((b9, .cells (List.toArray [.func (.func 95) #[truV t] #[]]) 160 (0, 0)) :: (b8, .cells (List.toArray [nt (gt (ordT T) at_)]) 3 (0, 0)) :: (b7, .cells (List.toArray [.bool false]) 4 (0, 0)) :: (b6, .cells (List.toArray [nt at_]) 3 (0, 0)) :: (b5, .cells (List.toArray (truC t)) 114 (0, 0)) :: hp8)) (fun _ h => List.mem_cons_of_mem _ h) (fun h => (List.nodup_cons.1 h).2) hX8 ⟨hp8, rfl, by rw [onN_on hk hfr, ← Nat.add_assoc]; exact hK8⟩
                 · rw [hb84] at hff; cases hff)
          · try simp only [zq1, zq2, zq3, zq4, zq5, zq6, zq7, zq8] at c75
            refine WCF.skip ?_
            refine WP.blkNormal ?_
            refine WP.thenCF ?_
            refine WCF.ofFr [(2, _), (4, _), (5, _), (6, _), (7, _), (8, _), (9, _), (10, _), (41, _), (42, _), (43, _)] ⟨rfl, rfl, rfl, rfl, rfl, rfl, rfl, rfl, rfl, rfl, rfl, trivial⟩ ?_
            refine WCF.region ?_
            refine WLF.yd (by intro _ h; cases h) (Yd.add rfl rfl (wr64 ⟨by omega, by omega⟩)) rfl ?_
            refine WLF.yd (by intro _ h; cases h) (Yd.move rfl) rfl ?_
            refine WLF.nil ?_
            exact WP.againF (j + 1) ⟨by omega, ext_round hcl (by first | exact clashB_false.2 (fun _ => c75) | exact clashB_false.2 (fun e => absurd e g66))⟩ (by omega) ⟨rfl, rfl, rfl, rfl, rfl, rfl, rfl, rfl, rfl, rfl, rfl, trivial⟩ (fun _ h => h) (fun h => h)
        · try simp only [zq1, zq2, zq3, zq4, zq5, zq6, zq7, zq8] at g66
          refine WQ.skip rfl rfl rfl ?_
          refine WQ.skip rfl rfl rfl ?_
          refine WQ.skip rfl rfl rfl ?_
          refine WQ.skip rfl rfl rfl ?_
          refine WQ.skip rfl rfl rfl ?_
          refine WQ.skip rfl rfl rfl ?_
          refine WQ.tailR ?_
          refine WLF.skip (by intro _ h; cases h) rfl rfl ?_
          refine WLF.skip (by intro _ h; cases h) rfl rfl ?_
          refine WLF.yd (by intro _ h; cases h) (Yd.pickF rfl rfl) rfl ?_
          refine WLF.nil ?_
          refine WP.thenCF ?_
          refine WCF.condF rfl ?_
          refine WCF.skip ?_
          refine WP.blkNormal ?_
          refine WP.thenCF ?_
          refine WCF.ofFr [(2, _), (4, _), (5, _), (6, _), (7, _), (8, _), (9, _), (10, _), (41, _), (42, _), (43, _)] ⟨rfl, rfl, rfl, rfl, rfl, rfl, rfl, rfl, rfl, rfl, rfl, trivial⟩ ?_
          refine WCF.region ?_
          refine WLF.yd (by intro _ h; cases h) (Yd.add rfl rfl (wr64 ⟨by omega, by omega⟩)) rfl ?_
          refine WLF.yd (by intro _ h; cases h) (Yd.move rfl) rfl ?_
          refine WLF.nil ?_
          exact WP.againF (j + 1) ⟨by omega, ext_round hcl (by first | exact clashB_false.2 (fun _ => c75) | exact clashB_false.2 (fun e => absurd e g66))⟩ (by omega) ⟨rfl, rfl, rfl, rfl, rfl, rfl, rfl, rfl, rfl, rfl, rfl, trivial⟩ (fun _ h => h) (fun h => h)
      · try simp only [zq1, zq2, zq3, zq4, zq5, zq6, zq7, zq8] at c44
        have hfr : freeO T (ordT T) t at_ (gt (ordT T) at_) (gt (pairsL (gt T.l (gt (ordT T) at_))) k) = true := freeO_all fun i hi => hcl i (by omega)
        refine WCF.exit ?_
        refine WP.thenExit ?_
        refine WP.thenExit ?_
        refine WP.blkHit ?_
        refine WP.thenCF ?_
        refine WCF.seq ?_
        refine WCF.ofFr [(4, _), (6, _), (7, _), (8, _), (9, _), (10, _)] ⟨rfl, rfl, rfl, rfl, rfl, rfl, trivial⟩ ?_
        refine WCF.tail 7 [0, 1, 2, 3, 4, 5, 6] rfl (by kernel_rfl) (by kernel_rfl) (noLets.then (noLets.blk noLets.round)) ?_
        refine WQ.q rfl (Yd.qt (Yd.load1 Try.isAgg159 rfl (by first | exact Rd.own (k := 0) rfl rfl | exact Rd.own (k := 1) rfl rfl | exact Rd.own (k := 2) rfl rfl | exact Rd.own (k := 3) rfl rfl | exact Rd.own (k := 4) rfl rfl | exact Rd.own (k := 5) rfl rfl | exact Rd.own (k := 6) rfl rfl | exact Rd.own (k := 7) rfl rfl | exact Rd.own (k := 8) rfl rfl | exact (Rd.imm h1 rfl) | exact (Rd.imm h2 rfl) | exact (Rd.imm h3 rfl) | exact (Rd.imm hq rfl)))) rfl ?_
        refine WQ.q rfl (Yd.qt (Yd.load1 Try.isAgg160 rfl (by first | exact Rd.own (k := 0) rfl rfl | exact Rd.own (k := 1) rfl rfl | exact Rd.own (k := 2) rfl rfl | exact Rd.own (k := 3) rfl rfl | exact Rd.own (k := 4) rfl rfl | exact Rd.own (k := 5) rfl rfl | exact Rd.own (k := 6) rfl rfl | exact Rd.own (k := 7) rfl rfl | exact Rd.own (k := 8) rfl rfl | exact (Rd.imm h1 rfl) | exact (Rd.imm h2 rfl) | exact (Rd.imm h3 rfl) | exact (Rd.imm hq rfl)))) rfl ?_
        refine WQ.q rfl (Yd.qt (Yd.load1 Try.isAgg3 rfl (by first | exact Rd.own (k := 0) rfl rfl | exact Rd.own (k := 1) rfl rfl | exact Rd.own (k := 2) rfl rfl | exact Rd.own (k := 3) rfl rfl | exact Rd.own (k := 4) rfl rfl | exact Rd.own (k := 5) rfl rfl | exact Rd.own (k := 6) rfl rfl | exact Rd.own (k := 7) rfl rfl | exact Rd.own (k := 8) rfl rfl | exact (Rd.imm h1 rfl) | exact (Rd.imm h2 rfl) | exact (Rd.imm h3 rfl) | exact (Rd.imm hq rfl)))) rfl ?_
        refine WQ.q rfl (Yd.qt (Yd.loadN Try.isAgg112 Try.sizeOf112 rfl (vs := [_, _]) rfl (by first | exact RdN.own (k := 0) (n := 2) rfl rfl | exact RdN.own (k := 1) (n := 2) rfl rfl | exact RdN.own (k := 2) (n := 2) rfl rfl | exact RdN.own (k := 3) (n := 2) rfl rfl | exact RdN.own (k := 4) (n := 2) rfl rfl | exact RdN.own (k := 5) (n := 2) rfl rfl | exact RdN.own (k := 6) (n := 2) rfl rfl | exact RdN.own (k := 7) (n := 2) rfl rfl | exact RdN.own (k := 8) (n := 2) rfl rfl))) rfl ?_
        refine WQ.q rfl (Qt.call (Enters.val Try.call95 rfl rfl) (fun w hI => with_g t (gt (ordT T) at_) (gt (pairsL (gt T.l (gt (ordT T) at_))) k) hi5 _)) rfl ?_
        refine WQ.q rfl (Yd.qt (Yd.load1 Try.isAgg3 rfl (by first | exact Rd.own (k := 0) rfl rfl | exact Rd.own (k := 1) rfl rfl | exact Rd.own (k := 2) rfl rfl | exact Rd.own (k := 3) rfl rfl | exact Rd.own (k := 4) rfl rfl | exact Rd.own (k := 5) rfl rfl | exact Rd.own (k := 6) rfl rfl | exact Rd.own (k := 7) rfl rfl | exact Rd.own (k := 8) rfl rfl | exact (Rd.imm h1 rfl) | exact (Rd.imm h2 rfl) | exact (Rd.imm h3 rfl) | exact (Rd.imm hq rfl)))) rfl ?_
        refine WQ.q rfl (Yd.qt (Yd.addN (i := at_) (j := 1) rfl rfl (by omega))) rfl ?_
        refine WQ.tailR ?_
        refine WLF.so (by intro _ h; cases h) (SO.altersNS (own := [_, _, _, _, _, _, _, _]) (hpc := hG) (fun _ h => h) (fun h => h) (Enters.val Try.call94 rfl rfl) (fun w3 hsz3 hI => ih (upd t (gt (ordT T) at_) (gt (pairsL (gt T.l (gt (ordT T) at_))) k)) (at_ + 1) (k0 + onN T (ordT T) rem t at_ k) D3 w3 hG (by omega) (onN_part hpart hk hfr) (okTr_upd hoT _ hpp) (Nat.le_trans hsw (Nat.le_trans hsz hsz3)) hXX ⟨a3, c3, hq, hS3, hc3⟩ hR h1 h2 h3 hSG hI)) rfl ?_
        rintro _ D8 _ ⟨hp8, hX8, ⟨b84, rfl, hK8⟩, rfl⟩
        refine WLF.yd (by intro _ h; cases h) (Yd.not rfl) rfl ?_
        refine WLF.nil ?_
        refine WP.thenCF ?_
        refine WCF.cond rfl (fun c85 => ?_) (fun c85 => ?_)
        · try simp only [zq1, zq2, zq3, zq4, zq5, zq6, zq7, zq8] at c85
          refine WCF.seq ?_
          refine WCF.ofFr [(7, _)] ⟨rfl, trivial⟩ ?_
          refine WCF.region ?_
          refine WLF.so (by intro _ h; cases h) (SO.store 5 rfl Try.sizeOf4 rfl rfl rfl rfl (Nat.le_of_ble_eq_true rfl) (oneB_spec rfl)) rfl ?_
          rintro _ _ _ ⟨rfl, rfl, rfl⟩
          refine WLF.nil ?_
          refine WP.thenCF ?_
          refine WCF.ret ?_
          refine WP.blkRet ?_
          have hb84 : b84 = false := by simpa using c85
          rcases hK8 with ⟨htt, _⟩ | ⟨_, hK8⟩
          · rw [hb84] at htt; cases htt
          · exact WP.iterRetN (h1 := ((b9, .cells (List.toArray [.func (.func 95) #[truV t] #[]]) 160 (0, 0)) :: (b8, .cells (List.toArray [nt (gt (ordT T) at_)]) 3 (0, 0)) :: (b7, .cells (List.toArray [.bool false]) 4 (0, 0)) :: (b6, .cells (List.toArray [nt at_]) 3 (0, 0)) :: (b5, .cells (List.toArray (truC t)) 114 (0, 0)) :: hp8)) (fun _ h => List.mem_cons_of_mem _ h) (fun h => (List.nodup_cons.1 h).2) hX8 ⟨rfl, hp8, rfl, hK8⟩
        · try simp only [zq1, zq2, zq3, zq4, zq5, zq6, zq7, zq8] at c85
          refine WCF.skip ?_
          refine WP.blkNormal ?_
          first
            | exact WP.iterOnN hrec (h1 := ((b9, .cells (List.toArray [.func (.func 95) #[truV t] #[]]) 160 (0, 0)) :: (b8, .cells (List.toArray [nt (gt (ordT T) at_)]) 3 (0, 0)) :: (b7, .cells (List.toArray [.bool false]) 4 (0, 0)) :: (b6, .cells (List.toArray [nt at_]) 3 (0, 0)) :: (b5, .cells (List.toArray (truC t)) 114 (0, 0)) :: hG)) (fun _ h => List.mem_cons_of_mem _ h) (fun h => (List.nodup_cons.1 h).2) (DExt.refl _ _) ⟨hG, rfl, by rw [onN_skip hk hfr]; exact hSG⟩
            | (have hb84 : b84 = true := by simpa using c85
               rcases hK8 with ⟨_, hK8⟩ | ⟨hff, _⟩
               · exact WP.iterOnN hrec (h1 := ((b9, .cells (List.toArray [.func (.func 95) #[truV t] #[]]) 160 (0, 0)) :: (b8, .cells (List.toArray [nt (gt (ordT T) at_)]) 3 (0, 0)) :: (b7, .cells (List.toArray [.bool false]) 4 (0, 0)) :: (b6, .cells (List.toArray [nt at_]) 3 (0, 0)) :: (b5, .cells (List.toArray (truC t)) 114 (0, 0)) :: hp8)) (fun _ h => List.mem_cons_of_mem _ h) (fun h => (List.nodup_cons.1 h).2) hX8 ⟨hp8, rfl, by rw [onN_on hk hfr, ← Nat.add_assoc]; exact hK8⟩
               · rw [hb84] at hff; cases hff)
    · rintro Dn1 D6 _ hDn1 hX6 ⟨hG, rfl, hSG⟩
      refine WP.blkNormal ?_
      refine WP.thenC ?_
      refine WC.seq ?_
      refine WC.ofFr [(7, _)] ⟨rfl, trivial⟩ ?_
      refine WC.region ?_
      refine WL.so (SO.store 3 rfl Try.sizeOf4 rfl rfl rfl rfl (Nat.le_of_ble_eq_true rfl) (oneB_spec rfl)) rfl ?_
      rintro _ _ _ ⟨rfl, rfl, rfl⟩
      refine WL.nil ?_
      refine WP.thenC ?_
      refine WC.ret ?_
      refine WP.scRet ?_
      refine WP.retMs [Dn1] (((b9, .cells (List.toArray [.func (.func 95) #[truV t] #[]]) 160 (0, 0)) :: (b8, .cells (List.toArray [nt (gt (ordT T) at_)]) 3 (0, 0)) :: (b7, .cells (List.toArray [.bool true]) 4 (0, 0)) :: (b6, .cells (List.toArray [nt at_]) 3 (0, 0)) :: (b5, .cells (List.toArray (truC t)) 114 (0, 0)) :: hG)) [_] [_] rfl rfl (fun _ h => h) (fun h => h) Try.results94 ⟨(RV.cell1 Try.isAgg4 rfl (by first | exact Rd.own (k := 0) rfl rfl | exact Rd.own (k := 1) rfl rfl | exact Rd.own (k := 2) rfl rfl | exact Rd.own (k := 3) rfl rfl | exact Rd.own (k := 4) rfl rfl | exact Rd.own (k := 5) rfl rfl | exact Rd.own (k := 6) rfl rfl | exact (Rd.imm h1 rfl) | exact (Rd.imm h2 rfl) | exact (Rd.imm h3 rfl) | exact (Rd.imm hq rfl))), trivial⟩ (fun w2 hI => ⟨_, D6, hG, rfl, hX2.trans hX6 (Nat.le_refl _), hI.drop 5, true, rfl, .inl ⟨rfl, by rw [← onN_all]; exact hSG⟩⟩)
    · rintro Dn1 c D6 _ hDn1 hX6 ⟨rfl, hG, rfl, hSG⟩
      refine WC.ret ?_
      refine WP.blkRet ?_
      refine WP.thenRet ?_
      refine WP.scRet ?_
      refine WP.retMs [Dn1] (((b9, .cells (List.toArray [.func (.func 95) #[truV t] #[]]) 160 (0, 0)) :: (b8, .cells (List.toArray [nt (gt (ordT T) at_)]) 3 (0, 0)) :: (b7, .cells (List.toArray [.bool false]) 4 (0, 0)) :: (b6, .cells (List.toArray [nt at_]) 3 (0, 0)) :: (b5, .cells (List.toArray (truC t)) 114 (0, 0)) :: hG)) [_] [_] rfl rfl (fun _ h => h) (fun h => h) Try.results94 ⟨(RV.cell1 Try.isAgg4 rfl (by first | exact Rd.own (k := 0) rfl rfl | exact Rd.own (k := 1) rfl rfl | exact Rd.own (k := 2) rfl rfl | exact Rd.own (k := 3) rfl rfl | exact Rd.own (k := 4) rfl rfl | exact Rd.own (k := 5) rfl rfl | exact Rd.own (k := 6) rfl rfl | exact (Rd.imm h1 rfl) | exact (Rd.imm h2 rfl) | exact (Rd.imm h3 rfl) | exact (Rd.imm hq rfl))), trivial⟩ (fun w2 hI => ⟨_, D6, hG, rfl, hX2.trans hX6 (Nat.le_refl _), hI.drop 5, false, rfl, .inr ⟨rfl, hSG⟩⟩)

theorem on_g (T : Tks) (a1 : Option Addr) (n1 c1 : Nat) (q b1 b2 b3 ly : Nat) (St : Nat → Imm → Hp → Prop) (Sp : Imm → Hp → Prop) (w0 : World) (A : List Tru) (hv : tksB T = true)
    (hSm : ∀ k D1 D2 h, DExt w0 D1 D2 → St k D1 h → St k D2 h)
    (DD : Imm) (hround : ∀ k D' h w', k < A.length → w0.heap.size ≤ w'.heap.size → DExt w0 DD D' → St k D' h → Inv D' h (keys h) w' w' → YieldAt Fence.wide 0 Try.prog ly #[truV (gt A k)] w' (RoundN w' D' (keys h) (fun b D'' h' => (b = true ∧ St (k + 1) D'' h') ∨ (b = false ∧ Sp D'' h')))) : ∀ rem, ∀ (t : Tru) (at_ k0 : Nat) (D : Imm) (w : World) (h0 : Hp), at_ + rem = T.l.length → PartOf A (truL T (ordT T) rem t at_) k0 → okTr t → w0.heap.size ≤ w.heap.size → DExt w0 DD D → OffAt D q T (.slice a1 n1 c1) → TksR D T a1 n1 → D b1 = some (.cells (List.toArray [pt q]) 107 (0, 0)) → D b2 = some (.cells (List.toArray [.func (.yield ly) #[] #[]]) 158 (0, 0)) → D b3 = some (.cells (List.toArray [.func (.func 94) #[] #[pt b1, pt b2, pt b3]]) 159 (0, 0)) → St k0 D h0 → Inv D h0 (keys h0) w w → AltersN Try.prog 94 [truV t, nt at_, pt b1, pt b2, pt b3] w D (keys h0) (fun v D' h' => ∃ b, v = .bool b ∧ ((b = true ∧ St (k0 + (truL T (ordT T) rem t at_).length) D' h') ∨ (b = false ∧ Sp D' h'))) := by
  intro rem
  induction rem with
  | zero => exact on_0 T a1 n1 c1 q b1 b2 b3 ly St Sp w0 A hv hSm DD hround
  | succ rem ih => exact on_s T a1 n1 c1 q b1 b2 b3 ly St Sp w0 A hv hSm DD hround rem ih

end Go.Proofs.Ytpnbkdlejfmbeaa
