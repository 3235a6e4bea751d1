import Derived.Test.YtejgofaeafphjaaGreatDoorXG3
import Derived.Test.YtejgofaeafphjaaGreatDoorXG0
import Derived.Lib.ItoaNum
import Derived.Lib.AtoiAll
import Derived.Lib.SplitLaws
import Derived.Lib.Strings
import Derived.Test.YtejgofaeafphjaaGreatDoorXG2
set_option linter.all false
set_option maxRecDepth 100000
set_option maxHeartbeats 4000000
attribute [local irreducible] Go.W.WL Go.W.WLF Go.W.WC Go.W.WCF Go.W.WP Go.W.WA Go.W.WQ Go.W.WH Go.W.WHo Go.W.WCn Go.W.Yd Go.W.Qt Go.W.SO Go.Code.wp Go.Code.wpIn
namespace Go.Proofs.YtejgofaeafphjaaGreatDoor
open Go.W Go.Ti
theorem ze3 : zj Tryz.prog 269 [.int .i64 0, .int .i64 0] [(0, 1), (1, 1)] := ⟨⟨_, Tryz.zeroValue269, rfl⟩, _, Tryz.underlying269, fun w => by simp [Tryz.sizeOf3]⟩
abbrev zbU := SaF.mk ze3
attribute [instance] zbU
abbrev Ky := Fin 5 × Fin 4
def keyV (y : Ky) : Value := .agg #[it (y.1.val : Int), it (y.2.val : Int)]
theorem qm (x y : Ky) (h : keyV x = keyV y) : x = y := by
  obtain ⟨⟨a, ha⟩, ⟨b, hb⟩⟩ := x;obtain ⟨⟨c, hc⟩, ⟨e, he⟩⟩ := y;simp only [keyV, Value.agg.injEq, it] at h;simp at h;obtain ⟨h1, h2⟩ := h;have e1 : a = c := by omega
  have e2 : b = e := by omega
  subst e1; subst e2; rfl
theorem keyT : Tryz.prog.keyType 269 = true := by kernel_rfl
theorem laidOut : laidOutB Tryz.prog = true := by kernel_rfl
theorem Xx : Go.Maps.Keyed Tryz.prog 269 := Go.Maps.Keyed.of_law (deep_law_gate laidOut (Nat.le_of_ble_eq_true zk) (Nat.le_of_ble_eq_true zk) keyT zk)
noncomputable def keyAllB : Bool := (List.range 5).all fun a => (List.range 4).all fun b => (keyOf Tryz.prog 269 (.agg #[.int .i64 (a : Int), .int .i64 (b : Int)])).isSome
theorem zcx : keyAllB = true := by kernel_rfl
theorem XA (y : Ky) : ∃ l, keyOf Tryz.prog 269 (keyV y) = some l := by
  have h := List.all_eq_true.1 (List.all_eq_true.1 zcx y.1.val (List.mem_range.2 y.1.isLt)) y.2.val (List.mem_range.2 y.2.isLt);exact Option.isSome_iff_exists.1 h
def bkF (l : List Ent) (y : Ky) : Bool := zM l (y.1.val : Int) (y.2.val : Int)
theorem Ym {l : List Ent} {i : Nat} (hi : i < l.length) {y : Ky} (h1 : (gt l i).ticket = (y.1.val : Int)) (h2 : (gt l i).kind = (y.2.val : Int)) : (fun z => bkF (l.take i) z || decide (z = y)) = bkF (l.take (i + 1)) := by
  funext z;unfold bkF;rw [vM hi, h1, h2];congr 1;apply Bool.eq_iff_iff.2;simp only [decide_eq_true_eq];constructor
  · rintro rfl; exact ⟨rfl, rfl⟩
  rintro ⟨e1, e2⟩;exact Prod.ext (Fin.ext (by omega)) (Fin.ext (by omega))
def canF : Nat → FuncId
  | 1 => 343
  | 2 => 345
  | _ => 347
section
variable {x : Cx} {fr : Fr} {D : Imm} {hp : Hp} {ty : TypeId}
theorem Wt {k : Nat} (hk : 1 ≤ k ∧ k ≤ 3) {o : Operand} {A : List Operand} {ts : Array TypeId} {vals : List Value} (ho : opv fr o = some (U4 k)) (ha : opvs fr A = some vals) : Enters Tryz.prog x fr D hp ⟨.invoke o "dipworks/till.can", A.toArray, ts⟩ ty (canF k) (.agg #[] :: vals) := by
  rcases (show k = 1 ∨ k = 2 ∨ k = 3 by omega) with rfl | rfl | rfl
  · exact Enters.meth Tryz.call343 (fun w => by kernel_rfl) ho ha
  · exact Enters.meth Tryz.call345 (fun w => by kernel_rfl) ho ha
  exact Enters.meth Tryz.call347 (fun w => by kernel_rfl) ho ha
end
theorem zcg (X : Till) (a1 : Option Addr) (n1 c1 : Nat) (D : Imm) (w : World) (hR : TksR D X.tk a1 n1) (hH : Holds D w) (hbt : yx X = true) {k : Nat} (hk : 1 ≤ k ∧ k ≤ 3) (n m : Int) : z8 Tryz.prog (canF k) [.agg #[], .agg #[it X.tk.huts, .slice a1 n1 c1, it X.price, it X.fine, it X.wait], it n, it m] w (.bool (Zm X n m k)) := by
  rcases (show k = 1 ∨ k = 2 ∨ k = 3 by omega) with rfl | rfl | rfl
  · exact jT X a1 n1 c1 n m w hR.tick.len' hR.len
  · exact VJ X a1 n1 c1 D w hR hH n m
  exact Vq X a1 n1 c1 D w hR hH hbt n m
theorem Jf {k : Nat} (hk : k < 4) : Ku[k]? = some (U4 k) := by
  rcases (show k = 0 ∨ k = 1 ∨ k = 2 ∨ k = 3 by omega) with rfl | rfl | rfl | rfl <;> rfl
theorem zcl {X : Till} (h5 : X.tk.l.length ≤ 5) {e : Ent} (h : entB X e = true) : ∃ y : Ky, e.ticket = (y.1.val : Int) ∧ e.kind = (y.2.val : Int) ∧ (1 ≤ y.2.val ∧ y.2.val ≤ 3) ∧ y.1.val < X.tk.l.length := by
  obtain ⟨a, k, h1, h2, h3, h4, h6⟩ := J0 h;exact ⟨(⟨a, by omega⟩, ⟨k, by omega⟩), h1, h3, ⟨h4, h6⟩, h2⟩
section
variable {X : Till} {l : List Ent} {i : Nat} {y : Ky} (h1 : (gt l i).ticket = (y.1.val : Int)) (h2 : (gt l i).kind = (y.2.val : Int))
include X l i y h1 h2
theorem zcT (h : bkF (l.take i) y = true) : xj X l i = 1 := by
  unfold xj; rw [if_pos (by rw [h1, h2]; exact h)]
theorem zcU (h : bkF (l.take i) y = false) (hc : Zm X (gt l i).ticket (gt l i).pence y.2.val = false) : xj X l i = 2 := by
  unfold xj; rw [if_neg (by rw [h1, h2]; unfold bkF at h; rw [h]; simp), if_pos (by rw [show (gt l i).kind.toNat = y.2.val by rw [h2, Int.toNat_natCast]]; exact hc)]
theorem zcS (h : bkF (l.take i) y = false) (hc : Zm X (gt l i).ticket (gt l i).pence y.2.val = true) : xj X l i = 0 := by
  unfold xj; rw [if_neg (by rw [h1, h2]; unfold bkF at h; rw [h]; simp), if_neg (by rw [show (gt l i).kind.toNat = y.2.val by rw [h2, Int.toNat_natCast], hc]; simp)]
end
section
variable (X : Till) (a1 : Option Addr) (n1 c1 : Nat)
include X a1 n1 c1
theorem uS (D : Imm) (l : List Ent) (ab : Option Addr) (nb cb : Nat) (hB : xL D l ab nb) (b2 b3 : Nat) (w : World) (hR : TksR D X.tk a1 n1) (h2 : D b2 = some (.cells (List.toArray (Q2 X (.slice a1 n1 c1))) 156 (0, 0))) (h3 : D b3 = some (.cells (List.toArray [.slice ab nb cb]) 32 (0, 0))) (hE : yq X l true = 0) (hH : Holds D w) : Va Tryz.prog 185 [pt b3, pt b2] (yH X l l.length).length (fun k => nt (gt (yH X l l.length) k)) (fun k => it (xj X l (gt (yH X l l.length) k))) D w := by
  unfold Va;intro ly St Sp hSm hround h0 hS0 hI0;unfold zp;obtain rfl := hR.tick.len';have hl1 := hR.len;obtain rfl := hB.ent.len';have hlb := hB.len;obtain ⟨hbt, h20, _, hent⟩ := vo hE;have h5 := (y8 (uo hbt).1).2.1;refine en Tryz.func185 rfl Tryz.ntmps185 hI0 (WC.scope (g [[1],[1,0,1,2]] ?_));refine WL.so (SO.callP CaF.h rfl (fun w hI => zav _)) rfl ?_;rintro _ _ h0 ⟨rfl, rfl, rfl⟩;refine WL.so (SO.alloc ZvF.h rfl) rfl (zw fun b4 hb4 => ?_);refine g [[4],[1,4,0,1,2]] ?_;refine WL.so SO.makeMap rfl ?_;rintro _ _ _ ⟨b11, hb11, rfl, rfl, rfl⟩;refine g [[4]] ?_;refine WC.label (g [[2],[7,5,4,0,1,2]] ?_);refine WC.loop (fun z : Nat × Imm × Hp × Array MapEntry × Nat => [(0, .func (.yield ly) #[] #[]), (2, pt b2), (4, pt b4), (5, .map (some b11)), (12, .slice ab l.length cb), (13, nt l.length), (14, nt z.1)]) (fun z => ((b11, .map z.2.2.2.1 z.2.2.2.2) :: (b4, .cells (List.toArray Ku) 265 (0, 0)) :: z.2.2.1)) (fun z => z.2.1) (fun z => z.1 ≤ l.length ∧ DExt w D z.2.1 ∧ St ((yH X l z.1).length) z.2.1 z.2.2.1 ∧ MapB keyV z.2.2.2.1 z.2.2.2.2 (bkF (l.take z.1))) (fun z => l.length - z.1) ⟨0, D, h0, #[], 0⟩ ⟨by omega, DExt.refl _ _, hS0, MapB.empty _⟩ (fun a w h => y4 h ⟨rfl, rfl, rfl, rfl, rfl, rfl, rfl, trivial⟩) ?_;rintro ⟨i, D1, h1, es, cl⟩ ⟨hi, hX1, hS1, hM⟩;dsimp only at hi hX1 hS1 hM;replace hR := hR.ext (hX1);replace hB := hB.ext (hX1);replace h2 := (hX1).old _ _ h2;replace h3 := (hX1).old _ _ h3;refine g [[1],[5,0,2,4,5,12,13,14]] ?_;refine WC.cond rfl (fun c15 => ?_) (fun c15 => ?_)
  · try simp only [zq] at c15
    have hil : i < l.length := by omega
    obtain ⟨y, hk1, hk2, hk3, hk4⟩ := zcl h5 (hent i hil);refine g [[5],[2,0,2,4,5,12,13,14]] ?_;refine WL.yd (Yd.ix rfl rfl (hB.ent.addr i (by omega))) rfl (WL.yd (Yd.lV [_, _, _] rfl ((hB.ent.at i (by omega)).rdn 0 3 rfl)) rfl ?_);refine WL.so (SO.alloc ZvF.h rfl) rfl (zw fun b7 hb7 => ?_);refine g [[5],[6,6,7,0,2,4,5,12,13,14]] ?_;refine WL.so (SO.alloc ZvF.h rfl) rfl (zw fun b8 hb8 => ?_);refine g [[4],[7,8,6,7,0,2,4,5,12,13,14],[3,9,8,6,7,0,2,4,5,12,13,14]] ?_;refine WL.know 26 (keyV y) rfl (by rw [hk1, hk2]; rfl) ?_;refine WL.yd (Yd.lookB (kv := keyV) (F := bkF (l.take i)) (y := y) (j := 2) qm Xx XA UnF.h ZvF.h rfl rfl rfl hM) rfl (g [[3]] ?_);refine WC.cond rfl (fun c24 => ?_) (fun c24 => ?_)
    · have hru : xj X l i = 1 := zcT hk1 hk2 c24;refine g [[6,9,8,6,0,2,4,5,12,13,14],[3,9,8,6,0,2,4,5,12,13,14]] ?_;refine WL.know 41 (keyV y) rfl (by rw [hk1, hk2]; rfl) ?_;refine WL.so (SO.putB (kv := keyV) (y := y) (j := 2) qm Xx XA UnF.h rfl rfl rfl rfl hM) rfl ?_;rintro _ _ _ ⟨rfl, es1, cl1, rfl, hM1⟩;rw [Ym hil hk1 hk2] at hM1;refine g [[4],[9,9,6,0,2,4,5,12,13,14]] ?_;have hbat := Vt X l hil (by rw [hru]; decide);refine g [[0,9,6,0,2,4,5,12,13,14]] ?_;refine WC.ofF (g [[4]] ?_)
      refine WLF.yieldN (l := ly) (vals := [nt i, it (1 : Int)]) [_, _, _, _] h1 (fun _ h => h) (fun h => h) rfl rfl rfl (fun w' hsz hI => by
        have hgo := hround ((yH X l i).length) D1 h1 w' hbat.1 hsz hX1 hS1 hI;simp only [hbat.2, hru] at hgo;exact hgo) ?_
      rintro b47 D5 hp5 hK5 hX5;refine g [[3]] ?_;refine WC.cond rfl (fun c48 => ?_) (fun c48 => ?_)
      · try simp only [zq] at c48
        refine g [[5]] ?_;refine WP.scRet ?_
        refine WP.ret0 rfl rfl rfl  (fun w1 hI => by
          obtain ⟨htt, _⟩ | ⟨_, hK5⟩ := hK5
          · simp_all
          exact ⟨_, D5, hp5, rfl, hX1.trans hX5 (Nat.le_refl _), hI.drop 4, .inr hK5⟩)
      try simp only [zq] at c48
      refine g [[3],[4,0,2,4,5,12,13,14]] ?_;have hlen := ke X l i;rw [hru] at hlen;rw [if_pos (by decide)] at hlen;obtain ⟨_, hK5⟩ | ⟨hff, _⟩ := hK5
      · exact WP.again (⟨i + 1, D5, hp5, es1, cl1⟩ : Nat × Imm × Hp × Array MapEntry × Nat) ⟨by simp only; omega, hX1.trans hX5 (Nat.le_refl _), by simp only; rw [hlen]; exact hK5, hM1⟩ (by simp only; omega) (fun a w h => yi h ⟨rfl, rfl, rfl, rfl, rfl, rfl, rfl, trivial⟩ (fun _ h => List.mem_cons_of_mem _ (List.mem_cons_of_mem _ h)) (fun h => (List.nodup_cons.1 (List.nodup_cons.1 h).2).2))
      simp_all
    refine g [[1],[0,9,8,6,7,0,2,4,5,12,13,14],[3009],[1]] ?_;refine WQ.q rfl (Yd.qt (Yd.load1  AgF.h rfl (Rd.own (k := 1) rfl rfl))) rfl ?_;refine WQ.know 30 (nt y.2.val) rfl (by rw [hk2]) ?_;refine WQ.q rfl (Yd.qt (Yd.indexA UnF.h SzF.h rfl rfl (by omega) (by omega))) rfl (WQ.q rfl (Yd.qt (Yd.l1 rfl (Rd.own (k := 3) rfl (Jf (by omega))))) rfl ?_);refine WQ.know 32 (U4 y.2.val) rfl (by rw [Nat.zero_add, Nat.mul_one]; rfl) (g [[2]] ?_);refine WQ.q rfl (Yd.qt (Yd.load1  AgF.h rfl (Rd.own (k := 1) rfl rfl))) rfl (g [[1]] ?_);refine WQ.q rfl (Yd.qt (Yd.load1  AgF.h rfl (Rd.own (k := 1) rfl rfl))) rfl (g [[1]] ?_);refine WL.so (SO.call (Wt hk3 rfl rfl) (fun w hI => zcg X a1 _ c1 D1 _ hR hI.imm hbt hk3 (gt l i).ticket (gt l i).pence)) rfl (zs (g [[4]] ?_));refine WC.cond rfl (fun c28 => ?_) (fun c28 => ?_)
    · try simp only [zq] at c28
      have hru : xj X l i = 2 := zcU hk1 hk2 c24 c28;refine g [[6,9,8,6,0,2,4,5,12,13,14],[3,9,8,6,0,2,4,5,12,13,14]] ?_;refine WL.know 41 (keyV y) rfl (by rw [hk1, hk2]; rfl) ?_;refine WL.so (SO.putB (kv := keyV) (y := y) (j := 2) qm Xx XA UnF.h rfl rfl rfl rfl hM) rfl ?_;rintro _ _ _ ⟨rfl, es1, cl1, rfl, hM1⟩;rw [Ym hil hk1 hk2] at hM1;refine g [[4],[9,9,6,0,2,4,5,12,13,14]] ?_;have hbat := Vt X l hil (by rw [hru]; decide);refine g [[0,9,6,0,2,4,5,12,13,14]] ?_;refine WC.ofF (g [[4]] ?_)
      refine WLF.yieldN (l := ly) (vals := [nt i, it (2 : Int)]) [_, _, _, _] h1 (fun _ h => h) (fun h => h) rfl rfl rfl (fun w' hsz hI => by
        have hgo := hround ((yH X l i).length) D1 h1 w' hbat.1 hsz hX1 hS1 hI;simp only [hbat.2, hru] at hgo;exact hgo) ?_
      rintro b47 D5 hp5 hK5 hX5;refine g [[3]] ?_;refine WC.cond rfl (fun c48 => ?_) (fun c48 => ?_)
      · try simp only [zq] at c48
        refine g [[5]] ?_;refine WP.scRet ?_
        refine WP.ret0 rfl rfl rfl  (fun w1 hI => by
          obtain ⟨htt, _⟩ | ⟨_, hK5⟩ := hK5
          · simp_all
          exact ⟨_, D5, hp5, rfl, hX1.trans hX5 (Nat.le_refl _), hI.drop 4, .inr hK5⟩)
      try simp only [zq] at c48
      refine g [[3],[4,0,2,4,5,12,13,14]] ?_;have hlen := ke X l i;rw [hru] at hlen;rw [if_pos (by decide)] at hlen;obtain ⟨_, hK5⟩ | ⟨hff, _⟩ := hK5
      · exact WP.again (⟨i + 1, D5, hp5, es1, cl1⟩ : Nat × Imm × Hp × Array MapEntry × Nat) ⟨by simp only; omega, hX1.trans hX5 (Nat.le_refl _), by simp only; rw [hlen]; exact hK5, hM1⟩ (by simp only; omega) (fun a w h => yi h ⟨rfl, rfl, rfl, rfl, rfl, rfl, rfl, trivial⟩ (fun _ h => List.mem_cons_of_mem _ (List.mem_cons_of_mem _ h)) (fun h => (List.nodup_cons.1 (List.nodup_cons.1 h).2).2))
      simp_all
    try simp only [zq] at c28
    have hru : xj X l i = 0 := zcS hk1 hk2 c24 c28;refine g [[4],[3,9,8,6,0,2,4,5,12,13,14]] ?_;refine WL.know 41 (keyV y) rfl (by rw [hk1, hk2]; rfl) ?_;refine WL.so (SO.putB (kv := keyV) (y := y) (j := 2) qm Xx XA UnF.h rfl rfl rfl rfl hM) rfl ?_;rintro _ _ _ ⟨rfl, es1, cl1, rfl, hM1⟩;rw [Ym hil hk1 hk2] at hM1;refine g [[4],[10,9,6,0,2,4,5,12,13,14],[4,0,2,4,5,12,13,14]] ?_;have hlen := ke X l i;rw [hru] at hlen;rw [if_neg (by decide)] at hlen;exact WP.again (⟨i + 1, D1, h1, es1, cl1⟩ : Nat × Imm × Hp × Array MapEntry × Nat) ⟨by simp only; omega, hX1, by simp only; rw [hlen]; exact hS1, hM1⟩ (by simp only; omega) (fun a w h => yi h ⟨rfl, rfl, rfl, rfl, rfl, rfl, rfl, trivial⟩ (fun _ h => List.mem_cons_of_mem _ (List.mem_cons_of_mem _ h)) (fun h => (List.nodup_cons.1 (List.nodup_cons.1 h).2).2))
  try simp only [zq] at c15
  obtain rfl : i = l.length := by omega
  refine g [[4]] ?_;refine WP.scNormal ?_;refine WP.ret0 rfl rfl rfl  (fun w1 hI => ⟨_, D1, h1, rfl, hX1, hI.drop 2, .inl hS1⟩)
theorem Xb (ab : Option Addr) (nb cb : Nat) (D : Imm) (w : World) (hH : Holds D w) : y6 Tryz.prog 100 [.agg #[it X.tk.huts, .slice a1 n1 c1, it X.price, it X.fine, it X.wait], .slice ab nb cb] w D (fun v D' => ∃ b2 b3, v = .func (.func 185) #[] #[pt b3, pt b2] ∧ D' b3 = some (.cells (List.toArray [.slice ab nb cb]) 32 (0, 0)) ∧ D' b2 = some (.cells (List.toArray (Q2 X (.slice a1 n1 c1))) 156 (0, 0))) := by
  unfold y6;refine en Tryz.func100 rfl Tryz.ntmps100 (Inv.start hH) (g [[1],[1,0,1]] ?_);refine WL.so (SO.box rfl rfl) rfl (zw fun b2 hb2 => ?_);refine WL.so (SO.box rfl rfl) rfl (zw fun b3 hb3 => ?_);refine g [[4]] ?_;refine WC.freezeN 1 b2 (.cells (List.toArray (Q2 X (.slice a1 n1 c1))) 156 (0, 0)) rfl rfl hb2 (fun D1 hX1 h2 => ?_);refine WC.freezeN 0 b3 (.cells (List.toArray [.slice ab nb cb]) 32 (0, 0)) rfl rfl hb3 (fun D2 hX2 h3 => ?_);replace h2 := hX2.old _ _ h2;refine g [[6,4,3,2]] ?_;refine WP.ret1 rfl rfl rfl (RV.tmp rfl) (fun w1 hI => ⟨_, D2, rfl, hI.keep, hI.imm, hX1.trans hX2 (Nat.le_refl _), b2, b3, rfl, h3, h2⟩)
section
variable (D : Imm) (w : World) (hR : TksR D X.tk a1 n1) (hH : Holds D w) (l : List Ent) (ab : Option Addr) (nb cb : Nat) (hB : xL D l ab nb)
include D w hR hH l ab nb cb hB
theorem Qo (hE : yq X l true ≠ 0) : z8 Tryz.prog 26 [.agg #[it X.tk.huts, .slice a1 n1 c1, it X.price, it X.fine, it X.wait], .slice ab nb cb] w (.tuple #[it (zh X l).1, it (zh X l).2.1, it (zh X l).2.2]) := by
  unfold z8;obtain rfl := hR.tick.len';have hl1 := hR.len;obtain rfl := hB.ent.len';have hlb := hB.len;have hO0 : zh X l = (0, 0, yq X l true) := by unfold zh; rw [Q7 hE, if_pos hE]
  refine enD Tryz.func26 rfl Tryz.ntmps26 (Inv.start hH) (g [[1],[1,0,1]] ?_);refine WL.so (SO.box rfl rfl) rfl (zw fun b2 hb2 => ?_);refine WL.so (SO.alloc ZvF.h rfl) rfl (zw fun b4 hb4 => ?_);refine WL.so (SO.alloc ZvF.h rfl) rfl (zw fun b5 hb5 => ?_);refine WL.so (SO.alloc ZvF.h rfl) rfl (zw fun b6 hb6 => ?_);refine g [[3],[2,6,5,4,2,1]] ?_;refine WL.defer rfl (g [[4],[3,6,5,4,2,1]] ?_);refine WL.nf rfl (fun w hI => kI X a1 _ c1 _ _ hR hI.imm l ab _ cb hB 98 [] true CaF.h (fun w' _ => wa (.bool true) X a1 _ c1 w') hE) (g [[2]] ?_);refine WP.panicD (k := 0) [_, _, _] [_, _, _] rfl CaF.h rfl (fun w hI => Vv _ _ _ _ _ (hI.own _ _ (List.mem_of_getElem? (i := 0) rfl))) rfl zV (fun w hI => ⟨congrArg Ending.returned (by rw [hO0]; rfl), hI.keep⟩)
theorem Qp (hE : yq X l true = 0) (hW : tksE X.tk true ≠ 0) : z8 Tryz.prog 26 [.agg #[it X.tk.huts, .slice a1 n1 c1, it X.price, it X.fine, it X.wait], .slice ab nb cb] w (.tuple #[it (zh X l).1, it (zh X l).2.1, it (zh X l).2.2]) := by
  unfold z8;obtain rfl := hR.tick.len';have hl1 := hR.len;obtain rfl := hB.ent.len';have hlb := hB.len;have hO0 : zh X l = (0, 0, tksE X.tk true) := by unfold zh; rw [Z3 hE, if_pos hW]
  refine enD Tryz.func26 rfl Tryz.ntmps26 (Inv.start hH) (g [[1],[1,0,1]] ?_);refine WL.so (SO.box rfl rfl) rfl (zw fun b2 hb2 => ?_);refine WL.so (SO.alloc ZvF.h rfl) rfl (zw fun b4 hb4 => ?_);refine WL.so (SO.alloc ZvF.h rfl) rfl (zw fun b5 hb5 => ?_);refine WL.so (SO.alloc ZvF.h rfl) rfl (zw fun b6 hb6 => ?_);refine g [[3],[2,6,5,4,2,1]] ?_;refine WL.defer rfl (g [[4],[3,6,5,4,2,1]] ?_);refine WL.cl rfl (fun w hI => ue X a1 _ c1 _ _ hR hI.imm l ab _ cb hB 98 [] true CaF.h (fun w' _ => wa (.bool true) X a1 _ c1 w') hE) ?_;refine WL.nf rfl (fun w hI => Qa X a1 _ c1 _ _ hR hI.imm (by rw [uy]; exact hW)) (g [[2]] ?_);refine WP.panicD (k := 0) [_, _, _] [_, _, _] rfl CaF.h rfl (fun w hI => Vv _ _ _ _ _ (hI.own _ _ (List.mem_of_getElem? (i := 0) rfl))) rfl zV (fun w hI => ⟨congrArg Ending.returned (by rw [hO0, uy]; rfl), hI.keep⟩)
theorem Qq (hE : yq X l true = 0) (hW : tksE X.tk true = 0) : z8 Tryz.prog 26 [.agg #[it X.tk.huts, .slice a1 n1 c1, it X.price, it X.fine, it X.wait], .slice ab nb cb] w (.tuple #[it (zh X l).1, it (zh X l).2.1, it (zh X l).2.2]) := by
  unfold z8;obtain rfl := hR.tick.len';have hl1 := hR.len;obtain rfl := hB.ent.len';have hlb := hB.len;have hE0 : uQ X l = 0 := by rw [Z3 hE, hW]
  refine enM Tryz.func26 rfl Tryz.ntmps26 (Inv.start hH) (g [[1],[1,0,1]] ?_);refine WL.so (SO.box rfl rfl) rfl (zw fun b2 hb2 => ?_);refine WL.so (SO.alloc ZvF.h rfl) rfl (zw fun b4 hb4 => ?_);refine WL.so (SO.alloc ZvF.h rfl) rfl (zw fun b5 hb5 => ?_);refine WL.so (SO.alloc ZvF.h rfl) rfl (zw fun b6 hb6 => ?_);refine g [[3],[2,6,5,4,2,1]] ?_;refine WL.defer rfl (g [[4],[3,6,5,4,2,1]] ?_);refine WL.cl rfl (fun w hI => ue X a1 _ c1 _ _ hR hI.imm l ab _ cb hB 98 [] true CaF.h (fun w' _ => wa (.bool true) X a1 _ c1 w') hE) ?_;refine WL.cl rfl (fun w hI => Qb X a1 _ c1 _ _ hR hI.imm (by rw [uy]; exact hW)) (g [[1]] ?_);refine WL.so (SO.makes (Enters.func Tryz.call100 rfl) (fun w hI => Xb X a1 _ c1 ab _ cb _ _ hI.imm)) rfl ?_;rintro _ D4 _ ⟨hX4, ⟨bt, bb, rfl, hbb, hbt⟩, rfl⟩;replace hB := hB.ext hX4;replace hR := hR.ext hX4;refine g [[3],[0,4,5,6,15]] ?_;refine WC.rangeIterN2 (N := (yH X l l.length).length) (arg1 := fun k => nt (gt (yH X l l.length) k)) (arg2 := fun k => it (xj X l (gt (yH X l l.length) k))) (fun w1 _ hD1 => uS X a1 _ c1 D4 l ab _ cb hB bt bb w1 hR hbt hbb hE hD1) rfl Tryz.call185 rfl rfl (fun k _ h => k = 0 ∧ h = [(b6, .cells (List.toArray [it 0]) 51 (0, 0)), (b5, .cells (List.toArray [it 0]) 3 (0, 0)), (b4, .cells (List.toArray [it 0]) 3 (0, 0)), (b2, .cells (List.toArray [it X.tk.huts, .slice a1 X.tk.l.length c1, it X.price, it X.fine, it X.wait]) 26 (0, 0))]) (fun c _ h => c = .ret ∧ 0 < (yH X l l.length).length ∧ h = [(b6, .cells (List.toArray [it 0]) 51 (0, 0)), (b5, .cells (List.toArray [it (xj X l (gt (yH X l l.length) 0))]) 3 (0, 0)), (b4, .cells (List.toArray [nt (gt (yH X l l.length) 0)]) 3 (0, 0)), (b2, .cells (List.toArray [it X.tk.huts, .slice a1 X.tk.l.length c1, it X.price, it X.fine, it X.wait]) 26 (0, 0))]) (fun _ _ _ _ _ h => h) ⟨rfl, rfl⟩ ?_ ?_ ?_
  · rintro rec1 l1 Dn0 k D5 _ w1 hrec hk ⟨rfl, rfl⟩ hX5 hsz;unfold yP;refine g [[1],[4,17,16,4,5,6],[3,7,17,4,5,6]] ?_;refine WP.iterBegin 0 rfl hrec (g [[2],[10,8,7,4,5,6]] ?_);exact WP.iterRetN (h1 := [_, _, _, _]) (fun _ h => h) (fun h => h) (DExt.refl _ _) ⟨rfl, hk, rfl⟩
  · rintro Dn1 D6 _ hDn1 hX6 ⟨hN, rfl⟩;have hnil := List.eq_nil_of_length_eq_zero hN;refine g [[3],[7,4,5,6]] ?_;refine WP.retMsD [Dn1] [_, _, _, _] [_, _, _] [_, _, _] rfl rfl CaF.h (fun w hI => VX _ _) (fun _ h => h) (fun h => h) rfl zV (fun w hI => ⟨congrArg Ending.returned (by unfold zh; rw [hE0, if_neg (by simp), hnil]; rfl), hI.keep⟩)
  rintro Dn1 c D6 _ hDn1 hX6 ⟨rfl, hN, rfl⟩;refine g [[3]] ?_
  refine WP.retMsD [Dn1] [_, _, _, _] [_, _, _] [_, _, _] rfl rfl CaF.h (fun w hI => VX _ _) (fun _ h => h) (fun h => h) rfl zV (fun w hI => ⟨congrArg Ending.returned (by
    unfold zh;rw [hE0, if_neg (by simp)];cases hbl : (yH X l l.length) with
    | nil => rw [hbl] at hN; simp at hN
    | cons i r => rfl), hI.keep⟩)
theorem V5 : z8 Tryz.prog 26 [.agg #[it X.tk.huts, .slice a1 n1 c1, it X.price, it X.fine, it X.wait], .slice ab nb cb] w (.tuple #[it (zh X l).1, it (zh X l).2.1, it (zh X l).2.2]) := by
  by_cases hE : yq X l true = 0
  · by_cases hW : tksE X.tk true = 0
    · exact Qq X a1 n1 c1 D w hR hH l ab nb cb hB hE hW
    exact Qp X a1 n1 c1 D w hR hH l ab nb cb hB hE hW
  exact Qo X a1 n1 c1 D w hR hH l ab nb cb hB hE
end
end
section
variable (X : Till)
include X
theorem zd9 (D : Imm) (l : List Ent) (ab : Option Addr) (nb cb : Nat) (hB : xL D l ab nb) (b3 : Nat) (h3 : D b3 = some (.cells (List.toArray [.slice ab nb cb]) 32 (0, 0))) (i : Nat) (hi : i < l.length) (hp : 0 ≤ (gt l i).pence ∧ (gt l i).pence ≤ 2400) (w : World) (hH : Holds D w) : z8 Tryz.prog 104 [nt i, pt b3] w (it (ja (gt l i))) := by
  unfold z8;obtain rfl := hB.ent.len';have hlb := hB.len;refine en Tryz.func104 rfl Tryz.ntmps104 (Inv.start hH) (g [[1],[5,0,1],[3,3,0,1]] ?_);refine WL.yd (Yd.ix rfl rfl (hB.ent.addr i (by omega))) rfl (g [[1]] ?_);refine WL.yd (Yd.l1 rfl ((hB.ent.at i (by omega)).rd 2 rfl)) rfl (g [[5],[3,4,3,0,1]] ?_);refine WL.yd (Yd.ix rfl rfl (hB.ent.addr i (by omega))) rfl (g [[1]] ?_);refine WL.yd (Yd.l1 rfl ((hB.ent.at i (by omega)).rd 1 rfl)) rfl (g [[3]] ?_);refine WC.cond rfl (fun c15 => ?_) (fun c15 => ?_)
  · try simp only [zq] at c15
    refine g [[2,4,3]] ?_;refine WL.cl rfl (fun w hI => zbl (gt l i).pence (-1) _ (by omega)) (g [[4],[6,4,3]] ?_);refine WP.ret1 rfl rfl rfl (RV.tmp rfl) (fun w hI => ⟨by unfold ja; rw [if_pos c15], hI.keep⟩)
  try simp only [zq] at c15
  refine g [[3],[6,4,3]] ?_;refine WP.ret1 rfl rfl rfl (RV.tmp rfl) (fun w hI => ⟨by unfold ja; rw [if_neg c15], hI.keep⟩)
section
variable (a1 : Option Addr) (n1 c1 : Nat) (D : Imm) (w : World) (hR : TksR D X.tk a1 n1) (hH : Holds D w) (l : List Ent) (ab : Option Addr) (nb cb : Nat) (hB : xL D l ab nb)
include a1 n1 c1 D w hR hH l ab nb cb hB
theorem zc3 (hE : yq X l true ≠ 0) : z8 Tryz.prog 27 [.agg #[it X.tk.huts, .slice a1 n1 c1, it X.price, it X.fine, it X.wait], .slice ab nb cb] w (.tuple #[it (yh X l).1, it (yh X l).2]) := by
  unfold z8;obtain rfl := hR.tick.len';have hl1 := hR.len;obtain rfl := hB.ent.len';have hlb := hB.len;have hO0 : yh X l = (0, yq X l true) := by unfold yh; rw [Q7 hE, if_pos hE]
  refine enD Tryz.func27 rfl Tryz.ntmps27 (Inv.start hH) (g [[1],[1,0,1]] ?_);refine WL.so (SO.box rfl rfl) rfl (zw fun b2 hb2 => ?_);refine WL.so (SO.box rfl rfl) rfl (zw fun b3 hb3 => ?_);refine WL.so (SO.alloc ZvF.h rfl) rfl (zw fun b4 hb4 => ?_);refine WL.so (SO.alloc ZvF.h rfl) rfl (zw fun b5 hb5 => ?_);refine g [[3],[2,5,4,3,2]] ?_;refine WL.defer rfl (g [[4]] ?_);refine WC.freezeN 3 b2 (.cells (List.toArray [it X.tk.huts, .slice a1 X.tk.l.length c1, it X.price, it X.fine, it X.wait]) 26 (0, 0)) rfl rfl hb2 (fun D2 hX2 h2 => ?_);replace hR := hR.ext hX2;replace hB := hB.ext hX2;refine WC.freezeN 2 b3 (.cells (List.toArray [.slice ab l.length cb]) 32 (0, 0)) rfl rfl hb3 (fun D3 hX3 h3 => ?_);replace h2 := hX3.old _ _ h2;replace hR := hR.ext hX3;replace hB := hB.ext hX3;refine g [[0,5,4,3,2]] ?_;refine WC.drawH [] zk (fun _ hI => hI.drop 99) (g [[1000],[1001],[1004]] ?_);refine WH.one (i := 2) zk (WHo.no rfl (SO.fail (Enters.func CaF.h rfl) (fun w hI => kI X a1 _ c1 _ _ hR hI.imm l ab _ cb hB 98 [] true CaF.h (fun w' _ => wa (.bool true) X a1 _ c1 w') hE) (g [[2]] ?_)));refine WP.panicD (k := 0) [_, _] [_, _] rfl CaF.h rfl (fun w hI => Xc _ _ _ _ _ (hI.own _ _ (List.mem_of_getElem? (i := 0) rfl))) rfl zV (fun w hI => ⟨congrArg Ending.returned (by rw [hO0]; rfl), hI.keep⟩)
theorem zc4 (hE : yq X l true = 0) (hW : tksE X.tk true ≠ 0) : z8 Tryz.prog 27 [.agg #[it X.tk.huts, .slice a1 n1 c1, it X.price, it X.fine, it X.wait], .slice ab nb cb] w (.tuple #[it (yh X l).1, it (yh X l).2]) := by
  unfold z8;obtain rfl := hR.tick.len';have hl1 := hR.len;obtain rfl := hB.ent.len';have hlb := hB.len;have hO0 : yh X l = (0, tksE X.tk true) := by unfold yh; rw [Z3 hE, if_pos hW]
  refine enD Tryz.func27 rfl Tryz.ntmps27 (Inv.start hH) (g [[1],[1,0,1]] ?_);refine WL.so (SO.box rfl rfl) rfl (zw fun b2 hb2 => ?_);refine WL.so (SO.box rfl rfl) rfl (zw fun b3 hb3 => ?_);refine WL.so (SO.alloc ZvF.h rfl) rfl (zw fun b4 hb4 => ?_);refine WL.so (SO.alloc ZvF.h rfl) rfl (zw fun b5 hb5 => ?_);refine g [[3],[2,5,4,3,2]] ?_;refine WL.defer rfl (g [[4]] ?_);refine WC.freezeN 3 b2 (.cells (List.toArray [it X.tk.huts, .slice a1 X.tk.l.length c1, it X.price, it X.fine, it X.wait]) 26 (0, 0)) rfl rfl hb2 (fun D2 hX2 h2 => ?_);replace hR := hR.ext hX2;replace hB := hB.ext hX2;refine WC.freezeN 2 b3 (.cells (List.toArray [.slice ab l.length cb]) 32 (0, 0)) rfl rfl hb3 (fun D3 hX3 h3 => ?_);replace h2 := hX3.old _ _ h2;replace hR := hR.ext hX3;replace hB := hB.ext hX3;refine g [[0,5,4,3,2]] ?_;refine WC.drawH [] zk (fun _ hI => hI.drop 99) (g [[1000],[1001],[1004]] ?_);refine WH.one (i := 2) zk (WHo.so rfl (SO.callP CaF.h rfl (fun w hI => ue X a1 _ c1 _ _ hR hI.imm l ab _ cb hB 98 [] true CaF.h (fun w' _ => wa (.bool true) X a1 _ c1 w') hE)) rfl (zs ⟨(fun _ hI => hI.drop 99), ?_⟩));refine WH.one (i := 3) zk (WHo.no rfl (SO.fail (Enters.func CaF.h rfl) (fun w hI => Qa X a1 _ c1 _ _ hR hI.imm (by rw [uy]; exact hW)) (g [[2]] ?_)));refine WP.panicD (k := 0) [_, _] [_, _] rfl CaF.h rfl (fun w hI => Xc _ _ _ _ _ (hI.own _ _ (List.mem_of_getElem? (i := 0) rfl))) rfl zV (fun w hI => ⟨congrArg Ending.returned (by rw [hO0, uy]; rfl), hI.keep⟩)
theorem zc6 (hE : yq X l true = 0) (hW : tksE X.tk true = 0) : z8 Tryz.prog 27 [.agg #[it X.tk.huts, .slice a1 n1 c1, it X.price, it X.fine, it X.wait], .slice ab nb cb] w (.tuple #[it (yh X l).1, it (yh X l).2]) := by
  unfold z8;obtain rfl := hR.tick.len';have hl1 := hR.len;obtain rfl := hB.ent.len';have hlb := hB.len;have hE0 : uQ X l = 0 := by rw [Z3 hE, hW]
  refine enM Tryz.func27 rfl Tryz.ntmps27 (Inv.start hH) (g [[1],[1,0,1]] ?_);refine WL.so (SO.box rfl rfl) rfl (zw fun b2 hb2 => ?_);refine WL.so (SO.box rfl rfl) rfl (zw fun b3 hb3 => ?_);refine WL.so (SO.alloc ZvF.h rfl) rfl (zw fun b4 hb4 => ?_);refine WL.so (SO.alloc ZvF.h rfl) rfl (zw fun b5 hb5 => ?_);refine g [[3],[2,5,4,3,2]] ?_;refine WL.defer rfl (g [[4]] ?_);refine WC.freezeN 3 b2 (.cells (List.toArray [it X.tk.huts, .slice a1 X.tk.l.length c1, it X.price, it X.fine, it X.wait]) 26 (0, 0)) rfl rfl hb2 (fun D2 hX2 h2 => ?_);replace hR := hR.ext hX2;replace hB := hB.ext hX2;refine WC.freezeN 2 b3 (.cells (List.toArray [.slice ab l.length cb]) 32 (0, 0)) rfl rfl hb3 (fun D3 hX3 h3 => ?_);replace h2 := hX3.old _ _ h2;replace hR := hR.ext hX3;replace hB := hB.ext hX3;refine g [[0,5,4,3,2]] ?_;refine WC.drawH [] zk (fun _ hI => hI.drop 99) (g [[1000],[1001],[1004]] ?_);refine WH.one (i := 2) zk (WHo.so rfl (SO.callP CaF.h rfl (fun w hI => ue X a1 _ c1 _ _ hR hI.imm l ab _ cb hB 98 [] true CaF.h (fun w' _ => wa (.bool true) X a1 _ c1 w') hE)) rfl (zs ⟨(fun _ hI => hI.drop 99), ?_⟩));refine WH.one (i := 3) zk (WHo.so rfl (SO.callP CaF.h rfl (fun w hI => Qb X a1 _ c1 _ _ hR hI.imm (by rw [uy]; exact hW))) rfl (zs ⟨(fun _ hI => hI.drop 99), ?_⟩));refine WH.one (i := 5) zk (WHo.so rfl (SO.makes (Enters.func Tryz.call100 rfl) (fun w hI => Xb X a1 _ c1 ab _ cb _ _ hI.imm)) rfl ?_);rintro _ D4 _ ⟨hX4, ⟨bt, bb, rfl, hbb, hbt⟩, rfl⟩;replace hB := hB.ext hX4;replace hR := hR.ext hX4;replace h3 := hX4.old _ _ h3;refine ⟨(fun _ hI => (hI.drop 99).shrink hX4.old), ?_⟩;refine WH.nil zk (g [[2],[0,3,4,5,12]] ?_);refine WC.rangeIterN2 (N := (yH X l l.length).length) (arg1 := fun k => nt (gt (yH X l l.length) k)) (arg2 := fun k => it (xj X l (gt (yH X l l.length) k))) (fun w1 _ hD1 => uS X a1 _ c1 D4 l ab _ cb hB bt bb w1 hR hbt hbb hE hD1) rfl Tryz.call185 rfl rfl (fun k _ h => k = 0 ∧ h = [(b5, .cells (List.toArray [it 0]) 51 (0, 0)), (b4, .cells (List.toArray [it 0]) 3 (0, 0))]) (fun c _ h => c = .ret ∧ 0 < (yH X l l.length).length ∧ h = [(b5, .cells (List.toArray [it 11]) 51 (0, 0)), (b4, .cells (List.toArray [it 0]) 3 (0, 0))]) (fun _ _ _ _ _ h => h) ⟨rfl, rfl⟩ ?_ ?_ ?_
  · rintro rec1 l1 Dn0 k D5 _ w1 hrec hk ⟨rfl, rfl⟩ hX5 hsz;unfold yP;refine g [[1]] ?_;refine WP.iterBegin 0 rfl hrec (g [[2],[7,4,5]] ?_);exact WP.iterRetN (h1 := [_, _]) (fun _ h => h) (fun h => h) (DExt.refl _ _) ⟨rfl, hk, rfl⟩
  · rintro Dn1 D6 _ hDn1 hX6 ⟨hN, rfl⟩;have hnil := List.eq_nil_of_length_eq_zero hN;have hpk : ∀ i, i < l.length → 0 ≤ (gt l i).pence ∧ (gt l i).pence ≤ 2400 := (fun i hi => Vu (vo hE).1 (ZX (Xa hnil i hi)));replace h3 := hX6.old _ _ h3;replace hB := hB.ext hX6;refine g [[3],[5,3,4,5]] ?_;refine WL.so (SO.makes (Enters.func Tryz.call103 rfl) (fun w hI => Xm l.length hlb 104 [pt b3] (fun i => ja (gt l i)) D6 _ hI.imm Tryz.call104 (fun i hi w' hH' => zd9 X D6 l ab _ cb hB b3 h3 i hi (hpk i hi) w' hH'))) rfl ?_;rintro _ D7 _ ⟨hX7, ⟨a9, c9, rfl, hS9⟩, rfl⟩;refine WL.cl rfl (fun w hI => Qd ((List.range l.length).map fun i => ja (gt l i)) a9 _ c9 D7 _ hS9 hlb (by intro k hk; simp only [List.length_map, List.length_range] at hk; have h1 := hpk k hk; rw [show gt ((List.range l.length).map fun i => ja (gt l i)) k = ja (gt l k) by simp [gt, List.getD, hk]]; unfold ja; split <;> omega) hI.imm) (g [[5]] ?_);refine WP.retMsD [Dn1] [_, _] [_, _] [_, _] rfl rfl CaF.h (fun w hI => Xp _ _) (fun _ h => h) (fun h => h) rfl zV (fun w hI => ⟨congrArg Ending.returned (by unfold yh; rw [hE0, if_neg (by simp), if_neg (by rw [hnil]; simp)]; rfl), hI.keep⟩)
  rintro Dn1 c D6 _ hDn1 hX6 ⟨rfl, hN, rfl⟩;refine g [[3]] ?_;refine WP.retMsD [Dn1] [_, _] [_, _] [_, _] rfl rfl CaF.h (fun w hI => Xp _ _) (fun _ h => h) (fun h => h) rfl zV (fun w hI => ⟨congrArg Ending.returned (by unfold yh; rw [hE0, if_neg (by simp), if_pos (List.ne_nil_of_length_pos hN)]; rfl), hI.keep⟩)
theorem zc5 : z8 Tryz.prog 27 [.agg #[it X.tk.huts, .slice a1 n1 c1, it X.price, it X.fine, it X.wait], .slice ab nb cb] w (.tuple #[it (yh X l).1, it (yh X l).2]) := by
  by_cases hE : yq X l true = 0
  · by_cases hW : tksE X.tk true = 0
    · exact zc6 X a1 n1 c1 D w hR hH l ab nb cb hB hE hW
    exact zc4 X a1 n1 c1 D w hR hH l ab nb cb hB hE hW
  exact zc3 X a1 n1 c1 D w hR hH l ab nb cb hB hE
end
end
end Go.Proofs.YtejgofaeafphjaaGreatDoor
namespace Go.Ti
open Go.W
structure Mark where
  minute : Int
  high : Sp
deriving DecidableEq, Inhabited
structure Look where
  place : Int
  minute : Int
  depth : Sp
deriving DecidableEq, Inhabited
structure Tide where
  marks : List Mark
  sand : List Sp
  looks : List Look
deriving DecidableEq, Inhabited
def zA (s : Sp) : Bool := decide (0 ≤ s.lo ∧ s.lo ≤ s.hi ∧ s.hi ≤ 60)
def y2 (s : Sp) : Bool := zA s && decide (s.hi - s.lo ≤ 2)
def vH (T : Tide) (i : Nat) : Bool := decide (i = 0 ∨ (gt T.marks (i - 1)).minute + 6 ≤ (gt T.marks i).minute)
def qW (T : Tide) (i : Nat) : Bool := inB (gt T.marks i).minute 0 240 && y2 (gt T.marks i).high && vH T i
def jI (T : Tide) : Int := (gt T.marks 0).minute
def wB (T : Tide) : Int := (gt T.marks (T.marks.length - 1)).minute
def yO (T : Tide) (n : Int) : Bool := decide (0 ≤ n ∧ n ≤ (T.sand.length : Int) - 1)
def zx (T : Tide) (n : Int) : Bool := decide (jI T ≤ n ∧ n ≤ wB T)
def lookB (T : Tide) (l : Look) : Bool := yO T l.place && zx T l.minute && zA l.depth
def zQ (T : Tide) : Bool := decide (2 ≤ T.marks.length ∧ T.marks.length ≤ 4) && decide (1 ≤ T.sand.length ∧ T.sand.length ≤ 4) && decide (T.looks.length ≤ 6) &&
  (List.range T.marks.length).all (qW T) && T.sand.all y2 && T.looks.all (lookB T)
structure zG (T : Tide) : Prop where
  nm : 2 ≤ T.marks.length ∧ T.marks.length ≤ 4
  ns : 1 ≤ T.sand.length ∧ T.sand.length ≤ 4
  nl : T.looks.length ≤ 6
  mark : ∀ i, i < T.marks.length → (0 ≤ (gt T.marks i).minute ∧ (gt T.marks i).minute ≤ 240) ∧ y2 (gt T.marks i).high = true
  apart : ∀ i, i + 1 < T.marks.length → (gt T.marks i).minute + 6 ≤ (gt T.marks (i + 1)).minute
  sand : ∀ i, i < T.sand.length → y2 (gt T.sand i) = true
  look : ∀ i, i < T.looks.length → lookB T (gt T.looks i) = true
theorem zl {T : Tide} {i : Nat} : qW T i = true ↔ ((0 ≤ (gt T.marks i).minute ∧ (gt T.marks i).minute ≤ 240) ∧ y2 (gt T.marks i).high = true) ∧ (i = 0 ∨ (gt T.marks (i - 1)).minute + 6 ≤ (gt T.marks i).minute) := by
  simp only [qW, vH, inB, Bool.and_eq_true, decide_eq_true_eq]
theorem yK {T : Tide} : zQ T = true ↔ zG T := by
  simp only [zQ, Bool.and_eq_true, decide_eq_true_eq, List.all_eq_true, List.mem_range];constructor
  · rintro ⟨⟨⟨⟨⟨a, b⟩, c⟩, d⟩, e⟩, f⟩
    exact ⟨a, b, c, fun i hi => (zl.1 (d i hi)).1, fun i hi => (by
      rcases (zl.1 (d (i + 1) hi)).2 with h | h
      · omega
      · simpa using h), fun i hi => e _ (yE hi), fun i hi => f _ (yE hi)⟩
  · intro h;refine ⟨⟨⟨⟨⟨h.nm, h.ns⟩, h.nl⟩, fun i hi => zl.2 ⟨h.mark i hi, ?_⟩⟩, fun x hx => ?_⟩, fun x hx => ?_⟩
    · rcases Nat.eq_zero_or_pos i with rfl | h0
      · exact .inl rfl
      · exact .inr (by have := h.apart (i - 1) (by omega); rwa [show i - 1 + 1 = i by omega] at this)
    · obtain ⟨i, hi, rfl⟩ := uU hx; exact h.sand i hi
    · obtain ⟨i, hi, rfl⟩ := uU hx; exact h.look i hi
theorem ws {s : Sp} : y2 s = true ↔ (0 ≤ s.lo ∧ s.lo ≤ s.hi ∧ s.hi ≤ 60) ∧ s.hi - s.lo ≤ 2 := by
  simp only [y2, zA, Bool.and_eq_true, decide_eq_true_eq]
theorem zG.rise {T : Tide} (h : zG T) : ∀ d i, i + d < T.marks.length → (gt T.marks i).minute + 6 * (d : Int) ≤ (gt T.marks (i + d)).minute
  | 0, i, _ => by simp
  | d + 1, i, hi => by
    have h1 := h.rise d i (by omega);have h2 := h.apart (i + d) (by omega);rw [show i + (d + 1) = i + d + 1 by omega];push_cast;omega
theorem zG.less {T : Tide} (h : zG T) {i j : Nat} (hij : i < j) (hj : j < T.marks.length) : (gt T.marks i).minute + 6 ≤ (gt T.marks j).minute := by
  have := h.rise (j - i) i (by omega);rw [show i + (j - i) = j by omega] at this;omega
def doneN : Nat → Int
  | 0 => 0 | 1 => 1 | 2 => 3 | 3 => 6 | 4 => 9 | 5 => 11 | _ => 12
def donL : List Int := [0, 1, 3, 6, 9, 11, 12]
theorem qj (k : Nat) : 0 ≤ doneN k ∧ doneN k ≤ 12 := by
  unfold doneN; split <;> omega
theorem qG (k : Nat) : doneN k ≤ doneN (k + 1) ∧ doneN (k + 1) - doneN k ≤ 3 := by
  match k with
  | 0 | 1 | 2 | 3 | 4 => decide
  | 5 => decide
  | k + 6 => exact ⟨Int.le_refl _, by show (12 : Int) - 12 ≤ 3; omega⟩
def wi (T : Tide) (m : Int) : Nat → Nat → Nat
  | 0, i => i
  | n + 1, i => if m ≤ (gt T.marks i).minute then i else wi T m n (i + 1)
def xf (T : Tide) (m : Int) : Nat := max 1 (wi T m T.marks.length 0)
theorem uC (T : Tide) (m : Int) : ∀ n i, (∀ j, j < i → (gt T.marks j).minute < m) → (∀ j, j < wi T m n i → (gt T.marks j).minute < m) ∧ wi T m n i ≤ i + n ∧ (wi T m n i < i + n → m ≤ (gt T.marks (wi T m n i)).minute)
  | 0, i, h => ⟨h, Nat.le_refl _, fun h => absurd h (Nat.lt_irrefl _)⟩
  | n + 1, i, h => by
    rw [wi];split
    · rename_i hm
      exact ⟨h, by omega, fun _ => hm⟩
    · rename_i hm
      have := uC T m n (i + 1) (zZ h (by omega));exact ⟨this.1, by omega, fun h2 => this.2.2 (by omega)⟩
theorem jH {T : Tide} (h : zG T) {m : Int} (hm : m ≤ wB T) : wi T m T.marks.length 0 < T.marks.length := by
  have h1 := uC T m T.marks.length 0 (fun j hj => absurd hj (Nat.not_lt_zero _));have h2 := h.nm;rcases Nat.lt_or_ge (wi T m T.marks.length 0) T.marks.length with h3 | h3
  · exact h3
  · have := h1.1 (T.marks.length - 1) (by omega);unfold wB at hm;omega
def q8 (L x : Int) : Int := doneN (6 * x / L).toNat * L + if 0 < 6 * x % L then (doneN ((6 * x / L).toNat + 1) - doneN (6 * x / L).toNat) * (6 * x % L) else 0
def jY (T : Tide) (h : Nat → Int) (m : Int) (k : Nat) : Int :=
  (h (k - 1) * (12 * ((gt T.marks k).minute - (gt T.marks (k - 1)).minute) - q8 ((gt T.marks k).minute - (gt T.marks (k - 1)).minute) (m - (gt T.marks (k - 1)).minute)) + h k * q8 ((gt T.marks k).minute - (gt T.marks (k - 1)).minute) (m - (gt T.marks (k - 1)).minute)) / (12 * ((gt T.marks k).minute - (gt T.marks (k - 1)).minute))
def y5 (T : Tide) (h : Nat → Int) (m : Int) : Int := jY T h m (xf T m)
theorem ud {T : Tide} (h : zG T) {m : Int} (hm : zx T m = true) : 1 ≤ xf T m ∧ xf T m < T.marks.length ∧ (gt T.marks (xf T m - 1)).minute ≤ m ∧ m ≤ (gt T.marks (xf T m)).minute ∧ (xf T m = 1 ∨ (gt T.marks (xf T m - 1)).minute < m) := by
  have hm' : jI T ≤ m ∧ m ≤ wB T := by simpa [zx] using hm
  have h1 := uC T m T.marks.length 0 (fun j hj => absurd hj (Nat.not_lt_zero _));have h2 := jH h hm'.2;have h3 := h1.2.2 (by omega);have hn := h.nm;rcases Nat.eq_zero_or_pos (wi T m T.marks.length 0) with e | e
  · have e2 : xf T m = 1 := by unfold xf; omega
    rw [e] at h3;have h5 := h.less (i := 0) (j := 1) (by omega) (by omega);have h4 : jI T = (gt T.marks 0).minute := rfl;rw [e2];exact ⟨by omega, by omega, by show (gt T.marks 0).minute ≤ m; omega, by omega, .inl rfl⟩
  · have e2 : xf T m = wi T m T.marks.length 0 := by unfold xf; omega
    have h5 := h1.1 (wi T m T.marks.length 0 - 1) (by omega);rw [e2];exact ⟨by omega, by omega, by omega, h3, .inr h5⟩
theorem XF {L x : Int} (hL : 0 < L) (h0 : 0 ≤ x) (hx : x ≤ L) : 0 ≤ 6 * x / L ∧ 6 * x / L ≤ 6 ∧ 0 ≤ 6 * x % L ∧ 6 * x % L < L ∧ 0 ≤ q8 L x ∧ q8 L x ≤ 12 * L ∧ (6 * x / L = 6 → 6 * x % L = 0) := by
  have h1 : 0 ≤ 6 * x / L := Int.ediv_nonneg (by omega) (by omega)
  have h2 : 6 * x / L ≤ 6 := by
    have : 6 * x / L ≤ 6 * L / L := Int.ediv_le_ediv hL (by omega)
    rwa [Int.mul_ediv_cancel _ (by omega)] at this
  have h3 : 0 ≤ 6 * x % L := Int.emod_nonneg _ (by omega);have h4 : 6 * x % L < L := Int.emod_lt_of_pos _ hL;have h5 := Int.mul_ediv_add_emod (6 * x) L
  have h6 : 6 * x / L = 6 → 6 * x % L = 0 := fun e => by
    rw [e] at h5; omega
  refine ⟨h1, h2, h3, h4, ?_, ?_, h6⟩
  · unfold q8;have a := (qj (6 * x / L).toNat).1;have b := (qG (6 * x / L).toNat).1;have c : 0 ≤ doneN (6 * x / L).toNat * L := Int.mul_nonneg a (by omega);split
    · have : 0 ≤ (doneN ((6 * x / L).toNat + 1) - doneN (6 * x / L).toNat) * (6 * x % L) := Int.mul_nonneg (by omega) h3;omega
    · omega
  · unfold q8;have a := (qj ((6 * x / L).toNat + 1)).2;have b := (qG (6 * x / L).toNat).1;split
    · have c : (doneN ((6 * x / L).toNat + 1) - doneN (6 * x / L).toNat) * (6 * x % L) ≤ (doneN ((6 * x / L).toNat + 1) - doneN (6 * x / L).toNat) * L := Int.mul_le_mul_of_nonneg_left (by omega) (by omega);have d : doneN (6 * x / L).toNat * L + (doneN ((6 * x / L).toNat + 1) - doneN (6 * x / L).toNat) * L = doneN ((6 * x / L).toNat + 1) * L := by rw [← Int.add_mul]; congr 1; omega
      have e : doneN ((6 * x / L).toNat + 1) * L ≤ 12 * L := Int.mul_le_mul_of_nonneg_right a (by omega);omega
    · have e : doneN (6 * x / L).toNat * L ≤ 12 * L := Int.mul_le_mul_of_nonneg_right (qj _).2 (by omega);omega
theorem Y1 {a b L f : Int} (hL : 0 < L) (ha : 0 ≤ a ∧ a ≤ 60) (hb : 0 ≤ b ∧ b ≤ 60) (hf : 0 ≤ f ∧ f ≤ 12 * L) : 0 ≤ (a * (12 * L - f) + b * f) / (12 * L) ∧ (a * (12 * L - f) + b * f) / (12 * L) ≤ 60 ∧ 0 ≤ a * (12 * L - f) ∧ a * (12 * L - f) ≤ 60 * (12 * L) ∧ 0 ≤ b * f ∧ b * f ≤ 60 * (12 * L) ∧ a * (12 * L - f) + b * f ≤ 60 * (12 * L) := by
  have h1 : 0 ≤ a * (12 * L - f) := Int.mul_nonneg ha.1 (by omega);have h2 : 0 ≤ b * f := Int.mul_nonneg hb.1 hf.1;have h3 : a * (12 * L - f) ≤ 60 * (12 * L - f) := Int.mul_le_mul_of_nonneg_right ha.2 (by omega);have h4 : b * f ≤ 60 * f := Int.mul_le_mul_of_nonneg_right hb.2 hf.1;refine ⟨Int.ediv_nonneg (by omega) (by omega), ?_, h1, by omega, h2, by omega, by omega⟩;have h5 : (a * (12 * L - f) + b * f) / (12 * L) ≤ 60 * (12 * L) / (12 * L) := Int.ediv_le_ediv (by omega) (by omega)
  rwa [Int.mul_ediv_cancel _ (by omega)] at h5
def zbB (T : Tide) (h : Nat → Int) : Prop := ∀ i, i < T.marks.length → 0 ≤ h i ∧ h i ≤ 60
theorem uO {T : Tide} (hT : zG T) {h : Nat → Int} (hh : zbB T h) {m : Int} (hm : zx T m = true) : 0 ≤ y5 T h m ∧ y5 T h m ≤ 60 := by
  obtain ⟨h1, h2, h3, h4, _⟩ := ud hT hm;have h5 := hT.less (i := xf T m - 1) (j := xf T m) (by omega) h2;obtain ⟨_, _, _, _, h6, h7, _⟩ := XF (L := (gt T.marks (xf T m)).minute - (gt T.marks (xf T m - 1)).minute) (x := m - (gt T.marks (xf T m - 1)).minute) (by omega) (by omega) (by omega);have := Y1 (L := (gt T.marks (xf T m)).minute - (gt T.marks (xf T m - 1)).minute) (by omega) (hh (xf T m - 1) (by omega)) (hh (xf T m) h2) ⟨h6, h7⟩;exact ⟨this.1, this.2.1⟩
def zcF : Nat → Int
  | 0 => 1 | 1 => 2 | 2 => 3 | 3 => 3 | 4 => 2 | _ => 1
def Jo (L x : Int) : Int := doneN (6 * x / L).toNat * L + zcF (6 * x / L).toNat * (6 * x % L)
def UU (T : Tide) (h : Nat → Int) (m : Int) (k : Nat) : Int :=
  (h (k - 1) * (12 * ((gt T.marks k).minute - (gt T.marks (k - 1)).minute) - Jo ((gt T.marks k).minute - (gt T.marks (k - 1)).minute) (m - (gt T.marks (k - 1)).minute)) + h k * Jo ((gt T.marks k).minute - (gt T.marks (k - 1)).minute) (m - (gt T.marks (k - 1)).minute)) / (12 * ((gt T.marks k).minute - (gt T.marks (k - 1)).minute))
def goR (T : Tide) (h : Nat → Int) (m : Int) : Nat → Nat → Int
  | 0, _ => h 0
  | n + 1, i => if m = (gt T.marks i).minute then h i else if (gt T.marks (i - 1)).minute ≤ m ∧ m < (gt T.marks i).minute then UU T h m i else goR T h m n (i + 1)
def kX (T : Tide) (h : Nat → Int) (m : Int) : Int := goR T h m (T.marks.length - 1) 1
theorem Uf {L x : Int} (hL : 0 < L) (h0 : 0 ≤ x) (hx : x < L) : q8 L x = Jo L x := by
  have h2 : 6 * x / L < 6 := Int.ediv_lt_of_lt_mul hL (by omega);have h1 : 0 ≤ 6 * x / L := Int.ediv_nonneg (by omega) (by omega);have h3 : 0 ≤ 6 * x % L := Int.emod_nonneg _ (by omega);unfold q8 Jo;obtain ⟨k, hk⟩ : ∃ k : Nat, 6 * x / L = k := ⟨(6 * x / L).toNat, by omega⟩;rw [hk];have hk6 : k < 6 := by omega
  have e : doneN (k + 1) - doneN k = zcF k := by
    match k, hk6 with
    | 0, _ | 1, _ | 2, _ | 3, _ | 4, _ | 5, _ => rfl
  simp only [Int.toNat_natCast];split
  · rw [e]
  · rename_i h
    have : 6 * x % L = 0 := by omega
    rw [this, Int.mul_zero]
theorem Jp {L : Int} (hL : 0 < L) : q8 L L = 12 * L := by
  have h1 : 6 * L / L = 6 := Int.mul_ediv_cancel _ (by omega);have h2 : 6 * L % L = 0 := Int.mul_emod_left _ _;unfold q8;rw [h1, h2, if_neg (by omega)]
  show doneN 6 * L + 0 = _;rw [Int.add_zero]; rfl
theorem Kr {T : Tide} (hT : zG T) (h : Nat → Int) {m : Int} {k : Nat} (hk : k < T.marks.length) (hlo : (gt T.marks (k - 1)).minute ≤ m) (hhi : m ≤ (gt T.marks k).minute) (h1 : k = 1 ∨ (gt T.marks (k - 1)).minute < m) : ∀ d i, 1 ≤ i → i + d = k → goR T h m (T.marks.length - i) i = if m = (gt T.marks k).minute then h k else UU T h m k
  | 0, i, hi, e => by
    obtain rfl : i = k := by omega
    rw [show T.marks.length - i = (T.marks.length - i - 1) + 1 by omega, goR];split
    · rfl
    · rw [if_pos ⟨hlo, by omega⟩]
  | d + 1, i, hi, e => by
    rw [show T.marks.length - i = (T.marks.length - (i + 1)) + 1 by omega, goR];have h2 := hT.less (i := i) (j := k) (by omega) hk
    have h3 : (gt T.marks i).minute < m := by
      rcases h1 with h1 | h1
      · omega
      · rcases Nat.lt_or_ge i (k - 1) with h4 | h4
        · have := hT.less (i := i) (j := k - 1) h4 (by omega); omega
        · have : i = k - 1 := by omega
          rw [this]; exact h1
    rw [if_neg (by omega), if_neg (by omega)];exact Kr hT h hk hlo hhi h1 d (i + 1) (by omega) (by omega)
theorem xk {T : Tide} (hT : zG T) (h : Nat → Int) {m : Int} (hm : zx T m = true) : y5 T h m = kX T h m := by
  obtain ⟨h1, h2, h3, h4, h5⟩ := ud hT hm;have h6 := hT.less (i := xf T m - 1) (j := xf T m) (by omega) h2;unfold kX;rw [Kr hT h h2 h3 h4 h5 (xf T m - 1) 1 (Nat.le_refl _) (by omega)];unfold y5;generalize xf T m = k at *;split
  · rename_i e
    unfold jY;rw [e, Jp (by omega), Int.sub_self, Int.mul_zero, Int.zero_add];exact Int.mul_ediv_cancel _ (by omega)
  · unfold jY UU;rw [Uf (by omega) (by omega) (by omega)]
end Go.Ti
namespace Go.Ti
open Go.W
abbrev Hts := Nat → Int
def updH (h : Hts) (k : Nat) (n : Int) : Hts := fun j => if j = k then n else h j
theorem vq (h : Hts) (k : Nat) (n : Int) : updH h k n k = n := if_pos rfl
theorem jl (h : Hts) {k j : Nat} (n : Int) (e : j ≠ k) : updH h k n j = h j := if_neg e
def Zb : Hts := fun _ => 0
def hsL (T : Tide) : Nat → Hts → Nat → List Hts
  | 0, h, _ => [h]
  | r + 1, h, k => (rng (gt T.marks k).high.lo (gt T.marks k).high.hi).flatMap fun n => hsL T r (updH h k n) (k + 1)
def fitB (l : Look) (w n : Int) : Bool := decide (l.depth.lo ≤ max 0 (w - n) ∧ max 0 (w - n) ≤ l.depth.hi)
def kQ (T : Tide) (h : Hts) (p : Nat) (n : Int) : Bool := T.looks.all fun l => !decide (l.place = (p : Int)) || fitB l (y5 T h l.minute) n
def setL (T : Tide) (h : Hts) (p : Nat) : List Int := (rng (gt T.sand p).lo (gt T.sand p).hi).filter (kQ T h p)
def truB (T : Tide) (h : Hts) : Bool := (List.range T.sand.length).all fun p => !(setL T h p).isEmpty
def tdL (T : Tide) : List Hts := (hsL T T.marks.length Zb 0).filter (truB T)
structure Yk (T : Tide) (h : Hts) : Prop where
  at_ : ∀ i, i < T.marks.length → (gt T.marks i).high.lo ≤ h i ∧ h i ≤ (gt T.marks i).high.hi
  rest : ∀ i, T.marks.length ≤ i → h i = 0
theorem YK {T : Tide} : ∀ (r : Nat) (h : Hts) (k : Nat) (x : Hts), x ∈ hsL T r h k ↔ (∀ i, i < k → x i = h i) ∧ (∀ i, k ≤ i → i < k + r → (gt T.marks i).high.lo ≤ x i ∧ x i ≤ (gt T.marks i).high.hi) ∧ (∀ i, k + r ≤ i → x i = h i)
  | 0, h, k, x => by
    rw [hsL, List.mem_singleton];constructor
    · rintro rfl;exact ⟨fun _ _ => rfl, fun i h1 h2 => by omega, fun _ _ => rfl⟩
    · rintro ⟨h1, _, h3⟩;funext i;rcases Nat.lt_or_ge i k with h4 | h4
      · exact h1 i h4
      · exact h3 i (by omega)
  | r + 1, h, k, x => by
    rw [hsL, List.mem_flatMap];constructor
    · rintro ⟨n, hn, hx⟩;rw [YK r] at hx;obtain ⟨h1, h2, h3⟩ := hx;rw [vT] at hn;refine ⟨fun i hi => by rw [h1 i (by omega), jl h n (by omega)], fun i hi1 hi2 => ?_, fun i hi => by rw [h3 i (by omega), jl h n (by omega)]⟩;rcases Nat.eq_or_lt_of_le hi1 with e | e
      · subst e; rw [h1 k (by omega), vq]; exact hn
      · exact h2 i e (by omega)
    · rintro ⟨h1, h2, h3⟩;refine ⟨x k, vT.2 (h2 k (Nat.le_refl _) (by omega)), ?_⟩;rw [YK r];refine ⟨fun i hi => ?_, fun i hi1 hi2 => h2 i (by omega) (by omega), fun i hi => ?_⟩
      · by_cases e : i = k
        · subst e; rw [vq]
        · rw [jl h _ e]; exact h1 i (by omega)
      · rw [jl h _ (by omega)]; exact h3 i (by omega)
section
variable {T : Tide}
include T
theorem zaI {x : Hts} : x ∈ hsL T T.marks.length Zb 0 ↔ Yk T x := by
  rw [YK];constructor
  · rintro ⟨_, h2, h3⟩;exact ⟨fun i hi => h2 i (Nat.zero_le _) (by omega), fun i hi => h3 i (by omega)⟩
  · intro h;exact ⟨fun i hi => absurd hi (Nat.not_lt_zero _), fun i _ hi => h.at_ i (by omega), fun i hi => h.rest i (by omega)⟩
theorem Yk.high (hT : zG T) {h : Hts} (hh : Yk T h) : zbB T h := fun i hi => by
  have h1 := ws.1 (hT.mark i hi).2;have h2 := hh.at_ i hi;omega
theorem qZ {h : Hts} : h ∈ tdL T ↔ Yk T h ∧ ∀ p, p < T.sand.length → setL T h p ≠ [] := by
  rw [tdL, List.mem_filter, zaI, truB, List.all_eq_true];simp only [List.mem_range, Bool.not_eq_true', List.isEmpty_eq_false_iff]
theorem qu {h : Hts} {p : Nat} {n : Int} : n ∈ setL T h p ↔ ((gt T.sand p).lo ≤ n ∧ n ≤ (gt T.sand p).hi) ∧ kQ T h p n = true := by
  rw [setL, List.mem_filter, vT]
theorem kT (hT : zG T) {h : Hts} {p : Nat} (hp : p < T.sand.length) {n : Int} (hn : n ∈ setL T h p) : 0 ≤ n ∧ n ≤ 60 := by
  have h1 := ws.1 (hT.sand p hp);have h2 := (qu.1 hn).1;omega
end
def uZ (l : List Int) : Int := l.headD 0
def u7 (l : List Int) : Int := l.getLastD 0
theorem jW (lo hi : Int) : (rng lo hi).Pairwise (· < ·) := by
  unfold rng;rw [List.pairwise_map];exact List.Pairwise.imp (fun h => by omega) List.pairwise_lt_range
theorem Zt {l : List Int} (hs : l.Pairwise (· < ·)) (h : l ≠ []) : uZ l ∈ l ∧ u7 l ∈ l ∧ ∀ x, x ∈ l → uZ l ≤ x ∧ x ≤ u7 l := by
  cases l with
  | nil => exact absurd rfl h
  | cons a l =>
    have e1 : uZ (a :: l) = a := rfl;have e2 : u7 (a :: l) = (a :: l).getLast (by simp) := by simp [u7, List.getLastD]
    refine ⟨by rw [e1]; simp, by rw [e2]; exact List.getLast_mem _, fun x hx => ?_⟩;rw [e1, e2];constructor
    · rcases List.mem_cons.1 hx with rfl | hx
      · exact Int.le_refl _
      · exact Int.le_of_lt ((List.pairwise_cons.1 hs).1 x hx)
    · obtain ⟨i, hi, rfl⟩ := List.getElem_of_mem hx;rw [List.getLast_eq_getElem];rcases Nat.lt_or_ge i ((a :: l).length - 1) with h1 | h1
      · exact Int.le_of_lt (List.pairwise_iff_getElem.1 hs i _ hi (by omega) h1)
      · have : i = (a :: l).length - 1 := by omega
        subst this; exact Int.le_refl _
theorem kS {T : Tide} {h : Hts} {p : Nat} (hne : setL T h p ≠ []) : uZ (setL T h p) ∈ setL T h p ∧ u7 (setL T h p) ∈ setL T h p ∧ ∀ x, x ∈ setL T h p → uZ (setL T h p) ≤ x ∧ x ≤ u7 (setL T h p) :=
  Zt (List.Pairwise.filter _ (jW _ _)) hne
def seeD (s : Ms) (a : Int × Int) : Ms := (true, if s.1 then min s.2.1 a.1 else a.1, if s.1 then max s.2.2 a.2 else a.2)
def Yw (f : Hts → Int × Int) (l : List Hts) : Ms := l.foldl (fun s h => seeD s (f h)) (false, 0, 0)
def YW (f : Hts → Int × Int) (l : List Hts) : Sp := ⟨(Yw f l).2.1, (Yw f l).2.2⟩
structure X6 (S : Int → Prop) (s : Sp) : Prop where
  lo : S s.lo
  hi : S s.hi
  mem : ∀ x, S x → s.lo ≤ x ∧ x ≤ s.hi
theorem X6.uniq {S : Int → Prop} {s t : Sp} (h : X6 S s) (k : X6 S t) : s = t := by
  obtain ⟨a, b⟩ := s;obtain ⟨c, d⟩ := t;have h1 := h.mem _ k.lo;have h2 := k.mem _ h.lo;have h3 := h.mem _ k.hi;have h4 := k.mem _ h.hi;simp only at h1 h2 h3 h4;congr 1 <;> omega
theorem jM (f : Hts → Int × Int) : ∀ (l l0 : List Hts) (s : Ms), (l0 = [] ∧ s.1 = false ∨ s.1 = true ∧ (∃ h, h ∈ l0 ∧ (f h).1 = s.2.1) ∧ (∃ h, h ∈ l0 ∧ (f h).2 = s.2.2) ∧ ∀ h, h ∈ l0 → s.2.1 ≤ (f h).1 ∧ (f h).2 ≤ s.2.2) → l0 ++ l ≠ [] →
    (∃ h, h ∈ l0 ++ l ∧ (f h).1 = (l.foldl (fun s h => seeD s (f h)) s).2.1) ∧ (∃ h, h ∈ l0 ++ l ∧ (f h).2 = (l.foldl (fun s h => seeD s (f h)) s).2.2) ∧ ∀ h, h ∈ l0 ++ l → (l.foldl (fun s h => seeD s (f h)) s).2.1 ≤ (f h).1 ∧ (f h).2 ≤ (l.foldl (fun s h => seeD s (f h)) s).2.2
  | [], l0, s, hs, hne => by
    rcases hs with ⟨rfl, _⟩ | ⟨_, h1, h2, h3⟩
    · exact absurd rfl hne
    · rw [List.append_nil]; exact ⟨h1, h2, h3⟩
  | x :: l, l0, s, hs, hne => by
    have e : l0 ++ x :: l = (l0 ++ [x]) ++ l := by simp
    rw [List.foldl_cons, e];refine jM f l (l0 ++ [x]) (seeD s (f x)) (.inr ⟨rfl, ?_⟩) (by simp);rcases hs with ⟨rfl, h0⟩ | ⟨h0, ⟨a, ha, ea⟩, ⟨b, hb, eb⟩, h3⟩
    · simp only [seeD, h0, Bool.false_eq_true, if_false];refine ⟨⟨x, by simp, rfl⟩, ⟨x, by simp, rfl⟩, fun h hh => ?_⟩;obtain rfl : h = x := by simpa using hh
      exact ⟨Int.le_refl _, Int.le_refl _⟩
    · simp only [seeD, h0, if_true];refine ⟨?_, ?_, fun h hh => ?_⟩
      · rcases Int.le_total s.2.1 (f x).1 with h4 | h4
        · exact ⟨a, by simp [ha], by rw [ea]; omega⟩
        · exact ⟨x, by simp, by omega⟩
      · rcases Int.le_total s.2.2 (f x).2 with h4 | h4
        · exact ⟨x, by simp, by omega⟩
        · exact ⟨b, by simp [hb], by rw [eb]; omega⟩
      · rcases List.mem_append.1 hh with hh | hh
        · have := h3 h hh; omega
        · obtain rfl : h = x := by simpa using hh
          omega
theorem WV (f : Hts → Int × Int) {l : List Hts} (h : l ≠ []) : (∃ x, x ∈ l ∧ (f x).1 = (YW f l).lo) ∧ (∃ x, x ∈ l ∧ (f x).2 = (YW f l).hi) ∧ ∀ x, x ∈ l → (YW f l).lo ≤ (f x).1 ∧ (f x).2 ≤ (YW f l).hi :=
  jM f l [] (false, 0, 0) (.inl ⟨rfl, rfl⟩) h
theorem Ww (f : Hts → Int × Int) {l : List Hts} {k : Nat} (hk : k < l.length) : Yw f (l.take (k + 1)) = seeD (Yw f (l.take k)) (f (gt l k)) := by
  have e : gt l k = l[k] := by simp [gt, List.getD, hk]
  rw [Yw, List.take_succ_eq_append_getElem hk, List.foldl_append, e]; rfl
def Zp (T : Tide) (p : Nat) (m : Int) (h : Hts) : Int × Int := (max 0 (y5 T h m - u7 (setL T h p)), max 0 (y5 T h m - uZ (setL T h p)))
def xY (T : Tide) (p : Nat) (m : Int) : Sp := YW (Zp T p m) (tdL T)
def un (T : Tide) (is : Bool) : Int := if zQ T = false then 1 else if is = false then 2 else if tdL T = [] then 10 else 0
def ju (n : Int) : Bool := decide (0 ≤ n ∧ n ≤ 60)
def zf (T : Tide) (p m : Int) : Sp × Int := if un T (yO T p && zx T m) ≠ 0 then (⟨0, 0⟩, un T (yO T p && zx T m)) else (xY T p.toNat m, 0)
def wW (T : Tide) (p : Nat) (least : Int) : Nat → Int → Option Int
  | 0, _ => none
  | n + 1, m => if least ≤ (xY T p m).lo then some m else wW T p least n (m + 1)
def zv (T : Tide) (p least m : Int) : Int × Int := if un T (yO T p && (ju least && zx T m)) ≠ 0 then (0, un T (yO T p && (ju least && zx T m))) else match wW T p.toNat least (wB T - m + 1).toNat m with
  | some n => (n, 0)
  | none => (0, 4)
def TruR (T : Tide) (h s : Hts) : Prop := Yk T h ∧ (∀ p, p < T.sand.length → ((gt T.sand p).lo ≤ s p ∧ s p ≤ (gt T.sand p).hi)) ∧ ∀ i, i < T.looks.length → fitB (gt T.looks i) (kX T h (gt T.looks i).minute) (s (gt T.looks i).place.toNat) = true
def zca (T : Tide) (p : Nat) (m x : Int) : Prop := ∃ h s, TruR T h s ∧ x = max 0 (kX T h m - s p)
theorem kC {T : Tide} {l : Look} : lookB T l = true ↔ (0 ≤ l.place ∧ l.place ≤ (T.sand.length : Int) - 1) ∧ zx T l.minute = true ∧ zA l.depth = true := by
  simp only [lookB, yO, Bool.and_eq_true, decide_eq_true_eq, and_assoc]
theorem Z6 {T : Tide} (hT : zG T) {h s : Hts} : TruR T h s ↔ Yk T h ∧ ∀ p, p < T.sand.length → s p ∈ setL T h p := by
  constructor
  · rintro ⟨h1, h2, h3⟩;refine ⟨h1, fun p hp => qu.2 ⟨h2 p hp, ?_⟩⟩;rw [kQ, wv];intro i hi;have hl := kC.1 (hT.look i hi);rw [xk hT h hl.2.1];by_cases e : (gt T.looks i).place = (p : Int)
    · have := h3 i hi;rw [e, Int.toNat_natCast] at this;rw [this]; simp
    · rw [decide_eq_false e]; rfl
  · rintro ⟨h1, h2⟩;refine ⟨h1, fun p hp => (qu.1 (h2 p hp)).1, fun i hi => ?_⟩;have hl := kC.1 (hT.look i hi);have h3 := (qu.1 (h2 (gt T.looks i).place.toNat (by omega))).2;rw [kQ, wv] at h3;have h4 := h3 i hi;rw [xk hT h hl.2.1, decide_eq_true (by omega)] at h4;simpa using h4
def zll (T : Tide) (h : Hts) : Hts := fun p => uZ (setL T h p)
section
variable {T : Tide} (hT : zG T)
include T hT
theorem Wa {h : Hts} (hh : h ∈ tdL T) {p : Nat} {n : Int} (hn : n ∈ setL T h p) : TruR T h (updH (zll T h) p n) := by
  obtain ⟨h1, h2⟩ := qZ.1 hh;refine (Z6 hT).2 ⟨h1, fun q hq => ?_⟩;by_cases e : q = p
  · subst e; rw [vq]; exact hn
  · rw [jl _ _ e]; exact (kS (h2 q hq)).1
theorem zdi {h s : Hts} (ht : TruR T h s) : h ∈ tdL T := by
  obtain ⟨h1, h2⟩ := (Z6 hT).1 ht;exact qZ.2 ⟨h1, fun p hp e => by have := h2 p hp; rw [e] at this; cases this⟩
section
variable (hne : tdL T ≠ []) {p : Nat} (hp : p < T.sand.length) {m : Int} (hm : zx T m = true)
include hne p hp m hm
theorem Wv : X6 (zca T p m) (xY T p m) := by
  obtain ⟨⟨a, ha, ea⟩, ⟨b, hb, eb⟩, h3⟩ := WV (Zp T p m) hne;have ends : ∀ h, h ∈ tdL T → uZ (setL T h p) ∈ setL T h p ∧ u7 (setL T h p) ∈ setL T h p ∧ ∀ x, x ∈ setL T h p → uZ (setL T h p) ≤ x ∧ x ≤ u7 (setL T h p) := fun h hh => kS ((qZ.1 hh).2 p hp);refine ⟨⟨a, _, Wa hT ha (ends a ha).2.1, ?_⟩, ⟨b, _, Wa hT hb (ends b hb).1, ?_⟩, ?_⟩
  · rw [vq, ← xk hT a hm]; exact ea.symm
  · rw [vq, ← xk hT b hm]; exact eb.symm
  · rintro x ⟨h, s, ht, rfl⟩;have hh := zdi hT ht;have h4 := (ends h hh).2.2 _ (((Z6 hT).1 ht).2 p hp);have h5 := h3 h hh;rw [← xk hT h hm];simp only [Zp, xY] at h5 ⊢;omega
theorem Vy : 0 ≤ (xY T p m).lo ∧ (xY T p m).lo ≤ (xY T p m).hi ∧ (xY T p m).hi ≤ 60 := by
  have h := Wv hT hne hp hm;obtain ⟨a, s, ht, e⟩ := h.lo;obtain ⟨b, u, ht2, e2⟩ := h.hi;have h1 := h.mem _ h.hi;have h2 := uO hT (Yk.high hT ht2.1) hm;rw [xk hT b hm] at h2;have h3 := kT hT hp (((Z6 hT).1 ht2).2 p hp);omega
end
end
end Go.Ti
namespace Go.Ti
open Go.W
end Go.Ti
namespace Go.Proofs.YtejgofaeafphjaaGreatDoor
open Go.W Go.Ti
theorem zdU : zj Tryz.prog 212 [.int .i64 0] [(0, 1)] := ⟨⟨_, Tryz.zeroValue212, rfl⟩, _, Tryz.underlying212, fun w => by simp [Tryz.sizeOf51]⟩
abbrev zbL := SaF.mk zdU
attribute [instance] zbL
theorem zdX : zj Tryz.prog 225 [.int .i64 0] [(0, 1)] := ⟨⟨_, Tryz.zeroValue225, rfl⟩, _, Tryz.underlying225, fun w => by simp [Tryz.sizeOf51]⟩
abbrev zbO := SaF.mk zdX
attribute [instance] zbO
def ub (x : Go.Ti.Mark) : List Value := [it x.minute, it x.high.lo, it x.high.hi]
def ym (x : Look) : List Value := [it x.place, it x.minute, it x.depth.lo, it x.depth.hi]
def ul (s : Sp) : List Value := [it s.lo, it s.hi]
theorem vc : ∀ x, (ub x).length = 3 := fun _ => rfl
theorem yw : ∀ x, (ym x).length = 4 := fun _ => rfl
theorem vh : ∀ x, (ul x).length = 2 := fun _ => rfl
structure yo (D : Imm) (T : Tide) (a1 : Option Addr) (n1 : Nat) (a2 : Option Addr) (n2 : Nat) (a3 : Option Addr) (n3 : Nat) : Prop where
  mark : SlL D 3 (T.marks.map ub) a1 n1
  sand : SlL D 2 (T.sand.map ul) a2 n2
  look : SlL D 4 (T.looks.map ym) a3 n3
  len : n1 ≤ 1000 ∧ n2 ≤ 1000 ∧ n3 ≤ 1000
theorem yo.ext {w : World} {D D' : Imm} (hD : DExt w D D') {T : Tide} {a1 a2 a3 : Option Addr} {n1 n2 n3 : Nat} (h : yo D T a1 n1 a2 n2 a3 n3) : yo D' T a1 n1 a2 n2 a3 n3 := ⟨h.mark.ext hD, h.sand.ext hD, h.look.ext hD, h.len⟩
def WX (e : Int) : List PanicEntry := [{ v := .iface 225 (.agg #[it e]), recovered := false }]
def jA (e : Int) : List PanicEntry := [{ v := .iface 212 (.agg #[it e]), recovered := false }]
theorem w7 (n lo hi : Int) (w : World) : z8 Tryz.prog 163 [it n, it lo, it hi] w (.bool (inB n lo hi)) := by
  unfold z8;refine en Tryz.func163 rfl Tryz.ntmps163 zI (g [[1],[5,0,1,2],[5,6,0,1,2]] ?_);refine WL.part 10 rfl (fun g10 => ?_) (fun g10 => ?_)
  · try simp only [zq] at g10
    refine g [[8]] ?_;refine WP.ret1 rfl rfl rfl (RV.tmp rfl) (fun w hI => ⟨zb (by rw [Bool.eq_iff_iff]; simp [inB]; omega), hI.keep⟩)
  try simp only [zq] at g10
  refine g [[8]] ?_;refine WP.ret1 rfl rfl rfl (RV.tmp rfl) (fun w hI => ⟨zb (by rw [Bool.eq_iff_iff]; simp [inB]; omega), hI.keep⟩)
theorem wE (e : Int) (w : World) : z8 Tryz.prog 162 [.bool true, it e] w (.tuple #[]) := by
  unfold z8;refine en Tryz.func162 rfl Tryz.ntmps162 zI (g [[1],[7,0,1]] ?_);refine WP.ret0 rfl rfl rfl  (fun w hI => ⟨rfl, hI.keep⟩)
theorem yT (e : Int) (w : World) : xC Tryz.prog 162 [.bool false, it e] w (WX e) := by
  unfold xC;refine en Tryz.func162 rfl Tryz.ntmps162 zI (g [[1],[6,0,1],[4,1]] ?_);refine WL.no (SO.panic rfl ?_);refine WP.panicBody rfl (fun w hI => ⟨rfl, hI.keep⟩)
theorem vj (v : Value) (w : World) : z8 Tryz.prog 79 [.nilIface, v] w (.tuple #[]) := by
  unfold z8;refine en Tryz.func79 rfl Tryz.ntmps79 zI (g [[2],[2,0,1]] ?_);refine WL.yd (Yd.eqlNilNil UnF.h rfl) rfl (g [[5]] ?_);refine WP.ret0 rfl rfl rfl  (fun w hI => ⟨rfl, hI.keep⟩)
theorem vk (e v0 : Int) (b : Nat) (t : TypeId) (w : World) (hb : w.heap[b]? = some (.cells (List.toArray [it v0]) t (0, 0))) : Calls Tryz.prog 79 (List.toArray [.iface 225 (.agg #[it e]), pt b]) w fun en w' => (en = .returned (.tuple #[]) ∧ Keep [b] w w') ∧ w'.heap[b]? = some (.cells (List.toArray [it e]) t (0, 0)) := by
  refine en Tryz.func79 rfl Tryz.ntmps79 (Inv.one hb) (g [[2],[2,0,1]] ?_);refine WL.yd (Yd.eqlNil UnF.h rfl) rfl (g [[6],[2,0,1]] ?_);refine WL.yd (Yd.assert UnF.h (by intro _ h; cases h) rfl) rfl (g [[3]] ?_);refine WL.so (SO.alloc ZvF.h rfl) rfl (zw fun b4 hb4 => ?_);refine g [[6],[8,5,4,0,1],[7,4,1]] ?_;refine WP.ret0 rfl rfl rfl  (fun w hI => ⟨⟨rfl, hI.keep⟩, hI.own _ _ (List.mem_of_getElem? (i := 1) rfl)⟩)
theorem zB (e : Int) (w : World) : z8 Tryz.prog 71 [.bool true, it e] w (.tuple #[]) := by
  unfold z8;refine en Tryz.func71 rfl Tryz.ntmps71 zI (g [[1],[7,0,1]] ?_);refine WP.ret0 rfl rfl rfl  (fun w hI => ⟨rfl, hI.keep⟩)
theorem zy (e : Int) (w : World) : xC Tryz.prog 71 [.bool false, it e] w (jA e) := by
  unfold xC;refine en Tryz.func71 rfl Tryz.ntmps71 zI (g [[1],[6,0,1],[4,1]] ?_);refine WL.no (SO.panic rfl ?_);refine WP.panicBody rfl (fun w hI => ⟨rfl, hI.keep⟩)
theorem Y3 (v : Value) (w : World) : z8 Tryz.prog 70 [.nilIface, v] w (.tuple #[]) := by
  unfold z8;refine en Tryz.func70 rfl Tryz.ntmps70 zI (g [[2],[2,0,1]] ?_);refine WL.yd (Yd.eqlNilNil UnF.h rfl) rfl (g [[5]] ?_);refine WP.ret0 rfl rfl rfl  (fun w hI => ⟨rfl, hI.keep⟩)
theorem Y4 (e v0 : Int) (b : Nat) (t : TypeId) (w : World) (hb : w.heap[b]? = some (.cells (List.toArray [it v0]) t (0, 0))) : Calls Tryz.prog 70 (List.toArray [.iface 212 (.agg #[it e]), pt b]) w fun en w' => (en = .returned (.tuple #[]) ∧ Keep [b] w w') ∧ w'.heap[b]? = some (.cells (List.toArray [it e]) t (0, 0)) := by
  refine en Tryz.func70 rfl Tryz.ntmps70 (Inv.one hb) (g [[2],[2,0,1]] ?_);refine WL.yd (Yd.eqlNil UnF.h rfl) rfl (g [[6],[2,0,1]] ?_);refine WL.yd (Yd.assert UnF.h (by intro _ h; cases h) rfl) rfl (g [[3]] ?_);refine WL.so (SO.alloc ZvF.h rfl) rfl (zw fun b4 hb4 => ?_);refine g [[6],[8,5,4,0,1],[7,4,1]] ?_;refine WP.ret0 rfl rfl rfl  (fun w hI => ⟨⟨rfl, hI.keep⟩, hI.own _ _ (List.mem_of_getElem? (i := 1) rfl)⟩)
section
variable (b : Nat)
include b
theorem VW (w : World) : V7 Tryz.prog 86 [pt b] w := by
  refine yI Tryz.func86 rfl fun c₀ cs hu => ?_;apply wpS_region;simp [wpOpsS, go_sem, recoverD, hu, Tryz.ntmps86];refine (xA (pt b) w).mono ?_;rintro e w' ⟨rfl, hk⟩;cases c₀
  simp only at hu;subst hu;simp [bodyPostS, results, Tryz.results86, hk]
theorem za6 (e v0 : Int) (t : TypeId) (w : World) (hb : w.heap[b]? = some (.cells (List.toArray [it v0]) t (0, 0))) : uw Tryz.prog 86 [pt b] (.iface 247 (.agg #[it e])) b (.cells (List.toArray [it e]) t (0, 0)) w := by
  refine callsD_of_wpS Tryz.func86 rfl fun c₀ cs hu => ?_;apply wpS_region;simp [wpOpsS, go_sem, recoverD, hu, Tryz.ntmps86];refine (yW e v0 b t w hb).mono ?_;rintro en w' ⟨⟨rfl, hk⟩, hb'⟩;cases c₀
  simp only at hu;subst hu;simp [bodyPostS, results, Tryz.results86, hk, hb']
theorem zct (w : World) : Idle Tryz.prog 78 [pt b] w := by
  refine callsD_of_wpS Tryz.func78 rfl fun c₀ cs hu => ?_;apply wpS_region;simp [wpOpsS, go_sem, recoverD, hu, Tryz.ntmps78];refine (vj (pt b) w).mono ?_;rintro e w' ⟨rfl, hk⟩;cases c₀
  simp only at hu;subst hu;simp [bodyPostS, results, Tryz.results78, hk]
theorem Yn (e v0 : Int) (t : TypeId) (w : World) (hb : w.heap[b]? = some (.cells (List.toArray [it v0]) t (0, 0))) : uw Tryz.prog 78 [pt b] (.iface 225 (.agg #[it e])) b (.cells (List.toArray [it e]) t (0, 0)) w := by
  refine callsD_of_wpS Tryz.func78 rfl fun c₀ cs hu => ?_;apply wpS_region;simp [wpOpsS, go_sem, recoverD, hu, Tryz.ntmps78];refine (vk e v0 b t w hb).mono ?_;rintro en w' ⟨⟨rfl, hk⟩, hb'⟩;cases c₀
  simp only at hu;subst hu;simp [bodyPostS, results, Tryz.results78, hk, hb']
theorem J6 (w : World) : V7 Tryz.prog 218 [pt b] w := by
  refine yI Tryz.func218 rfl fun c₀ cs hu => ?_;apply wpS_region;simp [wpOpsS, go_sem, recoverD, hu, Tryz.ntmps218];refine (vj (pt b) w).mono ?_;rintro e w' ⟨rfl, hk⟩;cases c₀
  simp only at hu;subst hu;simp [bodyPostS, results, Tryz.results218, hk]
theorem QK (e v0 : Int) (t : TypeId) (w : World) (hb : w.heap[b]? = some (.cells (List.toArray [it v0]) t (0, 0))) : uw Tryz.prog 218 [pt b] (.iface 225 (.agg #[it e])) b (.cells (List.toArray [it e]) t (0, 0)) w := by
  refine callsD_of_wpS Tryz.func218 rfl fun c₀ cs hu => ?_;apply wpS_region;simp [wpOpsS, go_sem, recoverD, hu, Tryz.ntmps218];refine (vk e v0 b t w hb).mono ?_;rintro en w' ⟨⟨rfl, hk⟩, hb'⟩;cases c₀
  simp only at hu;subst hu;simp [bodyPostS, results, Tryz.results218, hk, hb']
theorem VV (w : World) : Idle Tryz.prog 69 [pt b] w := by
  refine callsD_of_wpS Tryz.func69 rfl fun c₀ cs hu => ?_;apply wpS_region;simp [wpOpsS, go_sem, recoverD, hu, Tryz.ntmps69];refine (Y3 (pt b) w).mono ?_;rintro e w' ⟨rfl, hk⟩;cases c₀
  simp only at hu;subst hu;simp [bodyPostS, results, Tryz.results69, hk]
theorem yY (e v0 : Int) (t : TypeId) (w : World) (hb : w.heap[b]? = some (.cells (List.toArray [it v0]) t (0, 0))) : uw Tryz.prog 69 [pt b] (.iface 212 (.agg #[it e])) b (.cells (List.toArray [it e]) t (0, 0)) w := by
  refine callsD_of_wpS Tryz.func69 rfl fun c₀ cs hu => ?_;apply wpS_region;simp [wpOpsS, go_sem, recoverD, hu, Tryz.ntmps69];refine (Y4 e v0 b t w hb).mono ?_;rintro en w' ⟨⟨rfl, hk⟩, hb'⟩;cases c₀
  simp only at hu;subst hu;simp [bodyPostS, results, Tryz.results69, hk, hb']
end
theorem zc {s : Sp} : zA s = true ↔ 0 ≤ s.lo ∧ s.lo ≤ s.hi ∧ s.hi ≤ 60 := by simp only [zA, decide_eq_true_eq]
def shoO (s1 s2 s3 : Value) (mb : Nat) : Obj := .cells (List.toArray [s1, s2, s3, .map (some mb)]) 229 (0, 0)
theorem Xu (s : Sp) (w : World) : z8 Tryz.prog 165 [.agg #[it s.lo, it s.hi]] w (.bool (zA s)) := by
  unfold z8;refine en Tryz.func165 rfl Tryz.ntmps165 zI (g [[1],[1,0]] ?_);refine WL.so (SO.box rfl rfl) rfl (zw fun b1 hb1 => ?_);refine g [[4],[5,2,1]] ?_;refine WL.part 6 rfl (fun g6 => ?_) (fun g6 => ?_)
  · try simp only [zq] at g6
    refine g [[7]] ?_;refine WL.part 13 rfl (fun g13 => ?_) (fun g13 => ?_)
    · try simp only [zq] at g13
      refine g [[8]] ?_;refine WP.ret1 rfl rfl rfl (RV.tmp rfl) (fun w hI => ⟨zb (by rw [Bool.eq_iff_iff]; simp_all [zA]; try omega), hI.keep⟩)
    try simp only [zq] at g13
    refine g [[8]] ?_;refine WP.ret1 rfl rfl rfl (RV.tmp rfl) (fun w hI => ⟨zb (by rw [Bool.eq_iff_iff]; simp_all [zA]; try omega), hI.keep⟩)
  try simp only [zq] at g6
  refine g [[15]] ?_;refine WP.ret1 rfl rfl rfl (RV.tmp rfl) (fun w hI => ⟨zb (by rw [Bool.eq_iff_iff]; simp_all [zA]; try omega), hI.keep⟩)
theorem XG (s : Sp) (w : World) : z8 Tryz.prog 164 [.agg #[it s.lo, it s.hi]] w (.bool (y2 s)) := by
  unfold z8;refine en Tryz.func164 rfl Tryz.ntmps164 zI (g [[1],[1,0]] ?_);refine WL.so (SO.box rfl rfl) rfl (zw fun b1 hb1 => ?_);refine g [[4],[2,2,1]] ?_;refine WL.cl rfl (fun w hI => Xu s _) (g [[1]] ?_);refine WL.part 5 rfl (fun g5 => ?_) (fun g5 => ?_)
  · refine g [[4]] ?_;refine WL.ydg rfl (Yd.sub rfl rfl (wr64 ⟨by first | omega | (have := zc.1 (by assumption); omega) | (simp_all; omega), by first | omega | (have := zc.1 (by assumption); omega) | (simp_all; omega)⟩)) rfl (g [[6]] ?_);refine WP.ret1 rfl rfl rfl (RV.tmp rfl) (fun w hI => ⟨zb (by rw [Bool.eq_iff_iff]; simp_all [y2]), hI.keep⟩)
  refine g [[11]] ?_;refine WP.ret1 rfl rfl rfl (RV.tmp rfl) (fun w hI => ⟨zb (by rw [Bool.eq_iff_iff]; simp_all [y2]), hI.keep⟩)
section
variable (T : Tide) (a1 a2 a3 : Option Addr) (n1 n2 n3 c1 c2 c3 : Nat) (D : Imm) (w : World) (hR : yo D T a1 n1 a2 n2 a3 n3) (qb mb : Nat) (hq : D qb = some (shoO (.slice a1 n1 c1) (.slice a2 n2 c2) (.slice a3 n3 c3) mb)) (hH : Holds D w)
include T a1 a2 a3 n1 n2 n3 c1 c2 c3 D w hR qb mb hq hH
theorem Kv (hnm : 2 ≤ T.marks.length) : z8 Tryz.prog 125 [pt qb] w (it (wB T)) := by
  unfold z8;obtain rfl := hR.mark.len';obtain rfl := hR.sand.len';obtain rfl := hR.look.len';obtain ⟨hl1, hl2, hl3⟩ := hR.len
  have hrl : Rd D [] ⟨sb a1, so a1 + ((T.marks.length : Int) - 1).toNat * 3 + 0, none⟩ (it (wB T)) := by
    rw [show ((T.marks.length : Int) - 1).toNat = T.marks.length - 1 by omega]; exact (hR.mark.at (T.marks.length - 1) (by omega)).rd 0 rfl
  refine en Tryz.func125 rfl Tryz.ntmps125 (Inv.start hH) (g [[1],[5,0],[0,2,0],[3012],[13]] ?_);refine WL.yd (Yd.ix rfl rfl (hR.mark.addr (T.marks.length - 1) (by omega))) rfl (g [[1]] ?_);refine WL.yd (Yd.l1 rfl (hrl)) rfl (g [[4]] ?_);refine WP.ret1 rfl rfl rfl (RV.tmp rfl) (fun w hI => ⟨rfl, hI.keep⟩)
theorem qL (n : Int) : z8 Tryz.prog 82 [pt qb, it n] w (.bool (yO T n)) := by
  unfold z8;obtain rfl := hR.mark.len';obtain rfl := hR.sand.len';obtain rfl := hR.look.len';obtain ⟨hl1, hl2, hl3⟩ := hR.len;refine en Tryz.func82 rfl Tryz.ntmps82 (Inv.start hH) (g [[1],[5,0,1],[9,4,0,1]] ?_);refine WL.cl rfl (fun w hI => w7 _ _ _ _) (g [[4]] ?_);refine WP.ret1 rfl rfl rfl (RV.tmp rfl) (fun w hI => ⟨rfl, hI.keep⟩)
theorem uD (hnm : 2 ≤ T.marks.length) (n : Int) : z8 Tryz.prog 83 [pt qb, it n] w (.bool (zx T n)) := by
  unfold z8;obtain rfl := hR.mark.len';obtain rfl := hR.sand.len';obtain rfl := hR.look.len';obtain ⟨hl1, hl2, hl3⟩ := hR.len;refine en Tryz.func83 rfl Tryz.ntmps83 (Inv.start hH) (g [[1],[5,0,1],[0,4,0,1],[3011],[6]] ?_);refine WQ.q rfl (Yd.qt (Yd.ix rfl rfl (hR.mark.addr 0 (by omega)))) rfl (g [[1]] ?_);refine WQ.q rfl (Yd.qt (Yd.l1 rfl ((hR.mark.at 0 (by omega)).rd 0 rfl))) rfl (g [[1]] ?_);refine WQ.q rfl (Qt.callP CaF.h rfl (fun w hI => Kv T a1 a2 a3 _ _ _ c1 c2 c3 D _ hR qb mb hq hI.imm hnm)) rfl (g [[1]] ?_);refine WL.cl rfl (fun w hI => w7 _ _ _ _) (g [[4]] ?_);refine WP.ret1 rfl rfl rfl (RV.tmp rfl) (fun w hI => ⟨rfl, hI.keep⟩)
end
theorem zdY : zj Tryz.prog 229 [.slice none 0 0, .slice none 0 0, .slice none 0 0, .map none] [(0, 3), (3, 1)] := ⟨⟨_, Tryz.zeroValue229, rfl⟩, _, Tryz.underlying229, fun w => by simp [Tryz.sizeOf31, Tryz.sizeOf227]⟩
abbrev zbP := SaF.mk zdY
attribute [instance] zbP
def zdH (T : Tide) (is : Bool) (s1 s2 s3 : Value) (D : Imm) (w : World) (e : Ending) (w' : World) : Prop :=
  (zQ T = false → e = .panicked (WX 1) ∧ Keep [] w w') ∧ (zQ T = true → is = false → e = .panicked (WX 2) ∧ Keep [] w w') ∧
  (zQ T = true → is = true → ∃ q mb D', e = .returned (pt q) ∧ DExt w D D' ∧ D' q = some (shoO s1 s2 s3 mb) ∧ Inv D' [(mb, .map #[] 0)] [] w w')
theorem kE {T : Tide} {k : Nat} (h1 : inB (gt T.marks k).minute 0 240 = true) (h2 : y2 (gt T.marks k).high = true) (h3 : k = 0 ∨ (gt T.marks (k - 1)).minute + 6 ≤ (gt T.marks k).minute) : qW T k = true :=
  zl.2 ⟨⟨by simpa [inB] using h1, h2⟩, h3⟩
theorem vS {T : Tide} {k : Nat} (hT : zG T) (hk : k < T.marks.length) : inB (gt T.marks k).minute 0 240 = true ∧ y2 (gt T.marks k).high = true ∧ (k = 0 ∨ (gt T.marks (k - 1)).minute + 6 ≤ (gt T.marks k).minute) := by
  refine ⟨by have := (hT.mark k hk).1; simpa [inB] using this, (hT.mark k hk).2, ?_⟩;cases k with
  | zero => exact .inl rfl
  | succ k => exact .inr (hT.apart k hk)
theorem x9 {T : Tide} (h1 : inB (T.marks.length : Int) 2 4 = true) (h2 : inB (T.sand.length : Int) 1 4 = true) (h3 : (T.looks.length : Int) ≤ 6) (hm : ∀ i, i < T.marks.length → qW T i = true) (hs : ∀ i, i < T.sand.length → y2 (gt T.sand i) = true) (hl : ∀ i, i < T.looks.length → lookB T (gt T.looks i) = true) : zQ T = true := by
  simp only [inB, decide_eq_true_eq] at h1 h2;simp only [zQ, Bool.and_eq_true, decide_eq_true_eq];refine ⟨⟨⟨⟨⟨by omega, by omega⟩, by omega⟩, List.all_eq_true.2 fun i hi => hm i (List.mem_range.1 hi)⟩, wv.2 hs⟩, wv.2 hl⟩
theorem yf {T : Tide} (h : ∀ hT : zG T, False) : zQ T = false := by
  cases hb : zQ T with
  | false => rfl
  | true => exact (h (yK.1 hb)).elim
theorem YM (T : Tide) (a1 a2 a3 : Option Addr) (n1 n2 n3 c1 c2 c3 : Nat) (D : Imm) (w : World) (hR : yo D T a1 n1 a2 n2 a3 n3) (hH : Holds D w) (fi : FuncId) (cp : List Value) (is : Bool) (hfi : ∀ args w, (callFunc fi args).run Tryz.prog w = .ok (.enter fi args) w) (hIs : zQ T = true → ∀ q mb D' w', DExt w D D' → D' q = some (shoO (.slice a1 n1 c1) (.slice a2 n2 c2) (.slice a3 n3 c3) mb) → Holds D' w' → z8 Tryz.prog fi (pt q :: cp) w' (.bool is)) : Calls Tryz.prog 80 (List.toArray [.agg #[.slice a1 n1 c1, .slice a2 n2 c2, .slice a3 n3 c3], .func (.func fi) #[] cp.toArray]) w fun e w' => zdH T is (.slice a1 n1 c1) (.slice a2 n2 c2) (.slice a3 n3 c3) D w e w' := by
  obtain rfl := hR.mark.len';obtain rfl := hR.sand.len';obtain rfl := hR.look.len';obtain ⟨hl1, hl2, hl3⟩ := hR.len;refine en Tryz.func80 rfl Tryz.ntmps80 (Inv.start hH) (g [[1],[1,0,1]] ?_);refine WL.so (SO.box rfl rfl) rfl (zw fun b2 hb2 => ?_);refine g [[4],[4,4,2,1]] ?_;refine WL.cl rfl (fun w hI => w7 _ _ _ _) (g [[1]] ?_);refine WL.part 17 rfl (fun g17 => ?_) (fun g17 => ?_)
  · refine g [[3]] ?_;refine WL.sog rfl (SO.callP CaF.h rfl (fun w hI => w7 _ _ _ _)) rfl (zs (g [[2]] ?_));refine WL.part 23 rfl (fun g23 => ?_) (fun g23 => ?_)
    · refine g [[5]] ?_;refine WL.part 28 rfl (fun g28 => ?_) (fun g28 => ?_)
      · try simp only [zq] at g28
        refine WL.cl rfl (fun w hI => wE _ _) (g [[3],[6,4,2,1],[8,5,4,2,1]] ?_);refine WC.loopF (fun k : Nat => [(1, .func (.func fi) #[] cp.toArray), (2, pt b2), (5, .func (.func 164) #[] #[]), (31, .slice a1 T.marks.length c1), (32, nt T.marks.length), (33, nt k)]) (fun k => k ≤ T.marks.length ∧ ∀ i, i < k → qW T i = true) (fun k => T.marks.length - k) 0 ⟨by omega, by intro i hi; omega⟩ (by exact ⟨rfl, rfl, rfl, rfl, rfl, rfl, trivial⟩) ?_;intro k ⟨hk, hd⟩;refine g [[1],[5,1,2,5,31,32,33]] ?_;refine WC.cond rfl (fun c34 => ?_) (fun c34 => ?_)
        · try simp only [zq] at c34
          refine g [[5],[2,1,2,5,31,32,33]] ?_;refine WL.yd (Yd.ix rfl rfl (hR.mark.addr k (by omega))) rfl (WL.yd (Yd.lV [_, _, _] rfl ((hR.mark.at k (by omega)).rdn 0 3 rfl)) rfl ?_);refine WL.so (SO.alloc ZvF.h rfl) rfl (zw fun b7 hb7 => ?_);refine g [[4],[0,6,7,1,2,5,31,32,33],[3023],[2]] ?_;refine WQ.q rfl (Qt.callP CaF.h rfl (fun w hI => w7 _ _ _ _)) rfl (g [[1]] ?_);refine WQ.part 41 rfl (fun g41 => ?_) (fun g41 => ?_)
          · refine g [[3]] ?_;refine WQ.qg rfl rfl (Qt.call (Enters.val CaF.h rfl rfl) (fun w hI => XG ⟨_, _⟩ _)) rfl (g [[2]] ?_);refine WQ.part 47 rfl (fun g47 => ?_) (fun g47 => ?_)
            · refine g [[3]] ?_;refine WQ.part 50 rfl (fun g50 => ?_) (fun g50 => ?_)
              · try simp only [zq] at g50
                refine g [[14]] ?_;refine WL.cl rfl (fun w hI => wE _ _) (g [[3],[4,1,2,5,31,32,33]] ?_);exact WP.againF (k + 1) ⟨by omega, zZ hd (kE (by assumption) (by assumption) (by first | (left; omega) | (right; omega)))⟩ (by omega) ⟨rfl, rfl, rfl, rfl, rfl, rfl, trivial⟩ (fun _ h => List.mem_cons_of_mem _ h) (fun h => (List.nodup_cons.1 h).2)
              try simp only [zq] at g50
              have hrk : ∀ hp, Rd D hp ⟨sb a1, so a1 + ((k : Int) - 1).toNat * 3 + 0, none⟩ (it (gt T.marks (k - 1)).minute) := fun hp => by
                rw [show ((k : Int) - 1).toNat = k - 1 by omega]; exact (hR.mark.at (k - 1) (by omega)).rd 0 rfl
              have hmp := (zl.1 (hd (k - 1) (by omega))).1.1;refine g [[6]] ?_;refine WQ.qg rfl rfl (Yd.qt (Yd.ix rfl rfl (hR.mark.addr k (by omega)))) rfl (g [[1]] ?_);refine WQ.qg rfl rfl (Yd.qt (Yd.l1 rfl (hrk _))) rfl (g [[5]] ?_);refine WL.part 63 rfl (fun g63 => ?_) (fun g63 => ?_)
              · try simp only [zq] at g63
                refine WL.cl rfl (fun w hI => wE _ _) (g [[3],[4,1,2,5,31,32,33]] ?_);exact WP.againF (k + 1) ⟨by omega, zZ hd (kE (by assumption) (by assumption) (by first | (left; omega) | (right; omega)))⟩ (by omega) ⟨rfl, rfl, rfl, rfl, rfl, rfl, trivial⟩ (fun _ h => List.mem_cons_of_mem _ h) (fun h => (List.nodup_cons.1 h).2)
              try simp only [zq] at g63
              refine WL.nf rfl (fun w hI => yT _ _) (g [[5]] ?_);refine WP.panicBody rfl (fun w hI => ?_)
              have hno : zQ T = false := yf fun hT => by
                have h1 := vS hT (k := k) (by omega); simp_all; omega
              exact ⟨fun _ => ⟨rfl, hI.keep⟩, fun h => absurd (hno.symm.trans h) (by decide), fun h => absurd (hno.symm.trans h) (by decide)⟩
            refine g [[17]] ?_;refine WL.nf rfl (fun w hI => yT _ _) (g [[5]] ?_);refine WP.panicBody rfl (fun w hI => ?_)
            have hno : zQ T = false := yf fun hT => by
              have h1 := vS hT (k := k) (by omega); simp_all; done
            exact ⟨fun _ => ⟨rfl, hI.keep⟩, fun h => absurd (hno.symm.trans h) (by decide), fun h => absurd (hno.symm.trans h) (by decide)⟩
          refine g [[23]] ?_;refine WL.nf rfl (fun w hI => yT _ _) (g [[5]] ?_);refine WP.panicBody rfl (fun w hI => ?_)
          have hno : zQ T = false := yf fun hT => by
            have h1 := vS hT (k := k) (by omega); simp_all; done
          exact ⟨fun _ => ⟨rfl, hI.keep⟩, fun h => absurd (hno.symm.trans h) (by decide), fun h => absurd (hno.symm.trans h) (by decide)⟩
        try simp only [zq] at c34
        refine g [[6],[2,1,2,5]] ?_;refine WL.so SO.makeMap rfl ?_;rintro _ _ _ ⟨b67, hb67, rfl, rfl, rfl⟩;refine g [[1]] ?_;refine WL.so (SO.box rfl rfl) rfl (zw fun b69 hb69 => ?_);refine g [[5],[8,8,1,2,5]] ?_;have hmk : ∀ i, i < T.marks.length → qW T i = true := fun i hi => hd i (by omega);clear hd hk c34 k;refine WC.loopF (fun k : Nat => [(1, .func (.func fi) #[] cp.toArray), (2, pt b2), (5, .func (.func 164) #[] #[]), (8, pt b69), (71, .slice a2 T.sand.length c2), (72, nt T.sand.length), (73, nt k)]) (fun k => k ≤ T.sand.length ∧ ∀ i, i < k → y2 (gt T.sand i) = true) (fun k => T.sand.length - k) 0 ⟨by omega, by intro i hi; omega⟩ (by exact ⟨rfl, rfl, rfl, rfl, rfl, rfl, rfl, trivial⟩) ?_;intro k ⟨hk, hd⟩;refine g [[1],[5,1,2,5,8,71,72,73]] ?_;refine WC.cond rfl (fun c74 => ?_) (fun c74 => ?_)
        · try simp only [zq] at c74
          refine g [[5],[1,1,2,5,8,71,72,73]] ?_;refine WL.yd (Yd.ix rfl rfl (hR.sand.addr k (by omega))) rfl (WL.yd (Yd.lV [_, _] rfl ((hR.sand.at k (by omega)).rdn 0 2 rfl)) rfl ?_);refine WL.so (SO.alloc ZvF.h rfl) rfl (zw fun b10 hb10 => ?_);refine g [[3],[3,10,1,2,5,8,71,72,73]] ?_;refine WL.so (SO.call (Enters.val CaF.h rfl rfl) (fun w hI => XG ⟨_, _⟩ _)) rfl (zs ?_);refine WL.part 79 rfl (fun g79 => ?_) (fun g79 => ?_)
          · refine WL.cl rfl (fun w hI => wE _ _) (g [[3],[4,1,2,5,8,71,72,73]] ?_);exact WP.againF (k + 1) ⟨by omega, zZ hd (by assumption)⟩ (by omega) ⟨rfl, rfl, rfl, rfl, rfl, rfl, rfl, trivial⟩ (fun _ h => List.mem_cons_of_mem _ h) (fun h => (List.nodup_cons.1 h).2)
          refine WL.nf rfl (fun w hI => yT _ _) (g [[5]] ?_);refine WP.panicBody rfl (fun w hI => ?_)
          have hno : zQ T = false := yf fun hT => by
            have h1 := hT.sand k (by omega); simp_all; done
          exact ⟨fun _ => ⟨rfl, hI.keep⟩, fun h => absurd (hno.symm.trans h) (by decide), fun h => absurd (hno.symm.trans h) (by decide)⟩
        try simp only [zq] at c74
        refine g [[7]] ?_;have hsd : ∀ i, i < T.sand.length → y2 (gt T.sand i) = true := fun i hi => hd i (by omega);refine WC.freezeK 0 rfl (fun hn69 => ?_);have hX1 : DExt w D (D.add b69 (shoO (.slice a1 T.marks.length c1) (.slice a2 T.sand.length c2) (.slice a3 T.looks.length c3) b67)) := (DExt.refl w D).add hn69 hb69;have hq1 : (D.add b69 (shoO (.slice a1 T.marks.length c1) (.slice a2 T.sand.length c2) (.slice a3 T.looks.length c3) b67)) b69 = some (shoO (.slice a1 T.marks.length c1) (.slice a2 T.sand.length c2) (.slice a3 T.looks.length c3) b67) := Imm.add_self _ _ _;have hR1 := hR.ext hX1;refine (?_ : WC Tryz.prog _ _ (D.add b69 (shoO (.slice a1 T.marks.length c1) (.slice a2 T.sand.length c2) (.slice a3 T.looks.length c3) b67)) [(b67, .map #[] 0), (b2, .cells (List.toArray [.slice a1 T.marks.length c1, .slice a2 T.sand.length c2, .slice a3 T.looks.length c3]) 31 (0, 0))] _ _);generalize (D.add b69 (shoO (.slice a1 T.marks.length c1) (.slice a2 T.sand.length c2) (.slice a3 T.looks.length c3) b67)) = D1 at hX1 hq1 hR1 ⊢;refine g [[8,1,2,8]] ?_;refine WC.loopF (fun k : Nat => [(1, .func (.func fi) #[] cp.toArray), (8, pt b69), (83, .slice a3 T.looks.length c3), (84, nt T.looks.length), (85, nt k)]) (fun k => k ≤ T.looks.length ∧ ∀ i, i < k → lookB T (gt T.looks i) = true) (fun k => T.looks.length - k) 0 ⟨by omega, by intro i hi; omega⟩ (by exact ⟨rfl, rfl, rfl, rfl, rfl, trivial⟩) ?_;intro k ⟨hk, hd⟩;refine g [[1],[5,1,8,83,84,85]] ?_;refine WC.cond rfl (fun c86 => ?_) (fun c86 => ?_)
        · try simp only [zq] at c86
          refine g [[5],[1,1,8,83,84,85]] ?_;refine WL.yd (Yd.ix rfl rfl (hR.look.addr k (by omega))) rfl (WL.yd (Yd.lV [_, _, _, _] rfl ((hR1.look.at k (by omega)).rdn 0 4 rfl)) rfl ?_);refine WL.so (SO.alloc ZvF.h rfl) rfl (zw fun b12 hb12 => ?_);refine g [[3],[4,12,1,8,83,84,85]] ?_;refine WL.cl rfl (fun w hI => qL T a1 a2 a3 _ _ _ c1 c2 c3 _ _ hR1 b69 b67 hq1 hI.imm _) (g [[1]] ?_);refine WL.part 93 rfl (fun g93 => ?_) (fun g93 => ?_)
          · refine g [[3]] ?_;refine WL.sog rfl (SO.callP CaF.h rfl (fun w hI => uD T a1 a2 a3 _ _ _ c1 c2 c3 _ _ hR1 b69 b67 hq1 hI.imm (by simp_all [inB]; omega) _)) rfl (zs (g [[2]] ?_));refine WL.part 99 rfl (fun g99 => ?_) (fun g99 => ?_)
            · refine g [[2]] ?_;refine WL.sog rfl (SO.callP CaF.h rfl (fun w hI => Xu ⟨_, _⟩ _)) rfl (zs (g [[1]] ?_));refine WL.part 103 rfl (fun g103 => ?_) (fun g103 => ?_)
              · refine WL.cl rfl (fun w hI => wE _ _) (g [[3],[4,1,8,83,84,85]] ?_);exact WP.againF (k + 1) ⟨by omega, zZ hd (by simp_all [lookB])⟩ (by omega) ⟨rfl, rfl, rfl, rfl, rfl, trivial⟩ (fun _ h => List.mem_cons_of_mem _ h) (fun h => (List.nodup_cons.1 h).2)
              refine WL.nf rfl (fun w hI => yT _ _) (g [[5]] ?_);refine WP.panicBody rfl (fun w hI => ?_)
              have hno : zQ T = false := yf fun hT => by
                have h1 := hT.look k (by omega); simp_all [lookB]; done
              exact ⟨fun _ => ⟨rfl, hI.keep⟩, fun h => absurd (hno.symm.trans h) (by decide), fun h => absurd (hno.symm.trans h) (by decide)⟩
            refine g [[4]] ?_;refine WL.nf rfl (fun w hI => yT _ _) (g [[5]] ?_);refine WP.panicBody rfl (fun w hI => ?_)
            have hno : zQ T = false := yf fun hT => by
              have h1 := hT.look k (by omega); simp_all [lookB]; done
            exact ⟨fun _ => ⟨rfl, hI.keep⟩, fun h => absurd (hno.symm.trans h) (by decide), fun h => absurd (hno.symm.trans h) (by decide)⟩
          refine g [[10]] ?_;refine WL.nf rfl (fun w hI => yT _ _) (g [[5]] ?_);refine WP.panicBody rfl (fun w hI => ?_)
          have hno : zQ T = false := yf fun hT => by
            have h1 := hT.look k (by omega); simp_all [lookB]; done
          exact ⟨fun _ => ⟨rfl, hI.keep⟩, fun h => absurd (hno.symm.trans h) (by decide), fun h => absurd (hno.symm.trans h) (by decide)⟩
        try simp only [zq] at c86
        refine g [[6]] ?_;have hok : zQ T = true := x9 g17 g23 g28 hmk hsd (fun i hi => hd i (by omega));refine g [[3,1,8]] ?_;refine WL.so (SO.call (Enters.val hfi rfl rfl) (fun w hI => hIs hok _ b67 _ _ hX1 hq1 hI.imm)) rfl (zs ?_);refine WL.part 108 rfl (fun g108 => ?_) (fun g108 => ?_)
        · refine WL.cl rfl (fun w hI => wE _ _) (g [[3],[6,8]] ?_);refine WP.ret1 rfl rfl rfl (RV.tmp rfl) (fun w1 hI => ⟨fun h => absurd (hok.symm.trans h) (by decide), fun _ h => (by rw [g108] at h; cases h), fun _ _ => ⟨_, b67, D1, rfl, hX1, hq1, hI.sub (fun e he => by simp only [List.mem_singleton] at he; subst he; simp) (by simp [keys])⟩⟩)
        refine WL.nf rfl (fun w hI => yT _ _) (g [[1]] ?_);exact WP.panicBody rfl (fun w hI => ⟨fun h => absurd (hok.symm.trans h) (by decide), fun _ _ => ⟨rfl, hI.keep⟩, fun _ h => by rw [g108] at h; cases h⟩)
      try simp only [zq] at g28
      refine WL.nf rfl (fun w hI => yT _ _) (g [[1]] ?_);refine WP.panicBody rfl (fun w hI => ?_)
      have hno : zQ T = false := yf fun hT => by
        have h1 := hT.nm; have h2 := hT.ns; have h3 := hT.nl; simp_all [inB]; omega
      exact ⟨fun _ => ⟨rfl, hI.keep⟩, fun h => absurd (hno.symm.trans h) (by decide), fun h => absurd (hno.symm.trans h) (by decide)⟩
    refine g [[5]] ?_;refine WL.nf rfl (fun w hI => yT _ _) (g [[1]] ?_);refine WP.panicBody rfl (fun w hI => ?_)
    have hno : zQ T = false := yf fun hT => by
      have h1 := hT.nm; have h2 := hT.ns; have h3 := hT.nl; simp_all [inB]; omega
    exact ⟨fun _ => ⟨rfl, hI.keep⟩, fun h => absurd (hno.symm.trans h) (by decide), fun h => absurd (hno.symm.trans h) (by decide)⟩
  refine g [[11]] ?_;refine WL.nf rfl (fun w hI => yT _ _) (g [[1]] ?_);refine WP.panicBody rfl (fun w hI => ?_)
  have hno : zQ T = false := yf fun hT => by
    have h1 := hT.nm; have h2 := hT.ns; have h3 := hT.nl; simp_all [inB]; omega
  exact ⟨fun _ => ⟨rfl, hI.keep⟩, fun h => absurd (hno.symm.trans h) (by decide), fun h => absurd (hno.symm.trans h) (by decide)⟩
theorem kr {w1 w0 w : World} {D D' : Imm} {hp : Hp} {S : List Nat} (h : Inv D' hp S w0 w) (hx : DExt w1 D D') : Inv D hp S w0 w :=
  ⟨fun b o hb => h.imm b o (hx.old b o hb), h.own, h.nodup, (fun b o hb => by
    cases hd : D b with
    | none => rfl
    | some o' => have := h.apart b o hb; rw [hx.old b o' hd] at this; cases this), h.keep, h.may⟩
abbrev K5 : Type := Fin 61 × Fin 61 × Fin 61 × Fin 61 × Fin 241
def htC (h : Hts) : List Value := [it (h 0), it (h 1), it (h 2), it (h 3)]
def htV (h : Hts) : Value := .agg (htC h).toArray
def moV (h : Hts) (m : Int) : Value := .agg #[it (h 0), it (h 1), it (h 2), it (h 3), it m]
def kv5 (y : K5) : Value := .agg #[nt y.1.val, nt y.2.1.val, nt y.2.2.1.val, nt y.2.2.2.1.val, nt y.2.2.2.2.val]
def f61 (x : Int) : Fin 61 := ⟨x.toNat % 61, Nat.mod_lt _ (by decide)⟩
def f241 (x : Int) : Fin 241 := ⟨x.toNat % 241, Nat.mod_lt _ (by decide)⟩
theorem Yu {x : Int} (h : 0 ≤ x ∧ x ≤ 60) : ((f61 x).val : Int) = x := by
  show ((x.toNat % 61 : Nat) : Int) = x;rw [Nat.mod_eq_of_lt (by omega)]; omega
theorem kn {x : Int} (h : 0 ≤ x ∧ x ≤ 240) : ((f241 x).val : Int) = x := by
  show ((x.toNat % 241 : Nat) : Int) = x;rw [Nat.mod_eq_of_lt (by omega)]; omega
def k5 (h : Hts) (m : Int) : K5 := (f61 (h 0), f61 (h 1), f61 (h 2), f61 (h 3), f241 m)
def HtB (h : Hts) : Prop := ∀ i, 0 ≤ h i ∧ h i ≤ 60
theorem ZH {h : Hts} {m : Int} (hh : HtB h) (hm : 0 ≤ m ∧ m ≤ 240) : moV h m = kv5 (k5 h m) := by
  have g : ∀ x : Int, 0 ≤ x ∧ x ≤ 60 → it x = nt (f61 x).val := fun x hx => by show it x = it ((f61 x).val : Int); rw [Yu hx]
  have g2 : it m = nt (f241 m).val := by show it m = it ((f241 m).val : Int); rw [kn hm]
  unfold moV kv5;rw [g _ (hh 0), g _ (hh 1), g _ (hh 2), g _ (hh 3), g2]; rfl
theorem qO : ∀ x y, kv5 x = kv5 y → x = y := by
  rintro ⟨⟨a, ha⟩, ⟨b, hb⟩, ⟨c, hc⟩, ⟨d, hd⟩, ⟨e, he⟩⟩ ⟨⟨a', ha'⟩, ⟨b', hb'⟩, ⟨c', hc'⟩, ⟨d', hd'⟩, ⟨e', he'⟩⟩ h;simp only [kv5, Value.agg.injEq, it] at h;simp at h;obtain ⟨h1, h2, h3, h4, h5⟩ := h;have e1 : a = a' := by omega
  have e2 : b = b' := by omega
  have e3 : c = c' := by omega
  have e4 : d = d' := by omega
  have e5 : e = e' := by omega
  subst e1; subst e2; subst e3; subst e4; subst e5; rfl
theorem zcw {h h' : Hts} {m m' : Int} (hh : HtB h) (hh' : HtB h') (hm : 0 ≤ m ∧ m ≤ 240) (hm' : 0 ≤ m' ∧ m' ≤ 240) (e : k5 h m = k5 h' m') : (∀ i, i < 4 → h i = h' i) ∧ m = m' := by
  simp only [k5, Prod.mk.injEq] at e;obtain ⟨e0, e1, e2, e3, e4⟩ := e;have g : ∀ {x y : Int}, 0 ≤ x ∧ x ≤ 60 → 0 ≤ y ∧ y ≤ 60 → f61 x = f61 y → x = y := fun hx hy e => by rw [← Yu hx, ← Yu hy, e]
  refine ⟨fun i hi => ?_, by rw [← kn hm, ← kn hm', e4]⟩;rcases (show i = 0 ∨ i = 1 ∨ i = 2 ∨ i = 3 by omega) with rfl | rfl | rfl | rfl
  · exact g (hh _) (hh' _) e0
  · exact g (hh _) (hh' _) e1
  · exact g (hh _) (hh' _) e2
  exact g (hh _) (hh' _) e3
theorem keyM : Tryz.prog.keyType 305 = true := by kernel_rfl
theorem ZI : laidOutB Tryz.prog = true := by kernel_rfl
theorem qM : Go.Maps.Keyed Tryz.prog 305 := Go.Maps.Keyed.of_law (deep_law_gate ZI (Nat.le_of_ble_eq_true zk) (Nat.le_of_ble_eq_true zk) keyM zk)
theorem Yc {n : Nat} (h : n ≤ 1000) : (Lit.int .i64 (n : Int)).wf = true := by
  simp only [Lit.wf, Bool.and_eq_true, decide_eq_true_eq];exact ⟨Int.le_trans (by decide) (Int.natCast_nonneg n), Int.le_trans (show (n : Int) ≤ 1000 by omega) (by decide)⟩
theorem Jk (d : Nat) (n : Nat) (h : n ≤ 1000) : Tryz.prog.keyLits (d + 1) 3 [nt n] = some [.int .i64 (n : Int)] := by
  have hw := Yc h;simp only [Program.keyLits, Tryz.underlying3];simp [hw]
theorem ZN (d : Nat) (a b c e : Nat) (ha : a ≤ 1000) (hb : b ≤ 1000) (hc : c ≤ 1000) (he : e ≤ 1000) : Tryz.prog.keyLits (d + 2) 232 [nt a, nt b, nt c, nt e] = some [.int .i64 (a : Int), .int .i64 (b : Int), .int .i64 (c : Int), .int .i64 (e : Int)] := by
  have h4 : Tryz.prog.cellsOf 232 = 4 := by kernel_rfl
  have h1 : Tryz.prog.cellsOf 3 = 1 := by kernel_rfl
  simp only [Program.keyLits, Tryz.underlying232, Tryz.underlying3, h4, h1];simp [List.range, List.range.loop, Yc ha, Yc hb, Yc hc, Yc he]
theorem ZF (y : K5) : ∃ l, keyOf Tryz.prog 305 (kv5 y) = some l := by
  obtain ⟨⟨a, ha⟩, ⟨b, hb⟩, ⟨c, hc⟩, ⟨d, hd⟩, ⟨e, he⟩⟩ := y;have h5 : Tryz.prog.cellsOf 305 = 5 := by kernel_rfl
  have h4 : Tryz.prog.cellsOf 232 = 4 := by kernel_rfl
  have h1 : Tryz.prog.cellsOf 3 = 1 := by kernel_rfl
  have hs : Tryz.prog.types.size + 1 = 433 + 3 := by kernel_rfl
  unfold keyOf;rw [Tryz.underlying305]
  have hf : (kv5 (⟨a, ha⟩, ⟨b, hb⟩, ⟨c, hc⟩, ⟨d, hd⟩, ⟨e, he⟩)).formed Tryz.prog 305 = true := by
    simp [kv5, Value.formed, Tryz.underlying305, h5]
  simp only [keyM, hf, Bool.and_self, if_true, hs]
  have hl : Tryz.prog.keyLits (433 + 3) 305 [nt a, nt b, nt c, nt d, nt e] = some [.int .i64 (a : Int), .int .i64 (b : Int), .int .i64 (c : Int), .int .i64 (d : Int), .int .i64 (e : Int)] := by
    unfold Program.keyLits;simp only [Tryz.underlying305, h5];simp [h4, h1, Jk, ZN 433 a b c d (by omega) (by omega) (by omega) (by omega), show e ≤ 1000 by omega]
  show ∃ l, (Tryz.prog.keyLits (433 + 3) 305 [nt a, nt b, nt c, nt d, nt e]).map _ = some l;rw [hl];exact ⟨_, rfl⟩
def k9 (T : Tide) (F : K5 → Option Int) : Prop := ∀ h m v, HtB h → zx T m = true → F (k5 h m) = some v → v = y5 T h m
def MapK (T : Tide) (mb : Nat) (hp : Hp) : Prop := ∃ es clock F, hp = [(mb, .map es clock)] ∧ MapR kv5 es clock F ∧ k9 T F
theorem kD (T : Tide) (mb : Nat) : MapK T mb [(mb, .map #[] 0)] := ⟨_, _, _, rfl, MapR.empty kv5, fun h m v _ _ e => by cases e⟩
theorem wq {T : Tide} (hT : zG T) {m : Int} (h : zx T m = true) : 0 ≤ m ∧ m ≤ 240 := by
  have h1 := (hT.mark 0 (by have := hT.nm; omega)).1;have h2 := (hT.mark (T.marks.length - 1) (by have := hT.nm; omega)).1.2;have h' : jI T ≤ m ∧ m ≤ wB T := by simpa only [zx, decide_eq_true_eq] using h
  exact ⟨Int.le_trans h1.1 h'.1, Int.le_trans h'.2 h2⟩
theorem Y2 {T : Tide} (hT : zG T) {h h' : Hts} {m : Int} (hm : zx T m = true) (e : ∀ i, i < 4 → h i = h' i) : y5 T h m = y5 T h' m := by
  obtain ⟨_, h2, _⟩ := ud hT hm;have := hT.nm;unfold y5 jY;rw [e _ (by omega), e _ (by omega)]
theorem ZG {T : Tide} (hT : zG T) {F : K5 → Option Int} (hF : k9 T F) {h : Hts} {m : Int} (hh : HtB h) (hm : zx T m = true) : k9 T (putF F (k5 h m) (y5 T h m)) := fun h' m' v hh' hm' e => by
  unfold putF at e;split at e
  · rename_i e2
    obtain ⟨h1, h2⟩ := zcw hh' hh (wq hT hm') (wq hT hm) e2;subst h2;simp only [Option.some.injEq] at e;rw [← e]; exact (Y2 hT hm h1).symm
  exact hF h' m' v hh' hm' e
theorem zcA (x : Go.Ti.Mark) (b5 : Nat) (m : Int) (D : Imm) (h5 : D b5 = some (.cells (List.toArray [it m]) 3 (0, 0))) (w : World) (hH : Holds D w) : z8 Tryz.prog 231 [.agg #[it x.minute, it x.high.lo, it x.high.hi], pt b5] w (.bool (decide (m ≤ x.minute))) := by
  unfold z8;refine en Tryz.func231 rfl Tryz.ntmps231 (Inv.start hH) (g [[1],[1,0,1]] ?_);refine WL.so (SO.box rfl rfl) rfl (zw fun b2 hb2 => ?_);refine g [[4],[9,3,2,1]] ?_;refine WP.ret1 rfl rfl rfl (RV.tmp rfl) (fun w hI => ⟨zb rfl, hI.keep⟩)
theorem J8 (T : Tide) (a1 a2 a3 : Option Addr) (n1 n2 n3 c1 c2 c3 : Nat) (D : Imm) (w : World) (hR : yo D T a1 n1 a2 n2 a3 n3) (hH : Holds D w) (b5 : Nat) (m : Int) (h5 : D b5 = some (.cells (List.toArray [it m]) 3 (0, 0))) (hfd : wi T m T.marks.length 0 < T.marks.length) : z8 Tryz.prog 230 [.slice a1 n1 c1, .func (.func 231) #[] #[pt b5]] w (nt (wi T m T.marks.length 0)) := by
  unfold z8;obtain rfl := hR.mark.len';obtain rfl := hR.sand.len';obtain rfl := hR.look.len';obtain ⟨hl1, hl2, hl3⟩ := hR.len;refine en Tryz.func230 rfl Tryz.ntmps230 (Inv.start hH) (g [[1],[6,0,1],[7,4,0,1]] ?_);refine WC.loopF (fun k : Nat => [(0, .slice a1 T.marks.length c1), (1, .func (.func 231) #[] #[pt b5]), (7, nt T.marks.length), (8, nt k)]) (fun k => k ≤ T.marks.length ∧ wi T m T.marks.length 0 = wi T m (T.marks.length - k) k) (fun k => T.marks.length - k) 0 ⟨by omega, rfl⟩ (by exact ⟨rfl, rfl, rfl, rfl, trivial⟩) ?_;intro k ⟨hk, hd⟩;refine g [[1],[5,0,1,7,8]] ?_;refine WC.cond rfl (fun c9 => ?_) (fun c9 => ?_)
  · try simp only [zq] at c9
    refine g [[5],[6,0,1,7,8],[4,5,0,1,7,8]] ?_;refine WL.yd (Yd.ix rfl rfl (hR.mark.addr k (by omega))) rfl (WL.yd (Yd.lV [_, _, _] rfl ((hR.mark.at k (by omega)).rdn 0 3 rfl)) rfl ?_);refine WL.so (SO.call (Enters.val CaF.h rfl rfl) (fun w hI => zcA (gt T.marks k) b5 m D h5 _ hI.imm)) rfl (zs (g [[2]] ?_));refine WC.cond rfl (fun c16 => ?_) (fun c16 => ?_)
    · try simp only [zq] at c16
      refine g [[1],[11,5,0,1,7,8]] ?_
      refine WP.ret1 rfl rfl rfl (RV.tmp rfl) (fun w hI => ⟨j8 (by
              first
                | (rw [hd, show T.marks.length - k = (T.marks.length - (k + 1)) + 1 by omega, wi, if_pos (by omega)]; done)
                | (exfalso; rw [hd, show T.marks.length - k = 0 by omega, wi] at hfd; omega)), hI.keep⟩)
    try simp only [zq] at c16
    refine g [[3],[4,0,1,7,8]] ?_;exact WP.againF (k + 1) ⟨by omega, by rw [hd, show T.marks.length - k = (T.marks.length - (k + 1)) + 1 by omega, wi, if_neg (by omega)]⟩ (by omega) ⟨rfl, rfl, rfl, rfl, trivial⟩ (fun _ h => h) (fun h => h)
  try simp only [zq] at c9
  refine g [[6]] ?_;refine WC.ofFr [] trivial (g [[5]] ?_)
  refine WP.ret1 rfl rfl rfl (RV.tmp rfl) (fun w hI => ⟨j8 (by
          first
            | (rw [hd, show T.marks.length - k = (T.marks.length - (k + 1)) + 1 by omega, wi, if_pos (by omega)]; done)
            | (exfalso; rw [hd, show T.marks.length - k = 0 by omega, wi] at hfd; omega)), hI.keep⟩)
theorem ze5 : zj Tryz.prog 305 [.int .i64 0, .int .i64 0, .int .i64 0, .int .i64 0, .int .i64 0] [(0, 4), (4, 1)] := ⟨⟨_, Tryz.zeroValue305, rfl⟩, _, Tryz.underlying305, fun w => by simp [Tryz.sizeOf3, Tryz.sizeOf232]⟩
abbrev zbW := SaF.mk ze5
attribute [instance] zbW
def ux (D : Imm) : Prop := ∃ t fz, D 2 = some (.cells (List.toArray (donL.map it)) t fz)
theorem ux.ext {w : World} {D D' : Imm} (hD : DExt w D D') (h : ux D) : ux D' := let ⟨t, fz, e⟩ := h; ⟨t, fz, hD.old _ _ e⟩
theorem Yt {D : Imm} (h : ux D) (hp : Hp) {k : Nat} (hk : k < 7) : Rd D hp ⟨2, 0 + k * 1, none⟩ (it (doneN k)) := by
  obtain ⟨t, fz, e⟩ := h;rcases (show k = 0 ∨ k = 1 ∨ k = 2 ∨ k = 3 ∨ k = 4 ∨ k = 5 ∨ k = 6 by omega) with rfl | rfl | rfl | rfl | rfl | rfl | rfl <;> exact Rd.imm e rfl
theorem zcH {a r : Int} (ha : 0 ≤ a ∧ a ≤ 12) (hr : 0 ≤ r ∧ r ≤ 240) : 0 ≤ a * r ∧ a * r ≤ 2880 :=
  ⟨Int.mul_nonneg ha.1 hr.1, Int.le_trans (Int.mul_le_mul ha.2 hr.2 hr.1 (by decide)) (by decide)⟩
theorem zld {a r : Int} (ha : 0 ≤ a ∧ a ≤ 3) (hr : 0 ≤ r ∧ r ≤ 240) : 0 ≤ a * r ∧ a * r ≤ 720 :=
  ⟨Int.mul_nonneg ha.1 hr.1, Int.le_trans (Int.mul_le_mul ha.2 hr.2 hr.1 (by decide)) (by decide)⟩
theorem J5 (h : Hts) {i : Nat} (hi : i < 4) : (htC h)[0 + i * 1]? = some (it (h i)) := by
  rcases (show i = 0 ∨ i = 1 ∨ i = 2 ∨ i = 3 by omega) with rfl | rfl | rfl | rfl <;> rfl
theorem qx (T : Tide) (a1 a2 a3 : Option Addr) (n1 n2 n3 c1 c2 c3 : Nat) (D : Imm) (w : World) (hR : yo D T a1 n1 a2 n2 a3 n3) (qb mb : Nat) (hq : D qb = some (shoO (.slice a1 n1 c1) (.slice a2 n2 c2) (.slice a3 n3 c3) mb)) (hH : Holds D w) (hT : zG T) (hdn : ux D) (h : Hts) (m : Int) (hh : HtB h) (hm : zx T m = true) (es : Array MapEntry) (clock : Nat) (F : K5 → Option Int) (hM : MapR kv5 es clock F) (hF : k9 T F) (hI0 : Inv D [(mb, .map es clock)] [mb] w w) : zp Tryz.prog 168 [pt qb, htV h, it m] w D [mb] (fun v D' hp' => v = it (y5 T h m) ∧ D' = D ∧ MapK T mb hp') := by
  unfold zp;obtain rfl := hR.mark.len';obtain rfl := hR.sand.len';obtain rfl := hR.look.len';obtain ⟨hl1, hl2, hl3⟩ := hR.len;have hmn := wq hT hm;obtain ⟨hk1, hk2, hk3, hk4, hk5⟩ := ud hT hm
  have hfd := jH hT (m := m) (by
      have h' : jI T ≤ m ∧ m ≤ wB T := by simpa only [zx, decide_eq_true_eq] using hm
      exact h'.2)
  have hst : y5 T h m = jY T h m (xf T m) := rfl;generalize hkn : xf T m = k at hk1 hk2 hk3 hk4 hk5 hst;have hnm := hT.nm;have hma := (hT.mark (k - 1) (by omega)).1;have hmb := (hT.mark k hk2).1;have hgap := hT.less (i := k - 1) (j := k) (by omega) hk2;have hh1 := hh (k - 1);have hh2 := hh k;unfold jY at hst;obtain ⟨L, hLd⟩ : ∃ L, (gt T.marks k).minute - (gt T.marks (k - 1)).minute = L := ⟨_, rfl⟩;obtain ⟨x, hxd⟩ : ∃ x, m - (gt T.marks (k - 1)).minute = x := ⟨_, rfl⟩;rw [hLd, hxd] at hst;have hLn : 6 ≤ L ∧ L ≤ 240 := by omega
  have hxn : 0 ≤ x ∧ x ≤ L := by omega
  obtain ⟨mv1, mv2, mv3, mv4, mv5, mv6, mv7⟩ := XF (L := L) (x := x) (by omega) hxn.1 hxn.2;have hmv : q8 L x = doneN (6 * x / L).toNat * L + if 0 < 6 * x % L then (doneN ((6 * x / L).toNat + 1) - doneN (6 * x / L).toNat) * (6 * x % L) else 0 := rfl;obtain ⟨qn, hqn⟩ : ∃ qn : Nat, 6 * x / L = (qn : Int) := ⟨(6 * x / L).toNat, by omega⟩;obtain ⟨r, hrd⟩ : ∃ r, 6 * x % L = r := ⟨_, rfl⟩;obtain ⟨f, hf⟩ : ∃ f, q8 L x = f := ⟨_, rfl⟩;have hqw := hqn;have hrw := hrd;rw [hf] at mv5 mv6 hmv hst;rw [hqn, hrd, Int.toNat_natCast] at hmv;rw [hqn] at mv1 mv2 mv7;rw [hrd] at mv3 mv4 mv7;have hfv : (0 < r → doneN qn * L + (doneN (qn + 1) - doneN qn) * r = f) ∧ (r ≤ 0 → doneN qn * L = f) := ⟨fun h => by rw [hmv, if_pos h], fun h => by rw [hmv, if_neg (by omega)]; omega⟩;have hdq := qj qn;have hdr := qG qn;have hpl := zcH (a := doneN qn) (r := L) hdq (by omega);obtain ⟨sn1, sn2, sn3, sn4, sn5, sn6, sn7⟩ := Y1 (L := L) (f := f) (by omega) hh1 hh2 ⟨mv5, mv6⟩;refine en Tryz.func168 rfl Tryz.ntmps168 hI0 (g [[1],[1,0,1,2]] ?_);refine WL.so (SO.box rfl rfl) rfl (zw fun b4 hb4 => ?_);refine WL.so (SO.box rfl rfl) rfl (zw fun b5 hb5 => ?_);refine g [[4],[1,6,5,4,0]] ?_;refine WL.yd (Yd.loadN  AgF.h SzF.h rfl (vs := [_, _, _, _]) rfl (RdN.own (k := 1) (n := 4) rfl rfl)) rfl (g [[2]] ?_);refine WL.so (SO.alloc ZvF.h rfl) rfl (zw fun b7 hb7 => ?_);refine g [[5],[0,7,6,5,4,0],[3010],[5]] ?_;refine WQ.know 24 (kv5 (k5 h m)) rfl (ZH hh hmn) (WQ.q rfl (Yd.qt (Yd.lookKOk (y := k5 h m) qO qM ZF UnF.h ZvF.h (j := 3) rfl rfl rfl hM)) rfl (g [[9],[4,9,8,7,6,5,4,0]] ?_));refine WC.cond rfl (fun c28 => ?_) (fun c28 => ?_)
  · refine g [[1],[7,8,7,6,5,4,0]] ?_
    refine WP.ret1 rfl rfl rfl (RV.tmp rfl) (fun w1 hI => ⟨_, D, [(mb, .map es clock)], rfl, DExt.refl _ _, hI.drop 3, (by cases hFk : F (k5 h m) with
      | none => rw [hFk] at c28; cases c28
      | some v => exact congrArg it (hF h m v hh hm hFk)), rfl, es, clock, F, rfl, hM, hF⟩)
  refine g [[3],[7,7,6,5,4,0]] ?_;refine WL.freezeK 1 rfl (fun hn5 => ?_);have hF5 := fun o => (DExt.refl w D).add (o := o) hn5 hb5;have hX1 := hF5 (.cells (List.toArray [it m]) 3 (0, 0));have hq1 := hX1.old _ _ hq;have hR1 := hR.ext hX1;have hdn1 := hdn.ext hX1;have h51 : (D.add b5 (.cells (List.toArray [it m]) 3 (0, 0))) b5 = _ := Imm.add_self _ _ _;refine WL.cl rfl (fun w hI => J8 T a1 a2 a3 _ _ _ c1 c2 c3 _ _ hR1 hI.imm b5 m h51 hfd) (WL.yd (Yd.max2 rfl rfl) rfl ?_);refine WL.know 37 (nt k) rfl (by show it (max 1 _) = it (k : Int); congr 1; rw [← hkn]; unfold xf; omega) (g [[4],[0,10,7,6,5,4,0],[3031],[7]] ?_);refine WQ.know 44 (nt (k - 1)) rfl (by show it ((k : Int) - 1) = it ((k - 1 : Nat) : Int); congr 1; omega) ?_;refine WQ.q rfl (Yd.qt (Yd.ix rfl rfl (hR1.mark.addr (k - 1) (by omega)))) rfl (g [[1]] ?_);refine WQ.q rfl (Yd.qt (Yd.l1 rfl ((hR1.mark.at (k - 1) (by omega)).rd 0 rfl))) rfl (g [[6]] ?_);refine WQ.q rfl (Yd.qt (Yd.ix rfl rfl (hR1.mark.addr (k - 1) (by omega)))) rfl (g [[1]] ?_);refine WQ.q rfl (Yd.qt (Yd.l1 rfl ((hR1.mark.at k (by omega)).rd 0 rfl))) rfl (g [[7]] ?_);refine WQ.know 63 (nt (k - 1)) rfl (by show it ((k : Int) - 1) = it ((k - 1 : Nat) : Int); congr 1; omega) ?_;refine WQ.q rfl (Yd.qt (Yd.ix rfl rfl (hR1.mark.addr (k - 1) (by omega)))) rfl (g [[1]] ?_);refine WQ.q rfl (Yd.qt (Yd.l1 rfl ((hR1.mark.at (k - 1) (by omega)).rd 0 rfl))) rfl (g [[1]] ?_);refine WQ.know 67 (it L) rfl (congrArg it hLd) (g [[6],[0,12,11,10,7,6,5,4,0],[3013],[3]] ?_);refine WQ.know 70 (it x) rfl (congrArg it hxd) (g [[2]] ?_);refine WQ.q rfl (Yd.qt (Yd.quo rfl rfl (by omega) (by omega) (wr64 ⟨by omega, by omega⟩))) rfl (g [[3]] ?_);refine WQ.know 76 (it x) rfl (congrArg it hxd) (g [[2]] ?_);refine WQ.q rfl (Yd.qt (Yd.rem rfl rfl (by omega) (by omega))) rfl (WQ.know 73 (nt qn) rfl (congrArg it hqn) ?_);refine WQ.know 79 (it r) rfl (congrArg it hrd) (g [[6],[2,14,13,12,10,7,6,4,0]] ?_);refine WL.yd (Yd.indexA UnF.h SzF.h rfl rfl (by omega) (by omega)) rfl (WL.yd (Yd.l1 rfl (Yt hdn1 _ (k := qn) (by omega))) rfl (g [[7],[5,15,14,13,12,10,7,6,4,0]] ?_));refine WC.cond rfl (fun c86 => ?_) (fun c86 => ?_)
  · try simp only [zq] at c86
    have hq5 : qn ≤ 5 := by omega
    have hpr := zld (a := doneN (qn + 1) - doneN qn) (r := r) (by omega) (by omega);refine g [[0,15,14,13,12,10,7,6,4,0],[3011],[2]] ?_;refine WQ.q rfl (Yd.qt (Yd.addN (i := qn) (j := 1) rfl rfl (by omega))) rfl (WQ.q rfl (Yd.qt (Yd.indexA UnF.h SzF.h rfl rfl (by omega) (by omega))) rfl ?_);refine WQ.q rfl (Yd.qt (Yd.l1 rfl (Yt hdn1 _ (k := qn + 1) (by omega)))) rfl (g [[1]] ?_);refine WQ.q rfl (Yd.qt (Yd.indexA UnF.h SzF.h rfl rfl (by omega) (by omega))) rfl (WQ.q rfl (Yd.qt (Yd.l1 rfl (Yt hdn1 _ (k := qn) (by omega)))) rfl (g [[9],[0,15,12,10,7,6,4,0],[3023],[7]] ?_));refine WQ.know 105 (nt (k - 1)) rfl (by show it ((k : Int) - 1) = it ((k - 1 : Nat) : Int); congr 1; omega) ?_;refine WQ.q rfl (Yd.qt (Yd.indexA UnF.h SzF.h rfl rfl (by omega) (by omega))) rfl (WQ.q rfl (Yd.qt (Yd.l1 rfl (Rd.own (k := 1) rfl (J5 h (i := k - 1) (by omega))))) rfl (g [[3]] ?_));refine WQ.know 110 (it f) rfl (congrArg it (hfv.1 c86)) (g [[3]] ?_);refine WQ.q rfl (Yd.qt (Yd.indexA UnF.h SzF.h rfl rfl (by omega) (by omega))) rfl (WQ.q rfl (Yd.qt (Yd.l1 rfl (Rd.own (k := 1) rfl (J5 h (i := k) (by omega))))) rfl (g [[1]] ?_));refine WQ.know 116 (it f) rfl (congrArg it (hfv.1 c86)) (g [[4]] ?_);refine WQ.q rfl (Yd.qt (Yd.quo rfl rfl (by omega) (by omega) (wr64 ⟨by omega, by omega⟩))) rfl (g [[1]] ?_);refine WL.know 103 (kv5 (k5 h m)) rfl (ZH hh hmn) (WL.know 121 (it (y5 T h m)) rfl (congrArg it hst.symm) ?_);refine WL.so (SO.putK (u := y5 T h m) (y := k5 h m) qO qM ZF UnF.h rfl rfl rfl (j := 2) rfl hM) rfl ?_;rintro _ _ _ ⟨rfl, es1, clock1, rfl, hM1⟩;refine g [[3],[0,7,6,0],[3005],[6]] ?_;refine WL.know 126 (kv5 (k5 h m)) rfl (ZH hh hmn) (WL.yd (Yd.lookK (y := k5 h m) qO qM ZF UnF.h ZvF.h (j := 2) rfl rfl rfl hM1) rfl (g [[4]] ?_));refine WP.ret1 rfl rfl rfl (RV.tmp rfl) (fun w1 hI => ⟨_, D, [(mb, .map es1 clock1)], rfl, DExt.refl _ _, kr (hI.drop 2) hX1, (by rw [show (putF F (k5 h m) (y5 T h m)) (k5 h m) = some (y5 T h m) from if_pos rfl]; rfl), rfl, es1, clock1, _, rfl, hM1, ZG hT hF hh hm⟩)
  try simp only [zq] at c86
  refine g [[3],[0,15,12,10,7,6,4,0],[3023],[7]] ?_;refine WQ.know 105 (nt (k - 1)) rfl (by show it ((k : Int) - 1) = it ((k - 1 : Nat) : Int); congr 1; omega) ?_;refine WQ.q rfl (Yd.qt (Yd.indexA UnF.h SzF.h rfl rfl (by omega) (by omega))) rfl (WQ.q rfl (Yd.qt (Yd.l1 rfl (Rd.own (k := 1) rfl (J5 h (i := k - 1) (by omega))))) rfl (g [[3]] ?_));refine WQ.know 110 (it f) rfl (congrArg it (hfv.2 c86)) (g [[3]] ?_);refine WQ.q rfl (Yd.qt (Yd.indexA UnF.h SzF.h rfl rfl (by omega) (by omega))) rfl (WQ.q rfl (Yd.qt (Yd.l1 rfl (Rd.own (k := 1) rfl (J5 h (i := k) (by omega))))) rfl (g [[1]] ?_));refine WQ.know 116 (it f) rfl (congrArg it (hfv.2 c86)) (g [[4]] ?_);refine WQ.q rfl (Yd.qt (Yd.quo rfl rfl (by omega) (by omega) (wr64 ⟨by omega, by omega⟩))) rfl (g [[1]] ?_);refine WL.know 103 (kv5 (k5 h m)) rfl (ZH hh hmn) (WL.know 121 (it (y5 T h m)) rfl (congrArg it hst.symm) ?_);refine WL.so (SO.putK (u := y5 T h m) (y := k5 h m) qO qM ZF UnF.h rfl rfl rfl (j := 2) rfl hM) rfl ?_;rintro _ _ _ ⟨rfl, es1, clock1, rfl, hM1⟩;refine g [[3],[0,7,6,0],[3005],[6]] ?_;refine WL.know 126 (kv5 (k5 h m)) rfl (ZH hh hmn) (WL.yd (Yd.lookK (y := k5 h m) qO qM ZF UnF.h ZvF.h (j := 2) rfl rfl rfl hM1) rfl (g [[4]] ?_));refine WP.ret1 rfl rfl rfl (RV.tmp rfl) (fun w1 hI => ⟨_, D, [(mb, .map es1 clock1)], rfl, DExt.refl _ _, kr (hI.drop 2) hX1, (by rw [show (putF F (k5 h m) (y5 T h m)) (k5 h m) = some (y5 T h m) from if_pos rfl]; rfl), rfl, es1, clock1, _, rfl, hM1, ZG hT hF hh hm⟩)
theorem zd3 (h : Hts) {i : Nat} (hi : i < 4) (n : Int) : splice (htC h) (0 + i * 1) [it n] = htC (updH h i n) := by
  rcases (show i = 0 ∨ i = 1 ∨ i = 2 ∨ i = 3 by omega) with rfl | rfl | rfl | rfl <;> simp [htC, updH, splice]
theorem zbu (h : Hts) (i : Nat) (n : Int) (hi : i < 4) (w : World) : z8 Tryz.prog 237 [htV h, nt i, it n] w (htV (updH h i n)) := by
  unfold z8;refine en Tryz.func237 rfl Tryz.ntmps237 zI (g [[1],[1,0,1,2]] ?_);refine WL.so (SO.box rfl rfl) rfl (zw fun b3 hb3 => ?_);refine WL.so (SO.alloc ZvF.h rfl) rfl (zw fun b6 hb6 => ?_);refine g [[3],[3,6,3,1,2]] ?_;refine WL.yd (Yd.indexA UnF.h SzF.h rfl rfl (by omega) (by omega)) rfl ?_;refine WL.so (SO.store 1 rfl SzF.h rfl rfl rfl rfl (by show 0 + i * 1 + 1 ≤ 4; omega) (za rfl)) rfl (zt (g [[3],[1,6,3]] ?_));rw [show splice (htC h) (0 + (i : Int).toNat * 1) [it n] = htC (updH h i n) from zd3 h hi n];refine g [[5]] ?_;refine WP.ret1 rfl rfl rfl (RV.cellN AgF.h SzF.h rfl (vs := [_, _, _, _]) rfl (RdN.own (k := 0) (n := 4) rfl rfl)) (fun w hI => ⟨rfl, hI.keep⟩)
theorem Yv (a b : Int) (w : World) : z8 Tryz.prog 354 [.agg #[], it a, it b] w (.bool true) := by
  unfold z8;refine en Tryz.func354 rfl Tryz.ntmps354 zI (g [[1],[1,0]] ?_);refine WL.so (SO.box rfl rfl) rfl (zw fun b3 hb3 => ?_);refine g [[4],[5,6]] ?_;refine WP.ret1 rfl rfl rfl (RV.tmp rfl) (fun w hI => ⟨rfl, hI.keep⟩)
theorem zai (l : Go.Ti.Look) (a b : Int) (ha : 0 ≤ a ∧ a ≤ 60) (hb : 0 ≤ b ∧ b ≤ 60) (w : World) : z8 Tryz.prog 355 [.agg #[it l.depth.lo, it l.depth.hi], it a, it b] w (.bool (fitB l a b)) := by
  unfold z8;refine en Tryz.func355 rfl Tryz.ntmps355 zI (g [[1],[1,0,1,2]] ?_);refine WL.so (SO.box rfl rfl) rfl (zw fun b3 hb3 => ?_);refine g [[4],[1,6,3,1,2]] ?_;refine WL.yd (Yd.fieldAddrZ (c := 1) (k := 0) Tryz.underlying366 rfl Tryz.sizeOf362 rfl rfl zk zk rfl rfl) rfl (g [[3]] ?_);refine WL.cl rfl (fun w hI => Yv a b _) (g [[1]] ?_);refine WL.part 12 rfl (fun g12 => ?_) (fun g12 => ?_)
  · try simp only [zq] at g12
    refine g [[3]] ?_;refine WL.ydg rfl (Yd.max2 rfl rfl) rfl (g [[6]] ?_);refine WL.sog rfl (SO.callP CaF.h rfl (fun w hI => w7 _ _ _ _)) rfl (zs (g [[5]] ?_));refine WP.ret1 rfl rfl rfl (RV.tmp rfl) (fun w hI => ⟨zb (by simp [fitB, inB]), hI.keep⟩)
  cases g12
end Go.Proofs.YtejgofaeafphjaaGreatDoor
namespace Go.Ti
abbrev Bs := List UInt8
def digB (c : UInt8) : Bool := decide (48 ≤ c.toNat ∧ c.toNat ≤ 57)
def valN (acc : Nat) (s : Bs) : Nat := s.foldl (fun a c => 10 * a + (c.toNat - 48)) acc
theorem jn (acc : Nat) (c : UInt8) (r : Bs) : valN acc (c :: r) = valN (10 * acc + (c.toNat - 48)) r := by simp only [valN, List.foldl_cons]
def numR (s : Bs) : Option Int := if (1 ≤ s.length ∧ s.length ≤ 6) ∧ ¬ (1 < s.length ∧ s.head? = some 48) ∧ s.all digB = true then some ((valN 0 s : Nat) : Int) else none
def numP (s : Bs) : Option Int := match Lib.atoiAll s with
  | .ok v => if 0 ≤ v ∧ s.length ≤ 6 ∧ Lib.itoa v = s then some v else none
  | _ => none
theorem Wc (a b : Bs) (acc : Nat) : valN acc (a ++ b) = valN (valN acc a) b := List.foldl_append
theorem vw {c : UInt8} : digB c = true ↔ 48 ≤ c.toNat ∧ c.toNat ≤ 57 := by simp [digB]
theorem j4 : ∀ (s : Bs) (acc k : Nat), s.all digB = true → acc < 10 ^ k → k + s.length ≤ 12 → Lib.parseUint10 acc s = .ok (valN acc s) ∧ valN acc s < 10 ^ (k + s.length)
  | [], acc, k, _, h, _ => ⟨rfl, h⟩
  | c :: s, acc, k, hd, h, hk => by
    simp only [List.all_cons, Bool.and_eq_true] at hd;have hc := vw.1 hd.1;have h1 : (10 : Nat) ^ k ≤ 10 ^ 12 := Nat.pow_le_pow_right (by omega) (by simp at hk; omega);have h2 : (10 : Nat) ^ 12 = 1000000000000 := by decide
    have h3 : 10 * acc + (c.toNat - 48) < 10 ^ (k + 1) := by rw [Nat.pow_succ]; omega
    have ih := j4 s (10 * acc + (c.toNat - 48)) (k + 1) hd.2 h3 (by simp at hk; omega);rw [Lib.parseUint10, if_pos hc, if_neg (by omega), if_neg (by omega), jn, show acc * 10 + (c.toNat - 48) = 10 * acc + (c.toNat - 48) by omega];exact ⟨ih.1, by rw [List.length_cons, show k + (s.length + 1) = k + 1 + s.length by omega]; exact ih.2⟩
theorem ZR {n : Nat} (h : n < 10) : (UInt8.ofNat (48 + n)).toNat = 48 + n := UInt8.toNat_ofNat_of_lt' (show 48 + n < 256 by omega)
theorem Yo (n : Nat) : (Lib.decDigits n).all digB = true ∧ valN 0 (Lib.decDigits n) = n ∧ Lib.decDigits n ≠ [] ∧ (10 ≤ n → (Lib.decDigits n).head? ≠ some 48) ∧ (n < 10 → (Lib.decDigits n).length = 1) ∧ (0 < n → (Lib.decDigits n).head? ≠ some 48) := by
  induction n using Nat.strongRecOn with
  | _ n ih =>
    by_cases h : n < 10
    · have e : Lib.decDigits n = [UInt8.ofNat (48 + n)] := by rw [Lib.decDigits, dif_pos h]
      have e2 := ZR h;rw [e];refine ⟨by rw [List.all_cons, digB, e2]; simp; omega, by show 10 * 0 + ((UInt8.ofNat (48 + n)).toNat - 48) = n; rw [e2]; omega, by simp, fun h2 => by omega, fun _ => rfl, fun h2 e3 => ?_⟩;simp only [List.head?_cons, Option.some.injEq] at e3;rw [e3] at e2;have : (48 : UInt8).toNat = 48 := rfl;omega
    · have e : Lib.decDigits n = Lib.decDigits (n / 10) ++ [UInt8.ofNat (48 + n % 10)] := by rw [Lib.decDigits, dif_neg h]
      obtain ⟨h1, h2, h3, h4, h5, h6⟩ := ih (n / 10) (by omega);have e2 := ZR (n := n % 10) (by omega)
      have hh : (Lib.decDigits n).head? = (Lib.decDigits (n / 10)).head? := by
        rw [e];cases hd : Lib.decDigits (n / 10) with
        | nil => exact absurd hd h3
        | cons x l => rfl
      refine ⟨by rw [e, List.all_append, h1, List.all_cons, digB, e2]; simp; omega, ?_, by rw [e]; simp, fun _ => by rw [hh]; exact h6 (by omega), fun h7 => absurd h7 h, fun _ => by rw [hh]; exact h6 (by omega)⟩;rw [e, Wc, h2]
      show 10 * (n / 10) + ((UInt8.ofNat (48 + n % 10)).toNat - 48) = n;rw [e2]; omega
theorem Qg : ∀ (s : Bs) (acc : Nat), 0 < acc → 0 < valN acc s
  | [], _, h => h
  | c :: s, acc, h => by rw [jn]; exact Qg s _ (by omega)
theorem Xf : ∀ (k : Nat) (s : Bs), s.length = k + 1 → s.all digB = true → (1 < s.length → s.head? ≠ some 48) → Lib.decDigits (valN 0 s) = s
  | 0, s, hl, hd, _ => by
    match s, hl with
    | [c], _ =>
      have hc := vw.1 (by simpa using hd : digB c = true);have e : valN 0 [c] = c.toNat - 48 := by show 10 * 0 + (c.toNat - 48) = _; omega
      rw [e, Lib.decDigits, dif_pos (by omega), show 48 + (c.toNat - 48) = c.toNat by omega];simp
  | k + 1, s, hl, hd, hz => by
    have hne : s ≠ [] := fun e => by rw [e] at hl; simp at hl
    obtain ⟨t, c, rfl⟩ : ∃ t c, s = t ++ [c] := ⟨s.dropLast, s.getLast hne, (List.dropLast_concat_getLast hne).symm⟩;have htl : t.length = k + 1 := by simpa using hl
    rw [List.all_append, Bool.and_eq_true] at hd;have hc := vw.1 (by simpa using hd.2 : digB c = true)
    have hhead : (t ++ [c]).head? = t.head? := by
      cases t with
      | nil => simp at htl
      | cons x t => rfl
    have hz' : t.head? ≠ some 48 := by rw [← hhead]; exact hz (by simp; omega)
    have ih := Xf k t htl hd.1 (fun _ => hz')
    have hp : 0 < valN 0 t := by
      cases t with
      | nil => simp at htl
      | cons x t =>
        simp only [List.all_cons, Bool.and_eq_true] at hd;have hx := vw.1 hd.1.1;rw [jn];refine Qg t _ ?_;rcases Nat.lt_or_ge 48 x.toNat with h1 | h1
        · omega
        · exfalso
          apply hz';have : x.toNat = (48 : UInt8).toNat := by have : (48 : UInt8).toNat = 48 := rfl; omega
          rw [UInt8.toNat_inj.1 this]; rfl
    have e : valN 0 (t ++ [c]) = 10 * valN 0 t + (c.toNat - 48) := by rw [Wc]; rfl
    rw [e, Lib.decDigits, dif_neg (by omega), show (10 * valN 0 t + (c.toNat - 48)) / 10 = valN 0 t by omega, ih, show 48 + (10 * valN 0 t + (c.toNat - 48)) % 10 = c.toNat by omega];simp
theorem ql (n : Nat) : Lib.itoa (n : Int) = Lib.decDigits n := by
  unfold Lib.itoa;rw [if_neg (by omega), Int.toNat_natCast]
theorem Qz {s : Bs} (h1 : 1 ≤ s.length) (h2 : s.length ≤ 6) (hd : s.all digB = true) : Lib.atoiAll s = .ok ((valN 0 s : Nat) : Int) := by
  have hp := j4 s 0 0 hd (by simp) (by omega)
  match s, h1 with
  | c :: r, _ =>
    have hc := vw.1 (by simp only [List.all_cons, Bool.and_eq_true] at hd; exact hd.1 : digB c = true)
    have hlt : valN 0 (c :: r) < 1000000 := by
      have h3 : (10 : Nat) ^ (0 + (c :: r).length) ≤ 10 ^ 6 := Nat.pow_le_pow_right (by omega) (by omega);have h4 : (10 : Nat) ^ 6 = 1000000 := by decide
      omega
    unfold Lib.atoiAll;simp only;rw [if_neg (by omega), Lib.parseMag, if_neg (by simp), hp.1];simp only;rw [if_neg (by omega), if_neg (by omega), if_neg (by omega)]
theorem XJ (s : Bs) : numP s = numR s := by
  by_cases h : (1 ≤ s.length ∧ s.length ≤ 6) ∧ ¬ (1 < s.length ∧ s.head? = some 48) ∧ s.all digB = true
  · have hb := Xf (s.length - 1) s (by omega) h.2.2 (fun h1 e => h.2.1 ⟨h1, e⟩);unfold numP numR;rw [if_pos h, Qz h.1.1 h.1.2 h.2.2];simp only;rw [if_pos ⟨by omega, h.1.2, by rw [ql, hb]⟩]
  · unfold numR;rw [if_neg h];unfold numP;split
    · rename_i v e
      rw [if_neg];rintro ⟨h0, hl, hi⟩;obtain ⟨n, rfl⟩ := Int.eq_ofNat_of_zero_le h0;rw [ql] at hi;have hd := Yo n;rw [hi] at hd;refine h ⟨⟨?_, hl⟩, fun h1 => ?_, hd.1⟩
      · have := List.length_pos_iff.2 hd.2.2.1; omega
      · rcases Nat.lt_or_ge n 10 with h2 | h2
        · have := hd.2.2.2.2.1 h2; omega
        · exact hd.2.2.2.1 h2 h1.2
    · rfl
theorem zaL {s : Bs} {v : Int} (h : numP s = some v) : 0 ≤ v ∧ v < 1000000 := by
  rw [XJ] at h;unfold numR at h;split at h
  · rename_i h1
    cases h
    have hp := (j4 s 0 0 h1.2.2 (by simp) (by omega)).2;have h3 : (10 : Nat) ^ (0 + s.length) ≤ 10 ^ 6 := Nat.pow_le_pow_right (by omega) (by omega);have h4 : (10 : Nat) ^ 6 = 1000000 := by decide
    omega
  · cases h
theorem Kx {n : Nat} (h : n < 1000000) : numP (Lib.itoa (n : Int)) = some (n : Int) := by
  have hd := Yo n
  have hl : (Lib.decDigits n).length ≤ 6 := by
    rw [Lib.decDigits_length];rcases Nat.lt_or_ge (Lib.nDigits n) 7 with h1 | h1
    · omega
    · exfalso
      have := Lib.nDigits_pos n
      have key : 10 ^ (Lib.nDigits n - 1) ≤ n ∨ n = 0 := by
        rcases Nat.eq_zero_or_pos n with h0 | h0
        · exact .inr h0
        · refine .inl ?_;clear h h1 this hd
          induction n using Nat.strongRecOn with
          | _ n ih =>
            by_cases h : n < 10
            · rw [Lib.nDigits_small h]; show 10 ^ 0 ≤ n; omega
            · rw [Lib.nDigits_big h];have := ih (n / 10) (by omega) (by omega);have hp := Lib.nDigits_pos (n / 10);rw [show Lib.nDigits (n / 10) + 1 - 1 = (Lib.nDigits (n / 10) - 1) + 1 by omega, Nat.pow_succ];omega
      rcases key with key | key
      · have h3 : (10 : Nat) ^ 6 ≤ 10 ^ (Lib.nDigits n - 1) := Nat.pow_le_pow_right (by omega) (by omega);have h4 : (10 : Nat) ^ 6 = 1000000 := by decide
        omega
      · subst key;rw [Lib.nDigits_small (by omega)] at h1; omega
  rw [XJ, ql];unfold numR
  have hz : ¬ (1 < (Lib.decDigits n).length ∧ (Lib.decDigits n).head? = some 48) := fun h1 => by
    rcases Nat.lt_or_ge n 10 with h2 | h2
    · have := hd.2.2.2.2.1 h2; omega
    · exact hd.2.2.2.1 h2 h1.2
  rw [if_pos ⟨⟨List.length_pos_iff.2 hd.2.2.1, hl⟩, hz, hd.1⟩, hd.2.1]
end Go.Ti
namespace Go.Ti
open Go.W
def minT (n : Int) : Bool := decide (0 ≤ n ∧ n ≤ 240)
def w6 (t : Tru) (i : Nat) (m : Int) : Bool := decide ((t i).1 ≤ m ∧ m ≤ (t i).2)
def nowI (t : Tru) (m : Int) : Nat → Int
  | 0 => -1
  | i + 1 => if w6 t i m = true ∧ (nowI t m i < 0 ∨ befT t i (nowI t m i).toNat = true) then (i : Int) else nowI t m i
def yr (T : Tks) (t : Tru) (hut m : Int) : Bool := (List.range T.l.length).any fun i => decide ((gt T.l i).hut = hut) && decide (0 ≤ m - (t i).2 ∧ m - (t i).2 ≤ 29)
def zi (T : Tks) (m : Int) : Int × Bool × Int := if tksE T (minT m) ≠ 0 then (0, false, tksE T (minT m)) else ((xN (fun i => (allT T).any fun t => decide (nowI t m T.l.length = (i : Int))) T.l.length : Int), (allT T).any (fun t => decide (nowI t m T.l.length < 0)), 0)
def zF (T : Tks) (hut m : Int) : Int × Int := if tksE T (hutT T hut && minT m) ≠ 0 then (0, tksE T (hutT T hut && minT m)) else (vI ((allT T).any fun t => !yr T t hut m) ((allT T).any fun t => yr T t hut m), 0)
structure Wick where
  huts : Int
  price : Int
  fine : Int
  wait : Int
  marks : List Mark
  sand : List Sp
deriving Inhabited
structure Day where
  tks : List Tick
  looks : List Look
  book : List Ent
deriving Inhabited
def day0 : Day := ⟨[], [], []⟩
def zE (w : Wick) (d : Day) : Tide := ⟨w.marks, w.sand, d.looks⟩
def tksW (w : Wick) (d : Day) : Tks := ⟨w.huts, d.tks⟩
def zD (w : Wick) (d : Day) : Till := ⟨tksW w d, w.price, w.fine, w.wait⟩
def zS (w : Wick) : Bool := yx (zD w day0) && zQ (zE w day0)
def repL (w : Bs) (l : List Int) : Bs := w ++ l.flatMap fun n => 32 :: Lib.itoa n
def zo : Bs := [116, 105, 99, 107, 101, 116]
def yk : Bs := [108, 111, 111, 107]
def yF : Bs := [116, 117, 114, 110]
def y3 : Bs := [119, 104, 111, 115, 101]
def yN : Bs := [102, 114, 101, 101]
def zz : Bs := [100, 101, 112, 116, 104]
def y9 : Bs := [102, 105, 114, 115, 116]
def yp : Bs := [98, 111, 111, 107]
def sumS : Bs := [115, 117, 109]
def payS : Bs := [112, 97, 121]
def xw : Bs := [102, 105, 110, 101]
def xE : Bs := [98, 97, 99, 107]
def uJ : Bs := [112, 97, 105, 100]
def vv (s : Bs) : Option Nat :=
  if s = zo then some 5 else if s = yk then some 4 else if s = yF then some 1 else if s = y3 then some 1 else if s = yN then some 2 else if s = zz then some 2 else
  if s = y9 then some 3 else if s = yp then some 0 else if s = sumS then some 0 else if s = payS then some 1 else if s = xw then some 1 else if s = xE then some 2 else none
def numsL : List Bs → Option (List Int)
  | [] => some []
  | s :: l => (numP s).bind fun v => (numsL l).map fun r => v :: r
abbrev Rep := Day × Bs × Int
def errD (d : Day) (e : Int) : Rep := (d, [], e)
def jy (w : Wick) (d : Day) (x : Tick) : Rep :=
  if 5 ≤ d.tks.length then errD d 9 else if tksB ⟨w.huts, d.tks ++ [x]⟩ = false then errD d 2 else ({ d with tks := d.tks ++ [x] }, repL zo [(d.tks.length : Int)], 0)
def jw (w : Wick) (d : Day) (x : Look) : Rep :=
  if 6 ≤ d.looks.length then errD d 9 else if zQ ⟨w.marks, w.sand, d.looks ++ [x]⟩ = false then errD d 2 else ({ d with looks := d.looks ++ [x] }, repL yk [(d.looks.length : Int)], 0)
def xX (d : Day) (x : Ent) : Rep :=
  if (d.tks.length : Int) ≤ x.ticket then errD d 2 else if zM d.book x.ticket x.kind = true then errD d 5 else ({ d with book := d.book ++ [x] }, repL uJ [(d.book.length : Int)], 0)
def askD (d : Day) (s : Bs) (r : List Int) (e : Int) : Rep := if e ≠ 0 then errD d e else (d, repL s r, 0)
def wS (b : Bool) : Int := if b then 1 else 0
def doD (w : Wick) (d : Day) (s : Bs) (l : List Int) : Rep :=
  if s = zo then jy w d ⟨⟨gt l 0, gt l 1⟩, gt l 2, ⟨gt l 3, gt l 4⟩⟩ else
  if s = yk then jw w d ⟨gt l 0, gt l 1, ⟨gt l 2, gt l 3⟩⟩ else
  if s = yF then askD d yF [(zu (tksW w d) (gt l 0)).1] (zu (tksW w d) (gt l 0)).2 else
  if s = y3 then askD d y3 [(zi (tksW w d) (gt l 0)).1, wS (zi (tksW w d) (gt l 0)).2.1] (zi (tksW w d) (gt l 0)).2.2 else
  if s = yN then askD d yN [(zF (tksW w d) (gt l 0) (gt l 1)).1] (zF (tksW w d) (gt l 0) (gt l 1)).2 else
  if s = zz then askD d zz [(zf (zE w d) (gt l 0) (gt l 1)).1.lo, (zf (zE w d) (gt l 0) (gt l 1)).1.hi] (zf (zE w d) (gt l 0) (gt l 1)).2 else
  if s = y9 then askD d y9 [(zv (zE w d) (gt l 0) (gt l 1) (gt l 2)).1] (zv (zE w d) (gt l 0) (gt l 1) (gt l 2)).2 else
  if s = yp then (if (zh (zD w d) d.book).2.2 = 4 then (d, yp, 0) else askD d yp [(zh (zD w d) d.book).1, (zh (zD w d) d.book).2.1] (zh (zD w d) d.book).2.2) else
  if s = sumS then askD d sumS [(yh (zD w d) d.book).1] (yh (zD w d) d.book).2 else
  if s = payS then xX d ⟨gt l 0, 1, w.price⟩ else
  if s = xw then xX d ⟨gt l 0, 2, w.fine⟩ else xX d ⟨gt l 0, 3, gt l 1⟩
def zC (w : Wick) (d : Day) (s : Bs) : Rep :=
  if 60 < s.length then errD d 3 else match vv ((Lib.split s [32]).headD []) with
  | none => errD d 8
  | some n => if (Lib.split s [32]).length ≠ n + 1 then errD d 8 else match numsL (Lib.split s [32]).tail with
    | none => errD d 8
    | some l => doD w d ((Lib.split s [32]).headD []) l
def y0 (w : Wick) : Day → List Bs → Day
  | d, [] => d
  | d, s :: l => y0 w (zC w d s).1 l
def yV (w : Wick) : Day → List Bs → List Bs × Nat
  | _, [] => ([], 0)
  | d, s :: l => ((zC w d s).2.1 :: (yV w (zC w d s).1 l).1, (if (zC w d s).2.2 ≠ 0 then 1 else 0) + (yV w (zC w d s).1 l).2)
def wg (w : Wick) (l : List Bs) : List Bs × Int × Int := if 60 < l.length then ([], 0, 3) else if zS w = false then ([], 0, 1) else ((yV w day0 l).1, ((yV w day0 l).2 : Int), 0)
def xJ : Bs → Bs → List Bs
  | acc, [] => [acc]
  | acc, d :: r => if d = 32 then acc :: xJ [] r else xJ (acc ++ [d]) r
theorem jS : ∀ (p acc q : Bs), (32 : UInt8) ∉ p → xJ acc (p ++ 32 :: q) = (acc ++ p) :: xJ [] q
  | [], acc, q, _ => by simp [xJ]
  | d :: p, acc, q, h => by
    rw [List.cons_append, xJ, if_neg (fun e => h (by simp [e])), jS p _ q (fun hm => h (by simp [hm]))];simp
theorem ZT : ∀ (p acc : Bs), (32 : UInt8) ∉ p → xJ acc p = [acc ++ p]
  | [], acc, _ => by simp [xJ]
  | d :: p, acc, h => by
    rw [xJ, if_neg (fun e => h (by simp [e])), ZT p _ (fun hm => h (by simp [hm]))];simp
theorem za9 : ∀ s : Bs, (32 : UInt8) ∈ s → ∃ p q, s = p ++ 32 :: q ∧ (32 : UInt8) ∉ p
  | [], h => by cases h
  | c :: s, h => by
    by_cases e : c = 32
    · exact ⟨[], s, by rw [e]; rfl, by simp⟩
    · have e' : ¬ 32 = c := fun x => e x.symm;obtain ⟨p, q, h1, h2⟩ := za9 s (by simpa [e'] using h);exact ⟨c :: p, q, by rw [h1]; rfl, by simp [h2, e']⟩
end Go.Ti
namespace Go.Ti
open Go.W
theorem J9 {c : UInt8} (r q : Bs) {p : Bs} (h : c ∉ p) : Lib.index (p ++ (c :: r ++ q)) (c :: r) = (p.length : Int) := by
  refine Lib.index_first (by simp) (by simp [Lib.occAt]) fun j hj => ?_;unfold Lib.occAt;rw [List.drop_append_of_le_length (by omega)];cases e : p.drop j with
  | nil => have := congrArg List.length e; simp at this; omega
  | cons d t =>
    have hd : d ∈ p := List.mem_of_mem_drop (by rw [e]; simp);have : (c == d) = false := by rw [beq_eq_false_iff_ne]; intro e'; exact h (e' ▸ hd)
    rw [List.cons_append, List.isPrefixOf_cons_cons, this, Bool.false_and]
theorem Ja {c : UInt8} (r : Bs) {s : Bs} (h : c ∉ s) : Lib.index s (c :: r) = -1 := by
  refine Lib.index_none fun j _ => ?_;unfold Lib.occAt;cases e : s.drop j with
  | nil => rfl
  | cons d t =>
    have hd : d ∈ s := List.mem_of_mem_drop (by rw [e]; simp);have : (c == d) = false := by rw [beq_eq_false_iff_ne]; intro e'; exact h (e' ▸ hd)
    rw [List.isPrefixOf_cons_cons, this, Bool.false_and]
theorem uN {p : Bs} (q : Bs) (h : (32 : UInt8) ∉ p) : Lib.split (p ++ 32 :: q) [32] = p :: Lib.split q [32] := by
  have hi : Lib.index (p ++ 32 :: q) [32] = (p.length : Int) := J9 [] q h;have hc := Lib.count_hit (s := p ++ 32 :: q) (sub := [32]) (by simp) hi
  have hd : (p ++ 32 :: q).drop (p.length + 1) = q := by
    rw [← List.drop_drop, List.drop_append_of_le_length (by omega), List.drop_of_length_le (l := p) (by omega)]; rfl
  unfold Lib.split;rw [hc, Nat.add_comm, Lib.splitK, if_neg (by rw [hi, beq_iff_eq]; omega), hi, Int.toNat_natCast];simp only [List.length_singleton, Nat.add_zero];rw [hd, List.take_append_of_le_length (by omega), List.take_of_length_le (by omega)]
theorem je {p : Bs} (h : (32 : UInt8) ∉ p) : Lib.split p [32] = [p] := by
  unfold Lib.split;rw [Lib.count_miss (Ja [] h)];rfl
theorem vY : ∀ (n : Nat) (s : Bs), s.length ≤ n → Lib.split s [32] = xJ [] s
  | n, s, hn => by
    by_cases h : (32 : UInt8) ∈ s
    · obtain ⟨p, q, rfl, hp⟩ := za9 s h;rw [uN q hp, jS p [] q hp, List.nil_append];cases n with
      | zero => simp at hn
      | succ n => rw [vY n q (by simp at hn; omega)]
    · rw [je h, ZT s [] h, List.nil_append]
theorem JP (s : Bs) : Lib.split s [32] ≠ [] := by
  by_cases h : (32 : UInt8) ∈ s
  · obtain ⟨p, q, rfl, hp⟩ := za9 s h;rw [uN q hp]; simp
  · rw [je h]; simp
theorem U2 {n : Int} (h : 0 ≤ n) : (32 : UInt8) ∉ Lib.itoa n := fun hm => by
  obtain ⟨k, rfl⟩ := Int.eq_ofNat_of_zero_le h;rw [ql] at hm;have := vw.1 (List.all_eq_true.1 (Yo k).1 _ hm);have h2 : (32 : UInt8).toNat = 32 := rfl;omega
theorem Y0 : ∀ (ns : List Int) (s : Bs), (32 : UInt8) ∉ s → (∀ n ∈ ns, 0 ≤ n) → Lib.split (repL s ns) [32] = s :: ns.map Lib.itoa
  | [], s, hs, _ => by
    have e : repL s [] = s := by simp [repL]
    rw [e, je hs]; rfl
  | n :: ns, s, hs, hn => by
    have e : repL s (n :: ns) = s ++ 32 :: repL (Lib.itoa n) ns := by simp [repL]
    rw [e, uN _ hs, Y0 ns _ (U2 (hn n (by simp))) fun m hm => hn m (by simp [hm])];rfl
theorem Um : ∀ ns : List Int, (∀ n ∈ ns, 0 ≤ n ∧ n < 1000000) → numsL (ns.map Lib.itoa) = some ns
  | [], _ => rfl
  | n :: ns, h => by
    have h1 := h n (by simp);obtain ⟨k, rfl⟩ := Int.eq_ofNat_of_zero_le h1.1;rw [List.map_cons, numsL, Kx (by omega), Um ns fun m hm => h m (by simp [hm])];rfl
theorem zaE (w : Wick) (d : Day) {s : Bs} {ns : List Int} (hs : (32 : UInt8) ∉ s) (hw : vv s = some ns.length) (hn : ∀ n ∈ ns, 0 ≤ n ∧ n < 1000000) (hl : (repL s ns).length ≤ 60) : zC w d (repL s ns) = doD w d s ns := by
  unfold zC;rw [if_neg (by omega), Y0 ns s hs fun n h => (hn n h).1];simp only [List.headD_cons, List.tail_cons, hw];rw [if_neg (by simp), Um ns hn]
theorem Je {n : Int} (h : 0 ≤ n ∧ n < 1000000) : (Lib.itoa n).length ≤ 6 := by
  obtain ⟨k, rfl⟩ := Int.eq_ofNat_of_zero_le h.1;have h1 := Kx (n := k) (by omega);unfold numP at h1;split at h1
  · split at h1
    · rename_i h2; exact h2.2.1
    · cases h1
  · cases h1
theorem UF (s : Bs) : ∀ ns : List Int, (∀ n ∈ ns, 0 ≤ n ∧ n < 1000000) → (repL s ns).length ≤ s.length + 7 * ns.length
  | [], _ => by simp [repL]
  | n :: ns, h => by
    have h1 := Je (h n (by simp));have h2 := UF s ns fun m hm => h m (by simp [hm]);simp only [repL, List.length_append, List.flatMap_cons, List.length_cons] at h2 ⊢;omega
theorem zb6 (s : Bs) (l : List Int) (n : Int) : repL s (l ++ [n]) = repL s l ++ 32 :: Lib.itoa n := by simp [repL]
structure zT (w : Wick) (d : Day) : Prop where
  tks : tksB (tksW w d) = true
  tide : zQ (zE w d) = true
  ent : ∀ i, i < d.book.length → (0 ≤ (gt d.book i).ticket ∧ (gt d.book i).ticket < (d.tks.length : Int)) ∧ (1 ≤ (gt d.book i).kind ∧ (gt d.book i).kind ≤ 3)
  once : ∀ i, i < d.book.length → zM (d.book.take i) (gt d.book i).ticket (gt d.book i).kind = false
  due : ∀ i, i < d.book.length → ((gt d.book i).kind = 1 → (gt d.book i).pence = w.price) ∧ ((gt d.book i).kind = 2 → (gt d.book i).pence = w.fine)
theorem vO {w : Wick} (h : zS w = true) : zT w day0 := by
  simp only [zS, yx, Bool.and_eq_true] at h;exact ⟨h.1.1.1.1, h.2, fun i hi => absurd hi (Nat.not_lt_zero _), fun i hi => absurd hi (Nat.not_lt_zero _), fun i hi => absurd hi (Nat.not_lt_zero _)⟩
theorem ya (d : Day) (s : Bs) (r : List Int) (e : Int) : (askD d s r e).1 = d := by unfold askD; split <;> rfl
section
variable {w : Wick} {d : Day} (h : zT w d)
include w d h
theorem zbb (x : Tick) : zT w (jy w d x).1 := by
  unfold jy;split
  · exact h
  · split
    · exact h
    · rename_i h1 h2
      refine ⟨by simpa [tksW] using h2, h.tide, fun i hi => ?_, h.once, h.due⟩;have := h.ent i hi;refine ⟨⟨this.1.1, ?_⟩, this.2⟩;have h3 : ((d.tks ++ [x]).length : Int) = d.tks.length + 1 := by simp
      show (gt d.book i).ticket < ((d.tks ++ [x]).length : Int);omega
theorem look_ok (x : Look) : zT w (jw w d x).1 := by
  unfold jw;split
  · exact h
  · split
    · exact h
    · rename_i h1 h2
      exact ⟨h.tks, by simpa [zE] using h2, h.ent, h.once, h.due⟩
theorem za4 (x : Ent) (h0 : 0 ≤ x.ticket) (hk : 1 ≤ x.kind ∧ x.kind ≤ 3) (hp : (x.kind = 1 → x.pence = w.price) ∧ (x.kind = 2 → x.pence = w.fine)) : zT w (xX d x).1 := by
  unfold xX;split
  · exact h
  · split
    · exact h
    · rename_i h1 h2
      have app : ∀ i, i < (d.book ++ [x]).length → (i < d.book.length ∧ gt (d.book ++ [x]) i = gt d.book i) ∨ (i = d.book.length ∧ gt (d.book ++ [x]) i = x) := fun i hi => by
        rcases Nat.lt_or_ge i d.book.length with h3 | h3
        · exact .inl ⟨h3, YA h3⟩
        · have h4 : i = d.book.length := by simp at hi; omega
          subst h4;exact .inr ⟨rfl, by simp [gt, List.getD]⟩
      refine ⟨h.tks, h.tide, fun i hi => ?_, fun i hi => ?_, fun i hi => ?_⟩
      · rcases app i hi with ⟨h3, e⟩ | ⟨_, e⟩ <;> simp only [e]
        · exact h.ent i h3
        · exact ⟨⟨h0, by omega⟩, hk⟩
      · rcases app i hi with ⟨h3, e⟩ | ⟨h3, e⟩ <;> simp only [e]
        · rw [List.take_append_of_le_length (by omega)]; exact h.once i h3
        · rw [h3, List.take_append_of_le_length (by omega), List.take_length]; simpa using h2
      · rcases app i hi with ⟨h3, e⟩ | ⟨_, e⟩ <;> simp only [e]
        · exact h.due i h3
        · exact hp
end
theorem XK : ∀ (l : List Bs) (ns : List Int), numsL l = some ns → ns.length = l.length ∧ ∀ n ∈ ns, 0 ≤ n ∧ n < 1000000
  | [], ns, h => by cases h; exact ⟨rfl, by simp⟩
  | s :: l, ns, h => by
    rw [numsL] at h;cases e : numP s with
    | none => rw [e] at h; cases h
    | some v =>
      cases e2 : numsL l with
      | none => rw [e, e2] at h; cases h
      | some r =>
        rw [e, e2] at h;simp only [Option.bind_some, Option.map_some, Option.some.injEq] at h;subst h;obtain ⟨h1, h2⟩ := XK l r e2;refine ⟨by simp [h1], fun n hn => ?_⟩;rcases List.mem_cons.1 hn with rfl | hn
        · exact zaL e
        · exact h2 n hn
theorem zei {ns : List Int} (h : ∀ n ∈ ns, 0 ≤ n ∧ n < 1000000) (i : Nat) : 0 ≤ gt ns i := by
  rcases Nat.lt_or_ge i ns.length with h1 | h1
  · exact (h _ (yE h1)).1
  · rw [zcr h1]; decide
theorem zee {w : Wick} {d : Day} (h : zT w d) (s : Bs) {l : List Int} (hl : ∀ n ∈ l, 0 ≤ n ∧ n < 1000000) : zT w (doD w d s l).1 := by
  have hb : ∀ (k p : Int), (1 ≤ k ∧ k ≤ 3) → (k = 1 → p = w.price) ∧ (k = 2 → p = w.fine) → zT w (xX d ⟨gt l 0, k, p⟩).1 := fun k p hk hp => za4 h _ (zei hl 0) hk hp;have ha : ∀ s r e, zT w (askD d s r e).1 := fun s r e => by rw [ya]; exact h
  by_cases h1 : s = zo
  · rw [doD, if_pos h1]; exact zbb h _
  rw [doD, if_neg h1];by_cases h2 : s = yk
  · rw [if_pos h2]; exact look_ok h _
  rw [if_neg h2];by_cases h3 : s = yF
  · rw [if_pos h3]; exact ha _ _ _
  rw [if_neg h3];by_cases h4 : s = y3
  · rw [if_pos h4]; exact ha _ _ _
  rw [if_neg h4];by_cases h5 : s = yN
  · rw [if_pos h5]; exact ha _ _ _
  rw [if_neg h5];by_cases h6 : s = zz
  · rw [if_pos h6]; exact ha _ _ _
  rw [if_neg h6];by_cases h7 : s = y9
  · rw [if_pos h7]; exact ha _ _ _
  rw [if_neg h7];by_cases h8 : s = yp
  · rw [if_pos h8];by_cases h9 : (zh (zD w d) d.book).2.2 = 4
    · rw [if_pos h9]; exact h
    · rw [if_neg h9]; exact ha _ _ _
  rw [if_neg h8];by_cases h9 : s = sumS
  · rw [if_pos h9]; exact ha _ _ _
  rw [if_neg h9];by_cases h10 : s = payS
  · rw [if_pos h10]; exact hb _ _ (by decide) ⟨fun _ => rfl, fun e => absurd e (by decide)⟩
  rw [if_neg h10];by_cases h11 : s = xw
  · rw [if_pos h11]; exact hb _ _ (by decide) ⟨fun e => absurd e (by decide), fun _ => rfl⟩
  rw [if_neg h11];exact hb _ _ (by decide) ⟨fun e => absurd e (by decide), fun e => absurd e (by decide)⟩
theorem kB {w : Wick} {d : Day} (h : zT w d) (s : Bs) : zT w (zC w d s).1 := by
  unfold zC;split
  · exact h
  · split
    · exact h
    · split
      · exact h
      · split
        · exact h
        · rename_i e
          exact zee h _ (XK _ _ e).2
theorem wc {w : Wick} : ∀ (l : List Bs) {d : Day}, zT w d → zT w (y0 w d l)
  | [], _, h => h
  | s :: l, _, h => wc l (kB h s)
end Go.Ti
namespace Go.Ti
open Go.W
theorem zbm {h : Int} {l : List Tick} (x : Tick) (hl : tksB ⟨h, l⟩ = true) : tksB ⟨h, l ++ [x]⟩ = true ↔ l.length ≠ 5 ∧ vn ⟨h, l⟩ x = true := by
  have e : ∀ m, vn ⟨h, m⟩ = vn ⟨h, l⟩ := fun _ => rfl;simp only [tksB, Bool.and_eq_true, decide_eq_true_eq, List.length_append, List.length_singleton, List.all_append, List.all_cons, List.all_nil, Bool.and_true, e] at hl ⊢;obtain ⟨⟨h1, h2⟩, h3⟩ := hl;constructor
  · rintro ⟨⟨_, h4⟩, _, h5⟩; exact ⟨by omega, h5⟩
  · rintro ⟨h4, h5⟩; exact ⟨⟨h1, by omega⟩, h3, h5⟩
theorem YU {w : Wick} {d : Day} (hd : zT w d) (x : Tick) : jy w d x = if d.tks.length = 5 then errD d 9 else if vn (tksW w d) x = false then errD d 2 else ({ d with tks := d.tks ++ [x] }, repL zo [(d.tks.length : Int)], 0) := by
  have h5 := (y8 hd.tks).2.1;have h5' : d.tks.length ≤ 5 := h5;unfold jy;by_cases h : d.tks.length = 5
  · rw [if_pos (by omega), if_pos h]
  · rw [if_neg (by omega), if_neg h];have := zbm x hd.tks;cases hx : vn (tksW w d) x with
    | false =>
      have h2 : tksB ⟨w.huts, d.tks ++ [x]⟩ = false := by
        cases h3 : tksB ⟨w.huts, d.tks ++ [x]⟩ with
        | false => rfl
        | true => have := (this.1 h3).2; rw [show vn ⟨w.huts, d.tks⟩ x = false from hx] at this; cases this
      rw [if_pos h2, if_pos rfl]
    | true => rw [if_neg (by rw [this.2 ⟨h, hx⟩]; simp), if_neg (by simp)]
theorem JV {m : List Mark} {s : List Sp} {l : List Look} (x : Look) (hl : zQ ⟨m, s, l⟩ = true) : zQ ⟨m, s, l ++ [x]⟩ = true ↔ l.length ≠ 6 ∧ lookB ⟨m, s, l⟩ x = true := by
  have e : ∀ k, lookB ⟨m, s, k⟩ = lookB ⟨m, s, l⟩ := fun _ => rfl;have e2 : ∀ k, qW ⟨m, s, k⟩ = qW ⟨m, s, l⟩ := fun _ => rfl;simp only [zQ, Bool.and_eq_true, decide_eq_true_eq, List.length_append, List.length_singleton, List.all_append, List.all_cons, List.all_nil, Bool.and_true, e, e2] at hl ⊢;obtain ⟨⟨⟨⟨⟨h1, h2⟩, h3⟩, h4⟩, h5⟩, h6⟩ := hl;constructor
  · rintro ⟨⟨⟨⟨_, h7⟩, _⟩, _⟩, _, h8⟩; exact ⟨by omega, h8⟩
  · rintro ⟨h7, h8⟩; exact ⟨⟨⟨⟨⟨h1, h2⟩, by omega⟩, h4⟩, h5⟩, h6, h8⟩
theorem YJ {w : Wick} {d : Day} (hd : zT w d) (x : Look) : jw w d x = if d.looks.length = 6 then errD d 9 else if lookB (zE w d) x = false then errD d 2 else ({ d with looks := d.looks ++ [x] }, repL yk [(d.looks.length : Int)], 0) := by
  have h6 := (yK.1 hd.tide).nl;have h6' : d.looks.length ≤ 6 := h6;unfold jw;by_cases h : d.looks.length = 6
  · rw [if_pos (by omega), if_pos h]
  · rw [if_neg (by omega), if_neg h];have := JV x hd.tide;cases hx : lookB (zE w d) x with
    | false =>
      have h2 : zQ ⟨w.marks, w.sand, d.looks ++ [x]⟩ = false := by
        cases h3 : zQ ⟨w.marks, w.sand, d.looks ++ [x]⟩ with
        | false => rfl
        | true => have := (this.1 h3).2; rw [show lookB ⟨w.marks, w.sand, d.looks⟩ x = false from hx] at this; cases this
      rw [if_pos h2, if_pos rfl]
    | true => rw [if_neg (by rw [this.2 ⟨h, hx⟩]; simp), if_neg (by simp)]
section
variable (w : Wick) (d : Day) (l : List Int)
theorem qF : doD w d zo l = jy w d ⟨⟨gt l 0, gt l 1⟩, gt l 2, ⟨gt l 3, gt l 4⟩⟩ := by rw [doD, if_pos rfl]
theorem Ys : doD w d yk l = jw w d ⟨gt l 0, gt l 1, ⟨gt l 2, gt l 3⟩⟩ := by rw [doD, if_neg (by decide), if_pos rfl]
theorem kk : doD w d yF l = askD d yF [(zu (tksW w d) (gt l 0)).1] (zu (tksW w d) (gt l 0)).2 := by rw [doD, if_neg (by decide), if_neg (by decide), if_pos rfl]
theorem qi : doD w d y3 l = askD d y3 [(zi (tksW w d) (gt l 0)).1, wS (zi (tksW w d) (gt l 0)).2.1] (zi (tksW w d) (gt l 0)).2.2 := by
  rw [doD, if_neg (by decide), if_neg (by decide), if_neg (by decide), if_pos rfl]
theorem kj : doD w d yN l = askD d yN [(zF (tksW w d) (gt l 0) (gt l 1)).1] (zF (tksW w d) (gt l 0) (gt l 1)).2 := by
  rw [doD, if_neg (by decide), if_neg (by decide), if_neg (by decide), if_neg (by decide), if_pos rfl]
theorem qf : doD w d zz l = askD d zz [(zf (zE w d) (gt l 0) (gt l 1)).1.lo, (zf (zE w d) (gt l 0) (gt l 1)).1.hi] (zf (zE w d) (gt l 0) (gt l 1)).2 := by
  rw [doD, if_neg (by decide), if_neg (by decide), if_neg (by decide), if_neg (by decide), if_neg (by decide), if_pos rfl]
theorem qh : doD w d y9 l = askD d y9 [(zv (zE w d) (gt l 0) (gt l 1) (gt l 2)).1] (zv (zE w d) (gt l 0) (gt l 1) (gt l 2)).2 := by
  rw [doD, if_neg (by decide), if_neg (by decide), if_neg (by decide), if_neg (by decide), if_neg (by decide), if_neg (by decide), if_pos rfl]
theorem ki : doD w d yp l = if (zh (zD w d) d.book).2.2 = 4 then (d, yp, 0) else askD d yp [(zh (zD w d) d.book).1, (zh (zD w d) d.book).2.1] (zh (zD w d) d.book).2.2 := by
  rw [doD, if_neg (by decide), if_neg (by decide), if_neg (by decide), if_neg (by decide), if_neg (by decide), if_neg (by decide), if_neg (by decide), if_pos rfl]
theorem Xg : doD w d sumS l = askD d sumS [(yh (zD w d) d.book).1] (yh (zD w d) d.book).2 := by
  rw [doD, if_neg (by decide), if_neg (by decide), if_neg (by decide), if_neg (by decide), if_neg (by decide), if_neg (by decide), if_neg (by decide), if_neg (by decide), if_pos rfl]
theorem VB : doD w d payS l = xX d ⟨gt l 0, 1, w.price⟩ := by
  rw [doD, if_neg (by decide), if_neg (by decide), if_neg (by decide), if_neg (by decide), if_neg (by decide), if_neg (by decide), if_neg (by decide), if_neg (by decide), if_neg (by decide), if_pos rfl]
theorem Yr : doD w d xw l = xX d ⟨gt l 0, 2, w.fine⟩ := by
  rw [doD, if_neg (by decide), if_neg (by decide), if_neg (by decide), if_neg (by decide), if_neg (by decide), if_neg (by decide), if_neg (by decide), if_neg (by decide), if_neg (by decide), if_neg (by decide), if_pos rfl]
theorem Yq : doD w d xE l = xX d ⟨gt l 0, 3, gt l 1⟩ := by
  rw [doD, if_neg (by decide), if_neg (by decide), if_neg (by decide), if_neg (by decide), if_neg (by decide), if_neg (by decide), if_neg (by decide), if_neg (by decide), if_neg (by decide), if_neg (by decide), if_neg (by decide)]
end
def numK (n : Int) : Prop := 0 ≤ n ∧ n < 1000000
section
variable (w : Wick) (d : Day)
include w d
theorem xG {s : Bs} {ns : List Int} (hs : (32 : UInt8) ∉ s) (hw : vv s = some ns.length) (hl : s.length + 7 * ns.length ≤ 60) (hn : ∀ n ∈ ns, numK n) : zC w d (repL s ns) = doD w d s ns :=
  zaE w d hs hw hn (Nat.le_trans (UF s ns hn) hl)
theorem vR {a b h c e : Int} (h1 : numK a) (h2 : numK b) (h3 : numK h) (h4 : numK c) (h5 : numK e) : zC w d (repL zo [a, b, h, c, e]) = jy w d ⟨⟨a, b⟩, h, ⟨c, e⟩⟩ := by
  rw [xG w d (by decide) rfl (Nat.le_of_ble_eq_true rfl) (by simp [h1, h2, h3, h4, h5]), qF]; rfl
theorem qR {a b c e : Int} (h1 : numK a) (h2 : numK b) (h4 : numK c) (h5 : numK e) : zC w d (repL yk [a, b, c, e]) = jw w d ⟨a, b, ⟨c, e⟩⟩ := by
  rw [xG w d (by decide) rfl (Nat.le_of_ble_eq_true rfl) (by simp [h1, h2, h4, h5]), Ys]; rfl
theorem WE {a : Int} (h1 : numK a) : zC w d (repL y3 [a]) = askD d y3 [(zi (tksW w d) a).1, wS (zi (tksW w d) a).2.1] (zi (tksW w d) a).2.2 := by
  rw [xG w d (by decide) rfl (Nat.le_of_ble_eq_true rfl) (by simp [h1]), qi]; rfl
theorem Wz {a b : Int} (h1 : numK a) (h2 : numK b) : zC w d (repL zz [a, b]) = askD d zz [(zf (zE w d) a b).1.lo, (zf (zE w d) a b).1.hi] (zf (zE w d) a b).2 := by
  rw [xG w d (by decide) rfl (Nat.le_of_ble_eq_true rfl) (by simp [h1, h2]), qf]; rfl
theorem w5 : zC w d yp = if (zh (zD w d) d.book).2.2 = 4 then (d, yp, 0) else askD d yp [(zh (zD w d) d.book).1, (zh (zD w d) d.book).2.1] (zh (zD w d) d.book).2.2 := by
  rw [show yp = repL yp [] from rfl, xG w d (by decide) rfl (Nat.le_of_ble_eq_true rfl) (by simp), ki]; rfl
theorem Jj : zC w d sumS = askD d sumS [(yh (zD w d) d.book).1] (yh (zD w d) d.book).2 := by
  rw [show sumS = repL sumS [] from rfl, xG w d (by decide) rfl (Nat.le_of_ble_eq_true rfl) (by simp), Xg]; rfl
theorem Jh {a : Int} (h1 : numK a) : zC w d (repL payS [a]) = xX d ⟨a, 1, w.price⟩ := by
  rw [xG w d (by decide) rfl (Nat.le_of_ble_eq_true rfl) (by simp [h1]), VB]; rfl
theorem U8 {a : Int} (h1 : numK a) : zC w d (repL xw [a]) = xX d ⟨a, 2, w.fine⟩ := by
  rw [xG w d (by decide) rfl (Nat.le_of_ble_eq_true rfl) (by simp [h1]), Yr]; rfl
theorem U7 {a b : Int} (h1 : numK a) (h2 : numK b) : zC w d (repL xE [a, b]) = xX d ⟨a, 3, b⟩ := by
  rw [xG w d (by decide) rfl (Nat.le_of_ble_eq_true rfl) (by simp [h1, h2]), Yq]; rfl
end
theorem pig : ∀ (n : Nat) (l : List Nat), l.Nodup → (∀ x ∈ l, x < n) → l.length ≤ n
  | 0, l, _, h => by
    cases l with
    | nil => exact Nat.le_refl _
    | cons a r => exact absurd (h a (by simp)) (Nat.not_lt_zero _)
  | n + 1, l, hn, h => by
    by_cases hm : n ∈ l
    · have h1 := pig n (l.erase n) (hn.erase n) (fun x hx => by
        have h2 := (hn.mem_erase_iff).1 hx;have := h x h2.2;have := h2.1;omega)
      rw [List.length_erase_of_mem hm] at h1;omega
    · have h1 := pig n l hn (fun x hx => by
        have := h x hx;have : x ≠ n := fun e => hm (e ▸ hx);omega)
      omega
theorem Vs {l : List Ent} {t k : Int} (h : zM l t k = false) {j : Nat} (hj : j < l.length) : ¬ ((gt l j).ticket = t ∧ (gt l j).kind = k) := fun e => by
  exact List.any_eq_false.1 h _ (yE hj) (decide_eq_true e)
theorem J3 {α : Type} [Inhabited α] {l : List α} {i j : Nat} (h : j < i) : gt (l.take i) j = gt l j := by
  simp only [gt, List.getD, List.getElem?_take_of_lt h]
section
variable {w : Wick}
include w
theorem wx {d : Day} (hd : zT w d) : d.book.length ≤ 15 := by
  have h5 : d.tks.length ≤ 5 := (y8 hd.tks).2.1;have h := pig 15 (d.book.map fun e => ((e.ticket * 3 + e.kind) - 1).toNat) ?_ ?_
  · simpa using h
  · rw [List.Nodup, List.pairwise_iff_getElem];intro i j hi hj hij;simp only [List.length_map] at hi hj;simp only [List.getElem_map, ne_eq];have e1 : d.book[i] = gt d.book i := by simp [gt, List.getD, hi]
    have e2 : d.book[j] = gt d.book j := by simp [gt, List.getD, hj]
    rw [e1, e2];have h1 := hd.ent i hi;have h2 := hd.ent j hj;have h3 := Vs (hd.once j hj) (j := i) (by simp; omega);rw [J3 hij] at h3;intro e;exact h3 (by omega)
  · intro x hx;obtain ⟨e, he, rfl⟩ := List.mem_map.1 hx;obtain ⟨i, hi, rfl⟩ := uU he;have := hd.ent i hi;omega
theorem Z7 (h : zS w = true) : (0 ≤ w.price ∧ w.price ≤ 100) ∧ (0 ≤ w.fine ∧ w.fine ≤ 100) ∧ (0 ≤ w.wait ∧ w.wait ≤ 100) := by
  simp only [zS, yx, Bool.and_eq_true, inB, decide_eq_true_eq] at h;exact ⟨h.1.1.1.2, h.1.1.2, h.1.2⟩
theorem zbk {d : Day} (hw : zS w = true) (hd : zT w d) : yx (zD w d) = true := by
  have := Z7 hw;simp only [yx, Bool.and_eq_true, inB, decide_eq_true_eq];exact ⟨⟨⟨hd.tks, this.1⟩, this.2.1⟩, this.2.2⟩
theorem VG {d : Day} (hd : zT w d) : d.book.all (entB (zD w d)) = true := by
  rw [wv];intro i hi;have := hd.ent i hi;have e : (zD w d).tk.l = d.tks := rfl;simp only [entB, isT, inB, Bool.and_eq_true, decide_eq_true_eq, e];omega
theorem zbp {d : Day} (hw : zS w = true) (hd : zT w d) : uQ (zD w d) d.book = tksE (tksW w d) true := by
  have h1 : yq (zD w d) d.book true = 0 := by
    have := wx hd;unfold yq;rw [if_neg (by rw [zbk hw hd]; simp), if_neg (by omega), if_neg (by simp), if_neg (by rw [VG hd]; simp)]
  unfold uQ;rw [if_neg (by rw [h1]; simp)]; rfl
theorem zbo {d : Day} (hd : zT w d) : tksE (tksW w d) true = 0 ∨ tksE (tksW w d) true = 10 := by
  unfold tksE;rw [if_neg (by rw [hd.tks]; simp), if_neg (by simp)];split
  · exact .inr rfl
  · exact .inl rfl
theorem Xe {d : Day} (hw : zS w = true) (hd : zT w d) : ((zh (zD w d) d.book).2.2 = 0 ∧ (zh (zD w d) d.book).2.1 = 2 ∧ 0 ≤ (zh (zD w d) d.book).1 ∧ (zh (zD w d) d.book).1 < 15) ∨ (zh (zD w d) d.book).2.2 = 4 ∨ (zh (zD w d) d.book).2.2 = 10 := by
  unfold zh;rw [zbp hw hd];rcases zbo hd with h | h
  · rw [if_neg (by rw [h]; simp)];cases hb : yH (zD w d) d.book d.book.length with
    | nil => exact .inr (.inl rfl)
    | cons i r =>
      left;have hi : i ∈ yH (zD w d) d.book d.book.length := by rw [hb]; simp
      unfold yH at hi;rw [List.mem_filter, List.mem_range] at hi;have h15 := wx hd;refine ⟨rfl, ?_, by show (0 : Int) ≤ (i : Int); omega, by show (i : Int) < 15; omega⟩;have h2 := of_decide_eq_true hi.2
      show xj (zD w d) d.book i = 2;unfold xj at h2 ⊢;rw [hd.once i hi.1] at h2 ⊢;rw [if_neg (by simp)] at h2 ⊢;split at h2
      · rename_i h3; rw [if_pos h3]
      · exact absurd rfl h2
  · rw [if_pos (by rw [h]; decide)];exact .inr (.inr h)
end
def Zd (d : Day) (r : Rep) : Prop := (∃ e, e ≠ 0 ∧ r = errD d e) ∨ (r.2.2 = 0 ∧ r.2.1 ≠ [])
theorem XQ {s : Bs} (hs : s ≠ []) (l : List Int) : repL s l ≠ [] := by
  unfold repL;intro e;exact hs (List.append_eq_nil_iff.1 e).1
theorem vL (d : Day) {s : Bs} (hs : s ≠ []) (r : List Int) (e : Int) : Zd d (askD d s r e) := by
  unfold askD;split
  · rename_i h; exact .inl ⟨e, h, rfl⟩
  · exact .inr ⟨rfl, XQ hs r⟩
theorem JL (w : Wick) (d : Day) (x : Tick) : Zd d (jy w d x) := by
  unfold jy;split
  · exact .inl ⟨9, by decide, rfl⟩
  · split
    · exact .inl ⟨2, by decide, rfl⟩
    · exact .inr ⟨rfl, XQ (by decide) _⟩
theorem Jn (w : Wick) (d : Day) (x : Look) : Zd d (jw w d x) := by
  unfold jw;split
  · exact .inl ⟨9, by decide, rfl⟩
  · split
    · exact .inl ⟨2, by decide, rfl⟩
    · exact .inr ⟨rfl, XQ (by decide) _⟩
theorem kb (d : Day) (x : Ent) : Zd d (xX d x) := by
  unfold xX;split
  · exact .inl ⟨2, by decide, rfl⟩
  · split
    · exact .inl ⟨5, by decide, rfl⟩
    · exact .inr ⟨rfl, XQ (by decide) _⟩
def askW : List Bs := [yF, y3, yN, zz, y9, yp, sumS]
def putW : List Bs := [zo, yk, payS, xw, xE]
theorem zbw {p : Bs} {n : Nat} (h : vv p = some n) : p ∈ askW ∨ p ∈ putW := by
  unfold vv at h;by_cases h0 : p = zo
  · subst h0; exact .inr (by decide)
  rw [if_neg h0] at h;by_cases h1 : p = yk
  · subst h1; exact .inr (by decide)
  rw [if_neg h1] at h;by_cases h2 : p = yF
  · subst h2; exact .inl (by decide)
  rw [if_neg h2] at h;by_cases h3 : p = y3
  · subst h3; exact .inl (by decide)
  rw [if_neg h3] at h;by_cases h4 : p = yN
  · subst h4; exact .inl (by decide)
  rw [if_neg h4] at h;by_cases h5 : p = zz
  · subst h5; exact .inl (by decide)
  rw [if_neg h5] at h;by_cases h6 : p = y9
  · subst h6; exact .inl (by decide)
  rw [if_neg h6] at h;by_cases h7 : p = yp
  · subst h7; exact .inl (by decide)
  rw [if_neg h7] at h;by_cases h8 : p = sumS
  · subst h8; exact .inl (by decide)
  rw [if_neg h8] at h;by_cases h9 : p = payS
  · subst h9; exact .inr (by decide)
  rw [if_neg h9] at h;by_cases h10 : p = xw
  · subst h10; exact .inr (by decide)
  rw [if_neg h10] at h;by_cases h11 : p = xE
  · subst h11; exact .inr (by decide)
  rw [if_neg h11] at h;cases h
theorem zch (w : Wick) (d : Day) (l : List Int) {p : Bs} (h : p ∈ askW) : (doD w d p l).1 = d ∧ Zd d (doD w d p l) := by
  simp only [askW, List.mem_cons, List.not_mem_nil, or_false] at h;rcases h with rfl | rfl | rfl | rfl | rfl | rfl | rfl
  · rw [kk]; exact ⟨ya .., vL d (by decide) _ _⟩
  · rw [qi]; exact ⟨ya .., vL d (by decide) _ _⟩
  · rw [kj]; exact ⟨ya .., vL d (by decide) _ _⟩
  · rw [qf]; exact ⟨ya .., vL d (by decide) _ _⟩
  · rw [qh]; exact ⟨ya .., vL d (by decide) _ _⟩
  · rw [ki];split
    · exact ⟨rfl, .inr ⟨rfl, (show yp ≠ [] by decide)⟩⟩
    · exact ⟨ya .., vL d (by decide) _ _⟩
  · rw [Xg]; exact ⟨ya .., vL d (by decide) _ _⟩
theorem zci (w : Wick) (d : Day) (l : List Int) {p : Bs} (h : p ∈ putW) : Zd d (doD w d p l) := by
  simp only [putW, List.mem_cons, List.not_mem_nil, or_false] at h;rcases h with rfl | rfl | rfl | rfl | rfl
  · rw [qF]; exact JL w d _
  · rw [Ys]; exact Jn w d _
  · rw [VB]; exact kb d _
  · rw [Yr]; exact kb d _
  · rw [Yq]; exact kb d _
theorem Ji (w : Wick) (d : Day) (s : Bs) : Zd d (zC w d s) := by
  unfold zC;split
  · exact .inl ⟨3, by decide, rfl⟩
  · split
    · exact .inl ⟨8, by decide, rfl⟩
    · rename_i n hn
      split
      · exact .inl ⟨8, by decide, rfl⟩
      · split
        · exact .inl ⟨8, by decide, rfl⟩
        · rcases zbw hn with h | h
          · exact (zch w d _ h).2
          · exact zci w d _ h
theorem zb7 {d : Day} {r : Rep} (h : Zd d r) (he : r.2.2 ≠ 0) : r.1 = d ∧ r.2.1 = [] := by
  rcases h with ⟨e, _, rfl⟩ | ⟨h1, _⟩
  · exact ⟨rfl, rfl⟩
  · exact absurd h1 he
def zcf (s q : Bs) : Bool := decide (q.length ≤ s.length) && decide (s.take q.length = q)
def ZV (s : Bs) : Bool := askW.any (zcf s)
theorem ZM (w : Wick) : ∀ (a b : List Bs) (d : Day), y0 w d (a ++ b) = y0 w (y0 w d a) b
  | [], _, _ => rfl
  | _ :: a, b, d => by rw [List.cons_append, y0, y0, ZM w a b]
theorem XR (w : Wick) : ∀ (a : List Bs) (s : Bs) (d : Day), yV w d (a ++ [s]) = ((yV w d a).1 ++ [(zC w (y0 w d a) s).2.1], (yV w d a).2 + if (zC w (y0 w d a) s).2.2 ≠ 0 then 1 else 0)
  | [], s, d => by
    show ([(zC w d s).2.1], (if (zC w d s).2.2 ≠ 0 then 1 else 0) + 0) = ([] ++ [(zC w d s).2.1], 0 + if (zC w d s).2.2 ≠ 0 then 1 else 0);rw [Nat.add_zero, Nat.zero_add]; rfl
  | b :: a, s, d => by
    rw [List.cons_append, yV, XR w a s];simp only [yV, y0, List.cons_append];rw [Nat.add_assoc]; rfl
theorem zP {α : Type} [Inhabited α] {l : List α} {k : Nat} (h : k < l.length) : l.take (k + 1) = l.take k ++ [gt l k] := by
  have hg : gt l k = l[k] := by simp [gt, List.getD, h]
  rw [List.take_succ_eq_append_getElem h, hg]
section
variable (w : Wick) (d : Day) {l : List Bs} {k : Nat} (h : k < l.length)
include w d l k h
theorem vC : y0 w d (l.take (k + 1)) = (zC w (y0 w d (l.take k)) (gt l k)).1 := by
  rw [zP h, ZM]; rfl
theorem j6 : yV w d (l.take (k + 1)) = ((yV w d (l.take k)).1 ++ [(zC w (y0 w d (l.take k)) (gt l k)).2.1], (yV w d (l.take k)).2 + if (zC w (y0 w d (l.take k)) (gt l k)).2.2 ≠ 0 then 1 else 0) := by
  rw [zP h, XR]
end
theorem kL (w : Wick) : ∀ (l : List Bs) (d : Day), (yV w d l).1.length = l.length ∧ (yV w d l).2 ≤ l.length
  | [], _ => ⟨rfl, Nat.le_refl _⟩
  | s :: l, d => by
    have := kL w l (zC w d s).1;simp only [yV, List.length_cons];refine ⟨by rw [this.1], ?_⟩;split <;> omega
end Go.Ti
namespace Go.Proofs.YtejgofaeafphjaaGreatDoor
open Go.W Go.Ti
def sumU (l : List Int) : Nat := (l.map fun n => 2 ^ n.toNat).sum
def setN (T : Tide) (h : Hts) (p k : Nat) : Nat := sumU (((rng (gt T.sand p).lo (gt T.sand p).hi).take k).filter (kQ T h p))
def setU (T : Tide) (h : Hts) (p : Nat) : Nat := sumU (setL T h p)
theorem VH {n j : Nat} (hn : n ≤ 6) (hj : j < n) : (2 ^ n - 1) / 2 ^ j % 2 = 1 := by
  have h : ∀ n, n < 7 → ∀ j, j < n → (2 ^ n - 1) / 2 ^ j % 2 = 1 := by decide
  exact h n (by omega) j hj
theorem j9 {T : Tide} {h : Hts} {p k : Nat} (hk : k < ((gt T.sand p).hi - (gt T.sand p).lo + 1).toNat) : setN T h p (k + 1) = setN T h p k + if kQ T h p ((gt T.sand p).lo + (k : Int)) then 2 ^ ((gt T.sand p).lo + (k : Int)).toNat else 0 := by
  have hl : k < (rng (gt T.sand p).lo (gt T.sand p).hi).length := by rw [wH]; exact hk
  unfold setN sumU;rw [zP hl, List.filter_append, List.map_append, List.sum_append, Xo hk];congr 1;generalize (gt T.sand p).lo + (k : Int) = n;cases hb : kQ T h p n <;> simp [hb]
theorem kR {T : Tide} {h : Hts} {p : Nat} (hlo : 0 ≤ (gt T.sand p).lo) : ∀ k, k ≤ ((gt T.sand p).hi - (gt T.sand p).lo + 1).toNat → setN T h p k < 2 ^ ((gt T.sand p).lo + (k : Int)).toNat
  | 0, _ => by simp [setN, sumU, Nat.two_pow_pos]
  | k + 1, hk => by
    have ih := kR (h := h) hlo k (by omega);rw [j9 (by omega)];have e : ((gt T.sand p).lo + ((k + 1 : Nat) : Int)).toNat = ((gt T.sand p).lo + (k : Int)).toNat + 1 := by omega
    rw [e, Nat.pow_succ];split <;> omega
theorem JM (T : Tide) (h : Hts) (p : Nat) : setN T h p ((gt T.sand p).hi - (gt T.sand p).lo + 1).toNat = setU T h p := by
  unfold setN setU setL;rw [List.take_of_length_le (by rw [wH]; exact Nat.le_refl _)]
theorem KA {a i : Nat} (h : a < 2 ^ i) : a ||| 2 ^ i = a + 2 ^ i := by
  have := Nat.two_pow_add_eq_or_of_lt h 1;rw [Nat.mul_one] at this;rw [Nat.or_comm, ← this, Nat.add_comm]
def jL (T : Tide) (h : Hts) (p : Nat) (n : Int) (j : Nat) : Bool := (T.looks.take j).all fun l => !decide (l.place = (p : Int)) || fitB l (y5 T h l.minute) n
theorem wn {T : Tide} {h : Hts} {p : Nat} {n : Int} {j : Nat} (hj : j < T.looks.length) : jL T h p n (j + 1) = (jL T h p n j && (!decide ((gt T.looks j).place = (p : Int)) || fitB (gt T.looks j) (y5 T h (gt T.looks j).minute) n)) := by
  unfold jL;rw [zP hj, List.all_append];simp
theorem Xl (T : Tide) (h : Hts) (p : Nat) (n : Int) : jL T h p n T.looks.length = kQ T h p n := by
  unfold jL kQ;rw [List.take_length]
theorem ze9 : zj Tryz.prog 362 [] [] := ⟨⟨_, Tryz.zeroValue362, rfl⟩, _, Tryz.underlying362, fun w => by simp []⟩
abbrev zc0 := SaF.mk ze9
attribute [instance] zc0
theorem zea : zj Tryz.prog 366 [.int .i64 0, .int .i64 0] [(0, 0), (0, 2)] := ⟨⟨_, Tryz.zeroValue366, rfl⟩, _, Tryz.underlying366, fun w => by simp [Tryz.sizeOf39, Tryz.sizeOf362]⟩
abbrev zc1 := SaF.mk zea
attribute [instance] zc1
theorem zcV (T : Tide) (a1 a2 a3 : Option Addr) (n1 n2 n3 c1 c2 c3 : Nat) (D : Imm) (w : World) (hR : yo D T a1 n1 a2 n2 a3 n3) (qb mb : Nat) (hq : D qb = some (shoO (.slice a1 n1 c1) (.slice a2 n2 c2) (.slice a3 n3 c3) mb)) (hH : Holds D w) (hT : zG T) (hdn : ux D) (h : Hts) (hh : HtB h) (p : Nat) (hp : p < T.sand.length) (hM0 : Hp) (hMM0 : MapK T mb hM0) (hI0 : Inv D hM0 [mb] w w) : zp Tryz.prog 238 [pt qb, htV h, nt p, ut (2 ^ T.looks.length - 1)] w D [mb] (fun v D' hp' => v = ut (setU T h p) ∧ D' = D ∧ MapK T mb hp') := by
  unfold zp;obtain rfl := hR.mark.len';obtain rfl := hR.sand.len';obtain rfl := hR.look.len';obtain ⟨hl1, hl2, hl3⟩ := hR.len;have hs := ws.1 (hT.sand p hp);refine en Tryz.func238 rfl Tryz.ntmps238 hI0 (g [[1],[1,0,1,2,3]] ?_);refine WL.so (SO.box rfl rfl) rfl (zw fun b5 hb5 => ?_);refine g [[5],[7,8,5,0,2,3]] ?_;refine WL.yd (Yd.ix rfl rfl (hR.sand.addr p (by omega))) rfl (g [[1]] ?_);refine WL.yd (Yd.l1 rfl ((hR.sand.at p (by omega)).rd 0 rfl)) rfl (g [[4]] ?_);refine WC.loop (fun y : Nat × Hp => [(0, pt qb), (2, nt p), (3, ut (2 ^ T.looks.length - 1)), (5, pt b5), (8, ut (setN T h p y.1)), (9, it ((gt T.sand p).lo + ((y.1 : Nat) : Int)))]) (fun y => (b5, .cells (List.toArray (htC h)) 232 (0, 0)) :: y.2) (fun _ => D) (fun y => y.1 ≤ ((gt T.sand p).hi - (gt T.sand p).lo + 1).toNat ∧ MapK T mb y.2) (fun y => ((gt T.sand p).hi - (gt T.sand p).lo + 1).toNat - y.1) (0, hM0) ⟨by omega, hMM0⟩ (fun a w h => y4 h ⟨rfl, rfl, rfl, rfl, rfl, by show some (it _) = some (it _); congr 2; push_cast; omega, trivial⟩) ?_;rintro ⟨k, hM⟩ ⟨hk, hMM⟩;dsimp only at hk hMM;refine g [[2],[8,0,2,3,5,8,9]] ?_;refine WL.yd (Yd.ix rfl rfl (hR.sand.addr p (by omega))) rfl (g [[1]] ?_);refine WL.yd (Yd.l1 rfl ((hR.sand.at p (by omega)).rd 1 rfl)) rfl (g [[3]] ?_);refine WC.cond rfl (fun c33 => ?_) (fun c33 => ?_)
  · try simp only [zq] at c33
    have hkW : k < ((gt T.sand p).hi - (gt T.sand p).lo + 1).toNat := by omega
    refine g [[5],[6,0,2,3,5,8,9],[11,10,0,2,3,5,8,9]] ?_;refine WC.loop (fun y : Nat × Hp => [(0, pt qb), (2, nt p), (3, ut (2 ^ T.looks.length - 1)), (5, pt b5), (8, ut (setN T h p k)), (9, it ((gt T.sand p).lo + ((k : Nat) : Int))), (10, .bool (jL T h p ((gt T.sand p).lo + ((k : Nat) : Int)) y.1)), (40, .slice a3 T.looks.length c3), (41, nt T.looks.length), (42, nt y.1)]) (fun y => (b5, .cells (List.toArray (htC h)) 232 (0, 0)) :: y.2) (fun _ => D) (fun y => y.1 ≤ T.looks.length ∧ MapK T mb y.2) (fun y => T.looks.length - y.1) (0, hM) ⟨by omega, hMM⟩ (fun a w h => y4 h ⟨rfl, rfl, rfl, rfl, rfl, rfl, rfl, rfl, rfl, rfl, trivial⟩) ?_;rintro ⟨j, hM2⟩ ⟨hj, hMM2⟩;dsimp only at hj hMM2;obtain ⟨es, clock, F, rfl, hMR, hFK⟩ := hMM2;refine g [[1],[5,0,2,3,5,8,9,10,40,41,42]] ?_;refine WC.cond rfl (fun c43 => ?_) (fun c43 => ?_)
    · try simp only [zq] at c43
      have hjl : j < T.looks.length := by omega
      have hlm := (kC.1 (hT.look j hjl)).2.1;have hsn := uO hT (h := h) (fun i _ => hh i) hlm;have hnb : 0 ≤ ((gt T.sand p).lo + ((k : Nat) : Int)) ∧ ((gt T.sand p).lo + ((k : Nat) : Int)) ≤ 60 := by omega
      have hev := VH hT.nl hjl;have hj60 : j ≤ 60 := by have := hT.nl; omega
      refine g [[5],[2,0,2,3,5,8,9,10,40,41,42]] ?_;refine WL.yd (Yd.ix rfl rfl (hR.look.addr j (by omega))) rfl (WL.yd (Yd.lV [_, _, _, _] rfl ((hR.look.at j (by omega)).rdn 0 4 rfl)) rfl ?_);refine WL.so (SO.alloc ZvF.h rfl) rfl (zw fun b12 hb12 => ?_);refine g [[5],[8,11,12,0,2,3,5,8,9,10,40,41,42],[6,13,11,12,0,2,3,5,8,9,10,40,41,42]] ?_;refine WL.part 53 rfl (fun g53 => ?_) (fun g53 => ?_)
      · try simp only [zq] at g53
        refine g [[2]] ?_;refine WL.ydg rfl (Yd.shrUN rfl rfl (by omega)) rfl (WL.ydg rfl (Yd.andU1 rfl rfl) rfl (g [[4]] ?_));refine WC.cond rfl (fun c59 => ?_) (fun c59 => ?_)
        · try simp only [zq] at c59
          refine g [[9,13,12,0,2,3,5,8,9,10,40,41,42],[0,13,12,0,2,3,5,8,9,10,40,41,42]] ?_;refine WC.drawO [_, _] (pz [1,3,5,7,9,11,13,17,19,21,23,14,24,27,29]) zk zk zX (fun _ hI => Inv.left (l1 := [_, _]) (l2 := [_]) hI) (g [[2]] ?_);refine WA.part 66 rfl (fun g66 => ?_) (fun g66 => ?_)
          · try simp only [zq] at g66
            refine g [[7]] ?_;refine WA.ydg rfl rfl (Yd.nilCheckM rfl (fun w => by kernel_rfl)) rfl (g [[1]] ?_);refine WA.sog rfl rfl (SO.altersN (own := [_, _]) (hpc := [(mb, .map es clock)]) (fun _ h => h) (fun h => h) (fun _ h => h) (fun _ h => h) (Enters.func CaF.h rfl) (fun w1 hI => qx T a1 a2 a3 _ _ _ c1 c2 c3 D w1 hR qb mb hq hI.imm hT hdn h (gt T.looks j).minute hh hlm es clock F hMR hFK hI)) rfl ?_;rintro _ _ _ ⟨hp3, _, ⟨rfl, rfl, es2, clock2, F2, rfl, hMR2, hFK2⟩, rfl⟩;refine ⟨fun _ hI => Inv.left (l1 := [_, _]) hI, ?_⟩;refine WA.sog rfl rfl (SO.call (Enters.meth CaF.h (fun w => by kernel_rfl) rfl rfl) (fun w hI => zai (gt T.looks j) (y5 T h (gt T.looks j).minute) ((gt T.sand p).lo + ((k : Nat) : Int)) hsn hnb _)) rfl (zs ⟨fun _ hI => Inv.left (l1 := [_, _]) hI, ?_⟩);refine g [[5],[4,10,0,2,3,5,8,9,40,41,42]] ?_;exact WP.again (⟨j + 1, [(mb, .map es2 clock2)]⟩ : Nat × Hp) ⟨by simp only; omega, es2, clock2, F2, rfl, hMR2, hFK2⟩ (by simp only; omega) (fun a w h => yi h ⟨rfl, rfl, rfl, rfl, rfl, rfl, by show some (Value.bool _) = some (.bool _); congr 2; rw [wn hjl]; simp_all, rfl, rfl, rfl, trivial⟩ (fun _ h => List.mem_cons_of_mem _ h) (fun h => (List.nodup_cons.1 h).2))
          try simp only [zq] at g66
          refine g [[16],[4,10,0,2,3,5,8,9,40,41,42]] ?_;exact WP.again (⟨j + 1, [(mb, .map es clock)]⟩ : Nat × Hp) ⟨by simp only; omega, es, clock, F, rfl, hMR, hFK⟩ (by simp only; omega) (fun a w h => yi h ⟨rfl, rfl, rfl, rfl, rfl, rfl, by show some (Value.bool _) = some (.bool _); congr 2; rw [wn hjl]; simp_all, rfl, rfl, rfl, trivial⟩ (fun _ h => List.mem_cons_of_mem _ h) (fun h => (List.nodup_cons.1 h).2))
        try simp only [zq] at c59
        refine g [[2],[0,13,12,0,2,3,5,8,9,10,40,41,42]] ?_;refine WC.drawO [_, _] (pz [1,3,5,7,9,11,13,17,19,21,23,14,24,27,29]) zk zk zX (fun _ hI => Inv.left (l1 := [_, _]) (l2 := [_]) hI) (g [[2]] ?_);refine WA.part 66 rfl (fun g66 => ?_) (fun g66 => ?_)
        · try simp only [zq] at g66
          refine g [[7]] ?_;refine WA.ydg rfl rfl (Yd.nilCheckM rfl (fun w => by kernel_rfl)) rfl (g [[1]] ?_);refine WA.sog rfl rfl (SO.altersN (own := [_, _]) (hpc := [(mb, .map es clock)]) (fun _ h => h) (fun h => h) (fun _ h => h) (fun _ h => h) (Enters.func CaF.h rfl) (fun w1 hI => qx T a1 a2 a3 _ _ _ c1 c2 c3 D w1 hR qb mb hq hI.imm hT hdn h (gt T.looks j).minute hh hlm es clock F hMR hFK hI)) rfl ?_;rintro _ _ _ ⟨hp3, _, ⟨rfl, rfl, es2, clock2, F2, rfl, hMR2, hFK2⟩, rfl⟩;refine ⟨fun _ hI => Inv.left (l1 := [_, _]) hI, ?_⟩;refine WA.sog rfl rfl (SO.call (Enters.meth CaF.h (fun w => by kernel_rfl) rfl rfl) (fun w hI => Yv _ _ _)) rfl (zs ⟨fun _ hI => Inv.left (l1 := [_, _]) hI, ?_⟩);refine g [[5],[4,10,0,2,3,5,8,9,40,41,42]] ?_;exact WP.again (⟨j + 1, [(mb, .map es2 clock2)]⟩ : Nat × Hp) ⟨by simp only; omega, es2, clock2, F2, rfl, hMR2, hFK2⟩ (by simp only; omega) (fun a w h => yi h ⟨rfl, rfl, rfl, rfl, rfl, rfl, by show some (Value.bool _) = some (.bool _); congr 2; rw [wn hjl]; simp_all, rfl, rfl, rfl, trivial⟩ (fun _ h => List.mem_cons_of_mem _ h) (fun h => (List.nodup_cons.1 h).2))
        try simp only [zq] at g66
        refine g [[16],[4,10,0,2,3,5,8,9,40,41,42]] ?_;exact WP.again (⟨j + 1, [(mb, .map es clock)]⟩ : Nat × Hp) ⟨by simp only; omega, es, clock, F, rfl, hMR, hFK⟩ (by simp only; omega) (fun a w h => yi h ⟨rfl, rfl, rfl, rfl, rfl, rfl, by show some (Value.bool _) = some (.bool _); congr 2; rw [wn hjl]; simp_all, rfl, rfl, rfl, trivial⟩ (fun _ h => List.mem_cons_of_mem _ h) (fun h => (List.nodup_cons.1 h).2))
      try simp only [zq] at g53
      refine g [[11],[0,13,12,0,2,3,5,8,9,10,40,41,42]] ?_;refine WC.drawO [_, _] (pz [1,3,5,7,9,11,13,17,19,21,23,14,24,27,29]) zk zk zX (fun _ hI => Inv.left (l1 := [_, _]) (l2 := [_]) hI) (g [[2]] ?_);refine WA.part 66 rfl (fun g66 => ?_) (fun g66 => ?_)
      · try simp only [zq] at g66
        refine g [[7]] ?_;refine WA.ydg rfl rfl (Yd.nilCheckM rfl (fun w => by kernel_rfl)) rfl (g [[1]] ?_);refine WA.sog rfl rfl (SO.altersN (own := [_, _]) (hpc := [(mb, .map es clock)]) (fun _ h => h) (fun h => h) (fun _ h => h) (fun _ h => h) (Enters.func CaF.h rfl) (fun w1 hI => qx T a1 a2 a3 _ _ _ c1 c2 c3 D w1 hR qb mb hq hI.imm hT hdn h (gt T.looks j).minute hh hlm es clock F hMR hFK hI)) rfl ?_;rintro _ _ _ ⟨hp3, _, ⟨rfl, rfl, es2, clock2, F2, rfl, hMR2, hFK2⟩, rfl⟩;refine ⟨fun _ hI => Inv.left (l1 := [_, _]) hI, ?_⟩;refine WA.sog rfl rfl (SO.call (Enters.meth CaF.h (fun w => by kernel_rfl) rfl rfl) (fun w hI => Yv _ _ _)) rfl (zs ⟨fun _ hI => Inv.left (l1 := [_, _]) hI, ?_⟩);refine g [[5],[4,10,0,2,3,5,8,9,40,41,42]] ?_;exact WP.again (⟨j + 1, [(mb, .map es2 clock2)]⟩ : Nat × Hp) ⟨by simp only; omega, es2, clock2, F2, rfl, hMR2, hFK2⟩ (by simp only; omega) (fun a w h => yi h ⟨rfl, rfl, rfl, rfl, rfl, rfl, by show some (Value.bool _) = some (.bool _); congr 2; rw [wn hjl]; simp_all, rfl, rfl, rfl, trivial⟩ (fun _ h => List.mem_cons_of_mem _ h) (fun h => (List.nodup_cons.1 h).2))
      try simp only [zq] at g66
      refine g [[16],[4,10,0,2,3,5,8,9,40,41,42]] ?_;exact WP.again (⟨j + 1, [(mb, .map es clock)]⟩ : Nat × Hp) ⟨by simp only; omega, es, clock, F, rfl, hMR, hFK⟩ (by simp only; omega) (fun a w h => yi h ⟨rfl, rfl, rfl, rfl, rfl, rfl, by show some (Value.bool _) = some (.bool _); congr 2; rw [wn hjl]; simp_all, rfl, rfl, rfl, trivial⟩ (fun _ h => List.mem_cons_of_mem _ h) (fun h => (List.nodup_cons.1 h).2))
    try simp only [zq] at c43
    obtain rfl : j = T.looks.length := by omega
    refine g [[6]] ?_;have hMM2 : MapK T mb [(mb, .map es clock)] := ⟨es, clock, F, rfl, hMR, hFK⟩;refine g [[4,0,2,3,5,8,9,10]] ?_;refine WC.cond rfl (fun c80 => ?_) (fun c80 => ?_)
    · try simp only [zq] at c80
      refine g [[3,0,2,3,5,8,9]] ?_;refine WL.know 82 (nt ((gt T.sand p).lo + ((k : Nat) : Int)).toNat) rfl (by show it _ = it _; congr 1; omega) ?_;have hs63 : setN T h p k < 2 ^ 63 := Nat.lt_trans (kR hs.1.1 k (by omega)) (Nat.pow_lt_pow_right (by omega) (by omega));have hn63 : 2 ^ ((gt T.sand p).lo + ((k : Nat) : Int)).toNat < 2 ^ 63 := Nat.pow_lt_pow_right (by omega) (by omega);refine WL.yd (Yd.shlU rfl rfl (by omega)) rfl (WL.yd (Yd.orU hs63 hn63 rfl rfl) rfl (g [[4],[5,8,0,2,3,5,9]] ?_));exact WP.again (⟨k + 1, [(mb, .map es clock)]⟩ : Nat × Hp) ⟨by simp only; omega, hMM2⟩ (by simp only; omega) (fun a w h => y4 h ⟨rfl, rfl, rfl, rfl, by show some (ut _) = some (ut _); congr 2; rw [j9 hkW, ← Xl]; first | (rw [c80, if_pos rfl, KA (kR hs.1.1 k (by omega))]) | (rw [c80]; rfl), by show some (it _) = some (it _); congr 2; push_cast; omega, trivial⟩)
    try simp only [zq] at c80
    refine g [[3],[5,0,2,3,5,8,9]] ?_;exact WP.again (⟨k + 1, [(mb, .map es clock)]⟩ : Nat × Hp) ⟨by simp only; omega, hMM2⟩ (by simp only; omega) (fun a w h => y4 h ⟨rfl, rfl, rfl, rfl, by show some (ut _) = some (ut _); congr 2; rw [j9 hkW, ← Xl]; first | (rw [c80, if_pos rfl, KA (kR hs.1.1 k (by omega))]) | (rw [c80]; rfl), by show some (it _) = some (it _); congr 2; push_cast; omega, trivial⟩)
  try simp only [zq] at c33
  obtain rfl : k = ((gt T.sand p).hi - (gt T.sand p).lo + 1).toNat := by omega
  refine g [[6],[6,8]] ?_;refine WP.ret1 rfl rfl rfl (RV.tmp rfl) (fun w1 hI => ⟨_, D, hM, rfl, DExt.refl _ _, hI.drop 1, by rw [← JM], rfl, hMM⟩)
def tdC (T : Tide) (h : Hts) : List Value := htC h ++ (List.range 4).map fun p => if p < T.sand.length then ut (setU T h p) else ut 0
def tdV (T : Tide) (h : Hts) : Value := .agg (tdC T h).toArray
theorem X1 (T : Tide) : ∀ h, (tdC T h).length = 8 := fun _ => rfl
theorem VI (T : Tide) (a1 a2 a3 : Option Addr) (n1 n2 n3 c1 c2 c3 : Nat) (D : Imm) (w : World) (hR : yo D T a1 n1 a2 n2 a3 n3) (qb mb : Nat) (hq : D qb = some (shoO (.slice a1 n1 c1) (.slice a2 n2 c2) (.slice a3 n3 c3) mb)) (hH : Holds D w) (hT : zG T) : z8 Tryz.prog 172 [pt qb] w (ut (2 ^ T.looks.length - 1)) := by
  unfold z8;obtain rfl := hR.mark.len';obtain rfl := hR.sand.len';obtain rfl := hR.look.len';obtain ⟨hl1, hl2, hl3⟩ := hR.len;have hnl := hT.nl;refine en Tryz.func172 rfl Tryz.ntmps172 (Inv.start hH) (g [[1],[5,0],[7,2,0]] ?_);refine WL.yd (Yd.shlU rfl rfl (by omega)) rfl (WL.yd (Yd.subU (i := 2 ^ T.looks.length) (j := 1) rfl rfl (Nat.one_le_two_pow) (Nat.pow_le_pow_right (by omega) (by omega))) rfl (g [[4]] ?_));refine WP.ret1 rfl rfl rfl (RV.tmp rfl) (fun w hI => ⟨rfl, hI.keep⟩)
theorem Y7 (q n : Nat) (D : Imm) (w : World) (hH : Holds D w) : y6 Tryz.prog 171 [pt q, ut n] w D (fun v D' => ∃ b c, v = .func (.func 235) #[] #[pt b, pt c] ∧ D' b = some (.cells (List.toArray [pt q]) 134 (0, 0)) ∧ D' c = some (.cells (List.toArray [ut n]) 200 (0, 0))) := by
  unfold y6;refine en Tryz.func171 rfl Tryz.ntmps171 (Inv.start hH) (g [[1],[1,0,1]] ?_);refine WL.so (SO.box rfl rfl) rfl (zw fun b2 hb2 => ?_);refine WL.so (SO.box rfl rfl) rfl (zw fun b3 hb3 => ?_);refine g [[4]] ?_;refine WC.freezeK 0 rfl (fun hn3 => ?_);refine WC.freezeK 0 rfl (fun hn2 => ?_);refine g [[6,4,3,2]] ?_;refine WP.ret1 rfl rfl rfl (RV.tmp rfl) (fun w1 hI => ⟨_, _, rfl, hI.keep, hI.imm, ((DExt.refl w D).add hn3 hb3).add hn2 hb2, b2, b3, rfl, Imm.add_self _ _ _, ((DExt.refl w _).add hn2 hb2).old _ _ (Imm.add_self _ _ _)⟩)
def tdF (T : Tide) (rem : Nat) (h : Hts) (k : Nat) : List Hts := (hsL T rem h k).filter (truB T)
def spR (T : Tide) (k : Nat) : List Int := rng (gt T.marks k).high.lo (gt T.marks k).high.hi
theorem W5 (T : Tide) (h : Hts) (k : Nat) : tdF T 0 h k = if truB T h then [h] else [] := by
  unfold tdF hsL;cases hb : truB T h <;> simp [hb]
theorem W4 (T : Tide) (rem : Nat) (h : Hts) (k : Nat) : tdF T (rem + 1) h k = (spR T k).flatMap fun n => tdF T rem (updH h k n) (k + 1) := by
  unfold tdF spR;rw [hsL, List.filter_flatMap]
def tdN (T : Tide) (rem : Nat) (h : Hts) (k i : Nat) : Nat := (((spR T k).take i).flatMap fun n => tdF T rem (updH h k n) (k + 1)).length
theorem JS {T : Tide} {rem : Nat} {h : Hts} {k i : Nat} (hi : i < (spR T k).length) : tdN T rem h k (i + 1) = tdN T rem h k i + (tdF T rem (updH h k (gt (spR T k) i)) (k + 1)).length := by
  unfold tdN;exact jh (fun n => tdF T rem (updH h k n) (k + 1)) hi
theorem JR {T : Tide} {rem : Nat} {h : Hts} {k i k0 : Nat} {A : List Hts} (hA : PartOf A (tdF T (rem + 1) h k) k0) (hi : i < (spR T k).length) : PartOf A (tdF T rem (updH h k (gt (spR T k) i)) (k + 1)) (k0 + tdN T rem h k i) := by
  rw [W4] at hA;exact hA.step hi
theorem zbg (T : Tide) (rem : Nat) (h : Hts) (k : Nat) : tdN T rem h k (spR T k).length = (tdF T (rem + 1) h k).length := by
  unfold tdN;rw [W4, List.take_length]
theorem zbf (T : Tide) : tdF T T.marks.length Zb 0 = tdL T := rfl
theorem zam {h : Hts} (hh : HtB h) (k : Nat) {n : Int} (hn : 0 ≤ n ∧ n ≤ 60) : HtB (updH h k n) := fun j => by
  unfold updH; split
  · exact hn
  exact hh j
theorem J4 : HtB Zb := fun _ => by simp [Zb]
def K6 (T : Tide) (h : Hts) (k : Nat) : Bool := (List.range k).all fun p => !(setL T h p).isEmpty
theorem kZ {l : List Int} : sumU l = 0 ↔ l = [] := by
  unfold sumU;cases l with
  | nil => simp
  | cons a r =>
    have := Nat.two_pow_pos a.toNat;simp only [List.map_cons, List.sum_cons, reduceCtorEq, iff_false];omega
theorem V1 {T : Tide} {h : Hts} {k : Nat} : K6 T h (k + 1) = (K6 T h k && !decide (setU T h k = 0)) := by
  unfold K6 setU;rw [List.range_succ, List.all_append];simp only [List.all_cons, List.all_nil, Bool.and_true];congr 1;cases hl : setL T h k with
  | nil => rfl
  | cons a r =>
    have : ¬ sumU (a :: r) = 0 := fun e => by have := kZ.1 e; cases this
    simp [this]
def tdP (T : Tide) (h : Hts) (j : Nat) : List Value := htC h ++ (List.range 4).map fun p => if p < j then ut (setU T h p) else ut 0
theorem zd4 (T : Tide) (h : Hts) {j : Nat} (hj : j < 4) : splice (tdP T h j) (0 + 4 + j * 1) [ut (setU T h j)] = tdP T h (j + 1) := by
  rcases (show j = 0 ∨ j = 1 ∨ j = 2 ∨ j = 3 by omega) with rfl | rfl | rfl | rfl <;> simp [tdP, htC, splice, List.range, List.range.loop]
theorem zlm (T : Tide) (h : Hts) {j : Nat} (hj : j < 4) : (tdP T h (j + 1))[0 + 4 + j * 1]? = some (ut (setU T h j)) := by
  rcases (show j = 0 ∨ j = 1 ∨ j = 2 ∨ j = 3 by omega) with rfl | rfl | rfl | rfl <;> simp [tdP, htC, List.range, List.range.loop]
theorem Jc {D : Imm} {a b : Nat × Obj} {h0 hM : Hp} {S : List Nat} {w0 w : World} (h : Inv D ((a :: b :: h0) ++ hM) S w0 w) : Inv D (hM ++ h0) S w0 w := by
  have hp : ((a :: b :: h0) ++ hM).Perm (a :: b :: (hM ++ h0)) := (List.perm_append_comm.cons b).cons a;refine h.sub (fun e he => hp.mem_iff.2 (List.mem_cons_of_mem _ (List.mem_cons_of_mem _ he))) ?_;have hn := ((hp.map Prod.fst).nodup_iff).1 h.nodup;rw [List.map_cons, List.map_cons] at hn;exact (List.nodup_cons.1 (List.nodup_cons.1 hn).2).2
theorem zdZ : zj Tryz.prog 236 [.int .i64 0, .int .i64 0, .int .i64 0, .int .i64 0, .int .u64 0, .int .u64 0, .int .u64 0, .int .u64 0] [(0, 4), (4, 4)] := ⟨⟨_, Tryz.zeroValue236, rfl⟩, _, Tryz.underlying236, fun w => by simp [Tryz.sizeOf232, Tryz.sizeOf234]⟩
abbrev zbQ := SaF.mk zdZ
attribute [instance] zbQ
section
variable (T : Tide) (a1 a2 a3 : Option Addr) (n1 n2 n3 c1 c2 c3 : Nat) (qb mb bs bo bm by_ ly : Nat) (St : Nat → Imm → Hp → Prop) (Sp : Imm → Hp → Prop) (w0 : World) (A : List Hts) (hT : zG T)
include T a1 a2 a3 n1 n2 n3 c1 c2 c3 qb mb bs bo bm by_ ly St Sp w0 A hT
theorem zlf 
    (hSm : ∀ k D1 D2 h, DExt w0 D1 D2 → St k D1 h → St k D2 h)
    (DD : Imm) (hround : ∀ k D' h w', k < A.length → w0.heap.size ≤ w'.heap.size → DExt w0 DD D' → St k D' h → Inv D' h (keys h) w' w' → YieldAt Fence.wide 0 Tryz.prog ly #[tdV T (gt A k)] w' (xV w' D' (keys h) (fun b D'' h' => (b = true ∧ St (k + 1) D'' h') ∨ (b = false ∧ Sp D'' h')))) : ∀ (h : Hts) (k k0 : Nat) (D : Imm) (w : World) (hM h0 : Hp), k + 0 = T.marks.length → PartOf A (tdF T 0 h k) k0 → HtB h → w0.heap.size ≤ w.heap.size → DExt w0 DD D → yo D T a1 n1 a2 n2 a3 n3 → D qb = some (shoO (.slice a1 n1 c1) (.slice a2 n2 c2) (.slice a3 n3 c3) mb) → ux D → D bs = some (.cells (List.toArray [pt qb]) 134 (0, 0)) → D bo = some (.cells (List.toArray [.func (.func 236) #[] #[pt bs, pt bo, pt bm, pt by_]]) 312 (0, 0)) → D bm = some (.cells (List.toArray [ut (2 ^ T.looks.length - 1)]) 200 (0, 0)) → D by_ = some (.cells (List.toArray [.func (.yield ly) #[] #[]]) 311 (0, 0)) → MapK T mb hM → St k0 D h0 → Inv D (hM ++ h0) (keys (hM ++ h0)) w w → zp Tryz.prog 236 [htV h, nt k, pt bs, pt bo, pt bm, pt by_] w D (keys (hM ++ h0)) (fun v D' h' => ∃ b hM' h1, v = .bool b ∧ h' = hM' ++ h1 ∧ MapK T mb hM' ∧ ((b = true ∧ St (k0 + (tdF T 0 h k).length) D' h1) ∨ (b = false ∧ Sp D' h1))) := by
  intro h k k0 D w hM h0 hin hpart hh hsw hXX hR hq hdn h1 h2 h3 h4 hMM hS0 hI0;obtain rfl := hR.mark.len';obtain rfl := hR.sand.len';obtain rfl := hR.look.len';obtain ⟨hl1, hl2, hl3⟩ := hR.len;obtain ⟨es0, clock0, F0, rfl, hMR0, hFK0⟩ := hMM;have hnm := hT.nm;have hns := hT.ns;unfold zp;refine en Tryz.func236 rfl Tryz.ntmps236 hI0 (g [[1],[1,0,1,2,3,4,5]] ?_);refine WL.so (SO.box rfl rfl) rfl (zw fun b6 hb6 => ?_);refine g [[5],[11,8,6,1,2,3,4,5]] ?_;refine WC.cond rfl (fun c20 => ?_) (fun c20 => ?_)
  · try simp only [zq] at c20
    omega
  try simp only [zq] at c20
  refine g [[3],[3,8,6,2,4,5]] ?_;refine WL.so (SO.alloc ZvF.h rfl) rfl (zw fun b11 hb11 => ?_);refine g [[5],[11,11,8,6,2,4,5]] ?_
  refine WC.loop (fun y : Nat × Hp => [(2, pt bs), (4, pt bm), (5, pt by_), (6, pt b6), (11, pt b11), (63, nt T.sand.length), (64, nt y.1)]) (fun y => ((b11, .cells (List.toArray (tdP T h y.1)) 236 (0, 0)) :: (b6, .cells (List.toArray (htC h)) 232 (0, 0)) :: h0) ++ y.2) (fun _ => D) (fun y => y.1 ≤ T.sand.length ∧ MapK T mb y.2 ∧ K6 T h y.1 = true) (fun y => T.sand.length - y.1) (0, [(mb, .map es0 clock0)]) ⟨by omega, ⟨es0, clock0, F0, rfl, hMR0, hFK0⟩, rfl⟩ (fun a w h => yi h ⟨rfl, rfl, rfl, rfl, rfl, rfl, rfl, trivial⟩ (fun e he => by
    rcases List.mem_append.1 he with he | he
    · rcases List.mem_cons.1 he with rfl | he
      · exact List.mem_cons_self
      rcases List.mem_cons.1 he with rfl | he
      · exact List.mem_cons_of_mem _ List.mem_cons_self
      exact List.mem_cons_of_mem _ (List.mem_cons_of_mem _ (List.mem_cons_of_mem _ he))
    · obtain rfl := List.mem_singleton.1 he;exact List.mem_cons_of_mem _ (List.mem_cons_of_mem _ List.mem_cons_self)) (fun hn => by
    simp only [keys, List.map_append, List.map_cons, List.map_nil, List.cons_append, List.nil_append] at hn ⊢;exact ((((List.perm_append_singleton mb (h0.map Prod.fst)).cons b6).cons b11).nodup_iff).2 hn)) ?_
  rintro ⟨j, hM⟩ ⟨hj, hMM, htr⟩;dsimp only at hj hMM htr;obtain ⟨es, clock, F, rfl, hMR, hFK⟩ := hMM;refine g [[1],[5,2,4,5,6,11,63,64]] ?_;refine WC.cond rfl (fun c65 => ?_) (fun c65 => ?_)
  · try simp only [zq] at c65
    have hjs : j < T.sand.length := by omega
    refine g [[5],[6,2,4,5,6,11,63,64],[6,12,2,4,5,6,11,63,64]] ?_;refine WL.so (SO.altersN (own := ((b11, .cells (List.toArray (tdP T h j)) 236 (0, 0)) :: (b6, .cells (List.toArray (htC h)) 232 (0, 0)) :: h0)) (hpc := [(mb, .map es clock)]) (S1 := [mb]) (fun _ h => h) (fun h => h) (fun _ h => h) (fun _ h => h) (Enters.func CaF.h rfl) (fun w1 hI => zcV T a1 a2 a3 _ _ _ c1 c2 c3 D w1 hR qb mb hq hI.imm hT hdn h hh j hjs _ ⟨es, clock, F, rfl, hMR, hFK⟩ hI)) rfl ?_;rintro _ _ _ ⟨hM2, _, ⟨rfl, rfl, hMM2⟩, rfl⟩;refine g [[1]] ?_;refine WL.yd (Yd.indexA UnF.h SzF.h rfl rfl (by omega) (by omega)) rfl ?_;refine WL.so (SO.store 0 rfl SzF.h rfl rfl rfl rfl (by show 0 + 4 + j * 1 + 1 ≤ 8; omega) (za rfl)) rfl (zt (g [[3],[1,12,2,4,5,6,11,63,64]] ?_));rw [show splice (tdP T h j) (0 + 4 + (j : Int).toNat * 1) [ut (setU T h j)] = tdP T h (j + 1) from zd4 T h (by omega)];refine g [[2]] ?_;refine WL.yd (Yd.indexA UnF.h SzF.h rfl rfl (by omega) (by omega)) rfl (WL.yd (Yd.l1 rfl (Rd.own (k := 0) rfl (zlm T h (j := j) (by omega)))) rfl (g [[3]] ?_));refine WC.cond rfl (fun c79 => ?_) (fun c79 => ?_)
    · try simp only [zq] at c79
      refine g [[1],[10,2,4,5,6,11,63,64]] ?_
      refine WP.ret1 rfl rfl rfl (RV.tmp rfl) (fun w1 hI => ⟨_, _, hM2 ++ h0, rfl, DExt.refl _ _, Jc hI, true, hM2, h0, rfl, rfl, hMM2, .inl ⟨rfl, by
        have hno : truB T h = false := by
          cases hb : truB T h with
          | false => rfl
          | true =>
            have h9 := List.all_eq_true.1 hb j (List.mem_range.2 hjs);have h8 : setL T h j = [] := kZ.1 (by show setU T h j = 0; omega);rw [h8] at h9; cases h9
        rw [W5, hno]; exact hS0⟩⟩)
    try simp only [zq] at c79
    refine g [[3],[4,2,4,5,6,11,63,64]] ?_;exact WP.again (⟨j + 1, hM2⟩ : Nat × Hp) ⟨by simp only; omega, hMM2, by simp only; rw [V1, htr, decide_eq_false (by omega)]; rfl⟩ (by simp only; omega) (fun a w h => y4 h ⟨rfl, rfl, rfl, rfl, rfl, rfl, rfl, trivial⟩)
  try simp only [zq] at c65
  obtain rfl : j = T.sand.length := by omega
  refine g [[6]] ?_;have htB : truB T h = true := htr;have hA1 : tdF T 0 h k = [h] := by rw [W5, if_pos htB]
  have hkA := hpart.at 0 (by rw [hA1]; exact Nat.zero_lt_one);have hgA : gt A k0 = h := by have := hkA.1; rw [hA1] at this; exact this
  refine g [[0,5,11]] ?_;refine WC.ofF (g [[3]] ?_);refine WLF.know 82 (tdV T h) rfl rfl ?_;refine WLF.yieldN (l := ly) (vals := [tdV T h]) [(b11, .cells (List.toArray (tdP T h T.sand.length)) 236 (0, 0)), (b6, .cells (List.toArray (htC h)) 232 (0, 0)), (mb, .map es clock)] h0 (fun e he => by simp only [List.cons_append, List.nil_append, List.mem_cons, List.mem_append, List.not_mem_nil, or_false] at he ⊢; rcases he with h | h | h | h <;> simp [h]) (fun hn => by simp only [keys, List.map_append, List.map_cons, List.map_nil, List.cons_append, List.nil_append] at hn ⊢; exact ((((List.perm_append_singleton mb (h0.map Prod.fst)).cons b6).cons b11).nodup_iff).1 hn) rfl rfl rfl (fun w' hsz hI => by rw [← hgA]; exact hround k0 D h0 w' hkA.2 (Nat.le_trans hsw hsz) hXX hS0 hI) ?_;rintro b22 D5 hp5 hK5 hX5;refine g [[4]] ?_
  refine WP.ret1 rfl rfl rfl (RV.tmp rfl) (fun w1 hI => by
    rcases hK5 with ⟨rfl, hK5⟩ | ⟨rfl, hK5⟩
    · exact ⟨_, D5, [(mb, .map es clock)] ++ hp5, rfl, hX5, hI.drop 2, true, _, hp5, rfl, rfl, ⟨es, clock, F, rfl, hMR, hFK⟩, .inl ⟨rfl, by rw [hA1]; exact hK5⟩⟩
    exact ⟨_, D5, [(mb, .map es clock)] ++ hp5, rfl, hX5, hI.drop 2, false, _, hp5, rfl, rfl, ⟨es, clock, F, rfl, hMR, hFK⟩, .inr ⟨rfl, hK5⟩⟩)
theorem zlh 
    (hSm : ∀ k D1 D2 h, DExt w0 D1 D2 → St k D1 h → St k D2 h)
    (DD : Imm) (hround : ∀ k D' h w', k < A.length → w0.heap.size ≤ w'.heap.size → DExt w0 DD D' → St k D' h → Inv D' h (keys h) w' w' → YieldAt Fence.wide 0 Tryz.prog ly #[tdV T (gt A k)] w' (xV w' D' (keys h) (fun b D'' h' => (b = true ∧ St (k + 1) D'' h') ∨ (b = false ∧ Sp D'' h')))) (rem : Nat) (ih : ∀ (h : Hts) (k k0 : Nat) (D : Imm) (w : World) (hM h0 : Hp), k + rem = T.marks.length → PartOf A (tdF T rem h k) k0 → HtB h → w0.heap.size ≤ w.heap.size → DExt w0 DD D → yo D T a1 n1 a2 n2 a3 n3 → D qb = some (shoO (.slice a1 n1 c1) (.slice a2 n2 c2) (.slice a3 n3 c3) mb) → ux D → D bs = some (.cells (List.toArray [pt qb]) 134 (0, 0)) → D bo = some (.cells (List.toArray [.func (.func 236) #[] #[pt bs, pt bo, pt bm, pt by_]]) 312 (0, 0)) → D bm = some (.cells (List.toArray [ut (2 ^ T.looks.length - 1)]) 200 (0, 0)) → D by_ = some (.cells (List.toArray [.func (.yield ly) #[] #[]]) 311 (0, 0)) → MapK T mb hM → St k0 D h0 → Inv D (hM ++ h0) (keys (hM ++ h0)) w w → zp Tryz.prog 236 [htV h, nt k, pt bs, pt bo, pt bm, pt by_] w D (keys (hM ++ h0)) (fun v D' h' => ∃ b hM' h1, v = .bool b ∧ h' = hM' ++ h1 ∧ MapK T mb hM' ∧ ((b = true ∧ St (k0 + (tdF T rem h k).length) D' h1) ∨ (b = false ∧ Sp D' h1)))) : ∀ (h : Hts) (k k0 : Nat) (D : Imm) (w : World) (hM h0 : Hp), k + (rem + 1) = T.marks.length → PartOf A (tdF T (rem + 1) h k) k0 → HtB h → w0.heap.size ≤ w.heap.size → DExt w0 DD D → yo D T a1 n1 a2 n2 a3 n3 → D qb = some (shoO (.slice a1 n1 c1) (.slice a2 n2 c2) (.slice a3 n3 c3) mb) → ux D → D bs = some (.cells (List.toArray [pt qb]) 134 (0, 0)) → D bo = some (.cells (List.toArray [.func (.func 236) #[] #[pt bs, pt bo, pt bm, pt by_]]) 312 (0, 0)) → D bm = some (.cells (List.toArray [ut (2 ^ T.looks.length - 1)]) 200 (0, 0)) → D by_ = some (.cells (List.toArray [.func (.yield ly) #[] #[]]) 311 (0, 0)) → MapK T mb hM → St k0 D h0 → Inv D (hM ++ h0) (keys (hM ++ h0)) w w → zp Tryz.prog 236 [htV h, nt k, pt bs, pt bo, pt bm, pt by_] w D (keys (hM ++ h0)) (fun v D' h' => ∃ b hM' h1, v = .bool b ∧ h' = hM' ++ h1 ∧ MapK T mb hM' ∧ ((b = true ∧ St (k0 + (tdF T (rem + 1) h k).length) D' h1) ∨ (b = false ∧ Sp D' h1))) := by
  intro h k k0 D w hM h0 hin hpart hh hsw hXX hR hq hdn h1 h2 h3 h4 hMM hS0 hI0;obtain rfl := hR.mark.len';obtain rfl := hR.sand.len';obtain rfl := hR.look.len';obtain ⟨hl1, hl2, hl3⟩ := hR.len;have hnm := hT.nm;have hkm : k < T.marks.length := by omega
  have hk4 : k < 4 := by omega
  have hsp := ws.1 (hT.mark k hkm).2;unfold zp;refine en Tryz.func236 rfl Tryz.ntmps236 hI0 (g [[1],[1,0,1,2,3,4,5]] ?_);refine WL.so (SO.box rfl rfl) rfl (zw fun b6 hb6 => ?_);refine g [[5],[11,8,6,1,2,3,4,5]] ?_;refine WC.cond rfl (fun c20 => ?_) (fun c20 => ?_)
  · try simp only [zq] at c20
    refine g [[1],[8,8,6,1,2,3,4,5],[7,9,8,6,1,2,3,4,5]] ?_;refine WL.yd (Yd.ix rfl rfl (hR.mark.addr k (by omega))) rfl (g [[2]] ?_);refine WL.yd (Yd.l1 rfl ((hR.mark.at k (by omega)).rd 1 rfl)) rfl (g [[4]] ?_);refine WC.loop (fun y : Nat × Imm × Hp × Hp => [(1, nt k), (2, pt bs), (3, pt bo), (6, pt b6), (9, .func (.func 237) #[htV h] #[]), (10, it ((gt T.marks k).high.lo + ((y.1 : Nat) : Int)))]) (fun y => (b6, .cells (List.toArray (htC h)) 232 (0, 0)) :: (y.2.2.1 ++ y.2.2.2)) (fun y => y.2.1) (fun y => y.1 ≤ ((gt T.marks k).high.hi - (gt T.marks k).high.lo + 1).toNat ∧ DExt w D y.2.1 ∧ MapK T mb y.2.2.1 ∧ St (k0 + tdN T rem h k y.1) y.2.1 y.2.2.2) (fun y => ((gt T.marks k).high.hi - (gt T.marks k).high.lo + 1).toNat - y.1) ⟨0, D, hM, h0⟩ ⟨by omega, DExt.refl _ _, hMM, hS0⟩ (fun a w h => y4 h ⟨rfl, rfl, rfl, rfl, rfl, by show some (it _) = some (it _); congr 2; push_cast; omega, trivial⟩) ?_;rintro ⟨i, D1, hM1, hG⟩ ⟨hi, hX1, hMM1, hSG⟩;dsimp only at hi hX1 hMM1 hSG;replace hXX := hXX.trans (hX1) hsw;replace hR := hR.ext (hX1);replace hq := (hX1).old _ _ hq;replace hdn := hdn.ext (hX1);replace h1 := (hX1).old _ _ h1;replace h2 := (hX1).old _ _ h2;replace h3 := (hX1).old _ _ h3;replace h4 := (hX1).old _ _ h4;refine g [[2],[8,1,2,3,6,9,10]] ?_;refine WL.yd (Yd.ix rfl rfl (hR.mark.addr k (by omega))) rfl (g [[2]] ?_);refine WL.yd (Yd.l1 rfl ((hR.mark.at k (by omega)).rd 2 rfl)) rfl (g [[3]] ?_);refine WC.cond rfl (fun c44 => ?_) (fun c44 => ?_)
    · try simp only [zq] at c44
      have hiW : i < ((gt T.marks k).high.hi - (gt T.marks k).high.lo + 1).toNat := by omega
      have hil : i < (spR T k).length := by unfold spR; rw [wH]; exact hiW
      have hgi : gt (spR T k) i = ((gt T.marks k).high.lo + ((i : Nat) : Int)) := Xo hiW;have hpt := JR hpart hil;rw [hgi] at hpt;refine g [[5],[0,1,2,3,6,9,10]] ?_;refine WC.drawO [_] (pz [1,3,5,7,11,13,8,14,17]) zk zk zX (fun _ hI => Inv.left (l1 := [_]) (l2 := hM1 ++ hG) hI) (g [[5]] ?_);refine WA.yd rfl (Yd.addN (i := k) (j := 1) rfl rfl (by omega)) rfl (WA.so rfl (SO.call (Enters.val CaF.h rfl rfl) (fun w hI => zbu h k ((gt T.marks k).high.lo + ((i : Nat) : Int)) hk4 _)) rfl ?_);rintro _ _ _ ⟨rfl, rfl, rfl⟩;refine ⟨fun _ hI => Inv.left (l1 := [_]) (l2 := hM1 ++ hG) hI, ?_⟩;refine WA.so rfl (SO.altersNS (own := [_]) (hpc := hM1 ++ hG) (fun _ h => h) (fun h => h) (Enters.val CaF.h rfl rfl) (fun w3 hsz3 hI => ih (updH h k ((gt T.marks k).high.lo + ((i : Nat) : Int))) (k + 1) (k0 + tdN T rem h k i) D1 w3 hM1 hG (by omega) hpt (zam hh k (by omega)) (Nat.le_trans hsw hsz3) hXX hR hq hdn h1 h2 h3 h4 hMM1 hSG hI)) rfl ?_;rintro _ D8 _ ⟨hp8, hX8, ⟨b84, hM2, h9, rfl, rfl, hMM2, hK8⟩, rfl⟩;refine ⟨fun _ hI => kr (Inv.left (l1 := [_]) hI) hX8, ?_⟩;refine g [[3]] ?_;refine WC.cond rfl (fun c55 => ?_) (fun c55 => ?_)
      · try simp only [zq] at c55
        refine g [[1],[11,1,2,3,6,9,10]] ?_
        refine WP.ret1 rfl rfl rfl (RV.tmp rfl) (fun w1 hI => by
          rcases hK8 with ⟨htt, _⟩ | ⟨_, hK8⟩
          · simp_all
          exact ⟨_, D8, hM2 ++ h9, rfl, hX1.trans hX8 (Nat.le_refl _), hI.drop 1, false, hM2, h9, rfl, rfl, hMM2, .inr ⟨rfl, hK8⟩⟩)
      try simp only [zq] at c55
      refine g [[3],[5,1,2,3,6,9,10]] ?_;rcases hK8 with ⟨_, hK8⟩ | ⟨hff, _⟩
      · exact WP.again (⟨i + 1, D8, hM2, h9⟩ : Nat × Imm × Hp × Hp) ⟨by simp only; omega, hX1.trans hX8 (Nat.le_refl _), hMM2, by simp only; rw [JS hil, hgi, ← Nat.add_assoc]; exact hK8⟩ (by simp only; omega) (fun a w h => y4 h ⟨rfl, rfl, rfl, rfl, rfl, by show some (it _) = some (it _); congr 2; push_cast; omega, trivial⟩)
      simp_all
    try simp only [zq] at c44
    obtain rfl : i = ((gt T.marks k).high.hi - (gt T.marks k).high.lo + 1).toNat := by omega
    refine g [[6],[6,2,6]] ?_;refine WP.ret1 rfl rfl rfl (RV.tmp rfl) (fun w1 hI => ⟨_, D1, hM1 ++ hG, rfl, hX1, hI.drop 1, true, hM1, hG, rfl, rfl, hMM1, .inl ⟨rfl, by rw [← zbg]; unfold spR; rw [wH]; exact hSG⟩⟩)
  try simp only [zq] at c20
  omega
theorem zlg 
    (hSm : ∀ k D1 D2 h, DExt w0 D1 D2 → St k D1 h → St k D2 h)
    (DD : Imm) (hround : ∀ k D' h w', k < A.length → w0.heap.size ≤ w'.heap.size → DExt w0 DD D' → St k D' h → Inv D' h (keys h) w' w' → YieldAt Fence.wide 0 Tryz.prog ly #[tdV T (gt A k)] w' (xV w' D' (keys h) (fun b D'' h' => (b = true ∧ St (k + 1) D'' h') ∨ (b = false ∧ Sp D'' h')))) : ∀ rem, ∀ (h : Hts) (k k0 : Nat) (D : Imm) (w : World) (hM h0 : Hp), k + rem = T.marks.length → PartOf A (tdF T rem h k) k0 → HtB h → w0.heap.size ≤ w.heap.size → DExt w0 DD D → yo D T a1 n1 a2 n2 a3 n3 → D qb = some (shoO (.slice a1 n1 c1) (.slice a2 n2 c2) (.slice a3 n3 c3) mb) → ux D → D bs = some (.cells (List.toArray [pt qb]) 134 (0, 0)) → D bo = some (.cells (List.toArray [.func (.func 236) #[] #[pt bs, pt bo, pt bm, pt by_]]) 312 (0, 0)) → D bm = some (.cells (List.toArray [ut (2 ^ T.looks.length - 1)]) 200 (0, 0)) → D by_ = some (.cells (List.toArray [.func (.yield ly) #[] #[]]) 311 (0, 0)) → MapK T mb hM → St k0 D h0 → Inv D (hM ++ h0) (keys (hM ++ h0)) w w → zp Tryz.prog 236 [htV h, nt k, pt bs, pt bo, pt bm, pt by_] w D (keys (hM ++ h0)) (fun v D' h' => ∃ b hM' h1, v = .bool b ∧ h' = hM' ++ h1 ∧ MapK T mb hM' ∧ ((b = true ∧ St (k0 + (tdF T rem h k).length) D' h1) ∨ (b = false ∧ Sp D' h1))) := by
  intro rem
  induction rem with
  | zero => exact zlf T a1 a2 a3 n1 n2 n3 c1 c2 c3 qb mb bs bo bm by_ ly St Sp w0 A hT hSm DD hround
  | succ rem ih => exact zlh T a1 a2 a3 n1 n2 n3 c1 c2 c3 qb mb bs bo bm by_ ly St Sp w0 A hT hSm DD hround rem ih
end
theorem uu (T : Tide) (a1 a2 a3 : Option Addr) (n1 n2 n3 c1 c2 c3 : Nat) (qb mb bs bm : Nat) (D : Imm) (w : World) (hT : zG T) (hR : yo D T a1 n1 a2 n2 a3 n3) (hq : D qb = some (shoO (.slice a1 n1 c1) (.slice a2 n2 c2) (.slice a3 n3 c3) mb)) (hdn : ux D) (h1 : D bs = some (.cells (List.toArray [pt qb]) 134 (0, 0))) (hm : D bm = some (.cells (List.toArray [ut (2 ^ T.looks.length - 1)]) 200 (0, 0))) : Vb Tryz.prog 235 [pt bs, pt bm] (tdL T).length (fun k => tdV T (gt (tdL T) k)) D (MapK T mb) w := by
  unfold Vb;intro l St Sp hSm hround hM h0 hMM hS0 hI0;unfold zp;refine en Tryz.func235 rfl Tryz.ntmps235 hI0 (g [[1],[1,0,1,2]] ?_);refine WL.so (SO.box rfl rfl) rfl (zw fun b3 hb3 => ?_);refine g [[3],[1,3,1,2]] ?_;refine WL.so (SO.alloc ZvF.h rfl) rfl (zw fun b4 hb4 => ?_);refine g [[3],[5,4,3,1,2]] ?_;refine WC.freezeK 0 rfl (fun hn4 => ?_);refine WC.freezeK 0 rfl (fun hn3 => ?_);have hX3 : DExt w D ((D.add b4 (.cells (List.toArray [.func (.func 236) #[] #[pt bs, pt b4, pt bm, pt b3]]) 312 (0, 0))).add b3 (.cells (List.toArray [.func (.yield l) #[] #[]]) 311 (0, 0))) := ((DExt.refl w D).add hn4 hb4).add hn3 hb3;have h3 : ((D.add b4 (.cells (List.toArray [.func (.func 236) #[] #[pt bs, pt b4, pt bm, pt b3]]) 312 (0, 0))).add b3 (.cells (List.toArray [.func (.yield l) #[] #[]]) 311 (0, 0))) b3 = some (.cells (List.toArray [.func (.yield l) #[] #[]]) 311 (0, 0)) := Imm.add_self _ _ _;have h4 : ((D.add b4 (.cells (List.toArray [.func (.func 236) #[] #[pt bs, pt b4, pt bm, pt b3]]) 312 (0, 0))).add b3 (.cells (List.toArray [.func (.yield l) #[] #[]]) 311 (0, 0))) b4 = some (.cells (List.toArray [.func (.func 236) #[] #[pt bs, pt b4, pt bm, pt b3]]) 312 (0, 0)) := ((DExt.refl w _).add hn3 hb3).old _ _ (Imm.add_self _ _ _);replace h1 := hX3.old _ _ h1;replace hm := hX3.old _ _ hm;replace hq := hX3.old _ _ hq;replace hR := hR.ext hX3;replace hdn := hdn.ext hX3;refine (?_ : WC Tryz.prog _ _ ((D.add b4 (.cells (List.toArray [.func (.func 236) #[] #[pt bs, pt b4, pt bm, pt b3]]) 312 (0, 0))).add b3 (.cells (List.toArray [.func (.yield l) #[] #[]]) 311 (0, 0))) (hM ++ h0) _ _);generalize ((D.add b4 (.cells (List.toArray [.func (.func 236) #[] #[pt bs, pt b4, pt bm, pt b3]]) 312 (0, 0))).add b3 (.cells (List.toArray [.func (.yield l) #[] #[]]) 311 (0, 0))) = D3 at hX3 h1 h3 h4 hm hq hR hdn ⊢;refine g [[2,4]] ?_;refine WL.yd (Yd.buildA (zs := [.int .i64 0, .int .i64 0, .int .i64 0, .int .i64 0]) ⟨_, ZvF.h, rfl⟩ UnF.h SzF.h rfl (cs := [_, _, _, _]) rfl) rfl (WL.know 7 (htV Zb) rfl rfl ?_);refine WL.so (SO.altersNS (own := []) (hpc := hM ++ h0) (fun _ h => h) (fun h => h) (Enters.val CaF.h rfl rfl) (fun w3 hsz hI => zlg T a1 a2 a3 n1 n2 n3 c1 c2 c3 qb mb bs b4 bm b3 l St Sp w (tdL T) hT hSm D hround T.marks.length Zb 0 0 D3 w3 hM h0 (by omega) ⟨[], [], by simp [zbf], rfl⟩ J4 hsz hX3 hR hq hdn h1 h4 hm h3 hMM (hSm _ _ _ _ hX3 hS0) hI)) rfl ?_;rintro _ D8 hp8 ⟨_, hX8, ⟨b7, hM2, h9, rfl, rfl, hMM2, hK8⟩, rfl⟩;refine g [[1]] ?_
  refine WP.ret0 rfl rfl rfl  (fun w1 hI => by
    rcases hK8 with ⟨rfl, hK8⟩ | ⟨rfl, hK8⟩
    · exact ⟨_, D8, hM2 ++ h9, rfl, hX3.trans hX8 (Nat.le_refl _), hI, hM2, h9, rfl, hMM2, .inl (by rw [Nat.zero_add] at hK8; exact hK8)⟩
    exact ⟨_, D8, hM2 ++ h9, rfl, hX3.trans hX8 (Nat.le_refl _), hI, hM2, h9, rfl, hMM2, .inr hK8⟩)
theorem VN {α β : Type} (f : α → List β) (n : Nat) : ∀ l : List α, (∀ x ∈ l, (f x).length ≤ n) → (l.flatMap f).length ≤ l.length * n
  | [], _ => by simp
  | x :: l, h => by
    have h1 := h x List.mem_cons_self;have h2 := VN f n l fun y hy => h y (List.mem_cons_of_mem _ hy);rw [List.flatMap_cons, List.length_append, List.length_cons, Nat.succ_mul]; omega
theorem VT {T : Tide} (hT : zG T) : ∀ (r : Nat) (h : Hts) (k : Nat), k + r ≤ T.marks.length → (hsL T r h k).length ≤ 3 ^ r
  | 0, _, _, _ => by simp [hsL]
  | r + 1, h, k, hk => by
    have hw := ws.1 (hT.mark k (by omega)).2;have h1 := VN (fun n => hsL T r (updH h k n) (k + 1)) (3 ^ r) (rng (gt T.marks k).high.lo (gt T.marks k).high.hi) fun n _ => VT hT r _ _ (by omega);rw [wH] at h1
    show ((rng (gt T.marks k).high.lo (gt T.marks k).high.hi).flatMap fun n => hsL T r (updH h k n) (k + 1)).length ≤ _;refine Nat.le_trans h1 ?_;rw [Nat.pow_succ, Nat.mul_comm];exact Nat.mul_le_mul_left _ (by omega)
theorem Q0 {T : Tide} (hT : zG T) : (tdL T).length ≤ 81 := by
  have h1 : (tdL T).length ≤ (hsL T T.marks.length Zb 0).length := List.length_filter_le _ _;have h2 := VT hT T.marks.length Zb 0 (by omega);have h3 : 3 ^ T.marks.length ≤ 3 ^ 4 := Nat.pow_le_pow_right (by decide) hT.nm.2;omega
theorem X2 (T : Tide) (h : Hts) : ∀ v ∈ tdC T h, v.oneCell' = true := fun v hv => by
  unfold tdC at hv;rcases List.mem_append.1 hv with hv | hv
  · simp only [htC, List.mem_cons, List.not_mem_nil, or_false] at hv;rcases hv with rfl | rfl | rfl | rfl <;> rfl
  obtain ⟨p, _, rfl⟩ := List.mem_map.1 hv;split <;> rfl
theorem zlb {l : List Value} (h : l.length = 8) : ∃ a b c d e f x y, l = [a, b, c, d, e, f, x, y] := by
  match l, h with
  | [a, b, c, d, e, f, x, y], _ => exact ⟨a, b, c, d, e, f, x, y, rfl⟩
section
variable (T : Tide) (hT : zG T) (mb : Nat) (gf : Nat) (lb : List Value) (D : Imm) (w : World) (hit : ∀ w1, w.heap.size ≤ w1.heap.size → Holds D w1 → Vb Tryz.prog gf lb (tdL T).length (fun k => tdV T (gt (tdL T) k)) D (MapK T mb) w1) (hc : ∀ args w, (callFunc gf args).run Tryz.prog w = .ok (.enter gf args) w) (hM : Hp) (hMM : MapK T mb hM) (hI0 : Inv D hM [mb] w w)
include T hT mb gf lb D w hit hc hM hMM hI0
theorem zcb : zp Tryz.prog 234 [.slice none 0 0, .func (.func gf) #[] lb.toArray] w D [mb] (fun v D' hp' => ∃ a c, v = .slice a (tdL T).length c ∧ SlL D' 8 ((tdL T).map (tdC T)) a (tdL T).length ∧ MapK T mb hp') := by
  unfold zp;have h81 := Q0 hT;obtain ⟨es, clock, F, rfl, hMR, hFK⟩ := hMM;refine enM Tryz.func234 rfl Tryz.ntmps234 hI0 (g [[1],[1,0,1]] ?_);refine WL.so (SO.box rfl rfl) rfl (zw fun b2 hb2 => ?_);refine g [[5],[5,4,2,1],[0,2,6]] ?_;refine WC.hpPerm ([(mb, .map es clock)] ++ [(b2, .cells (List.toArray [.slice none 0 0]) 139 (0, 0))]) (List.Perm.swap _ _ _) ?_;refine WC.rangeIterT [(mb, .map es clock)] _ rfl ⟨es, clock, F, rfl, hMR, hFK⟩ (N := (tdL T).length) (arg := fun k => tdV T (gt (tdL T) k)) (fun w1 hs hD1 => hit w1 hs hD1) rfl hc rfl (fun k _ h => ∃ o, owP w o k 8 ∧ h = ((b2, .cells (List.toArray [owV o k]) 139 (0, 0)) : Nat × Obj) :: owH o 236 (((tdL T).take k).flatMap (tdC T)) []) (fun _ _ _ => False) (fun _ _ _ _ _ h => h) ⟨none, rfl, rfl⟩ ?_ ?_ ?_
  · rintro rec1 l1 Dn0 k D5 _ w1 hrec hk ⟨o, ho, rfl⟩ hX5 hsz;unfold yP;obtain ⟨e0, e1, e2, e3, e4, e5, e6, e7, he⟩ := zlb (X1 T (gt (tdL T) k));have hone := X2 T (gt (tdL T) k);rw [he] at hone;refine g [[1,7,2]] ?_;refine WLF.know 7 (.agg (List.toArray [e0, e1, e2, e3, e4, e5, e6, e7])) rfl (by unfold tdV; rw [he]) ?_;refine WLF.so (zn rfl) (SO.alloc ZvF.h rfl) rfl (zw fun b5 hb5 => ?_);refine WLF.so (zn rfl) (SO.store 0 rfl SzF.h rfl rfl rfl rfl (zqb rfl) hone) rfl (zt (g [[1]] ?_));refine WP.iterBegin 1 rfl hrec (g [[1],[3,5,2]] ?_);refine WLF.so (zn rfl) (SO.buildRows UnF.h SzF.h ZvF.h rfl rfl rfl (rows := [[e0, e1, e2, e3, e4, e5, e6, e7]]) rfl (by intro r hr; repeat first | (rcases List.mem_cons.1 hr with rfl | hr; rfl) | (cases hr)) rfl) rfl ?_;rintro _ _ _ ⟨b10, hb10, rfl, rfl, rfl⟩;refine WLF.so (by intro _ h; cases h) (SO.appendOwW (W := w) hsz (o := o) (len := k) (n := 1) (xs := (((tdL T).take k).flatMap (tdC T))) (size := 8) [_] [_, _, _, _] [] rfl rfl Tryz.underlying139 Tryz.sizeOf236 Tryz.typeInfo236 Tryz.zeroValue236 rfl rfl rfl rfl ⟨rfl, .inr ⟨_, _, _, rfl, RdN.own (k := 0) (n := 8) rfl rfl⟩⟩ hone ho (by rw [zr (X1 T), List.length_take, Nat.min_eq_left (by omega)]) (by omega) (by show (2 * (_ + _) + 1000) * 64 ≤ 2 ^ 48; omega) (by omega)) rfl ?_;rintro _ _ _ ⟨u1, hu1, rfl, rfl, rfl⟩;refine g [[3]] ?_;refine WP.iterOnN hrec (h1 := (b2, .cells (List.toArray [owV (some u1) (k + 1)]) 139 (0, 0)) :: owH (some u1) 236 (((tdL T).take k).flatMap (tdC T) ++ [e0, e1, e2, e3, e4, e5, e6, e7]) []) (fun _ h => List.mem_cons_of_mem _ h) (fun h => (List.nodup_cons.1 h).2) (DExt.refl _ _) ⟨some u1, hu1, ?_⟩;rw [zP hk, List.flatMap_append, List.flatMap_cons, List.flatMap_nil, List.append_nil, he]
  · rintro Dn1 D6 hM1 _ hDn1 hX6 hMM1 ⟨o, ho, rfl⟩;obtain ⟨es1, clock1, F1, rfl, hMR1, hFK1⟩ := hMM1;rw [List.take_length];refine g [[3],[2,2]] ?_;refine WL.know 12 (.slice (owAt o) (tdL T).length (owCp o (tdL T).length)) rfl (xg (wt ho)) ?_;refine WL.freezeOw (f := tdC T) (m := 8) (X1 T) [_, _, _] [] o 236 (tdL T) rfl ho rfl (fun D7 hX7 hS7 => ?_);refine g [[4]] ?_;refine WP.retMs [Dn1] [(mb, .map es1 clock1)] [_] [_] rfl rfl zU1 zU2 rfl zV (fun w1 hI => ⟨_, D7, [(mb, .map es1 clock1)], rfl, hX6.trans hX7 (Nat.le_refl _), hI, owAt o, _, rfl, hS7, es1, clock1, F1, rfl, hMR1, hFK1⟩)
  exact fun _ _ _ _ _ _ _ _ h => h.elim
theorem za8 : zp Tryz.prog 170 [.func (.func gf) #[] lb.toArray] w D [mb] (fun v D' hp' => ∃ a c, v = .slice a (tdL T).length c ∧ SlL D' 8 ((tdL T).map (tdC T)) a (tdL T).length ∧ MapK T mb hp') := by
  unfold zp;obtain ⟨es, clock, F, rfl, hMR, hFK⟩ := hMM;refine en Tryz.func170 rfl Tryz.ntmps170 hI0 (g [[1],[5,0],[2,2,0]] ?_);refine WL.so (SO.altersNS (own := []) (hpc := [(mb, .map es clock)]) (fun _ h => h) (fun h => h) (Enters.func CaF.h rfl) (fun w2 hsz0 hI => zcb T hT mb gf lb D w2 (fun w1 hs => hit w1 (Nat.le_trans hsz0 hs)) hc [(mb, .map es clock)] ⟨es, clock, F, rfl, hMR, hFK⟩ hI)) rfl ?_;rintro _ D2 _ ⟨hp2, hX2, ⟨a, c, rfl, hS2, hMM2⟩, rfl⟩;refine g [[4]] ?_;refine WP.ret1 rfl rfl rfl (RV.tmp rfl) (fun w1 hI => ⟨_, D2, _, rfl, hX2, hI, a, c, rfl, hS2, hMM2⟩)
end
theorem um (a : Int) (r : List Int) : sumU (a :: r) = 2 ^ a.toNat + sumU r := by simp [sumU]
theorem W0 : ∀ (l : List Int) (a : Nat), (∀ x ∈ l, (a : Int) ≤ x) → ∃ m, sumU l = 2 ^ a * m
  | [], a, _ => ⟨0, by simp [sumU]⟩
  | x :: r, a, h => by
    obtain ⟨m, hm⟩ := W0 r a fun y hy => h y (List.mem_cons_of_mem _ hy);have hx := h x List.mem_cons_self;obtain ⟨d, hd⟩ : ∃ d, x.toNat = a + d := ⟨x.toNat - a, by omega⟩;exact ⟨2 ^ d + m, by rw [um, hm, hd, Nat.pow_add, Nat.mul_add]⟩
theorem jg : ∀ (l : List Int) (lo hi : Nat), l.Pairwise (· < ·) → (∀ x ∈ l, (lo : Int) ≤ x ∧ x ≤ (hi : Int)) → lo ≤ hi + 1 → sumU l + 2 ^ lo ≤ 2 ^ (hi + 1)
  | [], lo, hi, _, _, hle => by
    have := Nat.pow_le_pow_right (show 0 < 2 by decide) hle;simpa [sumU] using this
  | x :: r, lo, hi, hs, h, _ => by
    obtain ⟨h1, h2⟩ := List.pairwise_cons.1 hs;have hx := h x List.mem_cons_self;obtain ⟨n, rfl⟩ : ∃ n : Nat, x = (n : Int) := ⟨x.toNat, by omega⟩;have ih := jg r (n + 1) hi h2 (fun y hy => ⟨by have := h1 y hy; omega, (h y (List.mem_cons_of_mem _ hy)).2⟩) (by omega);have hp := Nat.pow_le_pow_right (show 0 < 2 by decide) (show lo ≤ n by omega);rw [um, Int.toNat_natCast];rw [Nat.pow_succ] at ih;omega
theorem W1 : ∀ (l : List Int) (x : Int), x ∈ l → 2 ^ x.toNat ≤ sumU l
  | y :: r, x, h => by
    rw [um];rcases List.mem_cons.1 h with rfl | h
    · exact Nat.le_add_right _ _
    exact Nat.le_trans (W1 r x h) (Nat.le_add_left _ _)
theorem Un : ∀ (a c m n : Nat), 2 ^ a * (2 * m + 1) = 2 ^ c * (2 * n + 1) → a = c
  | 0, 0, _, _, _ => rfl
  | 0, c + 1, m, n, h => by rw [Nat.pow_succ, Nat.mul_assoc, Nat.mul_left_comm] at h; omega
  | a + 1, 0, m, n, h => by rw [Nat.pow_succ, Nat.mul_assoc, Nat.mul_left_comm] at h; omega
  | a + 1, c + 1, m, n, h => by
    have : 2 ^ a * (2 * m + 1) = 2 ^ c * (2 * n + 1) := by
      rw [Nat.pow_succ, Nat.pow_succ, Nat.mul_comm (2 ^ a) 2, Nat.mul_comm (2 ^ c) 2, Nat.mul_assoc, Nat.mul_assoc] at h;exact Nat.eq_of_mul_eq_mul_left (show 0 < 2 by decide) h
    rw [Un a c m n this]
theorem zbc {l : List Int} (hs : l.Pairwise (· < ·)) (hn : ∀ x ∈ l, 0 ≤ x ∧ x ≤ 60) (hne : l ≠ []) : sumU l < 2 ^ 61 ∧ sumU l ≠ 0 ∧ (Lib.ctz 64 (sumU l) : Int) = uZ l ∧ (Lib.bitLen (sumU l) : Int) - 1 = u7 l := by
  have hlt : sumU l < 2 ^ 61 := by
    have := jg l 0 60 hs (fun x hx => by have := hn x hx; omega) (by omega);have h0 : (2 : Nat) ^ 0 = 1 := rfl;omega
  have h0 : sumU l ≠ 0 := fun e => hne (kZ.1 e);obtain ⟨e1, e2, e3⟩ := Zt hs hne;refine ⟨hlt, h0, ?_, ?_⟩
  · obtain ⟨m, hm, _⟩ := Lib.ctzFrom_spec 64 (sumU l) (by omega) (Nat.lt_trans hlt (by decide));have hz : Lib.ctz 64 (sumU l) = Lib.ctzFrom 64 (sumU l) := by unfold Lib.ctz; rw [if_neg h0]
    rw [hz];cases l with
    | nil => exact absurd rfl hne
    | cons a r =>
      have ha := hn a List.mem_cons_self;obtain ⟨n, rfl⟩ : ∃ n : Nat, a = (n : Int) := ⟨a.toNat, by omega⟩;obtain ⟨q, hq⟩ := W0 r (n + 1) fun x hx => by have := (List.pairwise_cons.1 hs).1 x hx; omega
      have hx : sumU ((n : Int) :: r) = 2 ^ n * (2 * q + 1) := by
        rw [um, Int.toNat_natCast, hq, Nat.pow_succ, Nat.mul_add, Nat.mul_assoc]; omega
      have := Un n _ q m (hx.symm.trans hm)
      show ((Lib.ctzFrom 64 (sumU ((n : Int) :: r)) : Nat) : Int) = (n : Int);rw [← this]
  obtain ⟨b1, b2, b3⟩ := Lib.bitLenAux_bounds 64 (sumU l) (Nat.lt_trans hlt (by decide)) h0;have hlast := hn _ e2;obtain ⟨n, hnn⟩ : ∃ n : Nat, u7 l = (n : Int) := ⟨(u7 l).toNat, by omega⟩;have h1 := W1 l _ e2;have h2 := jg l 0 n hs (fun x hx => by have := e3 x hx; have := hn x hx; omega) (by omega);rw [hnn, Int.toNat_natCast] at h1;rw [hnn]
  show ((Lib.bitLenAux 64 (sumU l) : Nat) : Int) - 1 = (n : Int);generalize Lib.bitLenAux 64 (sumU l) = L at b1 b2 b3;have h3 : n < L := (Nat.pow_lt_pow_iff_right (show 1 < 2 by decide)).1 (Nat.lt_of_le_of_lt h1 b3);have h4 : L - 1 < n + 1 := (Nat.pow_lt_pow_iff_right (show 1 < 2 by decide)).1 (Nat.lt_of_le_of_lt b2 (by have h0 : (2 : Nat) ^ 0 = 1 := rfl; omega));omega
theorem UK {T : Tide} (hT : zG T) {h : Hts} {p : Nat} (hp : p < T.sand.length) (hne : setL T h p ≠ []) : setU T h p < 2 ^ 61 ∧ setU T h p ≠ 0 ∧ (Lib.ctz 64 (setU T h p) : Int) = uZ (setL T h p) ∧ (Lib.bitLen (setU T h p) : Int) - 1 = u7 (setL T h p) :=
  zbc (List.Pairwise.filter _ (jW _ _)) (fun x hx => kT hT hp hx) hne
theorem Q6 (T : Tide) (a1 a2 a3 : Option Addr) (n1 n2 n3 c1 c2 c3 : Nat) (D : Imm) (w : World) (hR : yo D T a1 n1 a2 n2 a3 n3) (qb mb : Nat) (hq : D qb = some (shoO (.slice a1 n1 c1) (.slice a2 n2 c2) (.slice a3 n3 c3) mb)) (hH : Holds D w) (hT : zG T) (hdn : ux D) (hM : Hp) (hMM : MapK T mb hM) (hI0 : Inv D hM [mb] w w) : yl Tryz.prog 85 [pt qb] w D [mb] (fun v D' hp' => tdL T ≠ [] ∧ ∃ a c, v = .slice a (tdL T).length c ∧ SlL D' 8 ((tdL T).map (tdC T)) a (tdL T).length ∧ MapK T mb hp') (fun ch D' hp' => ch = WX 10 ∧ tdL T = [] ∧ MapK T mb hp') := by
  unfold yl;obtain rfl := hR.mark.len';obtain rfl := hR.sand.len';obtain rfl := hR.look.len';obtain ⟨hl1, hl2, hl3⟩ := hR.len;obtain ⟨es, clock, F, rfl, hMR, hFK⟩ := hMM;refine en Tryz.func85 rfl Tryz.ntmps85 hI0 (g [[1],[5,0],[3,2,0]] ?_);refine WL.cl rfl (fun w hI => VI T a1 a2 a3 _ _ _ c1 c2 c3 D _ hR qb mb hq hI.imm hT) (WL.so (SO.makes (Enters.func Tryz.call171 rfl) (fun w hI => Y7 qb _ D _ hI.imm)) rfl ?_);rintro _ D1 _ ⟨hX1, ⟨bs, bm, rfl, h1, hm⟩, rfl⟩;replace hR := hR.ext hX1;replace hq := hX1.old _ _ hq;replace hdn := hdn.ext hX1;refine WL.so (SO.altersNS (own := []) (hpc := [(mb, .map es clock)]) (fun _ h => h) (fun h => h) (Enters.func CaF.h rfl) (fun w2 hsz0 hI => za8 T hT mb 235 [pt bs, pt bm] D1 w2 (fun w1 hs hH1 => uu T a1 a2 a3 _ _ _ c1 c2 c3 qb mb bs bm D1 w1 hT hR hq hdn h1 hm) CaF.h [(mb, .map es clock)] ⟨es, clock, F, rfl, hMR, hFK⟩ hI)) rfl ?_;rintro _ D2 _ ⟨hp2, hX2, ⟨a, c, rfl, hS2, hMM2⟩, rfl⟩;refine g [[4],[4,3,2]] ?_;refine WL.part 11 rfl (fun g11 => ?_) (fun g11 => ?_)
  · try simp only [zq] at g11
    refine WL.cl rfl (fun w hI => wE _ _) (g [[3],[6,3,2]] ?_);refine WP.ret1 rfl rfl rfl (RV.tmp rfl) (fun w1 hI => ⟨D2, _, hX1.trans hX2 (Nat.le_refl _), hI, .inl ⟨_, rfl, List.ne_nil_of_length_pos (by omega), a, c, rfl, hS2, hMM2⟩⟩)
  try simp only [zq] at g11
  refine WL.nf rfl (fun w hI => yT _ _) (g [[1]] ?_);exact WP.panicBody rfl (fun w1 hI => ⟨D2, _, hX1.trans hX2 (Nat.le_refl _), hI, .inr ⟨_, rfl, rfl, List.length_eq_zero_iff.1 (by omega), hMM2⟩⟩)
theorem ze4 : zj Tryz.prog 302 [.int .i64 0, .int .i64 0, .bool false, .nilFunc] [(0, 2), (2, 1), (3, 1)] := ⟨⟨_, Tryz.zeroValue302, rfl⟩, _, Tryz.underlying302, fun w => by simp [Tryz.sizeOf4, Tryz.sizeOf39, Tryz.sizeOf240]⟩
abbrev zbV := SaF.mk ze4
attribute [instance] zbV
def CloD (T : Tide) (mb : Nat) (D : Imm) (L : List Hts) (fi : FuncId) (cp : List Value) (gg : Hts → Int × Int) : Prop :=
  (∀ args w, (callFunc fi args).run Tryz.prog w = .ok (.enter fi args) w) ∧ ∀ h, h ∈ L → ∀ w hM, MapK T mb hM → Inv D hM [mb] w w → zp Tryz.prog fi (tdV T h :: cp) w D [mb] (fun v D' hp' => v = .tuple #[it (gg h).1, it (gg h).2] ∧ D' = D ∧ MapK T mb hp')
def hulO (of : Value) (s : Ms) : Obj := .cells (List.toArray [it s.2.1, it s.2.2, .bool s.1, of]) 302 (0, 0)
theorem gt_mem' {α : Type} [Inhabited α] {l : List α} {k : Nat} (h : k < l.length) : gt l k ∈ l := by
  have : gt l k = l[k] := by simp [gt, List.getD, h]
  rw [this]; exact List.getElem_mem h
section
variable (T : Tide) (mb : Nat) (L : List Hts) (fi : FuncId) (cp : List Value) (gg : Hts → Int × Int) (D : Imm) (hC : CloD T mb D L fi cp gg)
include T mb L fi cp gg D hC
theorem zcW (h : Hts) (hh : h ∈ L) (s : Ms) (hb : Nat) (hM : Hp) (hMM : MapK T mb hM) (w : World) (hI0 : Inv D ((hb, hulO (.func (.func fi) #[] cp.toArray) s) :: hM) [hb, mb] w w) : zp Tryz.prog 229 [pt hb, tdV T h] w D [hb, mb] (fun v D' hp' => v = .tuple #[] ∧ D' = D ∧ ∃ hM', MapK T mb hM' ∧ hp' = (hb, hulO (.func (.func fi) #[] cp.toArray) (seeD s (gg h))) :: hM') := by
  unfold zp;obtain ⟨es, clock, F, rfl, hMR, hFK⟩ := hMM;refine en Tryz.func229 rfl Tryz.ntmps229 hI0 (g [[1],[1,0,1]] ?_);refine WL.so (SO.box rfl rfl) rfl (zw fun b3 hb3 => ?_);refine g [[3],[0,3,0]] ?_;refine WC.drawO [_, _] (pz [1,3,5,7,9,10,13,15,17,19,21]) zk zk zX (fun _ hI => Inv.left (l1 := [_, _]) (l2 := [_]) hI) (g [[5]] ?_);refine WA.know 11 (tdV T h) rfl rfl (WA.so rfl (SO.altersN (own := [_, _]) (hpc := [(mb, .map es clock)]) (S1 := [mb]) (fun _ h => h) (fun h => h) (fun _ h => h) (fun _ h => h) (Enters.val hC.1 rfl rfl) (fun w1 hI => hC.2 h hh w1 _ ⟨es, clock, F, rfl, hMR, hFK⟩ hI)) rfl ?_);rintro _ _ _ ⟨hp3, _, ⟨rfl, rfl, hMM2⟩, rfl⟩;refine ⟨fun _ hI => Inv.left (l1 := [_, _]) hI, ?_⟩;refine g [[9],[8,5,4,0]] ?_;refine WC.cond rfl (fun c19 => ?_) (fun c19 => ?_)
  · try simp only [zq] at c19
    refine g [[14,5,4,0],[0,5,4,0],[3016],[7]] ?_;refine WQ.q rfl (Yd.qt (Yd.min2 rfl rfl)) rfl (g [[6]] ?_);refine WQ.q rfl (Yd.qt (Yd.max2 rfl rfl)) rfl (g [[6]] ?_);refine WP.ret0 rfl rfl rfl  (fun w1 hI => ⟨_, _, _, rfl, DExt.refl _ _, hI.drop 1, rfl, rfl, hp3, hMM2, by first | rfl | (simp_all [hulO, seeD, splice]; exact ⟨rfl, rfl⟩)⟩)
  try simp only [zq] at c19
  refine g [[2],[0,5,4,0],[3016],[7]] ?_;refine WQ.q rfl (Yd.qt (Yd.min2 rfl rfl)) rfl (g [[6]] ?_);refine WQ.q rfl (Yd.qt (Yd.max2 rfl rfl)) rfl (g [[6]] ?_);refine WP.ret0 rfl rfl rfl  (fun w1 hI => ⟨_, _, _, rfl, DExt.refl _ _, hI.drop 1, rfl, rfl, hp3, hMM2, by first | rfl | (simp_all [hulO, seeD, splice]; exact ⟨rfl, rfl⟩)⟩)
theorem zbe (a : Option Addr) (n c : Nat) (hS : SlL D 8 (L.map (tdC T)) a n) (hn : n ≤ 1000) (hM : Hp) (hMM : MapK T mb hM) (w : World) (hI0 : Inv D hM [mb] w w) : zp Tryz.prog 166 [.slice a n c, (.func (.func fi) #[] cp.toArray)] w D [mb] (fun v D' hp' => v = .agg #[it (YW gg L).lo, it (YW gg L).hi] ∧ D' = D ∧ MapK T mb hp') := by
  unfold zp;obtain rfl := hS.len';obtain ⟨es, clock, F, rfl, hMR, hFK⟩ := hMM;refine en Tryz.func166 rfl Tryz.ntmps166 hI0 (g [[1],[1,0,1]] ?_);refine WL.so (SO.alloc ZvF.h rfl) rfl (zw fun b4 hb4 => ?_);refine g [[3],[3,4,0,1]] ?_;refine WL.so (SO.alloc ZvF.h rfl) rfl (zw fun b5 hb5 => ?_);refine g [[5],[7,5,4,0]] ?_;refine WC.loop (fun y : Nat × Hp => [(4, pt b4), (5, pt b5), (10, .slice a L.length c), (11, nt L.length), (12, nt y.1)]) (fun y => (b5, hulO (.func (.func fi) #[] cp.toArray) (Yw gg (L.take y.1))) :: (b4, .cells (List.toArray [it 0, it 0]) 39 (0, 0)) :: y.2) (fun _ => D) (fun y => y.1 ≤ L.length ∧ MapK T mb y.2) (fun y => L.length - y.1) (0, [(mb, .map es clock)]) ⟨by omega, es, clock, F, rfl, hMR, hFK⟩ (fun a w h => y4 h ⟨rfl, rfl, rfl, rfl, rfl, trivial⟩) ?_;rintro ⟨k, hM2⟩ ⟨hk, hMM2⟩;dsimp only at hk hMM2;clear hMR hFK;obtain ⟨es, clock, F, rfl, hMR, hFK⟩ := hMM2;refine g [[1],[5,4,5,10,11,12]] ?_;refine WC.cond rfl (fun c13 => ?_) (fun c13 => ?_)
  · try simp only [zq] at c13
    have hkn : k < L.length := by omega
    refine g [[5],[1,4,5,10,11,12]] ?_;refine WL.yd (Yd.ix rfl rfl (hS.addr k (by omega))) rfl (WL.yd (Yd.lV [_, _, _, _, _, _, _, _] rfl ((hS.at k (by omega)).rdn 0 8 rfl)) rfl ?_);refine WL.know 15 (tdV T (gt L k)) rfl rfl ?_;refine WL.so (SO.alloc ZvF.h rfl) rfl (zw fun b7 hb7 => ?_);refine WL.so (SO.store 0 rfl SzF.h rfl rfl rfl rfl (zqb rfl) (X2 T _)) rfl (zt (g [[2],[2,7,4,5,10,11,12]] ?_));refine WL.know 16 (tdV T (gt L k)) rfl rfl (WL.so (SO.altersN (own := [_, _]) (hpc := [_, (mb, .map es clock)]) (S1 := [b5, mb]) (zcM ((List.Perm.swap _ _ _).cons _)).1 (zcM ((List.Perm.swap _ _ _).cons _)).2 (fun _ h => h) (fun _ h => h) (Enters.func CaF.h rfl) (fun w1 hI => zcW T mb L fi cp gg D hC (gt L k) (gt_mem' hkn) (Yw gg (L.take k)) b5 [(mb, .map es clock)] ⟨es, clock, F, rfl, hMR, hFK⟩ w1 hI)) rfl ?_);rintro _ _ _ ⟨_, _, ⟨rfl, rfl, hM3, hMM3, rfl⟩, rfl⟩;refine g [[3],[4,4,5,10,11,12]] ?_;exact WP.again (⟨k + 1, hM3⟩ : Nat × Hp) ⟨by simp only; omega, hMM3⟩ (by simp only; omega) (fun a w h => zL 1 h ⟨rfl, rfl, rfl, rfl, rfl, trivial⟩ (by dsimp only; rw [Ww gg hkn]; exact List.Perm.swap _ _ _))
  try simp only [zq] at c13
  obtain rfl : k = L.length := by omega
  rw [List.take_length];refine g [[6],[7,4,5]] ?_;refine WP.ret1 rfl rfl rfl (RV.cellN AgF.h SzF.h rfl (vs := [_, _]) rfl (RdN.own (k := 1) (n := 2) rfl rfl)) (fun w1 hI => ⟨_, D, _, rfl, DExt.refl _ _, hI.drop 2, rfl, rfl, es, clock, F, rfl, hMR, hFK⟩)
end
end Go.Proofs.YtejgofaeafphjaaGreatDoor
