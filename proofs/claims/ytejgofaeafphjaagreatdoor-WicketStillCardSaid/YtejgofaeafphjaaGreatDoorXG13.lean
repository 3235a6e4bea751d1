import Derived.Test.YtejgofaeafphjaaGreatDoorXG12
import Derived.Test.YtejgofaeafphjaaGreatDoorXG10
import Derived.Test.YtejgofaeafphjaaGreatDoorXG7
set_option linter.all false
set_option maxRecDepth 100000
set_option maxHeartbeats 4000000
attribute [local irreducible] Go.W.WL Go.W.WLF Go.W.WC Go.W.WCF Go.W.WP Go.W.WA Go.W.WQ Go.W.WH Go.W.WHo Go.W.WCn Go.W.Yd Go.W.Qt Go.W.SO Go.Code.wp Go.Code.wpIn
namespace Go.Ti
open Go.W (gt wX)
def zM (l : List Ent) (t k : Int) : Bool := l.any fun e => decide (e.ticket = t ∧ e.kind = k)
def xj (X : Till) (l : List Ent) (i : Nat) : Int := if zM (l.take i) (gt l i).ticket (gt l i).kind then 1 else if Zm X (gt l i).ticket (gt l i).pence (gt l i).kind.toNat = false then 2 else 0
def yH (X : Till) (l : List Ent) (n : Nat) : List Nat := (List.range n).filter fun i => decide (xj X l i ≠ 0)
theorem Zl (X : Till) (l : List Ent) (i : Nat) : yH X l (i + 1) = yH X l i ++ if xj X l i ≠ 0 then [i] else [] := by
  unfold yH;rw [List.range_succ, List.filter_append];congr 1;by_cases h : xj X l i = 0 <;> simp [h]
theorem jF (X : Till) (l : List Ent) {i n : Nat} (hi : i < n) (h : xj X l i ≠ 0) : ∃ post, yH X l n = yH X l i ++ i :: post := by
  induction n with
  | zero => omega
  | succ n ih =>
    rw [Zl];rcases Nat.lt_or_ge i n with h1 | h1
    · obtain ⟨post, e⟩ := ih h1;exact ⟨post ++ if xj X l n ≠ 0 then [n] else [], by rw [e]; simp⟩
    · have : i = n := by omega
      subst this;exact ⟨[], by rw [if_pos h]⟩
theorem Vt (X : Till) (l : List Ent) {i n : Nat} (hi : i < n) (h : xj X l i ≠ 0) : (yH X l i).length < (yH X l n).length ∧ gt (yH X l n) (yH X l i).length = i := by
  obtain ⟨post, e⟩ := jF X l hi h;rw [e];refine ⟨by simp, ?_⟩;simp [gt, List.getD]
theorem ke (X : Till) (l : List Ent) (i : Nat) : (yH X l (i + 1)).length = (yH X l i).length + if xj X l i ≠ 0 then 1 else 0 := by
  rw [Zl, List.length_append];split <;> rfl
theorem vM {l : List Ent} {i : Nat} (hi : i < l.length) (t k : Int) : zM (l.take (i + 1)) t k = (zM (l.take i) t k || decide ((gt l i).ticket = t ∧ (gt l i).kind = k)) := by
  have hg : gt l i = l[i] := by simp [gt, List.getD, hi]
  unfold zM;rw [List.take_succ_eq_append_getElem hi, List.any_append, hg];simp
def zh (X : Till) (l : List Ent) : Int × Int × Int := if uQ X l ≠ 0 then (0, 0, uQ X l) else match yH X l l.length with
  | [] => (0, 0, 4)
  | i :: _ => ((i : Int), xj X l i, 0)
def ja (e : Ent) : Int := if e.kind = 3 then e.pence * -1 else e.pence
def yh (X : Till) (l : List Ent) : Int × Int := if uQ X l ≠ 0 then (0, uQ X l) else if yH X l l.length ≠ [] then (0, 11) else (((List.range l.length).map fun i => ja (gt l i)).sum, 0)
def xN (f : Nat → Bool) : Nat → Nat
  | 0 => 0
  | n + 1 => xN f n + if f n then 2 ^ n else 0
theorem qB (f : Nat → Bool) : ∀ n, xN f n < 2 ^ n := by
  intro n
  induction n with
  | zero => simp [xN]
  | succ n ih => unfold xN; split <;> omega
theorem uB {f g : Nat → Bool} : ∀ {n}, (∀ i, i < n → f i = g i) → xN f n = xN g n := by
  intro n
  induction n with
  | zero => intro _; rfl
  | succ n ih => intro h; unfold xN; rw [ih fun i hi => h i (by omega), h n (by omega)]
def zlc (X : Till) (l : List Ent) (k n : Nat) : Bool := !zM l (n : Int) (k : Int) && (decide (k = 1) || decide ((zd2 X (n : Int) k).lo > 0))
theorem Vu {X : Till} (h : yx X = true) {n m : Int} {k : Nat} (hc : Zm X n m k = true) : 0 ≤ m ∧ m ≤ 2400 := by
  have hb := uo h;unfold Zm at hc;split at hc
  · simp only [wF, Bool.and_eq_true, decide_eq_true_eq] at hc; omega
  · simp only [qI, Bool.and_eq_true, decide_eq_true_eq] at hc; omega
  · obtain ⟨k, hk, he⟩ := List.any_eq_true.1 hc;have h1 := vT.1 hk;have h2 := Yb X.tk n;have h3 := Ug hb.2.2.2 (k := k) (by omega);rw [Int.mul_comm] at h3;have := of_decide_eq_true he;omega
theorem ZX {X : Till} {l : List Ent} {i : Nat} (h : xj X l i = 0) : Zm X (gt l i).ticket (gt l i).pence (gt l i).kind.toNat = true := by
  unfold xj at h;split at h
  · omega
  · split at h
    · omega
    · rename_i h2; simpa using h2
theorem Xa {X : Till} {l : List Ent} {n : Nat} (h : yH X l n = []) : ∀ i, i < n → xj X l i = 0 := fun i hi => by
  by_cases h1 : xj X l i = 0
  · exact h1
  · obtain ⟨post, e⟩ := jF X l hi h1;rw [h] at e;simp at e
end Go.Ti
namespace Go.Proofs.YtejgofaeafphjaaGreatDoor
open Go.W Go.Ti
theorem ze3 : zj Tryz.prog 269 [.int .i64 0, .int .i64 0] [(0, 1), (1, 1)] := ⟨⟨_, Tryz.zeroValue269, rfl⟩, _, Tryz.underlying269, fun w => by simp [Tryz.sizeOf3]⟩
abbrev zbU := SaF.mk ze3
attribute [instance] zbU
abbrev Ky := Fin 5 × Fin 4
def keyV (y : Ky) : Value := .agg #[it (y.1.val : Int), it (y.2.val : Int)]
theorem qm (x y : Ky) (h : keyV x = keyV y) : x = y := by
  obtain ⟨⟨a, ha⟩, ⟨b, hb⟩⟩ := x;obtain ⟨⟨c, hc⟩, ⟨e, he⟩⟩ := y;simp only [keyV, Value.agg.injEq, it] at h;simp at h;obtain ⟨h1, h2⟩ := h;have e1 : a = c := by omega
  have e2 : b = e := by omega
  subst e1; subst e2; rfl
theorem keyT : Tryz.prog.keyType 269 = true := by kernel_rfl
theorem laidOut : laidOutB Tryz.prog = true := by kernel_rfl
theorem Xx : Go.Maps.Keyed Tryz.prog 269 := Go.Maps.Keyed.of_law (deep_law_gate laidOut (Nat.le_of_ble_eq_true zk) (Nat.le_of_ble_eq_true zk) keyT zk)
noncomputable def keyAllB : Bool := (List.range 5).all fun a => (List.range 4).all fun b => (keyOf Tryz.prog 269 (.agg #[.int .i64 (a : Int), .int .i64 (b : Int)])).isSome
theorem zcx : keyAllB = true := by kernel_rfl
theorem XA (y : Ky) : ∃ l, keyOf Tryz.prog 269 (keyV y) = some l := by
  have h := List.all_eq_true.1 (List.all_eq_true.1 zcx y.1.val (List.mem_range.2 y.1.isLt)) y.2.val (List.mem_range.2 y.2.isLt);exact Option.isSome_iff_exists.1 h
def bkF (l : List Ent) (y : Ky) : Bool := zM l (y.1.val : Int) (y.2.val : Int)
theorem Ym {l : List Ent} {i : Nat} (hi : i < l.length) {y : Ky} (h1 : (gt l i).ticket = (y.1.val : Int)) (h2 : (gt l i).kind = (y.2.val : Int)) : (fun z => bkF (l.take i) z || decide (z = y)) = bkF (l.take (i + 1)) := by
  funext z;unfold bkF;rw [vM hi, h1, h2];congr 1;apply Bool.eq_iff_iff.2;simp only [decide_eq_true_eq];constructor
  · rintro rfl; exact ⟨rfl, rfl⟩
  rintro ⟨e1, e2⟩;exact Prod.ext (Fin.ext (by omega)) (Fin.ext (by omega))
def canF : Nat → FuncId
  | 1 => 343
  | 2 => 345
  | _ => 347
section
variable {x : Cx} {fr : Fr} {D : Imm} {hp : Hp} {ty : TypeId}
theorem Wt {k : Nat} (hk : 1 ≤ k ∧ k ≤ 3) {o : Operand} {A : List Operand} {ts : Array TypeId} {vals : List Value} (ho : opv fr o = some (U4 k)) (ha : opvs fr A = some vals) : Enters Tryz.prog x fr D hp ⟨.invoke o "dipworks/till.can", A.toArray, ts⟩ ty (canF k) (.agg #[] :: vals) := by
  rcases (show k = 1 ∨ k = 2 ∨ k = 3 by omega) with rfl | rfl | rfl
  · exact Enters.meth Tryz.call343 (fun w => by kernel_rfl) ho ha
  · exact Enters.meth Tryz.call345 (fun w => by kernel_rfl) ho ha
  exact Enters.meth Tryz.call347 (fun w => by kernel_rfl) ho ha
end
theorem zcg (X : Till) (a1 : Option Addr) (n1 c1 : Nat) (D : Imm) (w : World) (hR : TksR D X.tk a1 n1) (hH : Holds D w) (hbt : yx X = true) {k : Nat} (hk : 1 ≤ k ∧ k ≤ 3) (n m : Int) : z8 Tryz.prog (canF k) [.agg #[], .agg #[it X.tk.huts, .slice a1 n1 c1, it X.price, it X.fine, it X.wait], it n, it m] w (.bool (Zm X n m k)) := by
  rcases (show k = 1 ∨ k = 2 ∨ k = 3 by omega) with rfl | rfl | rfl
  · exact jT X a1 n1 c1 n m w hR.tick.len' hR.len
  · exact VJ X a1 n1 c1 D w hR hH n m
  exact Vq X a1 n1 c1 D w hR hH hbt n m
theorem Jf {k : Nat} (hk : k < 4) : Ku[k]? = some (U4 k) := by
  rcases (show k = 0 ∨ k = 1 ∨ k = 2 ∨ k = 3 by omega) with rfl | rfl | rfl | rfl <;> rfl
theorem zcl {X : Till} (h5 : X.tk.l.length ≤ 5) {e : Ent} (h : entB X e = true) : ∃ y : Ky, e.ticket = (y.1.val : Int) ∧ e.kind = (y.2.val : Int) ∧ (1 ≤ y.2.val ∧ y.2.val ≤ 3) ∧ y.1.val < X.tk.l.length := by
  obtain ⟨a, k, h1, h2, h3, h4, h6⟩ := J0 h;exact ⟨(⟨a, by omega⟩, ⟨k, by omega⟩), h1, h3, ⟨h4, h6⟩, h2⟩
theorem zcT {X : Till} {l : List Ent} {i : Nat} {y : Ky} (h1 : (gt l i).ticket = (y.1.val : Int)) (h2 : (gt l i).kind = (y.2.val : Int)) (h : bkF (l.take i) y = true) : xj X l i = 1 := by
  unfold xj; rw [if_pos (by rw [h1, h2]; exact h)]
theorem zcU {X : Till} {l : List Ent} {i : Nat} {y : Ky} (h1 : (gt l i).ticket = (y.1.val : Int)) (h2 : (gt l i).kind = (y.2.val : Int)) (h : bkF (l.take i) y = false) (hc : Zm X (gt l i).ticket (gt l i).pence y.2.val = false) : xj X l i = 2 := by
  unfold xj; rw [if_neg (by rw [h1, h2]; unfold bkF at h; rw [h]; simp), if_pos (by rw [show (gt l i).kind.toNat = y.2.val by rw [h2, Int.toNat_natCast]]; exact hc)]
theorem zcS {X : Till} {l : List Ent} {i : Nat} {y : Ky} (h1 : (gt l i).ticket = (y.1.val : Int)) (h2 : (gt l i).kind = (y.2.val : Int)) (h : bkF (l.take i) y = false) (hc : Zm X (gt l i).ticket (gt l i).pence y.2.val = true) : xj X l i = 0 := by
  unfold xj; rw [if_neg (by rw [h1, h2]; unfold bkF at h; rw [h]; simp), if_neg (by rw [show (gt l i).kind.toNat = y.2.val by rw [h2, Int.toNat_natCast], hc]; simp)]
theorem uS (X : Till) (a1 : Option Addr) (n1 c1 : Nat) (D : Imm) (l : List Ent) (ab : Option Addr) (nb cb : Nat) (hB : xL D l ab nb) (b2 b3 : Nat) (w : World) (hR : TksR D X.tk a1 n1) (h2 : D b2 = some (.cells (List.toArray (Q2 X (.slice a1 n1 c1))) 156 (0, 0))) (h3 : D b3 = some (.cells (List.toArray [.slice ab nb cb]) 32 (0, 0))) (hE : yq X l true = 0) (hH : Holds D w) : Va Tryz.prog 185 [pt b3, pt b2] (yH X l l.length).length (fun k => nt (gt (yH X l l.length) k)) (fun k => it (xj X l (gt (yH X l l.length) k))) D w := by
  unfold Va;intro ly St Sp hSm hround h0 hS0 hI0;unfold zp;obtain rfl := hR.tick.len';have hl1 := hR.len;obtain rfl := hB.ent.len';have hlb := hB.len;obtain ⟨hbt, h20, _, hent⟩ := vo hE;have h5 := (y8 (uo hbt).1).2.1;refine en Tryz.func185 rfl Tryz.ntmps185 hI0 (WC.scope (g [[1],[1,0,1,2]] ?_));refine WL.so (SO.callP CaF.h rfl (fun w hI => zav _)) rfl ?_;rintro _ _ h0 ⟨rfl, rfl, rfl⟩;refine WL.so (SO.alloc ZvF.h rfl) rfl (zw fun b4 hb4 => ?_);refine g [[4],[1,4,0,1,2]] ?_;refine WL.so SO.makeMap rfl ?_;rintro _ _ _ ⟨b11, hb11, rfl, rfl, rfl⟩;refine g [[4]] ?_;refine WC.label (g [[2],[7,5,4,0,1,2]] ?_);refine WC.loop (fun z : Nat × Imm × Hp × Array MapEntry × Nat => [(0, .func (.yield ly) #[] #[]), (2, pt b2), (4, pt b4), (5, .map (some b11)), (12, .slice ab l.length cb), (13, nt l.length), (14, nt z.1)]) (fun z => ((b11, .map z.2.2.2.1 z.2.2.2.2) :: (b4, .cells (List.toArray Ku) 265 (0, 0)) :: z.2.2.1)) (fun z => z.2.1) (fun z => z.1 ≤ l.length ∧ DExt w D z.2.1 ∧ St ((yH X l z.1).length) z.2.1 z.2.2.1 ∧ MapB keyV z.2.2.2.1 z.2.2.2.2 (bkF (l.take z.1))) (fun z => l.length - z.1) ⟨0, D, h0, #[], 0⟩ ⟨by omega, DExt.refl _ _, hS0, MapB.empty _⟩ (fun a w h => y4 h ⟨rfl, rfl, rfl, rfl, rfl, rfl, rfl, trivial⟩) ?_;rintro ⟨i, D1, h1, es, cl⟩ ⟨hi, hX1, hS1, hM⟩;dsimp only at hi hX1 hS1 hM;replace hR := hR.ext (hX1);replace hB := hB.ext (hX1);replace h2 := (hX1).old _ _ h2;replace h3 := (hX1).old _ _ h3;refine g [[1],[5,0,2,4,5,12,13,14]] ?_;refine WC.cond rfl (fun c15 => ?_) (fun c15 => ?_)
  · try simp only [zq] at c15
    have hil : i < l.length := by omega
    obtain ⟨y, hk1, hk2, hk3, hk4⟩ := zcl h5 (hent i hil);refine g [[5],[2,0,2,4,5,12,13,14]] ?_;refine WL.yd (Yd.ix rfl rfl (hB.ent.addr i (by omega))) rfl (WL.yd (Yd.lV [_, _, _] rfl ((hB.ent.at i (by omega)).rdn 0 3 rfl)) rfl ?_);refine WL.so (SO.alloc ZvF.h rfl) rfl (zw fun b7 hb7 => ?_);refine g [[5],[6,6,7,0,2,4,5,12,13,14]] ?_;refine WL.so (SO.alloc ZvF.h rfl) rfl (zw fun b8 hb8 => ?_);refine g [[4],[7,8,6,7,0,2,4,5,12,13,14],[3,9,8,6,7,0,2,4,5,12,13,14]] ?_;refine WL.know 26 (keyV y) rfl (by rw [hk1, hk2]; rfl) ?_;refine WL.yd (Yd.lookB (kv := keyV) (F := bkF (l.take i)) (y := y) (j := 2) qm Xx XA UnF.h ZvF.h rfl rfl rfl hM) rfl (g [[3]] ?_);refine WC.cond rfl (fun c24 => ?_) (fun c24 => ?_)
    · have hru : xj X l i = 1 := zcT hk1 hk2 c24;refine g [[6,9,8,6,0,2,4,5,12,13,14],[3,9,8,6,0,2,4,5,12,13,14]] ?_;refine WL.know 41 (keyV y) rfl (by rw [hk1, hk2]; rfl) ?_;refine WL.so (SO.putB (kv := keyV) (y := y) (j := 2) qm Xx XA UnF.h rfl rfl rfl rfl hM) rfl ?_;rintro _ _ _ ⟨rfl, es1, cl1, rfl, hM1⟩;rw [Ym hil hk1 hk2] at hM1;refine g [[4],[9,9,6,0,2,4,5,12,13,14]] ?_;have hbat := Vt X l hil (by rw [hru]; decide);refine g [[0,9,6,0,2,4,5,12,13,14]] ?_;refine WC.ofF (g [[4]] ?_)
      refine WLF.yieldN (l := ly) (vals := [nt i, it (1 : Int)]) [_, _, _, _] h1 (fun _ h => h) (fun h => h) rfl rfl rfl (fun w' hsz hI => by
        have hgo := hround ((yH X l i).length) D1 h1 w' hbat.1 hsz hX1 hS1 hI;simp only [hbat.2, hru] at hgo;exact hgo) ?_
      rintro b47 D5 hp5 hK5 hX5;refine g [[3]] ?_;refine WC.cond rfl (fun c48 => ?_) (fun c48 => ?_)
      · try simp only [zq] at c48
        refine g [[5]] ?_;refine WP.scRet ?_
        refine WP.ret0 rfl rfl rfl  (fun w1 hI => by
          obtain ⟨htt, _⟩ | ⟨_, hK5⟩ := hK5
          · simp_all
          exact ⟨_, D5, hp5, rfl, hX1.trans hX5 (Nat.le_refl _), hI.drop 4, .inr hK5⟩)
      try simp only [zq] at c48
      refine g [[3],[4,0,2,4,5,12,13,14]] ?_;have hlen := ke X l i;rw [hru] at hlen;rw [if_pos (by decide)] at hlen;obtain ⟨_, hK5⟩ | ⟨hff, _⟩ := hK5
      · exact WP.again (⟨i + 1, D5, hp5, es1, cl1⟩ : Nat × Imm × Hp × Array MapEntry × Nat) ⟨by simp only; omega, hX1.trans hX5 (Nat.le_refl _), by simp only; rw [hlen]; exact hK5, hM1⟩ (by simp only; omega) (fun a w h => yi h ⟨rfl, rfl, rfl, rfl, rfl, rfl, rfl, trivial⟩ (fun _ h => List.mem_cons_of_mem _ (List.mem_cons_of_mem _ h)) (fun h => (List.nodup_cons.1 (List.nodup_cons.1 h).2).2))
      simp_all
    refine g [[1],[0,9,8,6,7,0,2,4,5,12,13,14],[3009],[1]] ?_;refine WQ.q rfl (Yd.qt (Yd.load1  AgF.h rfl (Rd.own (k := 1) rfl rfl))) rfl ?_;refine WQ.know 30 (nt y.2.val) rfl (by rw [hk2]) ?_;refine WQ.q rfl (Yd.qt (Yd.indexA UnF.h SzF.h rfl rfl (by omega) (by omega))) rfl (WQ.q rfl (Yd.qt (Yd.l1 rfl (Rd.own (k := 3) rfl (Jf (by omega))))) rfl ?_);refine WQ.know 32 (U4 y.2.val) rfl (by rw [Nat.zero_add, Nat.mul_one]; rfl) (g [[2]] ?_);refine WQ.q rfl (Yd.qt (Yd.load1  AgF.h rfl (Rd.own (k := 1) rfl rfl))) rfl (g [[1]] ?_);refine WQ.q rfl (Yd.qt (Yd.load1  AgF.h rfl (Rd.own (k := 1) rfl rfl))) rfl (g [[1]] ?_);refine WL.so (SO.call (Wt hk3 rfl rfl) (fun w hI => zcg X a1 _ c1 D1 _ hR hI.imm hbt hk3 (gt l i).ticket (gt l i).pence)) rfl (zs (g [[4]] ?_));refine WC.cond rfl (fun c28 => ?_) (fun c28 => ?_)
    · try simp only [zq] at c28
      have hru : xj X l i = 2 := zcU hk1 hk2 c24 c28;refine g [[6,9,8,6,0,2,4,5,12,13,14],[3,9,8,6,0,2,4,5,12,13,14]] ?_;refine WL.know 41 (keyV y) rfl (by rw [hk1, hk2]; rfl) ?_;refine WL.so (SO.putB (kv := keyV) (y := y) (j := 2) qm Xx XA UnF.h rfl rfl rfl rfl hM) rfl ?_;rintro _ _ _ ⟨rfl, es1, cl1, rfl, hM1⟩;rw [Ym hil hk1 hk2] at hM1;refine g [[4],[9,9,6,0,2,4,5,12,13,14]] ?_;have hbat := Vt X l hil (by rw [hru]; decide);refine g [[0,9,6,0,2,4,5,12,13,14]] ?_;refine WC.ofF (g [[4]] ?_)
      refine WLF.yieldN (l := ly) (vals := [nt i, it (2 : Int)]) [_, _, _, _] h1 (fun _ h => h) (fun h => h) rfl rfl rfl (fun w' hsz hI => by
        have hgo := hround ((yH X l i).length) D1 h1 w' hbat.1 hsz hX1 hS1 hI;simp only [hbat.2, hru] at hgo;exact hgo) ?_
      rintro b47 D5 hp5 hK5 hX5;refine g [[3]] ?_;refine WC.cond rfl (fun c48 => ?_) (fun c48 => ?_)
      · try simp only [zq] at c48
        refine g [[5]] ?_;refine WP.scRet ?_
        refine WP.ret0 rfl rfl rfl  (fun w1 hI => by
          obtain ⟨htt, _⟩ | ⟨_, hK5⟩ := hK5
          · simp_all
          exact ⟨_, D5, hp5, rfl, hX1.trans hX5 (Nat.le_refl _), hI.drop 4, .inr hK5⟩)
      try simp only [zq] at c48
      refine g [[3],[4,0,2,4,5,12,13,14]] ?_;have hlen := ke X l i;rw [hru] at hlen;rw [if_pos (by decide)] at hlen;obtain ⟨_, hK5⟩ | ⟨hff, _⟩ := hK5
      · exact WP.again (⟨i + 1, D5, hp5, es1, cl1⟩ : Nat × Imm × Hp × Array MapEntry × Nat) ⟨by simp only; omega, hX1.trans hX5 (Nat.le_refl _), by simp only; rw [hlen]; exact hK5, hM1⟩ (by simp only; omega) (fun a w h => yi h ⟨rfl, rfl, rfl, rfl, rfl, rfl, rfl, trivial⟩ (fun _ h => List.mem_cons_of_mem _ (List.mem_cons_of_mem _ h)) (fun h => (List.nodup_cons.1 (List.nodup_cons.1 h).2).2))
      simp_all
    try simp only [zq] at c28
    have hru : xj X l i = 0 := zcS hk1 hk2 c24 c28;refine g [[4],[3,9,8,6,0,2,4,5,12,13,14]] ?_;refine WL.know 41 (keyV y) rfl (by rw [hk1, hk2]; rfl) ?_;refine WL.so (SO.putB (kv := keyV) (y := y) (j := 2) qm Xx XA UnF.h rfl rfl rfl rfl hM) rfl ?_;rintro _ _ _ ⟨rfl, es1, cl1, rfl, hM1⟩;rw [Ym hil hk1 hk2] at hM1;refine g [[4],[10,9,6,0,2,4,5,12,13,14],[4,0,2,4,5,12,13,14]] ?_;have hlen := ke X l i;rw [hru] at hlen;rw [if_neg (by decide)] at hlen;exact WP.again (⟨i + 1, D1, h1, es1, cl1⟩ : Nat × Imm × Hp × Array MapEntry × Nat) ⟨by simp only; omega, hX1, by simp only; rw [hlen]; exact hS1, hM1⟩ (by simp only; omega) (fun a w h => yi h ⟨rfl, rfl, rfl, rfl, rfl, rfl, rfl, trivial⟩ (fun _ h => List.mem_cons_of_mem _ (List.mem_cons_of_mem _ h)) (fun h => (List.nodup_cons.1 (List.nodup_cons.1 h).2).2))
  try simp only [zq] at c15
  obtain rfl : i = l.length := by omega
  refine g [[4]] ?_;refine WP.scNormal ?_;refine WP.ret0 rfl rfl rfl  (fun w1 hI => ⟨_, D1, h1, rfl, hX1, hI.drop 2, .inl hS1⟩)
theorem Xb (X : Till) (a1 : Option Addr) (n1 c1 : Nat) (ab : Option Addr) (nb cb : Nat) (D : Imm) (w : World) (hH : Holds D w) : y6 Tryz.prog 100 [.agg #[it X.tk.huts, .slice a1 n1 c1, it X.price, it X.fine, it X.wait], .slice ab nb cb] w D (fun v D' => ∃ b2 b3, v = .func (.func 185) #[] #[pt b3, pt b2] ∧ D' b3 = some (.cells (List.toArray [.slice ab nb cb]) 32 (0, 0)) ∧ D' b2 = some (.cells (List.toArray (Q2 X (.slice a1 n1 c1))) 156 (0, 0))) := by
  unfold y6;refine en Tryz.func100 rfl Tryz.ntmps100 (Inv.start hH) (g [[1],[1,0,1]] ?_);refine WL.so (SO.box rfl rfl) rfl (zw fun b2 hb2 => ?_);refine WL.so (SO.box rfl rfl) rfl (zw fun b3 hb3 => ?_);refine g [[4]] ?_;refine WC.freezeN 1 b2 (.cells (List.toArray (Q2 X (.slice a1 n1 c1))) 156 (0, 0)) rfl rfl hb2 (fun D1 hX1 h2 => ?_);refine WC.freezeN 0 b3 (.cells (List.toArray [.slice ab nb cb]) 32 (0, 0)) rfl rfl hb3 (fun D2 hX2 h3 => ?_);replace h2 := hX2.old _ _ h2;refine g [[6,4,3,2]] ?_;refine WP.ret1 rfl rfl rfl (RV.tmp rfl) (fun w1 hI => ⟨_, D2, rfl, hI.keep, hI.imm, hX1.trans hX2 (Nat.le_refl _), b2, b3, rfl, h3, h2⟩)
theorem Qo (X : Till) (a1 : Option Addr) (n1 c1 : Nat) (D : Imm) (w : World) (hR : TksR D X.tk a1 n1) (hH : Holds D w) (l : List Ent) (ab : Option Addr) (nb cb : Nat) (hB : xL D l ab nb) (hE : yq X l true ≠ 0) : z8 Tryz.prog 26 [.agg #[it X.tk.huts, .slice a1 n1 c1, it X.price, it X.fine, it X.wait], .slice ab nb cb] w (.tuple #[it (zh X l).1, it (zh X l).2.1, it (zh X l).2.2]) := by
  unfold z8;obtain rfl := hR.tick.len';have hl1 := hR.len;obtain rfl := hB.ent.len';have hlb := hB.len;have hO0 : zh X l = (0, 0, yq X l true) := by unfold zh; rw [Q7 hE, if_pos hE]
  refine enD Tryz.func26 rfl Tryz.ntmps26 (Inv.start hH) (g [[1],[1,0,1]] ?_);refine WL.so (SO.box rfl rfl) rfl (zw fun b2 hb2 => ?_);refine WL.so (SO.alloc ZvF.h rfl) rfl (zw fun b4 hb4 => ?_);refine WL.so (SO.alloc ZvF.h rfl) rfl (zw fun b5 hb5 => ?_);refine WL.so (SO.alloc ZvF.h rfl) rfl (zw fun b6 hb6 => ?_);refine g [[3],[2,6,5,4,2,1]] ?_;refine WL.defer rfl (g [[4],[3,6,5,4,2,1]] ?_);refine WL.nf rfl (fun w hI => kI X a1 _ c1 _ _ hR hI.imm l ab _ cb hB 98 [] true CaF.h (fun w' _ => wa (.bool true) X a1 _ c1 w') hE) (g [[2]] ?_);refine WP.panicD (k := 0) [_, _, _] [_, _, _] rfl CaF.h rfl (fun w hI => Vv _ _ _ _ _ (hI.own _ _ (List.mem_of_getElem? (i := 0) rfl))) rfl zV (fun w hI => ⟨congrArg Ending.returned (by rw [hO0]; rfl), hI.keep⟩)
theorem Qp (X : Till) (a1 : Option Addr) (n1 c1 : Nat) (D : Imm) (w : World) (hR : TksR D X.tk a1 n1) (hH : Holds D w) (l : List Ent) (ab : Option Addr) (nb cb : Nat) (hB : xL D l ab nb) (hE : yq X l true = 0) (hW : tksE X.tk true ≠ 0) : z8 Tryz.prog 26 [.agg #[it X.tk.huts, .slice a1 n1 c1, it X.price, it X.fine, it X.wait], .slice ab nb cb] w (.tuple #[it (zh X l).1, it (zh X l).2.1, it (zh X l).2.2]) := by
  unfold z8;obtain rfl := hR.tick.len';have hl1 := hR.len;obtain rfl := hB.ent.len';have hlb := hB.len;have hO0 : zh X l = (0, 0, tksE X.tk true) := by unfold zh; rw [Z3 hE, if_pos hW]
  refine enD Tryz.func26 rfl Tryz.ntmps26 (Inv.start hH) (g [[1],[1,0,1]] ?_);refine WL.so (SO.box rfl rfl) rfl (zw fun b2 hb2 => ?_);refine WL.so (SO.alloc ZvF.h rfl) rfl (zw fun b4 hb4 => ?_);refine WL.so (SO.alloc ZvF.h rfl) rfl (zw fun b5 hb5 => ?_);refine WL.so (SO.alloc ZvF.h rfl) rfl (zw fun b6 hb6 => ?_);refine g [[3],[2,6,5,4,2,1]] ?_;refine WL.defer rfl (g [[4],[3,6,5,4,2,1]] ?_);refine WL.cl rfl (fun w hI => ue X a1 _ c1 _ _ hR hI.imm l ab _ cb hB 98 [] true CaF.h (fun w' _ => wa (.bool true) X a1 _ c1 w') hE) ?_;refine WL.nf rfl (fun w hI => Qa X a1 _ c1 _ _ hR hI.imm (by rw [uy]; exact hW)) (g [[2]] ?_);refine WP.panicD (k := 0) [_, _, _] [_, _, _] rfl CaF.h rfl (fun w hI => Vv _ _ _ _ _ (hI.own _ _ (List.mem_of_getElem? (i := 0) rfl))) rfl zV (fun w hI => ⟨congrArg Ending.returned (by rw [hO0, uy]; rfl), hI.keep⟩)
theorem Qq (X : Till) (a1 : Option Addr) (n1 c1 : Nat) (D : Imm) (w : World) (hR : TksR D X.tk a1 n1) (hH : Holds D w) (l : List Ent) (ab : Option Addr) (nb cb : Nat) (hB : xL D l ab nb) (hE : yq X l true = 0) (hW : tksE X.tk true = 0) : z8 Tryz.prog 26 [.agg #[it X.tk.huts, .slice a1 n1 c1, it X.price, it X.fine, it X.wait], .slice ab nb cb] w (.tuple #[it (zh X l).1, it (zh X l).2.1, it (zh X l).2.2]) := by
  unfold z8;obtain rfl := hR.tick.len';have hl1 := hR.len;obtain rfl := hB.ent.len';have hlb := hB.len;have hE0 : uQ X l = 0 := by rw [Z3 hE, hW]
  refine enM Tryz.func26 rfl Tryz.ntmps26 (Inv.start hH) (g [[1],[1,0,1]] ?_);refine WL.so (SO.box rfl rfl) rfl (zw fun b2 hb2 => ?_);refine WL.so (SO.alloc ZvF.h rfl) rfl (zw fun b4 hb4 => ?_);refine WL.so (SO.alloc ZvF.h rfl) rfl (zw fun b5 hb5 => ?_);refine WL.so (SO.alloc ZvF.h rfl) rfl (zw fun b6 hb6 => ?_);refine g [[3],[2,6,5,4,2,1]] ?_;refine WL.defer rfl (g [[4],[3,6,5,4,2,1]] ?_);refine WL.cl rfl (fun w hI => ue X a1 _ c1 _ _ hR hI.imm l ab _ cb hB 98 [] true CaF.h (fun w' _ => wa (.bool true) X a1 _ c1 w') hE) ?_;refine WL.cl rfl (fun w hI => Qb X a1 _ c1 _ _ hR hI.imm (by rw [uy]; exact hW)) (g [[1]] ?_);refine WL.so (SO.makes (Enters.func Tryz.call100 rfl) (fun w hI => Xb X a1 _ c1 ab _ cb _ _ hI.imm)) rfl ?_;rintro _ D4 _ ⟨hX4, ⟨bt, bb, rfl, hbb, hbt⟩, rfl⟩;replace hB := hB.ext hX4;replace hR := hR.ext hX4;refine g [[3],[0,4,5,6,15]] ?_;refine WC.rangeIterN2 (N := (yH X l l.length).length) (arg1 := fun k => nt (gt (yH X l l.length) k)) (arg2 := fun k => it (xj X l (gt (yH X l l.length) k))) (fun w1 _ hD1 => uS X a1 _ c1 D4 l ab _ cb hB bt bb w1 hR hbt hbb hE hD1) rfl Tryz.call185 rfl rfl (fun k _ h => k = 0 ∧ h = [(b6, .cells (List.toArray [it 0]) 51 (0, 0)), (b5, .cells (List.toArray [it 0]) 3 (0, 0)), (b4, .cells (List.toArray [it 0]) 3 (0, 0)), (b2, .cells (List.toArray [it X.tk.huts, .slice a1 X.tk.l.length c1, it X.price, it X.fine, it X.wait]) 26 (0, 0))]) (fun c _ h => c = .ret ∧ 0 < (yH X l l.length).length ∧ h = [(b6, .cells (List.toArray [it 0]) 51 (0, 0)), (b5, .cells (List.toArray [it (xj X l (gt (yH X l l.length) 0))]) 3 (0, 0)), (b4, .cells (List.toArray [nt (gt (yH X l l.length) 0)]) 3 (0, 0)), (b2, .cells (List.toArray [it X.tk.huts, .slice a1 X.tk.l.length c1, it X.price, it X.fine, it X.wait]) 26 (0, 0))]) (fun _ _ _ _ _ h => h) ⟨rfl, rfl⟩ ?_ ?_ ?_
  · rintro rec1 l1 Dn0 k D5 _ w1 hrec hk ⟨rfl, rfl⟩ hX5 hsz;unfold yP;refine g [[1],[4,17,16,4,5,6],[3,7,17,4,5,6]] ?_;refine WP.iterBegin 0 rfl hrec (g [[2],[10,8,7,4,5,6]] ?_);exact WP.iterRetN (h1 := [_, _, _, _]) (fun _ h => h) (fun h => h) (DExt.refl _ _) ⟨rfl, hk, rfl⟩
  · rintro Dn1 D6 _ hDn1 hX6 ⟨hN, rfl⟩;have hnil := List.eq_nil_of_length_eq_zero hN;refine g [[3],[7,4,5,6]] ?_;refine WP.retMsD [Dn1] [_, _, _, _] [_, _, _] [_, _, _] rfl rfl CaF.h (fun w hI => VX _ _) (fun _ h => h) (fun h => h) rfl zV (fun w hI => ⟨congrArg Ending.returned (by unfold zh; rw [hE0, if_neg (by simp), hnil]; rfl), hI.keep⟩)
  rintro Dn1 c D6 _ hDn1 hX6 ⟨rfl, hN, rfl⟩;refine g [[3]] ?_
  refine WP.retMsD [Dn1] [_, _, _, _] [_, _, _] [_, _, _] rfl rfl CaF.h (fun w hI => VX _ _) (fun _ h => h) (fun h => h) rfl zV (fun w hI => ⟨congrArg Ending.returned (by
    unfold zh;rw [hE0, if_neg (by simp)];cases hbl : (yH X l l.length) with
    | nil => rw [hbl] at hN; simp at hN
    | cons i r => rfl), hI.keep⟩)
theorem V5 (X : Till) (a1 : Option Addr) (n1 c1 : Nat) (D : Imm) (w : World) (hR : TksR D X.tk a1 n1) (hH : Holds D w) (l : List Ent) (ab : Option Addr) (nb cb : Nat) (hB : xL D l ab nb) : z8 Tryz.prog 26 [.agg #[it X.tk.huts, .slice a1 n1 c1, it X.price, it X.fine, it X.wait], .slice ab nb cb] w (.tuple #[it (zh X l).1, it (zh X l).2.1, it (zh X l).2.2]) := by
  by_cases hE : yq X l true = 0
  · by_cases hW : tksE X.tk true = 0
    · exact Qq X a1 n1 c1 D w hR hH l ab nb cb hB hE hW
    exact Qp X a1 n1 c1 D w hR hH l ab nb cb hB hE hW
  exact Qo X a1 n1 c1 D w hR hH l ab nb cb hB hE
theorem zd9 (X : Till) (D : Imm) (l : List Ent) (ab : Option Addr) (nb cb : Nat) (hB : xL D l ab nb) (b3 : Nat) (h3 : D b3 = some (.cells (List.toArray [.slice ab nb cb]) 32 (0, 0))) (i : Nat) (hi : i < l.length) (hp : 0 ≤ (gt l i).pence ∧ (gt l i).pence ≤ 2400) (w : World) (hH : Holds D w) : z8 Tryz.prog 104 [nt i, pt b3] w (it (ja (gt l i))) := by
  unfold z8;obtain rfl := hB.ent.len';have hlb := hB.len;refine en Tryz.func104 rfl Tryz.ntmps104 (Inv.start hH) (g [[1],[5,0,1],[3,3,0,1]] ?_);refine WL.yd (Yd.ix rfl rfl (hB.ent.addr i (by omega))) rfl (g [[1]] ?_);refine WL.yd (Yd.l1 rfl ((hB.ent.at i (by omega)).rd 2 rfl)) rfl (g [[5],[3,4,3,0,1]] ?_);refine WL.yd (Yd.ix rfl rfl (hB.ent.addr i (by omega))) rfl (g [[1]] ?_);refine WL.yd (Yd.l1 rfl ((hB.ent.at i (by omega)).rd 1 rfl)) rfl (g [[3]] ?_);refine WC.cond rfl (fun c15 => ?_) (fun c15 => ?_)
  · try simp only [zq] at c15
    refine g [[2,4,3]] ?_;refine WL.cl rfl (fun w hI => zbl (gt l i).pence (-1) _ (by omega)) (g [[4],[6,4,3]] ?_);refine WP.ret1 rfl rfl rfl (RV.tmp rfl) (fun w hI => ⟨by unfold ja; rw [if_pos c15], hI.keep⟩)
  try simp only [zq] at c15
  refine g [[3],[6,4,3]] ?_;refine WP.ret1 rfl rfl rfl (RV.tmp rfl) (fun w hI => ⟨by unfold ja; rw [if_neg c15], hI.keep⟩)
theorem zc3 (X : Till) (a1 : Option Addr) (n1 c1 : Nat) (D : Imm) (w : World) (hR : TksR D X.tk a1 n1) (hH : Holds D w) (l : List Ent) (ab : Option Addr) (nb cb : Nat) (hB : xL D l ab nb) (hE : yq X l true ≠ 0) : z8 Tryz.prog 27 [.agg #[it X.tk.huts, .slice a1 n1 c1, it X.price, it X.fine, it X.wait], .slice ab nb cb] w (.tuple #[it (yh X l).1, it (yh X l).2]) := by
  unfold z8;obtain rfl := hR.tick.len';have hl1 := hR.len;obtain rfl := hB.ent.len';have hlb := hB.len;have hO0 : yh X l = (0, yq X l true) := by unfold yh; rw [Q7 hE, if_pos hE]
  refine enD Tryz.func27 rfl Tryz.ntmps27 (Inv.start hH) (g [[1],[1,0,1]] ?_);refine WL.so (SO.box rfl rfl) rfl (zw fun b2 hb2 => ?_);refine WL.so (SO.box rfl rfl) rfl (zw fun b3 hb3 => ?_);refine WL.so (SO.alloc ZvF.h rfl) rfl (zw fun b4 hb4 => ?_);refine WL.so (SO.alloc ZvF.h rfl) rfl (zw fun b5 hb5 => ?_);refine g [[3],[2,5,4,3,2]] ?_;refine WL.defer rfl (g [[4]] ?_);refine WC.freezeN 3 b2 (.cells (List.toArray [it X.tk.huts, .slice a1 X.tk.l.length c1, it X.price, it X.fine, it X.wait]) 26 (0, 0)) rfl rfl hb2 (fun D2 hX2 h2 => ?_);replace hR := hR.ext hX2;replace hB := hB.ext hX2;refine WC.freezeN 2 b3 (.cells (List.toArray [.slice ab l.length cb]) 32 (0, 0)) rfl rfl hb3 (fun D3 hX3 h3 => ?_);replace h2 := hX3.old _ _ h2;replace hR := hR.ext hX3;replace hB := hB.ext hX3;refine g [[0,5,4,3,2]] ?_;refine WC.drawH [] zk (fun _ hI => hI.drop 99) (g [[1000],[1001],[1004]] ?_);refine WH.one (i := 2) zk (WHo.no rfl (SO.fail (Enters.func CaF.h rfl) (fun w hI => kI X a1 _ c1 _ _ hR hI.imm l ab _ cb hB 98 [] true CaF.h (fun w' _ => wa (.bool true) X a1 _ c1 w') hE) (g [[2]] ?_)));refine WP.panicD (k := 0) [_, _] [_, _] rfl CaF.h rfl (fun w hI => Xc _ _ _ _ _ (hI.own _ _ (List.mem_of_getElem? (i := 0) rfl))) rfl zV (fun w hI => ⟨congrArg Ending.returned (by rw [hO0]; rfl), hI.keep⟩)
theorem zc4 (X : Till) (a1 : Option Addr) (n1 c1 : Nat) (D : Imm) (w : World) (hR : TksR D X.tk a1 n1) (hH : Holds D w) (l : List Ent) (ab : Option Addr) (nb cb : Nat) (hB : xL D l ab nb) (hE : yq X l true = 0) (hW : tksE X.tk true ≠ 0) : z8 Tryz.prog 27 [.agg #[it X.tk.huts, .slice a1 n1 c1, it X.price, it X.fine, it X.wait], .slice ab nb cb] w (.tuple #[it (yh X l).1, it (yh X l).2]) := by
  unfold z8;obtain rfl := hR.tick.len';have hl1 := hR.len;obtain rfl := hB.ent.len';have hlb := hB.len;have hO0 : yh X l = (0, tksE X.tk true) := by unfold yh; rw [Z3 hE, if_pos hW]
  refine enD Tryz.func27 rfl Tryz.ntmps27 (Inv.start hH) (g [[1],[1,0,1]] ?_);refine WL.so (SO.box rfl rfl) rfl (zw fun b2 hb2 => ?_);refine WL.so (SO.box rfl rfl) rfl (zw fun b3 hb3 => ?_);refine WL.so (SO.alloc ZvF.h rfl) rfl (zw fun b4 hb4 => ?_);refine WL.so (SO.alloc ZvF.h rfl) rfl (zw fun b5 hb5 => ?_);refine g [[3],[2,5,4,3,2]] ?_;refine WL.defer rfl (g [[4]] ?_);refine WC.freezeN 3 b2 (.cells (List.toArray [it X.tk.huts, .slice a1 X.tk.l.length c1, it X.price, it X.fine, it X.wait]) 26 (0, 0)) rfl rfl hb2 (fun D2 hX2 h2 => ?_);replace hR := hR.ext hX2;replace hB := hB.ext hX2;refine WC.freezeN 2 b3 (.cells (List.toArray [.slice ab l.length cb]) 32 (0, 0)) rfl rfl hb3 (fun D3 hX3 h3 => ?_);replace h2 := hX3.old _ _ h2;replace hR := hR.ext hX3;replace hB := hB.ext hX3;refine g [[0,5,4,3,2]] ?_;refine WC.drawH [] zk (fun _ hI => hI.drop 99) (g [[1000],[1001],[1004]] ?_);refine WH.one (i := 2) zk (WHo.so rfl (SO.callP CaF.h rfl (fun w hI => ue X a1 _ c1 _ _ hR hI.imm l ab _ cb hB 98 [] true CaF.h (fun w' _ => wa (.bool true) X a1 _ c1 w') hE)) rfl ?_);rintro _ _ _ ⟨rfl, rfl, rfl⟩;refine ⟨(fun _ hI => hI.drop 99), ?_⟩;refine WH.one (i := 3) zk (WHo.no rfl (SO.fail (Enters.func CaF.h rfl) (fun w hI => Qa X a1 _ c1 _ _ hR hI.imm (by rw [uy]; exact hW)) (g [[2]] ?_)));refine WP.panicD (k := 0) [_, _] [_, _] rfl CaF.h rfl (fun w hI => Xc _ _ _ _ _ (hI.own _ _ (List.mem_of_getElem? (i := 0) rfl))) rfl zV (fun w hI => ⟨congrArg Ending.returned (by rw [hO0, uy]; rfl), hI.keep⟩)
theorem zc6 (X : Till) (a1 : Option Addr) (n1 c1 : Nat) (D : Imm) (w : World) (hR : TksR D X.tk a1 n1) (hH : Holds D w) (l : List Ent) (ab : Option Addr) (nb cb : Nat) (hB : xL D l ab nb) (hE : yq X l true = 0) (hW : tksE X.tk true = 0) : z8 Tryz.prog 27 [.agg #[it X.tk.huts, .slice a1 n1 c1, it X.price, it X.fine, it X.wait], .slice ab nb cb] w (.tuple #[it (yh X l).1, it (yh X l).2]) := by
  unfold z8;obtain rfl := hR.tick.len';have hl1 := hR.len;obtain rfl := hB.ent.len';have hlb := hB.len;have hE0 : uQ X l = 0 := by rw [Z3 hE, hW]
  refine enM Tryz.func27 rfl Tryz.ntmps27 (Inv.start hH) (g [[1],[1,0,1]] ?_);refine WL.so (SO.box rfl rfl) rfl (zw fun b2 hb2 => ?_);refine WL.so (SO.box rfl rfl) rfl (zw fun b3 hb3 => ?_);refine WL.so (SO.alloc ZvF.h rfl) rfl (zw fun b4 hb4 => ?_);refine WL.so (SO.alloc ZvF.h rfl) rfl (zw fun b5 hb5 => ?_);refine g [[3],[2,5,4,3,2]] ?_;refine WL.defer rfl (g [[4]] ?_);refine WC.freezeN 3 b2 (.cells (List.toArray [it X.tk.huts, .slice a1 X.tk.l.length c1, it X.price, it X.fine, it X.wait]) 26 (0, 0)) rfl rfl hb2 (fun D2 hX2 h2 => ?_);replace hR := hR.ext hX2;replace hB := hB.ext hX2;refine WC.freezeN 2 b3 (.cells (List.toArray [.slice ab l.length cb]) 32 (0, 0)) rfl rfl hb3 (fun D3 hX3 h3 => ?_);replace h2 := hX3.old _ _ h2;replace hR := hR.ext hX3;replace hB := hB.ext hX3;refine g [[0,5,4,3,2]] ?_;refine WC.drawH [] zk (fun _ hI => hI.drop 99) (g [[1000],[1001],[1004]] ?_);refine WH.one (i := 2) zk (WHo.so rfl (SO.callP CaF.h rfl (fun w hI => ue X a1 _ c1 _ _ hR hI.imm l ab _ cb hB 98 [] true CaF.h (fun w' _ => wa (.bool true) X a1 _ c1 w') hE)) rfl ?_);rintro _ _ _ ⟨rfl, rfl, rfl⟩;refine ⟨(fun _ hI => hI.drop 99), ?_⟩;refine WH.one (i := 3) zk (WHo.so rfl (SO.callP CaF.h rfl (fun w hI => Qb X a1 _ c1 _ _ hR hI.imm (by rw [uy]; exact hW))) rfl ?_);rintro _ _ _ ⟨rfl, rfl, rfl⟩;refine ⟨(fun _ hI => hI.drop 99), ?_⟩;refine WH.one (i := 5) zk (WHo.so rfl (SO.makes (Enters.func Tryz.call100 rfl) (fun w hI => Xb X a1 _ c1 ab _ cb _ _ hI.imm)) rfl ?_);rintro _ D4 _ ⟨hX4, ⟨bt, bb, rfl, hbb, hbt⟩, rfl⟩;replace hB := hB.ext hX4;replace hR := hR.ext hX4;replace h3 := hX4.old _ _ h3;refine ⟨(fun _ hI => (hI.drop 99).shrink hX4.old), ?_⟩;refine WH.nil zk (g [[2],[0,3,4,5,12]] ?_);refine WC.rangeIterN2 (N := (yH X l l.length).length) (arg1 := fun k => nt (gt (yH X l l.length) k)) (arg2 := fun k => it (xj X l (gt (yH X l l.length) k))) (fun w1 _ hD1 => uS X a1 _ c1 D4 l ab _ cb hB bt bb w1 hR hbt hbb hE hD1) rfl Tryz.call185 rfl rfl (fun k _ h => k = 0 ∧ h = [(b5, .cells (List.toArray [it 0]) 51 (0, 0)), (b4, .cells (List.toArray [it 0]) 3 (0, 0))]) (fun c _ h => c = .ret ∧ 0 < (yH X l l.length).length ∧ h = [(b5, .cells (List.toArray [it 11]) 51 (0, 0)), (b4, .cells (List.toArray [it 0]) 3 (0, 0))]) (fun _ _ _ _ _ h => h) ⟨rfl, rfl⟩ ?_ ?_ ?_
  · rintro rec1 l1 Dn0 k D5 _ w1 hrec hk ⟨rfl, rfl⟩ hX5 hsz;unfold yP;refine g [[1]] ?_;refine WP.iterBegin 0 rfl hrec (g [[2],[7,4,5]] ?_);exact WP.iterRetN (h1 := [_, _]) (fun _ h => h) (fun h => h) (DExt.refl _ _) ⟨rfl, hk, rfl⟩
  · rintro Dn1 D6 _ hDn1 hX6 ⟨hN, rfl⟩;have hnil := List.eq_nil_of_length_eq_zero hN;have hpk : ∀ i, i < l.length → 0 ≤ (gt l i).pence ∧ (gt l i).pence ≤ 2400 := (fun i hi => Vu (vo hE).1 (ZX (Xa hnil i hi)));replace h3 := hX6.old _ _ h3;replace hB := hB.ext hX6;refine g [[3],[5,3,4,5]] ?_;refine WL.so (SO.makes (Enters.func Tryz.call103 rfl) (fun w hI => Xm l.length hlb 104 [pt b3] (fun i => ja (gt l i)) D6 _ hI.imm Tryz.call104 (fun i hi w' hH' => zd9 X D6 l ab _ cb hB b3 h3 i hi (hpk i hi) w' hH'))) rfl ?_;rintro _ D7 _ ⟨hX7, ⟨a9, c9, rfl, hS9⟩, rfl⟩;refine WL.cl rfl (fun w hI => Qd ((List.range l.length).map fun i => ja (gt l i)) a9 _ c9 D7 _ hS9 hlb (by intro k hk; simp only [List.length_map, List.length_range] at hk; have h1 := hpk k hk; rw [show gt ((List.range l.length).map fun i => ja (gt l i)) k = ja (gt l k) by simp [gt, List.getD, hk]]; unfold ja; split <;> omega) hI.imm) (g [[5]] ?_);refine WP.retMsD [Dn1] [_, _] [_, _] [_, _] rfl rfl CaF.h (fun w hI => Xp _ _) (fun _ h => h) (fun h => h) rfl zV (fun w hI => ⟨congrArg Ending.returned (by unfold yh; rw [hE0, if_neg (by simp), if_neg (by rw [hnil]; simp)]; rfl), hI.keep⟩)
  rintro Dn1 c D6 _ hDn1 hX6 ⟨rfl, hN, rfl⟩;refine g [[3]] ?_;refine WP.retMsD [Dn1] [_, _] [_, _] [_, _] rfl rfl CaF.h (fun w hI => Xp _ _) (fun _ h => h) (fun h => h) rfl zV (fun w hI => ⟨congrArg Ending.returned (by unfold yh; rw [hE0, if_neg (by simp), if_pos (List.ne_nil_of_length_pos hN)]; rfl), hI.keep⟩)
theorem zc5 (X : Till) (a1 : Option Addr) (n1 c1 : Nat) (D : Imm) (w : World) (hR : TksR D X.tk a1 n1) (hH : Holds D w) (l : List Ent) (ab : Option Addr) (nb cb : Nat) (hB : xL D l ab nb) : z8 Tryz.prog 27 [.agg #[it X.tk.huts, .slice a1 n1 c1, it X.price, it X.fine, it X.wait], .slice ab nb cb] w (.tuple #[it (yh X l).1, it (yh X l).2]) := by
  by_cases hE : yq X l true = 0
  · by_cases hW : tksE X.tk true = 0
    · exact zc6 X a1 n1 c1 D w hR hH l ab nb cb hB hE hW
    exact zc4 X a1 n1 c1 D w hR hH l ab nb cb hB hE hW
  exact zc3 X a1 n1 c1 D w hR hH l ab nb cb hB hE
end Go.Proofs.YtejgofaeafphjaaGreatDoor
namespace Go.Ti
open Go.W
structure Mark where
  minute : Int
  high : Sp
deriving DecidableEq, Inhabited
structure Look where
  place : Int
  minute : Int
  depth : Sp
deriving DecidableEq, Inhabited
structure Tide where
  marks : List Mark
  sand : List Sp
  looks : List Look
deriving DecidableEq, Inhabited
def zA (s : Sp) : Bool := decide (0 ≤ s.lo ∧ s.lo ≤ s.hi ∧ s.hi ≤ 60)
def y2 (s : Sp) : Bool := zA s && decide (s.hi - s.lo ≤ 2)
def vH (T : Tide) (i : Nat) : Bool := decide (i = 0 ∨ (gt T.marks (i - 1)).minute + 6 ≤ (gt T.marks i).minute)
def qW (T : Tide) (i : Nat) : Bool := inB (gt T.marks i).minute 0 240 && y2 (gt T.marks i).high && vH T i
def jI (T : Tide) : Int := (gt T.marks 0).minute
def wB (T : Tide) : Int := (gt T.marks (T.marks.length - 1)).minute
def yO (T : Tide) (n : Int) : Bool := decide (0 ≤ n ∧ n ≤ (T.sand.length : Int) - 1)
def zx (T : Tide) (n : Int) : Bool := decide (jI T ≤ n ∧ n ≤ wB T)
def lookB (T : Tide) (l : Look) : Bool := yO T l.place && zx T l.minute && zA l.depth
def zQ (T : Tide) : Bool := decide (2 ≤ T.marks.length ∧ T.marks.length ≤ 4) && decide (1 ≤ T.sand.length ∧ T.sand.length ≤ 4) && decide (T.looks.length ≤ 6) &&
  (List.range T.marks.length).all (qW T) && T.sand.all y2 && T.looks.all (lookB T)
structure zG (T : Tide) : Prop where
  nm : 2 ≤ T.marks.length ∧ T.marks.length ≤ 4
  ns : 1 ≤ T.sand.length ∧ T.sand.length ≤ 4
  nl : T.looks.length ≤ 6
  mark : ∀ i, i < T.marks.length → (0 ≤ (gt T.marks i).minute ∧ (gt T.marks i).minute ≤ 240) ∧ y2 (gt T.marks i).high = true
  apart : ∀ i, i + 1 < T.marks.length → (gt T.marks i).minute + 6 ≤ (gt T.marks (i + 1)).minute
  sand : ∀ i, i < T.sand.length → y2 (gt T.sand i) = true
  look : ∀ i, i < T.looks.length → lookB T (gt T.looks i) = true
theorem zl {T : Tide} {i : Nat} : qW T i = true ↔ ((0 ≤ (gt T.marks i).minute ∧ (gt T.marks i).minute ≤ 240) ∧ y2 (gt T.marks i).high = true) ∧ (i = 0 ∨ (gt T.marks (i - 1)).minute + 6 ≤ (gt T.marks i).minute) := by
  simp only [qW, vH, inB, Bool.and_eq_true, decide_eq_true_eq]
theorem yK {T : Tide} : zQ T = true ↔ zG T := by
  simp only [zQ, Bool.and_eq_true, decide_eq_true_eq, List.all_eq_true, List.mem_range];constructor
  · rintro ⟨⟨⟨⟨⟨a, b⟩, c⟩, d⟩, e⟩, f⟩
    exact ⟨a, b, c, fun i hi => (zl.1 (d i hi)).1, fun i hi => (by
      rcases (zl.1 (d (i + 1) hi)).2 with h | h
      · omega
      · simpa using h), fun i hi => e _ (yE hi), fun i hi => f _ (yE hi)⟩
  · intro h;refine ⟨⟨⟨⟨⟨h.nm, h.ns⟩, h.nl⟩, fun i hi => zl.2 ⟨h.mark i hi, ?_⟩⟩, fun x hx => ?_⟩, fun x hx => ?_⟩
    · rcases Nat.eq_zero_or_pos i with rfl | h0
      · exact .inl rfl
      · exact .inr (by have := h.apart (i - 1) (by omega); rwa [show i - 1 + 1 = i by omega] at this)
    · obtain ⟨i, hi, rfl⟩ := uU hx; exact h.sand i hi
    · obtain ⟨i, hi, rfl⟩ := uU hx; exact h.look i hi
theorem ws {s : Sp} : y2 s = true ↔ (0 ≤ s.lo ∧ s.lo ≤ s.hi ∧ s.hi ≤ 60) ∧ s.hi - s.lo ≤ 2 := by
  simp only [y2, zA, Bool.and_eq_true, decide_eq_true_eq]
theorem zG.rise {T : Tide} (h : zG T) : ∀ d i, i + d < T.marks.length → (gt T.marks i).minute + 6 * (d : Int) ≤ (gt T.marks (i + d)).minute
  | 0, i, _ => by simp
  | d + 1, i, hi => by
    have h1 := h.rise d i (by omega);have h2 := h.apart (i + d) (by omega);rw [show i + (d + 1) = i + d + 1 by omega];push_cast;omega
theorem zG.less {T : Tide} (h : zG T) {i j : Nat} (hij : i < j) (hj : j < T.marks.length) : (gt T.marks i).minute + 6 ≤ (gt T.marks j).minute := by
  have := h.rise (j - i) i (by omega);rw [show i + (j - i) = j by omega] at this;omega
def doneN : Nat → Int
  | 0 => 0 | 1 => 1 | 2 => 3 | 3 => 6 | 4 => 9 | 5 => 11 | _ => 12
def donL : List Int := [0, 1, 3, 6, 9, 11, 12]
theorem qj (k : Nat) : 0 ≤ doneN k ∧ doneN k ≤ 12 := by
  unfold doneN; split <;> omega
theorem qG (k : Nat) : doneN k ≤ doneN (k + 1) ∧ doneN (k + 1) - doneN k ≤ 3 := by
  match k with
  | 0 | 1 | 2 | 3 | 4 => decide
  | 5 => decide
  | k + 6 => exact ⟨Int.le_refl _, by show (12 : Int) - 12 ≤ 3; omega⟩
def wi (T : Tide) (m : Int) : Nat → Nat → Nat
  | 0, i => i
  | n + 1, i => if m ≤ (gt T.marks i).minute then i else wi T m n (i + 1)
def xf (T : Tide) (m : Int) : Nat := max 1 (wi T m T.marks.length 0)
theorem uC (T : Tide) (m : Int) : ∀ n i, (∀ j, j < i → (gt T.marks j).minute < m) → (∀ j, j < wi T m n i → (gt T.marks j).minute < m) ∧ wi T m n i ≤ i + n ∧ (wi T m n i < i + n → m ≤ (gt T.marks (wi T m n i)).minute)
  | 0, i, h => ⟨h, Nat.le_refl _, fun h => absurd h (Nat.lt_irrefl _)⟩
  | n + 1, i, h => by
    rw [wi];split
    · rename_i hm
      exact ⟨h, by omega, fun _ => hm⟩
    · rename_i hm
      have := uC T m n (i + 1) (zZ h (by omega));exact ⟨this.1, by omega, fun h2 => this.2.2 (by omega)⟩
theorem jH {T : Tide} (h : zG T) {m : Int} (hm : m ≤ wB T) : wi T m T.marks.length 0 < T.marks.length := by
  have h1 := uC T m T.marks.length 0 (fun j hj => absurd hj (Nat.not_lt_zero _));have h2 := h.nm;rcases Nat.lt_or_ge (wi T m T.marks.length 0) T.marks.length with h3 | h3
  · exact h3
  · have := h1.1 (T.marks.length - 1) (by omega);unfold wB at hm;omega
def q8 (L x : Int) : Int := doneN (6 * x / L).toNat * L + if 0 < 6 * x % L then (doneN ((6 * x / L).toNat + 1) - doneN (6 * x / L).toNat) * (6 * x % L) else 0
def jY (T : Tide) (h : Nat → Int) (m : Int) (k : Nat) : Int :=
  (h (k - 1) * (12 * ((gt T.marks k).minute - (gt T.marks (k - 1)).minute) - q8 ((gt T.marks k).minute - (gt T.marks (k - 1)).minute) (m - (gt T.marks (k - 1)).minute)) + h k * q8 ((gt T.marks k).minute - (gt T.marks (k - 1)).minute) (m - (gt T.marks (k - 1)).minute)) / (12 * ((gt T.marks k).minute - (gt T.marks (k - 1)).minute))
def y5 (T : Tide) (h : Nat → Int) (m : Int) : Int := jY T h m (xf T m)
theorem ud {T : Tide} (h : zG T) {m : Int} (hm : zx T m = true) : 1 ≤ xf T m ∧ xf T m < T.marks.length ∧ (gt T.marks (xf T m - 1)).minute ≤ m ∧ m ≤ (gt T.marks (xf T m)).minute ∧ (xf T m = 1 ∨ (gt T.marks (xf T m - 1)).minute < m) := by
  have hm' : jI T ≤ m ∧ m ≤ wB T := by simpa [zx] using hm
  have h1 := uC T m T.marks.length 0 (fun j hj => absurd hj (Nat.not_lt_zero _));have h2 := jH h hm'.2;have h3 := h1.2.2 (by omega);have hn := h.nm;rcases Nat.eq_zero_or_pos (wi T m T.marks.length 0) with e | e
  · have e2 : xf T m = 1 := by unfold xf; omega
    rw [e] at h3;have h5 := h.less (i := 0) (j := 1) (by omega) (by omega);have h4 : jI T = (gt T.marks 0).minute := rfl;rw [e2];exact ⟨by omega, by omega, by show (gt T.marks 0).minute ≤ m; omega, by omega, .inl rfl⟩
  · have e2 : xf T m = wi T m T.marks.length 0 := by unfold xf; omega
    have h5 := h1.1 (wi T m T.marks.length 0 - 1) (by omega);rw [e2];exact ⟨by omega, by omega, by omega, h3, .inr h5⟩
theorem XF {L x : Int} (hL : 0 < L) (h0 : 0 ≤ x) (hx : x ≤ L) : 0 ≤ 6 * x / L ∧ 6 * x / L ≤ 6 ∧ 0 ≤ 6 * x % L ∧ 6 * x % L < L ∧ 0 ≤ q8 L x ∧ q8 L x ≤ 12 * L ∧ (6 * x / L = 6 → 6 * x % L = 0) := by
  have h1 : 0 ≤ 6 * x / L := Int.ediv_nonneg (by omega) (by omega)
  have h2 : 6 * x / L ≤ 6 := by
    have : 6 * x / L ≤ 6 * L / L := Int.ediv_le_ediv hL (by omega)
    rwa [Int.mul_ediv_cancel _ (by omega)] at this
  have h3 : 0 ≤ 6 * x % L := Int.emod_nonneg _ (by omega);have h4 : 6 * x % L < L := Int.emod_lt_of_pos _ hL;have h5 := Int.mul_ediv_add_emod (6 * x) L
  have h6 : 6 * x / L = 6 → 6 * x % L = 0 := fun e => by
    rw [e] at h5; omega
  refine ⟨h1, h2, h3, h4, ?_, ?_, h6⟩
  · unfold q8;have a := (qj (6 * x / L).toNat).1;have b := (qG (6 * x / L).toNat).1;have c : 0 ≤ doneN (6 * x / L).toNat * L := Int.mul_nonneg a (by omega);split
    · have : 0 ≤ (doneN ((6 * x / L).toNat + 1) - doneN (6 * x / L).toNat) * (6 * x % L) := Int.mul_nonneg (by omega) h3;omega
    · omega
  · unfold q8;have a := (qj ((6 * x / L).toNat + 1)).2;have b := (qG (6 * x / L).toNat).1;split
    · have c : (doneN ((6 * x / L).toNat + 1) - doneN (6 * x / L).toNat) * (6 * x % L) ≤ (doneN ((6 * x / L).toNat + 1) - doneN (6 * x / L).toNat) * L := Int.mul_le_mul_of_nonneg_left (by omega) (by omega);have d : doneN (6 * x / L).toNat * L + (doneN ((6 * x / L).toNat + 1) - doneN (6 * x / L).toNat) * L = doneN ((6 * x / L).toNat + 1) * L := by rw [← Int.add_mul]; congr 1; omega
      have e : doneN ((6 * x / L).toNat + 1) * L ≤ 12 * L := Int.mul_le_mul_of_nonneg_right a (by omega);omega
    · have e : doneN (6 * x / L).toNat * L ≤ 12 * L := Int.mul_le_mul_of_nonneg_right (qj _).2 (by omega);omega
theorem Y1 {a b L f : Int} (hL : 0 < L) (ha : 0 ≤ a ∧ a ≤ 60) (hb : 0 ≤ b ∧ b ≤ 60) (hf : 0 ≤ f ∧ f ≤ 12 * L) : 0 ≤ (a * (12 * L - f) + b * f) / (12 * L) ∧ (a * (12 * L - f) + b * f) / (12 * L) ≤ 60 ∧ 0 ≤ a * (12 * L - f) ∧ a * (12 * L - f) ≤ 60 * (12 * L) ∧ 0 ≤ b * f ∧ b * f ≤ 60 * (12 * L) ∧ a * (12 * L - f) + b * f ≤ 60 * (12 * L) := by
  have h1 : 0 ≤ a * (12 * L - f) := Int.mul_nonneg ha.1 (by omega);have h2 : 0 ≤ b * f := Int.mul_nonneg hb.1 hf.1;have h3 : a * (12 * L - f) ≤ 60 * (12 * L - f) := Int.mul_le_mul_of_nonneg_right ha.2 (by omega);have h4 : b * f ≤ 60 * f := Int.mul_le_mul_of_nonneg_right hb.2 hf.1;refine ⟨Int.ediv_nonneg (by omega) (by omega), ?_, h1, by omega, h2, by omega, by omega⟩;have h5 : (a * (12 * L - f) + b * f) / (12 * L) ≤ 60 * (12 * L) / (12 * L) := Int.ediv_le_ediv (by omega) (by omega)
  rwa [Int.mul_ediv_cancel _ (by omega)] at h5
def zbB (T : Tide) (h : Nat → Int) : Prop := ∀ i, i < T.marks.length → 0 ≤ h i ∧ h i ≤ 60
theorem uO {T : Tide} (hT : zG T) {h : Nat → Int} (hh : zbB T h) {m : Int} (hm : zx T m = true) : 0 ≤ y5 T h m ∧ y5 T h m ≤ 60 := by
  obtain ⟨h1, h2, h3, h4, _⟩ := ud hT hm;have h5 := hT.less (i := xf T m - 1) (j := xf T m) (by omega) h2;obtain ⟨_, _, _, _, h6, h7, _⟩ := XF (L := (gt T.marks (xf T m)).minute - (gt T.marks (xf T m - 1)).minute) (x := m - (gt T.marks (xf T m - 1)).minute) (by omega) (by omega) (by omega);have := Y1 (L := (gt T.marks (xf T m)).minute - (gt T.marks (xf T m - 1)).minute) (by omega) (hh (xf T m - 1) (by omega)) (hh (xf T m) h2) ⟨h6, h7⟩;exact ⟨this.1, this.2.1⟩
def zcF : Nat → Int
  | 0 => 1 | 1 => 2 | 2 => 3 | 3 => 3 | 4 => 2 | _ => 1
def Jo (L x : Int) : Int := doneN (6 * x / L).toNat * L + zcF (6 * x / L).toNat * (6 * x % L)
def UU (T : Tide) (h : Nat → Int) (m : Int) (k : Nat) : Int :=
  (h (k - 1) * (12 * ((gt T.marks k).minute - (gt T.marks (k - 1)).minute) - Jo ((gt T.marks k).minute - (gt T.marks (k - 1)).minute) (m - (gt T.marks (k - 1)).minute)) + h k * Jo ((gt T.marks k).minute - (gt T.marks (k - 1)).minute) (m - (gt T.marks (k - 1)).minute)) / (12 * ((gt T.marks k).minute - (gt T.marks (k - 1)).minute))
def goR (T : Tide) (h : Nat → Int) (m : Int) : Nat → Nat → Int
  | 0, _ => h 0
  | n + 1, i => if m = (gt T.marks i).minute then h i else if (gt T.marks (i - 1)).minute ≤ m ∧ m < (gt T.marks i).minute then UU T h m i else goR T h m n (i + 1)
def kX (T : Tide) (h : Nat → Int) (m : Int) : Int := goR T h m (T.marks.length - 1) 1
theorem Uf {L x : Int} (hL : 0 < L) (h0 : 0 ≤ x) (hx : x < L) : q8 L x = Jo L x := by
  have h2 : 6 * x / L < 6 := Int.ediv_lt_of_lt_mul hL (by omega);have h1 : 0 ≤ 6 * x / L := Int.ediv_nonneg (by omega) (by omega);have h3 : 0 ≤ 6 * x % L := Int.emod_nonneg _ (by omega);unfold q8 Jo;obtain ⟨k, hk⟩ : ∃ k : Nat, 6 * x / L = k := ⟨(6 * x / L).toNat, by omega⟩;rw [hk];have hk6 : k < 6 := by omega
  have e : doneN (k + 1) - doneN k = zcF k := by
    match k, hk6 with
    | 0, _ | 1, _ | 2, _ | 3, _ | 4, _ | 5, _ => rfl
  simp only [Int.toNat_natCast];split
  · rw [e]
  · rename_i h
    have : 6 * x % L = 0 := by omega
    rw [this, Int.mul_zero]
theorem Jp {L : Int} (hL : 0 < L) : q8 L L = 12 * L := by
  have h1 : 6 * L / L = 6 := Int.mul_ediv_cancel _ (by omega);have h2 : 6 * L % L = 0 := Int.mul_emod_left _ _;unfold q8;rw [h1, h2, if_neg (by omega)]
  show doneN 6 * L + 0 = _;rw [Int.add_zero]; rfl
theorem Kr {T : Tide} (hT : zG T) (h : Nat → Int) {m : Int} {k : Nat} (hk : k < T.marks.length) (hlo : (gt T.marks (k - 1)).minute ≤ m) (hhi : m ≤ (gt T.marks k).minute) (h1 : k = 1 ∨ (gt T.marks (k - 1)).minute < m) : ∀ d i, 1 ≤ i → i + d = k → goR T h m (T.marks.length - i) i = if m = (gt T.marks k).minute then h k else UU T h m k
  | 0, i, hi, e => by
    obtain rfl : i = k := by omega
    rw [show T.marks.length - i = (T.marks.length - i - 1) + 1 by omega, goR];split
    · rfl
    · rw [if_pos ⟨hlo, by omega⟩]
  | d + 1, i, hi, e => by
    rw [show T.marks.length - i = (T.marks.length - (i + 1)) + 1 by omega, goR];have h2 := hT.less (i := i) (j := k) (by omega) hk
    have h3 : (gt T.marks i).minute < m := by
      rcases h1 with h1 | h1
      · omega
      · rcases Nat.lt_or_ge i (k - 1) with h4 | h4
        · have := hT.less (i := i) (j := k - 1) h4 (by omega); omega
        · have : i = k - 1 := by omega
          rw [this]; exact h1
    rw [if_neg (by omega), if_neg (by omega)];exact Kr hT h hk hlo hhi h1 d (i + 1) (by omega) (by omega)
theorem xk {T : Tide} (hT : zG T) (h : Nat → Int) {m : Int} (hm : zx T m = true) : y5 T h m = kX T h m := by
  obtain ⟨h1, h2, h3, h4, h5⟩ := ud hT hm;have h6 := hT.less (i := xf T m - 1) (j := xf T m) (by omega) h2;unfold kX;rw [Kr hT h h2 h3 h4 h5 (xf T m - 1) 1 (Nat.le_refl _) (by omega)];unfold y5;generalize xf T m = k at *;split
  · rename_i e
    unfold jY;rw [e, Jp (by omega), Int.sub_self, Int.mul_zero, Int.zero_add];exact Int.mul_ediv_cancel _ (by omega)
  · unfold jY UU;rw [Uf (by omega) (by omega) (by omega)]
end Go.Ti
