import Derived.Test.YtejgofaeafphjaaGreatDoorXG5
import Derived.Test.YtejgofaeafphjaaGreatDoorXG4
import Derived.Test.YtejgofaeafphjaaGreatDoorXG1
import Derived.Test.YtejgofaeafphjaaGreatDoorXG3
set_option linter.unusedSimpArgs false
set_option linter.unusedVariables false
set_option linter.all false
set_option maxRecDepth 100000
set_option maxHeartbeats 4000000
attribute [local irreducible] Go.W.WL Go.W.WLF Go.W.WC Go.W.WCF Go.W.WP Go.W.WA Go.W.WQ Go.W.WH Go.W.WHo Go.W.WCn Go.Code.wp Go.Code.wpIn
namespace Go.Proofs.YtejgofaeafphjaaGreatDoor
open Go.W Go.Ti
theorem SA269 : StructAt Tryz.prog 269 [.int .i64 0, .int .i64 0] [(0, 1), (1, 1)] := ⟨⟨_, Tryz.zeroValue269, rfl⟩, _, Tryz.underlying269, fun w => by simp [Tryz.sizeOf3]⟩
@[reducible, instance] def ISA269 := SaF.mk SA269
abbrev Ky := Fin 5 × Fin 4
def keyV (y : Ky) : Value := .agg #[it (y.1.val : Int), it (y.2.val : Int)]
theorem keyV_inj (x y : Ky) (h : keyV x = keyV y) : x = y := by
  obtain ⟨⟨a, ha⟩, ⟨b, hb⟩⟩ := x
  obtain ⟨⟨c, hc⟩, ⟨e, he⟩⟩ := y
  simp only [keyV, Value.agg.injEq, it] at h
  simp at h
  obtain ⟨h1, h2⟩ := h
  have e1 : a = c := by omega
  have e2 : b = e := by omega
  subst e1; subst e2; rfl
theorem keyT : Tryz.prog.keyType 269 = true := by kernel_rfl
theorem laidOut : laidOutB Tryz.prog = true := by kernel_rfl
theorem keyLaw : Go.Maps.Keyed Tryz.prog 269 := Go.Maps.Keyed.of_law (deep_law_gate laidOut (Nat.le_of_ble_eq_true zk) (Nat.le_of_ble_eq_true zk) keyT zk)
noncomputable def keyAllB : Bool := (List.range 5).all fun a => (List.range 4).all fun b => (keyOf Tryz.prog 269 (.agg #[.int .i64 (a : Int), .int .i64 (b : Int)])).isSome
theorem keyAll : keyAllB = true := by kernel_rfl
theorem key_ky (y : Ky) : ∃ l, keyOf Tryz.prog 269 (keyV y) = some l := by
  have h := List.all_eq_true.1 (List.all_eq_true.1 keyAll y.1.val (List.mem_range.2 y.1.isLt)) y.2.val (List.mem_range.2 y.2.isLt)
  exact Option.isSome_iff_exists.1 h
def bkF (l : List Ent) (y : Ky) : Bool := bookedB l (y.1.val : Int) (y.2.val : Int)
theorem bkF_put {l : List Ent} {i : Nat} (hi : i < l.length) {y : Ky} (h1 : (gt l i).ticket = (y.1.val : Int)) (h2 : (gt l i).kind = (y.2.val : Int)) : (fun z => bkF (l.take i) z || decide (z = y)) = bkF (l.take (i + 1)) := by
  funext z
  unfold bkF
  rw [booked_take hi, h1, h2]
  congr 1
  apply Bool.eq_iff_iff.2
  simp only [decide_eq_true_eq]
  constructor
  · rintro rfl; exact ⟨rfl, rfl⟩
  rintro ⟨e1, e2⟩
  exact Prod.ext (Fin.ext (by omega)) (Fin.ext (by omega))
def canF : Nat → FuncId
  | 1 => 343
  | 2 => 345
  | _ => 347
section
variable {x : Cx} {fr : Fr} {D : Imm} {hp : Hp} {ty : TypeId}
theorem can_enters {k : Nat} (hk : 1 ≤ k ∧ k ≤ 3) {o : Operand} {A : List Operand} {ts : Array TypeId} {vals : List Value} (ho : opv fr o = some (kindAt k)) (ha : opvs fr A = some vals) : Enters Tryz.prog x fr D hp ⟨.invoke o "dipworks/till.can", A.toArray, ts⟩ ty (canF k) (.agg #[] :: vals) := by
  rcases (show k = 1 ∨ k = 2 ∨ k = 3 by omega) with rfl | rfl | rfl
  · exact Enters.meth Tryz.call343 (fun w => by kernel_rfl) ho ha
  · exact Enters.meth Tryz.call345 (fun w => by kernel_rfl) ho ha
  exact Enters.meth Tryz.call347 (fun w => by kernel_rfl) ho ha
end
theorem canF_g (X : Till) (a1 : Option Addr) (n1 c1 : Nat) (D : Imm) (w : World) (hR : TksR D X.tk a1 n1) (hH : Holds D w) (hbt : tillB X = true) {k : Nat} (hk : 1 ≤ k ∧ k ≤ 3) (n m : Int) : Gives Tryz.prog (canF k) [.agg #[], .agg #[it X.tk.huts, .slice a1 n1 c1, it X.price, it X.fine, it X.wait], it n, it m] w (.bool (canOf X n m k)) := by
  rcases (show k = 1 ∨ k = 2 ∨ k = 3 by omega) with rfl | rfl | rfl
  · exact priceCan_g X a1 n1 c1 n m w hR.tick.len' hR.len
  · exact fineCan_g X a1 n1 c1 D w hR hH n m
  exact backCan_g X a1 n1 c1 D w hR hH hbt n m
theorem kinds_at {k : Nat} (hk : k < 4) : kindsC[k]? = some (kindAt k) := by
  rcases (show k = 0 ∨ k = 1 ∨ k = 2 ∨ k = 3 by omega) with rfl | rfl | rfl | rfl <;> rfl
theorem ent_ky {X : Till} (h5 : X.tk.l.length ≤ 5) {e : Ent} (h : entB X e = true) : ∃ y : Ky, e.ticket = (y.1.val : Int) ∧ e.kind = (y.2.val : Int) ∧ (1 ≤ y.2.val ∧ y.2.val ≤ 3) ∧ y.1.val < X.tk.l.length := by
  obtain ⟨a, k, h1, h2, h3, h4, h6⟩ := ent_kind h
  exact ⟨(⟨a, by omega⟩, ⟨k, by omega⟩), h1, h3, ⟨h4, h6⟩, h2⟩
theorem rule_1 {X : Till} {l : List Ent} {i : Nat} {y : Ky} (h1 : (gt l i).ticket = (y.1.val : Int)) (h2 : (gt l i).kind = (y.2.val : Int)) (h : bkF (l.take i) y = true) : ruleI X l i = 1 := by
  unfold ruleI; rw [if_pos (by rw [h1, h2]; exact h)]
theorem rule_2 {X : Till} {l : List Ent} {i : Nat} {y : Ky} (h1 : (gt l i).ticket = (y.1.val : Int)) (h2 : (gt l i).kind = (y.2.val : Int)) (h : bkF (l.take i) y = false) (hc : canOf X (gt l i).ticket (gt l i).pence y.2.val = false) : ruleI X l i = 2 := by
  unfold ruleI; rw [if_neg (by rw [h1, h2]; unfold bkF at h; rw [h]; simp), if_pos (by rw [show (gt l i).kind.toNat = y.2.val by rw [h2, Int.toNat_natCast]]; exact hc)]
theorem rule_0 {X : Till} {l : List Ent} {i : Nat} {y : Ky} (h1 : (gt l i).ticket = (y.1.val : Int)) (h2 : (gt l i).kind = (y.2.val : Int)) (h : bkF (l.take i) y = false) (hc : canOf X (gt l i).ticket (gt l i).pence y.2.val = true) : ruleI X l i = 0 := by
  unfold ruleI; rw [if_neg (by rw [h1, h2]; unfold bkF at h; rw [h]; simp), if_neg (by rw [show (gt l i).kind.toNat = y.2.val by rw [h2, Int.toNat_natCast], hc]; simp)]
theorem broken1_iter (X : Till) (a1 : Option Addr) (n1 c1 : Nat) (D : Imm) (l : List Ent) (ab : Option Addr) (nb cb : Nat) (hB : BookR D l ab nb) (b2 b3 : Nat) (w : World) (hR : TksR D X.tk a1 n1) (h2 : D b2 = some (.cells (List.toArray (tillC X (.slice a1 n1 c1))) 156 (0, 0))) (h3 : D b3 = some (.cells (List.toArray [.slice ab nb cb]) 32 (0, 0))) (hE : tillE X l true = 0) (hH : Holds D w) : IterN2 Tryz.prog 185 [pt b3, pt b2] (brokL X l l.length).length (fun k => nt (gt (brokL X l l.length) k)) (fun k => it (ruleI X l (gt (brokL X l l.length) k))) D w := by
  unfold IterN2
  intro ly St Sp hSm hround h0 hS0 hI0
  unfold AltersN
  obtain rfl := hR.tick.len'
  have hl1 := hR.len
  obtain rfl := hB.ent.len'
  have hlb := hB.len
  obtain ⟨hbt, h20, _, hent⟩ := tillE_all hE
  have h5 := (tks_num (tillB_num hbt).1).2.1
  refine en Tryz.func185 rfl Tryz.ntmps185 hI0 (WC.scope (g [[1],[1,0,1,2]] ?_))
  refine WL.so (SO.callP CaF.h rfl (fun w hI => kinds_g _)) rfl ?_
  rintro _ _ h0 ⟨rfl, rfl, rfl⟩
  refine WL.so (SO.alloc ZvF.h rfl) rfl (zw fun b4 hb4 => ?_)
  refine g [[4],[1,4,0,1,2]] ?_
  refine WL.so SO.makeMap rfl ?_
  rintro _ _ _ ⟨b11, hb11, rfl, rfl, rfl⟩
  refine g [[4]] ?_
  refine WC.label (g [[2],[7,5,4,0,1,2]] ?_)
  refine WC.loop (fun z : Nat × Imm × Hp × Array MapEntry × Nat => [(0, .func (.yield ly) #[] #[]), (2, pt b2), (4, pt b4), (5, .map (some b11)), (12, .slice ab l.length cb), (13, nt l.length), (14, nt z.1)]) (fun z => ((b11, .map z.2.2.2.1 z.2.2.2.2) :: (b4, .cells (List.toArray kindsC) 265 (0, 0)) :: z.2.2.1)) (fun z => z.2.1) (fun z => z.1 ≤ l.length ∧ DExt w D z.2.1 ∧ St ((brokL X l z.1).length) z.2.1 z.2.2.1 ∧ MapB keyV z.2.2.2.1 z.2.2.2.2 (bkF (l.take z.1))) (fun z => l.length - z.1) ⟨0, D, h0, #[], 0⟩ ⟨by omega, DExt.refl _ _, hS0, MapB.empty _⟩ (fun a w h => at_fr h ⟨rfl, rfl, rfl, rfl, rfl, rfl, rfl, trivial⟩) ?_
  rintro ⟨i, D1, h1, es, cl⟩ ⟨hi, hX1, hS1, hM⟩
  dsimp only at hi hX1 hS1 hM
  replace hR := hR.ext (hX1)
  replace hB := hB.ext (hX1)
  replace h2 := (hX1).old _ _ h2
  replace h3 := (hX1).old _ _ h3
  refine g [[1],[5,0,2,4,5,12,13,14]] ?_
  refine WC.cond rfl (fun c15 => ?_) (fun c15 => ?_)
  · try simp only [zq] at c15
    have hil : i < l.length := by omega
    obtain ⟨y, hk1, hk2, hk3, hk4⟩ := ent_ky h5 (hent i hil)
    refine g [[5],[2,0,2,4,5,12,13,14]] ?_
    refine WL.yd (Yd.ix rfl rfl (hB.ent.addr i (by omega))) rfl (WL.yd (Yd.lV [_, _, _] rfl ((hB.ent.at i (by omega)).rdn 0 3 rfl)) rfl ?_)
    refine WL.so (SO.alloc ZvF.h rfl) rfl (zw fun b7 hb7 => ?_)
    refine g [[5],[6,6,7,0,2,4,5,12,13,14]] ?_
    refine WL.so (SO.alloc ZvF.h rfl) rfl (zw fun b8 hb8 => ?_)
    refine g [[4],[7,8,6,7,0,2,4,5,12,13,14],[3,9,8,6,7,0,2,4,5,12,13,14]] ?_
    refine WL.know 26 (keyV y) rfl (by rw [hk1, hk2]; rfl) ?_
    refine WL.yd (Yd.lookB (kv := keyV) (F := bkF (l.take i)) (y := y) (j := 2) keyV_inj keyLaw key_ky UnF.h ZvF.h rfl rfl rfl hM) rfl (g [[3]] ?_)
    refine WC.cond rfl (fun c24 => ?_) (fun c24 => ?_)
    · try simp only [zq] at c24
      have hru : ruleI X l i = 1 := rule_1 hk1 hk2 c24
      refine g [[6,9,8,6,0,2,4,5,12,13,14],[3,9,8,6,0,2,4,5,12,13,14]] ?_
      refine WL.know 41 (keyV y) rfl (by rw [hk1, hk2]; rfl) ?_
      refine WL.so (SO.putB (kv := keyV) (y := y) (j := 2) keyV_inj keyLaw key_ky UnF.h rfl rfl rfl rfl hM) rfl ?_
      rintro _ _ _ ⟨rfl, es1, cl1, rfl, hM1⟩
      rw [bkF_put hil hk1 hk2] at hM1
      refine g [[4],[9,9,6,0,2,4,5,12,13,14]] ?_
      have hbat := brok_at X l hil (by rw [hru]; decide)
      refine g [[0,9,6,0,2,4,5,12,13,14]] ?_
      refine WC.ofF (g [[4]] ?_)
      refine WLF.yieldN (l := ly) (vals := [nt i, it (1 : Int)]) [_, _, _, _] h1 (fun _ h => h) (fun h => h) rfl rfl rfl (fun w' hsz hI => by
        have hgo := hround ((brokL X l i).length) D1 h1 w' hbat.1 hsz hX1 hS1 hI
        simp only [hbat.2, hru] at hgo
        exact hgo) ?_
      rintro b47 D5 hp5 hK5 hX5
      refine g [[3]] ?_
      refine WC.cond rfl (fun c48 => ?_) (fun c48 => ?_)
      · try simp only [zq] at c48
        refine g [[5]] ?_
        refine WP.scRet ?_
        refine WP.ret0 rfl rfl rfl  (fun w1 hI => by
          obtain ⟨htt, _⟩ | ⟨_, hK5⟩ := hK5
          · simp_all
          exact ⟨_, D5, hp5, rfl, hX1.trans hX5 (Nat.le_refl _), hI.drop 4, .inr hK5⟩)
      try simp only [zq] at c48
      refine g [[3],[4,0,2,4,5,12,13,14]] ?_
      have hlen := brok_len X l i
      rw [hru] at hlen
      first
        | (rw [if_neg (by decide)] at hlen
           exact WP.again (⟨i + 1, D1, h1, es1, cl1⟩ : Nat × Imm × Hp × Array MapEntry × Nat) ⟨by simp only; omega, hX1, by simp only; rw [hlen]; exact hS1, hM1⟩ (by simp only; omega) (fun a w h => at_less h ⟨rfl, rfl, rfl, rfl, rfl, rfl, rfl, trivial⟩ (fun _ h => List.mem_cons_of_mem _ (List.mem_cons_of_mem _ h)) (fun h => (List.nodup_cons.1 (List.nodup_cons.1 h).2).2)))
        | (rw [if_pos (by decide)] at hlen
           obtain ⟨_, hK5⟩ | ⟨hff, _⟩ := hK5
           · exact WP.again (⟨i + 1, D5, hp5, es1, cl1⟩ : Nat × Imm × Hp × Array MapEntry × Nat) ⟨by simp only; omega, hX1.trans hX5 (Nat.le_refl _), by simp only; rw [hlen]; exact hK5, hM1⟩ (by simp only; omega) (fun a w h => at_less h ⟨rfl, rfl, rfl, rfl, rfl, rfl, rfl, trivial⟩ (fun _ h => List.mem_cons_of_mem _ (List.mem_cons_of_mem _ h)) (fun h => (List.nodup_cons.1 (List.nodup_cons.1 h).2).2))
           simp_all)
    try simp only [zq] at c24
    refine g [[1],[0,9,8,6,7,0,2,4,5,12,13,14],[3009],[1]] ?_
    refine WQ.q rfl (Yd.qt (Yd.load1  AgF.h rfl (Rd.own (k := 1) rfl rfl))) rfl ?_
    refine WQ.know 30 (nt y.2.val) rfl (by rw [hk2]) ?_
    refine WQ.q rfl (Yd.qt (Yd.indexA UnF.h SzF.h rfl rfl (by omega) (by omega))) rfl (WQ.q rfl (Yd.qt (Yd.l1 rfl (Rd.own (k := 3) rfl (kinds_at (by omega))))) rfl ?_)
    refine WQ.know 32 (kindAt y.2.val) rfl (by rw [Nat.zero_add, Nat.mul_one]; rfl) (g [[2]] ?_)
    refine WQ.q rfl (Yd.qt (Yd.load1  AgF.h rfl (Rd.own (k := 1) rfl rfl))) rfl (g [[1]] ?_)
    refine WQ.q rfl (Yd.qt (Yd.load1  AgF.h rfl (Rd.own (k := 1) rfl rfl))) rfl (g [[1]] ?_)
    refine WL.so (SO.call (can_enters hk3 rfl rfl) (fun w hI => canF_g X a1 _ c1 D1 _ hR hI.imm hbt hk3 (gt l i).ticket (gt l i).pence)) rfl (zs (g [[4]] ?_))
    refine WC.cond rfl (fun c28 => ?_) (fun c28 => ?_)
    · try simp only [zq] at c28
      have hru : ruleI X l i = 2 := rule_2 hk1 hk2 c24 c28
      refine g [[6,9,8,6,0,2,4,5,12,13,14],[3,9,8,6,0,2,4,5,12,13,14]] ?_
      refine WL.know 41 (keyV y) rfl (by rw [hk1, hk2]; rfl) ?_
      refine WL.so (SO.putB (kv := keyV) (y := y) (j := 2) keyV_inj keyLaw key_ky UnF.h rfl rfl rfl rfl hM) rfl ?_
      rintro _ _ _ ⟨rfl, es1, cl1, rfl, hM1⟩
      rw [bkF_put hil hk1 hk2] at hM1
      refine g [[4],[9,9,6,0,2,4,5,12,13,14]] ?_
      have hbat := brok_at X l hil (by rw [hru]; decide)
      refine g [[0,9,6,0,2,4,5,12,13,14]] ?_
      refine WC.ofF (g [[4]] ?_)
      refine WLF.yieldN (l := ly) (vals := [nt i, it (2 : Int)]) [_, _, _, _] h1 (fun _ h => h) (fun h => h) rfl rfl rfl (fun w' hsz hI => by
        have hgo := hround ((brokL X l i).length) D1 h1 w' hbat.1 hsz hX1 hS1 hI
        simp only [hbat.2, hru] at hgo
        exact hgo) ?_
      rintro b47 D5 hp5 hK5 hX5
      refine g [[3]] ?_
      refine WC.cond rfl (fun c48 => ?_) (fun c48 => ?_)
      · try simp only [zq] at c48
        refine g [[5]] ?_
        refine WP.scRet ?_
        refine WP.ret0 rfl rfl rfl  (fun w1 hI => by
          obtain ⟨htt, _⟩ | ⟨_, hK5⟩ := hK5
          · simp_all
          exact ⟨_, D5, hp5, rfl, hX1.trans hX5 (Nat.le_refl _), hI.drop 4, .inr hK5⟩)
      try simp only [zq] at c48
      refine g [[3],[4,0,2,4,5,12,13,14]] ?_
      have hlen := brok_len X l i
      rw [hru] at hlen
      first
        | (rw [if_neg (by decide)] at hlen
           exact WP.again (⟨i + 1, D1, h1, es1, cl1⟩ : Nat × Imm × Hp × Array MapEntry × Nat) ⟨by simp only; omega, hX1, by simp only; rw [hlen]; exact hS1, hM1⟩ (by simp only; omega) (fun a w h => at_less h ⟨rfl, rfl, rfl, rfl, rfl, rfl, rfl, trivial⟩ (fun _ h => List.mem_cons_of_mem _ (List.mem_cons_of_mem _ h)) (fun h => (List.nodup_cons.1 (List.nodup_cons.1 h).2).2)))
        | (rw [if_pos (by decide)] at hlen
           obtain ⟨_, hK5⟩ | ⟨hff, _⟩ := hK5
           · exact WP.again (⟨i + 1, D5, hp5, es1, cl1⟩ : Nat × Imm × Hp × Array MapEntry × Nat) ⟨by simp only; omega, hX1.trans hX5 (Nat.le_refl _), by simp only; rw [hlen]; exact hK5, hM1⟩ (by simp only; omega) (fun a w h => at_less h ⟨rfl, rfl, rfl, rfl, rfl, rfl, rfl, trivial⟩ (fun _ h => List.mem_cons_of_mem _ (List.mem_cons_of_mem _ h)) (fun h => (List.nodup_cons.1 (List.nodup_cons.1 h).2).2))
           simp_all)
    try simp only [zq] at c28
    have hru : ruleI X l i = 0 := rule_0 hk1 hk2 c24 c28
    refine g [[4],[3,9,8,6,0,2,4,5,12,13,14]] ?_
    refine WL.know 41 (keyV y) rfl (by rw [hk1, hk2]; rfl) ?_
    refine WL.so (SO.putB (kv := keyV) (y := y) (j := 2) keyV_inj keyLaw key_ky UnF.h rfl rfl rfl rfl hM) rfl ?_
    rintro _ _ _ ⟨rfl, es1, cl1, rfl, hM1⟩
    rw [bkF_put hil hk1 hk2] at hM1
    refine g [[4],[10,9,6,0,2,4,5,12,13,14],[4,0,2,4,5,12,13,14]] ?_
    have hlen := brok_len X l i
    rw [hru] at hlen
    first
      | (rw [if_neg (by decide)] at hlen
         exact WP.again (⟨i + 1, D1, h1, es1, cl1⟩ : Nat × Imm × Hp × Array MapEntry × Nat) ⟨by simp only; omega, hX1, by simp only; rw [hlen]; exact hS1, hM1⟩ (by simp only; omega) (fun a w h => at_less h ⟨rfl, rfl, rfl, rfl, rfl, rfl, rfl, trivial⟩ (fun _ h => List.mem_cons_of_mem _ (List.mem_cons_of_mem _ h)) (fun h => (List.nodup_cons.1 (List.nodup_cons.1 h).2).2)))
      | (rw [if_pos (by decide)] at hlen
         obtain ⟨_, hK5⟩ | ⟨hff, _⟩ := hK5
         · exact WP.again (⟨i + 1, D5, hp5, es1, cl1⟩ : Nat × Imm × Hp × Array MapEntry × Nat) ⟨by simp only; omega, hX1.trans hX5 (Nat.le_refl _), by simp only; rw [hlen]; exact hK5, hM1⟩ (by simp only; omega) (fun a w h => at_less h ⟨rfl, rfl, rfl, rfl, rfl, rfl, rfl, trivial⟩ (fun _ h => List.mem_cons_of_mem _ (List.mem_cons_of_mem _ h)) (fun h => (List.nodup_cons.1 (List.nodup_cons.1 h).2).2))
         simp_all)
  try simp only [zq] at c15
  obtain rfl : i = l.length := by omega
  refine g [[4]] ?_
  refine WP.scNormal ?_
  refine WP.ret0 rfl rfl rfl  (fun w1 hI => ⟨_, D1, h1, rfl, hX1, hI.drop 2, .inl hS1⟩)
end Go.Proofs.YtejgofaeafphjaaGreatDoor
namespace Go.Proofs.YtejgofaeafphjaaGreatDoor
open Go.W Go.Ti
theorem broken_g (X : Till) (a1 : Option Addr) (n1 c1 : Nat) (ab : Option Addr) (nb cb : Nat) (D : Imm) (w : World) (hH : Holds D w) : Makes Tryz.prog 100 [.agg #[it X.tk.huts, .slice a1 n1 c1, it X.price, it X.fine, it X.wait], .slice ab nb cb] w D (fun v D' => ∃ b2 b3, v = .func (.func 185) #[] #[pt b3, pt b2] ∧ D' b3 = some (.cells (List.toArray [.slice ab nb cb]) 32 (0, 0)) ∧ D' b2 = some (.cells (List.toArray (tillC X (.slice a1 n1 c1))) 156 (0, 0))) := by
  unfold Makes
  refine en Tryz.func100 rfl Tryz.ntmps100 (Inv.start hH) (g [[1],[1,0,1]] ?_)
  refine WL.so (SO.box rfl rfl) rfl (zw fun b2 hb2 => ?_)
  refine WL.so (SO.box rfl rfl) rfl (zw fun b3 hb3 => ?_)
  refine g [[4]] ?_
  refine WC.freezeN 1 b2 (.cells (List.toArray (tillC X (.slice a1 n1 c1))) 156 (0, 0)) rfl rfl hb2 (fun D1 hX1 h2 => ?_)
  refine WC.freezeN 0 b3 (.cells (List.toArray [.slice ab nb cb]) 32 (0, 0)) rfl rfl hb3 (fun D2 hX2 h3 => ?_)
  replace h2 := hX2.old _ _ h2
  refine g [[6,4,3,2]] ?_
  refine WP.ret1 rfl rfl rfl (RV.tmp rfl) (fun w1 hI => ⟨_, D2, rfl, hI.keep, hI.imm, hX1.trans hX2 (Nat.le_refl _), b2, b3, rfl, h3, h2⟩)
theorem Check_e1 (X : Till) (a1 : Option Addr) (n1 c1 : Nat) (D : Imm) (w : World) (hR : TksR D X.tk a1 n1) (hH : Holds D w) (l : List Ent) (ab : Option Addr) (nb cb : Nat) (hB : BookR D l ab nb) (hE : tillE X l true ≠ 0) : Gives Tryz.prog 26 [.agg #[it X.tk.huts, .slice a1 n1 c1, it X.price, it X.fine, it X.wait], .slice ab nb cb] w (.tuple #[it (CheckOut X l).1, it (CheckOut X l).2.1, it (CheckOut X l).2.2]) := by
  unfold Gives
  obtain rfl := hR.tick.len'
  have hl1 := hR.len
  obtain rfl := hB.ent.len'
  have hlb := hB.len
  have hO0 : CheckOut X l = (0, 0, tillE X l true) := by unfold CheckOut; rw [toldE_1 hE, if_pos hE]
  refine enD Tryz.func26 rfl Tryz.ntmps26 (Inv.start hH) (g [[1],[1,0,1]] ?_)
  refine WL.so (SO.box rfl rfl) rfl (zw fun b2 hb2 => ?_)
  refine WL.so (SO.alloc ZvF.h rfl) rfl (zw fun b4 hb4 => ?_)
  refine WL.so (SO.alloc ZvF.h rfl) rfl (zw fun b5 hb5 => ?_)
  refine WL.so (SO.alloc ZvF.h rfl) rfl (zw fun b6 hb6 => ?_)
  refine g [[3],[2,6,5,4,2,1]] ?_
  refine WL.defer rfl (g [[4],[3,6,5,4,2,1]] ?_)
  refine WL.nf rfl (fun w hI => openX_no X a1 _ c1 _ _ hR hI.imm l ab _ cb hB 98 [] true CaF.h (fun w' _ => always_g (.bool true) X a1 _ c1 w') hE) (g [[2]] ?_)
  refine WP.panicD (k := 0) [_, _, _] [_, _, _] rfl CaF.h rfl (fun w hI => catch95 _ _ _ _ _ (hI.own _ _ (List.mem_of_getElem? (i := 0) rfl))) rfl zV (fun w hI => ⟨congrArg Ending.returned (by rw [hO0]; rfl), hI.keep⟩)
theorem Check_e2 (X : Till) (a1 : Option Addr) (n1 c1 : Nat) (D : Imm) (w : World) (hR : TksR D X.tk a1 n1) (hH : Holds D w) (l : List Ent) (ab : Option Addr) (nb cb : Nat) (hB : BookR D l ab nb) (hE : tillE X l true = 0) (hW : tksE X.tk true ≠ 0) : Gives Tryz.prog 26 [.agg #[it X.tk.huts, .slice a1 n1 c1, it X.price, it X.fine, it X.wait], .slice ab nb cb] w (.tuple #[it (CheckOut X l).1, it (CheckOut X l).2.1, it (CheckOut X l).2.2]) := by
  unfold Gives
  obtain rfl := hR.tick.len'
  have hl1 := hR.len
  obtain rfl := hB.ent.len'
  have hlb := hB.len
  have hO0 : CheckOut X l = (0, 0, tksE X.tk true) := by unfold CheckOut; rw [toldE_2 hE, if_pos hW]
  refine enD Tryz.func26 rfl Tryz.ntmps26 (Inv.start hH) (g [[1],[1,0,1]] ?_)
  refine WL.so (SO.box rfl rfl) rfl (zw fun b2 hb2 => ?_)
  refine WL.so (SO.alloc ZvF.h rfl) rfl (zw fun b4 hb4 => ?_)
  refine WL.so (SO.alloc ZvF.h rfl) rfl (zw fun b5 hb5 => ?_)
  refine WL.so (SO.alloc ZvF.h rfl) rfl (zw fun b6 hb6 => ?_)
  refine g [[3],[2,6,5,4,2,1]] ?_
  refine WL.defer rfl (g [[4],[3,6,5,4,2,1]] ?_)
  refine WL.cl rfl (fun w hI => openX_ok X a1 _ c1 _ _ hR hI.imm l ab _ cb hB 98 [] true CaF.h (fun w' _ => always_g (.bool true) X a1 _ c1 w') hE) ?_
  refine WL.nf rfl (fun w hI => told_no X a1 _ c1 _ _ hR hI.imm (by rw [Waits_e]; exact hW)) (g [[2]] ?_)
  refine WP.panicD (k := 0) [_, _, _] [_, _, _] rfl CaF.h rfl (fun w hI => catch95 _ _ _ _ _ (hI.own _ _ (List.mem_of_getElem? (i := 0) rfl))) rfl zV (fun w hI => ⟨congrArg Ending.returned (by rw [hO0, Waits_e]; rfl), hI.keep⟩)
theorem Check_ok (X : Till) (a1 : Option Addr) (n1 c1 : Nat) (D : Imm) (w : World) (hR : TksR D X.tk a1 n1) (hH : Holds D w) (l : List Ent) (ab : Option Addr) (nb cb : Nat) (hB : BookR D l ab nb) (hE : tillE X l true = 0) (hW : tksE X.tk true = 0) : Gives Tryz.prog 26 [.agg #[it X.tk.huts, .slice a1 n1 c1, it X.price, it X.fine, it X.wait], .slice ab nb cb] w (.tuple #[it (CheckOut X l).1, it (CheckOut X l).2.1, it (CheckOut X l).2.2]) := by
  unfold Gives
  obtain rfl := hR.tick.len'
  have hl1 := hR.len
  obtain rfl := hB.ent.len'
  have hlb := hB.len
  have hE0 : toldE X l = 0 := by rw [toldE_2 hE, hW]
  refine enM Tryz.func26 rfl Tryz.ntmps26 (Inv.start hH) (g [[1],[1,0,1]] ?_)
  refine WL.so (SO.box rfl rfl) rfl (zw fun b2 hb2 => ?_)
  refine WL.so (SO.alloc ZvF.h rfl) rfl (zw fun b4 hb4 => ?_)
  refine WL.so (SO.alloc ZvF.h rfl) rfl (zw fun b5 hb5 => ?_)
  refine WL.so (SO.alloc ZvF.h rfl) rfl (zw fun b6 hb6 => ?_)
  refine g [[3],[2,6,5,4,2,1]] ?_
  refine WL.defer rfl (g [[4],[3,6,5,4,2,1]] ?_)
  refine WL.cl rfl (fun w hI => openX_ok X a1 _ c1 _ _ hR hI.imm l ab _ cb hB 98 [] true CaF.h (fun w' _ => always_g (.bool true) X a1 _ c1 w') hE) ?_
  refine WL.cl rfl (fun w hI => told_ok X a1 _ c1 _ _ hR hI.imm (by rw [Waits_e]; exact hW)) (g [[1]] ?_)
  refine WL.so (SO.makes (Enters.func Tryz.call100 rfl) (fun w hI => broken_g X a1 _ c1 ab _ cb _ _ hI.imm)) rfl ?_
  rintro _ D4 _ ⟨hX4, ⟨bt, bb, rfl, hbb, hbt⟩, rfl⟩
  replace hB := hB.ext hX4
  replace hR := hR.ext hX4
  refine g [[3],[0,4,5,6,15]] ?_
  refine WC.rangeIterN2 (N := (brokL X l l.length).length) (arg1 := fun k => nt (gt (brokL X l l.length) k)) (arg2 := fun k => it (ruleI X l (gt (brokL X l l.length) k))) (fun w1 _ hD1 => broken1_iter X a1 _ c1 D4 l ab _ cb hB bt bb w1 hR hbt hbb hE hD1) rfl Tryz.call185 rfl rfl (fun k _ h => k = 0 ∧ h = [(b6, .cells (List.toArray [it 0]) 51 (0, 0)), (b5, .cells (List.toArray [it 0]) 3 (0, 0)), (b4, .cells (List.toArray [it 0]) 3 (0, 0)), (b2, .cells (List.toArray [it X.tk.huts, .slice a1 X.tk.l.length c1, it X.price, it X.fine, it X.wait]) 26 (0, 0))]) (fun c _ h => c = .ret ∧ 0 < (brokL X l l.length).length ∧ h = [(b6, .cells (List.toArray [it 0]) 51 (0, 0)), (b5, .cells (List.toArray [it (ruleI X l (gt (brokL X l l.length) 0))]) 3 (0, 0)), (b4, .cells (List.toArray [nt (gt (brokL X l l.length) 0)]) 3 (0, 0)), (b2, .cells (List.toArray [it X.tk.huts, .slice a1 X.tk.l.length c1, it X.price, it X.fine, it X.wait]) 26 (0, 0))]) (fun _ _ _ _ _ h => h) ⟨rfl, rfl⟩ ?_ ?_ ?_
  · rintro rec1 l1 Dn0 k D5 _ w1 hrec hk ⟨rfl, rfl⟩ hX5 hsz
    unfold RoundGN
    refine g [[1],[4,17,16,4,5,6],[3,7,17,4,5,6]] ?_
    refine WP.iterBegin 0 rfl hrec (g [[2],[10,8,7,4,5,6]] ?_)
    exact WP.iterRetN (h1 := [_, _, _, _]) (fun _ h => h) (fun h => h) (DExt.refl _ _) ⟨rfl, hk, rfl⟩
  · rintro Dn1 D6 _ hDn1 hX6 ⟨hN, rfl⟩
    have hnil := List.eq_nil_of_length_eq_zero hN
    refine g [[3],[7,4,5,6]] ?_
    refine WP.retMsD [Dn1] [_, _, _, _] [_, _, _] [_, _, _] rfl rfl CaF.h (fun w hI => idleM95 _ _) (fun _ h => h) (fun h => h) rfl zV (fun w hI => ⟨congrArg Ending.returned (by unfold CheckOut; rw [hE0, if_neg (by simp), hnil]; rfl), hI.keep⟩)
  rintro Dn1 c D6 _ hDn1 hX6 ⟨rfl, hN, rfl⟩
  refine g [[3]] ?_
  refine WP.retMsD [Dn1] [_, _, _, _] [_, _, _] [_, _, _] rfl rfl CaF.h (fun w hI => idleM95 _ _) (fun _ h => h) (fun h => h) rfl zV (fun w hI => ⟨congrArg Ending.returned (by
    unfold CheckOut
    rw [hE0, if_neg (by simp)]
    cases hbl : (brokL X l l.length) with
    | nil => rw [hbl] at hN; simp at hN
    | cons i r => rfl), hI.keep⟩)
theorem Check_g (X : Till) (a1 : Option Addr) (n1 c1 : Nat) (D : Imm) (w : World) (hR : TksR D X.tk a1 n1) (hH : Holds D w) (l : List Ent) (ab : Option Addr) (nb cb : Nat) (hB : BookR D l ab nb) : Gives Tryz.prog 26 [.agg #[it X.tk.huts, .slice a1 n1 c1, it X.price, it X.fine, it X.wait], .slice ab nb cb] w (.tuple #[it (CheckOut X l).1, it (CheckOut X l).2.1, it (CheckOut X l).2.2]) := by
  by_cases hE : tillE X l true = 0
  · by_cases hW : tksE X.tk true = 0
    · exact Check_ok X a1 n1 c1 D w hR hH l ab nb cb hB hE hW
    exact Check_e2 X a1 n1 c1 D w hR hH l ab nb cb hB hE hW
  exact Check_e1 X a1 n1 c1 D w hR hH l ab nb cb hB hE
theorem sumC_g (X : Till) (D : Imm) (l : List Ent) (ab : Option Addr) (nb cb : Nat) (hB : BookR D l ab nb) (b3 : Nat) (h3 : D b3 = some (.cells (List.toArray [.slice ab nb cb]) 32 (0, 0))) (i : Nat) (hi : i < l.length) (hp : 0 ≤ (gt l i).pence ∧ (gt l i).pence ≤ 2400) (w : World) (hH : Holds D w) : Gives Tryz.prog 104 [nt i, pt b3] w (it (signI (gt l i))) := by
  unfold Gives
  obtain rfl := hB.ent.len'
  have hlb := hB.len
  refine en Tryz.func104 rfl Tryz.ntmps104 (Inv.start hH) (g [[1],[5,0,1],[3,3,0,1]] ?_)
  refine WL.yd (Yd.ix rfl rfl (hB.ent.addr i (by omega))) rfl (g [[1]] ?_)
  refine WL.yd (Yd.l1 rfl ((hB.ent.at i (by omega)).rd 2 rfl)) rfl (g [[5],[3,4,3,0,1]] ?_)
  refine WL.yd (Yd.ix rfl rfl (hB.ent.addr i (by omega))) rfl (g [[1]] ?_)
  refine WL.yd (Yd.l1 rfl ((hB.ent.at i (by omega)).rd 1 rfl)) rfl (g [[3]] ?_)
  refine WC.cond rfl (fun c15 => ?_) (fun c15 => ?_)
  · try simp only [zq] at c15
    refine g [[2,4,3]] ?_
    refine WL.cl rfl (fun w hI => times_g (gt l i).pence (-1) _ (by omega)) (g [[4],[6,4,3]] ?_)
    refine WP.ret1 rfl rfl rfl (RV.tmp rfl) (fun w hI => ⟨by unfold signI; rw [if_pos c15], hI.keep⟩)
  try simp only [zq] at c15
  refine g [[3],[6,4,3]] ?_
  refine WP.ret1 rfl rfl rfl (RV.tmp rfl) (fun w hI => ⟨by unfold signI; rw [if_neg c15], hI.keep⟩)
theorem Sum_e1 (X : Till) (a1 : Option Addr) (n1 c1 : Nat) (D : Imm) (w : World) (hR : TksR D X.tk a1 n1) (hH : Holds D w) (l : List Ent) (ab : Option Addr) (nb cb : Nat) (hB : BookR D l ab nb) (hE : tillE X l true ≠ 0) : Gives Tryz.prog 27 [.agg #[it X.tk.huts, .slice a1 n1 c1, it X.price, it X.fine, it X.wait], .slice ab nb cb] w (.tuple #[it (SumOut X l).1, it (SumOut X l).2]) := by
  unfold Gives
  obtain rfl := hR.tick.len'
  have hl1 := hR.len
  obtain rfl := hB.ent.len'
  have hlb := hB.len
  have hO0 : SumOut X l = (0, tillE X l true) := by unfold SumOut; rw [toldE_1 hE, if_pos hE]
  refine enD Tryz.func27 rfl Tryz.ntmps27 (Inv.start hH) (g [[1],[1,0,1]] ?_)
  refine WL.so (SO.box rfl rfl) rfl (zw fun b2 hb2 => ?_)
  refine WL.so (SO.box rfl rfl) rfl (zw fun b3 hb3 => ?_)
  refine WL.so (SO.alloc ZvF.h rfl) rfl (zw fun b4 hb4 => ?_)
  refine WL.so (SO.alloc ZvF.h rfl) rfl (zw fun b5 hb5 => ?_)
  refine g [[3],[2,5,4,3,2]] ?_
  refine WL.defer rfl (g [[4]] ?_)
  refine WC.freezeN 3 b2 (.cells (List.toArray [it X.tk.huts, .slice a1 X.tk.l.length c1, it X.price, it X.fine, it X.wait]) 26 (0, 0)) rfl rfl hb2 (fun D2 hX2 h2 => ?_)
  replace hR := hR.ext hX2
  replace hB := hB.ext hX2
  refine WC.freezeN 2 b3 (.cells (List.toArray [.slice ab l.length cb]) 32 (0, 0)) rfl rfl hb3 (fun D3 hX3 h3 => ?_)
  replace h2 := hX3.old _ _ h2
  replace hR := hR.ext hX3
  replace hB := hB.ext hX3
  refine g [[0,5,4,3,2]] ?_
  refine WC.drawH [] zk (fun _ hI => hI.drop 99) (g [[1000],[1001],[1004]] ?_)
  refine WH.one (i := 2) zk (WHo.no rfl (SO.fail (Enters.func CaF.h rfl) (fun w hI => openX_no X a1 _ c1 _ _ hR hI.imm l ab _ cb hB 98 [] true CaF.h (fun w' _ => always_g (.bool true) X a1 _ c1 w') hE) (g [[2]] ?_)))
  refine WP.panicD (k := 0) [_, _] [_, _] rfl CaF.h rfl (fun w hI => catch101 _ _ _ _ _ (hI.own _ _ (List.mem_of_getElem? (i := 0) rfl))) rfl zV (fun w hI => ⟨congrArg Ending.returned (by rw [hO0]; rfl), hI.keep⟩)
theorem Sum_e2 (X : Till) (a1 : Option Addr) (n1 c1 : Nat) (D : Imm) (w : World) (hR : TksR D X.tk a1 n1) (hH : Holds D w) (l : List Ent) (ab : Option Addr) (nb cb : Nat) (hB : BookR D l ab nb) (hE : tillE X l true = 0) (hW : tksE X.tk true ≠ 0) : Gives Tryz.prog 27 [.agg #[it X.tk.huts, .slice a1 n1 c1, it X.price, it X.fine, it X.wait], .slice ab nb cb] w (.tuple #[it (SumOut X l).1, it (SumOut X l).2]) := by
  unfold Gives
  obtain rfl := hR.tick.len'
  have hl1 := hR.len
  obtain rfl := hB.ent.len'
  have hlb := hB.len
  have hO0 : SumOut X l = (0, tksE X.tk true) := by unfold SumOut; rw [toldE_2 hE, if_pos hW]
  refine enD Tryz.func27 rfl Tryz.ntmps27 (Inv.start hH) (g [[1],[1,0,1]] ?_)
  refine WL.so (SO.box rfl rfl) rfl (zw fun b2 hb2 => ?_)
  refine WL.so (SO.box rfl rfl) rfl (zw fun b3 hb3 => ?_)
  refine WL.so (SO.alloc ZvF.h rfl) rfl (zw fun b4 hb4 => ?_)
  refine WL.so (SO.alloc ZvF.h rfl) rfl (zw fun b5 hb5 => ?_)
  refine g [[3],[2,5,4,3,2]] ?_
  refine WL.defer rfl (g [[4]] ?_)
  refine WC.freezeN 3 b2 (.cells (List.toArray [it X.tk.huts, .slice a1 X.tk.l.length c1, it X.price, it X.fine, it X.wait]) 26 (0, 0)) rfl rfl hb2 (fun D2 hX2 h2 => ?_)
  replace hR := hR.ext hX2
  replace hB := hB.ext hX2
  refine WC.freezeN 2 b3 (.cells (List.toArray [.slice ab l.length cb]) 32 (0, 0)) rfl rfl hb3 (fun D3 hX3 h3 => ?_)
  replace h2 := hX3.old _ _ h2
  replace hR := hR.ext hX3
  replace hB := hB.ext hX3
  refine g [[0,5,4,3,2]] ?_
  refine WC.drawH [] zk (fun _ hI => hI.drop 99) (g [[1000],[1001],[1004]] ?_)
  refine WH.one (i := 2) zk (WHo.so rfl (SO.callP CaF.h rfl (fun w hI => openX_ok X a1 _ c1 _ _ hR hI.imm l ab _ cb hB 98 [] true CaF.h (fun w' _ => always_g (.bool true) X a1 _ c1 w') hE)) rfl ?_)
  rintro _ _ _ ⟨rfl, rfl, rfl⟩
  refine ⟨(fun _ hI => hI.drop 99), ?_⟩
  refine WH.one (i := 3) zk (WHo.no rfl (SO.fail (Enters.func CaF.h rfl) (fun w hI => told_no X a1 _ c1 _ _ hR hI.imm (by rw [Waits_e]; exact hW)) (g [[2]] ?_)))
  refine WP.panicD (k := 0) [_, _] [_, _] rfl CaF.h rfl (fun w hI => catch101 _ _ _ _ _ (hI.own _ _ (List.mem_of_getElem? (i := 0) rfl))) rfl zV (fun w hI => ⟨congrArg Ending.returned (by rw [hO0, Waits_e]; rfl), hI.keep⟩)
theorem Sum_ok (X : Till) (a1 : Option Addr) (n1 c1 : Nat) (D : Imm) (w : World) (hR : TksR D X.tk a1 n1) (hH : Holds D w) (l : List Ent) (ab : Option Addr) (nb cb : Nat) (hB : BookR D l ab nb) (hE : tillE X l true = 0) (hW : tksE X.tk true = 0) : Gives Tryz.prog 27 [.agg #[it X.tk.huts, .slice a1 n1 c1, it X.price, it X.fine, it X.wait], .slice ab nb cb] w (.tuple #[it (SumOut X l).1, it (SumOut X l).2]) := by
  unfold Gives
  obtain rfl := hR.tick.len'
  have hl1 := hR.len
  obtain rfl := hB.ent.len'
  have hlb := hB.len
  have hE0 : toldE X l = 0 := by rw [toldE_2 hE, hW]
  refine enM Tryz.func27 rfl Tryz.ntmps27 (Inv.start hH) (g [[1],[1,0,1]] ?_)
  refine WL.so (SO.box rfl rfl) rfl (zw fun b2 hb2 => ?_)
  refine WL.so (SO.box rfl rfl) rfl (zw fun b3 hb3 => ?_)
  refine WL.so (SO.alloc ZvF.h rfl) rfl (zw fun b4 hb4 => ?_)
  refine WL.so (SO.alloc ZvF.h rfl) rfl (zw fun b5 hb5 => ?_)
  refine g [[3],[2,5,4,3,2]] ?_
  refine WL.defer rfl (g [[4]] ?_)
  refine WC.freezeN 3 b2 (.cells (List.toArray [it X.tk.huts, .slice a1 X.tk.l.length c1, it X.price, it X.fine, it X.wait]) 26 (0, 0)) rfl rfl hb2 (fun D2 hX2 h2 => ?_)
  replace hR := hR.ext hX2
  replace hB := hB.ext hX2
  refine WC.freezeN 2 b3 (.cells (List.toArray [.slice ab l.length cb]) 32 (0, 0)) rfl rfl hb3 (fun D3 hX3 h3 => ?_)
  replace h2 := hX3.old _ _ h2
  replace hR := hR.ext hX3
  replace hB := hB.ext hX3
  refine g [[0,5,4,3,2]] ?_
  refine WC.drawH [] zk (fun _ hI => hI.drop 99) (g [[1000],[1001],[1004]] ?_)
  refine WH.one (i := 2) zk (WHo.so rfl (SO.callP CaF.h rfl (fun w hI => openX_ok X a1 _ c1 _ _ hR hI.imm l ab _ cb hB 98 [] true CaF.h (fun w' _ => always_g (.bool true) X a1 _ c1 w') hE)) rfl ?_)
  rintro _ _ _ ⟨rfl, rfl, rfl⟩
  refine ⟨(fun _ hI => hI.drop 99), ?_⟩
  refine WH.one (i := 3) zk (WHo.so rfl (SO.callP CaF.h rfl (fun w hI => told_ok X a1 _ c1 _ _ hR hI.imm (by rw [Waits_e]; exact hW))) rfl ?_)
  rintro _ _ _ ⟨rfl, rfl, rfl⟩
  refine ⟨(fun _ hI => hI.drop 99), ?_⟩
  refine WH.one (i := 5) zk (WHo.so rfl (SO.makes (Enters.func Tryz.call100 rfl) (fun w hI => broken_g X a1 _ c1 ab _ cb _ _ hI.imm)) rfl ?_)
  rintro _ D4 _ ⟨hX4, ⟨bt, bb, rfl, hbb, hbt⟩, rfl⟩
  replace hB := hB.ext hX4
  replace hR := hR.ext hX4
  replace h3 := hX4.old _ _ h3
  refine ⟨(fun _ hI => (hI.drop 99).shrink hX4.old), ?_⟩
  refine WH.nil zk (g [[2],[0,3,4,5,12]] ?_)
  refine WC.rangeIterN2 (N := (brokL X l l.length).length) (arg1 := fun k => nt (gt (brokL X l l.length) k)) (arg2 := fun k => it (ruleI X l (gt (brokL X l l.length) k))) (fun w1 _ hD1 => broken1_iter X a1 _ c1 D4 l ab _ cb hB bt bb w1 hR hbt hbb hE hD1) rfl Tryz.call185 rfl rfl (fun k _ h => k = 0 ∧ h = [(b5, .cells (List.toArray [it 0]) 51 (0, 0)), (b4, .cells (List.toArray [it 0]) 3 (0, 0))]) (fun c _ h => c = .ret ∧ 0 < (brokL X l l.length).length ∧ h = [(b5, .cells (List.toArray [it 11]) 51 (0, 0)), (b4, .cells (List.toArray [it 0]) 3 (0, 0))]) (fun _ _ _ _ _ h => h) ⟨rfl, rfl⟩ ?_ ?_ ?_
  · rintro rec1 l1 Dn0 k D5 _ w1 hrec hk ⟨rfl, rfl⟩ hX5 hsz
    unfold RoundGN
    refine g [[1]] ?_
    refine WP.iterBegin 0 rfl hrec (g [[2],[7,4,5]] ?_)
    exact WP.iterRetN (h1 := [_, _]) (fun _ h => h) (fun h => h) (DExt.refl _ _) ⟨rfl, hk, rfl⟩
  · rintro Dn1 D6 _ hDn1 hX6 ⟨hN, rfl⟩
    have hnil := List.eq_nil_of_length_eq_zero hN
    have hpk : ∀ i, i < l.length → 0 ≤ (gt l i).pence ∧ (gt l i).pence ≤ 2400 := (fun i hi => can_num (tillE_all hE).1 (rule_zero (brok_nil hnil i hi)))
    replace h3 := hX6.old _ _ h3
    replace hB := hB.ext hX6
    refine g [[3],[5,3,4,5]] ?_
    refine WL.so (SO.makes (Enters.func Tryz.call103 rfl) (fun w hI => foundP_g l.length hlb 104 [pt b3] (fun i => signI (gt l i)) D6 _ hI.imm Tryz.call104 (fun i hi w' hH' => sumC_g X D6 l ab _ cb hB b3 h3 i hi (hpk i hi) w' hH'))) rfl ?_
    rintro _ D7 _ ⟨hX7, ⟨a9, c9, rfl, hS9⟩, rfl⟩
    refine WL.cl rfl (fun w hI => total_g ((List.range l.length).map fun i => signI (gt l i)) a9 _ c9 D7 _ hS9 hlb (by intro k hk; simp only [List.length_map, List.length_range] at hk; have h1 := hpk k hk; rw [show gt ((List.range l.length).map fun i => signI (gt l i)) k = signI (gt l k) by simp [gt, List.getD, hk]]; unfold signI; split <;> omega) hI.imm) (g [[5]] ?_)
    refine WP.retMsD [Dn1] [_, _] [_, _] [_, _] rfl rfl CaF.h (fun w hI => idleM101 _ _) (fun _ h => h) (fun h => h) rfl zV (fun w hI => ⟨congrArg Ending.returned (by unfold SumOut; rw [hE0, if_neg (by simp), if_neg (by rw [hnil]; simp)]; rfl), hI.keep⟩)
  rintro Dn1 c D6 _ hDn1 hX6 ⟨rfl, hN, rfl⟩
  refine g [[3]] ?_
  refine WP.retMsD [Dn1] [_, _] [_, _] [_, _] rfl rfl CaF.h (fun w hI => idleM101 _ _) (fun _ h => h) (fun h => h) rfl zV (fun w hI => ⟨congrArg Ending.returned (by unfold SumOut; rw [hE0, if_neg (by simp), if_pos (List.ne_nil_of_length_pos hN)]; rfl), hI.keep⟩)
theorem Sum_g (X : Till) (a1 : Option Addr) (n1 c1 : Nat) (D : Imm) (w : World) (hR : TksR D X.tk a1 n1) (hH : Holds D w) (l : List Ent) (ab : Option Addr) (nb cb : Nat) (hB : BookR D l ab nb) : Gives Tryz.prog 27 [.agg #[it X.tk.huts, .slice a1 n1 c1, it X.price, it X.fine, it X.wait], .slice ab nb cb] w (.tuple #[it (SumOut X l).1, it (SumOut X l).2]) := by
  by_cases hE : tillE X l true = 0
  · by_cases hW : tksE X.tk true = 0
    · exact Sum_ok X a1 n1 c1 D w hR hH l ab nb cb hB hE hW
    exact Sum_e2 X a1 n1 c1 D w hR hH l ab nb cb hB hE hW
  exact Sum_e1 X a1 n1 c1 D w hR hH l ab nb cb hB hE
end Go.Proofs.YtejgofaeafphjaaGreatDoor
namespace Go.Ti
open Go.W
structure Mark where
  minute : Int
  high : Sp
deriving DecidableEq, Inhabited
structure Look where
  place : Int
  minute : Int
  depth : Sp
deriving DecidableEq, Inhabited
structure Tide where
  marks : List Mark
  sand : List Sp
  looks : List Look
deriving DecidableEq, Inhabited
def highB (s : Sp) : Bool := decide (0 ≤ s.lo ∧ s.lo ≤ s.hi ∧ s.hi ≤ 60)
def narrowB (s : Sp) : Bool := highB s && decide (s.hi - s.lo ≤ 2)
def apartB (T : Tide) (i : Nat) : Bool := decide (i = 0 ∨ (gt T.marks (i - 1)).minute + 6 ≤ (gt T.marks i).minute)
def markB (T : Tide) (i : Nat) : Bool := inB (gt T.marks i).minute 0 240 && narrowB (gt T.marks i).high && apartB T i
def firstM (T : Tide) : Int := (gt T.marks 0).minute
def lastM (T : Tide) : Int := (gt T.marks (T.marks.length - 1)).minute
def placeB (T : Tide) (n : Int) : Bool := decide (0 ≤ n ∧ n ≤ (T.sand.length : Int) - 1)
def minuteB (T : Tide) (n : Int) : Bool := decide (firstM T ≤ n ∧ n ≤ lastM T)
def lookB (T : Tide) (l : Look) : Bool := placeB T l.place && minuteB T l.minute && highB l.depth
def tideB (T : Tide) : Bool := decide (2 ≤ T.marks.length ∧ T.marks.length ≤ 4) && decide (1 ≤ T.sand.length ∧ T.sand.length ≤ 4) && decide (T.looks.length ≤ 6) &&
  (List.range T.marks.length).all (markB T) && T.sand.all narrowB && T.looks.all (lookB T)
structure TideOk (T : Tide) : Prop where
  nm : 2 ≤ T.marks.length ∧ T.marks.length ≤ 4
  ns : 1 ≤ T.sand.length ∧ T.sand.length ≤ 4
  nl : T.looks.length ≤ 6
  mark : ∀ i, i < T.marks.length → (0 ≤ (gt T.marks i).minute ∧ (gt T.marks i).minute ≤ 240) ∧ narrowB (gt T.marks i).high = true
  apart : ∀ i, i + 1 < T.marks.length → (gt T.marks i).minute + 6 ≤ (gt T.marks (i + 1)).minute
  sand : ∀ i, i < T.sand.length → narrowB (gt T.sand i) = true
  look : ∀ i, i < T.looks.length → lookB T (gt T.looks i) = true
theorem markB_iff {T : Tide} {i : Nat} : markB T i = true ↔ ((0 ≤ (gt T.marks i).minute ∧ (gt T.marks i).minute ≤ 240) ∧ narrowB (gt T.marks i).high = true) ∧ (i = 0 ∨ (gt T.marks (i - 1)).minute + 6 ≤ (gt T.marks i).minute) := by
  simp only [markB, apartB, inB, Bool.and_eq_true, decide_eq_true_eq]
theorem tideB_iff {T : Tide} : tideB T = true ↔ TideOk T := by
  simp only [tideB, Bool.and_eq_true, decide_eq_true_eq, List.all_eq_true, List.mem_range]
  constructor
  · rintro ⟨⟨⟨⟨⟨a, b⟩, c⟩, d⟩, e⟩, f⟩
    exact ⟨a, b, c, fun i hi => (markB_iff.1 (d i hi)).1, fun i hi => (by
      rcases (markB_iff.1 (d (i + 1) hi)).2 with h | h
      · omega
      · simpa using h), fun i hi => e _ (gt_mem hi), fun i hi => f _ (gt_mem hi)⟩
  · intro h
    refine ⟨⟨⟨⟨⟨h.nm, h.ns⟩, h.nl⟩, fun i hi => markB_iff.2 ⟨h.mark i hi, ?_⟩⟩, fun x hx => ?_⟩, fun x hx => ?_⟩
    · rcases Nat.eq_zero_or_pos i with rfl | h0
      · exact .inl rfl
      · exact .inr (by have := h.apart (i - 1) (by omega); rwa [show i - 1 + 1 = i by omega] at this)
    · obtain ⟨i, hi, rfl⟩ := mem_gt hx; exact h.sand i hi
    · obtain ⟨i, hi, rfl⟩ := mem_gt hx; exact h.look i hi
theorem narrow_iff {s : Sp} : narrowB s = true ↔ (0 ≤ s.lo ∧ s.lo ≤ s.hi ∧ s.hi ≤ 60) ∧ s.hi - s.lo ≤ 2 := by
  simp only [narrowB, highB, Bool.and_eq_true, decide_eq_true_eq]
theorem TideOk.rise {T : Tide} (h : TideOk T) : ∀ d i, i + d < T.marks.length → (gt T.marks i).minute + 6 * (d : Int) ≤ (gt T.marks (i + d)).minute
  | 0, i, _ => by simp
  | d + 1, i, hi => by
    have h1 := h.rise d i (by omega)
    have h2 := h.apart (i + d) (by omega)
    rw [show i + (d + 1) = i + d + 1 by omega]
    push_cast
    omega
theorem TideOk.less {T : Tide} (h : TideOk T) {i j : Nat} (hij : i < j) (hj : j < T.marks.length) : (gt T.marks i).minute + 6 ≤ (gt T.marks j).minute := by
  have := h.rise (j - i) i (by omega)
  rw [show i + (j - i) = j by omega] at this
  omega
def doneN : Nat → Int
  | 0 => 0 | 1 => 1 | 2 => 3 | 3 => 6 | 4 => 9 | 5 => 11 | _ => 12
def donL : List Int := [0, 1, 3, 6, 9, 11, 12]
theorem done_num (k : Nat) : 0 ≤ doneN k ∧ doneN k ≤ 12 := by
  unfold doneN; split <;> omega
theorem done_rise (k : Nat) : doneN k ≤ doneN (k + 1) ∧ doneN (k + 1) - doneN k ≤ 3 := by
  match k with
  | 0 | 1 | 2 | 3 | 4 => decide
  | 5 => decide
  | k + 6 => exact ⟨Int.le_refl _, by show (12 : Int) - 12 ≤ 3; omega⟩
def findM (T : Tide) (m : Int) : Nat → Nat → Nat
  | 0, i => i
  | n + 1, i => if m ≤ (gt T.marks i).minute then i else findM T m n (i + 1)
def nextN (T : Tide) (m : Int) : Nat := max 1 (findM T m T.marks.length 0)
theorem findM_spec (T : Tide) (m : Int) : ∀ n i, (∀ j, j < i → (gt T.marks j).minute < m) → (∀ j, j < findM T m n i → (gt T.marks j).minute < m) ∧ findM T m n i ≤ i + n ∧ (findM T m n i < i + n → m ≤ (gt T.marks (findM T m n i)).minute)
  | 0, i, h => ⟨h, Nat.le_refl _, fun h => absurd h (Nat.lt_irrefl _)⟩
  | n + 1, i, h => by
    rw [findM]
    split
    · rename_i hm
      exact ⟨h, by omega, fun _ => hm⟩
    · rename_i hm
      have := findM_spec T m n (i + 1) (ext_round h (by omega))
      exact ⟨this.1, by omega, fun h2 => this.2.2 (by omega)⟩
theorem findM_last {T : Tide} (h : TideOk T) {m : Int} (hm : m ≤ lastM T) : findM T m T.marks.length 0 < T.marks.length := by
  have h1 := findM_spec T m T.marks.length 0 (fun j hj => absurd hj (Nat.not_lt_zero _))
  have h2 := h.nm
  rcases Nat.lt_or_ge (findM T m T.marks.length 0) T.marks.length with h3 | h3
  · exact h3
  · have := h1.1 (T.marks.length - 1) (by omega)
    unfold lastM at hm
    omega
def moveI (L x : Int) : Int := doneN (6 * x / L).toNat * L + if 0 < 6 * x % L then (doneN ((6 * x / L).toNat + 1) - doneN (6 * x / L).toNat) * (6 * x % L) else 0
def standI (T : Tide) (h : Nat → Int) (m : Int) (k : Nat) : Int :=
  (h (k - 1) * (12 * ((gt T.marks k).minute - (gt T.marks (k - 1)).minute) - moveI ((gt T.marks k).minute - (gt T.marks (k - 1)).minute) (m - (gt T.marks (k - 1)).minute)) + h k * moveI ((gt T.marks k).minute - (gt T.marks (k - 1)).minute) (m - (gt T.marks (k - 1)).minute)) / (12 * ((gt T.marks k).minute - (gt T.marks (k - 1)).minute))
def standsI (T : Tide) (h : Nat → Int) (m : Int) : Int := standI T h m (nextN T m)
theorem next_spec {T : Tide} (h : TideOk T) {m : Int} (hm : minuteB T m = true) : 1 ≤ nextN T m ∧ nextN T m < T.marks.length ∧ (gt T.marks (nextN T m - 1)).minute ≤ m ∧ m ≤ (gt T.marks (nextN T m)).minute ∧ (nextN T m = 1 ∨ (gt T.marks (nextN T m - 1)).minute < m) := by
  have hm' : firstM T ≤ m ∧ m ≤ lastM T := by simpa [minuteB] using hm
  have h1 := findM_spec T m T.marks.length 0 (fun j hj => absurd hj (Nat.not_lt_zero _))
  have h2 := findM_last h hm'.2
  have h3 := h1.2.2 (by omega)
  have hn := h.nm
  rcases Nat.eq_zero_or_pos (findM T m T.marks.length 0) with e | e
  · have e2 : nextN T m = 1 := by unfold nextN; omega
    rw [e] at h3
    have h5 := h.less (i := 0) (j := 1) (by omega) (by omega)
    have h4 : firstM T = (gt T.marks 0).minute := rfl
    rw [e2]
    exact ⟨by omega, by omega, by show (gt T.marks 0).minute ≤ m; omega, by omega, .inl rfl⟩
  · have e2 : nextN T m = findM T m T.marks.length 0 := by unfold nextN; omega
    have h5 := h1.1 (findM T m T.marks.length 0 - 1) (by omega)
    rw [e2]
    exact ⟨by omega, by omega, by omega, h3, .inr h5⟩
theorem move_num {L x : Int} (hL : 0 < L) (h0 : 0 ≤ x) (hx : x ≤ L) : 0 ≤ 6 * x / L ∧ 6 * x / L ≤ 6 ∧ 0 ≤ 6 * x % L ∧ 6 * x % L < L ∧ 0 ≤ moveI L x ∧ moveI L x ≤ 12 * L ∧ (6 * x / L = 6 → 6 * x % L = 0) := by
  have h1 : 0 ≤ 6 * x / L := Int.ediv_nonneg (by omega) (by omega)
  have h2 : 6 * x / L ≤ 6 := by
    have : 6 * x / L ≤ 6 * L / L := Int.ediv_le_ediv hL (by omega)
    rwa [Int.mul_ediv_cancel _ (by omega)] at this
  have h3 : 0 ≤ 6 * x % L := Int.emod_nonneg _ (by omega)
  have h4 : 6 * x % L < L := Int.emod_lt_of_pos _ hL
  have h5 := Int.mul_ediv_add_emod (6 * x) L
  have h6 : 6 * x / L = 6 → 6 * x % L = 0 := fun e => by
    rw [e] at h5; omega
  refine ⟨h1, h2, h3, h4, ?_, ?_, h6⟩
  · unfold moveI
    have a := (done_num (6 * x / L).toNat).1
    have b := (done_rise (6 * x / L).toNat).1
    have c : 0 ≤ doneN (6 * x / L).toNat * L := Int.mul_nonneg a (by omega)
    split
    · have : 0 ≤ (doneN ((6 * x / L).toNat + 1) - doneN (6 * x / L).toNat) * (6 * x % L) := Int.mul_nonneg (by omega) h3
      omega
    · omega
  · unfold moveI
    have a := (done_num ((6 * x / L).toNat + 1)).2
    have b := (done_rise (6 * x / L).toNat).1
    split
    · have c : (doneN ((6 * x / L).toNat + 1) - doneN (6 * x / L).toNat) * (6 * x % L) ≤ (doneN ((6 * x / L).toNat + 1) - doneN (6 * x / L).toNat) * L := Int.mul_le_mul_of_nonneg_left (by omega) (by omega)
      have d : doneN (6 * x / L).toNat * L + (doneN ((6 * x / L).toNat + 1) - doneN (6 * x / L).toNat) * L = doneN ((6 * x / L).toNat + 1) * L := by rw [← Int.add_mul]; congr 1; omega
      have e : doneN ((6 * x / L).toNat + 1) * L ≤ 12 * L := Int.mul_le_mul_of_nonneg_right a (by omega)
      omega
    · have e : doneN (6 * x / L).toNat * L ≤ 12 * L := Int.mul_le_mul_of_nonneg_right (done_num _).2 (by omega)
      omega
theorem stand_num {a b L f : Int} (hL : 0 < L) (ha : 0 ≤ a ∧ a ≤ 60) (hb : 0 ≤ b ∧ b ≤ 60) (hf : 0 ≤ f ∧ f ≤ 12 * L) : 0 ≤ (a * (12 * L - f) + b * f) / (12 * L) ∧ (a * (12 * L - f) + b * f) / (12 * L) ≤ 60 ∧ 0 ≤ a * (12 * L - f) ∧ a * (12 * L - f) ≤ 60 * (12 * L) ∧ 0 ≤ b * f ∧ b * f ≤ 60 * (12 * L) ∧ a * (12 * L - f) + b * f ≤ 60 * (12 * L) := by
  have h1 : 0 ≤ a * (12 * L - f) := Int.mul_nonneg ha.1 (by omega)
  have h2 : 0 ≤ b * f := Int.mul_nonneg hb.1 hf.1
  have h3 : a * (12 * L - f) ≤ 60 * (12 * L - f) := Int.mul_le_mul_of_nonneg_right ha.2 (by omega)
  have h4 : b * f ≤ 60 * f := Int.mul_le_mul_of_nonneg_right hb.2 hf.1
  refine ⟨Int.ediv_nonneg (by omega) (by omega), ?_, h1, by omega, h2, by omega, by omega⟩
  have h5 : (a * (12 * L - f) + b * f) / (12 * L) ≤ 60 * (12 * L) / (12 * L) := Int.ediv_le_ediv (by omega) (by omega)
  rwa [Int.mul_ediv_cancel _ (by omega)] at h5
def HighH (T : Tide) (h : Nat → Int) : Prop := ∀ i, i < T.marks.length → 0 ≤ h i ∧ h i ≤ 60
theorem stands_num {T : Tide} (hT : TideOk T) {h : Nat → Int} (hh : HighH T h) {m : Int} (hm : minuteB T m = true) : 0 ≤ standsI T h m ∧ standsI T h m ≤ 60 := by
  obtain ⟨h1, h2, h3, h4, _⟩ := next_spec hT hm
  have h5 := hT.less (i := nextN T m - 1) (j := nextN T m) (by omega) h2
  obtain ⟨_, _, _, _, h6, h7, _⟩ := move_num (L := (gt T.marks (nextN T m)).minute - (gt T.marks (nextN T m - 1)).minute) (x := m - (gt T.marks (nextN T m - 1)).minute) (by omega) (by omega) (by omega)
  have := stand_num (L := (gt T.marks (nextN T m)).minute - (gt T.marks (nextN T m - 1)).minute) (by omega) (hh (nextN T m - 1) (by omega)) (hh (nextN T m) h2) ⟨h6, h7⟩
  exact ⟨this.1, this.2.1⟩
def moreN : Nat → Int
  | 0 => 1 | 1 => 2 | 2 => 3 | 3 => 3 | 4 => 2 | _ => 1
def moveR (L x : Int) : Int := doneN (6 * x / L).toNat * L + moreN (6 * x / L).toNat * (6 * x % L)
def standR (T : Tide) (h : Nat → Int) (m : Int) (k : Nat) : Int :=
  (h (k - 1) * (12 * ((gt T.marks k).minute - (gt T.marks (k - 1)).minute) - moveR ((gt T.marks k).minute - (gt T.marks (k - 1)).minute) (m - (gt T.marks (k - 1)).minute)) + h k * moveR ((gt T.marks k).minute - (gt T.marks (k - 1)).minute) (m - (gt T.marks (k - 1)).minute)) / (12 * ((gt T.marks k).minute - (gt T.marks (k - 1)).minute))
def goR (T : Tide) (h : Nat → Int) (m : Int) : Nat → Nat → Int
  | 0, _ => h 0
  | n + 1, i => if m = (gt T.marks i).minute then h i else if (gt T.marks (i - 1)).minute ≤ m ∧ m < (gt T.marks i).minute then standR T h m i else goR T h m n (i + 1)
def standsR (T : Tide) (h : Nat → Int) (m : Int) : Int := goR T h m (T.marks.length - 1) 1
theorem move_same {L x : Int} (hL : 0 < L) (h0 : 0 ≤ x) (hx : x < L) : moveI L x = moveR L x := by
  have h2 : 6 * x / L < 6 := Int.ediv_lt_of_lt_mul hL (by omega)
  have h1 : 0 ≤ 6 * x / L := Int.ediv_nonneg (by omega) (by omega)
  have h3 : 0 ≤ 6 * x % L := Int.emod_nonneg _ (by omega)
  unfold moveI moveR
  obtain ⟨k, hk⟩ : ∃ k : Nat, 6 * x / L = k := ⟨(6 * x / L).toNat, by omega⟩
  rw [hk]
  have hk6 : k < 6 := by omega
  have e : doneN (k + 1) - doneN k = moreN k := by
    match k, hk6 with
    | 0, _ | 1, _ | 2, _ | 3, _ | 4, _ | 5, _ => rfl
  simp only [Int.toNat_natCast]
  split
  · rw [e]
  · rename_i h
    have : 6 * x % L = 0 := by omega
    rw [this, Int.mul_zero]
theorem move_end {L : Int} (hL : 0 < L) : moveI L L = 12 * L := by
  have h1 : 6 * L / L = 6 := Int.mul_ediv_cancel _ (by omega)
  have h2 : 6 * L % L = 0 := Int.mul_emod_left _ _
  unfold moveI
  rw [h1, h2, if_neg (by omega)]
  show doneN 6 * L + 0 = _
  rw [Int.add_zero]; rfl
theorem goR_at {T : Tide} (hT : TideOk T) (h : Nat → Int) {m : Int} {k : Nat} (hk : k < T.marks.length) (hlo : (gt T.marks (k - 1)).minute ≤ m) (hhi : m ≤ (gt T.marks k).minute) (h1 : k = 1 ∨ (gt T.marks (k - 1)).minute < m) : ∀ d i, 1 ≤ i → i + d = k → goR T h m (T.marks.length - i) i = if m = (gt T.marks k).minute then h k else standR T h m k
  | 0, i, hi, e => by
    obtain rfl : i = k := by omega
    rw [show T.marks.length - i = (T.marks.length - i - 1) + 1 by omega, goR]
    split
    · rfl
    · rw [if_pos ⟨hlo, by omega⟩]
  | d + 1, i, hi, e => by
    rw [show T.marks.length - i = (T.marks.length - (i + 1)) + 1 by omega, goR]
    have h2 := hT.less (i := i) (j := k) (by omega) hk
    have h3 : (gt T.marks i).minute < m := by
      rcases h1 with h1 | h1
      · omega
      · rcases Nat.lt_or_ge i (k - 1) with h4 | h4
        · have := hT.less (i := i) (j := k - 1) h4 (by omega); omega
        · have : i = k - 1 := by omega
          rw [this]; exact h1
    rw [if_neg (by omega), if_neg (by omega)]
    exact goR_at hT h hk hlo hhi h1 d (i + 1) (by omega) (by omega)
theorem stands_same {T : Tide} (hT : TideOk T) (h : Nat → Int) {m : Int} (hm : minuteB T m = true) : standsI T h m = standsR T h m := by
  obtain ⟨h1, h2, h3, h4, h5⟩ := next_spec hT hm
  have h6 := hT.less (i := nextN T m - 1) (j := nextN T m) (by omega) h2
  unfold standsR
  rw [goR_at hT h h2 h3 h4 h5 (nextN T m - 1) 1 (Nat.le_refl _) (by omega)]
  unfold standsI
  generalize nextN T m = k at *
  split
  · rename_i e
    unfold standI
    rw [e, move_end (by omega), Int.sub_self, Int.mul_zero, Int.zero_add]
    exact Int.mul_ediv_cancel _ (by omega)
  · unfold standI standR
    rw [move_same (by omega) (by omega) (by omega)]
end Go.Ti
namespace Go.Ti
open Go.W
abbrev Hts := Nat → Int
def updH (h : Hts) (k : Nat) (n : Int) : Hts := fun j => if j = k then n else h j
theorem updH_same (h : Hts) (k : Nat) (n : Int) : updH h k n k = n := if_pos rfl
theorem updH_ne (h : Hts) {k j : Nat} (n : Int) (e : j ≠ k) : updH h k n j = h j := if_neg e
def zeroH : Hts := fun _ => 0
def hsL (T : Tide) : Nat → Hts → Nat → List Hts
  | 0, h, _ => [h]
  | r + 1, h, k => (rng (gt T.marks k).high.lo (gt T.marks k).high.hi).flatMap fun n => hsL T r (updH h k n) (k + 1)
def fitB (l : Look) (w n : Int) : Bool := decide (l.depth.lo ≤ max 0 (w - n) ∧ max 0 (w - n) ≤ l.depth.hi)
def sandB (T : Tide) (h : Hts) (p : Nat) (n : Int) : Bool := T.looks.all fun l => !decide (l.place = (p : Int)) || fitB l (standsI T h l.minute) n
def setL (T : Tide) (h : Hts) (p : Nat) : List Int := (rng (gt T.sand p).lo (gt T.sand p).hi).filter (sandB T h p)
def truB (T : Tide) (h : Hts) : Bool := (List.range T.sand.length).all fun p => !(setL T h p).isEmpty
def tdL (T : Tide) : List Hts := (hsL T T.marks.length zeroH 0).filter (truB T)
structure HtsOk (T : Tide) (h : Hts) : Prop where
  at_ : ∀ i, i < T.marks.length → (gt T.marks i).high.lo ≤ h i ∧ h i ≤ (gt T.marks i).high.hi
  rest : ∀ i, T.marks.length ≤ i → h i = 0
theorem mem_hsL {T : Tide} : ∀ (r : Nat) (h : Hts) (k : Nat) (x : Hts), x ∈ hsL T r h k ↔ (∀ i, i < k → x i = h i) ∧ (∀ i, k ≤ i → i < k + r → (gt T.marks i).high.lo ≤ x i ∧ x i ≤ (gt T.marks i).high.hi) ∧ (∀ i, k + r ≤ i → x i = h i)
  | 0, h, k, x => by
    rw [hsL, List.mem_singleton]
    constructor
    · rintro rfl
      exact ⟨fun _ _ => rfl, fun i h1 h2 => by omega, fun _ _ => rfl⟩
    · rintro ⟨h1, _, h3⟩
      funext i
      rcases Nat.lt_or_ge i k with h4 | h4
      · exact h1 i h4
      · exact h3 i (by omega)
  | r + 1, h, k, x => by
    rw [hsL, List.mem_flatMap]
    constructor
    · rintro ⟨n, hn, hx⟩
      rw [mem_hsL r] at hx
      obtain ⟨h1, h2, h3⟩ := hx
      rw [mem_rng] at hn
      refine ⟨fun i hi => by rw [h1 i (by omega), updH_ne h n (by omega)], fun i hi1 hi2 => ?_, fun i hi => by rw [h3 i (by omega), updH_ne h n (by omega)]⟩
      rcases Nat.eq_or_lt_of_le hi1 with e | e
      · subst e; rw [h1 k (by omega), updH_same]; exact hn
      · exact h2 i e (by omega)
    · rintro ⟨h1, h2, h3⟩
      refine ⟨x k, mem_rng.2 (h2 k (Nat.le_refl _) (by omega)), ?_⟩
      rw [mem_hsL r]
      refine ⟨fun i hi => ?_, fun i hi1 hi2 => h2 i (by omega) (by omega), fun i hi => ?_⟩
      · by_cases e : i = k
        · subst e; rw [updH_same]
        · rw [updH_ne h _ e]; exact h1 i (by omega)
      · rw [updH_ne h _ (by omega)]; exact h3 i (by omega)
theorem mem_all {T : Tide} {x : Hts} : x ∈ hsL T T.marks.length zeroH 0 ↔ HtsOk T x := by
  rw [mem_hsL]
  constructor
  · rintro ⟨_, h2, h3⟩
    exact ⟨fun i hi => h2 i (Nat.zero_le _) (by omega), fun i hi => h3 i (by omega)⟩
  · intro h
    exact ⟨fun i hi => absurd hi (Nat.not_lt_zero _), fun i _ hi => h.at_ i (by omega), fun i hi => h.rest i (by omega)⟩
theorem HtsOk.high {T : Tide} (hT : TideOk T) {h : Hts} (hh : HtsOk T h) : HighH T h := fun i hi => by
  have h1 := narrow_iff.1 (hT.mark i hi).2
  have h2 := hh.at_ i hi
  omega
theorem mem_tdL {T : Tide} {h : Hts} : h ∈ tdL T ↔ HtsOk T h ∧ ∀ p, p < T.sand.length → setL T h p ≠ [] := by
  rw [tdL, List.mem_filter, mem_all, truB, List.all_eq_true]
  simp only [List.mem_range, Bool.not_eq_true', List.isEmpty_eq_false_iff]
theorem mem_setL {T : Tide} {h : Hts} {p : Nat} {n : Int} : n ∈ setL T h p ↔ ((gt T.sand p).lo ≤ n ∧ n ≤ (gt T.sand p).hi) ∧ sandB T h p n = true := by
  rw [setL, List.mem_filter, mem_rng]
theorem set_num {T : Tide} (hT : TideOk T) {h : Hts} {p : Nat} (hp : p < T.sand.length) {n : Int} (hn : n ∈ setL T h p) : 0 ≤ n ∧ n ≤ 60 := by
  have h1 := narrow_iff.1 (hT.sand p hp)
  have h2 := (mem_setL.1 hn).1
  omega
def headI (l : List Int) : Int := l.headD 0
def lastI (l : List Int) : Int := l.getLastD 0
theorem rng_sorted (lo hi : Int) : (rng lo hi).Pairwise (· < ·) := by
  unfold rng
  rw [List.pairwise_map]
  exact List.Pairwise.imp (fun h => by omega) List.pairwise_lt_range
theorem ends_spec {l : List Int} (hs : l.Pairwise (· < ·)) (h : l ≠ []) : headI l ∈ l ∧ lastI l ∈ l ∧ ∀ x, x ∈ l → headI l ≤ x ∧ x ≤ lastI l := by
  cases l with
  | nil => exact absurd rfl h
  | cons a l =>
    have e1 : headI (a :: l) = a := rfl
    have e2 : lastI (a :: l) = (a :: l).getLast (by simp) := by simp [lastI, List.getLastD]
    refine ⟨by rw [e1]; simp, by rw [e2]; exact List.getLast_mem _, fun x hx => ?_⟩
    rw [e1, e2]
    constructor
    · rcases List.mem_cons.1 hx with rfl | hx
      · exact Int.le_refl _
      · exact Int.le_of_lt ((List.pairwise_cons.1 hs).1 x hx)
    · obtain ⟨i, hi, rfl⟩ := List.getElem_of_mem hx
      rw [List.getLast_eq_getElem]
      rcases Nat.lt_or_ge i ((a :: l).length - 1) with h1 | h1
      · exact Int.le_of_lt (List.pairwise_iff_getElem.1 hs i _ hi (by omega) h1)
      · have : i = (a :: l).length - 1 := by omega
        subst this; exact Int.le_refl _
theorem set_ends {T : Tide} {h : Hts} {p : Nat} (hne : setL T h p ≠ []) : headI (setL T h p) ∈ setL T h p ∧ lastI (setL T h p) ∈ setL T h p ∧ ∀ x, x ∈ setL T h p → headI (setL T h p) ≤ x ∧ x ≤ lastI (setL T h p) :=
  ends_spec (List.Pairwise.filter _ (rng_sorted _ _)) hne
def seeD (s : Ms) (a : Int × Int) : Ms := (true, if s.1 then min s.2.1 a.1 else a.1, if s.1 then max s.2.2 a.2 else a.2)
def foldD (f : Hts → Int × Int) (l : List Hts) : Ms := l.foldl (fun s h => seeD s (f h)) (false, 0, 0)
def spanD (f : Hts → Int × Int) (l : List Hts) : Sp := ⟨(foldD f l).2.1, (foldD f l).2.2⟩
structure IsHull (S : Int → Prop) (s : Sp) : Prop where
  lo : S s.lo
  hi : S s.hi
  mem : ∀ x, S x → s.lo ≤ x ∧ x ≤ s.hi
theorem IsHull.uniq {S : Int → Prop} {s t : Sp} (h : IsHull S s) (k : IsHull S t) : s = t := by
  obtain ⟨a, b⟩ := s
  obtain ⟨c, d⟩ := t
  have h1 := h.mem _ k.lo
  have h2 := k.mem _ h.lo
  have h3 := h.mem _ k.hi
  have h4 := k.mem _ h.hi
  simp only at h1 h2 h3 h4
  congr 1 <;> omega
theorem foldD_spec (f : Hts → Int × Int) : ∀ (l l0 : List Hts) (s : Ms), (l0 = [] ∧ s.1 = false ∨ s.1 = true ∧ (∃ h, h ∈ l0 ∧ (f h).1 = s.2.1) ∧ (∃ h, h ∈ l0 ∧ (f h).2 = s.2.2) ∧ ∀ h, h ∈ l0 → s.2.1 ≤ (f h).1 ∧ (f h).2 ≤ s.2.2) → l0 ++ l ≠ [] →
    (∃ h, h ∈ l0 ++ l ∧ (f h).1 = (l.foldl (fun s h => seeD s (f h)) s).2.1) ∧ (∃ h, h ∈ l0 ++ l ∧ (f h).2 = (l.foldl (fun s h => seeD s (f h)) s).2.2) ∧ ∀ h, h ∈ l0 ++ l → (l.foldl (fun s h => seeD s (f h)) s).2.1 ≤ (f h).1 ∧ (f h).2 ≤ (l.foldl (fun s h => seeD s (f h)) s).2.2
  | [], l0, s, hs, hne => by
    rcases hs with ⟨rfl, _⟩ | ⟨_, h1, h2, h3⟩
    · exact absurd rfl hne
    · rw [List.append_nil]; exact ⟨h1, h2, h3⟩
  | x :: l, l0, s, hs, hne => by
    have e : l0 ++ x :: l = (l0 ++ [x]) ++ l := by simp
    rw [List.foldl_cons, e]
    refine foldD_spec f l (l0 ++ [x]) (seeD s (f x)) (.inr ⟨rfl, ?_⟩) (by simp)
    rcases hs with ⟨rfl, h0⟩ | ⟨h0, ⟨a, ha, ea⟩, ⟨b, hb, eb⟩, h3⟩
    · simp only [seeD, h0, Bool.false_eq_true, if_false]
      refine ⟨⟨x, by simp, rfl⟩, ⟨x, by simp, rfl⟩, fun h hh => ?_⟩
      obtain rfl : h = x := by simpa using hh
      exact ⟨Int.le_refl _, Int.le_refl _⟩
    · simp only [seeD, h0, if_true]
      refine ⟨?_, ?_, fun h hh => ?_⟩
      · rcases Int.le_total s.2.1 (f x).1 with h4 | h4
        · exact ⟨a, by simp [ha], by rw [ea]; omega⟩
        · exact ⟨x, by simp, by omega⟩
      · rcases Int.le_total s.2.2 (f x).2 with h4 | h4
        · exact ⟨x, by simp, by omega⟩
        · exact ⟨b, by simp [hb], by rw [eb]; omega⟩
      · rcases List.mem_append.1 hh with hh | hh
        · have := h3 h hh; omega
        · obtain rfl : h = x := by simpa using hh
          omega
theorem spanD_spec (f : Hts → Int × Int) {l : List Hts} (h : l ≠ []) : (∃ x, x ∈ l ∧ (f x).1 = (spanD f l).lo) ∧ (∃ x, x ∈ l ∧ (f x).2 = (spanD f l).hi) ∧ ∀ x, x ∈ l → (spanD f l).lo ≤ (f x).1 ∧ (f x).2 ≤ (spanD f l).hi :=
  foldD_spec f l [] (false, 0, 0) (.inl ⟨rfl, rfl⟩) h
theorem foldD_take (f : Hts → Int × Int) {l : List Hts} {k : Nat} (hk : k < l.length) : foldD f (l.take (k + 1)) = seeD (foldD f (l.take k)) (f (gt l k)) := by
  have e : gt l k = l[k] := by simp [gt, List.getD, hk]
  rw [foldD, List.take_succ_eq_append_getElem hk, List.foldl_append, e]; rfl
def depthF (T : Tide) (p : Nat) (m : Int) (h : Hts) : Int × Int := (max 0 (standsI T h m - lastI (setL T h p)), max 0 (standsI T h m - headI (setL T h p)))
def depthS (T : Tide) (p : Nat) (m : Int) : Sp := spanD (depthF T p m) (tdL T)
def tideE (T : Tide) (is : Bool) : Int := if tideB T = false then 1 else if is = false then 2 else if tdL T = [] then 10 else 0
def deepB (n : Int) : Bool := decide (0 ≤ n ∧ n ≤ 60)
def DepthOut (T : Tide) (p m : Int) : Sp × Int := if tideE T (placeB T p && minuteB T m) ≠ 0 then (⟨0, 0⟩, tideE T (placeB T p && minuteB T m)) else (depthS T p.toNat m, 0)
def firstF (T : Tide) (p : Nat) (least : Int) : Nat → Int → Option Int
  | 0, _ => none
  | n + 1, m => if least ≤ (depthS T p m).lo then some m else firstF T p least n (m + 1)
def FirstOut (T : Tide) (p least m : Int) : Int × Int := if tideE T (placeB T p && (deepB least && minuteB T m)) ≠ 0 then (0, tideE T (placeB T p && (deepB least && minuteB T m))) else match firstF T p.toNat least (lastM T - m + 1).toNat m with
  | some n => (n, 0)
  | none => (0, 4)
def TruR (T : Tide) (h s : Hts) : Prop := HtsOk T h ∧ (∀ p, p < T.sand.length → ((gt T.sand p).lo ≤ s p ∧ s p ≤ (gt T.sand p).hi)) ∧ ∀ i, i < T.looks.length → fitB (gt T.looks i) (standsR T h (gt T.looks i).minute) (s (gt T.looks i).place.toNat) = true
def UnderS (T : Tide) (p : Nat) (m x : Int) : Prop := ∃ h s, TruR T h s ∧ x = max 0 (standsR T h m - s p)
theorem look_iff {T : Tide} {l : Look} : lookB T l = true ↔ (0 ≤ l.place ∧ l.place ≤ (T.sand.length : Int) - 1) ∧ minuteB T l.minute = true ∧ highB l.depth = true := by
  simp only [lookB, placeB, Bool.and_eq_true, decide_eq_true_eq, and_assoc]
theorem tru_iff {T : Tide} (hT : TideOk T) {h s : Hts} : TruR T h s ↔ HtsOk T h ∧ ∀ p, p < T.sand.length → s p ∈ setL T h p := by
  constructor
  · rintro ⟨h1, h2, h3⟩
    refine ⟨h1, fun p hp => mem_setL.2 ⟨h2 p hp, ?_⟩⟩
    rw [sandB, all_iff]
    intro i hi
    have hl := look_iff.1 (hT.look i hi)
    rw [stands_same hT h hl.2.1]
    by_cases e : (gt T.looks i).place = (p : Int)
    · have := h3 i hi
      rw [e, Int.toNat_natCast] at this
      rw [this]; simp
    · rw [decide_eq_false e]; rfl
  · rintro ⟨h1, h2⟩
    refine ⟨h1, fun p hp => (mem_setL.1 (h2 p hp)).1, fun i hi => ?_⟩
    have hl := look_iff.1 (hT.look i hi)
    have h3 := (mem_setL.1 (h2 (gt T.looks i).place.toNat (by omega))).2
    rw [sandB, all_iff] at h3
    have h4 := h3 i hi
    rw [stands_same hT h hl.2.1, decide_eq_true (by omega)] at h4
    simpa using h4
def someS (T : Tide) (h : Hts) : Hts := fun p => headI (setL T h p)
theorem tru_some {T : Tide} (hT : TideOk T) {h : Hts} (hh : h ∈ tdL T) {p : Nat} {n : Int} (hn : n ∈ setL T h p) : TruR T h (updH (someS T h) p n) := by
  obtain ⟨h1, h2⟩ := mem_tdL.1 hh
  refine (tru_iff hT).2 ⟨h1, fun q hq => ?_⟩
  by_cases e : q = p
  · subst e; rw [updH_same]; exact hn
  · rw [updH_ne _ _ e]; exact (set_ends (h2 q hq)).1
theorem tru_td {T : Tide} (hT : TideOk T) {h s : Hts} (ht : TruR T h s) : h ∈ tdL T := by
  obtain ⟨h1, h2⟩ := (tru_iff hT).1 ht
  exact mem_tdL.2 ⟨h1, fun p hp e => by have := h2 p hp; rw [e] at this; cases this⟩
theorem depth_hull {T : Tide} (hT : TideOk T) (hne : tdL T ≠ []) {p : Nat} (hp : p < T.sand.length) {m : Int} (hm : minuteB T m = true) : IsHull (UnderS T p m) (depthS T p m) := by
  obtain ⟨⟨a, ha, ea⟩, ⟨b, hb, eb⟩, h3⟩ := spanD_spec (depthF T p m) hne
  have ends : ∀ h, h ∈ tdL T → headI (setL T h p) ∈ setL T h p ∧ lastI (setL T h p) ∈ setL T h p ∧ ∀ x, x ∈ setL T h p → headI (setL T h p) ≤ x ∧ x ≤ lastI (setL T h p) := fun h hh => set_ends ((mem_tdL.1 hh).2 p hp)
  refine ⟨⟨a, _, tru_some hT ha (ends a ha).2.1, ?_⟩, ⟨b, _, tru_some hT hb (ends b hb).1, ?_⟩, ?_⟩
  · rw [updH_same, ← stands_same hT a hm]; exact ea.symm
  · rw [updH_same, ← stands_same hT b hm]; exact eb.symm
  · rintro x ⟨h, s, ht, rfl⟩
    have hh := tru_td hT ht
    have h4 := (ends h hh).2.2 _ (((tru_iff hT).1 ht).2 p hp)
    have h5 := h3 h hh
    rw [← stands_same hT h hm]
    simp only [depthF, depthS] at h5 ⊢
    omega
theorem depth_num {T : Tide} (hT : TideOk T) (hne : tdL T ≠ []) {p : Nat} (hp : p < T.sand.length) {m : Int} (hm : minuteB T m = true) : 0 ≤ (depthS T p m).lo ∧ (depthS T p m).lo ≤ (depthS T p m).hi ∧ (depthS T p m).hi ≤ 60 := by
  have h := depth_hull hT hne hp hm
  obtain ⟨a, s, ht, e⟩ := h.lo
  obtain ⟨b, u, ht2, e2⟩ := h.hi
  have h1 := h.mem _ h.hi
  have h2 := stands_num hT (HtsOk.high hT ht2.1) hm
  rw [stands_same hT b hm] at h2
  have h3 := set_num hT hp (((tru_iff hT).1 ht2).2 p hp)
  omega
end Go.Ti
namespace Go.Ti
open Go.W
end Go.Ti
namespace Go.Proofs.YtejgofaeafphjaaGreatDoor
open Go.W Go.Ti
theorem SA212 : StructAt Tryz.prog 212 [.int .i64 0] [(0, 1)] := ⟨⟨_, Tryz.zeroValue212, rfl⟩, _, Tryz.underlying212, fun w => by simp [Tryz.sizeOf51]⟩
@[reducible, instance] def ISA212 := SaF.mk SA212
theorem SA225 : StructAt Tryz.prog 225 [.int .i64 0] [(0, 1)] := ⟨⟨_, Tryz.zeroValue225, rfl⟩, _, Tryz.underlying225, fun w => by simp [Tryz.sizeOf51]⟩
@[reducible, instance] def ISA225 := SaF.mk SA225
def markC (x : Go.Ti.Mark) : List Value := [it x.minute, it x.high.lo, it x.high.hi]
def lookC (x : Look) : List Value := [it x.place, it x.minute, it x.depth.lo, it x.depth.hi]
def spanC (s : Sp) : List Value := [it s.lo, it s.hi]
theorem markC_len : ∀ x, (markC x).length = 3 := fun _ => rfl
theorem lookC_len : ∀ x, (lookC x).length = 4 := fun _ => rfl
theorem spanC_len : ∀ x, (spanC x).length = 2 := fun _ => rfl
structure TideR (D : Imm) (T : Tide) (a1 : Option Addr) (n1 : Nat) (a2 : Option Addr) (n2 : Nat) (a3 : Option Addr) (n3 : Nat) : Prop where
  mark : SlL D 3 (T.marks.map markC) a1 n1
  sand : SlL D 2 (T.sand.map spanC) a2 n2
  look : SlL D 4 (T.looks.map lookC) a3 n3
  len : n1 ≤ 1000 ∧ n2 ≤ 1000 ∧ n3 ≤ 1000
theorem TideR.ext {w : World} {D D' : Imm} (hD : DExt w D D') {T : Tide} {a1 a2 a3 : Option Addr} {n1 n2 n3 : Nat} (h : TideR D T a1 n1 a2 n2 a3 n3) : TideR D' T a1 n1 a2 n2 a3 n3 := ⟨h.mark.ext hD, h.sand.ext hD, h.look.ext hD, h.len⟩
def stopD (e : Int) : List PanicEntry := [{ v := .iface 225 (.agg #[it e]), recovered := false }]
def stopW (e : Int) : List PanicEntry := [{ v := .iface 212 (.agg #[it e]), recovered := false }]
theorem withinD_g (n lo hi : Int) (w : World) : Gives Tryz.prog 163 [it n, it lo, it hi] w (.bool (inB n lo hi)) := by
  unfold Gives
  refine en Tryz.func163 rfl Tryz.ntmps163 zI (g [[1],[5,0,1,2],[5,6,0,1,2]] ?_)
  refine WL.part 10 rfl (fun g10 => ?_) (fun g10 => ?_)
  · try simp only [zq] at g10
    refine g [[8]] ?_
    refine WP.ret1 rfl rfl rfl (RV.tmp rfl) (fun w hI => ⟨ret_bool (by rw [Bool.eq_iff_iff]; simp [inB]; omega), hI.keep⟩)
  try simp only [zq] at g10
  refine g [[8]] ?_
  refine WP.ret1 rfl rfl rfl (RV.tmp rfl) (fun w hI => ⟨ret_bool (by rw [Bool.eq_iff_iff]; simp [inB]; omega), hI.keep⟩)
theorem mustD_ok (e : Int) (w : World) : Gives Tryz.prog 162 [.bool true, it e] w (.tuple #[]) := by
  unfold Gives
  refine en Tryz.func162 rfl Tryz.ntmps162 zI (g [[1],[7,0,1]] ?_)
  refine WP.ret0 rfl rfl rfl  (fun w hI => ⟨rfl, hI.keep⟩)
theorem mustD_no (e : Int) (w : World) : Fails Tryz.prog 162 [.bool false, it e] w (stopD e) := by
  unfold Fails
  refine en Tryz.func162 rfl Tryz.ntmps162 zI (g [[1],[6,0,1],[4,1]] ?_)
  refine WL.no (SO.panic rfl ?_)
  refine WP.panicBody rfl (fun w hI => ⟨rfl, hI.keep⟩)
theorem stoppedD_nil (v : Value) (w : World) : Gives Tryz.prog 79 [.nilIface, v] w (.tuple #[]) := by
  unfold Gives
  refine en Tryz.func79 rfl Tryz.ntmps79 zI (g [[2],[2,0,1]] ?_)
  refine WL.yd (Yd.eqlNilNil UnF.h rfl) rfl (g [[5]] ?_)
  refine WP.ret0 rfl rfl rfl  (fun w hI => ⟨rfl, hI.keep⟩)
theorem stoppedD_yes (e v0 : Int) (b : Nat) (t : TypeId) (w : World) (hb : w.heap[b]? = some (.cells (List.toArray [it v0]) t (0, 0))) : Calls Tryz.prog 79 (List.toArray [.iface 225 (.agg #[it e]), pt b]) w fun en w' => (en = .returned (.tuple #[]) ∧ Keep [b] w w') ∧ w'.heap[b]? = some (.cells (List.toArray [it e]) t (0, 0)) := by
  refine en Tryz.func79 rfl Tryz.ntmps79 (Inv.one hb) (g [[2],[2,0,1]] ?_)
  refine WL.yd (Yd.eqlNil UnF.h rfl) rfl (g [[6],[2,0,1]] ?_)
  refine WL.yd (Yd.assert UnF.h (by intro _ h; cases h) rfl) rfl (g [[3]] ?_)
  refine WL.so (SO.alloc ZvF.h rfl) rfl (zw fun b4 hb4 => ?_)
  refine g [[6],[8,5,4,0,1],[7,4,1]] ?_
  refine WP.ret0 rfl rfl rfl  (fun w hI => ⟨⟨rfl, hI.keep⟩, hI.own _ _ (List.mem_of_getElem? (i := 1) rfl)⟩)
theorem mustW_ok (e : Int) (w : World) : Gives Tryz.prog 71 [.bool true, it e] w (.tuple #[]) := by
  unfold Gives
  refine en Tryz.func71 rfl Tryz.ntmps71 zI (g [[1],[7,0,1]] ?_)
  refine WP.ret0 rfl rfl rfl  (fun w hI => ⟨rfl, hI.keep⟩)
theorem mustW_no (e : Int) (w : World) : Fails Tryz.prog 71 [.bool false, it e] w (stopW e) := by
  unfold Fails
  refine en Tryz.func71 rfl Tryz.ntmps71 zI (g [[1],[6,0,1],[4,1]] ?_)
  refine WL.no (SO.panic rfl ?_)
  refine WP.panicBody rfl (fun w hI => ⟨rfl, hI.keep⟩)
theorem stoppedW_nil (v : Value) (w : World) : Gives Tryz.prog 70 [.nilIface, v] w (.tuple #[]) := by
  unfold Gives
  refine en Tryz.func70 rfl Tryz.ntmps70 zI (g [[2],[2,0,1]] ?_)
  refine WL.yd (Yd.eqlNilNil UnF.h rfl) rfl (g [[5]] ?_)
  refine WP.ret0 rfl rfl rfl  (fun w hI => ⟨rfl, hI.keep⟩)
theorem stoppedW_yes (e v0 : Int) (b : Nat) (t : TypeId) (w : World) (hb : w.heap[b]? = some (.cells (List.toArray [it v0]) t (0, 0))) : Calls Tryz.prog 70 (List.toArray [.iface 212 (.agg #[it e]), pt b]) w fun en w' => (en = .returned (.tuple #[]) ∧ Keep [b] w w') ∧ w'.heap[b]? = some (.cells (List.toArray [it e]) t (0, 0)) := by
  refine en Tryz.func70 rfl Tryz.ntmps70 (Inv.one hb) (g [[2],[2,0,1]] ?_)
  refine WL.yd (Yd.eqlNil UnF.h rfl) rfl (g [[6],[2,0,1]] ?_)
  refine WL.yd (Yd.assert UnF.h (by intro _ h; cases h) rfl) rfl (g [[3]] ?_)
  refine WL.so (SO.alloc ZvF.h rfl) rfl (zw fun b4 hb4 => ?_)
  refine g [[6],[8,5,4,0,1],[7,4,1]] ?_
  refine WP.ret0 rfl rfl rfl  (fun w hI => ⟨⟨rfl, hI.keep⟩, hI.own _ _ (List.mem_of_getElem? (i := 1) rfl)⟩)
theorem idleM86 (b : Nat) (w : World) : IdleM Tryz.prog 86 [pt b] w := by
  refine callsDIn_of_wpS Tryz.func86 rfl fun c₀ cs hu => ?_
  apply wpS_region
  simp [wpOpsS, go_sem, recoverD, hu, Tryz.ntmps86]
  refine (stoppedK_nil (pt b) w).mono ?_
  rintro e w' ⟨rfl, hk⟩
  cases c₀
  simp only at hu
  subst hu
  simp [bodyPostS, results, Tryz.results86, hk]
theorem catch86 (b : Nat) (e v0 : Int) (t : TypeId) (w : World) (hb : w.heap[b]? = some (.cells (List.toArray [it v0]) t (0, 0))) : Catch Tryz.prog 86 [pt b] (.iface 247 (.agg #[it e])) b (.cells (List.toArray [it e]) t (0, 0)) w := by
  refine callsD_of_wpS Tryz.func86 rfl fun c₀ cs hu => ?_
  apply wpS_region
  simp [wpOpsS, go_sem, recoverD, hu, Tryz.ntmps86]
  refine (stoppedK_yes e v0 b t w hb).mono ?_
  rintro en w' ⟨⟨rfl, hk⟩, hb'⟩
  cases c₀
  simp only at hu
  subst hu
  simp [bodyPostS, results, Tryz.results86, hk, hb']
theorem idle120 (b : Nat) (w : World) : Idle Tryz.prog 120 [pt b] w := by
  refine callsD_of_wpS Tryz.func120 rfl fun c₀ cs hu => ?_
  apply wpS_region
  simp [wpOpsS, go_sem, recoverD, hu, Tryz.ntmps120]
  refine (stoppedK_nil (pt b) w).mono ?_
  rintro e w' ⟨rfl, hk⟩
  cases c₀
  simp only at hu
  subst hu
  simp [bodyPostS, results, Tryz.results120, hk]
theorem catch120 (b : Nat) (e v0 : Int) (t : TypeId) (w : World) (hb : w.heap[b]? = some (.cells (List.toArray [it v0]) t (0, 0))) : Catch Tryz.prog 120 [pt b] (.iface 247 (.agg #[it e])) b (.cells (List.toArray [it e]) t (0, 0)) w := by
  refine callsD_of_wpS Tryz.func120 rfl fun c₀ cs hu => ?_
  apply wpS_region
  simp [wpOpsS, go_sem, recoverD, hu, Tryz.ntmps120]
  refine (stoppedK_yes e v0 b t w hb).mono ?_
  rintro en w' ⟨⟨rfl, hk⟩, hb'⟩
  cases c₀
  simp only at hu
  subst hu
  simp [bodyPostS, results, Tryz.results120, hk, hb']
theorem idle78 (b : Nat) (w : World) : Idle Tryz.prog 78 [pt b] w := by
  refine callsD_of_wpS Tryz.func78 rfl fun c₀ cs hu => ?_
  apply wpS_region
  simp [wpOpsS, go_sem, recoverD, hu, Tryz.ntmps78]
  refine (stoppedD_nil (pt b) w).mono ?_
  rintro e w' ⟨rfl, hk⟩
  cases c₀
  simp only at hu
  subst hu
  simp [bodyPostS, results, Tryz.results78, hk]
theorem catch78 (b : Nat) (e v0 : Int) (t : TypeId) (w : World) (hb : w.heap[b]? = some (.cells (List.toArray [it v0]) t (0, 0))) : Catch Tryz.prog 78 [pt b] (.iface 225 (.agg #[it e])) b (.cells (List.toArray [it e]) t (0, 0)) w := by
  refine callsD_of_wpS Tryz.func78 rfl fun c₀ cs hu => ?_
  apply wpS_region
  simp [wpOpsS, go_sem, recoverD, hu, Tryz.ntmps78]
  refine (stoppedD_yes e v0 b t w hb).mono ?_
  rintro en w' ⟨⟨rfl, hk⟩, hb'⟩
  cases c₀
  simp only at hu
  subst hu
  simp [bodyPostS, results, Tryz.results78, hk, hb']
theorem idle122 (b : Nat) (w : World) : Idle Tryz.prog 122 [pt b] w := by
  refine callsD_of_wpS Tryz.func122 rfl fun c₀ cs hu => ?_
  apply wpS_region
  simp [wpOpsS, go_sem, recoverD, hu, Tryz.ntmps122]
  refine (stoppedD_nil (pt b) w).mono ?_
  rintro e w' ⟨rfl, hk⟩
  cases c₀
  simp only at hu
  subst hu
  simp [bodyPostS, results, Tryz.results122, hk]
theorem catch122 (b : Nat) (e v0 : Int) (t : TypeId) (w : World) (hb : w.heap[b]? = some (.cells (List.toArray [it v0]) t (0, 0))) : Catch Tryz.prog 122 [pt b] (.iface 225 (.agg #[it e])) b (.cells (List.toArray [it e]) t (0, 0)) w := by
  refine callsD_of_wpS Tryz.func122 rfl fun c₀ cs hu => ?_
  apply wpS_region
  simp [wpOpsS, go_sem, recoverD, hu, Tryz.ntmps122]
  refine (stoppedD_yes e v0 b t w hb).mono ?_
  rintro en w' ⟨⟨rfl, hk⟩, hb'⟩
  cases c₀
  simp only at hu
  subst hu
  simp [bodyPostS, results, Tryz.results122, hk, hb']
theorem idleM218 (b : Nat) (w : World) : IdleM Tryz.prog 218 [pt b] w := by
  refine callsDIn_of_wpS Tryz.func218 rfl fun c₀ cs hu => ?_
  apply wpS_region
  simp [wpOpsS, go_sem, recoverD, hu, Tryz.ntmps218]
  refine (stoppedD_nil (pt b) w).mono ?_
  rintro e w' ⟨rfl, hk⟩
  cases c₀
  simp only at hu
  subst hu
  simp [bodyPostS, results, Tryz.results218, hk]
theorem catch218 (b : Nat) (e v0 : Int) (t : TypeId) (w : World) (hb : w.heap[b]? = some (.cells (List.toArray [it v0]) t (0, 0))) : Catch Tryz.prog 218 [pt b] (.iface 225 (.agg #[it e])) b (.cells (List.toArray [it e]) t (0, 0)) w := by
  refine callsD_of_wpS Tryz.func218 rfl fun c₀ cs hu => ?_
  apply wpS_region
  simp [wpOpsS, go_sem, recoverD, hu, Tryz.ntmps218]
  refine (stoppedD_yes e v0 b t w hb).mono ?_
  rintro en w' ⟨⟨rfl, hk⟩, hb'⟩
  cases c₀
  simp only at hu
  subst hu
  simp [bodyPostS, results, Tryz.results218, hk, hb']
theorem idle69 (b : Nat) (w : World) : Idle Tryz.prog 69 [pt b] w := by
  refine callsD_of_wpS Tryz.func69 rfl fun c₀ cs hu => ?_
  apply wpS_region
  simp [wpOpsS, go_sem, recoverD, hu, Tryz.ntmps69]
  refine (stoppedW_nil (pt b) w).mono ?_
  rintro e w' ⟨rfl, hk⟩
  cases c₀
  simp only at hu
  subst hu
  simp [bodyPostS, results, Tryz.results69, hk]
theorem catch69 (b : Nat) (e v0 : Int) (t : TypeId) (w : World) (hb : w.heap[b]? = some (.cells (List.toArray [it v0]) t (0, 0))) : Catch Tryz.prog 69 [pt b] (.iface 212 (.agg #[it e])) b (.cells (List.toArray [it e]) t (0, 0)) w := by
  refine callsD_of_wpS Tryz.func69 rfl fun c₀ cs hu => ?_
  apply wpS_region
  simp [wpOpsS, go_sem, recoverD, hu, Tryz.ntmps69]
  refine (stoppedW_yes e v0 b t w hb).mono ?_
  rintro en w' ⟨⟨rfl, hk⟩, hb'⟩
  cases c₀
  simp only at hu
  subst hu
  simp [bodyPostS, results, Tryz.results69, hk, hb']
theorem highB_iff {s : Sp} : highB s = true ↔ 0 ≤ s.lo ∧ s.lo ≤ s.hi ∧ s.hi ≤ 60 := by simp only [highB, decide_eq_true_eq]
def shoO (s1 s2 s3 : Value) (mb : Nat) : Obj := .cells (List.toArray [s1, s2, s3, .map (some mb)]) 229 (0, 0)
theorem isDeep_g (n : Int) (w : World) : Gives Tryz.prog 124 [it n] w (.bool (deepB n)) := by
  unfold Gives
  refine en Tryz.func124 rfl Tryz.ntmps124 zI (g [[1],[5,0],[2,2,0]] ?_)
  refine WL.cl rfl (fun w hI => withinD_g _ _ _ _) (g [[4]] ?_)
  refine WP.ret1 rfl rfl rfl (RV.tmp rfl) (fun w hI => ⟨rfl, hI.keep⟩)
theorem isHigh_g (s : Sp) (w : World) : Gives Tryz.prog 165 [.agg #[it s.lo, it s.hi]] w (.bool (highB s)) := by
  unfold Gives
  refine en Tryz.func165 rfl Tryz.ntmps165 zI (g [[1],[1,0]] ?_)
  refine WL.so (SO.box rfl rfl) rfl (zw fun b1 hb1 => ?_)
  refine g [[4],[5,2,1]] ?_
  refine WL.part 6 rfl (fun g6 => ?_) (fun g6 => ?_)
  · try simp only [zq] at g6
    refine g [[7]] ?_
    refine WL.part 13 rfl (fun g13 => ?_) (fun g13 => ?_)
    · try simp only [zq] at g13
      refine g [[8]] ?_
      refine WP.ret1 rfl rfl rfl (RV.tmp rfl) (fun w hI => ⟨ret_bool (by rw [Bool.eq_iff_iff]; simp_all [highB]; try omega), hI.keep⟩)
    try simp only [zq] at g13
    refine g [[8]] ?_
    refine WP.ret1 rfl rfl rfl (RV.tmp rfl) (fun w hI => ⟨ret_bool (by rw [Bool.eq_iff_iff]; simp_all [highB]; try omega), hI.keep⟩)
  try simp only [zq] at g6
  refine g [[15]] ?_
  refine WP.ret1 rfl rfl rfl (RV.tmp rfl) (fun w hI => ⟨ret_bool (by rw [Bool.eq_iff_iff]; simp_all [highB]; try omega), hI.keep⟩)
theorem narrow_g (s : Sp) (w : World) : Gives Tryz.prog 164 [.agg #[it s.lo, it s.hi]] w (.bool (narrowB s)) := by
  unfold Gives
  refine en Tryz.func164 rfl Tryz.ntmps164 zI (g [[1],[1,0]] ?_)
  refine WL.so (SO.box rfl rfl) rfl (zw fun b1 hb1 => ?_)
  refine g [[4],[2,2,1]] ?_
  refine WL.cl rfl (fun w hI => isHigh_g s _) (g [[1]] ?_)
  refine WL.part 5 rfl (fun g5 => ?_) (fun g5 => ?_)
  · try simp only [zq] at g5
    refine g [[4]] ?_
    refine WL.ydg rfl (Yd.sub rfl rfl (wr64 ⟨by first | omega | (have := highB_iff.1 (by assumption); omega) | (simp_all; omega), by first | omega | (have := highB_iff.1 (by assumption); omega) | (simp_all; omega)⟩)) rfl (g [[6]] ?_)
    refine WP.ret1 rfl rfl rfl (RV.tmp rfl) (fun w hI => ⟨ret_bool (by rw [Bool.eq_iff_iff]; simp_all [narrowB]), hI.keep⟩)
  try simp only [zq] at g5
  refine g [[11]] ?_
  refine WP.ret1 rfl rfl rfl (RV.tmp rfl) (fun w hI => ⟨ret_bool (by rw [Bool.eq_iff_iff]; simp_all [narrowB]), hI.keep⟩)
theorem last_g (T : Tide) (a1 a2 a3 : Option Addr) (n1 n2 n3 c1 c2 c3 : Nat) (D : Imm) (w : World) (hR : TideR D T a1 n1 a2 n2 a3 n3) (qb mb : Nat) (hq : D qb = some (shoO (.slice a1 n1 c1) (.slice a2 n2 c2) (.slice a3 n3 c3) mb)) (hH : Holds D w) (hnm : 2 ≤ T.marks.length) : Gives Tryz.prog 125 [pt qb] w (it (lastM T)) := by
  unfold Gives
  obtain rfl := hR.mark.len'
  obtain rfl := hR.sand.len'
  obtain rfl := hR.look.len'
  obtain ⟨hl1, hl2, hl3⟩ := hR.len
  have hrl : Rd D [] ⟨sb a1, so a1 + ((T.marks.length : Int) - 1).toNat * 3 + 0, none⟩ (it (lastM T)) := by
    rw [show ((T.marks.length : Int) - 1).toNat = T.marks.length - 1 by omega]; exact (hR.mark.at (T.marks.length - 1) (by omega)).rd 0 rfl
  refine en Tryz.func125 rfl Tryz.ntmps125 (Inv.start hH) (g [[1],[5,0],[0,2,0],[3012],[13]] ?_)
  refine WL.yd (Yd.ix rfl rfl (hR.mark.addr (T.marks.length - 1) (by omega))) rfl (g [[1]] ?_)
  refine WL.yd (Yd.l1 rfl (hrl)) rfl (g [[4]] ?_)
  refine WP.ret1 rfl rfl rfl (RV.tmp rfl) (fun w hI => ⟨rfl, hI.keep⟩)
theorem isPlace_g (T : Tide) (a1 a2 a3 : Option Addr) (n1 n2 n3 c1 c2 c3 : Nat) (D : Imm) (w : World) (hR : TideR D T a1 n1 a2 n2 a3 n3) (qb mb : Nat) (hq : D qb = some (shoO (.slice a1 n1 c1) (.slice a2 n2 c2) (.slice a3 n3 c3) mb)) (hH : Holds D w) (n : Int) : Gives Tryz.prog 82 [pt qb, it n] w (.bool (placeB T n)) := by
  unfold Gives
  obtain rfl := hR.mark.len'
  obtain rfl := hR.sand.len'
  obtain rfl := hR.look.len'
  obtain ⟨hl1, hl2, hl3⟩ := hR.len
  refine en Tryz.func82 rfl Tryz.ntmps82 (Inv.start hH) (g [[1],[5,0,1],[9,4,0,1]] ?_)
  refine WL.cl rfl (fun w hI => withinD_g _ _ _ _) (g [[4]] ?_)
  refine WP.ret1 rfl rfl rfl (RV.tmp rfl) (fun w hI => ⟨rfl, hI.keep⟩)
theorem isMinute_g (T : Tide) (a1 a2 a3 : Option Addr) (n1 n2 n3 c1 c2 c3 : Nat) (D : Imm) (w : World) (hR : TideR D T a1 n1 a2 n2 a3 n3) (qb mb : Nat) (hq : D qb = some (shoO (.slice a1 n1 c1) (.slice a2 n2 c2) (.slice a3 n3 c3) mb)) (hH : Holds D w) (hnm : 2 ≤ T.marks.length) (n : Int) : Gives Tryz.prog 83 [pt qb, it n] w (.bool (minuteB T n)) := by
  unfold Gives
  obtain rfl := hR.mark.len'
  obtain rfl := hR.sand.len'
  obtain rfl := hR.look.len'
  obtain ⟨hl1, hl2, hl3⟩ := hR.len
  refine en Tryz.func83 rfl Tryz.ntmps83 (Inv.start hH) (g [[1],[5,0,1],[0,4,0,1],[3011],[6]] ?_)
  refine WQ.q rfl (Yd.qt (Yd.ix rfl rfl (hR.mark.addr 0 (by omega)))) rfl (g [[1]] ?_)
  refine WQ.q rfl (Yd.qt (Yd.l1 rfl ((hR.mark.at 0 (by omega)).rd 0 rfl))) rfl (g [[1]] ?_)
  refine WQ.q rfl (Qt.callP CaF.h rfl (fun w hI => last_g T a1 a2 a3 _ _ _ c1 c2 c3 D _ hR qb mb hq hI.imm hnm)) rfl (g [[1]] ?_)
  refine WL.cl rfl (fun w hI => withinD_g _ _ _ _) (g [[4]] ?_)
  refine WP.ret1 rfl rfl rfl (RV.tmp rfl) (fun w hI => ⟨rfl, hI.keep⟩)
end Go.Proofs.YtejgofaeafphjaaGreatDoor
namespace Go.Proofs.YtejgofaeafphjaaGreatDoor
open Go.W Go.Ti
theorem SA229 : StructAt Tryz.prog 229 [.slice none 0 0, .slice none 0 0, .slice none 0 0, .map none] [(0, 3), (3, 1)] := ⟨⟨_, Tryz.zeroValue229, rfl⟩, _, Tryz.underlying229, fun w => by simp [Tryz.sizeOf31, Tryz.sizeOf227]⟩
@[reducible, instance] def ISA229 := SaF.mk SA229
def OpenD (T : Tide) (is : Bool) (s1 s2 s3 : Value) (D : Imm) (w : World) (e : Ending) (w' : World) : Prop :=
  (tideB T = false → e = .panicked (stopD 1) ∧ Keep [] w w') ∧ (tideB T = true → is = false → e = .panicked (stopD 2) ∧ Keep [] w w') ∧
  (tideB T = true → is = true → ∃ q mb D', e = .returned (pt q) ∧ DExt w D D' ∧ D' q = some (shoO s1 s2 s3 mb) ∧ Inv D' [(mb, .map #[] 0)] [] w w')
theorem mark_ok {T : Tide} {k : Nat} (h1 : inB (gt T.marks k).minute 0 240 = true) (h2 : narrowB (gt T.marks k).high = true) (h3 : k = 0 ∨ (gt T.marks (k - 1)).minute + 6 ≤ (gt T.marks k).minute) : markB T k = true :=
  markB_iff.2 ⟨⟨by simpa [inB] using h1, h2⟩, h3⟩
theorem mark_no {T : Tide} {k : Nat} (hT : TideOk T) (hk : k < T.marks.length) : inB (gt T.marks k).minute 0 240 = true ∧ narrowB (gt T.marks k).high = true ∧ (k = 0 ∨ (gt T.marks (k - 1)).minute + 6 ≤ (gt T.marks k).minute) := by
  refine ⟨by have := (hT.mark k hk).1; simpa [inB] using this, (hT.mark k hk).2, ?_⟩
  cases k with
  | zero => exact .inl rfl
  | succ k => exact .inr (hT.apart k hk)
theorem tide_yes {T : Tide} (h1 : inB (T.marks.length : Int) 2 4 = true) (h2 : inB (T.sand.length : Int) 1 4 = true) (h3 : (T.looks.length : Int) ≤ 6) (hm : ∀ i, i < T.marks.length → markB T i = true) (hs : ∀ i, i < T.sand.length → narrowB (gt T.sand i) = true) (hl : ∀ i, i < T.looks.length → lookB T (gt T.looks i) = true) : tideB T = true := by
  simp only [inB, decide_eq_true_eq] at h1 h2
  simp only [tideB, Bool.and_eq_true, decide_eq_true_eq]
  refine ⟨⟨⟨⟨⟨by omega, by omega⟩, by omega⟩, List.all_eq_true.2 fun i hi => hm i (List.mem_range.1 hi)⟩, all_iff.2 hs⟩, all_iff.2 hl⟩
theorem tide_no {T : Tide} (h : ∀ hT : TideOk T, False) : tideB T = false := by
  cases hb : tideB T with
  | false => rfl
  | true => exact (h (tideB_iff.1 hb)).elim
theorem openD_g (T : Tide) (a1 a2 a3 : Option Addr) (n1 n2 n3 c1 c2 c3 : Nat) (D : Imm) (w : World) (hR : TideR D T a1 n1 a2 n2 a3 n3) (hH : Holds D w) (fi : FuncId) (cp : List Value) (is : Bool) (hfi : ∀ args w, (callFunc fi args).run Tryz.prog w = .ok (.enter fi args) w) (hIs : tideB T = true → ∀ q mb D' w', DExt w D D' → D' q = some (shoO (.slice a1 n1 c1) (.slice a2 n2 c2) (.slice a3 n3 c3) mb) → Holds D' w' → Gives Tryz.prog fi (pt q :: cp) w' (.bool is)) : Calls Tryz.prog 80 (List.toArray [.agg #[.slice a1 n1 c1, .slice a2 n2 c2, .slice a3 n3 c3], .func (.func fi) #[] cp.toArray]) w fun e w' => OpenD T is (.slice a1 n1 c1) (.slice a2 n2 c2) (.slice a3 n3 c3) D w e w' := by
  obtain rfl := hR.mark.len'
  obtain rfl := hR.sand.len'
  obtain rfl := hR.look.len'
  obtain ⟨hl1, hl2, hl3⟩ := hR.len
  refine en Tryz.func80 rfl Tryz.ntmps80 (Inv.start hH) (g [[1],[1,0,1]] ?_)
  refine WL.so (SO.box rfl rfl) rfl (zw fun b2 hb2 => ?_)
  refine g [[4],[4,4,2,1]] ?_
  refine WL.cl rfl (fun w hI => withinD_g _ _ _ _) (g [[1]] ?_)
  refine WL.part 17 rfl (fun g17 => ?_) (fun g17 => ?_)
  · try simp only [zq] at g17
    refine g [[3]] ?_
    refine WL.sog rfl (SO.callP CaF.h rfl (fun w hI => withinD_g _ _ _ _)) rfl (zs (g [[2]] ?_))
    refine WL.part 23 rfl (fun g23 => ?_) (fun g23 => ?_)
    · try simp only [zq] at g23
      refine g [[5]] ?_
      refine WL.part 28 rfl (fun g28 => ?_) (fun g28 => ?_)
      · try simp only [zq] at g28
        refine WL.cl rfl (fun w hI => mustD_ok _ _) (g [[3],[6,4,2,1],[8,5,4,2,1]] ?_)
        refine WC.loopF (fun k : Nat => [(1, .func (.func fi) #[] cp.toArray), (2, pt b2), (5, .func (.func 164) #[] #[]), (31, .slice a1 T.marks.length c1), (32, nt T.marks.length), (33, nt k)]) (fun k => k ≤ T.marks.length ∧ ∀ i, i < k → markB T i = true) (fun k => T.marks.length - k) 0 ⟨by omega, by intro i hi; omega⟩ (by exact ⟨rfl, rfl, rfl, rfl, rfl, rfl, trivial⟩) ?_
        intro k ⟨hk, hd⟩
        refine g [[1],[5,1,2,5,31,32,33]] ?_
        refine WC.cond rfl (fun c34 => ?_) (fun c34 => ?_)
        · try simp only [zq] at c34
          refine g [[5],[2,1,2,5,31,32,33]] ?_
          refine WL.yd (Yd.ix rfl rfl (hR.mark.addr k (by omega))) rfl (WL.yd (Yd.lV [_, _, _] rfl ((hR.mark.at k (by omega)).rdn 0 3 rfl)) rfl ?_)
          refine WL.so (SO.alloc ZvF.h rfl) rfl (zw fun b7 hb7 => ?_)
          refine g [[4],[0,6,7,1,2,5,31,32,33],[3023],[2]] ?_
          refine WQ.q rfl (Qt.callP CaF.h rfl (fun w hI => withinD_g _ _ _ _)) rfl (g [[1]] ?_)
          refine WQ.part 41 rfl (fun g41 => ?_) (fun g41 => ?_)
          · try simp only [zq] at g41
            refine g [[3]] ?_
            refine WQ.qg rfl rfl (Qt.call (Enters.val CaF.h rfl rfl) (fun w hI => narrow_g ⟨_, _⟩ _)) rfl (g [[2]] ?_)
            refine WQ.part 47 rfl (fun g47 => ?_) (fun g47 => ?_)
            · try simp only [zq] at g47
              refine g [[3]] ?_
              refine WQ.part 50 rfl (fun g50 => ?_) (fun g50 => ?_)
              · try simp only [zq] at g50
                refine g [[14]] ?_
                refine WL.cl rfl (fun w hI => mustD_ok _ _) (g [[3],[4,1,2,5,31,32,33]] ?_)
                exact WP.againF (k + 1) ⟨by omega, ext_round hd (mark_ok (by assumption) (by assumption) (by first | (left; omega) | (right; omega)))⟩ (by omega) ⟨rfl, rfl, rfl, rfl, rfl, rfl, trivial⟩ (fun _ h => List.mem_cons_of_mem _ h) (fun h => (List.nodup_cons.1 h).2)
              try simp only [zq] at g50
              have hrk : ∀ hp, Rd D hp ⟨sb a1, so a1 + ((k : Int) - 1).toNat * 3 + 0, none⟩ (it (gt T.marks (k - 1)).minute) := fun hp => by
                rw [show ((k : Int) - 1).toNat = k - 1 by omega]; exact (hR.mark.at (k - 1) (by omega)).rd 0 rfl
              have hmp := (markB_iff.1 (hd (k - 1) (by omega))).1.1
              refine g [[6]] ?_
              refine WQ.qg rfl rfl (Yd.qt (Yd.ix rfl rfl (hR.mark.addr k (by omega)))) rfl (g [[1]] ?_)
              refine WQ.qg rfl rfl (Yd.qt (Yd.l1 rfl (hrk _))) rfl (g [[5]] ?_)
              refine WL.part 63 rfl (fun g63 => ?_) (fun g63 => ?_)
              · try simp only [zq] at g63
                refine WL.cl rfl (fun w hI => mustD_ok _ _) (g [[3],[4,1,2,5,31,32,33]] ?_)
                exact WP.againF (k + 1) ⟨by omega, ext_round hd (mark_ok (by assumption) (by assumption) (by first | (left; omega) | (right; omega)))⟩ (by omega) ⟨rfl, rfl, rfl, rfl, rfl, rfl, trivial⟩ (fun _ h => List.mem_cons_of_mem _ h) (fun h => (List.nodup_cons.1 h).2)
              try simp only [zq] at g63
              refine WL.nf rfl (fun w hI => mustD_no _ _) (g [[5]] ?_)
              first
                | exact WP.panicBody rfl (fun w hI => ⟨fun h => absurd (hok.symm.trans h) (by decide), fun _ _ => ⟨rfl, hI.keep⟩, fun _ h => by rw [g108] at h; cases h⟩)
                | (refine WP.panicBody rfl (fun w hI => ?_)
                   have hno : tideB T = false := tide_no fun hT => by
                     first
                       | (have h1 := hT.nm; have h2 := hT.ns; have h3 := hT.nl; simp_all [inB]; done)
                       | (have h1 := hT.nm; have h2 := hT.ns; have h3 := hT.nl; simp_all [inB]; omega)
                       | (have h1 := mark_no hT (k := k) (by omega); simp_all; done)
                       | (have h1 := mark_no hT (k := k) (by omega); simp_all; omega)
                       | (have h1 := hT.sand k (by omega); simp_all; done)
                       | (have h1 := hT.look k (by omega); simp_all [lookB]; done)
                   exact ⟨fun _ => ⟨rfl, hI.keep⟩, fun h => absurd (hno.symm.trans h) (by decide), fun h => absurd (hno.symm.trans h) (by decide)⟩)
            try simp only [zq] at g47
            refine g [[17]] ?_
            refine WL.nf rfl (fun w hI => mustD_no _ _) (g [[5]] ?_)
            first
              | exact WP.panicBody rfl (fun w hI => ⟨fun h => absurd (hok.symm.trans h) (by decide), fun _ _ => ⟨rfl, hI.keep⟩, fun _ h => by rw [g108] at h; cases h⟩)
              | (refine WP.panicBody rfl (fun w hI => ?_)
                 have hno : tideB T = false := tide_no fun hT => by
                   first
                     | (have h1 := hT.nm; have h2 := hT.ns; have h3 := hT.nl; simp_all [inB]; done)
                     | (have h1 := hT.nm; have h2 := hT.ns; have h3 := hT.nl; simp_all [inB]; omega)
                     | (have h1 := mark_no hT (k := k) (by omega); simp_all; done)
                     | (have h1 := mark_no hT (k := k) (by omega); simp_all; omega)
                     | (have h1 := hT.sand k (by omega); simp_all; done)
                     | (have h1 := hT.look k (by omega); simp_all [lookB]; done)
                 exact ⟨fun _ => ⟨rfl, hI.keep⟩, fun h => absurd (hno.symm.trans h) (by decide), fun h => absurd (hno.symm.trans h) (by decide)⟩)
          try simp only [zq] at g41
          refine g [[23]] ?_
          refine WL.nf rfl (fun w hI => mustD_no _ _) (g [[5]] ?_)
          first
            | exact WP.panicBody rfl (fun w hI => ⟨fun h => absurd (hok.symm.trans h) (by decide), fun _ _ => ⟨rfl, hI.keep⟩, fun _ h => by rw [g108] at h; cases h⟩)
            | (refine WP.panicBody rfl (fun w hI => ?_)
               have hno : tideB T = false := tide_no fun hT => by
                 first
                   | (have h1 := hT.nm; have h2 := hT.ns; have h3 := hT.nl; simp_all [inB]; done)
                   | (have h1 := hT.nm; have h2 := hT.ns; have h3 := hT.nl; simp_all [inB]; omega)
                   | (have h1 := mark_no hT (k := k) (by omega); simp_all; done)
                   | (have h1 := mark_no hT (k := k) (by omega); simp_all; omega)
                   | (have h1 := hT.sand k (by omega); simp_all; done)
                   | (have h1 := hT.look k (by omega); simp_all [lookB]; done)
               exact ⟨fun _ => ⟨rfl, hI.keep⟩, fun h => absurd (hno.symm.trans h) (by decide), fun h => absurd (hno.symm.trans h) (by decide)⟩)
        try simp only [zq] at c34
        refine g [[6],[2,1,2,5]] ?_
        refine WL.so SO.makeMap rfl ?_
        rintro _ _ _ ⟨b67, hb67, rfl, rfl, rfl⟩
        refine g [[1]] ?_
        refine WL.so (SO.box rfl rfl) rfl (zw fun b69 hb69 => ?_)
        refine g [[5],[8,8,1,2,5]] ?_
        have hmk : ∀ i, i < T.marks.length → markB T i = true := fun i hi => hd i (by omega)
        clear hd hk c34 k
        refine WC.loopF (fun k : Nat => [(1, .func (.func fi) #[] cp.toArray), (2, pt b2), (5, .func (.func 164) #[] #[]), (8, pt b69), (71, .slice a2 T.sand.length c2), (72, nt T.sand.length), (73, nt k)]) (fun k => k ≤ T.sand.length ∧ ∀ i, i < k → narrowB (gt T.sand i) = true) (fun k => T.sand.length - k) 0 ⟨by omega, by intro i hi; omega⟩ (by exact ⟨rfl, rfl, rfl, rfl, rfl, rfl, rfl, trivial⟩) ?_
        intro k ⟨hk, hd⟩
        refine g [[1],[5,1,2,5,8,71,72,73]] ?_
        refine WC.cond rfl (fun c74 => ?_) (fun c74 => ?_)
        · try simp only [zq] at c74
          refine g [[5],[1,1,2,5,8,71,72,73]] ?_
          refine WL.yd (Yd.ix rfl rfl (hR.sand.addr k (by omega))) rfl (WL.yd (Yd.lV [_, _] rfl ((hR.sand.at k (by omega)).rdn 0 2 rfl)) rfl ?_)
          refine WL.so (SO.alloc ZvF.h rfl) rfl (zw fun b10 hb10 => ?_)
          refine g [[3],[3,10,1,2,5,8,71,72,73]] ?_
          refine WL.so (SO.call (Enters.val CaF.h rfl rfl) (fun w hI => narrow_g ⟨_, _⟩ _)) rfl (zs ?_)
          refine WL.part 79 rfl (fun g79 => ?_) (fun g79 => ?_)
          · try simp only [zq] at g79
            refine WL.cl rfl (fun w hI => mustD_ok _ _) (g [[3],[4,1,2,5,8,71,72,73]] ?_)
            exact WP.againF (k + 1) ⟨by omega, ext_round hd (by assumption)⟩ (by omega) ⟨rfl, rfl, rfl, rfl, rfl, rfl, rfl, trivial⟩ (fun _ h => List.mem_cons_of_mem _ h) (fun h => (List.nodup_cons.1 h).2)
          try simp only [zq] at g79
          refine WL.nf rfl (fun w hI => mustD_no _ _) (g [[5]] ?_)
          first
            | exact WP.panicBody rfl (fun w hI => ⟨fun h => absurd (hok.symm.trans h) (by decide), fun _ _ => ⟨rfl, hI.keep⟩, fun _ h => by rw [g108] at h; cases h⟩)
            | (refine WP.panicBody rfl (fun w hI => ?_)
               have hno : tideB T = false := tide_no fun hT => by
                 first
                   | (have h1 := hT.nm; have h2 := hT.ns; have h3 := hT.nl; simp_all [inB]; done)
                   | (have h1 := hT.nm; have h2 := hT.ns; have h3 := hT.nl; simp_all [inB]; omega)
                   | (have h1 := mark_no hT (k := k) (by omega); simp_all; done)
                   | (have h1 := mark_no hT (k := k) (by omega); simp_all; omega)
                   | (have h1 := hT.sand k (by omega); simp_all; done)
                   | (have h1 := hT.look k (by omega); simp_all [lookB]; done)
               exact ⟨fun _ => ⟨rfl, hI.keep⟩, fun h => absurd (hno.symm.trans h) (by decide), fun h => absurd (hno.symm.trans h) (by decide)⟩)
        try simp only [zq] at c74
        refine g [[7]] ?_
        have hsd : ∀ i, i < T.sand.length → narrowB (gt T.sand i) = true := fun i hi => hd i (by omega)
        refine WC.freezeK 0 rfl (fun hn69 => ?_)
        have hX1 : DExt w D (D.add b69 (shoO (.slice a1 T.marks.length c1) (.slice a2 T.sand.length c2) (.slice a3 T.looks.length c3) b67)) := (DExt.refl w D).add hn69 hb69
        have hq1 : (D.add b69 (shoO (.slice a1 T.marks.length c1) (.slice a2 T.sand.length c2) (.slice a3 T.looks.length c3) b67)) b69 = some (shoO (.slice a1 T.marks.length c1) (.slice a2 T.sand.length c2) (.slice a3 T.looks.length c3) b67) := Imm.add_self _ _ _
        have hR1 := hR.ext hX1
        refine (?_ : WC Tryz.prog _ _ (D.add b69 (shoO (.slice a1 T.marks.length c1) (.slice a2 T.sand.length c2) (.slice a3 T.looks.length c3) b67)) [(b67, .map #[] 0), (b2, .cells (List.toArray [.slice a1 T.marks.length c1, .slice a2 T.sand.length c2, .slice a3 T.looks.length c3]) 31 (0, 0))] _ _)
        generalize (D.add b69 (shoO (.slice a1 T.marks.length c1) (.slice a2 T.sand.length c2) (.slice a3 T.looks.length c3) b67)) = D1 at hX1 hq1 hR1 ⊢
        refine g [[8,1,2,8]] ?_
        refine WC.loopF (fun k : Nat => [(1, .func (.func fi) #[] cp.toArray), (8, pt b69), (83, .slice a3 T.looks.length c3), (84, nt T.looks.length), (85, nt k)]) (fun k => k ≤ T.looks.length ∧ ∀ i, i < k → lookB T (gt T.looks i) = true) (fun k => T.looks.length - k) 0 ⟨by omega, by intro i hi; omega⟩ (by exact ⟨rfl, rfl, rfl, rfl, rfl, trivial⟩) ?_
        intro k ⟨hk, hd⟩
        refine g [[1],[5,1,8,83,84,85]] ?_
        refine WC.cond rfl (fun c86 => ?_) (fun c86 => ?_)
        · try simp only [zq] at c86
          refine g [[5],[1,1,8,83,84,85]] ?_
          refine WL.yd (Yd.ix rfl rfl (hR.look.addr k (by omega))) rfl (WL.yd (Yd.lV [_, _, _, _] rfl ((hR1.look.at k (by omega)).rdn 0 4 rfl)) rfl ?_)
          refine WL.so (SO.alloc ZvF.h rfl) rfl (zw fun b12 hb12 => ?_)
          refine g [[3],[4,12,1,8,83,84,85]] ?_
          refine WL.cl rfl (fun w hI => isPlace_g T a1 a2 a3 _ _ _ c1 c2 c3 _ _ hR1 b69 b67 hq1 hI.imm _) (g [[1]] ?_)
          refine WL.part 93 rfl (fun g93 => ?_) (fun g93 => ?_)
          · try simp only [zq] at g93
            refine g [[3]] ?_
            refine WL.sog rfl (SO.callP CaF.h rfl (fun w hI => isMinute_g T a1 a2 a3 _ _ _ c1 c2 c3 _ _ hR1 b69 b67 hq1 hI.imm (by simp_all [inB]; omega) _)) rfl (zs (g [[2]] ?_))
            refine WL.part 99 rfl (fun g99 => ?_) (fun g99 => ?_)
            · try simp only [zq] at g99
              refine g [[2]] ?_
              refine WL.sog rfl (SO.callP CaF.h rfl (fun w hI => isHigh_g ⟨_, _⟩ _)) rfl (zs (g [[1]] ?_))
              refine WL.part 103 rfl (fun g103 => ?_) (fun g103 => ?_)
              · try simp only [zq] at g103
                refine WL.cl rfl (fun w hI => mustD_ok _ _) (g [[3],[4,1,8,83,84,85]] ?_)
                exact WP.againF (k + 1) ⟨by omega, ext_round hd (by simp_all [lookB])⟩ (by omega) ⟨rfl, rfl, rfl, rfl, rfl, trivial⟩ (fun _ h => List.mem_cons_of_mem _ h) (fun h => (List.nodup_cons.1 h).2)
              try simp only [zq] at g103
              refine WL.nf rfl (fun w hI => mustD_no _ _) (g [[5]] ?_)
              first
                | exact WP.panicBody rfl (fun w hI => ⟨fun h => absurd (hok.symm.trans h) (by decide), fun _ _ => ⟨rfl, hI.keep⟩, fun _ h => by rw [g108] at h; cases h⟩)
                | (refine WP.panicBody rfl (fun w hI => ?_)
                   have hno : tideB T = false := tide_no fun hT => by
                     first
                       | (have h1 := hT.nm; have h2 := hT.ns; have h3 := hT.nl; simp_all [inB]; done)
                       | (have h1 := hT.nm; have h2 := hT.ns; have h3 := hT.nl; simp_all [inB]; omega)
                       | (have h1 := mark_no hT (k := k) (by omega); simp_all; done)
                       | (have h1 := mark_no hT (k := k) (by omega); simp_all; omega)
                       | (have h1 := hT.sand k (by omega); simp_all; done)
                       | (have h1 := hT.look k (by omega); simp_all [lookB]; done)
                   exact ⟨fun _ => ⟨rfl, hI.keep⟩, fun h => absurd (hno.symm.trans h) (by decide), fun h => absurd (hno.symm.trans h) (by decide)⟩)
            try simp only [zq] at g99
            refine g [[4]] ?_
            refine WL.nf rfl (fun w hI => mustD_no _ _) (g [[5]] ?_)
            first
              | exact WP.panicBody rfl (fun w hI => ⟨fun h => absurd (hok.symm.trans h) (by decide), fun _ _ => ⟨rfl, hI.keep⟩, fun _ h => by rw [g108] at h; cases h⟩)
              | (refine WP.panicBody rfl (fun w hI => ?_)
                 have hno : tideB T = false := tide_no fun hT => by
                   first
                     | (have h1 := hT.nm; have h2 := hT.ns; have h3 := hT.nl; simp_all [inB]; done)
                     | (have h1 := hT.nm; have h2 := hT.ns; have h3 := hT.nl; simp_all [inB]; omega)
                     | (have h1 := mark_no hT (k := k) (by omega); simp_all; done)
                     | (have h1 := mark_no hT (k := k) (by omega); simp_all; omega)
                     | (have h1 := hT.sand k (by omega); simp_all; done)
                     | (have h1 := hT.look k (by omega); simp_all [lookB]; done)
                 exact ⟨fun _ => ⟨rfl, hI.keep⟩, fun h => absurd (hno.symm.trans h) (by decide), fun h => absurd (hno.symm.trans h) (by decide)⟩)
          try simp only [zq] at g93
          refine g [[10]] ?_
          refine WL.nf rfl (fun w hI => mustD_no _ _) (g [[5]] ?_)
          first
            | exact WP.panicBody rfl (fun w hI => ⟨fun h => absurd (hok.symm.trans h) (by decide), fun _ _ => ⟨rfl, hI.keep⟩, fun _ h => by rw [g108] at h; cases h⟩)
            | (refine WP.panicBody rfl (fun w hI => ?_)
               have hno : tideB T = false := tide_no fun hT => by
                 first
                   | (have h1 := hT.nm; have h2 := hT.ns; have h3 := hT.nl; simp_all [inB]; done)
                   | (have h1 := hT.nm; have h2 := hT.ns; have h3 := hT.nl; simp_all [inB]; omega)
                   | (have h1 := mark_no hT (k := k) (by omega); simp_all; done)
                   | (have h1 := mark_no hT (k := k) (by omega); simp_all; omega)
                   | (have h1 := hT.sand k (by omega); simp_all; done)
                   | (have h1 := hT.look k (by omega); simp_all [lookB]; done)
               exact ⟨fun _ => ⟨rfl, hI.keep⟩, fun h => absurd (hno.symm.trans h) (by decide), fun h => absurd (hno.symm.trans h) (by decide)⟩)
        try simp only [zq] at c86
        refine g [[6]] ?_
        have hok : tideB T = true := tide_yes g17 g23 g28 hmk hsd (fun i hi => hd i (by omega))
        refine g [[3,1,8]] ?_
        refine WL.so (SO.call (Enters.val hfi rfl rfl) (fun w hI => hIs hok _ b67 _ _ hX1 hq1 hI.imm)) rfl (zs ?_)
        refine WL.part 108 rfl (fun g108 => ?_) (fun g108 => ?_)
        · try simp only [zq] at g108
          refine WL.cl rfl (fun w hI => mustD_ok _ _) (g [[3],[6,8]] ?_)
          refine WP.ret1 rfl rfl rfl (RV.tmp rfl) (fun w1 hI => ⟨fun h => absurd (hok.symm.trans h) (by decide), fun _ h => (by rw [g108] at h; cases h), fun _ _ => ⟨_, b67, D1, rfl, hX1, hq1, hI.sub (fun e he => by simp only [List.mem_singleton] at he; subst he; simp) (by simp [keys])⟩⟩)
        try simp only [zq] at g108
        refine WL.nf rfl (fun w hI => mustD_no _ _) (g [[1]] ?_)
        first
          | exact WP.panicBody rfl (fun w hI => ⟨fun h => absurd (hok.symm.trans h) (by decide), fun _ _ => ⟨rfl, hI.keep⟩, fun _ h => by rw [g108] at h; cases h⟩)
          | (refine WP.panicBody rfl (fun w hI => ?_)
             have hno : tideB T = false := tide_no fun hT => by
               first
                 | (have h1 := hT.nm; have h2 := hT.ns; have h3 := hT.nl; simp_all [inB]; done)
                 | (have h1 := hT.nm; have h2 := hT.ns; have h3 := hT.nl; simp_all [inB]; omega)
                 | (have h1 := mark_no hT (k := k) (by omega); simp_all; done)
                 | (have h1 := mark_no hT (k := k) (by omega); simp_all; omega)
                 | (have h1 := hT.sand k (by omega); simp_all; done)
                 | (have h1 := hT.look k (by omega); simp_all [lookB]; done)
             exact ⟨fun _ => ⟨rfl, hI.keep⟩, fun h => absurd (hno.symm.trans h) (by decide), fun h => absurd (hno.symm.trans h) (by decide)⟩)
      try simp only [zq] at g28
      refine WL.nf rfl (fun w hI => mustD_no _ _) (g [[1]] ?_)
      first
        | exact WP.panicBody rfl (fun w hI => ⟨fun h => absurd (hok.symm.trans h) (by decide), fun _ _ => ⟨rfl, hI.keep⟩, fun _ h => by rw [g108] at h; cases h⟩)
        | (refine WP.panicBody rfl (fun w hI => ?_)
           have hno : tideB T = false := tide_no fun hT => by
             first
               | (have h1 := hT.nm; have h2 := hT.ns; have h3 := hT.nl; simp_all [inB]; done)
               | (have h1 := hT.nm; have h2 := hT.ns; have h3 := hT.nl; simp_all [inB]; omega)
               | (have h1 := mark_no hT (k := k) (by omega); simp_all; done)
               | (have h1 := mark_no hT (k := k) (by omega); simp_all; omega)
               | (have h1 := hT.sand k (by omega); simp_all; done)
               | (have h1 := hT.look k (by omega); simp_all [lookB]; done)
           exact ⟨fun _ => ⟨rfl, hI.keep⟩, fun h => absurd (hno.symm.trans h) (by decide), fun h => absurd (hno.symm.trans h) (by decide)⟩)
    try simp only [zq] at g23
    refine g [[5]] ?_
    refine WL.nf rfl (fun w hI => mustD_no _ _) (g [[1]] ?_)
    first
      | exact WP.panicBody rfl (fun w hI => ⟨fun h => absurd (hok.symm.trans h) (by decide), fun _ _ => ⟨rfl, hI.keep⟩, fun _ h => by rw [g108] at h; cases h⟩)
      | (refine WP.panicBody rfl (fun w hI => ?_)
         have hno : tideB T = false := tide_no fun hT => by
           first
             | (have h1 := hT.nm; have h2 := hT.ns; have h3 := hT.nl; simp_all [inB]; done)
             | (have h1 := hT.nm; have h2 := hT.ns; have h3 := hT.nl; simp_all [inB]; omega)
             | (have h1 := mark_no hT (k := k) (by omega); simp_all; done)
             | (have h1 := mark_no hT (k := k) (by omega); simp_all; omega)
             | (have h1 := hT.sand k (by omega); simp_all; done)
             | (have h1 := hT.look k (by omega); simp_all [lookB]; done)
         exact ⟨fun _ => ⟨rfl, hI.keep⟩, fun h => absurd (hno.symm.trans h) (by decide), fun h => absurd (hno.symm.trans h) (by decide)⟩)
  try simp only [zq] at g17
  refine g [[11]] ?_
  refine WL.nf rfl (fun w hI => mustD_no _ _) (g [[1]] ?_)
  first
    | exact WP.panicBody rfl (fun w hI => ⟨fun h => absurd (hok.symm.trans h) (by decide), fun _ _ => ⟨rfl, hI.keep⟩, fun _ h => by rw [g108] at h; cases h⟩)
    | (refine WP.panicBody rfl (fun w hI => ?_)
       have hno : tideB T = false := tide_no fun hT => by
         first
           | (have h1 := hT.nm; have h2 := hT.ns; have h3 := hT.nl; simp_all [inB]; done)
           | (have h1 := hT.nm; have h2 := hT.ns; have h3 := hT.nl; simp_all [inB]; omega)
           | (have h1 := mark_no hT (k := k) (by omega); simp_all; done)
           | (have h1 := mark_no hT (k := k) (by omega); simp_all; omega)
           | (have h1 := hT.sand k (by omega); simp_all; done)
           | (have h1 := hT.look k (by omega); simp_all [lookB]; done)
       exact ⟨fun _ => ⟨rfl, hI.keep⟩, fun h => absurd (hno.symm.trans h) (by decide), fun h => absurd (hno.symm.trans h) (by decide)⟩)
end Go.Proofs.YtejgofaeafphjaaGreatDoor
namespace Go.Proofs.YtejgofaeafphjaaGreatDoor
open Go.W Go.Ti
theorem inv_weak {w1 w0 w : World} {D D' : Imm} {hp : Hp} {S : List Nat} (h : Inv D' hp S w0 w) (hx : DExt w1 D D') : Inv D hp S w0 w :=
  ⟨fun b o hb => h.imm b o (hx.old b o hb), h.own, h.nodup, (fun b o hb => by
    cases hd : D b with
    | none => rfl
    | some o' => have := h.apart b o hb; rw [hx.old b o' hd] at this; cases this), h.keep, h.may⟩
abbrev K5 : Type := Fin 61 × Fin 61 × Fin 61 × Fin 61 × Fin 241
def htC (h : Hts) : List Value := [it (h 0), it (h 1), it (h 2), it (h 3)]
def htV (h : Hts) : Value := .agg (htC h).toArray
def moV (h : Hts) (m : Int) : Value := .agg #[it (h 0), it (h 1), it (h 2), it (h 3), it m]
def kv5 (y : K5) : Value := .agg #[nt y.1.val, nt y.2.1.val, nt y.2.2.1.val, nt y.2.2.2.1.val, nt y.2.2.2.2.val]
def f61 (x : Int) : Fin 61 := ⟨x.toNat % 61, Nat.mod_lt _ (by decide)⟩
def f241 (x : Int) : Fin 241 := ⟨x.toNat % 241, Nat.mod_lt _ (by decide)⟩
theorem f61_val {x : Int} (h : 0 ≤ x ∧ x ≤ 60) : ((f61 x).val : Int) = x := by
  show ((x.toNat % 61 : Nat) : Int) = x
  rw [Nat.mod_eq_of_lt (by omega)]; omega
theorem f241_val {x : Int} (h : 0 ≤ x ∧ x ≤ 240) : ((f241 x).val : Int) = x := by
  show ((x.toNat % 241 : Nat) : Int) = x
  rw [Nat.mod_eq_of_lt (by omega)]; omega
def k5 (h : Hts) (m : Int) : K5 := (f61 (h 0), f61 (h 1), f61 (h 2), f61 (h 3), f241 m)
def HtB (h : Hts) : Prop := ∀ i, 0 ≤ h i ∧ h i ≤ 60
theorem kv5_at {h : Hts} {m : Int} (hh : HtB h) (hm : 0 ≤ m ∧ m ≤ 240) : moV h m = kv5 (k5 h m) := by
  have g : ∀ x : Int, 0 ≤ x ∧ x ≤ 60 → it x = nt (f61 x).val := fun x hx => by show it x = it ((f61 x).val : Int); rw [f61_val hx]
  have g2 : it m = nt (f241 m).val := by show it m = it ((f241 m).val : Int); rw [f241_val hm]
  unfold moV kv5
  rw [g _ (hh 0), g _ (hh 1), g _ (hh 2), g _ (hh 3), g2]; rfl
theorem kv5_inj : ∀ x y, kv5 x = kv5 y → x = y := by
  rintro ⟨⟨a, ha⟩, ⟨b, hb⟩, ⟨c, hc⟩, ⟨d, hd⟩, ⟨e, he⟩⟩ ⟨⟨a', ha'⟩, ⟨b', hb'⟩, ⟨c', hc'⟩, ⟨d', hd'⟩, ⟨e', he'⟩⟩ h
  simp only [kv5, Value.agg.injEq, it] at h
  simp at h
  obtain ⟨h1, h2, h3, h4, h5⟩ := h
  have e1 : a = a' := by omega
  have e2 : b = b' := by omega
  have e3 : c = c' := by omega
  have e4 : d = d' := by omega
  have e5 : e = e' := by omega
  subst e1; subst e2; subst e3; subst e4; subst e5; rfl
theorem k5_inj {h h' : Hts} {m m' : Int} (hh : HtB h) (hh' : HtB h') (hm : 0 ≤ m ∧ m ≤ 240) (hm' : 0 ≤ m' ∧ m' ≤ 240) (e : k5 h m = k5 h' m') : (∀ i, i < 4 → h i = h' i) ∧ m = m' := by
  simp only [k5, Prod.mk.injEq] at e
  obtain ⟨e0, e1, e2, e3, e4⟩ := e
  have g : ∀ {x y : Int}, 0 ≤ x ∧ x ≤ 60 → 0 ≤ y ∧ y ≤ 60 → f61 x = f61 y → x = y := fun hx hy e => by rw [← f61_val hx, ← f61_val hy, e]
  refine ⟨fun i hi => ?_, by rw [← f241_val hm, ← f241_val hm', e4]⟩
  rcases (show i = 0 ∨ i = 1 ∨ i = 2 ∨ i = 3 by omega) with rfl | rfl | rfl | rfl
  · exact g (hh _) (hh' _) e0
  · exact g (hh _) (hh' _) e1
  · exact g (hh _) (hh' _) e2
  exact g (hh _) (hh' _) e3
theorem keyM : Tryz.prog.keyType 305 = true := by kernel_rfl
theorem laidOutB_ : laidOutB Tryz.prog = true := by kernel_rfl
theorem keyLawM : Go.Maps.Keyed Tryz.prog 305 := Go.Maps.Keyed.of_law (deep_law_gate laidOutB_ (Nat.le_of_ble_eq_true zk) (Nat.le_of_ble_eq_true zk) keyM zk)
theorem wf_nat {n : Nat} (h : n ≤ 1000) : (Lit.int .i64 (n : Int)).wf = true := by
  simp only [Lit.wf, Bool.and_eq_true, decide_eq_true_eq]
  exact ⟨Int.le_trans (by decide) (Int.natCast_nonneg n), Int.le_trans (show (n : Int) ≤ 1000 by omega) (by decide)⟩
theorem lits_int (d : Nat) (n : Nat) (h : n ≤ 1000) : Tryz.prog.keyLits (d + 1) 3 [nt n] = some [.int .i64 (n : Int)] := by
  have hw := wf_nat h
  simp only [Program.keyLits, Tryz.underlying3]
  simp [hw]
theorem lits_heights (d : Nat) (a b c e : Nat) (ha : a ≤ 1000) (hb : b ≤ 1000) (hc : c ≤ 1000) (he : e ≤ 1000) : Tryz.prog.keyLits (d + 2) 232 [nt a, nt b, nt c, nt e] = some [.int .i64 (a : Int), .int .i64 (b : Int), .int .i64 (c : Int), .int .i64 (e : Int)] := by
  have h4 : Tryz.prog.cellsOf 232 = 4 := by kernel_rfl
  have h1 : Tryz.prog.cellsOf 3 = 1 := by kernel_rfl
  simp only [Program.keyLits, Tryz.underlying232, Tryz.underlying3, h4, h1]
  simp [List.range, List.range.loop, wf_nat ha, wf_nat hb, wf_nat hc, wf_nat he]
theorem key_k5 (y : K5) : ∃ l, keyOf Tryz.prog 305 (kv5 y) = some l := by
  obtain ⟨⟨a, ha⟩, ⟨b, hb⟩, ⟨c, hc⟩, ⟨d, hd⟩, ⟨e, he⟩⟩ := y
  have h5 : Tryz.prog.cellsOf 305 = 5 := by kernel_rfl
  have h4 : Tryz.prog.cellsOf 232 = 4 := by kernel_rfl
  have h1 : Tryz.prog.cellsOf 3 = 1 := by kernel_rfl
  have hs : Tryz.prog.types.size + 1 = 433 + 3 := by kernel_rfl
  unfold keyOf
  rw [Tryz.underlying305]
  have hf : (kv5 (⟨a, ha⟩, ⟨b, hb⟩, ⟨c, hc⟩, ⟨d, hd⟩, ⟨e, he⟩)).formed Tryz.prog 305 = true := by
    simp [kv5, Value.formed, Tryz.underlying305, h5]
  simp only [keyM, hf, Bool.and_self, if_true, hs]
  have hl : Tryz.prog.keyLits (433 + 3) 305 [nt a, nt b, nt c, nt d, nt e] = some [.int .i64 (a : Int), .int .i64 (b : Int), .int .i64 (c : Int), .int .i64 (d : Int), .int .i64 (e : Int)] := by
    unfold Program.keyLits
    simp only [Tryz.underlying305, h5]
    simp [h4, h1, lits_int, lits_heights 433 a b c d (by omega) (by omega) (by omega) (by omega), show e ≤ 1000 by omega]
  show ∃ l, (Tryz.prog.keyLits (433 + 3) 305 [nt a, nt b, nt c, nt d, nt e]).map _ = some l
  rw [hl]
  exact ⟨_, rfl⟩
def KnownOK (T : Tide) (F : K5 → Option Int) : Prop := ∀ h m v, HtB h → minuteB T m = true → F (k5 h m) = some v → v = standsI T h m
def MapK (T : Tide) (mb : Nat) (hp : Hp) : Prop := ∃ es clock F, hp = [(mb, .map es clock)] ∧ MapR kv5 es clock F ∧ KnownOK T F
theorem mapK_nil (T : Tide) (mb : Nat) : MapK T mb [(mb, .map #[] 0)] := ⟨_, _, _, rfl, MapR.empty kv5, fun h m v _ _ e => by cases e⟩
theorem minute_num {T : Tide} (hT : TideOk T) {m : Int} (h : minuteB T m = true) : 0 ≤ m ∧ m ≤ 240 := by
  have h1 := (hT.mark 0 (by have := hT.nm; omega)).1
  have h2 := (hT.mark (T.marks.length - 1) (by have := hT.nm; omega)).1.2
  have h' : firstM T ≤ m ∧ m ≤ lastM T := by simpa only [minuteB, decide_eq_true_eq] using h
  exact ⟨Int.le_trans h1.1 h'.1, Int.le_trans h'.2 h2⟩
theorem stands_congr {T : Tide} (hT : TideOk T) {h h' : Hts} {m : Int} (hm : minuteB T m = true) (e : ∀ i, i < 4 → h i = h' i) : standsI T h m = standsI T h' m := by
  obtain ⟨_, h2, _⟩ := next_spec hT hm
  have := hT.nm
  unfold standsI standI
  rw [e _ (by omega), e _ (by omega)]
theorem known_put {T : Tide} (hT : TideOk T) {F : K5 → Option Int} (hF : KnownOK T F) {h : Hts} {m : Int} (hh : HtB h) (hm : minuteB T m = true) : KnownOK T (putF F (k5 h m) (standsI T h m)) := fun h' m' v hh' hm' e => by
  unfold putF at e
  split at e
  · rename_i e2
    obtain ⟨h1, h2⟩ := k5_inj hh' hh (minute_num hT hm') (minute_num hT hm) e2
    subst h2
    simp only [Option.some.injEq] at e
    rw [← e]; exact (stands_congr hT hm h1).symm
  exact hF h' m' v hh' hm' e
theorem late_g (x : Go.Ti.Mark) (b5 : Nat) (m : Int) (D : Imm) (h5 : D b5 = some (.cells (List.toArray [it m]) 3 (0, 0))) (w : World) (hH : Holds D w) : Gives Tryz.prog 231 [.agg #[it x.minute, it x.high.lo, it x.high.hi], pt b5] w (.bool (decide (m ≤ x.minute))) := by
  unfold Gives
  refine en Tryz.func231 rfl Tryz.ntmps231 (Inv.start hH) (g [[1],[1,0,1]] ?_)
  refine WL.so (SO.box rfl rfl) rfl (zw fun b2 hb2 => ?_)
  refine g [[4],[9,3,2,1]] ?_
  refine WP.ret1 rfl rfl rfl (RV.tmp rfl) (fun w hI => ⟨ret_bool rfl, hI.keep⟩)
theorem indexM_g (T : Tide) (a1 a2 a3 : Option Addr) (n1 n2 n3 c1 c2 c3 : Nat) (D : Imm) (w : World) (hR : TideR D T a1 n1 a2 n2 a3 n3) (hH : Holds D w) (b5 : Nat) (m : Int) (h5 : D b5 = some (.cells (List.toArray [it m]) 3 (0, 0))) (hfd : findM T m T.marks.length 0 < T.marks.length) : Gives Tryz.prog 230 [.slice a1 n1 c1, .func (.func 231) #[] #[pt b5]] w (nt (findM T m T.marks.length 0)) := by
  unfold Gives
  obtain rfl := hR.mark.len'
  obtain rfl := hR.sand.len'
  obtain rfl := hR.look.len'
  obtain ⟨hl1, hl2, hl3⟩ := hR.len
  refine en Tryz.func230 rfl Tryz.ntmps230 (Inv.start hH) (g [[1],[6,0,1],[7,4,0,1]] ?_)
  refine WC.loopF (fun k : Nat => [(0, .slice a1 T.marks.length c1), (1, .func (.func 231) #[] #[pt b5]), (7, nt T.marks.length), (8, nt k)]) (fun k => k ≤ T.marks.length ∧ findM T m T.marks.length 0 = findM T m (T.marks.length - k) k) (fun k => T.marks.length - k) 0 ⟨by omega, rfl⟩ (by exact ⟨rfl, rfl, rfl, rfl, trivial⟩) ?_
  intro k ⟨hk, hd⟩
  refine g [[1],[5,0,1,7,8]] ?_
  refine WC.cond rfl (fun c9 => ?_) (fun c9 => ?_)
  · try simp only [zq] at c9
    refine g [[5],[6,0,1,7,8],[4,5,0,1,7,8]] ?_
    refine WL.yd (Yd.ix rfl rfl (hR.mark.addr k (by omega))) rfl (WL.yd (Yd.lV [_, _, _] rfl ((hR.mark.at k (by omega)).rdn 0 3 rfl)) rfl ?_)
    refine WL.so (SO.call (Enters.val CaF.h rfl rfl) (fun w hI => late_g (gt T.marks k) b5 m D h5 _ hI.imm)) rfl (zs (g [[2]] ?_))
    refine WC.cond rfl (fun c16 => ?_) (fun c16 => ?_)
    · try simp only [zq] at c16
      refine g [[1],[11,5,0,1,7,8]] ?_
      refine WP.ret1 rfl rfl rfl (RV.tmp rfl) (fun w hI => ⟨ret_int (by
              first
                | (rw [hd, show T.marks.length - k = (T.marks.length - (k + 1)) + 1 by omega, findM, if_pos (by omega)]; done)
                | (exfalso; rw [hd, show T.marks.length - k = 0 by omega, findM] at hfd; omega)), hI.keep⟩)
    try simp only [zq] at c16
    refine g [[3],[4,0,1,7,8]] ?_
    exact WP.againF (k + 1) ⟨by omega, by rw [hd, show T.marks.length - k = (T.marks.length - (k + 1)) + 1 by omega, findM, if_neg (by omega)]⟩ (by omega) ⟨rfl, rfl, rfl, rfl, trivial⟩ (fun _ h => h) (fun h => h)
  try simp only [zq] at c9
  refine g [[6]] ?_
  refine WC.ofFr [] trivial (g [[5]] ?_)
  refine WP.ret1 rfl rfl rfl (RV.tmp rfl) (fun w hI => ⟨ret_int (by
          first
            | (rw [hd, show T.marks.length - k = (T.marks.length - (k + 1)) + 1 by omega, findM, if_pos (by omega)]; done)
            | (exfalso; rw [hd, show T.marks.length - k = 0 by omega, findM] at hfd; omega)), hI.keep⟩)
end Go.Proofs.YtejgofaeafphjaaGreatDoor
namespace Go.Proofs.YtejgofaeafphjaaGreatDoor
open Go.W Go.Ti
theorem SA305 : StructAt Tryz.prog 305 [.int .i64 0, .int .i64 0, .int .i64 0, .int .i64 0, .int .i64 0] [(0, 4), (4, 1)] := ⟨⟨_, Tryz.zeroValue305, rfl⟩, _, Tryz.underlying305, fun w => by simp [Tryz.sizeOf3, Tryz.sizeOf232]⟩
@[reducible, instance] def ISA305 := SaF.mk SA305
def DoneD (D : Imm) : Prop := ∃ t fz, D 2 = some (.cells (List.toArray (donL.map it)) t fz)
theorem DoneD.ext {w : World} {D D' : Imm} (hD : DExt w D D') (h : DoneD D) : DoneD D' := let ⟨t, fz, e⟩ := h; ⟨t, fz, hD.old _ _ e⟩
theorem done_rd {D : Imm} (h : DoneD D) (hp : Hp) {k : Nat} (hk : k < 7) : Rd D hp ⟨2, 0 + k * 1, none⟩ (it (doneN k)) := by
  obtain ⟨t, fz, e⟩ := h
  rcases (show k = 0 ∨ k = 1 ∨ k = 2 ∨ k = 3 ∨ k = 4 ∨ k = 5 ∨ k = 6 by omega) with rfl | rfl | rfl | rfl | rfl | rfl | rfl <;> exact Rd.imm e rfl
theorem mul_12 {a r : Int} (ha : 0 ≤ a ∧ a ≤ 12) (hr : 0 ≤ r ∧ r ≤ 240) : 0 ≤ a * r ∧ a * r ≤ 2880 :=
  ⟨Int.mul_nonneg ha.1 hr.1, Int.le_trans (Int.mul_le_mul ha.2 hr.2 hr.1 (by decide)) (by decide)⟩
theorem mul_3 {a r : Int} (ha : 0 ≤ a ∧ a ≤ 3) (hr : 0 ≤ r ∧ r ≤ 240) : 0 ≤ a * r ∧ a * r ≤ 720 :=
  ⟨Int.mul_nonneg ha.1 hr.1, Int.le_trans (Int.mul_le_mul ha.2 hr.2 hr.1 (by decide)) (by decide)⟩
theorem ht_rd (h : Hts) {i : Nat} (hi : i < 4) : (htC h)[0 + i * 1]? = some (it (h i)) := by
  rcases (show i = 0 ∨ i = 1 ∨ i = 2 ∨ i = 3 by omega) with rfl | rfl | rfl | rfl <;> rfl
theorem stands_g (T : Tide) (a1 a2 a3 : Option Addr) (n1 n2 n3 c1 c2 c3 : Nat) (D : Imm) (w : World) (hR : TideR D T a1 n1 a2 n2 a3 n3) (qb mb : Nat) (hq : D qb = some (shoO (.slice a1 n1 c1) (.slice a2 n2 c2) (.slice a3 n3 c3) mb)) (hH : Holds D w) (hT : TideOk T) (hdn : DoneD D) (h : Hts) (m : Int) (hh : HtB h) (hm : minuteB T m = true) (es : Array MapEntry) (clock : Nat) (F : K5 → Option Int) (hM : MapR kv5 es clock F) (hF : KnownOK T F) (hI0 : Inv D [(mb, .map es clock)] [mb] w w) : AltersN Tryz.prog 168 [pt qb, htV h, it m] w D [mb] (fun v D' hp' => v = it (standsI T h m) ∧ D' = D ∧ MapK T mb hp') := by
  unfold AltersN
  obtain rfl := hR.mark.len'
  obtain rfl := hR.sand.len'
  obtain rfl := hR.look.len'
  obtain ⟨hl1, hl2, hl3⟩ := hR.len
  have hmn := minute_num hT hm
  obtain ⟨hk1, hk2, hk3, hk4, hk5⟩ := next_spec hT hm
  have hfd := findM_last hT (m := m) (by have h' : firstM T ≤ m ∧ m ≤ lastM T := by simpa only [minuteB, decide_eq_true_eq] using hm
                                         exact h'.2)
  have hst : standsI T h m = standI T h m (nextN T m) := rfl
  generalize hkn : nextN T m = k at hk1 hk2 hk3 hk4 hk5 hst
  have hnm := hT.nm
  have hma := (hT.mark (k - 1) (by omega)).1
  have hmb := (hT.mark k hk2).1
  have hgap := hT.less (i := k - 1) (j := k) (by omega) hk2
  have hh1 := hh (k - 1)
  have hh2 := hh k
  unfold standI at hst
  obtain ⟨L, hLd⟩ : ∃ L, (gt T.marks k).minute - (gt T.marks (k - 1)).minute = L := ⟨_, rfl⟩
  obtain ⟨x, hxd⟩ : ∃ x, m - (gt T.marks (k - 1)).minute = x := ⟨_, rfl⟩
  rw [hLd, hxd] at hst
  have hLn : 6 ≤ L ∧ L ≤ 240 := by omega
  have hxn : 0 ≤ x ∧ x ≤ L := by omega
  obtain ⟨mv1, mv2, mv3, mv4, mv5, mv6, mv7⟩ := move_num (L := L) (x := x) (by omega) hxn.1 hxn.2
  have hmv : moveI L x = doneN (6 * x / L).toNat * L + if 0 < 6 * x % L then (doneN ((6 * x / L).toNat + 1) - doneN (6 * x / L).toNat) * (6 * x % L) else 0 := rfl
  obtain ⟨qn, hqn⟩ : ∃ qn : Nat, 6 * x / L = (qn : Int) := ⟨(6 * x / L).toNat, by omega⟩
  obtain ⟨r, hrd⟩ : ∃ r, 6 * x % L = r := ⟨_, rfl⟩
  obtain ⟨f, hf⟩ : ∃ f, moveI L x = f := ⟨_, rfl⟩
  have hqw := hqn
  have hrw := hrd
  rw [hf] at mv5 mv6 hmv hst
  rw [hqn, hrd, Int.toNat_natCast] at hmv
  rw [hqn] at mv1 mv2 mv7
  rw [hrd] at mv3 mv4 mv7
  have hfv : (0 < r → doneN qn * L + (doneN (qn + 1) - doneN qn) * r = f) ∧ (r ≤ 0 → doneN qn * L = f) := ⟨fun h => by rw [hmv, if_pos h], fun h => by rw [hmv, if_neg (by omega)]; omega⟩
  have hdq := done_num qn
  have hdr := done_rise qn
  have hpl := mul_12 (a := doneN qn) (r := L) hdq (by omega)
  obtain ⟨sn1, sn2, sn3, sn4, sn5, sn6, sn7⟩ := stand_num (L := L) (f := f) (by omega) hh1 hh2 ⟨mv5, mv6⟩
  refine en Tryz.func168 rfl Tryz.ntmps168 hI0 (g [[1],[1,0,1,2]] ?_)
  refine WL.so (SO.box rfl rfl) rfl (zw fun b4 hb4 => ?_)
  refine WL.so (SO.box rfl rfl) rfl (zw fun b5 hb5 => ?_)
  refine g [[4],[1,6,5,4,0]] ?_
  refine WL.yd (Yd.loadN  AgF.h SzF.h rfl (vs := [_, _, _, _]) rfl (RdN.own (k := 1) (n := 4) rfl rfl)) rfl (g [[2]] ?_)
  refine WL.so (SO.alloc ZvF.h rfl) rfl (zw fun b7 hb7 => ?_)
  refine g [[5],[0,7,6,5,4,0],[3010],[5]] ?_
  refine WQ.know 24 (kv5 (k5 h m)) rfl (kv5_at hh hmn) (WQ.q rfl (Yd.qt (Yd.lookKOk (y := k5 h m) kv5_inj keyLawM key_k5 UnF.h ZvF.h (j := 3) rfl rfl rfl hM)) rfl (g [[9],[4,9,8,7,6,5,4,0]] ?_))
  refine WC.cond rfl (fun c28 => ?_) (fun c28 => ?_)
  · try simp only [zq] at c28
    refine g [[1],[7,8,7,6,5,4,0]] ?_
    refine WP.ret1 rfl rfl rfl (RV.tmp rfl) (fun w1 hI => ⟨_, D, [(mb, .map es clock)], rfl, DExt.refl _ _, hI.drop 3, (by cases hFk : F (k5 h m) with
      | none => rw [hFk] at c28; cases c28
      | some v => exact congrArg it (hF h m v hh hm hFk)), rfl, es, clock, F, rfl, hM, hF⟩)
  try simp only [zq] at c28
  refine g [[3],[7,7,6,5,4,0]] ?_
  refine WL.freezeK 1 rfl (fun hn5 => ?_)
  have hF5 := fun o => (DExt.refl w D).add (o := o) hn5 hb5
  have hX1 := hF5 (.cells (List.toArray [it m]) 3 (0, 0))
  have hq1 := hX1.old _ _ hq
  have hR1 := hR.ext hX1
  have hdn1 := hdn.ext hX1
  have h51 : (D.add b5 (.cells (List.toArray [it m]) 3 (0, 0))) b5 = _ := Imm.add_self _ _ _
  refine WL.cl rfl (fun w hI => indexM_g T a1 a2 a3 _ _ _ c1 c2 c3 _ _ hR1 hI.imm b5 m h51 hfd) (WL.yd (Yd.max2 rfl rfl) rfl ?_)
  refine WL.know 37 (nt k) rfl (by show it (max 1 _) = it (k : Int); congr 1; rw [← hkn]; unfold nextN; omega) (g [[4],[0,10,7,6,5,4,0],[3031],[7]] ?_)
  refine WQ.know 44 (nt (k - 1)) rfl (by show it ((k : Int) - 1) = it ((k - 1 : Nat) : Int); congr 1; omega) ?_
  refine WQ.q rfl (Yd.qt (Yd.ix rfl rfl (hR1.mark.addr (k - 1) (by omega)))) rfl (g [[1]] ?_)
  refine WQ.q rfl (Yd.qt (Yd.l1 rfl ((hR1.mark.at (k - 1) (by omega)).rd 0 rfl))) rfl (g [[6]] ?_)
  refine WQ.q rfl (Yd.qt (Yd.ix rfl rfl (hR1.mark.addr (k - 1) (by omega)))) rfl (g [[1]] ?_)
  refine WQ.q rfl (Yd.qt (Yd.l1 rfl ((hR1.mark.at k (by omega)).rd 0 rfl))) rfl (g [[7]] ?_)
  refine WQ.know 63 (nt (k - 1)) rfl (by show it ((k : Int) - 1) = it ((k - 1 : Nat) : Int); congr 1; omega) ?_
  refine WQ.q rfl (Yd.qt (Yd.ix rfl rfl (hR1.mark.addr (k - 1) (by omega)))) rfl (g [[1]] ?_)
  refine WQ.q rfl (Yd.qt (Yd.l1 rfl ((hR1.mark.at (k - 1) (by omega)).rd 0 rfl))) rfl (g [[1]] ?_)
  refine WQ.know 67 (it L) rfl (congrArg it hLd) (g [[6],[0,12,11,10,7,6,5,4,0],[3013],[3]] ?_)
  refine WQ.know 70 (it x) rfl (congrArg it hxd) (g [[2]] ?_)
  refine WQ.q rfl (Yd.qt (Yd.quo rfl rfl (by omega) (by omega) (wr64 ⟨by omega, by omega⟩))) rfl (g [[3]] ?_)
  refine WQ.know 76 (it x) rfl (congrArg it hxd) (g [[2]] ?_)
  refine WQ.q rfl (Yd.qt (Yd.rem rfl rfl (by omega) (by omega))) rfl (WQ.know 73 (nt qn) rfl (congrArg it hqn) ?_)
  refine WQ.know 79 (it r) rfl (congrArg it hrd) (g [[6],[2,14,13,12,10,7,6,4,0]] ?_)
  refine WL.yd (Yd.indexA UnF.h SzF.h rfl rfl (by omega) (by omega)) rfl (WL.yd (Yd.l1 rfl (done_rd hdn1 _ (k := qn) (by omega))) rfl (g [[7],[5,15,14,13,12,10,7,6,4,0]] ?_))
  refine WC.cond rfl (fun c86 => ?_) (fun c86 => ?_)
  · try simp only [zq] at c86
    have hq5 : qn ≤ 5 := by omega
    have hpr := mul_3 (a := doneN (qn + 1) - doneN qn) (r := r) (by omega) (by omega)
    refine g [[0,15,14,13,12,10,7,6,4,0],[3011],[2]] ?_
    refine WQ.q rfl (Yd.qt (Yd.addN (i := qn) (j := 1) rfl rfl (by omega))) rfl (WQ.q rfl (Yd.qt (Yd.indexA UnF.h SzF.h rfl rfl (by omega) (by omega))) rfl ?_)
    refine WQ.q rfl (Yd.qt (Yd.l1 rfl (done_rd hdn1 _ (k := qn + 1) (by omega)))) rfl (g [[1]] ?_)
    refine WQ.q rfl (Yd.qt (Yd.indexA UnF.h SzF.h rfl rfl (by omega) (by omega))) rfl (WQ.q rfl (Yd.qt (Yd.l1 rfl (done_rd hdn1 _ (k := qn) (by omega)))) rfl (g [[9],[0,15,12,10,7,6,4,0],[3023],[7]] ?_))
    refine WQ.know 105 (nt (k - 1)) rfl (by show it ((k : Int) - 1) = it ((k - 1 : Nat) : Int); congr 1; omega) ?_
    refine WQ.q rfl (Yd.qt (Yd.indexA UnF.h SzF.h rfl rfl (by omega) (by omega))) rfl (WQ.q rfl (Yd.qt (Yd.l1 rfl (Rd.own (k := 1) rfl (ht_rd h (i := k - 1) (by omega))))) rfl (g [[3]] ?_))
    refine WQ.know 110 (it f) rfl (congrArg it (hfv.1 c86)) (g [[3]] ?_)
    refine WQ.q rfl (Yd.qt (Yd.indexA UnF.h SzF.h rfl rfl (by omega) (by omega))) rfl (WQ.q rfl (Yd.qt (Yd.l1 rfl (Rd.own (k := 1) rfl (ht_rd h (i := k) (by omega))))) rfl (g [[1]] ?_))
    refine WQ.know 116 (it f) rfl (congrArg it (hfv.1 c86)) (g [[4]] ?_)
    refine WQ.q rfl (Yd.qt (Yd.quo rfl rfl (by omega) (by omega) (wr64 ⟨by omega, by omega⟩))) rfl (g [[1]] ?_)
    refine WL.know 103 (kv5 (k5 h m)) rfl (kv5_at hh hmn) (WL.know 121 (it (standsI T h m)) rfl (congrArg it hst.symm) ?_)
    refine WL.so (SO.putK (u := standsI T h m) (y := k5 h m) kv5_inj keyLawM key_k5 UnF.h rfl rfl rfl (j := 2) rfl hM) rfl ?_
    rintro _ _ _ ⟨rfl, es1, clock1, rfl, hM1⟩
    refine g [[3],[0,7,6,0],[3005],[6]] ?_
    refine WL.know 126 (kv5 (k5 h m)) rfl (kv5_at hh hmn) (WL.yd (Yd.lookK (y := k5 h m) kv5_inj keyLawM key_k5 UnF.h ZvF.h (j := 2) rfl rfl rfl hM1) rfl (g [[4]] ?_))
    refine WP.ret1 rfl rfl rfl (RV.tmp rfl) (fun w1 hI => ⟨_, D, [(mb, .map es1 clock1)], rfl, DExt.refl _ _, inv_weak (hI.drop 2) hX1, (by rw [show (putF F (k5 h m) (standsI T h m)) (k5 h m) = some (standsI T h m) from if_pos rfl]; rfl), rfl, es1, clock1, _, rfl, hM1, known_put hT hF hh hm⟩)
  try simp only [zq] at c86
  refine g [[3],[0,15,12,10,7,6,4,0],[3023],[7]] ?_
  refine WQ.know 105 (nt (k - 1)) rfl (by show it ((k : Int) - 1) = it ((k - 1 : Nat) : Int); congr 1; omega) ?_
  refine WQ.q rfl (Yd.qt (Yd.indexA UnF.h SzF.h rfl rfl (by omega) (by omega))) rfl (WQ.q rfl (Yd.qt (Yd.l1 rfl (Rd.own (k := 1) rfl (ht_rd h (i := k - 1) (by omega))))) rfl (g [[3]] ?_))
  refine WQ.know 110 (it f) rfl (congrArg it (hfv.2 c86)) (g [[3]] ?_)
  refine WQ.q rfl (Yd.qt (Yd.indexA UnF.h SzF.h rfl rfl (by omega) (by omega))) rfl (WQ.q rfl (Yd.qt (Yd.l1 rfl (Rd.own (k := 1) rfl (ht_rd h (i := k) (by omega))))) rfl (g [[1]] ?_))
  refine WQ.know 116 (it f) rfl (congrArg it (hfv.2 c86)) (g [[4]] ?_)
  refine WQ.q rfl (Yd.qt (Yd.quo rfl rfl (by omega) (by omega) (wr64 ⟨by omega, by omega⟩))) rfl (g [[1]] ?_)
  refine WL.know 103 (kv5 (k5 h m)) rfl (kv5_at hh hmn) (WL.know 121 (it (standsI T h m)) rfl (congrArg it hst.symm) ?_)
  refine WL.so (SO.putK (u := standsI T h m) (y := k5 h m) kv5_inj keyLawM key_k5 UnF.h rfl rfl rfl (j := 2) rfl hM) rfl ?_
  rintro _ _ _ ⟨rfl, es1, clock1, rfl, hM1⟩
  refine g [[3],[0,7,6,0],[3005],[6]] ?_
  refine WL.know 126 (kv5 (k5 h m)) rfl (kv5_at hh hmn) (WL.yd (Yd.lookK (y := k5 h m) kv5_inj keyLawM key_k5 UnF.h ZvF.h (j := 2) rfl rfl rfl hM1) rfl (g [[4]] ?_))
  refine WP.ret1 rfl rfl rfl (RV.tmp rfl) (fun w1 hI => ⟨_, D, [(mb, .map es1 clock1)], rfl, DExt.refl _ _, inv_weak (hI.drop 2) hX1, (by rw [show (putF F (k5 h m) (standsI T h m)) (k5 h m) = some (standsI T h m) from if_pos rfl]; rfl), rfl, es1, clock1, _, rfl, hM1, known_put hT hF hh hm⟩)
end Go.Proofs.YtejgofaeafphjaaGreatDoor
namespace Go.Proofs.YtejgofaeafphjaaGreatDoor
open Go.W Go.Ti
theorem spl_ht (h : Hts) {i : Nat} (hi : i < 4) (n : Int) : splice (htC h) (0 + i * 1) [it n] = htC (updH h i n) := by
  rcases (show i = 0 ∨ i = 1 ∨ i = 2 ∨ i = 3 by omega) with rfl | rfl | rfl | rfl <;> simp [htC, updH, splice]
theorem withH_g (h : Hts) (i : Nat) (n : Int) (hi : i < 4) (w : World) : Gives Tryz.prog 237 [htV h, nt i, it n] w (htV (updH h i n)) := by
  unfold Gives
  refine en Tryz.func237 rfl Tryz.ntmps237 zI (g [[1],[1,0,1,2]] ?_)
  refine WL.so (SO.box rfl rfl) rfl (zw fun b3 hb3 => ?_)
  refine WL.so (SO.alloc ZvF.h rfl) rfl (zw fun b6 hb6 => ?_)
  refine g [[3],[3,6,3,1,2]] ?_
  refine WL.yd (Yd.indexA UnF.h SzF.h rfl rfl (by omega) (by omega)) rfl ?_
  refine WL.so (SO.store 1 rfl SzF.h rfl rfl rfl rfl (by show 0 + i * 1 + 1 ≤ 4; omega) (oneB_spec rfl)) rfl (zt (g [[3],[1,6,3]] ?_))
  rw [show splice (htC h) (0 + (i : Int).toNat * 1) [it n] = htC (updH h i n) from spl_ht h hi n]
  refine g [[5]] ?_
  refine WP.ret1 rfl rfl rfl (RV.cellN AgF.h SzF.h rfl (vs := [_, _, _, _]) rfl (RdN.own (k := 0) (n := 4) rfl rfl)) (fun w hI => ⟨rfl, hI.keep⟩)
theorem fits0_g (a b : Int) (w : World) : Gives Tryz.prog 354 [.agg #[], it a, it b] w (.bool true) := by
  unfold Gives
  refine en Tryz.func354 rfl Tryz.ntmps354 zI (g [[1],[1,0]] ?_)
  refine WL.so (SO.box rfl rfl) rfl (zw fun b3 hb3 => ?_)
  refine g [[4],[5,6]] ?_
  refine WP.ret1 rfl rfl rfl (RV.tmp rfl) (fun w hI => ⟨rfl, hI.keep⟩)
theorem fits1_g (l : Go.Ti.Look) (a b : Int) (ha : 0 ≤ a ∧ a ≤ 60) (hb : 0 ≤ b ∧ b ≤ 60) (w : World) : Gives Tryz.prog 355 [.agg #[it l.depth.lo, it l.depth.hi], it a, it b] w (.bool (fitB l a b)) := by
  unfold Gives
  refine en Tryz.func355 rfl Tryz.ntmps355 zI (g [[1],[1,0,1,2]] ?_)
  refine WL.so (SO.box rfl rfl) rfl (zw fun b3 hb3 => ?_)
  refine g [[4],[1,6,3,1,2]] ?_
  refine WL.yd (Yd.fieldAddrZ (c := 1) (k := 0) Tryz.underlying366 rfl Tryz.sizeOf362 rfl rfl zk zk rfl rfl) rfl (g [[3]] ?_)
  refine WL.cl rfl (fun w hI => fits0_g a b _) (g [[1]] ?_)
  refine WL.part 12 rfl (fun g12 => ?_) (fun g12 => ?_)
  · try simp only [zq] at g12
    refine g [[3]] ?_
    refine WL.ydg rfl (Yd.max2 rfl rfl) rfl (g [[6]] ?_)
    refine WL.sog rfl (SO.callP CaF.h rfl (fun w hI => withinD_g _ _ _ _)) rfl (zs (g [[5]] ?_))
    refine WP.ret1 rfl rfl rfl (RV.tmp rfl) (fun w hI => ⟨ret_bool (by simp [fitB, inB]), hI.keep⟩)
  try simp only [zq] at g12
  cases g12
end Go.Proofs.YtejgofaeafphjaaGreatDoor
