import Derived.Test.YtejgofaeafphjaaGreatDoorXG4
import Derived.Test.YtejgofaeafphjaaGreatDoorXG1
import Derived.Test.YtejgofaeafphjaaGreatDoorXG3
set_option linter.unusedSimpArgs false
set_option linter.unusedVariables false
set_option linter.all false
set_option maxRecDepth 100000
set_option maxHeartbeats 4000000
attribute [local irreducible] Go.W.WL Go.W.WLF Go.W.WC Go.W.WCF Go.W.WP Go.W.WA Go.W.WQ Go.W.WH Go.W.WHo Go.W.WCn Go.Code.wp Go.Code.wpIn
namespace Go.Proofs.YtejgofaeafphjaaGreatDoor
open Go.W Go.Ti
theorem SA181 : StructAt Tryz.prog 181 [.int .i64 0, .int .i64 0] [(0, 1), (1, 1)] := ⟨⟨_, Tryz.zeroValue181, rfl⟩, _, Tryz.underlying181, fun w => by simp [Tryz.sizeOf3]⟩
@[reducible, instance] def ISA181 := SaF.mk SA181
theorem SA183 : StructAt Tryz.prog 183 [.int .i64 0, .int .i64 0] [(0, 2)] := ⟨⟨_, Tryz.zeroValue183, rfl⟩, _, Tryz.underlying183, fun w => by simp [Tryz.sizeOf181]⟩
@[reducible, instance] def ISA183 := SaF.mk SA183
theorem isT_nat {T : Tks} {n : Int} (h : isT T n = true) : ∃ a : Nat, n = (a : Int) ∧ a < T.l.length := by
  have := of_decide_eq_true h
  exact ⟨n.toNat, by omega, by omega⟩
theorem Turn_1 (T : Tks) (a1 : Option Addr) (n1 c1 : Nat) (D : Imm) (w : World) (hR : TksR D T a1 n1) (hH : Holds D w) (n : Int) (hv : tksB T = false) : Gives Tryz.prog 45 [.agg #[it T.huts, .slice a1 n1 c1], it n] w (.tuple #[it (TurnOut T n).1, it (TurnOut T n).2]) := by
  unfold Gives
  obtain rfl := hR.tick.len'
  have hl1 := hR.len
  have hE : tksE T (isT T n) = 1 := by
    unfold tksE
    rw [if_pos hv]
  have hO0 : TurnOut T n = (0, 1) := by unfold TurnOut; rw [if_pos (by rw [hE]; simp), hE]
  refine enD Tryz.func45 rfl Tryz.ntmps45 (Inv.start hH) (g [[1],[1,0,1]] ?_)
  refine WL.so (SO.box rfl rfl) rfl (zw fun b2 hb2 => ?_)
  refine g [[1]] ?_
  refine WL.so (SO.alloc ZvF.h rfl) rfl (zw fun b5 hb5 => ?_)
  refine g [[3],[2,5,4,2,1]] ?_
  refine WL.defer rfl (g [[3],[0,5,4,2,1]] ?_)
  refine WC.drawH [(b2, boxT T (.slice a1 T.l.length c1))] zk (fun _ hI => hI.tail) (g [[1000],[1001],[1002],[1005],[1006],[1007],[1008]] ?_)
  refine WH.one (i := 3) zk (WHo.so rfl (SO.callP CaF.h rfl (fun w hI => isTick_g T a1 _ c1 n _ rfl hl1)) rfl ?_)
  rintro _ _ _ ⟨rfl, rfl, rfl⟩
  refine ⟨(fun _ hI => hI.tail), ?_⟩
  refine WH.one (i := 4) zk (WHo.no rfl (SO.fail (Enters.func CaF.h rfl) (fun w hI => open_1 T a1 _ c1 D _ hR hI.imm (isT T n) hv) (g [[1]] ?_)))
  refine WP.panicD (k := 0) [_, _] [_, _] rfl CaF.h rfl (fun w hI => catch116 _ _ _ _ _ (hI.own _ _ (List.mem_of_getElem? (i := 0) rfl))) rfl zV (fun w hI => ⟨congrArg Ending.returned (by rw [hO0]; rfl), hI.keep⟩)
theorem Turn_2 (T : Tks) (a1 : Option Addr) (n1 c1 : Nat) (D : Imm) (w : World) (hR : TksR D T a1 n1) (hH : Holds D w) (n : Int) (hv : tksB T = true) (hw : isT T n = false) : Gives Tryz.prog 45 [.agg #[it T.huts, .slice a1 n1 c1], it n] w (.tuple #[it (TurnOut T n).1, it (TurnOut T n).2]) := by
  unfold Gives
  obtain rfl := hR.tick.len'
  have hl1 := hR.len
  have hE : tksE T (isT T n) = 2 := by
    unfold tksE
    rw [if_neg (by rw [hv]; simp), if_pos hw]
  have hO0 : TurnOut T n = (0, 2) := by unfold TurnOut; rw [if_pos (by rw [hE]; simp), hE]
  refine enD Tryz.func45 rfl Tryz.ntmps45 (Inv.start hH) (g [[1],[1,0,1]] ?_)
  refine WL.so (SO.box rfl rfl) rfl (zw fun b2 hb2 => ?_)
  refine g [[1]] ?_
  refine WL.so (SO.alloc ZvF.h rfl) rfl (zw fun b5 hb5 => ?_)
  refine g [[3],[2,5,4,2,1]] ?_
  refine WL.defer rfl (g [[3],[0,5,4,2,1]] ?_)
  refine WC.drawH [(b2, boxT T (.slice a1 T.l.length c1))] zk (fun _ hI => hI.tail) (g [[1000],[1001],[1002],[1005],[1006],[1007],[1008]] ?_)
  refine WH.one (i := 3) zk (WHo.so rfl (SO.callP CaF.h rfl (fun w hI => isTick_g T a1 _ c1 n _ rfl hl1)) rfl ?_)
  rintro _ _ _ ⟨rfl, rfl, rfl⟩
  refine ⟨(fun _ hI => hI.tail), ?_⟩
  refine WH.know 10 (.bool false) rfl (congrArg Value.bool hw) ?_
  refine WH.one (i := 4) zk (WHo.no rfl (SO.fail (Enters.func CaF.h rfl) (fun w hI => open_2 T a1 _ c1 D _ hR hI.imm hv) (g [[1]] ?_)))
  refine WP.panicD (k := 0) [_, _] [_, _] rfl CaF.h rfl (fun w hI => catch116 _ _ _ _ _ (hI.own _ _ (List.mem_of_getElem? (i := 0) rfl))) rfl zV (fun w hI => ⟨congrArg Ending.returned (by rw [hO0]; rfl), hI.keep⟩)
theorem Turn_3 (T : Tks) (a1 : Option Addr) (n1 c1 : Nat) (D : Imm) (w : World) (hR : TksR D T a1 n1) (hH : Holds D w) (n : Int) (hv : tksB T = true) (hw : isT T n = true) (hne : allT T = []) : Gives Tryz.prog 45 [.agg #[it T.huts, .slice a1 n1 c1], it n] w (.tuple #[it (TurnOut T n).1, it (TurnOut T n).2]) := by
  unfold Gives
  obtain rfl := hR.tick.len'
  have hl1 := hR.len
  have hE : tksE T (isT T n) = 10 := by
    unfold tksE
    rw [if_neg (by rw [hv]; simp), if_neg (by rw [hw]; simp), if_pos (by rw [hne]; rfl)]
  have hO0 : TurnOut T n = (0, 10) := by unfold TurnOut; rw [if_pos (by rw [hE]; simp), hE]
  have h5 := (tks_num hv).2.1
  obtain ⟨a, rfl, han⟩ := isT_nat hw
  refine enD Tryz.func45 rfl Tryz.ntmps45 (Inv.start hH) (g [[1],[1,0,1]] ?_)
  refine WL.so (SO.box rfl rfl) rfl (zw fun b2 hb2 => ?_)
  refine g [[1]] ?_
  refine WL.so (SO.alloc ZvF.h rfl) rfl (zw fun b5 hb5 => ?_)
  refine g [[3],[2,5,4,2,1]] ?_
  refine WL.defer rfl (g [[3],[0,5,4,2,1]] ?_)
  refine WC.drawH [(b2, boxT T (.slice a1 T.l.length c1))] zk (fun _ hI => hI.tail) (g [[1000],[1001],[1002],[1005],[1006],[1007],[1008]] ?_)
  refine WH.one (i := 3) zk (WHo.so rfl (SO.callP CaF.h rfl (fun w hI => isTick_g T a1 _ c1 a _ rfl hl1)) rfl ?_)
  rintro _ _ _ ⟨rfl, rfl, rfl⟩
  refine ⟨(fun _ hI => hI.tail), ?_⟩
  refine WH.know 10 (.bool true) rfl (congrArg Value.bool hw) ?_
  refine WH.one (i := 4) zk (WHo.so rfl (SO.makes (Enters.func Tryz.call88 rfl) (fun w hI => open_ok T a1 _ c1 D _ hR hI.imm hv)) rfl ?_)
  rintro _ D2 _ ⟨hX2, ⟨bq, rfl, hO⟩, rfl⟩
  have hR2 := hR.ext hX2
  refine ⟨(fun _ hI => hI.tail.shrink hX2.old), ?_⟩
  refine WH.one (i := 9) zk (WHo.no rfl (SO.fail (Enters.func CaF.h rfl) (fun w hI => ask_no T a1 _ c1 bq D2 _ hO hR2 hI.imm hv a (by omega) hne) (g [[1]] ?_)))
  refine WP.panicD (k := 0) [_, _] [_, _] rfl CaF.h rfl (fun w hI => catch116 _ _ _ _ _ (hI.own _ _ (List.mem_of_getElem? (i := 0) rfl))) rfl zV (fun w hI => ⟨congrArg Ending.returned (by rw [hO0]; rfl), hI.keep⟩)
theorem Turn_ok (T : Tks) (a1 : Option Addr) (n1 c1 : Nat) (D : Imm) (w : World) (hR : TksR D T a1 n1) (hH : Holds D w) (n : Int) (hv : tksB T = true) (hw : isT T n = true) (hne : allT T ≠ []) : Gives Tryz.prog 45 [.agg #[it T.huts, .slice a1 n1 c1], it n] w (.tuple #[it (TurnOut T n).1, it (TurnOut T n).2]) := by
  unfold Gives
  obtain rfl := hR.tick.len'
  have hl1 := hR.len
  have hE : tksE T (isT T n) = 0 := by
    unfold tksE
    rw [if_neg (by rw [hv]; simp), if_neg (by rw [hw]; simp), if_neg (by rw [List.isEmpty_iff]; exact hne)]
  have hO0 : TurnOut T n = (gradeI ((allT T).any fun t => turnT T.l.length t n.toNat) ((allT T).any fun t => !turnT T.l.length t n.toNat), 0) := by unfold TurnOut; rw [if_neg (by rw [hE]; simp)]
  have h5 := (tks_num hv).2.1
  obtain ⟨a, rfl, han⟩ := isT_nat hw
  refine enD Tryz.func45 rfl Tryz.ntmps45 (Inv.start hH) (g [[1],[1,0,1]] ?_)
  refine WL.so (SO.box rfl rfl) rfl (zw fun b2 hb2 => ?_)
  refine g [[1]] ?_
  refine WL.so (SO.alloc ZvF.h rfl) rfl (zw fun b5 hb5 => ?_)
  refine g [[3],[2,5,4,2,1]] ?_
  refine WL.defer rfl (g [[3],[0,5,4,2,1]] ?_)
  refine WC.drawH [(b2, boxT T (.slice a1 T.l.length c1))] zk (fun _ hI => hI.tail) (g [[1000],[1001],[1002],[1005],[1006],[1007],[1008]] ?_)
  refine WH.one (i := 3) zk (WHo.so rfl (SO.callP CaF.h rfl (fun w hI => isTick_g T a1 _ c1 a _ rfl hl1)) rfl ?_)
  rintro _ _ _ ⟨rfl, rfl, rfl⟩
  refine ⟨(fun _ hI => hI.tail), ?_⟩
  refine WH.know 10 (.bool true) rfl (congrArg Value.bool hw) ?_
  refine WH.one (i := 4) zk (WHo.so rfl (SO.makes (Enters.func Tryz.call88 rfl) (fun w hI => open_ok T a1 _ c1 D _ hR hI.imm hv)) rfl ?_)
  rintro _ D2 _ ⟨hX2, ⟨bq, rfl, hO⟩, rfl⟩
  have hR2 := hR.ext hX2
  refine ⟨(fun _ hI => hI.tail.shrink hX2.old), ?_⟩
  refine WH.one (i := 9) zk (WHo.so rfl (SO.callP CaF.h rfl (fun w hI => ask_ok T a1 _ c1 bq D2 _ hO hR2 hI.imm hv a (by omega) hne)) rfl ?_)
  rintro _ _ _ ⟨rfl, rfl, rfl⟩
  refine ⟨(fun _ hI => hI.tail.shrink hX2.old), ?_⟩
  refine WH.one (i := 10) zk (WHo.so rfl (SO.callP CaF.h rfl (fun w hI => toldv_g _ _ _)) rfl ?_)
  rintro _ _ _ ⟨rfl, rfl, rfl⟩
  refine ⟨(fun _ hI => hI.tail.shrink hX2.old), ?_⟩
  refine WH.one (i := 11) zk (WHo.yd rfl (Yd.assign rfl) rfl ?_)
  refine WH.one (i := 12) zk (WHo.so rfl (SO.store 0 rfl SzF.h rfl rfl rfl rfl (zqb rfl) (oneB_spec rfl)) rfl ?_)
  rintro _ _ _ ⟨rfl, rfl, rfl⟩
  refine ⟨(fun _ hI => hI.tail.shrink hX2.old), ?_⟩
  refine WH.nil zk (g [[2]] ?_)
  refine WP.endD [_, _] [_, _] rfl rfl CaF.h (fun w hI => idle116 _ _) rfl zV (fun w hI => ⟨congrArg Ending.returned (by rw [hO0]; rfl), hI.keep⟩)
theorem Turn_g (T : Tks) (a1 : Option Addr) (n1 c1 : Nat) (D : Imm) (w : World) (hR : TksR D T a1 n1) (hH : Holds D w) (n : Int) : Gives Tryz.prog 45 [.agg #[it T.huts, .slice a1 n1 c1], it n] w (.tuple #[it (TurnOut T n).1, it (TurnOut T n).2]) := by
  cases hv : tksB T with
  | false => exact Turn_1 T a1 n1 c1 D w hR hH n hv
  | true =>
    cases hw : isT T n with
    | false => exact Turn_2 T a1 n1 c1 D w hR hH n hv hw
    | true =>
      by_cases hne : allT T = []
      · exact Turn_3 T a1 n1 c1 D w hR hH n hv hw hne
      exact Turn_ok T a1 n1 c1 D w hR hH n hv hw hne
end Go.Proofs.YtejgofaeafphjaaGreatDoor
namespace Go.Proofs.YtejgofaeafphjaaGreatDoor
open Go.W Go.Ti
theorem SA39 : StructAt Tryz.prog 39 [.int .i64 0, .int .i64 0] [(0, 1), (1, 1)] := ⟨⟨_, Tryz.zeroValue39, rfl⟩, _, Tryz.underlying39, fun w => by simp [Tryz.sizeOf3]⟩
@[reducible, instance] def ISA39 := SaF.mk SA39
abbrev Row := Value × Ms
def rowC (r : Row) : List Value := [r.1, .bool r.2.1, it r.2.2.1, it r.2.2.2]
theorem rowC_len : ∀ r, (rowC r).length = 4 := fun _ => rfl
def rows (F : Nat → Row) (n : Nat) : List Row := (List.range n).map F
theorem rows_len (F : Nat → Row) (n : Nat) : (rows F n).length = n := by simp [rows]
theorem rows_at {F : Nat → Row} {n i : Nat} (hi : i < n) : gt (rows F n) i = F i := by simp [rows, gt, List.getD, hi]
theorem rows_set {F : Nat → Row} {n i : Nat} (y : Row) : (rows F n).set i y = rows (fun j => if j = i then y else F j) n := by
  apply List.ext_getElem
  · simp [rows]
  intro j h1 h2
  simp only [rows, List.getElem_set, List.getElem_map, List.getElem_range]
  by_cases e : i = j
  · subst e; simp
  rw [if_neg e, if_neg (fun h => e h.symm)]
theorem rows_congr {F G : Nat → Row} {n : Nat} (h : ∀ i, i < n → F i = G i) : rows F n = rows G n := List.map_congr_left fun i hi => h i (List.mem_range.1 hi)
def rowsO (F : Nat → Row) (n : Nat) : Obj := .cells (List.toArray ((rows F n).flatMap rowC ++ [])) 372 (0, 0)
theorem rowsO_congr {F G : Nat → Row} {n : Nat} (h : ∀ i, i < n → F i = G i) : rowsO F n = rowsO G n := by unfold rowsO; rw [rows_congr h]
section
variable {P : Program} {x : Cx} {fr : Fr} {D : Imm} {hp : Hp} {ty : TypeId} {Q : Exit → Act → World → Prop}
theorem rdR {F : Nat → Row} {n i k b j : Nat} {r : Row} {v : Value} (hk : hp[k]? = some (b, rowsO F n)) (hi : i < n) (hF : F i = r) (hj : j < 4) (hv : (rowC r)[j]? = some v) : Rd D hp ⟨b, 0 + i * 4 + j, none⟩ v :=
  Rd.flat rowC_len hk (by rw [rows_len]; exact hi) hj (by rw [rows_at hi, hF]; exact hv)
theorem rdR0 {F : Nat → Row} {n i b : Nat} (k : Nat) {r : Row} (hk : hp[k]? = some (b, rowsO F n)) (hi : i < n) (hF : F i = r) : Rd D hp ⟨b, 0 + i * 4 + 0, none⟩ r.1 := rdR hk hi hF (by decide) rfl
theorem rdR1 {F : Nat → Row} {n i b : Nat} (k : Nat) {r : Row} (hk : hp[k]? = some (b, rowsO F n)) (hi : i < n) (hF : F i = r) : Rd D hp ⟨b, 0 + i * 4 + 1, none⟩ (.bool r.2.1) := rdR hk hi hF (by decide) rfl
theorem rdR2 {F : Nat → Row} {n i b : Nat} (k : Nat) {r : Row} (hk : hp[k]? = some (b, rowsO F n)) (hi : i < n) (hF : F i = r) : Rd D hp ⟨b, 0 + i * 4 + 2 + 0, none⟩ (it r.2.2.1) := rdR (j := 2) hk hi hF (by decide) rfl
theorem rdR3 {F : Nat → Row} {n i b : Nat} (k : Nat) {r : Row} (hk : hp[k]? = some (b, rowsO F n)) (hi : i < n) (hF : F i = r) : Rd D hp ⟨b, 0 + i * 4 + 2 + 1, none⟩ (it r.2.2.2) := rdR (j := 3) hk hi hF (by decide) rfl
theorem rdnR {F : Nat → Row} {n i b : Nat} (k : Nat) {r : Row} (hk : hp[k]? = some (b, rowsO F n)) (hi : i < n) (hF : F i = r) : RdN D hp b (0 + i * 4) (rowC r) :=
  RdN.flat rowC_len (j := 0) (n := 4) hk (by rw [rows_len]; exact hi) (by rw [rows_at hi, hF]; rfl)
theorem SO.storeR {F : Nat → Row} {n i k b j m : Nat} {t : TypeId} {p o : Operand} {v : Value} {vs : List Value} {r : Row} (y : Row) (hk : hp[k]? = some (b, rowsO F n)) (hz : ∀ w, (sizeOf t).run P w = .ok m w)
    (hp' : opv fr p = some (.pointer (some ⟨b, 0 + i * 4 + j, none⟩))) (ho : opv fr o = some v) (hc : v.cells = vs.toArray) (hl : vs.length = m) (hi : i < n) (hF : F i = r) (hj : j + m ≤ 4) (hone : ∀ v ∈ vs, v.oneCell' = true) (hy : rowC y = splice (rowC r) j vs) :
    SO P x fr D hp (.store t p o) ty Q (SetK D hp k b (rowsO (fun u => if u = i then y else F u) n)) := by
  have h := SO.storeFlatN (P := P) (x := x) (fr := fr) (D := D) (hp := hp) (ty := ty) (Q := Q) rowC_len y k hk hz hp' ho hc hl (by rw [rows_len]; exact hi) hj hone (by rw [rows_at hi, hF]; exact hy)
  rw [rows_set] at h
  exact h
end
structure Clo where
  fi : FuncId
  cp : List Value
  g : Tru → Int
instance : Inhabited Clo := ⟨⟨0, [], fun _ => 0⟩⟩
def cloV (c : Clo) : Value := .func (.func c.fi) #[] c.cp.toArray
def CloOK (D : Imm) (L : List Tru) (c : Clo) : Prop := (∀ args w, (callFunc c.fi args).run Tryz.prog w = .ok (.enter c.fi args) w) ∧ ∀ t, t ∈ L → ∀ w, Holds D w → Gives Tryz.prog c.fi (truV t :: c.cp) w (it (c.g t))
theorem CloOK.ext {w : World} {D D' : Imm} (hD : DExt w D D') {L : List Tru} {c : Clo} (h : CloOK D L c) : CloOK D' L c := ⟨h.1, fun t ht w' hH => h.2 t ht w' fun b o hb => hH b o (hD.old b o hb)⟩
theorem see_g (F : Nat → Row) (n i : Nat) (hi : i < n) (c : Clo) (s : Ms) (hF : F i = (cloV c, s)) (L : List Tru) (t : Tru) (htL : t ∈ L) (D : Imm) (w : World) (hC : CloOK D L c) (bm : Nat) (hI0 : Inv D [(bm, rowsO F n)] [bm] w w) : Alters Tryz.prog 278 [.pointer (some ⟨bm, 0 + i * 4, none⟩), truV t] w D [bm] (fun v D' hp' => v = .tuple #[] ∧ D = D' ∧ hp' = [(bm, rowsO (fun j => if j = i then (cloV c, seeS s (c.g t)) else F j) n)]) := by
  unfold Alters
  refine en Tryz.func278 rfl Tryz.ntmps278 hI0 (g [[1],[1,0,1]] ?_)
  refine WL.so (SO.box rfl rfl) rfl (zw fun b3 hb3 => ?_)
  refine g [[3],[0,3,0],[3005],[3]] ?_
  refine WQ.q rfl (Yd.qt (Yd.l1 rfl (rdR0 1 rfl hi hF))) rfl (g [[2]] ?_)
  refine WL.so (SO.call (Enters.val hC.1 rfl rfl) (fun w hI => hC.2 t htL _ hI.imm)) rfl (zs (g [[5],[4,4,0]] ?_))
  refine WL.yd (Yd.l1 rfl (rdR1 1 rfl hi hF)) rfl (g [[3]] ?_)
  refine WC.cond rfl (fun c15 => ?_) (fun c15 => ?_)
  · try simp only [zq] at c15
    refine g [[8,4,0]] ?_
    refine WL.so (SO.storeR (k := 1) (j := 1) (cloV c, (true, s.2.1, s.2.2)) rfl SzF.h rfl rfl rfl rfl hi hF (by decide) (oneB_spec rfl) rfl) rfl ?_
    rintro _ _ _ ⟨rfl, rfl, rfl⟩
    refine g [[2]] ?_
    refine WL.so (SO.storeR (k := 1) (j := 2) (cloV c, (true, c.g t, c.g t)) rfl SzF.h rfl rfl rfl rfl hi (if_pos rfl) (by decide) (oneB_spec rfl) rfl) rfl ?_
    rintro _ _ _ ⟨rfl, rfl, rfl⟩
    refine g [[2],[0,4,0],[3016],[5]] ?_
    refine WQ.q rfl (Yd.qt (Yd.l1 rfl (rdR2 1 rfl hi (if_pos rfl)))) rfl (g [[1]] ?_)
    refine WQ.q rfl (Yd.qt (Yd.min2 rfl rfl)) rfl (g [[4]] ?_)
    refine WQ.q rfl (Yd.qt (Yd.l1 rfl (rdR3 1 rfl hi (if_pos rfl)))) rfl (g [[1]] ?_)
    refine WQ.q rfl (Yd.qt (Yd.max2 rfl rfl)) rfl (g [[4]] ?_)
    refine WL.so (SO.storeR (k := 1) (j := 2) (cloV c, (true, min (c.g t) (c.g t), max (c.g t) (c.g t))) rfl SzF.h rfl rfl rfl rfl hi (if_pos rfl) (by decide) (oneB_spec rfl) rfl) rfl ?_
    rintro _ _ _ ⟨rfl, rfl, rfl⟩
    refine g [[1]] ?_
    refine WP.ret0 rfl rfl rfl  (fun w1 hI => ⟨_, D, _, rfl, DExt.refl _ _, hI.tail, fun _ h => h, rfl, rfl, congrArg (fun o => [(bm, o)]) (rowsO_congr fun u _ => by by_cases e : u = i <;> simp_all [seeS])⟩)
  try simp only [zq] at c15
  refine g [[2],[0,4,0],[3016],[5]] ?_
  refine WQ.q rfl (Yd.qt (Yd.l1 rfl (rdR2 1 rfl hi hF))) rfl (g [[1]] ?_)
  refine WQ.q rfl (Yd.qt (Yd.min2 rfl rfl)) rfl (g [[4]] ?_)
  refine WQ.q rfl (Yd.qt (Yd.l1 rfl (rdR3 1 rfl hi hF))) rfl (g [[1]] ?_)
  refine WQ.q rfl (Yd.qt (Yd.max2 rfl rfl)) rfl (g [[4]] ?_)
  refine WL.so (SO.storeR (k := 1) (j := 2) (cloV c, (s.1, min s.2.1 (c.g t), max s.2.2 (c.g t))) rfl SzF.h rfl rfl rfl rfl hi hF (by decide) (oneB_spec rfl) rfl) rfl ?_
  rintro _ _ _ ⟨rfl, rfl, rfl⟩
  refine g [[1]] ?_
  refine WP.ret0 rfl rfl rfl  (fun w1 hI => ⟨_, D, _, rfl, DExt.refl _ _, hI.tail, fun _ h => h, rfl, rfl, congrArg (fun o => [(bm, o)]) (rowsO_congr fun u _ => by by_cases e : u = i <;> simp_all [seeS])⟩)
end Go.Proofs.YtejgofaeafphjaaGreatDoor
namespace Go.Proofs.YtejgofaeafphjaaGreatDoor
open Go.W Go.Ti
def spC (s : Sp) : List Value := [it s.lo, it s.hi]
theorem spC_len : ∀ s, (spC s).length = 2 := fun _ => rfl
def zMs : Ms := (false, 0, 0)
theorem zero_rows : ∀ n, zeroL [.nilFunc, .bool false, .int .i64 0, .int .i64 0] (n * 4) = (rows (fun _ => ((.nilFunc, zMs) : Row)) n).flatMap rowC ++ [] := by
  intro n
  rw [List.append_nil]
  induction n with
  | zero => rfl
  | succ n ih =>
    rw [show (n + 1) * 4 = n * 4 + 1 + 1 + 1 + 1 by omega]
    simp only [zeroL, List.length_cons, List.length_nil, Nat.reduceAdd]
    rw [ih, show (n * 4 + 1 + 1 + 1) % 4 = 3 by omega, show (n * 4 + 1 + 1) % 4 = 2 by omega, show (n * 4 + 1) % 4 = 1 by omega, show n * 4 % 4 = 0 by omega]
    simp [rows, List.range_succ, rowC, zMs]
def iniF (fs : List Clo) (k : Nat) (u : Nat) : Row := (if u < k then cloV (gt fs u) else .nilFunc, zMs)
def msF (fs : List Clo) (l : List Tru) (u : Nat) : Row := (cloV (gt fs u), foldS (gt fs u).g l)
def midF (fs : List Clo) (L : List Tru) (k j : Nat) (u : Nat) : Row := (cloV (gt fs u), foldS (gt fs u).g (L.take (if u < j then k + 1 else k)))
def outX (fs : List Clo) (L : List Tru) (k : Nat) : List Value := ((fs.take k).map fun c => spanS c.g L).flatMap spC
theorem outX_len {fs : List Clo} {L : List Tru} {k : Nat} (hk : k ≤ fs.length) : (outX fs L k).length = k * 2 := by
  unfold outX
  rw [flat_len spC_len, List.length_map, List.length_take, Nat.min_eq_left hk]
theorem outX_succ {fs : List Clo} {L : List Tru} {k : Nat} (hk : k < fs.length) : outX fs L (k + 1) = outX fs L k ++ spC (spanS (gt fs k).g L) := by
  have hg : gt fs k = fs[k] := by simp [gt, List.getD, hk]
  unfold outX
  rw [List.take_succ_eq_append_getElem hk, List.map_append, List.flatMap_append, hg]
  simp
theorem ini_step (fs : List Clo) (k : Nat) : (fun u => if u = k then ((cloV (gt fs k), zMs) : Row) else iniF fs k u) = iniF fs (k + 1) := by
  funext u
  unfold iniF
  by_cases h : u = k
  · subst h; rw [if_pos rfl, if_pos (by omega)]
  rw [if_neg h]
  by_cases h2 : u < k
  · rw [if_pos h2, if_pos (by omega)]
  rw [if_neg h2, if_neg (by omega)]
theorem ini_end (fs : List Clo) : rowsO (iniF fs fs.length) fs.length = rowsO (msF fs []) fs.length := rowsO_congr fun i hi => by
  unfold iniF msF; rw [if_pos hi]; rfl
theorem mid_start (fs : List Clo) (L : List Tru) (k : Nat) : midF fs L k 0 = msF fs (L.take k) := by
  funext u
  unfold midF msF; rw [if_neg (by omega)]
theorem mid_step (fs : List Clo) {L : List Tru} {k : Nat} (hk : k < L.length) (j : Nat) : (fun u => if u = j then ((cloV (gt fs j), seeS (foldS (gt fs j).g (L.take k)) ((gt fs j).g (gt L k))) : Row) else midF fs L k j u) = midF fs L k (j + 1) := by
  funext u
  unfold midF
  by_cases h : u = j
  · subst h; rw [if_pos rfl, if_pos (by omega), foldS_take _ hk]
  rw [if_neg h]
  by_cases h2 : u < j
  · rw [if_pos h2, if_pos (by omega)]
  rw [if_neg h2, if_neg (by omega)]
theorem mid_end (fs : List Clo) (L : List Tru) (k : Nat) : rowsO (midF fs L k fs.length) fs.length = rowsO (msF fs (L.take (k + 1))) fs.length := rowsO_congr fun i hi => by
  unfold midF msF; rw [if_pos hi]
theorem spans_ok (T : Tks) (a1 : Option Addr) (n1 c1 : Nat) (q : Nat) (D : Imm) (w : World) (hO : OffAt D q T (.slice a1 n1 c1)) (hR : TksR D T a1 n1) (hH : Holds D w) (hv : tksB T = true) (fs : List Clo) (af : Option Addr) (nf cf : Nat) (hS : SlL D 1 (fs.map fun c => [cloV c]) af nf) (hfs : nf ≤ 100) (hC : ∀ i, i < fs.length → CloOK D (allT T) (gt fs i)) (hne : allT T ≠ []) : Makes Tryz.prog 242 [pt q, .slice af nf cf] w D (fun v D' => ∃ a c, v = .slice a fs.length c ∧ SlL D' 2 ((fs.map fun c => spanS c.g (allT T)).map spC) a fs.length) := by
  unfold Makes
  obtain rfl := hR.tick.len'
  have hl1 := hR.len
  obtain rfl := hS.len'
  refine enM Tryz.func242 rfl Tryz.ntmps242 (Inv.start hH) (g [[1],[5,0,1],[3,4,0,1]] ?_)
  refine WL.so (SO.makeSlice Tryz.underlying370 Tryz.sizeOf372 Tryz.typeInfo372 Tryz.zeroValue372 rfl rfl rfl (by omega) (by show 32 * ((fs.length : Nat) : Int) ≤ 2 ^ 48; omega)) rfl ?_
  rintro _ _ _ ⟨b16, hb16, rfl, rfl, rfl⟩
  skip
  refine WL.so (SO.alloc ZvF.h rfl) rfl (zw fun b5 hb5 => ?_)
  refine g [[5]] ?_
  refine WC.hpEq (hp' := [(b5, .cells (List.toArray [.slice (some ⟨b16, 0, none⟩) fs.length fs.length]) 370 (0, 0)), (b16, rowsO (iniF fs 0) fs.length)]) (by rw [show iniF fs 0 = fun _ => ((.nilFunc, zMs) : Row) from funext fun u => by unfold iniF; rw [if_neg (by omega)]]; unfold rowsO; rw [← zero_rows]; rfl) (g [[7,5,4,0,1]] ?_)
  refine WC.loopT [_] (fun k : Nat => [(0, pt q), (4, .slice none 0 0), (5, pt b5), (17, .slice af fs.length cf), (18, nt fs.length), (19, nt k)]) (fun k => [(b16, rowsO (iniF fs k) fs.length)]) (fun k => k ≤ fs.length) (fun k => fs.length - k) 0 (by omega) rfl ⟨rfl, rfl, rfl, rfl, rfl, rfl, trivial⟩ ?_
  intro k hk
  refine g [[1],[5,0,4,5,17,18,19]] ?_
  refine WC.cond rfl (fun c20 => ?_) (fun c20 => ?_)
  · try simp only [zq] at c20
    have hkn : k < fs.length := by omega
    refine g [[5],[2,0,4,5,17,18,19]] ?_
    refine WL.yd (Yd.ix rfl rfl (hS.addr k (by omega))) rfl (WL.yd (Yd.l1 rfl ((hS.at k (by omega)).rd 0 rfl)) rfl (g [[4],[4,7,6,0,4,5,17,18,19]] ?_))
    refine WL.yd (Yd.ix rfl rfl (rfl)) rfl (g [[1]] ?_)
    refine WL.so (SO.storeR (k := 1) (i := k) (j := 0) (cloV (gt fs k), zMs) rfl SzF.h rfl rfl rfl rfl hkn rfl (by decide) (oneB_spec rfl) rfl) rfl ?_
    rintro _ _ _ ⟨rfl, rfl, rfl⟩
    refine g [[3],[4,0,4,5,17,18,19]] ?_
    exact WP.againT (k + 1) (by omega) (by omega) [] _ rfl (by rw [← ini_step]; rfl) ⟨rfl, rfl, rfl, rfl, rfl, rfl, trivial⟩
  try simp only [zq] at c20
  refine g [[6]] ?_
  obtain rfl : k = fs.length := by omega
  rw [ini_end]
  refine g [[1,0,4,5]] ?_
  refine WL.so (SO.alloc ZvF.h rfl) rfl (zw fun b8 hb8 => ?_)
  refine g [[5],[2,8,0,4,5]] ?_
  refine WL.so (SO.makes (Enters.func Tryz.call90 rfl) (fun w hI => truths_g q D _ hI.imm)) rfl ?_
  rintro _ D1 _ ⟨hX1, ⟨bt, rfl, hbt⟩, rfl⟩
  replace hO := hO.ext hX1
  replace hR := hR.ext hX1
  replace hC : ∀ i, i < fs.length → CloOK D1 (allT T) (gt fs i) := fun i hi => (hC i hi).ext hX1
  refine g [[3],[0,4,5,8,31]] ?_
  refine WC.rangeIterN (N := (allT T).length) (arg := fun k => truV (gt (allT T) k)) (fun w1 _ hD1 => truths1_iter T a1 _ c1 q bt D1 w1 hO hR hbt hv hD1) rfl Tryz.call177 rfl (fun k _ h => h = [(b8, .cells (List.toArray [.bool (decide (0 < k))]) 4 (0, 0)), (b5, .cells (List.toArray [.slice (some ⟨b16, 0, none⟩) fs.length fs.length]) 370 (0, 0)), (b16, rowsO (msF fs ((allT T).take k)) fs.length)]) (fun _ _ _ => False) (fun _ _ _ _ _ h => h) rfl ?_ ?_ ?_
  · rintro rec1 l1 Dn0 k D5 _ w1 hrec hk rfl hX5 hsz
    unfold RoundGN
    replace hO := hO.ext hX5
    replace hR := hR.ext hX5
    replace hC : ∀ i, i < fs.length → CloOK D5 (allT T) (gt fs i) := fun i hi => (hC i hi).ext hX5
    refine g [[1,32,4,5,8]] ?_
    refine WLF.so (zn rfl) (SO.alloc ZvF.h rfl) rfl (zw fun b9 hb9 => ?_)
    refine g [[2]] ?_
    refine WP.iterBegin 1 rfl hrec (g [[2],[5,9,4,5,8],[7,9,4,5]] ?_)
    refine WCF.loopT [_, _, _, _, _] (fun j : Nat => [(5, pt b5), (9, pt b9), (34, nt fs.length), (35, nt j)]) (fun j => [(b16, rowsO (midF fs (allT T) k j) fs.length)]) (fun j => j ≤ fs.length) (fun j => fs.length - j) 0 (by omega) (by rw [mid_start]; rfl) ⟨rfl, rfl, rfl, rfl, trivial⟩ ?_
    intro j hj
    refine g [[1],[5,5,9,34,35]] ?_
    refine WCF.cond rfl (fun c36 => ?_) (fun c36 => ?_)
    · try simp only [zq] at c36
      have hjn : j < fs.length := by omega
      refine g [[5],[5,5,9,34,35],[0,10,5,9,34,35]] ?_
      refine WCF.tail 4 [0, 1, 2, 3] rfl zk zk (noLets.blk (noLets.then (noLets.then (noLets.blk (noLets.blk noLets.round))))) (g [[2]] ?_)
      refine WQ.q rfl (Yd.qt (Yd.ix rfl rfl (rfl))) rfl (g [[1]] ?_)
      refine WQ.tailR ?_
      refine WLF.so (zn rfl) (SO.alters (own := [_, _, _, _, _]) (hpc := [_]) (S1 := [b16]) (fun _ h => h) (fun h => h) (fun _ h => h) (fun _ h => h) (Enters.func CaF.h rfl) (fun w1 hI => see_g (midF fs (allT T) k j) fs.length j hjn (gt fs j) (foldS (gt fs j).g ((allT T).take k)) (by unfold midF; rw [if_neg (by omega)]) (allT T) (gt (allT T) k) (gt_mem hk) D5 w1 (hC j hjn) b16 hI)) rfl ?_
      rintro _ _ _ ⟨_, _, ⟨rfl, rfl, rfl⟩, rfl⟩
      refine g [[3],[4,5,9,34,35]] ?_
      exact WP.againT (j + 1) (by omega) (by omega) [] _ rfl (by rw [← mid_step fs hk]; rfl) ⟨rfl, rfl, rfl, rfl, trivial⟩
    try simp only [zq] at c36
    obtain rfl : j = fs.length := by omega
    refine g [[5]] ?_
    refine WP.iterOnN hrec (h1 := [_, _, _]) (fun _ h => List.mem_cons_of_mem _ h) (fun h => (List.nodup_cons.1 h).2) (DExt.refl _ _) ?_
    rw [← mid_end, decide_eq_true (show 0 < k + 1 by omega)]
    rfl
  · rintro Dn1 D6 _ hDn1 hX6 rfl
    rw [List.take_length]
    have hpos : 0 < (allT T).length := List.length_pos_iff.2 hne
    refine g [[3],[2,4,5,8]] ?_
    refine WL.know 44 (.bool true) rfl (congrArg Value.bool (decide_eq_true hpos)) (WL.cl rfl (fun w hI => mustK_ok _ _) (g [[3],[6,4,5],[7,11,4,5]] ?_))
    refine WC.loopT [_, _, _, _] (fun y : Nat × Option Ow => [(4, .slice none 0 0), (11, owV y.2 y.1), (46, .slice (some ⟨b16, 0, none⟩) fs.length fs.length), (47, nt fs.length), (48, nt y.1)]) (fun y => owH y.2 39 (outX fs (allT T) y.1) []) (fun y => y.1 ≤ fs.length ∧ owP w y.2 y.1 2) (fun y => fs.length - y.1) (0, none) ⟨by omega, rfl⟩ rfl ⟨rfl, rfl, rfl, rfl, rfl, trivial⟩ ?_
    rintro ⟨k, o⟩ ⟨hk, ho⟩
    dsimp only at hk ho
    refine g [[1],[5,4,11,46,47,48]] ?_
    refine WC.cond rfl (fun c49 => ?_) (fun c49 => ?_)
    · try simp only [zq] at c49
      have hkn : k < fs.length := by omega
      refine g [[5],[1,4,11,46,47,48]] ?_
      refine WL.yd (Yd.ix rfl rfl (rfl)) rfl (WL.yd (Yd.lV [_, _, _, _] rfl (rdnR 3 rfl hkn rfl)) rfl ?_)
      refine WL.so (SO.alloc ZvF.h rfl) rfl (zw fun b13 hb13 => ?_)
      refine g [[3],[4,13,4,11,46,47,48]] ?_
      refine WL.so (SO.buildSlice UnF.h SzF.h ZvF.h rfl rfl rfl rfl (cs := [_, _]) rfl) rfl ?_
      rintro _ _ _ ⟨b55, hb55, rfl, rfl, rfl⟩
      refine WL.so (SO.appendOw (o := o) (len := k) (n := 1) (xs := (outX fs (allT T) k)) (size := 2) [_] [_, _, _, _, _] [] rfl rfl Tryz.underlying28 Tryz.sizeOf39 Tryz.typeInfo39 Tryz.zeroValue39 rfl rfl rfl rfl ⟨rfl, .inr ⟨_, _, _, rfl, RdN.own (k := 0) (n := 2) rfl rfl⟩⟩ (oneB_spec rfl) ho (outX_len hk) (by omega) (by show (2 * (_ + _) + 1000) * 16 ≤ 2 ^ 48; omega) (by omega)) rfl ?_
      rintro _ _ _ ⟨u1, hu1, rfl, rfl, rfl⟩
      refine g [[4],[4,11,4,46,47,48]] ?_
      exact WP.againT (⟨k + 1, some u1⟩ : Nat × Option Ow) ⟨by simp only; omega, hu1⟩ (by simp only; omega) [_] _ rfl (by show _ = _ ++ owH (some u1) _ (outX fs (allT T) (k + 1)) []; rw [outX_succ hkn]; rfl) ⟨rfl, rfl, rfl, rfl, rfl, trivial⟩
    try simp only [zq] at c49
    refine g [[6],[1,4,11]] ?_
    obtain rfl : k = fs.length := by omega
    refine WL.freezeOw (f := spC) (m := 2) spC_len [_, _, _, _] [] o 39 (fs.map fun c => spanS c.g (allT T)) rfl (by rw [List.length_map]; exact ho) (by unfold outX; rw [List.take_length]) (fun D2 hX2 hS2 => ?_)
    rw [List.length_map] at hS2
    refine g [[5]] ?_
    refine WP.retMs [Dn1] [_, _, _] [_] [_] rfl rfl (fun _ h => h) (fun h => h) rfl zV (fun w1 hI => ⟨_, D2, rfl, hI.keep, hI.imm, (hX1.trans hX6 (Nat.le_refl _)).trans hX2 (Nat.le_refl _), owAt o, _, owV_owL (owL_of ho), hS2⟩)
  rintro Dn1 c D6 _ hDn1 hX6 hff
  exact hff.elim
theorem spans_no (T : Tks) (a1 : Option Addr) (n1 c1 : Nat) (q : Nat) (D : Imm) (w : World) (hO : OffAt D q T (.slice a1 n1 c1)) (hR : TksR D T a1 n1) (hH : Holds D w) (hv : tksB T = true) (fs : List Clo) (af : Option Addr) (nf cf : Nat) (hS : SlL D 1 (fs.map fun c => [cloV c]) af nf) (hfs : nf ≤ 100) (hC : ∀ i, i < fs.length → CloOK D (allT T) (gt fs i)) (hne : allT T = []) : Fails Tryz.prog 242 [pt q, .slice af nf cf] w (stopK 10) := by
  unfold Fails
  obtain rfl := hR.tick.len'
  have hl1 := hR.len
  obtain rfl := hS.len'
  refine enM Tryz.func242 rfl Tryz.ntmps242 (Inv.start hH) (g [[1],[5,0,1],[3,4,0,1]] ?_)
  refine WL.so (SO.makeSlice Tryz.underlying370 Tryz.sizeOf372 Tryz.typeInfo372 Tryz.zeroValue372 rfl rfl rfl (by omega) (by show 32 * ((fs.length : Nat) : Int) ≤ 2 ^ 48; omega)) rfl ?_
  rintro _ _ _ ⟨b16, hb16, rfl, rfl, rfl⟩
  skip
  refine WL.so (SO.alloc ZvF.h rfl) rfl (zw fun b5 hb5 => ?_)
  refine g [[5]] ?_
  refine WC.hpEq (hp' := [(b5, .cells (List.toArray [.slice (some ⟨b16, 0, none⟩) fs.length fs.length]) 370 (0, 0)), (b16, rowsO (iniF fs 0) fs.length)]) (by rw [show iniF fs 0 = fun _ => ((.nilFunc, zMs) : Row) from funext fun u => by unfold iniF; rw [if_neg (by omega)]]; unfold rowsO; rw [← zero_rows]; rfl) (g [[7,5,4,0,1]] ?_)
  refine WC.loopT [_] (fun k : Nat => [(0, pt q), (4, .slice none 0 0), (5, pt b5), (17, .slice af fs.length cf), (18, nt fs.length), (19, nt k)]) (fun k => [(b16, rowsO (iniF fs k) fs.length)]) (fun k => k ≤ fs.length) (fun k => fs.length - k) 0 (by omega) rfl ⟨rfl, rfl, rfl, rfl, rfl, rfl, trivial⟩ ?_
  intro k hk
  refine g [[1],[5,0,4,5,17,18,19]] ?_
  refine WC.cond rfl (fun c20 => ?_) (fun c20 => ?_)
  · try simp only [zq] at c20
    have hkn : k < fs.length := by omega
    refine g [[5],[2,0,4,5,17,18,19]] ?_
    refine WL.yd (Yd.ix rfl rfl (hS.addr k (by omega))) rfl (WL.yd (Yd.l1 rfl ((hS.at k (by omega)).rd 0 rfl)) rfl (g [[4],[4,7,6,0,4,5,17,18,19]] ?_))
    refine WL.yd (Yd.ix rfl rfl (rfl)) rfl (g [[1]] ?_)
    refine WL.so (SO.storeR (k := 1) (i := k) (j := 0) (cloV (gt fs k), zMs) rfl SzF.h rfl rfl rfl rfl hkn rfl (by decide) (oneB_spec rfl) rfl) rfl ?_
    rintro _ _ _ ⟨rfl, rfl, rfl⟩
    refine g [[3],[4,0,4,5,17,18,19]] ?_
    exact WP.againT (k + 1) (by omega) (by omega) [] _ rfl (by rw [← ini_step]; rfl) ⟨rfl, rfl, rfl, rfl, rfl, rfl, trivial⟩
  try simp only [zq] at c20
  refine g [[6]] ?_
  obtain rfl : k = fs.length := by omega
  rw [ini_end]
  refine g [[1,0,4,5]] ?_
  refine WL.so (SO.alloc ZvF.h rfl) rfl (zw fun b8 hb8 => ?_)
  refine g [[5],[2,8,0,4,5]] ?_
  refine WL.so (SO.makes (Enters.func Tryz.call90 rfl) (fun w hI => truths_g q D _ hI.imm)) rfl ?_
  rintro _ D1 _ ⟨hX1, ⟨bt, rfl, hbt⟩, rfl⟩
  replace hO := hO.ext hX1
  replace hR := hR.ext hX1
  replace hC : ∀ i, i < fs.length → CloOK D1 (allT T) (gt fs i) := fun i hi => (hC i hi).ext hX1
  refine g [[3],[0,4,5,8,31]] ?_
  refine WC.rangeIterN (N := (allT T).length) (arg := fun k => truV (gt (allT T) k)) (fun w1 _ hD1 => truths1_iter T a1 _ c1 q bt D1 w1 hO hR hbt hv hD1) rfl Tryz.call177 rfl (fun k _ h => h = [(b8, .cells (List.toArray [.bool (decide (0 < k))]) 4 (0, 0)), (b5, .cells (List.toArray [.slice (some ⟨b16, 0, none⟩) fs.length fs.length]) 370 (0, 0)), (b16, rowsO (msF fs ((allT T).take k)) fs.length)]) (fun _ _ _ => False) (fun _ _ _ _ _ h => h) rfl ?_ ?_ ?_
  · rintro rec1 l1 Dn0 k D5 _ w1 hrec hk rfl hX5 hsz
    unfold RoundGN
    replace hO := hO.ext hX5
    replace hR := hR.ext hX5
    replace hC : ∀ i, i < fs.length → CloOK D5 (allT T) (gt fs i) := fun i hi => (hC i hi).ext hX5
    refine g [[1,32,4,5,8]] ?_
    refine WLF.so (zn rfl) (SO.alloc ZvF.h rfl) rfl (zw fun b9 hb9 => ?_)
    refine g [[2]] ?_
    refine WP.iterBegin 1 rfl hrec (g [[2],[5,9,4,5,8],[7,9,4,5]] ?_)
    refine WCF.loopT [_, _, _, _, _] (fun j : Nat => [(5, pt b5), (9, pt b9), (34, nt fs.length), (35, nt j)]) (fun j => [(b16, rowsO (midF fs (allT T) k j) fs.length)]) (fun j => j ≤ fs.length) (fun j => fs.length - j) 0 (by omega) (by rw [mid_start]; rfl) ⟨rfl, rfl, rfl, rfl, trivial⟩ ?_
    intro j hj
    refine g [[1],[5,5,9,34,35]] ?_
    refine WCF.cond rfl (fun c36 => ?_) (fun c36 => ?_)
    · try simp only [zq] at c36
      have hjn : j < fs.length := by omega
      refine g [[5],[5,5,9,34,35],[0,10,5,9,34,35]] ?_
      refine WCF.tail 4 [0, 1, 2, 3] rfl zk zk (noLets.blk (noLets.then (noLets.then (noLets.blk (noLets.blk noLets.round))))) (g [[2]] ?_)
      refine WQ.q rfl (Yd.qt (Yd.ix rfl rfl (rfl))) rfl (g [[1]] ?_)
      refine WQ.tailR ?_
      refine WLF.so (zn rfl) (SO.alters (own := [_, _, _, _, _]) (hpc := [_]) (S1 := [b16]) (fun _ h => h) (fun h => h) (fun _ h => h) (fun _ h => h) (Enters.func CaF.h rfl) (fun w1 hI => see_g (midF fs (allT T) k j) fs.length j hjn (gt fs j) (foldS (gt fs j).g ((allT T).take k)) (by unfold midF; rw [if_neg (by omega)]) (allT T) (gt (allT T) k) (gt_mem hk) D5 w1 (hC j hjn) b16 hI)) rfl ?_
      rintro _ _ _ ⟨_, _, ⟨rfl, rfl, rfl⟩, rfl⟩
      refine g [[3],[4,5,9,34,35]] ?_
      exact WP.againT (j + 1) (by omega) (by omega) [] _ rfl (by rw [← mid_step fs hk]; rfl) ⟨rfl, rfl, rfl, rfl, trivial⟩
    try simp only [zq] at c36
    obtain rfl : j = fs.length := by omega
    refine g [[5]] ?_
    refine WP.iterOnN hrec (h1 := [_, _, _]) (fun _ h => List.mem_cons_of_mem _ h) (fun h => (List.nodup_cons.1 h).2) (DExt.refl _ _) ?_
    rw [← mid_end, decide_eq_true (show 0 < k + 1 by omega)]
    rfl
  · rintro Dn1 D6 _ hDn1 hX6 rfl
    rw [List.take_length]
    have hpos : ¬ 0 < (allT T).length := by rw [hne]; simp
    refine g [[3],[2,4,5,8]] ?_
    refine WL.know 44 (.bool false) rfl (congrArg Value.bool (decide_eq_false hpos)) (WL.nf rfl (fun w hI => mustK_no _ _) (g [[1]] ?_))
    exact WP.panicMs [Dn1] [_, _, _] rfl (fun _ h => h) (fun h => h) (fun w hI => ⟨rfl, hI.keep⟩)
  rintro Dn1 c D6 _ hDn1 hX6 hff
  exact hff.elim
end Go.Proofs.YtejgofaeafphjaaGreatDoor
namespace Go.Proofs.YtejgofaeafphjaaGreatDoor
open Go.W Go.Ti
theorem okTr_mem {T : Tks} (hv : tksB T = true) {t : Tru} (h : t ∈ allT T) : okTr t := fun i => by
  have hs := mem_allT.1 h
  rcases Nat.lt_or_ge i T.l.length with hi | hi
  · have h1 := pairP_iff.1 (hs.pair i hi)
    have h2 := (tks_num hv).2.2 i hi
    omega
  rw [hs.rest i hi]; simp
theorem tru_rdn (t : Tru) {i : Nat} (hi : i < 5) : slc (truC t) (0 + i * 2) 2 = [it (t i).1, it (t i).2] := by
  rcases (show i = 0 ∨ i = 1 ∨ i = 2 ∨ i = 3 ∨ i = 4 by omega) with rfl | rfl | rfl | rfl | rfl <;> rfl
theorem min1_g (a b1 : Nat) (ha : a < 5) (D : Imm) (h1 : D b1 = some (.cells (List.toArray [nt a]) 3 (0, 0))) (t : Tru) (w : World) (hH : Holds D w) : Gives Tryz.prog 352 [truV t, pt b1] w (it (t a).1) := by
  unfold Gives
  refine en Tryz.func352 rfl Tryz.ntmps352 (Inv.start hH) (g [[1],[1,0,1]] ?_)
  refine WL.so (SO.box rfl rfl) rfl (zw fun b2 hb2 => ?_)
  refine g [[4],[2,3,2,1]] ?_
  refine WL.yd (Yd.indexA UnF.h SzF.h rfl rfl (by omega) (by omega)) rfl (g [[1]] ?_)
  refine WL.yd (Yd.l1 rfl (Rd.own (k := 0) rfl (tru_rd t (i := a) (by omega)).1)) rfl (g [[4]] ?_)
  refine WP.ret1 rfl rfl rfl (RV.tmp rfl) (fun w hI => ⟨rfl, hI.keep⟩)
theorem min2_g (a b1 : Nat) (ha : a < 5) (D : Imm) (h1 : D b1 = some (.cells (List.toArray [nt a]) 3 (0, 0))) (t : Tru) (w : World) (hH : Holds D w) : Gives Tryz.prog 353 [truV t, pt b1] w (it (t a).2) := by
  unfold Gives
  refine en Tryz.func353 rfl Tryz.ntmps353 (Inv.start hH) (g [[1],[1,0,1]] ?_)
  refine WL.so (SO.box rfl rfl) rfl (zw fun b2 hb2 => ?_)
  refine g [[4],[2,3,2,1]] ?_
  refine WL.yd (Yd.indexA UnF.h SzF.h rfl rfl (by omega) (by omega)) rfl (g [[1]] ?_)
  refine WL.yd (Yd.l1 rfl (Rd.own (k := 0) rfl (tru_rd t (i := a) (by omega)).2)) rfl (g [[4]] ?_)
  refine WP.ret1 rfl rfl rfl (RV.tmp rfl) (fun w hI => ⟨rfl, hI.keep⟩)
theorem waitc_g (T : Tks) (a1 : Option Addr) (n1 c1 b1 : Nat) (D : Imm) (hn1 : n1 = T.l.length) (h5 : T.l.length ≤ 5) (h1 : D b1 = some (boxT T (.slice a1 n1 c1))) (t : Tru) (hok : okTr t) (w : World) (hH : Holds D w) : Gives Tryz.prog 243 [truV t, pt b1] w (it (longT T.l.length t)) := by
  unfold Gives
  subst hn1
  refine en Tryz.func243 rfl Tryz.ntmps243 (Inv.start hH) (g [[1],[1,0,1]] ?_)
  refine WL.so (SO.box rfl rfl) rfl (zw fun b2 hb2 => ?_)
  refine g [[4],[6,3,2,1],[4,4,3,2,1]] ?_
  refine WL.yd (Yd.sliceArr Tryz.underlying150 Tryz.sizeOf148 rfl rfl h5) rfl (g [[5]] ?_)
  refine WC.loopT [] (fun k : Nat => [(4, it (longT k t)), (10, .slice (some ⟨b2, 0, none⟩) T.l.length 5), (11, nt T.l.length), (12, nt k)]) (fun _ => [(b2, .cells (List.toArray (truC t)) 150 (0, 0))]) (fun k => k ≤ T.l.length) (fun k => T.l.length - k) 0 (by omega) rfl ⟨rfl, rfl, rfl, rfl, trivial⟩ ?_
  intro k hk
  refine g [[1],[5,4,10,11,12]] ?_
  refine WC.cond rfl (fun c13 => ?_) (fun c13 => ?_)
  · try simp only [zq] at c13
    have hk5 : k < 5 := by omega
    have hbk := hok k
    refine g [[5],[1,4,10,11,12]] ?_
    refine WL.yd (Yd.ix rfl rfl (rfl)) rfl (WL.yd (Yd.lV [_, _] rfl (RdN.own (k := 0) (n := 2) rfl (tru_rdn t hk5))) rfl ?_)
    refine WL.so (SO.alloc ZvF.h rfl) rfl (zw fun b6 hb6 => ?_)
    refine g [[3],[6,6,4,10,11,12]] ?_
    refine WL.know 18 (it (t k).2) rfl rfl (WL.know 20 (it (t k).1) rfl rfl (g [[1]] ?_))
    refine WL.yd (Yd.max2 rfl rfl) rfl (g [[4],[4,4,10,11,12]] ?_)
    exact WP.againT (k + 1) (by omega) (by omega) [_] _ rfl rfl ⟨rfl, rfl, rfl, rfl, trivial⟩
  try simp only [zq] at c13
  obtain rfl : k = T.l.length := by omega
  refine g [[6],[6,4]] ?_
  refine WP.ret1 rfl rfl rfl (RV.tmp rfl) (fun w hI => ⟨rfl, hI.keep⟩)
theorem fs1_sl (D : Imm) (c : Clo) (b : Nat) (hb : D b = some (.cells (List.toArray [cloV c]) 319 (0, 0))) : SlL D 1 ([c].map fun c => [cloV c]) (some ⟨b, 0, none⟩) 1 :=
  SlL.ofBlock (f := fun c => [cloV c]) (l := [c]) (rest := []) (fun _ => rfl) hb
theorem fs2_sl (D : Imm) (c d : Clo) (b : Nat) (hb : D b = some (.cells (List.toArray [cloV c, cloV d]) 319 (0, 0))) : SlL D 1 ([c, d].map fun c => [cloV c]) (some ⟨b, 0, none⟩) 2 :=
  SlL.ofBlock (f := fun c => [cloV c]) (l := [c, d]) (rest := []) (fun _ => rfl) hb
theorem cl1 {φ : Clo → Prop} {c : Clo} (h : φ c) : ∀ i, i < [c].length → φ (gt [c] i) := fun i hi => by
  obtain rfl : i = 0 := by simpa using hi
  exact h
theorem cl2 {φ : Clo → Prop} {c d : Clo} (h : φ c) (h' : φ d) : ∀ i, i < [c, d].length → φ (gt [c, d] i) := fun i hi => by
  rcases (show i = 0 ∨ i = 1 by simp at hi; omega) with rfl | rfl
  · exact h
  exact h'
theorem spans1_ok (T : Tks) (a1 : Option Addr) (n1 c1 : Nat) (q : Nat) (D : Imm) (w : World) (hO : OffAt D q T (.slice a1 n1 c1)) (hR : TksR D T a1 n1) (hH : Holds D w) (hv : tksB T = true) (c : Clo) (b : Nat) (hb : D b = some (.cells (List.toArray [cloV c]) 319 (0, 0))) (hC : CloOK D (allT T) c) (hne : allT T ≠ []) :
    Makes Tryz.prog 242 [pt q, .slice (some ⟨b, 0, none⟩) 1 1] w D (fun v D' => ∃ a c9, v = .slice a 1 c9 ∧ SlL D' 2 ([spanS c.g (allT T)].map spC) a 1) :=
  spans_ok T a1 n1 c1 q D w hO hR hH hv [c] _ 1 1 (fs1_sl D c b hb) (by omega) (cl1 hC) hne
theorem spans1_no (T : Tks) (a1 : Option Addr) (n1 c1 : Nat) (q : Nat) (D : Imm) (w : World) (hO : OffAt D q T (.slice a1 n1 c1)) (hR : TksR D T a1 n1) (hH : Holds D w) (hv : tksB T = true) (c : Clo) (b : Nat) (hb : D b = some (.cells (List.toArray [cloV c]) 319 (0, 0))) (hC : CloOK D (allT T) c) (hne : allT T = []) :
    Fails Tryz.prog 242 [pt q, .slice (some ⟨b, 0, none⟩) 1 1] w (stopK 10) :=
  spans_no T a1 n1 c1 q D w hO hR hH hv [c] _ 1 1 (fs1_sl D c b hb) (by omega) (cl1 hC) hne
theorem spans2_ok (T : Tks) (a1 : Option Addr) (n1 c1 : Nat) (q : Nat) (D : Imm) (w : World) (hO : OffAt D q T (.slice a1 n1 c1)) (hR : TksR D T a1 n1) (hH : Holds D w) (hv : tksB T = true) (c d : Clo) (b : Nat) (hb : D b = some (.cells (List.toArray [cloV c, cloV d]) 319 (0, 0))) (hC : CloOK D (allT T) c) (hC' : CloOK D (allT T) d) (hne : allT T ≠ []) :
    Makes Tryz.prog 242 [pt q, .slice (some ⟨b, 0, none⟩) 2 2] w D (fun v D' => ∃ a c9, v = .slice a 2 c9 ∧ SlL D' 2 ([spanS c.g (allT T), spanS d.g (allT T)].map spC) a 2) :=
  spans_ok T a1 n1 c1 q D w hO hR hH hv [c, d] _ 2 2 (fs2_sl D c d b hb) (by omega) (cl2 hC hC') hne
theorem spans2_no (T : Tks) (a1 : Option Addr) (n1 c1 : Nat) (q : Nat) (D : Imm) (w : World) (hO : OffAt D q T (.slice a1 n1 c1)) (hR : TksR D T a1 n1) (hH : Holds D w) (hv : tksB T = true) (c d : Clo) (b : Nat) (hb : D b = some (.cells (List.toArray [cloV c, cloV d]) 319 (0, 0))) (hC : CloOK D (allT T) c) (hC' : CloOK D (allT T) d) (hne : allT T = []) :
    Fails Tryz.prog 242 [pt q, .slice (some ⟨b, 0, none⟩) 2 2] w (stopK 10) :=
  spans_no T a1 n1 c1 q D w hO hR hH hv [c, d] _ 2 2 (fs2_sl D c d b hb) (by omega) (cl2 hC hC') hne
end Go.Proofs.YtejgofaeafphjaaGreatDoor
namespace Go.Proofs.YtejgofaeafphjaaGreatDoor
open Go.W Go.Ti
def spV (s : Sp) : Value := .agg #[it s.lo, it s.hi]
theorem Waits_1 (T : Tks) (a1 : Option Addr) (n1 c1 : Nat) (D : Imm) (w : World) (hR : TksR D T a1 n1) (hH : Holds D w) (hv : tksB T = false) : Gives Tryz.prog 184 [.agg #[it T.huts, .slice a1 n1 c1]] w (.tuple #[spV (WaitsOut T).1, it (WaitsOut T).2]) := by
  unfold Gives
  obtain rfl := hR.tick.len'
  have hl1 := hR.len
  have hE : tksE T true = 1 := by
    unfold tksE
    rw [if_pos hv]
  have hO0 : WaitsOut T = (⟨0, 0⟩, 1) := by unfold WaitsOut; rw [if_pos (by rw [hE]; simp), hE]
  refine enD Tryz.func184 rfl Tryz.ntmps184 (Inv.start hH) (g [[1],[1,0]] ?_)
  refine WL.so (SO.box rfl rfl) rfl (zw fun b1 hb1 => ?_)
  refine WL.so (SO.alloc ZvF.h rfl) rfl (zw fun b2 hb2 => ?_)
  refine WL.so (SO.alloc ZvF.h rfl) rfl (zw fun b3 hb3 => ?_)
  refine g [[3],[2,3,2,1]] ?_
  refine WL.defer rfl (g [[3]] ?_)
  refine WC.freezeN 2 b1 (boxT T (.slice a1 T.l.length c1)) rfl rfl hb1 (fun D1 hX1 h1 => ?_)
  replace hR := hR.ext hX1
  refine g [[2,3,2,1]] ?_
  refine WL.nf rfl (fun w hI => open_1 T a1 _ c1 _ _ hR hI.imm true hv) (g [[1]] ?_)
  refine WP.panicD (k := 0) [_, _] [_, _] rfl CaF.h rfl (fun w hI => catch241 _ _ _ _ _ (hI.own _ _ (List.mem_of_getElem? (i := 0) rfl))) rfl zV (fun w hI => ⟨congrArg Ending.returned (by rw [hO0]; rfl), hI.keep⟩)
theorem Waits_3 (T : Tks) (a1 : Option Addr) (n1 c1 : Nat) (D : Imm) (w : World) (hR : TksR D T a1 n1) (hH : Holds D w) (hv : tksB T = true) (hne : allT T = []) : Gives Tryz.prog 184 [.agg #[it T.huts, .slice a1 n1 c1]] w (.tuple #[spV (WaitsOut T).1, it (WaitsOut T).2]) := by
  unfold Gives
  obtain rfl := hR.tick.len'
  have hl1 := hR.len
  have hE : tksE T true = 10 := by
    unfold tksE
    rw [if_neg (by rw [hv]; simp), if_neg (by simp), if_pos (by rw [hne]; rfl)]
  have hO0 : WaitsOut T = (⟨0, 0⟩, 10) := by unfold WaitsOut; rw [if_pos (by rw [hE]; simp), hE]
  have h5 := (tks_num hv).2.1
  refine enD Tryz.func184 rfl Tryz.ntmps184 (Inv.start hH) (g [[1],[1,0]] ?_)
  refine WL.so (SO.box rfl rfl) rfl (zw fun b1 hb1 => ?_)
  refine WL.so (SO.alloc ZvF.h rfl) rfl (zw fun b2 hb2 => ?_)
  refine WL.so (SO.alloc ZvF.h rfl) rfl (zw fun b3 hb3 => ?_)
  refine g [[3],[2,3,2,1]] ?_
  refine WL.defer rfl (g [[3]] ?_)
  refine WC.freezeN 2 b1 (boxT T (.slice a1 T.l.length c1)) rfl rfl hb1 (fun D1 hX1 h1 => ?_)
  replace hR := hR.ext hX1
  refine g [[2,3,2,1]] ?_
  refine WL.so (SO.makes (Enters.func Tryz.call88 rfl) (fun w hI => open_ok T a1 _ c1 _ _ hR hI.imm hv)) rfl ?_
  rintro _ D2 _ ⟨hX2, ⟨bq, rfl, hO⟩, rfl⟩
  replace hR := hR.ext hX2
  replace h1 := hX2.old _ _ h1
  refine g [[1]] ?_
  refine WL.so (SO.buildSlice UnF.h SzF.h ZvF.h rfl rfl rfl rfl (cs := [_]) rfl) rfl ?_
  rintro _ _ _ ⟨b8, hb8, rfl, rfl, rfl⟩
  refine WL.freezeN 0 b8 (.cells (List.toArray [cloV (⟨243, [pt b1], longT T.l.length⟩ : Clo)]) 319 (0, 0)) rfl rfl hb8 (fun D3 hX3 h8 => ?_)
  
  replace hO := hO.ext hX3
  replace hR := hR.ext hX3
  replace h1 := hX3.old _ _ h1
  have hCW : CloOK D3 (allT T) (⟨243, [pt b1], longT T.l.length⟩ : Clo) := ⟨Tryz.call243, fun t ht w' hH' => waitc_g T a1 _ c1 b1 _ rfl h5 h1 t (okTr_mem hv ht) w' hH'⟩
  refine WL.nf rfl (fun w hI => spans1_no T a1 _ c1 bq D3 _ hO hR hI.imm hv (⟨243, [pt b1], longT T.l.length⟩ : Clo) b8 h8 hCW hne) (g [[1]] ?_)
  refine WP.panicD (k := 0) [_, _] [_, _] rfl CaF.h rfl (fun w hI => catch241 _ _ _ _ _ (hI.own _ _ (List.mem_of_getElem? (i := 0) rfl))) rfl zV (fun w hI => ⟨congrArg Ending.returned (by rw [hO0]; rfl), hI.keep⟩)
theorem Waits_ok (T : Tks) (a1 : Option Addr) (n1 c1 : Nat) (D : Imm) (w : World) (hR : TksR D T a1 n1) (hH : Holds D w) (hv : tksB T = true) (hne : allT T ≠ []) : Gives Tryz.prog 184 [.agg #[it T.huts, .slice a1 n1 c1]] w (.tuple #[spV (WaitsOut T).1, it (WaitsOut T).2]) := by
  unfold Gives
  obtain rfl := hR.tick.len'
  have hl1 := hR.len
  have hE : tksE T true = 0 := by
    unfold tksE
    rw [if_neg (by rw [hv]; simp), if_neg (by simp), if_neg (by rw [List.isEmpty_iff]; exact hne)]
  have hO0 : WaitsOut T = (spanS (longT T.l.length) (allT T), 0) := by unfold WaitsOut; rw [if_neg (by rw [hE]; simp)]
  have h5 := (tks_num hv).2.1
  refine enD Tryz.func184 rfl Tryz.ntmps184 (Inv.start hH) (g [[1],[1,0]] ?_)
  refine WL.so (SO.box rfl rfl) rfl (zw fun b1 hb1 => ?_)
  refine WL.so (SO.alloc ZvF.h rfl) rfl (zw fun b2 hb2 => ?_)
  refine WL.so (SO.alloc ZvF.h rfl) rfl (zw fun b3 hb3 => ?_)
  refine g [[3],[2,3,2,1]] ?_
  refine WL.defer rfl (g [[3]] ?_)
  refine WC.freezeN 2 b1 (boxT T (.slice a1 T.l.length c1)) rfl rfl hb1 (fun D1 hX1 h1 => ?_)
  replace hR := hR.ext hX1
  refine g [[2,3,2,1]] ?_
  refine WL.so (SO.makes (Enters.func Tryz.call88 rfl) (fun w hI => open_ok T a1 _ c1 _ _ hR hI.imm hv)) rfl ?_
  rintro _ D2 _ ⟨hX2, ⟨bq, rfl, hO⟩, rfl⟩
  replace hR := hR.ext hX2
  replace h1 := hX2.old _ _ h1
  refine g [[1]] ?_
  refine WL.so (SO.buildSlice UnF.h SzF.h ZvF.h rfl rfl rfl rfl (cs := [_]) rfl) rfl ?_
  rintro _ _ _ ⟨b8, hb8, rfl, rfl, rfl⟩
  refine WL.freezeN 0 b8 (.cells (List.toArray [cloV (⟨243, [pt b1], longT T.l.length⟩ : Clo)]) 319 (0, 0)) rfl rfl hb8 (fun D3 hX3 h8 => ?_)
  
  replace hO := hO.ext hX3
  replace hR := hR.ext hX3
  replace h1 := hX3.old _ _ h1
  have hCW : CloOK D3 (allT T) (⟨243, [pt b1], longT T.l.length⟩ : Clo) := ⟨Tryz.call243, fun t ht w' hH' => waitc_g T a1 _ c1 b1 _ rfl h5 h1 t (okTr_mem hv ht) w' hH'⟩
  refine WL.so (SO.makes (Enters.func Tryz.call242 rfl) (fun w hI => spans1_ok T a1 _ c1 bq D3 _ hO hR hI.imm hv (⟨243, [pt b1], longT T.l.length⟩ : Clo) b8 h8 hCW hne)) rfl ?_
  rintro _ D4 _ ⟨hX4, ⟨a9, c9, rfl, hS9⟩, rfl⟩
  refine WL.yd (Yd.ix rfl rfl (hS9.addr 0 (by omega))) rfl (WL.yd (Yd.lV [_, _] rfl ((hS9.at 0 (by omega)).rdn 0 2 rfl)) rfl (g [[5]] ?_))
  refine WP.endD [_, _] [_, _] rfl rfl CaF.h (fun w hI => idle241 _ _) rfl zV (fun w hI => ⟨congrArg Ending.returned (by rw [hO0]; rfl), hI.keep⟩)
theorem Waits_g (T : Tks) (a1 : Option Addr) (n1 c1 : Nat) (D : Imm) (w : World) (hR : TksR D T a1 n1) (hH : Holds D w) : Gives Tryz.prog 184 [.agg #[it T.huts, .slice a1 n1 c1]] w (.tuple #[spV (WaitsOut T).1, it (WaitsOut T).2]) := by
  cases hv : tksB T with
  | false => exact Waits_1 T a1 n1 c1 D w hR hH hv
  | true =>
    by_cases hne : allT T = []
    · exact Waits_3 T a1 n1 c1 D w hR hH hv hne
    exact Waits_ok T a1 n1 c1 D w hR hH hv hne
end Go.Proofs.YtejgofaeafphjaaGreatDoor
namespace Go.Proofs.YtejgofaeafphjaaGreatDoor
open Go.W Go.Ti
theorem Minutes_1 (T : Tks) (a1 : Option Addr) (n1 c1 : Nat) (D : Imm) (w : World) (hR : TksR D T a1 n1) (hH : Holds D w) (n : Int) (hv : tksB T = false) : Gives Tryz.prog 350 [.agg #[it T.huts, .slice a1 n1 c1], it n] w (.tuple #[spV (MinutesOut T n).1, spV (MinutesOut T n).2.1, it (MinutesOut T n).2.2]) := by
  unfold Gives
  obtain rfl := hR.tick.len'
  have hl1 := hR.len
  have hE : tksE T (isT T n) = 1 := by
    unfold tksE
    rw [if_pos hv]
  have hO0 : MinutesOut T n = (⟨0, 0⟩, ⟨0, 0⟩, 1) := by unfold MinutesOut; rw [if_pos (by rw [hE]; simp), hE]
  refine enD Tryz.func350 rfl Tryz.ntmps350 (Inv.start hH) (g [[1],[1,0,1]] ?_)
  refine WL.so (SO.box rfl rfl) rfl (zw fun b2 hb2 => ?_)
  refine WL.so (SO.box rfl rfl) rfl (zw fun b3 hb3 => ?_)
  refine WL.so (SO.alloc ZvF.h rfl) rfl (zw fun b4 hb4 => ?_)
  refine WL.so (SO.alloc ZvF.h rfl) rfl (zw fun b5 hb5 => ?_)
  refine WL.so (SO.alloc ZvF.h rfl) rfl (zw fun b6 hb6 => ?_)
  refine g [[3],[2,6,5,4,3,2]] ?_
  refine WL.defer rfl (g [[3]] ?_)
  refine WC.freezeN 4 b2 (boxT T (.slice a1 T.l.length c1)) rfl rfl hb2 (fun D1 hX1 h2 => ?_)
  replace hR := hR.ext hX1
  refine WC.freezeN 3 b3 (.cells (List.toArray [it n]) 3 (0, 0)) rfl rfl hb3 (fun D3 hX3 h3 => ?_)
  replace hR := hR.ext hX3
  replace h2 := hX3.old _ _ h2
  refine g [[0,6,5,4,3,2]] ?_
  refine WC.drawH [] zk (fun _ hI => hI.drop 99) (g [[1000],[1001],[1002],[1005],[1006]] ?_)
  refine WH.two (i := 3) (j := 7) zk ?_ ?_
  · refine WHo.so rfl (SO.callP CaF.h rfl (fun w hI => isTick_g T a1 _ c1 n _ rfl hl1)) rfl ?_
    rintro _ _ _ ⟨rfl, rfl, rfl⟩
    refine ⟨(fun _ hI => hI.drop 99), ?_⟩
    refine WH.two (i := 4) (j := 7) zk ?_ ?_
    · refine WHo.no rfl (SO.fail (Enters.func CaF.h rfl) (fun w hI => open_1 T a1 _ c1 _ _ hR hI.imm (isT T n) hv) (g [[1]] ?_))
      refine WP.panicD (k := 0) [_, _, _] [_, _, _] rfl CaF.h rfl (fun w hI => catch351 _ _ _ _ _ (hI.own _ _ (List.mem_of_getElem? (i := 0) rfl))) rfl zV (fun w hI => ⟨congrArg Ending.returned (by rw [hO0]; rfl), hI.keep⟩)
    refine WHo.so rfl (SO.buildSlice UnF.h SzF.h ZvF.h rfl rfl rfl rfl (cs := [_, _]) rfl) rfl ?_
    rintro _ _ _ ⟨b16, hb16, rfl, rfl, rfl⟩
    refine ⟨(fun _ hI => hI.drop 99), ?_⟩
    refine WH.one (i := 4) zk (WHo.no rfl (SO.fail (Enters.func CaF.h rfl) (fun w hI => open_1 T a1 _ c1 _ _ hR hI.imm (isT T n) hv) (g [[1]] ?_)))
    refine WP.panicD (k := 1) [_, _, _] [_, _, _] rfl CaF.h rfl (fun w hI => catch351 _ _ _ _ _ (hI.own _ _ (List.mem_of_getElem? (i := 1) rfl))) rfl zV (fun w hI => ⟨congrArg Ending.returned (by rw [hO0]; rfl), hI.keep⟩)
  refine WHo.so rfl (SO.buildSlice UnF.h SzF.h ZvF.h rfl rfl rfl rfl (cs := [_, _]) rfl) rfl ?_
  rintro _ _ _ ⟨b16, hb16, rfl, rfl, rfl⟩
  refine ⟨(fun _ hI => hI.drop 99), ?_⟩
  refine WH.one (i := 3) zk (WHo.so rfl (SO.callP CaF.h rfl (fun w hI => isTick_g T a1 _ c1 n _ rfl hl1)) rfl ?_)
  rintro _ _ _ ⟨rfl, rfl, rfl⟩
  refine ⟨(fun _ hI => hI.drop 99), ?_⟩
  refine WH.one (i := 4) zk (WHo.no rfl (SO.fail (Enters.func CaF.h rfl) (fun w hI => open_1 T a1 _ c1 _ _ hR hI.imm (isT T n) hv) (g [[1]] ?_)))
  refine WP.panicD (k := 1) [_, _, _] [_, _, _] rfl CaF.h rfl (fun w hI => catch351 _ _ _ _ _ (hI.own _ _ (List.mem_of_getElem? (i := 1) rfl))) rfl zV (fun w hI => ⟨congrArg Ending.returned (by rw [hO0]; rfl), hI.keep⟩)
theorem Minutes_2 (T : Tks) (a1 : Option Addr) (n1 c1 : Nat) (D : Imm) (w : World) (hR : TksR D T a1 n1) (hH : Holds D w) (n : Int) (hv : tksB T = true) (hw : isT T n = false) : Gives Tryz.prog 350 [.agg #[it T.huts, .slice a1 n1 c1], it n] w (.tuple #[spV (MinutesOut T n).1, spV (MinutesOut T n).2.1, it (MinutesOut T n).2.2]) := by
  unfold Gives
  obtain rfl := hR.tick.len'
  have hl1 := hR.len
  have hE : tksE T (isT T n) = 2 := by
    unfold tksE
    rw [if_neg (by rw [hv]; simp), if_pos hw]
  have hO0 : MinutesOut T n = (⟨0, 0⟩, ⟨0, 0⟩, 2) := by unfold MinutesOut; rw [if_pos (by rw [hE]; simp), hE]
  refine enD Tryz.func350 rfl Tryz.ntmps350 (Inv.start hH) (g [[1],[1,0,1]] ?_)
  refine WL.so (SO.box rfl rfl) rfl (zw fun b2 hb2 => ?_)
  refine WL.so (SO.box rfl rfl) rfl (zw fun b3 hb3 => ?_)
  refine WL.so (SO.alloc ZvF.h rfl) rfl (zw fun b4 hb4 => ?_)
  refine WL.so (SO.alloc ZvF.h rfl) rfl (zw fun b5 hb5 => ?_)
  refine WL.so (SO.alloc ZvF.h rfl) rfl (zw fun b6 hb6 => ?_)
  refine g [[3],[2,6,5,4,3,2]] ?_
  refine WL.defer rfl (g [[3]] ?_)
  refine WC.freezeN 4 b2 (boxT T (.slice a1 T.l.length c1)) rfl rfl hb2 (fun D1 hX1 h2 => ?_)
  replace hR := hR.ext hX1
  refine WC.freezeN 3 b3 (.cells (List.toArray [it n]) 3 (0, 0)) rfl rfl hb3 (fun D3 hX3 h3 => ?_)
  replace hR := hR.ext hX3
  replace h2 := hX3.old _ _ h2
  refine g [[0,6,5,4,3,2]] ?_
  refine WC.drawH [] zk (fun _ hI => hI.drop 99) (g [[1000],[1001],[1002],[1005],[1006]] ?_)
  refine WH.two (i := 3) (j := 7) zk ?_ ?_
  · refine WHo.so rfl (SO.callP CaF.h rfl (fun w hI => isTick_g T a1 _ c1 n _ rfl hl1)) rfl ?_
    rintro _ _ _ ⟨rfl, rfl, rfl⟩
    refine ⟨(fun _ hI => hI.drop 99), ?_⟩
    refine WH.know 12 (.bool false) rfl (congrArg Value.bool hw) ?_
    refine WH.two (i := 4) (j := 7) zk ?_ ?_
    · refine WHo.no rfl (SO.fail (Enters.func CaF.h rfl) (fun w hI => open_2 T a1 _ c1 _ _ hR hI.imm hv) (g [[1]] ?_))
      refine WP.panicD (k := 0) [_, _, _] [_, _, _] rfl CaF.h rfl (fun w hI => catch351 _ _ _ _ _ (hI.own _ _ (List.mem_of_getElem? (i := 0) rfl))) rfl zV (fun w hI => ⟨congrArg Ending.returned (by rw [hO0]; rfl), hI.keep⟩)
    refine WHo.so rfl (SO.buildSlice UnF.h SzF.h ZvF.h rfl rfl rfl rfl (cs := [_, _]) rfl) rfl ?_
    rintro _ _ _ ⟨b16, hb16, rfl, rfl, rfl⟩
    refine ⟨(fun _ hI => hI.drop 99), ?_⟩
    refine WH.one (i := 4) zk (WHo.no rfl (SO.fail (Enters.func CaF.h rfl) (fun w hI => open_2 T a1 _ c1 _ _ hR hI.imm hv) (g [[1]] ?_)))
    refine WP.panicD (k := 1) [_, _, _] [_, _, _] rfl CaF.h rfl (fun w hI => catch351 _ _ _ _ _ (hI.own _ _ (List.mem_of_getElem? (i := 1) rfl))) rfl zV (fun w hI => ⟨congrArg Ending.returned (by rw [hO0]; rfl), hI.keep⟩)
  refine WHo.so rfl (SO.buildSlice UnF.h SzF.h ZvF.h rfl rfl rfl rfl (cs := [_, _]) rfl) rfl ?_
  rintro _ _ _ ⟨b16, hb16, rfl, rfl, rfl⟩
  refine ⟨(fun _ hI => hI.drop 99), ?_⟩
  refine WH.one (i := 3) zk (WHo.so rfl (SO.callP CaF.h rfl (fun w hI => isTick_g T a1 _ c1 n _ rfl hl1)) rfl ?_)
  rintro _ _ _ ⟨rfl, rfl, rfl⟩
  refine ⟨(fun _ hI => hI.drop 99), ?_⟩
  refine WH.know 12 (.bool false) rfl (congrArg Value.bool hw) ?_
  refine WH.one (i := 4) zk (WHo.no rfl (SO.fail (Enters.func CaF.h rfl) (fun w hI => open_2 T a1 _ c1 _ _ hR hI.imm hv) (g [[1]] ?_)))
  refine WP.panicD (k := 1) [_, _, _] [_, _, _] rfl CaF.h rfl (fun w hI => catch351 _ _ _ _ _ (hI.own _ _ (List.mem_of_getElem? (i := 1) rfl))) rfl zV (fun w hI => ⟨congrArg Ending.returned (by rw [hO0]; rfl), hI.keep⟩)
theorem Minutes_3 (T : Tks) (a1 : Option Addr) (n1 c1 : Nat) (D : Imm) (w : World) (hR : TksR D T a1 n1) (hH : Holds D w) (n : Int) (hv : tksB T = true) (hw : isT T n = true) (hne : allT T = []) : Gives Tryz.prog 350 [.agg #[it T.huts, .slice a1 n1 c1], it n] w (.tuple #[spV (MinutesOut T n).1, spV (MinutesOut T n).2.1, it (MinutesOut T n).2.2]) := by
  unfold Gives
  obtain rfl := hR.tick.len'
  have hl1 := hR.len
  have hE : tksE T (isT T n) = 10 := by
    unfold tksE
    rw [if_neg (by rw [hv]; simp), if_neg (by rw [hw]; simp), if_pos (by rw [hne]; rfl)]
  have hO0 : MinutesOut T n = (⟨0, 0⟩, ⟨0, 0⟩, 10) := by unfold MinutesOut; rw [if_pos (by rw [hE]; simp), hE]
  have h5 := (tks_num hv).2.1
  obtain ⟨a, rfl, han⟩ := isT_nat hw
  refine enD Tryz.func350 rfl Tryz.ntmps350 (Inv.start hH) (g [[1],[1,0,1]] ?_)
  refine WL.so (SO.box rfl rfl) rfl (zw fun b2 hb2 => ?_)
  refine WL.so (SO.box rfl rfl) rfl (zw fun b3 hb3 => ?_)
  refine WL.so (SO.alloc ZvF.h rfl) rfl (zw fun b4 hb4 => ?_)
  refine WL.so (SO.alloc ZvF.h rfl) rfl (zw fun b5 hb5 => ?_)
  refine WL.so (SO.alloc ZvF.h rfl) rfl (zw fun b6 hb6 => ?_)
  refine g [[3],[2,6,5,4,3,2]] ?_
  refine WL.defer rfl (g [[3]] ?_)
  refine WC.freezeN 4 b2 (boxT T (.slice a1 T.l.length c1)) rfl rfl hb2 (fun D1 hX1 h2 => ?_)
  replace hR := hR.ext hX1
  refine WC.freezeN 3 b3 (.cells (List.toArray [it a]) 3 (0, 0)) rfl rfl hb3 (fun D3 hX3 h3 => ?_)
  replace hR := hR.ext hX3
  replace h2 := hX3.old _ _ h2
  refine g [[0,6,5,4,3,2]] ?_
  refine WC.drawH [] zk (fun _ hI => hI.drop 99) (g [[1000],[1001],[1002],[1005],[1006]] ?_)
  refine WH.two (i := 3) (j := 7) zk ?_ ?_
  · refine WHo.so rfl (SO.callP CaF.h rfl (fun w hI => isTick_g T a1 _ c1 a _ rfl hl1)) rfl ?_
    rintro _ _ _ ⟨rfl, rfl, rfl⟩
    refine ⟨(fun _ hI => hI.drop 99), ?_⟩
    refine WH.know 12 (.bool true) rfl (congrArg Value.bool hw) ?_
    refine WH.two (i := 4) (j := 7) zk ?_ ?_
    · refine WHo.so rfl (SO.makes (Enters.func Tryz.call88 rfl) (fun w hI => open_ok T a1 _ c1 _ _ hR hI.imm hv)) rfl ?_
      rintro _ D4 _ ⟨hX4, ⟨bq, rfl, hO⟩, rfl⟩
      replace hR := hR.ext hX4
      replace h3 := hX4.old _ _ h3
      refine ⟨(fun _ hI => (hI.drop 99).shrink hX4.old), ?_⟩
      refine WH.one (i := 7) zk (WHo.so rfl (SO.buildSlice UnF.h SzF.h ZvF.h rfl rfl rfl rfl (cs := [_, _]) rfl) rfl ?_)
      rintro _ _ _ ⟨b16, hb16, rfl, rfl, rfl⟩
      refine ⟨(fun _ hI => (hI.drop 99).shrink hX4.old), ?_⟩
      refine WH.freezeN 0 b16 (.cells (List.toArray [cloV (⟨352, [pt b3], fun t => (t a).1⟩ : Clo), cloV (⟨353, [pt b3], fun t => (t a).2⟩ : Clo)]) 319 (0, 0)) rfl rfl hb16 (fun D5 hX5 h16 => ?_)
      
      replace hO := hO.ext hX5
      replace hR := hR.ext hX5
      replace h3 := hX5.old _ _ h3
      have hC1 : CloOK D5 (allT T) (⟨352, [pt b3], fun t => (t a).1⟩ : Clo) := ⟨Tryz.call352, fun t ht w' hH' => min1_g a b3 (by omega) _ h3 t w' hH'⟩
      have hC2 : CloOK D5 (allT T) (⟨353, [pt b3], fun t => (t a).2⟩ : Clo) := ⟨Tryz.call353, fun t ht w' hH' => min2_g a b3 (by omega) _ h3 t w' hH'⟩
      refine WH.one (i := 8) zk (WHo.no rfl (SO.fail (Enters.func CaF.h rfl) (fun w hI => spans2_no T a1 _ c1 bq D5 _ hO hR hI.imm hv (⟨352, [pt b3], fun t => (t a).1⟩ : Clo) (⟨353, [pt b3], fun t => (t a).2⟩ : Clo) b16 h16 hC1 hC2 hne) (g [[1]] ?_)))
      refine WP.panicD (k := 0) [_, _, _] [_, _, _] rfl CaF.h rfl (fun w hI => catch351 _ _ _ _ _ (hI.own _ _ (List.mem_of_getElem? (i := 0) rfl))) rfl zV (fun w hI => ⟨congrArg Ending.returned (by rw [hO0]; rfl), hI.keep⟩)
    refine WHo.so rfl (SO.buildSlice UnF.h SzF.h ZvF.h rfl rfl rfl rfl (cs := [_, _]) rfl) rfl ?_
    rintro _ _ _ ⟨b16, hb16, rfl, rfl, rfl⟩
    refine ⟨(fun _ hI => hI.drop 99), ?_⟩
    refine WH.one (i := 4) zk (WHo.so rfl (SO.makes (Enters.func Tryz.call88 rfl) (fun w hI => open_ok T a1 _ c1 _ _ hR hI.imm hv)) rfl ?_)
    rintro _ D4 _ ⟨hX4, ⟨bq, rfl, hO⟩, rfl⟩
    replace hR := hR.ext hX4
    replace h3 := hX4.old _ _ h3
    refine ⟨(fun _ hI => (hI.drop 99).shrink hX4.old), ?_⟩
    refine WH.freezeN 0 b16 (.cells (List.toArray [cloV (⟨352, [pt b3], fun t => (t a).1⟩ : Clo), cloV (⟨353, [pt b3], fun t => (t a).2⟩ : Clo)]) 319 (0, 0)) rfl rfl hb16 (fun D5 hX5 h16 => ?_)
      
    replace hO := hO.ext hX5
    replace hR := hR.ext hX5
    replace h3 := hX5.old _ _ h3
    have hC1 : CloOK D5 (allT T) (⟨352, [pt b3], fun t => (t a).1⟩ : Clo) := ⟨Tryz.call352, fun t ht w' hH' => min1_g a b3 (by omega) _ h3 t w' hH'⟩
    have hC2 : CloOK D5 (allT T) (⟨353, [pt b3], fun t => (t a).2⟩ : Clo) := ⟨Tryz.call353, fun t ht w' hH' => min2_g a b3 (by omega) _ h3 t w' hH'⟩
    refine WH.one (i := 8) zk (WHo.no rfl (SO.fail (Enters.func CaF.h rfl) (fun w hI => spans2_no T a1 _ c1 bq D5 _ hO hR hI.imm hv (⟨352, [pt b3], fun t => (t a).1⟩ : Clo) (⟨353, [pt b3], fun t => (t a).2⟩ : Clo) b16 h16 hC1 hC2 hne) (g [[1]] ?_)))
    refine WP.panicD (k := 0) [_, _, _] [_, _, _] rfl CaF.h rfl (fun w hI => catch351 _ _ _ _ _ (hI.own _ _ (List.mem_of_getElem? (i := 0) rfl))) rfl zV (fun w hI => ⟨congrArg Ending.returned (by rw [hO0]; rfl), hI.keep⟩)
  refine WHo.so rfl (SO.buildSlice UnF.h SzF.h ZvF.h rfl rfl rfl rfl (cs := [_, _]) rfl) rfl ?_
  rintro _ _ _ ⟨b16, hb16, rfl, rfl, rfl⟩
  refine ⟨(fun _ hI => hI.drop 99), ?_⟩
  refine WH.one (i := 3) zk (WHo.so rfl (SO.callP CaF.h rfl (fun w hI => isTick_g T a1 _ c1 a _ rfl hl1)) rfl ?_)
  rintro _ _ _ ⟨rfl, rfl, rfl⟩
  refine ⟨(fun _ hI => hI.drop 99), ?_⟩
  refine WH.know 12 (.bool true) rfl (congrArg Value.bool hw) ?_
  refine WH.one (i := 4) zk (WHo.so rfl (SO.makes (Enters.func Tryz.call88 rfl) (fun w hI => open_ok T a1 _ c1 _ _ hR hI.imm hv)) rfl ?_)
  rintro _ D4 _ ⟨hX4, ⟨bq, rfl, hO⟩, rfl⟩
  replace hR := hR.ext hX4
  replace h3 := hX4.old _ _ h3
  refine ⟨(fun _ hI => (hI.drop 99).shrink hX4.old), ?_⟩
  refine WH.freezeN 0 b16 (.cells (List.toArray [cloV (⟨352, [pt b3], fun t => (t a).1⟩ : Clo), cloV (⟨353, [pt b3], fun t => (t a).2⟩ : Clo)]) 319 (0, 0)) rfl rfl hb16 (fun D5 hX5 h16 => ?_)
    
  replace hO := hO.ext hX5
  replace hR := hR.ext hX5
  replace h3 := hX5.old _ _ h3
  have hC1 : CloOK D5 (allT T) (⟨352, [pt b3], fun t => (t a).1⟩ : Clo) := ⟨Tryz.call352, fun t ht w' hH' => min1_g a b3 (by omega) _ h3 t w' hH'⟩
  have hC2 : CloOK D5 (allT T) (⟨353, [pt b3], fun t => (t a).2⟩ : Clo) := ⟨Tryz.call353, fun t ht w' hH' => min2_g a b3 (by omega) _ h3 t w' hH'⟩
  refine WH.one (i := 8) zk (WHo.no rfl (SO.fail (Enters.func CaF.h rfl) (fun w hI => spans2_no T a1 _ c1 bq D5 _ hO hR hI.imm hv (⟨352, [pt b3], fun t => (t a).1⟩ : Clo) (⟨353, [pt b3], fun t => (t a).2⟩ : Clo) b16 h16 hC1 hC2 hne) (g [[1]] ?_)))
  refine WP.panicD (k := 0) [_, _, _] [_, _, _] rfl CaF.h rfl (fun w hI => catch351 _ _ _ _ _ (hI.own _ _ (List.mem_of_getElem? (i := 0) rfl))) rfl zV (fun w hI => ⟨congrArg Ending.returned (by rw [hO0]; rfl), hI.keep⟩)
theorem Minutes_ok (T : Tks) (a1 : Option Addr) (n1 c1 : Nat) (D : Imm) (w : World) (hR : TksR D T a1 n1) (hH : Holds D w) (n : Int) (hv : tksB T = true) (hw : isT T n = true) (hne : allT T ≠ []) : Gives Tryz.prog 350 [.agg #[it T.huts, .slice a1 n1 c1], it n] w (.tuple #[spV (MinutesOut T n).1, spV (MinutesOut T n).2.1, it (MinutesOut T n).2.2]) := by
  unfold Gives
  obtain rfl := hR.tick.len'
  have hl1 := hR.len
  have hE : tksE T (isT T n) = 0 := by
    unfold tksE
    rw [if_neg (by rw [hv]; simp), if_neg (by rw [hw]; simp), if_neg (by rw [List.isEmpty_iff]; exact hne)]
  have hO0 : MinutesOut T n = (spanS (fun t => (t n.toNat).1) (allT T), spanS (fun t => (t n.toNat).2) (allT T), 0) := by unfold MinutesOut; rw [if_neg (by rw [hE]; simp)]
  have h5 := (tks_num hv).2.1
  obtain ⟨a, rfl, han⟩ := isT_nat hw
  refine enD Tryz.func350 rfl Tryz.ntmps350 (Inv.start hH) (g [[1],[1,0,1]] ?_)
  refine WL.so (SO.box rfl rfl) rfl (zw fun b2 hb2 => ?_)
  refine WL.so (SO.box rfl rfl) rfl (zw fun b3 hb3 => ?_)
  refine WL.so (SO.alloc ZvF.h rfl) rfl (zw fun b4 hb4 => ?_)
  refine WL.so (SO.alloc ZvF.h rfl) rfl (zw fun b5 hb5 => ?_)
  refine WL.so (SO.alloc ZvF.h rfl) rfl (zw fun b6 hb6 => ?_)
  refine g [[3],[2,6,5,4,3,2]] ?_
  refine WL.defer rfl (g [[3]] ?_)
  refine WC.freezeN 4 b2 (boxT T (.slice a1 T.l.length c1)) rfl rfl hb2 (fun D1 hX1 h2 => ?_)
  replace hR := hR.ext hX1
  refine WC.freezeN 3 b3 (.cells (List.toArray [it a]) 3 (0, 0)) rfl rfl hb3 (fun D3 hX3 h3 => ?_)
  replace hR := hR.ext hX3
  replace h2 := hX3.old _ _ h2
  refine g [[0,6,5,4,3,2]] ?_
  refine WC.drawH [] zk (fun _ hI => hI.drop 99) (g [[1000],[1001],[1002],[1005],[1006]] ?_)
  refine WH.two (i := 3) (j := 7) zk ?_ ?_
  · refine WHo.so rfl (SO.callP CaF.h rfl (fun w hI => isTick_g T a1 _ c1 a _ rfl hl1)) rfl ?_
    rintro _ _ _ ⟨rfl, rfl, rfl⟩
    refine ⟨(fun _ hI => hI.drop 99), ?_⟩
    refine WH.know 12 (.bool true) rfl (congrArg Value.bool hw) ?_
    refine WH.two (i := 4) (j := 7) zk ?_ ?_
    · refine WHo.so rfl (SO.makes (Enters.func Tryz.call88 rfl) (fun w hI => open_ok T a1 _ c1 _ _ hR hI.imm hv)) rfl ?_
      rintro _ D4 _ ⟨hX4, ⟨bq, rfl, hO⟩, rfl⟩
      replace hR := hR.ext hX4
      replace h3 := hX4.old _ _ h3
      refine ⟨(fun _ hI => (hI.drop 99).shrink hX4.old), ?_⟩
      refine WH.one (i := 7) zk (WHo.so rfl (SO.buildSlice UnF.h SzF.h ZvF.h rfl rfl rfl rfl (cs := [_, _]) rfl) rfl ?_)
      rintro _ _ _ ⟨b16, hb16, rfl, rfl, rfl⟩
      refine ⟨(fun _ hI => (hI.drop 99).shrink hX4.old), ?_⟩
      refine WH.freezeN 0 b16 (.cells (List.toArray [cloV (⟨352, [pt b3], fun t => (t a).1⟩ : Clo), cloV (⟨353, [pt b3], fun t => (t a).2⟩ : Clo)]) 319 (0, 0)) rfl rfl hb16 (fun D5 hX5 h16 => ?_)
      
      replace hO := hO.ext hX5
      replace hR := hR.ext hX5
      replace h3 := hX5.old _ _ h3
      have hC1 : CloOK D5 (allT T) (⟨352, [pt b3], fun t => (t a).1⟩ : Clo) := ⟨Tryz.call352, fun t ht w' hH' => min1_g a b3 (by omega) _ h3 t w' hH'⟩
      have hC2 : CloOK D5 (allT T) (⟨353, [pt b3], fun t => (t a).2⟩ : Clo) := ⟨Tryz.call353, fun t ht w' hH' => min2_g a b3 (by omega) _ h3 t w' hH'⟩
      refine WH.one (i := 8) zk (WHo.so rfl (SO.makes (Enters.func Tryz.call242 rfl) (fun w hI => spans2_ok T a1 _ c1 bq D5 _ hO hR hI.imm hv (⟨352, [pt b3], fun t => (t a).1⟩ : Clo) (⟨353, [pt b3], fun t => (t a).2⟩ : Clo) b16 h16 hC1 hC2 hne)) rfl ?_)
      rintro _ D6 _ ⟨hX6, ⟨a9, c9, rfl, hS9⟩, rfl⟩
      refine ⟨(fun _ hI => (hI.drop 99).shrink (fun b o h => hX6.old _ _ (hX5.old _ _ (hX4.old _ _ h)))), ?_⟩
      refine g [[1009]] ?_
      refine WH.nil zk (g [[2],[0,7,6,5,4]] ?_)
      refine WC.drawD [] (pz [1,3,5,7,9,11,12,14,16]) zk zk zX (fun _ hI => hI.drop 99) (g [[1]] ?_)
      refine WA.yd rfl (Yd.ix rfl rfl (hS9.addr 0 (by omega))) rfl (WA.yd rfl (Yd.lV [_, _] rfl ((hS9.at 0 (by omega)).rdn 0 2 rfl)) rfl (g [[1]] ?_))
      refine WA.yd rfl (Yd.ix rfl rfl (hS9.addr 0 (by omega))) rfl (WA.yd rfl (Yd.lV [_, _] rfl ((hS9.at 1 (by omega)).rdn 0 2 rfl)) rfl ?_)
      refine WA.so rfl (SO.store 2 rfl SzF.h rfl rfl rfl rfl (zqb rfl) (oneB_spec rfl)) rfl ?_
      rintro _ _ _ ⟨rfl, rfl, rfl⟩
      refine ⟨fun _ hI => hI.drop 99, ?_⟩
      refine WA.so rfl (SO.store 1 rfl SzF.h rfl rfl rfl rfl (zqb rfl) (oneB_spec rfl)) rfl ?_
      rintro _ _ _ ⟨rfl, rfl, rfl⟩
      refine ⟨fun _ hI => hI.drop 99, ?_⟩
      refine WA.so rfl (SO.store 0 rfl SzF.h rfl rfl rfl rfl (zqb rfl) (oneB_spec rfl)) rfl ?_
      rintro _ _ _ ⟨rfl, rfl, rfl⟩
      refine ⟨fun _ hI => hI.drop 99, ?_⟩
      refine g [[3]] ?_
      refine WP.endD [_, _, _] [_, _, _] rfl rfl CaF.h (fun w hI => idle351 _ _) rfl zV (fun w hI => ⟨congrArg Ending.returned (by rw [hO0]; rfl), hI.keep⟩)
    refine WHo.so rfl (SO.buildSlice UnF.h SzF.h ZvF.h rfl rfl rfl rfl (cs := [_, _]) rfl) rfl ?_
    rintro _ _ _ ⟨b16, hb16, rfl, rfl, rfl⟩
    refine ⟨(fun _ hI => hI.drop 99), ?_⟩
    refine WH.one (i := 4) zk (WHo.so rfl (SO.makes (Enters.func Tryz.call88 rfl) (fun w hI => open_ok T a1 _ c1 _ _ hR hI.imm hv)) rfl ?_)
    rintro _ D4 _ ⟨hX4, ⟨bq, rfl, hO⟩, rfl⟩
    replace hR := hR.ext hX4
    replace h3 := hX4.old _ _ h3
    refine ⟨(fun _ hI => (hI.drop 99).shrink hX4.old), ?_⟩
    refine WH.freezeN 0 b16 (.cells (List.toArray [cloV (⟨352, [pt b3], fun t => (t a).1⟩ : Clo), cloV (⟨353, [pt b3], fun t => (t a).2⟩ : Clo)]) 319 (0, 0)) rfl rfl hb16 (fun D5 hX5 h16 => ?_)
      
    replace hO := hO.ext hX5
    replace hR := hR.ext hX5
    replace h3 := hX5.old _ _ h3
    have hC1 : CloOK D5 (allT T) (⟨352, [pt b3], fun t => (t a).1⟩ : Clo) := ⟨Tryz.call352, fun t ht w' hH' => min1_g a b3 (by omega) _ h3 t w' hH'⟩
    have hC2 : CloOK D5 (allT T) (⟨353, [pt b3], fun t => (t a).2⟩ : Clo) := ⟨Tryz.call353, fun t ht w' hH' => min2_g a b3 (by omega) _ h3 t w' hH'⟩
    refine WH.one (i := 8) zk (WHo.so rfl (SO.makes (Enters.func Tryz.call242 rfl) (fun w hI => spans2_ok T a1 _ c1 bq D5 _ hO hR hI.imm hv (⟨352, [pt b3], fun t => (t a).1⟩ : Clo) (⟨353, [pt b3], fun t => (t a).2⟩ : Clo) b16 h16 hC1 hC2 hne)) rfl ?_)
    rintro _ D6 _ ⟨hX6, ⟨a9, c9, rfl, hS9⟩, rfl⟩
    refine ⟨(fun _ hI => (hI.drop 99).shrink (fun b o h => hX6.old _ _ (hX5.old _ _ (hX4.old _ _ h)))), ?_⟩
    refine g [[1009]] ?_
    refine WH.nil zk (g [[2],[0,7,6,5,4]] ?_)
    refine WC.drawD [] (pz [1,3,5,7,9,11,12,14,16]) zk zk zX (fun _ hI => hI.drop 99) (g [[1]] ?_)
    refine WA.yd rfl (Yd.ix rfl rfl (hS9.addr 0 (by omega))) rfl (WA.yd rfl (Yd.lV [_, _] rfl ((hS9.at 0 (by omega)).rdn 0 2 rfl)) rfl (g [[1]] ?_))
    refine WA.yd rfl (Yd.ix rfl rfl (hS9.addr 0 (by omega))) rfl (WA.yd rfl (Yd.lV [_, _] rfl ((hS9.at 1 (by omega)).rdn 0 2 rfl)) rfl ?_)
    refine WA.so rfl (SO.store 2 rfl SzF.h rfl rfl rfl rfl (zqb rfl) (oneB_spec rfl)) rfl ?_
    rintro _ _ _ ⟨rfl, rfl, rfl⟩
    refine ⟨fun _ hI => hI.drop 99, ?_⟩
    refine WA.so rfl (SO.store 1 rfl SzF.h rfl rfl rfl rfl (zqb rfl) (oneB_spec rfl)) rfl ?_
    rintro _ _ _ ⟨rfl, rfl, rfl⟩
    refine ⟨fun _ hI => hI.drop 99, ?_⟩
    refine WA.so rfl (SO.store 0 rfl SzF.h rfl rfl rfl rfl (zqb rfl) (oneB_spec rfl)) rfl ?_
    rintro _ _ _ ⟨rfl, rfl, rfl⟩
    refine ⟨fun _ hI => hI.drop 99, ?_⟩
    refine g [[3]] ?_
    refine WP.endD [_, _, _] [_, _, _] rfl rfl CaF.h (fun w hI => idle351 _ _) rfl zV (fun w hI => ⟨congrArg Ending.returned (by rw [hO0]; rfl), hI.keep⟩)
  refine WHo.so rfl (SO.buildSlice UnF.h SzF.h ZvF.h rfl rfl rfl rfl (cs := [_, _]) rfl) rfl ?_
  rintro _ _ _ ⟨b16, hb16, rfl, rfl, rfl⟩
  refine ⟨(fun _ hI => hI.drop 99), ?_⟩
  refine WH.one (i := 3) zk (WHo.so rfl (SO.callP CaF.h rfl (fun w hI => isTick_g T a1 _ c1 a _ rfl hl1)) rfl ?_)
  rintro _ _ _ ⟨rfl, rfl, rfl⟩
  refine ⟨(fun _ hI => hI.drop 99), ?_⟩
  refine WH.know 12 (.bool true) rfl (congrArg Value.bool hw) ?_
  refine WH.one (i := 4) zk (WHo.so rfl (SO.makes (Enters.func Tryz.call88 rfl) (fun w hI => open_ok T a1 _ c1 _ _ hR hI.imm hv)) rfl ?_)
  rintro _ D4 _ ⟨hX4, ⟨bq, rfl, hO⟩, rfl⟩
  replace hR := hR.ext hX4
  replace h3 := hX4.old _ _ h3
  refine ⟨(fun _ hI => (hI.drop 99).shrink hX4.old), ?_⟩
  refine WH.freezeN 0 b16 (.cells (List.toArray [cloV (⟨352, [pt b3], fun t => (t a).1⟩ : Clo), cloV (⟨353, [pt b3], fun t => (t a).2⟩ : Clo)]) 319 (0, 0)) rfl rfl hb16 (fun D5 hX5 h16 => ?_)
    
  replace hO := hO.ext hX5
  replace hR := hR.ext hX5
  replace h3 := hX5.old _ _ h3
  have hC1 : CloOK D5 (allT T) (⟨352, [pt b3], fun t => (t a).1⟩ : Clo) := ⟨Tryz.call352, fun t ht w' hH' => min1_g a b3 (by omega) _ h3 t w' hH'⟩
  have hC2 : CloOK D5 (allT T) (⟨353, [pt b3], fun t => (t a).2⟩ : Clo) := ⟨Tryz.call353, fun t ht w' hH' => min2_g a b3 (by omega) _ h3 t w' hH'⟩
  refine WH.one (i := 8) zk (WHo.so rfl (SO.makes (Enters.func Tryz.call242 rfl) (fun w hI => spans2_ok T a1 _ c1 bq D5 _ hO hR hI.imm hv (⟨352, [pt b3], fun t => (t a).1⟩ : Clo) (⟨353, [pt b3], fun t => (t a).2⟩ : Clo) b16 h16 hC1 hC2 hne)) rfl ?_)
  rintro _ D6 _ ⟨hX6, ⟨a9, c9, rfl, hS9⟩, rfl⟩
  refine ⟨(fun _ hI => (hI.drop 99).shrink (fun b o h => hX6.old _ _ (hX5.old _ _ (hX4.old _ _ h)))), ?_⟩
  refine g [[1009]] ?_
  refine WH.nil zk (g [[2],[0,7,6,5,4]] ?_)
  refine WC.drawD [] (pz [1,3,5,7,9,11,12,14,16]) zk zk zX (fun _ hI => hI.drop 99) (g [[1]] ?_)
  refine WA.yd rfl (Yd.ix rfl rfl (hS9.addr 0 (by omega))) rfl (WA.yd rfl (Yd.lV [_, _] rfl ((hS9.at 0 (by omega)).rdn 0 2 rfl)) rfl (g [[1]] ?_))
  refine WA.yd rfl (Yd.ix rfl rfl (hS9.addr 0 (by omega))) rfl (WA.yd rfl (Yd.lV [_, _] rfl ((hS9.at 1 (by omega)).rdn 0 2 rfl)) rfl ?_)
  refine WA.so rfl (SO.store 2 rfl SzF.h rfl rfl rfl rfl (zqb rfl) (oneB_spec rfl)) rfl ?_
  rintro _ _ _ ⟨rfl, rfl, rfl⟩
  refine ⟨fun _ hI => hI.drop 99, ?_⟩
  refine WA.so rfl (SO.store 1 rfl SzF.h rfl rfl rfl rfl (zqb rfl) (oneB_spec rfl)) rfl ?_
  rintro _ _ _ ⟨rfl, rfl, rfl⟩
  refine ⟨fun _ hI => hI.drop 99, ?_⟩
  refine WA.so rfl (SO.store 0 rfl SzF.h rfl rfl rfl rfl (zqb rfl) (oneB_spec rfl)) rfl ?_
  rintro _ _ _ ⟨rfl, rfl, rfl⟩
  refine ⟨fun _ hI => hI.drop 99, ?_⟩
  refine g [[3]] ?_
  refine WP.endD [_, _, _] [_, _, _] rfl rfl CaF.h (fun w hI => idle351 _ _) rfl zV (fun w hI => ⟨congrArg Ending.returned (by rw [hO0]; rfl), hI.keep⟩)
theorem Minutes_g (T : Tks) (a1 : Option Addr) (n1 c1 : Nat) (D : Imm) (w : World) (hR : TksR D T a1 n1) (hH : Holds D w) (n : Int) : Gives Tryz.prog 350 [.agg #[it T.huts, .slice a1 n1 c1], it n] w (.tuple #[spV (MinutesOut T n).1, spV (MinutesOut T n).2.1, it (MinutesOut T n).2.2]) := by
  cases hv : tksB T with
  | false => exact Minutes_1 T a1 n1 c1 D w hR hH n hv
  | true =>
    cases hw : isT T n with
    | false => exact Minutes_2 T a1 n1 c1 D w hR hH n hv hw
    | true =>
      by_cases hne : allT T = []
      · exact Minutes_3 T a1 n1 c1 D w hR hH n hv hw hne
      exact Minutes_ok T a1 n1 c1 D w hR hH n hv hw hne
end Go.Proofs.YtejgofaeafphjaaGreatDoor
namespace Go.Ti
open Go.W (gt gt_of)
def tillB (X : Till) : Bool := tksB X.tk && inB X.price 0 100 && inB X.fine 0 100 && inB X.wait 0 100
def entB (X : Till) (e : Ent) : Bool := isT X.tk e.ticket && inB e.kind 1 3
def tillE (X : Till) (l : List Ent) (is : Bool) : Int := if tillB X = false then 1 else if 20 < l.length then 3 else if is = false then 2 else if l.all (entB X) = false then 2 else 0
theorem tillE_1 {X : Till} {l : List Ent} {is : Bool} (h : tillB X = false) : tillE X l is = 1 := by unfold tillE; rw [if_pos h]
theorem tillE_3 {X : Till} {l : List Ent} {is : Bool} (h : tillB X = true) (h3 : 20 < l.length) : tillE X l is = 3 := by
  unfold tillE; rw [if_neg (by rw [h]; simp), if_pos h3]
theorem tillE_2 {X : Till} {l : List Ent} {is : Bool} (h : tillB X = true) (h3 : l.length ≤ 20) (hi : is = false) : tillE X l is = 2 := by
  unfold tillE; rw [if_neg (by rw [h]; simp), if_neg (by omega), if_pos hi]
theorem tillE_4 {X : Till} {l : List Ent} {is : Bool} (h : tillB X = true) (h3 : l.length ≤ 20) {k : Nat} (hk : k < l.length) (he : entB X (gt l k) = false) : tillE X l is = 2 := by
  have ha : l.all (entB X) = false := by
    rw [List.all_eq_false]
    exact ⟨gt l k, gt_mem hk, by rw [he]; simp⟩
  unfold tillE
  rw [if_neg (by rw [h]; simp), if_neg (by omega)]
  cases is <;> simp [ha]
theorem tillE_0 {X : Till} {l : List Ent} {is : Bool} (h : tillB X = true) (h3 : l.length ≤ 20) (hi : is = true) (ha : ∀ k, k < l.length → entB X (gt l k) = true) : tillE X l is = 0 := by
  unfold tillE
  rw [if_neg (by rw [h]; simp), if_neg (by omega), if_neg (by rw [hi]; simp), if_neg (by rw [all_iff.2 ha]; simp)]
theorem tillE_all {X : Till} {l : List Ent} {is : Bool} (h : tillE X l is = 0) : tillB X = true ∧ l.length ≤ 20 ∧ is = true ∧ ∀ k, k < l.length → entB X (gt l k) = true := by
  unfold tillE at h
  split at h
  · omega
  · split at h
    · omega
    · split at h
      · omega
      · split at h
        · omega
        · rename_i h1 h2 h3 h4
          exact ⟨by simpa using h1, by omega, by simpa using h3, all_iff.1 (by simpa using h4)⟩
theorem isT_neg (T : Tks) : isT T (-1) = false := decide_eq_false (by omega)
theorem tksE_neg (T : Tks) : tksE T (isT T (-1)) = if tksB T then 2 else 1 := by
  unfold tksE
  rw [isT_neg]
  cases tksB T <;> simp
theorem ent_kind {X : Till} {e : Ent} (h : entB X e = true) : ∃ a k : Nat, e.ticket = (a : Int) ∧ a < X.tk.l.length ∧ e.kind = (k : Int) ∧ 1 ≤ k ∧ k ≤ 3 := by
  unfold entB at h
  rw [Bool.and_eq_true] at h
  have h1 := of_decide_eq_true h.1
  have h2 := of_decide_eq_true h.2
  exact ⟨e.ticket.toNat, e.kind.toNat, by omega, by omega, by omega, by omega, by omega⟩
theorem tillB_num {X : Till} (h : tillB X = true) : tksB X.tk = true ∧ (0 ≤ X.price ∧ X.price ≤ 100) ∧ (0 ≤ X.fine ∧ X.fine ≤ 100) ∧ (0 ≤ X.wait ∧ X.wait ≤ 100) := by
  simp only [tillB, inB, Bool.and_eq_true, decide_eq_true_eq] at h
  exact ⟨h.1.1.1, h.1.1.2, h.1.2, h.2⟩
end Go.Ti
namespace Go.Proofs.YtejgofaeafphjaaGreatDoor
open Go.W Go.Ti
theorem SA156 : StructAt Tryz.prog 156 [.int .i64 0, .slice none 0 0, .int .i64 0, .int .i64 0, .int .i64 0] [(0, 5)] := ⟨⟨_, Tryz.zeroValue156, rfl⟩, _, Tryz.underlying156, fun w => by simp [Tryz.sizeOf26]⟩
@[reducible, instance] def ISA156 := SaF.mk SA156
def entC (e : Ent) : List Value := [it e.ticket, it e.kind, it e.pence]
theorem entC_len : ∀ e, (entC e).length = 3 := fun _ => rfl
structure BookR (D : Imm) (l : List Ent) (a : Option Addr) (n : Nat) : Prop where
  ent : SlL D 3 (l.map entC) a n
  len : n ≤ 1000
theorem BookR.ext {w : World} {D D' : Imm} (hD : DExt w D D') {l : List Ent} {a : Option Addr} {n : Nat} (h : BookR D l a n) : BookR D' l a n := ⟨h.ent.ext hD, h.len⟩
theorem BookR.nil (D : Imm) : BookR D [] none 0 := ⟨⟨rfl, fun i r hr => by simp at hr⟩, by omega⟩
def tillC (X : Till) (s1 : Value) : List Value := [it X.tk.huts, s1, it X.price, it X.fine, it X.wait]
def openT (X : Till) (v : Value) (E : Int) : Ending := if E = 0 then .returned v else .panicked (stopT E)
theorem openT_no {X : Till} {v : Value} {E F : Int} (h : E = F) (h0 : F ≠ 0) : Ending.panicked (stopT F) = openT X v E := by
  subst h; unfold openT; rw [if_neg h0]
theorem openT_ok {X : Till} {v : Value} {E : Int} (h : E = 0) : Ending.returned v = openT X v E := by
  unfold openT; rw [if_pos h]
theorem manyT_g (X : Till) (a1 : Option Addr) (n1 c1 : Nat) (w : World) : Gives Tryz.prog 146 [.agg #[it X.tk.huts, .slice a1 n1 c1, it X.price, it X.fine, it X.wait]] w (nt n1) := by
  unfold Gives
  refine en Tryz.func146 rfl Tryz.ntmps146 zI (g [[1],[1,0]] ?_)
  refine WL.so (SO.box rfl rfl) rfl (zw fun b1 hb1 => ?_)
  refine g [[4],[10,2,1]] ?_
  refine WP.ret1 rfl rfl rfl (RV.tmp rfl) (fun w hI => ⟨rfl, hI.keep⟩)
theorem isTickT_g (X : Till) (a1 : Option Addr) (n1 c1 : Nat) (n : Int) (w : World) (hn : n1 = X.tk.l.length) (hl : n1 ≤ 1000) : Gives Tryz.prog 183 [.agg #[it X.tk.huts, .slice a1 n1 c1, it X.price, it X.fine, it X.wait], it n] w (.bool (isT X.tk n)) := by
  unfold Gives
  refine en Tryz.func183 rfl Tryz.ntmps183 zI (g [[1],[1,0,1]] ?_)
  refine WL.so (SO.box rfl rfl) rfl (zw fun b2 hb2 => ?_)
  refine g [[4],[3,4,2,1]] ?_
  refine WL.cl rfl (fun w hI => manyT_g X a1 _ c1 _) (g [[1]] ?_)
  refine WL.cl rfl (fun w hI => withinT_g _ _ _ _) (g [[4]] ?_)
  refine WP.ret1 rfl rfl rfl (RV.tmp rfl) (fun w hI => ⟨ret_bool (by subst hn; rfl), hI.keep⟩)
theorem always_g (v : Value) (X : Till) (a1 : Option Addr) (n1 c1 : Nat) (w : World) : Gives Tryz.prog 98 [.agg #[it X.tk.huts, .slice a1 n1 c1, it X.price, it X.fine, it X.wait]] w (.bool true) := by
  unfold Gives
  refine en Tryz.func98 rfl Tryz.ntmps98 zI (g [[1],[1,0]] ?_)
  refine WL.so (SO.box rfl rfl) rfl (zw fun b1 hb1 => ?_)
  refine g [[4],[5,2]] ?_
  refine WP.ret1 rfl rfl rfl (RV.tmp rfl) (fun w hI => ⟨rfl, hI.keep⟩)
theorem openX_g (X : Till) (a1 : Option Addr) (n1 c1 : Nat) (D : Imm) (w : World) (hR : TksR D X.tk a1 n1) (hH : Holds D w) (l : List Ent) (ab : Option Addr) (nb cb : Nat) (hB : BookR D l ab nb) (fi : FuncId) (cp : List Value) (is : Bool) (hfi : ∀ args w, (callFunc fi args).run Tryz.prog w = .ok (.enter fi args) w) (hIs : ∀ w', Holds D w' → Gives Tryz.prog fi (.agg #[it X.tk.huts, .slice a1 n1 c1, it X.price, it X.fine, it X.wait] :: cp) w' (.bool is)) : Calls Tryz.prog 97 (List.toArray [.agg #[it X.tk.huts, .slice a1 n1 c1, it X.price, it X.fine, it X.wait], .slice ab nb cb, .func (.func fi) #[] cp.toArray]) w fun e w' => e = openT X (.agg #[it X.tk.huts, .slice a1 n1 c1, it X.price, it X.fine, it X.wait]) (tillE X l is) ∧ Keep [] w w' := by
  obtain rfl := hR.tick.len'
  have hl1 := hR.len
  obtain rfl := hB.ent.len'
  have hlb := hB.len
  have hTu : (TurnOut X.tk (-1)).2 = if tksB X.tk then 2 else 1 := by
    have h0 := tksE_neg X.tk
    unfold TurnOut
    rw [if_pos (by rw [h0]; cases tksB X.tk <;> simp)]
    exact h0
  refine en Tryz.func97 rfl Tryz.ntmps97 (Inv.start hH) (g [[1],[1,0,1,2]] ?_)
  refine WL.so (SO.box rfl rfl) rfl (zw fun b3 hb3 => ?_)
  refine WL.so (SO.alloc ZvF.h rfl) rfl (zw fun b6 hb6 => ?_)
  refine g [[3],[3,6,3,1,2]] ?_
  refine WL.so (SO.alloc ZvF.h rfl) rfl (zw fun b7 hb7 => ?_)
  refine g [[4],[3,7,6,3,1,2]] ?_
  refine WL.cl rfl (fun w hI => Turn_g X.tk a1 _ c1 D _ hR hI.imm (-1)) (g [[3]] ?_)
  refine WL.know 19 (it (if tksB X.tk then 2 else 1)) rfl (by rw [← hTu]; rfl) (g [[5],[4,9,7,6,3,1,2]] ?_)
  refine WL.part 22 rfl (fun g22 => ?_) (fun g22 => ?_)
  · try simp only [zq] at g22
    refine g [[2]] ?_
    refine WL.sog rfl (SO.callP CaF.h rfl (fun w hI => withinT_g _ _ _ _)) rfl (zs (g [[2]] ?_))
    refine WL.part 27 rfl (fun g27 => ?_) (fun g27 => ?_)
    · try simp only [zq] at g27
      refine g [[2]] ?_
      refine WL.sog rfl (SO.callP CaF.h rfl (fun w hI => withinT_g _ _ _ _)) rfl (zs (g [[2]] ?_))
      refine WL.part 32 rfl (fun g32 => ?_) (fun g32 => ?_)
      · try simp only [zq] at g32
        refine g [[2]] ?_
        refine WL.sog rfl (SO.callP CaF.h rfl (fun w hI => withinT_g _ _ _ _)) rfl (zs (g [[1]] ?_))
        refine WL.part 36 rfl (fun g36 => ?_) (fun g36 => ?_)
        · try simp only [zq] at g36
          refine WL.cl rfl (fun w hI => mustT_ok _ _) (g [[3],[1,7,6,1,2]] ?_)
          have hb1 : tillB X = true := by simp [tillB]; simp_all
          refine g [[3]] ?_
          refine WL.part 40 rfl (fun g40 => ?_) (fun g40 => ?_)
          · try simp only [zq] at g40
            refine WL.cl rfl (fun w hI => mustT_ok _ _) (g [[3],[3,7,6,1,2]] ?_)
            refine WL.so (SO.call (Enters.val hfi rfl rfl) (fun w hI => hIs _ hI.imm)) rfl (zs ?_)
            refine WL.part 44 rfl (fun g44 => ?_) (fun g44 => ?_)
            · try simp only [zq] at g44
              refine WL.cl rfl (fun w hI => mustT_ok _ _) (g [[4],[7,7,6,1]] ?_)
              refine WC.loopF (fun k : Nat => [(6, pt b6), (7, pt b7), (46, .slice ab l.length cb), (47, nt l.length), (48, nt k)]) (fun k => k ≤ l.length ∧ ∀ i, i < k → entB X (gt l i) = true) (fun k => l.length - k) 0 ⟨by omega, by intro i hi; omega⟩ ⟨rfl, rfl, rfl, rfl, rfl, trivial⟩ ?_
              intro k ⟨hk, hd⟩
              refine g [[1],[5,6,7,46,47,48]] ?_
              refine WC.cond rfl (fun c49 => ?_) (fun c49 => ?_)
              · try simp only [zq] at c49
                have hkl : k < l.length := by omega
                refine g [[5],[1,6,7,46,47,48]] ?_
                refine WL.yd (Yd.ix rfl rfl (hB.ent.addr k (by omega))) rfl (WL.yd (Yd.lV [_, _, _] rfl ((hB.ent.at k (by omega)).rdn 0 3 rfl)) rfl ?_)
                refine WL.so (SO.alloc ZvF.h rfl) rfl (zw fun b11 hb11 => ?_)
                refine g [[3],[4,11,6,7,46,47,48]] ?_
                refine WL.cl rfl (fun w hI => isTickT_g X a1 _ c1 _ _ rfl hl1) (g [[1]] ?_)
                refine WL.part 56 rfl (fun g56 => ?_) (fun g56 => ?_)
                · try simp only [zq] at g56
                  refine g [[2]] ?_
                  refine WL.sog rfl (SO.callP CaF.h rfl (fun w hI => withinT_g _ _ _ _)) rfl (zs (g [[1]] ?_))
                  refine WL.part 60 rfl (fun g60 => ?_) (fun g60 => ?_)
                  · try simp only [zq] at g60
                    refine WL.cl rfl (fun w hI => mustT_ok _ _) (g [[3],[4,6,7,46,47,48]] ?_)
                    exact WP.againF (k + 1) ⟨by omega, ext_round hd (by simp [entB]; simp_all)⟩ (by omega) ⟨rfl, rfl, rfl, rfl, rfl, trivial⟩ (fun _ h => List.mem_cons_of_mem _ h) (fun h => (List.nodup_cons.1 h).2)
                  try simp only [zq] at g60
                  refine WL.nf rfl (fun w hI => mustT_no _ _) (g [[5]] ?_)
                  refine WP.panicBody rfl (fun w hI => ⟨?_, hI.keep⟩)
                  first
                    | exact openT_no (tillE_3 hb1 (by omega)) (by decide)
                    | exact openT_no (tillE_2 hb1 (by omega) g44) (by decide)
                    | exact openT_no (tillE_4 hb1 (by omega) hkl (by simp [entB]; simp_all)) (by decide)
                    | exact openT_no (tillE_1 (by cases hbb : tillB X with
                        | false => rfl
                        | true => simp [tillB] at hbb; simp_all)) (by decide)
                try simp only [zq] at g56
                refine g [[4]] ?_
                refine WL.nf rfl (fun w hI => mustT_no _ _) (g [[5]] ?_)
                refine WP.panicBody rfl (fun w hI => ⟨?_, hI.keep⟩)
                first
                  | exact openT_no (tillE_3 hb1 (by omega)) (by decide)
                  | exact openT_no (tillE_2 hb1 (by omega) g44) (by decide)
                  | exact openT_no (tillE_4 hb1 (by omega) hkl (by simp [entB]; simp_all)) (by decide)
                  | exact openT_no (tillE_1 (by cases hbb : tillB X with
                      | false => rfl
                      | true => simp [tillB] at hbb; simp_all)) (by decide)
              try simp only [zq] at c49
              obtain rfl : k = l.length := by omega
              refine g [[6],[6,6,7]] ?_
              refine WP.ret1 rfl rfl rfl (RV.cellN AgF.h SzF.h rfl (vs := [_, _, _, _, _]) rfl (RdN.own (k := 1) (n := 5) rfl rfl)) (fun w hI => ⟨openT_ok (tillE_0 hb1 (by omega) g44 hd), hI.keep⟩)
            try simp only [zq] at g44
            refine WL.nf rfl (fun w hI => mustT_no _ _) (g [[1]] ?_)
            refine WP.panicBody rfl (fun w hI => ⟨?_, hI.keep⟩)
            first
              | exact openT_no (tillE_3 hb1 (by omega)) (by decide)
              | exact openT_no (tillE_2 hb1 (by omega) g44) (by decide)
              | exact openT_no (tillE_4 hb1 (by omega) hkl (by simp [entB]; simp_all)) (by decide)
              | exact openT_no (tillE_1 (by cases hbb : tillB X with
                  | false => rfl
                  | true => simp [tillB] at hbb; simp_all)) (by decide)
          try simp only [zq] at g40
          refine WL.nf rfl (fun w hI => mustT_no _ _) (g [[1]] ?_)
          refine WP.panicBody rfl (fun w hI => ⟨?_, hI.keep⟩)
          first
            | exact openT_no (tillE_3 hb1 (by omega)) (by decide)
            | exact openT_no (tillE_2 hb1 (by omega) g44) (by decide)
            | exact openT_no (tillE_4 hb1 (by omega) hkl (by simp [entB]; simp_all)) (by decide)
            | exact openT_no (tillE_1 (by cases hbb : tillB X with
                | false => rfl
                | true => simp [tillB] at hbb; simp_all)) (by decide)
        try simp only [zq] at g36
        refine WL.nf rfl (fun w hI => mustT_no _ _) (g [[1]] ?_)
        refine WP.panicBody rfl (fun w hI => ⟨?_, hI.keep⟩)
        first
          | exact openT_no (tillE_3 hb1 (by omega)) (by decide)
          | exact openT_no (tillE_2 hb1 (by omega) g44) (by decide)
          | exact openT_no (tillE_4 hb1 (by omega) hkl (by simp [entB]; simp_all)) (by decide)
          | exact openT_no (tillE_1 (by cases hbb : tillB X with
              | false => rfl
              | true => simp [tillB] at hbb; simp_all)) (by decide)
      try simp only [zq] at g32
      refine g [[4]] ?_
      refine WL.nf rfl (fun w hI => mustT_no _ _) (g [[1]] ?_)
      refine WP.panicBody rfl (fun w hI => ⟨?_, hI.keep⟩)
      first
        | exact openT_no (tillE_3 hb1 (by omega)) (by decide)
        | exact openT_no (tillE_2 hb1 (by omega) g44) (by decide)
        | exact openT_no (tillE_4 hb1 (by omega) hkl (by simp [entB]; simp_all)) (by decide)
        | exact openT_no (tillE_1 (by cases hbb : tillB X with
            | false => rfl
            | true => simp [tillB] at hbb; simp_all)) (by decide)
    try simp only [zq] at g27
    refine g [[9]] ?_
    refine WL.nf rfl (fun w hI => mustT_no _ _) (g [[1]] ?_)
    refine WP.panicBody rfl (fun w hI => ⟨?_, hI.keep⟩)
    first
      | exact openT_no (tillE_3 hb1 (by omega)) (by decide)
      | exact openT_no (tillE_2 hb1 (by omega) g44) (by decide)
      | exact openT_no (tillE_4 hb1 (by omega) hkl (by simp [entB]; simp_all)) (by decide)
      | exact openT_no (tillE_1 (by cases hbb : tillB X with
          | false => rfl
          | true => simp [tillB] at hbb; simp_all)) (by decide)
  try simp only [zq] at g22
  refine g [[14]] ?_
  refine WL.nf rfl (fun w hI => mustT_no _ _) (g [[1]] ?_)
  refine WP.panicBody rfl (fun w hI => ⟨?_, hI.keep⟩)
  first
    | exact openT_no (tillE_3 hb1 (by omega)) (by decide)
    | exact openT_no (tillE_2 hb1 (by omega) g44) (by decide)
    | exact openT_no (tillE_4 hb1 (by omega) hkl (by simp [entB]; simp_all)) (by decide)
    | exact openT_no (tillE_1 (by cases hbb : tillB X with
        | false => rfl
        | true => simp [tillB] at hbb; simp_all)) (by decide)
end Go.Proofs.YtejgofaeafphjaaGreatDoor
namespace Go.Ti
open Go.W (gt gt_of)
theorem tksE_zero {T : Tks} {is : Bool} (h : tksE T is = 0) : tksB T = true ∧ is = true ∧ allT T ≠ [] := by
  unfold tksE at h
  split at h
  · omega
  · split at h
    · omega
    · split at h
      · omega
      · rename_i h1 h2 h3
        exact ⟨by simpa using h1, by simpa using h2, fun e => h3 (by rw [e]; rfl)⟩
theorem sol_num {T : Tks} (hv : tksB T = true) {t : Tru} (h : t ∈ allT T) {i : Nat} (hi : i < T.l.length) :
    (0 ≤ (t i).1 ∧ (t i).1 ≤ 240) ∧ (0 ≤ (t i).2 ∧ (t i).2 ≤ 240) ∧ (t i).1 ≤ (t i).2 := by
  have h1 := pairP_iff.1 ((mem_allT.1 h).pair i hi)
  have h2 := (tks_num hv).2.2 i hi
  omega
theorem isT_lt {T : Tks} {n : Int} (h : isT T n = true) : n.toNat < T.l.length ∧ n = (n.toNat : Int) := by
  have := of_decide_eq_true h
  omega
theorem minutes_num (T : Tks) (n : Int) : (0 ≤ (MinutesOut T n).1.lo ∧ (MinutesOut T n).1.lo ≤ (MinutesOut T n).1.hi ∧ (MinutesOut T n).1.hi ≤ 240) ∧ (0 ≤ (MinutesOut T n).2.1.lo ∧ (MinutesOut T n).2.1.lo ≤ (MinutesOut T n).2.1.hi ∧ (MinutesOut T n).2.1.hi ≤ 240) ∧ (MinutesOut T n).1.lo ≤ (MinutesOut T n).2.1.hi := by
  unfold MinutesOut
  split
  · simp
  · rename_i h
    obtain ⟨hv, hi, hne⟩ := tksE_zero (T := T) (is := isT T n) (by omega)
    have hlt := (isT_lt hi).1
    obtain ⟨⟨t1, m1, e1⟩, ⟨t2, m2, e2⟩, h1⟩ := spanS_spec (fun t => (t n.toNat).1) hne
    obtain ⟨⟨t3, m3, e3⟩, ⟨t4, m4, e4⟩, h2⟩ := spanS_spec (fun t => (t n.toNat).2) hne
    have a1 := sol_num hv m1 hlt
    have a2 := sol_num hv m2 hlt
    have a3 := sol_num hv m3 hlt
    have a4 := sol_num hv m4 hlt
    have b1 := h1 t1 m1
    have b2 := h2 t1 m1
    have b4 := h2 t4 m4
    simp only at *
    omega
def waitsSp (T : Tks) (n : Int) : Sp := ⟨max 0 ((MinutesOut T n).2.1.lo - (MinutesOut T n).1.hi) / 10, ((MinutesOut T n).2.1.hi - (MinutesOut T n).1.lo) / 10⟩
theorem waits_num (T : Tks) (n : Int) : 0 ≤ (waitsSp T n).lo ∧ (waitsSp T n).lo ≤ 24 ∧ 0 ≤ (waitsSp T n).hi ∧ (waitsSp T n).hi ≤ 24 := by
  have := minutes_num T n
  unfold waitsSp
  simp only
  omega
def priceSp (X : Till) : Sp := ⟨X.price, X.price⟩
def fineSp (X : Till) (n : Int) : Sp := ⟨if (TurnOut X.tk n).1 ≠ 0 then 0 else X.fine, if (TurnOut X.tk n).1 = 2 then 0 else X.fine⟩
def backSp (X : Till) (n : Int) : Sp := ⟨X.wait * (waitsSp X.tk n).lo, X.wait * (waitsSp X.tk n).hi⟩
def priceCan (X : Till) (n m : Int) : Bool := decide (m = X.price) && isT X.tk n
def fineCan (X : Till) (n m : Int) : Bool := decide ((TurnOut X.tk n).1 ≠ 2) && (decide (m = X.fine) && isT X.tk n)
def backCan (X : Till) (n m : Int) : Bool := (rng (waitsSp X.tk n).lo (waitsSp X.tk n).hi).any fun k => decide (k * X.wait = m)
def spanOf (X : Till) (n : Int) : Nat → Sp
  | 1 => priceSp X
  | 2 => fineSp X n
  | _ => backSp X n
def canOf (X : Till) (n m : Int) : Nat → Bool
  | 1 => priceCan X n m
  | 2 => fineCan X n m
  | _ => backCan X n m
theorem mul_100 {a k : Int} (ha : 0 ≤ a ∧ a ≤ 100) (hk : 0 ≤ k ∧ k ≤ 24) : 0 ≤ a * k ∧ a * k ≤ 2400 := by
  refine ⟨Int.mul_nonneg ha.1 hk.1, ?_⟩
  have h1 : a * k ≤ 100 * k := Int.mul_le_mul_of_nonneg_right ha.2 hk.1
  omega
def TakingsOut (X : Till) : Int × Int := if tillB X = false then (0, 1) else (X.price * X.tk.l.length, 0)
def toldE (X : Till) (l : List Ent) : Int := if tillE X l true ≠ 0 then tillE X l true else tksE X.tk true
end Go.Ti
namespace Go.Proofs.YtejgofaeafphjaaGreatDoor
open Go.W Go.Ti
theorem SA321 : StructAt Tryz.prog 321 [] [] := ⟨⟨_, Tryz.zeroValue321, rfl⟩, _, Tryz.underlying321, fun w => by simp []⟩
@[reducible, instance] def ISA321 := SaF.mk SA321
theorem SA323 : StructAt Tryz.prog 323 [] [(0, 0)] := ⟨⟨_, Tryz.zeroValue323, rfl⟩, _, Tryz.underlying323, fun w => by simp [Tryz.sizeOf321]⟩
@[reducible, instance] def ISA323 := SaF.mk SA323
theorem SA324 : StructAt Tryz.prog 324 [] [] := ⟨⟨_, Tryz.zeroValue324, rfl⟩, _, Tryz.underlying324, fun w => by simp []⟩
@[reducible, instance] def ISA324 := SaF.mk SA324
def kindsV : Value := .agg #[.nilIface, .iface 321 (.agg #[]), .iface 323 (.agg #[]), .iface 324 (.agg #[])]
theorem told_ok (X : Till) (a1 : Option Addr) (n1 c1 : Nat) (D : Imm) (w : World) (hR : TksR D X.tk a1 n1) (hH : Holds D w) (h : (WaitsOut X.tk).2 = 0) : Gives Tryz.prog 99 [.agg #[it X.tk.huts, .slice a1 n1 c1, it X.price, it X.fine, it X.wait]] w (.agg #[it X.tk.huts, .slice a1 n1 c1, it X.price, it X.fine, it X.wait]) := by
  unfold Gives
  obtain rfl := hR.tick.len'
  have hl1 := hR.len
  refine en Tryz.func99 rfl Tryz.ntmps99 (Inv.start hH) (g [[1],[1,0]] ?_)
  refine WL.so (SO.box rfl rfl) rfl (zw fun b1 hb1 => ?_)
  refine WL.so (SO.alloc ZvF.h rfl) rfl (zw fun b2 hb2 => ?_)
  refine g [[3],[4,2,1]] ?_
  refine WL.cl rfl (fun w hI => Waits_g X.tk a1 _ c1 D _ hR hI.imm) (g [[3]] ?_)
  refine WL.so (SO.alloc ZvF.h rfl) rfl (zw fun b3 hb3 => ?_)
  refine g [[5],[4,4,2,1]] ?_
  refine WL.part 13 rfl (fun g13 => ?_) (fun g13 => ?_)
  · try simp only [zq] at g13
    refine WL.cl rfl (fun w hI => mustT_ok _ _) (g [[3],[6,2,1]] ?_)
    refine WP.ret1 rfl rfl rfl (RV.cellN AgF.h SzF.h rfl (vs := [_, _, _, _, _]) rfl (RdN.own (k := 1) (n := 5) rfl rfl)) (fun w hI => ⟨rfl, hI.keep⟩)
  try simp only [zq] at g13
  exact (g13 h).elim
theorem told_no (X : Till) (a1 : Option Addr) (n1 c1 : Nat) (D : Imm) (w : World) (hR : TksR D X.tk a1 n1) (hH : Holds D w) (h : (WaitsOut X.tk).2 ≠ 0) : Fails Tryz.prog 99 [.agg #[it X.tk.huts, .slice a1 n1 c1, it X.price, it X.fine, it X.wait]] w (stopT (WaitsOut X.tk).2) := by
  unfold Fails
  obtain rfl := hR.tick.len'
  have hl1 := hR.len
  refine en Tryz.func99 rfl Tryz.ntmps99 (Inv.start hH) (g [[1],[1,0]] ?_)
  refine WL.so (SO.box rfl rfl) rfl (zw fun b1 hb1 => ?_)
  refine WL.so (SO.alloc ZvF.h rfl) rfl (zw fun b2 hb2 => ?_)
  refine g [[3],[4,2,1]] ?_
  refine WL.cl rfl (fun w hI => Waits_g X.tk a1 _ c1 D _ hR hI.imm) (g [[3]] ?_)
  refine WL.so (SO.alloc ZvF.h rfl) rfl (zw fun b3 hb3 => ?_)
  refine g [[5],[4,4,2,1]] ?_
  refine WL.part 13 rfl (fun g13 => ?_) (fun g13 => ?_)
  · try simp only [zq] at g13
    exact (h g13).elim
  try simp only [zq] at g13
  refine WL.nf rfl (fun w hI => mustT_no _ _) (g [[1]] ?_)
  refine WP.panicBody rfl (fun w hI => ⟨rfl, hI.keep⟩)
theorem kinds_g (w : World) : Gives Tryz.prog 186 [] w kindsV := by
  unfold Gives
  refine en Tryz.func186 rfl Tryz.ntmps186 zI (g [[1]] ?_)
  refine WC.ofFr [] trivial (g [[1]] ?_)
  refine WL.so (SO.alloc ZvF.h rfl) rfl (zw fun b0 hb0 => ?_)
  refine g [[3],[7,0]] ?_
  refine WL.yd (Yd.buildA (zs := [.nilIface, .nilIface, .nilIface, .nilIface]) ⟨_, ZvF.h, rfl⟩ UnF.h SzF.h rfl (cs := [_, _, _, _]) rfl) rfl (g [[4]] ?_)
  refine WP.ret1 rfl rfl rfl (RV.cellN AgF.h SzF.h rfl (vs := [_, _, _, _]) rfl (RdN.own (k := 0) (n := 4) rfl rfl)) (fun w hI => ⟨rfl, hI.keep⟩)
theorem priceCan_g (X : Till) (a1 : Option Addr) (n1 c1 : Nat) (n m : Int) (w : World) (hn : n1 = X.tk.l.length) (hl1 : n1 ≤ 1000) : Gives Tryz.prog 343 [.agg #[], .agg #[it X.tk.huts, .slice a1 n1 c1, it X.price, it X.fine, it X.wait], it n, it m] w (.bool (priceCan X n m)) := by
  unfold Gives
  subst hn
  refine en Tryz.func343 rfl Tryz.ntmps343 zI (g [[1],[1,0,1,2,3]] ?_)
  refine WL.so (SO.box rfl rfl) rfl (zw fun b4 hb4 => ?_)
  refine WL.so (SO.box rfl rfl) rfl (zw fun b5 hb5 => ?_)
  refine g [[4],[7,8,5,2,3]] ?_
  refine WL.part 14 rfl (fun g14 => ?_) (fun g14 => ?_)
  · try simp only [zq] at g14
    refine g [[2]] ?_
    refine WL.sog rfl (SO.callP CaF.h rfl (fun w hI => isTickT_g X a1 _ c1 n _ rfl hl1)) rfl (zs (g [[5]] ?_))
    refine WP.ret1 rfl rfl rfl (RV.tmp rfl) (fun w hI => ⟨ret_bool (by unfold priceCan; simp_all), hI.keep⟩)
  try simp only [zq] at g14
  refine g [[8]] ?_
  refine WP.ret1 rfl rfl rfl (RV.tmp rfl) (fun w hI => ⟨ret_bool (by unfold priceCan; simp_all), hI.keep⟩)
theorem fineCan_g (X : Till) (a1 : Option Addr) (n1 c1 : Nat) (D : Imm) (w : World) (hR : TksR D X.tk a1 n1) (hH : Holds D w) (n m : Int) : Gives Tryz.prog 345 [.agg #[], .agg #[it X.tk.huts, .slice a1 n1 c1, it X.price, it X.fine, it X.wait], it n, it m] w (.bool (fineCan X n m)) := by
  unfold Gives
  obtain rfl := hR.tick.len'
  have hl1 := hR.len
  refine en Tryz.func345 rfl Tryz.ntmps345 (Inv.start hH) (g [[1],[1,0,1,2,3]] ?_)
  refine WL.so (SO.box rfl rfl) rfl (zw fun b4 hb4 => ?_)
  refine WL.so (SO.box rfl rfl) rfl (zw fun b5 hb5 => ?_)
  refine g [[4],[5,8,5,4,2,3]] ?_
  refine WL.cl rfl (fun w hI => Turn_g X.tk a1 _ c1 D _ hR hI.imm n) (g [[8],[2,9,8,5,4,2,3]] ?_)
  refine WL.so (SO.alloc ZvF.h rfl) rfl (zw fun b11 hb11 => ?_)
  refine g [[4],[10,11,9,8,5,4,2,3],[4,11,9,8,4,2,3]] ?_
  refine WL.part 28 rfl (fun g28 => ?_) (fun g28 => ?_)
  · try simp only [zq] at g28
    refine WL.ydg rfl (Yd.fieldZ 2 rfl Tryz.underlying323 rfl Tryz.sizeOf321 zk rfl) rfl (g [[4]] ?_)
    refine WL.sog rfl (SO.callP CaF.h rfl (fun w hI => priceCan_g { X with price := X.fine } a1 _ c1 n m _ rfl hl1)) rfl (zs (g [[5]] ?_))
    refine WP.ret1 rfl rfl rfl (RV.tmp rfl) (fun w hI => ⟨ret_bool (by simp_all [fineCan, priceCan]), hI.keep⟩)
  try simp only [zq] at g28
  refine g [[11]] ?_
  refine WP.ret1 rfl rfl rfl (RV.tmp rfl) (fun w hI => ⟨ret_bool (by simp_all [fineCan, priceCan]), hI.keep⟩)
theorem waitsB_g (X : Till) (a1 : Option Addr) (n1 c1 : Nat) (D : Imm) (w : World) (hR : TksR D X.tk a1 n1) (hH : Holds D w) (n : Int) : Gives Tryz.prog 349 [.agg #[], .agg #[it X.tk.huts, .slice a1 n1 c1, it X.price, it X.fine, it X.wait], it n] w (spV (waitsSp X.tk n)) := by
  unfold Gives
  obtain rfl := hR.tick.len'
  have hl1 := hR.len
  have hmn := minutes_num X.tk n
  refine en Tryz.func349 rfl Tryz.ntmps349 (Inv.start hH) (g [[1],[1,0,1,2]] ?_)
  refine WL.so (SO.box rfl rfl) rfl (zw fun b3 hb3 => ?_)
  refine WL.so (SO.box rfl rfl) rfl (zw fun b4 hb4 => ?_)
  refine WL.so (SO.alloc ZvF.h rfl) rfl (zw fun b6 hb6 => ?_)
  refine g [[3],[5,6,4,2]] ?_
  refine WL.cl rfl (fun w hI => Minutes_g X.tk a1 _ c1 D _ hR hI.imm n) (g [[4]] ?_)
  refine WL.so (SO.alloc ZvF.h rfl) rfl (zw fun b7 hb7 => ?_)
  refine WL.so (SO.alloc ZvF.h rfl) rfl (zw fun b8 hb8 => ?_)
  refine g [[6],[5,8,7,6]] ?_
  refine WL.know 20 (it (MinutesOut X.tk n).2.1.lo) rfl rfl (WL.know 22 (it (MinutesOut X.tk n).1.hi) rfl rfl (g [[1]] ?_))
  refine WL.yd (Yd.max2 rfl rfl) rfl (WL.yd (Yd.quo rfl rfl (by omega) (by omega) (wr64 ⟨by omega, by omega⟩)) rfl (g [[4]] ?_))
  refine WL.know 27 (it (MinutesOut X.tk n).2.1.hi) rfl rfl (WL.know 29 (it (MinutesOut X.tk n).1.lo) rfl rfl (g [[1]] ?_))
  refine WL.yd (Yd.quo rfl rfl (by omega) (by omega) (wr64 ⟨by omega, by omega⟩)) rfl (g [[5]] ?_)
  refine WP.ret1 rfl rfl rfl (RV.cellN AgF.h SzF.h rfl (vs := [_, _]) rfl (RdN.own (k := 2) (n := 2) rfl rfl)) (fun w hI => ⟨rfl, hI.keep⟩)
theorem times_g (p n : Int) (w : World) (h : -9000000000 ≤ p * n ∧ p * n ≤ 9000000000) : Gives Tryz.prog 105 [it p, it n] w (it (p * n)) := by
  unfold Gives
  refine en Tryz.func105 rfl Tryz.ntmps105 zI (g [[1],[5,0,1],[8,4,0,1]] ?_)
  refine WP.ret1 rfl rfl rfl (RV.tmp rfl) (fun w hI => ⟨rfl, hI.keep⟩)
theorem and_g (p n : Int) (w : World) (h : -9000000000 ≤ p + n ∧ p + n ≤ 9000000000) : Gives Tryz.prog 187 [it p, it n] w (it (p + n)) := by
  unfold Gives
  refine en Tryz.func187 rfl Tryz.ntmps187 zI (g [[1],[5,0,1],[8,4,0,1]] ?_)
  refine WP.ret1 rfl rfl rfl (RV.tmp rfl) (fun w hI => ⟨rfl, hI.keep⟩)
theorem backCan_g (X : Till) (a1 : Option Addr) (n1 c1 : Nat) (D : Imm) (w : World) (hR : TksR D X.tk a1 n1) (hH : Holds D w) (hbt : tillB X = true) (n m : Int) : Gives Tryz.prog 347 [.agg #[], .agg #[it X.tk.huts, .slice a1 n1 c1, it X.price, it X.fine, it X.wait], it n, it m] w (.bool (backCan X n m)) := by
  unfold Gives
  obtain rfl := hR.tick.len'
  have hl1 := hR.len
  have hwt := (tillB_num hbt).2.2.2
  have hwn := waits_num X.tk n
  refine en Tryz.func347 rfl Tryz.ntmps347 (Inv.start hH) (g [[1],[1,0,1,2,3]] ?_)
  refine WL.so (SO.box rfl rfl) rfl (zw fun b4 hb4 => ?_)
  refine WL.so (SO.box rfl rfl) rfl (zw fun b5 hb5 => ?_)
  refine g [[4],[4,8,5,4,2,3]] ?_
  refine WL.cl rfl (fun w hI => waitsB_g X a1 _ c1 D _ hR hI.imm n) ?_
  refine WL.so (SO.alloc ZvF.h rfl) rfl (zw fun b9 hb9 => ?_)
  refine g [[5],[7,9,8,5,3]] ?_
  refine WC.loopF (fun i : Nat => [(3, it m), (5, pt b5), (9, pt b9), (10, it ((waitsSp X.tk n).lo + ((i : Nat) : Int)))]) (fun i => i ≤ ((waitsSp X.tk n).hi - (waitsSp X.tk n).lo + 1).toNat ∧ ∀ j : Nat, j < i → ¬ ((waitsSp X.tk n).lo + (j : Int)) * X.wait = m) (fun i => ((waitsSp X.tk n).hi - (waitsSp X.tk n).lo + 1).toNat - i) 0 ⟨by omega, by intro j hj; omega⟩ ⟨rfl, rfl, rfl, by show some (it _) = some (it _); congr 2; push_cast; omega, trivial⟩ ?_
  intro i ⟨hi, hd⟩
  refine g [[2],[7,3,5,9,10]] ?_
  refine WC.cond rfl (fun c20 => ?_) (fun c20 => ?_)
  · try simp only [zq] at c20
    have hmm : 0 ≤ ((waitsSp X.tk n).lo + (i : Int)) * X.wait ∧ ((waitsSp X.tk n).lo + (i : Int)) * X.wait ≤ 2400 := by rw [Int.mul_comm]; exact mul_100 hwt (by omega)
    refine g [[5],[5,3,5,9,10]] ?_
    refine WL.know 26 (it X.wait) rfl rfl (g [[5]] ?_)
    refine WC.cond rfl (fun c29 => ?_) (fun c29 => ?_)
    · try simp only [zq] at c29
      refine g [[1],[10,3,5,9,10]] ?_
      refine WP.ret1 rfl rfl rfl (RV.tmp rfl) (fun w hI => ⟨ret_bool (Eq.symm (List.any_eq_true.2 ⟨_, mem_rng.2 ⟨by omega, by omega⟩, decide_eq_true c29⟩)), hI.keep⟩)
    try simp only [zq] at c29
    refine g [[3],[5,3,5,9,10]] ?_
    exact WP.againF (i + 1) ⟨by omega, ext_round hd c29⟩ (by omega) ⟨rfl, rfl, rfl, by show some (it _) = some (it _); congr 2; push_cast; omega, trivial⟩ (fun _ h => h) (fun h => h)
  try simp only [zq] at c20
  refine g [[6]] ?_
  refine WC.ofFr [] trivial (g [[5]] ?_)
  refine WP.ret1 rfl rfl rfl (RV.tmp rfl) (fun w hI => ⟨ret_bool (Eq.symm (by
    unfold backCan
    rw [List.any_eq_false]
    intro k hk
    have h1 := mem_rng.1 hk
    have h2 := hd (k - (waitsSp X.tk n).lo).toNat (by omega)
    rw [show (waitsSp X.tk n).lo + (((k - (waitsSp X.tk n).lo).toNat : Nat) : Int) = k by omega] at h2
    simpa using h2)), hI.keep⟩)
end Go.Proofs.YtejgofaeafphjaaGreatDoor
namespace Go.Proofs.YtejgofaeafphjaaGreatDoor
open Go.W Go.Ti
def intC (x : Int) : List Value := [it x]
theorem intC_len : ∀ x, (intC x).length = 1 := fun _ => rfl
theorem int_flat (f : Nat → Int) (n : Nat) : ((List.range n).map f).flatMap intC = (List.range n).map fun i => it (f i) := by
  rw [List.flatMap_map]
  induction n with
  | zero => rfl
  | succ n ih => rw [List.range_succ, List.flatMap_append, List.map_append, ih]; rfl
theorem range_step {α : Type} (f : Nat → α) (k : Nat) : (List.range (k + 1)).map f = (List.range k).map f ++ [f k] := by rw [List.range_succ, List.map_append]; rfl
theorem sum_take {l : List Int} {k : Nat} (hk : k < l.length) : (l.take (k + 1)).sum = (l.take k).sum + gt l k := by
  have hg : gt l k = l[k] := by simp [gt, List.getD, hk]
  rw [List.take_succ_eq_append_getElem hk, List.sum_append, hg]
  simp
theorem sum_bound {l : List Int} (h : ∀ k, k < l.length → -100000 ≤ gt l k ∧ gt l k ≤ 100000) : ∀ k, k ≤ l.length → -100000 * (k : Int) ≤ (l.take k).sum ∧ (l.take k).sum ≤ 100000 * (k : Int) := by
  intro k
  induction k with
  | zero => intro _; simp
  | succ k ih =>
    intro hk
    have h1 := ih (by omega)
    have h2 := h k (by omega)
    rw [sum_take (by omega)]
    omega
theorem sum_const (p : Int) (n : Nat) : ((List.range n).map fun _ => p).sum = p * n := by
  induction n with
  | zero => simp
  | succ n ih =>
    rw [range_step, List.sum_append, ih]
    simp [Int.mul_add]
theorem foundP_g (n : Nat) (hn : n ≤ 1000) (fi : FuncId) (cp : List Value) (f : Nat → Int) (D : Imm) (w : World) (hH : Holds D w) (hfi : ∀ args w, (callFunc fi args).run Tryz.prog w = .ok (.enter fi args) w) (hF : ∀ i, i < n → ∀ w', Holds D w' → Gives Tryz.prog fi (nt i :: cp) w' (it (f i))) : Makes Tryz.prog 103 [nt n, .agg #[.func (.func fi) #[] cp.toArray]] w D (fun v D' => ∃ a c, v = .slice a n c ∧ SlL D' 1 (((List.range n).map f).map intC) a n) := by
  unfold Makes
  refine en Tryz.func103 rfl Tryz.ntmps103 (Inv.start hH) (g [[1],[1,0,1]] ?_)
  refine WL.so (SO.box rfl rfl) rfl (zw fun b3 hb3 => ?_)
  refine g [[5],[6,4,3,0]] ?_
  refine WC.loopT [_] (fun y : Nat × Option Ow => [(3, pt b3), (4, owV y.2 y.1), (6, nt n), (7, nt y.1)]) (fun y => owH y.2 161 ((List.range y.1).map fun i => it (f i)) []) (fun y => y.1 ≤ n ∧ owP w y.2 y.1 1) (fun y => n - y.1) (0, none) ⟨by omega, rfl⟩ rfl ⟨rfl, rfl, rfl, rfl, trivial⟩ ?_
  rintro ⟨k, o⟩ ⟨hk, ho⟩
  dsimp only at hk ho
  refine g [[1],[5,3,4,6,7]] ?_
  refine WC.cond rfl (fun c8 => ?_) (fun c8 => ?_)
  · try simp only [zq] at c8
    have hkn : k < n := by omega
    refine g [[5],[5,3,4,6,7],[5,5,3,4,6,7]] ?_
    refine WL.so (SO.call (Enters.val hfi rfl rfl) (fun w hI => hF k hkn _ hI.imm)) rfl (zs ?_)
    refine WL.so (SO.buildSlice UnF.h SzF.h ZvF.h rfl rfl rfl rfl (cs := [_]) rfl) rfl ?_
    rintro _ _ _ ⟨b15, hb15, rfl, rfl, rfl⟩
    refine WL.so (SO.appendOw (o := o) (len := k) (n := 1) (xs := ((List.range k).map fun i => it (f i))) (size := 1) [_] [_] [] rfl rfl Tryz.underlying163 Tryz.sizeOf161 Tryz.typeInfo161 Tryz.zeroValue161 rfl rfl rfl rfl ⟨rfl, .inr ⟨_, _, _, rfl, RdN.own (k := 0) (n := 1) rfl rfl⟩⟩ (oneB_spec rfl) ho (by simp) (by omega) (by show (2 * (_ + _) + 1000) * 8 ≤ 2 ^ 48; omega) (by omega)) rfl ?_
    rintro _ _ _ ⟨u1, hu1, rfl, rfl, rfl⟩
    refine g [[4],[4,4,3,6,7]] ?_
    exact WP.againT (⟨k + 1, some u1⟩ : Nat × Option Ow) ⟨by simp only; omega, hu1⟩ (by simp only; omega) [] _ rfl (by show _ = _ ++ owH (some u1) _ ((List.range (k + 1)).map fun i => it (f i)) []; rw [range_step]; rfl) ⟨rfl, rfl, rfl, rfl, trivial⟩
  try simp only [zq] at c8
  obtain rfl : k = n := by omega
  refine g [[6],[1,4]] ?_
  refine WL.freezeOw (f := intC) (m := 1) intC_len [_] [] o 161 ((List.range k).map f) rfl (by simpa using ho) (by rw [int_flat]) (fun D2 hX2 hS2 => ?_)
  rw [List.length_map, List.length_range] at hS2
  refine g [[5]] ?_
  refine WP.ret1 rfl rfl rfl (RV.tmp rfl) (fun w1 hI => ⟨_, D2, rfl, hI.keep, hI.imm, hX2, owAt o, _, owV_owL (owL_of ho), hS2⟩)
theorem total_g (l : List Int) (a : Option Addr) (n c : Nat) (D : Imm) (w : World) (hS : SlL D 1 (l.map intC) a n) (hn : n ≤ 1000) (hb : ∀ k, k < l.length → -100000 ≤ gt l k ∧ gt l k ≤ 100000) (hH : Holds D w) : Gives Tryz.prog 102 [.slice a n c] w (it l.sum) := by
  unfold Gives
  obtain rfl := hS.len'
  refine en Tryz.func102 rfl Tryz.ntmps102 (Inv.start hH) (g [[1],[5,0],[6,2,0],[7,3,2,0]] ?_)
  refine WC.loopF (fun k : Nat => [(2, it (l.take k).sum), (3, .func (.func 187) #[] #[]), (6, .slice a l.length c), (7, nt l.length), (8, nt k)]) (fun k => k ≤ l.length) (fun k => l.length - k) 0 (by omega) ⟨rfl, rfl, rfl, rfl, rfl, trivial⟩ ?_
  intro k hk
  refine g [[1],[5,2,3,6,7,8]] ?_
  refine WC.cond rfl (fun c9 => ?_) (fun c9 => ?_)
  · try simp only [zq] at c9
    have hkl : k < l.length := by omega
    have hst := sum_take hkl
    have hb1 := sum_bound hb k (by omega)
    have hb2 := hb k hkl
    refine g [[5],[1,2,3,6,7,8]] ?_
    refine WL.yd (Yd.ix rfl rfl (hS.addr k (by omega))) rfl (WL.yd (Yd.l1 rfl ((hS.at k (by omega)).rd 0 rfl)) rfl (g [[3],[4,5,2,3,6,7,8]] ?_))
    refine WL.so (SO.call (Enters.val CaF.h rfl rfl) (fun w hI => and_g (l.take k).sum (gt l k) _ (by omega))) rfl (zs (g [[4],[4,2,3,6,7,8]] ?_))
    exact WP.againF (k + 1) (by omega) (by omega) ⟨by rw [hst]; rfl, rfl, rfl, rfl, rfl, trivial⟩ (fun _ h => h) (fun h => h)
  try simp only [zq] at c9
  obtain rfl : k = l.length := by omega
  refine g [[6],[6,2]] ?_
  refine WP.ret1 rfl rfl rfl (RV.tmp rfl) (fun w hI => ⟨by rw [List.take_length], hI.keep⟩)
end Go.Proofs.YtejgofaeafphjaaGreatDoor
namespace Go.Proofs.YtejgofaeafphjaaGreatDoor
open Go.W Go.Ti
theorem SA167 : StructAt Tryz.prog 167 [.nilFunc] [(0, 1)] := ⟨⟨_, Tryz.zeroValue167, rfl⟩, _, Tryz.underlying167, fun w => by simp [Tryz.sizeOf165]⟩
@[reducible, instance] def ISA167 := SaF.mk SA167
theorem openX_ok (X : Till) (a1 : Option Addr) (n1 c1 : Nat) (D : Imm) (w : World) (hR : TksR D X.tk a1 n1) (hH : Holds D w) (l : List Ent) (ab : Option Addr) (nb cb : Nat) (hB : BookR D l ab nb) (fi : FuncId) (cp : List Value) (is : Bool) (hfi : ∀ args w, (callFunc fi args).run Tryz.prog w = .ok (.enter fi args) w) (hIs : ∀ w', Holds D w' → Gives Tryz.prog fi (.agg #[it X.tk.huts, .slice a1 n1 c1, it X.price, it X.fine, it X.wait] :: cp) w' (.bool is)) (h : tillE X l is = 0) : Gives Tryz.prog 97 [.agg #[it X.tk.huts, .slice a1 n1 c1, it X.price, it X.fine, it X.wait], .slice ab nb cb, .func (.func fi) #[] cp.toArray] w (.agg #[it X.tk.huts, .slice a1 n1 c1, it X.price, it X.fine, it X.wait]) := (openX_g X a1 n1 c1 D w hR hH l ab nb cb hB fi cp is hfi hIs).mono fun e w' ⟨h1, h2⟩ => ⟨by rw [h1, h]; rfl, h2⟩
theorem openX_no (X : Till) (a1 : Option Addr) (n1 c1 : Nat) (D : Imm) (w : World) (hR : TksR D X.tk a1 n1) (hH : Holds D w) (l : List Ent) (ab : Option Addr) (nb cb : Nat) (hB : BookR D l ab nb) (fi : FuncId) (cp : List Value) (is : Bool) (hfi : ∀ args w, (callFunc fi args).run Tryz.prog w = .ok (.enter fi args) w) (hIs : ∀ w', Holds D w' → Gives Tryz.prog fi (.agg #[it X.tk.huts, .slice a1 n1 c1, it X.price, it X.fine, it X.wait] :: cp) w' (.bool is)) (h : tillE X l is ≠ 0) : Fails Tryz.prog 97 [.agg #[it X.tk.huts, .slice a1 n1 c1, it X.price, it X.fine, it X.wait], .slice ab nb cb, .func (.func fi) #[] cp.toArray] w (stopT (tillE X l is)) := (openX_g X a1 n1 c1 D w hR hH l ab nb cb hB fi cp is hfi hIs).mono fun e w' ⟨h1, h2⟩ => ⟨by rw [h1]; unfold openT; rw [if_neg h], h2⟩
theorem Waits_e (T : Tks) : (WaitsOut T).2 = tksE T true := by
  unfold WaitsOut
  split
  · rfl
  rename_i h; simpa using (Classical.not_not.1 h).symm
def kindAt : Nat → Value
  | 0 => .nilIface
  | 1 => .iface 321 (.agg #[])
  | 2 => .iface 323 (.agg #[])
  | _ => .iface 324 (.agg #[])
def kindsC : List Value := [.nilIface, .iface 321 (.agg #[]), .iface 323 (.agg #[]), .iface 324 (.agg #[])]
theorem takC_g (X : Till) (s1 : Value) (b1 : Nat) (D : Imm) (h1 : D b1 = some (.cells (List.toArray (tillC X s1)) 156 (0, 0))) (v : Value) (w : World) (hH : Holds D w) : Gives Tryz.prog 147 [v, pt b1] w (it X.price) := by
  unfold Gives
  refine en Tryz.func147 rfl Tryz.ntmps147 (Inv.start hH) (g [[1],[5,1],[8,3,1]] ?_)
  refine WP.ret1 rfl rfl rfl (RV.tmp rfl) (fun w hI => ⟨rfl, hI.keep⟩)
theorem Takings_no (X : Till) (a1 : Option Addr) (n1 c1 : Nat) (D : Imm) (w : World) (hR : TksR D X.tk a1 n1) (hH : Holds D w) (hE : tillE X [] true ≠ 0) : Gives Tryz.prog 65 [.agg #[it X.tk.huts, .slice a1 n1 c1, it X.price, it X.fine, it X.wait]] w (.tuple #[it (TakingsOut X).1, it (TakingsOut X).2]) := by
  unfold Gives
  obtain rfl := hR.tick.len'
  have hl1 := hR.len
  have hb0 : tillB X = false := by
    cases hb : tillB X with
    | false => rfl
    | true => exact absurd (tillE_0 hb (by simp) rfl (by intro k hk; simp at hk)) hE
  have hO0 : TakingsOut X = (0, 1) := by unfold TakingsOut; rw [if_pos hb0]
  have hE1 : tillE X [] true = 1 := tillE_1 hb0
  refine enD Tryz.func65 rfl Tryz.ntmps65 (Inv.start hH) (g [[1],[1,0]] ?_)
  refine WL.so (SO.box rfl rfl) rfl (zw fun b1 hb1 => ?_)
  refine g [[1]] ?_
  refine WL.so (SO.alloc ZvF.h rfl) rfl (zw fun b3 hb3 => ?_)
  refine g [[3],[2,3,2,1]] ?_
  refine WL.defer rfl (g [[3],[2,3,2,1]] ?_)
  refine WL.nf rfl (fun w hI => openX_no X a1 _ c1 D _ hR hI.imm [] none 0 0 (BookR.nil _) 98 [] true CaF.h (fun w' _ => always_g (.bool true) X a1 _ c1 w') hE) (g [[1]] ?_)
  refine WP.panicD (k := 0) [_, _] [_, _] rfl CaF.h rfl (fun w hI => catch145 _ _ _ _ _ (hI.own _ _ (List.mem_of_getElem? (i := 0) rfl))) rfl zV (fun w hI => ⟨congrArg Ending.returned (by rw [hO0, hE1]; rfl), hI.keep⟩)
theorem Takings_ok (X : Till) (a1 : Option Addr) (n1 c1 : Nat) (D : Imm) (w : World) (hR : TksR D X.tk a1 n1) (hH : Holds D w) (hE : tillE X [] true = 0) : Gives Tryz.prog 65 [.agg #[it X.tk.huts, .slice a1 n1 c1, it X.price, it X.fine, it X.wait]] w (.tuple #[it (TakingsOut X).1, it (TakingsOut X).2]) := by
  unfold Gives
  obtain rfl := hR.tick.len'
  have hl1 := hR.len
  have hO0 : TakingsOut X = (X.price * X.tk.l.length, 0) := by unfold TakingsOut; rw [if_neg (by rw [(tillE_all hE).1]; simp)]
  refine enD Tryz.func65 rfl Tryz.ntmps65 (Inv.start hH) (g [[1],[1,0]] ?_)
  refine WL.so (SO.box rfl rfl) rfl (zw fun b1 hb1 => ?_)
  refine g [[1]] ?_
  refine WL.so (SO.alloc ZvF.h rfl) rfl (zw fun b3 hb3 => ?_)
  refine g [[3],[2,3,2,1]] ?_
  refine WL.defer rfl (g [[3],[2,3,2,1]] ?_)
  refine WL.cl rfl (fun w hI => openX_ok X a1 _ c1 D _ hR hI.imm [] none 0 0 (BookR.nil _) 98 [] true CaF.h (fun w' _ => always_g (.bool true) X a1 _ c1 w') hE) ?_
  refine WL.so (SO.alloc ZvF.h rfl) rfl (zw fun b4 hb4 => ?_)
  refine g [[4]] ?_
  refine WC.freezeN 0 b4 (.cells (List.toArray (tillC X (.slice a1 X.tk.l.length c1))) 156 (0, 0)) rfl rfl hb4 (fun D1 hX1 h4 => ?_)
  replace hR := hR.ext hX1
  refine g [[2,4,3,2]] ?_
  refine WL.cl rfl (fun w hI => manyT_g X a1 _ c1 _) (g [[2]] ?_)
  refine WL.so (SO.makes (Enters.func Tryz.call103 rfl) (fun w hI => foundP_g X.tk.l.length hl1 147 [pt b4] (fun _ => X.price) D1 _ hI.imm Tryz.call147 (fun i _ w' hH' => takC_g X _ b4 D1 h4 (nt i) w' hH'))) rfl ?_
  rintro _ D2 _ ⟨hX2, ⟨a9, c9, rfl, hS9⟩, rfl⟩
  refine WL.cl rfl (fun w hI => total_g ((List.range X.tk.l.length).map fun _ => X.price) a9 _ c9 D2 _ hS9 hl1 (by intro k hk; have hpr := (tillB_num (tillE_all hE).1).2.1; simp [gt, List.getD] at hk ⊢; simp [hk]; omega) hI.imm) (g [[5]] ?_)
  refine WP.endD [_, _] [_, _] rfl rfl CaF.h (fun w hI => idle145 _ _) rfl zV (fun w hI => ⟨congrArg Ending.returned (by rw [hO0, sum_const]; rfl), hI.keep⟩)
theorem Takings_g (X : Till) (a1 : Option Addr) (n1 c1 : Nat) (D : Imm) (w : World) (hR : TksR D X.tk a1 n1) (hH : Holds D w) : Gives Tryz.prog 65 [.agg #[it X.tk.huts, .slice a1 n1 c1, it X.price, it X.fine, it X.wait]] w (.tuple #[it (TakingsOut X).1, it (TakingsOut X).2]) := by
  by_cases hE : tillE X [] true = 0
  · exact Takings_ok X a1 n1 c1 D w hR hH hE
  exact Takings_no X a1 n1 c1 D w hR hH hE
theorem toldE_1 {X : Till} {l : List Ent} (h : tillE X l true ≠ 0) : toldE X l = tillE X l true := by unfold toldE; rw [if_pos h]
theorem toldE_2 {X : Till} {l : List Ent} (h : tillE X l true = 0) : toldE X l = tksE X.tk true := by unfold toldE; rw [if_neg (by rw [h]; simp)]
end Go.Proofs.YtejgofaeafphjaaGreatDoor
namespace Go.Ti
open Go.W (gt gt_of)
def bookedB (l : List Ent) (t k : Int) : Bool := l.any fun e => decide (e.ticket = t ∧ e.kind = k)
def ruleI (X : Till) (l : List Ent) (i : Nat) : Int := if bookedB (l.take i) (gt l i).ticket (gt l i).kind then 1 else if canOf X (gt l i).ticket (gt l i).pence (gt l i).kind.toNat = false then 2 else 0
def brokL (X : Till) (l : List Ent) (n : Nat) : List Nat := (List.range n).filter fun i => decide (ruleI X l i ≠ 0)
theorem brok_succ (X : Till) (l : List Ent) (i : Nat) : brokL X l (i + 1) = brokL X l i ++ if ruleI X l i ≠ 0 then [i] else [] := by
  unfold brokL
  rw [List.range_succ, List.filter_append]
  congr 1
  by_cases h : ruleI X l i = 0 <;> simp [h]
theorem brok_split (X : Till) (l : List Ent) {i n : Nat} (hi : i < n) (h : ruleI X l i ≠ 0) : ∃ post, brokL X l n = brokL X l i ++ i :: post := by
  induction n with
  | zero => omega
  | succ n ih =>
    rw [brok_succ]
    rcases Nat.lt_or_ge i n with h1 | h1
    · obtain ⟨post, e⟩ := ih h1
      exact ⟨post ++ if ruleI X l n ≠ 0 then [n] else [], by rw [e]; simp⟩
    · have : i = n := by omega
      subst this
      exact ⟨[], by rw [if_pos h]⟩
theorem brok_at (X : Till) (l : List Ent) {i n : Nat} (hi : i < n) (h : ruleI X l i ≠ 0) : (brokL X l i).length < (brokL X l n).length ∧ gt (brokL X l n) (brokL X l i).length = i := by
  obtain ⟨post, e⟩ := brok_split X l hi h
  rw [e]
  refine ⟨by simp, ?_⟩
  simp [gt, List.getD]
theorem brok_len (X : Till) (l : List Ent) (i : Nat) : (brokL X l (i + 1)).length = (brokL X l i).length + if ruleI X l i ≠ 0 then 1 else 0 := by
  rw [brok_succ, List.length_append]
  split <;> rfl
theorem booked_take {l : List Ent} {i : Nat} (hi : i < l.length) (t k : Int) : bookedB (l.take (i + 1)) t k = (bookedB (l.take i) t k || decide ((gt l i).ticket = t ∧ (gt l i).kind = k)) := by
  have hg : gt l i = l[i] := by simp [gt, List.getD, hi]
  unfold bookedB
  rw [List.take_succ_eq_append_getElem hi, List.any_append, hg]
  simp
def CheckOut (X : Till) (l : List Ent) : Int × Int × Int := if toldE X l ≠ 0 then (0, 0, toldE X l) else match brokL X l l.length with
  | [] => (0, 0, 4)
  | i :: _ => ((i : Int), ruleI X l i, 0)
def signI (e : Ent) : Int := if e.kind = 3 then e.pence * -1 else e.pence
def SumOut (X : Till) (l : List Ent) : Int × Int := if toldE X l ≠ 0 then (0, toldE X l) else if brokL X l l.length ≠ [] then (0, 11) else (((List.range l.length).map fun i => signI (gt l i)).sum, 0)
def bitsI (f : Nat → Bool) : Nat → Nat
  | 0 => 0
  | n + 1 => bitsI f n + if f n then 2 ^ n else 0
theorem bits_lt (f : Nat → Bool) : ∀ n, bitsI f n < 2 ^ n := by
  intro n
  induction n with
  | zero => simp [bitsI]
  | succ n ih => unfold bitsI; split <;> omega
theorem bits_congr {f g : Nat → Bool} : ∀ {n}, (∀ i, i < n → f i = g i) → bitsI f n = bitsI g n := by
  intro n
  induction n with
  | zero => intro _; rfl
  | succ n ih => intro h; unfold bitsI; rw [ih fun i hi => h i (by omega), h n (by omega)]
def missB (X : Till) (l : List Ent) (k n : Nat) : Bool := !bookedB l (n : Int) (k : Int) && (decide (k = 1) || decide ((spanOf X (n : Int) k).lo > 0))
theorem can_num {X : Till} (h : tillB X = true) {n m : Int} {k : Nat} (hc : canOf X n m k = true) : 0 ≤ m ∧ m ≤ 2400 := by
  have hb := tillB_num h
  unfold canOf at hc
  split at hc
  · simp only [priceCan, Bool.and_eq_true, decide_eq_true_eq] at hc; omega
  · simp only [fineCan, Bool.and_eq_true, decide_eq_true_eq] at hc; omega
  · obtain ⟨k, hk, he⟩ := List.any_eq_true.1 hc
    have h1 := mem_rng.1 hk
    have h2 := waits_num X.tk n
    have h3 := mul_100 hb.2.2.2 (k := k) (by omega)
    rw [Int.mul_comm] at h3
    have := of_decide_eq_true he
    omega
theorem rule_zero {X : Till} {l : List Ent} {i : Nat} (h : ruleI X l i = 0) : canOf X (gt l i).ticket (gt l i).pence (gt l i).kind.toNat = true := by
  unfold ruleI at h
  split at h
  · omega
  · split at h
    · omega
    · rename_i h2; simpa using h2
theorem brok_nil {X : Till} {l : List Ent} {n : Nat} (h : brokL X l n = []) : ∀ i, i < n → ruleI X l i = 0 := fun i hi => by
  by_cases h1 : ruleI X l i = 0
  · exact h1
  · obtain ⟨post, e⟩ := brok_split X l hi h1
    rw [h] at e
    simp at e
end Go.Ti
