import Derived.Test.YtidjdonppfegiaaXB
import Derived.Test.YtidjdonppfegiaaXE
import Derived.Test.YtidjdonppfegiaaXG
import Derived.Test.YtidjdonppfegiaaXK
set_option linter.unusedSimpArgs false
set_option linter.unusedVariables false
/- A slice that is handed on and grows: of which nothing is asked but that it is one's own. Calls that write own blocks and give new ones. -/
namespace Go.W
def owL (o : Option Ow) (len size : Nat) : Prop := match o with | none => len = 0 | some o => len ≤ o.cap ∧ o.rest.length = (o.cap - len) * size
theorem owL_of {w : World} {o : Option Ow} {len size : Nat} (h : owP w o len size) : owL o len size := by
  cases o with
  | none => exact h
  | some o => exact h.2
section
variable {P : Program} {x : Cx} {fr : Fr} {D : Imm} {hp : Hp} {ty : TypeId} {Q : Exit → Act → World → Prop} {ops : Array Oper}
def AppL (D : Imm) (base hp0 : Hp) (e : TypeId) (size : Nat) (xs : List Value) (len : Nat) (v : Value) (D' : Imm) (hp' : Hp) : Prop :=
  ∃ o, owL (some o) len size ∧ v = owV (some o) len ∧ D = D' ∧ hp' = base ++ owH (some o) e xs hp0
theorem SO.appendL {t e : TypeId} {o : Option Ow} {len n size : Nat} {xs ys : List Value} {info : TypeInfo} {z : Value} {ts : Array TypeId} {a1 a2 : Operand} {vy : Value} (drp base hp0 : Hp)
    (ht : ts[0]? = some t) (ht' : ts[1]? = some t) (hu : P.underlying t = some (.slice e)) (hz : ∀ w, (sizeOf e).run P w = .ok size w) (hi : ∀ w, (typeInfo e).run P w = .ok info w) (hzero : ∀ w, (zeroValue e).run P w = .ok z w) (hzl : z.cells.size = size)
    (hs : opv fr a1 = some (owV o len)) (hy : opv fr a2 = some vy) (hhp : hp = drp ++ (base ++ owH o e xs hp0)) (hyr : RdS D hp size vy n ys) (hone : ∀ v ∈ ys, v.oneCell' = true)
    (how : owL o len size) (hxl : xs.length = len * size) (hn0 : 0 < n) (hb : (2 * (len + n) + 1000) * info.bytes ≤ 2 ^ 48) (hn : len + n ≤ 2 ^ 48) :
    SO P x fr D hp (.call ⟨.builtin .append, #[a1, a2], ts⟩) ty Q (AppL D base hp0 e size (xs ++ ys) (len + n)) := fun a w dst pos af g next hA hnx => by
  have hrun : ∀ {v : Value} {w' : World}, (Builtin.append_ ts ty #[owV o len, vy]).run P w = .ok v w' → (execOp a.eval ⟨dst, .call ⟨.builtin .append, #[a1, a2], ts⟩, ty, pos, af, g⟩).run P w = .ok (.value v) w' := fun {v} {w'} h => by
    simp only [execOp, resolve, List.map_toArray, List.map_cons, List.map_nil, hA.f.eval hs, hA.f.eval hy]
    simp [invoke, builtin, h]
  unfold Oper.wp
  cases o with
  | none =>
    have h0 : len = 0 := how
    subst h0
    have hx0 : xs = [] := List.length_eq_zero_iff.1 (by simpa using hxl)
    subst hx0
    obtain ⟨cap', rest, h1, h2, h3⟩ := append_grow (P := P) (ty := ty) (cap := 0) (xs := []) (base := none) (s := owV none 0) ht ht' hu hz hi hzero hzl hA.i rfl ⟨by simp, .inl ⟨0, rfl, rfl⟩⟩ hyr (by omega) hb hn
    rw [hrun h3, Oper.upon_value]
    refine hnx _ _ _ _ ⟨⟨w.heap.size, cap', rest⟩, ⟨h1, h2⟩, rfl, rfl, rfl⟩ ?_
    have hI := (hA.i.drew (w.drawn + 1)).new (.cells ([] ++ ys ++ rest).toArray e (0, 0))
    subst hhp
    have hnd := hI.nodup
    simp only [owH, List.map_cons, List.map_append, List.nodup_cons] at hnd
    exact hI.sub (mem_mid (fun e' he' => List.mem_cons_of_mem _ (List.mem_append_right _ he')) List.mem_cons_self)
      (nodup_mid (fun h => hnd.1 (List.mem_append_right _ (List.mem_append.2 h))) (nodup_tail hnd.2))
  | some o =>
    obtain ⟨hlc, hrl⟩ := how
    have hk : hp[(drp ++ base).length]? = some (o.b, .cells (xs ++ o.rest).toArray e (0, 0)) := by
      subst hhp; rw [← List.append_assoc]; simp [owH]
    by_cases hg : len + n ≤ o.cap
    · have h3 := append_fit (P := P) (ty := ty) (s := owV (some o) len) ht ht' hu hz hA.i rfl hk hxl hrl hyr hone hg
      rw [hrun h3, Oper.upon_value]
      refine hnx _ _ _ _ ⟨⟨o.b, o.cap, o.rest.drop ys.length⟩, ⟨hg, by simp [hrl, hyr.1, ← Nat.sub_mul, Nat.sub_sub]⟩, rfl, rfl, rfl⟩ ?_
      have hI := hA.i.set hk (.cells (xs ++ ys ++ o.rest.drop ys.length).toArray e (0, 0))
      subst hhp
      have hnd := hI.nodup
      have hset : (drp ++ (base ++ owH (some o) e xs hp0)).set (drp ++ base).length (o.b, .cells (xs ++ ys ++ o.rest.drop ys.length).toArray e (0, 0)) = drp ++ (base ++ (o.b, .cells (xs ++ ys ++ o.rest.drop ys.length).toArray e (0, 0)) :: hp0) := by
        rw [← List.append_assoc, List.set_append_right _ _ (by omega)]; simp [owH]
      rw [hset] at hI hnd
      rw [List.map_append] at hnd
      exact hI.sub (fun e' he' => List.mem_append_right _ he') (nodup_tail hnd)
    · obtain ⟨cap', rest, h1, h2, h3⟩ := append_grow (P := P) (ty := ty) (cap := o.cap) (xs := xs) (s := owV (some o) len) ht ht' hu hz hi hzero hzl hA.i rfl
        ⟨hxl, .inr ⟨o.b, 0, o.cap, rfl, fun j v hj => by
          have := Rd.own (D := D) (hp := hp) hk (off := 0 + j) (v := v) (by
            rw [Nat.zero_add, List.getElem?_append_left (List.getElem?_eq_some_iff.1 hj).1]; exact hj)
          exact this⟩⟩ hyr (by omega) hb hn
      rw [hrun h3, Oper.upon_value]
      refine hnx _ _ _ _ ⟨⟨w.heap.size, cap', rest⟩, ⟨h1, h2⟩, rfl, rfl, rfl⟩ ?_
      have hI := (hA.i.drew (w.drawn + 1)).new (.cells (xs ++ ys ++ rest).toArray e (0, 0))
      subst hhp
      have hnd := hI.nodup
      simp only [owH, List.map_cons, List.map_append, List.nodup_cons] at hnd
      have hnd2 := nodup_tail hnd.2
      refine hI.sub (mem_mid (fun e' he' => List.mem_cons_of_mem _ (List.mem_append_right _ ?_)) List.mem_cons_self) (nodup_mid (fun h => hnd.1 (List.mem_append_right _ ?_)) ?_)
      · rcases List.mem_append.1 he' with h | h
        · exact List.mem_append_left _ h
        · exact List.mem_append_right _ (List.mem_cons_of_mem _ h)
      · rcases h with h | h
        · exact List.mem_append_left _ h
        · exact List.mem_append_right _ (List.mem_cons_of_mem _ h)
      · rw [List.nodup_append] at hnd2 ⊢
        refine ⟨hnd2.1, (List.nodup_cons.1 hnd2.2.1).2, fun a ha b hb => hnd2.2.2 a ha b (List.mem_cons_of_mem _ hb)⟩


def AltersN (P : Program) (f : FuncId) (vals : List Value) (w : World) (D : Imm) (S1 : List Nat) (K : Value → Imm → Hp → Prop) : Prop :=
  Calls P f vals.toArray w fun e w' => ∃ v D' hpc', e = .returned v ∧ DExt w D D' ∧ Inv D' hpc' S1 w w' ∧ K v D' hpc'
theorem SO.altersN {c : Call} {f : FuncId} {vals : List Value} {S1 : List Nat} {K : Value → Imm → Hp → Prop} (own hpc : Hp) (hhp : ∀ e, e ∈ own ++ hpc → e ∈ hp) (hnd : (keys hp).Nodup → (keys (own ++ hpc)).Nodup)
    (hS : ∀ b, b ∈ S1 → b ∈ keys hpc) (hS' : ∀ b, b ∈ keys hpc → b ∈ S1) (he : Enters P x fr D hp c ty f vals)
    (hk : ∀ w, Inv D hpc S1 w w → AltersN P f vals w D S1 K) : SO P x fr D hp (.call c) ty Q (AltK x.w0 D own K) := fun a w dst pos af g next hA hn => by
  unfold Oper.wp
  rw [he a w dst pos af g hA.f hA.i, Oper.upon_enter]
  have hI := hA.i.sub hhp (hnd hA.i.nodup)
  refine (hk w (hI.frame hS')).mono fun e w' ⟨v, D', hpc', h, hD, hI', hK⟩ => ?_
  rw [h]
  exact hn _ _ _ _ ⟨hpc', ⟨hD.old, fun b hb => hD.new b (Nat.lt_of_lt_of_le hb hA.i.keep.size)⟩, hK, rfl⟩ (hI.unframeN hS (fun b hb => by obtain ⟨o, ho⟩ := mem_key hb; exact hI'.may b o ho) hD hI')
theorem Inv.pick {S : List Nat} {w0 w : World} (k : Nat) {e : Nat × Obj} (hk : hp[k]? = some e) (h : Inv D hp S w0 w) : Inv D [e] S w0 w :=
  h.sub (fun e' he' => by rw [List.mem_singleton.1 he']; exact List.mem_of_getElem? hk) (by simp)
theorem WH.freezeK {D0 : Imm} {hp0 : Hp} {n : Nat} {listed : Array Bool} (k : Nat) {b : Nat} {o : Obj} (hk : hp[k]? = some (b, o)) (h : D b = none → WH P x ops D0 hp0 n listed fr (D.add b o) (hp.eraseIdx k) Q) : WH P x ops D0 hp0 n listed fr D hp Q :=
  fun a w hA hI => h (hA.i.freezeK k hk).1 a w ⟨hA.f, (hA.i.freezeK k hk).2⟩ hI
end
end Go.W
/- Operations behind a guard that was itself passed over. -/
namespace Go.W
section
variable {P : Program} {x : Cx} {fr : Fr} {D : Imm} {hp : Hp} {Q : Exit → Act → World → Prop} {ops : Array Oper} {rest : List Oper} {dst : Option Tmp} {op : Op} {ty : TypeId} {pos : String} {af : Array Edge}
theorem undef_wanted {n : Nat} {ds : List Deferred} {a : Act} (hA : AtF n fr ds a) {j : Nat} {want : Bool} (h : gval ops fr j = some undef) : Region.wanted ⟨dst, op, ty, pos, af, some (j, want)⟩ (yielded ops a.tmps) = false := by
  have h1 : yielded ops a.tmps j = none := by
    unfold gval at h
    unfold yielded
    cases hd : (ops[j]?).bind (·.dst) with
    | none => rfl
    | some t => rw [hd] at h; simp only [Option.bind_some] at h ⊢; rw [hA.slot _ _ h]; rfl
  unfold Region.wanted
  simp only [h1]
  cases want <;> rfl
theorem WL.skipU {j : Nat} {b : Bool} (hg : gval ops fr j = some undef) (hd : dstB dst x.n = true) (h : WL P x ops (putFr dst undef fr) D hp rest Q) : WL P x ops fr D hp (⟨dst, op, ty, pos, af, some (j, b)⟩ :: rest) Q :=
  fun a w hA => wpList_step fun K hK => by
    rw [if_neg (by rw [undef_wanted hA.f hg]; simp)]
    exact hK _ _ (h _ _ ⟨hA.f.putO hd undef, hA.i⟩)
theorem WA.skipU {D0 : Imm} {hp0 : Hp} {plan : List (Nat × Bool)} {i : Nat} {y : Bool} {j : Nat} {b : Bool} (ho : ops[i]? = some ⟨dst, op, ty, pos, af, some (j, b)⟩) (hg : gval ops fr j = some undef) (hd : dstB dst x.n = true) (h : WA P x ops D0 hp0 plan (putFr dst undef fr) D hp Q) :
    WA P x ops D0 hp0 ((i, y) :: plan) fr D hp Q := fun a w hA => by
  have hw : Region.wanted ⟨dst, op, ty, pos, af, some (j, b)⟩ (yielded ops a.tmps) = false := undef_wanted hA.f hg
  have := h _ _ ⟨hA.f.putO hd undef, hA.i⟩
  cases y with
  | true => exact ⟨_, undef, ho, .inr ⟨hw, rfl⟩, this⟩
  | false => exact ⟨_, ho, by rw [if_neg (by rw [hw]; simp)]; exact this⟩
end
end Go.W
/- The plans of the document, and that the search finds the first of them. -/
namespace Go.Proofs.Ytidjdonppfegiaa
open Go.W Go.Dp
theorem gt_app_lt {α : Type} [Inhabited α] (b t : List α) (i : Nat) (h : i < b.length) : gt (b ++ t) i = gt b i := by
  simp [gt, List.getD, List.getElem?_append_left h]
theorem gt_app_at {α : Type} [Inhabited α] (b : List α) (x : α) : gt (b ++ [x]) b.length = x := by
  simp [gt, List.getD]
theorem leftR_congr {d : Dips} {p p' : List Plc} (best : Bool) (x : Plc) : ∀ k, (∀ j, j < k → gt p j = gt p' j) → leftR d p best x k = leftR d p' best x k := by
  intro k
  induction k with
  | zero => intro _; rfl
  | succ k ih => intro h; simp only [leftR]; rw [ih (fun j hj => h j (by omega)), h k (by omega)]
theorem brokenR_congr {d : Dips} {p p' : List Plc} (best : Bool) {i : Nat} (h : ∀ j, j ≤ i → gt p j = gt p' j) : brokenR d p i best = brokenR d p' i best := by
  unfold brokenR
  rw [h i (Nat.le_refl _), leftR_congr best (gt p' i) (i + 1) (fun j hj => h j (by omega))]
theorem hAt_congr {d : Dips} {p p' : List Plc} (best : Bool) : ∀ k, (∀ j, j < k → gt p j = gt p' j) → hAt d p best k = hAt d p' best k := by
  intro k
  induction k with
  | zero => intro _; rfl
  | succ k ih => intro h; simp only [hAt]; rw [ih (fun j hj => h j (by omega)), h k (by omega)]
abbrev pk (hr k : Nat) : Plc := ⟨(hr : Int), (k : Int)⟩
def rowPl (d : Dips) (hr : Nat) : List Plc := (List.range d.dippers.length).map fun k => pk hr k
def allPl (d : Dips) : List Plc := (List.range d.hours.toNat).flatMap (rowPl d)
def plR (d : Dips) (best : Bool) : Nat → List Plc → List (List Plc)
  | 0, b => [b]
  | rem + 1, b => (allPl d).flatMap fun x => if brokenR d (b ++ [x]) b.length best = 0 then plR d best rem (b ++ [x]) else []
def plansR (d : Dips) (best : Bool) : List (List Plc) := plR d best d.bathers.length []
theorem mem_allPl {d : Dips} (hv : 0 ≤ d.hours) {x : Plc} : x ∈ allPl d ↔ 0 ≤ x.hour ∧ x.hour < d.hours ∧ 0 ≤ x.dipper ∧ x.dipper < d.dippers.length := by
  simp only [allPl, rowPl, List.mem_flatMap, List.mem_map, List.mem_range]
  constructor
  · rintro ⟨hr, h1, k, h2, rfl⟩
    dsimp only; omega
  · rintro ⟨h1, h2, h3, h4⟩
    refine ⟨x.hour.toNat, by omega, x.dipper.toNat, by omega, ?_⟩
    cases x; simp only [Plc.mk.injEq]; dsimp only at *; omega
theorem findSome_flatMap {α β γ : Type} (f : α → List β) (g : β → Option γ) (l : List α) : (l.flatMap f).findSome? g = l.findSome? fun x => (f x).findSome? g := by
  induction l with
  | nil => rfl
  | cons x l ih => rw [List.flatMap_cons, List.findSome?_append, ih, List.findSome?_cons]; cases (f x).findSome? g <;> rfl
theorem findSome_map' {α β γ : Type} (f : α → Option β) (g : β → γ) (l : List α) : (l.findSome? f).map g = l.findSome? fun x => (f x).map g := by
  induction l with
  | nil => rfl
  | cons x l ih => rw [List.findSome?_cons, List.findSome?_cons]; cases h : f x with
                   | none => simp only [Option.map_none]; exact ih
                   | some y => rfl
theorem findSome_congr {α β : Type} {f g : α → Option β} {l : List α} (h : ∀ x ∈ l, f x = g x) : l.findSome? f = l.findSome? g := by
  induction l with
  | nil => rfl
  | cons x l ih => rw [List.findSome?_cons, List.findSome?_cons, h x (List.mem_cons_self ..), ih (fun y hy => h y (List.mem_cons_of_mem _ hy))]
theorem findSome_map {α β γ : Type} (f : α → β) (g : β → Option γ) (l : List α) : (l.map f).findSome? g = l.findSome? fun x => g (f x) := by
  induction l with
  | nil => rfl
  | cons x l ih => rw [List.map_cons, List.findSome?_cons, List.findSome?_cons, ih]
theorem findSome_none {α β : Type} {f : α → Option β} {l : List α} (h : ∀ x ∈ l, f x = none) : l.findSome? f = none := by
  rw [findSome_congr h]; induction l with
  | nil => rfl
  | cons x l ih => rw [List.findSome?_cons]; exact ih (fun y hy => h y (List.mem_cons_of_mem _ hy))
theorem head_flatMap {α β : Type} (f : α → List β) (l : List α) : (l.flatMap f).head? = l.findSome? fun x => (f x).head? := by
  induction l with
  | nil => rfl
  | cons x l ih => rw [List.flatMap_cons, List.head?_append, ih, List.findSome?_cons]; cases (f x).head? <;> rfl
theorem hAt_le {d : Dips} (hv : dipsB d = true) (plan : List Plc) (best : Bool) : ∀ k, k ≤ d.bathers.length → ∀ a b, hAt d plan best k a b ≤ beginH d best a b := by
  intro k
  induction k with
  | zero => intro _ a b; exact Int.le_refl _
  | succ k ih =>
    intro hk a b
    have h1 := need_num hv best (i := k) (by omega)
    have h2 := ih (by omega) a b
    simp only [hAt, upd]
    split
    · rename_i e
      rw [← e.1, ← e.2]; omega
    · exact h2
theorem PlOk_snoc {d : Dips} {b : List Plc} {x : Plc} (h : PlOk d b) (hx : 0 ≤ x.hour ∧ x.hour < d.hours ∧ 0 ≤ x.dipper ∧ x.dipper < d.dippers.length) : PlOk d (b ++ [x]) := fun j hj => by
  rw [List.length_append, List.length_singleton] at hj
  by_cases e : j < b.length
  · rw [gt_app_lt _ _ _ e]; exact h j e
  · have : j = b.length := by omega
    subst this
    rw [gt_app_at]; exact hx
/-- the next one breaks no rule just if the hours are the bather's, and enough hands are left -/
theorem broken_next {d : Dips} (hv : dipsB d = true) (best : Bool) {b : List Plc} (hb : PlOk d b) (hl : b.length < d.bathers.length) {hr k : Nat} (hh : hr < d.hours.toNat) (hk : k < d.dippers.length) :
    brokenR d (b ++ [pk hr k]) b.length best = 0 ↔ (bitN (gt d.bathers b.length).hours hr ≠ 0 ∧ ¬ hAt d b best b.length hr k < need0 best (gt d.bathers b.length)) := by
  have hn := dips_num hv
  have hx : 0 ≤ (hr : Int) ∧ (hr : Int) < d.hours ∧ 0 ≤ (k : Int) ∧ (k : Int) < d.dippers.length := by omega
  have hq := PlOk_snoc hb (x := pk hr k) hx
  have e1 : gt (b ++ [pk hr k]) b.length = pk hr k := gt_app_at b _
  have hcg : hAt d (b ++ [pk hr k]) best b.length = hAt d b best b.length := hAt_congr best _ (fun j hj => gt_app_lt _ _ _ hj)
  have hnd := need_num hv best hl
  by_cases h1 : bitN (gt d.bathers b.length).hours hr = 0
  · rw [broken_hour (plan := b ++ [pk hr k]) (k := b.length) hv hl (by rw [e1]; exact hx.1) (by rw [e1]; dsimp only; omega) (by rw [e1]; dsimp only; omega) (.inl (by rw [e1]; exact h1))]
    exact ⟨fun h => by omega, fun h => absurd h1 h.1⟩
  · have h1' := bit_01 (gt d.bathers b.length).hours hr
    by_cases h2 : bitN (gt d.dippers k).hours hr = 0
    · rw [broken_hour (plan := b ++ [pk hr k]) (k := b.length) hv hl (by rw [e1]; exact hx.1) (by rw [e1]; dsimp only; omega) (by rw [e1]; dsimp only; omega) (.inr (by rw [e1]; exact h2))]
      have := hAt_le hv b best b.length (by omega) hr k
      have hbg : beginH d best hr k = -1 := by unfold beginH; rw [if_pos hk, if_neg (by omega)]
      exact ⟨fun h => by omega, fun h => by omega⟩
    · have h2' := bit_01 (gt d.dippers k).hours hr
      rw [broken_hands hv hl (by simp) hq (by rw [e1]; dsimp only; omega) (by rw [e1]; dsimp only; omega) (by rw [e1]; dsimp only; omega) (by rw [e1]; exact h2'.resolve_left h2)]
      rw [e1]
      have e2 : hAt d (b ++ [pk hr k]) best (b.length + 1) hr k = hAt d b best b.length hr k - need0 best (gt d.bathers b.length) := by
        simp only [hAt]
        rw [e1, hcg]
        simp [upd]
      show (if hAt d (b ++ [pk hr k]) best (b.length + 1) hr k < 0 then (2 : Int) else 0) = 0 ↔ _
      rw [e2]
      split
      · exact ⟨fun h => by omega, fun h => by omega⟩
      · exact ⟨fun _ => ⟨h1, by omega⟩, fun _ => rfl⟩
theorem on_head {d : Dips} (hv : dipsB d = true) (best : Bool) : ∀ (rem : Nat) (b : List Plc), b.length + rem = d.bathers.length → PlOk d b → (onP d best rem (hAt d b best b.length)).map (b ++ ·) = (plR d best rem b).head? := by
  intro rem
  induction rem with
  | zero => intro b _ _; simp [onP, plR]
  | succ rem ih =>
    intro b hl hb
    have hj : d.bathers.length - (rem + 1) = b.length := by omega
    simp only [onP, plR, placesL, placesTo, allPl]
    rw [hj, findSome_flatMap, findSome_map', head_flatMap, findSome_flatMap]
    refine findSome_congr fun hr hhr => ?_
    have hhr' : hr < d.hours.toNat := by simpa using hhr
    rw [rowPl, findSome_map]
    unfold hourAt rowTo
    by_cases h1 : bitN (gt d.bathers b.length).hours hr = 0
    · rw [if_pos h1]
      show none = _
      symm
      refine findSome_none fun k hk => ?_
      · have hk' : k < d.dippers.length := by simpa using hk
        rw [if_neg (fun h => ((broken_next hv best hb (by omega) hhr' hk').1 h).1 h1)]
        rfl
    · rw [if_neg h1, findSome_flatMap, findSome_map']
      refine findSome_congr fun k hk => ?_
      have hk' : k < d.dippers.length := by simpa using hk
      have hbn := broken_next hv best hb (by omega) hhr' hk'
      unfold cellAt
      by_cases h2 : hAt d b best b.length hr k < need0 best (gt d.bathers b.length)
      · rw [if_pos h2, if_neg (fun h => (hbn.1 h).2 h2)]; rfl
      · rw [if_neg h2, if_pos (hbn.2 ⟨h1, h2⟩)]
        have e1 : gt (b ++ [pk hr k]) b.length = pk hr k := gt_app_at b _
        have hcg : hAt d (b ++ [pk hr k]) best b.length = hAt d b best b.length := hAt_congr best _ (fun j hj => gt_app_lt _ _ _ hj)
        have hI := ih (b ++ [pk hr k]) (by simp; omega) (PlOk_snoc hb (by dsimp only; omega))
        have e2 : hAt d (b ++ [pk hr k]) best (b ++ [pk hr k]).length = upd (hAt d b best b.length) hr k (hAt d b best b.length hr k - need0 best (gt d.bathers b.length)) := by
          rw [List.length_append, List.length_singleton]
          simp only [hAt]
          rw [e1, hcg]
          rfl
        rw [e2] at hI
        rw [← hI]
        simp only [List.findSome?_cons, List.findSome?_nil]
        cases onP d best rem (upd (hAt d b best b.length) hr k (hAt d b best b.length hr k - need0 best (gt d.bathers b.length))) with
        | none => rfl
        | some l => simp
theorem planP_head {d : Dips} (hv : dipsB d = true) (best : Bool) : planP d best = (plansR d best).head? := by
  have h := on_head hv best d.bathers.length [] (by simp) (fun j hj => by simp at hj)
  rw [plansR, ← h]
  show planP d best = (onP d best d.bathers.length (beginH d best)).map ([] ++ ·)
  rw [show (([] : List Plc) ++ ·) = id from by funext l; rfl, Option.map_id]
  rfl
theorem mem_plR {d : Dips} (hh : 0 ≤ d.hours) (best : Bool) : ∀ (rem : Nat) (b l : List Plc), l ∈ plR d best rem b ↔ ∃ t, l = b ++ t ∧ t.length = rem ∧ PlOk d t ∧ ∀ i, b.length ≤ i → i < l.length → brokenR d l i best = 0 := by
  intro rem
  induction rem with
  | zero =>
    intro b l
    simp only [plR, List.mem_singleton]
    constructor
    · rintro rfl; exact ⟨[], by simp, rfl, fun j hj => by simp at hj, fun i h1 h2 => by omega⟩
    · rintro ⟨t, rfl, ht, _, _⟩
      have : t = [] := List.length_eq_zero_iff.1 ht
      subst this; simp
  | succ rem ih =>
    intro b l
    simp only [plR, List.mem_flatMap]
    constructor
    · rintro ⟨x, hx, hl⟩
      split at hl
      · rename_i hbr
        obtain ⟨t, rfl, ht, hp, hb⟩ := (ih _ _).1 hl
        refine ⟨x :: t, by simp, by simp [ht], fun j hj => ?_, fun i h1 h2 => ?_⟩
        · cases j with
          | zero => exact (mem_allPl hh).1 hx
          | succ j => exact hp j (by simpa using hj)
        · by_cases e : i = b.length
          · subst e
            rw [← hbr]
            exact brokenR_congr best fun j hj => gt_app_lt _ _ _ (by simp; omega)
          · exact hb i (by simp; omega) h2
      · cases hl
    · rintro ⟨t, rfl, ht, hp, hb⟩
      cases t with
      | nil => simp at ht
      | cons x t =>
        refine ⟨x, (mem_allPl hh).2 (hp 0 (by simp)), ?_⟩
        have e : b ++ x :: t = (b ++ [x]) ++ t := by simp
        have h0 := hb b.length (Nat.le_refl _) (by simp)
        rw [if_pos (by rw [← h0]; refine brokenR_congr best fun j hj => ?_; rw [e]; exact (gt_app_lt _ _ _ (by simp; omega)).symm)]
        exact (ih _ _).2 ⟨t, e, by simpa using ht, fun j hj => hp (j + 1) (by simpa using hj), fun i h1 h2 => hb i (by simp at h1; omega) h2⟩
/-- a plan without a broken rule -/
def Good (d : Dips) (best : Bool) (l : List Plc) : Prop := l.length = d.bathers.length ∧ PlOk d l ∧ ∀ i, i < l.length → brokenR d l i best = 0
theorem mem_plans {d : Dips} (hh : 0 ≤ d.hours) (best : Bool) (l : List Plc) : l ∈ plansR d best ↔ Good d best l := by
  rw [plansR, mem_plR hh]
  constructor
  · rintro ⟨t, rfl, h1, h2, h3⟩
    exact ⟨h1, h2, fun i hi => h3 i (Nat.zero_le _) hi⟩
  · rintro ⟨h1, h2, h3⟩
    exact ⟨l, rfl, h1, h2, fun i _ hi => h3 i hi⟩
theorem planP_some {d : Dips} (hv : dipsB d = true) (best : Bool) : (planP d best).isSome = true ↔ ∃ l, Good d best l := by
  have hh : 0 ≤ d.hours := by have := (dips_num hv).1; omega
  rw [planP_head hv]
  constructor
  · intro h
    cases hp : plansR d best with
    | nil => rw [hp] at h; cases h
    | cons l r => exact ⟨l, (mem_plans hh best l).1 (by rw [hp]; exact List.mem_cons_self ..)⟩
  · rintro ⟨l, hl⟩
    have := (mem_plans hh best l).2 hl
    cases hp : plansR d best with
    | nil => rw [hp] at this; cases this
    | cons l r => rfl
theorem planP_good {d : Dips} (hv : dipsB d = true) {best : Bool} {l : List Plc} (h : planP d best = some l) : Good d best l := by
  have hh : 0 ≤ d.hours := by have := (dips_num hv).1; omega
  rw [planP_head hv] at h
  exact (mem_plans hh best l).1 (List.mem_of_head? h)
end Go.Proofs.Ytidjdonppfegiaa
/- The document's list of plans, as it grows; a list of plans in memory. -/
namespace Go.Proofs.Ytidjdonppfegiaa
open Go.W Go.Dp
def plC (d : Dips) (best : Bool) (rem : Nat) (b : List Plc) : List (List Plc) := if b ≠ [] ∧ brokenR d b (b.length - 1) best ≠ 0 then [] else plR d best rem b
theorem plC_snoc (d : Dips) (best : Bool) (rem : Nat) (b : List Plc) (x : Plc) : plC d best rem (b ++ [x]) = if brokenR d (b ++ [x]) b.length best = 0 then plR d best rem (b ++ [x]) else [] := by
  unfold plC
  have e : (b ++ [x]).length - 1 = b.length := by simp
  rw [e]
  by_cases h : brokenR d (b ++ [x]) b.length best = 0
  · rw [if_neg (fun hh => hh.2 h), if_pos h]
  · rw [if_pos ⟨by simp, h⟩, if_neg h]
def rowQ (d : Dips) (best : Bool) (rem : Nat) (b : List Plc) (hr k : Nat) : List (List Plc) := (List.range k).flatMap fun j => plC d best rem (b ++ [pk hr j])
def plTo (d : Dips) (best : Bool) (rem : Nat) (b : List Plc) (hr : Nat) : List (List Plc) := (List.range hr).flatMap fun h => rowQ d best rem b h d.dippers.length
def accQ (d : Dips) (best : Bool) (rem : Nat) (b : List Plc) (L : List (List Plc)) (hr k : Nat) : List (List Plc) := L ++ plTo d best rem b hr ++ rowQ d best rem b hr k
theorem plR_succ (d : Dips) (best : Bool) (rem : Nat) (b : List Plc) : plR d best (rem + 1) b = plTo d best rem b d.hours.toNat := by
  simp only [plR, allPl, plTo, rowQ, List.flatMap_assoc, rowPl, List.flatMap_map, plC_snoc]
theorem accQ_zero (d : Dips) (best : Bool) (rem : Nat) (b : List Plc) (L : List (List Plc)) : accQ d best rem b L 0 0 = L := by simp [accQ, plTo, rowQ]
theorem accQ_succ (d : Dips) (best : Bool) (rem : Nat) (b : List Plc) (L : List (List Plc)) (hr k : Nat) : accQ d best rem b L hr (k + 1) = accQ d best rem b L hr k ++ plC d best rem (b ++ [pk hr k]) := by
  simp [accQ, rowQ, List.range_succ, List.append_assoc]
theorem accQ_next (d : Dips) (best : Bool) (rem : Nat) (b : List Plc) (L : List (List Plc)) (hr : Nat) : accQ d best rem b L hr d.dippers.length = accQ d best rem b L (hr + 1) 0 := by
  simp [accQ, plTo, rowQ, List.range_succ, List.append_assoc]
theorem accQ_all (d : Dips) (best : Bool) (rem : Nat) (b : List Plc) (L : List (List Plc)) (h : b ≠ [] → brokenR d b (b.length - 1) best = 0) : accQ d best rem b L d.hours.toNat 0 = L ++ plC d best (rem + 1) b := by
  rw [plC, if_neg (fun hh => hh.2 (h hh.1)), plR_succ]
  simp [accQ, rowQ]
theorem flat_le {α β : Type} (f : α → List β) (n : Nat) (l : List α) (h : ∀ x ∈ l, (f x).length ≤ n) : (l.flatMap f).length ≤ l.length * n := by
  induction l with
  | nil => simp
  | cons x l ih =>
    rw [List.flatMap_cons, List.length_append, List.length_cons, Nat.succ_mul]
    have h1 := h x (List.mem_cons_self ..)
    have h2 := ih (fun y hy => h y (List.mem_cons_of_mem _ hy))
    omega
theorem plC_le' {d : Dips} (best : Bool) (rem n : Nat) (b : List Plc) (h : (plR d best rem b).length ≤ n) : (plC d best rem b).length ≤ n := by
  unfold plC; split
  · simp
  · exact h
theorem plR_le {d : Dips} (hv : dipsB d = true) (best : Bool) : ∀ rem b, (plR d best rem b).length ≤ 12 ^ rem := by
  have hn := dips_num hv
  intro rem
  induction rem with
  | zero => intro b; simp [plR]
  | succ rem ih =>
    intro b
    rw [plR_succ, plTo]
    refine Nat.le_trans (flat_le _ (3 * 12 ^ rem) _ fun h _ => ?_) ?_
    · refine Nat.le_trans (flat_le _ (12 ^ rem) _ fun k _ => plC_le' best rem _ _ (ih _)) ?_
      rw [List.length_range]
      exact Nat.mul_le_mul_right _ hn.2.1
    · rw [List.length_range, Nat.pow_succ]
      have : d.hours.toNat ≤ 4 := by omega
      have := Nat.mul_le_mul_right (3 * 12 ^ rem) this
      omega
theorem plC_le {d : Dips} (hv : dipsB d = true) (best : Bool) (rem : Nat) (b : List Plc) : (plC d best rem b).length ≤ 12 ^ rem := plC_le' best rem _ b (plR_le hv best rem b)
theorem accQ_le {d : Dips} (hv : dipsB d = true) (best : Bool) (rem : Nat) (b : List Plc) (L : List (List Plc)) {hr k : Nat} (hh : hr < d.hours.toNat) (hk : k < d.dippers.length) (hL : L.length + 12 ^ (rem + 1) ≤ 248832) :
    (accQ d best rem b L hr k).length + 12 ^ rem ≤ 248832 := by
  have hn := dips_num hv
  have h1 : (plTo d best rem b hr).length ≤ hr * (3 * 12 ^ rem) := by
    have := flat_le (fun h => rowQ d best rem b h d.dippers.length) (3 * 12 ^ rem) (List.range hr) fun h _ => by
      refine Nat.le_trans (flat_le _ (12 ^ rem) _ fun k _ => plC_le hv best rem _) ?_
      rw [List.length_range]
      exact Nat.mul_le_mul_right _ hn.2.1
    rw [List.length_range] at this
    exact this
  have h2 : (rowQ d best rem b hr k).length ≤ k * 12 ^ rem := by
    have := flat_le (fun j => plC d best rem (b ++ [pk hr j])) (12 ^ rem) (List.range k) fun k _ => plC_le hv best rem _
    rw [List.length_range] at this
    exact this
  have h3 : hr ≤ 3 := by omega
  have h4 : k ≤ 2 := by omega
  have h5 := Nat.mul_le_mul_right (3 * 12 ^ rem) h3
  have h6 := Nat.mul_le_mul_right (12 ^ rem) h4
  rw [Nat.pow_succ] at hL
  simp only [accQ, List.length_append]
  omega
/-- plans in memory: a list of slices -/
structure OutR (D : Imm) (L : List (List Plc)) (vs : List Value) : Prop where
  len : vs.length = L.length
  at_ : ∀ i, i < L.length → ∃ a n c, vs[i]? = some (.slice a n c) ∧ PlanR D (gt L i) a n
theorem OutR.ext {w : World} {D D' : Imm} (hD : DExt w D D') {L : List (List Plc)} {vs : List Value} (h : OutR D L vs) : OutR D' L vs :=
  ⟨h.len, fun i hi => let ⟨a, n, c, h1, h2⟩ := h.at_ i hi; ⟨a, n, c, h1, h2.ext hD⟩⟩
theorem OutR.nil (D : Imm) : OutR D [] [] := ⟨rfl, fun i hi => by simp at hi⟩
theorem OutR.snoc {D : Imm} {L : List (List Plc)} {vs : List Value} {l : List Plc} {a : Option Addr} {n c : Nat} (h : OutR D L vs) (hP : PlanR D l a n) : OutR D (L ++ [l]) (vs ++ [.slice a n c]) := by
  refine ⟨by simp [h.len], fun i hi => ?_⟩
  rw [List.length_append, List.length_singleton] at hi
  by_cases e : i < L.length
  · obtain ⟨a', n', c', h1, h2⟩ := h.at_ i e
    refine ⟨a', n', c', ?_, ?_⟩
    · rw [List.getElem?_append_left (by rw [h.len]; exact e)]; exact h1
    · rw [gt_app_lt _ _ _ e]; exact h2
  · have : i = L.length := by omega
    subst this
    refine ⟨a, n, c, ?_, ?_⟩
    · rw [← h.len]; simp
    · rw [gt_app_at]; exact hP
def PlK (d : Dips) (best : Bool) (rem : Nat) (b : List Plc) (L : List (List Plc)) (v : Value) (D' : Imm) (hpc' : Hp) : Prop :=
  ∃ (vs' : List Value) (o' : Option Ow), v = owV o' vs'.length ∧ OutR D' (L ++ plC d best rem b) vs' ∧ owL o' vs'.length 1 ∧ hpc' = owH o' 26 vs' []
theorem PlanR_snoc {D : Imm} {u : Nat} {t : TypeId} {fz : Nat × Nat} {b : List Plc} {x : Plc} {rest : List Value} {n : Nat} (hD : D u = some (.cells (b.flatMap placeC ++ placeC x ++ rest).toArray t fz)) (hn : n = b.length + 1) (hl : n ≤ 1000) : PlanR D (b ++ [x]) (some ⟨u, 0, none⟩) n := by
  refine PlanR.ofBlock (t := t) (fz := fz) (rest := rest) ?_ n (by simp [hn]) hl
  rw [List.flatMap_append]
  simpa using hD
end Go.Proofs.Ytidjdonppfegiaa
/- Sets by their size: the first that suits; the most, the fewest, and why, as the document seeks them and as they are found. -/
namespace Go.Proofs.Ytidjdonppfegiaa
open Go.W Go.Dp
def bef (x y : Nat) : Prop := pop x < pop y ∨ (pop x = pop y ∧ x < y)
instance (x y : Nat) : Decidable (bef x y) := by unfold bef; infer_instance
theorem bef_irr (x : Nat) : ¬ bef x x := by unfold bef; omega
theorem bef_asymm {x y : Nat} (h : bef x y) : ¬ bef y x := by unfold bef at *; omega
theorem bef_trans {x y z : Nat} (h : bef x y) (k : bef y z) : bef x z := by unfold bef at *; omega
theorem bef_tri {x y : Nat} (h : ¬ bef x y) (k : ¬ bef y x) : x = y := by unfold bef at *; omega
def setsOkB (k : Nat) : Bool := decide (∀ i, i < 2 ^ k → gt (setsL k) i < 2 ^ k) && decide (∀ i, i < 2 ^ k → ∀ j, j < 2 ^ k → i < j → bef (gt (setsL k) i) (gt (setsL k) j)) && decide (∀ s, s < 2 ^ k → s ∈ setsL k) && decide ((setsL k).length = 2 ^ k)
theorem setsOk (k : Nat) (hk : k ≤ 5) : (∀ i, i < 2 ^ k → gt (setsL k) i < 2 ^ k) ∧ (∀ i, i < 2 ^ k → ∀ j, j < 2 ^ k → i < j → bef (gt (setsL k) i) (gt (setsL k) j)) ∧ (∀ s, s < 2 ^ k → s ∈ setsL k) ∧ (setsL k).length = 2 ^ k := by
  have h : setsOkB k = true := by
    rcases (show k = 0 ∨ k = 1 ∨ k = 2 ∨ k = 3 ∨ k = 4 ∨ k = 5 by omega) with rfl | rfl | rfl | rfl | rfl | rfl <;> kernel_rfl
  simp only [setsOkB, Bool.and_eq_true, decide_eq_true_eq] at h
  exact ⟨h.1.1.1, h.1.1.2, h.1.2, h.2⟩
theorem sets_at {k : Nat} (hk : k ≤ 5) {s : Nat} (hs : s < 2 ^ k) : ∃ i, i < 2 ^ k ∧ gt (setsL k) i = s := by
  obtain ⟨_, _, h3, h4⟩ := setsOk k hk
  obtain ⟨i, hi, he⟩ := List.getElem_of_mem (h3 s hs)
  refine ⟨i, by omega, ?_⟩
  simp [gt, List.getD, hi, he]
theorem fstP_some {k : Nat} (hk : k ≤ 5) {p : Nat → Bool} (h : (fstP (setsL k) p).2 = true) : p (fstP (setsL k) p).1 = true ∧ (fstP (setsL k) p).1 < 2 ^ k ∧ ∀ t, t < 2 ^ k → p t = true → ¬ bef t (fstP (setsL k) p).1 := by
  obtain ⟨h1, h2, h3, h4⟩ := setsOk k hk
  unfold fstP at *
  cases hf : (setsL k).find? p with
  | none => rw [hf] at h; cases h
  | some x =>
    dsimp only
    obtain ⟨hp, i, hi, hx, hb⟩ := List.find?_eq_some_iff_getElem.1 hf
    have hxi : gt (setsL k) i = x := by simp [gt, List.getD, hi, hx]
    refine ⟨hp, by rw [← hxi]; exact h1 i (by omega), fun t ht hpt hbf => ?_⟩
    obtain ⟨j, hj, rfl⟩ := sets_at hk ht
    rw [← hxi] at hbf
    rcases Nat.lt_trichotomy i j with e | e | e
    · exact bef_asymm hbf (h2 i (by omega) j hj e)
    · subst e; exact bef_irr _ hbf
    · have := hb j e
      have hg : gt (setsL k) j = (setsL k)[j] := by simp [gt, List.getD, show j < (setsL k).length by omega]
      rw [← hg, hpt] at this
      cases this
theorem fstP_none {k : Nat} (hk : k ≤ 5) {p : Nat → Bool} (h : (fstP (setsL k) p).2 = false) : ∀ t, t < 2 ^ k → p t = false := by
  obtain ⟨h1, h2, h3, h4⟩ := setsOk k hk
  unfold fstP at h
  cases hf : (setsL k).find? p with
  | none =>
    intro t ht
    have := List.find?_eq_none.1 hf t (h3 t ht)
    simpa using this
  | some x => rw [hf] at h; cases h
theorem fstP_none' {k : Nat} (hk : k ≤ 5) {p : Nat → Bool} (h : ∀ t, t < 2 ^ k → p t = false) : (fstP (setsL k) p).2 = false := by
  cases hc : (fstP (setsL k) p).2 with
  | false => rfl
  | true =>
    obtain ⟨h1, h2, _⟩ := fstP_some hk hc
    rw [h _ h2] at h1
    cases h1
/-! ### the most -/
def canW (d : Dips) (s : Nat) : Bool := (planP (withB d s) false).isSome
theorem canW_zero (d : Dips) : canW d 0 = true := by
  have e : withB d 0 = ⟨d.hours, d.dippers, []⟩ := by
    unfold withB
    congr 1
    have : ∀ k, bTo d 0 k = [] := by
      intro k; induction k with
      | zero => rfl
      | succ k ih => simp only [bTo]; rw [if_neg (by simp), ih]
    exact this _
  unfold canW
  rw [e]; rfl
def MostC (d : Dips) (s : Nat) : Prop := canW d s = true ∧ s < 2 ^ d.bathers.length ∧ ∀ t, t < 2 ^ d.bathers.length → canW d t = true → pop t ≤ pop s ∧ (pop t = pop s → s ≤ t)
theorem MostC_uniq {d : Dips} {s t : Nat} (h : MostC d s) (k : MostC d t) : s = t := by
  have h1 := h.2.2 t k.2.1 k.1
  have h2 := k.2.2 s h.2.1 h.1
  have e : pop t = pop s := by omega
  have := h1.2 e
  have := h2.2 e.symm
  omega
theorem mostTo_inv {d : Dips} (h5 : d.bathers.length ≤ 5) : ∀ k, k ≤ 2 ^ d.bathers.length → (mostTo d k).1 = pop (mostTo d k).2 ∧ canW d (mostTo d k).2 = true ∧ ((mostTo d k).2 = 0 ∨ ∃ i, i < k ∧ (mostTo d k).2 = gt (setsL d.bathers.length) i) ∧
    ∀ i, i < k → canW d (gt (setsL d.bathers.length) i) = true → pop (gt (setsL d.bathers.length) i) ≤ (mostTo d k).1 ∧ (pop (gt (setsL d.bathers.length) i) = (mostTo d k).1 → (mostTo d k).2 ≤ gt (setsL d.bathers.length) i) := by
  obtain ⟨h1, h2, h3, h4⟩ := setsOk _ h5
  intro k
  induction k with
  | zero => intro _; exact ⟨show 0 = pop 0 by decide, canW_zero d, .inl rfl, fun i hi => by omega⟩
  | succ k ih =>
    intro hk
    obtain ⟨i1, i2, i3, i4⟩ := ih (by omega)
    simp only [mostTo]
    split
    · rename_i hc
      refine ⟨rfl, hc.2, .inr ⟨k, by omega, rfl⟩, fun i hi hci => ?_⟩
      rcases Nat.lt_succ_iff_lt_or_eq.1 hi with e | e
      · have := i4 i e hci
        dsimp only; exact ⟨by omega, fun h => by omega⟩
      · subst e; exact ⟨Nat.le_refl _, fun _ => Nat.le_refl _⟩
    · rename_i hc
      refine ⟨i1, i2, ?_, fun i hi hci => ?_⟩
      · rcases i3 with e | ⟨i, hi, e⟩
        · exact .inl e
        · exact .inr ⟨i, by omega, e⟩
      · rcases Nat.lt_succ_iff_lt_or_eq.1 hi with e | e
        · exact i4 i e hci
        · subst e
          have hle : ¬ (mostTo d i).1 < pop (gt (setsL d.bathers.length) i) := fun h => hc ⟨h, hci⟩
          refine ⟨by omega, fun hp => ?_⟩
          rcases i3 with e | ⟨j, hj, e⟩
          · rw [e]; exact Nat.zero_le _
          · have hb := h2 j (by omega) i (by omega) hj
            rw [← e] at hb
            unfold bef at hb
            omega
theorem mostTo_char {d : Dips} (h5 : d.bathers.length ≤ 5) : MostC d (mostTo d (2 ^ d.bathers.length)).2 ∧ (mostTo d (2 ^ d.bathers.length)).1 = pop (mostTo d (2 ^ d.bathers.length)).2 := by
  obtain ⟨h1, _, _, _⟩ := setsOk _ h5
  obtain ⟨i1, i2, i3, i4⟩ := mostTo_inv h5 (2 ^ d.bathers.length) (Nat.le_refl _)
  refine ⟨⟨i2, ?_, fun t ht hc => ?_⟩, i1⟩
  · rcases i3 with e | ⟨i, hi, e⟩
    · rw [e]; exact Nat.pow_pos (by omega)
    · rw [e]; exact h1 i hi
  · obtain ⟨i, hi, rfl⟩ := sets_at h5 ht
    have := i4 i hi hc
    rw [i1] at this
    exact this
def mostRTo (d : Dips) : Nat → Nat
  | 0 => 0
  | k + 1 => if pop (mostRTo d k) < pop k ∧ canW d k = true then k else mostRTo d k
theorem mostRTo_char (d : Dips) : ∀ k, canW d (mostRTo d k) = true ∧ (mostRTo d k = 0 ∨ mostRTo d k < k) ∧ ∀ t, t < k → canW d t = true → pop t ≤ pop (mostRTo d k) ∧ (pop t = pop (mostRTo d k) → mostRTo d k ≤ t) := by
  intro k
  induction k with
  | zero => exact ⟨canW_zero d, .inl rfl, fun t ht => by omega⟩
  | succ k ih =>
    obtain ⟨i1, i2, i3⟩ := ih
    simp only [mostRTo]
    split
    · rename_i hc
      refine ⟨hc.2, .inr (by omega), fun t ht hct => ?_⟩
      rcases Nat.lt_succ_iff_lt_or_eq.1 ht with e | e
      · have := i3 t e hct; exact ⟨by omega, fun h => by omega⟩
      · subst e; exact ⟨Nat.le_refl _, fun _ => Nat.le_refl _⟩
    · rename_i hc
      refine ⟨i1, by omega, fun t ht hct => ?_⟩
      rcases Nat.lt_succ_iff_lt_or_eq.1 ht with e | e
      · exact i3 t e hct
      · subst e
        have : ¬ pop (mostRTo d t) < pop t := fun h => hc ⟨h, hct⟩
        exact ⟨by omega, fun _ => by omega⟩
theorem most_eq {d : Dips} (h5 : d.bathers.length ≤ 5) : mostTo d (2 ^ d.bathers.length) = (pop (mostRTo d (2 ^ d.bathers.length)), mostRTo d (2 ^ d.bathers.length)) := by
  obtain ⟨h1, h2⟩ := mostTo_char h5
  obtain ⟨i1, i2, i3⟩ := mostRTo_char d (2 ^ d.bathers.length)
  have hp : 0 < 2 ^ d.bathers.length := Nat.pow_pos (by omega)
  have e := MostC_uniq h1 ⟨i1, by omega, i3⟩
  rw [← e, ← h2]
/-! ### why -/
def whyRTo (d : Dips) : Nat → Nat
  | 0 => 2 ^ d.bathers.length - 1
  | k + 1 => if pop k < pop (whyRTo d k) ∧ canW d k = false then k else whyRTo d k
def popFullB (n : Nat) : Bool := decide (∀ x, x < 2 ^ n → x ≠ 2 ^ n - 1 → pop x < pop (2 ^ n - 1))
theorem pop_full (n : Nat) (hn : n ≤ 5) : ∀ x, x < 2 ^ n → x ≠ 2 ^ n - 1 → pop x < pop (2 ^ n - 1) := by
  have h : popFullB n = true := by
    rcases (show n = 0 ∨ n = 1 ∨ n = 2 ∨ n = 3 ∨ n = 4 ∨ n = 5 by omega) with rfl | rfl | rfl | rfl | rfl | rfl <;> kernel_rfl
  simpa only [popFullB, decide_eq_true_eq] using h
theorem whyRTo_char {d : Dips} (h5 : d.bathers.length ≤ 5) (hf : canW d (2 ^ d.bathers.length - 1) = false) : ∀ k, k ≤ 2 ^ d.bathers.length → canW d (whyRTo d k) = false ∧ (whyRTo d k = 2 ^ d.bathers.length - 1 ∨ whyRTo d k < k) ∧ ∀ t, t < k → canW d t = false → ¬ bef t (whyRTo d k) := by
  intro k
  induction k with
  | zero => intro _; exact ⟨hf, .inl rfl, fun t ht => by omega⟩
  | succ k ih =>
    intro hk
    obtain ⟨i1, i2, i3⟩ := ih (by omega)
    simp only [whyRTo]
    split
    · rename_i hc
      refine ⟨hc.2, .inr (by omega), fun t ht hct => ?_⟩
      rcases Nat.lt_succ_iff_lt_or_eq.1 ht with e | e
      · have := i3 t e hct; unfold bef at *; omega
      · subst e; exact bef_irr _
    · rename_i hc
      refine ⟨i1, by omega, fun t ht hct => ?_⟩
      rcases Nat.lt_succ_iff_lt_or_eq.1 ht with e | e
      · exact i3 t e hct
      · subst e
        have h1 : ¬ pop t < pop (whyRTo d t) := fun h => hc ⟨h, hct⟩
        rcases i2 with e2 | e2
        · by_cases e3 : t = 2 ^ d.bathers.length - 1
          · rw [e2, ← e3]; exact bef_irr _
          · have := pop_full _ h5 t (by omega) e3
            rw [e2] at h1; omega
        · unfold bef; omega
theorem why_some {d : Dips} (h5 : d.bathers.length ≤ 5) (hf : canW d (2 ^ d.bathers.length - 1) = false) : fstP (setsL d.bathers.length) (cantB d) = (whyRTo d (2 ^ d.bathers.length), true) := by
  have hp : 0 < 2 ^ d.bathers.length := Nat.pow_pos (by omega)
  have hcb : ∀ t, cantB d t = !canW d t := fun t => rfl
  cases hc : (fstP (setsL d.bathers.length) (cantB d)).2 with
  | false =>
    have := fstP_none h5 hc (2 ^ d.bathers.length - 1) (by omega)
    rw [hcb, hf] at this; cases this
  | true =>
    obtain ⟨h1, h2, h3⟩ := fstP_some h5 hc
    obtain ⟨i1, i2, i3⟩ := whyRTo_char h5 hf (2 ^ d.bathers.length) (Nat.le_refl _)
    rw [hcb] at h1
    have h1' : canW d (fstP (setsL d.bathers.length) (cantB d)).1 = false := by simpa using h1
    have e : (fstP (setsL d.bathers.length) (cantB d)).1 = whyRTo d (2 ^ d.bathers.length) :=
      bef_tri (i3 _ h2 h1') (h3 _ (by omega) (by rw [hcb, i1]; rfl))
    rw [← e, ← hc]
end Go.Proofs.Ytidjdonppfegiaa
/- A plan for some of the bathers; a plan with some of the dippers; the document's Plan, Hope, Fewest, Most and Why are what is found. -/
namespace Go.Proofs.Ytidjdonppfegiaa
open Go.W Go.Dp
def sbTo {α : Type} [Inhabited α] (l : List α) (s : Nat) : Nat → List α
  | 0 => []
  | k + 1 => if s / 2 ^ k % 2 = 1 then sbTo l s k ++ [gt l k] else sbTo l s k
def cntS (s : Nat) : Nat → Nat
  | 0 => 0
  | k + 1 => if s / 2 ^ k % 2 = 1 then cntS s k + 1 else cntS s k
theorem bTo_eq (d : Dips) (s : Nat) : ∀ k, bTo d s k = sbTo d.bathers s k := by
  intro k; induction k with
  | zero => rfl
  | succ k ih => simp only [bTo, sbTo, ih]
section
variable {α : Type} [Inhabited α] (l : List α) (s : Nat)
theorem sbTo_len : ∀ k, (sbTo l s k).length = cntS s k := by
  intro k; induction k with
  | zero => rfl
  | succ k ih => simp only [sbTo, cntS]; split
                 · rw [List.length_append, List.length_singleton, ih]
                 · exact ih
theorem cntS_mono (k : Nat) : ∀ n, cntS s k ≤ cntS s (k + n) := by
  intro n; induction n with
  | zero => exact Nat.le_refl _
  | succ n ih => rw [← Nat.add_assoc]; simp only [cntS]; split <;> omega
theorem sbTo_pre (k : Nat) : ∀ n i, i < cntS s k → gt (sbTo l s (k + n)) i = gt (sbTo l s k) i := by
  intro n; induction n with
  | zero => intro i _; rfl
  | succ n ih =>
    intro i hi
    rw [← Nat.add_assoc]
    simp only [sbTo]
    split
    · rw [gt_app_lt _ _ _ (by rw [sbTo_len]; have := cntS_mono s k n; omega)]; exact ih i hi
    · exact ih i hi
theorem sbTo_at {k n : Nat} (hk : k < n) (hb : s / 2 ^ k % 2 = 1) : gt (sbTo l s n) (cntS s k) = gt l k := by
  have e : n = (k + 1) + (n - (k + 1)) := by omega
  have h1 : cntS s (k + 1) = cntS s k + 1 := if_pos hb
  rw [e, sbTo_pre l s (k + 1) (n - (k + 1)) (cntS s k) (by omega)]
  simp only [sbTo]
  rw [if_pos hb, ← sbTo_len l s k, gt_app_at]
theorem cntS_inv : ∀ n i, i < cntS s n → ∃ k, k < n ∧ s / 2 ^ k % 2 = 1 ∧ cntS s k = i := by
  intro n; induction n with
  | zero => intro i hi; exact absurd hi (Nat.not_lt_zero _)
  | succ n ih =>
    intro i hi
    simp only [cntS] at hi
    split at hi
    · rename_i hb
      by_cases e : i = cntS s n
      · exact ⟨n, by omega, hb, e.symm⟩
      · obtain ⟨k, h1, h2, h3⟩ := ih i (by omega); exact ⟨k, by omega, h2, h3⟩
    · obtain ⟨k, h1, h2, h3⟩ := ih i hi; exact ⟨k, by omega, h2, h3⟩
end
theorem leftR_sub {d : Dips} (hv : dipsB d = true) (best : Bool) (l : List Plc) (s : Nat) (x : Plc) : ∀ k, k ≤ d.bathers.length → leftR d l best x k ≤ leftR (withB d s) (sbTo l s d.bathers.length) best x (cntS s k) := by
  intro k
  induction k with
  | zero => intro _; exact Int.le_refl _
  | succ k ih =>
    intro hk
    have h1 := ih (by omega)
    have h2 := need_num hv best (i := k) (by omega)
    by_cases hb : s / 2 ^ k % 2 = 1
    · have e : cntS s (k + 1) = cntS s k + 1 := if_pos hb
      rw [e]
      simp only [leftR]
      have e1 := sbTo_at l s (n := d.bathers.length) (by omega) hb
      have e2 : gt (withB d s).bathers (cntS s k) = gt d.bathers k := by
        show gt (bTo d s d.bathers.length) (cntS s k) = _
        rw [bTo_eq]; exact sbTo_at d.bathers s (by omega) hb
      rw [e1, e2]
      omega
    · have e : cntS s (k + 1) = cntS s k := if_neg hb
      rw [e]
      simp only [leftR]
      split <;> omega
theorem brokenR_zero {d : Dips} {l : List Plc} {i : Nat} {best : Bool} : brokenR d l i best = 0 ↔ hasB (gt d.bathers i).hours (gt l i).hour = true ∧ hasB (gt d.dippers (gt l i).dipper.toNat).hours (gt l i).hour = true ∧ 0 ≤ leftR d l best (gt l i) (i + 1) := by
  unfold brokenR
  split
  · rename_i h
    refine ⟨fun h => by omega, fun hh => ?_⟩
    rw [hh.1, hh.2.1] at h
    simp at h
  · rename_i h
    have h1 : hasB (gt d.bathers i).hours (gt l i).hour = true := by
      cases hc : hasB (gt d.bathers i).hours (gt l i).hour with
      | false => exact absurd (.inl hc) h
      | true => rfl
    have h2 : hasB (gt d.dippers (gt l i).dipper.toNat).hours (gt l i).hour = true := by
      cases hc : hasB (gt d.dippers (gt l i).dipper.toNat).hours (gt l i).hour with
      | false => exact absurd (.inr hc) h
      | true => rfl
    split
    · exact ⟨fun h => by omega, fun hh => by omega⟩
    · exact ⟨fun _ => ⟨h1, h2, by omega⟩, fun _ => rfl⟩
theorem good_sub {d : Dips} (hv : dipsB d = true) {best : Bool} {l : List Plc} (h : Good d best l) (s : Nat) : Good (withB d s) best (sbTo l s d.bathers.length) := by
  obtain ⟨h1, h2, h3⟩ := h
  have hln : (sbTo l s d.bathers.length).length = (withB d s).bathers.length := by
    show _ = (bTo d s d.bathers.length).length
    rw [bTo_eq, sbTo_len, sbTo_len]
  refine ⟨hln, fun j hj => ?_, fun i hi => ?_⟩
  · rw [sbTo_len] at hj
    obtain ⟨k, k1, k2, rfl⟩ := cntS_inv s _ j hj
    rw [sbTo_at l s k1 k2]
    exact h2 k (by omega)
  · rw [sbTo_len] at hi
    obtain ⟨k, k1, k2, rfl⟩ := cntS_inv s _ i hi
    obtain ⟨g1, g2, g3⟩ := brokenR_zero.1 (h3 k (by omega))
    refine brokenR_zero.2 ?_
    rw [sbTo_at l s k1 k2]
    refine ⟨?_, g2, ?_⟩
    · have e2 : gt (withB d s).bathers (cntS s k) = gt d.bathers k := by
        show gt (bTo d s d.bathers.length) (cntS s k) = _
        rw [bTo_eq]; exact sbTo_at d.bathers s k1 k2
      rw [e2]; exact g1
    · have := leftR_sub hv best l s (gt l k) (k + 1) (by omega)
      have e : cntS s (k + 1) = cntS s k + 1 := if_pos k2
      rw [e] at this
      omega
theorem sbTo_all {α : Type} [Inhabited α] (l : List α) (s : Nat) : ∀ k, k ≤ l.length → (∀ i, i < k → s / 2 ^ i % 2 = 1) → sbTo l s k = l.take k := by
  intro k
  induction k with
  | zero => intro _ _; simp [sbTo]
  | succ k ih =>
    intro hk h
    simp only [sbTo]
    rw [if_pos (h k (by omega)), ih (by omega) (fun i hi => h i (by omega)), List.take_succ_eq_append_getElem (by omega)]
    congr 1
    simp [gt, List.getD, show k < l.length by omega]
def fullB (n : Nat) : Bool := decide (∀ i, i < n → (2 ^ n - 1) / 2 ^ i % 2 = 1)
theorem full_bits (n : Nat) (hn : n ≤ 5) : ∀ i, i < n → (2 ^ n - 1) / 2 ^ i % 2 = 1 := by
  have h : fullB n = true := by
    rcases (show n = 0 ∨ n = 1 ∨ n = 2 ∨ n = 3 ∨ n = 4 ∨ n = 5 by omega) with rfl | rfl | rfl | rfl | rfl | rfl <;> kernel_rfl
  simpa only [fullB, decide_eq_true_eq] using h
theorem withB_full {d : Dips} (h5 : d.bathers.length ≤ 5) : withB d (2 ^ d.bathers.length - 1) = d := by
  unfold withB
  rw [bTo_eq, sbTo_all _ _ _ (Nat.le_refl _) (full_bits _ h5), List.take_length]
theorem canW_full {d : Dips} (h5 : d.bathers.length ≤ 5) : canW d (2 ^ d.bathers.length - 1) = (planP d false).isSome := by
  unfold canW; rw [withB_full h5]
theorem canW_all {d : Dips} (hv : dipsB d = true) (h : (planP d false).isSome = true) (s : Nat) : canW d s = true := by
  obtain ⟨l, hl⟩ := (planP_some hv false).1 h
  exact (planP_some (withB_ok hv s) false).2 ⟨_, good_sub hv hl s⟩
theorem isSome_plans {d : Dips} (hv : dipsB d = true) (best : Bool) : (planP d best).isSome = decide ((plansR d best).length ≠ 0) := by
  rw [planP_head hv]
  cases plansR d best <;> simp
def WhyRef (d : Dips) : Int × Int := if dipsB d = false then (0, 1) else if (plansR d false).length ≠ 0 then (0, 4) else ((whyRTo d (2 ^ d.bathers.length) : Nat), 0)
theorem why_eq (d : Dips) : WhyOut d = WhyRef d := by
  unfold WhyOut WhyRef
  cases hv : dipsB d with
  | false => rfl
  | true =>
    have h5 := (dips_num hv).2.2.1
    have hi := isSome_plans hv false
    simp only [Bool.true_eq_false, if_false]
    by_cases hp : (plansR d false).length ≠ 0
    · rw [if_pos hp]
      have hs : (planP d false).isSome = true := by rw [hi]; exact decide_eq_true hp
      have : (fstP (setsL d.bathers.length) (cantB d)).2 = false := fstP_none' h5 fun t _ => by
        show (!canW d t) = false
        rw [canW_all hv hs t]; rfl
      rw [this]; rfl
    · rw [if_neg hp]
      have hs : (planP d false).isSome = false := by rw [hi]; exact decide_eq_false hp
      rw [why_some h5 (by rw [canW_full h5, hs])]; rfl
def MostRef (d : Dips) : Int × Int × Int := if dipsB d = false then (0, 0, 1) else ((pop (mostRTo d (2 ^ d.bathers.length)) : Nat), (mostRTo d (2 ^ d.bathers.length) : Nat), 0)
theorem mostOut_eq (d : Dips) : MostOut d = MostRef d := by
  unfold MostOut MostRef
  cases hv : dipsB d with
  | false => rfl
  | true => rw [most_eq (dips_num hv).2.2.1]
theorem PlanOut_nil {d : Dips} (hv : dipsB d = true) (h : plansR d false = []) : PlanOut d = ([], 4) := by
  unfold PlanOut; rw [planP_head hv, h, hv]; rfl
theorem PlanOut_cons {d : Dips} (hv : dipsB d = true) {l : List Plc} {r : List (List Plc)} (h : plansR d false = l :: r) : PlanOut d = (l, 0) := by
  unfold PlanOut; rw [planP_head hv, h, hv]; rfl
/-! ### the fewest -/
def usedTo (l : List Plc) : Nat → Nat
  | 0 => 0
  | k + 1 => if usedTo l k / 2 ^ (gt l k).dipper.toNat % 2 = 1 then usedTo l k else usedTo l k + 2 ^ (gt l k).dipper.toNat
def usedR (l : List Plc) : Nat := usedTo l l.length
def bitB (u j : Nat) : Bool := u / 2 ^ j % 2 == 1
def addBitB : Bool := (List.range 8).all fun u => (List.range 3).all fun j => bitB u j || (decide (u + 2 ^ j < 8) && (List.range 3).all fun i => bitB (u + 2 ^ j) i == (bitB u i || i == j))
theorem addBit (u : Nat) (hu : u < 8) (j : Nat) (hj : j < 3) (hb : ¬ u / 2 ^ j % 2 = 1) : u + 2 ^ j < 8 ∧ ∀ i, i < 3 → ((u + 2 ^ j) / 2 ^ i % 2 = 1 ↔ (u / 2 ^ i % 2 = 1 ∨ i = j)) := by
  have h : addBitB = true := by kernel_rfl
  have h1 := List.all_eq_true.1 (List.all_eq_true.1 h u (List.mem_range.2 hu)) j (List.mem_range.2 hj)
  have hbf : bitB u j = false := by simpa [bitB] using hb
  rw [hbf, Bool.false_or, Bool.and_eq_true, decide_eq_true_eq] at h1
  refine ⟨h1.1, fun i hi => ?_⟩
  have h2 := List.all_eq_true.1 h1.2 i (List.mem_range.2 hi)
  have h3 : bitB (u + 2 ^ j) i = (bitB u i || i == j) := by simpa using h2
  have h4 : bitB (u + 2 ^ j) i = true ↔ (bitB u i || i == j) = true := by rw [h3]
  simpa [bitB] using h4
def Dip3 (l : List Plc) : Prop := ∀ i, i < l.length → 0 ≤ (gt l i).dipper ∧ (gt l i).dipper < 3
theorem usedTo_bit {l : List Plc} (h : Dip3 l) : ∀ k, k ≤ l.length → usedTo l k < 8 ∧ ∀ j, j < 3 → (usedTo l k / 2 ^ j % 2 = 1 ↔ ∃ i, i < k ∧ (gt l i).dipper.toNat = j) := by
  intro k
  induction k with
  | zero => intro _; exact ⟨by simp [usedTo], fun j hj => ⟨fun h => by simp [usedTo] at h, fun ⟨i, hi, _⟩ => by omega⟩⟩
  | succ k ih =>
    intro hk
    obtain ⟨i1, i2⟩ := ih (by omega)
    have hd := h k (by omega)
    simp only [usedTo]
    split
    · rename_i hb
      refine ⟨i1, fun j hj => (i2 j hj).trans ⟨fun ⟨i, a, b⟩ => ⟨i, by omega, b⟩, fun ⟨i, a, b⟩ => ?_⟩⟩
      by_cases e : i = k
      · subst e; rw [b] at hb; exact (i2 j hj).1 hb
      · exact ⟨i, by omega, b⟩
    · rename_i hb
      obtain ⟨a1, a2⟩ := addBit _ i1 (gt l k).dipper.toNat (by omega) hb
      refine ⟨a1, fun j hj => (a2 j hj).trans ?_⟩
      rw [i2 j hj]
      constructor
      · rintro (⟨i, a, b⟩ | e)
        · exact ⟨i, by omega, b⟩
        · exact ⟨k, by omega, e.symm⟩
      · rintro ⟨i, a, b⟩
        by_cases e : i = k
        · subst e; exact .inr b.symm
        · exact .inl ⟨i, by omega, b⟩
def subB (u s : Nat) : Prop := ∀ j, j < 3 → u / 2 ^ j % 2 = 1 → s / 2 ^ j % 2 = 1
def subPopB : Bool := decide (∀ u, u < 8 → ∀ s, s < 8 → (∀ j, j < 3 → u / 2 ^ j % 2 = 1 → s / 2 ^ j % 2 = 1) → u = s ∨ pop u < pop s)
theorem sub_pop {u s : Nat} (hu : u < 8) (hs : s < 8) (h : subB u s) : u = s ∨ pop u < pop s := by
  have h0 : subPopB = true := by kernel_rfl
  have h1 : ∀ u, u < 8 → ∀ s, s < 8 → (∀ j, j < 3 → u / 2 ^ j % 2 = 1 → s / 2 ^ j % 2 = 1) → u = s ∨ pop u < pop s := by simpa only [subPopB, decide_eq_true_eq] using h0
  exact h1 u hu s hs h
theorem leftR_by {d : Dips} {l : List Plc} {s : Nat} (best : Bool) (x : Plc) (hx : x.dipper.toNat < d.dippers.length) : ∀ k, leftR (byB d s) l best x k = leftR d l best x k := by
  intro k
  induction k with
  | zero =>
    simp only [leftR]
    show hands0 best (gt (byL d.dippers s d.dippers.length) x.dipper.toNat) = _
    rw [byL_at _ _ _ _ (Nat.le_refl _)]
    split <;> rfl
  | succ k ih => simp only [leftR]; rw [ih]; rfl
theorem good_by {d : Dips} {best : Bool} {l : List Plc} {s : Nat} : Good (byB d s) best l ↔ Good d best l ∧ ∀ i, i < l.length → s / 2 ^ (gt l i).dipper.toNat % 2 = 1 := by
  have hlen : (byB d s).dippers.length = d.dippers.length := byL_len _ _ _
  have hpl : PlOk (byB d s) l ↔ PlOk d l := by unfold PlOk; rw [hlen]; rfl
  have hbr : ∀ i, i < l.length → PlOk d l → (brokenR (byB d s) l i best = 0 ↔ brokenR d l i best = 0 ∧ s / 2 ^ (gt l i).dipper.toNat % 2 = 1) := fun i hi hq => by
    have hx := hq i hi
    rw [brokenR_zero, brokenR_zero, leftR_by best _ (by omega)]
    show (hasB (gt d.bathers i).hours _ = true ∧ hasB (gt (byL d.dippers s d.dippers.length) (gt l i).dipper.toNat).hours _ = true ∧ _) ↔ _
    rw [byL_at _ _ _ _ (Nat.le_refl _)]
    by_cases hb : s / 2 ^ (gt l i).dipper.toNat % 2 = 1
    · rw [if_neg (fun hh => hh.2 hb)]
      exact ⟨fun h => ⟨h, hb⟩, fun h => h.1⟩
    · rw [if_pos ⟨by omega, hb⟩]
      refine ⟨fun h => ?_, fun h => absurd h.2 hb⟩
      have := h.2.1
      simp [hasB] at this
  constructor
  · rintro ⟨h1, h2, h3⟩
    have h2' := hpl.1 h2
    exact ⟨⟨h1, h2', fun i hi => ((hbr i hi h2').1 (h3 i hi)).1⟩, fun i hi => ((hbr i hi h2').1 (h3 i hi)).2⟩
  · rintro ⟨⟨h1, h2, h3⟩, h4⟩
    exact ⟨h1, hpl.2 h2, fun i hi => (hbr i hi h2).2 ⟨h3 i hi, h4 i hi⟩⟩
theorem good_dip3 {d : Dips} (hv : dipsB d = true) {best : Bool} {l : List Plc} (h : Good d best l) : Dip3 l := fun i hi => by
  have := h.2.1 i hi
  have := (dips_num hv).2.1
  omega
theorem used_bit {l : List Plc} (h : Dip3 l) : usedR l < 8 ∧ ∀ j, j < 3 → (usedR l / 2 ^ j % 2 = 1 ↔ ∃ i, i < l.length ∧ (gt l i).dipper.toNat = j) := usedTo_bit h _ (Nat.le_refl _)
theorem byCan_iff {d : Dips} (hv : dipsB d = true) (s : Nat) : byCan d s = true ↔ ∃ l, Good d false l ∧ subB (usedR l) s := by
  unfold byCan
  rw [planP_some (byB_ok hv s)]
  constructor
  · rintro ⟨l, hl⟩
    obtain ⟨h1, h2⟩ := good_by.1 hl
    refine ⟨l, h1, fun j hj hb => ?_⟩
    obtain ⟨i, hi, e⟩ := ((used_bit (good_dip3 hv h1)).2 j hj).1 hb
    rw [← e]; exact h2 i hi
  · rintro ⟨l, h1, h2⟩
    refine ⟨l, good_by.2 ⟨h1, fun i hi => ?_⟩⟩
    have h3 := good_dip3 hv h1 i hi
    exact h2 _ (by omega) (((used_bit (good_dip3 hv h1)).2 _ (by omega)).2 ⟨i, hi, rfl⟩)
def usedLtB (n : Nat) : Bool := decide (∀ u, u < 8 → (∀ j, j < 3 → u / 2 ^ j % 2 = 1 → j < n) → u < 2 ^ n)
theorem used_lt {d : Dips} (hv : dipsB d = true) {l : List Plc} (h : Good d false l) : usedR l < 2 ^ d.dippers.length := by
  have hn := (dips_num hv).2.1
  obtain ⟨h1, h2⟩ := used_bit (good_dip3 hv h)
  have hb : usedLtB d.dippers.length = true := by
    generalize d.dippers.length = n at hn
    rcases (show n = 0 ∨ n = 1 ∨ n = 2 ∨ n = 3 by omega) with rfl | rfl | rfl | rfl <;> kernel_rfl
  have hb' : ∀ u, u < 8 → (∀ j, j < 3 → u / 2 ^ j % 2 = 1 → j < d.dippers.length) → u < 2 ^ d.dippers.length := by simpa only [usedLtB, decide_eq_true_eq] using hb
  refine hb' _ h1 fun j hj hbit => ?_
  obtain ⟨i, hi, e⟩ := (h2 j hj).1 hbit
  have := h.2.1 i hi
  omega
def fewTo (L : List (List Plc)) : Nat → Nat
  | 0 => usedR (gt L 0)
  | k + 1 => if pop (usedR (gt L k)) < pop (fewTo L k) ∨ (pop (usedR (gt L k)) = pop (fewTo L k) ∧ usedR (gt L k) < fewTo L k) then usedR (gt L k) else fewTo L k
theorem fewTo_char (L : List (List Plc)) (h0 : 0 < L.length) : ∀ k, k ≤ L.length → (∃ l, l ∈ L ∧ fewTo L k = usedR l) ∧ ∀ i, i < k → ¬ bef (usedR (gt L i)) (fewTo L k) := by
  intro k
  induction k with
  | zero => intro _; exact ⟨⟨_, gt_mem h0, rfl⟩, fun i hi => by omega⟩
  | succ k ih =>
    intro hk
    obtain ⟨i1, i2⟩ := ih (by omega)
    simp only [fewTo]
    split
    · rename_i hc
      have hc' : bef (usedR (gt L k)) (fewTo L k) := hc
      refine ⟨⟨_, gt_mem (by omega), rfl⟩, fun i hi => ?_⟩
      rcases Nat.lt_succ_iff_lt_or_eq.1 hi with e | e
      · exact fun hh => i2 i e (bef_trans hh hc')
      · subst e; exact bef_irr _
    · rename_i hc
      refine ⟨i1, fun i hi => ?_⟩
      rcases Nat.lt_succ_iff_lt_or_eq.1 hi with e | e
      · exact i2 i e
      · subst e; exact hc
def FewRef (d : Dips) : Int × Int := if dipsB d = false then (0, 1) else if (plansR d false).length = 0 then (0, 4) else ((fewTo (plansR d false) (plansR d false).length : Nat), 0)
theorem few_eq (d : Dips) : FewestOut d = FewRef d := by
  unfold FewestOut FewRef
  cases hv : dipsB d with
  | false => rfl
  | true =>
    have h3 := (dips_num hv).2.1
    have hh : 0 ≤ d.hours := by have := (dips_num hv).1; omega
    have hm := mem_plans hh false (d := d)
    simp only [Bool.true_eq_false, if_false]
    by_cases hp : (plansR d false).length = 0
    · rw [if_pos hp]
      have : (fstP (setsL d.dippers.length) (byCan d)).2 = false := fstP_none' (by omega) fun t _ => by
        cases hc : byCan d t with
        | false => rfl
        | true =>
          obtain ⟨l, hl, _⟩ := (byCan_iff hv t).1 hc
          have := (hm l).2 hl
          rw [List.length_eq_zero_iff.1 hp] at this
          cases this
      rw [this]; rfl
    · rw [if_neg hp]
      obtain ⟨⟨l, hl, he⟩, hmin⟩ := fewTo_char (plansR d false) (by omega) _ (Nat.le_refl _)
      have hg := (hm l).1 hl
      have hcan : byCan d (usedR l) = true := (byCan_iff hv _).2 ⟨l, hg, fun j _ h => h⟩
      have hlt := used_lt hv hg
      cases hc : (fstP (setsL d.dippers.length) (byCan d)).2 with
      | false => rw [fstP_none (by omega) hc _ hlt] at hcan; cases hcan
      | true =>
        obtain ⟨s1, s2, s3⟩ := fstP_some (show d.dippers.length ≤ 5 by omega) hc
        have h8 : 2 ^ d.dippers.length ≤ 2 ^ 3 := Nat.pow_le_pow_right (by omega) h3
        obtain ⟨l', hg', hsub⟩ := (byCan_iff hv _).1 s1
        have hu := (used_bit (good_dip3 hv hg')).1
        have hpp := sub_pop hu (by omega) hsub
        have hl' := (hm l').2 hg'
        obtain ⟨i, hi, hie⟩ := List.getElem_of_mem hl'
        have hgi : gt (plansR d false) i = l' := by simp [gt, List.getD, hi, hie]
        have hmi := hmin i hi
        rw [hgi] at hmi
        have e : (fstP (setsL d.dippers.length) (byCan d)).1 = fewTo (plansR d false) (plansR d false).length := by
          refine bef_tri (fun hb => hmi ?_) (by rw [he]; exact s3 _ hlt hcan)
          rcases hpp with e | e
          · rw [e]; exact hb
          · exact bef_trans (.inl e) hb
        simp only [if_true, e]
end Go.Proofs.Ytidjdonppfegiaa
namespace Go.Proofs.Ytidjdonppfegiaa
open Go.W Go.Dp

set_option maxRecDepth 100000 in
set_option maxHeartbeats 1000000 in
theorem plans_0 (d : Dips) (best : Bool) (hv : dipsB d = true) (a1 : Option Addr) (n1 c1 : Nat) (a2 : Option Addr) (n2 c2 : Nat) (D : Imm) (w : World) (hR : DipsR D d a1 n1 a2 n2) (b : List Plc) (a3 : Option Addr) (n3 c3 : Nat) (L : List (List Plc)) (vs : List Value) (o : Option Ow) (hl : b.length + 0 = d.bathers.length) (hq : PlOk d b) (h3 : b = [] → a3 = none) (hP : PlanR D b a3 n3) (hO : OutR D L vs) (ho : owL o vs.length 1) (hL : L.length + 12 ^ 0 ≤ 248832) (hI0 : Inv D (owH o 26 vs []) (keys (owH o 26 vs [])) w w) : AltersN Try.prog 72 [.agg #[it d.hours, .slice a1 n1 c1, .slice a2 n2 c2], .bool best, .slice a3 n3 c3, owV o vs.length] w D (keys (owH o 26 vs [])) (PlK d best 0 b L) := by
  unfold AltersN
  obtain rfl := hR.dip.len'
  obtain rfl := hR.bath.len'
  have hl1 := hR.len1
  have hl2 := hR.len2
  obtain rfl := hP.pl.len'
  have hl3 := hP.len
  have hvl := hO.len
  have hL' : L.length + 1 ≤ 248832 := hL
  refine enter Try.func72 rfl 61 Try.ntmps72 (Nat.le_of_ble_eq_true rfl) hI0 ?_
  refine WC.seq ?_
  refine WC.ofFr [(0, _), (1, _), (2, _), (3, _)] ⟨rfl, rfl, rfl, rfl, trivial⟩ ?_
  refine WC.region ?_
  refine WL.so (SO.box rfl rfl) rfl ?_
  rintro _ _ _ ⟨b4, hb4, rfl, rfl, rfl⟩ -- NEW
  refine WL.yd (Yd.assign rfl) rfl ?_
  refine WL.nil ?_
  refine WP.thenC ?_
  refine WC.seq ?_
  refine WC.ofFr [(8, _), (4, _), (1, _), (2, _), (3, _)] ⟨rfl, rfl, rfl, rfl, rfl, trivial⟩ ?_
  refine WC.region ?_
  refine WL.yd (Yd.move rfl) rfl ?_
  refine WL.yd (Yd.lenS rfl Try.underlying26 rfl) rfl ?_
  refine WL.yd (Yd.assign rfl) rfl ?_
  refine WL.nil ?_
  refine WP.thenC ?_
  refine WC.seqJ (fun _ : Unit => [(1, .bool best), (2, .slice a3 b.length c3), (3, owV o (vs).length), (4, pt b4), (9, nt b.length)]) (fun _ => (b4, .cells (List.toArray [it d.hours, .slice a1 d.dippers.length c1, .slice a2 d.bathers.length c2]) 25 (0, 0)) :: owH o 26 (vs) []) (fun _ => D) (fun _ => b ≠ [] → brokenR d b (b.length - 1) best = 0) ?_ ?_
  · rintro ⟨⟩ hj
    refine WC.seq ?_
    refine WC.seq ?_
    refine WC.ofFr [(1, _), (2, _), (3, _), (4, _), (9, _)] ⟨rfl, rfl, rfl, rfl, rfl, trivial⟩ ?_
    refine WC.region ?_
    refine WL.yd (Yd.move rfl) rfl ?_
    refine WL.yd (Yd.fieldAddr FA25_2 rfl) rfl ?_
    refine WL.yd (Yd.load1 Try.isAgg23 rfl (by first | exact Rd.own (k := 0) rfl rfl | exact Rd.own (k := 1) rfl rfl)) rfl ?_
    refine WL.yd (Yd.lenS rfl Try.underlying23 rfl) rfl ?_
    refine WL.yd (Yd.eql rfl rfl) rfl ?_
    refine WL.nil ?_
    refine WP.thenC ?_
    refine WC.cond rfl (fun c30 => ?_) (fun c30 => ?_)
    · try simp only [decide_eq_true_eq, decide_eq_false_iff_not, Bool.not_eq_true', Bool.not_eq_false', Int.not_lt, Int.not_le, Bool.not_true, Bool.not_false] at c30
      refine WC.seq ?_
      refine WC.ofFr [(1, _), (2, _), (3, _), (4, _)] ⟨rfl, rfl, rfl, rfl, trivial⟩ ?_
      refine WC.region ?_
      refine WL.yd (Yd.move rfl) rfl ?_
      refine WL.yd (Yd.move rfl) rfl ?_
      refine WL.so (SO.buildSlice Try.underlying95 Try.sizeOf26 Try.zeroValue26 rfl rfl rfl rfl (cs := [_]) rfl) rfl ?_
      rintro _ _ _ ⟨b33, hb33, rfl, rfl, rfl⟩ -- NEW
      refine WL.so (SO.appendL (o := o) (len := vs.length) (n := 1) (xs := vs) (size := 1) [_] [_] [] rfl rfl Try.underlying95 Try.sizeOf26 Try.typeInfo26 Try.zeroValue26 rfl rfl rfl rfl ⟨rfl, .inr ⟨_, _, _, rfl, RdN.own (k := 0) (n := 1) rfl rfl⟩⟩ (oneB_spec rfl) ho (by omega) (by omega) (by show (2 * (_ + _) + 1000) * 24 ≤ 2 ^ 48; omega) (by omega)) rfl ?_
      rintro _ _ _ ⟨u1, hu1, rfl, rfl, rfl⟩
      refine WL.yd (Yd.assign rfl) rfl ?_
      refine WL.nil ?_
      refine WP.thenC ?_
      refine WC.ret ?_
      refine WP.thenRet ?_
      refine WP.ret1 rfl rfl Try.results72 (RV.tmp rfl) (fun w1 hI => ⟨_, _, _, rfl, DExt.refl _ _, hI.tail, vs ++ [.slice a3 b.length c3], some u1, by rw [List.length_append]; rfl, by rw [plC, if_neg (fun hh => hh.2 (hj hh.1))]; exact hO.snoc hP, by rw [List.length_append]; exact hu1, rfl⟩)
    · try simp only [decide_eq_true_eq, decide_eq_false_iff_not, Bool.not_eq_true', Bool.not_eq_false', Int.not_lt, Int.not_le, Bool.not_true, Bool.not_false] at c30
      omega
  · skip
    refine WC.seq ?_
    refine WC.ofFr [(9, _), (8, _), (4, _), (1, _), (2, _), (3, _)] ⟨rfl, rfl, rfl, rfl, rfl, rfl, trivial⟩ ?_
    refine WC.region ?_
    refine WL.yd (Yd.move rfl) rfl ?_
    refine WL.yd (Yd.gtr rfl rfl) rfl ?_
    refine WL.yd (Yd.move rfl) rfl ?_
    refine WL.part 16 rfl (fun g16 => ?_) (fun g16 => ?_)
    · try simp only [decide_eq_true_eq, decide_eq_false_iff_not, Bool.not_eq_true', Bool.not_eq_false', Int.not_lt, Int.not_le, Bool.not_true, Bool.not_false] at g16
      have hb1 : 0 < b.length := by omega
      refine WL.ydg rfl (Yd.loadN Try.isAgg25 Try.sizeOf25 rfl (vs := [_, _, _]) rfl (by first | exact RdN.own (k := 0) (n := 3) rfl rfl | exact RdN.own (k := 1) (n := 3) rfl rfl)) rfl ?_
      refine WL.ydg rfl (Yd.move rfl) rfl ?_
      refine WL.ydg rfl (Yd.move rfl) rfl ?_
      refine WL.ydg rfl (Yd.subN rfl rfl (by (try dsimp only); omega) (by (try dsimp only); omega)) rfl ?_
      refine WL.ydg rfl (Yd.move rfl) rfl ?_
      refine WL.sog rfl (SO.callP Try.call54 rfl (fun w hI => broken_g d a1 _ c1 a2 _ c2 D _ hR hI.imm b a3 _ c3 hP best (b.length - 1) (by omega) hv hq (by omega))) rfl ?_
      rintro _ _ _ ⟨rfl, rfl, rfl⟩
      refine WL.ydg rfl (Yd.neq rfl rfl) rfl ?_
      refine WL.yd (Yd.pickT rfl rfl) rfl ?_
      refine WL.nil ?_
      refine WP.thenC ?_
      refine WC.cond rfl (fun c24 => ?_) (fun c24 => ?_)
      · try simp only [decide_eq_true_eq, decide_eq_false_iff_not, Bool.not_eq_true', Bool.not_eq_false', Int.not_lt, Int.not_le, Bool.not_true, Bool.not_false] at c24
        have hbn : brokenR d b (b.length - 1) best ≠ 0 := by simpa using c24
        refine WC.seq ?_
        refine WC.ofFr [(9, _), (8, _), (4, _), (1, _), (2, _), (3, _)] ⟨rfl, rfl, rfl, rfl, rfl, rfl, trivial⟩ ?_
        refine WC.region ?_
        refine WL.yd (Yd.move rfl) rfl ?_
        refine WL.yd (Yd.assign rfl) rfl ?_
        refine WL.nil ?_
        refine WP.thenC ?_
        refine WC.ret ?_
        refine WP.thenRet ?_
        refine WP.ret1 rfl rfl Try.results72 (RV.tmp rfl) (fun w1 hI => ⟨_, _, _, rfl, DExt.refl _ _, hI.tail, vs, o, rfl, by rw [plC, if_pos ⟨fun e => by rw [e] at hb1; simp at hb1, hbn⟩, List.append_nil]; exact hO, ho, rfl⟩)
      · try simp only [decide_eq_true_eq, decide_eq_false_iff_not, Bool.not_eq_true', Bool.not_eq_false', Int.not_lt, Int.not_le, Bool.not_true, Bool.not_false] at c24
        have hbz : brokenR d b (b.length - 1) best = 0 := by simpa using c24
        refine WC.skip ?_
        exact WP.join () (fun hne => by first | exact hbz | exact absurd (List.length_eq_zero_iff.1 hb0) hne) (fun aa ww h => at_fr h ⟨rfl, rfl, rfl, rfl, rfl, trivial⟩)
    · try simp only [decide_eq_true_eq, decide_eq_false_iff_not, Bool.not_eq_true', Bool.not_eq_false', Int.not_lt, Int.not_le, Bool.not_true, Bool.not_false] at g16
      have hb0 : b.length = 0 := by omega
      refine WL.skip rfl rfl ?_
      refine WL.skip rfl rfl ?_
      refine WL.skip rfl rfl ?_
      refine WL.skip rfl rfl ?_
      refine WL.skip rfl rfl ?_
      refine WL.skip rfl rfl ?_
      refine WL.skip rfl rfl ?_
      refine WL.yd (Yd.pickF rfl rfl) rfl ?_
      refine WL.nil ?_
      refine WP.thenC ?_
      refine WC.condF rfl ?_
      refine WC.skip ?_
      exact WP.join () (fun hne => by first | exact hbz | exact absurd (List.length_eq_zero_iff.1 hb0) hne) (fun aa ww h => at_fr h ⟨rfl, rfl, rfl, rfl, rfl, trivial⟩)

set_option maxRecDepth 100000 in
set_option maxHeartbeats 1000000 in
theorem plans_s (d : Dips) (best : Bool) (hv : dipsB d = true) (a1 : Option Addr) (n1 c1 : Nat) (a2 : Option Addr) (n2 c2 : Nat) (rem : Nat) (ih : ∀ (D : Imm) (w : World) (hR : DipsR D d a1 n1 a2 n2) (b : List Plc) (a3 : Option Addr) (n3 c3 : Nat) (L : List (List Plc)) (vs : List Value) (o : Option Ow) (hl : b.length + rem = d.bathers.length) (hq : PlOk d b) (h3 : b = [] → a3 = none) (hP : PlanR D b a3 n3) (hO : OutR D L vs) (ho : owL o vs.length 1) (hL : L.length + 12 ^ rem ≤ 248832) (hI0 : Inv D (owH o 26 vs []) (keys (owH o 26 vs [])) w w), AltersN Try.prog 72 [.agg #[it d.hours, .slice a1 n1 c1, .slice a2 n2 c2], .bool best, .slice a3 n3 c3, owV o vs.length] w D (keys (owH o 26 vs [])) (PlK d best rem b L)) (D : Imm) (w : World) (hR : DipsR D d a1 n1 a2 n2) (b : List Plc) (a3 : Option Addr) (n3 c3 : Nat) (L : List (List Plc)) (vs : List Value) (o : Option Ow) (hl : b.length + (rem + 1) = d.bathers.length) (hq : PlOk d b) (h3 : b = [] → a3 = none) (hP : PlanR D b a3 n3) (hO : OutR D L vs) (ho : owL o vs.length 1) (hL : L.length + 12 ^ (rem + 1) ≤ 248832) (hI0 : Inv D (owH o 26 vs []) (keys (owH o 26 vs [])) w w) : AltersN Try.prog 72 [.agg #[it d.hours, .slice a1 n1 c1, .slice a2 n2 c2], .bool best, .slice a3 n3 c3, owV o vs.length] w D (keys (owH o 26 vs [])) (PlK d best (rem + 1) b L) := by
  unfold AltersN
  obtain rfl := hR.dip.len'
  obtain rfl := hR.bath.len'
  have hl1 := hR.len1
  have hl2 := hR.len2
  obtain rfl := hP.pl.len'
  have hl3 := hP.len
  have hvl := hO.len
  have hnum := dips_num hv
  refine enter Try.func72 rfl 61 Try.ntmps72 (Nat.le_of_ble_eq_true rfl) hI0 ?_
  refine WC.seq ?_
  refine WC.ofFr [(0, _), (1, _), (2, _), (3, _)] ⟨rfl, rfl, rfl, rfl, trivial⟩ ?_
  refine WC.region ?_
  refine WL.so (SO.box rfl rfl) rfl ?_
  rintro _ _ _ ⟨b4, hb4, rfl, rfl, rfl⟩ -- NEW
  refine WL.yd (Yd.assign rfl) rfl ?_
  refine WL.nil ?_
  refine WP.thenC ?_
  refine WC.seq ?_
  refine WC.ofFr [(8, _), (4, _), (1, _), (2, _), (3, _)] ⟨rfl, rfl, rfl, rfl, rfl, trivial⟩ ?_
  refine WC.region ?_
  refine WL.yd (Yd.move rfl) rfl ?_
  refine WL.yd (Yd.lenS rfl Try.underlying26 rfl) rfl ?_
  refine WL.yd (Yd.assign rfl) rfl ?_
  refine WL.nil ?_
  refine WP.thenC ?_
  refine WC.seqJ (fun _ : Unit => [(1, .bool best), (2, .slice a3 b.length c3), (3, owV o (vs).length), (4, pt b4), (9, nt b.length)]) (fun _ => (b4, .cells (List.toArray [it d.hours, .slice a1 d.dippers.length c1, .slice a2 d.bathers.length c2]) 25 (0, 0)) :: owH o 26 (vs) []) (fun _ => D) (fun _ => b ≠ [] → brokenR d b (b.length - 1) best = 0) ?_ ?_
  · rintro ⟨⟩ hj
    refine WC.seq ?_
    refine WC.seq ?_
    refine WC.ofFr [(1, _), (2, _), (3, _), (4, _), (9, _)] ⟨rfl, rfl, rfl, rfl, rfl, trivial⟩ ?_
    refine WC.region ?_
    refine WL.yd (Yd.move rfl) rfl ?_
    refine WL.yd (Yd.fieldAddr FA25_2 rfl) rfl ?_
    refine WL.yd (Yd.load1 Try.isAgg23 rfl (by first | exact Rd.own (k := 0) rfl rfl | exact Rd.own (k := 1) rfl rfl)) rfl ?_
    refine WL.yd (Yd.lenS rfl Try.underlying23 rfl) rfl ?_
    refine WL.yd (Yd.eql rfl rfl) rfl ?_
    refine WL.nil ?_
    refine WP.thenC ?_
    refine WC.cond rfl (fun c30 => ?_) (fun c30 => ?_)
    · try simp only [decide_eq_true_eq, decide_eq_false_iff_not, Bool.not_eq_true', Bool.not_eq_false', Int.not_lt, Int.not_le, Bool.not_true, Bool.not_false] at c30
      omega
    · try simp only [decide_eq_true_eq, decide_eq_false_iff_not, Bool.not_eq_true', Bool.not_eq_false', Int.not_lt, Int.not_le, Bool.not_true, Bool.not_false] at c30
      refine WC.skip ?_
      refine WP.thenC ?_
      refine WC.seq ?_
      refine WC.seq ?_
      refine WC.ofFr [(1, _), (2, _), (3, _), (4, _)] ⟨rfl, rfl, rfl, rfl, trivial⟩ ?_
      refine WC.region ?_
      refine WL.yd (Yd.assign rfl) rfl ?_
      refine WL.nil ?_
      refine WP.thenC ?_
      refine WC.block ?_
      refine WC.loop (fun y : Nat × List Value × Option Ow × Imm => [(1, .bool best), (2, .slice a3 b.length c3), (3, owV y.2.2.1 (y.2.1).length), (4, pt b4), (10, nt y.1)]) (fun y => (b4, .cells (List.toArray [it d.hours, .slice a1 d.dippers.length c1, .slice a2 d.bathers.length c2]) 25 (0, 0)) :: owH y.2.2.1 26 (y.2.1) []) (fun y => y.2.2.2) (fun y => y.1 ≤ d.hours.toNat ∧ DExt w D y.2.2.2 ∧ OutR y.2.2.2 (accQ d best rem b L y.1 0) y.2.1 ∧ owL y.2.2.1 y.2.1.length 1) (fun y => d.hours.toNat - y.1) (0, vs, o, D) ⟨by omega, DExt.refl _ _, by rw [accQ_zero]; exact hO, ho⟩ (fun a w h => at_fr h ⟨rfl, rfl, rfl, rfl, rfl, trivial⟩) ?_
      rintro ⟨hr, vs0, o0, D0⟩ ⟨hhr, hX0, hO0, ho0⟩
      dsimp only at hhr hX0 hO0 ho0
      refine WC.seq ?_
      refine WC.seq ?_
      refine WC.ofFr [(1, _), (2, _), (3, _), (4, _), (10, _)] ⟨rfl, rfl, rfl, rfl, rfl, trivial⟩ ?_
      refine WC.region ?_
      refine WL.yd (Yd.move rfl) rfl ?_
      refine WL.yd (Yd.fieldAddr FA25_0 rfl) rfl ?_
      refine WL.yd (Yd.load1 Try.isAgg3 rfl (by first | exact Rd.own (k := 0) rfl rfl | exact Rd.own (k := 1) rfl rfl)) rfl ?_
      refine WL.yd (Yd.lss rfl rfl) rfl ?_
      refine WL.nil ?_
      refine WP.thenC ?_
      refine WC.cond rfl (fun c38 => ?_) (fun c38 => ?_)
      · try simp only [decide_eq_true_eq, decide_eq_false_iff_not, Bool.not_eq_true', Bool.not_eq_false', Int.not_lt, Int.not_le, Bool.not_true, Bool.not_false] at c38
        refine WC.skip ?_
        refine WP.thenC ?_
        refine WC.seq ?_
        refine WC.block ?_
        refine WC.seq ?_
        refine WC.ofFr [(1, _), (2, _), (3, _), (4, _), (10, _)] ⟨rfl, rfl, rfl, rfl, rfl, trivial⟩ ?_
        refine WC.region ?_
        refine WL.yd (Yd.assign rfl) rfl ?_
        refine WL.nil ?_
        refine WP.thenC ?_
        refine WC.block ?_
        refine WC.loop (fun y : Nat × List Value × Option Ow × Imm => [(1, .bool best), (2, .slice a3 b.length c3), (3, owV y.2.2.1 (y.2.1).length), (4, pt b4), (10, nt hr), (11, nt y.1)]) (fun y => (b4, .cells (List.toArray [it d.hours, .slice a1 d.dippers.length c1, .slice a2 d.bathers.length c2]) 25 (0, 0)) :: owH y.2.2.1 26 (y.2.1) []) (fun y => y.2.2.2) (fun y => y.1 ≤ d.dippers.length ∧ DExt w D y.2.2.2 ∧ OutR y.2.2.2 (accQ d best rem b L hr y.1) y.2.1 ∧ owL y.2.2.1 y.2.1.length 1) (fun y => d.dippers.length - y.1) (0, vs0, o0, D0) ⟨by omega, hX0, hO0, ho0⟩ (fun a w h => at_fr h ⟨rfl, rfl, rfl, rfl, rfl, rfl, trivial⟩) ?_
        rintro ⟨k, vs1, o1, D1⟩ ⟨hk, hX1, hO1, ho1⟩
        dsimp only at hk hX1 hO1 ho1
        have hP1 := hP.ext hX1
        refine WC.seq ?_
        refine WC.seq ?_
        refine WC.ofFr [(1, _), (2, _), (3, _), (4, _), (10, _), (11, _)] ⟨rfl, rfl, rfl, rfl, rfl, rfl, trivial⟩ ?_
        refine WC.region ?_
        refine WL.yd (Yd.move rfl) rfl ?_
        refine WL.yd (Yd.fieldAddr FA25_1 rfl) rfl ?_
        refine WL.yd (Yd.load1 Try.isAgg22 rfl (by first | exact Rd.own (k := 0) rfl rfl | exact Rd.own (k := 1) rfl rfl)) rfl ?_
        refine WL.yd (Yd.lenS rfl Try.underlying22 rfl) rfl ?_
        refine WL.yd (Yd.lss rfl rfl) rfl ?_
        refine WL.nil ?_
        refine WP.thenC ?_
        refine WC.cond rfl (fun c45 => ?_) (fun c45 => ?_)
        · try simp only [decide_eq_true_eq, decide_eq_false_iff_not, Bool.not_eq_true', Bool.not_eq_false', Int.not_lt, Int.not_le, Bool.not_true, Bool.not_false] at c45
          refine WC.skip ?_
          refine WP.thenC ?_
          refine WC.seq ?_
          refine WC.block ?_
          refine WC.ofFr [(1, _), (2, _), (3, _), (4, _), (10, _), (11, _)] ⟨rfl, rfl, rfl, rfl, rfl, rfl, trivial⟩ ?_
          refine WC.drawH [_] (by kernel_rfl) (fun _ hI => hI.pick 0 rfl) ?_
          refine WH.yd (i := 0) (by kernel_rfl) (fun _ o v c a w _ h => (QuietPanic.blk (QuietPanic.then (QuietPanic.then (QuietPanic.blk (QuietPanic.blk (QuietPanic.then (QuietPanic.then (QuietPanic.blk (QuietPanic.then QuietPanic.body))))))))) c o.dst v a w h) rfl (Yd.loadN Try.isAgg25 Try.sizeOf25 rfl (vs := [_, _, _]) rfl (by first | exact RdN.own (k := 0) (n := 3) rfl rfl | exact RdN.own (k := 1) (n := 3) rfl rfl)) rfl ?_
          refine WH.yd (i := 1) (by kernel_rfl) (fun _ o v c a w _ h => (QuietPanic.blk (QuietPanic.then (QuietPanic.then (QuietPanic.blk (QuietPanic.blk (QuietPanic.then (QuietPanic.then (QuietPanic.blk (QuietPanic.then QuietPanic.body))))))))) c o.dst v a w h) rfl (Yd.move rfl) rfl ?_
          refine WH.yd (i := 3) (by kernel_rfl) (fun _ o v c a w _ h => (QuietPanic.blk (QuietPanic.then (QuietPanic.then (QuietPanic.blk (QuietPanic.blk (QuietPanic.then (QuietPanic.then (QuietPanic.blk (QuietPanic.then QuietPanic.body))))))))) c o.dst v a w h) rfl (Yd.move rfl) rfl ?_
          refine WH.yd (i := 5) (by kernel_rfl) (fun _ o v c a w _ h => (QuietPanic.blk (QuietPanic.then (QuietPanic.then (QuietPanic.blk (QuietPanic.blk (QuietPanic.then (QuietPanic.then (QuietPanic.blk (QuietPanic.then QuietPanic.body))))))))) c o.dst v a w h) rfl (Yd.move rfl) rfl ?_
          refine WH.yd (i := 6) (by kernel_rfl) (fun _ o v c a w _ h => (QuietPanic.blk (QuietPanic.then (QuietPanic.then (QuietPanic.blk (QuietPanic.blk (QuietPanic.then (QuietPanic.then (QuietPanic.blk (QuietPanic.then QuietPanic.body))))))))) c o.dst v a w h) rfl (Yd.move rfl) rfl ?_
          refine WH.yd (i := 7) (by kernel_rfl) (fun _ o v c a w _ h => (QuietPanic.blk (QuietPanic.then (QuietPanic.then (QuietPanic.blk (QuietPanic.blk (QuietPanic.then (QuietPanic.then (QuietPanic.blk (QuietPanic.then QuietPanic.body))))))))) c o.dst v a w h) rfl (Yd.build SA61 rfl (cs := [_, _]) rfl) rfl ?_
          refine WH.yd (i := 10) (by kernel_rfl) (fun _ o v c a w _ h => (QuietPanic.blk (QuietPanic.then (QuietPanic.then (QuietPanic.blk (QuietPanic.blk (QuietPanic.then (QuietPanic.then (QuietPanic.blk (QuietPanic.then QuietPanic.body))))))))) c o.dst v a w h) rfl (Yd.move rfl) rfl ?_
          refine WH.two (i := 2) (j := 8) (by kernel_rfl) ?_ ?_
          · refine WHo.so rfl (SO.buildSlice0 Try.underlying26 Try.sizeOf61) rfl ?_
            rintro _ _ _ ⟨b50, hb50, rfl, rfl, rfl⟩ -- NEW
            refine ⟨(fun _ hI => hI.pick 1 rfl), ?_⟩
            refine WH.two (i := 4) (j := 8) (by kernel_rfl) ?_ ?_
            · refine WHo.so rfl (SO.appendSome (o := ⟨b50, 0, []⟩) (len := 0) (n := b.length) (xs := []) (ys := b.flatMap placeC) (size := 2) [] _ rfl rfl Try.underlying26 Try.sizeOf61 Try.typeInfo61 Try.zeroValue61 rfl rfl rfl rfl (hP1.pl.rdS placeC_len h3) (placeC_one _) ⟨hb50, Nat.le_refl _, rfl⟩ rfl (by show (2 * (_ + _) + 1000) * 16 ≤ 2 ^ 48; omega) (by omega)) rfl ?_
              rintro _ _ _ ⟨u52, hu52, rfl, rfl, rfl⟩
              refine ⟨(fun _ hI => hI.pick 1 rfl), ?_⟩
              refine WH.one (i := 8) (by kernel_rfl) (WHo.so rfl (SO.buildSlice Try.underlying26 Try.sizeOf61 Try.zeroValue61 rfl rfl rfl rfl (cs := [_, _]) rfl) rfl ?_)
              rintro _ _ _ ⟨b56, hb56, rfl, rfl, rfl⟩ -- NEW
              refine ⟨(fun _ hI => hI.pick 2 rfl), ?_⟩
              refine WH.one (i := 9) (by kernel_rfl) (WHo.so rfl (SO.appendOw (o := some u52) (len := 0 + b.length) (n := 1) (xs := [] ++ b.flatMap placeC) (ys := placeC (pk hr k)) (size := 2) [_] [] _ rfl rfl Try.underlying26 Try.sizeOf61 Try.typeInfo61 Try.zeroValue61 rfl rfl rfl rfl ⟨rfl, .inr ⟨_, _, _, rfl, RdN.own (k := 0) (n := 2) rfl rfl⟩⟩ (oneB_spec rfl) hu52 (by rw [List.nil_append, flat_len placeC_len]; omega) (by omega) (by show (2 * (_ + _) + 1000) * 16 ≤ 2 ^ 48; omega) (by omega)) rfl ?_)
              rintro _ _ _ ⟨u57, hu57, rfl, rfl, rfl⟩
              have hbu57 := hu57.1
              refine ⟨(fun _ hI => hI.pick 1 rfl), ?_⟩
              refine WH.freezeK 0 rfl (fun hnu57 => ?_)
              have hFu57 := fun o => (DExt.refl w D1).add (o := o) hnu57 hbu57
              have hXf := fun o => hX1.trans (hFu57 o) (Nat.le_refl _)
              refine WH.one (i := 11) (by kernel_rfl) (WHo.so rfl (SO.altersN (own := [_]) (hpc := owH o1 26 vs1 []) (S1 := keys (owH o1 26 vs1 [])) (fun e he => he) (fun h => h) (fun _ h => h) (fun _ h => h) (Enters.func Try.call72 rfl) (fun w1 hI => ih _ w1 (hR.ext (hXf _)) (b ++ [pk hr k]) _ _ _ _ vs1 o1 (by rw [List.length_append, List.length_singleton]; omega) (PlOk_snoc hq (x := pk hr k) (by dsimp only; omega)) (fun e => absurd e (by simp)) (PlanR_snoc (rest := u57.rest) (Imm.add_self _ _ _) (by omega) (by omega)) (hO1.ext (hFu57 _)) ho1 (accQ_le hv best rem b L (by omega) (by omega) hL) hI)) rfl ?_)
              rintro _ D6 _ ⟨_, hX6, ⟨vs6, o6, rfl, hO6, ho6, rfl⟩, rfl⟩
              refine ⟨(fun _ hI => (hI.pick 0 rfl).shrink ((hFu57 _).trans hX6 (Nat.le_refl _)).old), ?_⟩
              refine WH.yd (i := 12) (by kernel_rfl) (fun _ o v c a w _ h => (QuietPanic.blk (QuietPanic.then (QuietPanic.then (QuietPanic.blk (QuietPanic.blk (QuietPanic.then (QuietPanic.then (QuietPanic.blk (QuietPanic.then QuietPanic.body))))))))) c o.dst v a w h) rfl (Yd.assign rfl) rfl ?_
              refine WH.nil (by kernel_rfl) ?_
              refine WP.blkNormal ?_
              refine WP.thenC ?_
              refine WC.ofFr [(3, _), (1, _), (2, _), (4, _), (10, _), (11, _)] ⟨rfl, rfl, rfl, rfl, rfl, rfl, trivial⟩ ?_
              refine WC.region ?_
              refine WL.yd (Yd.move rfl) rfl ?_
              refine WL.yd (Yd.addN rfl rfl (by (try dsimp only); omega)) rfl ?_
              refine WL.yd (Yd.assign rfl) rfl ?_
              refine WL.nil ?_
              refine WP.again (⟨k + 1, vs6, o6, D6⟩ : Nat × List Value × Option Ow × Imm) ⟨by simp only; omega, (hXf _).trans hX6 (Nat.le_refl _), by rw [accQ_succ]; exact hO6, ho6⟩ (by simp only; omega) (fun aa ww h => at_fr h ⟨rfl, rfl, rfl, rfl, rfl, rfl, trivial⟩)
            · refine WHo.so rfl (SO.buildSlice Try.underlying26 Try.sizeOf61 Try.zeroValue61 rfl rfl rfl rfl (cs := [_, _]) rfl) rfl ?_
              rintro _ _ _ ⟨b56, hb56, rfl, rfl, rfl⟩ -- NEW
              refine ⟨(fun _ hI => hI.pick 2 rfl), ?_⟩
              refine WH.one (i := 4) (by kernel_rfl) (WHo.so rfl (SO.appendSome (o := ⟨b50, 0, []⟩) (len := 0) (n := b.length) (xs := []) (ys := b.flatMap placeC) (size := 2) [_] _ rfl rfl Try.underlying26 Try.sizeOf61 Try.typeInfo61 Try.zeroValue61 rfl rfl rfl rfl (hP1.pl.rdS placeC_len h3) (placeC_one _) ⟨hb50, Nat.le_refl _, rfl⟩ rfl (by show (2 * (_ + _) + 1000) * 16 ≤ 2 ^ 48; omega) (by omega)) rfl ?_)
              rintro _ _ _ ⟨u52, hu52, rfl, rfl, rfl⟩
              refine ⟨(fun _ hI => hI.pick 2 rfl), ?_⟩
              refine WH.one (i := 9) (by kernel_rfl) (WHo.so rfl (SO.appendOw (o := some u52) (len := 0 + b.length) (n := 1) (xs := [] ++ b.flatMap placeC) (ys := placeC (pk hr k)) (size := 2) [_] [] _ rfl rfl Try.underlying26 Try.sizeOf61 Try.typeInfo61 Try.zeroValue61 rfl rfl rfl rfl ⟨rfl, .inr ⟨_, _, _, rfl, RdN.own (k := 0) (n := 2) rfl rfl⟩⟩ (oneB_spec rfl) hu52 (by rw [List.nil_append, flat_len placeC_len]; omega) (by omega) (by show (2 * (_ + _) + 1000) * 16 ≤ 2 ^ 48; omega) (by omega)) rfl ?_)
              rintro _ _ _ ⟨u57, hu57, rfl, rfl, rfl⟩
              have hbu57 := hu57.1
              refine ⟨(fun _ hI => hI.pick 1 rfl), ?_⟩
              refine WH.freezeK 0 rfl (fun hnu57 => ?_)
              have hFu57 := fun o => (DExt.refl w D1).add (o := o) hnu57 hbu57
              have hXf := fun o => hX1.trans (hFu57 o) (Nat.le_refl _)
              refine WH.one (i := 11) (by kernel_rfl) (WHo.so rfl (SO.altersN (own := [_]) (hpc := owH o1 26 vs1 []) (S1 := keys (owH o1 26 vs1 [])) (fun e he => he) (fun h => h) (fun _ h => h) (fun _ h => h) (Enters.func Try.call72 rfl) (fun w1 hI => ih _ w1 (hR.ext (hXf _)) (b ++ [pk hr k]) _ _ _ _ vs1 o1 (by rw [List.length_append, List.length_singleton]; omega) (PlOk_snoc hq (x := pk hr k) (by dsimp only; omega)) (fun e => absurd e (by simp)) (PlanR_snoc (rest := u57.rest) (Imm.add_self _ _ _) (by omega) (by omega)) (hO1.ext (hFu57 _)) ho1 (accQ_le hv best rem b L (by omega) (by omega) hL) hI)) rfl ?_)
              rintro _ D6 _ ⟨_, hX6, ⟨vs6, o6, rfl, hO6, ho6, rfl⟩, rfl⟩
              refine ⟨(fun _ hI => (hI.pick 0 rfl).shrink ((hFu57 _).trans hX6 (Nat.le_refl _)).old), ?_⟩
              refine WH.yd (i := 12) (by kernel_rfl) (fun _ o v c a w _ h => (QuietPanic.blk (QuietPanic.then (QuietPanic.then (QuietPanic.blk (QuietPanic.blk (QuietPanic.then (QuietPanic.then (QuietPanic.blk (QuietPanic.then QuietPanic.body))))))))) c o.dst v a w h) rfl (Yd.assign rfl) rfl ?_
              refine WH.nil (by kernel_rfl) ?_
              refine WP.blkNormal ?_
              refine WP.thenC ?_
              refine WC.ofFr [(3, _), (1, _), (2, _), (4, _), (10, _), (11, _)] ⟨rfl, rfl, rfl, rfl, rfl, rfl, trivial⟩ ?_
              refine WC.region ?_
              refine WL.yd (Yd.move rfl) rfl ?_
              refine WL.yd (Yd.addN rfl rfl (by (try dsimp only); omega)) rfl ?_
              refine WL.yd (Yd.assign rfl) rfl ?_
              refine WL.nil ?_
              refine WP.again (⟨k + 1, vs6, o6, D6⟩ : Nat × List Value × Option Ow × Imm) ⟨by simp only; omega, (hXf _).trans hX6 (Nat.le_refl _), by rw [accQ_succ]; exact hO6, ho6⟩ (by simp only; omega) (fun aa ww h => at_fr h ⟨rfl, rfl, rfl, rfl, rfl, rfl, trivial⟩)
          · refine WHo.so rfl (SO.buildSlice Try.underlying26 Try.sizeOf61 Try.zeroValue61 rfl rfl rfl rfl (cs := [_, _]) rfl) rfl ?_
            rintro _ _ _ ⟨b56, hb56, rfl, rfl, rfl⟩ -- NEW
            refine ⟨(fun _ hI => hI.pick 1 rfl), ?_⟩
            refine WH.one (i := 2) (by kernel_rfl) (WHo.so rfl (SO.buildSlice0 Try.underlying26 Try.sizeOf61) rfl ?_)
            rintro _ _ _ ⟨b50, hb50, rfl, rfl, rfl⟩ -- NEW
            refine ⟨(fun _ hI => hI.pick 2 rfl), ?_⟩
            refine WH.one (i := 4) (by kernel_rfl) (WHo.so rfl (SO.appendSome (o := ⟨b50, 0, []⟩) (len := 0) (n := b.length) (xs := []) (ys := b.flatMap placeC) (size := 2) [] _ rfl rfl Try.underlying26 Try.sizeOf61 Try.typeInfo61 Try.zeroValue61 rfl rfl rfl rfl (hP1.pl.rdS placeC_len h3) (placeC_one _) ⟨hb50, Nat.le_refl _, rfl⟩ rfl (by show (2 * (_ + _) + 1000) * 16 ≤ 2 ^ 48; omega) (by omega)) rfl ?_)
            rintro _ _ _ ⟨u52, hu52, rfl, rfl, rfl⟩
            refine ⟨(fun _ hI => hI.pick 2 rfl), ?_⟩
            refine WH.one (i := 9) (by kernel_rfl) (WHo.so rfl (SO.appendOw (o := some u52) (len := 0 + b.length) (n := 1) (xs := [] ++ b.flatMap placeC) (ys := placeC (pk hr k)) (size := 2) [] [] _ rfl rfl Try.underlying26 Try.sizeOf61 Try.typeInfo61 Try.zeroValue61 rfl rfl rfl rfl ⟨rfl, .inr ⟨_, _, _, rfl, RdN.own (k := 1) (n := 2) rfl rfl⟩⟩ (oneB_spec rfl) hu52 (by rw [List.nil_append, flat_len placeC_len]; omega) (by omega) (by show (2 * (_ + _) + 1000) * 16 ≤ 2 ^ 48; omega) (by omega)) rfl ?_)
            rintro _ _ _ ⟨u57, hu57, rfl, rfl, rfl⟩
            have hbu57 := hu57.1
            refine ⟨(fun _ hI => hI.pick 2 rfl), ?_⟩
            refine WH.freezeK 0 rfl (fun hnu57 => ?_)
            have hFu57 := fun o => (DExt.refl w D1).add (o := o) hnu57 hbu57
            have hXf := fun o => hX1.trans (hFu57 o) (Nat.le_refl _)
            refine WH.one (i := 11) (by kernel_rfl) (WHo.so rfl (SO.altersN (own := [_]) (hpc := owH o1 26 vs1 []) (S1 := keys (owH o1 26 vs1 [])) (fun e he => List.mem_cons_of_mem _ he) (fun h => (List.nodup_cons.1 h).2) (fun _ h => h) (fun _ h => h) (Enters.func Try.call72 rfl) (fun w1 hI => ih _ w1 (hR.ext (hXf _)) (b ++ [pk hr k]) _ _ _ _ vs1 o1 (by rw [List.length_append, List.length_singleton]; omega) (PlOk_snoc hq (x := pk hr k) (by dsimp only; omega)) (fun e => absurd e (by simp)) (PlanR_snoc (rest := u57.rest) (Imm.add_self _ _ _) (by omega) (by omega)) (hO1.ext (hFu57 _)) ho1 (accQ_le hv best rem b L (by omega) (by omega) hL) hI)) rfl ?_)
            rintro _ D6 _ ⟨_, hX6, ⟨vs6, o6, rfl, hO6, ho6, rfl⟩, rfl⟩
            refine ⟨(fun _ hI => (hI.pick 0 rfl).shrink ((hFu57 _).trans hX6 (Nat.le_refl _)).old), ?_⟩
            refine WH.yd (i := 12) (by kernel_rfl) (fun _ o v c a w _ h => (QuietPanic.blk (QuietPanic.then (QuietPanic.then (QuietPanic.blk (QuietPanic.blk (QuietPanic.then (QuietPanic.then (QuietPanic.blk (QuietPanic.then QuietPanic.body))))))))) c o.dst v a w h) rfl (Yd.assign rfl) rfl ?_
            refine WH.nil (by kernel_rfl) ?_
            refine WP.blkNormal ?_
            refine WP.thenC ?_
            refine WC.ofFr [(3, _), (1, _), (2, _), (4, _), (10, _), (11, _)] ⟨rfl, rfl, rfl, rfl, rfl, rfl, trivial⟩ ?_
            refine WC.region ?_
            refine WL.yd (Yd.move rfl) rfl ?_
            refine WL.yd (Yd.addN rfl rfl (by (try dsimp only); omega)) rfl ?_
            refine WL.yd (Yd.assign rfl) rfl ?_
            refine WL.nil ?_
            refine WP.again (⟨k + 1, vs6, o6, D6⟩ : Nat × List Value × Option Ow × Imm) ⟨by simp only; omega, (hXf _).trans hX6 (Nat.le_refl _), by rw [accQ_succ]; exact hO6, ho6⟩ (by simp only; omega) (fun aa ww h => at_fr h ⟨rfl, rfl, rfl, rfl, rfl, rfl, trivial⟩)
        · try simp only [decide_eq_true_eq, decide_eq_false_iff_not, Bool.not_eq_true', Bool.not_eq_false', Int.not_lt, Int.not_le, Bool.not_true, Bool.not_false] at c45
          obtain rfl : k = d.dippers.length := by omega
          refine WC.exit ?_
          refine WP.thenExit ?_
          refine WP.thenExit ?_
          refine WP.blkHit ?_
          refine WP.blkNormal ?_
          refine WP.thenC ?_
          refine WC.ofFr [(1, _), (2, _), (3, _), (4, _), (10, _)] ⟨rfl, rfl, rfl, rfl, rfl, trivial⟩ ?_
          refine WC.region ?_
          refine WL.yd (Yd.move rfl) rfl ?_
          refine WL.yd (Yd.addN rfl rfl (by (try dsimp only); omega)) rfl ?_
          refine WL.yd (Yd.assign rfl) rfl ?_
          refine WL.nil ?_
          refine WP.again (⟨hr + 1, vs1, o1, D1⟩ : Nat × List Value × Option Ow × Imm) ⟨by simp only; omega, hX1, by rw [accQ_next] at hO1; exact hO1, ho1⟩ (by simp only; omega) (fun aa ww h => at_fr h ⟨rfl, rfl, rfl, rfl, rfl, trivial⟩)
      · try simp only [decide_eq_true_eq, decide_eq_false_iff_not, Bool.not_eq_true', Bool.not_eq_false', Int.not_lt, Int.not_le, Bool.not_true, Bool.not_false] at c38
        refine WC.exit ?_
        refine WP.thenExit ?_
        refine WP.thenExit ?_
        refine WP.blkHit ?_
        refine WP.thenC ?_
        refine WC.seq ?_
        refine WC.ofFr [(3, _)] ⟨rfl, trivial⟩ ?_
        refine WC.region ?_
        obtain rfl : hr = d.hours.toNat := by omega
        refine WL.yd (Yd.move rfl) rfl ?_
        refine WL.yd (Yd.assign rfl) rfl ?_
        refine WL.nil ?_
        refine WP.thenC ?_
        refine WC.ret ?_
        refine WP.ret1 rfl rfl Try.results72 (RV.tmp rfl) (fun w1 hI => ⟨_, _, _, rfl, hX0, hI.tail, vs0, o0, rfl, by rw [← accQ_all d best rem b L hj]; exact hO0, ho0, rfl⟩)
  · skip
    refine WC.seq ?_
    refine WC.ofFr [(9, _), (8, _), (4, _), (1, _), (2, _), (3, _)] ⟨rfl, rfl, rfl, rfl, rfl, rfl, trivial⟩ ?_
    refine WC.region ?_
    refine WL.yd (Yd.move rfl) rfl ?_
    refine WL.yd (Yd.gtr rfl rfl) rfl ?_
    refine WL.yd (Yd.move rfl) rfl ?_
    refine WL.part 16 rfl (fun g16 => ?_) (fun g16 => ?_)
    · try simp only [decide_eq_true_eq, decide_eq_false_iff_not, Bool.not_eq_true', Bool.not_eq_false', Int.not_lt, Int.not_le, Bool.not_true, Bool.not_false] at g16
      have hb1 : 0 < b.length := by omega
      refine WL.ydg rfl (Yd.loadN Try.isAgg25 Try.sizeOf25 rfl (vs := [_, _, _]) rfl (by first | exact RdN.own (k := 0) (n := 3) rfl rfl | exact RdN.own (k := 1) (n := 3) rfl rfl)) rfl ?_
      refine WL.ydg rfl (Yd.move rfl) rfl ?_
      refine WL.ydg rfl (Yd.move rfl) rfl ?_
      refine WL.ydg rfl (Yd.subN rfl rfl (by (try dsimp only); omega) (by (try dsimp only); omega)) rfl ?_
      refine WL.ydg rfl (Yd.move rfl) rfl ?_
      refine WL.sog rfl (SO.callP Try.call54 rfl (fun w hI => broken_g d a1 _ c1 a2 _ c2 D _ hR hI.imm b a3 _ c3 hP best (b.length - 1) (by omega) hv hq (by omega))) rfl ?_
      rintro _ _ _ ⟨rfl, rfl, rfl⟩
      refine WL.ydg rfl (Yd.neq rfl rfl) rfl ?_
      refine WL.yd (Yd.pickT rfl rfl) rfl ?_
      refine WL.nil ?_
      refine WP.thenC ?_
      refine WC.cond rfl (fun c24 => ?_) (fun c24 => ?_)
      · try simp only [decide_eq_true_eq, decide_eq_false_iff_not, Bool.not_eq_true', Bool.not_eq_false', Int.not_lt, Int.not_le, Bool.not_true, Bool.not_false] at c24
        have hbn : brokenR d b (b.length - 1) best ≠ 0 := by simpa using c24
        refine WC.seq ?_
        refine WC.ofFr [(9, _), (8, _), (4, _), (1, _), (2, _), (3, _)] ⟨rfl, rfl, rfl, rfl, rfl, rfl, trivial⟩ ?_
        refine WC.region ?_
        refine WL.yd (Yd.move rfl) rfl ?_
        refine WL.yd (Yd.assign rfl) rfl ?_
        refine WL.nil ?_
        refine WP.thenC ?_
        refine WC.ret ?_
        refine WP.thenRet ?_
        refine WP.ret1 rfl rfl Try.results72 (RV.tmp rfl) (fun w1 hI => ⟨_, _, _, rfl, DExt.refl _ _, hI.tail, vs, o, rfl, by rw [plC, if_pos ⟨fun e => by rw [e] at hb1; simp at hb1, hbn⟩, List.append_nil]; exact hO, ho, rfl⟩)
      · try simp only [decide_eq_true_eq, decide_eq_false_iff_not, Bool.not_eq_true', Bool.not_eq_false', Int.not_lt, Int.not_le, Bool.not_true, Bool.not_false] at c24
        have hbz : brokenR d b (b.length - 1) best = 0 := by simpa using c24
        refine WC.skip ?_
        exact WP.join () (fun hne => by first | exact hbz | exact absurd (List.length_eq_zero_iff.1 hb0) hne) (fun aa ww h => at_fr h ⟨rfl, rfl, rfl, rfl, rfl, trivial⟩)
    · try simp only [decide_eq_true_eq, decide_eq_false_iff_not, Bool.not_eq_true', Bool.not_eq_false', Int.not_lt, Int.not_le, Bool.not_true, Bool.not_false] at g16
      have hb0 : b.length = 0 := by omega
      refine WL.skip rfl rfl ?_
      refine WL.skip rfl rfl ?_
      refine WL.skip rfl rfl ?_
      refine WL.skip rfl rfl ?_
      refine WL.skip rfl rfl ?_
      refine WL.skip rfl rfl ?_
      refine WL.skip rfl rfl ?_
      refine WL.yd (Yd.pickF rfl rfl) rfl ?_
      refine WL.nil ?_
      refine WP.thenC ?_
      refine WC.condF rfl ?_
      refine WC.skip ?_
      exact WP.join () (fun hne => by first | exact hbz | exact absurd (List.length_eq_zero_iff.1 hb0) hne) (fun aa ww h => at_fr h ⟨rfl, rfl, rfl, rfl, rfl, trivial⟩)

theorem plans_g (d : Dips) (best : Bool) (hv : dipsB d = true) (a1 : Option Addr) (n1 c1 : Nat) (a2 : Option Addr) (n2 c2 : Nat) : ∀ (rem : Nat) (D : Imm) (w : World) (hR : DipsR D d a1 n1 a2 n2) (b : List Plc) (a3 : Option Addr) (n3 c3 : Nat) (L : List (List Plc)) (vs : List Value) (o : Option Ow) (hl : b.length + rem = d.bathers.length) (hq : PlOk d b) (h3 : b = [] → a3 = none) (hP : PlanR D b a3 n3) (hO : OutR D L vs) (ho : owL o vs.length 1) (hL : L.length + 12 ^ rem ≤ 248832) (hI0 : Inv D (owH o 26 vs []) (keys (owH o 26 vs [])) w w), AltersN Try.prog 72 [.agg #[it d.hours, .slice a1 n1 c1, .slice a2 n2 c2], .bool best, .slice a3 n3 c3, owV o vs.length] w D (keys (owH o 26 vs [])) (PlK d best rem b L) := by
  intro rem
  induction rem with
  | zero => exact plans_0 d best hv a1 n1 c1 a2 n2 c2
  | succ rem ih => exact plans_s d best hv a1 n1 c1 a2 n2 c2 rem ih

end Go.Proofs.Ytidjdonppfegiaa
/- The document's plans as a slice that is written no more; sizes of sets, step for step. -/
namespace Go.Proofs.Ytidjdonppfegiaa
open Go.W Go.Dp
structure PlansM (D : Imm) (L : List (List Plc)) (a : Option Addr) (n : Nat) : Prop where
  len : n = L.length
  at_ : ∀ i, i < n → a = some ⟨sb a, so a, none⟩ ∧ ∃ a' n' c', RdD D (sb a) (so a + i * 1) [.slice a' n' c'] ∧ PlanR D (gt L i) a' n'
theorem PlansM.ext {w : World} {D D' : Imm} {L : List (List Plc)} {a : Option Addr} {n : Nat} (h : PlansM D L a n) (hX : DExt w D D') : PlansM D' L a n :=
  ⟨h.len, fun i hi => let ⟨h1, a', n', c', h2, h3⟩ := h.at_ i hi; ⟨h1, a', n', c', h2.ext hX, h3.ext hX⟩⟩
theorem plansM_g (d : Dips) (best : Bool) (hv : dipsB d = true) (a1 : Option Addr) (n1 c1 : Nat) (a2 : Option Addr) (n2 c2 : Nat) (D : Imm) (w : World) (hR : DipsR D d a1 n1 a2 n2) (hH : Holds D w) :
    Makes Try.prog 72 [.agg #[it d.hours, .slice a1 n1 c1, .slice a2 n2 c2], .bool best, .slice none 0 0, .slice none 0 0] w D (fun v D' => ∃ a n c, v = .slice a n c ∧ PlansM D' (plansR d best) a n ∧ n ≤ 248832) := by
  have hn := dips_num hv
  have h5 : 12 ^ d.bathers.length ≤ 12 ^ 5 := Nat.pow_le_pow_right (by omega) hn.2.2.1
  refine Calls.mono (plans_g d best hv a1 n1 c1 a2 n2 c2 d.bathers.length D w hR [] none 0 0 [] [] none (by simp) (fun j hj => by simp at hj) (fun _ => rfl) (PlanR.nil D) (OutR.nil D) rfl (by simpa using h5) (Inv.start hH)) fun e w' ⟨v, D', hpc', he, hX, hI, vs', o', hv', hO, ho, hhp⟩ => ?_
  have hpl : [] ++ plC d best d.bathers.length [] = plansR d best := by rw [List.nil_append, plC, if_neg (fun h => h.1 rfl)]; rfl
  rw [hpl] at hO
  have hle : (plansR d best).length ≤ 248832 := Nat.le_trans (plR_le hv best _ _) h5
  have hlen := hO.len
  subst he
  subst hhp
  cases o' with
  | none =>
    have h0 : vs'.length = 0 := ho
    refine ⟨_, D', rfl, hI.keep, hI.imm, hX, none, 0, 0, by rw [hv', h0]; rfl, ⟨by omega, fun i hi => by omega⟩, by omega⟩
  | some u =>
    have hub : w.heap.size ≤ u.b := (hI.may _ _ (List.mem_of_getElem? (i := 0) rfl)).resolve_left (fun h => by simp [owH, keys] at h)
    have hnu := hI.apart _ _ (List.mem_of_getElem? (i := 0) rfl)
    have hXu := fun o => (DExt.refl w D').add (o := o) hnu hub
    refine ⟨_, _, rfl, hI.keep, hI.freeze.imm, hX.trans (hXu _) (Nat.le_refl _), some ⟨u.b, 0, none⟩, vs'.length, u.cap, hv', ⟨hlen, fun i hi => ⟨rfl, ?_⟩⟩, by omega⟩
    obtain ⟨a', n', c', h1, h2⟩ := hO.at_ i (by omega)
    refine ⟨a', n', c', ⟨_, _, _, Imm.add_self _ _ _, fun j v hj => ?_⟩, h2.ext (hXu _)⟩
    cases j with
    | zero =>
      cases hj
      show (vs' ++ u.rest)[0 + i * 1 + 0]? = _
      rw [show 0 + i * 1 + 0 = i by omega, List.getElem?_append_left (by omega)]
      exact h1
    | succ j => simp at hj
def popK (s : Nat) : Nat → Nat
  | 0 => 0
  | k + 1 => popK s k + s / 2 ^ k % 2
def popKB : Bool := (List.range 32).all fun s => (List.range 6).all fun k => !(s / 2 ^ k == 0) || popK s k == pop s
theorem popK_pop {s k : Nat} (hs : s < 32) (hk : k < 6) (h : s / 2 ^ k = 0) : popK s k = pop s := by
  have h0 : popKB = true := by kernel_rfl
  have h1 := List.all_eq_true.1 (List.all_eq_true.1 h0 s (List.mem_range.2 hs)) k (List.mem_range.2 hk)
  rw [h] at h1
  simpa using h1
theorem popK_le (s : Nat) : ∀ k, popK s k ≤ k := by
  intro k; induction k with
  | zero => exact Nat.le_refl _
  | succ k ih => simp only [popK]; omega
theorem half_pow (s k : Nat) : s / 2 ^ (k + 1) = s / 2 ^ k / 2 := by rw [Nat.pow_succ, Nat.div_div_eq_div_mul]
theorem hasB_nat (u : Nat) (n : Int) : hasB (u : Int) n = decide (u / 2 ^ n.toNat % 2 = 1) := by
  unfold hasB
  have : ((u : Int) / ((2 ^ n.toNat : Nat) : Int) % 2 = 1) ↔ (u / 2 ^ n.toNat % 2 = 1) := by
    rw [← Int.natCast_ediv]; omega
  simp only [this]
theorem checkR_bad {d : Dips} (h : checkR d true ≠ 0) : dipsB d = false := by
  cases hv : dipsB d with
  | false => rfl
  | true => exact absurd (by simp [checkR, hv]) h
theorem checkR_one {d : Dips} (h : dipsB d = false) : checkR d true = 1 := by simp [checkR, h]
theorem sets_num {n : Nat} (hn : n ≤ 5) : 1 ≤ 2 ^ n ∧ 2 ^ n ≤ 32 := ⟨Nat.one_le_two_pow, by have := Nat.pow_le_pow_right (n := 2) (by omega) hn; simpa using this⟩
end Go.Proofs.Ytidjdonppfegiaa
