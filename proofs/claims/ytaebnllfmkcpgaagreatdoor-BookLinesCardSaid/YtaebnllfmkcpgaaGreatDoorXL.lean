import Derived.Test.YtaebnllfmkcpgaaGreatDoorXB
import Derived.ProofKit
import Derived.Deep.Slices
import Derived.Deep.Fields
import Derived.Lib.SmallJoins
import Derived.SizedLaws
import Derived.Shelf.Vars
import Derived.Lay
import Derived.LaidMore
import Derived.Stop.LaidErr
import Derived.Lib.LaidTab
set_option linter.unusedSimpArgs false
set_option linter.unusedVariables false
set_option linter.all false
set_option maxRecDepth 100000
set_option maxHeartbeats 1000000
/- From a call that gives true and turns no old block to what a law's row asks; the arguments as they lie in memory. -/
namespace Go.W
open Go.ChangeShapes Go.WideShapes Go.RowKit Go.Deep
theorem Keep.below {w w' : World} (h : Keep [] w w') : Below w.heap.size w w' := ⟨h.os, h.tape, h.output, h.size, fun k hk => h.block k hk (by simp)⟩
section
variable {H : Type} {enc : TypeId × Value → H} {P : Program}
theorem trodAll_keep (hl : laidOutB P = true) {W W' : World} {sp : Nat → Bool} (hk : Keep [] W W') : ∀ {ts : List TypeId} {vs : List Value} {ds : List (DataW H)} {ps : List MemPlace},
    ts.all (fun t => P.readableRec t && decide (t < P.types.size)) = true → DataW.TrodAll enc P W 0 (fun _ => true) true ts vs ds ps → (∀ p ∈ ps, p.block < W.heap.size) → (∀ p ∈ ps, sp p.block = true) → DataW.TrodAll enc P W' 0 sp true ts vs ds ps
  | [], [], [], _, _, h, _, _ => h
  | t :: ts, v :: vs, d :: ds, _, ht, ⟨p, q, h1, h2, e⟩, hlt, hs => by
    subst e
    simp only [List.all_cons, Bool.and_eq_true, decide_eq_true_eq] at ht
    refine ⟨p, q, WideElems.Trod_stays hl ht.1.1 ht.1.2 h1 (fun x hx => hk.below.same (hlt x (List.mem_append_left _ hx))) (fun x hx => hs x (List.mem_append_left _ hx)), ?_, rfl⟩
    exact trodAll_keep hl hk (by simpa using ht.2) h2 (fun x hx => hlt x (List.mem_append_right _ hx)) (fun x hx => hs x (List.mem_append_right _ hx))
  | [], _ :: _, _, _, _, h, _, _ => h.elim
  | [], [], _ :: _, _, _, h, _, _ => h.elim
  | _ :: _, [], _, _, _, h, _, _ => h.elim
  | _ :: _, _ :: _, [], _, _, h, _, _ => h.elim
/-- what a law's row asks behind the call -/
theorem law_post (hl : laidOutB P = true) {f : Func} {s : ChangeSpec} {apart fresh handsOn : Bool} {W W' : World} {args : Array Value} {ds gs : List (DataW H)} {before : List MemPlace} {tb : TypeId}
    (hW : DataW.Whole enc P f.params.toList s.vars apart W args.toList ds gs before) (hv : s.vars = []) (hres : (s.fn H (ds ++ gs)).results = [.lit (.bool true)]) (hargs : (s.fn H (ds ++ gs)).args = ds) (hvars : (s.fn H (ds ++ gs)).vars = [])
    (hr : f.resultTypes = #[tb]) (hu : P.underlying tb = some .bool) (ht : f.params.toList.all (fun t => P.readableRec t && decide (t < P.types.size)) = true) (hk : Keep [] W W') :
    s.post enc P f apart fresh handsOn false W args (.bool true) W' := by
  have hW' := hW
  obtain ⟨p, q, hA, hV, rfl, hfz, hnd⟩ := hW
  have hq : gs = [] ∧ q = [] := by
    rw [hv] at hV
    cases gs with
    | nil => exact ⟨rfl, hV⟩
    | cons g gs => exact hV.elim
  obtain ⟨rfl, rfl⟩ := hq
  have hlt : ∀ x ∈ p, x.block < W.heap.size := fun x hx => by simpa using hW'.lt x (List.mem_append_left _ hx)
  have hold : ∀ x ∈ p, (fun b => decide (b < W.heap.size)) x.block = true := fun x hx => by simpa using hlt x hx
  refine ⟨ds, [], p ++ [], [], p, [], hW', ?_, ?_, ?_, World.keptBut_mono (fun x hx => ⟨hx, .inr (.inl (by simpa using hx))⟩) (hk.below.frame _), fun h => by cases h⟩
  · rw [hres, hr]
    exact trodAll_mk1 (shut_bool hu true)
  · rw [hargs]
    exact trodAll_keep hl hk ht hA hlt hold
  · rw [hvars, hv]
    rfl
end
/-- all that lies in memory -/
def heapI (w : World) : Imm := fun b => w.heap[b]?
theorem heapI_holds (w : World) : Holds (heapI w) w := fun _ _ h => h
theorem slL_make {α : Type} [Inhabited α] (f : α → List Value) (D : Imm) (m : Nat) (a : Option Addr) (len : Nat) (h : ∀ i, i < len → ∃ x : α, a = some ⟨sb a, so a, none⟩ ∧ RdD D (sb a) (so a + i * m) (f x)) :
    ∃ l : List α, l.length = len ∧ SlL D m (l.map f) a len := by
  let g : Nat → α := fun i => if hi : i < len then Classical.choose (h i hi) else default
  refine ⟨(List.range len).map g, by simp, by simp, fun i r hr => ?_⟩
  rw [List.getElem?_map, List.getElem?_map] at hr
  rcases Nat.lt_or_ge i len with hi | hi
  · rw [List.getElem?_range hi] at hr
    simp only [Option.map_some, Option.some.injEq] at hr
    subst hr
    have := Classical.choose_spec (h i hi)
    have e : g i = Classical.choose (h i hi) := dif_pos hi
    rw [e]
    exact this
  · rw [List.getElem?_eq_none (by simpa using hi)] at hr
    cases hr
section
variable {H : Type} {enc : TypeId × Value → H} {P : Program} {w : World} {spare : Nat → Bool} {held : Bool}
theorem rdD_cells {a : Addr} {base m : Nat} {cs : List Value} (hm : 0 < m) (h : w.cells? base a m = some cs) : a.spot = none ∧ RdD (heapI w) a.block a.off cs := by
  obtain ⟨_, hl, hc⟩ := World.cells?_some h
  have h0 := hc 0 hm
  rw [List.getElem?_eq_getElem (by omega)] at h0
  have hsp : a.spot = none := by
    have h1 := h0
    unfold World.cell? at h1
    have e : (a.add 0).spot.isSome = a.spot.isSome := by unfold Addr.add; split <;> simp_all
    cases hsp : a.spot with
    | none => rfl
    | some x =>
      rw [hsp] at e
      revert h1
      split
      · rw [if_pos (by rw [e]; rfl)]; intro h; cases h
      · intro h; cases h
  refine ⟨hsp, ?_⟩
  have hadd : ∀ i, a.add i = ⟨a.block, a.off + i, none⟩ := fun i => by
    obtain ⟨b, o, s⟩ := a
    simp only at hsp
    subst hsp
    unfold Addr.add; split <;> simp_all
  have hh : ∃ c e fz, w.heap[a.block]? = some (.cells c e fz) := by
    rw [hadd] at h0
    unfold World.cell? at h0
    revert h0
    split
    · rename_i c e fz hq; intro _; exact ⟨c, e, fz, hq⟩
    · intro h; cases h
  obtain ⟨c, e, fz, hq⟩ := hh
  refine ⟨c.toList, e, fz, by simpa [heapI] using hq, fun j v hj => ?_⟩
  have hjl : j < cs.length := by
    rcases Nat.lt_or_ge j cs.length with h1 | h1
    · exact h1
    · rw [List.getElem?_eq_none h1] at hj; cases hj
  have := hc j (by omega)
  rw [hadd, hj] at this
  unfold World.cell? at this
  simp only [hq, Option.isSome_none, Bool.false_eq_true, if_false] at this
  simpa using this
/-- a slice that came in -/
theorem open_sl {α : Type} [Inhabited α] (f : α → List Value) {t e : TypeId} {m fuel : Nat} {cs : List Value} {x : DataW H × List MemPlace} (ht : P.underlying t = some (.slice e)) (hm : P.cellsOf e = m) (h0 : 0 < m)
    (hel : ∀ n cs' y, DataW.trod enc P w 0 spare held n e cs' = some y → cs'.length = m → ∃ u : α, cs' = f u) (h : DataW.trod enc P w 0 spare held fuel t cs = some x) :
    ∃ (l : List α) (a : Option Addr) (n c : Nat), cs = [.slice a n c] ∧ n ≤ maxLen ∧ SlL (heapI w) m (l.map f) a n := by
  rcases open_slice ht h with ⟨rfl, _⟩ | ⟨a, len, cap, m', n, D, Pl, rfl, hb, hl, hmx, hmm, _, hi⟩
  · exact ⟨[], none, 0, 0, rfl, Nat.zero_le _, rfl, fun i r hr => by simp at hr⟩
  · have hlen : len ≤ m' := by rw [hmm]; split <;> omega
    obtain ⟨l, hll, hs⟩ := slL_make f (heapI w) m (some a) len (fun i hil => by
      obtain ⟨cs', hc, ht'⟩ := hi i (by omega)
      rw [hm] at hc
      obtain ⟨u, hu⟩ := hel _ _ _ ht' (World.cells?_some hc).2.1
      obtain ⟨hsp, hr⟩ := rdD_cells h0 hc
      obtain ⟨cs0, hc0, ht0⟩ := hi 0 (by omega)
      rw [hm] at hc0
      have hsp0 := (rdD_cells h0 hc0).1
      rw [Nat.zero_mul] at hsp0
      obtain ⟨ab, ao, asp⟩ := a
      have has : asp = none := by
        have e : (Addr.add ⟨ab, ao, asp⟩ 0) = ⟨ab, ao, asp⟩ := by unfold Addr.add; simp
        rw [e] at hsp0; exact hsp0
      subst has
      refine ⟨u, rfl, ?_⟩
      rw [← hu]
      have e1 : (Addr.add ⟨ab, ao, none⟩ (i * m)) = ⟨ab, ao + i * m, none⟩ := by unfold Addr.add; split <;> simp_all
      rw [e1] at hr
      exact hr)
    exact ⟨l, some a, len, cap, rfl, by omega, hs⟩
end
end Go.W
/- The wrap of a row that lists variables, with the world's shape; a variable's cells in memory. -/
namespace Go.W
open Go.ChangeShapes Go.WideShapes Go.RowKit Go.Deep
section
variable {H : Type} {enc : TypeId × Value → H}
theorem handed_laid {a : Assume} {C : Checked} {os : Os} {f : FuncId} {fn : Func} {s : ChangeSpec} {conds : List PathCond} {apart fresh handsOn again : Bool} {X : World → Array Value → Prop}
    (hX : ∀ (w w' : World) (args : Array Value), w.heap = w'.heap → X w args → X w' args)
    (own : ownKnob C.prog.godebug = none) (started : os.Started) (noInit : C.prog.inits.idxOf? f = none) (hfn : C.prog.funcs[f]? = some fn)
    (witness : ∃ (w : World) (tape : Tape) (i : Input), w.os = os ∧ (w.forCall tape i).Shaped C.prog ∧ i.vars = [] ∧ Input.okWide C.prog (w.forCall tape i) .any w.heap.size f i ∧
      ((s.pre enc C.prog fn conds apart (w.forCall tape i).memory i.args ∧ X (w.forCall tape i).memory i.args) ∧ sizedMet enc C.prog fn (OpenSpec.ofChange s) apart (w.forCall tape i).memory i.args) ∧ a.holds C.prog (lone (Frame.enter C.prog f i.args .normal) [] (w.forCall tape i)))
    (contract : ∀ (W : World) (base : Nat) (args : Array Value) (ds gs : List (DataW H)) (before : List MemPlace),
      (∀ (j : Nat) t v, fn.params[j]? = some t → args[j]? = some v → Value.okWide C.prog W .any base t v) →
      DataW.Whole enc C.prog fn.params.toList s.vars apart W args.toList ds gs before → W.ShapedOpen C.prog → X W args →
      Calls C.prog f args W fun e W' => ∃ v, e = .returned v ∧ s.post enc C.prog fn apart fresh handsOn again W args v W') :
    ReturnsInHanded a C os f .any (fun w args => (s.pre enc C.prog fn conds apart w args ∧ X w args) ∧ sizedMet enc C.prog fn (OpenSpec.ofChange s) apart w args) (s.post enc C.prog fn apart fresh handsOn again) := by
  refine returnsInHanded_of_calls own started noInit witness ?_
  intro w tape i _ hsh _ hok hpre _
  obtain ⟨_, _, _, fn', hfn', _, _, _, _, hval⟩ := hok
  have e : fn' = fn := Option.some.inj (hfn'.symm.trans hfn)
  subst e
  obtain ⟨⟨⟨ds, gs, before, hw, _⟩, hx⟩, _⟩ := hpre
  have hw' := DataW.Whole.of_heap (w' := w.forCall tape i) (by rfl) hw
  refine (contract (w.forCall tape i) w.heap.size i.args ds gs before hval hw' hsh (hX _ _ _ (by rfl) hx)).mono fun e W' ⟨v, he, hp⟩ => ?_
  subst he
  exact ChangeSpec.post_blind hp
end
/-- a variable's cells lie in its block -/
theorem var_heapI {P : Program} {W : World} {n : String} {g : Nat} {cs : Array Value} (hg : P.globalNamed n = some g) (hv : W.var? P n = some cs) : ∃ t fz, heapI W g = some (.cells cs t fz) := by
  unfold World.var? at hv
  rw [hg] at hv
  simp only [Option.bind_some] at hv
  unfold heapI
  split at hv
  · rename_i c t fz he
    cases hv
    exact ⟨t, fz, he⟩
  · cases hv
theorem cell_heapI {W : World} {g : Nat} {v : Value} (h : W.cell? ⟨g, 0, none⟩ = some v) : ∃ r t fz, heapI W g = some (.cells (List.toArray (v :: r)) t fz) := by
  unfold World.cell? at h
  unfold heapI
  revert h
  split
  · rename_i cs t fz he
    intro h
    simp only [Option.isSome_none, Bool.false_eq_true, if_false] at h
    obtain ⟨l⟩ := cs
    cases l with
    | nil => simp at h
    | cons x r =>
      simp at h
      subst h
      exact ⟨r, t, fz, he⟩
  · intro h; cases h
section
variable {H : Type} {enc : TypeId × Value → H} {P : Program} {w : World} {base : Nat} {spare : Nat → Bool} {held : Bool}
end
end Go.W
