import Derived.Test.YtpnbkdlejfmbeaaXB
import Derived.ProofKit
import Derived.Deep.Slices
import Derived.Deep.Fields
import Derived.Lib.SmallJoins
set_option linter.unusedSimpArgs false
set_option linter.unusedVariables false
set_option linter.all false
/- From a call that gives true and turns no old block to what a law's row asks; the arguments as they lie in memory. -/
namespace Go.W
open Go.ChangeShapes Go.WideShapes Go.RowKit Go.Deep
theorem Keep.below {w w' : World} (h : Keep [] w w') : Below w.heap.size w w' := ⟨h.os, h.tape, h.output, h.size, fun k hk => h.block k hk (by simp)⟩
section
variable {H : Type} {enc : TypeId × Value → H} {P : Program}
theorem trodAll_keep (hl : laidOutB P = true) {W W' : World} {sp : Nat → Bool} (hk : Keep [] W W') : ∀ {ts : List TypeId} {vs : List Value} {ds : List (DataW H)} {ps : List MemPlace},
    ts.all (fun t => P.readableRec t && decide (t < P.types.size)) = true → DataW.TrodAll enc P W 0 (fun _ => true) true ts vs ds ps → (∀ p ∈ ps, p.block < W.heap.size) → (∀ p ∈ ps, sp p.block = true) → DataW.TrodAll enc P W' 0 sp true ts vs ds ps
  | [], [], [], _, _, h, _, _ => h
  | t :: ts, v :: vs, d :: ds, _, ht, ⟨p, q, h1, h2, e⟩, hlt, hs => by
    subst e
    simp only [List.all_cons, Bool.and_eq_true, decide_eq_true_eq] at ht
    refine ⟨p, q, WideElems.Trod_stays hl ht.1.1 ht.1.2 h1 (fun x hx => hk.below.same (hlt x (List.mem_append_left _ hx))) (fun x hx => hs x (List.mem_append_left _ hx)), ?_, rfl⟩
    exact trodAll_keep hl hk (by simpa using ht.2) h2 (fun x hx => hlt x (List.mem_append_right _ hx)) (fun x hx => hs x (List.mem_append_right _ hx))
  | [], _ :: _, _, _, _, h, _, _ => h.elim
  | [], [], _ :: _, _, _, h, _, _ => h.elim
  | _ :: _, [], _, _, _, h, _, _ => h.elim
  | _ :: _, _ :: _, [], _, _, h, _, _ => h.elim
/-- what a law's row asks behind the call -/
theorem law_post (hl : laidOutB P = true) {f : Func} {s : ChangeSpec} {apart fresh handsOn again : Bool} {W W' : World} {args : Array Value} {ds gs : List (DataW H)} {before : List MemPlace} {tb : TypeId}
    (hW : DataW.Whole enc P f.params.toList s.vars apart W args.toList ds gs before) (hv : s.vars = []) (hres : (s.fn H (ds ++ gs)).results = [.lit (.bool true)]) (hargs : (s.fn H (ds ++ gs)).args = ds) (hvars : (s.fn H (ds ++ gs)).vars = [])
    (hr : f.resultTypes = #[tb]) (hu : P.underlying tb = some .bool) (ht : f.params.toList.all (fun t => P.readableRec t && decide (t < P.types.size)) = true) (hk : Keep [] W W') :
    s.post enc P f apart fresh handsOn again W args (.bool true) W' := by
  have hW' := hW
  obtain ⟨p, q, hA, hV, rfl, hfz, hnd⟩ := hW
  have hq : gs = [] ∧ q = [] := by
    rw [hv] at hV
    cases gs with
    | nil => exact ⟨rfl, hV⟩
    | cons g gs => exact hV.elim
  obtain ⟨rfl, rfl⟩ := hq
  have hlt : ∀ x ∈ p, x.block < W.heap.size := fun x hx => by simpa using hW'.lt x (List.mem_append_left _ hx)
  refine post_of_same (pa := p) (pv := []) hW' (fun b sp hd => ?_) (fun sp hsp => ?_) (fun sp hsp => ?_) rfl ?_ hk.fz ?_
  · rw [hres, hr]
    exact trodAll_mk1 (shut_bool hu true)
  · rw [hargs]
    exact trodAll_keep hl hk ht hA hlt (fun x hx => hsp x (List.mem_append_left _ hx))
  · rw [hvars, hv]
    rfl
  · exact hk.below.frame _
  · exact ok_one hr rfl (okWide_bool_mk hu true)
end
/-- all that lies in memory -/
def heapI (w : World) : Imm := fun b => w.heap[b]?
theorem heapI_holds (w : World) : Holds (heapI w) w := fun _ _ h => h
theorem slL_make {α : Type} [Inhabited α] (f : α → List Value) (D : Imm) (m : Nat) (a : Option Addr) (len : Nat) (h : ∀ i, i < len → ∃ x : α, a = some ⟨sb a, so a, none⟩ ∧ RdD D (sb a) (so a + i * m) (f x)) :
    ∃ l : List α, l.length = len ∧ SlL D m (l.map f) a len := by
  let g : Nat → α := fun i => if hi : i < len then Classical.choose (h i hi) else default
  refine ⟨(List.range len).map g, by simp, by simp, fun i r hr => ?_⟩
  rw [List.getElem?_map, List.getElem?_map] at hr
  rcases Nat.lt_or_ge i len with hi | hi
  · rw [List.getElem?_range hi] at hr
    simp only [Option.map_some, Option.some.injEq] at hr
    subst hr
    have := Classical.choose_spec (h i hi)
    have e : g i = Classical.choose (h i hi) := dif_pos hi
    rw [e]
    exact this
  · rw [List.getElem?_eq_none (by simpa using hi)] at hr
    cases hr
section
variable {H : Type} {enc : TypeId × Value → H} {P : Program} {w : World} {spare : Nat → Bool} {held : Bool}
theorem rdD_cells {a : Addr} {base m : Nat} {cs : List Value} (hm : 0 < m) (h : w.cells? base a m = some cs) : a.spot = none ∧ RdD (heapI w) a.block a.off cs := by
  obtain ⟨_, hl, hc⟩ := World.cells?_some h
  have h0 := hc 0 hm
  rw [List.getElem?_eq_getElem (by omega)] at h0
  have hsp : a.spot = none := by
    have h1 := h0
    unfold World.cell? at h1
    have e : (a.add 0).spot.isSome = a.spot.isSome := by unfold Addr.add; split <;> simp_all
    cases hsp : a.spot with
    | none => rfl
    | some x =>
      rw [hsp] at e
      revert h1
      split
      · rw [if_pos (by rw [e]; rfl)]; intro h; cases h
      · intro h; cases h
  refine ⟨hsp, ?_⟩
  have hadd : ∀ i, a.add i = ⟨a.block, a.off + i, none⟩ := fun i => by
    obtain ⟨b, o, s⟩ := a
    simp only at hsp
    subst hsp
    unfold Addr.add; split <;> simp_all
  have hh : ∃ c e fz, w.heap[a.block]? = some (.cells c e fz) := by
    rw [hadd] at h0
    unfold World.cell? at h0
    revert h0
    split
    · rename_i c e fz hq; intro _; exact ⟨c, e, fz, hq⟩
    · intro h; cases h
  obtain ⟨c, e, fz, hq⟩ := hh
  refine ⟨c.toList, e, fz, by simpa [heapI] using hq, fun j v hj => ?_⟩
  have hjl : j < cs.length := by
    rcases Nat.lt_or_ge j cs.length with h1 | h1
    · exact h1
    · rw [List.getElem?_eq_none h1] at hj; cases hj
  have := hc j (by omega)
  rw [hadd, hj] at this
  unfold World.cell? at this
  simp only [hq, Option.isSome_none, Bool.false_eq_true, if_false] at this
  simpa using this
/-- a slice that came in -/
theorem open_sl {α : Type} [Inhabited α] (f : α → List Value) {t e : TypeId} {m fuel : Nat} {cs : List Value} {x : DataW H × List MemPlace} (ht : P.underlying t = some (.slice e)) (hm : P.cellsOf e = m) (h0 : 0 < m)
    (hel : ∀ n cs' y, DataW.trod enc P w 0 spare held n e cs' = some y → cs'.length = m → ∃ u : α, cs' = f u) (h : DataW.trod enc P w 0 spare held fuel t cs = some x) :
    ∃ (l : List α) (a : Option Addr) (n c : Nat), cs = [.slice a n c] ∧ n ≤ maxLen ∧ SlL (heapI w) m (l.map f) a n := by
  rcases open_slice ht h with ⟨rfl, _⟩ | ⟨a, len, cap, m', n, D, Pl, rfl, hb, hl, hmx, hmm, _, hi⟩
  · exact ⟨[], none, 0, 0, rfl, Nat.zero_le _, rfl, fun i r hr => by simp at hr⟩
  · have hlen : len ≤ m' := by rw [hmm]; split <;> omega
    obtain ⟨l, hll, hs⟩ := slL_make f (heapI w) m (some a) len (fun i hil => by
      obtain ⟨cs', hc, ht'⟩ := hi i (by omega)
      rw [hm] at hc
      obtain ⟨u, hu⟩ := hel _ _ _ ht' (World.cells?_some hc).2.1
      obtain ⟨hsp, hr⟩ := rdD_cells h0 hc
      obtain ⟨cs0, hc0, ht0⟩ := hi 0 (by omega)
      rw [hm] at hc0
      have hsp0 := (rdD_cells h0 hc0).1
      rw [Nat.zero_mul] at hsp0
      obtain ⟨ab, ao, asp⟩ := a
      have has : asp = none := by
        have e : (Addr.add ⟨ab, ao, asp⟩ 0) = ⟨ab, ao, asp⟩ := by unfold Addr.add; simp
        rw [e] at hsp0; exact hsp0
      subst has
      refine ⟨u, rfl, ?_⟩
      rw [← hu]
      have e1 : (Addr.add ⟨ab, ao, none⟩ (i * m)) = ⟨ab, ao + i * m, none⟩ := by unfold Addr.add; split <;> simp_all
      rw [e1] at hr
      exact hr)
    exact ⟨l, some a, len, cap, rfl, by omega, hs⟩
end
end Go.W
