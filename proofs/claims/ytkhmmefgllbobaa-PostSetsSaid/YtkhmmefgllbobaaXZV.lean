import Derived.Test.YtkhmmefgllbobaaXV
import Derived.Maps.Keyed
set_option linter.unusedSimpArgs false
set_option linter.unusedVariables false
set_option linter.all false
set_option maxRecDepth 100000
set_option maxHeartbeats 1000000
/- A map of one's own that holds just true: which keys it holds. -/
namespace Go.W
section
variable {α : Type} [DecidableEq α] {kv : α → Value}
structure MapB (kv : α → Value) (es : Array MapEntry) (clock : Nat) (F : α → Bool) : Prop where
  ent : ∀ e ∈ es.toList, ∃ x, e.key = kv x ∧ e.val = .bool true ∧ F x = true
  all : ∀ x, F x = true → ∃ e ∈ es.toList, e.key = kv x
theorem MapB.empty (kv : α → Value) : MapB kv #[] 0 (fun _ => false) := ⟨fun e he => (by simp at he), fun x h => (by cases h)⟩
variable {P : Program} {x : Cx} {fr : Fr} {D : Imm} {hp : Hp} {ty : TypeId} {Q : Exit → Act → World → Prop} {t k e : TypeId} {es : Array MapEntry} {clock b j : Nat} {F : α → Bool}
theorem findB_of (hinj : ∀ x y, kv x = kv y → x = y) (L : Go.Maps.Keyed P k) (hkey : ∀ y, ∃ l, keyOf P k (kv y) = some l) (hM : MapB kv es clock F) (y : α) (w : World) :
    ((Instr.findKey k (kv y) es.toList).run P w = .ok none w ∧ F y = false) ∨ ∃ q e0, (Instr.findKey k (kv y) es.toList).run P w = .ok (some (q, .bool true)) w ∧ es.toList[q]? = some e0 ∧ e0.key = kv y ∧ e0.val = .bool true ∧ F y = true := by
  obtain ⟨l, hl⟩ := hkey y
  rcases L.find w hl es.toList (fun e he => by obtain ⟨z, hz, _⟩ := hM.ent e he; rw [hz]; exact hkey z) with ⟨h1, h2⟩ | ⟨q, e0, h1, h2, h3⟩
  · refine .inl ⟨h1, ?_⟩
    cases hF : F y with
    | false => rfl
    | true => obtain ⟨e, he, hek⟩ := hM.all y hF; exact absurd hek (h2 e he)
  · obtain ⟨z, g1, g2, g3⟩ := hM.ent e0 (List.mem_of_getElem? h2)
    have : z = y := hinj z y (by rw [← g1, h3])
    subst this
    exact .inr ⟨q, e0, by rw [h1, g2], h2, h3, g2, g3⟩
theorem Yd.lookB {m i : Operand} (hinj : ∀ x y, kv x = kv y → x = y) (L : Go.Maps.Keyed P k) (hkey : ∀ y, ∃ l, keyOf P k (kv y) = some l) (hu : P.underlying t = some (.map k e)) (hz : ∀ w, (zeroValue e).run P w = .ok (.bool false) w)
    (hm : opv fr m = some (.map (some b))) {y : α} (hi : opv fr i = some (kv y)) (hj : hp[j]? = some (b, .map es clock)) (hM : MapB kv es clock F) : Yd P x fr D hp (.lookup t m i false) ty (.bool (F y)) := fun a w _ _ _ _ hA hI => by
  have hb := hI.own _ _ (mem_of_get? hj)
  have hobj : (getObj b).run P w = .ok (.map es clock) w := by simp [getObj, Sem.run, hb]
  obtain ⟨l, hl⟩ := hkey y
  rcases findB_of hinj L hkey hM y w with ⟨h1, h3⟩ | ⟨q, e0, h1, _, _, _, h5⟩
  · have : (Instr.lookup t (.map (some b)) (kv y) false).run P w = .ok (.bool false) w := by
      simp [Instr.lookup, run_underlying hu, hobj, L.check w _ hl, h1, hz]
    simp only [execOp, hA.eval hm, hA.eval hi, h3]
    simp [this]
  · have : (Instr.lookup t (.map (some b)) (kv y) false).run P w = .ok (.bool true) w := by
      simp [Instr.lookup, run_underlying hu, hobj, L.check w _ hl, h1]
    simp only [execOp, hA.eval hm, hA.eval hi, h5]
    simp [this]
def PutBK (kv : α → Value) (D : Imm) (hp : Hp) (j b : Nat) (F : α → Bool) (y : α) (_ : Value) (D' : Imm) (hp' : Hp) : Prop :=
  D = D' ∧ ∃ es1 clock1, hp' = hp.set j (b, .map es1 clock1) ∧ MapB kv es1 clock1 (fun z => F z || decide (z = y))
/-- true is put -/
theorem SO.putB {m i o : Operand} (hinj : ∀ x y, kv x = kv y → x = y) (L : Go.Maps.Keyed P k) (hkey : ∀ y, ∃ l, keyOf P k (kv y) = some l) (hu : P.underlying t = some (.map k e))
    (hm : opv fr m = some (.map (some b))) {y : α} (hi : opv fr i = some (kv y)) (ho : opv fr o = some (.bool true)) (hj : hp[j]? = some (b, .map es clock)) (hM : MapB kv es clock F) : SO P x fr D hp (.mapUpdate t m i o) ty Q (PutBK kv D hp j b F y) := fun a w dst pos af g next hA hn => by
  have hb := hA.i.own _ _ (mem_of_get? hj)
  have hobj : (getObj b).run P w = .ok (.map es clock) w := by simp [getObj, Sem.run, hb]
  have hset : ∀ o', (setObj b o').run P w = .ok () { w with heap := w.heap.setIfInBounds b o' } := fun o' => by simp [setObj, Sem.run, hb]
  obtain ⟨l, hl⟩ := hkey y
  unfold Oper.wp
  rcases findB_of hinj L hkey hM y w with ⟨h1, h3⟩ | ⟨q, e0, h1, h2, h3, h4, h5⟩
  · have : (Instr.mapUpdate t (.map (some b)) (kv y) (.bool true)).run P w = .ok () { w with heap := w.heap.setIfInBounds b (.map (es.push { key := kv y, val := .bool true, born := clock }) (clock + 1)) } := by
      simp [Instr.mapUpdate, run_underlying hu, hobj, L.check w _ hl, h1, hset]
    simp only [execOp, hA.f.eval hm, hA.f.eval hi, hA.f.eval ho]
    simp only [this, Sem.run_bind, Result.andThen_ok, Sem.run_pure, Sem.run_map, Oper.upon_value, Oper.upon_skip]
    refine hn _ _ _ _ ⟨rfl, _, _, rfl, ⟨fun e he => ?_, fun z hz => ?_⟩⟩ (hA.i.set hj _)
    · simp only [Array.toList_push, List.mem_append, List.mem_singleton] at he
      rcases he with he | rfl
      · obtain ⟨z, g1, g2, g3⟩ := hM.ent e he
        exact ⟨z, g1, g2, by rw [g3]; rfl⟩
      · exact ⟨y, rfl, rfl, by simp⟩
    · simp only [Array.toList_push, List.mem_append, List.mem_singleton]
      rcases Bool.or_eq_true .. |>.mp hz with hz | hz
      · obtain ⟨e, he, hk⟩ := hM.all z hz
        exact ⟨e, .inl he, hk⟩
      · exact ⟨_, .inr rfl, by rw [of_decide_eq_true hz]⟩
  · have hq : es[q]? = some e0 := by simpa using h2
    have hmod : es.modify q (fun e => { e with key := kv y, val := .bool true }) = es := by
      apply Array.ext'
      rw [Array.toList_modify]
      apply List.ext_getElem?
      intro r
      rw [List.getElem?_modify]
      by_cases hr : q = r
      · subst hr; rw [h2]; simp [← h3, ← h4]
      · simp [hr]
    have : (Instr.mapUpdate t (.map (some b)) (kv y) (.bool true)).run P w = .ok () { w with heap := w.heap.setIfInBounds b (.map (es.modify q fun e => { e with key := kv y, val := .bool true }) clock) } := by
      simp [Instr.mapUpdate, run_underlying hu, hobj, L.check w _ hl, h1, hq, h3, L.stays w hl, hset]
    rw [hmod] at this
    simp only [execOp, hA.f.eval hm, hA.f.eval hi, hA.f.eval ho]
    simp only [this, Sem.run_bind, Result.andThen_ok, Sem.run_pure, Sem.run_map, Oper.upon_value, Oper.upon_skip]
    refine hn _ _ _ _ ⟨rfl, es, clock, rfl, ⟨fun e he => ?_, fun z hz => ?_⟩⟩ (hA.i.set hj _)
    · obtain ⟨z, g1, g2, g3⟩ := hM.ent e he
      exact ⟨z, g1, g2, by rw [g3]; rfl⟩
    · rcases Bool.or_eq_true .. |>.mp hz with hz | hz
      · exact hM.all z hz
      · rw [of_decide_eq_true hz]; exact hM.all y h5
end
end Go.W
