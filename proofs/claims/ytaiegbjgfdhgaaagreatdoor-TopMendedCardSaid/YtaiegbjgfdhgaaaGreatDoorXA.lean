import Derived.WalkKit
import Derived.OrdersHeld
import Derived.Deep.Quiet
import Derived.DeepKeys5
set_option linter.all false
set_option maxRecDepth 100000
set_option maxHeartbeats 4000000
namespace Go.W
abbrev Fr := List (Nat × Value)
def Fr.get : Fr → Nat → Option Value
  | [], _ => none
  | (i, v) :: r, t => bif Nat.beq i t then some v else Fr.get r t
def opv (fr : Fr) : Operand → Option Value
  | .tmp t => fr.get t
  | .const v => some v
  | .global g => some (.pointer (some ⟨g, 0, none⟩))
  | .func f => some (.func (.func f) #[] #[])
abbrev Imm := Nat → Option Obj
abbrev Hp := List (Nat × Obj)
structure Keep (S : List Nat) (w w' : World) : Prop where
  os : w'.os = w.os
  tape : w'.tape = w.tape
  output : w'.output = w.output
  size : w.heap.size ≤ w'.heap.size
  block : ∀ k, k < w.heap.size → k ∉ S → w'.heap[k]? = w.heap[k]?
  fz : ∀ a : Addr, a.block < w.heap.size → w'.frozen? a = w.frozen? a
theorem Keep.refl (S : List Nat) (w : World) : Keep S w w := ⟨rfl, rfl, rfl, Nat.le_refl _, fun _ _ _ => rfl, fun _ _ => rfl⟩
theorem Keep.trans {S : List Nat} {a b c : World} (h : Keep S a b) (k : Keep S b c) : Keep S a c :=
  ⟨k.os.trans h.os, k.tape.trans h.tape, k.output.trans h.output, Nat.le_trans h.size k.size, fun i hi hS => (k.block i (Nat.lt_of_lt_of_le hi h.size) hS).trans (h.block i hi hS), fun a ha => (k.fz a (Nat.lt_of_lt_of_le ha h.size)).trans (h.fz a ha)⟩
theorem Keep.mono {S S' : List Nat} {a b : World} (h : Keep S a b) (hs : ∀ k, k ∈ S → k ∈ S') : Keep S' a b :=
  ⟨h.os, h.tape, h.output, h.size, fun k hk hS => h.block k hk (fun h' => hS (hs k h')), h.fz⟩
theorem Keep.nil {S : List Nat} {a b : World} (h : Keep [] a b) : Keep S a b := h.mono (by simp)
def Holds (D : Imm) (w : World) : Prop := ∀ b o, D b = some o → w.heap[b]? = some o
theorem Holds.keep {D : Imm} {w w' : World} (h : Holds D w) (k : Keep [] w w') : Holds D w' := fun b o hb => by
  have h1 := h b o hb
  have hlt : b < w.heap.size := by
    rcases Nat.lt_or_ge b w.heap.size with h2 | h2
    · exact h2
    · rw [Array.getElem?_eq_none h2] at h1; cases h1
  rw [k.block b hlt (by simp)]; exact h1
structure Cx where
  n : Nat
  ds : List Deferred
  S : List Nat
  w0 : World
structure Inv (D : Imm) (hp : Hp) (S : List Nat) (w0 w : World) : Prop where
  imm : Holds D w
  own : ∀ b o, (b, o) ∈ hp → w.heap[b]? = some o
  nodup : (hp.map Prod.fst).Nodup
  apart : ∀ b o, (b, o) ∈ hp → D b = none
  keep : Keep S w0 w
  may : ∀ b o, (b, o) ∈ hp → b ∈ S ∨ w0.heap.size ≤ b
theorem lt_of_some {w : World} {b : Nat} {o : Obj} (h : w.heap[b]? = some o) : b < w.heap.size := by
  rcases Nat.lt_or_ge b w.heap.size with h2 | h2
  · exact h2
  · rw [Array.getElem?_eq_none h2] at h; cases h
section
variable {D : Imm} {hp : Hp} {S : List Nat}
include D hp S
theorem Inv.of_heap {w0 w w' : World} (h : Inv D hp S w0 w) (hos : w'.os = w.os) (ht : w'.tape = w.tape) (ho : w'.output = w.output) (hh : w'.heap = w.heap) : Inv D hp S w0 w' := by
  have hk : Keep S w0 w' := ⟨hos.trans h.keep.os, ht.trans h.keep.tape, ho.trans h.keep.output, by rw [hh]; exact h.keep.size, by rw [hh]; exact h.keep.block, fun a ha => (by unfold World.frozen?; rw [hh] : w'.frozen? a = w.frozen? a).trans (h.keep.fz a ha)⟩;exact ⟨fun b o hb => by rw [hh]; exact h.imm b o hb, fun b o hb => by rw [hh]; exact h.own b o hb, h.nodup, h.apart, hk, h.may⟩
theorem Inv.drew {w0 w : World} (h : Inv D hp S w0 w) (n : Nat) : Inv D hp S w0 { w with drawn := n } := h.of_heap rfl rfl rfl rfl
theorem Inv.call {w0 w w' : World} (h : Inv D hp S w0 w) (k : Keep [] w w') : Inv D hp S w0 w' := by
  refine ⟨h.imm.keep k, fun b o hb => ?_, h.nodup, h.apart, h.keep.trans k.nil, h.may⟩;have h1 := h.own b o hb;rw [k.block b (lt_of_some h1) (by simp)]; exact h1
end
def WT (o : Obj) : Bool := match o with | .cells _ _ (lo, hi) => Nat.beq lo hi | _ => true
theorem qK {w : World} {a : Addr} {o : Obj} (h : w.heap[a.block]? = some o) (ho : WT o = true) : w.frozen? a = false := by
  unfold World.frozen?;rw [h];cases o with
  | cells c e fz =>
    obtain ⟨lo, hi⟩ := fz;have e1 : lo = hi := Nat.eq_of_beq_eq_true ho;subst e1
    show (decide (lo ≤ a.off) && decide (a.off < lo)) = false;rw [Bool.eq_false_iff];intro hb;simp only [Bool.and_eq_true, decide_eq_true_eq] at hb;omega
  | _ => rfl
theorem xZ {w w' : World} {a : Addr} (h : w'.heap[a.block]? = w.heap[a.block]?) : w'.frozen? a = w.frozen? a := by
  unfold World.frozen?;rw [h]
theorem Inv.new {D : Imm} {hp : Hp} {S : List Nat} {w0 w : World} (h : Inv D hp S w0 w) (o : Obj) (ho : WT o = true := by rfl) : Inv D ((w.heap.size, o) :: hp) S w0 { w with heap := w.heap.push o } := by
  have hd : D w.heap.size = none := by
    cases hD : D w.heap.size with
    | none => rfl
    | some o' => exact absurd (lt_of_some (h.imm _ _ hD)) (by omega)
  have hold : ∀ b o', w.heap[b]? = some o' → (w.heap.push o)[b]? = some o' := fun b o' hb => by
    rw [Array.getElem?_push, if_neg (by have := lt_of_some hb; omega)]; exact hb
  refine ⟨fun b o' hb => hold _ _ (h.imm _ _ hb), ?_, ?_, ?_, ?_, ?_⟩
  · intro b o' hb;rcases List.mem_cons.1 hb with e | e
    · cases e; simp
    · exact hold _ _ (h.own _ _ e)
  · simp only [List.map_cons, List.nodup_cons];refine ⟨fun hm => ?_, h.nodup⟩;obtain ⟨e, he, heq⟩ := List.mem_map.1 hm;have := lt_of_some (h.own e.1 e.2 he);omega
  · intro b o' hb;rcases List.mem_cons.1 hb with e | e
    · cases e; exact hd
    · exact h.apart _ _ e
  · refine h.keep.trans ⟨rfl, rfl, rfl, by simp, fun k hk _ => ?_, fun a ha => ?_⟩
    · show (w.heap.push o)[k]? = _;rw [Array.getElem?_push, if_neg (by omega)]
    · exact xZ (by show (w.heap.push o)[a.block]? = _; rw [Array.getElem?_push, if_neg (by omega)])
  · intro b o' hb;rcases List.mem_cons.1 hb with e | e
    · cases e; exact .inr h.keep.size
    · exact h.may _ _ e
theorem Inv.sub {D : Imm} {hp hp' : Hp} {S : List Nat} {w0 w : World} (h : Inv D hp S w0 w) (hs : ∀ e, e ∈ hp' → e ∈ hp) (hn : (hp'.map Prod.fst).Nodup) : Inv D hp' S w0 w :=
  ⟨h.imm, fun b o hb => h.own b o (hs _ hb), hn, fun b o hb => h.apart b o (hs _ hb), h.keep, fun b o hb => h.may b o (hs _ hb)⟩
theorem mem_of_get? {hp : Hp} {k b : Nat} {o : Obj} (h : hp[k]? = some (b, o)) : (b, o) ∈ hp := List.mem_of_getElem? h
section
variable {D : Imm} {hp : Hp} {S : List Nat} {w0 w : World} (h : Inv D hp S w0 w) {k b : Nat} {o : Obj} (hk : hp[k]? = some (b, o)) (o' : Obj)
include D hp S w0 w h k b o hk o'
theorem Inv.setF (hfz : ∀ a, ({ w with heap := w.heap.setIfInBounds b o' } : World).frozen? a = w.frozen? a) :
    Inv D (hp.set k (b, o')) S w0 { w with heap := w.heap.setIfInBounds b o' } := by
  have hmem := mem_of_get? hk;have hb := h.own b o hmem;have hlt := lt_of_some hb
  have hkl : k < hp.length := by
    rcases Nat.lt_or_ge k hp.length with h2 | h2
    · exact h2
    · rw [List.getElem?_eq_none h2] at hk; cases hk
  have hkey : (hp.set k (b, o')).map Prod.fst = hp.map Prod.fst := by
    rw [List.map_set];apply List.ext_getElem?;intro i;by_cases hi : i = k
    · subst hi;have : (hp.map Prod.fst)[i]? = some b := by simp [hk]
      simp [hkl];rw [List.getElem?_eq_getElem hkl] at hk;simp at hk;simp [hk]
    · rw [List.getElem?_set_ne (Ne.symm hi)]
  -- another entry's block is another block
  have hne : ∀ i e, hp[i]? = some e → i ≠ k → e.1 ≠ b := fun i e hi hik heq => by
    have h1 : (hp.map Prod.fst)[i]? = some b := by simp [hi, heq]
    have h2 : (hp.map Prod.fst)[k]? = some b := by simp [hk]
    have hil : i < (hp.map Prod.fst).length := by
      rcases Nat.lt_or_ge i (hp.map Prod.fst).length with h3 | h3
      · exact h3
      · rw [List.getElem?_eq_none h3] at h1; cases h1
    have := (List.getElem?_inj hil h.nodup).1 (h1.trans h2.symm);exact hik this
  refine ⟨fun b' o'' hb' => ?_, fun b' o'' hm => ?_, by rw [hkey]; exact h.nodup, fun b' o'' hm => ?_, ?_, fun b' o'' hm => ?_⟩
  · have : b' ≠ b := fun e => by subst e; rw [h.apart _ _ hmem] at hb'; cases hb'
    show (w.heap.setIfInBounds b o')[b']? = _;rw [Array.getElem?_setIfInBounds_ne (Ne.symm this)];exact h.imm _ _ hb'
  · obtain ⟨i, hi⟩ := List.mem_iff_getElem?.1 hm
    show (w.heap.setIfInBounds b o')[b']? = _;by_cases hik : i = k
    · subst hik;rw [List.getElem?_set_self hkl] at hi;cases hi
      rw [Array.getElem?_setIfInBounds_self_of_lt hlt]
    · rw [List.getElem?_set_ne (Ne.symm hik)] at hi;have hn := hne i _ hi hik;rw [Array.getElem?_setIfInBounds_ne (Ne.symm hn)];exact h.own _ _ (List.mem_of_getElem? hi)
  · obtain ⟨i, hi⟩ := List.mem_iff_getElem?.1 hm;by_cases hik : i = k
    · subst hik;rw [List.getElem?_set_self hkl] at hi;cases hi
      exact h.apart _ _ hmem
    · rw [List.getElem?_set_ne (Ne.symm hik)] at hi;exact h.apart _ _ (List.mem_of_getElem? hi)
  · refine ⟨h.keep.os, h.keep.tape, h.keep.output, by simpa using h.keep.size, fun j hj hS => ?_, fun a ha => (hfz a).trans (h.keep.fz a ha)⟩
    have : j ≠ b := fun e => by
      subst e;rcases h.may _ _ hmem with h1 | h1
      · exact hS h1
      · omega
    show (w.heap.setIfInBounds b o')[j]? = _;rw [Array.getElem?_setIfInBounds_ne (Ne.symm this)];exact h.keep.block j hj hS
  · obtain ⟨i, hi⟩ := List.mem_iff_getElem?.1 hm;by_cases hik : i = k
    · subst hik;rw [List.getElem?_set_self hkl] at hi;cases hi
      exact h.may _ _ hmem
    · rw [List.getElem?_set_ne (Ne.symm hik)] at hi;exact h.may _ _ (List.mem_of_getElem? hi)
theorem Inv.set (ho : WT o = true := by rfl) (ho' : WT o' = true := by rfl) :
    Inv D (hp.set k (b, o')) S w0 { w with heap := w.heap.setIfInBounds b o' } :=
  h.setF hk o' fun a => by
    have hb := h.own b o (mem_of_get? hk);by_cases e : a.block = b
    · subst e;rw [qK hb ho, qK (o := o') (by show (w.heap.setIfInBounds a.block o')[a.block]? = _; rw [Array.getElem?_setIfInBounds_self_of_lt (lt_of_some hb)]) ho']
    · exact xZ (by show (w.heap.setIfInBounds b o')[a.block]? = _; rw [Array.getElem?_setIfInBounds_ne (Ne.symm e)])
end
structure AtF (n : Nat) (fr : Fr) (ds : List Deferred) (a : Act) : Prop where
  size : a.tmps.size = n
  defers : a.defers = ds
  slot : ∀ t v, fr.get t = some v → a.tmps[t]? = some v
section
variable {n : Nat} {fr : Fr} {ds : List Deferred} {a : Act} (h : AtF n fr ds a)
include n fr ds a h
theorem AtF.eval {x : Operand} {v : Value} (hx : opv fr x = some v) : a.eval x = v := by
  cases x with
  | tmp t => have := h.slot t v hx; simp [Act.eval, this]
  | const u => simpa [opv, Act.eval] using hx
  | global g => simpa [opv, Act.eval] using hx
  | func f => simpa [opv, Act.eval] using hx
theorem AtF.put {d : Nat} (hd : Nat.blt d n = true) (v : Value) : AtF n ((d, v) :: fr) ds (a.put (some d) v) := by
  refine ⟨by simp [Act.put, h.size], h.defers, fun t u ht => ?_⟩;have hd' : d < n := by simpa [Nat.blt_eq] using hd
  by_cases e : d = t
  · subst e;simp [Fr.get] at ht;subst ht;simp [Act.put, h.size, hd']
  · have hb : Nat.beq d t = false := by
      cases hb : Nat.beq d t
      · rfl
      · exact absurd (Nat.eq_of_beq_eq_true hb) e
    simp only [Fr.get, hb, cond_false] at ht;simp only [Act.put, Array.getElem?_setIfInBounds, if_neg e];exact h.slot t u ht
end
theorem AtF.weaken {n : Nat} {fr fr' : Fr} {ds : List Deferred} {a : Act} (h : AtF n fr ds a) (hw : ∀ t v, fr'.get t = some v → fr.get t = some v) : AtF n fr' ds a :=
  ⟨h.size, h.defers, fun t v ht => h.slot t v (hw t v ht)⟩
def subB : Fr → Fr → Prop
  | [], _ => True
  | (i, v) :: r, fr => fr.get i = some v ∧ subB r fr
theorem x8 {fr fr' : Fr} (h : subB fr' fr) : ∀ t v, fr'.get t = some v → fr.get t = some v := by
  induction fr' with
  | nil => intro t v ht; simp [Fr.get] at ht
  | cons e r ih =>
    obtain ⟨i, u⟩ := e;intro t v ht;obtain ⟨h1, h2⟩ := h;cases hb : Nat.beq i t with
    | true =>
      have := Nat.eq_of_beq_eq_true hb;subst this;simp only [Fr.get, hb, cond_true] at ht;cases ht; exact h1
    | false =>
      simp only [Fr.get, hb, cond_false] at ht;exact ih h2 t v ht
structure At (x : Cx) (fr : Fr) (D : Imm) (hp : Hp) (a : Act) (w : World) : Prop where
  f : AtF x.n fr x.ds a
  i : Inv D hp x.S x.w0 w
def WC (P : Program) (x : Cx) (fr : Fr) (D : Imm) (hp : Hp) (c : Code) (Q : Exit → Act → World → Prop) : Prop := ∀ a w, At x fr D hp a w → c.wp P Q a w
def WL (P : Program) (x : Cx) (ops : Array Oper) (fr : Fr) (D : Imm) (hp : Hp) (l : List Oper) (Q : Exit → Act → World → Prop) : Prop := ∀ a w, At x fr D hp a w → wpList P ops Q l a w
def WP (x : Cx) (fr : Fr) (D : Imm) (hp : Hp) (e : Exit) (Q : Exit → Act → World → Prop) : Prop := ∀ a w, At x fr D hp a w → Q e a w
section code
variable {P : Program} {x : Cx} {fr : Fr} {D : Imm} {hp : Hp} {Q : Exit → Act → World → Prop}
theorem WC.seq {c d : Code} (h : WC P x fr D hp c (Exit.then (d.wp P Q) Q)) : WC P x fr D hp (.seq c d) Q := fun a w hA => wp_seq (h a w hA)
theorem WC.block {id : Nat} {c : Code} (h : WC P x fr D hp c (Exit.inBlock id Q)) : WC P x fr D hp (.block id c) Q := fun a w hA => wp_block (h a w hA)
theorem WC.skip (h : WP x fr D hp .normal Q) : WC P x fr D hp .skip Q := fun a w hA => wp_skip (h a w hA)
theorem WC.ret (h : WP x fr D hp .ret Q) : WC P x fr D hp .ret Q := fun a w hA => wp_ret (h a w hA)
theorem WC.exit {id : Nat} (h : WP x fr D hp (.exit id) Q) : WC P x fr D hp (.exit id) Q := fun a w hA => wp_exit (h a w hA)
theorem WC.region {id : Nat} {l : List Oper} (h : WL P x l.toArray fr D hp l Q) : WC P x fr D hp (.region id l.toArray false) Q := fun a w hA => wp_region_lit (h a w hA)
section
variable {c : Operand} {t e : Code}
include c t e
theorem WC.cond {b : Bool} (hc : opv fr c = some (.bool b)) (ht : b = true → WC P x fr D hp t Q) (he : b = false → WC P x fr D hp e Q) : WC P x fr D hp (.cond c t e) Q :=
  fun a w hA => wp_cond_split (hA.f.eval hc) (fun h => ht h a w hA) (fun h => he h a w hA)
theorem WC.condT (hc : opv fr c = some (.bool true)) (ht : WC P x fr D hp t Q) : WC P x fr D hp (.cond c t e) Q :=
  fun a w hA => wp_cond_true (hA.f.eval hc) (ht a w hA)
theorem WC.condF (hc : opv fr c = some (.bool false)) (he : WC P x fr D hp e Q) : WC P x fr D hp (.cond c t e) Q :=
  fun a w hA => wp_cond_false (hA.f.eval hc) (he a w hA)
end
theorem WC.less {c : Code} (fr' : Fr) (hp' : Hp) (hf : subB fr' fr) (hs : ∀ e, e ∈ hp' → e ∈ hp) (hn : (hp.map Prod.fst).Nodup → (hp'.map Prod.fst).Nodup) (h : WC P x fr' D hp' c Q) : WC P x fr D hp c Q :=
  fun a w hA => h a w ⟨hA.f.weaken (x8 hf), hA.i.sub hs (hn hA.i.nodup)⟩
theorem WC.ofFr {c : Code} (fr' : Fr) (hf : subB fr' fr) (h : WC P x fr' D hp c Q) : WC P x fr D hp c Q :=
  fun a w hA => h a w ⟨hA.f.weaken (x8 hf), hA.i⟩
theorem WP.less {e : Exit} (fr' : Fr) (hp' : Hp) (hf : subB fr' fr) (hs : ∀ e, e ∈ hp' → e ∈ hp) (hn : (hp.map Prod.fst).Nodup → (hp'.map Prod.fst).Nodup) (h : WP x fr' D hp' e Q) : WP x fr D hp e Q :=
  fun a w hA => h a w ⟨hA.f.weaken (x8 hf), hA.i.sub hs (hn hA.i.nodup)⟩
theorem WP.thenC {d : Code} (h : WC P x fr D hp d Q) : WP x fr D hp .normal (Exit.then (d.wp P Q) Q) := h
theorem WP.thenRet {K : Act → World → Prop} (h : WP x fr D hp .ret Q) : WP x fr D hp .ret (Exit.then K Q) := h
theorem WP.thenExit {id : Nat} {K : Act → World → Prop} (h : WP x fr D hp (.exit id) Q) : WP x fr D hp (.exit id) (Exit.then K Q) := h
theorem WP.thenPanic {c : List PanicEntry} {K : Act → World → Prop} (h : WP x fr D hp (.panic c) Q) : WP x fr D hp (.panic c) (Exit.then K Q) := h
theorem WP.blkNormal {id : Nat} (h : WP x fr D hp .normal Q) : WP x fr D hp .normal (Exit.inBlock id Q) := h
theorem WP.blkRet {id : Nat} (h : WP x fr D hp .ret Q) : WP x fr D hp .ret (Exit.inBlock id Q) := h
theorem WP.blkPanic {id : Nat} {c : List PanicEntry} (h : WP x fr D hp (.panic c) Q) : WP x fr D hp (.panic c) (Exit.inBlock id Q) := h
theorem WP.blkHit {id : Nat} (h : WP x fr D hp .normal Q) : WP x fr D hp (.exit id) (Exit.inBlock id Q) := fun a w hA => by
  show (if id = id then Q .normal a w else Q (.exit id) a w); rw [if_pos rfl]; exact h a w hA
theorem WP.blkMiss {id id' : Nat} (hne : Nat.beq id' id = false) (h : WP x fr D hp (.exit id') Q) : WP x fr D hp (.exit id') (Exit.inBlock id Q) := fun a w hA => by
  show (if id' = id then Q .normal a w else Q (.exit id') a w);rw [if_neg (fun e => by subst e; simp at hne)]; exact h a w hA
theorem WC.loop {α : Type} {c : Code} (F : α → Fr) (H : α → Hp) (I : α → Imm) (φ : α → Prop) (m : α → Nat) (x0 : α) (h0 : φ x0) 
    (hstart : ∀ a w, At x fr D hp a w → At x (F x0) (I x0) (H x0) a w)
    (hround : ∀ y, φ y → WC P x (F y) (I y) (H y) c (Exit.then (fun a w => ∃ z, φ z ∧ m z < m y ∧ At x (F z) (I z) (H z) a w) Q)) : WC P x fr D hp (.loop c) Q := by
  intro a w hA b k cs
  have key : ∀ n y a w, m y = n → φ y → At x (F y) (I y) (H y) a w →
      ∃ e a' w', Q e a' w' ∧ Arrives P (lone (b.at a (.code c :: .inLoop c :: k)) cs w) b k cs e a' w' := by
    intro n
    induction n using Nat.strongRecOn with
    | _ n ih =>
      intro y a w hn hφ hA;obtain ⟨e, a₁, w₁, hq, harr⟩ := hround y hφ a w hA b (.inLoop c :: k) cs;cases e with
      | normal =>
        obtain ⟨z, hz, hlt, hAz⟩ := hq;obtain ⟨e₂, a₂, w₂, hq₂, harr₂⟩ := ih (m z) (hn ▸ hlt) z a₁ w₁ rfl hz hAz;exact ⟨e₂, a₂, w₂, hq₂, .of_steps (Steps.trans harr (.one step_inLoop)) harr₂⟩
      | exit id => exact ⟨_, a₁, w₁, hq, .pass (x := .inLoop c) rfl (fun _ _ => .inl (by simp)) harr⟩
      | goto l => exact ⟨_, a₁, w₁, hq, .pass (x := .inLoop c) rfl (fun _ _ => .inl (by simp)) harr⟩
      | ret => exact ⟨_, a₁, w₁, hq, .pass (x := .inLoop c) rfl (fun _ _ => .inl (by simp)) harr⟩
      | panic ch => exact ⟨_, a₁, w₁, hq, .pass (x := .inLoop c) rfl (fun _ _ => .inl (by simp)) harr⟩
      | outgrown => exact ⟨_, a₁, w₁, hq, .pass (x := .inLoop c) rfl (fun _ _ => .inl (by simp)) harr⟩
  obtain ⟨e, a', w', hq, harr⟩ := key _ x0 a w rfl h0 (hstart a w hA);exact ⟨e, a', w', hq, .of_steps (.one step_loop) harr⟩
theorem WP.again {α : Type} {F : α → Fr} {H : α → Hp} {I : α → Imm} {φ : α → Prop} {m : α → Nat} {k : Nat} (z : α) (hz : φ z) (hm : m z < k) 
    (hA : ∀ a w, At x fr D hp a w → At x (F z) (I z) (H z) a w) : WP x fr D hp .normal (Exit.then (fun a w => ∃ z, φ z ∧ m z < k ∧ At x (F z) (I z) (H z) a w) Q) :=
  fun a w h => ⟨z, hz, hm, hA a w h⟩
theorem yi {a : Act} {w : World} {fr' : Fr} {hp' : Hp} (hA : At x fr D hp a w) (hf : subB fr' fr) (hs : ∀ e, e ∈ hp' → e ∈ hp) (hn : (hp.map Prod.fst).Nodup → (hp'.map Prod.fst).Nodup) : At x fr' D hp' a w :=
  ⟨hA.f.weaken (x8 hf), hA.i.sub hs (hn hA.i.nodup)⟩
theorem y4 {a : Act} {w : World} {fr' : Fr} (hA : At x fr D hp a w) (hf : subB fr' fr) : At x fr' D hp a w := ⟨hA.f.weaken (x8 hf), hA.i⟩
def uA : Nat → List Value → Fr
  | _, [] => []
  | k, v :: r => (k, v) :: uA (k + 1) r
theorem u0 (l : List Value) : ∀ (k t : Nat) (v : Value), (uA k l).get t = some v → k ≤ t ∧ l[t - k]? = some v := by
  induction l with
  | nil => intro k t v h; simp [uA, Fr.get] at h
  | cons u r ih =>
    intro k t v h;cases hb : Nat.beq k t with
    | true =>
      have := Nat.eq_of_beq_eq_true hb;subst this;simp only [uA, Fr.get, hb, cond_true] at h;exact ⟨Nat.le_refl _, by simpa using h⟩
    | false =>
      simp only [uA, Fr.get, hb, cond_false] at h;obtain ⟨h1, h2⟩ := ih (k + 1) t v h;refine ⟨by omega, ?_⟩;rw [show t - k = (t - (k + 1)) + 1 by omega];simpa using h2
section
variable {f : FuncId} {fn : Func} {c : Code} {args : List Value} {S : List Nat} {w : World} {R : Ending → World → Prop}
include f fn c args S w R
theorem enter {D : Imm} {hp : Hp} 
    (hf : P.funcs[f]? = some fn) (hb : fn.body = some c) (n : Nat) (hn : fn.ntmps = n) (hl : args.length ≤ n) (hI : Inv D hp S w w)
    (h : WC P ⟨n, [], S, w⟩ (uA 0 args) D hp c (bodyPost P fn R)) : Calls P f args.toArray w R := by
  refine calls_of_wp hf hb (h _ _ ⟨⟨?_, rfl, fun t v ht => ?_⟩, hI⟩)
  · simp [hn]; omega
  · obtain ⟨_, h2⟩ := u0 args 0 t v ht;simp at h2
    have hlt : t < args.length := by
      rcases Nat.lt_or_ge t args.length with h3 | h3
      · exact h3
      · rw [List.getElem?_eq_none h3] at h2; cases h2
    simp [Array.getElem?_append, hlt]; exact (List.getElem?_eq_some_iff.1 h2).2
theorem zcm {D : Imm} {hp : Hp} 
    (hf : P.funcs[f]? = some fn) (hb : fn.body = some c) (n : Nat) (hn : fn.ntmps = n) (hl : args.length ≤ n) (hI : Inv D hp S w w)
    (h : WC P ⟨n, [], S, w⟩ (uA 0 args) D hp c (bodyPostD P fn R)) : Calls P f args.toArray w R := by
  refine calls_of_wp_defers hf hb (h _ _ ⟨⟨?_, rfl, fun t v ht => ?_⟩, hI⟩)
  · simp [hn]; omega
  · obtain ⟨_, h2⟩ := u0 args 0 t v ht;simp at h2
    have hlt : t < args.length := by
      rcases Nat.lt_or_ge t args.length with h3 | h3
      · exact h3
      · rw [List.getElem?_eq_none h3] at h2; cases h2
    simp [Array.getElem?_append, hlt]; exact (List.getElem?_eq_some_iff.1 h2).2
end
theorem Inv.start {D : Imm} {w : World} (h : Holds D w) : Inv D [] [] w w :=
  ⟨h, by simp, by simp, by simp, Keep.refl _ _, by simp⟩
end code
end Go.W
namespace Go.W
theorem wr64 {n : Int} (h : -9223372036854775808 ≤ n ∧ n ≤ 9223372036854775807) : IntKind.i64.wrap n = n := IntWalk.i64_in n h
def Yd (P : Program) (x : Cx) (fr : Fr) (D : Imm) (hp : Hp) (op : Op) (ty : TypeId) (v : Value) : Prop :=
  ∀ a w dst pos af g, AtF x.n fr x.ds a → Inv D hp x.S x.w0 w → (execOp a.eval ⟨dst, op, ty, pos, af, g⟩).run P w = .ok (.value v) w
def SO (P : Program) (x : Cx) (fr : Fr) (D : Imm) (hp : Hp) (op : Op) (ty : TypeId) (Q : Exit → Act → World → Prop) (K : Value → Imm → Hp → Prop) : Prop :=
  ∀ a w dst pos af g (next : Act → World → Prop), At x fr D hp a w → (∀ v D' hp' w', K v D' hp' → Inv D' hp' x.S x.w0 w' → next (a.put dst v) w') →
    Oper.wp P ⟨dst, op, ty, pos, af, g⟩ a w next Q
def wj (d : Option Tmp) (v : Value) (fr : Fr) : Fr := match d with | some d => (d, v) :: fr | none => fr
def dstB (d : Option Tmp) (n : Nat) : Bool := match d with | some d => Nat.blt d n | none => true
theorem AtF.putO {n : Nat} {fr : Fr} {ds : List Deferred} {a : Act} (h : AtF n fr ds a) {d : Option Tmp} (hd : dstB d n = true) (v : Value) : AtF n (wj d v fr) ds (a.put d v) := by
  cases d with
  | none => exact h
  | some d => exact h.put hd v
section steps
variable {P : Program} {x : Cx} {ops : Array Oper} {fr : Fr} {D : Imm} {hp : Hp} {Q : Exit → Act → World → Prop} {rest : List Oper}
  {d : Tmp} {dst : Option Tmp} {op : Op} {ty : TypeId} {pos : String} {af : Array Edge}
theorem WL.nil (h : WP x fr D hp .normal Q) : WL P x ops fr D hp [] Q := fun a w hA => h a w hA
theorem WL.yd {v : Value} (hy : Yd P x fr D hp op ty v) (hd : Nat.blt d x.n = true) (h : WL P x ops ((d, v) :: fr) D hp rest Q) : WL P x ops fr D hp (⟨some d, op, ty, pos, af, none⟩ :: rest) Q :=
  fun a w hA => wpList_plain rfl fun K hK => by
    unfold Oper.wp;rw [hy a w _ _ _ _ hA.f hA.i, Oper.upon_value];exact hK _ _ (h _ _ ⟨hA.f.put hd v, hA.i⟩)
theorem WL.so {K : Value → Imm → Hp → Prop} (hs : SO P x fr D hp op ty Q K) (hd : dstB dst x.n = true) (h : ∀ v D' hp', K v D' hp' → WL P x ops (wj dst v fr) D' hp' rest Q) :
    WL P x ops fr D hp (⟨dst, op, ty, pos, af, none⟩ :: rest) Q :=
  fun a w hA => wpList_plain rfl fun _ hK => hs a w _ _ _ _ _ hA fun v D' hp' _ hk hi => hK _ _ (h v D' hp' hk _ _ ⟨hA.f.putO hd v, hi⟩)
def gval (ops : Array Oper) (fr : Fr) (j : Nat) : Option Value := ((ops[j]?).bind (·.dst)).bind fr.get
section
variable {n : Nat} {ds : List Deferred} {a : Act} (hA : AtF n fr ds a) {j : Nat}
include n ds a hA j
theorem ZA {b : Bool} (h : gval ops fr j = some (.bool b)) : yielded ops a.tmps j = some b := by
  unfold gval at h;unfold yielded;cases hd : (ops[j]?).bind (·.dst) with
  | none => rw [hd] at h; cases h
  | some t => rw [hd] at h; simp only [Option.bind_some] at h ⊢; rw [hA.slot _ _ h]
theorem yy {b want : Bool} (h : gval ops fr j = some (.bool b)) {dst : Option Tmp} {op : Op} {ty : TypeId} {pos : String} {af : Array Edge} :
    Region.wanted ⟨dst, op, ty, pos, af, some (j, want)⟩ (yielded ops a.tmps) = (b == want) := by
  unfold Region.wanted;simp only [ZA hA h];cases b <;> cases want <;> rfl
end
theorem WL.ydg {j : Nat} {b : Bool} {v : Value} (hg : gval ops fr j = some (.bool b)) (hy : Yd P x fr D hp op ty v) (hd : Nat.blt d x.n = true) (h : WL P x ops ((d, v) :: fr) D hp rest Q) : WL P x ops fr D hp (⟨some d, op, ty, pos, af, some (j, b)⟩ :: rest) Q :=
  fun a w hA => wpList_step fun K hK => by
    rw [if_pos (by rw [yy hA.f hg]; simp)];unfold Oper.wp;rw [hy a w _ _ _ _ hA.f hA.i, Oper.upon_value];exact hK _ _ (h _ _ ⟨hA.f.put hd v, hA.i⟩)
theorem WL.sog {j : Nat} {b : Bool} {K : Value → Imm → Hp → Prop} (hg : gval ops fr j = some (.bool b)) (hs : SO P x fr D hp op ty Q K) (hd : dstB dst x.n = true) (h : ∀ v D' hp', K v D' hp' → WL P x ops (wj dst v fr) D' hp' rest Q) :
    WL P x ops fr D hp (⟨dst, op, ty, pos, af, some (j, b)⟩ :: rest) Q :=
  fun a w hA => wpList_step fun K hK => by
    rw [if_pos (by rw [yy hA.f hg]; simp)];exact hs a w _ _ _ _ _ hA fun v D' hp' w' hk hi => hK _ _ (h v D' hp' hk _ _ ⟨hA.f.putO hd v, hi⟩)
theorem WL.skip {j : Nat} {b : Bool} (hg : gval ops fr j = some (.bool !b)) (hd : dstB dst x.n = true) (h : WL P x ops (wj dst undef fr) D hp rest Q) : WL P x ops fr D hp (⟨dst, op, ty, pos, af, some (j, b)⟩ :: rest) Q :=
  fun a w hA => wpList_step fun K hK => by
    rw [if_neg (by rw [yy hA.f hg]; cases b <;> simp)];exact hK _ _ (h _ _ ⟨hA.f.putO hd undef, hA.i⟩)
theorem vz {t : Nat} {v v' : Value} (ht : fr.get t = some v) (hv : v = v') : ∀ s u, Fr.get ((t, v') :: fr) s = some u → fr.get s = some u := by
  intro s u hs;cases hb : Nat.beq t s with
  | true =>
    have := Nat.eq_of_beq_eq_true hb;subst this;simp only [Fr.get, hb, cond_true] at hs;rw [ht, hv, hs]
  | false =>
    simp only [Fr.get, hb, cond_false] at hs;exact hs
theorem WL.know {l : List Oper} (t : Nat) {v : Value} (v' : Value) (ht : fr.get t = some v) (hv : v = v') (h : WL P x ops ((t, v') :: fr) D hp l Q) : WL P x ops fr D hp l Q :=
  fun a w hA => h a w ⟨hA.f.weaken (vz ht hv), hA.i⟩
theorem WC.know {c : Code} (t : Nat) {v : Value} (v' : Value) (ht : fr.get t = some v) (hv : v = v') (h : WC P x ((t, v') :: fr) D hp c Q) : WC P x fr D hp c Q :=
  fun a w hA => h a w ⟨hA.f.weaken (vz ht hv), hA.i⟩
theorem WL.part {l : List Oper} (t : Nat) {b : Bool} (ht : fr.get t = some (.bool b)) (h1 : b = true → WL P x ops ((t, .bool true) :: fr) D hp l Q) (h0 : b = false → WL P x ops ((t, .bool false) :: fr) D hp l Q) : WL P x ops fr D hp l Q := by
  cases hb : b with
  | true => exact WL.know t (.bool true) ht (by rw [hb]) (h1 hb)
  | false => exact WL.know t (.bool false) ht (by rw [hb]) (h0 hb)
def ui (md : Region.Mode) (ops : Array Oper) : List (Nat × Bool) → Array Bool → Bool
  | [], listed => (Region.ready md ops listed).isEmpty
  | (i, true) :: r, listed => (Region.ready md ops listed).contains i && Region.free md ops listed i && ui md ops r (listed.setIfInBounds i true)
  | (i, false) :: r, listed => decide (Region.ready md ops listed = [i]) && ui md ops r (listed.setIfInBounds i true)
def jr (P : Program) (ops : Array Oper) (Q : Exit → Act → World → Prop) (S : World → Prop) : List (Nat × Bool) → Act → World → Prop
  | [], a, w => Q .normal a w
  | (i, true) :: r, a, w => ∃ o v, ops[i]? = some o ∧ YieldsIf P ops S o v a ∧ jr P ops Q S r (a.put o.dst v) w
  | (i, false) :: r, a, w => ∃ o, ops[i]? = some o ∧
      if Region.wanted o (yielded ops a.tmps) then o.wp P a w (fun a' w' => S w' ∧ jr P ops Q S r a' w') Q else jr P ops Q S r (a.put o.dst undef) w
theorem jB {S : World → Prop} (hs : Region.noSelect ops = true) (hQ : ∀ (i : Nat) (o : Oper) v c a w, ops[i]? = some o → Q (.panic c) (a.put o.dst v) w → Q (.panic c) a w) :
    ∀ (plan : List (Nat × Bool)) (listed : Array Bool) (a : Act) (w : World), ui .any ops plan listed = true → S w → jr P ops Q S plan a w → wpAnyH P .any ops Q S plan.length listed a w := by
  intro plan
  induction plan with
  | nil => intro listed a w hB _ h; exact ⟨by simpa [ui] using hB, h⟩
  | cons e r ih =>
    obtain ⟨i, y⟩ := e;intro listed a w hB hS h;cases y with
    | true =>
      simp only [ui, Bool.and_eq_true] at hB;obtain ⟨⟨hr, hf⟩, hB'⟩ := hB;obtain ⟨o, v, ho, hy, hw⟩ := h;exact wpAnyH_take ho hs hf hr (fun c a w => hQ i o v c a w ho) hy hS (ih _ _ _ hB' hS hw)
    | false =>
      simp only [ui, Bool.and_eq_true, decide_eq_true_eq] at hB;obtain ⟨hr, hB'⟩ := hB;obtain ⟨o, ho, hw⟩ := h;refine wpAnyH_all hr (by simp) fun j hj => ?_;have : j = i := by simpa using hj
      subst this;unfold wpOp;simp only [ho];split
      · rename_i hwant
        rw [if_pos hwant] at hw;exact .inl (Oper.wp_mono (fun a' w' h' => ⟨h'.1, ih _ _ _ hB' h'.1 h'.2⟩) hw)
      · rename_i hwant
        rw [if_neg hwant] at hw;exact ⟨hS, ih _ _ _ hB' hS hw⟩
theorem vJ {id : Nat} {S : World → Prop} {a : Act} {w : World} (plan : List (Nat × Bool)) (hm : P.follows .mixedOrders = true) 
    (hB : (Region.noSelect ops && decide (plan.length = ops.size) && ui .any ops plan (Array.replicate ops.size false)) = true)
    (hQ : ∀ (i : Nat) (o : Oper) v c a w, ops[i]? = some o → Q (.panic c) (a.put o.dst v) w → Q (.panic c) a w)
    (hS : S { w with drawn := w.drawn + 1 }) (h : jr P ops Q S plan a { w with drawn := w.drawn + 1 }) : (Code.region id ops true).wp P Q a w := by
  simp only [Bool.and_eq_true, decide_eq_true_eq] at hB;refine wp_region_held (S := S) hm ?_;rw [← hB.1.2];have := jB (P := P) hB.1.1 hQ plan (Array.replicate ops.size false) a _ hB.2 hS h
  rwa [← hB.1.2] at this
def WA (P : Program) (x : Cx) (ops : Array Oper) (D0 : Imm) (hp0 : Hp) (plan : List (Nat × Bool)) (fr : Fr) (D : Imm) (hp : Hp) (Q : Exit → Act → World → Prop) : Prop :=
  ∀ a w, At x fr D hp a w → jr P ops Q (Inv D0 hp0 x.S x.w0) plan a w
variable {D0 : Imm} {hp0 : Hp} {plan : List (Nat × Bool)} {i : Nat}
theorem WA.nil (h : WP x fr D hp .normal Q) : WA P x ops D0 hp0 [] fr D hp Q := fun a w hA => h a w hA
theorem WA.yd {v : Value} (ho : ops[i]? = some ⟨some d, op, ty, pos, af, none⟩) (hy : Yd P x fr D0 hp0 op ty v) (hd : Nat.blt d x.n = true) (h : WA P x ops D0 hp0 plan ((d, v) :: fr) D hp Q) :
    WA P x ops D0 hp0 ((i, true) :: plan) fr D hp Q := fun a w hA =>
  ⟨_, v, ho, .inl ⟨rfl, fun w' hw' => hy a w' _ _ _ _ hA.f hw'⟩, h _ _ ⟨hA.f.put hd v, hA.i⟩⟩
theorem WA.ydg {j : Nat} {b : Bool} {v : Value} (ho : ops[i]? = some ⟨some d, op, ty, pos, af, some (j, b)⟩) (hg : gval ops fr j = some (.bool b)) (hy : Yd P x fr D0 hp0 op ty v) (hd : Nat.blt d x.n = true) (h : WA P x ops D0 hp0 plan ((d, v) :: fr) D hp Q) :
    WA P x ops D0 hp0 ((i, true) :: plan) fr D hp Q := fun a w hA =>
  ⟨_, v, ho, .inl ⟨by rw [yy hA.f hg]; simp, fun w' hw' => hy a w' _ _ _ _ hA.f hw'⟩, h _ _ ⟨hA.f.put hd v, hA.i⟩⟩
theorem WA.skip {y : Bool} {j : Nat} {b : Bool} (ho : ops[i]? = some ⟨dst, op, ty, pos, af, some (j, b)⟩) (hg : gval ops fr j = some (.bool !b)) (hd : dstB dst x.n = true) (h : WA P x ops D0 hp0 plan (wj dst undef fr) D hp Q) :
    WA P x ops D0 hp0 ((i, y) :: plan) fr D hp Q := fun a w hA => by
  have hw : Region.wanted ⟨dst, op, ty, pos, af, some (j, b)⟩ (yielded ops a.tmps) = false := by rw [yy hA.f hg]; cases b <;> rfl
  have := h _ _ ⟨hA.f.putO hd undef, hA.i⟩;cases y with
  | true => exact ⟨_, undef, ho, .inr ⟨hw, rfl⟩, this⟩
  | false => exact ⟨_, ho, by rw [if_neg (by rw [hw]; simp)]; exact this⟩
theorem WA.so {K : Value → Imm → Hp → Prop} (ho : ops[i]? = some ⟨dst, op, ty, pos, af, none⟩) (hs : SO P x fr D hp op ty Q K) (hd : dstB dst x.n = true) 
    (h : ∀ v D' hp', K v D' hp' → (∀ w, Inv D' hp' x.S x.w0 w → Inv D0 hp0 x.S x.w0 w) ∧ WA P x ops D0 hp0 plan (wj dst v fr) D' hp' Q) :
    WA P x ops D0 hp0 ((i, false) :: plan) fr D hp Q := fun a w hA =>
  ⟨_, ho, by
    rw [if_pos (show Region.wanted ⟨dst, op, ty, pos, af, none⟩ (yielded ops a.tmps) = true from rfl)];exact hs a w _ _ _ _ _ hA fun v D' hp' w' hk hi => ⟨(h v D' hp' hk).1 _ hi, (h v D' hp' hk).2 _ _ ⟨hA.f.putO hd v, hi⟩⟩⟩
theorem WA.sog {j : Nat} {b : Bool} {K : Value → Imm → Hp → Prop} (ho : ops[i]? = some ⟨dst, op, ty, pos, af, some (j, b)⟩) (hg : gval ops fr j = some (.bool b)) (hs : SO P x fr D hp op ty Q K) (hd : dstB dst x.n = true) 
    (h : ∀ v D' hp', K v D' hp' → (∀ w, Inv D' hp' x.S x.w0 w → Inv D0 hp0 x.S x.w0 w) ∧ WA P x ops D0 hp0 plan (wj dst v fr) D' hp' Q) :
    WA P x ops D0 hp0 ((i, false) :: plan) fr D hp Q := fun a w hA =>
  ⟨_, ho, by
    rw [if_pos (by rw [yy hA.f hg]; simp)];exact hs a w _ _ _ _ _ hA fun v D' hp' w' hk hi => ⟨(h v D' hp' hk).1 _ hi, (h v D' hp' hk).2 _ _ ⟨hA.f.putO hd v, hi⟩⟩⟩
theorem WA.know (t : Nat) {v : Value} (v' : Value) (ht : fr.get t = some v) (hv : v = v') (h : WA P x ops D0 hp0 plan ((t, v') :: fr) D hp Q) : WA P x ops D0 hp0 plan fr D hp Q :=
  fun a w hA => h a w ⟨hA.f.weaken (vz ht hv), hA.i⟩
theorem WA.part (t : Nat) {b : Bool} (ht : fr.get t = some (.bool b)) (h1 : b = true → WA P x ops D0 hp0 plan ((t, .bool true) :: fr) D hp Q) (h0 : b = false → WA P x ops D0 hp0 plan ((t, .bool false) :: fr) D hp Q) : WA P x ops D0 hp0 plan fr D hp Q := by
  cases hb : b with
  | true => exact WA.know t (.bool true) ht (by rw [hb]) (h1 hb)
  | false => exact WA.know t (.bool false) ht (by rw [hb]) (h0 hb)
def zm (Q : Exit → Act → World → Prop) : Prop := ∀ c d v a w, Q (.panic c) (Act.put a d v) w → Q (.panic c) a w
theorem WC.draw {id : Nat} {l : List Oper} (plan : List (Nat × Bool)) (hm : P.follows .mixedOrders = true) 
    (hB : (Region.noSelect l.toArray && decide (plan.length = l.toArray.size) && ui .any l.toArray plan (Array.replicate l.toArray.size false)) = true) (hQ : zm Q)
    (h : WA P x l.toArray D hp plan fr D hp Q) : WC P x fr D hp (.region id l.toArray true) Q := fun a w hA =>
  vJ plan hm hB (fun _ o v c a _ _ => hQ c o.dst v a _) (hA.i.drew _) (h _ _ ⟨hA.f, hA.i.drew _⟩)
theorem WC.drawO {id : Nat} {l : List Oper} (hp0 : Hp) (plan : List (Nat × Bool)) (hm : P.follows .mixedOrders = true) 
    (hB : (Region.noSelect l.toArray && decide (plan.length = l.toArray.size) && ui .any l.toArray plan (Array.replicate l.toArray.size false)) = true) (hQ : zm Q)
    (h0 : ∀ w, Inv D hp x.S x.w0 w → Inv D hp0 x.S x.w0 w)
    (h : WA P x l.toArray D hp0 plan fr D hp Q) : WC P x fr D hp (.region id l.toArray true) Q := fun a w hA =>
  vJ plan hm hB (fun _ o v c a _ _ => hQ c o.dst v a _) (h0 _ (hA.i.drew _)) (h _ _ ⟨hA.f, hA.i.drew _⟩)
theorem zm.then {K : Act → World → Prop} (h : zm Q) : zm (Exit.then K Q) := fun c d v a w hq => h c d v a w hq
theorem zm.blk {id : Nat} (h : zm Q) : zm (Exit.inBlock id Q) := fun c d v a w hq => h c d v a w hq
theorem zm.body {fn : Func} {R : Ending → World → Prop} : zm (bodyPost P fn R) := fun c d v a w hq => by
  cases d <;> exact hq
end steps
end Go.W
namespace Go.W
section yd
variable {P : Program} {x : Cx} {fr : Fr} {D : Imm} {hp : Hp} {ty : TypeId}
section
variable {o : Operand} {v : Value} (h : opv fr o = some v)
include o v h
theorem Yd.move : Yd P x fr D hp (.move o) ty v := fun a w _ _ _ _ hA _ => by
  simp only [execOp, hA.eval h]; rfl
theorem Yd.assign : Yd P x fr D hp (.assign o) ty v := fun a w _ _ _ _ hA _ => by
  simp only [execOp, hA.eval h]; rfl
end
theorem Yd.pickT {c p q : Operand} {v : Value} (hc : opv fr c = some (.bool true)) (h : opv fr p = some v) : Yd P x fr D hp (.pick c p q) ty v := fun a w _ _ _ _ hA _ => by
  simp only [execOp, hA.eval hc, hA.eval h]; rfl
theorem Yd.pickF {c p q : Operand} {v : Value} (hc : opv fr c = some (.bool false)) (h : opv fr q = some v) : Yd P x fr D hp (.pick c p q) ty v := fun a w _ _ _ _ hA _ => by
  simp only [execOp, hA.eval hc, hA.eval h]; rfl
theorem Yd.not {o : Operand} {t : TypeId} {b : Bool} (h : opv fr o = some (.bool b)) : Yd P x fr D hp (.unOp .not t o) ty (.bool !b) := fun a w _ _ _ _ hA _ => by
  simp only [execOp, hA.eval h]; rfl
theorem Yd.bin {op : BinOp} {t t' : TypeId} {o p : Operand} {k : IntKind} {i j : Int} {v : Value} 
    (ho : opv fr o = some (.int k i)) (hp' : opv fr p = some (.int k j)) (hv : ∀ w, (Go.binOp op t (.int k i) (.int k j)).run P w = .ok v w) :
    Yd P x fr D hp (.binOp op t o p t') ty v := fun a w _ _ _ _ hA _ => by
  simp only [execOp, hA.eval ho, hA.eval hp'];have hg : (eqGuard op t o p (.int k i) (.int k j)).run P w = .ok () w := by unfold eqGuard; split <;> rfl
  simp [hg, hv]
section
variable {t t' : TypeId} {o p : Operand} {k : IntKind} {i j : Int} (ho : opv fr o = some (.int k i)) (hp' : opv fr p = some (.int k j))
include t t' o p k i j ho hp'
theorem Yd.add (hr : k.wrap (i + j) = i + j) :
    Yd P x fr D hp (.binOp .add t o p t') ty (.int k (i + j)) := .bin ho hp' fun w => by
  have : (Go.binOp .add t (.int k i) (.int k j)).run P w = .ok (.int k (k.wrap (i + j))) w := by simp [Go.binOp, Op.intArith]
  rw [this, hr]
theorem Yd.sub (hr : k.wrap (i - j) = i - j) :
    Yd P x fr D hp (.binOp .sub t o p t') ty (.int k (i - j)) := .bin ho hp' fun w => by
  have : (Go.binOp .sub t (.int k i) (.int k j)).run P w = .ok (.int k (k.wrap (i - j))) w := by simp [Go.binOp, Op.intArith]
  rw [this, hr]
theorem Yd.mul (hr : k.wrap (i * j) = i * j) :
    Yd P x fr D hp (.binOp .mul t o p t') ty (.int k (i * j)) := .bin ho hp' fun w => by
  have : (Go.binOp .mul t (.int k i) (.int k j)).run P w = .ok (.int k (k.wrap (i * j))) w := by simp [Go.binOp, Op.intArith]
  rw [this, hr]
theorem Yd.quo (h0 : 0 ≤ i) (hj : 0 < j) (hr : k.wrap (i / j) = i / j) :
    Yd P x fr D hp (.binOp .quo t o p t') ty (.int k (i / j)) := .bin ho hp' fun w => by
  have : (Go.binOp .quo t (.int k i) (.int k j)).run P w = .ok (.int k (k.wrap (i.tdiv j))) w := by simp [Go.binOp, Op.intDiv, show j ≠ 0 by omega]
  rw [this, Int.tdiv_eq_ediv_of_nonneg h0, hr]
theorem Yd.rem (h0 : 0 ≤ i) (hj : 0 < j) :
    Yd P x fr D hp (.binOp .rem t o p t') ty (.int k (i % j)) := .bin ho hp' fun w => by
  have : (Go.binOp .rem t (.int k i) (.int k j)).run P w = .ok (.int k (i.tmod j)) w := by simp [Go.binOp, Op.intDiv, show j ≠ 0 by omega]
  rw [this, Int.tmod_eq_emod_of_nonneg h0]
theorem Yd.lss : Yd P x fr D hp (.binOp .lss t o p t') ty (.bool (decide (i < j))) :=
  .bin ho hp' fun w => by simp [Go.binOp, Op.intCmp]
theorem Yd.leq : Yd P x fr D hp (.binOp .leq t o p t') ty (.bool (decide (i ≤ j))) :=
  .bin ho hp' fun w => by simp [Go.binOp, Op.intCmp]
theorem Yd.gtr : Yd P x fr D hp (.binOp .gtr t o p t') ty (.bool (decide (j < i))) :=
  .bin ho hp' fun w => by simp [Go.binOp, Op.intCmp]
theorem Yd.geq : Yd P x fr D hp (.binOp .geq t o p t') ty (.bool (decide (j ≤ i))) :=
  .bin ho hp' fun w => by simp [Go.binOp, Op.intCmp]
theorem Yd.eql : Yd P x fr D hp (.binOp .eql t o p t') ty (.bool (decide (i = j))) :=
  .bin ho hp' fun w => by
    have : (Go.binOp .eql t (.int k i) (.int k j)).run P w = .ok (.bool (i == j)) w := by simp [Go.binOp, Op.intCmp]
    rw [this]; simp [BEq.beq]
theorem Yd.neq : Yd P x fr D hp (.binOp .neq t o p t') ty (.bool (decide (i ≠ j))) :=
  .bin ho hp' fun w => by
    have : (Go.binOp .neq t (.int k i) (.int k j)).run P w = .ok (.bool (i != j)) w := by simp [Go.binOp, Op.intCmp]
    rw [this]; simp [bne, BEq.beq]
end
section
variable {t t' : TypeId} {o p : Operand} {k k' : IntKind} {i j : Int} (ho : opv fr o = some (.int k i)) (hp' : opv fr p = some (.int k' j)) (h0 : 0 ≤ j)
include t t' o p k k' i j ho hp' h0
theorem Yd.shr :
    Yd P x fr D hp (.binOp .shr t o p t') ty (.int k (i.fdiv (2 ^ (min j.toNat k.bits)))) := fun a w _ _ _ _ hA _ => by
  simp only [execOp, hA.eval ho, hA.eval hp'];have hg : (eqGuard .shr t o p (.int k i) (.int k' j)).run P w = .ok () w := rfl
  have : (Go.binOp .shr t (.int k i) (.int k' j)).run P w = .ok (.int k (i.fdiv (2 ^ (min j.toNat k.bits)))) w := by
    simp only [Go.binOp, Op.shift]; rw [if_neg (by omega)]; rfl
  simp [hg, this]
theorem Yd.shl {v : Int} (hv : k.wrap (i * 2 ^ (min j.toNat k.bits)) = v) :
    Yd P x fr D hp (.binOp .shl t o p t') ty (.int k v) := fun a w _ _ _ _ hA _ => by
  simp only [execOp, hA.eval ho, hA.eval hp'];have hg : (eqGuard .shl t o p (.int k i) (.int k' j)).run P w = .ok () w := rfl
  have : (Go.binOp .shl t (.int k i) (.int k' j)).run P w = .ok (.int k v) w := by
    simp only [Go.binOp, Op.shift]; rw [if_neg (by omega)]; rw [← hv]; rfl
  simp [hg, this]
end
theorem Yd.bits {bop : BinOp} {t t' : TypeId} {o p : Operand} {k : IntKind} {i j : Int} (ho : opv fr o = some (.int k i)) (hp' : opv fr p = some (.int k j)) {v : Value} (hv : ∀ w, (Op.intBits bop k i j).run P w = .ok v w) 
    (hb : ∀ w, (Go.binOp bop t (.int k i) (.int k j)).run P w = (Op.intBits bop k i j).run P w) :
    Yd P x fr D hp (.binOp bop t o p t') ty v := .bin ho hp' fun w => by rw [hb, hv]
theorem zsS {i : Int} : (IntKind.i64.wrap (BitVec.ofInt 64 i &&& BitVec.ofInt 64 1).toNat) = i % 2 := by
  have h1 : (BitVec.ofInt 64 i &&& BitVec.ofInt 64 1).toNat = (i % 2).toNat := by
    have : (BitVec.ofInt 64 1) = 1#64 := rfl
    rw [this, BitVec.toNat_and, BitVec.toNat_ofInt];simp only [BitVec.toNat_ofNat];rw [show (1 % 2 ^ 64 : Nat) = 2 ^ 1 - 1 from rfl, Nat.and_two_pow_sub_one_eq_mod];omega
  rw [h1, wr64] <;> omega
theorem Yd.and1 {t t' : TypeId} {o p : Operand} {i : Int} (ho : opv fr o = some (.int .i64 i)) (hp' : opv fr p = some (.int .i64 1)) : Yd P x fr D hp (.binOp .and t o p t') ty (.int .i64 (i % 2)) :=
  .bits ho hp' (fun w => by
    have : (Op.intBits .and .i64 i 1).run P w = .ok (.int .i64 (IntKind.i64.wrap (BitVec.ofInt 64 i &&& BitVec.ofInt 64 1).toNat)) w := rfl
    rw [this, zsS]) (fun w => by simp [Go.binOp])
theorem Yd.conv {s e : TypeId} {o : Operand} {k k' : IntKind} {d : TypeDesc} {i : Int} (hs : P.underlying s = some d) (he : P.underlying e = some (.int k')) (ho : opv fr o = some (.int k i)) (hr : k'.wrap i = i) : Yd P x fr D hp (.convert s e o) ty (.int k' i) := fun a w _ _ _ _ hA _ => by
  simp only [execOp, hA.eval ho]
  have : (Go.convert s e (.int k i)).run P w = .ok (.int k' i) w := by
    unfold Go.convert;simp [run_underlying hs, run_underlying he];cases d <;> simp [Conv.intToInt, hr]
  simp [this]
theorem Yd.extract {o : Operand} {n : Nat} {vs : Array Value} {v : Value} (ho : opv fr o = some (.tuple vs)) (hv : vs[n]? = some v) : Yd P x fr D hp (.extract o n) ty v := fun a w _ _ _ _ hA _ => by
  simp only [execOp, hA.eval ho, Instr.extract, hv]; rfl
theorem Yd.nilCheck {o : Operand} {p : Addr} (ho : opv fr o = some (.pointer (some p))) : Yd P x fr D hp (.nilCheck o) ty (.pointer (some p)) := fun a w _ _ _ _ hA _ => by
  simp only [execOp, hA.eval ho]; rfl
theorem Yd.iface {t : TypeId} {dsc : TypeDesc} {o : Operand} {v : Value} (hu : P.underlying t = some dsc) (hn : ∀ ms, dsc ≠ .interface ms) (ho : opv fr o = some v) : Yd P x fr D hp (.makeInterface t o) ty (.iface t v) := fun a w _ _ _ _ hA _ => by
  simp only [execOp, hA.eval ho]
  have : (Instr.makeInterface t v).run P w = .ok (.iface t v) w := by
    unfold Instr.makeInterface;simp only [Sem.run_bind, run_underlying hu, Result.andThen_ok];cases dsc <;> first | rfl | exact absurd rfl (hn _)
  simp [this]
def opvs (fr : Fr) : List Operand → Option (List Value)
  | [] => some []
  | o :: r => match opv fr o with
    | some v => match opvs fr r with
      | some vs => some (v :: vs)
      | none => none
    | none => none
theorem AtF.evals {n : Nat} {ds : List Deferred} {a : Act} (h : AtF n fr ds a) : ∀ (l : List Operand) (vs : List Value), opvs fr l = some vs → l.map a.eval = vs := by
  intro l
  induction l with
  | nil => intro vs hv; simp [opvs] at hv; simp [hv]
  | cons o r ih =>
    intro vs hv;simp only [opvs] at hv;cases h1 : opv fr o with
    | none => rw [h1] at hv; cases hv
    | some v =>
      rw [h1] at hv;cases h2 : opvs fr r with
      | none => rw [h2] at hv; cases hv
      | some us =>
        rw [h2] at hv;simp at hv;rw [List.map_cons, h.eval h1, ih us h2, hv]
theorem Yd.func {fn : Fn} {A B : List Operand} {va vb : List Value} (ha : opvs fr A = some va) (hb : opvs fr B = some vb) : Yd P x fr D hp (.makeFunc fn A.toArray B.toArray) ty (.func fn va.toArray vb.toArray) := fun a w _ _ _ _ hA _ => by
  have h1 := hA.evals A va ha;have h2 := hA.evals B vb hb;simp only [execOp, List.map_toArray, h1, h2]; rfl
def k8 (P : Program) (s : TypeId) (f off : Nat) : Prop := ∀ b o w, (Instr.fieldAt s (.pointer (some ⟨b, o, none⟩)) f).run P w = .ok (.pointer (some ⟨b, o + off, none⟩)) w
theorem k8.mk {s t : TypeId} {fs : Array Field} {f n off : Nat} (hu : P.underlying s = some (.struct fs)) (hf : (fs[f]?).map (fun fd => (fd.type, fd.offset)) = some (t, off)) (hz : ∀ w, (sizeOf t).run P w = .ok n w) (hn : n ≠ 0) : k8 P s f off := fun b o w => by
  cases hfd : fs[f]? with
  | none => rw [hfd] at hf; cases hf
  | some fd =>
    rw [hfd] at hf;simp only [Option.map_some, Option.some.injEq, Prod.mk.injEq] at hf;obtain ⟨rfl, rfl⟩ := hf;unfold Instr.fieldAt;simp [run_underlying hu, hfd, Instr.sureAddr, fieldPlace, hz, hn, Addr.add]
theorem Yd.fieldAddr {s : TypeId} {f off b o : Nat} {p : Operand} (hF : k8 P s f off) (hp' : opv fr p = some (.pointer (some ⟨b, o, none⟩))) : Yd P x fr D hp (.fieldAddr s p f) ty (.pointer (some ⟨b, o + off, none⟩)) := fun a w _ _ _ _ hA _ => by
  simp only [execOp, hA.eval hp']; simp [hF b o w]
def sb (a : Option Addr) : Nat := match a with | some a => a.block | none => 0
def so (a : Option Addr) : Nat := match a with | some a => a.off | none => 0
theorem Yd.indexS {t e : TypeId} {n : Nat} {p q : Operand} {a : Option Addr} {len cap : Nat} {k : IntKind} {j : Int} (hu : P.underlying t = some (.slice e)) (hz : ∀ w, (sizeOf e).run P w = .ok n w) 
    (hp' : opv fr p = some (.slice a len cap)) (hq : opv fr q = some (.int k j)) (h0 : 0 ≤ j) (hl : j < len) (ha : a = some ⟨sb a, so a, none⟩) :
    Yd P x fr D hp (.indexAddr t p q) ty (.pointer (some ⟨sb a, so a + j.toNat * n, none⟩)) := fun act w _ _ _ _ hA _ => by
  simp only [execOp, hA.eval hp', hA.eval hq]
  have : (Instr.indexAt t (.slice a len cap) (.int k j)).run P w = .ok (.pointer (some ⟨sb a, so a + j.toNat * n, none⟩)) w := by
    rw [ha];unfold Instr.indexAt;simp [asIntOf, run_underlying hu, hz, h0, hl, Addr.add, sb, so]
  simp [this]
theorem Yd.indexA {t e : TypeId} {n m b o : Nat} {p q : Operand} {k : IntKind} {j : Int} (hu : P.underlying t = some (.array m e)) (hz : ∀ w, (sizeOf e).run P w = .ok n w) 
    (hp' : opv fr p = some (.pointer (some ⟨b, o, none⟩))) (hq : opv fr q = some (.int k j)) (h0 : 0 ≤ j) (hl : j < m) :
    Yd P x fr D hp (.indexAddr t p q) ty (.pointer (some ⟨b, o + j.toNat * n, none⟩)) := fun act w _ _ _ _ hA _ => by
  simp only [execOp, hA.eval hp', hA.eval hq]
  have : (Instr.indexAt t (.pointer (some ⟨b, o, none⟩)) (.int k j)).run P w = .ok (.pointer (some ⟨b, o + j.toNat * n, none⟩)) w := by
    unfold Instr.indexAt;simp [asIntOf, run_underlying hu, hz, h0, hl, Addr.add, Instr.sureAddr]
  simp [this]
theorem Yd.lenS {t e : TypeId} {ts : Array TypeId} {p : Operand} {a : Option Addr} {len cap : Nat} (ht : ts[0]? = some t) (hu : P.underlying t = some (.slice e)) (hp' : opv fr p = some (.slice a len cap)) :
    Yd P x fr D hp (.call ⟨.builtin .len, #[p], ts⟩) ty (.int .i64 len) := fun act w _ _ _ _ hA _ => by
  simp only [execOp, resolve, List.map_toArray, List.map_cons, List.map_nil, hA.eval hp'];simp [invoke, builtin, Builtin.len_, ht, run_underlying hu, goInt]
def Rd (D : Imm) (hp : Hp) (a : Addr) (v : Value) : Prop := ∀ S w0 w, Inv D hp S w0 w → w.cell? a = some v
theorem Rd.own {k b off : Nat} {cs : List Value} {e : TypeId} {fz : Nat × Nat} {v : Value} (hk : hp[k]? = some (b, .cells cs.toArray e fz)) (hc : cs[off]? = some v) : Rd D hp ⟨b, off, none⟩ v := fun S w0 w hI => by
  have := hI.own _ _ (mem_of_get? hk);simp [World.cell?, this, hc]
theorem Rd.imm {b off : Nat} {cs : List Value} {e : TypeId} {fz : Nat × Nat} {v : Value} (hk : D b = some (.cells cs.toArray e fz)) (hc : cs[off]? = some v) : Rd D hp ⟨b, off, none⟩ v := fun S w0 w hI => by
  have := hI.imm _ _ hk;simp [World.cell?, this, hc]
theorem Yd.load1 {t b o : Nat} {p : Operand} {v : Value} (hg : ∀ w, (isAgg t).run P w = .ok false w) (hp' : opv fr p = some (.pointer (some ⟨b, o, none⟩))) (hr : Rd D hp ⟨b, o, none⟩ v) : Yd P x fr D hp (.load t p) ty v := fun act w _ _ _ _ hA hI => by
  simp only [execOp, hA.eval hp'];simp [Instr.loadAt, Instr.sureAddr, loadVar, hg, hr _ _ _ hI]
theorem xe {w : World} {b o : Nat} : ∀ (n i : Nat) (acc : Array Value) (vs : List Value), vs.length = n → (∀ j v, vs[j]? = some v → w.cell? ⟨b, o + i + j, none⟩ = some v) →
    (loadCellsFrom ⟨b, o, none⟩ i n acc).run P w = .ok (acc ++ vs.toArray) w := by
  intro n
  induction n with
  | zero => intro i acc vs hl _; have : vs = [] := List.length_eq_zero_iff.1 hl; subst this; simp [loadCellsFrom]
  | succ n ih =>
    intro i acc vs hl hv;cases vs with
    | nil => simp at hl
    | cons v r =>
      have h0 := hv 0 v (by simp);have hadd : Addr.add ⟨b, o, none⟩ i = ⟨b, o + i, none⟩ := by unfold Addr.add; split <;> simp_all
      simp only [Nat.add_zero] at h0
      have hr := ih (i + 1) (acc.push v) r (by simpa using hl) (fun j u hj => by
        have := hv (j + 1) u (by simpa using hj);rw [show o + (i + 1) + j = o + i + (j + 1) by omega]; exact this)
      simp [loadCellsFrom, hadd, h0, hr]
def RdN (D : Imm) (hp : Hp) (b o : Nat) (vs : List Value) : Prop := ∀ j v, vs[j]? = some v → Rd D hp ⟨b, o + j, none⟩ v
def slc (l : List Value) (off n : Nat) : List Value := (l.drop off).take n
theorem RdN.own {k b off n : Nat} {cs vs : List Value} {e : TypeId} {fz : Nat × Nat} (hk : hp[k]? = some (b, .cells cs.toArray e fz)) (hv : slc cs off n = vs) : RdN D hp b off vs := fun j v hj => by
  refine Rd.own hk ?_;rw [← hv] at hj;unfold slc at hj;rw [List.getElem?_take] at hj;split at hj
  · simpa using hj
  · cases hj
theorem RdN.imm {b off n : Nat} {cs vs : List Value} {e : TypeId} {fz : Nat × Nat} (hk : D b = some (.cells cs.toArray e fz)) (hv : slc cs off n = vs) : RdN D hp b off vs := fun j v hj => by
  refine Rd.imm hk ?_;rw [← hv] at hj;unfold slc at hj;rw [List.getElem?_take] at hj;split at hj
  · simpa using hj
  · cases hj
theorem Yd.loadN {t b o n : Nat} {p : Operand} {vs : List Value} (hg : ∀ w, (isAgg t).run P w = .ok true w) (hz : ∀ w, (sizeOf t).run P w = .ok n w) (hp' : opv fr p = some (.pointer (some ⟨b, o, none⟩))) (hl : vs.length = n) (hr : RdN D hp b o vs) :
    Yd P x fr D hp (.load t p) ty (.agg vs.toArray) := fun act w _ _ _ _ hA hI => by
  simp only [execOp, hA.eval hp'];have := xe (P := P) (w := w) (b := b) (o := o) n 0 #[] vs hl (fun j v hj => by simpa using hr j v hj _ _ _ hI);simp [Instr.loadAt, Instr.sureAddr, loadVar, hg, hz, loadCells, this]
end yd
end Go.W
namespace Go.W
structure DExt (w : World) (D D' : Imm) : Prop where
  old : ∀ b o, D b = some o → D' b = some o
  new : ∀ b, b < w.heap.size → D b = none → D' b = none
theorem DExt.refl (w : World) (D : Imm) : DExt w D D := ⟨fun _ _ h => h, fun _ _ h => h⟩
theorem DExt.trans {w w' : World} {D D' D'' : Imm} (h : DExt w D D') (k : DExt w' D' D'') (hs : w.heap.size ≤ w'.heap.size) : DExt w D D'' :=
  ⟨fun b o hb => k.old b o (h.old b o hb), fun b hb hn => k.new b (by omega) (h.new b hb hn)⟩
theorem Inv.grow {D D' : Imm} {hp : Hp} {S : List Nat} {w0 w w' : World} (h : Inv D hp S w0 w) (k : Keep [] w w') (hH : Holds D' w') (hD : DExt w D D') : Inv D' hp S w0 w' := by
  have h2 := h.call k;exact ⟨hH, h2.own, h2.nodup, fun b o hb => hD.new b (lt_of_some (h.own b o hb)) (h.apart b o hb), h2.keep, h2.may⟩
def Imm.add (D : Imm) (b : Nat) (o : Obj) : Imm := fun b' => if b' = b then some o else D b'
theorem Imm.add_self (D : Imm) (b : Nat) (o : Obj) : D.add b o b = some o := by simp [Imm.add]
theorem Inv.freeze {D : Imm} {hp : Hp} {S : List Nat} {w0 w : World} {b : Nat} {o : Obj} (h : Inv D ((b, o) :: hp) S w0 w) : Inv (D.add b o) hp S w0 w := by
  have hn := h.nodup;simp only [List.map_cons, List.nodup_cons] at hn;refine ⟨fun b' o' hb' => ?_, fun b' o' hb' => h.own _ _ (List.mem_cons_of_mem _ hb'), hn.2, fun b' o' hb' => ?_, h.keep, fun b' o' hb' => h.may _ _ (List.mem_cons_of_mem _ hb')⟩
  · unfold Imm.add at hb';split at hb'
    · rename_i e; subst e; cases hb'; exact h.own _ _ (List.mem_cons_self)
    · exact h.imm _ _ hb'
  · unfold Imm.add;split
    · rename_i e; subst e
      exact absurd (List.mem_map.2 ⟨_, hb', rfl⟩) hn.1
    · exact h.apart _ _ (List.mem_cons_of_mem _ hb')
theorem DExt.add {w : World} {D D' : Imm} (h : DExt w D D') {b : Nat} {o : Obj} (hn : D' b = none) (hb : w.heap.size ≤ b) : DExt w D (D'.add b o) :=
  ⟨fun b' o' h' => by
    have := h.old _ _ h';unfold Imm.add; rw [if_neg (fun e => by subst e; rw [hn] at this; cases this)]; exact this,
   fun b' hlt h' => by
    unfold Imm.add; rw [if_neg (by omega)]; exact h.new _ hlt h'⟩
section so
variable {P : Program} {x : Cx} {fr : Fr} {D : Imm} {hp : Hp} {ty : TypeId} {Q : Exit → Act → World → Prop}
def NewK (x : Cx) (D : Imm) (hp : Hp) (cs : List Value) (t : TypeId) (v : Value) (D' : Imm) (hp' : Hp) : Prop :=
  ∃ b, x.w0.heap.size ≤ b ∧ v = .pointer (some ⟨b, 0, none⟩) ∧ D = D' ∧ hp' = (b, .cells cs.toArray t (0, 0)) :: hp
theorem SO.alloc {t : TypeId} {z : Value} {cs : List Value} (hz : ∀ w, (zeroValue t).run P w = .ok z w) (hc : z.cells = cs.toArray) : SO P x fr D hp (.alloc t) ty Q (NewK x D hp cs t) := fun a w dst pos af g next hA hn => by
  unfold Oper.wp
  have : (execOp a.eval ⟨dst, .alloc t, ty, pos, af, g⟩).run P w = .ok (.value (.pointer (some ⟨w.heap.size, 0, none⟩))) { w with heap := w.heap.push (.cells cs.toArray t (0, 0)) } := by
    simp [execOp, Instr.alloc, hz, newVar, newRow, hc]
  rw [this, Oper.upon_value];exact hn _ _ _ _ ⟨_, hA.i.keep.size, rfl, rfl, rfl⟩ (hA.i.new _)
theorem SO.box {t : TypeId} {o : Operand} {v : Value} {cs : List Value} (ho : opv fr o = some v) (hc : v.cells = cs.toArray) : SO P x fr D hp (.box t o) ty Q (NewK x D hp cs t) := fun a w dst pos af g next hA hn => by
  unfold Oper.wp
  have : (execOp a.eval ⟨dst, .box t o, ty, pos, af, g⟩).run P w = .ok (.value (.pointer (some ⟨w.heap.size, 0, none⟩))) { w with heap := w.heap.push (.cells cs.toArray t (0, 0)) } := by
    simp [execOp, hA.f.eval ho, Instr.box, newVar, newRow, hc]
  rw [this, Oper.upon_value];exact hn _ _ _ _ ⟨_, hA.i.keep.size, rfl, rfl, rfl⟩ (hA.i.new _)
def splice (cs : List Value) (off : Nat) (vs : List Value) : List Value := cs.take off ++ vs ++ cs.drop (off + vs.length)
theorem WW (cs : List Value) (off : Nat) : splice cs off [] = cs := by simp [splice]
theorem YY (cs : List Value) (off : Nat) (v : Value) (vs : List Value) (h : off < cs.length) : splice (cs.set off v) (off + 1) vs = splice cs off (v :: vs) := by
  unfold splice
  have h1 : (cs.set off v).take (off + 1) = cs.take off ++ [v] := by
    rw [List.take_succ_eq_append_getElem (by simpa using h)];simp [List.take_set_of_le]
  have h2 : (cs.set off v).drop (off + 1 + vs.length) = cs.drop (off + (vs.length + 1)) := by
    rw [List.drop_set_of_lt (by omega), show off + 1 + vs.length = off + (vs.length + 1) by omega]
  rw [h1, h2];simp
theorem wl {b : Nat} {e : TypeId} : ∀ (vs : List Value) (w : World) (cs : List Value) (off i : Nat), w.heap[b]? = some (.cells cs.toArray e (0, 0)) → off + i + vs.length ≤ cs.length → (∀ v ∈ vs, v.oneCell' = true) →
    (storeCells ⟨b, off, none⟩ vs i).run P w = .ok () { w with heap := w.heap.setIfInBounds b (.cells (splice cs (off + i) vs).toArray e (0, 0)) } := by
  intro vs
  induction vs with
  | nil =>
    intro w cs off i hb _ _;simp only [storeCells, WW, Sem.run_pure];congr 1;have hlt := lt_of_some hb
    have : w.heap.setIfInBounds b (.cells cs.toArray e (0, 0)) = w.heap := by
      apply Array.ext_getElem?;intro j;by_cases hj : j = b
      · subst hj; rw [Array.getElem?_setIfInBounds_self_of_lt hlt, hb]
      · rw [Array.getElem?_setIfInBounds_ne (Ne.symm hj)]
    rw [this]
  | cons v vs ih =>
    intro w cs off i hb hl hv;have hlt := lt_of_some hb;have hadd : Addr.add ⟨b, off, none⟩ i = ⟨b, off + i, none⟩ := by unfold Addr.add; split <;> simp_all
    have hoff : off + i < cs.length := by simp at hl; omega
    have hcell : w.cell? ⟨b, off + i, none⟩ = some cs[off + i] := by simp [World.cell?, hb, hoff]
    have hfz : w.frozen? ⟨b, off + i, none⟩ = false := by simp [World.frozen?, hb]
    have hset : w.setCell ⟨b, off + i, none⟩ v = { w with heap := w.heap.setIfInBounds b (.cells (cs.set (off + i) v).toArray e (0, 0)) } := by
      unfold World.setCell;congr 1;apply Array.ext_getElem?;intro j;by_cases hj : j = b
      · subst hj;rw [Array.getElem?_setIfInBounds_self_of_lt hlt, Array.getElem?_modify];simp [hb]
      · rw [Array.getElem?_setIfInBounds_ne (Ne.symm hj), Array.getElem?_modify];simp [Ne.symm hj]
    have h1 : (store ⟨b, off + i, none⟩ v).run P w = .ok () { w with heap := w.heap.setIfInBounds b (.cells (cs.set (off + i) v).toArray e (0, 0)) } := by
      rw [run_store P w _ v _ (hv v (by simp)), hcell];simp [hfz, hset]
    have h2 := ih { w with heap := w.heap.setIfInBounds b (.cells (cs.set (off + i) v).toArray e (0, 0)) } (cs.set (off + i) v) off (i + 1)
      (by simp [hlt]) (by simp at hl ⊢; omega) (fun u hu => hv u (List.mem_cons_of_mem _ hu))
    simp only [storeCells, hadd, Sem.run_bind, h1, Result.andThen_ok, h2];congr 1;rw [show off + (i + 1) = off + i + 1 by omega, YY _ _ _ _ hoff];simp
def SetK (D : Imm) (hp : Hp) (k b : Nat) (o : Obj) (v : Value) (D' : Imm) (hp' : Hp) : Prop := v = undef ∧ D = D' ∧ hp' = hp.set k (b, o)
theorem SO.store {t b off n : Nat} {p o : Operand} {v : Value} {cs vs : List Value} {e : TypeId} (k : Nat) (hk : hp[k]? = some (b, .cells cs.toArray e (0, 0))) (hz : ∀ w, (sizeOf t).run P w = .ok n w) 
    (hp' : opv fr p = some (.pointer (some ⟨b, off, none⟩))) (ho : opv fr o = some v) (hc : v.cells = vs.toArray) (hl : vs.length = n) (hoff : off + n ≤ cs.length) (hone : ∀ v ∈ vs, v.oneCell' = true) :
    SO P x fr D hp (.store t p o) ty Q (SetK D hp k b (.cells (splice cs off vs).toArray e (0, 0))) := fun a w dst pos af g next hA hn => by
  unfold Oper.wp;have hb := hA.i.own _ _ (mem_of_get? hk);have hs := wl (P := P) vs w cs off 0 hb (by omega) hone
  have : (execOp a.eval ⟨dst, .store t p o, ty, pos, af, g⟩).run P w = .ok .skip { w with heap := w.heap.setIfInBounds b (.cells (splice cs off vs).toArray e (0, 0)) } := by
    simp only [Nat.add_zero] at hs;simp [execOp, hA.f.eval hp', hA.f.eval ho, Instr.storeAt, Instr.sureAddr, storeVar, hz, hc, hl, hs]
  rw [this, Oper.upon_skip];exact hn _ _ _ _ ⟨rfl, rfl, rfl⟩ (hA.i.set hk _)
theorem vf {a : Act} {A : List Operand} {vals : List Value} {f : FuncId} {ts : Array TypeId} {w : World} (hv : A.map a.eval = vals) (hc : ∀ args w, (callFunc f args).run P w = .ok (.enter f args) w) :
    (do let d ← resolve a.eval ⟨.value (.func f), A.toArray, ts⟩ ty; invoke d.target d.args : Sem Next).run P w = .ok (.enter f vals.toArray) w := by
  simp [resolve, Act.eval, Deferred.ofValue, invoke, hv, hc]
theorem SO.callG {f : FuncId} {A : List Operand} {ts : Array TypeId} {vals : List Value} {R : World → Ending → World → Prop} {K : Value → Imm → Hp → Prop} 
    (hc : ∀ args w, (callFunc f args).run P w = .ok (.enter f args) w) (ha : opvs fr A = some vals) (hk : ∀ w, Inv D hp x.S x.w0 w → Calls P f vals.toArray w (R w))
    (hret : ∀ w v w', Inv D hp x.S x.w0 w → R w (.returned v) w' → ∃ D' hp', K v D' hp' ∧ Inv D' hp' x.S x.w0 w')
    (hpan : ∀ w c w', Inv D hp x.S x.w0 w → R w (.panicked c) w' → ∀ a, AtF x.n fr x.ds a → Q (.panic c) a w') (hout : ∀ w w', ¬ R w .outgrown w') :
    SO P x fr D hp (.call ⟨.value (.func f), A.toArray, ts⟩) ty Q K := fun a w dst pos af g next hA hn => by
  unfold Oper.wp;have : (execOp a.eval ⟨dst, .call ⟨.value (.func f), A.toArray, ts⟩, ty, pos, af, g⟩).run P w = .ok (.enter f vals.toArray) w := vf (hA.f.evals A vals ha) hc
  rw [this, Oper.upon_enter];refine (hk w hA.i).mono fun e w' hR => ?_;cases e with
  | returned v => obtain ⟨D', hp', hK, hI⟩ := hret _ _ _ hA.i hR; exact hn _ _ _ _ hK hI
  | panicked c => exact hpan _ _ _ hA.i hR _ hA.f
  | outgrown => exact (hout _ _ hR).elim
def Wo (D : Imm) (hp : Hp) (v0 : Value) (v : Value) (D' : Imm) (hp' : Hp) : Prop := v = v0 ∧ D = D' ∧ hp' = hp
def z8 (P : Program) (f : FuncId) (vals : List Value) (w : World) (v : Value) : Prop := Calls P f vals.toArray w fun e w' => e = .returned v ∧ Keep [] w w'
theorem SO.callP {f : FuncId} {A : List Operand} {ts : Array TypeId} {vals : List Value} {v : Value} 
    (hc : ∀ args w, (callFunc f args).run P w = .ok (.enter f args) w) (ha : opvs fr A = some vals) (hk : ∀ w, Inv D hp x.S x.w0 w → z8 P f vals w v) :
    SO P x fr D hp (.call ⟨.value (.func f), A.toArray, ts⟩) ty Q (Wo D hp v) :=
  SO.callG (R := fun w e w' => e = .returned v ∧ Keep [] w w') hc ha hk (fun w u w' hI ⟨he, hkp⟩ => by cases he; exact ⟨D, hp, ⟨rfl, rfl, rfl⟩, hI.call hkp⟩)
    (fun w c w' _ h => by cases h.1) (fun w w' h => by cases h.1)
def RV (P : Program) (x : Cx) (fr : Fr) (D : Imm) (hp : Hp) (r : ResultVar) (v : Value) : Prop :=
  ∀ a w, AtF x.n fr x.ds a → Inv D hp x.S x.w0 w → (match r with | .tmp t => (pure (a.tmps.getD t undef) : Sem Value) | .cell s t => do loadVar t (← asAddr (a.tmps.getD s undef))).run P w = .ok v w
theorem RV.tmp {t : Nat} {v : Value} (h : fr.get t = some v) : RV P x fr D hp (.tmp t) v := fun a w hA _ => by
  have := hA.slot t v h;simp [this]
theorem RV.cell1 {s t b o : Nat} {v : Value} (hg : ∀ w, (isAgg t).run P w = .ok false w) (h : fr.get s = some (.pointer (some ⟨b, o, none⟩))) (hr : Rd D hp ⟨b, o, none⟩ v) : RV P x fr D hp (.cell s t) v := fun a w hA hI => by
  have := hA.slot s _ h;simp [this, asAddr, loadVar, hg, hr _ _ _ hI]
theorem RV.cellN {s t b o n : Nat} {vs : List Value} (hg : ∀ w, (isAgg t).run P w = .ok true w) (hz : ∀ w, (sizeOf t).run P w = .ok n w) (h : fr.get s = some (.pointer (some ⟨b, o, none⟩))) (hl : vs.length = n) (hr : RdN D hp b o vs) :
    RV P x fr D hp (.cell s t) (.agg vs.toArray) := fun a w hA hI => by
  have := hA.slot s _ h;have h2 := xe (P := P) (w := w) (b := b) (o := o) n 0 #[] vs hl (fun j v hj => by simpa using hr j v hj _ _ _ hI);simp [this, asAddr, loadVar, hg, hz, loadCells, h2]
def RVs (P : Program) (x : Cx) (fr : Fr) (D : Imm) (hp : Hp) : List ResultVar → List Value → Prop
  | [], [] => True
  | r :: rs, v :: vs => RV P x fr D hp r v ∧ RVs P x fr D hp rs vs
  | _, _ => False
def retV : List Value → Value
  | [v] => v
  | vs => .tuple vs.toArray
theorem xh {fn : Func} {rs : List ResultVar} {vs : List Value} {a : Act} {w : World} (hr : fn.results = rs.toArray) (hA : AtF x.n fr x.ds a) (hI : Inv D hp x.S x.w0 w) 
    (h : RVs P x fr D hp rs vs) : (results fn a.tmps).run P w = .ok (retV vs) w := by
  have key : ∀ (rs : List ResultVar) (vs : List Value), RVs P x fr D hp rs vs →
      (rs.mapM fun (r : ResultVar) => match r with | .tmp t => (pure (a.tmps.getD t undef) : Sem Value) | .cell s t => do loadVar t (← asAddr (a.tmps.getD s undef))).run P w = .ok vs w := by
    intro rs
    induction rs with
    | nil => intro vs h; cases vs with
      | nil => rfl
      | cons v r => exact h.elim
    | cons r rs ih =>
      intro vs h;cases vs with
      | nil => exact h.elim
      | cons v vs =>
        obtain ⟨h1, h2⟩ := h;have h3 := ih vs h2;have h4 := h1 a w hA hI;rw [List.mapM_cons];simp only [Sem.run_bind];rw [h4];simp only [Result.andThen_ok, Sem.run_bind, h3, Sem.run_pure]
  have h2 := key rs vs h
  have h3 : ((rs.toArray.mapM fun (r : ResultVar) => match r with | .tmp t => (pure (a.tmps.getD t undef) : Sem Value) | .cell s t => do loadVar t (← asAddr (a.tmps.getD s undef)))).run P w = .ok vs.toArray w := by
    rw [List.mapM_toArray, Sem.run_map, h2, Result.andThen_ok]
  unfold results;rw [hr, Sem.run_bind];refine (congrArg (fun r : Result (Array Value) => r.andThen fun vs w' => Sem.run P (pure (if h : vs.size = 1 then vs[0] else .tuple vs) : Sem Value) w') h3).trans ?_;cases vs with
  | nil => rfl
  | cons v r =>
    cases r with
    | nil => rfl
    | cons u r => rfl
def ZD : Exit → Bool | .normal => true | .ret => true | _ => false
section
variable {e : Exit} {fn : Func} {R : Ending → World → Prop}
include e fn R
theorem WP.end (rs : List ResultVar) (vs : List Value) (he : ZD e = true) (hd : x.ds = []) (hr : fn.results = rs.toArray) (h : RVs P x fr D hp rs vs) 
    (hR : ∀ w, Inv D hp x.S x.w0 w → R (.returned (retV vs)) w) : WP x fr D hp e (bodyPost P fn R) := fun a w hA => by
  have h1 : a.defers = [] := hA.f.defers.trans hd;cases e <;> first | exact ⟨h1, _, xh hr hA.f hA.i h, hR w hA.i⟩ | cases he
theorem WP.ret0 (he : ZD e = true) (hd : x.ds = []) (hr : fn.results = #[]) (hR : ∀ w, Inv D hp x.S x.w0 w → R (.returned (.tuple #[])) w) : WP x fr D hp e (bodyPost P fn R) :=
  WP.end [] [] he hd hr trivial hR
theorem WP.ret1 {r : ResultVar} {v : Value} (he : ZD e = true) (hd : x.ds = []) (hr : fn.results = #[r]) (h1 : RV P x fr D hp r v) (hR : ∀ w, Inv D hp x.S x.w0 w → R (.returned v) w) : WP x fr D hp e (bodyPost P fn R) :=
  WP.end [r] [v] he hd hr ⟨h1, trivial⟩ hR
theorem WP.ret2 {r s : ResultVar} {v u : Value} (he : ZD e = true) (hd : x.ds = []) (hr : fn.results = #[r, s]) (h1 : RV P x fr D hp r v) (h2 : RV P x fr D hp s u) (hR : ∀ w, Inv D hp x.S x.w0 w → R (.returned (.tuple #[v, u])) w) : WP x fr D hp e (bodyPost P fn R) :=
  WP.end [r, s] [v, u] he hd hr ⟨h1, h2, trivial⟩ hR
end
theorem Inv.tail {e : Nat × Obj} {S : List Nat} {w0 w : World} (h : Inv D (e :: hp) S w0 w) : Inv D hp S w0 w := h.sub (fun _ he => List.mem_cons_of_mem _ he) (by have := h.nodup; simp only [List.map_cons, List.nodup_cons] at this; exact this.2)
def oneB : List Value → Bool
  | [] => true
  | v :: r => v.oneCell' && oneB r
theorem za {vs : List Value} (h : oneB vs = true) : ∀ v ∈ vs, v.oneCell' = true := by
  induction vs with
  | nil => intro v hv; cases hv
  | cons u r ih =>
    simp only [oneB, Bool.and_eq_true] at h;intro v hv;rcases List.mem_cons.1 hv with e | e
    · subst e; exact h.1
    · exact ih h.2 v e
end so
end Go.W
namespace Go.W
theorem zb {a b : Bool} (h : a = b) : Ending.returned (.bool a) = .returned (.bool b) := by rw [h]
section yd
variable {P : Program} {x : Cx} {fr : Fr} {D : Imm} {hp : Hp} {ty : TypeId} {Q : Exit → Act → World → Prop}
section
variable {t t' : TypeId} {o p : Operand}
include t t' o p
theorem Yd.subW {k : IntKind} {i j : Int} (ho : opv fr o = some (.int k i)) (hp' : opv fr p = some (.int k j)) :
    Yd P x fr D hp (.binOp .sub t o p t') ty (.int k (k.wrap (i - j))) := .bin ho hp' fun w => by simp [Go.binOp, Op.intArith]
section
variable {xs ys : Array Value} {b : Bool} (hm : P.eqGuardType P.depth t = false) (he : ∀ w, (Op.equalIn 10000 t (.agg xs) (.agg ys)).run P w = .ok b w)
include xs ys b hm he
theorem Yd.eqS 
    (ho : opv fr o = some (.agg xs)) (hp' : opv fr p = some (.agg ys)) : Yd P x fr D hp (.binOp .eql t o p t') ty (.bool b) := fun a w _ _ _ _ hA _ => by
  simp only [execOp, hA.eval ho, hA.eval hp'];simp [run_eqGuard_agg w .eql t o p xs ys hm, run_eql_struct, he]
theorem Yd.neS 
    (ho : opv fr o = some (.agg xs)) (hp' : opv fr p = some (.agg ys)) : Yd P x fr D hp (.binOp .neq t o p t') ty (.bool !b) := fun a w _ _ _ _ hA _ => by
  simp only [execOp, hA.eval ho, hA.eval hp'];simp [run_eqGuard_agg w .neq t o p xs ys hm, run_neq_struct, he]
end
end
structure zj (P : Program) (t : TypeId) (zs : List Value) (pl : List (Nat × Nat)) : Prop where
  zero : ∃ z, (∀ w, (zeroValue t).run P w = .ok z w) ∧ z.cells = zs.toArray
  und : ∃ fs : Array Field, P.underlying t = some (.struct fs) ∧ ∀ w, (fs.mapM fun f => do pure (f.offset, ← sizeOf f.type) : Sem (Array (Nat × Nat))).run P w = .ok pl.toArray w
def opps (fr : Fr) : List (Nat × Operand) → Option (List (Nat × Value))
  | [] => some []
  | (i, o) :: r => match opv fr o with
    | some v => match opps fr r with
      | some vs => some ((i, v) :: vs)
      | none => none
    | none => none
theorem AtF.evalps {n : Nat} {ds : List Deferred} {a : Act} (h : AtF n fr ds a) : ∀ (l : List (Nat × Operand)) (vs : List (Nat × Value)), opps fr l = some vs → (l.map fun (i, o) => (i, a.eval o)) = vs := by
  intro l
  induction l with
  | nil => intro vs hv; simp [opps] at hv; simp [hv]
  | cons o r ih =>
    obtain ⟨i, o⟩ := o;intro vs hv;simp only [opps] at hv;cases h1 : opv fr o with
    | none => rw [h1] at hv; cases hv
    | some v =>
      rw [h1] at hv;cases h2 : opps fr r with
      | none => rw [h2] at hv; cases hv
      | some us =>
        rw [h2] at hv;simp at hv;rw [List.map_cons, ih us h2, ← hv]; simp only [h.eval h1]
theorem Yd.build {t : TypeId} {zs : List Value} {pl : List (Nat × Nat)} (hS : zj P t zs pl) {ps : List (Nat × Operand)} {vals : List (Nat × Value)} {cs : List Value} 
    (hp' : opps fr ps = some vals) (hf : Instr.fill (pl.toArray[·]?) zs.toArray vals = some cs.toArray) : Yd P x fr D hp (.build t ps.toArray) ty (.agg cs.toArray) := fun a w _ _ _ _ hA _ => by
  have h1 := hA.evalps ps vals hp';obtain ⟨z, hz, hzc⟩ := hS.zero;obtain ⟨fs, hu, hm⟩ := hS.und;simp only [execOp, List.map_toArray, h1];have hm' := hm w
  have h3 : (Instr.build t vals.toArray).run P w = .ok (.agg cs.toArray) w := by
    unfold Instr.build;simp only [Sem.run_bind, hz, Result.andThen_ok, run_underlying hu, hzc];refine (congrArg (fun r : Result (Array (Nat × Nat)) => r.andThen _) hm').trans ?_;simp only [Result.andThen_ok];have : Instr.fill (fun x => pl.toArray[x]?) zs.toArray vals.toArray.toList = some cs.toArray := hf
    rw [this]; rfl
  simp [h3]
end yd
abbrev pt (b : Nat) : Value := .pointer (some ⟨b, 0, none⟩)
abbrev nt (k : Nat) : Value := .int .i64 (k : Int)
abbrev it (i : Int) : Value := .int .i64 i
theorem WC.loopF {P : Program} {x : Cx} {fr : Fr} {D : Imm} {hp : Hp} {Q : Exit → Act → World → Prop} {α : Type} {c : Code} (F : α → Fr) (φ : α → Prop) (m : α → Nat) (x0 : α) (h0 : φ x0) (hstart : subB (F x0) fr) 
    (hround : ∀ y, φ y → WC P x (F y) D hp c (Exit.then (fun a w => ∃ z, φ z ∧ m z < m y ∧ At x (F z) D hp a w) Q)) : WC P x fr D hp (.loop c) Q :=
  WC.loop F (fun _ => hp) (fun _ => D) φ m x0 h0 (fun _ _ h => y4 h hstart) hround
theorem WP.againF {x : Cx} {fr : Fr} {D : Imm} {hp hp' : Hp} {Q : Exit → Act → World → Prop} {α : Type} {F : α → Fr} {φ : α → Prop} {m : α → Nat} {k : Nat} (z : α) (hz : φ z) (hm : m z < k) (hf : subB (F z) fr) (hs : ∀ e, e ∈ hp' → e ∈ hp) (hn : (hp.map Prod.fst).Nodup → (hp'.map Prod.fst).Nodup) :
    WP x fr D hp .normal (Exit.then (fun a w => ∃ z, φ z ∧ m z < k ∧ At x (F z) D hp' a w) Q) :=
  fun _ _ h => ⟨z, hz, hm, yi h hf hs hn⟩
def RdD (D : Imm) (b o : Nat) (vs : List Value) : Prop := ∃ cs e fz, D b = some (.cells (List.toArray cs) e fz) ∧ ∀ j v, vs[j]? = some v → cs[o + j]? = some v
section
variable {D : Imm} {hp : Hp} {b o : Nat} {vs : List Value} (h : RdD D b o vs)
include D hp b o vs h
theorem RdD.rd (j : Nat) {v : Value} (hv : vs[j]? = some v) : Rd D hp ⟨b, o + j, none⟩ v := by
  obtain ⟨cs, e, fz, hD, hc⟩ := h;exact Rd.imm hD (hc j v hv)
theorem RdD.rdn (j n : Nat) {us : List Value} (hv : slc vs j n = us) : RdN D hp b (o + j) us := fun i v hi => by
  obtain ⟨cs, e, fz, hD, hc⟩ := h;refine Rd.imm hD ?_;rw [Nat.add_assoc];apply hc;rw [← hv] at hi;unfold slc at hi;rw [List.getElem?_take] at hi;split at hi
  · simpa using hi
  · cases hi
end
theorem RdD.ext {w : World} {D D' : Imm} (hD : DExt w D D') {b o : Nat} {vs : List Value} (h : RdD D b o vs) : RdD D' b o vs := by
  obtain ⟨cs, e, fz, hd, hc⟩ := h;exact ⟨cs, e, fz, hD.old _ _ hd, hc⟩
structure SlL (D : Imm) (size : Nat) (rows : List (List Value)) (a : Option Addr) (len : Nat) : Prop where
  len : len = rows.length
  row : ∀ i r, rows[i]? = some r → a = some ⟨sb a, so a, none⟩ ∧ RdD D (sb a) (so a + i * size) r
theorem SlL.ext {w : World} {D D' : Imm} (hD : DExt w D D') {size : Nat} {rows : List (List Value)} {a : Option Addr} {len : Nat} (h : SlL D size rows a len) : SlL D' size rows a len :=
  ⟨h.len, fun i r hr => ⟨(h.row i r hr).1, (h.row i r hr).2.ext hD⟩⟩
abbrev gt {α : Type} [Inhabited α] (l : List α) (i : Nat) : α := l.getD i default
theorem wX {α : Type} [Inhabited α] {l : List α} {i : Nat} (h : i < l.length) : l[i]? = some (gt l i) := by simp [gt, List.getD, h]
theorem SlL.len' {α : Type} {f : α → List Value} {D : Imm} {size : Nat} {l : List α} {a : Option Addr} {n : Nat} (h : SlL D size (l.map f) a n) : n = l.length := by simpa using h.len
theorem SlL.addr {α : Type} [Inhabited α] {f : α → List Value} {D : Imm} {size : Nat} {l : List α} {a : Option Addr} {n : Nat} (h : SlL D size (l.map f) a n) (i : Nat) (hi : i < n) : a = some ⟨sb a, so a, none⟩ := by
  rw [h.len'] at hi;exact (h.row i (f (gt l i)) (by rw [List.getElem?_map, wX hi]; rfl)).1
theorem SlL.at {α : Type} [Inhabited α] {f : α → List Value} {D : Imm} {size : Nat} {l : List α} {a : Option Addr} {n : Nat} (h : SlL D size (l.map f) a n) (i : Nat) (hi : i < n) : RdD D (sb a) (so a + i * size) (f (gt l i)) := by
  rw [h.len'] at hi;exact (h.row i (f (gt l i)) (by rw [List.getElem?_map, wX hi]; rfl)).2
end Go.W
namespace Go.W
structure Ow where
  b : Nat
  cap : Nat
  rest : List Value
def owV (o : Option Ow) (len : Nat) : Value := match o with | none => .slice none 0 0 | some o => .slice (some ⟨o.b, 0, none⟩) len o.cap
def owH (o : Option Ow) (e : TypeId) (xs : List Value) (hp : Hp) : Hp := match o with | none => hp | some o => (o.b, .cells (xs ++ o.rest).toArray e (0, 0)) :: hp
def owP (w0 : World) (o : Option Ow) (len size : Nat) : Prop := match o with | none => len = 0 | some o => w0.heap.size ≤ o.b ∧ len ≤ o.cap ∧ o.rest.length = (o.cap - len) * size
def RdS (D : Imm) (hp : Hp) (size : Nat) (v : Value) (n : Nat) (ys : List Value) : Prop :=
  ys.length = n * size ∧ ((∃ c, v = .slice none n c ∧ ys = []) ∨ ∃ b o c, v = .slice (some ⟨b, o, none⟩) n c ∧ RdN D hp b o ys)
section
variable {P : Program} {x : Cx} {fr : Fr} {D : Imm} {hp : Hp} {ty : TypeId} {Q : Exit → Act → World → Prop}
theorem xn {size n : Nat} {v : Value} {ys : List Value} {w : World} {S : List Nat} {w0 : World} (h : RdS D hp size v n ys) (hI : Inv D hp S w0 w) : (Builtin.firstCells size n v).run P w = .ok ys.toArray w := by
  obtain ⟨hl, ⟨c, rfl, rfl⟩ | ⟨b, o, c, rfl, hr⟩⟩ := h
  · rfl
  · have := xe (P := P) (w := w) (b := b) (o := o) (n * size) 0 #[] ys hl (fun j v hj => by simpa using hr j v hj _ _ _ hI);simp [Builtin.firstCells, loadCells, this]
theorem VQ (need : Nat) : ∀ (k c : Nat), c ≤ need → Builtin.growBy need k c ≤ 2 * need + 1000 := by
  intro k
  induction k with
  | zero => intro c hc; simp only [Builtin.growBy]; omega
  | succ k ih =>
    intro c hc;simp only [Builtin.growBy];split
    · omega
    · by_cases h : c + (c + 768) / 4 ≤ need
      · exact ih _ h
      · have hstop : ∀ j, Builtin.growBy need j (c + (c + 768) / 4) = c + (c + 768) / 4 := by
          intro j; cases j with
          | zero => rfl
          | succ j => simp only [Builtin.growBy]; rw [if_pos (by omega)]
        rw [hstop]; omega
theorem zaK {need cap : Nat} (h : cap < need) : Builtin.nextslicecap need cap ≤ 2 * need + 1000 := by
  unfold Builtin.nextslicecap;split
  · omega
  · split
    · omega
    · exact VQ need 4 cap (by omega)
theorem xc {t e : TypeId} {s y : Value} {base : Option Addr} {len cap n size : Nat} {xs ys : List Value} {info : TypeInfo} {z : Value} {w : World} {S : List Nat} {w0 : World} {ts : Array TypeId} 
    (ht : ts[0]? = some t) (ht' : ts[1]? = some t) (hu : P.underlying t = some (.slice e)) (hz : ∀ w, (sizeOf e).run P w = .ok size w) (hi : ∀ w, (typeInfo e).run P w = .ok info w) (hzero : ∀ w, (zeroValue e).run P w = .ok z w) (hzl : z.cells.size = size)
    (hI : Inv D hp S w0 w) (hs : s = .slice base len cap) (hx : RdS D hp size s len xs) (hy : RdS D hp size y n ys) (hg : cap < len + n) (hb : (2 * (len + n) + 1000) * info.bytes ≤ 2 ^ 48) (hn : len + n ≤ 2 ^ 48) :
    ∃ cap' rest, len + n ≤ cap' ∧ rest.length = (cap' - (len + n)) * size ∧
      (Builtin.append_ ts ty #[s, y]).run P w = .ok (.slice (some ⟨w.heap.size, 0, none⟩) (len + n) cap') { w with drawn := w.drawn + 1, heap := w.heap.push (.cells (xs ++ ys ++ rest).toArray e (0, 0)) } := by
  let newCap := len + n + w.tape w.drawn (.appendCap (len + n) cap e) % (2 ^ 63 - (len + n))
  refine ⟨newCap, (Builtin.zeroCells z.cells (newCap - (len + n))).toList, by omega, by simp [Builtin.zeroCells, hzl], ?_⟩;have h1 : ∀ w', Inv D hp S w0 w' → (Builtin.firstCells size len s).run P w' = .ok xs.toArray w' := fun w' hw' => xn hx hw';have h2 : ∀ w', Inv D hp S w0 w' → (Builtin.firstCells size n y).run P w' = .ok ys.toArray w' := fun w' hw' => xn hy hw'
  have hlen : (Builtin.lenOf y).run P w = .ok n w := by
    obtain ⟨_, ⟨c, rfl, _⟩ | ⟨b, o, c, rfl, _⟩⟩ := hy <;> rfl
  have hnx : ¬ (Builtin.nextslicecap (len + n) cap * info.bytes > 2 ^ 48) := by
    have := zaK hg;have := Nat.mul_le_mul_right info.bytes this;omega
  have hbig : ¬ (((len + n : Nat) : Int) > IntKind.i64.max ∧ (False ∨ info.bytes = 0)) := by
    have : IntKind.i64.max = 9223372036854775807 := rfl
    intro h; have := h.1; omega
  subst hs;have hd := hI.drew (w.drawn + 1);unfold Builtin.append_;simp only [ht, ht', List.getElem?_toArray, List.getElem?_cons_zero, List.getElem?_cons_succ, Sem.run_bind, run_underlying hu, Result.andThen_ok, hz, Sem.run_pure];simp only [Bool.false_eq_true, if_false, Sem.run_bind, hlen, Result.andThen_ok];rw [if_neg (by omega)];simp only [Sem.run_bind, hi, Result.andThen_ok, Sem.run_ite];rw [if_neg hbig, if_neg hnx];simp only [run_choose, Question.forced, Bool.false_eq_true, if_false, Result.andThen_ok, run_askRoom, Question.cut];rw [h1 _ hd];simp only [Result.andThen_ok, Bool.not_false, if_true];rw [h2 _ hd];simp only [Result.andThen_ok, hzero, newRow, Sem.run_bind, run_newObj, Sem.run_pure]
  have harr : xs.toArray ++ ys.toArray ++ Builtin.zeroCells z.cells (newCap - (len + n)) = (xs ++ ys ++ (Builtin.zeroCells z.cells (newCap - (len + n))).toList).toArray := by
    apply Array.ext';simp
  rw [← harr]
theorem uz {t e : TypeId} {s y : Value} {b len cap n size k : Nat} {xs ys rest : List Value} {w : World} {S : List Nat} {w0 : World} {ts : Array TypeId} 
    (ht : ts[0]? = some t) (ht' : ts[1]? = some t) (hu : P.underlying t = some (.slice e)) (hz : ∀ w, (sizeOf e).run P w = .ok size w)
    (hI : Inv D hp S w0 w) (hs : s = .slice (some ⟨b, 0, none⟩) len cap) (hk : hp[k]? = some (b, .cells (xs ++ rest).toArray e (0, 0))) (hxl : xs.length = len * size) (hrl : rest.length = (cap - len) * size) (hy : RdS D hp size y n ys) (hone : ∀ v ∈ ys, v.oneCell' = true) (hg : len + n ≤ cap) :
      (Builtin.append_ ts ty #[s, y]).run P w = .ok (.slice (some ⟨b, 0, none⟩) (len + n) cap) { w with heap := w.heap.setIfInBounds b (.cells (xs ++ ys ++ rest.drop ys.length).toArray e (0, 0)) } := by
  have h2 := xn (P := P) hy hI
  have hlen : (Builtin.lenOf y).run P w = .ok n w := by
    obtain ⟨_, ⟨c, rfl, _⟩ | ⟨b, o, c, rfl, _⟩⟩ := hy <;> rfl
  have hyl := hy.1;subst hs;have hbk := hI.own _ _ (mem_of_get? hk);have hle : n * size ≤ (cap - len) * size := Nat.mul_le_mul_right _ (by omega);have hst := wl (P := P) (e := e) ys w (xs ++ rest) (len * size) 0 hbk (by simp; omega) hone
  have hsp : splice (xs ++ rest) (len * size + 0) ys = xs ++ ys ++ rest.drop ys.length := by
    unfold splice;rw [Nat.add_zero, ← hxl, List.take_left', List.drop_append, List.drop_eq_nil_of_le (by omega), Nat.add_sub_cancel_left, List.nil_append];rfl
  rw [hsp] at hst;have hadd : Addr.add ⟨b, 0, none⟩ (len * size) = ⟨b, len * size, none⟩ := by unfold Addr.add; split <;> simp_all
  unfold Builtin.append_;simp only [ht, ht', List.getElem?_toArray, List.getElem?_cons_zero, List.getElem?_cons_succ, Sem.run_bind, run_underlying hu, Result.andThen_ok, hz, Sem.run_pure];simp only [Bool.false_eq_true, if_false, Sem.run_bind, hlen, Result.andThen_ok];rw [if_pos hg];simp only [Sem.run_bind, Sem.run_ite, Bool.not_false, if_true, h2, Result.andThen_ok, hadd];simp only [List.toList_toArray, hst, Result.andThen_ok, Sem.run_pure]
def AppK (w0 : World) (D : Imm) (base hp0 : Hp) (e : TypeId) (size : Nat) (xs : List Value) (len : Nat) (v : Value) (D' : Imm) (hp' : Hp) : Prop :=
  ∃ o, owP w0 (some o) len size ∧ v = owV (some o) len ∧ D = D' ∧ hp' = base ++ owH (some o) e xs hp0
theorem xS {α : Type} {l1 l2 : List α} (h : (l1 ++ l2).Nodup) : l2.Nodup := (List.nodup_append.1 h).2.1
theorem qX {base hp0 hp : Hp} {e : Nat × Obj} (h : ∀ e', e' ∈ base ++ hp0 → e' ∈ hp) (he : e ∈ hp) : ∀ e', e' ∈ base ++ e :: hp0 → e' ∈ hp := fun e' he' => by
  rcases List.mem_append.1 he' with h1 | h1
  · exact h _ (List.mem_append_left _ h1)
  · rcases List.mem_cons.1 h1 with h2 | h2
    · rw [h2]; exact he
    · exact h _ (List.mem_append_right _ h2)
theorem ve {base hp0 : Hp} {b : Nat} {o : Obj} (h : ¬ (b ∈ base.map Prod.fst ∨ b ∈ hp0.map Prod.fst)) (hn : (base.map Prod.fst ++ hp0.map Prod.fst).Nodup) : ((base ++ (b, o) :: hp0).map Prod.fst).Nodup := by
  rw [List.map_append, List.map_cons];refine (List.perm_middle.nodup_iff).2 (List.nodup_cons.2 ⟨fun hm => h (List.mem_append.1 hm), hn⟩)
theorem SO.appendOw {t e : TypeId} {o : Option Ow} {len n size : Nat} {xs ys : List Value} {info : TypeInfo} {z : Value} {ts : Array TypeId} {a1 a2 : Operand} {vy : Value} (drp base hp0 : Hp) 
    (ht : ts[0]? = some t) (ht' : ts[1]? = some t) (hu : P.underlying t = some (.slice e)) (hz : ∀ w, (sizeOf e).run P w = .ok size w) (hi : ∀ w, (typeInfo e).run P w = .ok info w) (hzero : ∀ w, (zeroValue e).run P w = .ok z w) (hzl : z.cells.size = size)
    (hs : opv fr a1 = some (owV o len)) (hy : opv fr a2 = some vy) (hhp : hp = drp ++ (base ++ owH o e xs hp0)) (hyr : RdS D hp size vy n ys) (hone : ∀ v ∈ ys, v.oneCell' = true)
    (how : owP x.w0 o len size) (hxl : xs.length = len * size) (hn0 : 0 < n) (hb : (2 * (len + n) + 1000) * info.bytes ≤ 2 ^ 48) (hn : len + n ≤ 2 ^ 48) :
    SO P x fr D hp (.call ⟨.builtin .append, #[a1, a2], ts⟩) ty Q (AppK x.w0 D base hp0 e size (xs ++ ys) (len + n)) := fun a w dst pos af g next hA hnx => by
  have hrun : ∀ {v : Value} {w' : World}, (Builtin.append_ ts ty #[owV o len, vy]).run P w = .ok v w' → (execOp a.eval ⟨dst, .call ⟨.builtin .append, #[a1, a2], ts⟩, ty, pos, af, g⟩).run P w = .ok (.value v) w' := fun {v} {w'} h => by
    simp only [execOp, resolve, List.map_toArray, List.map_cons, List.map_nil, hA.f.eval hs, hA.f.eval hy];simp [invoke, builtin, h]
  unfold Oper.wp;cases o with
  | none =>
    have h0 : len = 0 := how;subst h0;have hx0 : xs = [] := List.length_eq_zero_iff.1 (by simpa using hxl);subst hx0;obtain ⟨cap', rest, h1, h2, h3⟩ := xc (P := P) (ty := ty) (cap := 0) (xs := []) (base := none) (s := owV none 0) ht ht' hu hz hi hzero hzl hA.i rfl ⟨by simp, .inl ⟨0, rfl, rfl⟩⟩ hyr (by omega) hb hn;rw [hrun h3, Oper.upon_value];refine hnx _ _ _ _ ⟨⟨w.heap.size, cap', rest⟩, ⟨hA.i.keep.size, h1, h2⟩, rfl, rfl, rfl⟩ ?_;have hI := (hA.i.drew (w.drawn + 1)).new (.cells ([] ++ ys ++ rest).toArray e (0, 0));subst hhp;have hnd := hI.nodup;simp only [owH, List.map_cons, List.map_append, List.nodup_cons] at hnd
    exact hI.sub (qX (fun e' he' => List.mem_cons_of_mem _ (List.mem_append_right _ he')) List.mem_cons_self)
      (ve (fun h => hnd.1 (List.mem_append_right _ (List.mem_append.2 h))) (xS hnd.2))
  | some o =>
    obtain ⟨hwb, hlc, hrl⟩ := how
    have hk : hp[(drp ++ base).length]? = some (o.b, .cells (xs ++ o.rest).toArray e (0, 0)) := by
      subst hhp; rw [← List.append_assoc]; simp [owH]
    by_cases hg : len + n ≤ o.cap
    · have h3 := uz (P := P) (ty := ty) (s := owV (some o) len) ht ht' hu hz hA.i rfl hk hxl hrl hyr hone hg;rw [hrun h3, Oper.upon_value];refine hnx _ _ _ _ ⟨⟨o.b, o.cap, o.rest.drop ys.length⟩, ⟨hwb, hg, by simp [hrl, hyr.1, ← Nat.sub_mul, Nat.sub_sub]⟩, rfl, rfl, rfl⟩ ?_;have hI := hA.i.set hk (.cells (xs ++ ys ++ o.rest.drop ys.length).toArray e (0, 0));subst hhp;have hnd := hI.nodup
      have hset : (drp ++ (base ++ owH (some o) e xs hp0)).set (drp ++ base).length (o.b, .cells (xs ++ ys ++ o.rest.drop ys.length).toArray e (0, 0)) = drp ++ (base ++ (o.b, .cells (xs ++ ys ++ o.rest.drop ys.length).toArray e (0, 0)) :: hp0) := by
        rw [← List.append_assoc, List.set_append_right _ _ (by omega)]; simp [owH]
      rw [hset] at hI hnd;rw [List.map_append] at hnd;exact hI.sub (fun e' he' => List.mem_append_right _ he') (xS hnd)
    · obtain ⟨cap', rest, h1, h2, h3⟩ := xc (P := P) (ty := ty) (cap := o.cap) (xs := xs) (s := owV (some o) len) ht ht' hu hz hi hzero hzl hA.i rfl
        ⟨hxl, .inr ⟨o.b, 0, o.cap, rfl, fun j v hj => by
          have := Rd.own (D := D) (hp := hp) hk (off := 0 + j) (v := v) (by
            rw [Nat.zero_add, List.getElem?_append_left (List.getElem?_eq_some_iff.1 hj).1]; exact hj)
          exact this⟩⟩ hyr (by omega) hb hn
      rw [hrun h3, Oper.upon_value];refine hnx _ _ _ _ ⟨⟨w.heap.size, cap', rest⟩, ⟨hA.i.keep.size, h1, h2⟩, rfl, rfl, rfl⟩ ?_;have hI := (hA.i.drew (w.drawn + 1)).new (.cells (xs ++ ys ++ rest).toArray e (0, 0));subst hhp;have hnd := hI.nodup;simp only [owH, List.map_cons, List.map_append, List.nodup_cons] at hnd;have hnd2 := xS hnd.2;refine hI.sub (qX (fun e' he' => List.mem_cons_of_mem _ (List.mem_append_right _ ?_)) List.mem_cons_self) (ve (fun h => hnd.1 (List.mem_append_right _ ?_)) ?_)
      · rcases List.mem_append.1 he' with h | h
        · exact List.mem_append_left _ h
        · exact List.mem_append_right _ (List.mem_cons_of_mem _ h)
      · rcases h with h | h
        · exact List.mem_append_left _ h
        · exact List.mem_append_right _ (List.mem_cons_of_mem _ h)
      · rw [List.nodup_append] at hnd2 ⊢;refine ⟨hnd2.1, (List.nodup_cons.1 hnd2.2.1).2, fun a ha b hb => hnd2.2.2 a ha b (List.mem_cons_of_mem _ hb)⟩
def NewS (x : Cx) (D : Imm) (hp : Hp) (cs : List Value) (t : TypeId) (len : Nat) (v : Value) (D' : Imm) (hp' : Hp) : Prop :=
  ∃ b, x.w0.heap.size ≤ b ∧ v = .slice (some ⟨b, 0, none⟩) len len ∧ D = D' ∧ hp' = (b, .cells cs.toArray t (0, 0)) :: hp
def xI (zs : List Value) : Nat → List Value
  | 0 => []
  | n + 1 => xI zs n ++ [zs.getD (n % zs.length) default]
theorem Wl (zs : List Value) (n : Nat) : (Array.range n).map (fun i => zs.toArray[i % zs.toArray.size]!) = (xI zs n).toArray := by
  apply Array.ext';simp only [Array.toList_map, Array.toList_range, List.size_toArray]
  induction n with
  | zero => simp [xI]
  | succ n ih =>
    rw [List.range_succ, List.map_append, ih];simp [xI, List.getD]
theorem SO.buildSlice {t e : TypeId} {size len : Nat} {z : Value} {zs cs : List Value} {ps : List (Nat × Operand)} {vals : List (Nat × Value)} 
    (hu : P.underlying t = some (.slice e)) (hz : ∀ w, (sizeOf e).run P w = .ok size w) (hzero : ∀ w, (zeroValue e).run P w = .ok z w) (hzs : z.cells = zs.toArray) (hl0 : Nat.beq (len * size) 0 = false) (hl : Nat.ble (len * size) (2 ^ 24) = true)
    (hp' : opps fr ps = some vals) (hf : Instr.fill (fun i => some (i * size, size)) (xI zs (len * size)).toArray vals = some cs.toArray) :
    SO P x fr D hp (.buildSlice t len ps.toArray) ty Q (NewS x D hp cs e len) := fun a w dst pos af g next hA hn => by
  unfold Oper.wp;have h1 := hA.f.evalps ps vals hp';have hne : ¬ (len * size = 0) := fun h => by rw [h] at hl0; cases hl0
  have hle : ¬ (len * size > 2 ^ 24) := by have := Nat.le_of_ble_eq_true hl; omega
  have hf' : Instr.fill (fun i => some (i * size, size)) ((Array.range (len * size)).map (fun i => zs.toArray[i % zs.toArray.size]!)) vals.toArray.toList = some cs.toArray := by rw [Wl]; exact hf
  have : (execOp a.eval ⟨dst, .buildSlice t len ps.toArray, ty, pos, af, g⟩).run P w = .ok (.value (.slice (some ⟨w.heap.size, 0, none⟩) len len)) { w with heap := w.heap.push (.cells cs.toArray e (0, 0)) } := by
    have h3 : (Instr.buildSlice t len vals.toArray).run P w = .ok (.slice (some ⟨w.heap.size, 0, none⟩) len len) { w with heap := w.heap.push (.cells cs.toArray e (0, 0)) } := by
      unfold Instr.buildSlice;simp only [Sem.run_bind, run_underlying hu, Result.andThen_ok, hz, Sem.run_pure];rw [if_neg hle];simp only [Sem.run_bind, Sem.run_ite, hzero, Result.andThen_ok, Sem.run_pure];rw [if_neg hne];simp only [Result.andThen_ok, hzs];rw [hf'];rfl
    simp only [execOp, List.map_toArray, h1];simp [h3]
  rw [this, Oper.upon_value];exact hn _ _ _ _ ⟨_, hA.i.keep.size, rfl, rfl, rfl⟩ (hA.i.new _)
theorem SO.buildSlice0 {t e : TypeId} {size : Nat} (hu : P.underlying t = some (.slice e)) (hz : ∀ w, (sizeOf e).run P w = .ok size w) :
    SO P x fr D hp (.buildSlice t 0 #[]) ty Q (NewS x D hp [] e 0) := fun a w dst pos af g next hA hn => by
  unfold Oper.wp
  have : (execOp a.eval ⟨dst, .buildSlice t 0 #[], ty, pos, af, g⟩).run P w = .ok (.value (.slice (some ⟨w.heap.size, 0, none⟩) 0 0)) { w with heap := w.heap.push (.cells #[] e (0, 0)) } := by
    simp [execOp, Instr.buildSlice, run_underlying hu, hz, newRow, Instr.fill];rw [show Array.map (fun (_ : Nat) => (default : Value)) (Array.range 0) = #[] from by apply Array.ext'; simp]
  rw [this, Oper.upon_value];exact hn _ _ _ _ ⟨_, hA.i.keep.size, rfl, rfl, rfl⟩ (hA.i.new _)
end
end Go.W
namespace Go.W
section tail
variable {P : Program} {ops : Array Oper} {C : World → Prop}
def waits (ops : Array Oper) (j i : Nat) : Bool :=
  match ops[j]? with
  | some o => o.after.any fun e => Region.binds .any e && Nat.beq e.on i
  | none => false
theorem jZ {j i : Nat} (h : waits ops j i = true) : ∃ o, ops[j]? = some o ∧ ∃ e ∈ o.after, Region.binds .any e = true ∧ e.on = i := by
  unfold waits at h;cases ho : ops[j]? with
  | none => rw [ho] at h; cases h
  | some o =>
    rw [ho] at h;obtain ⟨e, he, hb⟩ := Array.any_eq_true'.1 h;simp only [Bool.and_eq_true] at hb;exact ⟨o, rfl, e, he, hb.1, Nat.eq_of_beq_eq_true hb.2⟩
def remQ (P : Program) (ops : Array Oper) (C : World → Prop) (K : Act → Prop) : List Nat → Act → Prop
  | [], a => K a
  | i :: r, a => ∃ o v, ops[i]? = some o ∧ YieldsIn P ops C o v a ∧ remQ P ops C K r (a.put o.dst v)
def vH (ops : Array Oper) (i j : Nat) : Bool := match ops[i]?, ops[j]? with | some x, some y => x.apart ops y | _, _ => false
theorem uj {K : Act → Prop} (hs : Region.noSelect ops = true) (i : Nat) (l2 : List Nat) : ∀ (l1 : List Nat) (a : Act), (∀ j ∈ l1, vH ops i j = true) → remQ P ops C K (l1 ++ i :: l2) a →
    ∃ o v, ops[i]? = some o ∧ YieldsIn P ops C o v a ∧ remQ P ops C K (l1 ++ l2) (a.put o.dst v)
  | [], a, _, h => h
  | j :: l1, a, hap, ⟨oj, u, hj, hyj, hr⟩ => by
    obtain ⟨oi, v, hi, hyi, hr'⟩ := uj hs i l2 l1 _ (fun k hk => hap k (List.mem_cons_of_mem _ hk)) hr;have h1 := hap j List.mem_cons_self;simp only [vH, hi, hj] at h1;obtain ⟨p1, p2, p3⟩ := Oper.apart_spec h1;have si := fun cs b => Region.noSelect_spec hs i oi cs b hi;have sj := fun cs b => Region.noSelect_spec hs j oj cs b hj;refine ⟨oi, v, hi, hyi.of_same (execOp_put oi si a oj.dst u p3).symm (wanted_put oi a oj.dst u p3).symm, oj, u, hj, hyj.of_same (execOp_put oj sj a oi.dst v p1) (wanted_put oj a oi.dst v p1), ?_⟩;rw [Act.put_comm a v u p2];exact hr'
def X0 (ops : Array Oper) (n : Nat) : Bool :=
  Region.noSelect ops && Nat.blt n ops.size &&
  (List.range n).all (fun i => (List.range (n + 1)).any fun j => Nat.blt i j && waits ops j i) &&
  (List.range ops.size).all (fun t => Nat.ble t n || waits ops t (t - 1)) &&
  (List.range n).all (fun i => (List.range i).all fun j => waits ops i j || vH ops i j) &&
  (List.range ops.size).all (fun i => match ops[i]? with | some o => o.after.all fun e => !Region.binds .any e || Nat.blt e.on i | none => true)
structure qz (ops : Array Oper) (n : Nat) : Prop where
  sel : Region.noSelect ops = true
  lt : n < ops.size
  sink : ∀ i, i < n → ∃ j, j ≤ n ∧ i < j ∧ waits ops j i = true
  chain : ∀ t, n < t → t < ops.size → waits ops t (t - 1) = true
  ap : ∀ i j, i < n → j < i → waits ops i j = true ∨ vH ops i j = true
  back : ∀ (i : Nat) (o : Oper) (e : Edge), ops[i]? = some o → e ∈ o.after → Region.binds .any e = true → e.on < i
theorem Z0 {n : Nat} (h : X0 ops n = true) : qz ops n := by
  simp only [X0, Bool.and_eq_true, List.all_eq_true, List.mem_range, List.any_eq_true, Bool.or_eq_true] at h;obtain ⟨⟨⟨⟨⟨h1, h2⟩, h3⟩, h4⟩, h5⟩, h6⟩ := h;refine ⟨h1, by simpa [Nat.blt_eq] using h2, fun i hi => ?_, fun t ht hs => ?_, fun i j hi hj => h5 i hi j hj, fun i o e ho he hb => ?_⟩
  · obtain ⟨j, hj, h7, h8⟩ := h3 i hi;exact ⟨j, by omega, by simpa [Nat.blt_eq] using h7, h8⟩
  · rcases h4 t hs with h7 | h7
    · have := Nat.le_of_ble_eq_true h7; omega
    · exact h7
  · have hlt : i < ops.size := (Array.getElem?_eq_some_iff.1 ho).1;have := h6 i hlt;rw [ho] at this;have := Array.all_eq_true'.1 this e he;simp only [hb, Bool.not_true, Bool.false_or, Nat.blt_eq] at this;exact this
structure Lst (ops : Array Oper) (n : Nat) (l : List Nat) (listed : Array Bool) : Prop where
  size : listed.size = ops.size
  sorted : l.Pairwise (· < ·)
  below : ∀ i ∈ l, i < n
  no : ∀ i, i < ops.size → (listed.getD i false = false ↔ (i ∈ l ∨ n ≤ i))
  closed : ∀ i j, i < n → i ∉ l → waits ops i j = true → j ∉ l
theorem vP {listed : Array Bool} {i : Nat} (hi : i < listed.size) : listed.getD i true = listed.getD i false := by simp [hi]
theorem Lst.ready {n : Nat} {l : List Nat} {listed : Array Bool} (T : qz ops n) (L : Lst ops n l listed) (hne : l ≠ []) {t : Nat} (hr : t ∈ Region.ready .any ops listed) : t ∈ l ∧ ∀ j ∈ l, waits ops t j = false := by
  obtain ⟨hun, o, ho, hall⟩ := mem_ready.1 hr;have hts : t < ops.size := (Array.getElem?_eq_some_iff.1 ho).1
  have hw : ∀ j, waits ops t j = true → listed.getD j false = true := fun j hj => by
    obtain ⟨o', ho', e, he, hb, hi⟩ := jZ hj;rw [ho] at ho'; cases ho';rw [← hi]; exact hall e he hb
  have hnw : ∀ j ∈ l, waits ops t j = false := fun j hj => by
    cases h : waits ops t j with
    | false => rfl
    | true =>
      have h1 := hw j h;have h2 := (L.no j (by have := L.below j hj; have := T.lt; omega)).2 (.inl hj);rw [h1] at h2; cases h2
  refine ⟨?_, hnw⟩;rw [vP (by rw [L.size]; exact hts)] at hun;rcases (L.no t hts).1 hun with h | h
  · exact h
  · exfalso
    rcases Nat.lt_or_ge n t with h1 | h1
    · have h2 := hw _ (T.chain t h1 hts);have h3 := (L.no (t - 1) (by omega)).2 (.inr (by omega));rw [h2] at h3; cases h3
    · have htn : t = n := by omega
      subst htn
      -- the greatest of l
      have hi := List.getLast_mem hne;obtain ⟨j, hjn, hij, hj⟩ := T.sink _ (L.below _ hi);rcases Nat.lt_or_ge j t with h4 | h4
      · have hjl : j ∉ l := fun hm => by
          have := List.getLast_mem hne
          have hle : j ≤ l.getLast hne := by
            rcases List.pairwise_iff_getElem.1 L.sorted with hp;obtain ⟨p, hp1, hp2⟩ := List.getElem_of_mem hm;rw [List.getLast_eq_getElem];rcases Nat.lt_or_ge p (l.length - 1) with h5 | h5
            · have := hp p (l.length - 1) hp1 (by omega) h5;omega
            · have : p = l.length - 1 := by omega
              subst this; omega
          omega
        exact L.closed j _ h4 hjl hj hi
      · have hjt : j = t := by omega
        subst hjt;have := hnw _ hi;rw [hj] at this; cases this
theorem Lst.next {n i : Nat} {l1 l2 : List Nat} {listed : Array Bool} (T : qz ops n) (L : Lst ops n (l1 ++ i :: l2) listed) (hw : ∀ j ∈ l1 ++ i :: l2, waits ops i j = false) : Lst ops n (l1 ++ l2) (listed.setIfInBounds i true) := by
  have hin := L.below i (by simp)
  have hni : i ∉ l1 ++ l2 := fun hm => by
    have hp := L.sorted;rw [List.pairwise_append, List.pairwise_cons] at hp;rcases List.mem_append.1 hm with h | h
    · exact absurd (hp.2.2 i h i List.mem_cons_self) (Nat.lt_irrefl _)
    · exact absurd (hp.2.1.1 i h) (Nat.lt_irrefl _)
  have hsub : ∀ j, j ∈ l1 ++ l2 → j ∈ l1 ++ i :: l2 := fun j hj => by
    rcases List.mem_append.1 hj with h | h
    · exact List.mem_append_left _ h
    · exact List.mem_append_right _ (List.mem_cons_of_mem _ h)
  have hmem : ∀ j, j ∈ l1 ++ i :: l2 ↔ j = i ∨ j ∈ l1 ++ l2 := fun j => by simp; constructor <;> (rintro (h | h | h) <;> simp [h])
  refine ⟨by simp [L.size], ?_, fun j hj => L.below j (hsub j hj), fun j hj => ?_, fun j k hj hjn hjw => ?_⟩
  · exact L.sorted.sublist (List.Sublist.append_left (List.sublist_cons_self _ _) _)
  · by_cases h : i = j
    · subst h;have : (listed.setIfInBounds i true).getD i false = true := by simp [L.size, hj]
      rw [this];simp only [Bool.true_eq_false, false_iff, not_or];exact ⟨hni, by omega⟩
    · rw [getD_set_ne false h, L.no j hj, hmem j];constructor
      · rintro ((h1 | h1) | h1)
        · exact absurd h1.symm h
        · exact .inl h1
        · exact .inr h1
      · rintro (h1 | h1)
        · exact .inl (.inr h1)
        · exact .inr h1
  · by_cases h : j = i
    · subst h;intro hk;have := hw k (hsub k hk);rw [hjw] at this; cases this
    · intro hk;exact L.closed j k hj (fun hm => by rcases (hmem j).1 hm with h1 | h1; exact h h1; exact hjn h1) hjw (hsub k hk)
theorem vd {n : Nat} {l : List Nat} {listed : Array Bool} (T : qz ops n) (L : Lst ops n l listed) (hne : l ≠ []) : Region.ready .any ops listed ≠ [] := by
  cases l with
  | nil => exact absurd rfl hne
  | cons i r =>
    have hin := L.below i List.mem_cons_self;have his : i < ops.size := by have := T.lt; omega
    have hso := L.sorted;simp only [List.pairwise_cons] at hso;intro h
    have : i ∈ Region.ready .any ops listed := by
      refine mem_ready.2 ⟨?_, ops[i], by simp [his], fun e he hb => ?_⟩
      · rw [vP (by rw [L.size]; exact his)]; exact (L.no i his).2 (.inl List.mem_cons_self)
      · have hlt := T.back i ops[i] e (by simp [his]) he hb;cases hl : listed.getD e.on false with
        | true => rfl
        | false =>
          rcases (L.no e.on (by omega)).1 hl with h1 | h1
          · rcases List.mem_cons.1 h1 with h2 | h2
            · omega
            · have := hso.1 _ h2; omega
          · omega
    rw [h] at this; cases this
structure LstT (ops : Array Oper) (k : Nat) (listed : Array Bool) : Prop where
  size : listed.size = ops.size
  no : ∀ i, i < ops.size → (listed.getD i false = false ↔ k ≤ i)
theorem uP {n k : Nat} {listed : Array Bool} (T : qz ops n) (L : LstT ops k listed) (hn : n ≤ k) (hk : k < ops.size) : ∀ t, t ∈ Region.ready .any ops listed ↔ t = k := by
  intro t;constructor
  · intro hr;obtain ⟨hun, o, ho, hall⟩ := mem_ready.1 hr;have hts : t < ops.size := (Array.getElem?_eq_some_iff.1 ho).1;rw [vP (by rw [L.size]; exact hts)] at hun;have h1 := (L.no t hts).1 hun;rcases Nat.lt_or_ge k t with h2 | h2
    · exfalso
      obtain ⟨o', ho', e, he, hb, hi⟩ := jZ (T.chain t (by omega) hts);rw [ho] at ho'; cases ho';have h3 := hall e he hb;rw [hi] at h3;have h4 := (L.no (t - 1) (by omega)).2 (by omega);rw [h3] at h4; cases h4
    · omega
  · rintro rfl;refine mem_ready.2 ⟨?_, ops[t], by simp [hk], fun e he hb => ?_⟩
    · rw [vP (by rw [L.size]; exact hk)]; exact (L.no t hk).2 (Nat.le_refl _)
    · have hlt := T.back t ops[t] e (by simp [hk]) he hb;cases hl : listed.getD e.on false with
      | true => rfl
      | false => have := (L.no e.on (by omega)).1 hl; omega
theorem k6 {Q : Exit → Act → World → Prop} {n : Nat} (T : qz ops n) : ∀ (l : List Oper) (k : Nat) (listed : Array Bool) (a : Act) (w : World), n ≤ k → k + l.length = ops.size → (∀ j, j < l.length → l[j]? = ops[k + j]?) → LstT ops k listed →
    wpList P ops Q l a w → wpAny P .any ops Q l.length listed a w
  | [], k, listed, a, w, hn, hk, _, L, h => by
    refine ⟨?_, h⟩;apply List.eq_nil_iff_forall_not_mem.2;intro t ht;obtain ⟨hun, o, ho, _⟩ := mem_ready.1 ht;have hts : t < ops.size := (Array.getElem?_eq_some_iff.1 ho).1;rw [vP (by rw [L.size]; exact hts)] at hun;have := (L.no t hts).1 hun;simp at hk; omega
  | o :: l, k, listed, a, w, hn, hk, hl, L, h => by
    have hks : k < ops.size := by simp at hk; omega
    have h0 : ops[k]? = some o := by simpa using (hl 0 (by simp)).symm
    have hr := uP T L hn hks;refine ⟨fun h1 => ?_, fun i hi => ?_⟩
    · have := (hr k).2 rfl;rw [h1] at this; cases this
    · have hik := (hr i).1 hi;subst hik;have hw : wpOp P ops Q i (wpList P ops Q l) a w := by unfold wpOp; simp only [h0]; exact h
      refine wpOp_mono (fun a' w' h' => k6 T l (i + 1) _ a' w' (by omega) (by simp at hk; omega) (fun j hj => by
        have := hl (j + 1) (by simp; omega);rw [show i + 1 + j = i + (j + 1) by omega]; simpa using this) ⟨by simp [L.size], fun j hj => ?_⟩ h') hw
      by_cases e : i = j
      · subst e;have : (listed.setIfInBounds i true).getD i false = true := by simp [L.size, hj]
        rw [this]; simp
      · rw [getD_set_ne false e, L.no j hj]; omega
theorem X4 {Q : Exit → Act → World → Prop} {n : Nat} {tl : List Oper} (T : qz ops n) (htl : n + tl.length = ops.size) (htl' : ∀ j, j < tl.length → tl[j]? = ops[n + j]?) :
    ∀ (m : Nat) (l : List Nat) (listed : Array Bool) (a : Act) (w : World), l.length = m → C w → Lst ops n l listed → remQ P ops C (fun a' => ∀ w', C w' → wpList P ops Q tl a' w') l a →
      wpAny P .any ops Q (l.length + tl.length) listed a w := by
  intro m
  induction m with
  | zero =>
    intro l listed a w hm hw L h;have hl : l = [] := List.length_eq_zero_iff.1 hm;subst hl;rw [List.length_nil, Nat.zero_add];exact k6 T tl n listed a w (Nat.le_refl _) htl htl' ⟨L.size, fun i hi => by rw [L.no i hi]; simp⟩ (h w hw)
  | succ m ih =>
    intro l listed a w hm hw L h;have hne : l ≠ [] := fun e => by rw [e] at hm; cases hm
    rw [show l.length + tl.length = (m + tl.length) + 1 by omega];refine ⟨fun h0 => absurd h0 (vd T L hne), fun i hi => ?_⟩;obtain ⟨hil, hnw⟩ := L.ready T hne hi;obtain ⟨l1, l2, rfl⟩ := List.append_of_mem hil
    have hap : ∀ j ∈ l1, vH ops i j = true := fun j hj => by
      have hji : j < i := by
        have := L.sorted;rw [List.pairwise_append] at this;exact this.2.2 j hj i List.mem_cons_self
      rcases T.ap i j (L.below i hil) hji with h1 | h1
      · rw [hnw j (List.mem_append_left _ hj)] at h1; cases h1
      · exact h1
    obtain ⟨o, v, ho, hy, hr⟩ := uj T.sel i l2 l1 a hap h;have hlen : (l1 ++ l2).length = m := by simp at hm ⊢; omega
    have key : ∀ w', C w' → wpAny P .any ops Q (m + tl.length) (listed.setIfInBounds i true) (a.put o.dst v) w' := fun w' hw' => by
      have := ih (l1 ++ l2) _ _ w' hlen hw' (L.next T hnw) hr
      rwa [hlen] at this
    refine wpOp_of_qOp (C := C) (K := fun a' => a' = a.put o.dst v) hw (fun a' w' hw' e => by subst e; exact key w' hw') (hy.qOp ho rfl)
theorem jD {id n : Nat} {Q : Exit → Act → World → Prop} {a : Act} {w : World} {l : List Oper} (hm : P.follows .mixedOrders = true) (hB : X0 l.toArray n = true) (hC : C { w with drawn := w.drawn + 1 })
    (h : remQ P l.toArray C (fun a' => ∀ w', C w' → wpList P l.toArray Q (l.drop n) a' w') (List.range n) a) : (Code.region id l.toArray true).wp P Q a w := by
  have T := Z0 hB;refine wp_region_any hm ?_;have hn : n < l.length := by simpa using T.lt
  have := X4 (P := P) (Q := Q) (tl := l.drop n) T (by simp; omega) (fun j hj => by simp [List.getElem?_drop]) n (List.range n) (Array.replicate l.toArray.size false) a _ (by simp) hC
    ⟨by simp, List.pairwise_lt_range, fun i hi => List.mem_range.1 hi, fun i hi => by
      simp only [List.mem_range];constructor
      · intro _; omega
      · intro _; have : i < l.length := by simpa using hi
        simp [this], fun i j hi hni _ => absurd (List.mem_range.2 hi) hni⟩ h
  rw [List.length_range, List.length_drop, show n + (l.length - n) = l.toArray.size by simp; omega] at this;exact this
end tail
def Qt (P : Program) (x : Cx) (fr : Fr) (D : Imm) (hp : Hp) (op : Op) (ty : TypeId) (v : Value) : Prop :=
  ∀ a w dst pos af g, AtF x.n fr x.ds a → Inv D hp x.S x.w0 w → Oper.quietAt P ⟨dst, op, ty, pos, af, g⟩ a (Inv D hp x.S x.w0) w v
def WQ (P : Program) (x : Cx) (ops : Array Oper) (D : Imm) (hp : Hp) (K : Act → Prop) (l : List Nat) (fr : Fr) : Prop := ∀ a, AtF x.n fr x.ds a → remQ P ops (Inv D hp x.S x.w0) K l a
section
variable {P : Program} {x : Cx} {ops : Array Oper} {fr : Fr} {D : Imm} {hp : Hp} {K : Act → Prop} {l : List Nat} {d i : Nat} {dst : Option Tmp} {op : Op} {ty : TypeId} {pos : String} {af : Array Edge} {Q : Exit → Act → World → Prop}
theorem Yd.qt {v : Value} (h : Yd P x fr D hp op ty v) : Qt P x fr D hp op ty v := fun a w dst pos af g hA hI => by
  unfold Oper.quietAt;rw [h a w dst pos af g hA hI];exact ⟨rfl, rfl⟩
theorem Qt.callP {f : FuncId} {A : List Operand} {ts : Array TypeId} {vals : List Value} {v : Value} 
    (hc : ∀ args w, (callFunc f args).run P w = .ok (.enter f args) w) (ha : opvs fr A = some vals) (hk : ∀ w, Inv D hp x.S x.w0 w → z8 P f vals w v) :
    Qt P x fr D hp (.call ⟨.value (.func f), A.toArray, ts⟩) ty v := fun a w dst pos af g hA hI => by
  unfold Oper.quietAt;have : (execOp a.eval ⟨dst, .call ⟨.value (.func f), A.toArray, ts⟩, ty, pos, af, g⟩).run P w = .ok (.enter f vals.toArray) w := vf (hA.evals A vals ha) hc
  rw [this];exact ⟨rfl, (hk w hI).mono fun e w' h => ⟨h.1, hI.call h.2⟩⟩
theorem WQ.q {v : Value} (ho : ops[i]? = some ⟨some d, op, ty, pos, af, none⟩) (hy : Qt P x fr D hp op ty v) (hd : Nat.blt d x.n = true) (h : WQ P x ops D hp K l ((d, v) :: fr)) : WQ P x ops D hp K (i :: l) fr := fun a hA =>
  ⟨_, v, ho, .inl ⟨rfl, fun w hw => hy a w _ _ _ _ hA hw⟩, h _ (hA.put hd v)⟩
theorem WQ.qg {j : Nat} {b : Bool} {v : Value} (ho : ops[i]? = some ⟨some d, op, ty, pos, af, some (j, b)⟩) (hg : gval ops fr j = some (.bool b)) (hy : Qt P x fr D hp op ty v) (hd : Nat.blt d x.n = true) (h : WQ P x ops D hp K l ((d, v) :: fr)) : WQ P x ops D hp K (i :: l) fr := fun a hA =>
  ⟨_, v, ho, .inl ⟨by rw [yy hA hg]; simp, fun w hw => hy a w _ _ _ _ hA hw⟩, h _ (hA.put hd v)⟩
theorem WQ.skip {j : Nat} {b : Bool} (ho : ops[i]? = some ⟨dst, op, ty, pos, af, some (j, b)⟩) (hg : gval ops fr j = some (.bool !b)) (hd : dstB dst x.n = true) (h : WQ P x ops D hp K l (wj dst undef fr)) : WQ P x ops D hp K (i :: l) fr := fun a hA =>
  ⟨_, undef, ho, .inr ⟨by rw [yy hA hg]; cases b <;> rfl, rfl⟩, h _ (hA.putO hd undef)⟩
theorem WQ.know (t : Nat) {v : Value} (v' : Value) (ht : fr.get t = some v) (hv : v = v') (h : WQ P x ops D hp K l ((t, v') :: fr)) : WQ P x ops D hp K l fr :=
  fun a hA => h a (hA.weaken (vz ht hv))
theorem WQ.part (t : Nat) {b : Bool} (ht : fr.get t = some (.bool b)) (h1 : b = true → WQ P x ops D hp K l ((t, .bool true) :: fr)) (h0 : b = false → WQ P x ops D hp K l ((t, .bool false) :: fr)) : WQ P x ops D hp K l fr := by
  cases hb : b with
  | true => exact WQ.know t (.bool true) ht (by rw [hb]) (h1 hb)
  | false => exact WQ.know t (.bool false) ht (by rw [hb]) (h0 hb)
theorem WQ.tail {tl : List Oper} (h : WL P x ops fr D hp tl Q) : WQ P x ops D hp (fun a' => ∀ w', Inv D hp x.S x.w0 w' → wpList P ops Q tl a' w') [] fr := fun a hA w hI => h a w ⟨hA, hI⟩
theorem WC.tail {id : Nat} {ops : List Oper} (n : Nat) (heads : List Nat) (hh : List.range n = heads) (hm : P.follows .mixedOrders = true) (hB : X0 ops.toArray n = true) 
    (h : WQ P x ops.toArray D hp (fun a' => ∀ w', Inv D hp x.S x.w0 w' → wpList P ops.toArray Q (ops.drop n) a' w') heads fr) : WC P x fr D hp (.region id ops.toArray true) Q := fun a w hA =>
  jD hm hB (hA.i.drew _) (by rw [hh]; exact h a hA.f)
end
end Go.W
namespace Go.W
def xC (P : Program) (f : FuncId) (vals : List Value) (w : World) (c : List PanicEntry) : Prop := Calls P f vals.toArray w fun e w' => e = .panicked c ∧ Keep [] w w'
section
variable {P : Program} {x : Cx} {ops : Array Oper} {fr : Fr} {D : Imm} {hp : Hp} {ty : TypeId} {Q : Exit → Act → World → Prop} {rest : List Oper} {dst : Option Tmp} {pos : String} {af : Array Edge} {op : Op}
def Enters (P : Program) (x : Cx) (fr : Fr) (D : Imm) (hp : Hp) (c : Call) (ty : TypeId) (f : FuncId) (vals : List Value) : Prop :=
  ∀ a w dst pos af g, AtF x.n fr x.ds a → Inv D hp x.S x.w0 w → (execOp a.eval ⟨dst, .call c, ty, pos, af, g⟩).run P w = .ok (.enter f vals.toArray) w
theorem Enters.func {f : FuncId} {A : List Operand} {ts : Array TypeId} {vals : List Value} (hc : ∀ args w, (callFunc f args).run P w = .ok (.enter f args) w) (ha : opvs fr A = some vals) :
    Enters P x fr D hp ⟨.value (.func f), A.toArray, ts⟩ ty f vals := fun _ _ _ _ _ _ hA _ => vf (hA.evals A vals ha) hc
theorem Enters.val {f : FuncId} {o : Operand} {A : List Operand} {ts : Array TypeId} {vals va vb : List Value} (hc : ∀ args w, (callFunc f args).run P w = .ok (.enter f args) w) (ho : opv fr o = some (.func (.func f) va.toArray vb.toArray)) (ha : opvs fr A = some vals) :
    Enters P x fr D hp ⟨.value o, A.toArray, ts⟩ ty f (va ++ vals ++ vb) := fun a w _ _ _ _ hA _ => by
  have h1 := hA.evals A vals ha;simp [execOp, resolve, hA.eval ho, Deferred.ofValue, invoke, h1, hc]
theorem Enters.meth {f : FuncId} {o : Operand} {name : String} {A : List Operand} {ts : Array TypeId} {vals : List Value} {t : TypeId} {v r : Value} (hc : ∀ args w, (callFunc f args).run P w = .ok (.enter f args) w) 
    (hm : ∀ w, (method (P.types.size + Made.depth) t v name).run P w = .ok (f, r) w) (ho : opv fr o = some (.iface t v)) (ha : opvs fr A = some vals) :
    Enters P x fr D hp ⟨.invoke o name, A.toArray, ts⟩ ty f (r :: vals) := fun a w _ _ _ _ hA _ => by
  have h1 := hA.evals A vals ha;simp [execOp, resolve, hA.eval ho, invoke, h1, callMethod, hm, hc]
section
variable {c : Call} {f : FuncId} {vals : List Value} {v : Value} (he : Enters P x fr D hp c ty f vals) (hk : ∀ w, Inv D hp x.S x.w0 w → z8 P f vals w v)
include c f vals v he hk
theorem Qt.call : Qt P x fr D hp (.call c) ty v := fun a w dst pos af g hA hI => by
  unfold Oper.quietAt;rw [he a w dst pos af g hA hI];exact ⟨rfl, (hk w hI).mono fun e w' h => ⟨h.1, hI.call h.2⟩⟩
theorem SO.call : SO P x fr D hp (.call c) ty Q (Wo D hp v) := fun a w dst pos af g next hA hn => by
  unfold Oper.wp;rw [he a w dst pos af g hA.f hA.i, Oper.upon_enter];refine (hk w hA.i).mono fun e w' h => ?_;rw [h.1];exact hn _ _ _ _ ⟨rfl, rfl, rfl⟩ (hA.i.call h.2)
end
def NoK (_ : Value) (_ : Imm) (_ : Hp) : Prop := False
theorem SO.fail {c : Call} {f : FuncId} {vals : List Value} {ch : List PanicEntry} (he : Enters P x fr D hp c ty f vals) (hk : ∀ w, Inv D hp x.S x.w0 w → xC P f vals w ch) (h : WP x fr D hp (.panic ch) Q) : SO P x fr D hp (.call c) ty Q NoK := fun a w dst pos af g next hA hn => by
  unfold Oper.wp;rw [he a w dst pos af g hA.f hA.i, Oper.upon_enter];refine (hk w hA.i).mono fun e w' h' => ?_;rw [h'.1];exact h a w' ⟨hA.f, hA.i.call h'.2⟩
theorem SO.panic {o : Operand} {t : TypeId} {v : Value} (ho : opv fr o = some (.iface t v)) (h : WP x fr D hp (.panic [{ v := .iface t v, recovered := false }]) Q) : SO P x fr D hp (.panic o) ty Q NoK := fun a w dst pos af g next hA hn => by
  unfold Oper.wp;have : (execOp a.eval ⟨dst, .panic o, ty, pos, af, g⟩).run P w = .halt (.panic (.iface t v)) w := by simp [execOp, hA.f.eval ho, Instr.panic]
  rw [this, Oper.upon_panic];exact h a w hA
theorem WL.no (hs : SO P x fr D hp op ty Q NoK) : WL P x ops fr D hp (⟨dst, op, ty, pos, af, none⟩ :: rest) Q :=
  fun a w hA => wpList_plain rfl fun _ _ => hs a w _ _ _ _ _ hA fun _ _ _ _ hk _ => hk.elim
theorem WA.no {D0 : Imm} {hp0 : Hp} {plan : List (Nat × Bool)} {i : Nat} (ho : ops[i]? = some ⟨dst, op, ty, pos, af, none⟩) (hs : SO P x fr D hp op ty Q NoK) : WA P x ops D0 hp0 ((i, false) :: plan) fr D hp Q := fun a w hA =>
  ⟨_, ho, by
    rw [if_pos (show Region.wanted ⟨dst, op, ty, pos, af, none⟩ (yielded ops a.tmps) = true from rfl)];exact hs a w _ _ _ _ _ hA fun _ _ _ _ hk _ => hk.elim⟩
theorem WP.panicBody {fn : Func} {ch : List PanicEntry} {R : Ending → World → Prop} (hd : x.ds = []) (hR : ∀ w, Inv D hp x.S x.w0 w → R (.panicked ch) w) : WP x fr D hp (.panic ch) (bodyPost P fn R) := fun a w hA => ⟨hA.f.defers.trans hd, hR w hA.i⟩
theorem Yd.assert {o : Operand} {xt t : TypeId} {d : TypeDesc} {v : Value} (hu : P.underlying t = some d) (hd : ∀ ms, d ≠ .interface ms) (ho : opv fr o = some (.iface t v)) : Yd P x fr D hp (.typeAssert o xt t true) ty (.tuple #[v, .bool true]) := fun a w _ _ _ _ hA _ => by
  simp only [execOp, hA.eval ho]
  have : (Instr.typeAssert (.iface t v) xt t true).run P w = .ok (.tuple #[v, .bool true]) w := by
    unfold Instr.typeAssert;simp only [Sem.run_bind, run_underlying hu, Result.andThen_ok];cases d <;> simp at hd ⊢
  simp [this]
theorem WL.defer {f : FuncId} {o : Operand} {va vb : List Value} {ts : Array TypeId} (ho : opv fr o = some (.func (.func f) va.toArray vb.toArray)) 
    (h : WL P { x with ds := { target := .fn (.func f) vb.toArray, args := va.toArray } :: x.ds } ops fr D hp rest Q) : WL P x ops fr D hp (⟨none, .defer ⟨.value o, #[], ts⟩, ty, pos, af, none⟩ :: rest) Q :=
  fun a w hA => wpList_plain rfl fun K hK => by
    unfold Oper.wp
    have : (execOp a.eval ⟨none, .defer ⟨.value o, #[], ts⟩, ty, pos, af, none⟩).run P w = .ok (.defer { target := .fn (.func f) vb.toArray, args := va.toArray }) w := by
      simp [execOp, resolve, hA.f.eval ho, Deferred.ofValue]
    rw [this, Oper.upon_defer];exact hK _ _ (h _ _ ⟨⟨hA.f.size, by show _ :: a.defers = _; rw [hA.f.defers], hA.f.slot⟩, hA.i⟩)
theorem Inv.mut {S : List Nat} {w0 w w' : World} (h : Inv D hp S w0 w) {k b : Nat} {o o' : Obj} (hk : hp[k]? = some (b, o)) (kp : Keep [b] w w') (hb' : w'.heap[b]? = some o') : Inv D (hp.set k (b, o')) S w0 w' := by
  have hmem := mem_of_get? hk;have hlt := lt_of_some (h.own _ _ hmem)
  have h1 := h.setF hk o' (fun a => by
    by_cases e : a.block = b
    · subst e;rw [← kp.fz a hlt];exact xZ (by show (w.heap.setIfInBounds a.block o')[a.block]? = _; rw [Array.getElem?_setIfInBounds_self_of_lt hlt, hb'])
    · exact xZ (by show (w.heap.setIfInBounds b o')[a.block]? = _; rw [Array.getElem?_setIfInBounds_ne (Ne.symm e)]))
  have heap : ∀ j, j < w.heap.size → w'.heap[j]? = (w.heap.setIfInBounds b o')[j]? := fun j hj => by
    by_cases e : j = b
    · subst e; rw [hb', Array.getElem?_setIfInBounds_self_of_lt hlt]
    · rw [kp.block j hj (by simpa using e), Array.getElem?_setIfInBounds_ne (Ne.symm e)]
  refine ⟨fun j o'' hj => ?_, fun j o'' hj => ?_, h1.nodup, h1.apart, ?_, h1.may⟩
  · rw [heap j (lt_of_some (h.imm _ _ hj))]; exact h1.imm _ _ hj
  · have := h1.own _ _ hj;have h2 := lt_of_some this;simp at h2;rw [heap j h2]; exact this
  · refine ⟨kp.os.trans h.keep.os, kp.tape.trans h.keep.tape, kp.output.trans h.keep.output, Nat.le_trans h.keep.size kp.size, fun j hj hS => ?_, fun a ha => (kp.fz a (Nat.lt_of_lt_of_le ha h.keep.size)).trans (h.keep.fz a ha)⟩;have := h1.keep.block j hj hS;rw [heap j (Nat.lt_of_lt_of_le hj h.keep.size)]; exact this
def Idle (P : Program) (f : FuncId) (vals : List Value) (w : World) : Prop := CallsD P f vals.toArray .returning w fun e u' w' => (∃ v, e = .returned v) ∧ u' = .returning ∧ Keep [] w w'
def uw (P : Program) (f : FuncId) (vals : List Value) (v : Value) (b : Nat) (o' : Obj) (w : World) : Prop :=
  CallsD P f vals.toArray (.panicking [{ v, recovered := false }]) w fun e u' w' => (∃ v, e = .returned v) ∧ u' = .panicking [{ v, recovered := true }] ∧ Keep [b] w w' ∧ w'.heap[b]? = some o'
theorem CallsD.mono {f : FuncId} {args : Array Value} {u : FrameMode} {w : World} {R R' : Ending → FrameMode → World → Prop} (h : CallsD P f args u w R) (hr : ∀ e u w, R e u w → R' e u w) : CallsD P f args u w R' :=
  fun c cs hc => let ⟨e, u', w', fr, r, rest⟩ := h c cs hc; ⟨e, u', w', fr, hr _ _ _ r, rest⟩
theorem Inv.one {w : World} {b : Nat} {o : Obj} (h : w.heap[b]? = some o) : Inv (fun _ => none) [(b, o)] [b] w w :=
  ⟨fun _ _ h => (by cases h), fun b' o' hm => by simp at hm; obtain ⟨rfl, rfl⟩ := hm; exact h, by simp, fun _ _ _ => rfl, Keep.refl _ _, fun b' o' hm => by simp at hm; exact .inl (by simp [hm.1])⟩
def Imm.one (b : Nat) (o : Obj) : Imm := fun b' => if b' = b then some o else none
theorem Holds.one {w : World} {b : Nat} {o : Obj} (h : w.heap[b]? = some o) : Holds (Imm.one b o) w := fun b' o' hb => by
  unfold Imm.one at hb;split at hb
  · rename_i e; subst e; cases hb; exact h
  · cases hb
theorem WL.freeze {l : List Oper} {b : Nat} {o : Obj} (h : D b = none → WL P x ops fr (D.add b o) hp l Q) : WL P x ops fr D ((b, o) :: hp) l Q :=
  fun a w hA => h (hA.i.apart _ _ List.mem_cons_self) a w ⟨hA.f, hA.i.freeze⟩
theorem WC.freeze {c : Code} {b : Nat} {o : Obj} (h : D b = none → WC P x fr (D.add b o) hp c Q) : WC P x fr D ((b, o) :: hp) c Q :=
  fun a w hA => h (hA.i.apart _ _ List.mem_cons_self) a w ⟨hA.f, hA.i.freeze⟩
theorem Inv.shrink {D' : Imm} {S : List Nat} {w0 w : World} (h : Inv D' hp S w0 w) (hd : ∀ b o, D b = some o → D' b = some o) : Inv D hp S w0 w :=
  ⟨fun b o hb => h.imm b o (hd b o hb), h.own, h.nodup, fun b o hb => by
    cases e : D b with
    | none => rfl
    | some o' => (have := hd b o' e; rw [h.apart b o hb] at this; cases this), h.keep, h.may⟩
def zds (w0 : World) (D : Imm) (hp : Hp) (φ : Value → Imm → Prop) (v : Value) (D' : Imm) (hp' : Hp) : Prop := DExt w0 D D' ∧ φ v D' ∧ hp' = hp
def y6 (P : Program) (f : FuncId) (vals : List Value) (w : World) (D : Imm) (φ : Value → Imm → Prop) : Prop :=
  Calls P f vals.toArray w fun e w' => ∃ v D', e = .returned v ∧ Keep [] w w' ∧ Holds D' w' ∧ DExt w D D' ∧ φ v D'
theorem SO.makes {c : Call} {f : FuncId} {vals : List Value} {φ : Value → Imm → Prop} (he : Enters P x fr D hp c ty f vals) (hk : ∀ w, Inv D hp x.S x.w0 w → y6 P f vals w D φ) : SO P x fr D hp (.call c) ty Q (zds x.w0 D hp φ) := fun a w dst pos af g next hA hn => by
  unfold Oper.wp;rw [he a w dst pos af g hA.f hA.i, Oper.upon_enter];refine (hk w hA.i).mono fun e w' ⟨v, D', h, hkp, hH, hD, hφ⟩ => ?_;rw [h];exact hn _ _ _ _ ⟨⟨hD.old, fun b hb => hD.new b (Nat.lt_of_lt_of_le hb hA.i.keep.size)⟩, hφ, rfl⟩ (hA.i.grow hkp hH hD)
theorem y6.mono {f : FuncId} {vals : List Value} {w : World} {φ ψ : Value → Imm → Prop} (h : y6 P f vals w D φ) (hp : ∀ v D', DExt w D D' → φ v D' → ψ v D') : y6 P f vals w D ψ :=
  Calls.mono h fun _ _ ⟨v, D', he, hk, hH, hD, hφ⟩ => ⟨v, D', he, hk, hH, hD, hp v D' hD hφ⟩
def xr (fn : Func) : List Nat := fn.results.toList.map fun | .tmp t => t | .cell t _ => t
theorem j7 {fn : Func} {tmps : Array Value} {d : Nat} {v : Value} (h : d ∉ xr fn) : results fn (tmps.setIfInBounds d v) = results fn tmps := by
  unfold results
  have : (fn.results.mapM fun (r : ResultVar) => match r with | .tmp t => (pure ((tmps.setIfInBounds d v).getD t undef) : Sem Value) | .cell a t => do loadVar t (← asAddr ((tmps.setIfInBounds d v).getD a undef))) =
      (fn.results.mapM fun (r : ResultVar) => match r with | .tmp t => (pure (tmps.getD t undef) : Sem Value) | .cell a t => do loadVar t (← asAddr (tmps.getD a undef))) := by
    have key : ∀ (l : List ResultVar), (∀ r ∈ l, d ≠ (match r with | .tmp t => t | .cell t _ => t)) → (l.mapM fun (r : ResultVar) => match r with | .tmp t => (pure ((tmps.setIfInBounds d v).getD t undef) : Sem Value) | .cell a t => do loadVar t (← asAddr ((tmps.setIfInBounds d v).getD a undef))) =
      (l.mapM fun (r : ResultVar) => match r with | .tmp t => (pure (tmps.getD t undef) : Sem Value) | .cell a t => do loadVar t (← asAddr (tmps.getD a undef))) := by
      intro l
      induction l with
      | nil => intro _; rfl
      | cons r l ih =>
        intro hl;have h1 := hl r List.mem_cons_self;rw [List.mapM_cons, List.mapM_cons, ih (fun r' hr' => hl r' (List.mem_cons_of_mem _ hr'))];cases r with
        | tmp t => simp only at h1; simp [Array.getElem?_setIfInBounds_ne h1]
        | cell t e => simp only at h1; simp [Array.getElem?_setIfInBounds_ne h1]
    have h2 := key fn.results.toList (fun r hr e => h (List.mem_map.2 ⟨r, hr, by cases r <;> exact e.symm⟩));have h3 : ∀ (f : ResultVar → Sem Value), fn.results.mapM f = (fn.results.toList.toArray).mapM f := fun f => by simp
    rw [h3, h3, List.mapM_toArray, List.mapM_toArray, h2]
  exact congrArg (fun (s : Sem (Array Value)) => do let vs ← s; pure (if h : vs.size = 1 then vs[0] else .tuple vs)) this
theorem uF {fn : Func} {R : Ending → World → Prop} {tmps : Array Value} {d : Nat} {v : Value} (h : d ∉ xr fn) : ∀ (ds : List Deferred) (u : FrameMode) (w : World), Leaves P fn (tmps.setIfInBounds d v) R ds u w → Leaves P fn tmps R ds u w := by
  intro ds
  induction ds with
  | nil =>
    intro u w hl;cases u with
    | run => exact hl
    | returning => obtain ⟨r, h1, h2⟩ := hl; exact ⟨r, by rw [j7 h] at h1; exact h1, h2⟩
    | panicking c => exact hl
  | cons e ds ih =>
    intro u w ⟨h1, fv, cap, f, args, h2, h3, h4⟩;refine ⟨h1, fv, cap, f, args, h2, h3, h4.mono fun e u w hh => ?_⟩;cases e with
    | returned r => exact ih _ _ hh
    | panicked c => exact ih _ _ hh
    | outgrown => exact hh
def zN (ops : Array Oper) (Q : Exit → Act → World → Prop) : Prop := ∀ (i : Nat) (o : Oper) v c a w, ops[i]? = some o → Q (.panic c) (Act.put a o.dst v) w → Q (.panic c) a w
theorem zN.then {K : Act → World → Prop} (h : zN ops Q) : zN ops (Exit.then K Q) := fun i o v c a w ho hq => h i o v c a w ho hq
theorem zN.blk {id : Nat} (h : zN ops Q) : zN ops (Exit.inBlock id Q) := fun i o v c a w ho hq => h i o v c a w ho hq
def offB (ops : Array Oper) (fn : Func) : Bool := ops.toList.all fun o => match o.dst with | some d => !(xr fn).contains d | none => true
theorem zN.bodyD {fn : Func} {R : Ending → World → Prop} (h : offB ops fn = true) : zN ops (bodyPostD P fn R) := fun i o v c a w ho hq => by
  have hm : o ∈ ops.toList := by
    have := Array.mem_of_getElem? ho;exact Array.mem_toList_iff.2 this
  have h1 := List.all_eq_true.1 h o hm;cases hd : o.dst with
  | none => rw [hd] at hq; exact hq
  | some d =>
    rw [hd] at h1 hq;have hn : d ∉ xr fn := by simpa using h1
    exact uF hn _ _ _ hq
theorem WC.drawD {id : Nat} {l : List Oper} (hp0 : Hp) (plan : List (Nat × Bool)) (hm : P.follows .mixedOrders = true) 
    (hB : (Region.noSelect l.toArray && decide (plan.length = l.toArray.size) && ui .any l.toArray plan (Array.replicate l.toArray.size false)) = true) (hQ : zN l.toArray Q)
    (h0 : ∀ w, Inv D hp x.S x.w0 w → Inv D hp0 x.S x.w0 w)
    (h : WA P x l.toArray D hp0 plan fr D hp Q) : WC P x fr D hp (.region id l.toArray true) Q := fun a w hA =>
  vJ plan hm hB hQ (h0 _ (hA.i.drew _)) (h _ _ ⟨hA.f, hA.i.drew _⟩)
theorem Inv.left {l1 l2 : Hp} {S : List Nat} {w0 w : World} (h : Inv D (l1 ++ l2) S w0 w) : Inv D l1 S w0 w :=
  h.sub (fun _ he => List.mem_append_left _ he) (by have := h.nodup; rw [List.map_append] at this; exact (List.nodup_append.1 this).1)
theorem Inv.freezeK {S : List Nat} {w0 w : World} (k : Nat) {b : Nat} {o : Obj} (hk : hp[k]? = some (b, o)) (h : Inv D hp S w0 w) : D b = none ∧ Inv (D.add b o) (hp.eraseIdx k) S w0 w := by
  have hm := mem_of_get? hk;have hn := h.apart _ _ hm;have hsub : ∀ e, e ∈ hp.eraseIdx k → e ∈ hp := fun e he => List.mem_of_mem_eraseIdx he
  have hnd : ((hp.eraseIdx k).map Prod.fst).Nodup := by
    refine List.Nodup.sublist ?_ h.nodup;exact List.Sublist.map _ (List.eraseIdx_sublist _ _)
  have hkl : k < hp.length := (List.getElem?_eq_some_iff.1 hk).1
  have hne : ∀ b' o', (b', o') ∈ hp.eraseIdx k → b' ≠ b := fun b' o' he e => by
    subst e;obtain ⟨i, hi⟩ := List.mem_iff_getElem?.1 he;rw [List.getElem?_eraseIdx] at hi;have h2 : (hp.map Prod.fst)[k]? = some b' := by simp [hk]
    split at hi
    · have h1 : (hp.map Prod.fst)[i]? = some b' := by simp [hi]
      have := (List.getElem?_inj (by simpa using (by omega : i < hp.length)) h.nodup).1 (h1.trans h2.symm);omega
    · have h1 : (hp.map Prod.fst)[i + 1]? = some b' := by simp [hi]
      have hil : i + 1 < hp.length := (List.getElem?_eq_some_iff.1 hi).1;have := (List.getElem?_inj (by simpa using hil) h.nodup).1 (h1.trans h2.symm);omega
  have h1 := h.sub hsub hnd;refine ⟨hn, fun b' o' hb' => ?_, h1.own, hnd, fun b' o' he => ?_, h.keep, h1.may⟩
  · unfold Imm.add at hb';split at hb'
    · rename_i e; subst e; cases hb'; exact h.own _ _ hm
    · exact h.imm _ _ hb'
  · unfold Imm.add;rw [if_neg (hne b' o' he)];exact h1.apart _ _ he
theorem WL.freezeK {l : List Oper} (k : Nat) {b : Nat} {o : Obj} (hk : hp[k]? = some (b, o)) (h : D b = none → WL P x ops fr (D.add b o) (hp.eraseIdx k) l Q) : WL P x ops fr D hp l Q :=
  fun a w hA => h (hA.i.freezeK k hk).1 a w ⟨hA.f, (hA.i.freezeK k hk).2⟩
theorem WC.freezeK {c : Code} (k : Nat) {b : Nat} {o : Obj} (hk : hp[k]? = some (b, o)) (h : D b = none → WC P x fr (D.add b o) (hp.eraseIdx k) c Q) : WC P x fr D hp c Q :=
  fun a w hA => h (hA.i.freezeK k hk).1 a w ⟨hA.f, (hA.i.freezeK k hk).2⟩
end
end Go.W
namespace Go.W
abbrev keys (hp : Hp) : List Nat := hp.map Prod.fst
theorem qN {hp : Hp} {b : Nat} {o : Obj} (h : (b, o) ∈ hp) : b ∈ keys hp := List.mem_map.2 ⟨_, h, rfl⟩
theorem yQ {hp : Hp} {b : Nat} (h : b ∈ keys hp) : ∃ o, (b, o) ∈ hp := by
  obtain ⟨⟨b', o⟩, h1, rfl⟩ := List.mem_map.1 h;exact ⟨o, h1⟩
theorem Inv.frame {D : Imm} {own hpc : Hp} {S S1 : List Nat} {w0 w : World} (h : Inv D (own ++ hpc) S w0 w) (hS : ∀ b, b ∈ keys hpc → b ∈ S1) : Inv D hpc S1 w w :=
  ⟨h.imm, fun b o hb => h.own b o (List.mem_append_right _ hb), by have := h.nodup; rw [List.map_append] at this; exact (List.nodup_append.1 this).2.1,
   fun b o hb => h.apart b o (List.mem_append_right _ hb), Keep.refl _ _, fun b o hb => .inl (hS b (qN hb))⟩
theorem Inv.unframe {D D' : Imm} {own hpc hpc' : Hp} {S0 S1 : List Nat} {w0 w w' : World} (h : Inv D (own ++ hpc) S0 w0 w) (hS : ∀ b, b ∈ S1 → b ∈ keys hpc) (hS' : ∀ b, b ∈ keys hpc' → b ∈ S1) 
    (hD : DExt w D D') (h' : Inv D' hpc' S1 w w') : Inv D' (own ++ hpc') S0 w0 w' := by
  have hnd := h.nodup;rw [List.map_append] at hnd;have hdj := (List.nodup_append.1 hnd).2.2;have hown : ∀ b o, (b, o) ∈ own → b ∉ S1 := fun b o hb hs => hdj b (qN hb) b (hS b hs) rfl;refine ⟨h'.imm, fun b o hb => ?_, ?_, fun b o hb => ?_, ?_, fun b o hb => ?_⟩
  · rcases List.mem_append.1 hb with hb | hb
    · have h1 := h.own b o (List.mem_append_left _ hb);rw [h'.keep.block b (lt_of_some h1) (hown b o hb)]; exact h1
    · exact h'.own b o hb
  · rw [List.map_append];refine List.nodup_append.2 ⟨(List.nodup_append.1 hnd).1, h'.nodup, fun b hb c hc e => ?_⟩;subst e;obtain ⟨o, ho⟩ := yQ hb;exact hown b o ho (hS' b hc)
  · rcases List.mem_append.1 hb with hb | hb
    · have hm := List.mem_append_left hpc hb;exact hD.new b (lt_of_some (h.own b o hm)) (h.apart b o hm)
    · exact h'.apart b o hb
  · refine ⟨h'.keep.os.trans h.keep.os, h'.keep.tape.trans h.keep.tape, h'.keep.output.trans h.keep.output, Nat.le_trans h.keep.size h'.keep.size, fun j hj hjS => ?_, fun a ha => (h'.keep.fz a (Nat.lt_of_lt_of_le ha h.keep.size)).trans (h.keep.fz a ha)⟩;rw [h'.keep.block j (Nat.lt_of_lt_of_le hj h.keep.size) (fun hs => ?_)]
    · exact h.keep.block j hj hjS
    · obtain ⟨o, ho⟩ := yQ (hS j hs);rcases h.may j o (List.mem_append_right _ ho) with h1 | h1
      · exact hjS h1
      · omega
  · rcases List.mem_append.1 hb with hb | hb
    · exact h.may b o (List.mem_append_left _ hb)
    · obtain ⟨o', ho'⟩ := yQ (hS b (hS' b (qN hb)));exact h.may b o' (List.mem_append_right _ ho')
def wP (P : Program) (f : FuncId) (vals : List Value) (w : World) (D : Imm) (S1 : List Nat) (K : Value → Imm → Hp → Prop) : Prop :=
  Calls P f vals.toArray w fun e w' => ∃ v D' hpc', e = .returned v ∧ DExt w D D' ∧ Inv D' hpc' S1 w w' ∧ (∀ b, b ∈ keys hpc' → b ∈ S1) ∧ K v D' hpc'
def AltK (w0 : World) (D : Imm) (own : Hp) (K : Value → Imm → Hp → Prop) (v : Value) (D' : Imm) (hp' : Hp) : Prop := ∃ hpc', DExt w0 D D' ∧ K v D' hpc' ∧ hp' = own ++ hpc'
section
variable {P : Program} {x : Cx} {fr : Fr} {D : Imm} {hp : Hp} {ty : TypeId} {Q : Exit → Act → World → Prop} {ops : Array Oper} {rest : List Oper}
theorem SO.alters {c : Call} {f : FuncId} {vals : List Value} {S1 : List Nat} {K : Value → Imm → Hp → Prop} (own hpc : Hp) (hhp : ∀ e, e ∈ own ++ hpc → e ∈ hp) (hnd : (keys hp).Nodup → (keys (own ++ hpc)).Nodup) 
    (hS : ∀ b, b ∈ S1 → b ∈ keys hpc) (hS' : ∀ b, b ∈ keys hpc → b ∈ S1) (he : Enters P x fr D hp c ty f vals)
    (hk : ∀ w, Inv D hpc S1 w w → wP P f vals w D S1 K) : SO P x fr D hp (.call c) ty Q (AltK x.w0 D own K) := fun a w dst pos af g next hA hn => by
  unfold Oper.wp;rw [he a w dst pos af g hA.f hA.i, Oper.upon_enter];have hI := hA.i.sub hhp (hnd hA.i.nodup);refine (hk w (hI.frame hS')).mono fun e w' ⟨v, D', hpc', h, hD, hI', hS2, hK⟩ => ?_;rw [h];exact hn _ _ _ _ ⟨hpc', ⟨hD.old, fun b hb => hD.new b (Nat.lt_of_lt_of_le hb hA.i.keep.size)⟩, hK, rfl⟩ (hI.unframe hS hS2 hD hI')
def zdF (D : Imm) (hp : Hp) (es : Array MapEntry) (key z : Value) (v : Value) (D' : Imm) (hp' : Hp) : Prop :=
  D = D' ∧ hp' = hp ∧ ((v = .tuple #[z, .bool false]) ∨ ∃ e ∈ es.toList, e.key = key ∧ v = .tuple #[e.val, .bool true])
theorem SO.lookup {t k e : TypeId} {m i : Operand} {b j clock : Nat} {es : Array MapEntry} {key z : Value} {kl : Lit} (L : WideMaps.KeyLaw P k) (hu : P.underlying t = some (.map k e)) (hz : ∀ w, (zeroValue e).run P w = .ok z w) 
    (hm : opv fr m = some (.map (some b))) (hi : opv fr i = some key) (hj : hp[j]? = some (b, .map es clock)) (hk : keyOf P k key = some kl) (hes : ∀ e ∈ es.toList, ∃ l, keyOf P k e.key = some l) :
    SO P x fr D hp (.lookup t m i true) ty Q (zdF D hp es key z) := fun a w dst pos af g next hA hn => by
  have hb := hA.i.own _ _ (mem_of_get? hj);have hobj : (getObj b).run P w = .ok (.map es clock) w := by simp [getObj, Sem.run, hb]
  unfold Oper.wp;rcases L.find w hk es.toList hes with ⟨h1, _⟩ | ⟨q, e0, h1, h2, h3⟩
  · have : (Instr.lookup t (.map (some b)) key true).run P w = .ok (.tuple #[z, .bool false]) w := by
      simp [Instr.lookup, run_underlying hu, hobj, L.check w _ hk, h1, hz]
    simp only [execOp, hA.f.eval hm, hA.f.eval hi];simp only [this, Sem.run_bind, Result.andThen_ok, Sem.run_pure, Sem.run_map, Oper.upon_value];exact hn _ _ _ _ ⟨rfl, rfl, .inl rfl⟩ hA.i
  · have : (Instr.lookup t (.map (some b)) key true).run P w = .ok (.tuple #[e0.val, .bool true]) w := by
      simp [Instr.lookup, run_underlying hu, hobj, L.check w _ hk, h1]
    simp only [execOp, hA.f.eval hm, hA.f.eval hi];simp only [this, Sem.run_bind, Result.andThen_ok, Sem.run_pure, Sem.run_map, Oper.upon_value];exact hn _ _ _ _ ⟨rfl, rfl, .inr ⟨e0, List.mem_of_getElem? h2, h3, rfl⟩⟩ hA.i
def PutK (D : Imm) (hp : Hp) (j b : Nat) (es : Array MapEntry) (key val : Value) (_ : Value) (D' : Imm) (hp' : Hp) : Prop :=
  D = D' ∧ ∃ es' clock', hp' = hp.set j (b, .map es' clock') ∧ ∀ e ∈ es'.toList, (e.key = key ∧ e.val = val) ∨ e ∈ es.toList
theorem SO.mapUpdate {t k e : TypeId} {m i o : Operand} {b j clock : Nat} {es : Array MapEntry} {key val : Value} {kl : Lit} (L : WideMaps.KeyLaw P k) (hu : P.underlying t = some (.map k e)) 
    (hm : opv fr m = some (.map (some b))) (hi : opv fr i = some key) (ho : opv fr o = some val) (hj : hp[j]? = some (b, .map es clock)) (hk : keyOf P k key = some kl) (hes : ∀ e ∈ es.toList, ∃ l, keyOf P k e.key = some l) :
    SO P x fr D hp (.mapUpdate t m i o) ty Q (PutK D hp j b es key val) := fun a w dst pos af g next hA hn => by
  have hb := hA.i.own _ _ (mem_of_get? hj);have hobj : (getObj b).run P w = .ok (.map es clock) w := by simp [getObj, Sem.run, hb]
  have hset : ∀ o', (setObj b o').run P w = .ok () { w with heap := w.heap.setIfInBounds b o' } := fun o' => by simp [setObj, Sem.run, hb]
  unfold Oper.wp;rcases L.find w hk es.toList hes with ⟨h1, _⟩ | ⟨q, e0, h1, h2, h3⟩
  · have : (Instr.mapUpdate t (.map (some b)) key val).run P w = .ok () { w with heap := w.heap.setIfInBounds b (.map (es.push { key, val, born := clock }) (clock + 1)) } := by
      simp [Instr.mapUpdate, run_underlying hu, hobj, L.check w _ hk, h1, hset]
    simp only [execOp, hA.f.eval hm, hA.f.eval hi, hA.f.eval ho];simp only [this, Sem.run_bind, Result.andThen_ok, Sem.run_pure, Sem.run_map, Oper.upon_value, Oper.upon_skip];refine hn _ _ _ _ ⟨rfl, _, _, rfl, fun e he => ?_⟩ (hA.i.set hj _);simp only [Array.toList_push, List.mem_append, List.mem_singleton] at he;rcases he with he | rfl
    · exact .inr he
    · exact .inl ⟨rfl, rfl⟩
  · have hq : es[q]? = some e0 := by simpa using h2
    have : (Instr.mapUpdate t (.map (some b)) key val).run P w = .ok () { w with heap := w.heap.setIfInBounds b (.map (es.modify q fun e => { e with key, val := val }) clock) } := by
      simp [Instr.mapUpdate, run_underlying hu, hobj, L.check w _ hk, h1, hq, h3, L.stays w hk, hset]
    simp only [execOp, hA.f.eval hm, hA.f.eval hi, hA.f.eval ho];simp only [this, Sem.run_bind, Result.andThen_ok, Sem.run_pure, Sem.run_map, Oper.upon_value, Oper.upon_skip];refine hn _ _ _ _ ⟨rfl, _, _, rfl, fun e he => ?_⟩ (hA.i.set hj _);rw [Array.toList_modify] at he;obtain ⟨r, hr⟩ := List.mem_iff_getElem?.1 he;rw [List.getElem?_modify] at hr;by_cases hrq : q = r
    · subst hrq;rw [h2] at hr;simp at hr;subst hr;exact .inl ⟨rfl, rfl⟩
    · simp only [if_neg hrq] at hr;simp only [Option.map_eq_map, Option.map_id'] at hr;exact .inr (List.mem_of_getElem? hr)
def zdG (x : Cx) (D : Imm) (hp : Hp) (v : Value) (D' : Imm) (hp' : Hp) : Prop := ∃ b, x.w0.heap.size ≤ b ∧ v = .map (some b) ∧ D = D' ∧ hp' = (b, .map #[] 0) :: hp
theorem SO.makeMap {t : TypeId} : SO P x fr D hp (.makeMap t none) ty Q (zdG x D hp) := fun a w dst pos af g next hA hn => by
  unfold Oper.wp
  have : (execOp a.eval ⟨dst, .makeMap t none, ty, pos, af, g⟩).run P w = .ok (.value (.map (some w.heap.size))) { w with heap := w.heap.push (.map #[] 0) } := by
    simp [execOp, Instr.makeMap, run_newObj]
  rw [this, Oper.upon_value];exact hn _ _ _ _ ⟨_, hA.i.keep.size, rfl, rfl, rfl⟩ (hA.i.new _)
def WH (P : Program) (x : Cx) (ops : Array Oper) (D0 : Imm) (hp0 : Hp) (n : Nat) (listed : Array Bool) (fr : Fr) (D : Imm) (hp : Hp) (Q : Exit → Act → World → Prop) : Prop :=
  ∀ a w, At x fr D hp a w → Inv D0 hp0 x.S x.w0 w → wpAnyH P .any ops Q (Inv D0 hp0 x.S x.w0) n listed a w
def WHo (P : Program) (x : Cx) (ops : Array Oper) (D0 : Imm) (hp0 : Hp) (n : Nat) (listed : Array Bool) (fr : Fr) (D : Imm) (hp : Hp) (Q : Exit → Act → World → Prop) (i : Nat) : Prop :=
  ∀ a w, At x fr D hp a w → Inv D0 hp0 x.S x.w0 w → wpOp P ops Q i (fun a' w' => Inv D0 hp0 x.S x.w0 w' ∧ wpAnyH P .any ops Q (Inv D0 hp0 x.S x.w0) n (listed.setIfInBounds i true) a' w') a w
variable {D0 : Imm} {hp0 : Hp} {n i j : Nat} {listed : Array Bool} {d : Tmp} {dst : Option Tmp} {op : Op} {pos : String} {af : Array Edge}
theorem WH.nil (hr : (Region.ready .any ops listed).isEmpty = true) (h : WP x fr D hp .normal Q) : WH P x ops D0 hp0 n listed fr D hp Q := fun a w hA _ => wpAnyH_done (by simpa using hr) (h a w hA) n
theorem WH.yd {v : Value} (hc : ((Region.ready .any ops listed).contains i && Region.free .any ops listed i && Region.noSelect ops) = true) (hQ : zN ops Q) (ho : ops[i]? = some ⟨some d, op, ty, pos, af, none⟩) 
    (hy : Yd P x fr D0 hp0 op ty v) (hd : Nat.blt d x.n = true) (h : WH P x ops D0 hp0 n (listed.setIfInBounds i true) ((d, v) :: fr) D hp Q) : WH P x ops D0 hp0 (n + 1) listed fr D hp Q := fun a w hA hI => by
  simp only [Bool.and_eq_true] at hc;exact wpAnyH_take ho hc.2 hc.1.2 hc.1.1 (fun c a w => hQ i _ v c a w ho) (.inl ⟨rfl, fun w' hw' => hy a w' _ _ _ _ hA.f hw'⟩) hI (h _ _ ⟨hA.f.put hd v, hA.i⟩ hI)
theorem WH.one (hr : decide (Region.ready .any ops listed = [i]) = true) (h : WHo P x ops D0 hp0 n listed fr D hp Q i) : WH P x ops D0 hp0 (n + 1) listed fr D hp Q := fun a w hA hI =>
  wpAnyH_all (of_decide_eq_true hr) (by simp) fun j hj => by
    have : j = i := by simpa using hj
    subst this;exact h a w hA hI
theorem WH.two (hr : decide (Region.ready .any ops listed = [i, j]) = true) (h1 : WHo P x ops D0 hp0 n listed fr D hp Q i) (h2 : WHo P x ops D0 hp0 n listed fr D hp Q j) : WH P x ops D0 hp0 (n + 1) listed fr D hp Q := fun a w hA hI =>
  wpAnyH_all (of_decide_eq_true hr) (by simp) fun k hk => by
    simp only [List.mem_cons, List.mem_nil_iff, or_false] at hk;rcases hk with rfl | rfl
    · exact h1 a w hA hI
    · exact h2 a w hA hI
theorem WHo.so {K : Value → Imm → Hp → Prop} (ho : ops[i]? = some ⟨dst, op, ty, pos, af, none⟩) (hs : SO P x fr D hp op ty Q K) (hd : dstB dst x.n = true) 
    (h : ∀ v D' hp', K v D' hp' → (∀ w, Inv D' hp' x.S x.w0 w → Inv D0 hp0 x.S x.w0 w) ∧ WH P x ops D0 hp0 n (listed.setIfInBounds i true) (wj dst v fr) D' hp' Q) : WHo P x ops D0 hp0 n listed fr D hp Q i := fun a w hA _ => by
  unfold wpOp;simp only [ho];rw [if_pos (show Region.wanted ⟨dst, op, ty, pos, af, none⟩ (yielded ops a.tmps) = true from rfl)];exact .inl (hs a w _ _ _ _ _ hA fun v D' hp' w' hk hi => ⟨(h v D' hp' hk).1 _ hi, (h v D' hp' hk).2 _ _ ⟨hA.f.putO hd v, hi⟩ ((h v D' hp' hk).1 _ hi)⟩)
theorem WC.drawH {id : Nat} {l : List Oper} (hp0 : Hp) (hm : P.follows .mixedOrders = true) (h0 : ∀ w, Inv D hp x.S x.w0 w → Inv D hp0 x.S x.w0 w) 
    (h : WH P x l.toArray D hp0 l.length (List.replicate l.length false).toArray fr D hp Q) : WC P x fr D hp (.region id l.toArray true) Q := fun a w hA => by
  refine wp_region_held (S := Inv D hp0 x.S x.w0) hm ?_;have := h _ _ ⟨hA.f, hA.i.drew (w.drawn + 1)⟩ (h0 _ (hA.i.drew _));have e : (Array.replicate l.toArray.size false) = (List.replicate l.length false).toArray := by simp
  rw [e];exact this
end
end Go.W
namespace Go.W
theorem zq : (∀ (p : Prop) [Decidable p], (decide p = true) = p) ∧ (∀ (p : Prop) [Decidable p], (decide p = false) = ¬ p) ∧ (∀ b : Bool, ((!b) = true) = (b = false)) ∧ (∀ b : Bool, ((!b) = false) = (b = true)) ∧ (∀ a b : Int, (¬ (a < b)) = (b ≤ a)) ∧ (∀ a b : Int, (¬ (a ≤ b)) = (b < a)) ∧ ((!true) = false) ∧ ((!false) = true) :=
  ⟨fun _ _ => decide_eq_true_eq, fun _ _ => propext decide_eq_false_iff_not, fun b => Bool.not_eq_true' b, fun b => Bool.not_eq_false' b, fun _ _ => propext Int.not_lt, fun _ _ => propext Int.not_le, rfl, rfl⟩
theorem zqb {a b : Nat} (h : Nat.ble a b = true) : a ≤ b := Nat.le_of_ble_eq_true h
end Go.W
