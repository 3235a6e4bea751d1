import Derived.Test.YtejgofaeafphjaaGreatDoorXG0
import Derived.Maps.Keyed
import Derived.LoopNIn
import Derived.Lib.Strings
import Derived.Below
import Derived.Sort.Grow
import Derived.Deep.Draws
import Derived.StringKeys
import Derived.Lib.TrailingZeros
set_option linter.unusedSimpArgs false
set_option linter.unusedVariables false
set_option linter.all false
set_option maxRecDepth 100000
set_option maxHeartbeats 4000000
namespace Go.W
section
variable {P : Program} {x : Cx} {ops : Array Oper} {fr : Fr} {D : Imm} {hp : Hp} {Q : Exit → Act → World → Prop} {D0 : Imm} {hp0 : Hp} {n i j k : Nat} {listed : Array Bool}
theorem WP.againS {D1 : Imm} {hp' : Hp} {α : Type} {F : α → Fr} {φ : α → Prop} {m : α → Nat} {k : Nat} (z : α) (hz : φ z) (hm : m z < k) (hf : subB (F z) fr) (hs : ∀ e, e ∈ hp' → e ∈ hp) (hn : (hp.map Prod.fst).Nodup → (hp'.map Prod.fst).Nodup) (hD : ∀ b o, D b = some o → D1 b = some o) :
    WP x fr D1 hp .normal (Exit.then (fun a w => ∃ z, φ z ∧ m z < k ∧ At x (F z) D hp' a w) Q) :=
  fun _ _ h => ⟨z, hz, hm, at_less ⟨h.f, h.i.shrink hD⟩ hf hs hn⟩
end
end Go.W
namespace Go.W
section
variable {α : Type} [DecidableEq α] {kv : α → Value}
structure MapB (kv : α → Value) (es : Array MapEntry) (clock : Nat) (F : α → Bool) : Prop where
  ent : ∀ e ∈ es.toList, ∃ x, e.key = kv x ∧ e.val = .bool true ∧ F x = true
  all : ∀ x, F x = true → ∃ e ∈ es.toList, e.key = kv x
theorem MapB.empty (kv : α → Value) : MapB kv #[] 0 (fun _ => false) := ⟨fun e he => (by simp at he), fun x h => (by cases h)⟩
variable {P : Program} {x : Cx} {fr : Fr} {D : Imm} {hp : Hp} {ty : TypeId} {Q : Exit → Act → World → Prop} {t k e : TypeId} {es : Array MapEntry} {clock b j : Nat} {F : α → Bool}
theorem findB_of (hinj : ∀ x y, kv x = kv y → x = y) (L : Go.Maps.Keyed P k) (hkey : ∀ y, ∃ l, keyOf P k (kv y) = some l) (hM : MapB kv es clock F) (y : α) (w : World) :
    ((Instr.findKey k (kv y) es.toList).run P w = .ok none w ∧ F y = false) ∨ ∃ q e0, (Instr.findKey k (kv y) es.toList).run P w = .ok (some (q, .bool true)) w ∧ es.toList[q]? = some e0 ∧ e0.key = kv y ∧ e0.val = .bool true ∧ F y = true := by
  obtain ⟨l, hl⟩ := hkey y
  rcases L.find w hl es.toList (fun e he => by obtain ⟨z, hz, _⟩ := hM.ent e he; rw [hz]; exact hkey z) with ⟨h1, h2⟩ | ⟨q, e0, h1, h2, h3⟩
  · refine .inl ⟨h1, ?_⟩
    cases hF : F y with
    | false => rfl
    | true => obtain ⟨e, he, hek⟩ := hM.all y hF; exact absurd hek (h2 e he)
  · obtain ⟨z, g1, g2, g3⟩ := hM.ent e0 (List.mem_of_getElem? h2)
    have : z = y := hinj z y (by rw [← g1, h3])
    subst this
    exact .inr ⟨q, e0, by rw [h1, g2], h2, h3, g2, g3⟩
theorem Yd.lookB {m i : Operand} (hinj : ∀ x y, kv x = kv y → x = y) (L : Go.Maps.Keyed P k) (hkey : ∀ y, ∃ l, keyOf P k (kv y) = some l) (hu : P.underlying t = some (.map k e)) (hz : ∀ w, (zeroValue e).run P w = .ok (.bool false) w)
    (hm : opv fr m = some (.map (some b))) {y : α} (hi : opv fr i = some (kv y)) (hj : hp[j]? = some (b, .map es clock)) (hM : MapB kv es clock F) : Yd P x fr D hp (.lookup t m i false) ty (.bool (F y)) := fun a w _ _ _ _ hA hI => by
  have hb := hI.own _ _ (mem_of_get? hj)
  have hobj : (getObj b).run P w = .ok (.map es clock) w := by simp [getObj, Sem.run, hb]
  obtain ⟨l, hl⟩ := hkey y
  rcases findB_of hinj L hkey hM y w with ⟨h1, h3⟩ | ⟨q, e0, h1, _, _, _, h5⟩
  · have : (Instr.lookup t (.map (some b)) (kv y) false).run P w = .ok (.bool false) w := by
      simp [Instr.lookup, run_underlying hu, hobj, L.check w _ hl, h1, hz]
    simp only [execOp, hA.eval hm, hA.eval hi, h3]
    simp [this]
  · have : (Instr.lookup t (.map (some b)) (kv y) false).run P w = .ok (.bool true) w := by
      simp [Instr.lookup, run_underlying hu, hobj, L.check w _ hl, h1]
    simp only [execOp, hA.eval hm, hA.eval hi, h5]
    simp [this]
def PutBK (kv : α → Value) (D : Imm) (hp : Hp) (j b : Nat) (F : α → Bool) (y : α) (_ : Value) (D' : Imm) (hp' : Hp) : Prop :=
  D = D' ∧ ∃ es1 clock1, hp' = hp.set j (b, .map es1 clock1) ∧ MapB kv es1 clock1 (fun z => F z || decide (z = y))
theorem SO.putB {m i o : Operand} (hinj : ∀ x y, kv x = kv y → x = y) (L : Go.Maps.Keyed P k) (hkey : ∀ y, ∃ l, keyOf P k (kv y) = some l) (hu : P.underlying t = some (.map k e))
    (hm : opv fr m = some (.map (some b))) {y : α} (hi : opv fr i = some (kv y)) (ho : opv fr o = some (.bool true)) (hj : hp[j]? = some (b, .map es clock)) (hM : MapB kv es clock F) : SO P x fr D hp (.mapUpdate t m i o) ty Q (PutBK kv D hp j b F y) := fun a w dst pos af g next hA hn => by
  have hb := hA.i.own _ _ (mem_of_get? hj)
  have hobj : (getObj b).run P w = .ok (.map es clock) w := by simp [getObj, Sem.run, hb]
  have hset : ∀ o', (setObj b o').run P w = .ok () { w with heap := w.heap.setIfInBounds b o' } := fun o' => by simp [setObj, Sem.run, hb]
  obtain ⟨l, hl⟩ := hkey y
  unfold Oper.wp
  rcases findB_of hinj L hkey hM y w with ⟨h1, h3⟩ | ⟨q, e0, h1, h2, h3, h4, h5⟩
  · have : (Instr.mapUpdate t (.map (some b)) (kv y) (.bool true)).run P w = .ok () { w with heap := w.heap.setIfInBounds b (.map (es.push { key := kv y, val := .bool true, born := clock }) (clock + 1)) } := by
      simp [Instr.mapUpdate, run_underlying hu, hobj, L.check w _ hl, h1, hset]
    simp only [execOp, hA.f.eval hm, hA.f.eval hi, hA.f.eval ho]
    simp only [this, Sem.run_bind, Result.andThen_ok, Sem.run_pure, Sem.run_map, Oper.upon_value, Oper.upon_skip]
    refine hn _ _ _ _ ⟨rfl, _, _, rfl, ⟨fun e he => ?_, fun z hz => ?_⟩⟩ (hA.i.set hj _)
    · simp only [Array.toList_push, List.mem_append, List.mem_singleton] at he
      rcases he with he | rfl
      · obtain ⟨z, g1, g2, g3⟩ := hM.ent e he
        exact ⟨z, g1, g2, by rw [g3]; rfl⟩
      · exact ⟨y, rfl, rfl, by simp⟩
    · simp only [Array.toList_push, List.mem_append, List.mem_singleton]
      rcases Bool.or_eq_true .. |>.mp hz with hz | hz
      · obtain ⟨e, he, hk⟩ := hM.all z hz
        exact ⟨e, .inl he, hk⟩
      · exact ⟨_, .inr rfl, by rw [of_decide_eq_true hz]⟩
  · have hq : es[q]? = some e0 := by simpa using h2
    have hmod : es.modify q (fun e => { e with key := kv y, val := .bool true }) = es := by
      apply Array.ext'
      rw [Array.toList_modify]
      apply List.ext_getElem?
      intro r
      rw [List.getElem?_modify]
      by_cases hr : q = r
      · subst hr; rw [h2]; simp [← h3, ← h4]
      · simp [hr]
    have : (Instr.mapUpdate t (.map (some b)) (kv y) (.bool true)).run P w = .ok () { w with heap := w.heap.setIfInBounds b (.map (es.modify q fun e => { e with key := kv y, val := .bool true }) clock) } := by
      simp [Instr.mapUpdate, run_underlying hu, hobj, L.check w _ hl, h1, hq, h3, L.stays w hl, hset]
    rw [hmod] at this
    simp only [execOp, hA.f.eval hm, hA.f.eval hi, hA.f.eval ho]
    simp only [this, Sem.run_bind, Result.andThen_ok, Sem.run_pure, Sem.run_map, Oper.upon_value, Oper.upon_skip]
    refine hn _ _ _ _ ⟨rfl, es, clock, rfl, ⟨fun e he => ?_, fun z hz => ?_⟩⟩ (hA.i.set hj _)
    · obtain ⟨z, g1, g2, g3⟩ := hM.ent e he
      exact ⟨z, g1, g2, by rw [g3]; rfl⟩
    · rcases Bool.or_eq_true .. |>.mp hz with hz | hz
      · exact hM.all z hz
      · rw [of_decide_eq_true hz]; exact hM.all y h5
end
end Go.W
namespace Go.W
section
variable {D : Imm} {hp : Hp}
theorem rd_dataN {k b i : Nat} {l : List Nat} {rest : List Value} {t : TypeId} {fz : Nat × Nat} (hk : hp[k]? = some (b, .cells (l.map nt ++ rest).toArray t fz)) (hi : i < l.length) : Rd D hp ⟨b, 0 + i * 1, none⟩ (nt (gt l i)) :=
  Rd.own hk (by rw [Nat.zero_add, Nat.mul_one, List.getElem?_append_left (by simpa using hi), List.getElem?_map, gt_of hi]; rfl)
theorem splice_dataN (l : List Nat) (rest : List Value) (i x : Nat) (hi : i < l.length) : splice (l.map nt ++ rest) (0 + i * 1) [nt x] = (l.set i x).map nt ++ rest := by
  unfold splice
  rw [Nat.zero_add, Nat.mul_one, List.take_append_of_le_length (by simp; omega), List.drop_append_of_le_length (by simp; omega)]
  rw [List.set_eq_take_append_cons_drop, if_pos hi]
  simp
theorem len_dataN (l : List Nat) (rest : List Value) {i : Nat} (hi : i < l.length) : 0 + i * 1 + 1 ≤ (l.map nt ++ rest).length := by simp; omega
end
end Go.W
namespace Go.W
section
variable {P : Program} {x : Cx} {ops : Array Oper} {fr : Fr} {D : Imm} {hp : Hp} {ty : TypeId} {Q : Exit → Act → World → Prop}
theorem noLets.round {l : Nat} {R : Ending → World → Prop} : ¬ LetsOut (roundPost P l R) := fun ⟨_, _, h⟩ => h
theorem wpOp_inR {r : Option Nat} {i : Nat} {K : Act → World → Prop} {a : Act} {w : World} (hd : ∀ o, ops[i]? = some o → ∀ c, o.op ≠ .defer c) (hno : ¬ LetsOut Q) (h : wpOp P ops Q i K a w) : wpOpIn (Fx r) 0 P ops Q i K a w := by
  unfold wpOpIn
  unfold wpOp at h
  cases ho : ops[i]? with
  | none => simp only [ho] at h ⊢; exact h
  | some o =>
    simp only [ho] at h ⊢
    split at h
    · rename_i hw
      rw [if_pos hw]
      rcases h with h | h
      · exact wp_in (hd o ho) h
      · exact absurd h.2 hno
    · rename_i hw
      rw [if_neg hw]
      exact ⟨fun _ _ => trivial, h⟩
theorem wpAnyIn_tailR {r : Option Nat} {n : Nat} (T : TailC ops n) : ∀ (l : List Oper) (k : Nat) (listed : Array Bool) (a : Act) (w : World), n ≤ k → k + l.length = ops.size → (∀ j, j < l.length → l[j]? = ops[k + j]?) → LstT ops k listed →
    wpListIn (Fx r) 0 P ops Q l a w → wpAnyIn (Fx r) 0 P .any ops Q l.length listed a w
  | [], k, listed, a, w, hn, hk, _, L, h => by
    refine ⟨?_, h⟩
    apply List.eq_nil_iff_forall_not_mem.2
    intro t ht
    obtain ⟨hun, o, ho, _⟩ := mem_ready.1 ht
    have hts : t < ops.size := (Array.getElem?_eq_some_iff.1 ho).1
    rw [getD_tf (by rw [L.size]; exact hts)] at hun
    have := (L.no t hts).1 hun
    simp at hk; omega
  | o :: l, k, listed, a, w, hn, hk, hl, L, h => by
    have hks : k < ops.size := by simp at hk; omega
    have h0 : ops[k]? = some o := by simpa using (hl 0 (by simp)).symm
    have hr := tail_ready T L hn hks
    refine ⟨fun h1 => ?_, fun i hi => ?_⟩
    · have := (hr k).2 rfl
      rw [h1] at this; cases this
    · have hik := (hr i).1 hi
      subst hik
      have hw : wpOpIn (Fx r) 0 P ops Q i (wpListIn (Fx r) 0 P ops Q l) a w := by unfold wpOpIn; simp only [h0]; exact h
      refine wpOpIn_mono (fun a' w' h' => wpAnyIn_tailR T l (i + 1) _ a' w' (by omega) (by simp at hk; omega) (fun j hj => by
        have := hl (j + 1) (by simp; omega)
        rw [show i + 1 + j = i + (j + 1) by omega]; simpa using this) ⟨by simp [L.size], fun j hj => ?_⟩ h') hw
      by_cases e : i = j
      · subst e
        have : (listed.setIfInBounds i true).getD i false = true := by simp [L.size, hj]
        rw [this]; simp
      · rw [getD_set_ne false e, L.no j hj]; omega
theorem wpAnyIn_headsR {r : Option Nat} {C : World → Prop} {n : Nat} {tl : List Oper} (hnd : ∀ (i : Nat) (o : Oper), ops[i]? = some o → ∀ c, o.op ≠ .defer c) (hno : ¬ LetsOut Q) (T : TailC ops n) (htl : n + tl.length = ops.size) (htl' : ∀ j, j < tl.length → tl[j]? = ops[n + j]?) :
    ∀ (m : Nat) (l : List Nat) (listed : Array Bool) (a : Act) (w : World), l.length = m → C w → Lst ops n l listed → remQ P ops C (fun a' => ∀ w', C w' → wpListIn (Fx r) 0 P ops Q tl a' w') l a →
      wpAnyIn (Fx r) 0 P .any ops Q (l.length + tl.length) listed a w := by
  intro m
  induction m with
  | zero =>
    intro l listed a w hm hw L h
    have hl : l = [] := List.length_eq_zero_iff.1 hm
    subst hl
    rw [List.length_nil, Nat.zero_add]
    exact wpAnyIn_tailR T tl n listed a w (Nat.le_refl _) htl htl' ⟨L.size, fun i hi => by rw [L.no i hi]; simp⟩ (h w hw)
  | succ m ih =>
    intro l listed a w hm hw L h
    have hne : l ≠ [] := fun e => by rw [e] at hm; cases hm
    rw [show l.length + tl.length = (m + tl.length) + 1 by omega]
    refine ⟨fun h0 => absurd h0 (mem_of_least T L hne), fun i hi => ?_⟩
    obtain ⟨hil, hnw⟩ := L.ready T hne hi
    obtain ⟨l1, l2, rfl⟩ := List.append_of_mem hil
    have hap : ∀ j ∈ l1, apartB ops i j = true := fun j hj => by
      have hji : j < i := by
        have := L.sorted
        rw [List.pairwise_append] at this
        exact this.2.2 j hj i List.mem_cons_self
      rcases T.ap i j (L.below i hil) hji with h1 | h1
      · rw [hnw j (List.mem_append_left _ hj)] at h1; cases h1
      · exact h1
    obtain ⟨o, v, ho, hy, hr⟩ := remQ_pull T.sel i l2 l1 a hap h
    have hlen : (l1 ++ l2).length = m := by simp at hm ⊢; omega
    have key : ∀ w', C w' → wpAnyIn (Fx r) 0 P .any ops Q (m + tl.length) (listed.setIfInBounds i true) (a.put o.dst v) w' := fun w' hw' => by
      have := ih (l1 ++ l2) _ _ w' hlen hw' (L.next T hnw) hr
      rwa [hlen] at this
    exact wpOp_inR (hnd i) hno (wpOp_of_qOp (C := C) (K := fun a' => a' = a.put o.dst v) hw (fun a' w' hw' e => by subst e; exact key w' hw') (hy.qOp ho rfl))
theorem WQ.tailR {r : Option Nat} {tl : List Oper} (h : WLF P r x ops fr D hp tl Q) : WQ P x ops D hp (fun a' => ∀ w', Inv D hp x.S x.w0 w' → wpListIn (Fx r) 0 P ops Q tl a' w') [] fr := fun a hA w hI => h a w ⟨hA, hI⟩
theorem WCF.tail {r : Option Nat} {id : Nat} {ops : List Oper} (n : Nat) (heads : List Nat) (hh : List.range n = heads) (hm : P.follows .mixedOrders = true) (hB : (tailB ops.toArray n && noDef ops) = true) (hno : ¬ LetsOut Q)
    (h : WQ P x ops.toArray D hp (fun a' => ∀ w', Inv D hp x.S x.w0 w' → wpListIn (Fx r) 0 P ops.toArray Q (ops.drop n) a' w') heads fr) : WCF P r x fr D hp (.region id ops.toArray true) Q := fun a w hA => by
  simp only [Bool.and_eq_true] at hB
  have T := tailC_of hB.1
  refine wpIn_region_any (F := Fx r) hm ?_
  have hn : n < ops.length := by simpa using T.lt
  have hq := h a hA.f
  rw [← hh] at hq
  have := wpAnyIn_headsR (P := P) (Q := Q) (C := Inv D hp x.S x.w0) (tl := ops.drop n) (noDef_spec hB.2) hno T (by simp; omega) (fun j hj => by simp [List.getElem?_drop]) n (List.range n) (Array.replicate ops.toArray.size false) a { w with drawn := w.drawn + 1 } (by simp) (hA.i.drew _)
    ⟨by simp, List.pairwise_lt_range, fun i hi => List.mem_range.1 hi, fun i hi => by
      simp only [List.mem_range]
      constructor
      · intro _; omega
      · intro _; have : i < ops.length := by simpa using hi
        simp [this], fun i j hi hni _ => absurd (List.mem_range.2 hi) hni⟩ hq
  rw [List.length_range, List.length_drop, show n + (ops.length - n) = ops.toArray.size by simp; omega] at this
  exact this
theorem WCF.loop {r : Option Nat} {α : Type} {c : Code} (F : α → Fr) (H : α → Hp) (I : α → Imm) (φ : α → Prop) (m : α → Nat) (x0 : α) (h0 : φ x0)
    (hstart : ∀ a w, At x fr D hp a w → At x (F x0) (I x0) (H x0) a w)
    (hround : ∀ y, φ y → WCF P r x (F y) (I y) (H y) c (Exit.then (fun a w => ∃ z, φ z ∧ m z < m y ∧ At x (F z) (I z) (H z) a w) Q)) : WCF P r x fr D hp (.loop c) Q := by
  intro a w hA
  have key : ∀ n y a w, m y < n → φ y → At x (F y) (I y) (H y) a w → Code.roundsIn (Fx r) 0 P c Q n a w := by
    intro n
    induction n with
    | zero => intro y a w h; omega
    | succ n ih =>
      intro y a w hm hy hA
      refine wpIn_mono (hround y hy a w hA) ?_
      intro e a' w' hq
      cases e with
      | normal =>
        obtain ⟨z, hz, hlt, hA'⟩ := hq
        exact ih z a' w' (by omega) hz hA'
      | _ => exact hq
  exact wpIn_loop_rounds (m x0 + 1) (key _ x0 a w (Nat.lt_succ_self _) h0 (hstart a w hA))
theorem WCF.loopF {r : Option Nat} {α : Type} {c : Code} (F : α → Fr) (φ : α → Prop) (m : α → Nat) (x0 : α) (h0 : φ x0) (hstart : subB (F x0) fr)
    (hround : ∀ y, φ y → WCF P r x (F y) D hp c (Exit.then (fun a w => ∃ z, φ z ∧ m z < m y ∧ At x (F z) D hp a w) Q)) : WCF P r x fr D hp (.loop c) Q :=
  WCF.loop F (fun _ => hp) (fun _ => D) φ m x0 h0 (fun _ _ h => at_fr h hstart) hround
theorem WP.goRetN {l k : Nat} {rec : Loop} {D0 : Imm} {K : Bool → Imm → Hp → Prop} (hk : hp[k]? = some (l, .loop rec)) (hD : DExt x.w0 D0 D)
    (h : K false D (hp.set k (l, .loop { rec with state := .done, pending := some .ret }))) : WP x fr D hp .ret (roundPost P l (RoundN x.w0 D0 x.S K)) := fun a w hA => by
  have hl := hA.i.own _ _ (mem_of_get? hk)
  exact ⟨_, _, run_endRound (some .ret) hl, false, _, _, rfl, hD, inv_putObj hA.i hk _, h⟩
theorem WP.iterRetN {l : Nat} {rec : Loop} {pre h1 : Hp} {D0 : Imm} {St : Imm → Hp → Prop} {Sp : Code → Imm → Hp → Prop} (hsub : ∀ e, e ∈ (l, .loop (busyR rec)) :: (pre ++ h1) → e ∈ hp) (hn : (keys hp).Nodup → (keys ((l, .loop (busyR rec)) :: (pre ++ h1))).Nodup)
    (hD : DExt x.w0 D0 D) (h : Sp .ret D h1) : WP x fr D hp .ret (roundPost P l (RoundN x.w0 D0 x.S (RK l rec pre St Sp))) := fun a w hA =>
  WP.goRetN (k := 0) (hp := (l, .loop (busyR rec)) :: (pre ++ h1)) rfl hD (.inr ⟨rfl, .ret, h1, rfl, h⟩) a w ⟨hA.f, hA.i.sub hsub (hn hA.i.nodup)⟩
theorem QuietPanic.round {l : Nat} {R : Ending → World → Prop} : QuietPanic (roundPost P l R) := fun c d v a w hq => by
  cases d <;> exact hq
theorem leaves_putM {fn : Func} {R : Ending → World → Prop} {tmps : Array Value} {d : Nat} {v : Value} (h : d ∉ resSlots fn) : ∀ (ds : List Deferred) (u : FrameMode) (w : World), LeavesInM Fence.wide 0 P fn (tmps.setIfInBounds d v) R ds u w → LeavesInM Fence.wide 0 P fn tmps R ds u w := by
  intro ds
  induction ds with
  | nil =>
    intro u w hl
    cases u with
    | run => exact hl
    | returning => obtain ⟨r, h1, h2⟩ := hl; exact ⟨r, by rw [results_put h] at h1; exact h1, h2⟩
    | panicking c => exact hl
  | cons e ds ih =>
    intro u w ⟨h1, h2⟩
    refine ⟨h1, ?_⟩
    rcases h2 with ⟨r, w', h3, h4, h5⟩ | ⟨h3, fv, cap, f, args, h4, h5, h6, h7⟩
    · exact .inl ⟨r, w', h3, h4, ih _ _ h5⟩
    · refine .inr ⟨h3, fv, cap, f, args, h4, h5, h6, h7.mono fun e u w hh => ?_⟩
      cases e with
      | returned r => exact ih _ _ hh
      | panicked c => exact ih _ _ hh
      | outgrown => exact hh
theorem QuietOn.bodyM {fn : Func} {R : Ending → World → Prop} (h : offB ops fn = true) : QuietOn ops (bodyPostM Fence.wide 0 P fn R) := fun i o v c a w ho hq => by
  have hm : o ∈ ops.toList := by
    have := Array.mem_of_getElem? ho
    exact Array.mem_toList_iff.2 this
  have h1 := List.all_eq_true.1 h o hm
  cases hd : o.dst with
  | none => rw [hd] at hq; exact hq
  | some d =>
    rw [hd] at h1 hq
    have hn : d ∉ resSlots fn := by simpa using h1
    exact leaves_putM hn _ _ _ hq
theorem wpAny_in {r : Option Nat} (hnd : ∀ (i : Nat) (o : Oper), ops[i]? = some o → ∀ c, o.op ≠ .defer c) (hno : ¬ LetsOut Q) : ∀ (fuel : Nat) (listed : Array Bool) (a : Act) (w : World), wpAny P .any ops Q fuel listed a w → wpAnyIn (Fx r) 0 P .any ops Q fuel listed a w
  | 0, _, _, _, h => h
  | fuel + 1, _, _, _, h => ⟨h.1, fun i hi => wpOp_inR (hnd i) hno (wpOp_mono (fun a' w' h' => wpAny_in hnd hno fuel _ a' w' h') (h.2 i hi))⟩
theorem WCF.drawH {r : Option Nat} {id : Nat} {l : List Oper} (hp0 : Hp) (hm : P.follows .mixedOrders = true) (hB : noDef l = true) (hno : ¬ LetsOut Q) (h0 : ∀ w, Inv D hp x.S x.w0 w → Inv D hp0 x.S x.w0 w)
    (h : WH P x l.toArray D hp0 l.length (List.replicate l.length false).toArray fr D hp Q) : WCF P r x fr D hp (.region id l.toArray true) Q := fun a w hA => by
  refine wpIn_region_any (F := Fx r) hm (wpAny_in (noDef_spec hB) hno _ _ _ _ (wpAny_of_held (S := Inv D hp0 x.S x.w0) _ _ _ _ ?_))
  have := h _ _ ⟨hA.f, hA.i.drew (w.drawn + 1)⟩ (h0 _ (hA.i.drew _))
  have e : (Array.replicate l.toArray.size false) = (List.replicate l.length false).toArray := by simp
  rw [e]
  exact this
theorem WLF.sog {r : Option Nat} {rest : List Oper} {dst : Option Tmp} {op : Op} {pos : String} {af : Array Edge} {j : Nat} {b : Bool} {K : Value → Imm → Hp → Prop} (hn : ∀ c, op ≠ .defer c) (hg : gval ops fr j = some (.bool b)) (hs : SO P x fr D hp op ty Q K) (hd : dstB dst x.n = true) (h : ∀ v D' hp', K v D' hp' → WLF P r x ops (putFr dst v fr) D' hp' rest Q) :
    WLF P r x ops fr D hp (⟨dst, op, ty, pos, af, some (j, b)⟩ :: rest) Q := fun a w hA => by
  unfold wpListIn
  rw [if_pos (by rw [wanted_of hA.f hg]; simp)]
  exact wp_in hn (hs a w _ _ _ _ _ hA fun v D' hp' _ hk hi => h v D' hp' hk _ _ ⟨hA.f.putO hd v, hi⟩)
theorem WQ.skipU {K : Act → Prop} {l : List Nat} {i : Nat} {dst : Option Tmp} {op : Op} {pos : String} {af : Array Edge} {j : Nat} {b : Bool} (ho : ops[i]? = some ⟨dst, op, ty, pos, af, some (j, b)⟩) (hg : gval ops fr j = some undef) (hd : dstB dst x.n = true) (h : WQ P x ops D hp K l (putFr dst undef fr)) : WQ P x ops D hp K (i :: l) fr := fun a hA =>
  ⟨_, undef, ho, .inr ⟨undef_wanted hA hg, rfl⟩, h _ (hA.putO hd undef)⟩
theorem leaves_marksP {ch : List PanicEntry} {fn : Func} {tmps : Array Value} {R : Ending → World → Prop} {ds : List Deferred} {hp0 : Hp} {S : List Nat} {w0 : World} (h : ∀ w', Inv D hp0 S w0 w' → LeavesInM Fence.wide 0 P fn tmps R ds (.panicking ch) w') :
    ∀ (bs : List Nat) (w : World), Inv D (bs.map dblk ++ hp0) S w0 w → LeavesInM Fence.wide 0 P fn tmps R (bs.map markOf ++ ds) (.panicking ch) w := by
  intro bs
  induction bs with
  | nil => intro w hI; exact h w hI
  | cons b bs ih =>
    intro w hI
    have hb := hI.own b (.deferred (some [])) (List.mem_cons_self ..)
    have hI' := (inv_putObj hI (k := 0) rfl (.deferred none)).tail
    exact ⟨by simp, .inl ⟨b, _, rfl, run_takeDeferred hb, ih _ hI'⟩⟩
theorem WP.panicMs {fn : Func} {ch : List PanicEntry} {R : Ending → World → Prop} (bs : List Nat) (hp0 : Hp) (hd : x.ds = bs.map markOf) (hs : ∀ e, e ∈ bs.map dblk ++ hp0 → e ∈ hp) (hn : (keys hp).Nodup → (keys (bs.map dblk ++ hp0)).Nodup)
    (hR : ∀ w, Inv D hp0 x.S x.w0 w → R (.panicked ch) w) : WP x fr D hp (.panic ch) (bodyPostM Fence.wide 0 P fn R) := fun a w hA => by
  show LeavesInM Fence.wide 0 P fn a.tmps R a.defers (.panicking ch) w
  rw [hA.f.defers, hd, ← List.append_nil (bs.map markOf)]
  exact leaves_marksP (P := P) (fn := fn) (tmps := a.tmps) (R := R) (ds := []) (hp0 := hp0) (fun w' hI => hR w' hI) bs w (hA.i.sub hs (hn hA.i.nodup))
def QuietAt (d : Nat) (Q : Exit → Act → World → Prop) : Prop := ∀ v c a w, Q (.panic c) (Act.put a (some d) v) w → Q (.panic c) a w
theorem QuietAt.then {d : Nat} {K : Act → World → Prop} (h : QuietAt d Q) : QuietAt d (Exit.then K Q) := fun v c a w hq => h v c a w hq
theorem QuietAt.blk {d id : Nat} (h : QuietAt d Q) : QuietAt d (Exit.inBlock id Q) := fun v c a w hq => h v c a w hq
theorem QuietAt.sc {d : Nat} (h : QuietAt d Q) : QuietAt d (Exit.noGoto Q) := fun v c a w hq => h v c a w hq
theorem QuietAt.bodyD {d : Nat} {fn : Func} {R : Ending → World → Prop} (h : (resSlots fn).contains d = false) : QuietAt d (bodyPostD P fn R) := fun v c a w hq => leaves_put (by simpa using h) _ _ _ hq
theorem QuietAt.bodyM {d : Nat} {fn : Func} {R : Ending → World → Prop} (h : (resSlots fn).contains d = false) : QuietAt d (bodyPostM Fence.wide 0 P fn R) := fun v c a w hq => leaves_putM (by simpa using h) _ _ _ hq
theorem WH.ydD {D0 : Imm} {hp0 : Hp} {n i : Nat} {listed : Array Bool} {d : Tmp} {op : Op} {pos : String} {af : Array Edge} {v : Value} (hc : ((Region.ready .any ops listed).contains i && Region.free .any ops listed i && Region.noSelect ops) = true) (hQ : QuietAt d Q) (ho : ops[i]? = some ⟨some d, op, ty, pos, af, none⟩)
    (hy : Yd P x fr D0 hp0 op ty v) (hd : Nat.blt d x.n = true) (h : WH P x ops D0 hp0 n (listed.setIfInBounds i true) ((d, v) :: fr) D hp Q) : WH P x ops D0 hp0 (n + 1) listed fr D hp Q := fun a w hA hI => by
  simp only [Bool.and_eq_true] at hc
  exact wpAnyH_take ho hc.2 hc.1.2 hc.1.1 (fun c a w => hQ v c a w) (.inl ⟨rfl, fun w' hw' => hy a w' _ _ _ _ hA.f hw'⟩) hI (h _ _ ⟨hA.f.put hd v, hA.i⟩ hI)
theorem WHo.no {D0 : Imm} {hp0 : Hp} {n i : Nat} {listed : Array Bool} {dst : Option Tmp} {op : Op} {pos : String} {af : Array Edge} (ho : ops[i]? = some ⟨dst, op, ty, pos, af, none⟩) (hs : SO P x fr D hp op ty Q NoK) : WHo P x ops D0 hp0 n listed fr D hp Q i := fun a w hA _ => by
  unfold wpOp
  simp only [ho]
  rw [if_pos (show Region.wanted ⟨dst, op, ty, pos, af, none⟩ (yielded ops a.tmps) = true from rfl)]
  exact .inl (hs a w _ _ _ _ _ hA fun _ _ _ _ hk _ => hk.elim)
theorem WH.know {D0 : Imm} {hp0 : Hp} {n : Nat} {listed : Array Bool} (t : Nat) {v : Value} (v' : Value) (ht : fr.get t = some v) (hv : v = v') (h : WH P x ops D0 hp0 n listed ((t, v') :: fr) D hp Q) : WH P x ops D0 hp0 n listed fr D hp Q :=
  fun a w hA hI => h a w ⟨hA.f.weaken (get_know ht hv), hA.i⟩ hI
end
end Go.W
namespace Go.W
theorem splice_flat {α : Type} [Inhabited α] {f : α → List Value} {m : Nat} (hf : ∀ x, (f x).length = m) (y : α) (j : Nat) (vs : List Value) (hj : j + vs.length ≤ m) (rest : List Value) : ∀ (l : List α) (i : Nat), i < l.length → f y = splice (f (gt l i)) j vs → splice (l.flatMap f ++ rest) (0 + i * m + j) vs = (l.set i y).flatMap f ++ rest := by
  intro l
  induction l with
  | nil => intro i hi; simp at hi
  | cons a l ih =>
    intro i hi hy
    cases i with
    | zero =>
      have ha : (f a).length = m := hf a
      have hg : gt (a :: l) 0 = a := rfl
      rw [hg] at hy
      rw [List.set_cons_zero, List.flatMap_cons, List.flatMap_cons, hy]
      simp only [splice, Nat.zero_mul, Nat.zero_add, List.append_assoc]
      rw [List.take_append_of_le_length (by omega), List.drop_append_of_le_length (by omega)]
    | succ i =>
      have h := ih i (by simpa using hi) hy
      simp only [splice, List.flatMap_cons, List.set_cons_succ, List.append_assoc] at h ⊢
      have e1 : 0 + (i + 1) * m + j = (f a).length + (0 + i * m + j) := by rw [hf a, Nat.succ_mul]; omega
      rw [e1, List.take_length_add_append, show (f a).length + (0 + i * m + j) + vs.length = (f a).length + (0 + i * m + j + vs.length) by omega, List.drop_length_add_append, List.append_assoc, h]
section
variable {P : Program} {x : Cx} {fr : Fr} {D : Imm} {hp : Hp} {ty : TypeId} {Q : Exit → Act → World → Prop}
theorem SO.storeFlatN {α : Type} [Inhabited α] {f : α → List Value} {m : Nat} (hf : ∀ x, (f x).length = m) {t b i j n : Nat} {p o : Operand} {v : Value} {vs : List Value} {l : List α} (y : α) {rest : List Value} {e : TypeId} (k : Nat) (hk : hp[k]? = some (b, .cells (l.flatMap f ++ rest).toArray e (0, 0))) (hz : ∀ w, (sizeOf t).run P w = .ok n w)
    (hp' : opv fr p = some (.pointer (some ⟨b, 0 + i * m + j, none⟩))) (ho : opv fr o = some v) (hc : v.cells = vs.toArray) (hl : vs.length = n) (hi : i < l.length) (hj : j + n ≤ m) (hone : ∀ v ∈ vs, v.oneCell' = true) (hy : f y = splice (f (gt l i)) j vs) :
    SO P x fr D hp (.store t p o) ty Q (SetK D hp k b (.cells ((l.set i y).flatMap f ++ rest).toArray e (0, 0))) := by
  have h := SO.store (P := P) (x := x) (fr := fr) (D := D) (hp := hp) (ty := ty) (Q := Q) (vs := vs) k hk hz hp' ho hc hl (by
    rw [List.length_append, flat_len hf]
    have : (i + 1) * m ≤ l.length * m := Nat.mul_le_mul_right m hi
    rw [Nat.succ_mul] at this
    omega) hone
  rw [splice_flat hf y j vs (by omega) rest l i hi hy] at h
  exact h
theorem RdN.flat {α : Type} [Inhabited α] {f : α → List Value} {m : Nat} (hf : ∀ x, (f x).length = m) {k b i j n : Nat} {vs : List Value} {l : List α} {rest : List Value} {e : TypeId} {fz : Nat × Nat} (hk : hp[k]? = some (b, .cells (l.flatMap f ++ rest).toArray e fz)) (hi : i < l.length) (hv : slc (f (gt l i)) j n = vs) : RdN D hp b (0 + i * m + j) vs := fun u v hu => by
  rw [← hv] at hu
  unfold slc at hu
  rw [List.getElem?_take] at hu
  split at hu
  · rw [List.getElem?_drop] at hu
    have hlt : j + u < m := by
      rw [← hf (gt l i)]
      rcases Nat.lt_or_ge (j + u) (f (gt l i)).length with h | h
      · exact h
      · rw [List.getElem?_eq_none h] at hu; cases hu
    rw [Nat.add_assoc]
    exact Rd.flat hf hk hi hlt hu
  · cases hu
end
end Go.W
namespace Go.W
section
variable {P : Program} {x : Cx} {fr : Fr} {D : Imm} {hp : Hp} {Q : Exit → Act → World → Prop}
theorem WC.loopT {α : Type} {c : Code} (pre : Hp) (F : α → Fr) (Ht : α → Hp) (φ : α → Prop) (m : α → Nat) (x0 : α) (h0 : φ x0) (hhp : hp = pre ++ Ht x0) (hstart : subB (F x0) fr)
    (hround : ∀ y, φ y → WC P x (F y) D (pre ++ Ht y) c (Exit.then (fun a w => ∃ z, φ z ∧ m z < m y ∧ At x (F z) D (pre ++ Ht z) a w) Q)) : WC P x fr D hp (.loop c) Q :=
  WC.loop F (fun y => pre ++ Ht y) (fun _ => D) φ m x0 h0 (fun a w h => by subst hhp; exact at_fr h hstart) hround
theorem WCF.loopT {r : Option Nat} {α : Type} {c : Code} (pre : Hp) (F : α → Fr) (Ht : α → Hp) (φ : α → Prop) (m : α → Nat) (x0 : α) (h0 : φ x0) (hhp : hp = pre ++ Ht x0) (hstart : subB (F x0) fr)
    (hround : ∀ y, φ y → WCF P r x (F y) D (pre ++ Ht y) c (Exit.then (fun a w => ∃ z, φ z ∧ m z < m y ∧ At x (F z) D (pre ++ Ht z) a w) Q)) : WCF P r x fr D hp (.loop c) Q :=
  WCF.loop F (fun y => pre ++ Ht y) (fun _ => D) φ m x0 h0 (fun a w h => by subst hhp; exact at_fr h hstart) hround
theorem WP.againT {pre : Hp} {α : Type} {F : α → Fr} {Ht : α → Hp} {φ : α → Prop} {m : α → Nat} {k : Nat} (z : α) (hz : φ z) (hm : m z < k) (d hp2 : Hp) (hhp : hp = d ++ hp2) (heq : hp2 = pre ++ Ht z) (hf : subB (F z) fr) :
    WP x fr D hp .normal (Exit.then (fun a w => ∃ z, φ z ∧ m z < k ∧ At x (F z) D (pre ++ Ht z) a w) Q) := fun a w h => by
  refine ⟨z, hz, hm, ?_⟩
  subst heq; subst hhp
  exact at_less h hf (fun e he => List.mem_append_right _ he) (fun hn => by rw [List.map_append] at hn; exact (List.nodup_append.1 hn).2.1)
theorem WC.hpEq {c : Code} {hp' : Hp} (h : hp = hp') (hw : WC P x fr D hp' c Q) : WC P x fr D hp c Q := by subst h; exact hw
end
end Go.W
namespace Go.W
section
variable {P : Program} {x : Cx} {fr : Fr} {D : Imm} {hp : Hp} {ty : TypeId}
theorem Yd.sliceArr {t e : TypeId} {m n : Nat} {p q : Operand} {b off h : Nat} (hu : P.underlying t = some (.array m e)) (hz : ∀ w, (sizeOf e).run P w = .ok n w) (hp' : opv fr p = some (.pointer (some ⟨b, off, none⟩))) (hq : opv fr q = some (nt h)) (h0 : h ≤ m) :
    Yd P x fr D hp (.slice t p none (some q) none) ty (.slice (some ⟨b, off, none⟩) h m) := fun act w _ _ _ _ hA _ => by
  simp only [execOp, Option.map_none, Option.map_some, hA.eval hp', hA.eval hq]
  have hi : (asIntOf (nt h)).run P w = .ok (IntKind.i64, (h : Int)) w := rfl
  have hle : (0 : Int) ≤ (h : Int) ∧ (h : Int) ≤ (m : Int) := by omega
  have : (Instr.sliceAt t (.pointer (some ⟨b, off, none⟩)) none (some (nt h)) none).run P w = .ok (.slice (some ⟨b, off, none⟩) h m) w := by
    simp only [Instr.sliceAt, Instr.sliceBounds, Instr.sliceBound, Instr.sureAddr, Sem.run_bind, run_underlying hu, hi, Result.andThen_ok, Sem.run_pure, hz]
    simp only [Sem.run_ite, if_pos hle, Sem.run_pure, Result.andThen_ok, Sem.run_bind, hz]
    by_cases h0 : m = 0
    · subst h0; simp
    · simp [h0, Addr.add]
  simp [this]
end
end Go.W
namespace Go.W
section
variable {P : Program} {x : Cx} {fr : Fr} {D : Imm} {hp : Hp} {Q : Exit → Act → World → Prop} {ops : Array Oper} {w0 : World}
theorem WC.freezeN {c : Code} (k b : Nat) (o : Obj) (hw : x.w0 = w0) (hk : hp[k]? = some (b, o)) (hb : w0.heap.size ≤ b) (h : ∀ D', DExt w0 D D' → D' b = some o → WC P x fr D' (hp.eraseIdx k) c Q) : WC P x fr D hp c Q := by
  subst hw
  exact WC.freezeK k hk fun hn => h _ ((DExt.refl _ _).add hn hb) (Imm.add_self _ _ _)
theorem WL.freezeN {l : List Oper} (k b : Nat) (o : Obj) (hw : x.w0 = w0) (hk : hp[k]? = some (b, o)) (hb : w0.heap.size ≤ b) (h : ∀ D', DExt w0 D D' → D' b = some o → WL P x ops fr D' (hp.eraseIdx k) l Q) : WL P x ops fr D hp l Q := by
  subst hw
  exact WL.freezeK k hk fun hn => h _ ((DExt.refl _ _).add hn hb) (Imm.add_self _ _ _)
theorem WH.freezeN {D0 : Imm} {hp0 : Hp} {n : Nat} {listed : Array Bool} (k b : Nat) (o : Obj) (hw : x.w0 = w0) (hk : hp[k]? = some (b, o)) (hb : w0.heap.size ≤ b) (h : ∀ D', DExt w0 D D' → D' b = some o → WH P x ops D0 hp0 n listed fr D' (hp.eraseIdx k) Q) : WH P x ops D0 hp0 n listed fr D hp Q := by
  subst hw
  exact WH.freezeK k hk fun hn => h _ ((DExt.refl _ _).add hn hb) (Imm.add_self _ _ _)
end
end Go.W
namespace Go.W
section
variable {P : Program} {x : Cx} {fr : Fr} {D : Imm} {hp : Hp} {ty : TypeId}
theorem Yd.fieldZ {s t : TypeId} {fs : Array Field} {f b : Nat} {p : Operand} (k : Nat) (hk : hp[k]? = some (b, .cells (List.toArray []) s (0, 0))) (hu : P.underlying s = some (.struct fs)) (hf : (fs[f]?).map (fun fd => (fd.type, fd.offset, fd.byteOffset)) = some (t, 0, 0)) (hz : ∀ w, (sizeOf t).run P w = .ok 0 w) (hs : P.cellsOf s = 0)
    (hp' : opv fr p = some (.pointer (some ⟨b, 0, none⟩))) : Yd P x fr D hp (.fieldAddr s p f) ty (.pointer (some ⟨b, 0, none⟩)) := fun a w _ _ _ _ hA hI => by
  have hb := hI.own _ _ (mem_of_get? hk)
  simp only [execOp, hA.eval hp']
  cases hfd : fs[f]? with
  | none => rw [hfd] at hf; cases hf
  | some fd =>
    rw [hfd] at hf
    simp only [Option.map_some, Option.some.injEq, Prod.mk.injEq] at hf
    obtain ⟨rfl, h1, h2⟩ := hf
    unfold Instr.fieldAt
    simp [run_underlying hu, hfd, Instr.sureAddr, fieldPlace, hz, partAt, byteOf, noView, viewAt, World.shape?, hb, hs, h1, h2]
end
end Go.W
namespace Go.W
def IterN2 (P : Program) (gf : Nat) (lb : List Value) (N : Nat) (arg1 arg2 : Nat → Value) (D : Imm) (w : World) : Prop :=
  ∀ (l : Nat) (St : Nat → Imm → Hp → Prop) (Sp : Imm → Hp → Prop), (∀ k D1 D2 h, DExt w D1 D2 → St k D1 h → St k D2 h) →
    (∀ k D' h w', k < N → w.heap.size ≤ w'.heap.size → DExt w D D' → St k D' h → Inv D' h (keys h) w' w' → YieldAt Fence.wide 0 P l #[arg1 k, arg2 k] w' (RoundN w' D' (keys h) (fun b D'' h' => (b = true ∧ St (k + 1) D'' h') ∨ (b = false ∧ Sp D'' h')))) →
    ∀ h0, St 0 D h0 → Inv D h0 (keys h0) w w → AltersN P gf ((.func (.yield l) #[] #[]) :: lb) w D (keys h0) (fun _ D' h' => St N D' h' ∨ Sp D' h')
section
variable {P : Program} {x : Cx} {fr : Fr} {D : Imm} {hp : Hp} {Q : Exit → Act → World → Prop}
theorem WC.rangeIterN2 {g : Operand} {pm pn : Tmp} {assign body : Code} {gf : Nat} {lb : List Value} {N : Nat} {arg1 arg2 : Nat → Value} (hit : ∀ w, x.w0.heap.size ≤ w.heap.size → Holds D w → IterN2 P gf lb N arg1 arg2 D w) (hg : opv fr g = some (.func (.func gf) #[] lb.toArray)) (hc : ∀ args w, (callFunc gf args).run P w = .ok (.enter gf args) w) (hpm : Nat.blt pm x.n = true) (hpn : Nat.blt pn x.n = true)
    (St : Nat → Imm → Hp → Prop) (Sp : Code → Imm → Hp → Prop) (hmono : ∀ k D1 D2 h, DExt x.w0 D1 D2 → St k D1 h → St k D2 h) (h0 : St 0 D hp)
    (hbody : ∀ rec l Dn k D1 h w1, (rec.state = .ready ∧ rec.pending = none) → k < N → St k D1 h → DExt x.w0 D D1 → x.w0.heap.size ≤ w1.heap.size → RoundGN P x.n l rec [(Dn, .deferred (some []))] ((pn, arg2 k) :: (pm, arg1 k) :: fr) D1 h w1 assign body (St (k + 1)) Sp)
    (hdone : ∀ Dn D' hp', x.w0.heap.size ≤ Dn → DExt x.w0 D D' → St N D' hp' → WP ⟨x.n, markOf Dn :: x.ds, x.S, x.w0⟩ fr D' ((Dn, .deferred (some [])) :: hp') .normal Q)
    (hstop : ∀ Dn c D' hp', x.w0.heap.size ≤ Dn → DExt x.w0 D D' → Sp c D' hp' → WC P ⟨x.n, markOf Dn :: x.ds, x.S, x.w0⟩ fr D' ((Dn, .deferred (some [])) :: hp') c Q) :
    WC P x fr D hp (.rangeFunc g #[pm, pn] assign body) Q := by
  refine WC.rangeFuncM (K := fun D' hp' pend => DExt x.w0 D D' ∧ ((pend = none ∧ St N D' hp') ∨ ∃ c, pend = some c ∧ Sp c D' hp')) hg hc (fun rec l Dn w₁ hst hpe hps has hbo hT hDn hl hI => ?_) (fun Dn D' hp' pend hDn hK => ?_)
  · have hsz := hI.keep.size
    have hI1 := hI.toKeys
    refine Calls.mono (hit w₁ hsz hI.imm l (fun k D' h => ∃ h1, h = (l, .loop rec) :: ([(Dn, .deferred (some []))] ++ h1) ∧ St k D' h1) (fun D' h => ∃ c h1, h = (l, .loop { rec with state := .done, pending := some c }) :: ([(Dn, .deferred (some []))] ++ h1) ∧ Sp c D' h1) ?_ ?_ _ ⟨hp, rfl, h0⟩ hI1) ?_
    · rintro k D1 D2 h hx ⟨h1, rfl, hs⟩
      exact ⟨h1, rfl, hmono _ _ _ _ (hx.wide hsz) hs⟩
    · rintro k D1 h w' hk hsz2 hX ⟨h1, rfl, hs⟩ hI2
      have hb := hbody rec l Dn k D1 h1 w' ⟨hst, hpe⟩ hk hs (hX.wide hsz) (Nat.le_trans hsz hsz2)
      refine YieldAt.mono (roundAt (rec := rec) (k := 0) (n := x.n) (fr := (pn, arg2 k) :: (pm, arg1 k) :: fr) has hbo hI2 rfl (by rw [hps]; rfl) (by rw [hps]; exact hT.round2 hpm hpn) hb) ?_
      rintro e w'' ⟨b, D', hp', rfl, hD, hI3, hK⟩
      refine ⟨b, D', hp', rfl, hD, hI3, ?_⟩
      rcases hK with ⟨rfl, h1, rfl, hs1⟩ | ⟨rfl, c, h1, rfl, hs1⟩
      · exact .inl ⟨rfl, h1, rfl, hs1⟩
      · exact .inr ⟨rfl, c, h1, rfl, hs1⟩
    · rintro e w' ⟨v, D', hpc', rfl, hXe, hIe, hK⟩
      have hIu := Inv.unframeN (own := []) hI (fun _ h => h) (fun b hb => by
        obtain ⟨o, ho⟩ := mem_key hb
        exact hIe.may b o ho) hXe hIe
      rcases hK with ⟨h1, rfl, hs⟩ | ⟨c, h1, rfl, hs⟩
      · refine ⟨v, D', h1, .ready, none, rfl, by decide, ?_, hXe.wide hsz, .inl ⟨rfl, hs⟩⟩
        rw [rec_eta' hst hpe]; exact hIu
      · exact ⟨v, D', h1, .done, some c, rfl, by decide, hIu, hXe.wide hsz, .inr ⟨c, rfl, hs⟩⟩
  · obtain ⟨hX, ⟨rfl, hs⟩ | ⟨c, rfl, hs⟩⟩ := hK
    · exact hdone Dn D' hp' hDn hX hs
    · exact hstop Dn c D' hp' hDn hX hs
end
end Go.W
namespace Go.W
section
variable {P : Program} {x : Cx} {fr : Fr} {D : Imm} {hp : Hp} {ty : TypeId}
theorem Yd.shlN {t t' : TypeId} {o p : Operand} {k : Nat} (ho : opv fr o = some (.int .i64 1)) (hp' : opv fr p = some (nt k)) (hk : k ≤ 40) : Yd P x fr D hp (.binOp .shl t o p t') ty (nt (2 ^ k)) :=
  Yd.shl ho hp' (by omega) (by
    have e : min ((k : Int)).toNat IntKind.i64.bits = k := by
      show min k 64 = k; omega
    have h2 : 2 ^ k ≤ 2 ^ 40 := Nat.pow_le_pow_right (by omega) hk
    rw [e, Int.one_mul, show ((2 : Int) ^ k) = ((2 ^ k : Nat) : Int) by rw [Int.natCast_pow]; rfl]
    generalize 2 ^ k = u at h2
    exact wr64 (by omega))
end
end Go.W
namespace Go.W
section
variable {P : Program} {x : Cx} {fr : Fr} {D : Imm} {hp : Hp} {Q : Exit → Act → World → Prop} {ops : Array Oper} {w0 : World}
theorem WA.freezeN {D0 : Imm} {hpx : Hp} {plan : List (Nat × Bool)} (k b : Nat) (o : Obj) (hw : x.w0 = w0) (hk : hp[k]? = some (b, o)) (hb : w0.heap.size ≤ b) (h : ∀ D', DExt w0 D D' → D' b = some o → WA P x ops D0 hpx plan fr D' (hp.eraseIdx k) Q) : WA P x ops D0 hpx plan fr D hp Q := by
  subst hw
  intro a w hA
  have h1 := (hA.i.freezeK k hk).1
  exact h _ ((DExt.refl _ _).add h1 hb) (Imm.add_self _ _ _) a w ⟨hA.f, (hA.i.freezeK k hk).2⟩
end
end Go.W
namespace Go.W
section
variable {D : Imm} {hp : Hp}
end
end Go.W
namespace Go.W
theorem SlL.take {D : Imm} {size : Nat} {rows : List (List Value)} {a : Option Addr} {n k : Nat} (h : SlL D size rows a n) (hk : k ≤ n) : SlL D size (rows.take k) a k :=
  ⟨by rw [List.length_take, ← h.len]; omega, fun i r hr => by
    rw [List.getElem?_take] at hr
    split at hr
    · exact h.row i r hr
    · cases hr⟩
def fromA (a : Option Addr) (c k size : Nat) : Option Addr := if c = k then a else a.map (·.add (k * size))
theorem SlL.drop {D : Imm} {size : Nat} {rows : List (List Value)} {a : Option Addr} {n c k : Nat} (h : SlL D size rows a n) (hk : k ≤ n) (hc : n ≤ c) : SlL D size (rows.drop k) (fromA a c k size) (n - k) :=
  ⟨by rw [List.length_drop, ← h.len], fun i r hr => by
    rw [List.getElem?_drop] at hr
    have hlt : k + i < n := by
      rw [h.len]
      rcases Nat.lt_or_ge (k + i) rows.length with h1 | h1
      · exact h1
      · rw [List.getElem?_eq_none h1] at hr; cases hr
    obtain ⟨h1, h2⟩ := h.row (k + i) r hr
    unfold fromA
    rw [if_neg (by omega)]
    have e : (a.map (·.add (k * size))) = some ⟨sb a, so a + k * size, none⟩ := by
      rw [h1]
      show some (Addr.add ⟨sb a, so a, none⟩ (k * size)) = some _
      unfold Addr.add
      by_cases h0 : k * size = 0
      · rw [if_pos h0, h0]; rfl
      · rw [if_neg h0]; rfl
    rw [e]
    refine ⟨rfl, ?_⟩
    show RdD D (sb a) (so a + k * size + i * size) r
    rw [Nat.add_assoc, ← Nat.add_mul]
    exact h2⟩
section
variable {P : Program} {x : Cx} {fr : Fr} {D : Imm} {hp : Hp} {ty : TypeId}
theorem Yd.sliceFrom {t e : TypeId} {n : Nat} {p q : Operand} {a : Option Addr} {len cap k : Nat} (hu : P.underlying t = some (.slice e)) (hz : ∀ w, (sizeOf e).run P w = .ok n w) (hp' : opv fr p = some (.slice a len cap)) (hq : opv fr q = some (nt k)) (hk : k ≤ len) :
    Yd P x fr D hp (.slice t p (some q) none none) ty (.slice (fromA a cap k n) (len - k) (cap - k)) := fun act w _ _ _ _ hA _ => by
  simp only [execOp, Option.map_none, Option.map_some, hA.eval hp', hA.eval hq]
  have hi : (asIntOf (nt k)).run P w = .ok (IntKind.i64, (k : Int)) w := rfl
  have : (Instr.slice t (.slice a len cap) (some (nt k)) none none).run P w = .ok (.slice (fromA a cap k n) (len - k) (cap - k)) w := by
    simp only [Instr.slice, Instr.sliceBounds, Instr.sliceBound, Sem.run_bind, run_underlying hu, hi, Result.andThen_ok, Sem.run_pure, hz]
    have hle : (0 : Int) ≤ (k : Int) ∧ (k : Int) ≤ (len : Int) := by omega
    simp only [Sem.run_ite, if_pos hle, Sem.run_pure, Result.andThen_ok, Sem.run_bind, hz]
    simp [fromA]
  simp [this, Instr.sliceAt, run_underlying hu]
end
end Go.W
namespace Go.W
def AllL (p : Nat → Prop) : List Nat → Prop
  | [] => True
  | i :: l => p i ∧ AllL p l
theorem AllL.mem {p : Nat → Prop} : ∀ {l : List Nat}, AllL p l → ∀ i, i ∈ l → p i
  | j :: l, h, i, hi => by
    rcases List.mem_cons.1 hi with rfl | hi
    · exact h.1
    · exact h.2.mem i hi
section
variable {P : Program} {x : Cx} {fr : Fr} {D : Imm} {hp : Hp} {Q : Exit → Act → World → Prop} {ops : Array Oper} {D0 : Imm} {hp0 : Hp} {n : Nat} {listed : Array Bool}
theorem WH.all (rs : List Nat) (hr : decide (Region.ready .any ops listed = rs) = true) (hne : rs ≠ []) (h : AllL (WHo P x ops D0 hp0 n listed fr D hp Q) rs) : WH P x ops D0 hp0 (n + 1) listed fr D hp Q := fun a w hA hI =>
  wpAnyH_all (of_decide_eq_true hr) hne fun i hi => h.mem i hi a w hA hI
theorem WH.ofFr (fr' : Fr) (hf : subB fr' fr) (h : WH P x ops D0 hp0 n listed fr' D hp Q) : WH P x ops D0 hp0 n listed fr D hp Q := fun a w hA => h a w (at_fr hA hf)
theorem perm1 {α : Type} (e : α) (A T : List α) : (e :: (A ++ T)).Perm (A ++ e :: T) := List.perm_middle.symm
theorem perm2 {α : Type} (e : α) (A B T : List α) : (e :: (A ++ (B ++ T))).Perm (A ++ (B ++ e :: T)) := by
  have h := perm1 e (A ++ B) T
  rwa [List.append_assoc, List.append_assoc] at h
end
end Go.W
namespace Go.W
theorem Inv.none {D : Imm} {hp : Hp} {S : List Nat} {w0 w : World} (h : Inv D hp S w0 w) : Inv D [] S w0 w := h.sub (fun _ he => nomatch he) List.nodup_nil
end Go.W
namespace Go.W
variable {P : Program} {x : Cx} {fr : Fr} {D : Imm} {hp : Hp}
end Go.W
namespace Go.W
section
variable {P : Program} {x : Cx} {fr : Fr} {D : Imm} {hp : Hp} {ty : TypeId} {Q : Exit → Act → World → Prop}
end
end Go.W
namespace Go.W
abbrev st (l : List UInt8) : Value := .string ⟨l.toArray⟩
abbrev bt (b : UInt8) : Value := .int .u8 (b.toNat : Int)
theorem st_size (l : List UInt8) : (⟨l.toArray⟩ : ByteArray).size = l.length := by simp [ByteArray.size]
theorem st_list (l : List UInt8) : (⟨l.toArray⟩ : ByteArray).toList = l := by rw [Lib.toList_data]
theorem st_inj {a b : List UInt8} (h : st a = st b) : a = b := by
  simp only [st, Value.string.injEq, ByteArray.mk.injEq] at h
  simpa using congrArg Array.toList h
section
variable {P : Program} {x : Cx} {fr : Fr} {D : Imm} {hp : Hp} {ty : TypeId} {Q : Exit → Act → World → Prop}
theorem Yd.binS {op : BinOp} {t t' : TypeId} {o p : Operand} {a b : List UInt8} {v : Value} (ho : opv fr o = some (st a)) (hp' : opv fr p = some (st b)) (hv : ∀ w, (Op.stringOp op ⟨a.toArray⟩ ⟨b.toArray⟩).run P w = .ok v w) :
    Yd P x fr D hp (.binOp op t o p t') ty v := fun act w _ _ _ _ hA _ => by
  simp only [execOp, hA.eval ho, hA.eval hp']
  have hg : (eqGuard op t o p (st a) (st b)).run P w = .ok () w := by unfold eqGuard; split <;> rfl
  have hb : (Go.binOp op t (st a) (st b)).run P w = .ok v w := by
    have : Go.binOp op t (st a) (st b) = Op.stringOp op ⟨a.toArray⟩ ⟨b.toArray⟩ := by cases op <;> rfl
    rw [this]; exact hv w
  simp [hg, hb]
theorem Yd.eqS' {t t' : TypeId} {o p : Operand} {a b : List UInt8} (ho : opv fr o = some (st a)) (hp' : opv fr p = some (st b)) : Yd P x fr D hp (.binOp .eql t o p t') ty (.bool (decide (a = b))) :=
  .binS ho hp' fun w => by
    have : (a == b) = decide (a = b) := by rw [Bool.eq_iff_iff]; simp
    simp only [Op.stringOp, st_list, this]; rfl
theorem Yd.neS' {t t' : TypeId} {o p : Operand} {a b : List UInt8} (ho : opv fr o = some (st a)) (hp' : opv fr p = some (st b)) : Yd P x fr D hp (.binOp .neq t o p t') ty (.bool (decide (a ≠ b))) :=
  .binS ho hp' fun w => by
    have : (!(a == b)) = decide (a ≠ b) := by rw [Bool.eq_iff_iff]; simp
    simp only [Op.stringOp, st_list, this]; rfl
theorem Yd.lenStr {t : TypeId} {ts : Array TypeId} {p : Operand} {a : List UInt8} (ht : ts[0]? = some t) (hu : P.underlying t = some .string) (hp' : opv fr p = some (st a)) :
    Yd P x fr D hp (.call ⟨.builtin .len, #[p], ts⟩) ty (nt a.length) := fun act w _ _ _ _ hA _ => by
  simp only [execOp, resolve, List.map_toArray, List.map_cons, List.map_nil, hA.eval hp']
  simp [invoke, builtin, Builtin.len_, ht, run_underlying hu, goInt, st_size]
theorem Yd.assertNo {o : Operand} {xt t t' : TypeId} {d : TypeDesc} {v z : Value} (hu : P.underlying t = some d) (hd : ∀ ms, d ≠ .interface ms) (hz : ∀ w, (zeroValue t).run P w = .ok z w) (ho : opv fr o = some (.iface t' v)) (hne : Nat.beq t' t = false) :
    Yd P x fr D hp (.typeAssert o xt t true) ty (.tuple #[z, .bool false]) := fun a w _ _ _ _ hA _ => by
  simp only [execOp, hA.eval ho]
  have hn : ¬ t' = t := fun e => by subst e; simp at hne
  have : (Instr.typeAssert (.iface t' v) xt t true).run P w = .ok (.tuple #[z, .bool false]) w := by
    unfold Instr.typeAssert
    simp only [Sem.run_bind, run_underlying hu, Result.andThen_ok]
    cases d <;> simp [hn, hz] at hd ⊢
  simp [this]
end
end Go.W
namespace Go.W
def WpN (f : FuncId) (P : Program) (c : Code) (Q : Exit → Act → World → Prop) (a : Act) (w : World) : Prop :=
  ∀ (b : Frame) (k : List Item) (cs : List Frame), b.roundOf = none → b.fn = f → ∃ e a' w', Q e a' w' ∧ ArrivesIn (Machine.fenced P Fence.wide) P (lone (b.atR a (.code c :: k)) cs w) b k cs e a' w'
def WCn (f : FuncId) (P : Program) (x : Cx) (fr : Fr) (D : Imm) (hp : Hp) (c : Code) (Q : Exit → Act → World → Prop) : Prop := ∀ a w, At x fr D hp a w → WpN f P c Q a w
theorem sIn {P : Program} {m m' : Machine} (h : step P m = .next m') : StepsIn (Machine.fenced P Fence.wide) P m m' := stepsIn_wide.2 (.one h)
section
variable {f : FuncId} {P : Program} {x : Cx} {fr : Fr} {D : Imm} {hp : Hp} {Q : Exit → Act → World → Prop}
theorem WCn.of {c : Code} (h : WC P x fr D hp c Q) : WCn f P x fr D hp c Q := fun a w hA b k cs hro _ => (wpIn_wide (n := 0)).2 (h a w hA) b k cs hro trivial (fun _ h => by cases h)
theorem WCn.seq {c d : Code} (h : WCn f P x fr D hp c (Exit.then (WpN f P d Q) Q)) : WCn f P x fr D hp (.seq c d) Q := fun a w hA b k cs hro hf => by
  obtain ⟨e, a₁, w₁, hq, harr⟩ := h a w hA b (.code d :: k) cs hro hf
  have h0 : StepsIn (Machine.fenced P Fence.wide) P (lone (b.atR a (.code (.seq c d) :: k)) cs w) (lone (b.atR a (.code c :: .code d :: k)) cs w) := sIn stepR_seq
  cases e with
  | normal =>
    obtain ⟨e', a₂, w₂, hq', harr'⟩ := hq b k cs hro hf
    exact ⟨e', a₂, w₂, hq', .of_steps (h0.trans harr) harr'⟩
  | exit id =>
    have hx : exitTo id (.code d :: k) = exitTo id k := by simp [exitTo]
    exact ⟨.exit id, a₁, w₁, hq, fun k' hk => h0.trans (harr.1 k' (by rw [hx]; exact hk)), fun hr => by rw [hro] at hr; cases hr⟩
  | goto l => exact ⟨.goto l, a₁, w₁, hq, fun k' hk => h0.trans (harr.1 k' (by simpa [gotoIn] using hk)), fun hr => by rw [hro] at hr; cases hr⟩
  | ret => exact ⟨_, a₁, w₁, hq, .of_steps h0 harr⟩
  | panic ch => exact ⟨_, a₁, w₁, hq, .of_steps h0 harr⟩
  | outgrown => exact ⟨_, a₁, w₁, hq, .of_steps h0 harr⟩
theorem WCn.block {id : Nat} {c : Code} (h : WCn f P x fr D hp c (Exit.inBlock id Q)) : WCn f P x fr D hp (.block id c) Q := fun a w hA b k cs hro hf => by
  obtain ⟨e, a₁, w₁, hq, harr⟩ := h a w hA b (.inBlock id :: k) cs hro hf
  have h0 : StepsIn (Machine.fenced P Fence.wide) P (lone (b.atR a (.code (.block id c) :: k)) cs w) (lone (b.atR a (.code c :: .inBlock id :: k)) cs w) := sIn stepR_block
  cases e with
  | normal => exact ⟨.normal, a₁, w₁, hq, h0.trans (StepsIn.trans harr (sIn stepR_inBlock))⟩
  | exit id' =>
    by_cases hi : id' = id
    · subst hi
      have hq' : Q .normal a₁ w₁ := by
        have : (if id' = id' then Q .normal a₁ w₁ else Q (.exit id') a₁ w₁) := hq
        rwa [if_pos rfl] at this
      exact ⟨.normal, a₁, w₁, hq', h0.trans (harr.1 k (by simp [exitTo]))⟩
    · have hq' : Q (.exit id') a₁ w₁ := by
        have : (if id' = id then Q .normal a₁ w₁ else Q (.exit id') a₁ w₁) := hq
        rwa [if_neg hi] at this
      have hx : exitTo id' (.inBlock id :: k) = exitTo id' k := by simp [exitTo]; intro e; exact absurd e.symm hi
      exact ⟨.exit id', a₁, w₁, hq', fun k' hk => h0.trans (harr.1 k' (by rw [hx]; exact hk)), fun hr => by rw [hro] at hr; cases hr⟩
  | goto l => exact ⟨.goto l, a₁, w₁, hq, fun k' hk => h0.trans (harr.1 k' (by simpa [gotoIn] using hk)), fun hr => by rw [hro] at hr; cases hr⟩
  | ret => exact ⟨_, a₁, w₁, hq, .of_steps h0 harr⟩
  | panic ch => exact ⟨_, a₁, w₁, hq, .of_steps h0 harr⟩
  | outgrown => exact ⟨_, a₁, w₁, hq, .of_steps h0 harr⟩
theorem WCn.ofFr {c : Code} (fr' : Fr) (hf : subB fr' fr) (h : WCn f P x fr' D hp c Q) : WCn f P x fr D hp c Q := fun a w hA => h a w ⟨hA.f.weaken (subB_get hf), hA.i⟩
theorem WP.thenCn {d : Code} (h : WCn f P x fr D hp d Q) : WP x fr D hp .normal (Exit.then (WpN f P d Q) Q) := h
end
def roundPostP (P : Program) (l : Nat) (R : Ending → World → Prop) : Exit → Act → World → Prop
  | .normal, _, w => ∃ v w', (Instr.endRound l none).run P w = .ok v w' ∧ R (.returned v) w'
  | .panic ch, a, w => a.defers = [] ∧ R (.panicked ch) w
  | _, _, _ => False
theorem roundInP {P : Program} {l : Nat} {fn : FuncId} {g : Func} {tmps : Array Value} {assign body : Code} {w : World} {R : Ending → World → Prop} (hg : P.funcs[fn]? = some g)
    (h : assign.wpIn (Fx (some l)) 0 P (Exit.then (fun a₁ w₁ => ∃ w₂, (Instr.beginRound l).run P w₁ = .ok () w₂ ∧ body.wpIn (Fx (some l)) 0 P (roundPostP P l R) a₁ w₂) (fun _ _ _ => False)) { tmps := tmps, defers := [] } w) :
    RoundIn Fence.wide 0 P l fn tmps assign body w R := by
  refine ⟨trivial, fun c cs _ => ?_⟩
  let b : Frame := { (default : Frame) with fn := fn, kind := .normal, roundOf := some l }
  have hb0 : Frame.round l fn tmps assign body .normal = b.atR { tmps := tmps, defers := [] } [.code assign, .beginRound, .code body] := by
    simp [Frame.round, Frame.atR, b]
  have up : ∀ {m m' : Machine}, StepsIn (Machine.fenced P (Fx (some l))) P m m' → Steps P m m' := fun s => s.steps
  obtain ⟨e, a₁, w₁, hq, harr⟩ := h b [.beginRound, .code body] (c :: cs) rfl trivial (fun _ h => by cases h)
  rw [← hb0] at harr
  cases e with
  | normal =>
    obtain ⟨w₂, hbr, hbody⟩ := hq
    have s1 : Steps P (lone (b.atR a₁ [.beginRound, .code body]) (c :: cs) w₁) (lone (b.atR a₁ [.code body]) (c :: cs) w₂) := .one (stepR_beginRound rfl hbr)
    obtain ⟨e₂, a₂, w₃, hq₂, harr₂⟩ := hbody b [] (c :: cs) rfl trivial (fun _ h => by cases h)
    cases e₂ with
    | normal =>
      obtain ⟨v, w₄, hend, hR⟩ := hq₂
      exact ⟨.returned v, w₄, hR, stepsIn_wide.2 (((up harr).trans s1).trans ((up harr₂).trans (.one (stepR_round_end rfl rfl hend))))⟩
    | panic ch =>
      obtain ⟨hd, hR⟩ := hq₂
      obtain ⟨todo, hs⟩ := harr₂
      exact ⟨.panicked ch, w₃, hR, stepsIn_wide.2 (((up harr).trans s1).trans ((up hs).trans (.one (step_leave_panicked ⟨rfl, hd, g, hg⟩))))⟩
    | exit id => exact hq₂.elim
    | goto t => exact hq₂.elim
    | ret => exact hq₂.elim
    | outgrown => exact hq₂.elim
  | exit id => exact hq.elim
  | goto t => exact hq.elim
  | ret => exact hq.elim
  | panic ch => exact hq.elim
  | outgrown => exact hq.elim
def RoundQ (W : World) (D : Imm) (S : List Nat) (K : Imm → Hp → Prop) (C : List PanicEntry → Imm → Hp → Prop) (e : Ending) (W' : World) : Prop :=
  ∃ D' hp', DExt W D D' ∧ Inv D' hp' S W W' ∧ ((e = .returned (.bool true) ∧ K D' hp') ∨ ∃ ch, e = .panicked ch ∧ C ch D' hp')
def AltersP (P : Program) (f : FuncId) (vals : List Value) (w : World) (D : Imm) (S : List Nat) (K : Imm → Hp → Prop) (C : List PanicEntry → Imm → Hp → Prop) : Prop :=
  Calls P f vals.toArray w fun e w' => ∃ D' hp', DExt w D D' ∧ Inv D' hp' S w w' ∧ ((∃ v, e = .returned v ∧ K D' hp') ∨ ∃ ch, e = .panicked ch ∧ C ch D' hp')
def IterP (P : Program) (gf : Nat) (lb : List Value) (N : Nat) (arg : Nat → Value) (D : Imm) (ih : Hp) (w : World) : Prop :=
  ∀ (l : Nat) (St : Nat → Imm → Hp → Prop) (C : List PanicEntry → Imm → Hp → Prop), (∀ k D1 D2 h, DExt w D1 D2 → St k D1 h → St k D2 h) →
    (∀ k D' h w', k < N → w.heap.size ≤ w'.heap.size → DExt w D D' → St k D' h → Inv D' h (keys h) w' w' → YieldAt Fence.wide 0 P l #[arg k] w' (RoundQ w' D' (keys h) (St (k + 1)) C)) →
    ∀ h0, St 0 D h0 → Inv D (ih ++ h0) (keys (ih ++ h0)) w w → AltersP P gf ((.func (.yield l) #[] #[]) :: lb) w D (keys (ih ++ h0)) (St N) C
section
variable {f : FuncId} {P : Program} {x : Cx} {fr : Fr} {D : Imm} {hp : Hp} {Q : Exit → Act → World → Prop}
def RKP (l : Nat) (rec : Loop) (pre : Hp) (St : Imm → Hp → Prop) (D' : Imm) (h : Hp) : Prop := ∃ h1, h = (l, .loop rec) :: (pre ++ h1) ∧ St D' h1
def CKP (pre : Hp) (C : List PanicEntry → Imm → Hp → Prop) (ch : List PanicEntry) (D' : Imm) (h : Hp) : Prop := ∃ h1, h = pre ++ h1 ∧ C ch D' h1
def RoundGP (P : Program) (n : Nat) (l : Nat) (rec : Loop) (pre : Hp) (fr : Fr) (D1 : Imm) (h : Hp) (w1 : World) (assign body : Code) (St : Imm → Hp → Prop) (C : List PanicEntry → Imm → Hp → Prop) : Prop :=
  WCF P (some l) ⟨n, [], keys ((l, .loop rec) :: (pre ++ h)), w1⟩ fr D1 ((l, .loop rec) :: (pre ++ h)) assign
    (Exit.then (fun a₁ w₁ => ∃ w₂, (Instr.beginRound l).run P w₁ = .ok () w₂ ∧ body.wpIn (Fx (some l)) 0 P (roundPostP P l (RoundQ w1 D1 (keys ((l, .loop rec) :: (pre ++ h))) (RKP l rec pre St) (CKP pre C))) a₁ w₂) (fun _ _ _ => False))
theorem WP.iterOnP {l : Nat} {rec : Loop} {pre h1 : Hp} {D0 : Imm} {St : Imm → Hp → Prop} {C : List PanicEntry → Imm → Hp → Prop} (hr : rec.state = .ready ∧ rec.pending = none) (hsub : ∀ e, e ∈ (l, .loop (busyR rec)) :: (pre ++ h1) → e ∈ hp) (hn : (keys hp).Nodup → (keys ((l, .loop (busyR rec)) :: (pre ++ h1))).Nodup)
    (hD : DExt x.w0 D0 D) (h : St D h1) : WP x fr D hp .normal (roundPostP P l (RoundQ x.w0 D0 x.S (RKP l rec pre St) (CKP pre C))) := fun a w hA => by
  have hI := hA.i.sub hsub (hn hA.i.nodup)
  have hl := hI.own _ _ (List.mem_cons_self)
  have hI2 := inv_putObj hI (k := 0) rfl (.loop { busyR rec with state := .ready, pending := none })
  refine ⟨_, _, run_endRound none hl, D, _, hD, hI2, .inl ⟨rfl, h1, ?_, h⟩⟩
  show (l, Obj.loop { busyR rec with state := .ready, pending := none }) :: _ = _
  rw [show ({ busyR rec with state := .ready, pending := none } : Loop) = { rec with state := .ready, pending := none } from rfl, rec_eta' hr.1 hr.2]
theorem WP.iterPanic {l : Nat} {ch : List PanicEntry} {pre h1 : Hp} {D0 : Imm} {K : Imm → Hp → Prop} {C : List PanicEntry → Imm → Hp → Prop} (hd : x.ds = []) (hsub : ∀ e, e ∈ pre ++ h1 → e ∈ hp) (hn : (keys hp).Nodup → (keys (pre ++ h1)).Nodup)
    (hD : DExt x.w0 D0 D) (h : C ch D h1) : WP x fr D hp (.panic ch) (roundPostP P l (RoundQ x.w0 D0 x.S K (CKP pre C))) := fun _ _ hA =>
  ⟨hA.f.defers.trans hd, D, _, hD, hA.i.sub hsub (hn hA.i.nodup), .inr ⟨ch, rfl, h1, rfl, h⟩⟩
theorem WCn.rangeIterP {g : Operand} {pm : Tmp} {assign body : Code} {gf : Nat} {lb : List Value} {N : Nat} {arg : Nat → Value} {fn : Func} (ih hp0 : Hp) (hhp : hp = ih ++ hp0) (hfn : P.funcs[f]? = some fn) (hit : ∀ w, x.w0.heap.size ≤ w.heap.size → Holds D w → IterP P gf lb N arg D ih w) (hg : opv fr g = some (.func (.func gf) #[] lb.toArray)) (hc : ∀ args w, (callFunc gf args).run P w = .ok (.enter gf args) w) (hpm : Nat.blt pm x.n = true)
    (St : Nat → Imm → Hp → Prop) (C : List PanicEntry → Imm → Hp → Prop) (hmono : ∀ k D1 D2 h, DExt x.w0 D1 D2 → St k D1 h → St k D2 h) (h0 : St 0 D hp0)
    (hbody : ∀ rec l Dn k D1 h w1, (rec.state = .ready ∧ rec.pending = none) → k < N → St k D1 h → DExt x.w0 D D1 → x.w0.heap.size ≤ w1.heap.size → RoundGP P x.n l rec [(Dn, .deferred (some []))] ((pm, arg k) :: fr) D1 h w1 assign body (St (k + 1)) C)
    (hdone : ∀ Dn D' hp', x.w0.heap.size ≤ Dn → DExt x.w0 D D' → St N D' hp' → WP ⟨x.n, markOf Dn :: x.ds, x.S, x.w0⟩ fr D' ((Dn, .deferred (some [])) :: hp') .normal Q)
    (hpan : ∀ Dn ch D' hp', x.w0.heap.size ≤ Dn → DExt x.w0 D D' → C ch D' hp' → WP ⟨x.n, markOf Dn :: x.ds, x.S, x.w0⟩ fr D' ((Dn, .deferred (some [])) :: hp') (.panic ch) Q) :
    WCn f P x fr D hp (.rangeFunc g #[pm] assign body) Q := fun a w hA b k cs hro hf => by
  let rcd : Loop := { state := .ready, pending := none, fn := f, tmps := a.tmps, params := #[pm], assign, body, defers := w.heap.size }
  let w₁ : World := (w.alloc (.deferred (some []))).alloc (.loop rcd)
  let Dn := w.heap.size
  let l := w.heap.size + 1
  have hI1 : Inv D ((l, .loop rcd) :: (Dn, .deferred (some [])) :: hp) x.S x.w0 w₁ := by
    have h1 := hA.i.new (.deferred (some []))
    have h2 := h1.new (.loop rcd)
    simp only [Array.size_push] at h2
    exact h2
  subst hhp
  have hp' : List.Perm ((l, Obj.loop rcd) :: (Dn, .deferred (some [])) :: (ih ++ hp0)) (ih ++ ((l, .loop rcd) :: ([(Dn, .deferred (some []))] ++ hp0))) := by
    refine List.Perm.trans ?_ (List.perm_middle.symm)
    refine List.Perm.cons _ ?_
    exact (List.perm_middle (l₁ := ih) (l₂ := hp0) (a := (Dn, Obj.deferred (some [])))).symm
  have hI1' : Inv D (ih ++ ((l, .loop rcd) :: ([(Dn, .deferred (some []))] ++ hp0))) x.S x.w0 w₁ := hI1.sub (fun _ he => hp'.mem_iff.2 he) ((hp'.map Prod.fst).nodup_iff.1 hI1.nodup)
  have hsz := hI1.keep.size
  have hev : a.eval g = .func (.func gf) #[] lb.toArray := hA.f.eval hg
  have hT : AtF x.n fr [] ⟨rcd.tmps, []⟩ := ⟨hA.f.size, rfl, hA.f.slot⟩
  have hal := hit w₁ hsz hI1.imm l (fun k D' h => RKP l rcd [(Dn, .deferred (some []))] (St k) D' h) (CKP [(Dn, .deferred (some []))] C) (by
    rintro k D1 D2 h hx ⟨h1, rfl, hs⟩
    exact ⟨h1, rfl, hmono _ _ _ _ (hx.wide hsz) hs⟩) (by
    rintro k D1 h w' hk hsz2 hX ⟨h1, rfl, hs⟩ hI2
    have hb := hbody rcd l Dn k D1 h1 w' ⟨rfl, rfl⟩ hk hs (hX.wide hsz) (Nat.le_trans hsz hsz2)
    have hl := hI2.own _ _ (List.mem_cons_self)
    exact ⟨_, _, _, _, run_yield hl rfl, roundInP (g := fn) hfn (hb _ _ ⟨hT.round1 hpm, hI2⟩)⟩) _ ⟨hp0, rfl, h0⟩ hI1'.toKeys
  have henter := stepR_rangeFunc (P := P) (b := b) (a := a) (k := k) (cs := cs) (w := w) (g := g) (ps := #[pm]) (assign := assign) (body := body) (l := l) (mark := [markOf Dn]) (w₁ := w₁) (w₁' := w₁) (w₂ := w₁) (d := { target := .fn (.func gf) lb.toArray, args := #[.func (.yield l) #[] #[]] }) (f := gf) (args := (.func (.yield l) #[] #[] :: lb).toArray)
    (by rw [hro, hf]; exact run_enterLoop_outer f a.tmps #[pm] assign body) (by
      have he : a.eval (.const (.func (.yield l) #[] #[])) = .func (.yield l) #[] #[] := rfl
      simp [rangeCall, resolve, hev, Deferred.ofValue, he]) (by simp [invoke, hc])
  obtain ⟨e, w₃, frm, hR, hcomes, _, hleave⟩ := hal (b.atR { a with defers := [markOf Dn] ++ a.defers } (.inRangeFunc l :: k) :: cs)
  obtain ⟨D', hp', hXe, hIe, hK⟩ := hR
  have hIu : ∀ {h' : Hp}, h' = hp' → Inv D' h' x.S x.w0 w₃ := fun {h'} e => by
    subst e
    exact Inv.unframeN (own := []) hI1' (fun _ h => h) (fun b hb => by
      obtain ⟨o, ho⟩ := mem_key hb
      exact hIe.may b o ho) hXe hIe
  rcases hK with ⟨v, rfl, h1, rfl, hs⟩ | ⟨ch, rfl, h1, rfl, hs⟩
  · have hI' := hIu rfl
    have hl := hI'.own _ _ (List.mem_cons_self)
    have hend := run_endLoop (P := P) hl (show LoopState.ready ≠ LoopState.busy by decide)
    have hI2 := (inv_putObj hI' (k := 0) rfl (.loop { rcd with state := .exhausted, pending := none })).tail
    have haf := hdone Dn D' h1 hA.i.keep.size (hXe.wide hsz) hs
    refine ⟨.normal, { a with defers := [markOf Dn] ++ a.defers }, _, haf _ _ ⟨⟨hA.f.size, by show markOf Dn :: a.defers = _; rw [hA.f.defers], hA.f.slot⟩, hI2⟩, ?_⟩
    refine stepsIn_wide.2 ((Steps.one henter).trans (Steps.trans hcomes ((Steps.one ?_).trans (.one (stepR_endRangeFunc hend)))))
    rw [← finish_atR_inRangeFunc l v]; exact step_leave_returned hleave
  · have hI' := hIu rfl
    have haf := hpan Dn ch D' h1 hA.i.keep.size (hXe.wide hsz) hs
    refine ⟨.panic ch, _, _, haf { a with defers := [markOf Dn] ++ a.defers } _ ⟨⟨hA.f.size, by show markOf Dn :: a.defers = _; rw [hA.f.defers], hA.f.slot⟩, hI'⟩, .inRangeFunc l :: k, ?_⟩
    refine stepsIn_wide.2 ((Steps.one henter).trans (Steps.trans hcomes (.one ?_)))
    rw [← Frame.raise_atR]; exact step_leave_panicked hleave
theorem enterMn {fn : Func} {c : Code} {args : List Value} {S : List Nat} {w : World} {R : Ending → World → Prop}
    (hf : P.funcs[f]? = some fn) (hb : fn.body = some c) (n : Nat) (hn : fn.ntmps = n) (hl : args.length ≤ n) (hI : Inv D hp S w w)
    (h : WCn f P ⟨n, [], S, w⟩ (argFr 0 args) D hp c (bodyPostM Fence.wide 0 P fn R)) : Calls P f args.toArray w R := by
  have h := h { tmps := args.toArray ++ Array.replicate (fn.ntmps - args.toArray.size) undef, defers := [] } w ⟨⟨by simp [hn]; omega, rfl, fun t v ht => by
    obtain ⟨_, h2⟩ := argFr_get args 0 t v ht
    simp at h2
    have hlt : t < args.length := by
      rcases Nat.lt_or_ge t args.length with h3 | h3
      · exact h3
      · rw [List.getElem?_eq_none h3] at h2; cases h2
    simp [Array.getElem?_append, hlt]; exact (List.getElem?_eq_some_iff.1 h2).2⟩, hI⟩
  intro cs
  let b : Frame := { (default : Frame) with fn := f, kind := .normal, roundOf := none }
  have henter : Frame.enter P f args.toArray .normal = b.atR { tmps := args.toArray ++ Array.replicate (fn.ntmps - args.toArray.size) undef, defers := [] } [.code c] := by
    simp [Frame.enter, Frame.atR, hf, hb, b]
  obtain ⟨e, a', w', hq, harr⟩ := h b [] cs rfl rfl
  rw [← henter] at harr
  have fin : ∀ {e : Ending} {m m' : Machine}, ComesIn (Machine.fenced P Fence.wide) P m m' e → Comes P m m' e := fun h => comesIn_wide.1 h
  cases e with
  | normal =>
    obtain ⟨e', w'', fr', hR, hs, hfn, hl⟩ := leaves_stepsInM a'.defers .returning w' { b.atR a' [] with mode := .returning } cs rfl rfl rfl hf rfl trivial (fun _ h => by cases h) hq
    exact ⟨e', w'', fr', hR, fin (ComesIn.of_steps (StepsIn.trans harr (sIn (stepR_end rfl))) hs), hfn, hl⟩
  | ret =>
    obtain ⟨todo, hs₀⟩ := harr.1 rfl
    obtain ⟨e', w'', fr', hR, hs, hfn, hl⟩ := leaves_stepsInM a'.defers .returning w' { b.atR a' todo with mode := .returning } cs rfl rfl rfl hf rfl trivial (fun _ h => by cases h) hq
    exact ⟨e', w'', fr', hR, fin (ComesIn.of_steps hs₀ hs), hfn, hl⟩
  | panic chain =>
    obtain ⟨todo, hs₀⟩ := harr
    obtain ⟨e', w'', fr', hR, hs, hfn, hl⟩ := leaves_stepsInM a'.defers (.panicking chain) w' { b.atR a' todo with mode := .panicking chain } cs rfl rfl rfl hf rfl trivial (fun _ h => by cases h) hq
    exact ⟨e', w'', fr', hR, fin (ComesIn.of_steps hs₀ hs), hfn, hl⟩
  | exit id => exact hq.elim
  | goto l => exact hq.elim
  | outgrown => exact ⟨.outgrown, w', b, hq, harr.resolve_left (by simp [b]), rfl, trivial⟩
end
end Go.W
namespace Go.W
section
variable {P : Program} {x : Cx} {fr : Fr} {D : Imm} {hp : Hp} {Q : Exit → Act → World → Prop} {ty : TypeId} {rest : List Oper} {ops : Array Oper} {pos : String} {af : Array Edge}
theorem WC.start {c : Code} {a : Act} {w : World} (hA : At x fr D hp a w) (h : WC P x fr D hp c Q) : c.wp P Q a w := h a w hA
theorem Keep.drewN (w : World) (n : Nat) : Keep [] w (w.drewN n) := ⟨rfl, rfl, rfl, Nat.le_refl _, fun _ _ _ => rfl, fun _ _ => rfl⟩
theorem Keep.of_heap {w w' : World} (h1 : w'.os = w.os) (h2 : w'.tape = w.tape) (h3 : w'.output = w.output) (hs : w.heap.size ≤ w'.heap.size) (h : ∀ k, k < w.heap.size → w'.heap[k]? = w.heap[k]?) : Keep [] w w' :=
  ⟨h1, h2, h3, hs, fun k hk _ => h k hk, fun a ha => frozen_same (h a.block ha)⟩
theorem Keep.of_below {w w' : World} (h : RowKit.Below w.heap.size w w') : Keep [] w w' := .of_heap h.os h.tape h.output h.size h.block
theorem Keep.grow (w : World) (n : Nat) (os : Array Obj) : Keep [] w (Go.Sort.grow (w.drewN n) os) := .of_heap rfl rfl rfl (by show w.heap.size ≤ (w.heap ++ os).size; simp) fun k hk => by
  show (w.heap ++ os)[k]? = _
  rw [Array.getElem?_append_left hk]
end
end Go.W
namespace Go.W
section
variable {P : Program} {x : Cx} {fr : Fr} {D : Imm} {hp : Hp} {ty : TypeId} {Q : Exit → Act → World → Prop}
theorem Yd.indexV {t e : TypeId} {n k : Nat} {p q : Operand} {cs : List Value} {v : Value} (hu : P.underlying t = some (.array n e)) (hg : ∀ w, (isAgg e).run P w = .ok false w) (hz : ∀ w, (sizeOf e).run P w = .ok 1 w)
    (hp' : opv fr p = some (.agg cs.toArray)) (hq : opv fr q = some (nt k)) (hk : k < n) (hv : cs[k]? = some v) : Yd P x fr D hp (.index t p q) ty v := fun act w _ _ _ _ hA _ => by
  simp only [execOp, hA.eval hp', hA.eval hq]
  have h1 : (asIntOf (nt k)).run P w = .ok (IntKind.i64, (k : Int)) w := rfl
  have : (Instr.index t (.agg cs.toArray) (nt k)).run P w = .ok v w := by
    simp only [Instr.index, Sem.run_bind, h1, Result.andThen_ok, run_underlying hu]
    rw [if_pos (by omega)]
    simp [part, hg, hz, hv]
  simp [this]
theorem SO.ofYd {op : Op} {v : Value} (hy : Yd P x fr D hp op ty v) : SO P x fr D hp op ty Q (SameK D hp v) := fun a w dst pos af g next hA hn => by
  unfold Oper.wp
  rw [hy a w _ _ _ _ hA.f hA.i, Oper.upon_value]
  exact hn _ _ _ _ ⟨rfl, rfl, rfl⟩ hA.i
end
abbrev SKey := { l : List UInt8 // l.length ≤ 2 ^ 40 }
def kvS (y : SKey) : Value := st y.1
theorem kvS_key {P : Program} {k : TypeId} (hk : P.underlying k = some .string) (y : SKey) : ∃ l, keyOf P k (kvS y) = some l :=
  ⟨_, WideMaps.keyOf_string_mk hk (by rw [st_size]; have := y.2; have h : maxLen = 9223372036854775807 := rfl; omega)⟩
end Go.W
namespace Go.W
section
variable {P : Program} {x : Cx} {fr : Fr} {D : Imm} {hp : Hp} {ty : TypeId} {Q : Exit → Act → World → Prop}
def numb : Nat → List Value → List (Nat × Value)
  | _, [] => []
  | k, v :: r => (k, v) :: numb (k + 1) r
def oneC : List Value → Bool
  | [] => true
  | .agg _ :: _ => false
  | _ :: r => oneC r
theorem oneC_cons {v : Value} {r : List Value} (h : oneC (v :: r) = true) : v.cells = #[v] ∧ oneC r = true := by
  cases v <;> first | (exact ⟨rfl, h⟩) | (cases h)
theorem fill_ones : ∀ (vs pre post : List Value), oneC vs = true → post.length = vs.length → Instr.fill (fun i => some (i * 1, 1)) (pre ++ post).toArray (numb pre.length vs) = some (pre ++ vs).toArray
  | [], pre, post, _, h => by
    have : post = [] := List.length_eq_zero_iff.1 h
    subst this; rfl
  | v :: r, pre, [], _, h => by simp at h
  | v :: r, pre, p :: post, h1, h2 => by
    obtain ⟨hc, h3⟩ := oneC_cons h1
    have ih := fill_ones r (pre ++ [v]) post h3 (by simpa using h2)
    simp only [List.length_append, List.length_cons, List.length_nil, List.append_assoc, List.cons_append, List.nil_append] at ih
    rw [numb, Instr.fill, hc]
    simp only [Nat.mul_one] at ih ⊢
    rw [if_neg (by simp)]
    have e : (#[v].zipIdx.foldl (fun cs (x : Value × Nat) => cs.setIfInBounds (pre.length + x.2) x.1) (pre ++ p :: post).toArray) = (pre ++ v :: post).toArray := by
      simp
    exact (congrArg (fun a => Instr.fill (fun i => some (i, 1)) a (numb (pre.length + 1) r)) e).trans ih
theorem SO.buildSlice1 {t e : TypeId} {len : Nat} {z : Value} {zs vs : List Value} {ps : List (Nat × Operand)}
    (hu : P.underlying t = some (.slice e)) (hz : ∀ w, (sizeOf e).run P w = .ok 1 w) (hzero : ∀ w, (zeroValue e).run P w = .ok z w) (hzs : z.cells = zs.toArray) (hl0 : Nat.beq (len * 1) 0 = false) (hl : Nat.ble (len * 1) (2 ^ 24) = true)
    (hp' : opps fr ps = some (numb 0 vs)) (h1 : oneC vs = true) (hn : Nat.beq vs.length len = true) :
    SO P x fr D hp (.buildSlice t len ps.toArray) ty Q (NewS x D hp vs e len) :=
  SO.buildSlice hu hz hzero hzs hl0 hl hp' (by
    have := fill_ones vs [] (zeroL zs (len * 1)) h1 (by rw [zeroL_len, Nat.eq_of_beq_eq_true hn]; omega)
    simpa using this)
end
end Go.W
theorem Go.W.WC.drop {P : Go.Program} {x : Go.W.Cx} {fr : Go.W.Fr} {D : Go.W.Imm} {hp : Go.W.Hp} {Q : Go.Exit → Go.Act → Go.World → Prop} {c : Go.Code} (k : Nat) (h : Go.W.WC P x fr D (hp.drop k) c Q) : Go.W.WC P x fr D hp c Q := fun a w hA => h a w ⟨hA.f, hA.i.drop k⟩
namespace Go.W
section
variable {P : Program} {x : Cx} {fr : Fr} {D : Imm} {hp : Hp} {ty : TypeId} {Q : Exit → Act → World → Prop}
theorem SO.appendOwW {W : World} (hW : W.heap.size ≤ x.w0.heap.size) {t e : TypeId} {o : Option Ow} {len n size : Nat} {xs ys : List Value} {info : TypeInfo} {z : Value} {ts : Array TypeId} {a1 a2 : Operand} {vy : Value} (drp base hp0 : Hp)
    (ht : ts[0]? = some t) (ht' : ts[1]? = some t) (hu : P.underlying t = some (.slice e)) (hz : ∀ w, (sizeOf e).run P w = .ok size w) (hi : ∀ w, (typeInfo e).run P w = .ok info w) (hzero : ∀ w, (zeroValue e).run P w = .ok z w) (hzl : z.cells.size = size)
    (hs : opv fr a1 = some (owV o len)) (hy : opv fr a2 = some vy) (hhp : hp = drp ++ (base ++ owH o e xs hp0)) (hyr : RdS D hp size vy n ys) (hone : ∀ v ∈ ys, v.oneCell' = true)
    (how : owP W o len size) (hxl : xs.length = len * size) (hn0 : 0 < n) (hb : (2 * (len + n) + 1000) * info.bytes ≤ 2 ^ 48) (hn : len + n ≤ 2 ^ 48) :
    SO P x fr D hp (.call ⟨.builtin .append, #[a1, a2], ts⟩) ty Q (AppK W D base hp0 e size (xs ++ ys) (len + n)) := fun a w dst pos af g next hA hnx => by
  have hrun : ∀ {v : Value} {w' : World}, (Builtin.append_ ts ty #[owV o len, vy]).run P w = .ok v w' → (execOp a.eval ⟨dst, .call ⟨.builtin .append, #[a1, a2], ts⟩, ty, pos, af, g⟩).run P w = .ok (.value v) w' := fun {v} {w'} h => by
    simp only [execOp, resolve, List.map_toArray, List.map_cons, List.map_nil, hA.f.eval hs, hA.f.eval hy]
    simp [invoke, builtin, h]
  unfold Oper.wp
  cases o with
  | none =>
    have h0 : len = 0 := how
    subst h0
    have hx0 : xs = [] := List.length_eq_zero_iff.1 (by simpa using hxl)
    subst hx0
    obtain ⟨cap', rest, h1, h2, h3⟩ := append_grow (P := P) (ty := ty) (cap := 0) (xs := []) (base := none) (s := owV none 0) ht ht' hu hz hi hzero hzl hA.i rfl ⟨by simp, .inl ⟨0, rfl, rfl⟩⟩ hyr (by omega) hb hn
    rw [hrun h3, Oper.upon_value]
    refine hnx _ _ _ _ ⟨⟨w.heap.size, cap', rest⟩, ⟨Nat.le_trans hW hA.i.keep.size, h1, h2⟩, rfl, rfl, rfl⟩ ?_
    have hI := (hA.i.drew (w.drawn + 1)).new (.cells ([] ++ ys ++ rest).toArray e (0, 0))
    subst hhp
    have hnd := hI.nodup
    simp only [owH, List.map_cons, List.map_append, List.nodup_cons] at hnd
    exact hI.sub (mem_mid (fun e' he' => List.mem_cons_of_mem _ (List.mem_append_right _ he')) List.mem_cons_self)
      (nodup_mid (fun h => hnd.1 (List.mem_append_right _ (List.mem_append.2 h))) (nodup_tail hnd.2))
  | some o =>
    obtain ⟨hwb, hlc, hrl⟩ := how
    have hk : hp[(drp ++ base).length]? = some (o.b, .cells (xs ++ o.rest).toArray e (0, 0)) := by
      subst hhp; rw [← List.append_assoc]; simp [owH]
    by_cases hg : len + n ≤ o.cap
    · have h3 := append_fit (P := P) (ty := ty) (s := owV (some o) len) ht ht' hu hz hA.i rfl hk hxl hrl hyr hone hg
      rw [hrun h3, Oper.upon_value]
      refine hnx _ _ _ _ ⟨⟨o.b, o.cap, o.rest.drop ys.length⟩, ⟨hwb, hg, by simp [hrl, hyr.1, ← Nat.sub_mul, Nat.sub_sub]⟩, rfl, rfl, rfl⟩ ?_
      have hI := hA.i.set hk (.cells (xs ++ ys ++ o.rest.drop ys.length).toArray e (0, 0))
      subst hhp
      have hnd := hI.nodup
      have hset : (drp ++ (base ++ owH (some o) e xs hp0)).set (drp ++ base).length (o.b, .cells (xs ++ ys ++ o.rest.drop ys.length).toArray e (0, 0)) = drp ++ (base ++ (o.b, .cells (xs ++ ys ++ o.rest.drop ys.length).toArray e (0, 0)) :: hp0) := by
        rw [← List.append_assoc, List.set_append_right _ _ (by omega)]; simp [owH]
      rw [hset] at hI hnd
      rw [List.map_append] at hnd
      exact hI.sub (fun e' he' => List.mem_append_right _ he') (nodup_tail hnd)
    · obtain ⟨cap', rest, h1, h2, h3⟩ := append_grow (P := P) (ty := ty) (cap := o.cap) (xs := xs) (s := owV (some o) len) ht ht' hu hz hi hzero hzl hA.i rfl
        ⟨hxl, .inr ⟨o.b, 0, o.cap, rfl, fun j v hj => by
          have := Rd.own (D := D) (hp := hp) hk (off := 0 + j) (v := v) (by
            rw [Nat.zero_add, List.getElem?_append_left (List.getElem?_eq_some_iff.1 hj).1]; exact hj)
          exact this⟩⟩ hyr (by omega) hb hn
      rw [hrun h3, Oper.upon_value]
      refine hnx _ _ _ _ ⟨⟨w.heap.size, cap', rest⟩, ⟨Nat.le_trans hW hA.i.keep.size, h1, h2⟩, rfl, rfl, rfl⟩ ?_
      have hI := (hA.i.drew (w.drawn + 1)).new (.cells (xs ++ ys ++ rest).toArray e (0, 0))
      subst hhp
      have hnd := hI.nodup
      simp only [owH, List.map_cons, List.map_append, List.nodup_cons] at hnd
      have hnd2 := nodup_tail hnd.2
      refine hI.sub (mem_mid (fun e' he' => List.mem_cons_of_mem _ (List.mem_append_right _ ?_)) List.mem_cons_self) (nodup_mid (fun h => hnd.1 (List.mem_append_right _ ?_)) ?_)
      · rcases List.mem_append.1 he' with h | h
        · exact List.mem_append_left _ h
        · exact List.mem_append_right _ (List.mem_cons_of_mem _ h)
      · rcases h with h | h
        · exact List.mem_append_left _ h
        · exact List.mem_append_right _ (List.mem_cons_of_mem _ h)
      · rw [List.nodup_append] at hnd2 ⊢
        refine ⟨hnd2.1, (List.nodup_cons.1 hnd2.2.1).2, fun a ha b hb => hnd2.2.2 a ha b (List.mem_cons_of_mem _ hb)⟩
end
end Go.W
namespace Go.W
section
variable {P : Program} {x : Cx} {fr : Fr} {D : Imm} {hp : Hp} {ty : TypeId} {Q : Exit → Act → World → Prop}
end
theorem noLets.roundP {P : Program} {l : Nat} {R : Ending → World → Prop} : ¬ LetsOut (roundPostP P l R) := fun ⟨_, _, h⟩ => h
theorem QuietPanic.roundP {P : Program} {l : Nat} {R : Ending → World → Prop} : QuietPanic (roundPostP P l R) := fun c d v a w hq => by
  cases d <;> exact hq
theorem subS {a b : Hp} (h : List.Sublist a b) : (∀ e, e ∈ a → e ∈ b) ∧ ((keys b).Nodup → (keys a).Nodup) := ⟨fun _ he => h.subset he, fun hn => hn.sublist (h.map Prod.fst)⟩
theorem SlL.nil (D : Imm) (size : Nat) : SlL D size [] none 0 := ⟨rfl, fun _ _ h => by simp at h⟩
end Go.W
namespace Go.W
section
variable {P : Program} {x : Cx} {fr : Fr} {D : Imm} {hp : Hp} {Q : Exit → Act → World → Prop} {ty : TypeId}
def IterT (P : Program) (gf : Nat) (lb : List Value) (N : Nat) (arg : Nat → Value) (D : Imm) (M : Hp → Prop) (w : World) : Prop :=
  ∀ (l : Nat) (St : Nat → Imm → Hp → Prop) (Sp : Imm → Hp → Prop), (∀ k D1 D2 h, DExt w D1 D2 → St k D1 h → St k D2 h) →
    (∀ k D' h w', k < N → w.heap.size ≤ w'.heap.size → DExt w D D' → St k D' h → Inv D' h (keys h) w' w' → YieldAt Fence.wide 0 P l #[arg k] w' (RoundN w' D' (keys h) (fun b D'' h' => (b = true ∧ St (k + 1) D'' h') ∨ (b = false ∧ Sp D'' h')))) →
    ∀ hM h0, M hM → St 0 D h0 → Inv D (hM ++ h0) (keys (hM ++ h0)) w w → AltersN P gf ((.func (.yield l) #[] #[]) :: lb) w D (keys (hM ++ h0)) (fun _ D' h' => ∃ hM' h1, h' = hM' ++ h1 ∧ M hM' ∧ (St N D' h1 ∨ Sp D' h1))
theorem Inv.permM {hp' : Hp} {S : List Nat} {w0 w : World} (h : Inv D hp S w0 w) (hs : hp.Perm hp') : Inv D hp' S w0 w :=
  h.sub (fun e he => hs.mem_iff.2 he) ((hs.map Prod.fst).nodup_iff.1 h.nodup)
theorem keys_perm {a b : Hp} (h : a.Perm b) {k : Nat} : k ∈ keys a ↔ k ∈ keys b := (h.map Prod.fst).mem_iff
theorem WC.rangeIterT {g : Operand} {pm : Tmp} {assign body : Code} {gf : Nat} {lb : List Value} {N : Nat} {arg : Nat → Value} {M : Hp → Prop} (hM hp0 : Hp) (hhp : hp = hM ++ hp0) (hMM : M hM) (hit : ∀ w, x.w0.heap.size ≤ w.heap.size → Holds D w → IterT P gf lb N arg D M w) (hg : opv fr g = some (.func (.func gf) #[] lb.toArray)) (hc : ∀ args w, (callFunc gf args).run P w = .ok (.enter gf args) w) (hpm : Nat.blt pm x.n = true)
    (St : Nat → Imm → Hp → Prop) (Sp : Code → Imm → Hp → Prop) (hmono : ∀ k D1 D2 h, DExt x.w0 D1 D2 → St k D1 h → St k D2 h) (h0 : St 0 D hp0)
    (hbody : ∀ rec l Dn k D1 h w1, (rec.state = .ready ∧ rec.pending = none) → k < N → St k D1 h → DExt x.w0 D D1 → x.w0.heap.size ≤ w1.heap.size → RoundGN P x.n l rec [(Dn, .deferred (some []))] ((pm, arg k) :: fr) D1 h w1 assign body (St (k + 1)) Sp)
    (hdone : ∀ Dn D' hM' hp', x.w0.heap.size ≤ Dn → DExt x.w0 D D' → M hM' → St N D' hp' → WP ⟨x.n, markOf Dn :: x.ds, x.S, x.w0⟩ fr D' ((Dn, .deferred (some [])) :: (hM' ++ hp')) .normal Q)
    (hstop : ∀ Dn c D' hM' hp', x.w0.heap.size ≤ Dn → DExt x.w0 D D' → M hM' → Sp c D' hp' → WC P ⟨x.n, markOf Dn :: x.ds, x.S, x.w0⟩ fr D' ((Dn, .deferred (some [])) :: (hM' ++ hp')) c Q) :
    WC P x fr D hp (.rangeFunc g #[pm] assign body) Q := by
  subst hhp
  refine WC.rangeFuncM (K := fun D' hp' pend => DExt x.w0 D D' ∧ ∃ hM' h1, hp' = hM' ++ h1 ∧ M hM' ∧ ((pend = none ∧ St N D' h1) ∨ ∃ c, pend = some c ∧ Sp c D' h1)) hg hc (fun rec l Dn w₁ hst hpe hps has hbo hT hDn hl hI => ?_) (fun Dn D' hp' pend hDn hK => ?_)
  · have hsz := hI.keep.size
    have hpm1 : ∀ (o : Obj) (a b : Hp), ((l, o) :: (Dn, Obj.deferred (some [])) :: (a ++ b)).Perm (a ++ ((l, o) :: ([(Dn, .deferred (some []))] ++ b))) := fun o a b => by
      refine List.Perm.trans ?_ List.perm_middle.symm
      refine List.Perm.cons _ ?_
      exact List.perm_middle.symm
    have hI1 := (hI.permM (hpm1 _ hM hp0)).toKeys
    refine Calls.mono (hit w₁ hsz hI.imm l (fun k D' h => ∃ h1, h = (l, .loop rec) :: ([(Dn, .deferred (some []))] ++ h1) ∧ St k D' h1) (fun D' h => ∃ c h1, h = (l, .loop { rec with state := .done, pending := some c }) :: ([(Dn, .deferred (some []))] ++ h1) ∧ Sp c D' h1) ?_ ?_ hM _ hMM ⟨hp0, rfl, h0⟩ hI1) ?_
    · rintro k D1 D2 h hx ⟨h1, rfl, hs⟩
      exact ⟨h1, rfl, hmono _ _ _ _ (hx.wide hsz) hs⟩
    · rintro k D1 h w' hk hsz2 hX ⟨h1, rfl, hs⟩ hI2
      have hb := hbody rec l Dn k D1 h1 w' ⟨hst, hpe⟩ hk hs (hX.wide hsz) (Nat.le_trans hsz hsz2)
      refine YieldAt.mono (roundAt (rec := rec) (k := 0) (n := x.n) (fr := (pm, arg k) :: fr) has hbo hI2 rfl (by rw [hps]; rfl) (by rw [hps]; exact hT.round1 hpm) hb) ?_
      rintro e w'' ⟨b, D', hp', rfl, hD, hI3, hK⟩
      refine ⟨b, D', hp', rfl, hD, hI3, ?_⟩
      rcases hK with ⟨rfl, h1, rfl, hs1⟩ | ⟨rfl, c, h1, rfl, hs1⟩
      · exact .inl ⟨rfl, h1, rfl, hs1⟩
      · exact .inr ⟨rfl, c, h1, rfl, hs1⟩
    · rintro e w' ⟨v, D', hpc', rfl, hXe, hIe, hM', h2, rfl, hMM', hK⟩
      have hIu := Inv.unframeN (own := []) hI (fun b hb => (keys_perm (hpm1 _ hM hp0)).2 hb) (fun b hb => by
        obtain ⟨o, ho⟩ := mem_key hb
        exact hIe.may b o ho) hXe hIe
      rw [List.nil_append] at hIu
      rcases hK with ⟨h1, rfl, hs⟩ | ⟨c, h1, rfl, hs⟩
      · refine ⟨v, D', hM' ++ h1, .ready, none, rfl, by decide, ?_, hXe.wide hsz, hM', h1, rfl, hMM', .inl ⟨rfl, hs⟩⟩
        rw [rec_eta' hst hpe]; exact hIu.permM (hpm1 _ hM' h1).symm
      · exact ⟨v, D', hM' ++ h1, .done, some c, rfl, by decide, hIu.permM (hpm1 _ hM' h1).symm, hXe.wide hsz, hM', h1, rfl, hMM', .inr ⟨c, rfl, hs⟩⟩
  · obtain ⟨hX, hM', h1, rfl, hMM', ⟨rfl, hs⟩ | ⟨c, rfl, hs⟩⟩ := hK
    · exact hdone Dn D' hM' h1 hDn hX hMM' hs
    · exact hstop Dn c D' hM' h1 hDn hX hMM' hs
def AltersV (P : Program) (f : FuncId) (vals : List Value) (w : World) (D : Imm) (S : List Nat) (K : Value → Imm → Hp → Prop) (C : List PanicEntry → Imm → Hp → Prop) : Prop :=
  Calls P f vals.toArray w fun e w' => ∃ D' hp', DExt w D D' ∧ Inv D' hp' S w w' ∧ ((∃ v, e = .returned v ∧ K v D' hp') ∨ ∃ ch, e = .panicked ch ∧ C ch D' hp')
theorem SO.altersV {c : Call} {f : FuncId} {vals : List Value} {S1 : List Nat} {K : Value → Imm → Hp → Prop} {C : List PanicEntry → Imm → Hp → Prop} (own hpc : Hp) (hhp : ∀ e, e ∈ own ++ hpc → e ∈ hp) (hnd : (keys hp).Nodup → (keys (own ++ hpc)).Nodup)
    (hS : ∀ b, b ∈ S1 → b ∈ keys hpc) (hS' : ∀ b, b ∈ keys hpc → b ∈ S1) (he : Enters P x fr D hp c ty f vals)
    (hk : ∀ w, x.w0.heap.size ≤ w.heap.size → Inv D hpc S1 w w → AltersV P f vals w D S1 K C)
    (hpan : ∀ ch D' h', C ch D' h' → DExt x.w0 D D' → WP x fr D' (own ++ h') (.panic ch) Q) : SO P x fr D hp (.call c) ty Q (AltK x.w0 D own K) := fun a w dst pos af g next hA hn => by
  unfold Oper.wp
  rw [he a w dst pos af g hA.f hA.i, Oper.upon_enter]
  have hI := hA.i.sub hhp (hnd hA.i.nodup)
  refine (hk w hA.i.keep.size (hI.frame hS')).mono fun e w' ⟨D', hpc', hD, hI', hK⟩ => ?_
  have hX : DExt x.w0 D D' := ⟨hD.old, fun b hb => hD.new b (Nat.lt_of_lt_of_le hb hA.i.keep.size)⟩
  have hIu : Inv D' (own ++ hpc') x.S x.w0 w' := hI.unframeN hS (fun b hb => by
    obtain ⟨o, ho⟩ := mem_key hb
    exact hI'.may b o ho) hD hI'
  rcases hK with ⟨v, rfl, hK⟩ | ⟨ch, rfl, hC⟩
  · exact hn _ _ _ _ ⟨hpc', hX, hK, rfl⟩ hIu
  · exact hpan ch D' hpc' hC hX a w' ⟨hA.f, hIu⟩
end
end Go.W
namespace Go.W
section
variable {α : Type} [DecidableEq α] {kv : α → Value} {P : Program} {x : Cx} {fr : Fr} {D : Imm} {hp : Hp} {ty : TypeId} {Q : Exit → Act → World → Prop} {t k e : TypeId} {es : Array MapEntry} {clock b j : Nat} {F : α → Option Int}
theorem findK_of (hinj : ∀ x y, kv x = kv y → x = y) (L : Go.Maps.Keyed P k) (hkey : ∀ y, ∃ l, keyOf P k (kv y) = some l) (hM : MapR kv es clock F) (y : α) (w : World) :
    ((Instr.findKey k (kv y) es.toList).run P w = .ok none w ∧ (∀ e ∈ es.toList, e.key ≠ kv y) ∧ F y = none) ∨ ∃ q e0 v, (Instr.findKey k (kv y) es.toList).run P w = .ok (some (q, it v)) w ∧ es.toList[q]? = some e0 ∧ e0.key = kv y ∧ e0.val = it v ∧ F y = some v := by
  obtain ⟨l, hl⟩ := hkey y
  rcases L.find w hl es.toList (fun e he => by obtain ⟨z, _, hz, _⟩ := hM.ent e he; rw [hz]; exact hkey z) with ⟨h1, h2⟩ | ⟨q, e0, h1, h2, h3⟩
  · refine .inl ⟨h1, h2, ?_⟩
    cases hF : F y with
    | none => rfl
    | some v => obtain ⟨e, he, hek⟩ := hM.all y v hF; exact absurd hek (h2 e he)
  · obtain ⟨z, v, g1, g2, g3⟩ := hM.ent e0 (List.mem_of_getElem? h2)
    have : z = y := hinj z y (by rw [← g1, h3])
    subst this
    exact .inr ⟨q, e0, v, by rw [h1, g2], h2, h3, g2, g3⟩
theorem Yd.lookKOk {m i : Operand} (hinj : ∀ x y, kv x = kv y → x = y) (L : Go.Maps.Keyed P k) (hkey : ∀ y, ∃ l, keyOf P k (kv y) = some l) (hu : P.underlying t = some (.map k e)) (hz : ∀ w, (zeroValue e).run P w = .ok (it 0) w)
    (hm : opv fr m = some (.map (some b))) {y : α} (hi : opv fr i = some (kv y)) (hj : hp[j]? = some (b, .map es clock)) (hM : MapR kv es clock F) : Yd P x fr D hp (.lookup t m i true) ty (.tuple #[it ((F y).getD 0), .bool (F y).isSome]) := fun a w _ _ _ _ hA hI => by
  have hb := hI.own _ _ (mem_of_get? hj)
  have hobj : (getObj b).run P w = .ok (.map es clock) w := by simp [getObj, Sem.run, hb]
  obtain ⟨l, hl⟩ := hkey y
  rcases findK_of hinj L hkey hM y w with ⟨h1, _, h3⟩ | ⟨q, e0, v, h1, _, _, _, h5⟩
  · have : (Instr.lookup t (.map (some b)) (kv y) true).run P w = .ok (.tuple #[it 0, .bool false]) w := by
      simp [Instr.lookup, run_underlying hu, hobj, L.check w _ hl, h1, hz]
    simp only [execOp, hA.eval hm, hA.eval hi, h3]
    simp [this]
  · have : (Instr.lookup t (.map (some b)) (kv y) true).run P w = .ok (.tuple #[it v, .bool true]) w := by
      simp [Instr.lookup, run_underlying hu, hobj, L.check w _ hl, h1]
    simp only [execOp, hA.eval hm, hA.eval hi, h5]
    simp [this]
theorem Yd.lookK {m i : Operand} (hinj : ∀ x y, kv x = kv y → x = y) (L : Go.Maps.Keyed P k) (hkey : ∀ y, ∃ l, keyOf P k (kv y) = some l) (hu : P.underlying t = some (.map k e)) (hz : ∀ w, (zeroValue e).run P w = .ok (it 0) w)
    (hm : opv fr m = some (.map (some b))) {y : α} (hi : opv fr i = some (kv y)) (hj : hp[j]? = some (b, .map es clock)) (hM : MapR kv es clock F) : Yd P x fr D hp (.lookup t m i false) ty (it ((F y).getD 0)) := fun a w _ _ _ _ hA hI => by
  have hb := hI.own _ _ (mem_of_get? hj)
  have hobj : (getObj b).run P w = .ok (.map es clock) w := by simp [getObj, Sem.run, hb]
  obtain ⟨l, hl⟩ := hkey y
  rcases findK_of hinj L hkey hM y w with ⟨h1, _, h3⟩ | ⟨q, e0, v, h1, _, _, _, h5⟩
  · have : (Instr.lookup t (.map (some b)) (kv y) false).run P w = .ok (it 0) w := by
      simp [Instr.lookup, run_underlying hu, hobj, L.check w _ hl, h1, hz]
    simp only [execOp, hA.eval hm, hA.eval hi, h3]
    simp [this]
  · have : (Instr.lookup t (.map (some b)) (kv y) false).run P w = .ok (it v) w := by
      simp [Instr.lookup, run_underlying hu, hobj, L.check w _ hl, h1]
    simp only [execOp, hA.eval hm, hA.eval hi, h5]
    simp [this]
def PutKK (kv : α → Value) (D : Imm) (hp : Hp) (j b : Nat) (F : α → Option Int) (y : α) (u : Int) (_ : Value) (D' : Imm) (hp' : Hp) : Prop :=
  D = D' ∧ ∃ es1 clock1, hp' = hp.set j (b, .map es1 clock1) ∧ MapR kv es1 clock1 (putF F y u)
theorem SO.putK {m i o : Operand} {u : Int} (hinj : ∀ x y, kv x = kv y → x = y) (L : Go.Maps.Keyed P k) (hkey : ∀ y, ∃ l, keyOf P k (kv y) = some l) (hu : P.underlying t = some (.map k e))
    (hm : opv fr m = some (.map (some b))) {y : α} (hi : opv fr i = some (kv y)) (ho : opv fr o = some (it u)) (hj : hp[j]? = some (b, .map es clock)) (hM : MapR kv es clock F) : SO P x fr D hp (.mapUpdate t m i o) ty Q (PutKK kv D hp j b F y u) := fun a w dst pos af g next hA hn => by
  have hb := hA.i.own _ _ (mem_of_get? hj)
  have hobj : (getObj b).run P w = .ok (.map es clock) w := by simp [getObj, Sem.run, hb]
  have hset : ∀ o', (setObj b o').run P w = .ok () { w with heap := w.heap.setIfInBounds b o' } := fun o' => by simp [setObj, Sem.run, hb]
  obtain ⟨l, hl⟩ := hkey y
  unfold Oper.wp
  rcases findK_of hinj L hkey hM y w with ⟨h1, h2, h3⟩ | ⟨q, e0, v, h1, h2, h3, h4, h5⟩
  · have : (Instr.mapUpdate t (.map (some b)) (kv y) (it u)).run P w = .ok () { w with heap := w.heap.setIfInBounds b (.map (es.push { key := kv y, val := it u, born := clock }) (clock + 1)) } := by
      simp [Instr.mapUpdate, run_underlying hu, hobj, L.check w _ hl, h1, hset]
    simp only [execOp, hA.f.eval hm, hA.f.eval hi, hA.f.eval ho]
    simp only [this, Sem.run_bind, Result.andThen_ok, Sem.run_pure, Sem.run_map, Oper.upon_value, Oper.upon_skip]
    exact hn _ _ _ _ ⟨rfl, _, _, rfl, hM.push hinj h2 u⟩ (hA.i.set hj _)
  · have hq : es[q]? = some e0 := by simpa using h2
    have hmod : es.modify q (fun e => { e with key := kv y, val := it u }) = es.modify q (fun e => { e with val := it u }) := by
      apply Array.ext'
      rw [Array.toList_modify, Array.toList_modify]
      apply List.ext_getElem?
      intro r
      rw [List.getElem?_modify, List.getElem?_modify]
      by_cases hr : q = r
      · subst hr; rw [h2]; simp [← h3]
      · simp [hr]
    have : (Instr.mapUpdate t (.map (some b)) (kv y) (it u)).run P w = .ok () { w with heap := w.heap.setIfInBounds b (.map (es.modify q fun e => { e with val := it u }) clock) } := by
      simp [Instr.mapUpdate, run_underlying hu, hobj, L.check w _ hl, h1, hq, h3, L.stays w hl, hset, hmod]
    simp only [execOp, hA.f.eval hm, hA.f.eval hi, hA.f.eval ho]
    simp only [this, Sem.run_bind, Result.andThen_ok, Sem.run_pure, Sem.run_map, Oper.upon_value, Oper.upon_skip]
    exact hn _ _ _ _ ⟨rfl, es.modify q (fun e => { e with val := it u }), clock, rfl, hM.write hinj h2 h3 u _ (fun e => ⟨rfl, rfl, rfl⟩)⟩ (hA.i.set hj _)
end
end Go.W
namespace Go.W
section
variable {P : Program} {x : Cx} {fr : Fr} {D : Imm} {hp : Hp} {ty : TypeId}
theorem wrU63 (n : Nat) (h : n < 2 ^ 63) : IntKind.u64.wrap (n : Int) = (n : Int) := by
  have : IntKind.u64.wrap (n : Int) = (n : Int) % 2 ^ 64 := by simp [IntKind.wrap, IntKind.bits, IntKind.signed]
  rw [this]; omega
theorem or_bits {a b : Nat} (ha : a < 2 ^ 63) (hb : b < 2 ^ 63) : (BitVec.ofInt 64 (a : Int) ||| BitVec.ofInt 64 (b : Int)).toNat = a ||| b := by
  rw [BitVec.toNat_or, BitVec.ofInt_natCast, BitVec.ofInt_natCast, BitVec.toNat_ofNat, BitVec.toNat_ofNat, Nat.mod_eq_of_lt (by omega), Nat.mod_eq_of_lt (by omega)]
theorem Yd.orU {t t' : TypeId} {o p : Operand} {a b : Nat} (ha : a < 2 ^ 63) (hb : b < 2 ^ 63) (ho : opv fr o = some (ut a)) (hp' : opv fr p = some (ut b)) : Yd P x fr D hp (.binOp .or t o p t') ty (ut (a ||| b)) :=
  .bin ho hp' fun w => by
    have : (Op.intBits .or .u64 (a : Int) (b : Int)).run P w = .ok (.int .u64 (IntKind.u64.wrap ((BitVec.ofInt 64 (a : Int) ||| BitVec.ofInt 64 (b : Int)).toNat))) w := rfl
    rw [or_bits ha hb, wrU63 _ (Nat.or_lt_two_pow ha hb)] at this
    simp [Go.binOp, this]
end
end Go.W
namespace Go.W
section
variable {P : Program} {x : Cx} {fr : Fr} {D : Imm} {hp : Hp} {ty : TypeId}
theorem Yd.fieldAddrZ {s e : TypeId} {fs : Array Field} {fd : Field} {f b c : Nat} {p : Operand} {cs : List Value} {fz : Nat × Nat} (k : Nat) (hu : P.underlying s = some (.struct fs)) (hf : fs[f]? = some fd) (hz : ∀ w, (sizeOf fd.type).run P w = .ok 0 w) (ho : fd.offset = 0) (hbo : fd.byteOffset = 0) (he : P.cellsOf e = c + 1) (hbc : byteOfCell P P.depth e 0 = some 0)
    (hk : hp[k]? = some (b, .cells cs.toArray e fz)) (hp' : opv fr p = some (.pointer (some ⟨b, 0, none⟩))) : Yd P x fr D hp (.fieldAddr s p f) ty (.pointer (some ⟨b, 0, none⟩)) := fun a w _ _ _ _ hA hI => by
  have hb := hI.own _ _ (mem_of_get? hk)
  have hsh : w.shape? b = some (e, cs.length) := by simp [World.shape?, hb]
  have h1 : (Instr.fieldAt s (.pointer (some ⟨b, 0, none⟩)) f).run P w = .ok (.pointer (some ⟨b, 0, none⟩)) w := by
    unfold Instr.fieldAt
    simp [run_underlying hu, hf, Instr.sureAddr, fieldPlace, hz, ho, hbo, partAt, byteOf, noView, viewAt, hsh, he, hbc]
  simp only [execOp, hA.eval hp']
  simp [h1]
end
end Go.W
namespace Go.W
section
variable {P : Program} {x : Cx} {fr : Fr} {D : Imm} {hp : Hp} {ty : TypeId}
theorem Yd.nilCheckM {o : Operand} {name : String} {t : TypeId} {v : Value} {cap : Array Value} (ho : opv fr o = some (.func (.method name) #[.iface t v] cap)) (hn : ∀ w, (nilAhead (P.types.size + Made.depth) t v name).run P w = .ok (some false) w) :
    Yd P x fr D hp (.nilCheck o) ty (.func (.method name) #[.iface t v] cap) := fun a w _ _ _ _ hA _ => by
  simp only [execOp, hA.eval ho]
  have hp : program.run P w = .ok P w := rfl
  simp [hn, hp]
end
end Go.W
namespace Go.W
section
variable {P : Program} {x : Cx} {fr : Fr} {D : Imm} {hp : Hp} {ty : TypeId} {Q : Exit → Act → World → Prop}
def numA : Nat → List (List Value) → List (Nat × Value)
  | _, [] => []
  | k, r :: l => (k, .agg r.toArray) :: numA (k + 1) l
theorem zip_fold : ∀ (row old pre post : List Value) (off j : Nat), row.length = old.length → pre.length = off + j →
    (row.zipIdx j).foldl (fun (cs : Array Value) (x : Value × Nat) => cs.setIfInBounds (off + x.2) x.1) (pre ++ (old ++ post)).toArray = (pre ++ (row ++ post)).toArray
  | [], [], pre, post, off, j, _, _ => by simp
  | [], _ :: _, _, _, _, _, h, _ => by simp at h
  | _ :: _, [], _, _, _, _, h, _ => by simp at h
  | v :: row, o :: old, pre, post, off, j, h, hp => by
    have ih := zip_fold row old (pre ++ [v]) post off (j + 1) (by simpa using h) (by rw [List.length_append, List.length_singleton]; omega)
    rw [List.zipIdx_cons, List.foldl_cons]
    have e : (pre ++ (o :: old ++ post)).toArray.setIfInBounds (off + j) v = (pre ++ [v] ++ (old ++ post)).toArray := by
      rw [← hp]; simp
    show List.foldl _ ((pre ++ (o :: old ++ post)).toArray.setIfInBounds (off + j) v) _ = _
    rw [e, ih]; simp
theorem fill_rows (size : Nat) : ∀ (rows : List (List Value)) (k : Nat) (pre post : List Value), (∀ r ∈ rows, r.length = size) → pre.length = k * size → post.length = rows.length * size →
    Instr.fill (fun i => some (i * size, size)) (pre ++ post).toArray (numA k rows) = some (pre ++ rows.flatten).toArray
  | [], k, pre, post, _, _, h => by
    have : post = [] := List.length_eq_zero_iff.1 (by simpa using h)
    subst this; simp [numA, Instr.fill]
  | r :: rows, k, pre, post, hr, hpre, hpost => by
    have h1 : r.length = size := hr r List.mem_cons_self
    have hl : post.length = size + rows.length * size := by rw [hpost, List.length_cons, Nat.succ_mul]; omega
    have ih := fill_rows size rows (k + 1) (pre ++ r) (post.drop size) (fun q hq => hr q (List.mem_cons_of_mem _ hq)) (by rw [List.length_append, h1, hpre, Nat.succ_mul]) (by rw [List.length_drop, hl]; omega)
    have e := zip_fold r (post.take size) pre (post.drop size) pre.length 0 (by rw [List.length_take, h1]; omega) (by omega)
    rw [List.take_append_drop] at e
    rw [numA, Instr.fill]
    have hc : (Value.agg r.toArray).cells = r.toArray := rfl
    have h3 : ¬ pre.length + r.length > (pre ++ post).length := by rw [List.length_append]; omega
    simp only [hc, ← hpre]
    rw [if_neg (by simpa [h1] using h3)]
    have e2 : (Array.foldl (fun (cs : Array Value) (x : Value × Nat) => cs.setIfInBounds (pre.length + x.2) x.1) (pre ++ post).toArray r.toArray.zipIdx) = (pre ++ (r ++ post.drop size)).toArray := by
      rw [← e]; simp
    show Instr.fill _ (Array.foldl (fun (cs : Array Value) (x : Value × Nat) => cs.setIfInBounds (pre.length + x.2) x.1) (pre ++ post).toArray r.toArray.zipIdx) _ = _
    rw [e2, ← List.append_assoc, ih]; simp
theorem SO.buildRows {t e : TypeId} {size len : Nat} {z : Value} {zs : List Value} {rows : List (List Value)} {ps : List (Nat × Operand)}
    (hu : P.underlying t = some (.slice e)) (hz : ∀ w, (sizeOf e).run P w = .ok size w) (hzero : ∀ w, (zeroValue e).run P w = .ok z w) (hzs : z.cells = zs.toArray) (hl0 : Nat.beq (len * size) 0 = false) (hl : Nat.ble (len * size) (2 ^ 24) = true)
    (hp' : opps fr ps = some (numA 0 rows)) (hr : ∀ r ∈ rows, r.length = size) (hn : Nat.beq rows.length len = true) :
    SO P x fr D hp (.buildSlice t len ps.toArray) ty Q (NewS x D hp rows.flatten e len) :=
  SO.buildSlice hu hz hzero hzs hl0 hl hp' (by
    have := fill_rows size rows 0 [] (zeroL zs (len * size)) hr (by simp) (by rw [zeroL_len, Nat.eq_of_beq_eq_true hn])
    simpa using this)
theorem Yd.mulW {t t' : TypeId} {o p : Operand} {k : IntKind} {i j : Int} (ho : opv fr o = some (.int k i)) (hp' : opv fr p = some (.int k j)) : Yd P x fr D hp (.binOp .mul t o p t') ty (.int k (k.wrap (i * j))) := .bin ho hp' fun w => by
  simp [Go.binOp, Op.intArith]
theorem Inv.perm2 {hp' : Hp} {S : List Nat} {w0 w : World} (h : Inv D hp S w0 w) (hs : hp.Perm hp') : Inv D hp' S w0 w :=
  h.sub (fun e he => hs.mem_iff.2 he) ((hs.map Prod.fst).nodup_iff.1 h.nodup)
theorem permS {a b : Hp} (h : a.Perm b) : (∀ e, e ∈ b → e ∈ a) ∧ ((keys a).Nodup → (keys b).Nodup) := ⟨fun _ he => h.mem_iff.2 he, fun hn => (h.map Prod.fst).nodup_iff.1 hn⟩
theorem at_drop {a : Act} {w : World} {fr' : Fr} {hp' : Hp} (k : Nat) (hA : At x fr D hp a w) (hf : subB fr' fr) (hs : (hp.drop k).Perm hp') : At x fr' D hp' a w :=
  ⟨hA.f.weaken (subB_get hf), (hA.i.drop k).perm2 hs⟩
theorem at_dropS {a : Act} {w : World} {fr' : Fr} {hp' : Hp} {D1 : Imm} (k : Nat) (hA : At x fr D hp a w) (hf : subB fr' fr) (hs : (hp.drop k).Perm hp') (hD : ∀ b o, D1 b = some o → D b = some o) : At x fr' D1 hp' a w :=
  ⟨hA.f.weaken (subB_get hf), ((hA.i.drop k).perm2 hs).shrink hD⟩
end
end Go.W
namespace Go.W
section
variable {P : Program} {x : Cx} {fr : Fr} {D : Imm} {hp : Hp} {Q : Exit → Act → World → Prop} {ops : Array Oper} {plan : List (Nat × Bool)}
def QuietPl (ops : Array Oper) (plan : List (Nat × Bool)) (Q : Exit → Act → World → Prop) : Prop := ∀ (i : Nat) (o : Oper) v c a w, (i, true) ∈ plan → ops[i]? = some o → Q (.panic c) (Act.put a o.dst v) w → Q (.panic c) a w
theorem QuietPl.then {K : Act → World → Prop} (h : QuietPl ops plan Q) : QuietPl ops plan (Exit.then K Q) := fun i o v c a w hm ho hq => h i o v c a w hm ho hq
theorem QuietPl.blk {id : Nat} (h : QuietPl ops plan Q) : QuietPl ops plan (Exit.inBlock id Q) := fun i o v c a w hm ho hq => h i o v c a w hm ho hq
theorem QuietPl.sc (h : QuietPl ops plan Q) : QuietPl ops plan (Exit.noGoto Q) := fun i o v c a w hm ho hq => h i o v c a w hm ho hq
def offPl (ops : Array Oper) (plan : List (Nat × Bool)) (fn : Func) : Bool :=
  plan.all fun y => !y.2 || (match ops[y.1]? with | some o => (match o.dst with | some d => !(resSlots fn).contains d | none => true) | none => true)
theorem offPl_at {fn : Func} (h : offPl ops plan fn = true) {i : Nat} {o : Oper} (hm : (i, true) ∈ plan) (ho : ops[i]? = some o) {d : Nat} (hd : o.dst = some d) : d ∉ resSlots fn := by
  have h1 := List.all_eq_true.1 h _ hm
  simp only [Bool.not_true, Bool.false_or, ho, hd] at h1
  simpa using h1
theorem QuietPl.bodyD {fn : Func} {R : Ending → World → Prop} (h : offPl ops plan fn = true) : QuietPl ops plan (bodyPostD P fn R) := fun i o v c a w hm ho hq => by
  cases hd : o.dst with
  | none => rw [hd] at hq; exact hq
  | some d => rw [hd] at hq; exact leaves_put (offPl_at h hm ho hd) _ _ _ hq
theorem QuietPl.bodyM {fn : Func} {R : Ending → World → Prop} (h : offPl ops plan fn = true) : QuietPl ops plan (bodyPostM Fence.wide 0 P fn R) := fun i o v c a w hm ho hq => by
  cases hd : o.dst with
  | none => rw [hd] at hq; exact hq
  | some d => rw [hd] at hq; exact leaves_putM (offPl_at h hm ho hd) _ _ _ hq
theorem wpAnyH_of_planP {S : World → Prop} (hs : Region.noSelect ops = true) :
    ∀ (plan : List (Nat × Bool)) (listed : Array Bool) (a : Act) (w : World), QuietPl ops plan Q → planB .any ops plan listed = true → S w → wpPlan P ops Q S plan a w → wpAnyH P .any ops Q S plan.length listed a w := by
  intro plan
  induction plan with
  | nil => intro listed a w _ hB _ h; exact ⟨by simpa [planB] using hB, h⟩
  | cons e r ih =>
    obtain ⟨i, y⟩ := e
    intro listed a w hQ hB hS h
    have hQ' : QuietPl ops r Q := fun i o v c a w hm ho hq => hQ i o v c a w (List.mem_cons_of_mem _ hm) ho hq
    cases y with
    | true =>
      simp only [planB, Bool.and_eq_true] at hB
      obtain ⟨⟨hr, hf⟩, hB'⟩ := hB
      obtain ⟨o, v, ho, hy, hw⟩ := h
      exact wpAnyH_take ho hs hf hr (fun c a w => hQ i o v c a w List.mem_cons_self ho) hy hS (ih _ _ _ hQ' hB' hS hw)
    | false =>
      simp only [planB, Bool.and_eq_true, decide_eq_true_eq] at hB
      obtain ⟨hr, hB'⟩ := hB
      obtain ⟨o, ho, hw⟩ := h
      refine wpAnyH_all hr (by simp) fun j hj => ?_
      have : j = i := by simpa using hj
      subst this
      unfold wpOp
      simp only [ho]
      split
      · rename_i hwant
        rw [if_pos hwant] at hw
        exact .inl (Oper.wp_mono (fun a' w' h' => ⟨h'.1, ih _ _ _ hQ' hB' h'.1 h'.2⟩) hw)
      · rename_i hwant
        rw [if_neg hwant] at hw
        exact ⟨hS, ih _ _ _ hQ' hB' hS hw⟩
theorem WC.drawP {id : Nat} {l : List Oper} (hp0 : Hp) (plan : List (Nat × Bool)) (hm : P.follows .mixedOrders = true)
    (hB : (Region.noSelect l.toArray && decide (plan.length = l.toArray.size) && planB .any l.toArray plan (Array.replicate l.toArray.size false)) = true) (hQ : QuietPl l.toArray plan Q)
    (h0 : ∀ w, Inv D hp x.S x.w0 w → Inv D hp0 x.S x.w0 w)
    (h : WA P x l.toArray D hp0 plan fr D hp Q) : WC P x fr D hp (.region id l.toArray true) Q := fun a w hA => by
  simp only [Bool.and_eq_true, decide_eq_true_eq] at hB
  refine wp_region_held (S := Inv D hp0 x.S x.w0) hm ?_
  rw [← hB.1.2]
  have := wpAnyH_of_planP (P := P) hB.1.1 plan (Array.replicate l.toArray.size false) a { w with drawn := w.drawn + 1 } hQ hB.2 (h0 _ (hA.i.drew _)) (h _ _ ⟨hA.f, hA.i.drew _⟩)
  rwa [← hB.1.2] at this
end
end Go.W
namespace Go.W
section
variable {P : Program} {x : Cx} {fr : Fr} {D : Imm} {hp : Hp} {Q : Exit → Act → World → Prop}
theorem WCF.loopHd {r : Option Nat} {α : Type} {c : Code} {b : Nat} (tl : Hp) (F : α → Fr) (O : α → Obj) (φ : α → Prop) (m : α → Nat) (x0 : α) (h0 : φ x0) (hhp : hp = (b, O x0) :: tl) (hstart : subB (F x0) fr)
    (hround : ∀ y, φ y → WCF P r x (F y) D ((b, O y) :: tl) c (Exit.then (fun a w => ∃ z, φ z ∧ m z < m y ∧ At x (F z) D ((b, O z) :: tl) a w) Q)) : WCF P r x fr D hp (.loop c) Q := by
  subst hhp
  exact WCF.loop F (fun y => (b, O y) :: tl) (fun _ => D) φ m x0 h0 (fun _ _ h => at_fr h hstart) hround
theorem WC.loopHd {α : Type} {c : Code} {b : Nat} (tl : Hp) (F : α → Fr) (O : α → Obj) (φ : α → Prop) (m : α → Nat) (x0 : α) (h0 : φ x0) (hhp : hp = (b, O x0) :: tl) (hstart : subB (F x0) fr)
    (hround : ∀ y, φ y → WC P x (F y) D ((b, O y) :: tl) c (Exit.then (fun a w => ∃ z, φ z ∧ m z < m y ∧ At x (F z) D ((b, O z) :: tl) a w) Q)) : WC P x fr D hp (.loop c) Q := by
  subst hhp
  exact WC.loop F (fun y => (b, O y) :: tl) (fun _ => D) φ m x0 h0 (fun _ _ h => at_fr h hstart) hround
theorem WP.againHd {α : Type} {F : α → Fr} {b : Nat} {tl : Hp} {O : α → Obj} {φ : α → Prop} {m : α → Nat} {k : Nat} (z : α) (hz : φ z) (hm : m z < k) (j : Nat) {o : Obj} (hj : hp.drop j = (b, o) :: tl) (ho : o = O z) (hf : subB (F z) fr) :
    WP x fr D hp .normal (Exit.then (fun a w => ∃ z, φ z ∧ m z < k ∧ At x (F z) D ((b, O z) :: tl) a w) Q) := fun a w h =>
  ⟨z, hz, hm, h.f.weaken (subB_get hf), by subst ho; have := h.i.drop j; rwa [hj] at this⟩
theorem WCF.hpEq {r : Option Nat} {c : Code} {hp' : Hp} (h : hp = hp') (hw : WCF P r x fr D hp' c Q) : WCF P r x fr D hp c Q := by subst h; exact hw
end
end Go.W
namespace Go.W
section
variable {P : Program} {x : Cx} {fr : Fr} {D : Imm} {hp : Hp} {Q : Exit → Act → World → Prop}
def CatchM (P : Program) (f : FuncId) (vals : List Value) (v : Value) (b : Nat) (o' : Obj) (w : World) : Prop :=
  CallsDIn Fence.wide 0 P f vals.toArray (.panicking [{ v, recovered := false }]) w fun e u' w' => (∃ v, e = .returned v) ∧ u' = .panicking [{ v, recovered := true }] ∧ Keep [b] w w' ∧ w'.heap[b]? = some o'
theorem WP.panicMsD {fn : Func} {R : Ending → World → Prop} {f : FuncId} {cap : List Value} {v : Value} {k b : Nat} {o o' : Obj} (bs : List Nat) (hp0 : Hp) (rs : List ResultVar) (vs : List Value) (hd : x.ds = bs.map markOf ++ [{ target := .fn (.func f) cap.toArray, args := #[] }]) (hc : ∀ args w, (callFunc f args).run P w = .ok (.enter f args) w)
    (hk : hp0[k]? = some (b, o)) (hi : ∀ w, Inv D hp0 x.S x.w0 w → CatchM P f cap v b o' w) (hs : ∀ e, e ∈ bs.map dblk ++ hp0 → e ∈ hp) (hn : (keys hp).Nodup → (keys (bs.map dblk ++ hp0)).Nodup)
    (hr : fn.results = rs.toArray) (h : RVs P x fr D (hp0.set k (b, o')) rs vs) (hR : ∀ w, Inv D (hp0.set k (b, o')) x.S x.w0 w → R (.returned (retV vs)) w) : WP x fr D hp (.panic [{ v, recovered := false }]) (bodyPostM Fence.wide 0 P fn R) := fun a w hA => by
  show LeavesInM Fence.wide 0 P fn a.tmps R a.defers (.panicking [{ v, recovered := false }]) w
  rw [hA.f.defers, hd]
  refine leaves_marksP (P := P) (fn := fn) (tmps := a.tmps) (R := R) (hp0 := hp0) (fun w' hI => ?_) bs w (hA.i.sub hs (hn hA.i.nodup))
  refine ⟨by simp, .inr ⟨fun h => (by cases h), .func f, cap.toArray, f, cap.toArray, rfl, by simp [invoke, hc], fun _ _ => trivial, ?_⟩⟩
  have h1 := hi w' hI
  refine ⟨h1.1, fun c cs hc' hroom => ?_⟩
  obtain ⟨e', u', w2, fr', ⟨⟨v', rfl⟩, rfl, hkp, hb⟩, rest⟩ := h1.2 c cs hc' hroom
  refine ⟨.returned v', .panicking [{ v, recovered := true }], w2, fr', ?_, rest⟩
  have hI2 := hI.mut hk hkp hb
  exact ⟨_, results_run hr hA.f hI2 h, hR w2 hI2⟩
theorem WLF.freezeN {r : Option Nat} {ops : Array Oper} {l : List Oper} {w0 : World} (k b : Nat) (o : Obj) (hw : x.w0 = w0) (hk : hp[k]? = some (b, o)) (hb : w0.heap.size ≤ b) (h : ∀ D', DExt w0 D D' → D' b = some o → WLF P r x ops fr D' (hp.eraseIdx k) l Q) : WLF P r x ops fr D hp l Q := by
  subst hw
  exact WLF.freezeK k hk fun hn => h _ ((DExt.refl _ D).add hn hb) (Imm.add_self _ _ _)
theorem WCF.freezeN {r : Option Nat} {c : Code} {w0 : World} (k b : Nat) (o : Obj) (hw : x.w0 = w0) (hk : hp[k]? = some (b, o)) (hb : w0.heap.size ≤ b) (h : ∀ D', DExt w0 D D' → D' b = some o → WCF P r x fr D' (hp.eraseIdx k) c Q) : WCF P r x fr D hp c Q := by
  subst hw
  exact WCF.freezeK k hk fun hn => h _ ((DExt.refl _ D).add hn hb) (Imm.add_self _ _ _)
end
end Go.W
namespace Go.W
section
variable {P : Program} {x : Cx} {fr : Fr} {D : Imm} {hp : Hp} {ty : TypeId} {Q : Exit → Act → World → Prop}
abbrev Parts := List (Nat × Value × List Value)
def partsOK (pl : List (Nat × Nat)) (n : Nat) : Parts → Prop
  | [] => True
  | (i, v, row) :: r => v.cells = row.toArray ∧ (∃ off, pl[i]? = some (off, row.length) ∧ off + row.length ≤ n) ∧ partsOK pl n r
def fillL (pl : List (Nat × Nat)) : List Value → Parts → List Value
  | cs, [] => cs
  | cs, (i, _, row) :: r => fillL pl (splice cs (pl.getD i (0, 0)).1 row) r
def partV (l : Parts) : List (Nat × Value) := l.map fun y => (y.1, y.2.1)
theorem splice_length {cs vs : List Value} {off : Nat} (h : off + vs.length ≤ cs.length) : (splice cs off vs).length = cs.length := by
  simp only [splice, List.length_append, List.length_take, List.length_drop]; omega
theorem fill_parts (pl : List (Nat × Nat)) : ∀ (l : Parts) (cs : List Value), partsOK pl cs.length l → Instr.fill (fun i => pl.toArray[i]?) cs.toArray (partV l) = some (fillL pl cs l).toArray
  | [], cs, _ => rfl
  | (i, v, row) :: r, cs, h => by
    obtain ⟨hc, ⟨off, ho, hl⟩, hr⟩ := h
    have ho' : pl.toArray[i]? = some (off, row.length) := by simpa using ho
    have hg : pl.getD i (0, 0) = (off, row.length) := by simp [List.getD, ho]
    show Instr.fill (fun i => pl.toArray[i]?) cs.toArray ((i, v) :: partV r) = _
    rw [Instr.fill]
    simp only [ho', hc]
    have hn : ¬ off + row.length > cs.length := by omega
    rw [if_neg (by simpa using hn)]
    have e := zip_fold row ((cs.drop off).take row.length) (cs.take off) (cs.drop (off + row.length)) off 0 (by rw [List.length_take, List.length_drop]; omega) (by rw [List.length_take]; omega)
    have e3 : cs.take off ++ ((cs.drop off).take row.length ++ cs.drop (off + row.length)) = cs := by
      rw [← List.drop_drop, List.take_append_drop, List.take_append_drop]
    rw [e3] at e
    have e2 : (Array.foldl (fun (cs : Array Value) (x : Value × Nat) => cs.setIfInBounds (off + x.2) x.1) cs.toArray row.toArray.zipIdx) = (splice cs off row).toArray := by
      unfold splice
      rw [List.append_assoc, ← e]; simp
    show Instr.fill _ (Array.foldl (fun (cs : Array Value) (x : Value × Nat) => cs.setIfInBounds (off + x.2) x.1) cs.toArray row.toArray.zipIdx) _ = _
    rw [e2, fill_parts pl r (splice cs off row) (by rw [splice_length hl]; exact hr), fillL, hg]
theorem Yd.buildL {t : TypeId} {zs : List Value} {pl : List (Nat × Nat)} (hS : StructAt P t zs pl) {ps : List (Nat × Operand)} (l : Parts) (cs : List Value) (hp' : opps fr ps = some (partV l)) (hok : partsOK pl zs.length l) (hcs : fillL pl zs l = cs) :
    Yd P x fr D hp (.build t ps.toArray) ty (.agg cs.toArray) := by
  subst hcs
  exact Yd.build hS hp' (fill_parts pl l zs hok)
end
end Go.W
namespace Go.W
section
variable {P : Program} {x : Cx} {fr : Fr} {D : Imm} {hp : Hp} {ty : TypeId} {Q : Exit → Act → World → Prop}
theorem eq_ptr {t e : TypeId} {p : Option Addr} (hu : P.underlying t = some (.pointer e)) (w : World) : (Op.equalIn 10000 t (.pointer p) (.pointer none)).run P w = .ok p.isNone w := by
  have h1 : ∀ d, (Op.equalIn (d + 1) t (.pointer p) (.pointer none)).run P w = .ok p.isNone w := fun d => by
    cases p with
    | none => simp only [Op.equalIn, Sem.run_bind, run_underlying hu, Result.andThen_ok]; rfl
    | some a => simp only [Op.equalIn, Sem.run_bind, run_underlying hu, Result.andThen_ok]; rfl
  exact h1 9999
theorem Yd.eqP {t t' e : TypeId} {o : Operand} {p : Option Addr} (hu : P.underlying t = some (.pointer e)) (ho : opv fr o = some (.pointer p)) :
    Yd P x fr D hp (.binOp .eql t o (.const (.pointer none)) t') ty (.bool p.isNone) := fun a w _ _ _ _ hA _ => by
  have h3 : (Go.binOp .eql t (.pointer p) (.pointer none)).run P w = .ok (.bool p.isNone) w := by
    show Sem.run P (do let b ← Op.equalIn 10000 t (.pointer p) (.pointer none); pure (Value.bool b)) w = _
    rw [Sem.run_bind, eq_ptr hu]; rfl
  have h5 : a.eval (.const (.pointer none)) = .pointer none := rfl
  simp only [execOp, hA.eval ho, h5]
  have h4 : (eqGuard .eql t o (.const (.pointer none)) (.pointer p) (.pointer none)).run P w = .ok () w := by cases p <;> rfl
  simp [h4, h3]
theorem Yd.neP {t t' e : TypeId} {o : Operand} {p : Option Addr} (hu : P.underlying t = some (.pointer e)) (ho : opv fr o = some (.pointer p)) :
    Yd P x fr D hp (.binOp .neq t o (.const (.pointer none)) t') ty (.bool !p.isNone) := fun a w _ _ _ _ hA _ => by
  have h3 : (Go.binOp .neq t (.pointer p) (.pointer none)).run P w = .ok (.bool !p.isNone) w := by
    show Sem.run P (do let b ← Op.equalIn 10000 t (.pointer p) (.pointer none); pure (Value.bool !b)) w = _
    rw [Sem.run_bind, eq_ptr hu]; rfl
  have h5 : a.eval (.const (.pointer none)) = .pointer none := rfl
  simp only [execOp, hA.eval ho, h5]
  have h4 : (eqGuard .neq t o (.const (.pointer none)) (.pointer p) (.pointer none)).run P w = .ok () w := by cases p <;> rfl
  simp [h4, h3]
theorem Holds.add {w : World} {b : Nat} {o : Obj} (h : Holds D w) (hb : w.heap[b]? = some o) : Holds (D.add b o) w := fun b' o' hb' => by
  unfold Imm.add at hb'
  split at hb'
  · rename_i e; cases hb'; rw [e]; exact hb
  · exact h b' o' hb'
theorem add_old {b : Nat} {o : Obj} (hn : D b = none) : ∀ b' o', D b' = some o' → (D.add b o) b' = some o' := fun b' o' h => by
  unfold Imm.add
  split
  · rename_i e; rw [e, hn] at h; cases h
  · exact h
end
end Go.W
namespace Go.W
section
variable {P : Program} {x : Cx} {fr : Fr} {D : Imm} {hp : Hp} {ty : TypeId} {Q : Exit → Act → World → Prop}
theorem Inv.thawS {S : List Nat} {w0 w : World} {b : Nat} {o : Obj} (h : Inv D hp S w0 w) (hb : D b = some o) (hn : b ∈ S ∨ w0.heap.size ≤ b) : Inv (D.minus b) ((b, o) :: hp) S w0 w := by
  refine ⟨fun k o' hk => ?_, fun k o' hk => ?_, ?_, fun k o' hk => ?_, h.keep, fun k o' hk => ?_⟩
  · unfold Imm.minus at hk
    split at hk
    · cases hk
    · exact h.imm k o' hk
  · rcases List.mem_cons.1 hk with e | e
    · cases e; exact h.imm _ _ hb
    · exact h.own k o' e
  · rw [List.map_cons, List.nodup_cons]
    refine ⟨fun hm => ?_, h.nodup⟩
    obtain ⟨e, he, heq⟩ := List.mem_map.1 hm
    have := h.apart e.1 e.2 he
    rw [show e.1 = b from heq, hb] at this; cases this
  · unfold Imm.minus
    split
    · rfl
    · rename_i hne
      rcases List.mem_cons.1 hk with e | e
      · cases e; exact absurd rfl hne
      · exact h.apart k o' e
  · rcases List.mem_cons.1 hk with e | e
    · cases e; exact hn
    · exact h.may k o' e
theorem WC.thawS {c : Code} {b : Nat} {o : Obj} (hb : D b = some o) (hn : b ∈ x.S ∨ x.w0.heap.size ≤ b) (h : WC P x fr (D.minus b) ((b, o) :: hp) c Q) : WC P x fr D hp c Q :=
  fun a w hA => h a w ⟨hA.f, hA.i.thawS hb hn⟩
theorem DExt.lent {w : World} {D D2 : Imm} {b : Nat} {o : Obj} (hn : D b = none) (h : DExt w (D.add b o) D2) : DExt w D (D2.minus b) := by
  refine ⟨fun k o' hk => ?_, fun k hk hd => ?_⟩
  · unfold Imm.minus
    split
    · rename_i e; rw [e, hn] at hk; cases hk
    · exact h.old k o' (add_old hn k o' hk)
  · unfold Imm.minus
    split
    · rfl
    · rename_i hne
      refine h.new k hk ?_
      unfold Imm.add; rw [if_neg hne]; exact hd
theorem lendI {S : List Nat} {w0 w : World} {b : Nat} {o : Obj} (h : Inv D [(b, o)] S w0 w) : D b = none ∧ Inv (D.add b o) [] S w0 w := h.freezeK 0 rfl
theorem WLF.yieldPg {r : Option Nat} {ty : TypeId} {ops : Array Oper} {rest : List Oper} {dst : Option Tmp} {pos : String} {af : Array Edge} {l : Nat} {o : Operand} {A : List Operand} {ts : Array TypeId} {vals : List Value} {j : Nat} {b : Bool} {K : Imm → Hp → Prop} {C : List PanicEntry → Imm → Hp → Prop} (own hpc : Hp) (hhp : ∀ e, e ∈ own ++ hpc → e ∈ hp) (hnd : (keys hp).Nodup → (keys (own ++ hpc)).Nodup)
    (hg : gval ops fr j = some (.bool b)) (ho : opv fr o = some (.func (.yield l) #[] #[])) (ha : opvs fr A = some vals) (hd : dstB dst x.n = true)
    (hk : ∀ w, x.w0.heap.size ≤ w.heap.size → Inv D hpc (keys hpc) w w → YieldAt Fence.wide 0 P l vals.toArray w (RoundQ w D (keys hpc) K C))
    (h : ∀ D' hpc', K D' hpc' → DExt x.w0 D D' → WLF P r x ops (putFr dst (.bool true) fr) D' (own ++ hpc') rest Q)
    (hp' : ∀ ch D' hpc', C ch D' hpc' → DExt x.w0 D D' → WP x fr D' (own ++ hpc') (.panic ch) Q) :
    WLF P r x ops fr D hp (⟨dst, .call ⟨.value o, A.toArray, ts⟩, ty, pos, af, some (j, b)⟩ :: rest) Q := fun a w hA => by
  unfold wpListIn
  rw [if_pos (by rw [wanted_of hA.f hg]; simp)]
  refine ⟨fun _ _ => trivial, ?_⟩
  have hI := hA.i.sub hhp (hnd hA.i.nodup)
  obtain ⟨fn, tmps, assign, body, hy, hR⟩ := hk w hA.i.keep.size (hI.frame (fun _ h => h))
  have h1 := hA.f.evals A vals ha
  have hrun : (Oper.semAt (Fx r).round a.eval ⟨dst, .call ⟨.value o, A.toArray, ts⟩, ty, pos, af, some (j, b)⟩).run P w = .ok (.round l fn tmps assign body) w := by
    have : Oper.semAt (Fx r).round a.eval ⟨dst, .call ⟨.value o, A.toArray, ts⟩, ty, pos, af, some (j, b)⟩ = execOp a.eval ⟨dst, .call ⟨.value o, A.toArray, ts⟩, ty, pos, af, some (j, b)⟩ := by
      cases r <;> rfl
    rw [this]
    simp only [execOp]
    simp [resolve, hA.f.eval ho, Deferred.ofValue, invoke, h1, hy]
  rw [hrun, Oper.uponIn_round]
  have hR' : RoundIn (Fx r) 0 P l fn tmps assign body w (RoundQ w D (keys hpc) K C) := hR
  refine ⟨fun e => (by cases e), RoundIn.mono hR' fun e w' ⟨D', hpc', hD, hI', hK⟩ => ?_⟩
  have hX : DExt x.w0 D D' := ⟨hD.old, fun b hb => hD.new b (Nat.lt_of_lt_of_le hb hA.i.keep.size)⟩
  have hIu : Inv D' (own ++ hpc') x.S x.w0 w' := hI.unframeN (fun _ h => h) (fun b hb => by
    obtain ⟨o, ho⟩ := mem_key hb
    exact hI'.may b o ho) hD hI'
  rcases hK with ⟨rfl, hs⟩ | ⟨ch, rfl, hs⟩
  · exact h D' hpc' hs hX _ _ ⟨hA.f.putO hd _, hIu⟩
  · exact hp' ch D' hpc' hs hX _ _ ⟨hA.f, hIu⟩
end
end Go.W
namespace Go.W
section
variable {P : Program} {x : Cx} {fr : Fr} {D : Imm} {hp : Hp} {ty : TypeId} {Q : Exit → Act → World → Prop}
theorem WLF.no {r : Option Nat} {ops : Array Oper} {rest : List Oper} {dst : Option Tmp} {op : Op} {pos : String} {af : Array Edge} (hn : ∀ c, op ≠ .defer c) (hs : SO P x fr D hp op ty Q NoK) : WLF P r x ops fr D hp (⟨dst, op, ty, pos, af, none⟩ :: rest) Q := fun a w hA => by
  unfold wpListIn
  rw [if_pos (show Region.wanted ⟨dst, op, ty, pos, af, none⟩ (yielded ops a.tmps) = true from rfl)]
  exact wp_in hn (hs a w _ _ _ _ _ hA fun _ _ _ _ hk _ => hk.elim)
end
end Go.W
