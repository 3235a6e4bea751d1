import Derived.Test.YtejgofaeafphjaaGreatDoorXG2
import Derived.Maps.Keyed
import Derived.Test.YtejgofaeafphjaaGreatDoorXG1
import Derived.LoopNIn
set_option linter.all false
set_option maxRecDepth 100000
set_option maxHeartbeats 4000000
namespace Go.W
section
variable {α : Type} [DecidableEq α] {kv : α → Value}
structure MapB (kv : α → Value) (es : Array MapEntry) (clock : Nat) (F : α → Bool) : Prop where
  ent : ∀ e ∈ es.toList, ∃ x, e.key = kv x ∧ e.val = .bool true ∧ F x = true
  all : ∀ x, F x = true → ∃ e ∈ es.toList, e.key = kv x
theorem MapB.empty (kv : α → Value) : MapB kv #[] 0 (fun _ => false) := ⟨fun e he => (by simp at he), fun x h => (by cases h)⟩
variable {P : Program} {x : Cx} {fr : Fr} {D : Imm} {hp : Hp} {ty : TypeId} {Q : Exit → Act → World → Prop} {t k e : TypeId} {es : Array MapEntry} {clock b j : Nat} {F : α → Bool}
theorem Xj (hinj : ∀ x y, kv x = kv y → x = y) (L : Go.Maps.Keyed P k) (hkey : ∀ y, ∃ l, keyOf P k (kv y) = some l) (hM : MapB kv es clock F) (y : α) (w : World) :
    ((Instr.findKey k (kv y) es.toList).run P w = .ok none w ∧ F y = false) ∨ ∃ q e0, (Instr.findKey k (kv y) es.toList).run P w = .ok (some (q, .bool true)) w ∧ es.toList[q]? = some e0 ∧ e0.key = kv y ∧ e0.val = .bool true ∧ F y = true := by
  obtain ⟨l, hl⟩ := hkey y;rcases L.find w hl es.toList (fun e he => by obtain ⟨z, hz, _⟩ := hM.ent e he; rw [hz]; exact hkey z) with ⟨h1, h2⟩ | ⟨q, e0, h1, h2, h3⟩
  · refine .inl ⟨h1, ?_⟩;cases hF : F y with
    | false => rfl
    | true => obtain ⟨e, he, hek⟩ := hM.all y hF; exact absurd hek (h2 e he)
  · obtain ⟨z, g1, g2, g3⟩ := hM.ent e0 (List.mem_of_getElem? h2);have : z = y := hinj z y (by rw [← g1, h3]);subst this;exact .inr ⟨q, e0, by rw [h1, g2], h2, h3, g2, g3⟩
theorem Yd.lookB {m i : Operand} (hinj : ∀ x y, kv x = kv y → x = y) (L : Go.Maps.Keyed P k) (hkey : ∀ y, ∃ l, keyOf P k (kv y) = some l) (hu : P.underlying t = some (.map k e)) (hz : ∀ w, (zeroValue e).run P w = .ok (.bool false) w)
    (hm : opv fr m = some (.map (some b))) {y : α} (hi : opv fr i = some (kv y)) (hj : hp[j]? = some (b, .map es clock)) (hM : MapB kv es clock F) : Yd P x fr D hp (.lookup t m i false) ty (.bool (F y)) := fun a w _ _ _ _ hA hI => by
  have hb := hI.own _ _ (mem_of_get? hj);have hobj : (getObj b).run P w = .ok (.map es clock) w := by simp [getObj, Sem.run, hb]
  obtain ⟨l, hl⟩ := hkey y;rcases Xj hinj L hkey hM y w with ⟨h1, h3⟩ | ⟨q, e0, h1, _, _, _, h5⟩
  · have : (Instr.lookup t (.map (some b)) (kv y) false).run P w = .ok (.bool false) w := by
      simp [Instr.lookup, run_underlying hu, hobj, L.check w _ hl, h1, hz]
    simp only [execOp, hA.eval hm, hA.eval hi, h3];simp [this]
  · have : (Instr.lookup t (.map (some b)) (kv y) false).run P w = .ok (.bool true) w := by
      simp [Instr.lookup, run_underlying hu, hobj, L.check w _ hl, h1]
    simp only [execOp, hA.eval hm, hA.eval hi, h5];simp [this]
def zdJ (kv : α → Value) (D : Imm) (hp : Hp) (j b : Nat) (F : α → Bool) (y : α) (_ : Value) (D' : Imm) (hp' : Hp) : Prop :=
  D = D' ∧ ∃ es1 clock1, hp' = hp.set j (b, .map es1 clock1) ∧ MapB kv es1 clock1 (fun z => F z || decide (z = y))
theorem SO.putB {m i o : Operand} (hinj : ∀ x y, kv x = kv y → x = y) (L : Go.Maps.Keyed P k) (hkey : ∀ y, ∃ l, keyOf P k (kv y) = some l) (hu : P.underlying t = some (.map k e))
    (hm : opv fr m = some (.map (some b))) {y : α} (hi : opv fr i = some (kv y)) (ho : opv fr o = some (.bool true)) (hj : hp[j]? = some (b, .map es clock)) (hM : MapB kv es clock F) : SO P x fr D hp (.mapUpdate t m i o) ty Q (zdJ kv D hp j b F y) := fun a w dst pos af g next hA hn => by
  have hb := hA.i.own _ _ (mem_of_get? hj);have hobj : (getObj b).run P w = .ok (.map es clock) w := by simp [getObj, Sem.run, hb]
  have hset : ∀ o', (setObj b o').run P w = .ok () { w with heap := w.heap.setIfInBounds b o' } := fun o' => by simp [setObj, Sem.run, hb]
  obtain ⟨l, hl⟩ := hkey y;unfold Oper.wp;rcases Xj hinj L hkey hM y w with ⟨h1, h3⟩ | ⟨q, e0, h1, h2, h3, h4, h5⟩
  · have : (Instr.mapUpdate t (.map (some b)) (kv y) (.bool true)).run P w = .ok () { w with heap := w.heap.setIfInBounds b (.map (es.push { key := kv y, val := .bool true, born := clock }) (clock + 1)) } := by
      simp [Instr.mapUpdate, run_underlying hu, hobj, L.check w _ hl, h1, hset]
    simp only [execOp, hA.f.eval hm, hA.f.eval hi, hA.f.eval ho];simp only [this, Sem.run_bind, Result.andThen_ok, Sem.run_pure, Sem.run_map, Oper.upon_value, Oper.upon_skip];refine hn _ _ _ _ ⟨rfl, _, _, rfl, ⟨fun e he => ?_, fun z hz => ?_⟩⟩ (hA.i.set hj _)
    · simp only [Array.toList_push, List.mem_append, List.mem_singleton] at he;rcases he with he | rfl
      · obtain ⟨z, g1, g2, g3⟩ := hM.ent e he;exact ⟨z, g1, g2, by rw [g3]; rfl⟩
      · exact ⟨y, rfl, rfl, by simp⟩
    · simp only [Array.toList_push, List.mem_append, List.mem_singleton];rcases Bool.or_eq_true .. |>.mp hz with hz | hz
      · obtain ⟨e, he, hk⟩ := hM.all z hz;exact ⟨e, .inl he, hk⟩
      · exact ⟨_, .inr rfl, by rw [of_decide_eq_true hz]⟩
  · have hq : es[q]? = some e0 := by simpa using h2
    have hmod : es.modify q (fun e => { e with key := kv y, val := .bool true }) = es := by
      apply Array.ext';rw [Array.toList_modify];apply List.ext_getElem?;intro r;rw [List.getElem?_modify];by_cases hr : q = r
      · subst hr; rw [h2]; simp [← h3, ← h4]
      · simp [hr]
    have : (Instr.mapUpdate t (.map (some b)) (kv y) (.bool true)).run P w = .ok () { w with heap := w.heap.setIfInBounds b (.map (es.modify q fun e => { e with key := kv y, val := .bool true }) clock) } := by
      simp [Instr.mapUpdate, run_underlying hu, hobj, L.check w _ hl, h1, hq, h3, L.stays w hl, hset]
    rw [hmod] at this;simp only [execOp, hA.f.eval hm, hA.f.eval hi, hA.f.eval ho];simp only [this, Sem.run_bind, Result.andThen_ok, Sem.run_pure, Sem.run_map, Oper.upon_value, Oper.upon_skip];refine hn _ _ _ _ ⟨rfl, es, clock, rfl, ⟨fun e he => ?_, fun z hz => ?_⟩⟩ (hA.i.set hj _)
    · obtain ⟨z, g1, g2, g3⟩ := hM.ent e he;exact ⟨z, g1, g2, by rw [g3]; rfl⟩
    · rcases Bool.or_eq_true .. |>.mp hz with hz | hz
      · exact hM.all z hz
      · rw [of_decide_eq_true hz]; exact hM.all y h5
end
end Go.W
namespace Go.W
section
variable {D : Imm} {hp : Hp}
theorem vD {k b i : Nat} {l : List Nat} {rest : List Value} {t : TypeId} {fz : Nat × Nat} (hk : hp[k]? = some (b, .cells (l.map nt ++ rest).toArray t fz)) (hi : i < l.length) : Rd D hp ⟨b, 0 + i * 1, none⟩ (nt (gt l i)) :=
  Rd.own hk (by rw [Nat.zero_add, Nat.mul_one, List.getElem?_append_left (by simpa using hi), List.getElem?_map, wX hi]; rfl)
theorem vi (l : List Nat) (rest : List Value) (i x : Nat) (hi : i < l.length) : splice (l.map nt ++ rest) (0 + i * 1) [nt x] = (l.set i x).map nt ++ rest := by
  unfold splice;rw [Nat.zero_add, Nat.mul_one, List.take_append_of_le_length (by simp; omega), List.drop_append_of_le_length (by simp; omega)];rw [List.set_eq_take_append_cons_drop, if_pos hi];simp
theorem qQ (l : List Nat) (rest : List Value) {i : Nat} (hi : i < l.length) : 0 + i * 1 + 1 ≤ (l.map nt ++ rest).length := by simp; omega
end
end Go.W
namespace Go.W
section
variable {P : Program} {x : Cx} {ops : Array Oper} {fr : Fr} {D : Imm} {hp : Hp} {ty : TypeId} {Q : Exit → Act → World → Prop}
theorem noLets.round {l : Nat} {R : Ending → World → Prop} : ¬ LetsOut (roundPost P l R) := fun ⟨_, _, h⟩ => h
theorem Wj {r : Option Nat} {i : Nat} {K : Act → World → Prop} {a : Act} {w : World} (hd : ∀ o, ops[i]? = some o → ∀ c, o.op ≠ .defer c) (hno : ¬ LetsOut Q) (h : wpOp P ops Q i K a w) : wpOpIn (Fx r) 0 P ops Q i K a w := by
  unfold wpOpIn;unfold wpOp at h;cases ho : ops[i]? with
  | none => simp only [ho] at h ⊢; exact h
  | some o =>
    simp only [ho] at h ⊢;split at h
    · rename_i hw
      rw [if_pos hw];rcases h with h | h
      · exact X5 (hd o ho) h
      · exact absurd h.2 hno
    · rename_i hw
      rw [if_neg hw];exact ⟨fun _ _ => trivial, h⟩
theorem uv {r : Option Nat} {n : Nat} (T : qz ops n) : ∀ (l : List Oper) (k : Nat) (listed : Array Bool) (a : Act) (w : World), n ≤ k → k + l.length = ops.size → (∀ j, j < l.length → l[j]? = ops[k + j]?) → LstT ops k listed →
    wpListIn (Fx r) 0 P ops Q l a w → wpAnyIn (Fx r) 0 P .any ops Q l.length listed a w
  | [], k, listed, a, w, hn, hk, _, L, h => by
    refine ⟨?_, h⟩;apply List.eq_nil_iff_forall_not_mem.2;intro t ht;obtain ⟨hun, o, ho, _⟩ := mem_ready.1 ht;have hts : t < ops.size := (Array.getElem?_eq_some_iff.1 ho).1;rw [vP (by rw [L.size]; exact hts)] at hun;have := (L.no t hts).1 hun;simp at hk; omega
  | o :: l, k, listed, a, w, hn, hk, hl, L, h => by
    have hks : k < ops.size := by simp at hk; omega
    have h0 : ops[k]? = some o := by simpa using (hl 0 (by simp)).symm
    have hr := uP T L hn hks;refine ⟨fun h1 => ?_, fun i hi => ?_⟩
    · have := (hr k).2 rfl;rw [h1] at this; cases this
    · have hik := (hr i).1 hi;subst hik;have hw : wpOpIn (Fx r) 0 P ops Q i (wpListIn (Fx r) 0 P ops Q l) a w := by unfold wpOpIn; simp only [h0]; exact h
      refine wpOpIn_mono (fun a' w' h' => uv T l (i + 1) _ a' w' (by omega) (by simp at hk; omega) (fun j hj => by
        have := hl (j + 1) (by simp; omega);rw [show i + 1 + j = i + (j + 1) by omega]; simpa using this) ⟨by simp [L.size], fun j hj => ?_⟩ h') hw
      by_cases e : i = j
      · subst e;have : (listed.setIfInBounds i true).getD i false = true := by simp [L.size, hj]
        rw [this]; simp
      · rw [getD_set_ne false e, L.no j hj]; omega
theorem jC {r : Option Nat} {C : World → Prop} {n : Nat} {tl : List Oper} (hnd : ∀ (i : Nat) (o : Oper), ops[i]? = some o → ∀ c, o.op ≠ .defer c) (hno : ¬ LetsOut Q) (T : qz ops n) (htl : n + tl.length = ops.size) (htl' : ∀ j, j < tl.length → tl[j]? = ops[n + j]?) :
    ∀ (m : Nat) (l : List Nat) (listed : Array Bool) (a : Act) (w : World), l.length = m → C w → Lst ops n l listed → remQ P ops C (fun a' => ∀ w', C w' → wpListIn (Fx r) 0 P ops Q tl a' w') l a →
      wpAnyIn (Fx r) 0 P .any ops Q (l.length + tl.length) listed a w := by
  intro m
  induction m with
  | zero =>
    intro l listed a w hm hw L h;have hl : l = [] := List.length_eq_zero_iff.1 hm;subst hl;rw [List.length_nil, Nat.zero_add];exact uv T tl n listed a w (Nat.le_refl _) htl htl' ⟨L.size, fun i hi => by rw [L.no i hi]; simp⟩ (h w hw)
  | succ m ih =>
    intro l listed a w hm hw L h;have hne : l ≠ [] := fun e => by rw [e] at hm; cases hm
    rw [show l.length + tl.length = (m + tl.length) + 1 by omega];refine ⟨fun h0 => absurd h0 (vd T L hne), fun i hi => ?_⟩;obtain ⟨hil, hnw⟩ := L.ready T hne hi;obtain ⟨l1, l2, rfl⟩ := List.append_of_mem hil
    have hap : ∀ j ∈ l1, vH ops i j = true := fun j hj => by
      have hji : j < i := by
        have := L.sorted;rw [List.pairwise_append] at this;exact this.2.2 j hj i List.mem_cons_self
      rcases T.ap i j (L.below i hil) hji with h1 | h1
      · rw [hnw j (List.mem_append_left _ hj)] at h1; cases h1
      · exact h1
    obtain ⟨o, v, ho, hy, hr⟩ := uj T.sel i l2 l1 a hap h;have hlen : (l1 ++ l2).length = m := by simp at hm ⊢; omega
    have key : ∀ w', C w' → wpAnyIn (Fx r) 0 P .any ops Q (m + tl.length) (listed.setIfInBounds i true) (a.put o.dst v) w' := fun w' hw' => by
      have := ih (l1 ++ l2) _ _ w' hlen hw' (L.next T hnw) hr
      rwa [hlen] at this
    exact Wj (hnd i) hno (wpOp_of_qOp (C := C) (K := fun a' => a' = a.put o.dst v) hw (fun a' w' hw' e => by subst e; exact key w' hw') (hy.qOp ho rfl))
theorem WQ.tailR {r : Option Nat} {tl : List Oper} (h : WLF P r x ops fr D hp tl Q) : WQ P x ops D hp (fun a' => ∀ w', Inv D hp x.S x.w0 w' → wpListIn (Fx r) 0 P ops Q tl a' w') [] fr := fun a hA w hI => h a w ⟨hA, hI⟩
theorem WCF.tail {r : Option Nat} {id : Nat} {ops : List Oper} (n : Nat) (heads : List Nat) (hh : List.range n = heads) (hm : P.follows .mixedOrders = true) (hB : (X0 ops.toArray n && Jr ops) = true) (hno : ¬ LetsOut Q)
    (h : WQ P x ops.toArray D hp (fun a' => ∀ w', Inv D hp x.S x.w0 w' → wpListIn (Fx r) 0 P ops.toArray Q (ops.drop n) a' w') heads fr) : WCF P r x fr D hp (.region id ops.toArray true) Q := fun a w hA => by
  simp only [Bool.and_eq_true] at hB;have T := Z0 hB.1;refine wpIn_region_any (F := Fx r) hm ?_;have hn : n < ops.length := by simpa using T.lt
  have hq := h a hA.f;rw [← hh] at hq
  have := jC (P := P) (Q := Q) (C := Inv D hp x.S x.w0) (tl := ops.drop n) (uI hB.2) hno T (by simp; omega) (fun j hj => by simp [List.getElem?_drop]) n (List.range n) (Array.replicate ops.toArray.size false) a { w with drawn := w.drawn + 1 } (by simp) (hA.i.drew _)
    ⟨by simp, List.pairwise_lt_range, fun i hi => List.mem_range.1 hi, fun i hi => by
      simp only [List.mem_range];constructor
      · intro _; omega
      · intro _; have : i < ops.length := by simpa using hi
        simp [this], fun i j hi hni _ => absurd (List.mem_range.2 hi) hni⟩ hq
  rw [List.length_range, List.length_drop, show n + (ops.length - n) = ops.toArray.size by simp; omega] at this;exact this
theorem WCF.loop {r : Option Nat} {α : Type} {c : Code} (F : α → Fr) (H : α → Hp) (I : α → Imm) (φ : α → Prop) (m : α → Nat) (x0 : α) (h0 : φ x0)
    (hstart : ∀ a w, At x fr D hp a w → At x (F x0) (I x0) (H x0) a w)
    (hround : ∀ y, φ y → WCF P r x (F y) (I y) (H y) c (Exit.then (fun a w => ∃ z, φ z ∧ m z < m y ∧ At x (F z) (I z) (H z) a w) Q)) : WCF P r x fr D hp (.loop c) Q := by
  intro a w hA
  have key : ∀ n y a w, m y < n → φ y → At x (F y) (I y) (H y) a w → Code.roundsIn (Fx r) 0 P c Q n a w := by
    intro n
    induction n with
    | zero => intro y a w h; omega
    | succ n ih =>
      intro y a w hm hy hA;refine wpIn_mono (hround y hy a w hA) ?_;intro e a' w' hq;cases e with
      | normal =>
        obtain ⟨z, hz, hlt, hA'⟩ := hq;exact ih z a' w' (by omega) hz hA'
      | _ => exact hq
  exact wpIn_loop_rounds (m x0 + 1) (key _ x0 a w (Nat.lt_succ_self _) h0 (hstart a w hA))
theorem WCF.loopF {r : Option Nat} {α : Type} {c : Code} (F : α → Fr) (φ : α → Prop) (m : α → Nat) (x0 : α) (h0 : φ x0) (hstart : subB (F x0) fr)
    (hround : ∀ y, φ y → WCF P r x (F y) D hp c (Exit.then (fun a w => ∃ z, φ z ∧ m z < m y ∧ At x (F z) D hp a w) Q)) : WCF P r x fr D hp (.loop c) Q :=
  WCF.loop F (fun _ => hp) (fun _ => D) φ m x0 h0 (fun _ _ h => y4 h hstart) hround
theorem WP.goRetN {l k : Nat} {rec : Loop} {D0 : Imm} {K : Bool → Imm → Hp → Prop} (hk : hp[k]? = some (l, .loop rec)) (hD : DExt x.w0 D0 D)
    (h : K false D (hp.set k (l, .loop { rec with state := .done, pending := some .ret }))) : WP x fr D hp .ret (roundPost P l (xV x.w0 D0 x.S K)) := fun a w hA => by
  have hl := hA.i.own _ _ (mem_of_get? hk);exact ⟨_, _, run_endRound (some .ret) hl, false, _, _, rfl, hD, yB hA.i hk _, h⟩
theorem WP.iterRetN {l : Nat} {rec : Loop} {pre h1 : Hp} {D0 : Imm} {St : Imm → Hp → Prop} {Sp : Code → Imm → Hp → Prop} (hsub : ∀ e, e ∈ (l, .loop (u4 rec)) :: (pre ++ h1) → e ∈ hp) (hn : (keys hp).Nodup → (keys ((l, .loop (u4 rec)) :: (pre ++ h1))).Nodup)
    (hD : DExt x.w0 D0 D) (h : Sp .ret D h1) : WP x fr D hp .ret (roundPost P l (xV x.w0 D0 x.S (RK l rec pre St Sp))) := fun a w hA =>
  WP.goRetN (k := 0) (hp := (l, .loop (u4 rec)) :: (pre ++ h1)) rfl hD (.inr ⟨rfl, .ret, h1, rfl, h⟩) a w ⟨hA.f, hA.i.sub hsub (hn hA.i.nodup)⟩
theorem zm.round {l : Nat} {R : Ending → World → Prop} : zm (roundPost P l R) := fun c d v a w hq => by
  cases d <;> exact hq
theorem vQ {fn : Func} {R : Ending → World → Prop} {tmps : Array Value} {d : Nat} {v : Value} (h : d ∉ xr fn) : ∀ (ds : List Deferred) (u : FrameMode) (w : World), LeavesInM Fence.wide 0 P fn (tmps.setIfInBounds d v) R ds u w → LeavesInM Fence.wide 0 P fn tmps R ds u w := by
  intro ds
  induction ds with
  | nil =>
    intro u w hl;cases u with
    | run => exact hl
    | returning => obtain ⟨r, h1, h2⟩ := hl; exact ⟨r, by rw [j7 h] at h1; exact h1, h2⟩
    | panicking c => exact hl
  | cons e ds ih =>
    intro u w ⟨h1, h2⟩;refine ⟨h1, ?_⟩;rcases h2 with ⟨r, w', h3, h4, h5⟩ | ⟨h3, fv, cap, f, args, h4, h5, h6, h7⟩
    · exact .inl ⟨r, w', h3, h4, ih _ _ h5⟩
    · refine .inr ⟨h3, fv, cap, f, args, h4, h5, h6, h7.mono fun e u w hh => ?_⟩;cases e with
      | returned r => exact ih _ _ hh
      | panicked c => exact ih _ _ hh
      | outgrown => exact hh
theorem zN.bodyM {fn : Func} {R : Ending → World → Prop} (h : offB ops fn = true) : zN ops (bodyPostM Fence.wide 0 P fn R) := fun i o v c a w ho hq => by
  have hm : o ∈ ops.toList := by
    have := Array.mem_of_getElem? ho;exact Array.mem_toList_iff.2 this
  have h1 := List.all_eq_true.1 h o hm;cases hd : o.dst with
  | none => rw [hd] at hq; exact hq
  | some d =>
    rw [hd] at h1 hq;have hn : d ∉ xr fn := by simpa using h1
    exact vQ hn _ _ _ hq
theorem Wi {r : Option Nat} (hnd : ∀ (i : Nat) (o : Oper), ops[i]? = some o → ∀ c, o.op ≠ .defer c) (hno : ¬ LetsOut Q) : ∀ (fuel : Nat) (listed : Array Bool) (a : Act) (w : World), wpAny P .any ops Q fuel listed a w → wpAnyIn (Fx r) 0 P .any ops Q fuel listed a w
  | 0, _, _, _, h => h
  | fuel + 1, _, _, _, h => ⟨h.1, fun i hi => Wj (hnd i) hno (wpOp_mono (fun a' w' h' => Wi hnd hno fuel _ a' w' h') (h.2 i hi))⟩
theorem WCF.drawH {r : Option Nat} {id : Nat} {l : List Oper} (hp0 : Hp) (hm : P.follows .mixedOrders = true) (hB : Jr l = true) (hno : ¬ LetsOut Q) (h0 : ∀ w, Inv D hp x.S x.w0 w → Inv D hp0 x.S x.w0 w)
    (h : WH P x l.toArray D hp0 l.length (List.replicate l.length false).toArray fr D hp Q) : WCF P r x fr D hp (.region id l.toArray true) Q := fun a w hA => by
  refine wpIn_region_any (F := Fx r) hm (Wi (uI hB) hno _ _ _ _ (wpAny_of_held (S := Inv D hp0 x.S x.w0) _ _ _ _ ?_));have := h _ _ ⟨hA.f, hA.i.drew (w.drawn + 1)⟩ (h0 _ (hA.i.drew _));have e : (Array.replicate l.toArray.size false) = (List.replicate l.length false).toArray := by simp
  rw [e];exact this
theorem WLF.sog {r : Option Nat} {rest : List Oper} {dst : Option Tmp} {op : Op} {pos : String} {af : Array Edge} {j : Nat} {b : Bool} {K : Value → Imm → Hp → Prop} (hn : ∀ c, op ≠ .defer c) (hg : gval ops fr j = some (.bool b)) (hs : SO P x fr D hp op ty Q K) (hd : dstB dst x.n = true) (h : ∀ v D' hp', K v D' hp' → WLF P r x ops (wj dst v fr) D' hp' rest Q) :
    WLF P r x ops fr D hp (⟨dst, op, ty, pos, af, some (j, b)⟩ :: rest) Q := fun a w hA => by
  unfold wpListIn;rw [if_pos (by rw [yy hA.f hg]; simp)];exact X5 hn (hs a w _ _ _ _ _ hA fun v D' hp' _ hk hi => h v D' hp' hk _ _ ⟨hA.f.putO hd v, hi⟩)
theorem WQ.skipU {K : Act → Prop} {l : List Nat} {i : Nat} {dst : Option Tmp} {op : Op} {pos : String} {af : Array Edge} {j : Nat} {b : Bool} (ho : ops[i]? = some ⟨dst, op, ty, pos, af, some (j, b)⟩) (hg : gval ops fr j = some undef) (hd : dstB dst x.n = true) (h : WQ P x ops D hp K l (wj dst undef fr)) : WQ P x ops D hp K (i :: l) fr := fun a hA =>
  ⟨_, undef, ho, .inr ⟨vp hA hg, rfl⟩, h _ (hA.putO hd undef)⟩
theorem u9 {ch : List PanicEntry} {fn : Func} {tmps : Array Value} {R : Ending → World → Prop} {ds : List Deferred} {hp0 : Hp} {S : List Nat} {w0 : World} (h : ∀ w', Inv D hp0 S w0 w' → LeavesInM Fence.wide 0 P fn tmps R ds (.panicking ch) w') :
    ∀ (bs : List Nat) (w : World), Inv D (bs.map dblk ++ hp0) S w0 w → LeavesInM Fence.wide 0 P fn tmps R (bs.map y1 ++ ds) (.panicking ch) w := by
  intro bs
  induction bs with
  | nil => intro w hI; exact h w hI
  | cons b bs ih =>
    intro w hI;have hb := hI.own b (.deferred (some [])) (List.mem_cons_self ..);have hI' := (yB hI (k := 0) rfl (.deferred none)).tail;exact ⟨by simp, .inl ⟨b, _, rfl, run_takeDeferred hb, ih _ hI'⟩⟩
theorem WP.panicMs {fn : Func} {ch : List PanicEntry} {R : Ending → World → Prop} (bs : List Nat) (hp0 : Hp) (hd : x.ds = bs.map y1) (hs : ∀ e, e ∈ bs.map dblk ++ hp0 → e ∈ hp) (hn : (keys hp).Nodup → (keys (bs.map dblk ++ hp0)).Nodup)
    (hR : ∀ w, Inv D hp0 x.S x.w0 w → R (.panicked ch) w) : WP x fr D hp (.panic ch) (bodyPostM Fence.wide 0 P fn R) := fun a w hA => by
  show LeavesInM Fence.wide 0 P fn a.tmps R a.defers (.panicking ch) w;rw [hA.f.defers, hd, ← List.append_nil (bs.map y1)];exact u9 (P := P) (fn := fn) (tmps := a.tmps) (R := R) (ds := []) (hp0 := hp0) (fun w' hI => hR w' hI) bs w (hA.i.sub hs (hn hA.i.nodup))
def zU (d : Nat) (Q : Exit → Act → World → Prop) : Prop := ∀ v c a w, Q (.panic c) (Act.put a (some d) v) w → Q (.panic c) a w
theorem zU.then {d : Nat} {K : Act → World → Prop} (h : zU d Q) : zU d (Exit.then K Q) := fun v c a w hq => h v c a w hq
theorem zU.blk {d id : Nat} (h : zU d Q) : zU d (Exit.inBlock id Q) := fun v c a w hq => h v c a w hq
theorem zU.sc {d : Nat} (h : zU d Q) : zU d (Exit.noGoto Q) := fun v c a w hq => h v c a w hq
theorem zU.bodyD {d : Nat} {fn : Func} {R : Ending → World → Prop} (h : (xr fn).contains d = false) : zU d (bodyPostD P fn R) := fun v c a w hq => uF (by simpa using h) _ _ _ hq
theorem zU.bodyM {d : Nat} {fn : Func} {R : Ending → World → Prop} (h : (xr fn).contains d = false) : zU d (bodyPostM Fence.wide 0 P fn R) := fun v c a w hq => vQ (by simpa using h) _ _ _ hq
theorem WH.ydD {D0 : Imm} {hp0 : Hp} {n i : Nat} {listed : Array Bool} {d : Tmp} {op : Op} {pos : String} {af : Array Edge} {v : Value} (hc : ((Region.ready .any ops listed).contains i && Region.free .any ops listed i && Region.noSelect ops) = true) (hQ : zU d Q) (ho : ops[i]? = some ⟨some d, op, ty, pos, af, none⟩)
    (hy : Yd P x fr D0 hp0 op ty v) (hd : Nat.blt d x.n = true) (h : WH P x ops D0 hp0 n (listed.setIfInBounds i true) ((d, v) :: fr) D hp Q) : WH P x ops D0 hp0 (n + 1) listed fr D hp Q := fun a w hA hI => by
  simp only [Bool.and_eq_true] at hc;exact wpAnyH_take ho hc.2 hc.1.2 hc.1.1 (fun c a w => hQ v c a w) (.inl ⟨rfl, fun w' hw' => hy a w' _ _ _ _ hA.f hw'⟩) hI (h _ _ ⟨hA.f.put hd v, hA.i⟩ hI)
theorem WHo.no {D0 : Imm} {hp0 : Hp} {n i : Nat} {listed : Array Bool} {dst : Option Tmp} {op : Op} {pos : String} {af : Array Edge} (ho : ops[i]? = some ⟨dst, op, ty, pos, af, none⟩) (hs : SO P x fr D hp op ty Q NoK) : WHo P x ops D0 hp0 n listed fr D hp Q i := fun a w hA _ => by
  unfold wpOp;simp only [ho];rw [if_pos (show Region.wanted ⟨dst, op, ty, pos, af, none⟩ (yielded ops a.tmps) = true from rfl)];exact .inl (hs a w _ _ _ _ _ hA fun _ _ _ _ hk _ => hk.elim)
theorem WH.know {D0 : Imm} {hp0 : Hp} {n : Nat} {listed : Array Bool} (t : Nat) {v : Value} (v' : Value) (ht : fr.get t = some v) (hv : v = v') (h : WH P x ops D0 hp0 n listed ((t, v') :: fr) D hp Q) : WH P x ops D0 hp0 n listed fr D hp Q :=
  fun a w hA hI => h a w ⟨hA.f.weaken (vz ht hv), hA.i⟩ hI
end
end Go.W
namespace Go.W
theorem YZ {α : Type} [Inhabited α] {f : α → List Value} {m : Nat} (hf : ∀ x, (f x).length = m) (y : α) (j : Nat) (vs : List Value) (hj : j + vs.length ≤ m) (rest : List Value) : ∀ (l : List α) (i : Nat), i < l.length → f y = splice (f (gt l i)) j vs → splice (l.flatMap f ++ rest) (0 + i * m + j) vs = (l.set i y).flatMap f ++ rest := by
  intro l
  induction l with
  | nil => intro i hi; simp at hi
  | cons a l ih =>
    intro i hi hy;cases i with
    | zero =>
      have ha : (f a).length = m := hf a;have hg : gt (a :: l) 0 = a := rfl;rw [hg] at hy;rw [List.set_cons_zero, List.flatMap_cons, List.flatMap_cons, hy];simp only [splice, Nat.zero_mul, Nat.zero_add, List.append_assoc];rw [List.take_append_of_le_length (by omega), List.drop_append_of_le_length (by omega)]
    | succ i =>
      have h := ih i (by simpa using hi) hy;simp only [splice, List.flatMap_cons, List.set_cons_succ, List.append_assoc] at h ⊢;have e1 : 0 + (i + 1) * m + j = (f a).length + (0 + i * m + j) := by rw [hf a, Nat.succ_mul]; omega
      rw [e1, List.take_length_add_append, show (f a).length + (0 + i * m + j) + vs.length = (f a).length + (0 + i * m + j + vs.length) by omega, List.drop_length_add_append, List.append_assoc, h]
section
variable {P : Program} {x : Cx} {fr : Fr} {D : Imm} {hp : Hp} {ty : TypeId} {Q : Exit → Act → World → Prop}
theorem SO.storeFlatN {α : Type} [Inhabited α] {f : α → List Value} {m : Nat} (hf : ∀ x, (f x).length = m) {t b i j n : Nat} {p o : Operand} {v : Value} {vs : List Value} {l : List α} (y : α) {rest : List Value} {e : TypeId} (k : Nat) (hk : hp[k]? = some (b, .cells (l.flatMap f ++ rest).toArray e (0, 0))) (hz : ∀ w, (sizeOf t).run P w = .ok n w)
    (hp' : opv fr p = some (.pointer (some ⟨b, 0 + i * m + j, none⟩))) (ho : opv fr o = some v) (hc : v.cells = vs.toArray) (hl : vs.length = n) (hi : i < l.length) (hj : j + n ≤ m) (hone : ∀ v ∈ vs, v.oneCell' = true) (hy : f y = splice (f (gt l i)) j vs) :
    SO P x fr D hp (.store t p o) ty Q (SetK D hp k b (.cells ((l.set i y).flatMap f ++ rest).toArray e (0, 0))) := by
  have h := SO.store (P := P) (x := x) (fr := fr) (D := D) (hp := hp) (ty := ty) (Q := Q) (vs := vs) k hk hz hp' ho hc hl (by
    rw [List.length_append, zr hf];have : (i + 1) * m ≤ l.length * m := Nat.mul_le_mul_right m hi;rw [Nat.succ_mul] at this;omega) hone
  rw [YZ hf y j vs (by omega) rest l i hi hy] at h;exact h
theorem RdN.flat {α : Type} [Inhabited α] {f : α → List Value} {m : Nat} (hf : ∀ x, (f x).length = m) {k b i j n : Nat} {vs : List Value} {l : List α} {rest : List Value} {e : TypeId} {fz : Nat × Nat} (hk : hp[k]? = some (b, .cells (l.flatMap f ++ rest).toArray e fz)) (hi : i < l.length) (hv : slc (f (gt l i)) j n = vs) : RdN D hp b (0 + i * m + j) vs := fun u v hu => by
  rw [← hv] at hu;unfold slc at hu;rw [List.getElem?_take] at hu;split at hu
  · rw [List.getElem?_drop] at hu
    have hlt : j + u < m := by
      rw [← hf (gt l i)];rcases Nat.lt_or_ge (j + u) (f (gt l i)).length with h | h
      · exact h
      · rw [List.getElem?_eq_none h] at hu; cases hu
    rw [Nat.add_assoc];exact Rd.flat hf hk hi hlt hu
  · cases hu
end
end Go.W
namespace Go.W
section
variable {P : Program} {x : Cx} {fr : Fr} {D : Imm} {hp : Hp} {Q : Exit → Act → World → Prop}
theorem WC.loopT {α : Type} {c : Code} (pre : Hp) (F : α → Fr) (Ht : α → Hp) (φ : α → Prop) (m : α → Nat) (x0 : α) (h0 : φ x0) (hhp : hp = pre ++ Ht x0) (hstart : subB (F x0) fr)
    (hround : ∀ y, φ y → WC P x (F y) D (pre ++ Ht y) c (Exit.then (fun a w => ∃ z, φ z ∧ m z < m y ∧ At x (F z) D (pre ++ Ht z) a w) Q)) : WC P x fr D hp (.loop c) Q :=
  WC.loop F (fun y => pre ++ Ht y) (fun _ => D) φ m x0 h0 (fun a w h => by subst hhp; exact y4 h hstart) hround
theorem WCF.loopT {r : Option Nat} {α : Type} {c : Code} (pre : Hp) (F : α → Fr) (Ht : α → Hp) (φ : α → Prop) (m : α → Nat) (x0 : α) (h0 : φ x0) (hhp : hp = pre ++ Ht x0) (hstart : subB (F x0) fr)
    (hround : ∀ y, φ y → WCF P r x (F y) D (pre ++ Ht y) c (Exit.then (fun a w => ∃ z, φ z ∧ m z < m y ∧ At x (F z) D (pre ++ Ht z) a w) Q)) : WCF P r x fr D hp (.loop c) Q :=
  WCF.loop F (fun y => pre ++ Ht y) (fun _ => D) φ m x0 h0 (fun a w h => by subst hhp; exact y4 h hstart) hround
theorem WP.againT {pre : Hp} {α : Type} {F : α → Fr} {Ht : α → Hp} {φ : α → Prop} {m : α → Nat} {k : Nat} (z : α) (hz : φ z) (hm : m z < k) (d hp2 : Hp) (hhp : hp = d ++ hp2) (heq : hp2 = pre ++ Ht z) (hf : subB (F z) fr) :
    WP x fr D hp .normal (Exit.then (fun a w => ∃ z, φ z ∧ m z < k ∧ At x (F z) D (pre ++ Ht z) a w) Q) := fun a w h => by
  refine ⟨z, hz, hm, ?_⟩;subst heq; subst hhp;exact yi h hf (fun e he => List.mem_append_right _ he) (fun hn => by rw [List.map_append] at hn; exact (List.nodup_append.1 hn).2.1)
theorem WC.hpEq {c : Code} {hp' : Hp} (h : hp = hp') (hw : WC P x fr D hp' c Q) : WC P x fr D hp c Q := by subst h; exact hw
end
end Go.W
namespace Go.W
section
variable {P : Program} {x : Cx} {fr : Fr} {D : Imm} {hp : Hp} {ty : TypeId}
theorem Yd.sliceArr {t e : TypeId} {m n : Nat} {p q : Operand} {b off h : Nat} (hu : P.underlying t = some (.array m e)) (hz : ∀ w, (sizeOf e).run P w = .ok n w) (hp' : opv fr p = some (.pointer (some ⟨b, off, none⟩))) (hq : opv fr q = some (nt h)) (h0 : h ≤ m) :
    Yd P x fr D hp (.slice t p none (some q) none) ty (.slice (some ⟨b, off, none⟩) h m) := fun act w _ _ _ _ hA _ => by
  simp only [execOp, Option.map_none, Option.map_some, hA.eval hp', hA.eval hq];have hi : (asIntOf (nt h)).run P w = .ok (IntKind.i64, (h : Int)) w := rfl;have hle : (0 : Int) ≤ (h : Int) ∧ (h : Int) ≤ (m : Int) := by omega
  have : (Instr.sliceAt t (.pointer (some ⟨b, off, none⟩)) none (some (nt h)) none).run P w = .ok (.slice (some ⟨b, off, none⟩) h m) w := by
    simp only [Instr.sliceAt, Instr.sliceBounds, Instr.sliceBound, Instr.sureAddr, Sem.run_bind, run_underlying hu, hi, Result.andThen_ok, Sem.run_pure, hz];simp only [Sem.run_ite, if_pos hle, Sem.run_pure, Result.andThen_ok, Sem.run_bind, hz];by_cases h0 : m = 0
    · subst h0; simp
    · simp [h0, Addr.add]
  simp [this]
end
end Go.W
namespace Go.W
section
variable {P : Program} {x : Cx} {fr : Fr} {D : Imm} {hp : Hp} {Q : Exit → Act → World → Prop} {ops : Array Oper} {w0 : World}
theorem WC.freezeN {c : Code} (k b : Nat) (o : Obj) (hw : x.w0 = w0) (hk : hp[k]? = some (b, o)) (hb : w0.heap.size ≤ b) (h : ∀ D', DExt w0 D D' → D' b = some o → WC P x fr D' (hp.eraseIdx k) c Q) : WC P x fr D hp c Q := by
  subst hw;exact WC.freezeK k hk fun hn => h _ ((DExt.refl _ _).add hn hb) (Imm.add_self _ _ _)
theorem WL.freezeN {l : List Oper} (k b : Nat) (o : Obj) (hw : x.w0 = w0) (hk : hp[k]? = some (b, o)) (hb : w0.heap.size ≤ b) (h : ∀ D', DExt w0 D D' → D' b = some o → WL P x ops fr D' (hp.eraseIdx k) l Q) : WL P x ops fr D hp l Q := by
  subst hw;exact WL.freezeK k hk fun hn => h _ ((DExt.refl _ _).add hn hb) (Imm.add_self _ _ _)
theorem WH.freezeN {D0 : Imm} {hp0 : Hp} {n : Nat} {listed : Array Bool} (k b : Nat) (o : Obj) (hw : x.w0 = w0) (hk : hp[k]? = some (b, o)) (hb : w0.heap.size ≤ b) (h : ∀ D', DExt w0 D D' → D' b = some o → WH P x ops D0 hp0 n listed fr D' (hp.eraseIdx k) Q) : WH P x ops D0 hp0 n listed fr D hp Q := by
  subst hw;exact WH.freezeK k hk fun hn => h _ ((DExt.refl _ _).add hn hb) (Imm.add_self _ _ _)
end
end Go.W
namespace Go.W
section
variable {P : Program} {x : Cx} {fr : Fr} {D : Imm} {hp : Hp} {ty : TypeId}
theorem Yd.fieldZ {s t : TypeId} {fs : Array Field} {f b : Nat} {p : Operand} (k : Nat) (hk : hp[k]? = some (b, .cells (List.toArray []) s (0, 0))) (hu : P.underlying s = some (.struct fs)) (hf : (fs[f]?).map (fun fd => (fd.type, fd.offset, fd.byteOffset)) = some (t, 0, 0)) (hz : ∀ w, (sizeOf t).run P w = .ok 0 w) (hs : P.cellsOf s = 0)
    (hp' : opv fr p = some (.pointer (some ⟨b, 0, none⟩))) : Yd P x fr D hp (.fieldAddr s p f) ty (.pointer (some ⟨b, 0, none⟩)) := fun a w _ _ _ _ hA hI => by
  have hb := hI.own _ _ (mem_of_get? hk);simp only [execOp, hA.eval hp'];cases hfd : fs[f]? with
  | none => rw [hfd] at hf; cases hf
  | some fd =>
    rw [hfd] at hf;simp only [Option.map_some, Option.some.injEq, Prod.mk.injEq] at hf;obtain ⟨rfl, h1, h2⟩ := hf;unfold Instr.fieldAt;simp [run_underlying hu, hfd, Instr.sureAddr, fieldPlace, hz, partAt, byteOf, noView, viewAt, World.shape?, hb, hs, h1, h2]
end
end Go.W
namespace Go.W
def Va (P : Program) (gf : Nat) (lb : List Value) (N : Nat) (arg1 arg2 : Nat → Value) (D : Imm) (w : World) : Prop :=
  ∀ (l : Nat) (St : Nat → Imm → Hp → Prop) (Sp : Imm → Hp → Prop), (∀ k D1 D2 h, DExt w D1 D2 → St k D1 h → St k D2 h) →
    (∀ k D' h w', k < N → w.heap.size ≤ w'.heap.size → DExt w D D' → St k D' h → Inv D' h (keys h) w' w' → YieldAt Fence.wide 0 P l #[arg1 k, arg2 k] w' (xV w' D' (keys h) (fun b D'' h' => (b = true ∧ St (k + 1) D'' h') ∨ (b = false ∧ Sp D'' h')))) →
    ∀ h0, St 0 D h0 → Inv D h0 (keys h0) w w → zp P gf ((.func (.yield l) #[] #[]) :: lb) w D (keys h0) (fun _ D' h' => St N D' h' ∨ Sp D' h')
section
variable {P : Program} {x : Cx} {fr : Fr} {D : Imm} {hp : Hp} {Q : Exit → Act → World → Prop}
theorem WC.rangeIterN2 {g : Operand} {pm pn : Tmp} {assign body : Code} {gf : Nat} {lb : List Value} {N : Nat} {arg1 arg2 : Nat → Value} (hit : ∀ w, x.w0.heap.size ≤ w.heap.size → Holds D w → Va P gf lb N arg1 arg2 D w) (hg : opv fr g = some (.func (.func gf) #[] lb.toArray)) (hc : ∀ args w, (callFunc gf args).run P w = .ok (.enter gf args) w) (hpm : Nat.blt pm x.n = true) (hpn : Nat.blt pn x.n = true)
    (St : Nat → Imm → Hp → Prop) (Sp : Code → Imm → Hp → Prop) (hmono : ∀ k D1 D2 h, DExt x.w0 D1 D2 → St k D1 h → St k D2 h) (h0 : St 0 D hp)
    (hbody : ∀ rec l Dn k D1 h w1, (rec.state = .ready ∧ rec.pending = none) → k < N → St k D1 h → DExt x.w0 D D1 → x.w0.heap.size ≤ w1.heap.size → yP P x.n l rec [(Dn, .deferred (some []))] ((pn, arg2 k) :: (pm, arg1 k) :: fr) D1 h w1 assign body (St (k + 1)) Sp)
    (hdone : ∀ Dn D' hp', x.w0.heap.size ≤ Dn → DExt x.w0 D D' → St N D' hp' → WP ⟨x.n, y1 Dn :: x.ds, x.S, x.w0⟩ fr D' ((Dn, .deferred (some [])) :: hp') .normal Q)
    (hstop : ∀ Dn c D' hp', x.w0.heap.size ≤ Dn → DExt x.w0 D D' → Sp c D' hp' → WC P ⟨x.n, y1 Dn :: x.ds, x.S, x.w0⟩ fr D' ((Dn, .deferred (some [])) :: hp') c Q) :
    WC P x fr D hp (.rangeFunc g #[pm, pn] assign body) Q := by
  refine WC.rangeFuncM (K := fun D' hp' pend => DExt x.w0 D D' ∧ ((pend = none ∧ St N D' hp') ∨ ∃ c, pend = some c ∧ Sp c D' hp')) hg hc (fun rec l Dn w₁ hst hpe hps has hbo hT hDn hl hI => ?_) (fun Dn D' hp' pend hDn hK => ?_)
  · have hsz := hI.keep.size;have hI1 := hI.toKeys;refine Calls.mono (hit w₁ hsz hI.imm l (fun k D' h => ∃ h1, h = (l, .loop rec) :: ([(Dn, .deferred (some []))] ++ h1) ∧ St k D' h1) (fun D' h => ∃ c h1, h = (l, .loop { rec with state := .done, pending := some c }) :: ([(Dn, .deferred (some []))] ++ h1) ∧ Sp c D' h1) ?_ ?_ _ ⟨hp, rfl, h0⟩ hI1) ?_
    · rintro k D1 D2 h hx ⟨h1, rfl, hs⟩;exact ⟨h1, rfl, hmono _ _ _ _ (hx.wide hsz) hs⟩
    · rintro k D1 h w' hk hsz2 hX ⟨h1, rfl, hs⟩ hI2;have hb := hbody rec l Dn k D1 h1 w' ⟨hst, hpe⟩ hk hs (hX.wide hsz) (Nat.le_trans hsz hsz2);refine YieldAt.mono (kN (rec := rec) (k := 0) (n := x.n) (fr := (pn, arg2 k) :: (pm, arg1 k) :: fr) has hbo hI2 rfl (by rw [hps]; rfl) (by rw [hps]; exact hT.round2 hpm hpn) hb) ?_;rintro e w'' ⟨b, D', hp', rfl, hD, hI3, hK⟩;refine ⟨b, D', hp', rfl, hD, hI3, ?_⟩;rcases hK with ⟨rfl, h1, rfl, hs1⟩ | ⟨rfl, c, h1, rfl, hs1⟩
      · exact .inl ⟨rfl, h1, rfl, hs1⟩
      · exact .inr ⟨rfl, c, h1, rfl, hs1⟩
    · rintro e w' ⟨v, D', hpc', rfl, hXe, hIe, hK⟩
      have hIu := Inv.unframeN (own := []) hI (fun _ h => h) (fun b hb => by
        obtain ⟨o, ho⟩ := yQ hb;exact hIe.may b o ho) hXe hIe
      rcases hK with ⟨h1, rfl, hs⟩ | ⟨c, h1, rfl, hs⟩
      · refine ⟨v, D', h1, .ready, none, rfl, by decide, ?_, hXe.wide hsz, .inl ⟨rfl, hs⟩⟩;rw [rec_eta' hst hpe]; exact hIu
      · exact ⟨v, D', h1, .done, some c, rfl, by decide, hIu, hXe.wide hsz, .inr ⟨c, rfl, hs⟩⟩
  · obtain ⟨hX, ⟨rfl, hs⟩ | ⟨c, rfl, hs⟩⟩ := hK
    · exact hdone Dn D' hp' hDn hX hs
    · exact hstop Dn c D' hp' hDn hX hs
end
end Go.W
namespace Go.W
section
variable {P : Program} {x : Cx} {fr : Fr} {D : Imm} {hp : Hp} {ty : TypeId}
theorem Yd.shlN {t t' : TypeId} {o p : Operand} {k : Nat} (ho : opv fr o = some (.int .i64 1)) (hp' : opv fr p = some (nt k)) (hk : k ≤ 40) : Yd P x fr D hp (.binOp .shl t o p t') ty (nt (2 ^ k)) :=
  Yd.shl ho hp' (by omega) (by
    have e : min ((k : Int)).toNat IntKind.i64.bits = k := by
      show min k 64 = k; omega
    have h2 : 2 ^ k ≤ 2 ^ 40 := Nat.pow_le_pow_right (by omega) hk;rw [e, Int.one_mul, show ((2 : Int) ^ k) = ((2 ^ k : Nat) : Int) by rw [Int.natCast_pow]; rfl];generalize 2 ^ k = u at h2;exact wr64 (by omega))
end
end Go.W
namespace Go.W
section
variable {P : Program} {x : Cx} {fr : Fr} {D : Imm} {hp : Hp} {Q : Exit → Act → World → Prop} {ops : Array Oper} {w0 : World}
theorem WA.freezeN {D0 : Imm} {hpx : Hp} {plan : List (Nat × Bool)} (k b : Nat) (o : Obj) (hw : x.w0 = w0) (hk : hp[k]? = some (b, o)) (hb : w0.heap.size ≤ b) (h : ∀ D', DExt w0 D D' → D' b = some o → WA P x ops D0 hpx plan fr D' (hp.eraseIdx k) Q) : WA P x ops D0 hpx plan fr D hp Q := by
  subst hw;intro a w hA;have h1 := (hA.i.freezeK k hk).1;exact h _ ((DExt.refl _ _).add h1 hb) (Imm.add_self _ _ _) a w ⟨hA.f, (hA.i.freezeK k hk).2⟩
end
end Go.W
namespace Go.W
section
variable {D : Imm} {hp : Hp}
end
end Go.W
namespace Go.W
theorem SlL.take {D : Imm} {size : Nat} {rows : List (List Value)} {a : Option Addr} {n k : Nat} (h : SlL D size rows a n) (hk : k ≤ n) : SlL D size (rows.take k) a k :=
  ⟨by rw [List.length_take, ← h.len]; omega, fun i r hr => by
    rw [List.getElem?_take] at hr;split at hr
    · exact h.row i r hr
    · cases hr⟩
def u6 (a : Option Addr) (c k size : Nat) : Option Addr := if c = k then a else a.map (·.add (k * size))
theorem SlL.drop {D : Imm} {size : Nat} {rows : List (List Value)} {a : Option Addr} {n c k : Nat} (h : SlL D size rows a n) (hk : k ≤ n) (hc : n ≤ c) : SlL D size (rows.drop k) (u6 a c k size) (n - k) :=
  ⟨by rw [List.length_drop, ← h.len], fun i r hr => by
    rw [List.getElem?_drop] at hr
    have hlt : k + i < n := by
      rw [h.len];rcases Nat.lt_or_ge (k + i) rows.length with h1 | h1
      · exact h1
      · rw [List.getElem?_eq_none h1] at hr; cases hr
    obtain ⟨h1, h2⟩ := h.row (k + i) r hr;unfold u6;rw [if_neg (by omega)]
    have e : (a.map (·.add (k * size))) = some ⟨sb a, so a + k * size, none⟩ := by
      rw [h1]
      show some (Addr.add ⟨sb a, so a, none⟩ (k * size)) = some _;unfold Addr.add;by_cases h0 : k * size = 0
      · rw [if_pos h0, h0]; rfl
      · rw [if_neg h0]; rfl
    rw [e];refine ⟨rfl, ?_⟩
    show RdD D (sb a) (so a + k * size + i * size) r;rw [Nat.add_assoc, ← Nat.add_mul];exact h2⟩
section
variable {P : Program} {x : Cx} {fr : Fr} {D : Imm} {hp : Hp} {ty : TypeId}
theorem Yd.sliceFrom {t e : TypeId} {n : Nat} {p q : Operand} {a : Option Addr} {len cap k : Nat} (hu : P.underlying t = some (.slice e)) (hz : ∀ w, (sizeOf e).run P w = .ok n w) (hp' : opv fr p = some (.slice a len cap)) (hq : opv fr q = some (nt k)) (hk : k ≤ len) :
    Yd P x fr D hp (.slice t p (some q) none none) ty (.slice (u6 a cap k n) (len - k) (cap - k)) := fun act w _ _ _ _ hA _ => by
  simp only [execOp, Option.map_none, Option.map_some, hA.eval hp', hA.eval hq];have hi : (asIntOf (nt k)).run P w = .ok (IntKind.i64, (k : Int)) w := rfl
  have : (Instr.slice t (.slice a len cap) (some (nt k)) none none).run P w = .ok (.slice (u6 a cap k n) (len - k) (cap - k)) w := by
    simp only [Instr.slice, Instr.sliceBounds, Instr.sliceBound, Sem.run_bind, run_underlying hu, hi, Result.andThen_ok, Sem.run_pure, hz];have hle : (0 : Int) ≤ (k : Int) ∧ (k : Int) ≤ (len : Int) := by omega
    simp only [Sem.run_ite, if_pos hle, Sem.run_pure, Result.andThen_ok, Sem.run_bind, hz];simp [u6]
  simp [this, Instr.sliceAt, run_underlying hu]
end
end Go.W
namespace Go.W
def AllL (p : Nat → Prop) : List Nat → Prop
  | [] => True
  | i :: l => p i ∧ AllL p l
theorem AllL.mem {p : Nat → Prop} : ∀ {l : List Nat}, AllL p l → ∀ i, i ∈ l → p i
  | j :: l, h, i, hi => by
    rcases List.mem_cons.1 hi with rfl | hi
    · exact h.1
    · exact h.2.mem i hi
section
variable {P : Program} {x : Cx} {fr : Fr} {D : Imm} {hp : Hp} {Q : Exit → Act → World → Prop} {ops : Array Oper} {D0 : Imm} {hp0 : Hp} {n : Nat} {listed : Array Bool}
theorem WH.all (rs : List Nat) (hr : decide (Region.ready .any ops listed = rs) = true) (hne : rs ≠ []) (h : AllL (WHo P x ops D0 hp0 n listed fr D hp Q) rs) : WH P x ops D0 hp0 (n + 1) listed fr D hp Q := fun a w hA hI =>
  wpAnyH_all (of_decide_eq_true hr) hne fun i hi => h.mem i hi a w hA hI
theorem WH.ofFr (fr' : Fr) (hf : subB fr' fr) (h : WH P x ops D0 hp0 n listed fr' D hp Q) : WH P x ops D0 hp0 n listed fr D hp Q := fun a w hA => h a w (y4 hA hf)
theorem zlj {α : Type} (e : α) (A T : List α) : (e :: (A ++ T)).Perm (A ++ e :: T) := List.perm_middle.symm
theorem perm2 {α : Type} (e : α) (A B T : List α) : (e :: (A ++ (B ++ T))).Perm (A ++ (B ++ e :: T)) := by
  have h := zlj e (A ++ B) T
  rwa [List.append_assoc, List.append_assoc] at h
end
end Go.W
namespace Go.W
theorem Inv.none {D : Imm} {hp : Hp} {S : List Nat} {w0 w : World} (h : Inv D hp S w0 w) : Inv D [] S w0 w := h.sub (fun _ he => nomatch he) List.nodup_nil
end Go.W
namespace Go.W
variable {P : Program} {x : Cx} {fr : Fr} {D : Imm} {hp : Hp}
end Go.W
namespace Go.W
section
variable {P : Program} {x : Cx} {fr : Fr} {D : Imm} {hp : Hp} {ty : TypeId} {Q : Exit → Act → World → Prop}
theorem Inv.turn {a b : Hp} {S : List Nat} {w0 w : World} (h : Inv D (a ++ b) S w0 w) : Inv D (b ++ a) S w0 w :=
  h.sub (fun e he => List.perm_append_comm.mem_iff.1 he) (((List.perm_append_comm (l₁ := a) (l₂ := b)).map Prod.fst).nodup_iff.1 h.nodup)
end
end Go.W
