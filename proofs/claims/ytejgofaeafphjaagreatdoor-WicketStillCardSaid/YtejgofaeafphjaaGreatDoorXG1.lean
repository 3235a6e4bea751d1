import Derived.Test.YtejgofaeafphjaaGreatDoorXG0
import Derived.WideKeyEntry
set_option linter.all false
set_option maxRecDepth 100000
set_option maxHeartbeats 4000000
namespace Go.W
def owL (o : Option Ow) (len size : Nat) : Prop := match o with | none => len = 0 | some o => len ≤ o.cap ∧ o.rest.length = (o.cap - len) * size
theorem wt {w : World} {o : Option Ow} {len size : Nat} (h : owP w o len size) : owL o len size := by
  cases o with
  | none => exact h
  | some o => exact h.2
section
variable {P : Program} {x : Cx} {fr : Fr} {D : Imm} {hp : Hp} {ty : TypeId} {Q : Exit → Act → World → Prop} {ops : Array Oper}
def zp (P : Program) (f : FuncId) (vals : List Value) (w : World) (D : Imm) (S1 : List Nat) (K : Value → Imm → Hp → Prop) : Prop :=
  Calls P f vals.toArray w fun e w' => ∃ v D' hpc', e = .returned v ∧ DExt w D D' ∧ Inv D' hpc' S1 w w' ∧ K v D' hpc'
theorem SO.altersN {c : Call} {f : FuncId} {vals : List Value} {S1 : List Nat} {K : Value → Imm → Hp → Prop} (own hpc : Hp) (hhp : ∀ e, e ∈ own ++ hpc → e ∈ hp) (hnd : (keys hp).Nodup → (keys (own ++ hpc)).Nodup)
    (hS : ∀ b, b ∈ S1 → b ∈ keys hpc) (hS' : ∀ b, b ∈ keys hpc → b ∈ S1) (he : Enters P x fr D hp c ty f vals)
    (hk : ∀ w, Inv D hpc S1 w w → zp P f vals w D S1 K) : SO P x fr D hp (.call c) ty Q (AltK x.w0 D own K) := fun a w dst pos af g next hA hn => by
  unfold Oper.wp;rw [he a w dst pos af g hA.f hA.i, Oper.upon_enter];have hI := hA.i.sub hhp (hnd hA.i.nodup);refine (hk w (hI.frame hS')).mono fun e w' ⟨v, D', hpc', h, hD, hI', hK⟩ => ?_;rw [h];exact hn _ _ _ _ ⟨hpc', ⟨hD.old, fun b hb => hD.new b (Nat.lt_of_lt_of_le hb hA.i.keep.size)⟩, hK, rfl⟩ (hI.unframeN hS (fun b hb => by obtain ⟨o, ho⟩ := yQ hb; exact hI'.may b o ho) hD hI')
theorem Inv.pick {S : List Nat} {w0 w : World} (k : Nat) {e : Nat × Obj} (hk : hp[k]? = some e) (h : Inv D hp S w0 w) : Inv D [e] S w0 w :=
  h.sub (fun e' he' => by rw [List.mem_singleton.1 he']; exact List.mem_of_getElem? hk) (by simp)
theorem WH.freezeK {D0 : Imm} {hp0 : Hp} {n : Nat} {listed : Array Bool} (k : Nat) {b : Nat} {o : Obj} (hk : hp[k]? = some (b, o)) (h : D b = none → WH P x ops D0 hp0 n listed fr (D.add b o) (hp.eraseIdx k) Q) : WH P x ops D0 hp0 n listed fr D hp Q :=
  fun a w hA hI => h (hA.i.freezeK k hk).1 a w ⟨hA.f, (hA.i.freezeK k hk).2⟩ hI
end
end Go.W
namespace Go.W
section
variable {P : Program} {x : Cx} {fr : Fr} {D : Imm} {hp : Hp} {Q : Exit → Act → World → Prop} {ops : Array Oper} {rest : List Oper} {dst : Option Tmp} {op : Op} {ty : TypeId} {pos : String} {af : Array Edge}
theorem vp {n : Nat} {ds : List Deferred} {a : Act} (hA : AtF n fr ds a) {j : Nat} {want : Bool} (h : gval ops fr j = some undef) : Region.wanted ⟨dst, op, ty, pos, af, some (j, want)⟩ (yielded ops a.tmps) = false := by
  have h1 : yielded ops a.tmps j = none := by
    unfold gval at h;unfold yielded;cases hd : (ops[j]?).bind (·.dst) with
    | none => rfl
    | some t => rw [hd] at h; simp only [Option.bind_some] at h ⊢; rw [hA.slot _ _ h]; rfl
  unfold Region.wanted;simp only [h1];cases want <;> rfl
theorem WL.skipU {j : Nat} {b : Bool} (hg : gval ops fr j = some undef) (hd : dstB dst x.n = true) (h : WL P x ops (wj dst undef fr) D hp rest Q) : WL P x ops fr D hp (⟨dst, op, ty, pos, af, some (j, b)⟩ :: rest) Q :=
  fun a w hA => wpList_step fun K hK => by
    rw [if_neg (by rw [vp hA.f hg]; simp)];exact hK _ _ (h _ _ ⟨hA.f.putO hd undef, hA.i⟩)
theorem WA.skipU {D0 : Imm} {hp0 : Hp} {plan : List (Nat × Bool)} {i : Nat} {y : Bool} {j : Nat} {b : Bool} (ho : ops[i]? = some ⟨dst, op, ty, pos, af, some (j, b)⟩) (hg : gval ops fr j = some undef) (hd : dstB dst x.n = true) (h : WA P x ops D0 hp0 plan (wj dst undef fr) D hp Q) :
    WA P x ops D0 hp0 ((i, y) :: plan) fr D hp Q := fun a w hA => by
  have hw : Region.wanted ⟨dst, op, ty, pos, af, some (j, b)⟩ (yielded ops a.tmps) = false := vp hA.f hg;have := h _ _ ⟨hA.f.putO hd undef, hA.i⟩;cases y with
  | true => exact ⟨_, undef, ho, .inr ⟨hw, rfl⟩, this⟩
  | false => exact ⟨_, ho, by rw [if_neg (by rw [hw]; simp)]; exact this⟩
end
end Go.W
namespace Go.W
open Go.WideElems (findIdx_born findIdx_arr modify_last)
section
variable {α : Type} [DecidableEq α]
structure MapR (kv : α → Value) (es : Array MapEntry) (clock : Nat) (F : α → Option Int) : Prop where
  ent : ∀ e ∈ es.toList, ∃ x v, e.key = kv x ∧ e.val = it v ∧ F x = some v
  all : ∀ x v, F x = some v → ∃ e ∈ es.toList, e.key = kv x
  keys : (es.toList.map (·.key)).Nodup
  born : (es.toList.map (·.born)).Nodup
  lt : ∀ e ∈ es.toList, e.born < clock
def putF (F : α → Option Int) (x : α) (v : Int) : α → Option Int := fun y => if y = x then some v else F y
theorem MapR.empty (kv : α → Value) : MapR kv #[] 0 (fun _ => none) := ⟨fun e he => (by simp at he), fun x v h => (by cases h), (by simp), (by simp), fun e he => (by simp at he)⟩
variable {kv : α → Value} {es : Array MapEntry} {clock : Nat} {F : α → Option Int}
theorem MapR.push (hinj : ∀ x y, kv x = kv y → x = y) (h : MapR kv es clock F) {x : α} (hno : ∀ e ∈ es.toList, e.key ≠ kv x) (v : Int) : MapR kv (es.push { key := kv x, val := it v, born := clock }) (clock + 1) (putF F x v) := by
  refine ⟨fun e he => ?_, fun y u hy => ?_, ?_, ?_, fun e he => ?_⟩
  · simp only [Array.toList_push, List.mem_append, List.mem_singleton] at he;rcases he with he | rfl
    · obtain ⟨y, u, h1, h2, h3⟩ := h.ent e he;refine ⟨y, u, h1, h2, ?_⟩;unfold putF;rw [if_neg (fun e' => hno e he (by rw [h1, e']))];exact h3
    · exact ⟨x, v, rfl, rfl, by simp [putF]⟩
  · simp only [Array.toList_push, List.mem_append, List.mem_singleton];unfold putF at hy;split at hy
    · rename_i e; subst e; exact ⟨_, .inr rfl, rfl⟩
    · obtain ⟨e, he, hk⟩ := h.all y u hy;exact ⟨e, .inl he, hk⟩
  · simp only [Array.toList_push, List.map_append, List.map_cons, List.map_nil];refine List.nodup_append.2 ⟨h.keys, by simp, fun a ha c hc e1 => ?_⟩;simp only [List.mem_singleton] at hc;obtain ⟨e, he, rfl⟩ := List.mem_map.1 ha;exact hno e he (e1.trans hc)
  · simp only [Array.toList_push, List.map_append, List.map_cons, List.map_nil];refine List.nodup_append.2 ⟨h.born, by simp, fun a ha c hc e1 => ?_⟩;simp only [List.mem_singleton] at hc;obtain ⟨e, he, rfl⟩ := List.mem_map.1 ha;have := h.lt e he;omega
  · simp only [Array.toList_push, List.mem_append, List.mem_singleton] at he;rcases he with he | rfl
    · have := h.lt e he; omega
    · exact Nat.lt_succ_self _
theorem Ue {β : Type} (f : MapEntry → MapEntry) (g : MapEntry → β) (hg : ∀ e, g (f e) = g e) : ∀ (l : List MapEntry) (q : Nat), (l.modify q f).map g = l.map g := by
  intro l
  induction l with
  | nil => intro q; cases q <;> simp
  | cons a l ih => intro q; cases q with
    | zero => simp [hg]
    | succ q => simp [ih]
theorem MapR.write (hinj : ∀ x y, kv x = kv y → x = y) (h : MapR kv es clock F) {x : α} {q : Nat} {e0 : MapEntry} (hq : es.toList[q]? = some e0) (hk : e0.key = kv x) (v : Int) (f : MapEntry → MapEntry) (hf : ∀ e, (f e).key = e.key ∧ (f e).born = e.born ∧ (f e).val = it v) :
    MapR kv (es.modify q f) clock (putF F x v) := by
  have hkey : ∀ (r : Nat) (e : MapEntry), es.toList[r]? = some e → e.key = kv x → r = q := fun r e hr hek => by
    have h1 : (es.toList.map (·.key))[r]? = some (kv x) := by simp [hr, hek]
    have h2 : (es.toList.map (·.key))[q]? = some (kv x) := by simp [hq, hk]
    have hl : r < (es.toList.map (·.key)).length := by
      rcases Nat.lt_or_ge r (es.toList.map (·.key)).length with h3 | h3
      · exact h3
      · rw [List.getElem?_eq_none h3] at h1; cases h1
    exact (List.getElem?_inj hl h.keys).1 (h1.trans h2.symm)
  have hmem : ∀ e, e ∈ (es.modify q f).toList → (e = f e0) ∨ (e ∈ es.toList ∧ e.key ≠ kv x) := fun e he => by
    rw [Array.toList_modify] at he;obtain ⟨r, hr⟩ := List.mem_iff_getElem?.1 he;rw [List.getElem?_modify] at hr;by_cases hrq : q = r
    · subst hrq; rw [hq] at hr; simp at hr; exact .inl hr.symm
    · simp only [if_neg hrq] at hr;simp only [Option.map_eq_map, Option.map_id'] at hr;exact .inr ⟨List.mem_of_getElem? hr, fun hek => hrq (hkey r e hr hek).symm⟩
  refine ⟨fun e he => ?_, fun y u hy => ?_, ?_, ?_, fun e he => ?_⟩
  · rcases hmem e he with rfl | ⟨h1, h2⟩
    · exact ⟨x, v, (hf e0).1.trans hk, (hf e0).2.2, by simp [putF]⟩
    · obtain ⟨y, u, g1, g2, g3⟩ := h.ent e h1;refine ⟨y, u, g1, g2, ?_⟩;unfold putF;rw [if_neg (fun e' => h2 (by rw [g1, e']))];exact g3
  · unfold putF at hy
    have hin : ∀ (r : Nat) (e : MapEntry), es.toList[r]? = some e → ∃ e' ∈ (es.modify q f).toList, e'.key = e.key := fun r e hr => by
      rw [Array.toList_modify];by_cases hrq : q = r
      · subst hrq; exact ⟨f e, List.mem_iff_getElem?.2 ⟨q, by rw [List.getElem?_modify, hr]; simp⟩, (hf e).1⟩
      · exact ⟨e, List.mem_iff_getElem?.2 ⟨r, by rw [List.getElem?_modify, hr]; simp [hrq]⟩, rfl⟩
    split at hy
    · rename_i e; subst e
      obtain ⟨e', h1, h2⟩ := hin q e0 hq;exact ⟨e', h1, h2.trans hk⟩
    · obtain ⟨e, he, hek⟩ := h.all y u hy;obtain ⟨r, hr⟩ := List.mem_iff_getElem?.1 he;obtain ⟨e', h1, h2⟩ := hin r e hr;exact ⟨e', h1, h2.trans hek⟩
  · rw [Array.toList_modify, Ue f _ (fun e => (hf e).1)]; exact h.keys
  · rw [Array.toList_modify, Ue f _ (fun e => (hf e).2.1)]; exact h.born
  · rcases hmem e he with rfl | ⟨h1, _⟩
    · rw [(hf e0).2.1]; exact h.lt e0 (List.mem_of_getElem? hq)
    · exact h.lt e h1
end
section
variable {α : Type} [DecidableEq α] {kv : α → Value} {P : Program} {x : Cx} {fr : Fr} {D : Imm} {hp : Hp} {ty : TypeId} {Q : Exit → Act → World → Prop} {t k e : TypeId} {es : Array MapEntry} {clock b j : Nat} {F : α → Option Int}
end
end Go.W
namespace Go.W
theorem Uu {P : Program} {o : Oper} {a : Act} {w : World} {K M : Act → World → Prop} {Q : Exit → Act → World → Prop} (hh : o.wp P a w K (Exit.then M Q)) : o.wp P a w K Q := by
  unfold Oper.wp at *;generalize (execOp a.eval o).run P w = r at *;cases r with
  | ok n w' => cases n <;> exact hh
  | _ => exact hh
theorem V2 {P : Program} {ops : Array Oper} {Q : Exit → Act → World → Prop} {l2 : List Oper} : ∀ {l1 : List Oper} {a : Act} {w : World}, wpList P ops (Exit.then (wpList P ops Q l2) Q) l1 a w → wpList P ops Q (l1 ++ l2) a w := by
  intro l1
  induction l1 with
  | nil => intro a w h; exact h
  | cons o l1 ih =>
    intro a w h;simp only [wpList, List.cons_append] at h ⊢;split
    · rename_i hw
      rw [if_pos hw] at h;rcases h with h | ⟨h1, h2⟩
      · exact .inl (Uu (Oper.wp_mono (fun a w hh => ih hh) h))
      · exact .inr ⟨h1, h2⟩
    · rename_i hw
      rw [if_neg hw] at h;exact ih h
section
variable {P : Program} {x : Cx} {fr : Fr} {D : Imm} {hp : Hp} {ty : TypeId} {Q : Exit → Act → World → Prop} {ops : Array Oper} {rest : List Oper}
theorem WL.cut (n : Nat) (fr' : Fr) (h1 : WL P x ops fr D hp (rest.take n) (Exit.then (fun a w => At x fr' D hp a w) Q)) (h2 : WL P x ops fr' D hp (rest.drop n) Q) : WL P x ops fr D hp rest Q := fun a w hA => by
  have h := h1 a w hA;rw [← List.take_append_drop n rest];refine V2 ?_
  have key : ∀ (l : List Oper) (a : Act) (w : World), wpList P ops (Exit.then (fun a w => At x fr' D hp a w) Q) l a w → wpList P ops (Exit.then (wpList P ops Q (rest.drop n)) Q) l a w := by
    intro l
    induction l with
    | nil => intro a w h; exact h2 a w h
    | cons o l ih =>
      intro a w h;simp only [wpList] at h ⊢;split
      · rename_i hw
        rw [if_pos hw] at h;rcases h with h | ⟨g1, g2⟩
        · exact .inl (by
            have h3 := Oper.wp_mono (fun a w hh => ih a w hh) h;unfold Oper.wp at *;generalize (execOp a.eval o).run P w = r at *;cases r with
            | ok n w' => cases n <;> exact h3
            | _ => exact h3)
        · exact .inr ⟨g1, g2⟩
      · rename_i hw
        rw [if_neg hw] at h;exact ih _ _ h
  exact key _ a w h
theorem WL.ofFr (fr' : Fr) (hf : subB fr' fr) (h : WL P x ops fr' D hp rest Q) : WL P x ops fr D hp rest Q := fun a w hA => h a w (y4 hA hf)
theorem Yd.sliceTo {t e : TypeId} {n : Nat} {p q : Operand} {a : Option Addr} {len cap h : Nat} (hu : P.underlying t = some (.slice e)) (hz : ∀ w, (sizeOf e).run P w = .ok n w) (hp' : opv fr p = some (.slice a len cap)) (hq : opv fr q = some (nt h)) (h0 : h ≤ cap) :
    Yd P x fr D hp (.slice t p none (some q) none) ty (.slice a h cap) := fun act w _ _ _ _ hA _ => by
  simp only [execOp, Option.map_none, Option.map_some, hA.eval hp', hA.eval hq];have hi : (asIntOf (nt h)).run P w = .ok (IntKind.i64, (h : Int)) w := rfl
  have : (Instr.slice t (.slice a len cap) none (some (nt h)) none).run P w = .ok (.slice a h cap) w := by
    simp only [Instr.slice, Instr.sliceBounds, Instr.sliceBound, Sem.run_bind, run_underlying hu, hi, Result.andThen_ok, Sem.run_pure, hz];have hle : (0 : Int) ≤ (h : Int) ∧ (h : Int) ≤ (cap : Int) := by omega
    simp only [Sem.run_ite, if_pos hle, Sem.run_pure, Result.andThen_ok, Sem.run_bind, hz];cases a with
    | none => simp
    | some a => simp [Addr.add]
  simp [this, Instr.sliceAt, run_underlying hu]
end
end Go.W
namespace Go.W
section
variable {P : Program} {x : Cx} {fr : Fr} {D : Imm} {hp : Hp} {ty : TypeId} {Q : Exit → Act → World → Prop}
def owAt (o : Option Ow) : Option Addr := match o with | none => none | some u => some ⟨u.b, 0, none⟩
def owCp (o : Option Ow) (n : Nat) : Nat := match o with | none => 0 | some u => u.cap
theorem xg {o : Option Ow} {n : Nat} {m : Nat} (h : owL o n m) : owV o n = .slice (owAt o) n (owCp o n) := by
  cases o with
  | none => have h0 : n = 0 := h
            subst h0; rfl
  | some u => rfl
theorem WC.freezeOw {α : Type} [Inhabited α] {f : α → List Value} {m : Nat} (hf : ∀ x, (f x).length = m) {c : Code} (base hp0 : Hp) (o : Option Ow) (e : TypeId) (l : List α) {w0 : World} (hw : x.w0 = w0) (ho : owP w0 o l.length m) (hhp : hp = base ++ owH o e (l.flatMap f) hp0)
    (h : ∀ D', DExt w0 D D' → SlL D' m (l.map f) (owAt o) l.length → WC P x fr D' (base ++ hp0) c Q) : WC P x fr D hp c Q := by
  subst hhp;cases o with
  | none =>
    have h0 : l.length = 0 := ho;have hl : l = [] := List.length_eq_zero_iff.1 h0;subst hl;exact h D (DExt.refl _ _) ⟨rfl, fun i r hr => by simp at hr⟩
  | some u =>
    have hk : (base ++ owH (some u) e (l.flatMap f) hp0)[base.length]? = some (u.b, .cells (l.flatMap f ++ u.rest).toArray e (0, 0)) := by simp [owH]
    refine WC.freezeK base.length hk (fun hn => ?_)
    have he : (base ++ owH (some u) e (l.flatMap f) hp0).eraseIdx base.length = base ++ hp0 := by
      rw [List.eraseIdx_append_of_length_le (by omega)]; simp [owH]
    rw [he];exact h _ ((DExt.refl _ _).add hn ho.1) (SlL.ofBlock hf (Imm.add_self _ _ _))
end
end Go.W
namespace Go.W
section
variable {P : Program} {x : Cx} {fr : Fr} {D : Imm} {hp : Hp} {ty : TypeId} {Q : Exit → Act → World → Prop}
theorem VM {α : Type} [Inhabited α] {f : α → List Value} {m : Nat} (hf : ∀ x, (f x).length = m) (l : List α) (rest : List Value) {i j : Nat} (hi : i < l.length) (hj : j < m) : (l.flatMap f ++ rest)[0 + i * m + j]? = (f (gt l i))[j]? := by
  have h1 := flat_get hf l i j hi hj
  have hlt : i * m + j < (l.flatMap f).length := by
    rw [zr hf];have : (i + 1) * m ≤ l.length * m := Nat.mul_le_mul_right m hi;rw [Nat.succ_mul] at this;omega
  rw [Nat.zero_add, List.getElem?_append_left hlt, h1]
theorem Rd.flat {α : Type} [Inhabited α] {f : α → List Value} {m : Nat} (hf : ∀ x, (f x).length = m) {k b i j : Nat} {l : List α} {rest : List Value} {e : TypeId} {fz : Nat × Nat} {v : Value} (hk : hp[k]? = some (b, .cells (l.flatMap f ++ rest).toArray e fz)) (hi : i < l.length) (hj : j < m) (hv : (f (gt l i))[j]? = some v) : Rd D hp ⟨b, 0 + i * m + j, none⟩ v :=
  Rd.own hk (by rw [VM hf l rest hi hj]; exact hv)
theorem Yd.remN {t t' : TypeId} {o p : Operand} {i j : Nat} (ho : opv fr o = some (nt i)) (hp' : opv fr p = some (nt j)) (hj : 0 < j) : Yd P x fr D hp (.binOp .rem t o p t') ty (nt (i % j)) :=
  Yd.rem (i := (i : Int)) (j := (j : Int)) ho hp' (by omega) (by omega)
noncomputable def orAllB : Bool := (List.range 32).all fun a => (List.range 32).all fun b => decide (IntKind.i64.wrap ((BitVec.ofInt 64 (a : Int) ||| BitVec.ofInt 64 (b : Int)).toNat) = ((Nat.lor a b : Nat) : Int))
theorem zli : orAllB = true := by kernel_rfl
theorem Yd.orN {t t' : TypeId} {o p : Operand} {a b : Nat} (ha : a < 32) (hb : b < 32) (ho : opv fr o = some (nt a)) (hp' : opv fr p = some (nt b)) : Yd P x fr D hp (.binOp .or t o p t') ty (nt (Nat.lor a b)) :=
  .bin ho hp' fun w => by
    have : (Op.intBits .or .i64 (a : Int) (b : Int)).run P w = .ok (.int .i64 (IntKind.i64.wrap ((BitVec.ofInt 64 (a : Int) ||| BitVec.ofInt 64 (b : Int)).toNat))) w := rfl;have h := of_decide_eq_true (List.all_eq_true.1 (List.all_eq_true.1 zli a (List.mem_range.2 ha)) b (List.mem_range.2 hb));rw [h] at this;simp [Go.binOp, this, nt, it]
end
end Go.W
namespace Go.W
def Imm.minus (D : Imm) (b : Nat) : Imm := fun b' => if b' = b then none else D b'
theorem DExt.no {w : World} {D D' : Imm} (h : DExt w D D') {b : Nat} (hn : D' b = none) : D b = none := by
  cases hb : D b with
  | none => rfl
  | some o => rw [h.old _ _ hb] at hn; cases hn
theorem DExt.minus {w : World} {D D' : Imm} (h : DExt w D D') {b : Nat} (hn : D b = none) : DExt w D (D'.minus b) :=
  ⟨fun k o hk => by
    unfold Imm.minus;rw [if_neg (fun e => by subst e; rw [hn] at hk; cases hk)];exact h.old k o hk, fun k hk hD => by
    unfold Imm.minus;split
    · rfl
    · exact h.new k hk hD⟩
theorem Inv.thaw {D : Imm} {hp : Hp} {S : List Nat} {w0 w : World} {b : Nat} {o : Obj} (h : Inv D hp S w0 w) (hb : D b = some o) (hn : w0.heap.size ≤ b) : Inv (D.minus b) ((b, o) :: hp) S w0 w := by
  refine ⟨fun k o' hk => ?_, fun k o' hk => ?_, ?_, fun k o' hk => ?_, h.keep, fun k o' hk => ?_⟩
  · unfold Imm.minus at hk;split at hk
    · cases hk
    · exact h.imm k o' hk
  · rcases List.mem_cons.1 hk with e | e
    · cases e; exact h.imm _ _ hb
    · exact h.own k o' e
  · rw [List.map_cons, List.nodup_cons];refine ⟨fun hm => ?_, h.nodup⟩;obtain ⟨e, he, heq⟩ := List.mem_map.1 hm;have := h.apart e.1 e.2 he;rw [show e.1 = b from heq, hb] at this; cases this
  · unfold Imm.minus;rcases List.mem_cons.1 hk with e | e
    · cases e; rw [if_pos rfl]
    · split
      · rfl
      · exact h.apart k o' e
  · rcases List.mem_cons.1 hk with e | e
    · cases e; exact .inr hn
    · exact h.may k o' e
section
variable {P : Program} {x : Cx} {fr : Fr} {D : Imm} {hp : Hp} {ty : TypeId} {Q : Exit → Act → World → Prop}
theorem WC.thaw {c : Code} {b : Nat} {o : Obj} (hb : D b = some o) (hn : x.w0.heap.size ≤ b) (h : WC P x fr (D.minus b) ((b, o) :: hp) c Q) : WC P x fr D hp c Q :=
  fun a w hA => h a w ⟨hA.f, hA.i.thaw hb hn⟩
end
end Go.W
