import Derived.Test.YtaiegbjgfdhgaaaGreatDoorXG0
import Derived.Laws.BytesArg
import Derived.ProofKit
import Derived.Deep.Slices
import Derived.Deep.Fields
import Derived.Lib.SmallJoins
import Derived.SizedLaws
import Derived.Shelf.Vars
import Derived.Lay
import Derived.LaidMore
import Derived.Stop.LaidErr
import Derived.Lib.LaidTab
set_option linter.all false
set_option maxRecDepth 100000
set_option maxHeartbeats 4000000
namespace Go.W
section
variable {P : Program} {x : Cx} {fr : Fr} {D : Imm} {hp : Hp} {Q : Exit → Act → World → Prop}
theorem WCF.loopHd {r : Option Nat} {α : Type} {c : Code} {b : Nat} (tl : Hp) (F : α → Fr) (O : α → Obj) (φ : α → Prop) (m : α → Nat) (x0 : α) (h0 : φ x0) (hhp : hp = (b, O x0) :: tl) (hstart : subB (F x0) fr) 
    (hround : ∀ y, φ y → WCF P r x (F y) D ((b, O y) :: tl) c (Exit.then (fun a w => ∃ z, φ z ∧ m z < m y ∧ At x (F z) D ((b, O z) :: tl) a w) Q)) : WCF P r x fr D hp (.loop c) Q := by
  subst hhp;exact WCF.loop F (fun y => (b, O y) :: tl) (fun _ => D) φ m x0 h0 (fun _ _ h => y4 h hstart) hround
theorem WC.loopHd {α : Type} {c : Code} {b : Nat} (tl : Hp) (F : α → Fr) (O : α → Obj) (φ : α → Prop) (m : α → Nat) (x0 : α) (h0 : φ x0) (hhp : hp = (b, O x0) :: tl) (hstart : subB (F x0) fr) 
    (hround : ∀ y, φ y → WC P x (F y) D ((b, O y) :: tl) c (Exit.then (fun a w => ∃ z, φ z ∧ m z < m y ∧ At x (F z) D ((b, O z) :: tl) a w) Q)) : WC P x fr D hp (.loop c) Q := by
  subst hhp;exact WC.loop F (fun y => (b, O y) :: tl) (fun _ => D) φ m x0 h0 (fun _ _ h => y4 h hstart) hround
theorem WCF.hpEq {r : Option Nat} {c : Code} {hp' : Hp} (h : hp = hp') (hw : WCF P r x fr D hp' c Q) : WCF P r x fr D hp c Q := by subst h; exact hw
end
end Go.W
namespace Go.W
section
variable {P : Program} {x : Cx} {fr : Fr} {D : Imm} {hp : Hp} {Q : Exit → Act → World → Prop}
theorem WLF.freezeN {r : Option Nat} {ops : Array Oper} {l : List Oper} {w0 : World} (k b : Nat) (o : Obj) (hw : x.w0 = w0) (hk : hp[k]? = some (b, o)) (hb : w0.heap.size ≤ b) (h : ∀ D', DExt w0 D D' → D' b = some o → WLF P r x ops fr D' (hp.eraseIdx k) l Q) : WLF P r x ops fr D hp l Q := by
  subst hw;exact WLF.freezeK k hk fun hn => h _ ((DExt.refl _ D).add hn hb) (Imm.add_self _ _ _)
theorem WCF.freezeN {r : Option Nat} {c : Code} {w0 : World} (k b : Nat) (o : Obj) (hw : x.w0 = w0) (hk : hp[k]? = some (b, o)) (hb : w0.heap.size ≤ b) (h : ∀ D', DExt w0 D D' → D' b = some o → WCF P r x fr D' (hp.eraseIdx k) c Q) : WCF P r x fr D hp c Q := by
  subst hw;exact WCF.freezeK k hk fun hn => h _ ((DExt.refl _ D).add hn hb) (Imm.add_self _ _ _)
end
end Go.W
namespace Go.W
section
variable {P : Program} {x : Cx} {fr : Fr} {D : Imm} {hp : Hp} {ty : TypeId} {Q : Exit → Act → World → Prop}
abbrev Vi := List (Nat × Value × List Value)
def zaY (l : Vi) : List (Nat × Value) := l.map fun y => (y.1, y.2.1)
theorem kW {cs vs : List Value} {off : Nat} (h : off + vs.length ≤ cs.length) : (splice cs off vs).length = cs.length := by
  simp only [splice, List.length_append, List.length_take, List.length_drop]; omega
end
end Go.W
namespace Go.W
section
variable {P : Program} {x : Cx} {fr : Fr} {D : Imm} {hp : Hp} {ty : TypeId} {Q : Exit → Act → World → Prop}
theorem Holds.add {w : World} {b : Nat} {o : Obj} (h : Holds D w) (hb : w.heap[b]? = some o) : Holds (D.add b o) w := fun b' o' hb' => by
  unfold Imm.add at hb';split at hb'
  · rename_i e; cases hb'; rw [e]; exact hb
  · exact h b' o' hb'
end
end Go.W
namespace Go.W
section
variable {P : Program} {x : Cx} {fr : Fr} {D : Imm} {hp : Hp} {ty : TypeId} {Q : Exit → Act → World → Prop}
theorem Inv.thawS {S : List Nat} {w0 w : World} {b : Nat} {o : Obj} (h : Inv D hp S w0 w) (hb : D b = some o) (hn : b ∈ S ∨ w0.heap.size ≤ b) : Inv (D.minus b) ((b, o) :: hp) S w0 w := by
  refine ⟨fun k o' hk => ?_, fun k o' hk => ?_, ?_, fun k o' hk => ?_, h.keep, fun k o' hk => ?_⟩
  · unfold Imm.minus at hk;split at hk
    · cases hk
    · exact h.imm k o' hk
  · rcases List.mem_cons.1 hk with e | e
    · cases e; exact h.imm _ _ hb
    · exact h.own k o' e
  · rw [List.map_cons, List.nodup_cons];refine ⟨fun hm => ?_, h.nodup⟩;obtain ⟨e, he, heq⟩ := List.mem_map.1 hm;have := h.apart e.1 e.2 he;rw [show e.1 = b from heq, hb] at this; cases this
  · unfold Imm.minus;split
    · rfl
    · rename_i hne
      rcases List.mem_cons.1 hk with e | e
      · cases e; exact absurd rfl hne
      · exact h.apart k o' e
  · rcases List.mem_cons.1 hk with e | e
    · cases e; exact hn
    · exact h.may k o' e
theorem WC.thawS {c : Code} {b : Nat} {o : Obj} (hb : D b = some o) (hn : b ∈ x.S ∨ x.w0.heap.size ≤ b) (h : WC P x fr (D.minus b) ((b, o) :: hp) c Q) : WC P x fr D hp c Q :=
  fun a w hA => h a w ⟨hA.f, hA.i.thawS hb hn⟩
end
end Go.W
namespace Go.W
section
variable {P : Program} {x : Cx} {fr : Fr} {D : Imm} {hp : Hp} {ty : TypeId} {Q : Exit → Act → World → Prop}
theorem Imm.minus_of {D : Imm} {b k : Nat} {o : Obj} (hne : k ≠ b) (h : D k = some o) : (D.minus b) k = some o := by
  unfold Imm.minus; rw [if_neg hne]; exact h
theorem SlL.minus {D : Imm} {m : Nat} {rows : List (List Value)} {a : Option Addr} {n b : Nat} (h : SlL D m rows a n) (hne : ∀ ad, a = some ad → ad.block ≠ b) : SlL (D.minus b) m rows a n :=
  ⟨h.len, fun i r hr => by
    obtain ⟨h1, cs, t, fz, h2, h3⟩ := h.row i r hr;exact ⟨h1, cs, t, fz, Imm.minus_of (hne _ h1) h2, h3⟩⟩
theorem SlL.none (D : Imm) (m : Nat) (a : Option Addr) : SlL D m [] a 0 := ⟨rfl, fun _ _ h => by simp at h⟩
end
end Go.W
namespace Go.W
section
variable {P : Program} {x : Cx} {fr : Fr} {D : Imm} {hp : Hp} {ty : TypeId} {Q : Exit → Act → World → Prop}
end
end Go.W
namespace Go.W
section
variable {P : Program} {x : Cx} {fr : Fr} {D : Imm} {hp : Hp} {Q : Exit → Act → World → Prop} {ops : Array Oper} {D0 : Imm} {hp0 : Hp} {n : Nat} {listed : Array Bool}
theorem WH.plan (plan : List (Nat × Bool)) (hn : plan.length = n) (hB : (Region.noSelect ops && ui .any ops plan listed) = true) (hQ : zm Q) (h : WA P x ops D0 hp0 plan fr D hp Q) : WH P x ops D0 hp0 n listed fr D hp Q := fun a w hA hI => by
  subst hn;simp only [Bool.and_eq_true] at hB;exact jq hB.1 plan listed a w (fun _ o v c a w _ _ hq => hQ c o.dst v a w hq) hB.2 hI (h a w hA)
theorem WH.cut (n' : Nat) (L : Array Bool) (fr' : Fr) (hp' : Hp) (h1 : WH P x ops D0 hp0 n' L fr' D hp' Q → WH P x ops D0 hp0 n listed fr D hp Q) (h2 : WH P x ops D0 hp0 n' L fr' D hp' Q) : WH P x ops D0 hp0 n listed fr D hp Q := h1 h2
variable {i : Nat} {d : Tmp} {dst : Option Tmp} {op : Op} {ty : TypeId} {pos : String} {af : Array Edge}
theorem WH.ydg {j : Nat} {b : Bool} {v : Value} (hc : ((Region.ready .any ops listed).contains i && Region.free .any ops listed i && Region.noSelect ops) = true) (hQ : zN ops Q) (ho : ops[i]? = some ⟨some d, op, ty, pos, af, some (j, b)⟩) (hg : gval ops fr j = some (.bool b)) 
    (hy : Yd P x fr D0 hp0 op ty v) (hd : Nat.blt d x.n = true) (h : WH P x ops D0 hp0 n (listed.setIfInBounds i true) ((d, v) :: fr) D hp Q) : WH P x ops D0 hp0 (n + 1) listed fr D hp Q := fun a w hA hI => by
  simp only [Bool.and_eq_true] at hc;exact wpAnyH_take ho hc.2 hc.1.2 hc.1.1 (fun c a w => hQ i _ v c a w ho) (.inl ⟨by rw [yy hA.f hg]; simp, fun w' hw' => hy a w' _ _ _ _ hA.f hw'⟩) hI (h _ _ ⟨hA.f.put hd v, hA.i⟩ hI)
theorem WHo.sog {j : Nat} {b : Bool} {K : Value → Imm → Hp → Prop} (ho : ops[i]? = some ⟨dst, op, ty, pos, af, some (j, b)⟩) (hg : gval ops fr j = some (.bool b)) (hs : SO P x fr D hp op ty Q K) (hd : dstB dst x.n = true) 
    (h : ∀ v D' hp', K v D' hp' → (∀ w, Inv D' hp' x.S x.w0 w → Inv D0 hp0 x.S x.w0 w) ∧ WH P x ops D0 hp0 n (listed.setIfInBounds i true) (wj dst v fr) D' hp' Q) : WHo P x ops D0 hp0 n listed fr D hp Q i := fun a w hA _ => by
  unfold wpOp;simp only [ho];rw [if_pos (by rw [yy hA.f hg]; simp)];exact .inl (hs a w _ _ _ _ _ hA fun v D' hp' w' hk hi => ⟨(h v D' hp' hk).1 _ hi, (h v D' hp' hk).2 _ _ ⟨hA.f.putO hd v, hi⟩ ((h v D' hp' hk).1 _ hi)⟩)
end
end Go.W
namespace Go.W
section
variable {α β : Type} {kv : α → Value} {vv : β → Value} {P : Program} {k : TypeId}
structure MapG (P : Program) (k : TypeId) (kv : α → Value) (vv : β → Value) (es : Array MapEntry) (F : α → Option β) : Prop where
  ent : ∀ e ∈ es.toList, (∃ l, keyOf P k e.key = some l) ∧ ∃ x v, e.key = kv x ∧ e.val = vv v ∧ F x = some v
  all : ∀ x v, F x = some v → ∃ e ∈ es.toList, e.key = kv x
  keys : (es.toList.map (·.key)).Nodup
theorem MapG.empty : MapG P k kv vv #[] (fun _ => none) := ⟨fun e he => (by simp at he), fun x v h => (by cases h), (by simp)⟩
variable {es : Array MapEntry} {F : α → Option β}
theorem zqk (hinj : ∀ x y, kv x = kv y → x = y) (L : Go.Maps.Keyed P k) (hM : MapG P k kv vv es F) (y : α) {l : Lit} (hl : keyOf P k (kv y) = some l) (w : World) :
    ((Instr.findKey k (kv y) es.toList).run P w = .ok none w ∧ (∀ e ∈ es.toList, e.key ≠ kv y) ∧ F y = none) ∨ ∃ q e0 v, (Instr.findKey k (kv y) es.toList).run P w = .ok (some (q, vv v)) w ∧ es.toList[q]? = some e0 ∧ e0.key = kv y ∧ e0.val = vv v ∧ F y = some v := by
  rcases L.find w hl es.toList (fun e he => (hM.ent e he).1) with ⟨h1, h2⟩ | ⟨q, e0, h1, h2, h3⟩
  · refine .inl ⟨h1, h2, ?_⟩;cases hF : F y with
    | none => rfl
    | some v => obtain ⟨e, he, hek⟩ := hM.all y v hF; exact absurd hek (h2 e he)
  · obtain ⟨_, z, v, g1, g2, g3⟩ := hM.ent e0 (List.mem_of_getElem? h2);have : z = y := hinj z y (by rw [← g1, h3])
    subst this;exact .inr ⟨q, e0, v, by rw [h1, g2], h2, h3, g2, g3⟩
variable [DecidableEq α]
def putG (F : α → Option β) (x : α) (v : β) : α → Option β := fun y => if y = x then some v else F y
theorem zsh (F : α → Option β) (x : α) (v : β) : putG F x v x = some v := if_pos rfl
theorem MapG.push (hinj : ∀ x y, kv x = kv y → x = y) (h : MapG P k kv vv es F) {x : α} {l : Lit} (hl : keyOf P k (kv x) = some l) (hno : ∀ e ∈ es.toList, e.key ≠ kv x) (v : β) (clock : Nat) : MapG P k kv vv (es.push { key := kv x, val := vv v, born := clock }) (putG F x v) := by
  refine ⟨fun e he => ?_, fun y u hy => ?_, ?_⟩
  · simp only [Array.toList_push, List.mem_append, List.mem_singleton] at he;rcases he with he | rfl
    · obtain ⟨h0, y, u, h1, h2, h3⟩ := h.ent e he;refine ⟨h0, y, u, h1, h2, ?_⟩;unfold putG;rw [if_neg (fun e' => hno e he (by rw [h1, e']))];exact h3
    · exact ⟨⟨l, hl⟩, x, v, rfl, rfl, zsh F x v⟩
  · simp only [Array.toList_push, List.mem_append, List.mem_singleton];unfold putG at hy;split at hy
    · rename_i e; subst e; exact ⟨_, .inr rfl, rfl⟩
    · obtain ⟨e, he, hk⟩ := h.all y u hy;exact ⟨e, .inl he, hk⟩
  · simp only [Array.toList_push, List.map_append, List.map_cons, List.map_nil];refine List.nodup_append.2 ⟨h.keys, by simp, fun a ha c hc e1 => ?_⟩;simp only [List.mem_singleton] at hc;obtain ⟨e, he, rfl⟩ := List.mem_map.1 ha;exact hno e he (e1.trans hc)
theorem MapG.write (h : MapG P k kv vv es F) {x : α} {q : Nat} {e0 : MapEntry} (hq : es.toList[q]? = some e0) (hk : e0.key = kv x) (v : β) (f : MapEntry → MapEntry) (hf : ∀ e, (f e).key = e.key ∧ (f e).val = vv v) :
    MapG P k kv vv (es.modify q f) (putG F x v) := by
  have hkey : ∀ (r : Nat) (e : MapEntry), es.toList[r]? = some e → e.key = kv x → r = q := fun r e hr hek => by
    have h1 : (es.toList.map (·.key))[r]? = some (kv x) := by simp [hr, hek]
    have h2 : (es.toList.map (·.key))[q]? = some (kv x) := by simp [hq, hk]
    have hl : r < (es.toList.map (·.key)).length := by
      rcases Nat.lt_or_ge r (es.toList.map (·.key)).length with h3 | h3
      · exact h3
      · rw [List.getElem?_eq_none h3] at h1; cases h1
    exact (List.getElem?_inj hl h.keys).1 (h1.trans h2.symm)
  have hmem : ∀ e, e ∈ (es.modify q f).toList → (e = f e0) ∨ (e ∈ es.toList ∧ e.key ≠ kv x) := fun e he => by
    rw [Array.toList_modify] at he;obtain ⟨r, hr⟩ := List.mem_iff_getElem?.1 he;rw [List.getElem?_modify] at hr;by_cases hrq : q = r
    · subst hrq; rw [hq] at hr; simp at hr; exact .inl hr.symm
    · simp only [if_neg hrq] at hr;simp only [Option.map_eq_map, Option.map_id'] at hr;exact .inr ⟨List.mem_of_getElem? hr, fun hek => hrq (hkey r e hr hek).symm⟩
  refine ⟨fun e he => ?_, fun y u hy => ?_, ?_⟩
  · rcases hmem e he with rfl | ⟨h1, h2⟩
    · exact ⟨by rw [(hf e0).1]; exact (h.ent e0 (List.mem_of_getElem? hq)).1, x, v, (hf e0).1.trans hk, (hf e0).2, zsh F x v⟩
    · obtain ⟨g0, y, u, g1, g2, g3⟩ := h.ent e h1;refine ⟨g0, y, u, g1, g2, ?_⟩;unfold putG;rw [if_neg (fun e' => h2 (by rw [g1, e']))];exact g3
  · have hin : ∀ (r : Nat) (e : MapEntry), es.toList[r]? = some e → ∃ e' ∈ (es.modify q f).toList, e'.key = e.key := fun r e hr => by
      rw [Array.toList_modify];by_cases hrq : q = r
      · subst hrq; exact ⟨f e, List.mem_iff_getElem?.2 ⟨q, by rw [List.getElem?_modify, hr]; simp⟩, (hf e).1⟩
      · exact ⟨e, List.mem_iff_getElem?.2 ⟨r, by rw [List.getElem?_modify, hr]; simp [hrq]⟩, rfl⟩
    unfold putG at hy;split at hy
    · rename_i e; subst e
      obtain ⟨e', h1, h2⟩ := hin q e0 hq;exact ⟨e', h1, h2.trans hk⟩
    · obtain ⟨e, he, hek⟩ := h.all y u hy;obtain ⟨r, hr⟩ := List.mem_iff_getElem?.1 he;obtain ⟨e', h1, h2⟩ := hin r e hr;exact ⟨e', h1, h2.trans hek⟩
  · rw [Array.toList_modify, Ue f _ (fun e => (hf e).1)]; exact h.keys
theorem MapG.size (hinj : ∀ x y, kv x = kv y → x = y) (h : MapG P k kv vv es F) (L : List α) (hn : L.Nodup) (hL : ∀ x, x ∈ L ↔ (F x).isSome) : es.size = L.length := by
  have hp : (es.toList.map (·.key)).Perm (L.map kv) := by
    rw [List.perm_ext_iff_of_nodup h.keys (List.Pairwise.map kv (fun a b h e => h (hinj a b e)) hn)];intro v;simp only [List.mem_map];constructor
    · rintro ⟨e, he, rfl⟩;obtain ⟨_, x, u, h1, _, h3⟩ := h.ent e he;exact ⟨x, (hL x).2 (by rw [h3]; rfl), h1.symm⟩
    · rintro ⟨x, hx, rfl⟩;obtain ⟨u, hu⟩ := Option.isSome_iff_exists.1 ((hL x).1 hx);obtain ⟨e, he, hk⟩ := h.all x u hu;exact ⟨e, he, hk⟩
  have := hp.length_eq;simpa using this
variable {x : Cx} {fr : Fr} {D : Imm} {hp : Hp} {ty : TypeId} {Q : Exit → Act → World → Prop} {t e : TypeId} {clock b j : Nat}
theorem Yd.lookGOk {m i : Operand} {z : Value} (hinj : ∀ x y, kv x = kv y → x = y) (L : Go.Maps.Keyed P k) (hu : P.underlying t = some (.map k e)) (hz : ∀ w, (zeroValue e).run P w = .ok z w) 
    (hm : opv fr m = some (.map (some b))) {y : α} {l : Lit} (hl : keyOf P k (kv y) = some l) (hi : opv fr i = some (kv y)) (hj : hp[j]? = some (b, .map es clock)) (hM : MapG P k kv vv es F) : Yd P x fr D hp (.lookup t m i true) ty (.tuple #[((F y).map vv).getD z, .bool (F y).isSome]) := fun a w _ _ _ _ hA hI => by
  have hb := hI.own _ _ (mem_of_get? hj);have hobj : (getObj b).run P w = .ok (.map es clock) w := by simp [getObj, Sem.run, hb]
  rcases zqk hinj L hM y hl w with ⟨h1, _, h3⟩ | ⟨q, e0, v, h1, _, _, _, h5⟩
  · have : (Instr.lookup t (.map (some b)) (kv y) true).run P w = .ok (.tuple #[z, .bool false]) w := by
      simp [Instr.lookup, run_underlying hu, hobj, L.check w _ hl, h1, hz]
    simp only [execOp, hA.eval hm, hA.eval hi, h3];simp [this]
  · have : (Instr.lookup t (.map (some b)) (kv y) true).run P w = .ok (.tuple #[vv v, .bool true]) w := by
      simp [Instr.lookup, run_underlying hu, hobj, L.check w _ hl, h1]
    simp only [execOp, hA.eval hm, hA.eval hi, h5];simp [this]
def zyu (P : Program) (k : TypeId) (kv : α → Value) (vv : β → Value) (D : Imm) (hp : Hp) (j b : Nat) (F : α → Option β) (y : α) (u : β) (_ : Value) (D' : Imm) (hp' : Hp) : Prop :=
  D = D' ∧ ∃ es1 clock1, hp' = hp.set j (b, .map es1 clock1) ∧ MapG P k kv vv es1 (putG F y u)
theorem SO.putG {m i o : Operand} {u : β} (hinj : ∀ x y, kv x = kv y → x = y) (L : Go.Maps.Keyed P k) (hu : P.underlying t = some (.map k e)) 
    (hm : opv fr m = some (.map (some b))) {y : α} {l : Lit} (hl : keyOf P k (kv y) = some l) (hi : opv fr i = some (kv y)) (ho : opv fr o = some (vv u)) (hj : hp[j]? = some (b, .map es clock)) (hM : MapG P k kv vv es F) : SO P x fr D hp (.mapUpdate t m i o) ty Q (zyu P k kv vv D hp j b F y u) := fun a w dst pos af g next hA hn => by
  have hb := hA.i.own _ _ (mem_of_get? hj);have hobj : (getObj b).run P w = .ok (.map es clock) w := by simp [getObj, Sem.run, hb]
  have hset : ∀ o', (setObj b o').run P w = .ok () { w with heap := w.heap.setIfInBounds b o' } := fun o' => by simp [setObj, Sem.run, hb]
  unfold Oper.wp;rcases zqk hinj L hM y hl w with ⟨h1, h2, h3⟩ | ⟨q, e0, v, h1, h2, h3, h4, h5⟩
  · have : (Instr.mapUpdate t (.map (some b)) (kv y) (vv u)).run P w = .ok () { w with heap := w.heap.setIfInBounds b (.map (es.push { key := kv y, val := vv u, born := clock }) (clock + 1)) } := by
      simp [Instr.mapUpdate, run_underlying hu, hobj, L.check w _ hl, h1, hset]
    simp only [execOp, hA.f.eval hm, hA.f.eval hi, hA.f.eval ho];simp only [this, Sem.run_bind, Result.andThen_ok, Sem.run_pure, Sem.run_map, Oper.upon_value, Oper.upon_skip];exact hn _ _ _ _ ⟨rfl, _, _, rfl, hM.push hinj hl h2 u _⟩ (hA.i.set hj _)
  · have hq : es[q]? = some e0 := by simpa using h2
    have hmod : es.modify q (fun e => { e with key := kv y, val := vv u }) = es.modify q (fun e => { e with val := vv u }) := by
      apply Array.ext';rw [Array.toList_modify, Array.toList_modify];apply List.ext_getElem?;intro r;rw [List.getElem?_modify, List.getElem?_modify];by_cases hr : q = r
      · subst hr; rw [h2]; simp [← h3]
      · simp [hr]
    have : (Instr.mapUpdate t (.map (some b)) (kv y) (vv u)).run P w = .ok () { w with heap := w.heap.setIfInBounds b (.map (es.modify q fun e => { e with val := vv u }) clock) } := by
      simp [Instr.mapUpdate, run_underlying hu, hobj, L.check w _ hl, h1, hq, h3, L.stays w hl, hset, hmod]
    simp only [execOp, hA.f.eval hm, hA.f.eval hi, hA.f.eval ho];simp only [this, Sem.run_bind, Result.andThen_ok, Sem.run_pure, Sem.run_map, Oper.upon_value, Oper.upon_skip];exact hn _ _ _ _ ⟨rfl, es.modify q (fun e => { e with val := vv u }), clock, rfl, hM.write h2 h3 u _ (fun e => ⟨rfl, rfl⟩)⟩ (hA.i.set hj _)
theorem Yd.lenM {ts : Array TypeId} {p : Operand} (ht : ts[0]? = some t) (hu : P.underlying t = some (.map k e)) (hp' : opv fr p = some (.map (some b))) (hj : hp[j]? = some (b, .map es clock)) {n : Nat} (hn : es.size = n) :
    Yd P x fr D hp (.call ⟨.builtin .len, #[p], ts⟩) ty (nt n) := fun act w _ _ _ _ hA hI => by
  have hb := hI.own _ _ (mem_of_get? hj);have hobj : (getObj b).run P w = .ok (.map es clock) w := by simp [getObj, Sem.run, hb]
  subst hn;simp only [execOp, resolve, List.map_toArray, List.map_cons, List.map_nil, hA.eval hp'];simp [invoke, builtin, Builtin.len_, ht, run_underlying hu, goInt, hobj]
end
end Go.W
namespace Go.W
section
variable {P : Program} {x : Cx} {fr : Fr} {D : Imm} {hp : Hp} {ty : TypeId}
theorem zln (n : Nat) (h : n < 2 ^ 63) : IntKind.u64.wrap (n : Int) = (n : Int) := by
  have : IntKind.u64.wrap (n : Int) = (n : Int) % 2 ^ 64 := by simp [IntKind.wrap, IntKind.bits, IntKind.signed]
  rw [this]; omega
theorem zaU {a b : Nat} (ha : a < 2 ^ 63) (hb : b < 2 ^ 63) : (BitVec.ofInt 64 (a : Int) ||| BitVec.ofInt 64 (b : Int)).toNat = a ||| b := by
  rw [BitVec.toNat_or, BitVec.ofInt_natCast, BitVec.ofInt_natCast, BitVec.toNat_ofNat, BitVec.toNat_ofNat, Nat.mod_eq_of_lt (by omega), Nat.mod_eq_of_lt (by omega)]
end
end Go.W
namespace Go.W
def butN (a b : Nat) : Nat := a ^^^ (a &&& b)
theorem zoN {a b n : Nat} (h : a < 2 ^ n) : butN a b < 2 ^ n := Nat.xor_lt_two_pow h (Nat.lt_of_le_of_lt Nat.and_le_left h)
theorem zuV {a b n : Nat} (h : a < 2 ^ n) : a &&& b < 2 ^ n := Nat.lt_of_le_of_lt Nat.and_le_left h
section
variable {P : Program} {x : Cx} {fr : Fr} {D : Imm} {hp : Hp} {ty : TypeId}
theorem zqg {a b : Nat} (ha : a < 2 ^ 63) (hb : b < 2 ^ 63) : (BitVec.ofInt 64 (a : Int) &&& BitVec.ofInt 64 (b : Int)).toNat = a &&& b := by
  rw [BitVec.toNat_and, BitVec.ofInt_natCast, BitVec.ofInt_natCast, BitVec.toNat_ofNat, BitVec.toNat_ofNat, Nat.mod_eq_of_lt (by omega), Nat.mod_eq_of_lt (by omega)]
theorem zt4 {a b : Nat} (ha : a < 2 ^ 63) (hb : b < 2 ^ 63) : (BitVec.ofInt 64 (a : Int) &&& ~~~(BitVec.ofInt 64 (b : Int))).toNat = butN a b := by
  have h : BitVec.ofInt 64 (a : Int) &&& ~~~(BitVec.ofInt 64 (b : Int)) = BitVec.ofInt 64 (a : Int) ^^^ (BitVec.ofInt 64 (a : Int) &&& BitVec.ofInt 64 (b : Int)) := by
    apply BitVec.eq_of_getLsbD_eq;intro i hi;simp only [BitVec.getLsbD_and, BitVec.getLsbD_not, BitVec.getLsbD_xor, hi, decide_true, Bool.true_and];cases (BitVec.ofInt 64 (a : Int)).getLsbD i <;> cases (BitVec.ofInt 64 (b : Int)).getLsbD i <;> rfl
  rw [h, BitVec.toNat_xor, zqg ha hb, BitVec.ofInt_natCast, BitVec.toNat_ofNat, Nat.mod_eq_of_lt (by omega)];rfl
theorem zsQ (k : IntKind) (hk : k = .u64 ∨ k = .i64) (n : Nat) (h : n < 2 ^ 63) : k.wrap (n : Int) = (n : Int) := by
  rcases hk with rfl | rfl
  · exact zln n h
  · exact wr64 ⟨by omega, by omega⟩
section
variable {t t' : TypeId} {o p : Operand} {k : IntKind} (hk : k = .u64 ∨ k = .i64) {a b : Nat} (ha : a < 2 ^ 63) (hb : b < 2 ^ 63) (ho : opv fr o = some (.int k a)) (hp' : opv fr p = some (.int k b))
include t t' o p k hk a b ha hb ho hp'
theorem Yd.orG : Yd P x fr D hp (.binOp .or t o p t') ty (.int k ((a ||| b : Nat) : Int)) :=
  .bin ho hp' fun w => by
    have h2 : k.bits = 64 := by rcases hk with rfl | rfl <;> rfl
    have : (Op.intBits .or k (a : Int) (b : Int)).run P w = .ok (.int k (k.wrap ((BitVec.ofInt k.bits (a : Int) ||| BitVec.ofInt k.bits (b : Int)).toNat))) w := rfl
    rw [h2, zaU ha hb, zsQ k hk _ (Nat.or_lt_two_pow ha hb)] at this;simp [Go.binOp, this]
theorem Yd.andG : Yd P x fr D hp (.binOp .and t o p t') ty (.int k ((a &&& b : Nat) : Int)) :=
  .bin ho hp' fun w => by
    have h2 : k.bits = 64 := by rcases hk with rfl | rfl <;> rfl
    have : (Op.intBits .and k (a : Int) (b : Int)).run P w = .ok (.int k (k.wrap ((BitVec.ofInt k.bits (a : Int) &&& BitVec.ofInt k.bits (b : Int)).toNat))) w := rfl
    rw [h2, zqg ha hb, zsQ k hk _ (zuV ha)] at this;simp [Go.binOp, this]
theorem Yd.butG : Yd P x fr D hp (.binOp .andNot t o p t') ty (.int k (butN a b : Int)) :=
  .bin ho hp' fun w => by
    have h2 : k.bits = 64 := by rcases hk with rfl | rfl <;> rfl
    have : (Op.intBits .andNot k (a : Int) (b : Int)).run P w = .ok (.int k (k.wrap ((BitVec.ofInt k.bits (a : Int) &&& ~~~(BitVec.ofInt k.bits (b : Int))).toNat))) w := rfl
    rw [h2, zt4 ha hb, zsQ k hk _ (zoN ha)] at this;simp [Go.binOp, this]
end
section
variable {t t' : TypeId} {o p : Operand} {k k' : IntKind} (hk : k = .u64 ∨ k = .i64) {a j : Nat}
include t t' o p k k' hk a j
theorem Yd.shlG (ha : a * 2 ^ j < 2 ^ 63) (hj : j ≤ 60) (ho : opv fr o = some (.int k a)) (hp' : opv fr p = some (.int k' j)) : Yd P x fr D hp (.binOp .shl t o p t') ty (.int k ((a * 2 ^ j : Nat) : Int)) :=
  Yd.shl ho hp' (by omega) (by
    have h2 : k.bits = 64 := by rcases hk with rfl | rfl <;> rfl
    rw [h2, Int.toNat_natCast, Nat.min_eq_left (by omega), show (a : Int) * 2 ^ j = ((a * 2 ^ j : Nat) : Int) by rw [Int.natCast_mul, Int.natCast_pow]; rfl];exact zsQ k hk _ ha)
theorem Yd.shrG (hj : j ≤ 60) (ho : opv fr o = some (.int k a)) (hp' : opv fr p = some (.int k' j)) : Yd P x fr D hp (.binOp .shr t o p t') ty (.int k ((a / 2 ^ j : Nat) : Int)) := by
  have h2 : k.bits = 64 := by rcases hk with rfl | rfl <;> rfl
  have := Yd.shr (P := P) (x := x) (D := D) (hp := hp) (ty := ty) (t := t) (t' := t') ho hp' (by omega);rw [h2, Int.toNat_natCast, Nat.min_eq_left (by omega)] at this
  have e : Int.fdiv (a : Int) (2 ^ j) = ((a / 2 ^ j : Nat) : Int) := by
    rw [show (2 : Int) ^ j = ((2 ^ j : Nat) : Int) by rw [Int.natCast_pow]; rfl, Int.fdiv_eq_ediv_of_nonneg _ (Int.natCast_nonneg _)];exact (Int.natCast_ediv a (2 ^ j)).symm
  rw [e] at this;exact this
end
theorem Yd.convG {s e : TypeId} {o : Operand} {d : TypeDesc} {k k' : IntKind} (hk : k' = .u64 ∨ k' = .i64) {i : Nat} (hs : P.underlying s = some d) (he : P.underlying e = some (.int k')) (ho : opv fr o = some (.int k i)) (hi : i < 2 ^ 63) : Yd P x fr D hp (.convert s e o) ty (.int k' i) := Yd.conv hs he ho (zsQ k' hk i hi)
theorem Yd.orI {t t' : TypeId} {o p : Operand} {i j : Int} (ho : opv fr o = some (it i)) (hp' : opv fr p = some (it j)) : Yd P x fr D hp (.binOp .or t o p t') ty (it (IntKind.i64.wrap ((BitVec.ofInt 64 i ||| BitVec.ofInt 64 j).toNat))) :=
  .bits ho hp' (fun w => rfl) (fun w => by simp [Go.binOp])
end
end Go.W
namespace Go.W
section
variable {P : Program} {x : Cx} {fr : Fr} {D : Imm} {hp : Hp} {ty : TypeId}
theorem strOf (l : List UInt8) : Value.string (strOfNums (l.map fun b => (b.toNat : Int))) = st l := by
  unfold strOfNums;simp [List.map_map, Function.comp_def]
theorem Yd.convBytes {s e t : TypeId} {o : Operand} {a : Option Addr} {n c : Nat} {l : List UInt8} (hs : P.underlying s = some (.slice e)) (he : P.underlying e = some (.int .u8)) (hd : P.underlying t = some .string) 
    (ho : opv fr o = some (.slice a n c)) (hS : SlL D 1 (l.map fun b => [bt b]) a n) : Yd P x fr D hp (.convert s t o) ty (st l) := fun act w _ _ _ _ hA hI => by
  have hn := hS.len';simp only [execOp, hA.eval ho]
  have key : (Go.convert s t (.slice a n c)).run P w = .ok (st l) w := by
    rcases Nat.eq_zero_or_pos n with h0 | h0
    · subst h0;have hl : l = [] := List.length_eq_zero_iff.1 hn.symm;subst hl;cases a with
      | none => exact run_convert_bytes_nil w s e hs he 0 c t hd
      | some ad =>
        rw [run_convert_bytes_string w s t e _ 0 c hs he hd, run_bytesToString w _ 0 c [] (by simp [loadCells, loadCellsFrom])];rfl
    · have ha := hS.addr 0 h0
      rw [ha, run_convert_bytes_arg w s e hs he (sb a) (so a) n c (l.map fun b => (b.toNat : Int)) (by simp [hn]) (fun i hi => by
        have := (hS.at i hi).rd (hp := hp) 0 (v := bt (gt l i)) rfl _ _ _ hI;rw [show so a + i * 1 + 0 = so a + i by omega] at this;rw [this];have hil : i < l.length := by omega
        simp [gt, List.getD, hil]) t hd, strOf]
  simp [key]
end
end Go.W
namespace Go.W
section
variable {P : Program} {x : Cx} {fr : Fr} {D : Imm} {hp : Hp} {ty : TypeId} {Q : Exit → Act → World → Prop}
theorem SO.copyMin {t e : TypeId} {b n m c c2 b2 o size k : Nat} {cs ys : List Value} {ts : Array TypeId} {a1 a2 : Operand} (ht : ts[0]? = some t) (hu : P.underlying t = some (.slice e)) (hz : ∀ w, (sizeOf e).run P w = .ok size w) 
    (h1 : opv fr a1 = some (.slice (some ⟨b, 0, none⟩) n c)) (h2 : opv fr a2 = some (.slice (some ⟨b2, o, none⟩) m c2)) (hnm : n ≤ m) (hk : hp[k]? = some (b, .cells cs.toArray e (0, 0))) (hlen : ys.length = n * size) (hyr : RdN D hp b2 o ys) (hone : ∀ v ∈ ys, v.oneCell' = true) (hl : ys.length ≤ cs.length) :
    SO P x fr D hp (.call ⟨.builtin .copy, #[a1, a2], ts⟩) ty Q (zdq D hp k b (.cells (splice cs 0 ys).toArray e (0, 0))) := fun a w dst pos af g next hA hnx => by
  unfold Oper.wp;have hln : (Builtin.lenOf (.slice (some ⟨b2, o, none⟩) m c2)).run P w = .ok m w := rfl;have hf0 := xn (P := P) (v := .slice (some ⟨b2, o, none⟩) n c2) (n := n) (size := size) (ys := ys) ⟨hlen, .inr ⟨b2, o, c2, rfl, hyr⟩⟩ hA.i;have hf : (Builtin.firstCells size n (.slice (some ⟨b2, o, none⟩) m c2)).run P w = .ok ys.toArray w := hf0;have hbk := hA.i.own _ _ (mem_of_get? hk);have hst := wl (P := P) (e := e) ys w cs 0 0 hbk (by simpa using hl) hone
  have hrun : (Builtin.copy_ ts ty #[.slice (some ⟨b, 0, none⟩) n c, .slice (some ⟨b2, o, none⟩) m c2]).run P w = .ok (goInt n) { w with heap := w.heap.setIfInBounds b (.cells (splice cs 0 ys).toArray e (0, 0)) } := by
    unfold Builtin.copy_;simp only [ht, List.getElem?_toArray, List.getElem?_cons_zero, List.getElem?_cons_succ, Sem.run_bind, run_underlying hu, Result.andThen_ok, hln, hz, Sem.run_pure];have hm : Nat.min m n = n := Nat.min_eq_right hnm;simp only [hm, hf, Result.andThen_ok, Sem.run_bind, List.toList_toArray, hst, Sem.run_pure, Nat.add_zero]
  have : (execOp a.eval ⟨dst, .call ⟨.builtin .copy, #[a1, a2], ts⟩, ty, pos, af, g⟩).run P w = .ok (.value (goInt n)) { w with heap := w.heap.setIfInBounds b (.cells (splice cs 0 ys).toArray e (0, 0)) } := by
    simp only [execOp, resolve, List.map_toArray, List.map_cons, List.map_nil, hA.f.eval h1, hA.f.eval h2];simp [invoke, builtin, hrun]
  rw [this, Oper.upon_value];exact hnx _ _ _ _ ⟨rfl, rfl⟩ (hA.i.set hk _)
theorem Yd.sliceArrAll {t e : TypeId} {m n : Nat} {p : Operand} {b off : Nat} (hu : P.underlying t = some (.array m e)) (hz : ∀ w, (sizeOf e).run P w = .ok n w) (hp' : opv fr p = some (.pointer (some ⟨b, off, none⟩))) :
    Yd P x fr D hp (.slice t p none none none) ty (.slice (some ⟨b, off, none⟩) m m) := fun act w _ _ _ _ hA _ => by
  simp only [execOp, Option.map_none, hA.eval hp']
  have : (Instr.sliceAt t (.pointer (some ⟨b, off, none⟩)) none none none).run P w = .ok (.slice (some ⟨b, off, none⟩) m m) w := by
    simp only [Instr.sliceAt, Instr.sliceBounds, Instr.sliceBound, Instr.sureAddr, Sem.run_bind, run_underlying hu, Result.andThen_ok, Sem.run_pure, hz];by_cases h0 : m = 0
    · subst h0; simp
    · simp [h0, Addr.add]
  simp [this]
end
end Go.W
namespace Go.W
section
variable {P : Program} {x : Cx} {fr : Fr} {D : Imm} {hp : Hp} {Q : Exit → Act → World → Prop} {ops : Array Oper} {D0 : Imm} {hp0 : Hp} {n i : Nat} {listed : Array Bool} {d : Tmp} {op : Op} {ty : TypeId} {pos : String} {af : Array Edge}
theorem WH.skipg {j : Nat} {b : Bool} (hc : ((Region.ready .any ops listed).contains i && Region.free .any ops listed i && Region.noSelect ops) = true) (hQ : zN ops Q) (ho : ops[i]? = some ⟨some d, op, ty, pos, af, some (j, b)⟩) (hg : gval ops fr j = some (.bool !b)) 
    (hd : Nat.blt d x.n = true) (h : WH P x ops D0 hp0 n (listed.setIfInBounds i true) ((d, undef) :: fr) D hp Q) : WH P x ops D0 hp0 (n + 1) listed fr D hp Q := fun a w hA hI => by
  simp only [Bool.and_eq_true] at hc;exact wpAnyH_take ho hc.2 hc.1.2 hc.1.1 (fun c a w => hQ i _ undef c a w ho) (.inr ⟨by rw [yy hA.f hg]; cases b <;> rfl, rfl⟩) hI (h _ _ ⟨hA.f.put hd undef, hA.i⟩ hI)
theorem WH.part (t : Nat) {b : Bool} (ht : fr.get t = some (.bool b)) (h1 : b = true → WH P x ops D0 hp0 n listed ((t, .bool true) :: fr) D hp Q) (h0 : b = false → WH P x ops D0 hp0 n listed ((t, .bool false) :: fr) D hp Q) : WH P x ops D0 hp0 n listed fr D hp Q := by
  cases hb : b with
  | true => exact WH.know t (.bool true) ht (by rw [hb]) (h1 hb)
  | false => exact WH.know t (.bool false) ht (by rw [hb]) (h0 hb)
end
end Go.W
namespace Go.W
section
variable {P : Program} {x : Cx} {fr : Fr} {D : Imm} {hp : Hp} {ty : TypeId}
end
end Go.W
namespace Go.W
section
variable {P : Program} {x : Cx} {fr : Fr} {D : Imm} {hp : Hp} {ty : TypeId}
theorem Yd.nilCheckM {o : Operand} {name : String} {t : TypeId} {v : Value} {cap : Array Value} (ho : opv fr o = some (.func (.method name) #[.iface t v] cap)) (hn : ∀ w, (nilAhead (P.types.size + Made.depth) t v name).run P w = .ok (some false) w) :
    Yd P x fr D hp (.nilCheck o) ty (.func (.method name) #[.iface t v] cap) := fun a w _ _ _ _ hA _ => by
  simp only [execOp, hA.eval ho];have hp : program.run P w = .ok P w := rfl;simp [hn, hp]
end
end Go.W
namespace Go.W
section
variable {P : Program} {x : Cx} {fr : Fr} {D : Imm} {hp : Hp} {Q : Exit → Act → World → Prop}
theorem WC.loopX {α : Type} {c : Code} (X : α → Cx) (F : α → Fr) (H : α → Hp) (I : α → Imm) (φ : α → Prop) (m : α → Nat) (x0 : α) (h0 : φ x0) 
    (hstart : ∀ a w, At x fr D hp a w → At (X x0) (F x0) (I x0) (H x0) a w)
    (hround : ∀ y, φ y → WC P (X y) (F y) (I y) (H y) c (Exit.then (fun a w => ∃ z, φ z ∧ m z < m y ∧ At (X z) (F z) (I z) (H z) a w) Q)) : WC P x fr D hp (.loop c) Q := by
  intro a w hA b k cs
  have key : ∀ n y a w, m y = n → φ y → At (X y) (F y) (I y) (H y) a w →
      ∃ e a' w', Q e a' w' ∧ Arrives P (lone (b.at a (.code c :: .inLoop c :: k)) cs w) b k cs e a' w' := by
    intro n
    induction n using Nat.strongRecOn with
    | _ n ih =>
      intro y a w hn hφ hA;obtain ⟨e, a₁, w₁, hq, harr⟩ := hround y hφ a w hA b (.inLoop c :: k) cs;cases e with
      | normal =>
        obtain ⟨z, hz, hlt, hAz⟩ := hq;obtain ⟨e₂, a₂, w₂, hq₂, harr₂⟩ := ih (m z) (hn ▸ hlt) z a₁ w₁ rfl hz hAz;exact ⟨e₂, a₂, w₂, hq₂, .of_steps (Steps.trans harr (.one step_inLoop)) harr₂⟩
      | exit id => exact ⟨_, a₁, w₁, hq, .pass (x := .inLoop c) rfl (fun _ _ => .inl (by simp)) harr⟩
      | goto l => exact ⟨_, a₁, w₁, hq, .pass (x := .inLoop c) rfl (fun _ _ => .inl (by simp)) harr⟩
      | ret => exact ⟨_, a₁, w₁, hq, .pass (x := .inLoop c) rfl (fun _ _ => .inl (by simp)) harr⟩
      | panic ch => exact ⟨_, a₁, w₁, hq, .pass (x := .inLoop c) rfl (fun _ _ => .inl (by simp)) harr⟩
      | outgrown => exact ⟨_, a₁, w₁, hq, .pass (x := .inLoop c) rfl (fun _ _ => .inl (by simp)) harr⟩
  obtain ⟨e, a', w', hq, harr⟩ := key _ x0 a w rfl h0 (hstart a w hA);exact ⟨e, a', w', hq, .of_steps (.one step_loop) harr⟩
theorem WP.againX {α : Type} {X : α → Cx} {F : α → Fr} {H : α → Hp} {I : α → Imm} {φ : α → Prop} {m : α → Nat} {k : Nat} (z : α) (hz : φ z) (hm : m z < k) 
    (hA : ∀ a w, At x fr D hp a w → At (X z) (F z) (I z) (H z) a w) : WP x fr D hp .normal (Exit.then (fun a w => ∃ z, φ z ∧ m z < k ∧ At (X z) (F z) (I z) (H z) a w) Q) :=
  fun a w h => ⟨z, hz, hm, hA a w h⟩
theorem zsn (a b c : Nat × Obj) (A M : Hp) : (∀ e, e ∈ A ++ ([c] ++ M) → e ∈ a :: b :: (A ++ (M ++ [c]))) ∧ ((keys (a :: b :: (A ++ (M ++ [c])))).Nodup → (keys (A ++ ([c] ++ M))).Nodup) := by
  have hp : (A ++ (M ++ [c])).Perm (A ++ ([c] ++ M)) := List.perm_append_comm.append_left A;refine ⟨fun e he => List.mem_cons_of_mem _ (List.mem_cons_of_mem _ (hp.mem_iff.2 he)), fun hn => ?_⟩;have h1 := (List.nodup_cons.1 (List.nodup_cons.1 hn).2).2;exact (hp.map Prod.fst).nodup_iff.1 h1
theorem zsm (a b c d e : Nat × Obj) (A M : Hp) : (∀ y, y ∈ A ++ (e :: M) → y ∈ a :: b :: c :: d :: e :: (A ++ M)) ∧ ((keys (a :: b :: c :: d :: e :: (A ++ M))).Nodup → (keys (A ++ (e :: M))).Nodup) := by
  have hp : (e :: (A ++ M)).Perm (A ++ (e :: M)) := List.perm_middle.symm;refine ⟨fun y hy => List.mem_cons_of_mem _ (List.mem_cons_of_mem _ (List.mem_cons_of_mem _ (List.mem_cons_of_mem _ (hp.mem_iff.2 hy)))), fun hn => ?_⟩;have h1 := (List.nodup_cons.1 (List.nodup_cons.1 (List.nodup_cons.1 (List.nodup_cons.1 hn).2).2).2).2;exact (hp.map Prod.fst).nodup_iff.1 h1
theorem zxf {fr' : Fr} {D1 : Imm} {n dn o : Nat × Obj} (A M : Hp) {a : Act} {w : World} (hA : At x fr D (n :: dn :: o :: (A ++ M)) a w) (hf : subB fr' fr) (hD : ∀ b o, D1 b = some o → D b = some o) : At x fr' D1 (n :: (A ++ (dn :: M))) a w := by
  have hp : (dn :: (A ++ M)).Perm (A ++ (dn :: M)) := List.perm_middle.symm;refine ⟨hA.f.weaken (x8 hf), (hA.i.sub (fun e he => ?_) ?_).shrink hD⟩
  · rcases List.mem_cons.1 he with rfl | he
    · exact List.mem_cons_self
    · rcases List.mem_cons.1 (hp.mem_iff.2 he) with rfl | he
      · exact List.mem_cons_of_mem _ List.mem_cons_self
      · exact List.mem_cons_of_mem _ (List.mem_cons_of_mem _ (List.mem_cons_of_mem _ he))
  · have h0 := hA.i.nodup;have h1 : ((n :: dn :: (A ++ M)).map Prod.fst).Nodup := h0.sublist (((List.sublist_cons_self o (A ++ M)).cons_cons dn).cons_cons n |>.map _);exact (((hp.cons n).map Prod.fst).nodup_iff).1 h1
theorem zz5 {fr' : Fr} {D1 : Imm} {dn o : Nat × Obj} (A M : Hp) {a : Act} {w : World} (hA : At x fr D (dn :: o :: (A ++ M)) a w) (hf : subB fr' fr) (hD : ∀ b o, D1 b = some o → D b = some o) : At x fr' D1 (A ++ (dn :: M)) a w := by
  have hp : (dn :: (A ++ M)).Perm (A ++ (dn :: M)) := List.perm_middle.symm;refine ⟨hA.f.weaken (x8 hf), (hA.i.sub (fun e he => ?_) ?_).shrink hD⟩
  · rcases List.mem_cons.1 (hp.mem_iff.2 he) with rfl | he
    · exact List.mem_cons_self
    · exact List.mem_cons_of_mem _ (List.mem_cons_of_mem _ he)
  · have h0 := hA.i.nodup;have h1 : ((dn :: (A ++ M)).map Prod.fst).Nodup := h0.sublist (((List.sublist_cons_self o (A ++ M)).cons_cons dn).map _);exact ((hp.map Prod.fst).nodup_iff).1 h1
theorem rot8 (a b c d e f g h i : Nat × Obj) (M : Hp) : (a :: b :: c :: d :: e :: f :: g :: h :: i :: M).Perm (a :: b :: c :: d :: e :: f :: g :: h :: (M ++ [i])) :=
  (List.perm_append_comm (l₁ := [i]) (l₂ := M)).append_left [a, b, c, d, e, f, g, h]
theorem SO.altersNP {ty : TypeId} {c : Call} {f : FuncId} {vals : List Value} {S1 : List Nat} {K : Value → Imm → Hp → Prop} (own hpc : Hp) (hpm : hp.Perm (own ++ hpc)) 
    (hS : ∀ b, b ∈ S1 → b ∈ keys hpc) (hS' : ∀ b, b ∈ keys hpc → b ∈ S1) (he : Enters P x fr D hp c ty f vals)
    (hk : ∀ w, Inv D hpc S1 w w → zp P f vals w D S1 K) : SO P x fr D hp (.call c) ty Q (AltK x.w0 D own K) := SO.altersN own hpc (zcM hpm).1 (zcM hpm).2 hS hS' he hk
end
end Go.W
namespace Go.W
section
variable {P : Program} {x : Cx} {fr : Fr} {D : Imm} {hp : Hp} {ty : TypeId} {Q : Exit → Act → World → Prop}
theorem zov {α : Type} {f : α → List Value} {m : Nat} (hf : ∀ x, (f x).length = m) : ∀ (L : List α), (L.flatMap f).length = L.length * m
  | [] => by simp
  | x :: L => by rw [List.flatMap_cons, List.length_append, hf, zov hf L, List.length_cons, Nat.succ_mul]; omega
end
end Go.W
namespace Go.W
section
variable {P : Program} {x : Cx} {fr : Fr} {D : Imm} {hp : Hp} {ty : TypeId}
end
end Go.W
namespace Go.W
open Go.ChangeShapes Go.WideShapes Go.RowKit Go.Deep
theorem Keep.below {w w' : World} (h : Keep [] w w') : Below w.heap.size w w' := ⟨h.os, h.tape, h.output, h.size, fun k hk => h.block k hk (by simp)⟩
section
variable {H : Type} {enc : TypeId × Value → H} {P : Program}
theorem uW (hl : laidOutB P = true) {W W' : World} {sp : Nat → Bool} (hk : Keep [] W W') : ∀ {ts : List TypeId} {vs : List Value} {ds : List (DataW H)} {ps : List MemPlace},
    ts.all (fun t => P.readableRec t && decide (t < P.types.size)) = true → DataW.TrodAll enc P W 0 (fun _ => true) true ts vs ds ps → (∀ p ∈ ps, p.block < W.heap.size) → (∀ p ∈ ps, sp p.block = true) → DataW.TrodAll enc P W' 0 sp true ts vs ds ps
  | [], [], [], _, _, h, _, _ => h
  | t :: ts, v :: vs, d :: ds, _, ht, ⟨p, q, h1, h2, e⟩, hlt, hs => by
    subst e;simp only [List.all_cons, Bool.and_eq_true, decide_eq_true_eq] at ht;refine ⟨p, q, WideElems.Trod_stays hl ht.1.1 ht.1.2 h1 (fun x hx => hk.below.same (hlt x (List.mem_append_left _ hx))) (fun x hx => hs x (List.mem_append_left _ hx)), ?_, rfl⟩;exact uW hl hk (by simpa using ht.2) h2 (fun x hx => hlt x (List.mem_append_right _ hx)) (fun x hx => hs x (List.mem_append_right _ hx))
  | [], _ :: _, _, _, _, h, _, _ => h.elim
  | [], [], _ :: _, _, _, h, _, _ => h.elim
  | _ :: _, [], _, _, _, h, _, _ => h.elim
  | _ :: _, _ :: _, [], _, _, h, _, _ => h.elim
theorem qq (hl : laidOutB P = true) {f : Func} {s : ChangeSpec} {apart fresh handsOn : Bool} {W W' : World} {args : Array Value} {ds gs : List (DataW H)} {before : List MemPlace} {tb : TypeId} 
    (hW : DataW.Whole enc P f.params.toList s.vars apart W args.toList ds gs before) (hv : s.vars = []) (hres : (s.fn H (ds ++ gs)).results = [.lit (.bool true)]) (hargs : (s.fn H (ds ++ gs)).args = ds) (hvars : (s.fn H (ds ++ gs)).vars = [])
    (hr : f.resultTypes = #[tb]) (hu : P.underlying tb = some .bool) (ht : f.params.toList.all (fun t => P.readableRec t && decide (t < P.types.size)) = true) (hk : Keep [] W W') :
    s.post enc P f apart fresh handsOn false W args (.bool true) W' := by
  have hW' := hW;obtain ⟨p, q, hA, hV, rfl, hfz, hnd⟩ := hW
  have hq : gs = [] ∧ q = [] := by
    rw [hv] at hV;cases gs with
    | nil => exact ⟨rfl, hV⟩
    | cons g gs => exact hV.elim
  obtain ⟨rfl, rfl⟩ := hq;have hlt : ∀ x ∈ p, x.block < W.heap.size := fun x hx => by simpa using hW'.lt x (List.mem_append_left _ hx)
  have hold : ∀ x ∈ p, (fun b => decide (b < W.heap.size)) x.block = true := fun x hx => by simpa using hlt x hx
  refine ⟨ds, [], p ++ [], [], p, [], hW', ?_, ?_, ?_, World.keptBut_mono (fun x hx => ⟨hx, .inr (.inl (by simpa using hx))⟩) (hk.below.frame _), fun h => by cases h⟩
  · rw [hres, hr];exact trodAll_mk1 (shut_bool hu true)
  · rw [hargs];exact uW hl hk ht hA hlt hold
  · rw [hvars, hv];rfl
end
def wY (w : World) : Imm := fun b => w.heap[b]?
theorem heapI_holds (w : World) : Holds (wY w) w := fun _ _ h => h
theorem JO {α : Type} [Inhabited α] (f : α → List Value) (D : Imm) (m : Nat) (a : Option Addr) (len : Nat) (h : ∀ i, i < len → ∃ x : α, a = some ⟨sb a, so a, none⟩ ∧ RdD D (sb a) (so a + i * m) (f x)) :
    ∃ l : List α, l.length = len ∧ SlL D m (l.map f) a len := by
  let g : Nat → α := fun i => if hi : i < len then Classical.choose (h i hi) else default
  refine ⟨(List.range len).map g, by simp, by simp, fun i r hr => ?_⟩;rw [List.getElem?_map, List.getElem?_map] at hr;rcases Nat.lt_or_ge i len with hi | hi
  · rw [List.getElem?_range hi] at hr;simp only [Option.map_some, Option.some.injEq] at hr;subst hr;have := Classical.choose_spec (h i hi);have e : g i = Classical.choose (h i hi) := dif_pos hi;rw [e];exact this
  · rw [List.getElem?_eq_none (by simpa using hi)] at hr;cases hr
section
variable {H : Type} {enc : TypeId × Value → H} {P : Program} {w : World} {spare : Nat → Bool} {held : Bool}
theorem ZW {a : Addr} {base m : Nat} {cs : List Value} (hm : 0 < m) (h : w.cells? base a m = some cs) : a.spot = none ∧ RdD (wY w) a.block a.off cs := by
  obtain ⟨_, hl, hc⟩ := World.cells?_some h;have h0 := hc 0 hm;rw [List.getElem?_eq_getElem (by omega)] at h0
  have hsp : a.spot = none := by
    have h1 := h0;unfold World.cell? at h1;have e : (a.add 0).spot.isSome = a.spot.isSome := by unfold Addr.add; split <;> simp_all
    cases hsp : a.spot with
    | none => rfl
    | some x =>
      rw [hsp] at e;revert h1;split
      · rw [if_pos (by rw [e]; rfl)]; intro h; cases h
      · intro h; cases h
  refine ⟨hsp, ?_⟩
  have hadd : ∀ i, a.add i = ⟨a.block, a.off + i, none⟩ := fun i => by
    obtain ⟨b, o, s⟩ := a;simp only at hsp;subst hsp;unfold Addr.add; split <;> simp_all
  have hh : ∃ c e fz, w.heap[a.block]? = some (.cells c e fz) := by
    rw [hadd] at h0;unfold World.cell? at h0;revert h0;split
    · rename_i c e fz hq; intro _; exact ⟨c, e, fz, hq⟩
    · intro h; cases h
  obtain ⟨c, e, fz, hq⟩ := hh;refine ⟨c.toList, e, fz, by simpa [wY] using hq, fun j v hj => ?_⟩
  have hjl : j < cs.length := by
    rcases Nat.lt_or_ge j cs.length with h1 | h1
    · exact h1
    · rw [List.getElem?_eq_none h1] at hj; cases hj
  have := hc j (by omega);rw [hadd, hj] at this;unfold World.cell? at this;simp only [hq, Option.isSome_none, Bool.false_eq_true, if_false] at this;simpa using this
theorem YN {α : Type} [Inhabited α] (f : α → List Value) {t e : TypeId} {m fuel : Nat} {cs : List Value} {x : DataW H × List MemPlace} (ht : P.underlying t = some (.slice e)) (hm : P.cellsOf e = m) (h0 : 0 < m)
    (hel : ∀ n cs' y, DataW.trod enc P w 0 spare held n e cs' = some y → cs'.length = m → ∃ u : α, cs' = f u) (h : DataW.trod enc P w 0 spare held fuel t cs = some x) :
    ∃ (l : List α) (a : Option Addr) (n c : Nat), cs = [.slice a n c] ∧ n ≤ maxLen ∧ SlL (wY w) m (l.map f) a n := by
  rcases open_slice ht h with ⟨rfl, _⟩ | ⟨a, len, cap, m', n, D, Pl, rfl, hb, hl, hmx, hmm, _, hi⟩
  · exact ⟨[], none, 0, 0, rfl, Nat.zero_le _, rfl, fun i r hr => by simp at hr⟩
  · have hlen : len ≤ m' := by rw [hmm]; split <;> omega
    obtain ⟨l, hll, hs⟩ := JO f (wY w) m (some a) len (fun i hil => by
      obtain ⟨cs', hc, ht'⟩ := hi i (by omega);rw [hm] at hc;obtain ⟨u, hu⟩ := hel _ _ _ ht' (World.cells?_some hc).2.1;obtain ⟨hsp, hr⟩ := ZW h0 hc;obtain ⟨cs0, hc0, ht0⟩ := hi 0 (by omega);rw [hm] at hc0;have hsp0 := (ZW h0 hc0).1;rw [Nat.zero_mul] at hsp0;obtain ⟨ab, ao, asp⟩ := a
      have has : asp = none := by
        have e : (Addr.add ⟨ab, ao, asp⟩ 0) = ⟨ab, ao, asp⟩ := by unfold Addr.add; simp
        rw [e] at hsp0; exact hsp0
      subst has;refine ⟨u, rfl, ?_⟩;rw [← hu];have e1 : (Addr.add ⟨ab, ao, none⟩ (i * m)) = ⟨ab, ao + i * m, none⟩ := by unfold Addr.add; split <;> simp_all
      rw [e1] at hr;exact hr)
    exact ⟨l, some a, len, cap, rfl, by omega, hs⟩
end
end Go.W
namespace Go.W
open Go.ChangeShapes Go.WideShapes Go.RowKit Go.Deep
section
variable {H : Type} {enc : TypeId × Value → H}
theorem wy {a : Assume} {C : Checked} {os : Os} {f : FuncId} {fn : Func} {s : ChangeSpec} {conds : List PathCond} {apart fresh handsOn again : Bool} {X : World → Array Value → Prop} 
    (hX : ∀ (w w' : World) (args : Array Value), w.heap = w'.heap → X w args → X w' args)
    (own : ownKnob C.prog.godebug = none) (started : os.Started) (noInit : C.prog.inits.idxOf? f = none) (hfn : C.prog.funcs[f]? = some fn)
    (witness : ∃ (w : World) (tape : Tape) (i : Input), w.os = os ∧ (w.forCall tape i).Shaped C.prog ∧ i.vars = [] ∧ Input.okWide C.prog (w.forCall tape i) .any w.heap.size f i ∧
      ((s.pre enc C.prog fn conds apart (w.forCall tape i).memory i.args ∧ X (w.forCall tape i).memory i.args) ∧ sizedMet enc C.prog fn (OpenSpec.ofChange s) apart (w.forCall tape i).memory i.args) ∧ a.holds C.prog (lone (Frame.enter C.prog f i.args .normal) [] (w.forCall tape i)))
    (contract : ∀ (W : World) (base : Nat) (args : Array Value) (ds gs : List (DataW H)) (before : List MemPlace),
      (∀ (j : Nat) t v, fn.params[j]? = some t → args[j]? = some v → Value.okWide C.prog W .any base t v) →
      DataW.Whole enc C.prog fn.params.toList s.vars apart W args.toList ds gs before → W.ShapedOpen C.prog → X W args →
      Calls C.prog f args W fun e W' => ∃ v, e = .returned v ∧ s.post enc C.prog fn apart fresh handsOn again W args v W') :
    ReturnsInHanded a C os f .any (fun w args => (s.pre enc C.prog fn conds apart w args ∧ X w args) ∧ sizedMet enc C.prog fn (OpenSpec.ofChange s) apart w args) (s.post enc C.prog fn apart fresh handsOn again) := by
  refine returnsInHanded_of_calls own started noInit witness ?_;intro w tape i _ hsh _ hok hpre _;obtain ⟨_, _, _, fn', hfn', _, _, _, _, hval⟩ := hok;have e : fn' = fn := Option.some.inj (hfn'.symm.trans hfn);subst e;obtain ⟨⟨⟨ds, gs, before, hw, _⟩, hx⟩, _⟩ := hpre;have hw' := DataW.Whole.of_heap (w' := w.forCall tape i) (by rfl) hw;refine (contract (w.forCall tape i) w.heap.size i.args ds gs before hval hw' hsh (hX _ _ _ (by rfl) hx)).mono fun e W' ⟨v, he, hp⟩ => ?_;subst he;exact ChangeSpec.post_blind hp
end
theorem wu {P : Program} {W : World} {n : String} {g : Nat} {cs : Array Value} (hg : P.globalNamed n = some g) (hv : W.var? P n = some cs) : ∃ t fz, wY W g = some (.cells cs t fz) := by
  unfold World.var? at hv;rw [hg] at hv;simp only [Option.bind_some] at hv;unfold wY;split at hv
  · rename_i c t fz he
    cases hv
    exact ⟨t, fz, he⟩
  · cases hv
theorem Wu {W : World} {g : Nat} {v : Value} (h : W.cell? ⟨g, 0, none⟩ = some v) : ∃ r t fz, wY W g = some (.cells (List.toArray (v :: r)) t fz) := by
  unfold World.cell? at h;unfold wY;revert h;split
  · rename_i cs t fz he
    intro h;simp only [Option.isSome_none, Bool.false_eq_true, if_false] at h;obtain ⟨l⟩ := cs;cases l with
    | nil => simp at h
    | cons x r =>
      simp at h;subst h;exact ⟨r, t, fz, he⟩
  · intro h; cases h
section
variable {H : Type} {enc : TypeId × Value → H} {P : Program} {w : World} {base : Nat} {spare : Nat → Bool} {held : Bool}
end
end Go.W
namespace Go.W
universe u
class AgF (P : Program) (t : TypeId) (b : outParam Bool) : Prop where
  h : ∀ w, (isAgg t).run P w = .ok b w
class SzF (P : Program) (t : TypeId) (n : outParam Nat) : Prop where
  h : ∀ w, (sizeOf t).run P w = .ok n w
class UnF (P : Program) (t : TypeId) (d : outParam TypeDesc) : Prop where
  h : P.underlying t = some d
class ZvF (P : Program) (t : TypeId) (v : outParam Value) : Prop where
  h : ∀ w, (zeroValue t).run P w = .ok v w
class SaF (P : Program) (t : TypeId) (zs : outParam (List Value)) (pl : outParam (List (Nat × Nat))) : Prop where
  h : zj P t zs pl
class EgF (P : Program) (t : TypeId) : Prop where
  h : P.eqGuardType P.depth t = false
class CaF (P : Program) (f : FuncId) : Prop where
  h : ∀ args w, (callFunc f args).run P w = .ok (.enter f args) w
def slcF (cs : List Value) : Nat → Nat → Option (List Value)
  | _, 0 => some []
  | o, n + 1 => match cs[o]? with
    | some v => match slcF cs (o + 1) n with
      | some vs => some (v :: vs)
      | none => none
    | none => none
theorem uk {cs : List Value} : ∀ {n o : Nat} {vs : List Value}, slcF cs o n = some vs → vs.length = n ∧ slc cs o n = vs
  | 0, o, vs, h => by simp [slcF] at h; subst h; exact ⟨rfl, by simp [slc]⟩
  | n + 1, o, vs, h => by
    simp only [slcF] at h;cases hc : cs[o]? with
    | none => rw [hc] at h; cases h
    | some v =>
      rw [hc] at h;cases hr : slcF cs (o + 1) n with
      | none => rw [hr] at h; cases h
      | some us =>
        rw [hr] at h;cases h
        obtain ⟨h1, h2⟩ := uk hr;refine ⟨by simp [h1], ?_⟩;obtain ⟨hl, e⟩ := List.getElem?_eq_some_iff.1 hc;unfold slc at *;rw [List.drop_eq_getElem_cons hl, List.take_succ_cons, e, h2]
def jN : List Value → Option (List Value)
  | [] => some []
  | a :: l => match jN l with
    | some r => some (a :: r)
    | none => none
theorem Zx : ∀ {l r : List Value}, jN l = some r → l = r
  | [], r, h => by simp [jN] at h; exact h.symm
  | a :: l, r, h => by
    simp only [jN] at h;cases hr : jN l with
    | none => rw [hr] at h; cases h
    | some u => rw [hr] at h; cases h; rw [Zx hr]
def RdK (D : Imm) (hp : Hp) (b o n : Nat) (vs : List Value) : Prop := vs.length = n ∧ RdN D hp b o vs
theorem RdK.own {D : Imm} {hp : Hp} {k b off n : Nat} {cs vs : List Value} {e : TypeId} {fz : Nat × Nat} (hk : hp[k]? = some (b, .cells cs.toArray e fz)) (hv : slcF cs off n = some vs) : RdK D hp b off n vs := ⟨(uk hv).1, RdN.own hk (uk hv).2⟩
theorem RdK.imm {D : Imm} {hp : Hp} {b off n : Nat} {cs vs : List Value} {e : TypeId} {fz : Nat × Nat} (hk : D b = some (.cells cs.toArray e fz)) (hv : slcF cs off n = some vs) : RdK D hp b off n vs := ⟨(uk hv).1, RdN.imm hk (uk hv).2⟩
section hk
variable {hp : Hp}
theorem zh_0 {a : Nat × Obj} {l : Hp} : (a :: l)[0]? = some a := rfl
theorem zh_1 {a b : Nat × Obj} {l : Hp} : (b :: a :: l)[1]? = some a := rfl
theorem zh_2 {a b c : Nat × Obj} {l : Hp} : (b :: c :: a :: l)[2]? = some a := rfl
theorem zh_3 {a b c d : Nat × Obj} {l : Hp} : (b :: c :: d :: a :: l)[3]? = some a := rfl
theorem zh_4 {a b c d e : Nat × Obj} {l : Hp} : (b :: c :: d :: e :: a :: l)[4]? = some a := rfl
theorem zh_5 {a b c d e f : Nat × Obj} {l : Hp} : (b :: c :: d :: e :: f :: a :: l)[5]? = some a := rfl
theorem zh_6 {a b c d e f g : Nat × Obj} {l : Hp} : (b :: c :: d :: e :: f :: g :: a :: l)[6]? = some a := rfl
theorem zh_7 {a b c d e f g h : Nat × Obj} {l : Hp} : (b :: c :: d :: e :: f :: g :: h :: a :: l)[7]? = some a := rfl
theorem zh_8 {a b c d e f g h i : Nat × Obj} {l : Hp} : (b :: c :: d :: e :: f :: g :: h :: i :: a :: l)[8]? = some a := rfl
theorem zHk {k : Nat} {a : Nat × Obj} (h : hp[k]? = some a := by first | exact zh_0 | exact zh_1 | exact zh_2 | exact zh_3 | exact zh_4 | exact zh_5 | exact zh_6 | exact zh_7 | exact zh_8) : hp[k]? = some a := h
end hk
section rd
variable {D : Imm} {hp : Hp} {b off : Nat} {cs : List Value} {e : TypeId} {fz : Nat × Nat} {v : Value}
theorem rdo {k : Nat} (hk : hp[k]? = some (b, .cells cs.toArray e fz)) (hc : cs[off]? = some v) : Rd D hp ⟨b, off, none⟩ v := Rd.own hk hc
theorem zR {a : Addr} (h : Rd D hp a v := by
  first
  | exact Rd.imm (by assumption) (by exact rfl)
  | exact rdo zHk (by exact rfl)) : Rd D hp a v := h
theorem zK {o n : Nat} {vs : List Value} (h : RdK D hp b o n vs := by
  first
  | exact RdK.imm (by assumption) (by exact rfl)
  | exact RdK.own zHk (by exact rfl)) : RdK D hp b o n vs := h
end rd
section yd
variable {P : Program} {x : Cx} {fr : Fr} {D : Imm} {hp : Hp} {ty : TypeId}
theorem Yd.l1 {t b o : Nat} {p : Operand} {v : Value} [AgF P t false] (hp' : opv fr p = some (.pointer (some ⟨b, o, none⟩))) (hr : Rd D hp ⟨b, o, none⟩ v) : Yd P x fr D hp (.load t p) ty v := Yd.load1 AgF.h hp' hr
theorem Yd.lK {t b o n : Nat} {p : Operand} {vs : List Value} [AgF P t true] [SzF P t n] (hp' : opv fr p = some (.pointer (some ⟨b, o, none⟩))) (hr : RdK D hp b o n vs) : Yd P x fr D hp (.load t p) ty (.agg vs.toArray) := Yd.loadN AgF.h SzF.h hp' hr.1 hr.2
theorem Yd.lV {t b o n : Nat} {p : Operand} (vs : List Value) [AgF P t true] [SzF P t n] (hp' : opv fr p = some (.pointer (some ⟨b, o, none⟩))) (hr : RdN D hp b o vs) (hl : vs.length = n := by rfl) : Yd P x fr D hp (.load t p) ty (.agg vs.toArray) := Yd.loadN AgF.h SzF.h hp' hl hr
def fldF : List Field → Nat → Option (Nat × Nat)
  | [], _ => none
  | { type := t, offset := o, .. } :: _, 0 => some (t, o)
  | _ :: l, n + 1 => fldF l n
theorem VO : ∀ {l : List Field} {f t off : Nat}, fldF l f = some (t, off) → (l[f]?).map (fun fd => (fd.type, fd.offset)) = some (t, off)
  | [], f, t, off, h => by simp [fldF] at h
  | fd :: l, 0, t, off, h => by simpa [fldF] using h
  | fd :: l, f + 1, t, off, h => by
    have h1 := VO (l := l) (f := f) (by simpa [fldF] using h);simpa using h1
theorem Yd.fA {s t f n off b o : Nat} {p : Operand} {fs : Array Field} [UnF P s (.struct fs)] (hf : fldF fs.toList f = some (t, off)) [SzF P t n] (hp' : opv fr p = some (.pointer (some ⟨b, o, none⟩))) (hn : Nat.beq n 0 = false) : Yd P x fr D hp (.fieldAddr s p f) ty (.pointer (some ⟨b, o + off, none⟩)) :=
  Yd.fieldAddr (k8.mk UnF.h (by have := VO hf; simpa using this) SzF.h (fun e => by subst e; cases hn)) hp'
theorem Yd.lnS {t e : TypeId} {ts : List TypeId} {p : Operand} {a : Option Addr} {len cap : Nat} (hp' : opv fr p = some (.slice a len cap)) [UnF P t (.slice e)] : Yd P x fr D hp (.call ⟨.builtin .len, #[p], ⟨t :: ts⟩⟩) ty (.int .i64 len) := Yd.lenS (t := t) rfl UnF.h hp'
theorem Yd.bd {t : TypeId} {zs : List Value} {pl : List (Nat × Nat)} [SaF P t zs pl] {ps : List (Nat × Operand)} {vals : List (Nat × Value)} {cs : List Value}
    (hp' : opps fr ps = some vals) (hf : (Instr.fill (pl.toArray[·]?) zs.toArray vals).bind (fun a => jN a.toList) = some cs) : Yd P x fr D hp (.build t ps.toArray) ty (.agg cs.toArray) := Yd.build SaF.h hp' (by
      cases h : Instr.fill (pl.toArray[·]?) zs.toArray vals with
      | none => rw [h] at hf; cases hf
      | some a => rw [h] at hf; rw [← Zx hf])
theorem Yd.ix {t e : TypeId} {n : Nat} {p q : Operand} {a : Option Addr} {len cap : Nat} {k : IntKind} {j : Int} [UnF P t (.slice e)] [SzF P e n] (hp' : opv fr p = some (.slice a len cap)) (hq : opv fr q = some (.int k j))
    (ha : a = some ⟨sb a, so a, none⟩) (h0 : 0 ≤ j := by omega) (hl : j < len := by omega) :
    Yd P x fr D hp (.indexAddr t p q) ty (.pointer (some ⟨sb a, so a + j.toNat * n, none⟩)) := Yd.indexS UnF.h SzF.h hp' hq h0 hl ha
theorem Yd.ifc {t : TypeId} {dsc : TypeDesc} {o : Operand} {v : Value} [UnF P t dsc] (ho : opv fr o = some v) (hn : ∀ ms, dsc ≠ .interface ms := by intro _ h; cases h) : Yd P x fr D hp (.makeInterface t o) ty (.iface t v) := Yd.iface UnF.h hn ho
def ydF (fr : Fr) : Op → Option Value
  | .move o => opv fr o
  | .assign o => opv fr o
  | .extract o n => match opv fr o with
    | some (.tuple vs) => vs[n]?
    | _ => none
  | .nilCheck o => match opv fr o with
    | some (.pointer (some p)) => some (.pointer (some p))
    | _ => none
  | .pick c p q => match opv fr c with
    | some (.bool true) => opv fr p
    | some (.bool false) => opv fr q
    | _ => none
  | .unOp .not _ o => match opv fr o with
    | some (.bool b) => some (.bool !b)
    | _ => none
  | .makeFunc fn ⟨A⟩ ⟨B⟩ => match opvs fr A, opvs fr B with
    | some va, some vb => some (.func fn va.toArray vb.toArray)
    | _, _ => none
  | _ => none
theorem Yd.ev {op : Op} {v : Value} (h : ydF fr op = some v) : Yd P x fr D hp op ty v := by
  unfold ydF at h;split at h
  · exact Yd.move h
  · exact Yd.assign h
  · split at h
    · exact Yd.extract (by assumption) h
    · cases h
  · split at h
    · cases h; exact Yd.nilCheck (by assumption)
    · cases h
  · split at h
    · exact Yd.pickT (by assumption) h
    · exact Yd.pickF (by assumption) h
    · cases h
  · split at h
    · cases h; exact Yd.not (by assumption)
    · cases h
  · split at h
    · cases h; exact Yd.func (by assumption) (by assumption)
    · cases h
  · cases h
def cmpF (i j : Int) : BinOp → Option Value
  | .lss => some (.bool (decide (i < j)))
  | .leq => some (.bool (decide (i ≤ j)))
  | .gtr => some (.bool (decide (j < i)))
  | .geq => some (.bool (decide (j ≤ i)))
  | .eql => some (.bool (decide (i = j)))
  | .neq => some (.bool (decide (i ≠ j)))
  | _ => none
theorem Yd.cmp {op : BinOp} {t t' : TypeId} {o p : Operand} {k : IntKind} {i j : Int} {v : Value} (h : cmpF i j op = some v) (ho : opv fr o = some (.int k i)) (hp' : opv fr p = some (.int k j)) : Yd P x fr D hp (.binOp op t o p t') ty v := by
  cases op <;> simp only [cmpF] at h <;> cases h
  · exact Yd.eql ho hp'
  · exact Yd.neq ho hp'
  · exact Yd.lss ho hp'
  · exact Yd.leq ho hp'
  · exact Yd.gtr ho hp'
  · exact Yd.geq ho hp'
class OpK (op : Op) (k : outParam Nat) : Prop where
instance okL {t : TypeId} {p : Operand} : OpK (.load t p) 1 := ⟨⟩
instance okF {t : TypeId} {p : Operand} {n : Nat} : OpK (.fieldAddr t p n) 2 := ⟨⟩
instance okB {o : BinOp} {t u : TypeId} {p q : Operand} : OpK (.binOp o t p q u) 3 := ⟨⟩
instance okD {t : TypeId} {l : Array (Nat × Operand)} : OpK (.build t l) 4 := ⟨⟩
instance okI {t : TypeId} {p : Operand} : OpK (.makeInterface t p) 5 := ⟨⟩
instance okC {c : Call} : OpK (.call c) 6 := ⟨⟩
section
variable {op : Op} {v : Value}
include op v
theorem yK1 [OpK op 1] (h : Yd P x fr D hp op ty v) : Yd P x fr D hp op ty v := h
theorem yK2 [OpK op 2] (h : Yd P x fr D hp op ty v) : Yd P x fr D hp op ty v := h
theorem yK3 [OpK op 3] (h : Yd P x fr D hp op ty v) : Yd P x fr D hp op ty v := h
theorem yK4 [OpK op 4] (h : Yd P x fr D hp op ty v) : Yd P x fr D hp op ty v := h
theorem yK5 [OpK op 5] (h : Yd P x fr D hp op ty v) : Yd P x fr D hp op ty v := h
theorem yK6 [OpK op 6] (h : Yd P x fr D hp op ty v) : Yd P x fr D hp op ty v := h
theorem zY (h : Yd P x fr D hp op ty v := by
  first
  | exact Yd.ev rfl
  | (apply yK1
     first
     | exact Yd.load1 AgF.h rfl zR
     | exact Yd.lK rfl zK)
  | (apply yK2
     exact Yd.fA rfl rfl rfl)
  | (apply yK3
     first
     | exact Yd.cmp rfl rfl rfl
     | exact Yd.add rfl rfl (wr64 ⟨by omega, by omega⟩)
     | exact Yd.sub rfl rfl (wr64 ⟨by omega, by omega⟩)
     | exact Yd.mul rfl rfl (wr64 ⟨by omega, by omega⟩))
  | (apply yK4
     exact Yd.bd rfl rfl)
  | (apply yK5
     exact Yd.ifc rfl)
  | (apply yK6
     exact Yd.lnS rfl)) : Yd P x fr D hp op ty v := h
end
end yd
section so
variable {P : Program} {x : Cx} {fr : Fr} {D : Imm} {hp : Hp} {ty : TypeId} {Q : Exit → Act → World → Prop}
theorem SO.st {t b off n k : Nat} {p o : Operand} {v : Value} {cs vs : List Value} {e : TypeId} [SzF P t n]
    (hp' : opv fr p = some (.pointer (some ⟨b, off, none⟩))) (ho : opv fr o = some v) (hc : v.cells = vs.toArray) (hl : vs.length = n) (hk : hp[k]? = some (b, .cells cs.toArray e (0, 0))) (hoff : Nat.ble (off + n) cs.length = true := by rfl) (hone : oneB vs = true := by rfl) :
    SO P x fr D hp (.store t p o) ty Q (SetK D hp k b (.cells (splice cs off vs).toArray e (0, 0))) := SO.store k hk SzF.h hp' ho hc hl (Nat.le_of_ble_eq_true hoff) (za hone)
theorem SO.cl {f : FuncId} {A : List Operand} {ts : Array TypeId} {vals : List Value} {v : Value} [CaF P f] (hk : ∀ w, Inv D hp x.S x.w0 w → z8 P f vals w v) (ha : opvs fr A = some vals := by rfl) :
    SO P x fr D hp (.call ⟨.value (.func f), A.toArray, ts⟩) ty Q (Wo D hp v) := SO.call (Enters.func CaF.h ha) hk
end so
def znd : Op → Bool | .defer _ => false | _ => true
theorem zn {op : Op} (h : znd op = true) : ∀ c, op ≠ .defer c := fun c e => by subst e; cases h
theorem WP.mk {x : Cx} {fr : Fr} {D : Imm} {hp : Hp} {e : Exit} {Q : Exit → Act → World → Prop} (h : ∀ a w, At x fr D hp a w → Q e a w) : WP x fr D hp e Q := h
theorem SO.mk {P : Program} {x : Cx} {fr : Fr} {D : Imm} {hp : Hp} {op : Op} {ty : TypeId} {Q : Exit → Act → World → Prop} {K : Value → Imm → Hp → Prop} (h : ∀ a w dst pos af g (next : Act → World → Prop), At x fr D hp a w → (∀ v D' hp' w', K v D' hp' → Inv D' hp' x.S x.w0 w' → next (a.put dst v) w') → Oper.wp P ⟨dst, op, ty, pos, af, g⟩ a w next Q) : SO P x fr D hp op ty Q K := h
theorem zs {D : Imm} {hp : Hp} {v : Value} {R : Value → Imm → Hp → Prop} (h : R v D hp) : ∀ v2 D2 hp2, Wo D hp v v2 D2 hp2 → R v2 D2 hp2 := fun _ _ _ ⟨a, b, c⟩ => by subst a; subst b; subst c; exact h
theorem zt {D : Imm} {hp : Hp} {k b : Nat} {o : Obj} {R : Value → Imm → Hp → Prop} (h : R undef D (hp.set k (b, o))) : ∀ v2 D2 hp2, SetK D hp k b o v2 D2 hp2 → R v2 D2 hp2 := fun _ _ _ ⟨a, b, c⟩ => by subst a; subst b; subst c; exact h
theorem zk {α : Sort u} {a b : α} (h : a = b := by kernel_rfl) : a = b := h
theorem zU3 {a b : Hp} (hn : (keys b).Nodup) (h : List.Sublist a b := by repeat first | exact List.nil_sublist _ | exact List.Sublist.refl _ | apply List.Sublist.cons_cons | apply List.Sublist.cons) : (keys a).Nodup := (subS h).2 hn
theorem zU1 {a b : Hp} (h : List.Sublist a b := by repeat first | exact List.nil_sublist _ | exact List.Sublist.refl _ | apply List.Sublist.cons_cons | apply List.Sublist.cons) : ∀ e, e ∈ a → e ∈ b := (subS h).1
theorem zU2 {a b : Hp} (h : List.Sublist a b := by repeat first | exact List.nil_sublist _ | exact List.Sublist.refl _ | apply List.Sublist.cons_cons | apply List.Sublist.cons) : (keys b).Nodup → (keys a).Nodup := (subS h).2
section quiet
variable {ops : Array Oper} {Q : Exit → Act → World → Prop}
theorem zQP (h : zm Q := by first | ((repeat first | refine zm.then ?_ | refine zm.blk ?_ | exact zm.body | refine zm.sc ?_ | exact zm.round | exact zm.roundP); done) | fail) : zm Q := h
theorem zQO (h : zN ops Q := by first | ((repeat first | refine zN.then ?_ | refine zN.blk ?_ | exact zN.bodyD (by rfl) | exact zN.bodyM (by rfl) | refine zN.sc ?_); done) | fail) : zN ops Q := h
theorem zQA {d : Nat} (h : zU d Q := by first | ((repeat first | refine zU.then ?_ | refine zU.blk ?_ | exact zU.bodyD (by rfl) | exact zU.bodyM (by rfl) | refine zU.sc ?_); done) | fail) : zU d Q := h
theorem zQL {pl : List (Nat × Bool)} (h : zO ops pl Q := by first | ((repeat first | refine zO.then ?_ | refine zO.blk ?_ | exact zO.bodyD (by rfl) | exact zO.bodyM (by rfl) | refine zO.sc ?_); done) | fail) : zO ops pl Q := h
theorem zN.ofP (h : zm Q) : zN ops Q := fun _ o v c a w _ hq => h c o.dst v a w hq
theorem zU.ofP {d : Nat} (h : zm Q) : zU d Q := fun v c a w hq => h c (some d) v a w hq
theorem zO.ofP {pl : List (Nat × Bool)} (h : zm Q) : zO ops pl Q := fun _ o v c a w _ _ hq => h c o.dst v a w hq
theorem zX {p : Prop} (h : p := by
  first
  | (show zN _ _
     first | exact zQO | exact zN.ofP zQP)
  | (show zU _ _
     first | exact zQA | exact zU.ofP zQP)
  | (show zO _ _ _
     first | exact zQL | exact zO.ofP zQP)
  | exact zQP) : p := h
end quiet
def pz : List Nat → List (Nat × Bool)
  | [] => []
  | n :: l => (n / 2, Nat.beq (n % 2) 1) :: pz l
section ret
variable {P : Program} {x : Cx} {fr : Fr} {D : Imm} {hp : Hp}
theorem RV.cN {s t b o n : Nat} {vs : List Value} [AgF P t true] [SzF P t n] (h : fr.get s = some (.pointer (some ⟨b, o, none⟩))) (hr : RdK D hp b o n vs) : RV P x fr D hp (.cell s t) (.agg vs.toArray) := RV.cellN AgF.h SzF.h h hr.1 hr.2
theorem zW {r : ResultVar} {v : Value} (h : RV P x fr D hp r v := by first | exact RV.tmp rfl | exact RV.cell1 AgF.h rfl zR | exact RV.cN rfl zK) : RV P x fr D hp r v := h
theorem zV {rs : List ResultVar} {vs : List Value} (h : RVs P x fr D hp rs vs := by repeat first | exact trivial | refine ⟨zW, ?_⟩) : RVs P x fr D hp rs vs := h
theorem zI {w : World} : Inv (fun _ => none) [] [] w w := Inv.start (by intro _ _ h; cases h)
variable {f : FuncId} {fn : Func} {c : Code} {args : List Value} {S : List Nat} {w : World} {R : Ending → World → Prop} {n : Nat}
section
variable (hf : P.funcs[f]? = some fn) (hb : fn.body = some c) (hn : fn.ntmps = n) (hI : Inv D hp S w w)
include hf hb hn hI
theorem en (h : WC P ⟨n, [], S, w⟩ (uA 0 args) D hp c (bodyPost P fn R)) (hl : Nat.ble args.length n = true := by rfl) : Calls P f args.toArray w R := enter hf hb n hn (Nat.le_of_ble_eq_true hl) hI h
theorem enD (h : WC P ⟨n, [], S, w⟩ (uA 0 args) D hp c (bodyPostD P fn R)) (hl : Nat.ble args.length n = true := by rfl) : Calls P f args.toArray w R := zcm hf hb n hn (Nat.le_of_ble_eq_true hl) hI h
theorem enM (h : WC P ⟨n, [], S, w⟩ (uA 0 args) D hp c (bodyPostM Fence.wide 0 P fn R)) (hl : Nat.ble args.length n = true := by rfl) : Calls P f args.toArray w R := zcn hf hb n hn (Nat.le_of_ble_eq_true hl) hI h
end
end ret
section so2
variable {P : Program} {x : Cx} {fr : Fr} {D : Imm} {hp : Hp} {ops : Array Oper} {Q : Exit → Act → World → Prop} {rest : List Oper} {dst : Option Tmp} {ty : TypeId} {pos : String} {af : Array Edge} {f : FuncId} {A : List Operand} {ts : Array TypeId} {vals : List Value} {v : Value} {u : Option Nat}
theorem zw {cs : List Value} {t : TypeId} {R : Value → Imm → Hp → Prop} (h : ∀ b, x.w0.heap.size ≤ b → R (.pointer (some ⟨b, 0, none⟩)) D ((b, .cells cs.toArray t (0, 0)) :: hp)) : ∀ v D' hp', NewK x D hp cs t v D' hp' → R v D' hp' := fun _ _ _ ⟨b, hb, e1, e2, e3⟩ => by subst e1; subst e2; subst e3; exact h b hb
theorem WL.cl [CaF P f] (ha : opvs fr A = some vals) (hk : ∀ w, Inv D hp x.S x.w0 w → z8 P f vals w v) (h : WL P x ops (wj dst v fr) D hp rest Q) (hd : dstB dst x.n = true := by rfl) : WL P x ops fr D hp (⟨dst, .call ⟨.value (.func f), A.toArray, ts⟩, ty, pos, af, none⟩ :: rest) Q := WL.so (SO.call (Enters.func CaF.h ha) hk) hd (zs h)
theorem WLF.cl [CaF P f] (ha : opvs fr A = some vals) (hk : ∀ w, Inv D hp x.S x.w0 w → z8 P f vals w v) (h : WLF P u x ops (wj dst v fr) D hp rest Q) (hd : dstB dst x.n = true := by rfl) : WLF P u x ops fr D hp (⟨dst, .call ⟨.value (.func f), A.toArray, ts⟩, ty, pos, af, none⟩ :: rest) Q := WLF.so (zn rfl) (SO.call (Enters.func CaF.h ha) hk) hd (zs h)
theorem WL.nf {ch : List PanicEntry} [CaF P f] (ha : opvs fr A = some vals) (hk : ∀ w, Inv D hp x.S x.w0 w → xC P f vals w ch) (h : WP x fr D hp (.panic ch) Q) : WL P x ops fr D hp (⟨dst, .call ⟨.value (.func f), A.toArray, ts⟩, ty, pos, af, none⟩ :: rest) Q := WL.no (SO.fail (Enters.func CaF.h ha) hk h)
end so2
structure Wh (i : Nat) (r p : Prop) : Prop where
  go : r → p
section wh
variable {P : Program} {x : Cx} {fr : Fr} {D D0 : Imm} {hp hp0 : Hp} {ops : Array Oper} {Q : Exit → Act → World → Prop} {n i : Nat} {listed : Array Bool} {d : Tmp} {op : Op} {ty : TypeId} {pos : String} {af : Array Edge} {v : Value}
section
variable (hc : ((Region.ready .any ops listed).contains i && Region.free .any ops listed i && Region.noSelect ops) = true)
include hc
theorem Wh.yd (hQ : zN ops Q) (ho : ops[i]? = some ⟨some d, op, ty, pos, af, none⟩) 
    (hy : Yd P x fr D0 hp0 op ty v) (hd : Nat.blt d x.n = true) : Wh i (WH P x ops D0 hp0 n (listed.setIfInBounds i true) ((d, v) :: fr) D hp Q) (WH P x ops D0 hp0 (n + 1) listed fr D hp Q) := ⟨fun h => WH.yd hc hQ ho hy hd h⟩
theorem Wh.ydD (hQ : zU d Q) (ho : ops[i]? = some ⟨some d, op, ty, pos, af, none⟩) 
    (hy : Yd P x fr D0 hp0 op ty v) (hd : Nat.blt d x.n = true) : Wh i (WH P x ops D0 hp0 n (listed.setIfInBounds i true) ((d, v) :: fr) D hp Q) (WH P x ops D0 hp0 (n + 1) listed fr D hp Q) := ⟨fun h => WH.ydD hc hQ ho hy hd h⟩
end
theorem zH {r p : Prop} (h : Wh i r p := by first | exact Wh.yd zk zX rfl zY rfl | exact Wh.ydD zk zX rfl zY rfl) : Wh i r p := h
end wh
section steps
variable {P : Program} {x : Cx} {fr : Fr} {D : Imm} {hp : Hp} {ops : Array Oper} {Q : Exit → Act → World → Prop} {rest : List Oper}
def pickF (fr : Fr) : List Nat → Option Fr
  | [] => some []
  | t :: l => match fr.get t with
    | some v => match pickF fr l with
      | some r => some ((t, v) :: r)
      | none => none
    | none => none
theorem uh : ∀ {l : List Nat} {r : Fr}, pickF fr l = some r → subB r fr
  | [], r, h => by simp [pickF] at h; subst h; trivial
  | t :: l, r, h => by
    simp only [pickF] at h;cases hc : fr.get t with
    | none => rw [hc] at h; cases h
    | some v =>
      rw [hc] at h;cases hr : pickF fr l with
      | none => rw [hr] at h; cases h
      | some u => rw [hr] at h; cases h; exact ⟨hc, uh hr⟩
structure Wk (l : List (List Nat)) (p : Prop) : Prop where
  go : p
variable {q : Prop}
theorem Wk.done {p : Prop} : p → Wk [] p := fun h => ⟨h⟩
theorem Wk.step {n : Nat} {l : List (List Nat)} {r p : Prop} (h : r → p) (k : q → Wk ([n] :: l) r) : q → Wk ([n + 1] :: l) p := fun a => ⟨h (k a).go⟩
theorem Wk.zero {l : List (List Nat)} {p : Prop} (k : q → Wk l p) : q → Wk ([0] :: l) p := fun a => ⟨(k a).go⟩
section
variable {n t : Nat} {s : List Nat} {l : List (List Nat)} {r : Fr} {c : Code}
include n t s l r c
theorem Wk.pkC (h : pickF fr (t :: s) = some r) (k : q → Wk ([n] :: l) (WC P x r D hp c Q)) : q → Wk ((n :: t :: s) :: l) (WC P x fr D hp c Q) := fun a => ⟨WC.ofFr r (uh h) (k a).go⟩
theorem Wk.pkF {u : Option Nat} (h : pickF fr (t :: s) = some r) (k : q → Wk ([n] :: l) (WCF P u x r D hp c Q)) : q → Wk ((n :: t :: s) :: l) (WCF P u x fr D hp c Q) := fun a => ⟨WCF.ofFr r (uh h) (k a).go⟩
theorem Wk.pkn {f : FuncId} (h : pickF fr (t :: s) = some r) (k : q → Wk ([n] :: l) (WCn f P x r D hp c Q)) : q → Wk ((n :: t :: s) :: l) (WCn f P x fr D hp c Q) := fun a => ⟨WCn.ofFr r (uh h) (k a).go⟩
end
theorem Wk.wh {i : Nat} {l : List (List Nat)} {r p : Prop} (h : Wh i r p) (k : q → Wk l r) : q → Wk ([i + 1000] :: l) p := fun a => ⟨h.go (k a).go⟩
theorem Wk.tl {n id : Nat} {l : List (List Nat)} {os : List Oper} (hm : P.follows .mixedOrders = true) (hB : X0 os.toArray n = true) 
    (k : q → Wk l (WQ P x os.toArray D hp (fun a' => ∀ w', Inv D hp x.S x.w0 w' → wpList P os.toArray Q (os.drop n) a' w') (List.range n) fr)) : q → Wk ([n + 3000] :: l) (WC P x fr D hp (.region id os.toArray true) Q) := fun a => ⟨WC.tail n _ rfl hm hB (k a).go⟩
section
variable {r : Prop}
include r
theorem gWL {P : Program} {x : Cx} {ops : Array Oper} {fr : Fr} {D : Imm} {hp : Hp} {l : List Oper} {Q : Exit → Act → World → Prop} (h : r → WL P x ops fr D hp l Q) : r → WL P x ops fr D hp l Q := h
theorem gWP {x : Cx} {fr : Fr} {D : Imm} {hp : Hp} {e : Exit} {Q : Exit → Act → World → Prop} (h : r → WP x fr D hp e Q) : r → WP x fr D hp e Q := h
theorem gWC {P : Program} {x : Cx} {fr : Fr} {D : Imm} {hp : Hp} {c : Code} {Q : Exit → Act → World → Prop} (h : r → WC P x fr D hp c Q) : r → WC P x fr D hp c Q := h
theorem gWQ {P : Program} {x : Cx} {ops : Array Oper} {D : Imm} {hp : Hp} {K : Act → Prop} {l : List Nat} {fr : Fr} (h : r → WQ P x ops D hp K l fr) : r → WQ P x ops D hp K l fr := h
theorem gWA {P : Program} {x : Cx} {ops : Array Oper} {D0 : Imm} {hp0 : Hp} {pl : List (Nat × Bool)} {fr : Fr} {D : Imm} {hp : Hp} {Q : Exit → Act → World → Prop} (h : r → WA P x ops D0 hp0 pl fr D hp Q) : r → WA P x ops D0 hp0 pl fr D hp Q := h
theorem gWLF {P : Program} {u : Option Nat} {x : Cx} {ops : Array Oper} {fr : Fr} {D : Imm} {hp : Hp} {l : List Oper} {Q : Exit → Act → World → Prop} (h : r → WLF P u x ops fr D hp l Q) : r → WLF P u x ops fr D hp l Q := h
theorem gWCF {P : Program} {u : Option Nat} {x : Cx} {fr : Fr} {D : Imm} {hp : Hp} {c : Code} {Q : Exit → Act → World → Prop} (h : r → WCF P u x fr D hp c Q) : r → WCF P u x fr D hp c Q := h
theorem gWCn {f : FuncId} {P : Program} {x : Cx} {fr : Fr} {D : Imm} {hp : Hp} {c : Code} {Q : Exit → Act → World → Prop} (h : r → WCn f P x fr D hp c Q) : r → WCn f P x fr D hp c Q := h
end
theorem z1 {q p : Prop} (h : q → p := by
  first
  | (apply gWL
     first
     | exact WL.yd zY rfl
     | exact WL.nil
     | exact WL.skip rfl rfl
     | exact WL.ydg rfl zY rfl
     | exact fun k => WL.so (SO.st rfl rfl rfl rfl zHk) rfl (zt k)
     | exact WL.skipU rfl rfl)
  | (apply gWP
     first
     | exact WP.thenC
     | exact WP.blkNormal
     | exact WP.thenCF
     | exact WP.thenRet
     | exact WP.thenPanic
     | exact WP.thenExit
     | exact WP.blkRet
     | exact WP.blkPanic
     | exact WP.blkHit
     | exact WP.blkMiss rfl
     | exact WP.thenCn)
  | (apply gWC
     first
     | exact WC.seq
     | exact WC.region
     | exact WC.block
     | exact WC.skip
     | exact WC.ret
     | exact WC.exit
     | exact WC.condT rfl
     | exact WC.condF rfl)
  | (apply gWQ
     first
     | exact WQ.q rfl (Yd.qt zY) rfl
     | exact WQ.tail
     | exact WQ.skip rfl rfl rfl
     | exact WQ.qg rfl rfl (Yd.qt zY) rfl
     | exact WQ.skipU rfl rfl rfl)
  | (apply gWA
     first
     | exact WA.yd rfl zY rfl
     | exact WA.nil
     | exact WA.skip rfl rfl rfl
     | exact WA.ydg rfl rfl zY rfl
     | exact WA.skipU rfl rfl rfl)
  | (apply gWLF
     first
     | exact WLF.yd (zn rfl) zY rfl
     | exact WLF.nil
     | exact WLF.skip (zn rfl) rfl rfl
     | exact WLF.ydg (zn rfl) rfl zY rfl
     | exact fun k => WLF.so (zn rfl) (SO.st rfl rfl rfl rfl zHk) rfl (zt k))
  | (apply gWCF
     first
     | exact WCF.seq
     | exact WCF.region
     | exact WCF.skip
     | exact WCF.ret
     | exact WCF.exit
     | exact WCF.block)
  | (apply gWCn
     first
     | exact WCn.seq
     | exact WCn.block
     | exact WCn.of)) : q → p := h
theorem g (l : List (List Nat)) {p : Prop} (k : q) (h : q → Wk l p := by
  repeat first
  | exact Wk.done
  | (apply Wk.tl; exact zk; exact zk)
  | (apply Wk.wh; exact zH)
  | (apply Wk.step; exact z1)
  | apply Wk.zero
  | (apply Wk.pkC; exact rfl)
  | (apply Wk.pkF; exact rfl)
  | (apply Wk.pkn; exact rfl)) : p := (h k).go
end steps
theorem zHl {D : Imm} {hp : Hp} {S : List Nat} {w0 : World} : ∀ w, Inv D hp S w0 w → Inv D hp S w0 w := fun _ h => h
end Go.W
