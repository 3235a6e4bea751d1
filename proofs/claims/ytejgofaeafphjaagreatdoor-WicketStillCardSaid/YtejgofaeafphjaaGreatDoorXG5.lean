import Derived.Test.YtejgofaeafphjaaGreatDoorXG3
import Derived.Test.YtejgofaeafphjaaGreatDoorXG4
import Derived.Lib.TrailingZeros
import Derived.Test.YtejgofaeafphjaaGreatDoorXG1
import Derived.Test.YtejgofaeafphjaaGreatDoorXG0
import Derived.ProofKit
import Derived.Deep.Slices
import Derived.Deep.Fields
import Derived.Lib.SmallJoins
set_option linter.all false
set_option maxRecDepth 100000
set_option maxHeartbeats 4000000
namespace Go.W
section
variable {α : Type} [DecidableEq α] {kv : α → Value} {P : Program} {x : Cx} {fr : Fr} {D : Imm} {hp : Hp} {ty : TypeId} {Q : Exit → Act → World → Prop} {t k e : TypeId} {es : Array MapEntry} {clock b j : Nat} {F : α → Option Int}
theorem ko (hinj : ∀ x y, kv x = kv y → x = y) (L : Go.Maps.Keyed P k) (hkey : ∀ y, ∃ l, keyOf P k (kv y) = some l) (hM : MapR kv es clock F) (y : α) (w : World) :
    ((Instr.findKey k (kv y) es.toList).run P w = .ok none w ∧ (∀ e ∈ es.toList, e.key ≠ kv y) ∧ F y = none) ∨ ∃ q e0 v, (Instr.findKey k (kv y) es.toList).run P w = .ok (some (q, it v)) w ∧ es.toList[q]? = some e0 ∧ e0.key = kv y ∧ e0.val = it v ∧ F y = some v := by
  obtain ⟨l, hl⟩ := hkey y;rcases L.find w hl es.toList (fun e he => by obtain ⟨z, _, hz, _⟩ := hM.ent e he; rw [hz]; exact hkey z) with ⟨h1, h2⟩ | ⟨q, e0, h1, h2, h3⟩
  · refine .inl ⟨h1, h2, ?_⟩;cases hF : F y with
    | none => rfl
    | some v => obtain ⟨e, he, hek⟩ := hM.all y v hF; exact absurd hek (h2 e he)
  · obtain ⟨z, v, g1, g2, g3⟩ := hM.ent e0 (List.mem_of_getElem? h2);have : z = y := hinj z y (by rw [← g1, h3]);subst this;exact .inr ⟨q, e0, v, by rw [h1, g2], h2, h3, g2, g3⟩
theorem Yd.lookKOk {m i : Operand} (hinj : ∀ x y, kv x = kv y → x = y) (L : Go.Maps.Keyed P k) (hkey : ∀ y, ∃ l, keyOf P k (kv y) = some l) (hu : P.underlying t = some (.map k e)) (hz : ∀ w, (zeroValue e).run P w = .ok (it 0) w)
    (hm : opv fr m = some (.map (some b))) {y : α} (hi : opv fr i = some (kv y)) (hj : hp[j]? = some (b, .map es clock)) (hM : MapR kv es clock F) : Yd P x fr D hp (.lookup t m i true) ty (.tuple #[it ((F y).getD 0), .bool (F y).isSome]) := fun a w _ _ _ _ hA hI => by
  have hb := hI.own _ _ (mem_of_get? hj);have hobj : (getObj b).run P w = .ok (.map es clock) w := by simp [getObj, Sem.run, hb]
  obtain ⟨l, hl⟩ := hkey y;rcases ko hinj L hkey hM y w with ⟨h1, _, h3⟩ | ⟨q, e0, v, h1, _, _, _, h5⟩
  · have : (Instr.lookup t (.map (some b)) (kv y) true).run P w = .ok (.tuple #[it 0, .bool false]) w := by
      simp [Instr.lookup, run_underlying hu, hobj, L.check w _ hl, h1, hz]
    simp only [execOp, hA.eval hm, hA.eval hi, h3];simp [this]
  · have : (Instr.lookup t (.map (some b)) (kv y) true).run P w = .ok (.tuple #[it v, .bool true]) w := by
      simp [Instr.lookup, run_underlying hu, hobj, L.check w _ hl, h1]
    simp only [execOp, hA.eval hm, hA.eval hi, h5];simp [this]
theorem Yd.lookK {m i : Operand} (hinj : ∀ x y, kv x = kv y → x = y) (L : Go.Maps.Keyed P k) (hkey : ∀ y, ∃ l, keyOf P k (kv y) = some l) (hu : P.underlying t = some (.map k e)) (hz : ∀ w, (zeroValue e).run P w = .ok (it 0) w)
    (hm : opv fr m = some (.map (some b))) {y : α} (hi : opv fr i = some (kv y)) (hj : hp[j]? = some (b, .map es clock)) (hM : MapR kv es clock F) : Yd P x fr D hp (.lookup t m i false) ty (it ((F y).getD 0)) := fun a w _ _ _ _ hA hI => by
  have hb := hI.own _ _ (mem_of_get? hj);have hobj : (getObj b).run P w = .ok (.map es clock) w := by simp [getObj, Sem.run, hb]
  obtain ⟨l, hl⟩ := hkey y;rcases ko hinj L hkey hM y w with ⟨h1, _, h3⟩ | ⟨q, e0, v, h1, _, _, _, h5⟩
  · have : (Instr.lookup t (.map (some b)) (kv y) false).run P w = .ok (it 0) w := by
      simp [Instr.lookup, run_underlying hu, hobj, L.check w _ hl, h1, hz]
    simp only [execOp, hA.eval hm, hA.eval hi, h3];simp [this]
  · have : (Instr.lookup t (.map (some b)) (kv y) false).run P w = .ok (it v) w := by
      simp [Instr.lookup, run_underlying hu, hobj, L.check w _ hl, h1]
    simp only [execOp, hA.eval hm, hA.eval hi, h5];simp [this]
def zdK (kv : α → Value) (D : Imm) (hp : Hp) (j b : Nat) (F : α → Option Int) (y : α) (u : Int) (_ : Value) (D' : Imm) (hp' : Hp) : Prop :=
  D = D' ∧ ∃ es1 clock1, hp' = hp.set j (b, .map es1 clock1) ∧ MapR kv es1 clock1 (putF F y u)
theorem SO.putK {m i o : Operand} {u : Int} (hinj : ∀ x y, kv x = kv y → x = y) (L : Go.Maps.Keyed P k) (hkey : ∀ y, ∃ l, keyOf P k (kv y) = some l) (hu : P.underlying t = some (.map k e))
    (hm : opv fr m = some (.map (some b))) {y : α} (hi : opv fr i = some (kv y)) (ho : opv fr o = some (it u)) (hj : hp[j]? = some (b, .map es clock)) (hM : MapR kv es clock F) : SO P x fr D hp (.mapUpdate t m i o) ty Q (zdK kv D hp j b F y u) := fun a w dst pos af g next hA hn => by
  have hb := hA.i.own _ _ (mem_of_get? hj);have hobj : (getObj b).run P w = .ok (.map es clock) w := by simp [getObj, Sem.run, hb]
  have hset : ∀ o', (setObj b o').run P w = .ok () { w with heap := w.heap.setIfInBounds b o' } := fun o' => by simp [setObj, Sem.run, hb]
  obtain ⟨l, hl⟩ := hkey y;unfold Oper.wp;rcases ko hinj L hkey hM y w with ⟨h1, h2, h3⟩ | ⟨q, e0, v, h1, h2, h3, h4, h5⟩
  · have : (Instr.mapUpdate t (.map (some b)) (kv y) (it u)).run P w = .ok () { w with heap := w.heap.setIfInBounds b (.map (es.push { key := kv y, val := it u, born := clock }) (clock + 1)) } := by
      simp [Instr.mapUpdate, run_underlying hu, hobj, L.check w _ hl, h1, hset]
    simp only [execOp, hA.f.eval hm, hA.f.eval hi, hA.f.eval ho];simp only [this, Sem.run_bind, Result.andThen_ok, Sem.run_pure, Sem.run_map, Oper.upon_value, Oper.upon_skip];exact hn _ _ _ _ ⟨rfl, _, _, rfl, hM.push hinj h2 u⟩ (hA.i.set hj _)
  · have hq : es[q]? = some e0 := by simpa using h2
    have hmod : es.modify q (fun e => { e with key := kv y, val := it u }) = es.modify q (fun e => { e with val := it u }) := by
      apply Array.ext';rw [Array.toList_modify, Array.toList_modify];apply List.ext_getElem?;intro r;rw [List.getElem?_modify, List.getElem?_modify];by_cases hr : q = r
      · subst hr; rw [h2]; simp [← h3]
      · simp [hr]
    have : (Instr.mapUpdate t (.map (some b)) (kv y) (it u)).run P w = .ok () { w with heap := w.heap.setIfInBounds b (.map (es.modify q fun e => { e with val := it u }) clock) } := by
      simp [Instr.mapUpdate, run_underlying hu, hobj, L.check w _ hl, h1, hq, h3, L.stays w hl, hset, hmod]
    simp only [execOp, hA.f.eval hm, hA.f.eval hi, hA.f.eval ho];simp only [this, Sem.run_bind, Result.andThen_ok, Sem.run_pure, Sem.run_map, Oper.upon_value, Oper.upon_skip];exact hn _ _ _ _ ⟨rfl, es.modify q (fun e => { e with val := it u }), clock, rfl, hM.write hinj h2 h3 u _ (fun e => ⟨rfl, rfl, rfl⟩)⟩ (hA.i.set hj _)
end
end Go.W
namespace Go.W
section
variable {P : Program} {x : Cx} {fr : Fr} {D : Imm} {hp : Hp} {ty : TypeId}
theorem zln (n : Nat) (h : n < 2 ^ 63) : IntKind.u64.wrap (n : Int) = (n : Int) := by
  have : IntKind.u64.wrap (n : Int) = (n : Int) % 2 ^ 64 := by simp [IntKind.wrap, IntKind.bits, IntKind.signed]
  rw [this]; omega
theorem zaU {a b : Nat} (ha : a < 2 ^ 63) (hb : b < 2 ^ 63) : (BitVec.ofInt 64 (a : Int) ||| BitVec.ofInt 64 (b : Int)).toNat = a ||| b := by
  rw [BitVec.toNat_or, BitVec.ofInt_natCast, BitVec.ofInt_natCast, BitVec.toNat_ofNat, BitVec.toNat_ofNat, Nat.mod_eq_of_lt (by omega), Nat.mod_eq_of_lt (by omega)]
theorem Yd.orU {t t' : TypeId} {o p : Operand} {a b : Nat} (ha : a < 2 ^ 63) (hb : b < 2 ^ 63) (ho : opv fr o = some (ut a)) (hp' : opv fr p = some (ut b)) : Yd P x fr D hp (.binOp .or t o p t') ty (ut (a ||| b)) :=
  .bin ho hp' fun w => by
    have : (Op.intBits .or .u64 (a : Int) (b : Int)).run P w = .ok (.int .u64 (IntKind.u64.wrap ((BitVec.ofInt 64 (a : Int) ||| BitVec.ofInt 64 (b : Int)).toNat))) w := rfl;rw [zaU ha hb, zln _ (Nat.or_lt_two_pow ha hb)] at this;simp [Go.binOp, this]
end
end Go.W
namespace Go.W
section
variable {P : Program} {x : Cx} {fr : Fr} {D : Imm} {hp : Hp} {ty : TypeId}
theorem Yd.fieldAddrZ {s e : TypeId} {fs : Array Field} {fd : Field} {f b c : Nat} {p : Operand} {cs : List Value} {fz : Nat × Nat} (k : Nat) (hu : P.underlying s = some (.struct fs)) (hf : fs[f]? = some fd) (hz : ∀ w, (sizeOf fd.type).run P w = .ok 0 w) (ho : fd.offset = 0) (hbo : fd.byteOffset = 0) (he : P.cellsOf e = c + 1) (hbc : byteOfCell P P.depth e 0 = some 0)
    (hk : hp[k]? = some (b, .cells cs.toArray e fz)) (hp' : opv fr p = some (.pointer (some ⟨b, 0, none⟩))) : Yd P x fr D hp (.fieldAddr s p f) ty (.pointer (some ⟨b, 0, none⟩)) := fun a w _ _ _ _ hA hI => by
  have hb := hI.own _ _ (mem_of_get? hk);have hsh : w.shape? b = some (e, cs.length) := by simp [World.shape?, hb]
  have h1 : (Instr.fieldAt s (.pointer (some ⟨b, 0, none⟩)) f).run P w = .ok (.pointer (some ⟨b, 0, none⟩)) w := by
    unfold Instr.fieldAt;simp [run_underlying hu, hf, Instr.sureAddr, fieldPlace, hz, ho, hbo, partAt, byteOf, noView, viewAt, hsh, he, hbc]
  simp only [execOp, hA.eval hp'];simp [h1]
end
end Go.W
namespace Go.W
section
variable {P : Program} {x : Cx} {fr : Fr} {D : Imm} {hp : Hp} {ty : TypeId}
theorem Yd.nilCheckM {o : Operand} {name : String} {t : TypeId} {v : Value} {cap : Array Value} (ho : opv fr o = some (.func (.method name) #[.iface t v] cap)) (hn : ∀ w, (nilAhead (P.types.size + Made.depth) t v name).run P w = .ok (some false) w) :
    Yd P x fr D hp (.nilCheck o) ty (.func (.method name) #[.iface t v] cap) := fun a w _ _ _ _ hA _ => by
  simp only [execOp, hA.eval ho];have hp : program.run P w = .ok P w := rfl;simp [hn, hp]
end
end Go.W
namespace Go.W
section
variable {P : Program} {x : Cx} {fr : Fr} {D : Imm} {hp : Hp} {ty : TypeId} {Q : Exit → Act → World → Prop}
def numA : Nat → List (List Value) → List (Nat × Value)
  | _, [] => []
  | k, r :: l => (k, .agg r.toArray) :: numA (k + 1) l
theorem Zc : ∀ (row old pre post : List Value) (off j : Nat), row.length = old.length → pre.length = off + j →
    (row.zipIdx j).foldl (fun (cs : Array Value) (x : Value × Nat) => cs.setIfInBounds (off + x.2) x.1) (pre ++ (old ++ post)).toArray = (pre ++ (row ++ post)).toArray
  | [], [], pre, post, off, j, _, _ => by simp
  | [], _ :: _, _, _, _, _, h, _ => by simp at h
  | _ :: _, [], _, _, _, _, h, _ => by simp at h
  | v :: row, o :: old, pre, post, off, j, h, hp => by
    have ih := Zc row old (pre ++ [v]) post off (j + 1) (by simpa using h) (by rw [List.length_append, List.length_singleton]; omega);rw [List.zipIdx_cons, List.foldl_cons]
    have e : (pre ++ (o :: old ++ post)).toArray.setIfInBounds (off + j) v = (pre ++ [v] ++ (old ++ post)).toArray := by
      rw [← hp]; simp
    show List.foldl _ ((pre ++ (o :: old ++ post)).toArray.setIfInBounds (off + j) v) _ = _;rw [e, ih]; simp
theorem Zv (size : Nat) : ∀ (rows : List (List Value)) (k : Nat) (pre post : List Value), (∀ r ∈ rows, r.length = size) → pre.length = k * size → post.length = rows.length * size →
    Instr.fill (fun i => some (i * size, size)) (pre ++ post).toArray (numA k rows) = some (pre ++ rows.flatten).toArray
  | [], k, pre, post, _, _, h => by
    have : post = [] := List.length_eq_zero_iff.1 (by simpa using h);subst this; simp [numA, Instr.fill]
  | r :: rows, k, pre, post, hr, hpre, hpost => by
    have h1 : r.length = size := hr r List.mem_cons_self;have hl : post.length = size + rows.length * size := by rw [hpost, List.length_cons, Nat.succ_mul]; omega
    have ih := Zv size rows (k + 1) (pre ++ r) (post.drop size) (fun q hq => hr q (List.mem_cons_of_mem _ hq)) (by rw [List.length_append, h1, hpre, Nat.succ_mul]) (by rw [List.length_drop, hl]; omega);have e := Zc r (post.take size) pre (post.drop size) pre.length 0 (by rw [List.length_take, h1]; omega) (by omega);rw [List.take_append_drop] at e;rw [numA, Instr.fill];have hc : (Value.agg r.toArray).cells = r.toArray := rfl;have h3 : ¬ pre.length + r.length > (pre ++ post).length := by rw [List.length_append]; omega
    simp only [hc, ← hpre];rw [if_neg (by simpa [h1] using h3)]
    have e2 : (Array.foldl (fun (cs : Array Value) (x : Value × Nat) => cs.setIfInBounds (pre.length + x.2) x.1) (pre ++ post).toArray r.toArray.zipIdx) = (pre ++ (r ++ post.drop size)).toArray := by
      rw [← e]; simp
    show Instr.fill _ (Array.foldl (fun (cs : Array Value) (x : Value × Nat) => cs.setIfInBounds (pre.length + x.2) x.1) (pre ++ post).toArray r.toArray.zipIdx) _ = _;rw [e2, ← List.append_assoc, ih]; simp
theorem SO.buildRows {t e : TypeId} {size len : Nat} {z : Value} {zs : List Value} {rows : List (List Value)} {ps : List (Nat × Operand)}
    (hu : P.underlying t = some (.slice e)) (hz : ∀ w, (sizeOf e).run P w = .ok size w) (hzero : ∀ w, (zeroValue e).run P w = .ok z w) (hzs : z.cells = zs.toArray) (hl0 : Nat.beq (len * size) 0 = false) (hl : Nat.ble (len * size) (2 ^ 24) = true)
    (hp' : opps fr ps = some (numA 0 rows)) (hr : ∀ r ∈ rows, r.length = size) (hn : Nat.beq rows.length len = true) :
    SO P x fr D hp (.buildSlice t len ps.toArray) ty Q (NewS x D hp rows.flatten e len) :=
  SO.buildSlice hu hz hzero hzs hl0 hl hp' (by
    have := Zv size rows 0 [] (xI zs (len * size)) hr (by simp) (by rw [yz, Nat.eq_of_beq_eq_true hn]);simpa using this)
theorem Yd.mulW {t t' : TypeId} {o p : Operand} {k : IntKind} {i j : Int} (ho : opv fr o = some (.int k i)) (hp' : opv fr p = some (.int k j)) : Yd P x fr D hp (.binOp .mul t o p t') ty (.int k (k.wrap (i * j))) := .bin ho hp' fun w => by
  simp [Go.binOp, Op.intArith]
theorem Inv.perm2 {hp' : Hp} {S : List Nat} {w0 w : World} (h : Inv D hp S w0 w) (hs : hp.Perm hp') : Inv D hp' S w0 w :=
  h.sub (fun e he => hs.mem_iff.2 he) ((hs.map Prod.fst).nodup_iff.1 h.nodup)
theorem zcM {a b : Hp} (h : a.Perm b) : (∀ e, e ∈ b → e ∈ a) ∧ ((keys a).Nodup → (keys b).Nodup) := ⟨fun _ he => h.mem_iff.2 he, fun hn => (h.map Prod.fst).nodup_iff.1 hn⟩
theorem v6 {a : Act} {w : World} {fr' : Fr} {hp' : Hp} (hA : At x fr D hp a w) (hf : subB fr' fr) (hs : hp.Perm hp') : At x fr' D hp' a w :=
  ⟨hA.f.weaken (x8 hf), hA.i.perm2 hs⟩
theorem zL {a : Act} {w : World} {fr' : Fr} {hp' : Hp} (k : Nat) (hA : At x fr D hp a w) (hf : subB fr' fr) (hs : (hp.drop k).Perm hp') : At x fr' D hp' a w :=
  ⟨hA.f.weaken (x8 hf), (hA.i.drop k).perm2 hs⟩
theorem yM {a : Act} {w : World} {fr' : Fr} {hp' : Hp} {D1 : Imm} (k : Nat) (hA : At x fr D hp a w) (hf : subB fr' fr) (hs : (hp.drop k).Perm hp') (hD : ∀ b o, D1 b = some o → D b = some o) : At x fr' D1 hp' a w :=
  ⟨hA.f.weaken (x8 hf), ((hA.i.drop k).perm2 hs).shrink hD⟩
end
end Go.W
namespace Go.W
section
variable {P : Program} {x : Cx} {fr : Fr} {D : Imm} {hp : Hp} {Q : Exit → Act → World → Prop} {ops : Array Oper} {plan : List (Nat × Bool)}
def zO (ops : Array Oper) (plan : List (Nat × Bool)) (Q : Exit → Act → World → Prop) : Prop := ∀ (i : Nat) (o : Oper) v c a w, (i, true) ∈ plan → ops[i]? = some o → Q (.panic c) (Act.put a o.dst v) w → Q (.panic c) a w
theorem zO.then {K : Act → World → Prop} (h : zO ops plan Q) : zO ops plan (Exit.then K Q) := fun i o v c a w hm ho hq => h i o v c a w hm ho hq
theorem zO.blk {id : Nat} (h : zO ops plan Q) : zO ops plan (Exit.inBlock id Q) := fun i o v c a w hm ho hq => h i o v c a w hm ho hq
theorem zO.sc (h : zO ops plan Q) : zO ops plan (Exit.noGoto Q) := fun i o v c a w hm ho hq => h i o v c a w hm ho hq
def zaN (ops : Array Oper) (plan : List (Nat × Bool)) (fn : Func) : Bool :=
  plan.all fun y => !y.2 || (match ops[y.1]? with | some o => (match o.dst with | some d => !(xr fn).contains d | none => true) | none => true)
theorem XL {fn : Func} (h : zaN ops plan fn = true) {i : Nat} {o : Oper} (hm : (i, true) ∈ plan) (ho : ops[i]? = some o) {d : Nat} (hd : o.dst = some d) : d ∉ xr fn := by
  have h1 := List.all_eq_true.1 h _ hm;simp only [Bool.not_true, Bool.false_or, ho, hd] at h1;simpa using h1
theorem zO.bodyD {fn : Func} {R : Ending → World → Prop} (h : zaN ops plan fn = true) : zO ops plan (bodyPostD P fn R) := fun i o v c a w hm ho hq => by
  cases hd : o.dst with
  | none => rw [hd] at hq; exact hq
  | some d => rw [hd] at hq; exact uF (XL h hm ho hd) _ _ _ hq
theorem zO.bodyM {fn : Func} {R : Ending → World → Prop} (h : zaN ops plan fn = true) : zO ops plan (bodyPostM Fence.wide 0 P fn R) := fun i o v c a w hm ho hq => by
  cases hd : o.dst with
  | none => rw [hd] at hq; exact hq
  | some d => rw [hd] at hq; exact vQ (XL h hm ho hd) _ _ _ hq
theorem jq {S : World → Prop} (hs : Region.noSelect ops = true) :
    ∀ (plan : List (Nat × Bool)) (listed : Array Bool) (a : Act) (w : World), zO ops plan Q → ui .any ops plan listed = true → S w → jr P ops Q S plan a w → wpAnyH P .any ops Q S plan.length listed a w := by
  intro plan
  induction plan with
  | nil => intro listed a w _ hB _ h; exact ⟨by simpa [ui] using hB, h⟩
  | cons e r ih =>
    obtain ⟨i, y⟩ := e;intro listed a w hQ hB hS h;have hQ' : zO ops r Q := fun i o v c a w hm ho hq => hQ i o v c a w (List.mem_cons_of_mem _ hm) ho hq;cases y with
    | true =>
      simp only [ui, Bool.and_eq_true] at hB;obtain ⟨⟨hr, hf⟩, hB'⟩ := hB;obtain ⟨o, v, ho, hy, hw⟩ := h;exact wpAnyH_take ho hs hf hr (fun c a w => hQ i o v c a w List.mem_cons_self ho) hy hS (ih _ _ _ hQ' hB' hS hw)
    | false =>
      simp only [ui, Bool.and_eq_true, decide_eq_true_eq] at hB;obtain ⟨hr, hB'⟩ := hB;obtain ⟨o, ho, hw⟩ := h;refine wpAnyH_all hr (by simp) fun j hj => ?_;have : j = i := by simpa using hj
      subst this;unfold wpOp;simp only [ho];split
      · rename_i hwant
        rw [if_pos hwant] at hw;exact .inl (Oper.wp_mono (fun a' w' h' => ⟨h'.1, ih _ _ _ hQ' hB' h'.1 h'.2⟩) hw)
      · rename_i hwant
        rw [if_neg hwant] at hw;exact ⟨hS, ih _ _ _ hQ' hB' hS hw⟩
theorem WC.drawP {id : Nat} {l : List Oper} (hp0 : Hp) (plan : List (Nat × Bool)) (hm : P.follows .mixedOrders = true)
    (hB : (Region.noSelect l.toArray && decide (plan.length = l.toArray.size) && ui .any l.toArray plan (Array.replicate l.toArray.size false)) = true) (hQ : zO l.toArray plan Q)
    (h0 : ∀ w, Inv D hp x.S x.w0 w → Inv D hp0 x.S x.w0 w)
    (h : WA P x l.toArray D hp0 plan fr D hp Q) : WC P x fr D hp (.region id l.toArray true) Q := fun a w hA => by
  simp only [Bool.and_eq_true, decide_eq_true_eq] at hB;refine wp_region_held (S := Inv D hp0 x.S x.w0) hm ?_;rw [← hB.1.2];have := jq (P := P) hB.1.1 plan (Array.replicate l.toArray.size false) a { w with drawn := w.drawn + 1 } hQ hB.2 (h0 _ (hA.i.drew _)) (h _ _ ⟨hA.f, hA.i.drew _⟩)
  rwa [← hB.1.2] at this
end
end Go.W
namespace Go.W
section
variable {P : Program} {x : Cx} {fr : Fr} {D : Imm} {hp : Hp} {Q : Exit → Act → World → Prop}
theorem WCF.loopHd {r : Option Nat} {α : Type} {c : Code} {b : Nat} (tl : Hp) (F : α → Fr) (O : α → Obj) (φ : α → Prop) (m : α → Nat) (x0 : α) (h0 : φ x0) (hhp : hp = (b, O x0) :: tl) (hstart : subB (F x0) fr)
    (hround : ∀ y, φ y → WCF P r x (F y) D ((b, O y) :: tl) c (Exit.then (fun a w => ∃ z, φ z ∧ m z < m y ∧ At x (F z) D ((b, O z) :: tl) a w) Q)) : WCF P r x fr D hp (.loop c) Q := by
  subst hhp;exact WCF.loop F (fun y => (b, O y) :: tl) (fun _ => D) φ m x0 h0 (fun _ _ h => y4 h hstart) hround
theorem WC.loopHd {α : Type} {c : Code} {b : Nat} (tl : Hp) (F : α → Fr) (O : α → Obj) (φ : α → Prop) (m : α → Nat) (x0 : α) (h0 : φ x0) (hhp : hp = (b, O x0) :: tl) (hstart : subB (F x0) fr)
    (hround : ∀ y, φ y → WC P x (F y) D ((b, O y) :: tl) c (Exit.then (fun a w => ∃ z, φ z ∧ m z < m y ∧ At x (F z) D ((b, O z) :: tl) a w) Q)) : WC P x fr D hp (.loop c) Q := by
  subst hhp;exact WC.loop F (fun y => (b, O y) :: tl) (fun _ => D) φ m x0 h0 (fun _ _ h => y4 h hstart) hround
theorem WP.againHd {α : Type} {F : α → Fr} {b : Nat} {tl : Hp} {O : α → Obj} {φ : α → Prop} {m : α → Nat} {k : Nat} (z : α) (hz : φ z) (hm : m z < k) (j : Nat) {o : Obj} (hj : hp.drop j = (b, o) :: tl) (ho : o = O z) (hf : subB (F z) fr) :
    WP x fr D hp .normal (Exit.then (fun a w => ∃ z, φ z ∧ m z < k ∧ At x (F z) D ((b, O z) :: tl) a w) Q) := fun a w h =>
  ⟨z, hz, hm, h.f.weaken (x8 hf), by subst ho; have := h.i.drop j; rwa [hj] at this⟩
theorem WCF.hpEq {r : Option Nat} {c : Code} {hp' : Hp} (h : hp = hp') (hw : WCF P r x fr D hp' c Q) : WCF P r x fr D hp c Q := by subst h; exact hw
end
end Go.W
namespace Go.W
section
variable {P : Program} {x : Cx} {fr : Fr} {D : Imm} {hp : Hp} {Q : Exit → Act → World → Prop}
def Ke (P : Program) (f : FuncId) (vals : List Value) (v : Value) (b : Nat) (o' : Obj) (w : World) : Prop :=
  CallsDIn Fence.wide 0 P f vals.toArray (.panicking [{ v, recovered := false }]) w fun e u' w' => (∃ v, e = .returned v) ∧ u' = .panicking [{ v, recovered := true }] ∧ Keep [b] w w' ∧ w'.heap[b]? = some o'
theorem WP.panicMsD {fn : Func} {R : Ending → World → Prop} {f : FuncId} {cap : List Value} {v : Value} {k b : Nat} {o o' : Obj} (bs : List Nat) (hp0 : Hp) (rs : List ResultVar) (vs : List Value) (hd : x.ds = bs.map y1 ++ [{ target := .fn (.func f) cap.toArray, args := #[] }]) (hc : ∀ args w, (callFunc f args).run P w = .ok (.enter f args) w)
    (hk : hp0[k]? = some (b, o)) (hi : ∀ w, Inv D hp0 x.S x.w0 w → Ke P f cap v b o' w) (hs : ∀ e, e ∈ bs.map dblk ++ hp0 → e ∈ hp) (hn : (keys hp).Nodup → (keys (bs.map dblk ++ hp0)).Nodup)
    (hr : fn.results = rs.toArray) (h : RVs P x fr D (hp0.set k (b, o')) rs vs) (hR : ∀ w, Inv D (hp0.set k (b, o')) x.S x.w0 w → R (.returned (retV vs)) w) : WP x fr D hp (.panic [{ v, recovered := false }]) (bodyPostM Fence.wide 0 P fn R) := fun a w hA => by
  show LeavesInM Fence.wide 0 P fn a.tmps R a.defers (.panicking [{ v, recovered := false }]) w;rw [hA.f.defers, hd];refine u9 (P := P) (fn := fn) (tmps := a.tmps) (R := R) (hp0 := hp0) (fun w' hI => ?_) bs w (hA.i.sub hs (hn hA.i.nodup));refine ⟨by simp, .inr ⟨fun h => (by cases h), .func f, cap.toArray, f, cap.toArray, rfl, by simp [invoke, hc], fun _ _ => trivial, ?_⟩⟩;have h1 := hi w' hI;refine ⟨h1.1, fun c cs hc' hroom => ?_⟩;obtain ⟨e', u', w2, fr', ⟨⟨v', rfl⟩, rfl, hkp, hb⟩, rest⟩ := h1.2 c cs hc' hroom;refine ⟨.returned v', .panicking [{ v, recovered := true }], w2, fr', ?_, rest⟩;have hI2 := hI.mut hk hkp hb;exact ⟨_, xh hr hA.f hI2 h, hR w2 hI2⟩
theorem WLF.freezeN {r : Option Nat} {ops : Array Oper} {l : List Oper} {w0 : World} (k b : Nat) (o : Obj) (hw : x.w0 = w0) (hk : hp[k]? = some (b, o)) (hb : w0.heap.size ≤ b) (h : ∀ D', DExt w0 D D' → D' b = some o → WLF P r x ops fr D' (hp.eraseIdx k) l Q) : WLF P r x ops fr D hp l Q := by
  subst hw;exact WLF.freezeK k hk fun hn => h _ ((DExt.refl _ D).add hn hb) (Imm.add_self _ _ _)
theorem WCF.freezeN {r : Option Nat} {c : Code} {w0 : World} (k b : Nat) (o : Obj) (hw : x.w0 = w0) (hk : hp[k]? = some (b, o)) (hb : w0.heap.size ≤ b) (h : ∀ D', DExt w0 D D' → D' b = some o → WCF P r x fr D' (hp.eraseIdx k) c Q) : WCF P r x fr D hp c Q := by
  subst hw;exact WCF.freezeK k hk fun hn => h _ ((DExt.refl _ D).add hn hb) (Imm.add_self _ _ _)
end
end Go.W
namespace Go.W
section
variable {P : Program} {x : Cx} {fr : Fr} {D : Imm} {hp : Hp} {ty : TypeId} {Q : Exit → Act → World → Prop}
abbrev Vi := List (Nat × Value × List Value)
def YP (pl : List (Nat × Nat)) (n : Nat) : Vi → Prop
  | [] => True
  | (i, v, row) :: r => v.cells = row.toArray ∧ (∃ off, pl[i]? = some (off, row.length) ∧ off + row.length ≤ n) ∧ YP pl n r
def J1 (pl : List (Nat × Nat)) : List Value → Vi → List Value
  | cs, [] => cs
  | cs, (i, _, row) :: r => J1 pl (splice cs (pl.getD i (0, 0)).1 row) r
def zaY (l : Vi) : List (Nat × Value) := l.map fun y => (y.1, y.2.1)
theorem kW {cs vs : List Value} {off : Nat} (h : off + vs.length ≤ cs.length) : (splice cs off vs).length = cs.length := by
  simp only [splice, List.length_append, List.length_take, List.length_drop]; omega
theorem jG (pl : List (Nat × Nat)) : ∀ (l : Vi) (cs : List Value), YP pl cs.length l → Instr.fill (fun i => pl.toArray[i]?) cs.toArray (zaY l) = some (J1 pl cs l).toArray
  | [], cs, _ => rfl
  | (i, v, row) :: r, cs, h => by
    obtain ⟨hc, ⟨off, ho, hl⟩, hr⟩ := h;have ho' : pl.toArray[i]? = some (off, row.length) := by simpa using ho
    have hg : pl.getD i (0, 0) = (off, row.length) := by simp [List.getD, ho]
    show Instr.fill (fun i => pl.toArray[i]?) cs.toArray ((i, v) :: zaY r) = _;rw [Instr.fill];simp only [ho', hc];have hn : ¬ off + row.length > cs.length := by omega
    rw [if_neg (by simpa using hn)];have e := Zc row ((cs.drop off).take row.length) (cs.take off) (cs.drop (off + row.length)) off 0 (by rw [List.length_take, List.length_drop]; omega) (by rw [List.length_take]; omega)
    have e3 : cs.take off ++ ((cs.drop off).take row.length ++ cs.drop (off + row.length)) = cs := by
      rw [← List.drop_drop, List.take_append_drop, List.take_append_drop]
    rw [e3] at e
    have e2 : (Array.foldl (fun (cs : Array Value) (x : Value × Nat) => cs.setIfInBounds (off + x.2) x.1) cs.toArray row.toArray.zipIdx) = (splice cs off row).toArray := by
      unfold splice;rw [List.append_assoc, ← e]; simp
    show Instr.fill _ (Array.foldl (fun (cs : Array Value) (x : Value × Nat) => cs.setIfInBounds (off + x.2) x.1) cs.toArray row.toArray.zipIdx) _ = _;rw [e2, jG pl r (splice cs off row) (by rw [kW hl]; exact hr), J1, hg]
theorem Yd.buildL {t : TypeId} {zs : List Value} {pl : List (Nat × Nat)} (hS : zj P t zs pl) {ps : List (Nat × Operand)} (l : Vi) (cs : List Value) (hp' : opps fr ps = some (zaY l)) (hok : YP pl zs.length l) (hcs : J1 pl zs l = cs) :
    Yd P x fr D hp (.build t ps.toArray) ty (.agg cs.toArray) := by
  subst hcs;exact Yd.build hS hp' (jG pl l zs hok)
end
end Go.W
namespace Go.W
section
variable {P : Program} {x : Cx} {fr : Fr} {D : Imm} {hp : Hp} {ty : TypeId} {Q : Exit → Act → World → Prop}
theorem Kn {t e : TypeId} {p : Option Addr} (hu : P.underlying t = some (.pointer e)) (w : World) : (Op.equalIn 10000 t (.pointer p) (.pointer none)).run P w = .ok p.isNone w := by
  have h1 : ∀ d, (Op.equalIn (d + 1) t (.pointer p) (.pointer none)).run P w = .ok p.isNone w := fun d => by
    cases p with
    | none => simp only [Op.equalIn, Sem.run_bind, run_underlying hu, Result.andThen_ok]; rfl
    | some a => simp only [Op.equalIn, Sem.run_bind, run_underlying hu, Result.andThen_ok]; rfl
  exact h1 9999
theorem Yd.eqP {t t' e : TypeId} {o : Operand} {p : Option Addr} (hu : P.underlying t = some (.pointer e)) (ho : opv fr o = some (.pointer p)) :
    Yd P x fr D hp (.binOp .eql t o (.const (.pointer none)) t') ty (.bool p.isNone) := fun a w _ _ _ _ hA _ => by
  have h3 : (Go.binOp .eql t (.pointer p) (.pointer none)).run P w = .ok (.bool p.isNone) w := by
    show Sem.run P (do let b ← Op.equalIn 10000 t (.pointer p) (.pointer none); pure (Value.bool b)) w = _;rw [Sem.run_bind, Kn hu]; rfl
  have h5 : a.eval (.const (.pointer none)) = .pointer none := rfl;simp only [execOp, hA.eval ho, h5];have h4 : (eqGuard .eql t o (.const (.pointer none)) (.pointer p) (.pointer none)).run P w = .ok () w := by cases p <;> rfl
  simp [h4, h3]
theorem Yd.neP {t t' e : TypeId} {o : Operand} {p : Option Addr} (hu : P.underlying t = some (.pointer e)) (ho : opv fr o = some (.pointer p)) :
    Yd P x fr D hp (.binOp .neq t o (.const (.pointer none)) t') ty (.bool !p.isNone) := fun a w _ _ _ _ hA _ => by
  have h3 : (Go.binOp .neq t (.pointer p) (.pointer none)).run P w = .ok (.bool !p.isNone) w := by
    show Sem.run P (do let b ← Op.equalIn 10000 t (.pointer p) (.pointer none); pure (Value.bool !b)) w = _;rw [Sem.run_bind, Kn hu]; rfl
  have h5 : a.eval (.const (.pointer none)) = .pointer none := rfl;simp only [execOp, hA.eval ho, h5];have h4 : (eqGuard .neq t o (.const (.pointer none)) (.pointer p) (.pointer none)).run P w = .ok () w := by cases p <;> rfl
  simp [h4, h3]
theorem Holds.add {w : World} {b : Nat} {o : Obj} (h : Holds D w) (hb : w.heap[b]? = some o) : Holds (D.add b o) w := fun b' o' hb' => by
  unfold Imm.add at hb';split at hb'
  · rename_i e; cases hb'; rw [e]; exact hb
  · exact h b' o' hb'
theorem xD {b : Nat} {o : Obj} (hn : D b = none) : ∀ b' o', D b' = some o' → (D.add b o) b' = some o' := fun b' o' h => by
  unfold Imm.add;split
  · rename_i e; rw [e, hn] at h; cases h
  · exact h
end
end Go.W
namespace Go.W
section
variable {P : Program} {x : Cx} {fr : Fr} {D : Imm} {hp : Hp} {ty : TypeId} {Q : Exit → Act → World → Prop}
theorem Inv.thawS {S : List Nat} {w0 w : World} {b : Nat} {o : Obj} (h : Inv D hp S w0 w) (hb : D b = some o) (hn : b ∈ S ∨ w0.heap.size ≤ b) : Inv (D.minus b) ((b, o) :: hp) S w0 w := by
  refine ⟨fun k o' hk => ?_, fun k o' hk => ?_, ?_, fun k o' hk => ?_, h.keep, fun k o' hk => ?_⟩
  · unfold Imm.minus at hk;split at hk
    · cases hk
    · exact h.imm k o' hk
  · rcases List.mem_cons.1 hk with e | e
    · cases e; exact h.imm _ _ hb
    · exact h.own k o' e
  · rw [List.map_cons, List.nodup_cons];refine ⟨fun hm => ?_, h.nodup⟩;obtain ⟨e, he, heq⟩ := List.mem_map.1 hm;have := h.apart e.1 e.2 he;rw [show e.1 = b from heq, hb] at this; cases this
  · unfold Imm.minus;split
    · rfl
    · rename_i hne
      rcases List.mem_cons.1 hk with e | e
      · cases e; exact absurd rfl hne
      · exact h.apart k o' e
  · rcases List.mem_cons.1 hk with e | e
    · cases e; exact hn
    · exact h.may k o' e
theorem WC.thawS {c : Code} {b : Nat} {o : Obj} (hb : D b = some o) (hn : b ∈ x.S ∨ x.w0.heap.size ≤ b) (h : WC P x fr (D.minus b) ((b, o) :: hp) c Q) : WC P x fr D hp c Q :=
  fun a w hA => h a w ⟨hA.f, hA.i.thawS hb hn⟩
theorem DExt.lent {w : World} {D D2 : Imm} {b : Nat} {o : Obj} (hn : D b = none) (h : DExt w (D.add b o) D2) : DExt w D (D2.minus b) := by
  refine ⟨fun k o' hk => ?_, fun k hk hd => ?_⟩
  · unfold Imm.minus;split
    · rename_i e; rw [e, hn] at hk; cases hk
    · exact h.old k o' (xD hn k o' hk)
  · unfold Imm.minus;split
    · rfl
    · rename_i hne
      refine h.new k hk ?_;unfold Imm.add; rw [if_neg hne]; exact hd
theorem zcB {S : List Nat} {w0 w : World} {b : Nat} {o : Obj} (h : Inv D [(b, o)] S w0 w) : D b = none ∧ Inv (D.add b o) [] S w0 w := h.freezeK 0 rfl
theorem WLF.yieldPg {r : Option Nat} {ty : TypeId} {ops : Array Oper} {rest : List Oper} {dst : Option Tmp} {pos : String} {af : Array Edge} {l : Nat} {o : Operand} {A : List Operand} {ts : Array TypeId} {vals : List Value} {j : Nat} {b : Bool} {K : Imm → Hp → Prop} {C : List PanicEntry → Imm → Hp → Prop} (own hpc : Hp) (hhp : ∀ e, e ∈ own ++ hpc → e ∈ hp) (hnd : (keys hp).Nodup → (keys (own ++ hpc)).Nodup)
    (hg : gval ops fr j = some (.bool b)) (ho : opv fr o = some (.func (.yield l) #[] #[])) (ha : opvs fr A = some vals) (hd : dstB dst x.n = true)
    (hk : ∀ w, x.w0.heap.size ≤ w.heap.size → Inv D hpc (keys hpc) w w → YieldAt Fence.wide 0 P l vals.toArray w (jE w D (keys hpc) K C))
    (h : ∀ D' hpc', K D' hpc' → DExt x.w0 D D' → WLF P r x ops (wj dst (.bool true) fr) D' (own ++ hpc') rest Q)
    (hp' : ∀ ch D' hpc', C ch D' hpc' → DExt x.w0 D D' → WP x fr D' (own ++ hpc') (.panic ch) Q) :
    WLF P r x ops fr D hp (⟨dst, .call ⟨.value o, A.toArray, ts⟩, ty, pos, af, some (j, b)⟩ :: rest) Q := fun a w hA => by
  unfold wpListIn;rw [if_pos (by rw [yy hA.f hg]; simp)];refine ⟨fun _ _ => trivial, ?_⟩;have hI := hA.i.sub hhp (hnd hA.i.nodup);obtain ⟨fn, tmps, assign, body, hy, hR⟩ := hk w hA.i.keep.size (hI.frame (fun _ h => h));have h1 := hA.f.evals A vals ha
  have hrun : (Oper.semAt (Fx r).round a.eval ⟨dst, .call ⟨.value o, A.toArray, ts⟩, ty, pos, af, some (j, b)⟩).run P w = .ok (.round l fn tmps assign body) w := by
    have : Oper.semAt (Fx r).round a.eval ⟨dst, .call ⟨.value o, A.toArray, ts⟩, ty, pos, af, some (j, b)⟩ = execOp a.eval ⟨dst, .call ⟨.value o, A.toArray, ts⟩, ty, pos, af, some (j, b)⟩ := by
      cases r <;> rfl
    rw [this];simp only [execOp];simp [resolve, hA.f.eval ho, Deferred.ofValue, invoke, h1, hy]
  rw [hrun, Oper.uponIn_round];have hR' : RoundIn (Fx r) 0 P l fn tmps assign body w (jE w D (keys hpc) K C) := hR;refine ⟨fun e => (by cases e), RoundIn.mono hR' fun e w' ⟨D', hpc', hD, hI', hK⟩ => ?_⟩;have hX : DExt x.w0 D D' := ⟨hD.old, fun b hb => hD.new b (Nat.lt_of_lt_of_le hb hA.i.keep.size)⟩
  have hIu : Inv D' (own ++ hpc') x.S x.w0 w' := hI.unframeN (fun _ h => h) (fun b hb => by
    obtain ⟨o, ho⟩ := yQ hb;exact hI'.may b o ho) hD hI'
  rcases hK with ⟨rfl, hs⟩ | ⟨ch, rfl, hs⟩
  · exact h D' hpc' hs hX _ _ ⟨hA.f.putO hd _, hIu⟩
  · exact hp' ch D' hpc' hs hX _ _ ⟨hA.f, hIu⟩
end
end Go.W
namespace Go.W
section
variable {P : Program} {x : Cx} {fr : Fr} {D : Imm} {hp : Hp} {ty : TypeId} {Q : Exit → Act → World → Prop}
theorem WLF.no {r : Option Nat} {ops : Array Oper} {rest : List Oper} {dst : Option Tmp} {op : Op} {pos : String} {af : Array Edge} (hn : ∀ c, op ≠ .defer c) (hs : SO P x fr D hp op ty Q NoK) : WLF P r x ops fr D hp (⟨dst, op, ty, pos, af, none⟩ :: rest) Q := fun a w hA => by
  unfold wpListIn;rw [if_pos (show Region.wanted ⟨dst, op, ty, pos, af, none⟩ (yielded ops a.tmps) = true from rfl)];exact X5 hn (hs a w _ _ _ _ _ hA fun _ _ _ _ hk _ => hk.elim)
end
end Go.W
namespace Go.W
structure AL (es : Array MapEntry) (G : List (List UInt8 × Value)) : Prop where
  ent : es.toList.map (fun e => (e.key, e.val)) = G.map (fun p => (st p.1, p.2))
  len : ∀ p ∈ G, p.1.length ≤ 2 ^ 40
  nod : (G.map (·.1)).Nodup
theorem AL.nil : AL #[] [] := ⟨rfl, fun p hp => (by simp at hp), List.nodup_nil⟩
theorem XD {y : List UInt8} {v : Value} : ∀ {G : List (List UInt8 × Value)}, (G.map (·.1)).Nodup → (y, v) ∈ G → G.lookup y = some v
  | [], _, h => (by simp at h)
  | (z, u) :: G, hn, h => by
    rw [List.map_cons, List.nodup_cons] at hn;rcases List.mem_cons.1 h with h | h
    · cases h; simp [List.lookup]
    · have h2 : y ≠ z := fun e => hn.1 (List.mem_map.2 ⟨(y, v), h, e⟩);rw [List.lookup_cons, show (y == z) = false by simpa using h2];exact XD hn.2 h
theorem Uc {y : List UInt8} : ∀ {G : List (List UInt8 × Value)}, (∀ p ∈ G, p.1 ≠ y) → G.lookup y = none
  | [], _ => rfl
  | (z, u) :: G, h => by
    have h1 : y ≠ z := fun e => h (z, u) (by simp) e.symm;rw [List.lookup_cons, show (y == z) = false by simpa using h1];exact Uc (fun p hp => h p (by simp [hp]))
section
variable {P : Program} {x : Cx} {fr : Fr} {D : Imm} {hp : Hp} {ty : TypeId} {Q : Exit → Act → World → Prop} {t k e : TypeId} {es : Array MapEntry} {clock b j : Nat} {G : List (List UInt8 × Value)}
theorem Xi (L : Go.Maps.Keyed P k) (hk : P.underlying k = some .string) (hA : AL es G) (y : List UInt8) (hy : y.length ≤ 2 ^ 40) (w : World) :
    ((Instr.findKey k (st y) es.toList).run P w = .ok none w ∧ G.lookup y = none) ∨ ∃ q v, (Instr.findKey k (st y) es.toList).run P w = .ok (some (q, v)) w ∧ G.lookup y = some v := by
  obtain ⟨l, hl⟩ := kw hk ⟨y, hy⟩
  rcases L.find w hl es.toList (fun e he => by
      have h1 : (e.key, e.val) ∈ es.toList.map (fun e => (e.key, e.val)) := List.mem_map_of_mem he;rw [hA.ent] at h1;obtain ⟨p, hp, hq⟩ := List.mem_map.1 h1;rw [← (Prod.mk.inj hq).1];exact kw hk ⟨p.1, hA.len p hp⟩) with ⟨h1, h2⟩ | ⟨q, e0, h1, h2, h3⟩
  · refine .inl ⟨h1, Uc fun p hp h => ?_⟩;have h4 : (st p.1, p.2) ∈ es.toList.map (fun e => (e.key, e.val)) := by rw [hA.ent]; exact List.mem_map_of_mem hp
    obtain ⟨e, he, hq⟩ := List.mem_map.1 h4;exact h2 e he ((Prod.mk.inj hq).1.trans (congrArg st h))
  · have h4 : (e0.key, e0.val) ∈ es.toList.map (fun e => (e.key, e.val)) := List.mem_map_of_mem (List.mem_of_getElem? h2);rw [hA.ent] at h4;obtain ⟨p, hp, hq⟩ := List.mem_map.1 h4;have h5 : p.1 = y := zd6 (by rw [(Prod.mk.inj hq).1, h3]; rfl);subst h5;exact .inr ⟨q, e0.val, h1, XD hA.nod (by rw [← (Prod.mk.inj hq).2]; exact hp)⟩
theorem Yd.lookADOk {m i : Operand} {z : Value} (L : Go.Maps.Keyed P k) (hk : P.underlying k = some .string) (hu : P.underlying t = some (.map k e)) (hz : ∀ w, (zeroValue e).run P w = .ok z w)
    (hm : opv fr m = some (.map (some b))) {y : List UInt8} (hy : y.length ≤ 2 ^ 40) (hi : opv fr i = some (st y)) (hj : D b = some (.map es clock)) (hA : AL es G) : Yd P x fr D hp (.lookup t m i true) ty (.tuple #[(G.lookup y).getD z, .bool (G.lookup y).isSome]) := fun a w _ _ _ _ hF hI => by
  have hb := hI.imm _ _ hj;have hobj : (getObj b).run P w = .ok (.map es clock) w := by simp [getObj, Sem.run, hb]
  obtain ⟨l, hl⟩ := kw hk ⟨y, hy⟩;have hc := fun em => L.check w em hl;simp only [kvS] at hc;rcases Xi L hk hA y hy w with ⟨h1, h3⟩ | ⟨q, v, h1, h3⟩
  · have : (Instr.lookup t (.map (some b)) (st y) true).run P w = .ok (.tuple #[z, .bool false]) w := by
      simp [Instr.lookup, run_underlying hu, hobj, hc, h1, hz]
    simp only [execOp, hF.eval hm, hF.eval hi, h3];simp [this]
  · have : (Instr.lookup t (.map (some b)) (st y) true).run P w = .ok (.tuple #[v, .bool true]) w := by
      simp [Instr.lookup, run_underlying hu, hobj, hc, h1]
    simp only [execOp, hF.eval hm, hF.eval hi, h3];simp [this]
def InsA (D : Imm) (hp : Hp) (j b : Nat) (G : List (List UInt8 × Value)) (y : List UInt8) (u : Value) (_ : Value) (D' : Imm) (hp' : Hp) : Prop :=
  D = D' ∧ ∃ es1 clock1, hp' = hp.set j (b, .map es1 clock1) ∧ AL es1 (G ++ [(y, u)])
theorem AL.push (hA : AL es G) {y : List UInt8} (hy : y.length ≤ 2 ^ 40) (hn : y ∉ G.map (·.1)) (u : Value) (c : Nat) : AL (es.push { key := st y, val := u, born := c }) (G ++ [(y, u)]) := by
  refine ⟨by simp [hA.ent], fun p hp => ?_, ?_⟩
  · rcases List.mem_append.1 hp with h | h
    · exact hA.len p h
    · simp only [List.mem_singleton] at h; subst h; exact hy
  · rw [List.map_append, List.nodup_append];refine ⟨hA.nod, by simp, fun a ha b hb => ?_⟩;simp only [List.map_cons, List.map_nil, List.mem_singleton] at hb;subst hb;rintro rfl;exact hn ha
theorem updA {m i o : Operand} {u : Value} (L : Go.Maps.Keyed P k) (hk : P.underlying k = some .string) (hu : P.underlying t = some (.map k e)) {y : List UInt8} (hy : y.length ≤ 2 ^ 40) (hA : AL es G) (hn : y ∉ G.map (·.1)) {w : World} (hb : w.heap[b]? = some (.map es clock)) :
    (Instr.mapUpdate t (.map (some b)) (st y) u).run P w = .ok () { w with heap := w.heap.setIfInBounds b (.map (es.push { key := st y, val := u, born := clock }) (clock + 1)) } := by
  have hobj : (getObj b).run P w = .ok (.map es clock) w := by simp [getObj, Sem.run, hb]
  have hset : ∀ o', (setObj b o').run P w = .ok () { w with heap := w.heap.setIfInBounds b o' } := fun o' => by simp [setObj, Sem.run, hb]
  obtain ⟨l, hl⟩ := kw hk ⟨y, hy⟩;rcases Xi L hk hA y hy w with ⟨h1, _⟩ | ⟨q, v, _, h3⟩
  · have hc := fun em => L.check w em hl;have hs := L.stays w hl;simp only [kvS] at hc hs;simp [Instr.mapUpdate, run_underlying hu, hobj, hc, h1, hset]
  · exfalso
    have : ∀ {G : List (List UInt8 × Value)}, G.lookup y = some v → y ∈ G.map (·.1) := by
      intro G
      induction G with
      | nil => intro h; cases h
      | cons p G ih =>
        intro h;by_cases hp : y = p.1
        · simp [hp]
        · rw [show (p :: G) = ((p.1, p.2) :: G) from rfl, List.lookup_cons, show (y == p.1) = false by simpa using hp] at h;simp only [List.map_cons, List.mem_cons];exact .inr (ih h)
    exact hn (this h3)
theorem SO.insA {m i o : Operand} {u : Value} (L : Go.Maps.Keyed P k) (hk : P.underlying k = some .string) (hu : P.underlying t = some (.map k e))
    (hm : opv fr m = some (.map (some b))) {y : List UInt8} (hy : y.length ≤ 2 ^ 40) (hi : opv fr i = some (st y)) (ho : opv fr o = some u) (hj : hp[j]? = some (b, .map es clock)) (hA : AL es G) (hn : y ∉ G.map (·.1)) : SO P x fr D hp (.insert t m i o) ty Q (InsA D hp j b G y u) := fun a w dst pos af g next hF hN => by
  have hb := hF.i.own _ _ (mem_of_get? hj);have := updA (m := m) (i := i) (o := o) (u := u) L hk hu hy hA hn hb;unfold Oper.wp;simp only [execOp, hF.f.eval hm, hF.f.eval hi, hF.f.eval ho];simp only [this, Sem.run_bind, Result.andThen_ok, Sem.run_pure, Sem.run_map, Oper.upon_value, Oper.upon_skip];exact hN _ _ _ _ ⟨rfl, _, _, rfl, hA.push hy hn u _⟩ (hF.i.set hj _)
theorem SO.updA {m i o : Operand} {u : Value} (L : Go.Maps.Keyed P k) (hk : P.underlying k = some .string) (hu : P.underlying t = some (.map k e))
    (hm : opv fr m = some (.map (some b))) {y : List UInt8} (hy : y.length ≤ 2 ^ 40) (hi : opv fr i = some (st y)) (ho : opv fr o = some u) (hj : hp[j]? = some (b, .map es clock)) (hA : AL es G) (hn : y ∉ G.map (·.1)) : SO P x fr D hp (.mapUpdate t m i o) ty Q (InsA D hp j b G y u) := fun a w dst pos af g next hF hN => by
  have hb := hF.i.own _ _ (mem_of_get? hj);have := Go.W.updA (m := m) (i := i) (o := o) (u := u) L hk hu hy hA hn hb;unfold Oper.wp;simp only [execOp, hF.f.eval hm, hF.f.eval hi, hF.f.eval ho];simp only [this, Sem.run_bind, Result.andThen_ok, Sem.run_pure, Sem.run_map, Oper.upon_value, Oper.upon_skip];exact hN _ _ _ _ ⟨rfl, _, _, rfl, hA.push hy hn u _⟩ (hF.i.set hj _)
end
end Go.W
namespace Go.W
section
variable {P : Program} {x : Cx} {fr : Fr} {D : Imm} {hp : Hp} {Q : Exit → Act → World → Prop} {ops : Array Oper}
theorem WL.hpPerm {c : List Oper} (hp' : Hp) (hs : List.Perm hp hp') (h : WL P x ops fr D hp' c Q) : WL P x ops fr D hp c Q :=
  fun a w hA => h a w ⟨hA.f, hA.i.sub (fun _ he => hs.mem_iff.2 he) ((hs.map Prod.fst).nodup_iff.1 hA.i.nodup)⟩
end
end Go.W
namespace Go.W
section
variable {P : Program} {x : Cx} {fr : Fr} {D D0 : Imm} {l1 l2 hp0 : Hp} {Q : Exit → Act → World → Prop} {ops : Array Oper} {plan : List (Nat × Bool)}
theorem WA.left (h : WA P x ops D0 hp0 plan fr D l1 Q) : WA P x ops D0 hp0 plan fr D (l1 ++ l2) Q := fun a w hA => h a w ⟨hA.f, hA.i.left⟩
theorem WL.left {c : List Oper} (h : WL P x ops fr D l1 c Q) : WL P x ops fr D (l1 ++ l2) c Q := fun a w hA => h a w ⟨hA.f, hA.i.left⟩
end
end Go.W
namespace Go.W
section
variable {P : Program} {x : Cx} {fr : Fr} {D : Imm} {hp : Hp} {ty : TypeId} {Q : Exit → Act → World → Prop}
theorem SO.appendSl {α : Type} [Inhabited α] {f : α → List Value} {m : Nat} (hf : ∀ x, (f x).length = m) (hone : ∀ x, ∀ v ∈ f x, v.oneCell' = true) {l : List α} {a : Option Addr} {n c len : Nat} {xs : List Value} {o : Ow} {t e : TypeId} {info : TypeInfo} {z : Value} {ts : Array TypeId} {a1 a2 : Operand} (base hp0 : Hp)
    (ht : ts[0]? = some t) (ht' : ts[1]? = some t) (hu : P.underlying t = some (.slice e)) (hz : ∀ w, (sizeOf e).run P w = .ok m w) (hi : ∀ w, (typeInfo e).run P w = .ok info w) (hzero : ∀ w, (zeroValue e).run P w = .ok z w) (hzl : z.cells.size = m)
    (hs : opv fr a1 = some (owV (some o) len)) (hy : opv fr a2 = some (.slice a n c)) (hhp : hp = base ++ owH (some o) e xs hp0) (how : owP x.w0 (some o) len m) (hxl : xs.length = len * m) (hS : SlL D m (l.map f) a n)
    (hb : (2 * (len + n) + 1000) * info.bytes ≤ 2 ^ 48) (hn : len + n ≤ 2 ^ 48) :
    SO P x fr D hp (.call ⟨.builtin .append, #[a1, a2], ts⟩) ty Q (AppK x.w0 D base hp0 e m (xs ++ l.flatMap f) (len + n)) := fun act w dst pos af g next hA hnx => by
  by_cases hl : l = []
  · subst hl;obtain rfl : n = 0 := by have := hS.len'; simpa using this
    refine SO.appendNil (o := o) (len := len) ht ht' hu hz hs hy how.2.1 act w dst pos af g next hA (fun v D' hp' w' hk hI => ?_);obtain ⟨rfl, rfl, rfl⟩ := hk;exact hnx _ _ _ _ ⟨o, how, rfl, rfl, by simpa using hhp⟩ hI
  · exact SO.appendSome (o := o) (len := len) (n := n) (xs := xs) (ys := l.flatMap f) (size := m) base hp0 ht ht' hu hz hi hzero hzl hs hy hhp (hS.rdS hf (fun e => absurd e hl)) (fun v hv => by
        obtain ⟨y, _, hy⟩ := List.mem_flatMap.1 hv;exact hone y v hy) how hxl hb hn act w dst pos af g next hA hnx
end
end Go.W
namespace Go.W
section
variable {P : Program} {x : Cx} {fr : Fr} {D : Imm} {hp : Hp} {ty : TypeId} {Q : Exit → Act → World → Prop}
theorem WC.facts {c : Code} (h : (keys hp).Nodup → (∀ b o, (b, o) ∈ hp → D b = none) → WC P x fr D hp c Q) : WC P x fr D hp c Q :=
  fun a w hA => h hA.i.nodup hA.i.apart a w hA
theorem WC.lessH {c : Code} (hp' : Hp) (hs : hp'.Sublist hp) (h : WC P x fr D hp' c Q) : WC P x fr D hp c Q :=
  fun a w hA => h a w ⟨hA.f, hA.i.sub (fun _ he => hs.subset he) (hA.i.nodup.sublist (hs.map Prod.fst))⟩
theorem Imm.minus_of {D : Imm} {b k : Nat} {o : Obj} (hne : k ≠ b) (h : D k = some o) : (D.minus b) k = some o := by
  unfold Imm.minus; rw [if_neg hne]; exact h
theorem SlL.minus {D : Imm} {m : Nat} {rows : List (List Value)} {a : Option Addr} {n b : Nat} (h : SlL D m rows a n) (hne : ∀ ad, a = some ad → ad.block ≠ b) : SlL (D.minus b) m rows a n :=
  ⟨h.len, fun i r hr => by
    obtain ⟨h1, cs, t, fz, h2, h3⟩ := h.row i r hr;exact ⟨h1, cs, t, fz, Imm.minus_of (hne _ h1) h2, h3⟩⟩
theorem SlL.none (D : Imm) (m : Nat) (a : Option Addr) : SlL D m [] a 0 := ⟨rfl, fun _ _ h => by simp at h⟩
def anyH (o : Option Ow) (e : TypeId) (cs : List Value) : Hp := match o with | .none => [] | some u => [(u.b, .cells cs.toArray e (0, 0))]
def z7 (o : Option Ow) : List Value := match o with | .none => [] | some u => u.rest
theorem z6 (o : Option Ow) (e : TypeId) (xs : List Value) : owH o e xs [] = anyH o e (xs ++ z7 o) := by cases o <;> rfl
theorem q5 {w : World} {o : Option Ow} {n m : Nat} (h : owP w o n m) (hn : 0 < n) : ∃ u, o = some u := by
  cases o with
  | none => have h0 : n = 0 := h
            omega
  | some u => exact ⟨u, rfl⟩
end
end Go.W
namespace Go.W
open Go.ChangeShapes Go.WideShapes Go.RowKit Go.Deep
theorem Keep.below {w w' : World} (h : Keep [] w w') : Below w.heap.size w w' := ⟨h.os, h.tape, h.output, h.size, fun k hk => h.block k hk (by simp)⟩
section
variable {H : Type} {enc : TypeId × Value → H} {P : Program}
theorem uW (hl : laidOutB P = true) {W W' : World} {sp : Nat → Bool} (hk : Keep [] W W') : ∀ {ts : List TypeId} {vs : List Value} {ds : List (DataW H)} {ps : List MemPlace},
    ts.all (fun t => P.readableRec t && decide (t < P.types.size)) = true → DataW.TrodAll enc P W 0 (fun _ => true) true ts vs ds ps → (∀ p ∈ ps, p.block < W.heap.size) → (∀ p ∈ ps, sp p.block = true) → DataW.TrodAll enc P W' 0 sp true ts vs ds ps
  | [], [], [], _, _, h, _, _ => h
  | t :: ts, v :: vs, d :: ds, _, ht, ⟨p, q, h1, h2, e⟩, hlt, hs => by
    subst e;simp only [List.all_cons, Bool.and_eq_true, decide_eq_true_eq] at ht;refine ⟨p, q, WideElems.Trod_stays hl ht.1.1 ht.1.2 h1 (fun x hx => hk.below.same (hlt x (List.mem_append_left _ hx))) (fun x hx => hs x (List.mem_append_left _ hx)), ?_, rfl⟩;exact uW hl hk (by simpa using ht.2) h2 (fun x hx => hlt x (List.mem_append_right _ hx)) (fun x hx => hs x (List.mem_append_right _ hx))
  | [], _ :: _, _, _, _, h, _, _ => h.elim
  | [], [], _ :: _, _, _, h, _, _ => h.elim
  | _ :: _, [], _, _, _, h, _, _ => h.elim
  | _ :: _, _ :: _, [], _, _, h, _, _ => h.elim
theorem qq (hl : laidOutB P = true) {f : Func} {s : ChangeSpec} {apart fresh handsOn : Bool} {W W' : World} {args : Array Value} {ds gs : List (DataW H)} {before : List MemPlace} {tb : TypeId}
    (hW : DataW.Whole enc P f.params.toList s.vars apart W args.toList ds gs before) (hv : s.vars = []) (hres : (s.fn H (ds ++ gs)).results = [.lit (.bool true)]) (hargs : (s.fn H (ds ++ gs)).args = ds) (hvars : (s.fn H (ds ++ gs)).vars = [])
    (hr : f.resultTypes = #[tb]) (hu : P.underlying tb = some .bool) (ht : f.params.toList.all (fun t => P.readableRec t && decide (t < P.types.size)) = true) (hk : Keep [] W W') :
    s.post enc P f apart fresh handsOn false W args (.bool true) W' := by
  have hW' := hW;obtain ⟨p, q, hA, hV, rfl, hfz, hnd⟩ := hW
  have hq : gs = [] ∧ q = [] := by
    rw [hv] at hV;cases gs with
    | nil => exact ⟨rfl, hV⟩
    | cons g gs => exact hV.elim
  obtain ⟨rfl, rfl⟩ := hq;have hlt : ∀ x ∈ p, x.block < W.heap.size := fun x hx => by simpa using hW'.lt x (List.mem_append_left _ hx)
  have hold : ∀ x ∈ p, (fun b => decide (b < W.heap.size)) x.block = true := fun x hx => by simpa using hlt x hx
  refine ⟨ds, [], p ++ [], [], p, [], hW', ?_, ?_, ?_, World.keptBut_mono (fun x hx => ⟨hx, .inr (.inl (by simpa using hx))⟩) (hk.below.frame _), fun h => by cases h⟩
  · rw [hres, hr];exact trodAll_mk1 (shut_bool hu true)
  · rw [hargs];exact uW hl hk ht hA hlt hold
  · rw [hvars, hv];rfl
end
def wY (w : World) : Imm := fun b => w.heap[b]?
theorem heapI_holds (w : World) : Holds (wY w) w := fun _ _ h => h
theorem JO {α : Type} [Inhabited α] (f : α → List Value) (D : Imm) (m : Nat) (a : Option Addr) (len : Nat) (h : ∀ i, i < len → ∃ x : α, a = some ⟨sb a, so a, none⟩ ∧ RdD D (sb a) (so a + i * m) (f x)) :
    ∃ l : List α, l.length = len ∧ SlL D m (l.map f) a len := by
  let g : Nat → α := fun i => if hi : i < len then Classical.choose (h i hi) else default
  refine ⟨(List.range len).map g, by simp, by simp, fun i r hr => ?_⟩;rw [List.getElem?_map, List.getElem?_map] at hr;rcases Nat.lt_or_ge i len with hi | hi
  · rw [List.getElem?_range hi] at hr;simp only [Option.map_some, Option.some.injEq] at hr;subst hr;have := Classical.choose_spec (h i hi);have e : g i = Classical.choose (h i hi) := dif_pos hi;rw [e];exact this
  · rw [List.getElem?_eq_none (by simpa using hi)] at hr;cases hr
section
variable {H : Type} {enc : TypeId × Value → H} {P : Program} {w : World} {spare : Nat → Bool} {held : Bool}
theorem ZW {a : Addr} {base m : Nat} {cs : List Value} (hm : 0 < m) (h : w.cells? base a m = some cs) : a.spot = none ∧ RdD (wY w) a.block a.off cs := by
  obtain ⟨_, hl, hc⟩ := World.cells?_some h;have h0 := hc 0 hm;rw [List.getElem?_eq_getElem (by omega)] at h0
  have hsp : a.spot = none := by
    have h1 := h0;unfold World.cell? at h1;have e : (a.add 0).spot.isSome = a.spot.isSome := by unfold Addr.add; split <;> simp_all
    cases hsp : a.spot with
    | none => rfl
    | some x =>
      rw [hsp] at e;revert h1;split
      · rw [if_pos (by rw [e]; rfl)]; intro h; cases h
      · intro h; cases h
  refine ⟨hsp, ?_⟩
  have hadd : ∀ i, a.add i = ⟨a.block, a.off + i, none⟩ := fun i => by
    obtain ⟨b, o, s⟩ := a;simp only at hsp;subst hsp;unfold Addr.add; split <;> simp_all
  have hh : ∃ c e fz, w.heap[a.block]? = some (.cells c e fz) := by
    rw [hadd] at h0;unfold World.cell? at h0;revert h0;split
    · rename_i c e fz hq; intro _; exact ⟨c, e, fz, hq⟩
    · intro h; cases h
  obtain ⟨c, e, fz, hq⟩ := hh;refine ⟨c.toList, e, fz, by simpa [wY] using hq, fun j v hj => ?_⟩
  have hjl : j < cs.length := by
    rcases Nat.lt_or_ge j cs.length with h1 | h1
    · exact h1
    · rw [List.getElem?_eq_none h1] at hj; cases hj
  have := hc j (by omega);rw [hadd, hj] at this;unfold World.cell? at this;simp only [hq, Option.isSome_none, Bool.false_eq_true, if_false] at this;simpa using this
theorem YN {α : Type} [Inhabited α] (f : α → List Value) {t e : TypeId} {m fuel : Nat} {cs : List Value} {x : DataW H × List MemPlace} (ht : P.underlying t = some (.slice e)) (hm : P.cellsOf e = m) (h0 : 0 < m)
    (hel : ∀ n cs' y, DataW.trod enc P w 0 spare held n e cs' = some y → cs'.length = m → ∃ u : α, cs' = f u) (h : DataW.trod enc P w 0 spare held fuel t cs = some x) :
    ∃ (l : List α) (a : Option Addr) (n c : Nat), cs = [.slice a n c] ∧ n ≤ maxLen ∧ SlL (wY w) m (l.map f) a n := by
  rcases open_slice ht h with ⟨rfl, _⟩ | ⟨a, len, cap, m', n, D, Pl, rfl, hb, hl, hmx, hmm, _, hi⟩
  · exact ⟨[], none, 0, 0, rfl, Nat.zero_le _, rfl, fun i r hr => by simp at hr⟩
  · have hlen : len ≤ m' := by rw [hmm]; split <;> omega
    obtain ⟨l, hll, hs⟩ := JO f (wY w) m (some a) len (fun i hil => by
      obtain ⟨cs', hc, ht'⟩ := hi i (by omega);rw [hm] at hc;obtain ⟨u, hu⟩ := hel _ _ _ ht' (World.cells?_some hc).2.1;obtain ⟨hsp, hr⟩ := ZW h0 hc;obtain ⟨cs0, hc0, ht0⟩ := hi 0 (by omega);rw [hm] at hc0;have hsp0 := (ZW h0 hc0).1;rw [Nat.zero_mul] at hsp0;obtain ⟨ab, ao, asp⟩ := a
      have has : asp = none := by
        have e : (Addr.add ⟨ab, ao, asp⟩ 0) = ⟨ab, ao, asp⟩ := by unfold Addr.add; simp
        rw [e] at hsp0; exact hsp0
      subst has;refine ⟨u, rfl, ?_⟩;rw [← hu];have e1 : (Addr.add ⟨ab, ao, none⟩ (i * m)) = ⟨ab, ao + i * m, none⟩ := by unfold Addr.add; split <;> simp_all
      rw [e1] at hr;exact hr)
    exact ⟨l, some a, len, cap, rfl, by omega, hs⟩
end
end Go.W
