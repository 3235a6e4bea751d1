import Derived.Test.YtejgofaeafphjaaGreatDoorXG5
import Derived.SizedLaws
import Derived.Shelf.Vars
import Derived.Lay
import Derived.LaidMore
import Derived.Stop.LaidErr
import Derived.Lib.LaidTab
import Derived.Test.YtejgofaeafphjaaGreatDoorXG2
import Derived.Test.YtejgofaeafphjaaGreatDoorXG3
import Derived.Test.YtejgofaeafphjaaGreatDoorXG4
set_option linter.all false
set_option maxRecDepth 100000
set_option maxHeartbeats 4000000
namespace Go.W
open Go.ChangeShapes Go.WideShapes Go.RowKit Go.Deep
section
variable {H : Type} {enc : TypeId × Value → H}
theorem wy {a : Assume} {C : Checked} {os : Os} {f : FuncId} {fn : Func} {s : ChangeSpec} {conds : List PathCond} {apart fresh handsOn again : Bool} {X : World → Array Value → Prop}
    (hX : ∀ (w w' : World) (args : Array Value), w.heap = w'.heap → X w args → X w' args)
    (own : ownKnob C.prog.godebug = none) (started : os.Started) (noInit : C.prog.inits.idxOf? f = none) (hfn : C.prog.funcs[f]? = some fn)
    (witness : ∃ (w : World) (tape : Tape) (i : Input), w.os = os ∧ (w.forCall tape i).Shaped C.prog ∧ i.vars = [] ∧ Input.okWide C.prog (w.forCall tape i) .any w.heap.size f i ∧
      ((s.pre enc C.prog fn conds apart (w.forCall tape i).memory i.args ∧ X (w.forCall tape i).memory i.args) ∧ sizedMet enc C.prog fn (OpenSpec.ofChange s) apart (w.forCall tape i).memory i.args) ∧ a.holds C.prog (lone (Frame.enter C.prog f i.args .normal) [] (w.forCall tape i)))
    (contract : ∀ (W : World) (base : Nat) (args : Array Value) (ds gs : List (DataW H)) (before : List MemPlace),
      (∀ (j : Nat) t v, fn.params[j]? = some t → args[j]? = some v → Value.okWide C.prog W .any base t v) →
      DataW.Whole enc C.prog fn.params.toList s.vars apart W args.toList ds gs before → W.ShapedOpen C.prog → X W args →
      Calls C.prog f args W fun e W' => ∃ v, e = .returned v ∧ s.post enc C.prog fn apart fresh handsOn again W args v W') :
    ReturnsInHanded a C os f .any (fun w args => (s.pre enc C.prog fn conds apart w args ∧ X w args) ∧ sizedMet enc C.prog fn (OpenSpec.ofChange s) apart w args) (s.post enc C.prog fn apart fresh handsOn again) := by
  refine returnsInHanded_of_calls own started noInit witness ?_;intro w tape i _ hsh _ hok hpre _;obtain ⟨_, _, _, fn', hfn', _, _, _, _, hval⟩ := hok;have e : fn' = fn := Option.some.inj (hfn'.symm.trans hfn);subst e;obtain ⟨⟨⟨ds, gs, before, hw, _⟩, hx⟩, _⟩ := hpre;have hw' := DataW.Whole.of_heap (w' := w.forCall tape i) (by rfl) hw;refine (contract (w.forCall tape i) w.heap.size i.args ds gs before hval hw' hsh (hX _ _ _ (by rfl) hx)).mono fun e W' ⟨v, he, hp⟩ => ?_;subst he;exact ChangeSpec.post_blind hp
end
theorem wu {P : Program} {W : World} {n : String} {g : Nat} {cs : Array Value} (hg : P.globalNamed n = some g) (hv : W.var? P n = some cs) : ∃ t fz, wY W g = some (.cells cs t fz) := by
  unfold World.var? at hv;rw [hg] at hv;simp only [Option.bind_some] at hv;unfold wY;split at hv
  · rename_i c t fz he
    cases hv
    exact ⟨t, fz, he⟩
  · cases hv
theorem Wu {W : World} {g : Nat} {v : Value} (h : W.cell? ⟨g, 0, none⟩ = some v) : ∃ r t fz, wY W g = some (.cells (List.toArray (v :: r)) t fz) := by
  unfold World.cell? at h;unfold wY;revert h;split
  · rename_i cs t fz he
    intro h;simp only [Option.isSome_none, Bool.false_eq_true, if_false] at h;obtain ⟨l⟩ := cs;cases l with
    | nil => simp at h
    | cons x r =>
      simp at h;subst h;exact ⟨r, t, fz, he⟩
  · intro h; cases h
section
variable {H : Type} {enc : TypeId × Value → H} {P : Program} {w : World} {base : Nat} {spare : Nat → Bool} {held : Bool}
end
end Go.W
namespace Go.W
universe u
class AgF (P : Program) (t : TypeId) (b : outParam Bool) : Prop where
  h : ∀ w, (isAgg t).run P w = .ok b w
class SzF (P : Program) (t : TypeId) (n : outParam Nat) : Prop where
  h : ∀ w, (sizeOf t).run P w = .ok n w
class UnF (P : Program) (t : TypeId) (d : outParam TypeDesc) : Prop where
  h : P.underlying t = some d
class ZvF (P : Program) (t : TypeId) (v : outParam Value) : Prop where
  h : ∀ w, (zeroValue t).run P w = .ok v w
class SaF (P : Program) (t : TypeId) (zs : outParam (List Value)) (pl : outParam (List (Nat × Nat))) : Prop where
  h : zj P t zs pl
class EgF (P : Program) (t : TypeId) : Prop where
  h : P.eqGuardType P.depth t = false
class CaF (P : Program) (f : FuncId) : Prop where
  h : ∀ args w, (callFunc f args).run P w = .ok (.enter f args) w
def slcF (cs : List Value) : Nat → Nat → Option (List Value)
  | _, 0 => some []
  | o, n + 1 => match cs[o]? with
    | some v => match slcF cs (o + 1) n with
      | some vs => some (v :: vs)
      | none => none
    | none => none
theorem uk {cs : List Value} : ∀ {n o : Nat} {vs : List Value}, slcF cs o n = some vs → vs.length = n ∧ slc cs o n = vs
  | 0, o, vs, h => by simp [slcF] at h; subst h; exact ⟨rfl, by simp [slc]⟩
  | n + 1, o, vs, h => by
    simp only [slcF] at h;cases hc : cs[o]? with
    | none => rw [hc] at h; cases h
    | some v =>
      rw [hc] at h;cases hr : slcF cs (o + 1) n with
      | none => rw [hr] at h; cases h
      | some us =>
        rw [hr] at h;cases h
        obtain ⟨h1, h2⟩ := uk hr;refine ⟨by simp [h1], ?_⟩;obtain ⟨hl, e⟩ := List.getElem?_eq_some_iff.1 hc;unfold slc at *;rw [List.drop_eq_getElem_cons hl, List.take_succ_cons, e, h2]
def jN : List Value → Option (List Value)
  | [] => some []
  | a :: l => match jN l with
    | some r => some (a :: r)
    | none => none
theorem Zx : ∀ {l r : List Value}, jN l = some r → l = r
  | [], r, h => by simp [jN] at h; exact h.symm
  | a :: l, r, h => by
    simp only [jN] at h;cases hr : jN l with
    | none => rw [hr] at h; cases h
    | some u => rw [hr] at h; cases h; rw [Zx hr]
def RdK (D : Imm) (hp : Hp) (b o n : Nat) (vs : List Value) : Prop := vs.length = n ∧ RdN D hp b o vs
theorem RdK.own {D : Imm} {hp : Hp} {k b off n : Nat} {cs vs : List Value} {e : TypeId} {fz : Nat × Nat} (hk : hp[k]? = some (b, .cells cs.toArray e fz)) (hv : slcF cs off n = some vs) : RdK D hp b off n vs := ⟨(uk hv).1, RdN.own hk (uk hv).2⟩
theorem RdK.imm {D : Imm} {hp : Hp} {b off n : Nat} {cs vs : List Value} {e : TypeId} {fz : Nat × Nat} (hk : D b = some (.cells cs.toArray e fz)) (hv : slcF cs off n = some vs) : RdK D hp b off n vs := ⟨(uk hv).1, RdN.imm hk (uk hv).2⟩
theorem RdK.ofN {D : Imm} {hp : Hp} {b o n : Nat} {vs : List Value} (hr : RdN D hp b o vs) (h : vs.length = n := by rfl) : RdK D hp b o n vs := ⟨h, hr⟩
section hk
variable {hp : Hp}
theorem hk0 {a : Nat × Obj} {l : Hp} : (a :: l)[0]? = some a := rfl
theorem hk1 {a b : Nat × Obj} {l : Hp} : (b :: a :: l)[1]? = some a := rfl
theorem hk2 {a b c : Nat × Obj} {l : Hp} : (b :: c :: a :: l)[2]? = some a := rfl
theorem hk3 {a b c d : Nat × Obj} {l : Hp} : (b :: c :: d :: a :: l)[3]? = some a := rfl
theorem hk4 {a b c d e : Nat × Obj} {l : Hp} : (b :: c :: d :: e :: a :: l)[4]? = some a := rfl
theorem hk5 {a b c d e f : Nat × Obj} {l : Hp} : (b :: c :: d :: e :: f :: a :: l)[5]? = some a := rfl
theorem hk6 {a b c d e f g : Nat × Obj} {l : Hp} : (b :: c :: d :: e :: f :: g :: a :: l)[6]? = some a := rfl
theorem hk7 {a b c d e f g h : Nat × Obj} {l : Hp} : (b :: c :: d :: e :: f :: g :: h :: a :: l)[7]? = some a := rfl
theorem hk8 {a b c d e f g h i : Nat × Obj} {l : Hp} : (b :: c :: d :: e :: f :: g :: h :: i :: a :: l)[8]? = some a := rfl
theorem zHk {k : Nat} {a : Nat × Obj} (h : hp[k]? = some a := by first | exact hk0 | exact hk1 | exact hk2 | exact hk3 | exact hk4 | exact hk5 | exact hk6 | exact hk7 | exact hk8) : hp[k]? = some a := h
end hk
section rd
variable {D : Imm} {hp : Hp} {b off : Nat} {cs : List Value} {e : TypeId} {fz : Nat × Nat} {v : Value}
theorem rdo {k : Nat} (hk : hp[k]? = some (b, .cells cs.toArray e fz)) (hc : cs[off]? = some v) : Rd D hp ⟨b, off, none⟩ v := Rd.own hk hc
theorem zR {a : Addr} (h : Rd D hp a v := by
  first
  | exact Rd.imm (by assumption) (by exact rfl)
  | exact rdo zHk (by exact rfl)) : Rd D hp a v := h
theorem zK {o n : Nat} {vs : List Value} (h : RdK D hp b o n vs := by
  first
  | exact RdK.imm (by assumption) (by exact rfl)
  | exact RdK.own zHk (by exact rfl)) : RdK D hp b o n vs := h
end rd
section yd
variable {P : Program} {x : Cx} {fr : Fr} {D : Imm} {hp : Hp} {ty : TypeId}
theorem Yd.l1 {t b o : Nat} {p : Operand} {v : Value} [AgF P t false] (hp' : opv fr p = some (.pointer (some ⟨b, o, none⟩))) (hr : Rd D hp ⟨b, o, none⟩ v) : Yd P x fr D hp (.load t p) ty v := Yd.load1 AgF.h hp' hr
theorem Yd.lK {t b o n : Nat} {p : Operand} {vs : List Value} [AgF P t true] [SzF P t n] (hp' : opv fr p = some (.pointer (some ⟨b, o, none⟩))) (hr : RdK D hp b o n vs) : Yd P x fr D hp (.load t p) ty (.agg vs.toArray) := Yd.loadN AgF.h SzF.h hp' hr.1 hr.2
theorem Yd.lV {t b o n : Nat} {p : Operand} (vs : List Value) [AgF P t true] [SzF P t n] (hp' : opv fr p = some (.pointer (some ⟨b, o, none⟩))) (hr : RdN D hp b o vs) (hl : vs.length = n := by rfl) : Yd P x fr D hp (.load t p) ty (.agg vs.toArray) := Yd.loadN AgF.h SzF.h hp' hl hr
def fldF : List Field → Nat → Option (Nat × Nat)
  | [], _ => none
  | { type := t, offset := o, .. } :: _, 0 => some (t, o)
  | _ :: l, n + 1 => fldF l n
theorem VO : ∀ {l : List Field} {f t off : Nat}, fldF l f = some (t, off) → (l[f]?).map (fun fd => (fd.type, fd.offset)) = some (t, off)
  | [], f, t, off, h => by simp [fldF] at h
  | fd :: l, 0, t, off, h => by simpa [fldF] using h
  | fd :: l, f + 1, t, off, h => by
    have h1 := VO (l := l) (f := f) (by simpa [fldF] using h);simpa using h1
theorem Yd.fA {s t f n off b o : Nat} {p : Operand} {fs : Array Field} [UnF P s (.struct fs)] (hf : fldF fs.toList f = some (t, off)) [SzF P t n] (hp' : opv fr p = some (.pointer (some ⟨b, o, none⟩))) (hn : Nat.beq n 0 = false) : Yd P x fr D hp (.fieldAddr s p f) ty (.pointer (some ⟨b, o + off, none⟩)) :=
  Yd.fieldAddr (k8.mk UnF.h (by have := VO hf; simpa using this) SzF.h (fun e => by subst e; cases hn)) hp'
theorem Yd.lnS {t e : TypeId} {ts : List TypeId} {p : Operand} {a : Option Addr} {len cap : Nat} (hp' : opv fr p = some (.slice a len cap)) [UnF P t (.slice e)] : Yd P x fr D hp (.call ⟨.builtin .len, #[p], ⟨t :: ts⟩⟩) ty (.int .i64 len) := Yd.lenS (t := t) rfl UnF.h hp'
theorem Yd.bd {t : TypeId} {zs : List Value} {pl : List (Nat × Nat)} [SaF P t zs pl] {ps : List (Nat × Operand)} {vals : List (Nat × Value)} {cs : List Value}
    (hp' : opps fr ps = some vals) (hf : (Instr.fill (pl.toArray[·]?) zs.toArray vals).bind (fun a => jN a.toList) = some cs) : Yd P x fr D hp (.build t ps.toArray) ty (.agg cs.toArray) := Yd.build SaF.h hp' (by
      cases h : Instr.fill (pl.toArray[·]?) zs.toArray vals with
      | none => rw [h] at hf; cases hf
      | some a => rw [h] at hf; rw [← Zx hf])
theorem Yd.ix {t e : TypeId} {n : Nat} {p q : Operand} {a : Option Addr} {len cap : Nat} {k : IntKind} {j : Int} [UnF P t (.slice e)] [SzF P e n] (hp' : opv fr p = some (.slice a len cap)) (hq : opv fr q = some (.int k j))
    (ha : a = some ⟨sb a, so a, none⟩) (h0 : 0 ≤ j := by omega) (hl : j < len := by omega) :
    Yd P x fr D hp (.indexAddr t p q) ty (.pointer (some ⟨sb a, so a + j.toNat * n, none⟩)) := Yd.indexS UnF.h SzF.h hp' hq h0 hl ha
theorem Yd.ifc {t : TypeId} {dsc : TypeDesc} {o : Operand} {v : Value} [UnF P t dsc] (ho : opv fr o = some v) (hn : ∀ ms, dsc ≠ .interface ms := by intro _ h; cases h) : Yd P x fr D hp (.makeInterface t o) ty (.iface t v) := Yd.iface UnF.h hn ho
def ydF (fr : Fr) : Op → Option Value
  | .move o => opv fr o
  | .assign o => opv fr o
  | .extract o n => match opv fr o with
    | some (.tuple vs) => vs[n]?
    | _ => none
  | .nilCheck o => match opv fr o with
    | some (.pointer (some p)) => some (.pointer (some p))
    | _ => none
  | .pick c p q => match opv fr c with
    | some (.bool true) => opv fr p
    | some (.bool false) => opv fr q
    | _ => none
  | .unOp .not _ o => match opv fr o with
    | some (.bool b) => some (.bool !b)
    | _ => none
  | .makeFunc fn ⟨A⟩ ⟨B⟩ => match opvs fr A, opvs fr B with
    | some va, some vb => some (.func fn va.toArray vb.toArray)
    | _, _ => none
  | _ => none
theorem Yd.ev {op : Op} {v : Value} (h : ydF fr op = some v) : Yd P x fr D hp op ty v := by
  unfold ydF at h;split at h
  · exact Yd.move h
  · exact Yd.assign h
  · split at h
    · exact Yd.extract (by assumption) h
    · cases h
  · split at h
    · cases h; exact Yd.nilCheck (by assumption)
    · cases h
  · split at h
    · exact Yd.pickT (by assumption) h
    · exact Yd.pickF (by assumption) h
    · cases h
  · split at h
    · cases h; exact Yd.not (by assumption)
    · cases h
  · split at h
    · cases h; exact Yd.func (by assumption) (by assumption)
    · cases h
  · cases h
def cmpF (i j : Int) : BinOp → Option Value
  | .lss => some (.bool (decide (i < j)))
  | .leq => some (.bool (decide (i ≤ j)))
  | .gtr => some (.bool (decide (j < i)))
  | .geq => some (.bool (decide (j ≤ i)))
  | .eql => some (.bool (decide (i = j)))
  | .neq => some (.bool (decide (i ≠ j)))
  | _ => none
theorem Yd.cmp {op : BinOp} {t t' : TypeId} {o p : Operand} {k : IntKind} {i j : Int} {v : Value} (h : cmpF i j op = some v) (ho : opv fr o = some (.int k i)) (hp' : opv fr p = some (.int k j)) : Yd P x fr D hp (.binOp op t o p t') ty v := by
  cases op <;> simp only [cmpF] at h <;> cases h
  · exact Yd.eql ho hp'
  · exact Yd.neq ho hp'
  · exact Yd.lss ho hp'
  · exact Yd.leq ho hp'
  · exact Yd.gtr ho hp'
  · exact Yd.geq ho hp'
class OpK (op : Op) (k : outParam Nat) : Prop where
instance okL {t : TypeId} {p : Operand} : OpK (.load t p) 1 := ⟨⟩
instance okF {t : TypeId} {p : Operand} {n : Nat} : OpK (.fieldAddr t p n) 2 := ⟨⟩
instance okB {o : BinOp} {t u : TypeId} {p q : Operand} : OpK (.binOp o t p q u) 3 := ⟨⟩
instance okD {t : TypeId} {l : Array (Nat × Operand)} : OpK (.build t l) 4 := ⟨⟩
instance okI {t : TypeId} {p : Operand} : OpK (.makeInterface t p) 5 := ⟨⟩
instance okC {c : Call} : OpK (.call c) 6 := ⟨⟩
theorem yK1 {op : Op} {v : Value} [OpK op 1] (h : Yd P x fr D hp op ty v) : Yd P x fr D hp op ty v := h
theorem yK2 {op : Op} {v : Value} [OpK op 2] (h : Yd P x fr D hp op ty v) : Yd P x fr D hp op ty v := h
theorem yK3 {op : Op} {v : Value} [OpK op 3] (h : Yd P x fr D hp op ty v) : Yd P x fr D hp op ty v := h
theorem yK4 {op : Op} {v : Value} [OpK op 4] (h : Yd P x fr D hp op ty v) : Yd P x fr D hp op ty v := h
theorem yK5 {op : Op} {v : Value} [OpK op 5] (h : Yd P x fr D hp op ty v) : Yd P x fr D hp op ty v := h
theorem yK6 {op : Op} {v : Value} [OpK op 6] (h : Yd P x fr D hp op ty v) : Yd P x fr D hp op ty v := h
theorem zY {op : Op} {v : Value} (h : Yd P x fr D hp op ty v := by
  first
  | exact Yd.ev rfl
  | (apply yK1
     first
     | exact Yd.load1 AgF.h rfl zR
     | exact Yd.lK rfl zK)
  | (apply yK2
     exact Yd.fA rfl rfl rfl)
  | (apply yK3
     first
     | exact Yd.cmp rfl rfl rfl
     | exact Yd.add rfl rfl (wr64 ⟨by omega, by omega⟩)
     | exact Yd.sub rfl rfl (wr64 ⟨by omega, by omega⟩)
     | exact Yd.mul rfl rfl (wr64 ⟨by omega, by omega⟩))
  | (apply yK4
     exact Yd.bd rfl rfl)
  | (apply yK5
     exact Yd.ifc rfl)
  | (apply yK6
     exact Yd.lnS rfl)) : Yd P x fr D hp op ty v := h
end yd
section so
variable {P : Program} {x : Cx} {fr : Fr} {D : Imm} {hp : Hp} {ty : TypeId} {Q : Exit → Act → World → Prop}
theorem SO.st {t b off n k : Nat} {p o : Operand} {v : Value} {cs vs : List Value} {e : TypeId} [SzF P t n]
    (hp' : opv fr p = some (.pointer (some ⟨b, off, none⟩))) (ho : opv fr o = some v) (hc : v.cells = vs.toArray) (hl : vs.length = n) (hk : hp[k]? = some (b, .cells cs.toArray e (0, 0))) (hoff : Nat.ble (off + n) cs.length = true := by rfl) (hone : oneB vs = true := by rfl) :
    SO P x fr D hp (.store t p o) ty Q (SetK D hp k b (.cells (splice cs off vs).toArray e (0, 0))) := SO.store k hk SzF.h hp' ho hc hl (Nat.le_of_ble_eq_true hoff) (za hone)
theorem SO.cl {f : FuncId} {A : List Operand} {ts : Array TypeId} {vals : List Value} {v : Value} [CaF P f] (hk : ∀ w, Inv D hp x.S x.w0 w → z8 P f vals w v) (ha : opvs fr A = some vals := by rfl) :
    SO P x fr D hp (.call ⟨.value (.func f), A.toArray, ts⟩) ty Q (Wo D hp v) := SO.call (Enters.func CaF.h ha) hk
end so
def znd : Op → Bool | .defer _ => false | _ => true
theorem zn {op : Op} (h : znd op = true) : ∀ c, op ≠ .defer c := fun c e => by subst e; cases h
theorem zs {D : Imm} {hp : Hp} {v : Value} {R : Value → Imm → Hp → Prop} (h : R v D hp) : ∀ v2 D2 hp2, Wo D hp v v2 D2 hp2 → R v2 D2 hp2 := fun _ _ _ ⟨a, b, c⟩ => by subst a; subst b; subst c; exact h
theorem zt {D : Imm} {hp : Hp} {k b : Nat} {o : Obj} {R : Value → Imm → Hp → Prop} (h : R undef D (hp.set k (b, o))) : ∀ v2 D2 hp2, SetK D hp k b o v2 D2 hp2 → R v2 D2 hp2 := fun _ _ _ ⟨a, b, c⟩ => by subst a; subst b; subst c; exact h
theorem zk {α : Sort u} {a b : α} (h : a = b := by kernel_rfl) : a = b := h
theorem zU1 {a b : Hp} (h : List.Sublist a b := by repeat first | exact List.nil_sublist _ | exact List.Sublist.refl _ | apply List.Sublist.cons_cons | apply List.Sublist.cons) : ∀ e, e ∈ a → e ∈ b := (subS h).1
theorem zU2 {a b : Hp} (h : List.Sublist a b := by repeat first | exact List.nil_sublist _ | exact List.Sublist.refl _ | apply List.Sublist.cons_cons | apply List.Sublist.cons) : (keys b).Nodup → (keys a).Nodup := (subS h).2
section quiet
variable {ops : Array Oper} {Q : Exit → Act → World → Prop}
theorem zQP (h : zm Q := by first | ((repeat first | refine zm.then ?_ | refine zm.blk ?_ | exact zm.body | refine zm.sc ?_ | exact zm.round | exact zm.roundP); done) | fail) : zm Q := h
theorem zQO (h : zN ops Q := by first | ((repeat first | refine zN.then ?_ | refine zN.blk ?_ | exact zN.bodyD (by rfl) | exact zN.bodyM (by rfl) | refine zN.sc ?_); done) | fail) : zN ops Q := h
theorem zQA {d : Nat} (h : zU d Q := by first | ((repeat first | refine zU.then ?_ | refine zU.blk ?_ | exact zU.bodyD (by rfl) | exact zU.bodyM (by rfl) | refine zU.sc ?_); done) | fail) : zU d Q := h
theorem zQL {pl : List (Nat × Bool)} (h : zO ops pl Q := by first | ((repeat first | refine zO.then ?_ | refine zO.blk ?_ | exact zO.bodyD (by rfl) | exact zO.bodyM (by rfl) | refine zO.sc ?_); done) | fail) : zO ops pl Q := h
theorem zN.ofP (h : zm Q) : zN ops Q := fun _ o v c a w _ hq => h c o.dst v a w hq
theorem zU.ofP {d : Nat} (h : zm Q) : zU d Q := fun v c a w hq => h c (some d) v a w hq
theorem zO.ofP {pl : List (Nat × Bool)} (h : zm Q) : zO ops pl Q := fun _ o v c a w _ _ hq => h c o.dst v a w hq
theorem zX {p : Prop} (h : p := by
  first
  | (show zN _ _
     first | exact zQO | exact zN.ofP zQP)
  | (show zU _ _
     first | exact zQA | exact zU.ofP zQP)
  | (show zO _ _ _
     first | exact zQL | exact zO.ofP zQP)
  | exact zQP) : p := h
end quiet
def pz : List Nat → List (Nat × Bool)
  | [] => []
  | n :: l => (n / 2, Nat.beq (n % 2) 1) :: pz l
section ret
variable {P : Program} {x : Cx} {fr : Fr} {D : Imm} {hp : Hp}
theorem RV.cN {s t b o n : Nat} {vs : List Value} [AgF P t true] [SzF P t n] (h : fr.get s = some (.pointer (some ⟨b, o, none⟩))) (hr : RdK D hp b o n vs) : RV P x fr D hp (.cell s t) (.agg vs.toArray) := RV.cellN AgF.h SzF.h h hr.1 hr.2
theorem zW {r : ResultVar} {v : Value} (h : RV P x fr D hp r v := by first | exact RV.tmp rfl | exact RV.cell1 AgF.h rfl zR | exact RV.cN rfl zK) : RV P x fr D hp r v := h
theorem zV {rs : List ResultVar} {vs : List Value} (h : RVs P x fr D hp rs vs := by repeat first | exact trivial | refine ⟨zW, ?_⟩) : RVs P x fr D hp rs vs := h
theorem zI {w : World} : Inv (fun _ => none) [] [] w w := Inv.start (by intro _ _ h; cases h)
variable {f : FuncId} {fn : Func} {c : Code} {args : List Value} {S : List Nat} {w : World} {R : Ending → World → Prop} {n : Nat}
theorem en (hf : P.funcs[f]? = some fn) (hb : fn.body = some c) (hn : fn.ntmps = n) (hI : Inv D hp S w w) (h : WC P ⟨n, [], S, w⟩ (uA 0 args) D hp c (bodyPost P fn R)) (hl : Nat.ble args.length n = true := by rfl) : Calls P f args.toArray w R := enter hf hb n hn (Nat.le_of_ble_eq_true hl) hI h
theorem enD (hf : P.funcs[f]? = some fn) (hb : fn.body = some c) (hn : fn.ntmps = n) (hI : Inv D hp S w w) (h : WC P ⟨n, [], S, w⟩ (uA 0 args) D hp c (bodyPostD P fn R)) (hl : Nat.ble args.length n = true := by rfl) : Calls P f args.toArray w R := zcm hf hb n hn (Nat.le_of_ble_eq_true hl) hI h
theorem enM (hf : P.funcs[f]? = some fn) (hb : fn.body = some c) (hn : fn.ntmps = n) (hI : Inv D hp S w w) (h : WC P ⟨n, [], S, w⟩ (uA 0 args) D hp c (bodyPostM Fence.wide 0 P fn R)) (hl : Nat.ble args.length n = true := by rfl) : Calls P f args.toArray w R := zcn hf hb n hn (Nat.le_of_ble_eq_true hl) hI h
theorem enN (hf : P.funcs[f]? = some fn) (hb : fn.body = some c) (hn : fn.ntmps = n) (hI : Inv D hp S w w) (h : WCn f P ⟨n, [], S, w⟩ (uA 0 args) D hp c (bodyPostM Fence.wide 0 P fn R)) (hl : Nat.ble args.length n = true := by rfl) : Calls P f args.toArray w R := zag hf hb n hn (Nat.le_of_ble_eq_true hl) hI h
end ret
section so2
variable {P : Program} {x : Cx} {fr : Fr} {D : Imm} {hp : Hp} {ops : Array Oper} {Q : Exit → Act → World → Prop} {rest : List Oper} {dst : Option Tmp} {ty : TypeId} {pos : String} {af : Array Edge} {f : FuncId} {A : List Operand} {ts : Array TypeId} {vals : List Value} {v : Value} {u : Option Nat}
theorem zw {cs : List Value} {t : TypeId} {R : Value → Imm → Hp → Prop} (h : ∀ b, x.w0.heap.size ≤ b → R (.pointer (some ⟨b, 0, none⟩)) D ((b, .cells cs.toArray t (0, 0)) :: hp)) : ∀ v D' hp', NewK x D hp cs t v D' hp' → R v D' hp' := fun _ _ _ ⟨b, hb, e1, e2, e3⟩ => by subst e1; subst e2; subst e3; exact h b hb
theorem WL.cl [CaF P f] (ha : opvs fr A = some vals) (hk : ∀ w, Inv D hp x.S x.w0 w → z8 P f vals w v) (h : WL P x ops (wj dst v fr) D hp rest Q) (hd : dstB dst x.n = true := by rfl) : WL P x ops fr D hp (⟨dst, .call ⟨.value (.func f), A.toArray, ts⟩, ty, pos, af, none⟩ :: rest) Q := WL.so (SO.call (Enters.func CaF.h ha) hk) hd (zs h)
theorem WLF.cl [CaF P f] (ha : opvs fr A = some vals) (hk : ∀ w, Inv D hp x.S x.w0 w → z8 P f vals w v) (h : WLF P u x ops (wj dst v fr) D hp rest Q) (hd : dstB dst x.n = true := by rfl) : WLF P u x ops fr D hp (⟨dst, .call ⟨.value (.func f), A.toArray, ts⟩, ty, pos, af, none⟩ :: rest) Q := WLF.so (zn rfl) (SO.call (Enters.func CaF.h ha) hk) hd (zs h)
theorem WL.nf {ch : List PanicEntry} [CaF P f] (ha : opvs fr A = some vals) (hk : ∀ w, Inv D hp x.S x.w0 w → xC P f vals w ch) (h : WP x fr D hp (.panic ch) Q) : WL P x ops fr D hp (⟨dst, .call ⟨.value (.func f), A.toArray, ts⟩, ty, pos, af, none⟩ :: rest) Q := WL.no (SO.fail (Enters.func CaF.h ha) hk h)
theorem WL.al {t : TypeId} {z : Value} {cs : List Value} [ZvF P t z] (h : ∀ b, x.w0.heap.size ≤ b → WL P x ops (wj dst (.pointer (some ⟨b, 0, none⟩)) fr) D ((b, .cells cs.toArray t (0, 0)) :: hp) rest Q) (hc : z.cells = cs.toArray) (hd : dstB dst x.n = true := by rfl) : WL P x ops fr D hp (⟨dst, .alloc t, ty, pos, af, none⟩ :: rest) Q := WL.so (SO.alloc ZvF.h hc) hd (zw h)
end so2
structure Wh (i : Nat) (r p : Prop) : Prop where
  go : r → p
section wh
variable {P : Program} {x : Cx} {fr : Fr} {D D0 : Imm} {hp hp0 : Hp} {ops : Array Oper} {Q : Exit → Act → World → Prop} {n i : Nat} {listed : Array Bool} {d : Tmp} {op : Op} {ty : TypeId} {pos : String} {af : Array Edge} {v : Value}
theorem Wh.yd (hc : ((Region.ready .any ops listed).contains i && Region.free .any ops listed i && Region.noSelect ops) = true) (hQ : zN ops Q) (ho : ops[i]? = some ⟨some d, op, ty, pos, af, none⟩)
    (hy : Yd P x fr D0 hp0 op ty v) (hd : Nat.blt d x.n = true) : Wh i (WH P x ops D0 hp0 n (listed.setIfInBounds i true) ((d, v) :: fr) D hp Q) (WH P x ops D0 hp0 (n + 1) listed fr D hp Q) := ⟨fun h => WH.yd hc hQ ho hy hd h⟩
theorem Wh.ydD (hc : ((Region.ready .any ops listed).contains i && Region.free .any ops listed i && Region.noSelect ops) = true) (hQ : zU d Q) (ho : ops[i]? = some ⟨some d, op, ty, pos, af, none⟩)
    (hy : Yd P x fr D0 hp0 op ty v) (hd : Nat.blt d x.n = true) : Wh i (WH P x ops D0 hp0 n (listed.setIfInBounds i true) ((d, v) :: fr) D hp Q) (WH P x ops D0 hp0 (n + 1) listed fr D hp Q) := ⟨fun h => WH.ydD hc hQ ho hy hd h⟩
theorem zH {r p : Prop} (h : Wh i r p := by first | exact Wh.yd zk zX rfl zY rfl | exact Wh.ydD zk zX rfl zY rfl) : Wh i r p := h
end wh
section steps
variable {P : Program} {x : Cx} {fr : Fr} {D : Imm} {hp : Hp} {ops : Array Oper} {Q : Exit → Act → World → Prop} {rest : List Oper}
def pickF (fr : Fr) : List Nat → Option Fr
  | [] => some []
  | t :: l => match fr.get t with
    | some v => match pickF fr l with
      | some r => some ((t, v) :: r)
      | none => none
    | none => none
theorem uh : ∀ {l : List Nat} {r : Fr}, pickF fr l = some r → subB r fr
  | [], r, h => by simp [pickF] at h; subst h; trivial
  | t :: l, r, h => by
    simp only [pickF] at h;cases hc : fr.get t with
    | none => rw [hc] at h; cases h
    | some v =>
      rw [hc] at h;cases hr : pickF fr l with
      | none => rw [hr] at h; cases h
      | some u => rw [hr] at h; cases h; exact ⟨hc, uh hr⟩
structure Wk (l : List (List Nat)) (p : Prop) : Prop where
  go : p
variable {q : Prop}
theorem Wk.done {p : Prop} : p → Wk [] p := fun h => ⟨h⟩
theorem Wk.step {n : Nat} {l : List (List Nat)} {r p : Prop} (h : r → p) (k : q → Wk ([n] :: l) r) : q → Wk ([n + 1] :: l) p := fun a => ⟨h (k a).go⟩
theorem Wk.zero {l : List (List Nat)} {p : Prop} (k : q → Wk l p) : q → Wk ([0] :: l) p := fun a => ⟨(k a).go⟩
theorem Wk.pkC {n t : Nat} {s : List Nat} {l : List (List Nat)} {r : Fr} {c : Code} (h : pickF fr (t :: s) = some r) (k : q → Wk ([n] :: l) (WC P x r D hp c Q)) : q → Wk ((n :: t :: s) :: l) (WC P x fr D hp c Q) := fun a => ⟨WC.ofFr r (uh h) (k a).go⟩
theorem Wk.pkF {n t : Nat} {s : List Nat} {l : List (List Nat)} {r : Fr} {c : Code} {u : Option Nat} (h : pickF fr (t :: s) = some r) (k : q → Wk ([n] :: l) (WCF P u x r D hp c Q)) : q → Wk ((n :: t :: s) :: l) (WCF P u x fr D hp c Q) := fun a => ⟨WCF.ofFr r (uh h) (k a).go⟩
theorem Wk.pkn {n t : Nat} {s : List Nat} {l : List (List Nat)} {r : Fr} {c : Code} {f : FuncId} (h : pickF fr (t :: s) = some r) (k : q → Wk ([n] :: l) (WCn f P x r D hp c Q)) : q → Wk ((n :: t :: s) :: l) (WCn f P x fr D hp c Q) := fun a => ⟨WCn.ofFr r (uh h) (k a).go⟩
theorem Wk.wh {i : Nat} {l : List (List Nat)} {r p : Prop} (h : Wh i r p) (k : q → Wk l r) : q → Wk ([i + 1000] :: l) p := fun a => ⟨h.go (k a).go⟩
theorem Wk.tl {n id : Nat} {l : List (List Nat)} {os : List Oper} (hm : P.follows .mixedOrders = true) (hB : X0 os.toArray n = true)
    (k : q → Wk l (WQ P x os.toArray D hp (fun a' => ∀ w', Inv D hp x.S x.w0 w' → wpList P os.toArray Q (os.drop n) a' w') (List.range n) fr)) : q → Wk ([n + 3000] :: l) (WC P x fr D hp (.region id os.toArray true) Q) := fun a => ⟨WC.tail n _ rfl hm hB (k a).go⟩
theorem gWL {r : Prop} {P : Program} {x : Cx} {ops : Array Oper} {fr : Fr} {D : Imm} {hp : Hp} {l : List Oper} {Q : Exit → Act → World → Prop} (h : r → WL P x ops fr D hp l Q) : r → WL P x ops fr D hp l Q := h
theorem gWP {r : Prop} {x : Cx} {fr : Fr} {D : Imm} {hp : Hp} {e : Exit} {Q : Exit → Act → World → Prop} (h : r → WP x fr D hp e Q) : r → WP x fr D hp e Q := h
theorem gWC {r : Prop} {P : Program} {x : Cx} {fr : Fr} {D : Imm} {hp : Hp} {c : Code} {Q : Exit → Act → World → Prop} (h : r → WC P x fr D hp c Q) : r → WC P x fr D hp c Q := h
theorem gWQ {r : Prop} {P : Program} {x : Cx} {ops : Array Oper} {D : Imm} {hp : Hp} {K : Act → Prop} {l : List Nat} {fr : Fr} (h : r → WQ P x ops D hp K l fr) : r → WQ P x ops D hp K l fr := h
theorem gWA {r : Prop} {P : Program} {x : Cx} {ops : Array Oper} {D0 : Imm} {hp0 : Hp} {pl : List (Nat × Bool)} {fr : Fr} {D : Imm} {hp : Hp} {Q : Exit → Act → World → Prop} (h : r → WA P x ops D0 hp0 pl fr D hp Q) : r → WA P x ops D0 hp0 pl fr D hp Q := h
theorem gWLF {r : Prop} {P : Program} {u : Option Nat} {x : Cx} {ops : Array Oper} {fr : Fr} {D : Imm} {hp : Hp} {l : List Oper} {Q : Exit → Act → World → Prop} (h : r → WLF P u x ops fr D hp l Q) : r → WLF P u x ops fr D hp l Q := h
theorem gWCF {r : Prop} {P : Program} {u : Option Nat} {x : Cx} {fr : Fr} {D : Imm} {hp : Hp} {c : Code} {Q : Exit → Act → World → Prop} (h : r → WCF P u x fr D hp c Q) : r → WCF P u x fr D hp c Q := h
theorem gWCn {r : Prop} {f : FuncId} {P : Program} {x : Cx} {fr : Fr} {D : Imm} {hp : Hp} {c : Code} {Q : Exit → Act → World → Prop} (h : r → WCn f P x fr D hp c Q) : r → WCn f P x fr D hp c Q := h
theorem z1 {q p : Prop} (h : q → p := by
  first
  | (apply gWL
     first
     | exact WL.yd zY rfl
     | exact WL.nil
     | exact WL.skip rfl rfl
     | exact WL.ydg rfl zY rfl
     | exact fun k => WL.so (SO.st rfl rfl rfl rfl zHk) rfl (zt k)
     | exact WL.skipU rfl rfl)
  | (apply gWP
     first
     | exact WP.thenC
     | exact WP.blkNormal
     | exact WP.thenCF
     | exact WP.thenRet
     | exact WP.thenPanic
     | exact WP.thenExit
     | exact WP.blkRet
     | exact WP.blkPanic
     | exact WP.blkHit
     | exact WP.blkMiss rfl
     | exact WP.thenCn)
  | (apply gWC
     first
     | exact WC.seq
     | exact WC.region
     | exact WC.block
     | exact WC.skip
     | exact WC.ret
     | exact WC.exit
     | exact WC.condT rfl
     | exact WC.condF rfl)
  | (apply gWQ
     first
     | exact WQ.q rfl (Yd.qt zY) rfl
     | exact WQ.tail
     | exact WQ.skip rfl rfl rfl
     | exact WQ.qg rfl rfl (Yd.qt zY) rfl
     | exact WQ.skipU rfl rfl rfl)
  | (apply gWA
     first
     | exact WA.yd rfl zY rfl
     | exact WA.nil
     | exact WA.skip rfl rfl rfl
     | exact WA.ydg rfl rfl zY rfl
     | exact WA.skipU rfl rfl rfl)
  | (apply gWLF
     first
     | exact WLF.yd (zn rfl) zY rfl
     | exact WLF.nil
     | exact WLF.skip (zn rfl) rfl rfl
     | exact WLF.ydg (zn rfl) rfl zY rfl
     | exact fun k => WLF.so (zn rfl) (SO.st rfl rfl rfl rfl zHk) rfl (zt k))
  | (apply gWCF
     first
     | exact WCF.seq
     | exact WCF.region
     | exact WCF.skip
     | exact WCF.ret
     | exact WCF.exit
     | exact WCF.block)
  | (apply gWCn
     first
     | exact WCn.seq
     | exact WCn.block
     | exact WCn.of)) : q → p := h
theorem g (l : List (List Nat)) {p : Prop} (k : q) (h : q → Wk l p := by
  repeat first
  | exact Wk.done
  | (apply Wk.tl; exact zk; exact zk)
  | (apply Wk.wh; exact zH)
  | (apply Wk.step; exact z1)
  | apply Wk.zero
  | (apply Wk.pkC; exact rfl)
  | (apply Wk.pkF; exact rfl)
  | (apply Wk.pkn; exact rfl)) : p := (h k).go
end steps
end Go.W
