import Derived.Test.YtejgofaeafphjaaGreatDoorXG3
import Derived.Lib.Strings
import Derived.Below
import Derived.Sort.Grow
import Derived.Deep.Draws
import Derived.StringKeys
set_option linter.all false
set_option maxRecDepth 100000
set_option maxHeartbeats 4000000
namespace Go.W
abbrev st (l : List UInt8) : Value := .string ⟨l.toArray⟩
abbrev bt (b : UInt8) : Value := .int .u8 (b.toNat : Int)
theorem wk (l : List UInt8) : (⟨l.toArray⟩ : ByteArray).size = l.length := by simp [ByteArray.size]
theorem US (l : List UInt8) : (⟨l.toArray⟩ : ByteArray).toList = l := by rw [Lib.toList_data]
theorem zd6 {a b : List UInt8} (h : st a = st b) : a = b := by
  simp only [st, Value.string.injEq, ByteArray.mk.injEq] at h;simpa using congrArg Array.toList h
section
variable {P : Program} {x : Cx} {fr : Fr} {D : Imm} {hp : Hp} {ty : TypeId} {Q : Exit → Act → World → Prop}
theorem Yd.binS {op : BinOp} {t t' : TypeId} {o p : Operand} {a b : List UInt8} {v : Value} (ho : opv fr o = some (st a)) (hp' : opv fr p = some (st b)) (hv : ∀ w, (Op.stringOp op ⟨a.toArray⟩ ⟨b.toArray⟩).run P w = .ok v w) :
    Yd P x fr D hp (.binOp op t o p t') ty v := fun act w _ _ _ _ hA _ => by
  simp only [execOp, hA.eval ho, hA.eval hp'];have hg : (eqGuard op t o p (st a) (st b)).run P w = .ok () w := by unfold eqGuard; split <;> rfl
  have hb : (Go.binOp op t (st a) (st b)).run P w = .ok v w := by
    have : Go.binOp op t (st a) (st b) = Op.stringOp op ⟨a.toArray⟩ ⟨b.toArray⟩ := by cases op <;> rfl
    rw [this]; exact hv w
  simp [hg, hb]
theorem Yd.eqS' {t t' : TypeId} {o p : Operand} {a b : List UInt8} (ho : opv fr o = some (st a)) (hp' : opv fr p = some (st b)) : Yd P x fr D hp (.binOp .eql t o p t') ty (.bool (decide (a = b))) :=
  .binS ho hp' fun w => by
    have : (a == b) = decide (a = b) := by rw [Bool.eq_iff_iff]; simp
    simp only [Op.stringOp, US, this]; rfl
theorem Yd.neS' {t t' : TypeId} {o p : Operand} {a b : List UInt8} (ho : opv fr o = some (st a)) (hp' : opv fr p = some (st b)) : Yd P x fr D hp (.binOp .neq t o p t') ty (.bool (decide (a ≠ b))) :=
  .binS ho hp' fun w => by
    have : (!(a == b)) = decide (a ≠ b) := by rw [Bool.eq_iff_iff]; simp
    simp only [Op.stringOp, US, this]; rfl
theorem Yd.lenStr {t : TypeId} {ts : Array TypeId} {p : Operand} {a : List UInt8} (ht : ts[0]? = some t) (hu : P.underlying t = some .string) (hp' : opv fr p = some (st a)) :
    Yd P x fr D hp (.call ⟨.builtin .len, #[p], ts⟩) ty (nt a.length) := fun act w _ _ _ _ hA _ => by
  simp only [execOp, resolve, List.map_toArray, List.map_cons, List.map_nil, hA.eval hp'];simp [invoke, builtin, Builtin.len_, ht, run_underlying hu, goInt, wk]
theorem Yd.sliceStr {t : TypeId} {p : Operand} {lo hi : Option Operand} {a : List UInt8} {i j : Nat} (hu : P.underlying t = some .string) (hp' : opv fr p = some (st a))
    (hlo : ∀ u, lo = some u → opv fr u = some (nt i)) (hlo' : lo = none → i = 0) (hhi : ∀ u, hi = some u → opv fr u = some (nt j)) (hhi' : hi = none → j = a.length) (h1 : i ≤ j) (h2 : j ≤ a.length) :
    Yd P x fr D hp (.slice t p lo hi none) ty (st ((a.drop i).take (j - i))) := fun act w _ _ _ _ hA _ => by
  have hx : (⟨a.toArray⟩ : ByteArray).extract i j = ⟨((a.drop i).take (j - i)).toArray⟩ := Lib.extract_eq _ _ _
  have hb : ∀ (u : Option Operand) (n y : Nat) (c : BoundsCode), (∀ z, u = some z → opv fr z = some (nt n)) → n ≤ y → ∀ z, u = some z → (Instr.sliceBound (act.eval z) y c).run P w = .ok n w := fun u n y c hz hn z hu' => by
    rw [hA.eval (hz z hu')];have h1 : (asIntOf (nt n)).run P w = .ok (IntKind.i64, (n : Int)) w := rfl;simp only [Instr.sliceBound, Sem.run_bind, h1, Result.andThen_ok];rw [if_pos (by omega)];simp
  have : (Instr.slice t (st a) (lo.map act.eval) (hi.map act.eval) none).run P w = .ok (st ((a.drop i).take (j - i))) w := by
    have hs : (⟨a.toArray⟩ : ByteArray).size = a.length := wk a
    have hB : (Instr.sliceBounds false a.length a.length (lo.map act.eval) (hi.map act.eval) none).run P w = .ok (i, j, a.length) w := by
      cases hi with
      | none =>
        obtain rfl := hhi' rfl;cases lo with
        | none => obtain rfl := hlo' rfl; rfl
        | some u =>
          have h3 := hb (some u) i a.length .sliceB hlo h1 u rfl;simp only [Instr.sliceBounds, Option.map_none, Option.map_some, Sem.run_bind, Sem.run_pure, Result.andThen_ok, Option.isSome_none, Bool.false_eq_true, if_false, h3]
      | some v =>
        have h4 := hb (some v) j a.length .sliceAlen hhi h2 v rfl;cases lo with
        | none =>
          obtain rfl := hlo' rfl;simp only [Instr.sliceBounds, Option.map_none, Option.map_some, Sem.run_bind, Sem.run_pure, Result.andThen_ok, Bool.false_eq_true, if_false, h4]
        | some u =>
          have h3 := hb (some u) i j .sliceB hlo h1 u rfl;simp only [Instr.sliceBounds, Option.map_none, Option.map_some, Sem.run_bind, Sem.run_pure, Result.andThen_ok, Option.isSome_none, Bool.false_eq_true, if_false, h4, h3]
    simp only [Instr.slice, Sem.run_bind, run_underlying hu, Result.andThen_ok, Option.isSome_none, Bool.false_eq_true, if_false, hs, hB, hx, Sem.run_pure]
  simp only [execOp, hA.eval hp', Option.map_none];simp [this, Instr.sliceAt, run_underlying hu]
theorem Yd.sliceToS {t : TypeId} {p u : Operand} {a : List UInt8} {j : Nat} (hu : P.underlying t = some .string) (hp' : opv fr p = some (st a)) (hhi : opv fr u = some (nt j)) (h1 : j ≤ a.length) :
    Yd P x fr D hp (.slice t p none (some u) none) ty (st (a.take j)) := by
  have := Yd.sliceStr (P := P) (x := x) (D := D) (hp := hp) (ty := ty) (lo := none) (hi := some u) (i := 0) (j := j) hu hp' (fun z e => by cases e) (fun _ => rfl) (fun z e => by cases e; exact hhi) (fun e => by cases e) (Nat.zero_le _) h1
  rwa [List.drop_zero, Nat.sub_zero] at this
theorem Yd.assertNo {o : Operand} {xt t t' : TypeId} {d : TypeDesc} {v z : Value} (hu : P.underlying t = some d) (hd : ∀ ms, d ≠ .interface ms) (hz : ∀ w, (zeroValue t).run P w = .ok z w) (ho : opv fr o = some (.iface t' v)) (hne : Nat.beq t' t = false) :
    Yd P x fr D hp (.typeAssert o xt t true) ty (.tuple #[z, .bool false]) := fun a w _ _ _ _ hA _ => by
  simp only [execOp, hA.eval ho];have hn : ¬ t' = t := fun e => by subst e; simp at hne
  have : (Instr.typeAssert (.iface t' v) xt t true).run P w = .ok (.tuple #[z, .bool false]) w := by
    unfold Instr.typeAssert;simp only [Sem.run_bind, run_underlying hu, Result.andThen_ok];cases d <;> simp [hn, hz] at hd ⊢
  simp [this]
end
end Go.W
namespace Go.W
def WpN (f : FuncId) (P : Program) (c : Code) (Q : Exit → Act → World → Prop) (a : Act) (w : World) : Prop :=
  ∀ (b : Frame) (k : List Item) (cs : List Frame), b.roundOf = none → b.fn = f → ∃ e a' w', Q e a' w' ∧ ArrivesIn (Machine.fenced P Fence.wide) P (lone (b.atR a (.code c :: k)) cs w) b k cs e a' w'
def WCn (f : FuncId) (P : Program) (x : Cx) (fr : Fr) (D : Imm) (hp : Hp) (c : Code) (Q : Exit → Act → World → Prop) : Prop := ∀ a w, At x fr D hp a w → WpN f P c Q a w
theorem sIn {P : Program} {m m' : Machine} (h : step P m = .next m') : StepsIn (Machine.fenced P Fence.wide) P m m' := stepsIn_wide.2 (.one h)
section
variable {f : FuncId} {P : Program} {x : Cx} {fr : Fr} {D : Imm} {hp : Hp} {Q : Exit → Act → World → Prop}
theorem WCn.of {c : Code} (h : WC P x fr D hp c Q) : WCn f P x fr D hp c Q := fun a w hA b k cs hro _ => (wpIn_wide (n := 0)).2 (h a w hA) b k cs hro trivial (fun _ h => by cases h)
theorem WCn.seq {c d : Code} (h : WCn f P x fr D hp c (Exit.then (WpN f P d Q) Q)) : WCn f P x fr D hp (.seq c d) Q := fun a w hA b k cs hro hf => by
  obtain ⟨e, a₁, w₁, hq, harr⟩ := h a w hA b (.code d :: k) cs hro hf;have h0 : StepsIn (Machine.fenced P Fence.wide) P (lone (b.atR a (.code (.seq c d) :: k)) cs w) (lone (b.atR a (.code c :: .code d :: k)) cs w) := sIn stepR_seq;cases e with
  | normal =>
    obtain ⟨e', a₂, w₂, hq', harr'⟩ := hq b k cs hro hf;exact ⟨e', a₂, w₂, hq', .of_steps (h0.trans harr) harr'⟩
  | exit id =>
    have hx : exitTo id (.code d :: k) = exitTo id k := by simp [exitTo]
    exact ⟨.exit id, a₁, w₁, hq, fun k' hk => h0.trans (harr.1 k' (by rw [hx]; exact hk)), fun hr => by rw [hro] at hr; cases hr⟩
  | goto l => exact ⟨.goto l, a₁, w₁, hq, fun k' hk => h0.trans (harr.1 k' (by simpa [gotoIn] using hk)), fun hr => by rw [hro] at hr; cases hr⟩
  | ret => exact ⟨_, a₁, w₁, hq, .of_steps h0 harr⟩
  | panic ch => exact ⟨_, a₁, w₁, hq, .of_steps h0 harr⟩
  | outgrown => exact ⟨_, a₁, w₁, hq, .of_steps h0 harr⟩
theorem WCn.block {id : Nat} {c : Code} (h : WCn f P x fr D hp c (Exit.inBlock id Q)) : WCn f P x fr D hp (.block id c) Q := fun a w hA b k cs hro hf => by
  obtain ⟨e, a₁, w₁, hq, harr⟩ := h a w hA b (.inBlock id :: k) cs hro hf;have h0 : StepsIn (Machine.fenced P Fence.wide) P (lone (b.atR a (.code (.block id c) :: k)) cs w) (lone (b.atR a (.code c :: .inBlock id :: k)) cs w) := sIn stepR_block;cases e with
  | normal => exact ⟨.normal, a₁, w₁, hq, h0.trans (StepsIn.trans harr (sIn stepR_inBlock))⟩
  | exit id' =>
    by_cases hi : id' = id
    · subst hi
      have hq' : Q .normal a₁ w₁ := by
        have : (if id' = id' then Q .normal a₁ w₁ else Q (.exit id') a₁ w₁) := hq
        rwa [if_pos rfl] at this
      exact ⟨.normal, a₁, w₁, hq', h0.trans (harr.1 k (by simp [exitTo]))⟩
    · have hq' : Q (.exit id') a₁ w₁ := by
        have : (if id' = id then Q .normal a₁ w₁ else Q (.exit id') a₁ w₁) := hq
        rwa [if_neg hi] at this
      have hx : exitTo id' (.inBlock id :: k) = exitTo id' k := by simp [exitTo]; intro e; exact absurd e.symm hi
      exact ⟨.exit id', a₁, w₁, hq', fun k' hk => h0.trans (harr.1 k' (by rw [hx]; exact hk)), fun hr => by rw [hro] at hr; cases hr⟩
  | goto l => exact ⟨.goto l, a₁, w₁, hq, fun k' hk => h0.trans (harr.1 k' (by simpa [gotoIn] using hk)), fun hr => by rw [hro] at hr; cases hr⟩
  | ret => exact ⟨_, a₁, w₁, hq, .of_steps h0 harr⟩
  | panic ch => exact ⟨_, a₁, w₁, hq, .of_steps h0 harr⟩
  | outgrown => exact ⟨_, a₁, w₁, hq, .of_steps h0 harr⟩
theorem WCn.ofFr {c : Code} (fr' : Fr) (hf : subB fr' fr) (h : WCn f P x fr' D hp c Q) : WCn f P x fr D hp c Q := fun a w hA => h a w ⟨hA.f.weaken (x8 hf), hA.i⟩
theorem WP.thenCn {d : Code} (h : WCn f P x fr D hp d Q) : WP x fr D hp .normal (Exit.then (WpN f P d Q) Q) := h
end
def xT (P : Program) (l : Nat) (R : Ending → World → Prop) : Exit → Act → World → Prop
  | .normal, _, w => ∃ v w', (Instr.endRound l none).run P w = .ok v w' ∧ R (.returned v) w'
  | .panic ch, a, w => a.defers = [] ∧ R (.panicked ch) w
  | _, _, _ => False
theorem JI {P : Program} {l : Nat} {fn : FuncId} {g : Func} {tmps : Array Value} {assign body : Code} {w : World} {R : Ending → World → Prop} (hg : P.funcs[fn]? = some g)
    (h : assign.wpIn (Fx (some l)) 0 P (Exit.then (fun a₁ w₁ => ∃ w₂, (Instr.beginRound l).run P w₁ = .ok () w₂ ∧ body.wpIn (Fx (some l)) 0 P (xT P l R) a₁ w₂) (fun _ _ _ => False)) { tmps := tmps, defers := [] } w) :
    RoundIn Fence.wide 0 P l fn tmps assign body w R := by
  refine ⟨trivial, fun c cs _ => ?_⟩
  let b : Frame := { (default : Frame) with fn := fn, kind := .normal, roundOf := some l }
  have hb0 : Frame.round l fn tmps assign body .normal = b.atR { tmps := tmps, defers := [] } [.code assign, .beginRound, .code body] := by
    simp [Frame.round, Frame.atR, b]
  have up : ∀ {m m' : Machine}, StepsIn (Machine.fenced P (Fx (some l))) P m m' → Steps P m m' := fun s => s.steps;obtain ⟨e, a₁, w₁, hq, harr⟩ := h b [.beginRound, .code body] (c :: cs) rfl trivial (fun _ h => by cases h);rw [← hb0] at harr;cases e with
  | normal =>
    obtain ⟨w₂, hbr, hbody⟩ := hq;have s1 : Steps P (lone (b.atR a₁ [.beginRound, .code body]) (c :: cs) w₁) (lone (b.atR a₁ [.code body]) (c :: cs) w₂) := .one (stepR_beginRound rfl hbr);obtain ⟨e₂, a₂, w₃, hq₂, harr₂⟩ := hbody b [] (c :: cs) rfl trivial (fun _ h => by cases h);cases e₂ with
    | normal =>
      obtain ⟨v, w₄, hend, hR⟩ := hq₂;exact ⟨.returned v, w₄, hR, stepsIn_wide.2 (((up harr).trans s1).trans ((up harr₂).trans (.one (stepR_round_end rfl rfl hend))))⟩
    | panic ch =>
      obtain ⟨hd, hR⟩ := hq₂;obtain ⟨todo, hs⟩ := harr₂;exact ⟨.panicked ch, w₃, hR, stepsIn_wide.2 (((up harr).trans s1).trans ((up hs).trans (.one (step_leave_panicked ⟨rfl, hd, g, hg⟩))))⟩
    | exit id => exact hq₂.elim
    | goto t => exact hq₂.elim
    | ret => exact hq₂.elim
    | outgrown => exact hq₂.elim
  | exit id => exact hq.elim
  | goto t => exact hq.elim
  | ret => exact hq.elim
  | panic ch => exact hq.elim
  | outgrown => exact hq.elim
def jE (W : World) (D : Imm) (S : List Nat) (K : Imm → Hp → Prop) (C : List PanicEntry → Imm → Hp → Prop) (e : Ending) (W' : World) : Prop :=
  ∃ D' hp', DExt W D D' ∧ Inv D' hp' S W W' ∧ ((e = .returned (.bool true) ∧ K D' hp') ∨ ∃ ch, e = .panicked ch ∧ C ch D' hp')
def V4 (P : Program) (f : FuncId) (vals : List Value) (w : World) (D : Imm) (S : List Nat) (K : Imm → Hp → Prop) (C : List PanicEntry → Imm → Hp → Prop) : Prop :=
  Calls P f vals.toArray w fun e w' => ∃ D' hp', DExt w D D' ∧ Inv D' hp' S w w' ∧ ((∃ v, e = .returned v ∧ K D' hp') ∨ ∃ ch, e = .panicked ch ∧ C ch D' hp')
def zc2 (P : Program) (gf : Nat) (lb : List Value) (N : Nat) (arg : Nat → Value) (D : Imm) (ih : Hp) (w : World) : Prop :=
  ∀ (l : Nat) (St : Nat → Imm → Hp → Prop) (C : List PanicEntry → Imm → Hp → Prop), (∀ k D1 D2 h, DExt w D1 D2 → St k D1 h → St k D2 h) →
    (∀ k D' h w', k < N → w.heap.size ≤ w'.heap.size → DExt w D D' → St k D' h → Inv D' h (keys h) w' w' → YieldAt Fence.wide 0 P l #[arg k] w' (jE w' D' (keys h) (St (k + 1)) C)) →
    ∀ h0, St 0 D h0 → Inv D (ih ++ h0) (keys (ih ++ h0)) w w → V4 P gf ((.func (.yield l) #[] #[]) :: lb) w D (keys (ih ++ h0)) (St N) C
section
variable {f : FuncId} {P : Program} {x : Cx} {fr : Fr} {D : Imm} {hp : Hp} {Q : Exit → Act → World → Prop}
def RKP (l : Nat) (rec : Loop) (pre : Hp) (St : Imm → Hp → Prop) (D' : Imm) (h : Hp) : Prop := ∃ h1, h = (l, .loop rec) :: (pre ++ h1) ∧ St D' h1
def CKP (pre : Hp) (C : List PanicEntry → Imm → Hp → Prop) (ch : List PanicEntry) (D' : Imm) (h : Hp) : Prop := ∃ h1, h = pre ++ h1 ∧ C ch D' h1
def qy (P : Program) (n : Nat) (l : Nat) (rec : Loop) (pre : Hp) (fr : Fr) (D1 : Imm) (h : Hp) (w1 : World) (assign body : Code) (St : Imm → Hp → Prop) (C : List PanicEntry → Imm → Hp → Prop) : Prop :=
  WCF P (some l) ⟨n, [], keys ((l, .loop rec) :: (pre ++ h)), w1⟩ fr D1 ((l, .loop rec) :: (pre ++ h)) assign
    (Exit.then (fun a₁ w₁ => ∃ w₂, (Instr.beginRound l).run P w₁ = .ok () w₂ ∧ body.wpIn (Fx (some l)) 0 P (xT P l (jE w1 D1 (keys ((l, .loop rec) :: (pre ++ h))) (RKP l rec pre St) (CKP pre C))) a₁ w₂) (fun _ _ _ => False))
theorem WP.iterOnP {l : Nat} {rec : Loop} {pre h1 : Hp} {D0 : Imm} {St : Imm → Hp → Prop} {C : List PanicEntry → Imm → Hp → Prop} (hr : rec.state = .ready ∧ rec.pending = none) (hsub : ∀ e, e ∈ (l, .loop (u4 rec)) :: (pre ++ h1) → e ∈ hp) (hn : (keys hp).Nodup → (keys ((l, .loop (u4 rec)) :: (pre ++ h1))).Nodup)
    (hD : DExt x.w0 D0 D) (h : St D h1) : WP x fr D hp .normal (xT P l (jE x.w0 D0 x.S (RKP l rec pre St) (CKP pre C))) := fun a w hA => by
  have hI := hA.i.sub hsub (hn hA.i.nodup);have hl := hI.own _ _ (List.mem_cons_self);have hI2 := yB hI (k := 0) rfl (.loop { u4 rec with state := .ready, pending := none });refine ⟨_, _, run_endRound none hl, D, _, hD, hI2, .inl ⟨rfl, h1, ?_, h⟩⟩
  show (l, Obj.loop { u4 rec with state := .ready, pending := none }) :: _ = _;rw [show ({ u4 rec with state := .ready, pending := none } : Loop) = { rec with state := .ready, pending := none } from rfl, rec_eta' hr.1 hr.2]
theorem WP.iterPanic {l : Nat} {ch : List PanicEntry} {pre h1 : Hp} {D0 : Imm} {K : Imm → Hp → Prop} {C : List PanicEntry → Imm → Hp → Prop} (hd : x.ds = []) (hsub : ∀ e, e ∈ pre ++ h1 → e ∈ hp) (hn : (keys hp).Nodup → (keys (pre ++ h1)).Nodup)
    (hD : DExt x.w0 D0 D) (h : C ch D h1) : WP x fr D hp (.panic ch) (xT P l (jE x.w0 D0 x.S K (CKP pre C))) := fun _ _ hA =>
  ⟨hA.f.defers.trans hd, D, _, hD, hA.i.sub hsub (hn hA.i.nodup), .inr ⟨ch, rfl, h1, rfl, h⟩⟩
theorem WCn.rangeIterP {g : Operand} {pm : Tmp} {assign body : Code} {gf : Nat} {lb : List Value} {N : Nat} {arg : Nat → Value} {fn : Func} (ih hp0 : Hp) (hhp : hp = ih ++ hp0) (hfn : P.funcs[f]? = some fn) (hit : ∀ w, x.w0.heap.size ≤ w.heap.size → Holds D w → zc2 P gf lb N arg D ih w) (hg : opv fr g = some (.func (.func gf) #[] lb.toArray)) (hc : ∀ args w, (callFunc gf args).run P w = .ok (.enter gf args) w) (hpm : Nat.blt pm x.n = true)
    (St : Nat → Imm → Hp → Prop) (C : List PanicEntry → Imm → Hp → Prop) (hmono : ∀ k D1 D2 h, DExt x.w0 D1 D2 → St k D1 h → St k D2 h) (h0 : St 0 D hp0)
    (hbody : ∀ rec l Dn k D1 h w1, (rec.state = .ready ∧ rec.pending = none) → k < N → St k D1 h → DExt x.w0 D D1 → x.w0.heap.size ≤ w1.heap.size → qy P x.n l rec [(Dn, .deferred (some []))] ((pm, arg k) :: fr) D1 h w1 assign body (St (k + 1)) C)
    (hdone : ∀ Dn D' hp', x.w0.heap.size ≤ Dn → DExt x.w0 D D' → St N D' hp' → WP ⟨x.n, y1 Dn :: x.ds, x.S, x.w0⟩ fr D' ((Dn, .deferred (some [])) :: hp') .normal Q)
    (hpan : ∀ Dn ch D' hp', x.w0.heap.size ≤ Dn → DExt x.w0 D D' → C ch D' hp' → WP ⟨x.n, y1 Dn :: x.ds, x.S, x.w0⟩ fr D' ((Dn, .deferred (some [])) :: hp') (.panic ch) Q) :
    WCn f P x fr D hp (.rangeFunc g #[pm] assign body) Q := fun a w hA b k cs hro hf => by
  let rcd : Loop := { state := .ready, pending := none, fn := f, tmps := a.tmps, params := #[pm], assign, body, defers := w.heap.size }
  let w₁ : World := (w.alloc (.deferred (some []))).alloc (.loop rcd)
  let Dn := w.heap.size
  let l := w.heap.size + 1
  have hI1 : Inv D ((l, .loop rcd) :: (Dn, .deferred (some [])) :: hp) x.S x.w0 w₁ := by
    have h1 := hA.i.new (.deferred (some []));have h2 := h1.new (.loop rcd);simp only [Array.size_push] at h2;exact h2
  subst hhp
  have hp' : List.Perm ((l, Obj.loop rcd) :: (Dn, .deferred (some [])) :: (ih ++ hp0)) (ih ++ ((l, .loop rcd) :: ([(Dn, .deferred (some []))] ++ hp0))) := by
    refine List.Perm.trans ?_ (List.perm_middle.symm);refine List.Perm.cons _ ?_;exact (List.perm_middle (l₁ := ih) (l₂ := hp0) (a := (Dn, Obj.deferred (some [])))).symm
  have hI1' : Inv D (ih ++ ((l, .loop rcd) :: ([(Dn, .deferred (some []))] ++ hp0))) x.S x.w0 w₁ := hI1.sub (fun _ he => hp'.mem_iff.2 he) ((hp'.map Prod.fst).nodup_iff.1 hI1.nodup);have hsz := hI1.keep.size;have hev : a.eval g = .func (.func gf) #[] lb.toArray := hA.f.eval hg;have hT : AtF x.n fr [] ⟨rcd.tmps, []⟩ := ⟨hA.f.size, rfl, hA.f.slot⟩
  have hal := hit w₁ hsz hI1.imm l (fun k D' h => RKP l rcd [(Dn, .deferred (some []))] (St k) D' h) (CKP [(Dn, .deferred (some []))] C) (by
    rintro k D1 D2 h hx ⟨h1, rfl, hs⟩;exact ⟨h1, rfl, hmono _ _ _ _ (hx.wide hsz) hs⟩) (by
    rintro k D1 h w' hk hsz2 hX ⟨h1, rfl, hs⟩ hI2;have hb := hbody rcd l Dn k D1 h1 w' ⟨rfl, rfl⟩ hk hs (hX.wide hsz) (Nat.le_trans hsz hsz2);have hl := hI2.own _ _ (List.mem_cons_self);exact ⟨_, _, _, _, run_yield hl rfl, JI (g := fn) hfn (hb _ _ ⟨hT.round1 hpm, hI2⟩)⟩) _ ⟨hp0, rfl, h0⟩ hI1'.toKeys
  have henter := stepR_rangeFunc (P := P) (b := b) (a := a) (k := k) (cs := cs) (w := w) (g := g) (ps := #[pm]) (assign := assign) (body := body) (l := l) (mark := [y1 Dn]) (w₁ := w₁) (w₁' := w₁) (w₂ := w₁) (d := { target := .fn (.func gf) lb.toArray, args := #[.func (.yield l) #[] #[]] }) (f := gf) (args := (.func (.yield l) #[] #[] :: lb).toArray)
    (by rw [hro, hf]; exact run_enterLoop_outer f a.tmps #[pm] assign body) (by
      have he : a.eval (.const (.func (.yield l) #[] #[])) = .func (.yield l) #[] #[] := rfl;simp [rangeCall, resolve, hev, Deferred.ofValue, he]) (by simp [invoke, hc])
  obtain ⟨e, w₃, frm, hR, hcomes, _, hleave⟩ := hal (b.atR { a with defers := [y1 Dn] ++ a.defers } (.inRangeFunc l :: k) :: cs);obtain ⟨D', hp', hXe, hIe, hK⟩ := hR
  have hIu : ∀ {h' : Hp}, h' = hp' → Inv D' h' x.S x.w0 w₃ := fun {h'} e => by
    subst e
    exact Inv.unframeN (own := []) hI1' (fun _ h => h) (fun b hb => by
      obtain ⟨o, ho⟩ := yQ hb;exact hIe.may b o ho) hXe hIe
  rcases hK with ⟨v, rfl, h1, rfl, hs⟩ | ⟨ch, rfl, h1, rfl, hs⟩
  · have hI' := hIu rfl;have hl := hI'.own _ _ (List.mem_cons_self);have hend := run_endLoop (P := P) hl (show LoopState.ready ≠ LoopState.busy by decide);have hI2 := (yB hI' (k := 0) rfl (.loop { rcd with state := .exhausted, pending := none })).tail;have haf := hdone Dn D' h1 hA.i.keep.size (hXe.wide hsz) hs;refine ⟨.normal, { a with defers := [y1 Dn] ++ a.defers }, _, haf _ _ ⟨⟨hA.f.size, by show y1 Dn :: a.defers = _; rw [hA.f.defers], hA.f.slot⟩, hI2⟩, ?_⟩;refine stepsIn_wide.2 ((Steps.one henter).trans (Steps.trans hcomes ((Steps.one ?_).trans (.one (stepR_endRangeFunc hend)))));rw [← finish_atR_inRangeFunc l v]; exact step_leave_returned hleave
  · have hI' := hIu rfl;have haf := hpan Dn ch D' h1 hA.i.keep.size (hXe.wide hsz) hs;refine ⟨.panic ch, _, _, haf { a with defers := [y1 Dn] ++ a.defers } _ ⟨⟨hA.f.size, by show y1 Dn :: a.defers = _; rw [hA.f.defers], hA.f.slot⟩, hI'⟩, .inRangeFunc l :: k, ?_⟩;refine stepsIn_wide.2 ((Steps.one henter).trans (Steps.trans hcomes (.one ?_)));rw [← Frame.raise_atR]; exact step_leave_panicked hleave
theorem zag {fn : Func} {c : Code} {args : List Value} {S : List Nat} {w : World} {R : Ending → World → Prop}
    (hf : P.funcs[f]? = some fn) (hb : fn.body = some c) (n : Nat) (hn : fn.ntmps = n) (hl : args.length ≤ n) (hI : Inv D hp S w w)
    (h : WCn f P ⟨n, [], S, w⟩ (uA 0 args) D hp c (bodyPostM Fence.wide 0 P fn R)) : Calls P f args.toArray w R := by
  have h := h { tmps := args.toArray ++ Array.replicate (fn.ntmps - args.toArray.size) undef, defers := [] } w ⟨⟨by simp [hn]; omega, rfl, fun t v ht => by
    obtain ⟨_, h2⟩ := u0 args 0 t v ht;simp at h2
    have hlt : t < args.length := by
      rcases Nat.lt_or_ge t args.length with h3 | h3
      · exact h3
      · rw [List.getElem?_eq_none h3] at h2; cases h2
    simp [Array.getElem?_append, hlt]; exact (List.getElem?_eq_some_iff.1 h2).2⟩, hI⟩
  intro cs
  let b : Frame := { (default : Frame) with fn := f, kind := .normal, roundOf := none }
  have henter : Frame.enter P f args.toArray .normal = b.atR { tmps := args.toArray ++ Array.replicate (fn.ntmps - args.toArray.size) undef, defers := [] } [.code c] := by
    simp [Frame.enter, Frame.atR, hf, hb, b]
  obtain ⟨e, a', w', hq, harr⟩ := h b [] cs rfl rfl;rw [← henter] at harr;have fin : ∀ {e : Ending} {m m' : Machine}, ComesIn (Machine.fenced P Fence.wide) P m m' e → Comes P m m' e := fun h => comesIn_wide.1 h;cases e with
  | normal =>
    obtain ⟨e', w'', fr', hR, hs, hfn, hl⟩ := leaves_stepsInM a'.defers .returning w' { b.atR a' [] with mode := .returning } cs rfl rfl rfl hf rfl trivial (fun _ h => by cases h) hq;exact ⟨e', w'', fr', hR, fin (ComesIn.of_steps (StepsIn.trans harr (sIn (stepR_end rfl))) hs), hfn, hl⟩
  | ret =>
    obtain ⟨todo, hs₀⟩ := harr.1 rfl;obtain ⟨e', w'', fr', hR, hs, hfn, hl⟩ := leaves_stepsInM a'.defers .returning w' { b.atR a' todo with mode := .returning } cs rfl rfl rfl hf rfl trivial (fun _ h => by cases h) hq;exact ⟨e', w'', fr', hR, fin (ComesIn.of_steps hs₀ hs), hfn, hl⟩
  | panic chain =>
    obtain ⟨todo, hs₀⟩ := harr;obtain ⟨e', w'', fr', hR, hs, hfn, hl⟩ := leaves_stepsInM a'.defers (.panicking chain) w' { b.atR a' todo with mode := .panicking chain } cs rfl rfl rfl hf rfl trivial (fun _ h => by cases h) hq;exact ⟨e', w'', fr', hR, fin (ComesIn.of_steps hs₀ hs), hfn, hl⟩
  | exit id => exact hq.elim
  | goto l => exact hq.elim
  | outgrown => exact ⟨.outgrown, w', b, hq, harr.resolve_left (by simp [b]), rfl, trivial⟩
end
end Go.W
namespace Go.W
section
variable {P : Program} {x : Cx} {fr : Fr} {D : Imm} {hp : Hp} {Q : Exit → Act → World → Prop} {ty : TypeId} {rest : List Oper} {ops : Array Oper} {pos : String} {af : Array Edge}
theorem WC.start {c : Code} {a : Act} {w : World} (hA : At x fr D hp a w) (h : WC P x fr D hp c Q) : c.wp P Q a w := h a w hA
theorem Keep.drewN (w : World) (n : Nat) : Keep [] w (w.drewN n) := ⟨rfl, rfl, rfl, Nat.le_refl _, fun _ _ _ => rfl, fun _ _ => rfl⟩
theorem Keep.of_heap {w w' : World} (h1 : w'.os = w.os) (h2 : w'.tape = w.tape) (h3 : w'.output = w.output) (hs : w.heap.size ≤ w'.heap.size) (h : ∀ k, k < w.heap.size → w'.heap[k]? = w.heap[k]?) : Keep [] w w' :=
  ⟨h1, h2, h3, hs, fun k hk _ => h k hk, fun a ha => xZ (h a.block ha)⟩
theorem Keep.of_below {w w' : World} (h : RowKit.Below w.heap.size w w') : Keep [] w w' := .of_heap h.os h.tape h.output h.size h.block
theorem Keep.grow (w : World) (n : Nat) (os : Array Obj) : Keep [] w (Go.Sort.grow (w.drewN n) os) := .of_heap rfl rfl rfl (by show w.heap.size ≤ (w.heap ++ os).size; simp) fun k hk => by
  show (w.heap ++ os)[k]? = _;rw [Array.getElem?_append_left hk]
end
end Go.W
namespace Go.W
section
variable {P : Program} {x : Cx} {fr : Fr} {D : Imm} {hp : Hp} {ty : TypeId} {Q : Exit → Act → World → Prop}
theorem Yd.indexV {t e : TypeId} {n k : Nat} {p q : Operand} {cs : List Value} {v : Value} (hu : P.underlying t = some (.array n e)) (hg : ∀ w, (isAgg e).run P w = .ok false w) (hz : ∀ w, (sizeOf e).run P w = .ok 1 w)
    (hp' : opv fr p = some (.agg cs.toArray)) (hq : opv fr q = some (nt k)) (hk : k < n) (hv : cs[k]? = some v) : Yd P x fr D hp (.index t p q) ty v := fun act w _ _ _ _ hA _ => by
  simp only [execOp, hA.eval hp', hA.eval hq];have h1 : (asIntOf (nt k)).run P w = .ok (IntKind.i64, (k : Int)) w := rfl
  have : (Instr.index t (.agg cs.toArray) (nt k)).run P w = .ok v w := by
    simp only [Instr.index, Sem.run_bind, h1, Result.andThen_ok, run_underlying hu];rw [if_pos (by omega)];simp [part, hg, hz, hv]
  simp [this]
theorem SO.ofYd {op : Op} {v : Value} (hy : Yd P x fr D hp op ty v) : SO P x fr D hp op ty Q (Wo D hp v) := fun a w dst pos af g next hA hn => by
  unfold Oper.wp;rw [hy a w _ _ _ _ hA.f hA.i, Oper.upon_value];exact hn _ _ _ _ ⟨rfl, rfl, rfl⟩ hA.i
end
abbrev SKey := { l : List UInt8 // l.length ≤ 2 ^ 40 }
def kvS (y : SKey) : Value := st y.1
theorem kw {P : Program} {k : TypeId} (hk : P.underlying k = some .string) (y : SKey) : ∃ l, keyOf P k (kvS y) = some l :=
  ⟨_, WideMaps.keyOf_string_mk hk (by rw [wk]; have := y.2; have h : maxLen = 9223372036854775807 := rfl; omega)⟩
end Go.W
namespace Go.W
section
variable {P : Program} {x : Cx} {fr : Fr} {D : Imm} {hp : Hp} {ty : TypeId} {Q : Exit → Act → World → Prop}
def numb : Nat → List Value → List (Nat × Value)
  | _, [] => []
  | k, v :: r => (k, v) :: numb (k + 1) r
def oneC : List Value → Bool
  | [] => true
  | .agg _ :: _ => false
  | _ :: r => oneC r
theorem Up {v : Value} {r : List Value} (h : oneC (v :: r) = true) : v.cells = #[v] ∧ oneC r = true := by
  cases v <;> first | (exact ⟨rfl, h⟩) | (cases h)
theorem Zu : ∀ (vs pre post : List Value), oneC vs = true → post.length = vs.length → Instr.fill (fun i => some (i * 1, 1)) (pre ++ post).toArray (numb pre.length vs) = some (pre ++ vs).toArray
  | [], pre, post, _, h => by
    have : post = [] := List.length_eq_zero_iff.1 h;subst this; rfl
  | v :: r, pre, [], _, h => by simp at h
  | v :: r, pre, p :: post, h1, h2 => by
    obtain ⟨hc, h3⟩ := Up h1;have ih := Zu r (pre ++ [v]) post h3 (by simpa using h2);simp only [List.length_append, List.length_cons, List.length_nil, List.append_assoc, List.cons_append, List.nil_append] at ih;rw [numb, Instr.fill, hc];simp only [Nat.mul_one] at ih ⊢;rw [if_neg (by simp)]
    have e : (#[v].zipIdx.foldl (fun cs (x : Value × Nat) => cs.setIfInBounds (pre.length + x.2) x.1) (pre ++ p :: post).toArray) = (pre ++ v :: post).toArray := by
      simp
    exact (congrArg (fun a => Instr.fill (fun i => some (i, 1)) a (numb (pre.length + 1) r)) e).trans ih
theorem SO.buildSlice1 {t e : TypeId} {len : Nat} {z : Value} {zs vs : List Value} {ps : List (Nat × Operand)}
    (hu : P.underlying t = some (.slice e)) (hz : ∀ w, (sizeOf e).run P w = .ok 1 w) (hzero : ∀ w, (zeroValue e).run P w = .ok z w) (hzs : z.cells = zs.toArray) (hl0 : Nat.beq (len * 1) 0 = false) (hl : Nat.ble (len * 1) (2 ^ 24) = true)
    (hp' : opps fr ps = some (numb 0 vs)) (h1 : oneC vs = true) (hn : Nat.beq vs.length len = true) :
    SO P x fr D hp (.buildSlice t len ps.toArray) ty Q (NewS x D hp vs e len) :=
  SO.buildSlice hu hz hzero hzs hl0 hl hp' (by
    have := Zu vs [] (xI zs (len * 1)) h1 (by rw [yz, Nat.eq_of_beq_eq_true hn]; omega);simpa using this)
end
end Go.W
theorem Go.W.WC.drop {P : Go.Program} {x : Go.W.Cx} {fr : Go.W.Fr} {D : Go.W.Imm} {hp : Go.W.Hp} {Q : Go.Exit → Go.Act → Go.World → Prop} {c : Go.Code} (k : Nat) (h : Go.W.WC P x fr D (hp.drop k) c Q) : Go.W.WC P x fr D hp c Q := fun a w hA => h a w ⟨hA.f, hA.i.drop k⟩
namespace Go.W
section
variable {P : Program} {x : Cx} {fr : Fr} {D : Imm} {hp : Hp} {ty : TypeId} {Q : Exit → Act → World → Prop}
theorem SO.appendOwW {W : World} (hW : W.heap.size ≤ x.w0.heap.size) {t e : TypeId} {o : Option Ow} {len n size : Nat} {xs ys : List Value} {info : TypeInfo} {z : Value} {ts : Array TypeId} {a1 a2 : Operand} {vy : Value} (drp base hp0 : Hp)
    (ht : ts[0]? = some t) (ht' : ts[1]? = some t) (hu : P.underlying t = some (.slice e)) (hz : ∀ w, (sizeOf e).run P w = .ok size w) (hi : ∀ w, (typeInfo e).run P w = .ok info w) (hzero : ∀ w, (zeroValue e).run P w = .ok z w) (hzl : z.cells.size = size)
    (hs : opv fr a1 = some (owV o len)) (hy : opv fr a2 = some vy) (hhp : hp = drp ++ (base ++ owH o e xs hp0)) (hyr : RdS D hp size vy n ys) (hone : ∀ v ∈ ys, v.oneCell' = true)
    (how : owP W o len size) (hxl : xs.length = len * size) (hn0 : 0 < n) (hb : (2 * (len + n) + 1000) * info.bytes ≤ 2 ^ 48) (hn : len + n ≤ 2 ^ 48) :
    SO P x fr D hp (.call ⟨.builtin .append, #[a1, a2], ts⟩) ty Q (AppK W D base hp0 e size (xs ++ ys) (len + n)) := fun a w dst pos af g next hA hnx => by
  have hrun : ∀ {v : Value} {w' : World}, (Builtin.append_ ts ty #[owV o len, vy]).run P w = .ok v w' → (execOp a.eval ⟨dst, .call ⟨.builtin .append, #[a1, a2], ts⟩, ty, pos, af, g⟩).run P w = .ok (.value v) w' := fun {v} {w'} h => by
    simp only [execOp, resolve, List.map_toArray, List.map_cons, List.map_nil, hA.f.eval hs, hA.f.eval hy];simp [invoke, builtin, h]
  unfold Oper.wp;cases o with
  | none =>
    have h0 : len = 0 := how;subst h0;have hx0 : xs = [] := List.length_eq_zero_iff.1 (by simpa using hxl);subst hx0;obtain ⟨cap', rest, h1, h2, h3⟩ := xc (P := P) (ty := ty) (cap := 0) (xs := []) (base := none) (s := owV none 0) ht ht' hu hz hi hzero hzl hA.i rfl ⟨by simp, .inl ⟨0, rfl, rfl⟩⟩ hyr (by omega) hb hn;rw [hrun h3, Oper.upon_value];refine hnx _ _ _ _ ⟨⟨w.heap.size, cap', rest⟩, ⟨Nat.le_trans hW hA.i.keep.size, h1, h2⟩, rfl, rfl, rfl⟩ ?_;have hI := (hA.i.drew (w.drawn + 1)).new (.cells ([] ++ ys ++ rest).toArray e (0, 0));subst hhp;have hnd := hI.nodup;simp only [owH, List.map_cons, List.map_append, List.nodup_cons] at hnd
    exact hI.sub (qX (fun e' he' => List.mem_cons_of_mem _ (List.mem_append_right _ he')) List.mem_cons_self)
      (ve (fun h => hnd.1 (List.mem_append_right _ (List.mem_append.2 h))) (xS hnd.2))
  | some o =>
    obtain ⟨hwb, hlc, hrl⟩ := how
    have hk : hp[(drp ++ base).length]? = some (o.b, .cells (xs ++ o.rest).toArray e (0, 0)) := by
      subst hhp; rw [← List.append_assoc]; simp [owH]
    by_cases hg : len + n ≤ o.cap
    · have h3 := uz (P := P) (ty := ty) (s := owV (some o) len) ht ht' hu hz hA.i rfl hk hxl hrl hyr hone hg;rw [hrun h3, Oper.upon_value];refine hnx _ _ _ _ ⟨⟨o.b, o.cap, o.rest.drop ys.length⟩, ⟨hwb, hg, by simp [hrl, hyr.1, ← Nat.sub_mul, Nat.sub_sub]⟩, rfl, rfl, rfl⟩ ?_;have hI := hA.i.set hk (.cells (xs ++ ys ++ o.rest.drop ys.length).toArray e (0, 0));subst hhp;have hnd := hI.nodup
      have hset : (drp ++ (base ++ owH (some o) e xs hp0)).set (drp ++ base).length (o.b, .cells (xs ++ ys ++ o.rest.drop ys.length).toArray e (0, 0)) = drp ++ (base ++ (o.b, .cells (xs ++ ys ++ o.rest.drop ys.length).toArray e (0, 0)) :: hp0) := by
        rw [← List.append_assoc, List.set_append_right _ _ (by omega)]; simp [owH]
      rw [hset] at hI hnd;rw [List.map_append] at hnd;exact hI.sub (fun e' he' => List.mem_append_right _ he') (xS hnd)
    · obtain ⟨cap', rest, h1, h2, h3⟩ := xc (P := P) (ty := ty) (cap := o.cap) (xs := xs) (s := owV (some o) len) ht ht' hu hz hi hzero hzl hA.i rfl
        ⟨hxl, .inr ⟨o.b, 0, o.cap, rfl, fun j v hj => by
          have := Rd.own (D := D) (hp := hp) hk (off := 0 + j) (v := v) (by
            rw [Nat.zero_add, List.getElem?_append_left (List.getElem?_eq_some_iff.1 hj).1]; exact hj)
          exact this⟩⟩ hyr (by omega) hb hn
      rw [hrun h3, Oper.upon_value];refine hnx _ _ _ _ ⟨⟨w.heap.size, cap', rest⟩, ⟨Nat.le_trans hW hA.i.keep.size, h1, h2⟩, rfl, rfl, rfl⟩ ?_;have hI := (hA.i.drew (w.drawn + 1)).new (.cells (xs ++ ys ++ rest).toArray e (0, 0));subst hhp;have hnd := hI.nodup;simp only [owH, List.map_cons, List.map_append, List.nodup_cons] at hnd;have hnd2 := xS hnd.2;refine hI.sub (qX (fun e' he' => List.mem_cons_of_mem _ (List.mem_append_right _ ?_)) List.mem_cons_self) (ve (fun h => hnd.1 (List.mem_append_right _ ?_)) ?_)
      · rcases List.mem_append.1 he' with h | h
        · exact List.mem_append_left _ h
        · exact List.mem_append_right _ (List.mem_cons_of_mem _ h)
      · rcases h with h | h
        · exact List.mem_append_left _ h
        · exact List.mem_append_right _ (List.mem_cons_of_mem _ h)
      · rw [List.nodup_append] at hnd2 ⊢;refine ⟨hnd2.1, (List.nodup_cons.1 hnd2.2.1).2, fun a ha b hb => hnd2.2.2 a ha b (List.mem_cons_of_mem _ hb)⟩
end
end Go.W
namespace Go.W
section
variable {P : Program} {x : Cx} {fr : Fr} {D : Imm} {hp : Hp} {ty : TypeId} {Q : Exit → Act → World → Prop}
end
theorem noLets.roundP {P : Program} {l : Nat} {R : Ending → World → Prop} : ¬ LetsOut (xT P l R) := fun ⟨_, _, h⟩ => h
theorem zm.roundP {P : Program} {l : Nat} {R : Ending → World → Prop} : zm (xT P l R) := fun c d v a w hq => by
  cases d <;> exact hq
theorem subS {a b : Hp} (h : List.Sublist a b) : (∀ e, e ∈ a → e ∈ b) ∧ ((keys b).Nodup → (keys a).Nodup) := ⟨fun _ he => h.subset he, fun hn => hn.sublist (h.map Prod.fst)⟩
theorem SlL.nil (D : Imm) (size : Nat) : SlL D size [] none 0 := ⟨rfl, fun _ _ h => by simp at h⟩
end Go.W
namespace Go.W
section
variable {P : Program} {x : Cx} {fr : Fr} {D : Imm} {hp : Hp} {Q : Exit → Act → World → Prop} {ty : TypeId}
def Vb (P : Program) (gf : Nat) (lb : List Value) (N : Nat) (arg : Nat → Value) (D : Imm) (M : Hp → Prop) (w : World) : Prop :=
  ∀ (l : Nat) (St : Nat → Imm → Hp → Prop) (Sp : Imm → Hp → Prop), (∀ k D1 D2 h, DExt w D1 D2 → St k D1 h → St k D2 h) →
    (∀ k D' h w', k < N → w.heap.size ≤ w'.heap.size → DExt w D D' → St k D' h → Inv D' h (keys h) w' w' → YieldAt Fence.wide 0 P l #[arg k] w' (xV w' D' (keys h) (fun b D'' h' => (b = true ∧ St (k + 1) D'' h') ∨ (b = false ∧ Sp D'' h')))) →
    ∀ hM h0, M hM → St 0 D h0 → Inv D (hM ++ h0) (keys (hM ++ h0)) w w → zp P gf ((.func (.yield l) #[] #[]) :: lb) w D (keys (hM ++ h0)) (fun _ D' h' => ∃ hM' h1, h' = hM' ++ h1 ∧ M hM' ∧ (St N D' h1 ∨ Sp D' h1))
theorem Inv.permM {hp' : Hp} {S : List Nat} {w0 w : World} (h : Inv D hp S w0 w) (hs : hp.Perm hp') : Inv D hp' S w0 w :=
  h.sub (fun e he => hs.mem_iff.2 he) ((hs.map Prod.fst).nodup_iff.1 h.nodup)
theorem keys_perm {a b : Hp} (h : a.Perm b) {k : Nat} : k ∈ keys a ↔ k ∈ keys b := (h.map Prod.fst).mem_iff
theorem WC.rangeIterT {g : Operand} {pm : Tmp} {assign body : Code} {gf : Nat} {lb : List Value} {N : Nat} {arg : Nat → Value} {M : Hp → Prop} (hM hp0 : Hp) (hhp : hp = hM ++ hp0) (hMM : M hM) (hit : ∀ w, x.w0.heap.size ≤ w.heap.size → Holds D w → Vb P gf lb N arg D M w) (hg : opv fr g = some (.func (.func gf) #[] lb.toArray)) (hc : ∀ args w, (callFunc gf args).run P w = .ok (.enter gf args) w) (hpm : Nat.blt pm x.n = true)
    (St : Nat → Imm → Hp → Prop) (Sp : Code → Imm → Hp → Prop) (hmono : ∀ k D1 D2 h, DExt x.w0 D1 D2 → St k D1 h → St k D2 h) (h0 : St 0 D hp0)
    (hbody : ∀ rec l Dn k D1 h w1, (rec.state = .ready ∧ rec.pending = none) → k < N → St k D1 h → DExt x.w0 D D1 → x.w0.heap.size ≤ w1.heap.size → yP P x.n l rec [(Dn, .deferred (some []))] ((pm, arg k) :: fr) D1 h w1 assign body (St (k + 1)) Sp)
    (hdone : ∀ Dn D' hM' hp', x.w0.heap.size ≤ Dn → DExt x.w0 D D' → M hM' → St N D' hp' → WP ⟨x.n, y1 Dn :: x.ds, x.S, x.w0⟩ fr D' ((Dn, .deferred (some [])) :: (hM' ++ hp')) .normal Q)
    (hstop : ∀ Dn c D' hM' hp', x.w0.heap.size ≤ Dn → DExt x.w0 D D' → M hM' → Sp c D' hp' → WC P ⟨x.n, y1 Dn :: x.ds, x.S, x.w0⟩ fr D' ((Dn, .deferred (some [])) :: (hM' ++ hp')) c Q) :
    WC P x fr D hp (.rangeFunc g #[pm] assign body) Q := by
  subst hhp;refine WC.rangeFuncM (K := fun D' hp' pend => DExt x.w0 D D' ∧ ∃ hM' h1, hp' = hM' ++ h1 ∧ M hM' ∧ ((pend = none ∧ St N D' h1) ∨ ∃ c, pend = some c ∧ Sp c D' h1)) hg hc (fun rec l Dn w₁ hst hpe hps has hbo hT hDn hl hI => ?_) (fun Dn D' hp' pend hDn hK => ?_)
  · have hsz := hI.keep.size
    have hpm1 : ∀ (o : Obj) (a b : Hp), ((l, o) :: (Dn, Obj.deferred (some [])) :: (a ++ b)).Perm (a ++ ((l, o) :: ([(Dn, .deferred (some []))] ++ b))) := fun o a b => by
      refine List.Perm.trans ?_ List.perm_middle.symm;refine List.Perm.cons _ ?_;exact List.perm_middle.symm
    have hI1 := (hI.permM (hpm1 _ hM hp0)).toKeys;refine Calls.mono (hit w₁ hsz hI.imm l (fun k D' h => ∃ h1, h = (l, .loop rec) :: ([(Dn, .deferred (some []))] ++ h1) ∧ St k D' h1) (fun D' h => ∃ c h1, h = (l, .loop { rec with state := .done, pending := some c }) :: ([(Dn, .deferred (some []))] ++ h1) ∧ Sp c D' h1) ?_ ?_ hM _ hMM ⟨hp0, rfl, h0⟩ hI1) ?_
    · rintro k D1 D2 h hx ⟨h1, rfl, hs⟩;exact ⟨h1, rfl, hmono _ _ _ _ (hx.wide hsz) hs⟩
    · rintro k D1 h w' hk hsz2 hX ⟨h1, rfl, hs⟩ hI2;have hb := hbody rec l Dn k D1 h1 w' ⟨hst, hpe⟩ hk hs (hX.wide hsz) (Nat.le_trans hsz hsz2);refine YieldAt.mono (kN (rec := rec) (k := 0) (n := x.n) (fr := (pm, arg k) :: fr) has hbo hI2 rfl (by rw [hps]; rfl) (by rw [hps]; exact hT.round1 hpm) hb) ?_;rintro e w'' ⟨b, D', hp', rfl, hD, hI3, hK⟩;refine ⟨b, D', hp', rfl, hD, hI3, ?_⟩;rcases hK with ⟨rfl, h1, rfl, hs1⟩ | ⟨rfl, c, h1, rfl, hs1⟩
      · exact .inl ⟨rfl, h1, rfl, hs1⟩
      · exact .inr ⟨rfl, c, h1, rfl, hs1⟩
    · rintro e w' ⟨v, D', hpc', rfl, hXe, hIe, hM', h2, rfl, hMM', hK⟩
      have hIu := Inv.unframeN (own := []) hI (fun b hb => (keys_perm (hpm1 _ hM hp0)).2 hb) (fun b hb => by
        obtain ⟨o, ho⟩ := yQ hb;exact hIe.may b o ho) hXe hIe
      rw [List.nil_append] at hIu;rcases hK with ⟨h1, rfl, hs⟩ | ⟨c, h1, rfl, hs⟩
      · refine ⟨v, D', hM' ++ h1, .ready, none, rfl, by decide, ?_, hXe.wide hsz, hM', h1, rfl, hMM', .inl ⟨rfl, hs⟩⟩;rw [rec_eta' hst hpe]; exact hIu.permM (hpm1 _ hM' h1).symm
      · exact ⟨v, D', hM' ++ h1, .done, some c, rfl, by decide, hIu.permM (hpm1 _ hM' h1).symm, hXe.wide hsz, hM', h1, rfl, hMM', .inr ⟨c, rfl, hs⟩⟩
  · obtain ⟨hX, hM', h1, rfl, hMM', ⟨rfl, hs⟩ | ⟨c, rfl, hs⟩⟩ := hK
    · exact hdone Dn D' hM' h1 hDn hX hMM' hs
    · exact hstop Dn c D' hM' h1 hDn hX hMM' hs
def yl (P : Program) (f : FuncId) (vals : List Value) (w : World) (D : Imm) (S : List Nat) (K : Value → Imm → Hp → Prop) (C : List PanicEntry → Imm → Hp → Prop) : Prop :=
  Calls P f vals.toArray w fun e w' => ∃ D' hp', DExt w D D' ∧ Inv D' hp' S w w' ∧ ((∃ v, e = .returned v ∧ K v D' hp') ∨ ∃ ch, e = .panicked ch ∧ C ch D' hp')
theorem SO.altersV {c : Call} {f : FuncId} {vals : List Value} {S1 : List Nat} {K : Value → Imm → Hp → Prop} {C : List PanicEntry → Imm → Hp → Prop} (own hpc : Hp) (hhp : ∀ e, e ∈ own ++ hpc → e ∈ hp) (hnd : (keys hp).Nodup → (keys (own ++ hpc)).Nodup)
    (hS : ∀ b, b ∈ S1 → b ∈ keys hpc) (hS' : ∀ b, b ∈ keys hpc → b ∈ S1) (he : Enters P x fr D hp c ty f vals)
    (hk : ∀ w, x.w0.heap.size ≤ w.heap.size → Inv D hpc S1 w w → yl P f vals w D S1 K C)
    (hpan : ∀ ch D' h', C ch D' h' → DExt x.w0 D D' → WP x fr D' (own ++ h') (.panic ch) Q) : SO P x fr D hp (.call c) ty Q (AltK x.w0 D own K) := fun a w dst pos af g next hA hn => by
  unfold Oper.wp;rw [he a w dst pos af g hA.f hA.i, Oper.upon_enter];have hI := hA.i.sub hhp (hnd hA.i.nodup);refine (hk w hA.i.keep.size (hI.frame hS')).mono fun e w' ⟨D', hpc', hD, hI', hK⟩ => ?_;have hX : DExt x.w0 D D' := ⟨hD.old, fun b hb => hD.new b (Nat.lt_of_lt_of_le hb hA.i.keep.size)⟩
  have hIu : Inv D' (own ++ hpc') x.S x.w0 w' := hI.unframeN hS (fun b hb => by
    obtain ⟨o, ho⟩ := yQ hb;exact hI'.may b o ho) hD hI'
  rcases hK with ⟨v, rfl, hK⟩ | ⟨ch, rfl, hC⟩
  · exact hn _ _ _ _ ⟨hpc', hX, hK, rfl⟩ hIu
  · exact hpan ch D' hpc' hC hX a w' ⟨hA.f, hIu⟩
end
end Go.W
