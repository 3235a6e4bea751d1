import Derived.Test.YtaiegbjgfdhgaaaGreatDoorXA
import Derived.RangeFuncRecord
import Derived.RangeFuncCalls
import Derived.OrdersIn
import Derived.Scope
import Derived.WideKeyEntry
import Derived.RangeFuncNested
import Derived.RangeFuncBound
import Derived.Maps.Keyed
import Derived.LoopNIn
import Derived.Lib.Strings
import Derived.Below
import Derived.Sort.Grow
import Derived.Deep.Draws
import Derived.StringKeys
import Derived.Lib.TrailingZeros
set_option linter.all false
set_option maxRecDepth 100000
set_option maxHeartbeats 4000000
namespace Go.W
abbrev Fx (r : Option Nat) : Fence := { Fence.wide with round := r }
section
variable {P : Program} {r : Option Nat} {n : Nat} {o : Oper} {a : Act}
include P r n o a
theorem zbr {next : Act → World → Prop} {Q : Exit → Act → World → Prop} {res : Result Next} (h : o.upon P a next Q res) : o.uponIn (Fx r) n P a next Q res := by
  cases res with
  | ok y w =>
    cases y <;> simp only [Oper.upon, Oper.uponIn] at h ⊢ <;> first | exact h | skip
    case enter f args => exact ⟨fun e => (by cases e), (callsIn_wide (n := n - 1)).2 h⟩
    case row s args => exact ⟨fun e => (by cases e), fun c cs _ => let ⟨v, w', h1, h2⟩ := h c cs; ⟨v, w', h1, stepsIn_wide.2 h2⟩⟩
  | halt y w => cases y <;> simp only [Oper.upon, Oper.uponIn] at h ⊢ <;> exact h
theorem X5 {w : World} {next : Act → World → Prop} {Q : Exit → Act → World → Prop} (hd : ∀ c, o.op ≠ .defer c) (h : Oper.wp P o a w next Q) : Oper.wpIn (Fx r) n P o a w next Q := by
  refine ⟨fun _ _ => trivial, ?_⟩;rw [Oper.semAt_eq _ _ _ hd];exact zbr h
end
section
variable {P : Program} {x : Cx} {fr : Fr} {D : Imm} {hp : Hp} {ty : TypeId} {Q : Exit → Act → World → Prop} {ops : Array Oper} {rest : List Oper} {r : Option Nat} {l : Nat}
  {d : Tmp} {dst : Option Tmp} {op : Op} {pos : String} {af : Array Edge}
def WLF (P : Program) (r : Option Nat) (x : Cx) (ops : Array Oper) (fr : Fr) (D : Imm) (hp : Hp) (l : List Oper) (Q : Exit → Act → World → Prop) : Prop := ∀ a w, At x fr D hp a w → wpListIn (Fx r) 0 P ops Q l a w
def WCF (P : Program) (r : Option Nat) (x : Cx) (fr : Fr) (D : Imm) (hp : Hp) (c : Code) (Q : Exit → Act → World → Prop) : Prop := ∀ a w, At x fr D hp a w → c.wpIn (Fx r) 0 P Q a w
theorem WC.ofF {c : Code} (h : WCF P none x fr D hp c Q) : WC P x fr D hp c Q := fun a w hA => (wpIn_wide (n := 0)).1 (h a w hA)
theorem WLF.nil (h : WP x fr D hp .normal Q) : WLF P r x ops fr D hp [] Q := fun a w hA => h a w hA
theorem WLF.yd {v : Value} (hn : ∀ c, op ≠ .defer c) (hy : Yd P x fr D hp op ty v) (hd : Nat.blt d x.n = true) (h : WLF P r x ops ((d, v) :: fr) D hp rest Q) : WLF P r x ops fr D hp (⟨some d, op, ty, pos, af, none⟩ :: rest) Q := fun a w hA => by
  unfold wpListIn;rw [if_pos (show Region.wanted ⟨some d, op, ty, pos, af, none⟩ (yielded ops a.tmps) = true from rfl)];refine X5 hn ?_;unfold Oper.wp;rw [hy a w _ _ _ _ hA.f hA.i, Oper.upon_value];exact h _ _ ⟨hA.f.put hd v, hA.i⟩
theorem WLF.so {K : Value → Imm → Hp → Prop} (hn : ∀ c, op ≠ .defer c) (hs : SO P x fr D hp op ty Q K) (hd : dstB dst x.n = true) (h : ∀ v D' hp', K v D' hp' → WLF P r x ops (wj dst v fr) D' hp' rest Q) :
    WLF P r x ops fr D hp (⟨dst, op, ty, pos, af, none⟩ :: rest) Q := fun a w hA => by
  unfold wpListIn;rw [if_pos (show Region.wanted ⟨dst, op, ty, pos, af, none⟩ (yielded ops a.tmps) = true from rfl)];exact X5 hn (hs a w _ _ _ _ _ hA fun v D' hp' _ hk hi => h v D' hp' hk _ _ ⟨hA.f.putO hd v, hi⟩)
theorem WLF.know {l : List Oper} (t : Nat) {v : Value} (v' : Value) (ht : fr.get t = some v) (hv : v = v') (h : WLF P r x ops ((t, v') :: fr) D hp l Q) : WLF P r x ops fr D hp l Q :=
  fun a w hA => h a w ⟨hA.f.weaken (vz ht hv), hA.i⟩
theorem WLF.part {l : List Oper} (t : Nat) {b : Bool} (ht : fr.get t = some (.bool b)) (h1 : b = true → WLF P r x ops ((t, .bool true) :: fr) D hp l Q) (h0 : b = false → WLF P r x ops ((t, .bool false) :: fr) D hp l Q) : WLF P r x ops fr D hp l Q := by
  cases hb : b with
  | true => exact WLF.know t (.bool true) ht (by rw [hb]) (h1 hb)
  | false => exact WLF.know t (.bool false) ht (by rw [hb]) (h0 hb)
theorem WLF.freezeK {l : List Oper} (k : Nat) {b : Nat} {o : Obj} (hk : hp[k]? = some (b, o)) (h : D b = none → WLF P r x ops fr (D.add b o) (hp.eraseIdx k) l Q) : WLF P r x ops fr D hp l Q :=
  fun a w hA => h (hA.i.freezeK k hk).1 a w ⟨hA.f, (hA.i.freezeK k hk).2⟩
theorem WCF.seq {c d : Code} (h : WCF P r x fr D hp c (Exit.then (d.wpIn (Fx r) 0 P Q) Q)) : WCF P r x fr D hp (.seq c d) Q := fun a w hA => wpIn_seq (h a w hA)
theorem WCF.block {id : Nat} {c : Code} (h : WCF P r x fr D hp c (Exit.inBlock id Q)) : WCF P r x fr D hp (.block id c) Q := fun a w hA => wpIn_block (h a w hA)
theorem WCF.skip (h : WP x fr D hp .normal Q) : WCF P r x fr D hp .skip Q := fun a w hA => wpIn_skip (h a w hA)
theorem WCF.ret (h : WP x fr D hp .ret Q) : WCF P r x fr D hp .ret Q := fun a w hA => wpIn_ret (h a w hA)
theorem WCF.exit {id : Nat} (h : WP x fr D hp (.exit id) Q) : WCF P r x fr D hp (.exit id) Q := fun a w hA => wpIn_exit (h a w hA)
theorem WCF.region {id : Nat} {l : List Oper} (h : WLF P r x l.toArray fr D hp l Q) : WCF P r x fr D hp (.region id l.toArray false) Q := fun a w hA => wpIn_region_lit (h a w hA)
section
variable {c : Operand} {t e : Code}
include c t e
theorem WCF.cond {b : Bool} (hc : opv fr c = some (.bool b)) (ht : b = true → WCF P r x fr D hp t Q) (he : b = false → WCF P r x fr D hp e Q) : WCF P r x fr D hp (.cond c t e) Q := fun a w hA => by
  cases b with
  | true => exact wpIn_cond_true (hA.f.eval hc) (ht rfl a w hA)
  | false => exact wpIn_cond_false (hA.f.eval hc) (he rfl a w hA)
theorem WCF.condT (hc : opv fr c = some (.bool true)) (ht : WCF P r x fr D hp t Q) : WCF P r x fr D hp (.cond c t e) Q := fun a w hA => wpIn_cond_true (hA.f.eval hc) (ht a w hA)
theorem WCF.condF (hc : opv fr c = some (.bool false)) (he : WCF P r x fr D hp e Q) : WCF P r x fr D hp (.cond c t e) Q := fun a w hA => wpIn_cond_false (hA.f.eval hc) (he a w hA)
end
theorem WCF.ofFr {c : Code} (fr' : Fr) (hf : subB fr' fr) (h : WCF P r x fr' D hp c Q) : WCF P r x fr D hp c Q := fun a w hA => h a w ⟨hA.f.weaken (x8 hf), hA.i⟩
theorem WCF.less {c : Code} (fr' : Fr) (hp' : Hp) (hf : subB fr' fr) (hs : ∀ e, e ∈ hp' → e ∈ hp) (hn : (hp.map Prod.fst).Nodup → (hp'.map Prod.fst).Nodup) (h : WCF P r x fr' D hp' c Q) : WCF P r x fr D hp c Q :=
  fun a w hA => h a w ⟨hA.f.weaken (x8 hf), hA.i.sub hs (hn hA.i.nodup)⟩
theorem WP.thenCF {d : Code} (h : WCF P r x fr D hp d Q) : WP x fr D hp .normal (Exit.then (d.wpIn (Fx r) 0 P Q) Q) := h
def Vk (W : World) (D : Imm) (S : List Nat) (K : Bool → Imm → Hp → Prop) (e : Ending) (W' : World) : Prop :=
  ∃ b D' hp', e = .returned (.bool b) ∧ DExt W D D' ∧ Inv D' hp' S W W' ∧ (∀ k, k ∈ keys hp' → k ∈ S) ∧ K b D' hp'
theorem yB {S : List Nat} {w0 w : World} {k b : Nat} {o : Obj} (h : Inv D hp S w0 w) (hk : hp[k]? = some (b, o)) (o' : Obj) (ho : WT o = true := by rfl) (ho' : WT o' = true := by rfl) : Inv D (hp.set k (b, o')) S w0 (w.putObj b o') := h.set hk o' ho ho'
theorem kN {n k : Nat} {rec : Loop} {args : Array Value} {S : List Nat} {W : World} {R : Ending → World → Prop} {assign body : Code} (ha : rec.assign = assign) (hb : rec.body = body) (hI : Inv D hp S W W) (hk : hp[k]? = some (l, .loop rec)) 
    (hs : args.size = rec.params.size) (hT : AtF n fr [] ⟨(rec.params.zip args).foldl (fun tmps (t, a) => tmps.setIfInBounds t a) rec.tmps, []⟩)
    (h : WCF P (some l) ⟨n, [], S, W⟩ fr D hp assign (Exit.then (fun a₁ w₁ => ∃ w₂, (Instr.beginRound l).run P w₁ = .ok () w₂ ∧ body.wpIn (Fx (some l)) 0 P (roundPost P l R) a₁ w₂) (fun _ _ _ => False))) :
    YieldAt Fence.wide 0 P l args W R := by
  subst ha;subst hb;have hl := hI.own _ _ (mem_of_get? hk);exact ⟨_, _, _, _, run_yield hl hs, roundIn_of_wpIn trivial (h _ _ ⟨hT, hI⟩)⟩
theorem WP.begin {k : Nat} {rec : Loop} {body : Code} {R : Exit → Act → World → Prop} (hk : hp[k]? = some (l, .loop rec)) (hr : rec.state = .ready) 
    (h : WCF P (some l) x fr D (hp.set k (l, .loop { rec with state := .busy })) body R) :
    WP x fr D hp .normal (Exit.then (fun a₁ w₁ => ∃ w₂, (Instr.beginRound l).run P w₁ = .ok () w₂ ∧ body.wpIn (Fx (some l)) 0 P R a₁ w₂) (fun _ _ _ => False)) := fun a w hA => by
  have hl := hA.i.own _ _ (mem_of_get? hk);exact ⟨_, run_beginRound hl hr, h _ _ ⟨hA.f, yB hA.i hk _⟩⟩
abbrev y1 (b : Nat) : Deferred := { target := .collected b, args := #[] }
theorem WC.rangeFunc {g : Operand} {ps : Array Tmp} {assign body : Code} {gf : Nat} {lb : List Value} {K : Imm → Hp → Option Code → Prop} (hds : x.ds = []) (hg : opv fr g = some (.func (.func gf) #[] lb.toArray)) (hc : ∀ args w, (callFunc gf args).run P w = .ok (.enter gf args) w) 
    (hcall : ∀ (rec : Loop) (l Dn : Nat) (w₁ : World), rec.state = .ready → rec.pending = none → rec.params = ps → rec.assign = assign → rec.body = body → AtF x.n fr [] ⟨rec.tmps, []⟩ → x.w0.heap.size ≤ Dn → x.w0.heap.size ≤ l →
      Inv D ((l, .loop rec) :: (Dn, .deferred (some [])) :: hp) x.S x.w0 w₁ →
      Calls P gf (.func (.yield l) #[] #[] :: lb).toArray w₁ fun e w' => ∃ v D' hp' st pend, e = .returned v ∧ st ≠ .busy ∧ Inv D' ((l, .loop { rec with state := st, pending := pend }) :: (Dn, .deferred (some [])) :: hp') x.S x.w0 w' ∧ K D' hp' pend)
    (hafter : ∀ Dn D' hp' pend, x.w0.heap.size ≤ Dn → K D' hp' pend → match pend with
      | none => WP ⟨x.n, [y1 Dn], x.S, x.w0⟩ fr D' ((Dn, .deferred (some [])) :: hp') .normal Q
      | some c => WC P ⟨x.n, [y1 Dn], x.S, x.w0⟩ fr D' ((Dn, .deferred (some [])) :: hp') c Q) :
    WC P x fr D hp (.rangeFunc g ps assign body) Q := fun a w hA => by
  refine (wpIn_wide (n := 0)).1 ?_;refine wpIn_rangeFunc fun fn _ => ?_
  let rcd : Loop := { state := .ready, pending := none, fn, tmps := a.tmps, params := ps, assign, body, defers := w.heap.size }
  let w₁ : World := (w.alloc (.deferred (some []))).alloc (.loop rcd)
  have hI1 : Inv D ((w.heap.size + 1, .loop rcd) :: (w.heap.size, .deferred (some [])) :: hp) x.S x.w0 w₁ := by
    have h1 := hA.i.new (.deferred (some []));have h2 := h1.new (.loop rcd);simp only [Array.size_push] at h2;exact h2
  have hev : a.eval g = .func (.func gf) #[] lb.toArray := hA.f.eval hg;have had : a.defers = [] := hA.f.defers.trans hds;have hT : AtF x.n fr [] ⟨rcd.tmps, []⟩ := ⟨hA.f.size, rfl, hA.f.slot⟩;have hc1 := hcall rcd (w.heap.size + 1) w.heap.size w₁ rfl rfl rfl rfl rfl hT hA.i.keep.size (by have := hA.i.keep.size; omega) hI1
  refine ⟨w.heap.size + 1, [y1 w.heap.size], w₁, { target := .fn (.func gf) lb.toArray, args := #[.func (.yield (w.heap.size + 1)) #[] #[]] }, w₁, gf, (.func (.yield (w.heap.size + 1)) #[] #[] :: lb).toArray, w₁,
    run_enterLoop_outer fn a.tmps ps assign body, ?_, fun _ _ => trivial, ?_, fun e => (by cases e), ?_⟩
  · show (resolve a.eval { callee := .value g, args := #[.const (.func (.yield (w.heap.size + 1)) #[] #[])], argTypes := #[] } 0).run P w₁ = _;have he : a.eval (.const (.func (.yield (w.heap.size + 1)) #[] #[])) = .func (.yield (w.heap.size + 1)) #[] #[] := rfl;simp [resolve, hev, Deferred.ofValue, he]
  · simp [invoke, hc]
  · refine (callsIn_wide (n := 0 - 1)).2 (Calls.mono hc1 fun e w' ⟨v, D', hp', st, pend, he, hst, hI', hK⟩ => ?_);subst he;have hl := hI'.own _ _ (List.mem_cons_self);have hend := run_endLoop (P := P) hl hst;have hI2 := (yB hI' (k := 0) rfl (.loop { rcd with state := .exhausted, pending := pend })).tail;have haf := hafter _ _ _ _ hA.i.keep.size hK
    have hat : At ⟨x.n, [y1 w.heap.size], x.S, x.w0⟩ fr D' ((w.heap.size, .deferred (some [])) :: hp') { a with defers := [y1 w.heap.size] ++ a.defers } (w'.putObj (w.heap.size + 1) (.loop { rcd with state := .exhausted, pending := pend })) :=
      ⟨⟨hA.f.size, by rw [had]; rfl, hA.f.slot⟩, hI2⟩
    refine ⟨pend, _, hend, ?_⟩;cases pend with
    | none => exact haf _ _ hat
    | some c => exact (wpIn_wide (n := 0)).2 (haf _ _ hat)
theorem zcn {f : FuncId} {fn : Func} {c : Code} {args : List Value} {S : List Nat} {w : World} {R : Ending → World → Prop} 
    (hf : P.funcs[f]? = some fn) (hb : fn.body = some c) (n : Nat) (hn : fn.ntmps = n) (hl : args.length ≤ n) (hI : Inv D hp S w w)
    (h : WC P ⟨n, [], S, w⟩ (uA 0 args) D hp c (bodyPostM Fence.wide 0 P fn R)) : Calls P f args.toArray w R := by
  refine (callsIn_wide (n := 0)).1 (callsIn_of_wp_marks hf hb trivial ((wpIn_wide (n := 0)).2 (h _ _ ⟨⟨?_, rfl, fun t v ht => ?_⟩, hI⟩)))
  · simp [hn]; omega
  · obtain ⟨_, h2⟩ := u0 args 0 t v ht;simp at h2
    have hlt : t < args.length := by
      rcases Nat.lt_or_ge t args.length with h3 | h3
      · exact h3
      · rw [List.getElem?_eq_none h3] at h2; cases h2
    simp [Array.getElem?_append, hlt]; exact (List.getElem?_eq_some_iff.1 h2).2
theorem WLF.yield {o : Operand} {A : List Operand} {ts : Array TypeId} {vals : List Value} {S1 : List Nat} {K : Bool → Imm → Hp → Prop} (own hpc : Hp) (hhp : ∀ e, e ∈ own ++ hpc → e ∈ hp) (hnd : (keys hp).Nodup → (keys (own ++ hpc)).Nodup) 
    (hS : ∀ b, b ∈ S1 → b ∈ keys hpc) (hS' : ∀ b, b ∈ keys hpc → b ∈ S1) (ho : opv fr o = some (.func (.yield l) #[] #[])) (ha : opvs fr A = some vals) (hd : dstB dst x.n = true)
    (hk : ∀ w, x.w0.heap.size ≤ w.heap.size → Inv D hpc S1 w w → YieldAt Fence.wide 0 P l vals.toArray w (Vk w D S1 K))
    (h : ∀ b D' hpc', K b D' hpc' → DExt x.w0 D D' → WLF P none x ops (wj dst (.bool b) fr) D' (own ++ hpc') rest Q) :
    WLF P none x ops fr D hp (⟨dst, .call ⟨.value o, A.toArray, ts⟩, ty, pos, af, none⟩ :: rest) Q := fun a w hA => by
  unfold wpListIn;rw [if_pos (show Region.wanted ⟨dst, .call ⟨.value o, A.toArray, ts⟩, ty, pos, af, none⟩ (yielded ops a.tmps) = true from rfl)];refine ⟨fun _ _ => trivial, ?_⟩;have hI := hA.i.sub hhp (hnd hA.i.nodup);obtain ⟨fn, tmps, assign, body, hy, hR⟩ := hk w hA.i.keep.size (hI.frame hS');have h1 := hA.f.evals A vals ha
  have hrun : (Oper.semAt (Fx none).round a.eval ⟨dst, .call ⟨.value o, A.toArray, ts⟩, ty, pos, af, none⟩).run P w = .ok (.round l fn tmps assign body) w := by
    rw [Oper.semAt_none];simp only [execOp];simp [resolve, hA.f.eval ho, Deferred.ofValue, invoke, h1, hy]
  rw [hrun, Oper.uponIn_round];refine ⟨fun e => (by cases e), RoundIn.mono hR fun e w' ⟨b, D', hpc', h2, hD, hI', hS2, hK⟩ => ?_⟩;subst h2;exact h b D' hpc' hK ⟨hD.old, fun b hb => hD.new b (Nat.lt_of_lt_of_le hb hA.i.keep.size)⟩ _ _ ⟨hA.f.putO hd _, hI.unframe hS hS2 hD hI'⟩
theorem zbx {i : Nat} {K : Act → World → Prop} {a : Act} {w : World} (hd : ∀ o, ops[i]? = some o → ∀ c, o.op ≠ .defer c) (hno : ¬ LetsOut Q) (h : wpOp P ops Q i K a w) : wpOpIn (Fx none) 0 P ops Q i K a w := by
  unfold wpOpIn;unfold wpOp at h;cases ho : ops[i]? with
  | none => simp only [ho] at h ⊢; exact h
  | some o =>
    simp only [ho] at h ⊢;split at h
    · rename_i hw
      rw [if_pos hw];rcases h with h | h
      · exact X5 (hd o ho) h
      · exact absurd h.2 hno
    · rename_i hw
      rw [if_neg hw];exact ⟨fun _ _ => trivial, h⟩
theorem uX {n : Nat} (T : qz ops n) : ∀ (l : List Oper) (k : Nat) (listed : Array Bool) (a : Act) (w : World), n ≤ k → k + l.length = ops.size → (∀ j, j < l.length → l[j]? = ops[k + j]?) → LstT ops k listed →
    wpListIn (Fx none) 0 P ops Q l a w → wpAnyIn (Fx none) 0 P .any ops Q l.length listed a w
  | [], k, listed, a, w, hn, hk, _, L, h => by
    refine ⟨?_, h⟩;apply List.eq_nil_iff_forall_not_mem.2;intro t ht;obtain ⟨hun, o, ho, _⟩ := mem_ready.1 ht;have hts : t < ops.size := (Array.getElem?_eq_some_iff.1 ho).1;rw [vP (by rw [L.size]; exact hts)] at hun;have := (L.no t hts).1 hun;simp at hk; omega
  | o :: l, k, listed, a, w, hn, hk, hl, L, h => by
    have hks : k < ops.size := by simp at hk; omega
    have h0 : ops[k]? = some o := by simpa using (hl 0 (by simp)).symm
    have hr := uP T L hn hks;refine ⟨fun h1 => ?_, fun i hi => ?_⟩
    · have := (hr k).2 rfl;rw [h1] at this; cases this
    · have hik := (hr i).1 hi;subst hik;have hw : wpOpIn (Fx none) 0 P ops Q i (wpListIn (Fx none) 0 P ops Q l) a w := by unfold wpOpIn; simp only [h0]; exact h
      refine wpOpIn_mono (fun a' w' h' => uX T l (i + 1) _ a' w' (by omega) (by simp at hk; omega) (fun j hj => by
        have := hl (j + 1) (by simp; omega);rw [show i + 1 + j = i + (j + 1) by omega]; simpa using this) ⟨by simp [L.size], fun j hj => ?_⟩ h') hw
      by_cases e : i = j
      · subst e;have : (listed.setIfInBounds i true).getD i false = true := by simp [L.size, hj]
        rw [this]; simp
      · rw [getD_set_ne false e, L.no j hj]; omega
theorem Za {C : World → Prop} {n : Nat} {tl : List Oper} (hnd : ∀ (i : Nat) (o : Oper), ops[i]? = some o → ∀ c, o.op ≠ .defer c) (hno : ¬ LetsOut Q) (T : qz ops n) (htl : n + tl.length = ops.size) (htl' : ∀ j, j < tl.length → tl[j]? = ops[n + j]?) :
    ∀ (m : Nat) (l : List Nat) (listed : Array Bool) (a : Act) (w : World), l.length = m → C w → Lst ops n l listed → remQ P ops C (fun a' => ∀ w', C w' → wpListIn (Fx none) 0 P ops Q tl a' w') l a →
      wpAnyIn (Fx none) 0 P .any ops Q (l.length + tl.length) listed a w := by
  intro m
  induction m with
  | zero =>
    intro l listed a w hm hw L h;have hl : l = [] := List.length_eq_zero_iff.1 hm;subst hl;rw [List.length_nil, Nat.zero_add];exact uX T tl n listed a w (Nat.le_refl _) htl htl' ⟨L.size, fun i hi => by rw [L.no i hi]; simp⟩ (h w hw)
  | succ m ih =>
    intro l listed a w hm hw L h;have hne : l ≠ [] := fun e => by rw [e] at hm; cases hm
    rw [show l.length + tl.length = (m + tl.length) + 1 by omega];refine ⟨fun h0 => absurd h0 (vd T L hne), fun i hi => ?_⟩;obtain ⟨hil, hnw⟩ := L.ready T hne hi;obtain ⟨l1, l2, rfl⟩ := List.append_of_mem hil
    have hap : ∀ j ∈ l1, vH ops i j = true := fun j hj => by
      have hji : j < i := by
        have := L.sorted;rw [List.pairwise_append] at this;exact this.2.2 j hj i List.mem_cons_self
      rcases T.ap i j (L.below i hil) hji with h1 | h1
      · rw [hnw j (List.mem_append_left _ hj)] at h1; cases h1
      · exact h1
    obtain ⟨o, v, ho, hy, hr⟩ := uj T.sel i l2 l1 a hap h;have hlen : (l1 ++ l2).length = m := by simp at hm ⊢; omega
    have key : ∀ w', C w' → wpAnyIn (Fx none) 0 P .any ops Q (m + tl.length) (listed.setIfInBounds i true) (a.put o.dst v) w' := fun w' hw' => by
      have := ih (l1 ++ l2) _ _ w' hlen hw' (L.next T hnw) hr
      rwa [hlen] at this
    exact zbx (hnd i) hno (wpOp_of_qOp (C := C) (K := fun a' => a' = a.put o.dst v) hw (fun a' w' hw' e => by subst e; exact key w' hw') (hy.qOp ho rfl))
def Jr (ops : List Oper) : Bool := ops.all fun o => match o.op with | .defer _ => false | _ => true
theorem uI {l : List Oper} (h : Jr l = true) : ∀ (i : Nat) (o : Oper), l.toArray[i]? = some o → ∀ c, o.op ≠ .defer c := fun i o ho c hc => by
  have hm : o ∈ l := by
    have := Array.mem_of_getElem? ho;simpa using this
  have := List.all_eq_true.1 h o hm;rw [hc] at this;cases this
theorem WQ.tailF {tl : List Oper} (h : WLF P none x ops fr D hp tl Q) : WQ P x ops D hp (fun a' => ∀ w', Inv D hp x.S x.w0 w' → wpListIn (Fx none) 0 P ops Q tl a' w') [] fr := fun a hA w hI => h a w ⟨hA, hI⟩
theorem WC.tailF {id : Nat} {ops : List Oper} (n : Nat) (heads : List Nat) (hh : List.range n = heads) (hm : P.follows .mixedOrders = true) (hB : (X0 ops.toArray n && Jr ops) = true) (hno : ¬ LetsOut Q) 
    (h : WQ P x ops.toArray D hp (fun a' => ∀ w', Inv D hp x.S x.w0 w' → wpListIn (Fx none) 0 P ops.toArray Q (ops.drop n) a' w') heads fr) : WC P x fr D hp (.region id ops.toArray true) Q := fun a w hA => by
  simp only [Bool.and_eq_true] at hB;have T := Z0 hB.1;refine (wpIn_wide (n := 0)).1 (wpIn_region_any (F := Fx none) hm ?_);have hn : n < ops.length := by simpa using T.lt
  have hq := h a hA.f;rw [← hh] at hq
  have := Za (P := P) (Q := Q) (C := Inv D hp x.S x.w0) (tl := ops.drop n) (uI hB.2) hno T (by simp; omega) (fun j hj => by simp [List.getElem?_drop]) n (List.range n) (Array.replicate ops.toArray.size false) a { w with drawn := w.drawn + 1 } (by simp) (hA.i.drew _)
    ⟨by simp, List.pairwise_lt_range, fun i hi => List.mem_range.1 hi, fun i hi => by
      simp only [List.mem_range];constructor
      · intro _; omega
      · intro _; have : i < ops.length := by simpa using hi
        simp [this], fun i j hi hni _ => absurd (List.mem_range.2 hi) hni⟩ hq
  rw [List.length_range, List.length_drop, show n + (ops.length - n) = ops.toArray.size by simp; omega] at this;exact this
end
end Go.W
namespace Go.W
section
variable {P : Program} {x : Cx} {fr : Fr} {D : Imm} {hp : Hp} {ty : TypeId} {Q : Exit → Act → World → Prop} {ops : Array Oper}
theorem WC.scope {c : Code} (h : WC P x fr D hp c (Exit.noGoto Q)) : WC P x fr D hp (.scope c) Q := fun a w hA => wp_scope_straight (h a w hA)
theorem WC.label {l : Nat} (h : WP x fr D hp .normal Q) : WC P x fr D hp (.label l) Q := fun a w hA => wp_label (h a w hA)
theorem WP.scNormal (h : WP x fr D hp .normal Q) : WP x fr D hp .normal (Exit.noGoto Q) := h
theorem WP.scRet (h : WP x fr D hp .ret Q) : WP x fr D hp .ret (Exit.noGoto Q) := h
theorem WP.scPanic {c : List PanicEntry} (h : WP x fr D hp (.panic c) Q) : WP x fr D hp (.panic c) (Exit.noGoto Q) := h
theorem zm.sc (h : zm Q) : zm (Exit.noGoto Q) := fun c d v a w hq => h c d v a w hq
theorem zN.sc (h : zN ops Q) : zN ops (Exit.noGoto Q) := fun i o v c a w ho hq => h i o v c a w ho hq
theorem noLets.then {K : Act → World → Prop} (h : ¬ LetsOut Q) : ¬ LetsOut (Exit.then K Q) := fun ⟨a, w, hq⟩ => h ⟨a, w, hq⟩
theorem noLets.blk {id : Nat} (h : ¬ LetsOut Q) : ¬ LetsOut (Exit.inBlock id Q) := fun ⟨a, w, hq⟩ => h ⟨a, w, hq⟩
theorem noLets.sc (h : ¬ LetsOut Q) : ¬ LetsOut (Exit.noGoto Q) := fun ⟨a, w, hq⟩ => h ⟨a, w, hq⟩
theorem noLets.body {fn : Func} {R : Ending → World → Prop} (h : ∀ w, ¬ R .outgrown w) : ¬ LetsOut (bodyPost P fn R) := fun ⟨_, w, hq⟩ => h w hq
theorem Inv.drop {S : List Nat} {w0 w : World} (k : Nat) (h : Inv D hp S w0 w) : Inv D (hp.drop k) S w0 w :=
  h.sub (fun _ he => List.mem_of_mem_drop he) (by rw [List.map_drop]; exact h.nodup.sublist (List.drop_sublist _ _))
theorem WP.drop {e : Exit} (k : Nat) (h : WP x fr D (hp.drop k) e Q) : WP x fr D hp e Q := fun a w hA => h a w ⟨hA.f, hA.i.drop k⟩
theorem WP.freezeK {e : Exit} (k : Nat) {b : Nat} {o : Obj} (hk : hp[k]? = some (b, o)) (h : D b = none → WP x fr (D.add b o) (hp.eraseIdx k) e Q) : WP x fr D hp e Q :=
  fun a w hA => h (hA.i.freezeK k hk).1 a w ⟨hA.f, (hA.i.freezeK k hk).2⟩
theorem SO.appendSome {t e : TypeId} {o : Ow} {len n size : Nat} {xs ys : List Value} {info : TypeInfo} {z : Value} {ts : Array TypeId} {a1 a2 : Operand} {vy : Value} (base hp0 : Hp) 
    (ht : ts[0]? = some t) (ht' : ts[1]? = some t) (hu : P.underlying t = some (.slice e)) (hz : ∀ w, (sizeOf e).run P w = .ok size w) (hi : ∀ w, (typeInfo e).run P w = .ok info w) (hzero : ∀ w, (zeroValue e).run P w = .ok z w) (hzl : z.cells.size = size)
    (hs : opv fr a1 = some (owV (some o) len)) (hy : opv fr a2 = some vy) (hhp : hp = base ++ owH (some o) e xs hp0) (hyr : RdS D hp size vy n ys) (hone : ∀ v ∈ ys, v.oneCell' = true)
    (how : owP x.w0 (some o) len size) (hxl : xs.length = len * size) (hb : (2 * (len + n) + 1000) * info.bytes ≤ 2 ^ 48) (hn : len + n ≤ 2 ^ 48) :
    SO P x fr D hp (.call ⟨.builtin .append, #[a1, a2], ts⟩) ty Q (AppK x.w0 D base hp0 e size (xs ++ ys) (len + n)) := fun a w dst pos af g next hA hnx => by
  have hrun : ∀ {v : Value} {w' : World}, (Builtin.append_ ts ty #[owV (some o) len, vy]).run P w = .ok v w' → (execOp a.eval ⟨dst, .call ⟨.builtin .append, #[a1, a2], ts⟩, ty, pos, af, g⟩).run P w = .ok (.value v) w' := fun {v} {w'} h => by
    simp only [execOp, resolve, List.map_toArray, List.map_cons, List.map_nil, hA.f.eval hs, hA.f.eval hy];simp [invoke, builtin, h]
  unfold Oper.wp;obtain ⟨hwb, hlc, hrl⟩ := how
  have hk : hp[base.length]? = some (o.b, .cells (xs ++ o.rest).toArray e (0, 0)) := by
    subst hhp; simp [owH]
  by_cases hg : len + n ≤ o.cap
  · have h3 := uz (P := P) (ty := ty) (s := owV (some o) len) ht ht' hu hz hA.i rfl hk hxl hrl hyr hone hg;rw [hrun h3, Oper.upon_value];refine hnx _ _ _ _ ⟨⟨o.b, o.cap, o.rest.drop ys.length⟩, ⟨hwb, hg, by simp [hrl, hyr.1, ← Nat.sub_mul, Nat.sub_sub]⟩, rfl, rfl, rfl⟩ ?_;have hI := hA.i.set hk (.cells (xs ++ ys ++ o.rest.drop ys.length).toArray e (0, 0));subst hhp
    have hset : (base ++ owH (some o) e xs hp0).set base.length (o.b, .cells (xs ++ ys ++ o.rest.drop ys.length).toArray e (0, 0)) = base ++ (o.b, .cells (xs ++ ys ++ o.rest.drop ys.length).toArray e (0, 0)) :: hp0 := by
      rw [List.set_append_right _ _ (by omega)]; simp [owH]
    rw [hset] at hI;exact hI
  · obtain ⟨cap', rest, h1, h2, h3⟩ := xc (P := P) (ty := ty) (cap := o.cap) (xs := xs) (s := owV (some o) len) ht ht' hu hz hi hzero hzl hA.i rfl
      ⟨hxl, .inr ⟨o.b, 0, o.cap, rfl, fun j v hj => by
        have := Rd.own (D := D) (hp := hp) hk (off := 0 + j) (v := v) (by
          rw [Nat.zero_add, List.getElem?_append_left (List.getElem?_eq_some_iff.1 hj).1]; exact hj)
        exact this⟩⟩ hyr (by omega) hb hn
    rw [hrun h3, Oper.upon_value];refine hnx _ _ _ _ ⟨⟨w.heap.size, cap', rest⟩, ⟨hA.i.keep.size, h1, h2⟩, rfl, rfl, rfl⟩ ?_;have hI := (hA.i.drew (w.drawn + 1)).new (.cells (xs ++ ys ++ rest).toArray e (0, 0));subst hhp;have hnd := hI.nodup;simp only [owH, List.map_cons, List.map_append, List.nodup_cons] at hnd;have hnd2 := hnd.2;refine hI.sub (qX (fun e' he' => List.mem_cons_of_mem _ ?_) List.mem_cons_self) (ve (fun h => hnd.1 ?_) ?_)
    · rcases List.mem_append.1 he' with h | h
      · exact List.mem_append_left _ h
      · exact List.mem_append_right _ (List.mem_cons_of_mem _ h)
    · rcases h with h | h
      · exact List.mem_append_left _ h
      · exact List.mem_append_right _ (List.mem_cons_of_mem _ h)
    · rw [List.nodup_append] at hnd2 ⊢;refine ⟨hnd2.1, (List.nodup_cons.1 hnd2.2.1).2, fun a ha b hb => hnd2.2.2 a ha b (List.mem_cons_of_mem _ hb)⟩
end
theorem flat_get {α : Type} [Inhabited α] {f : α → List Value} {m : Nat} (hf : ∀ x, (f x).length = m) : ∀ (l : List α) (i j : Nat), i < l.length → j < m → (l.flatMap f)[i * m + j]? = (f (gt l i))[j]? := by
  intro l
  induction l with
  | nil => intro i j hi _; simp at hi
  | cons x l ih =>
    intro i j hi hj;rw [List.flatMap_cons];cases i with
    | zero => rw [Nat.zero_mul, Nat.zero_add, List.getElem?_append_left (by rw [hf]; exact hj)]; rfl
    | succ i =>
      rw [List.getElem?_append_right (by rw [hf, Nat.succ_mul]; omega), hf, show (i + 1) * m + j - m = i * m + j by rw [Nat.succ_mul]; omega, ih i j (by simpa using hi) hj];rfl
theorem zr {α : Type} {f : α → List Value} {m : Nat} (hf : ∀ x, (f x).length = m) (l : List α) : (l.flatMap f).length = l.length * m := by
  induction l with
  | nil => simp
  | cons x l ih => rw [List.flatMap_cons, List.length_append, hf, ih, List.length_cons, Nat.succ_mul]; omega
theorem SlL.ofBlock {α : Type} [Inhabited α] {f : α → List Value} {m : Nat} {D : Imm} {b : Nat} {t : TypeId} {fz : Nat × Nat} {l : List α} {rest : List Value} (hf : ∀ x, (f x).length = m) (hD : D b = some (.cells (l.flatMap f ++ rest).toArray t fz)) :
    SlL D m (l.map f) (some ⟨b, 0, none⟩) l.length :=
  ⟨by simp, fun i r hr => by
    refine ⟨rfl, _, _, _, hD, fun j v hv => ?_⟩
    have hi : i < l.length := by
      have := (List.getElem?_eq_some_iff.1 hr).1;simpa using this
    have hr' : r = f (gt l i) := by
      rw [List.getElem?_map, wX hi] at hr;exact (Option.some.inj hr).symm
    subst hr';have hj : j < m := by rw [← hf (gt l i)]; exact (List.getElem?_eq_some_iff.1 hv).1
    have h1 := flat_get hf l i j hi hj;rw [hv] at h1
    show (l.flatMap f ++ rest)[0 + i * m + j]? = some v;rw [Nat.zero_add, List.getElem?_append_left (List.getElem?_eq_some_iff.1 h1).1];exact h1⟩
theorem SlL.rdS {α : Type} [Inhabited α] {f : α → List Value} {m : Nat} {D : Imm} {hp : Hp} {l : List α} {a : Option Addr} {n c : Nat} (hf : ∀ x, (f x).length = m) (h : SlL D m (l.map f) a n) (h0 : l = [] → a = none) : RdS D hp m (.slice a n c) n (l.flatMap f) := by
  have hn := h.len';subst hn;refine ⟨zr hf l, ?_⟩;cases l with
  | nil => exact .inl ⟨c, by rw [h0 rfl], rfl⟩
  | cons x l =>
    have ha := h.addr 0 (by simp);refine .inr ⟨sb a, so a, c, by rw [ha]; rfl, fun j v hj => ?_⟩;have hlt : j < (x :: l).length * m := by rw [← zr hf]; exact (List.getElem?_eq_some_iff.1 hj).1
    have hm : 0 < m := by
      rcases Nat.eq_zero_or_pos m with e | e
      · rw [e, Nat.mul_zero] at hlt; omega
      · exact e
    have hq : j / m < (x :: l).length := (Nat.div_lt_iff_lt_mul hm).2 hlt;have hr : j % m < m := Nat.mod_lt _ hm;have he : j / m * m + j % m = j := Nat.div_add_mod' j m;have h1 := flat_get hf (x :: l) (j / m) (j % m) hq hr;rw [he, hj] at h1;have h2 := (h.at (j / m) hq).rd (hp := hp) (j % m) (v := v) h1.symm;rw [show so a + j / m * m + j % m = so a + j by omega] at h2;exact h2
end Go.W
namespace Go.W
section
variable {P : Program} {x : Cx} {fr : Fr} {D : Imm} {hp : Hp} {ty : TypeId} {Q : Exit → Act → World → Prop} {ops : Array Oper}
theorem SO.makeSlice {t e : TypeId} {size n : Nat} {info : TypeInfo} {z : Value} {zs : List Value} {a1 a2 : Operand} (hu : P.underlying t = some (.slice e)) (hz : ∀ w, (sizeOf e).run P w = .ok size w) (hi : ∀ w, (typeInfo e).run P w = .ok info w) (hzero : ∀ w, (zeroValue e).run P w = .ok z w) (hzs : z.cells = zs.toArray) 
    (h1 : opv fr a1 = some (.int .i64 (n : Int))) (h2 : opv fr a2 = some (.int .i64 (n : Int))) (hn : n ≤ 2 ^ 40) (hb : info.bytes * (n : Int) ≤ 2 ^ 48) : SO P x fr D hp (.makeSlice t a1 a2) ty Q (NewS x D hp (xI zs (n * size)) e n) := fun a w dst pos af g next hA hnx => by
  unfold Oper.wp;have hw : IntKind.i64.wrap (n : Int) = (n : Int) := wr64 (by omega);have hng : ¬ ((n : Int) < 0) := by omega
  have hbig : ¬ (info.bytes * (n : Int) > 2 ^ 48) := by omega
  have hrun : (Instr.makeSlice t (.int .i64 (n : Int)) (.int .i64 (n : Int))).run P w = .ok (.slice (some ⟨w.heap.size, 0, none⟩) n n) { w with heap := w.heap.push (.cells (xI zs (n * size)).toArray e (0, 0)) } := by
    have ha : ∀ w, (asInt (.int .i64 (n : Int))).run P w = .ok (n : Int) w := fun w => rfl;unfold Instr.makeSlice;simp only [Sem.run_bind, run_underlying hu, Result.andThen_ok, ha, Sem.run_pure, hi, hw];simp only [hng, hbig, decide_false, Bool.or_false, Bool.false_eq_true, false_or, if_false, or_false, gt_iff_lt, Int.lt_irrefl, run_askRoom, Question.cut, Sem.run_bind, Result.andThen_ok, hz, Int.toNat_natCast];by_cases h0 : n * size = 0
    · simp only [h0, if_true, Sem.run_pure, Result.andThen_ok, newRow, Sem.run_bind, run_newObj];have e0 : Array.range 0 = #[] := by apply Array.ext'; simp
      simp [xI, e0]
    · simp only [h0, if_false, Sem.run_bind, hzero, Sem.run_pure, Result.andThen_ok, newRow, run_newObj, hzs];rw [Wl]
  have : (execOp a.eval ⟨dst, .makeSlice t a1 a2, ty, pos, af, g⟩).run P w = .ok (.value (.slice (some ⟨w.heap.size, 0, none⟩) n n)) { w with heap := w.heap.push (.cells (xI zs (n * size)).toArray e (0, 0)) } := by
    simp only [execOp, hA.f.eval h1, hA.f.eval h2];simp [hrun]
  rw [this, Oper.upon_value];exact hnx _ _ _ _ ⟨_, hA.i.keep.size, rfl, rfl, rfl⟩ (hA.i.new _)
theorem yz (zs : List Value) : ∀ n, (xI zs n).length = n := by
  intro n; induction n with
  | zero => rfl
  | succ n ih => simp [xI, ih]
def zdq (D : Imm) (hp : Hp) (k b : Nat) (o : Obj) (_ : Value) (D' : Imm) (hp' : Hp) : Prop := D = D' ∧ hp' = hp.set k (b, o)
theorem SO.copy {t e : TypeId} {b n c size k : Nat} {cs ys : List Value} {vy : Value} {ts : Array TypeId} {a1 a2 : Operand} (ht : ts[0]? = some t) (hu : P.underlying t = some (.slice e)) (hz : ∀ w, (sizeOf e).run P w = .ok size w) 
    (h1 : opv fr a1 = some (.slice (some ⟨b, 0, none⟩) n c)) (h2 : opv fr a2 = some vy) (hk : hp[k]? = some (b, .cells cs.toArray e (0, 0))) (hyr : RdS D hp size vy n ys) (hone : ∀ v ∈ ys, v.oneCell' = true) (hl : ys.length ≤ cs.length) :
    SO P x fr D hp (.call ⟨.builtin .copy, #[a1, a2], ts⟩) ty Q (zdq D hp k b (.cells (splice cs 0 ys).toArray e (0, 0))) := fun a w dst pos af g next hA hnx => by
  unfold Oper.wp
  have hlen : (Builtin.lenOf vy).run P w = .ok n w := by
    obtain ⟨_, ⟨c, rfl, _⟩ | ⟨b, o, c, rfl, _⟩⟩ := hyr <;> rfl
  have hf := xn (P := P) hyr hA.i;have hbk := hA.i.own _ _ (mem_of_get? hk);have hst := wl (P := P) (e := e) ys w cs 0 0 hbk (by simpa using hl) hone
  have hrun : (Builtin.copy_ ts ty #[.slice (some ⟨b, 0, none⟩) n c, vy]).run P w = .ok (goInt n) { w with heap := w.heap.setIfInBounds b (.cells (splice cs 0 ys).toArray e (0, 0)) } := by
    unfold Builtin.copy_;simp only [ht, List.getElem?_toArray, List.getElem?_cons_zero, List.getElem?_cons_succ, Sem.run_bind, run_underlying hu, Result.andThen_ok, hlen, hz, Sem.run_pure];have hm : Nat.min n n = n := Nat.min_self n;simp only [hm, hf, Result.andThen_ok, Sem.run_bind, List.toList_toArray, hst, Sem.run_pure, Nat.add_zero]
  have : (execOp a.eval ⟨dst, .call ⟨.builtin .copy, #[a1, a2], ts⟩, ty, pos, af, g⟩).run P w = .ok (.value (goInt n)) { w with heap := w.heap.setIfInBounds b (.cells (splice cs 0 ys).toArray e (0, 0)) } := by
    simp only [execOp, resolve, List.map_toArray, List.map_cons, List.map_nil, hA.f.eval h1, hA.f.eval h2];simp [invoke, builtin, hrun]
  rw [this, Oper.upon_value];exact hnx _ _ _ _ ⟨rfl, rfl⟩ (hA.i.set hk _)
end
end Go.W
namespace Go.W
abbrev ut (n : Nat) : Value := .int .u64 (n : Int)
section
variable {P : Program} {x : Cx} {fr : Fr} {D : Imm} {hp : Hp} {ty : TypeId} {Q : Exit → Act → World → Prop} {ops : Array Oper}
theorem Yd.addN {t t' : TypeId} {o p : Operand} {i j : Nat} (ho : opv fr o = some (nt i)) (hp' : opv fr p = some (nt j)) (hi : i + j ≤ 2 ^ 60) : Yd P x fr D hp (.binOp .add t o p t') ty (nt (i + j)) := Yd.add (P := P) (x := x) (D := D) (hp := hp) (ty := ty) (t := t) (t' := t') ho hp' (wr64 ⟨by omega, by omega⟩)
theorem wrU (n : Nat) (h : n ≤ 2 ^ 60) : IntKind.u64.wrap (n : Int) = (n : Int) := by
  have : IntKind.u64.wrap (n : Int) = (n : Int) % 2 ^ 64 := by simp [IntKind.wrap, IntKind.bits, IntKind.signed]
  rw [this]; omega
section
variable {t t' : TypeId} {o p : Operand}
include t t' o p
theorem Yd.addU {i j : Nat} (ho : opv fr o = some (ut i)) (hp' : opv fr p = some (ut j)) (h : i + j ≤ 2 ^ 60) : Yd P x fr D hp (.binOp .add t o p t') ty (ut (i + j)) := by
  have hw := wrU (i + j) h;push_cast at hw;exact Yd.add (P := P) (x := x) (D := D) (hp := hp) (ty := ty) (t := t) (t' := t') ho hp' hw
section
variable {k : IntKind} {i j : Int} (ho : opv fr o = some (.int k i)) (hp' : opv fr p = some (.int k j))
include k i j ho hp'
theorem Yd.addW : Yd P x fr D hp (.binOp .add t o p t') ty (.int k (k.wrap (i + j))) := .bin ho hp' fun w => by
  simp [Go.binOp, Op.intArith]
theorem Yd.andW : Yd P x fr D hp (.binOp .and t o p t') ty (.int k (k.wrap ((BitVec.ofInt k.bits i &&& BitVec.ofInt k.bits j).toNat))) :=
  .bin ho hp' fun w => by
    have : (Op.intBits .and k i j).run P w = .ok (.int k (k.wrap (BitVec.ofInt k.bits i &&& BitVec.ofInt k.bits j).toNat)) w := rfl
    simp [Go.binOp, this]
end
end
theorem Yd.convW {s e : TypeId} {o : Operand} {k k' : IntKind} {d : TypeDesc} {i : Int} (hs : P.underlying s = some d) (he : P.underlying e = some (.int k')) (ho : opv fr o = some (.int k i)) : Yd P x fr D hp (.convert s e o) ty (.int k' (k'.wrap i)) := fun a w _ _ _ _ hA _ => by
  simp only [execOp, hA.eval ho]
  have : (Go.convert s e (.int k i)).run P w = .ok (.int k' (k'.wrap i)) w := by
    unfold Go.convert;simp [run_underlying hs, run_underlying he];cases d <;> simp [Conv.intToInt]
  simp [this]
theorem WHo.yd {D0 : Imm} {hp0 : Hp} {n i : Nat} {listed : Array Bool} {d : Tmp} {op : Op} {pos : String} {af : Array Edge} {v : Value} (ho : ops[i]? = some ⟨some d, op, ty, pos, af, none⟩) (hy : Yd P x fr D hp op ty v) (hd : Nat.blt d x.n = true) 
    (h : WH P x ops D0 hp0 n (listed.setIfInBounds i true) ((d, v) :: fr) D hp Q) : WHo P x ops D0 hp0 n listed fr D hp Q i := fun a w hA hI => by
  unfold wpOp;simp only [ho];rw [if_pos (show Region.wanted ⟨some d, op, ty, pos, af, none⟩ (yielded ops a.tmps) = true from rfl)];refine .inl ?_;unfold Oper.wp;rw [hy a w _ _ _ _ hA.f hA.i, Oper.upon_value];exact ⟨hI, h _ _ ⟨hA.f.put hd v, hA.i⟩ hI⟩
end
end Go.W
namespace Go.W
section
variable {P : Program} {x : Cx} {fr : Fr} {D : Imm} {hp : Hp} {ty : TypeId} {Q : Exit → Act → World → Prop}
theorem WC.seqJ {α : Type} {A B : Code} (F : α → Fr) (H : α → Hp) (I : α → Imm) (φ : α → Prop) (hB : ∀ y, φ y → WC P x (F y) (I y) (H y) B Q) 
    (hA : WC P x fr D hp A (Exit.then (fun a w => ∃ y, φ y ∧ At x (F y) (I y) (H y) a w) Q)) : WC P x fr D hp (.seq A B) Q := fun a w hAt =>
  wp_seq (Code.wp_mono (fun e a w q => by
    cases e with
    | normal => obtain ⟨y, hy, hat⟩ := q; exact hB y hy a w hat
    | _ => exact q) (hA a w hAt))
theorem WP.join {α : Type} {F : α → Fr} {H : α → Hp} {I : α → Imm} {φ : α → Prop} (z : α) (hz : φ z) (hA : ∀ a w, At x fr D hp a w → At x (F z) (I z) (H z) a w) :
    WP x fr D hp .normal (Exit.then (fun a w => ∃ y, φ y ∧ At x (F y) (I y) (H y) a w) Q) := fun a w h => ⟨z, hz, hA a w h⟩
end
end Go.W
namespace Go.W
section
variable {P : Program} {x : Cx} {fr : Fr} {D : Imm} {hp : Hp} {ty : TypeId} {Q : Exit → Act → World → Prop}
theorem Yd.andU1 {t t' : TypeId} {o p : Operand} {i : Nat} (ho : opv fr o = some (ut i)) (hp' : opv fr p = some (.int .u64 1)) : Yd P x fr D hp (.binOp .and t o p t') ty (ut (i % 2)) := by
  have := Yd.andW (P := P) (x := x) (D := D) (hp := hp) (ty := ty) (t := t) (t' := t') ho hp'
  have e : (BitVec.ofInt IntKind.u64.bits (i : Int) &&& BitVec.ofInt IntKind.u64.bits 1).toNat = i % 2 := by
    have : (BitVec.ofInt IntKind.u64.bits 1) = 1#64 := rfl
    rw [this]
    show (BitVec.ofInt 64 (i : Int) &&& 1#64).toNat = i % 2;rw [BitVec.toNat_and, BitVec.toNat_ofInt];simp only [BitVec.toNat_ofNat];rw [show (1 % 2 ^ 64 : Nat) = 2 ^ 1 - 1 from rfl, Nat.and_two_pow_sub_one_eq_mod];omega
  rw [e, wrU _ (by omega)] at this;exact this
end
end Go.W
namespace Go.W
section
variable {P : Program} {x : Cx} {fr : Fr} {D : Imm} {hp : Hp} {ty : TypeId} {Q : Exit → Act → World → Prop}
end
end Go.W
namespace Go.W
theorem Inv.unframeN {D D' : Imm} {own hpc hpc' : Hp} {S0 S1 : List Nat} {w0 w w' : World} (h : Inv D (own ++ hpc) S0 w0 w) (hS : ∀ b, b ∈ S1 → b ∈ keys hpc) (hS' : ∀ b, b ∈ keys hpc' → b ∈ S1 ∨ w.heap.size ≤ b) 
    (hD : DExt w D D') (h' : Inv D' hpc' S1 w w') : Inv D' (own ++ hpc') S0 w0 w' := by
  have hnd := h.nodup;rw [List.map_append] at hnd;have hdj := (List.nodup_append.1 hnd).2.2;have hown : ∀ b o, (b, o) ∈ own → b ∉ S1 := fun b o hb hs => hdj b (qN hb) b (hS b hs) rfl;refine ⟨h'.imm, fun b o hb => ?_, ?_, fun b o hb => ?_, ?_, fun b o hb => ?_⟩
  · rcases List.mem_append.1 hb with hb | hb
    · have h1 := h.own b o (List.mem_append_left _ hb);rw [h'.keep.block b (lt_of_some h1) (hown b o hb)]; exact h1
    · exact h'.own b o hb
  · rw [List.map_append];refine List.nodup_append.2 ⟨(List.nodup_append.1 hnd).1, h'.nodup, fun b hb c hc e => ?_⟩;subst e;obtain ⟨o, ho⟩ := yQ hb;rcases hS' b hc with h1 | h1
    · exact hown b o ho h1
    · have := lt_of_some (h.own b o (List.mem_append_left _ ho)); omega
  · rcases List.mem_append.1 hb with hb | hb
    · have hm := List.mem_append_left hpc hb;exact hD.new b (lt_of_some (h.own b o hm)) (h.apart b o hm)
    · exact h'.apart b o hb
  · refine ⟨h'.keep.os.trans h.keep.os, h'.keep.tape.trans h.keep.tape, h'.keep.output.trans h.keep.output, Nat.le_trans h.keep.size h'.keep.size, fun j hj hjS => ?_, fun a ha => (h'.keep.fz a (Nat.lt_of_lt_of_le ha h.keep.size)).trans (h.keep.fz a ha)⟩;rw [h'.keep.block j (Nat.lt_of_lt_of_le hj h.keep.size) (fun hs => ?_)]
    · exact h.keep.block j hj hjS
    · obtain ⟨o, ho⟩ := yQ (hS j hs);rcases h.may j o (List.mem_append_right _ ho) with h1 | h1
      · exact hjS h1
      · omega
  · rcases List.mem_append.1 hb with hb | hb
    · exact h.may b o (List.mem_append_left _ hb)
    · rcases hS' b (qN hb) with h1 | h1
      · obtain ⟨o', ho'⟩ := yQ (hS b h1);exact h.may b o' (List.mem_append_right _ ho')
      · exact .inr (Nat.le_trans h.keep.size h1)
def News (P : Program) (f : FuncId) (vals : List Value) (w : World) (D : Imm) (K : Value → Imm → Hp → Prop) : Prop :=
  Calls P f vals.toArray w fun e w' => ∃ v D' hpc', e = .returned v ∧ DExt w D D' ∧ Inv D' hpc' [] w w' ∧ K v D' hpc'
section
variable {P : Program} {x : Cx} {fr : Fr} {D : Imm} {hp : Hp} {ty : TypeId} {Q : Exit → Act → World → Prop}
end
end Go.W
namespace Go.W
section
variable {P : Program} {x : Cx} {fr : Fr} {D : Imm} {hp : Hp} {Q : Exit → Act → World → Prop} {ops : Array Oper}
theorem WA.freezeK {D0 : Imm} {hp0 : Hp} {plan : List (Nat × Bool)} (k : Nat) {b : Nat} {o : Obj} (hk : hp[k]? = some (b, o)) (h : D b = none → WA P x ops D0 hp0 plan fr (D.add b o) (hp.eraseIdx k) Q) : WA P x ops D0 hp0 plan fr D hp Q :=
  fun a w hA => h (hA.i.freezeK k hk).1 a w ⟨hA.f, (hA.i.freezeK k hk).2⟩
end
end Go.W
namespace Go.W
section
variable {P : Program} {x : Cx} {fr : Fr} {D : Imm} {hp : Hp} {ty : TypeId}
section
variable {ts : Array TypeId} {p q : Operand} {k : IntKind} {a b : Int} (hp1 : opv fr p = some (.int k a)) (hp2 : opv fr q = some (.int k b))
include ts p q k a b hp1 hp2
theorem Yd.max2 :
    Yd P x fr D hp (.call ⟨.builtin .max, #[p, q], ts⟩) ty (.int k (max a b)) := fun act w _ _ _ _ hA _ => by
  simp only [execOp, resolve, List.map_toArray, List.map_cons, List.map_nil, hA.eval hp1, hA.eval hp2];simp [invoke, builtin, Builtin.max_, Builtin.max2];split <;> omega
theorem Yd.min2 :
    Yd P x fr D hp (.call ⟨.builtin .min, #[p, q], ts⟩) ty (.int k (min a b)) := fun act w _ _ _ _ hA _ => by
  simp only [execOp, resolve, List.map_toArray, List.map_cons, List.map_nil, hA.eval hp1, hA.eval hp2];simp [invoke, builtin, Builtin.min_, Builtin.min2];split <;> omega
end
end
end Go.W
namespace Go.W
def owL (o : Option Ow) (len size : Nat) : Prop := match o with | none => len = 0 | some o => len ≤ o.cap ∧ o.rest.length = (o.cap - len) * size
theorem wt {w : World} {o : Option Ow} {len size : Nat} (h : owP w o len size) : owL o len size := by
  cases o with
  | none => exact h
  | some o => exact h.2
section
variable {P : Program} {x : Cx} {fr : Fr} {D : Imm} {hp : Hp} {ty : TypeId} {Q : Exit → Act → World → Prop} {ops : Array Oper}
def zp (P : Program) (f : FuncId) (vals : List Value) (w : World) (D : Imm) (S1 : List Nat) (K : Value → Imm → Hp → Prop) : Prop :=
  Calls P f vals.toArray w fun e w' => ∃ v D' hpc', e = .returned v ∧ DExt w D D' ∧ Inv D' hpc' S1 w w' ∧ K v D' hpc'
theorem SO.altersN {c : Call} {f : FuncId} {vals : List Value} {S1 : List Nat} {K : Value → Imm → Hp → Prop} (own hpc : Hp) (hhp : ∀ e, e ∈ own ++ hpc → e ∈ hp) (hnd : (keys hp).Nodup → (keys (own ++ hpc)).Nodup) 
    (hS : ∀ b, b ∈ S1 → b ∈ keys hpc) (hS' : ∀ b, b ∈ keys hpc → b ∈ S1) (he : Enters P x fr D hp c ty f vals)
    (hk : ∀ w, Inv D hpc S1 w w → zp P f vals w D S1 K) : SO P x fr D hp (.call c) ty Q (AltK x.w0 D own K) := fun a w dst pos af g next hA hn => by
  unfold Oper.wp;rw [he a w dst pos af g hA.f hA.i, Oper.upon_enter];have hI := hA.i.sub hhp (hnd hA.i.nodup);refine (hk w (hI.frame hS')).mono fun e w' ⟨v, D', hpc', h, hD, hI', hK⟩ => ?_;rw [h];exact hn _ _ _ _ ⟨hpc', ⟨hD.old, fun b hb => hD.new b (Nat.lt_of_lt_of_le hb hA.i.keep.size)⟩, hK, rfl⟩ (hI.unframeN hS (fun b hb => by obtain ⟨o, ho⟩ := yQ hb; exact hI'.may b o ho) hD hI')
theorem Inv.pick {S : List Nat} {w0 w : World} (k : Nat) {e : Nat × Obj} (hk : hp[k]? = some e) (h : Inv D hp S w0 w) : Inv D [e] S w0 w :=
  h.sub (fun e' he' => by rw [List.mem_singleton.1 he']; exact List.mem_of_getElem? hk) (by simp)
theorem WH.freezeK {D0 : Imm} {hp0 : Hp} {n : Nat} {listed : Array Bool} (k : Nat) {b : Nat} {o : Obj} (hk : hp[k]? = some (b, o)) (h : D b = none → WH P x ops D0 hp0 n listed fr (D.add b o) (hp.eraseIdx k) Q) : WH P x ops D0 hp0 n listed fr D hp Q :=
  fun a w hA hI => h (hA.i.freezeK k hk).1 a w ⟨hA.f, (hA.i.freezeK k hk).2⟩ hI
end
end Go.W
namespace Go.W
section
variable {P : Program} {x : Cx} {fr : Fr} {D : Imm} {hp : Hp} {Q : Exit → Act → World → Prop} {ops : Array Oper} {rest : List Oper} {dst : Option Tmp} {op : Op} {ty : TypeId} {pos : String} {af : Array Edge}
theorem vp {n : Nat} {ds : List Deferred} {a : Act} (hA : AtF n fr ds a) {j : Nat} {want : Bool} (h : gval ops fr j = some undef) : Region.wanted ⟨dst, op, ty, pos, af, some (j, want)⟩ (yielded ops a.tmps) = false := by
  have h1 : yielded ops a.tmps j = none := by
    unfold gval at h;unfold yielded;cases hd : (ops[j]?).bind (·.dst) with
    | none => rfl
    | some t => rw [hd] at h; simp only [Option.bind_some] at h ⊢; rw [hA.slot _ _ h]; rfl
  unfold Region.wanted;simp only [h1];cases want <;> rfl
theorem WL.skipU {j : Nat} {b : Bool} (hg : gval ops fr j = some undef) (hd : dstB dst x.n = true) (h : WL P x ops (wj dst undef fr) D hp rest Q) : WL P x ops fr D hp (⟨dst, op, ty, pos, af, some (j, b)⟩ :: rest) Q :=
  fun a w hA => wpList_step fun K hK => by
    rw [if_neg (by rw [vp hA.f hg]; simp)];exact hK _ _ (h _ _ ⟨hA.f.putO hd undef, hA.i⟩)
theorem WA.skipU {D0 : Imm} {hp0 : Hp} {plan : List (Nat × Bool)} {i : Nat} {y : Bool} {j : Nat} {b : Bool} (ho : ops[i]? = some ⟨dst, op, ty, pos, af, some (j, b)⟩) (hg : gval ops fr j = some undef) (hd : dstB dst x.n = true) (h : WA P x ops D0 hp0 plan (wj dst undef fr) D hp Q) :
    WA P x ops D0 hp0 ((i, y) :: plan) fr D hp Q := fun a w hA => by
  have hw : Region.wanted ⟨dst, op, ty, pos, af, some (j, b)⟩ (yielded ops a.tmps) = false := vp hA.f hg;have := h _ _ ⟨hA.f.putO hd undef, hA.i⟩;cases y with
  | true => exact ⟨_, undef, ho, .inr ⟨hw, rfl⟩, this⟩
  | false => exact ⟨_, ho, by rw [if_neg (by rw [hw]; simp)]; exact this⟩
end
end Go.W
namespace Go.W
open Go.WideElems (findIdx_born findIdx_arr modify_last)
section
variable {α : Type} [DecidableEq α]
structure MapR (kv : α → Value) (es : Array MapEntry) (clock : Nat) (F : α → Option Int) : Prop where
  ent : ∀ e ∈ es.toList, ∃ x v, e.key = kv x ∧ e.val = it v ∧ F x = some v
  all : ∀ x v, F x = some v → ∃ e ∈ es.toList, e.key = kv x
  keys : (es.toList.map (·.key)).Nodup
  born : (es.toList.map (·.born)).Nodup
  lt : ∀ e ∈ es.toList, e.born < clock
def putF (F : α → Option Int) (x : α) (v : Int) : α → Option Int := fun y => if y = x then some v else F y
theorem MapR.empty (kv : α → Value) : MapR kv #[] 0 (fun _ => none) := ⟨fun e he => (by simp at he), fun x v h => (by cases h), (by simp), (by simp), fun e he => (by simp at he)⟩
variable {kv : α → Value} {es : Array MapEntry} {clock : Nat} {F : α → Option Int}
theorem MapR.push (hinj : ∀ x y, kv x = kv y → x = y) (h : MapR kv es clock F) {x : α} (hno : ∀ e ∈ es.toList, e.key ≠ kv x) (v : Int) : MapR kv (es.push { key := kv x, val := it v, born := clock }) (clock + 1) (putF F x v) := by
  refine ⟨fun e he => ?_, fun y u hy => ?_, ?_, ?_, fun e he => ?_⟩
  · simp only [Array.toList_push, List.mem_append, List.mem_singleton] at he;rcases he with he | rfl
    · obtain ⟨y, u, h1, h2, h3⟩ := h.ent e he;refine ⟨y, u, h1, h2, ?_⟩;unfold putF;rw [if_neg (fun e' => hno e he (by rw [h1, e']))];exact h3
    · exact ⟨x, v, rfl, rfl, by simp [putF]⟩
  · simp only [Array.toList_push, List.mem_append, List.mem_singleton];unfold putF at hy;split at hy
    · rename_i e; subst e; exact ⟨_, .inr rfl, rfl⟩
    · obtain ⟨e, he, hk⟩ := h.all y u hy;exact ⟨e, .inl he, hk⟩
  · simp only [Array.toList_push, List.map_append, List.map_cons, List.map_nil];refine List.nodup_append.2 ⟨h.keys, by simp, fun a ha c hc e1 => ?_⟩;simp only [List.mem_singleton] at hc;obtain ⟨e, he, rfl⟩ := List.mem_map.1 ha;exact hno e he (e1.trans hc)
  · simp only [Array.toList_push, List.map_append, List.map_cons, List.map_nil];refine List.nodup_append.2 ⟨h.born, by simp, fun a ha c hc e1 => ?_⟩;simp only [List.mem_singleton] at hc;obtain ⟨e, he, rfl⟩ := List.mem_map.1 ha;have := h.lt e he;omega
  · simp only [Array.toList_push, List.mem_append, List.mem_singleton] at he;rcases he with he | rfl
    · have := h.lt e he; omega
    · exact Nat.lt_succ_self _
theorem Ue {β : Type} (f : MapEntry → MapEntry) (g : MapEntry → β) (hg : ∀ e, g (f e) = g e) : ∀ (l : List MapEntry) (q : Nat), (l.modify q f).map g = l.map g := by
  intro l
  induction l with
  | nil => intro q; cases q <;> simp
  | cons a l ih => intro q; cases q with
    | zero => simp [hg]
    | succ q => simp [ih]
theorem MapR.write (hinj : ∀ x y, kv x = kv y → x = y) (h : MapR kv es clock F) {x : α} {q : Nat} {e0 : MapEntry} (hq : es.toList[q]? = some e0) (hk : e0.key = kv x) (v : Int) (f : MapEntry → MapEntry) (hf : ∀ e, (f e).key = e.key ∧ (f e).born = e.born ∧ (f e).val = it v) :
    MapR kv (es.modify q f) clock (putF F x v) := by
  have hkey : ∀ (r : Nat) (e : MapEntry), es.toList[r]? = some e → e.key = kv x → r = q := fun r e hr hek => by
    have h1 : (es.toList.map (·.key))[r]? = some (kv x) := by simp [hr, hek]
    have h2 : (es.toList.map (·.key))[q]? = some (kv x) := by simp [hq, hk]
    have hl : r < (es.toList.map (·.key)).length := by
      rcases Nat.lt_or_ge r (es.toList.map (·.key)).length with h3 | h3
      · exact h3
      · rw [List.getElem?_eq_none h3] at h1; cases h1
    exact (List.getElem?_inj hl h.keys).1 (h1.trans h2.symm)
  have hmem : ∀ e, e ∈ (es.modify q f).toList → (e = f e0) ∨ (e ∈ es.toList ∧ e.key ≠ kv x) := fun e he => by
    rw [Array.toList_modify] at he;obtain ⟨r, hr⟩ := List.mem_iff_getElem?.1 he;rw [List.getElem?_modify] at hr;by_cases hrq : q = r
    · subst hrq; rw [hq] at hr; simp at hr; exact .inl hr.symm
    · simp only [if_neg hrq] at hr;simp only [Option.map_eq_map, Option.map_id'] at hr;exact .inr ⟨List.mem_of_getElem? hr, fun hek => hrq (hkey r e hr hek).symm⟩
  refine ⟨fun e he => ?_, fun y u hy => ?_, ?_, ?_, fun e he => ?_⟩
  · rcases hmem e he with rfl | ⟨h1, h2⟩
    · exact ⟨x, v, (hf e0).1.trans hk, (hf e0).2.2, by simp [putF]⟩
    · obtain ⟨y, u, g1, g2, g3⟩ := h.ent e h1;refine ⟨y, u, g1, g2, ?_⟩;unfold putF;rw [if_neg (fun e' => h2 (by rw [g1, e']))];exact g3
  · unfold putF at hy
    have hin : ∀ (r : Nat) (e : MapEntry), es.toList[r]? = some e → ∃ e' ∈ (es.modify q f).toList, e'.key = e.key := fun r e hr => by
      rw [Array.toList_modify];by_cases hrq : q = r
      · subst hrq; exact ⟨f e, List.mem_iff_getElem?.2 ⟨q, by rw [List.getElem?_modify, hr]; simp⟩, (hf e).1⟩
      · exact ⟨e, List.mem_iff_getElem?.2 ⟨r, by rw [List.getElem?_modify, hr]; simp [hrq]⟩, rfl⟩
    split at hy
    · rename_i e; subst e
      obtain ⟨e', h1, h2⟩ := hin q e0 hq;exact ⟨e', h1, h2.trans hk⟩
    · obtain ⟨e, he, hek⟩ := h.all y u hy;obtain ⟨r, hr⟩ := List.mem_iff_getElem?.1 he;obtain ⟨e', h1, h2⟩ := hin r e hr;exact ⟨e', h1, h2.trans hek⟩
  · rw [Array.toList_modify, Ue f _ (fun e => (hf e).1)]; exact h.keys
  · rw [Array.toList_modify, Ue f _ (fun e => (hf e).2.1)]; exact h.born
  · rcases hmem e he with rfl | ⟨h1, _⟩
    · rw [(hf e0).2.1]; exact h.lt e0 (List.mem_of_getElem? hq)
    · exact h.lt e h1
end
section
variable {α : Type} [DecidableEq α] {kv : α → Value} {P : Program} {x : Cx} {fr : Fr} {D : Imm} {hp : Hp} {ty : TypeId} {Q : Exit → Act → World → Prop} {t k e : TypeId} {es : Array MapEntry} {clock b j : Nat} {F : α → Option Int}
end
end Go.W
namespace Go.W
theorem Uu {P : Program} {o : Oper} {a : Act} {w : World} {K M : Act → World → Prop} {Q : Exit → Act → World → Prop} (hh : o.wp P a w K (Exit.then M Q)) : o.wp P a w K Q := by
  unfold Oper.wp at *;generalize (execOp a.eval o).run P w = r at *;cases r with
  | ok n w' => cases n <;> exact hh
  | _ => exact hh
theorem V2 {P : Program} {ops : Array Oper} {Q : Exit → Act → World → Prop} {l2 : List Oper} : ∀ {l1 : List Oper} {a : Act} {w : World}, wpList P ops (Exit.then (wpList P ops Q l2) Q) l1 a w → wpList P ops Q (l1 ++ l2) a w := by
  intro l1
  induction l1 with
  | nil => intro a w h; exact h
  | cons o l1 ih =>
    intro a w h;simp only [wpList, List.cons_append] at h ⊢;split
    · rename_i hw
      rw [if_pos hw] at h;rcases h with h | ⟨h1, h2⟩
      · exact .inl (Uu (Oper.wp_mono (fun a w hh => ih hh) h))
      · exact .inr ⟨h1, h2⟩
    · rename_i hw
      rw [if_neg hw] at h;exact ih h
section
variable {P : Program} {x : Cx} {fr : Fr} {D : Imm} {hp : Hp} {ty : TypeId} {Q : Exit → Act → World → Prop} {ops : Array Oper} {rest : List Oper}
theorem WL.cut (n : Nat) (fr' : Fr) (h1 : WL P x ops fr D hp (rest.take n) (Exit.then (fun a w => At x fr' D hp a w) Q)) (h2 : WL P x ops fr' D hp (rest.drop n) Q) : WL P x ops fr D hp rest Q := fun a w hA => by
  have h := h1 a w hA;rw [← List.take_append_drop n rest];refine V2 ?_
  have key : ∀ (l : List Oper) (a : Act) (w : World), wpList P ops (Exit.then (fun a w => At x fr' D hp a w) Q) l a w → wpList P ops (Exit.then (wpList P ops Q (rest.drop n)) Q) l a w := by
    intro l
    induction l with
    | nil => intro a w h; exact h2 a w h
    | cons o l ih =>
      intro a w h;simp only [wpList] at h ⊢;split
      · rename_i hw
        rw [if_pos hw] at h;rcases h with h | ⟨g1, g2⟩
        · exact .inl (by
            have h3 := Oper.wp_mono (fun a w hh => ih a w hh) h;unfold Oper.wp at *;generalize (execOp a.eval o).run P w = r at *;cases r with
            | ok n w' => cases n <;> exact h3
            | _ => exact h3)
        · exact .inr ⟨g1, g2⟩
      · rename_i hw
        rw [if_neg hw] at h;exact ih _ _ h
  exact key _ a w h
theorem WL.ofFr (fr' : Fr) (hf : subB fr' fr) (h : WL P x ops fr' D hp rest Q) : WL P x ops fr D hp rest Q := fun a w hA => h a w (y4 hA hf)
theorem Yd.sliceTo {t e : TypeId} {n : Nat} {p q : Operand} {a : Option Addr} {len cap h : Nat} (hu : P.underlying t = some (.slice e)) (hz : ∀ w, (sizeOf e).run P w = .ok n w) (hp' : opv fr p = some (.slice a len cap)) (hq : opv fr q = some (nt h)) (h0 : h ≤ cap) :
    Yd P x fr D hp (.slice t p none (some q) none) ty (.slice a h cap) := fun act w _ _ _ _ hA _ => by
  simp only [execOp, Option.map_none, Option.map_some, hA.eval hp', hA.eval hq];have hi : (asIntOf (nt h)).run P w = .ok (IntKind.i64, (h : Int)) w := rfl
  have : (Instr.slice t (.slice a len cap) none (some (nt h)) none).run P w = .ok (.slice a h cap) w := by
    simp only [Instr.slice, Instr.sliceBounds, Instr.sliceBound, Sem.run_bind, run_underlying hu, hi, Result.andThen_ok, Sem.run_pure, hz];have hle : (0 : Int) ≤ (h : Int) ∧ (h : Int) ≤ (cap : Int) := by omega
    simp only [Sem.run_ite, if_pos hle, Sem.run_pure, Result.andThen_ok, Sem.run_bind, hz];cases a with
    | none => simp
    | some a => simp [Addr.add]
  simp [this, Instr.sliceAt, run_underlying hu]
end
end Go.W
namespace Go.W
section
variable {P : Program} {x : Cx} {fr : Fr} {D : Imm} {hp : Hp} {ty : TypeId} {Q : Exit → Act → World → Prop}
def owAt (o : Option Ow) : Option Addr := match o with | none => none | some u => some ⟨u.b, 0, none⟩
def owCp (o : Option Ow) (n : Nat) : Nat := match o with | none => 0 | some u => u.cap
theorem xg {o : Option Ow} {n : Nat} {m : Nat} (h : owL o n m) : owV o n = .slice (owAt o) n (owCp o n) := by
  cases o with
  | none => have h0 : n = 0 := h
            subst h0; rfl
  | some u => rfl
theorem WC.freezeOw {α : Type} [Inhabited α] {f : α → List Value} {m : Nat} (hf : ∀ x, (f x).length = m) {c : Code} (base hp0 : Hp) (o : Option Ow) (e : TypeId) (l : List α) {w0 : World} (hw : x.w0 = w0) (ho : owP w0 o l.length m) (hhp : hp = base ++ owH o e (l.flatMap f) hp0)
    (h : ∀ D', DExt w0 D D' → SlL D' m (l.map f) (owAt o) l.length → WC P x fr D' (base ++ hp0) c Q) : WC P x fr D hp c Q := by
  subst hhp;cases o with
  | none =>
    have h0 : l.length = 0 := ho;have hl : l = [] := List.length_eq_zero_iff.1 h0;subst hl;exact h D (DExt.refl _ _) ⟨rfl, fun i r hr => by simp at hr⟩
  | some u =>
    have hk : (base ++ owH (some u) e (l.flatMap f) hp0)[base.length]? = some (u.b, .cells (l.flatMap f ++ u.rest).toArray e (0, 0)) := by simp [owH]
    refine WC.freezeK base.length hk (fun hn => ?_)
    have he : (base ++ owH (some u) e (l.flatMap f) hp0).eraseIdx base.length = base ++ hp0 := by
      rw [List.eraseIdx_append_of_length_le (by omega)]; simp [owH]
    rw [he];exact h _ ((DExt.refl _ _).add hn ho.1) (SlL.ofBlock hf (Imm.add_self _ _ _))
end
end Go.W
namespace Go.W
section
variable {P : Program} {x : Cx} {fr : Fr} {D : Imm} {hp : Hp} {ty : TypeId} {Q : Exit → Act → World → Prop}
theorem VM {α : Type} [Inhabited α] {f : α → List Value} {m : Nat} (hf : ∀ x, (f x).length = m) (l : List α) (rest : List Value) {i j : Nat} (hi : i < l.length) (hj : j < m) : (l.flatMap f ++ rest)[0 + i * m + j]? = (f (gt l i))[j]? := by
  have h1 := flat_get hf l i j hi hj
  have hlt : i * m + j < (l.flatMap f).length := by
    rw [zr hf];have : (i + 1) * m ≤ l.length * m := Nat.mul_le_mul_right m hi
    rw [Nat.succ_mul] at this;omega
  rw [Nat.zero_add, List.getElem?_append_left hlt, h1]
theorem Rd.flat {α : Type} [Inhabited α] {f : α → List Value} {m : Nat} (hf : ∀ x, (f x).length = m) {k b i j : Nat} {l : List α} {rest : List Value} {e : TypeId} {fz : Nat × Nat} {v : Value} (hk : hp[k]? = some (b, .cells (l.flatMap f ++ rest).toArray e fz)) (hi : i < l.length) (hj : j < m) (hv : (f (gt l i))[j]? = some v) : Rd D hp ⟨b, 0 + i * m + j, none⟩ v :=
  Rd.own hk (by rw [VM hf l rest hi hj]; exact hv)
section
variable {t t' : TypeId} {o p : Operand} {i j : Nat} (ho : opv fr o = some (nt i)) (hp' : opv fr p = some (nt j)) (hj : 0 < j)
include t t' o p i j ho hp' hj
theorem Yd.remN : Yd P x fr D hp (.binOp .rem t o p t') ty (nt (i % j)) :=
  Yd.rem (i := (i : Int)) (j := (j : Int)) ho hp' (by omega) (by omega)
theorem Yd.quoN (hi : i ≤ 1000000) : Yd P x fr D hp (.binOp .quo t o p t') ty (nt (i / j)) :=
  Yd.quo (i := (i : Int)) (j := (j : Int)) ho hp' (by omega) (by omega) (wr64 (by
    have h0 : i / j ≤ i := Nat.div_le_self _ _;rw [← Int.natCast_ediv];generalize i / j = q at h0;omega))
end
end
end Go.W
namespace Go.W
def Imm.minus (D : Imm) (b : Nat) : Imm := fun b' => if b' = b then none else D b'
section
variable {w : World} {D D' : Imm} (h : DExt w D D') {b : Nat}
include w D D' h b
theorem DExt.no (hn : D' b = none) : D b = none := by
  cases hb : D b with
  | none => rfl
  | some o => rw [h.old _ _ hb] at hn; cases hn
theorem DExt.minus (hn : D b = none) : DExt w D (D'.minus b) :=
  ⟨fun k o hk => by
    unfold Imm.minus;rw [if_neg (fun e => by subst e; rw [hn] at hk; cases hk)];exact h.old k o hk, fun k hk hD => by
    unfold Imm.minus;split
    · rfl
    · exact h.new k hk hD⟩
end
theorem Inv.thaw {D : Imm} {hp : Hp} {S : List Nat} {w0 w : World} {b : Nat} {o : Obj} (h : Inv D hp S w0 w) (hb : D b = some o) (hn : w0.heap.size ≤ b) : Inv (D.minus b) ((b, o) :: hp) S w0 w := by
  refine ⟨fun k o' hk => ?_, fun k o' hk => ?_, ?_, fun k o' hk => ?_, h.keep, fun k o' hk => ?_⟩
  · unfold Imm.minus at hk;split at hk
    · cases hk
    · exact h.imm k o' hk
  · rcases List.mem_cons.1 hk with e | e
    · cases e; exact h.imm _ _ hb
    · exact h.own k o' e
  · rw [List.map_cons, List.nodup_cons];refine ⟨fun hm => ?_, h.nodup⟩;obtain ⟨e, he, heq⟩ := List.mem_map.1 hm;have := h.apart e.1 e.2 he;rw [show e.1 = b from heq, hb] at this; cases this
  · unfold Imm.minus;rcases List.mem_cons.1 hk with e | e
    · cases e; rw [if_pos rfl]
    · split
      · rfl
      · exact h.apart k o' e
  · rcases List.mem_cons.1 hk with e | e
    · cases e; exact .inr hn
    · exact h.may k o' e
section
variable {P : Program} {x : Cx} {fr : Fr} {D : Imm} {hp : Hp} {ty : TypeId} {Q : Exit → Act → World → Prop}
theorem WC.thaw {c : Code} {b : Nat} {o : Obj} (hb : D b = some o) (hn : x.w0.heap.size ≤ b) (h : WC P x fr (D.minus b) ((b, o) :: hp) c Q) : WC P x fr D hp c Q :=
  fun a w hA => h a w ⟨hA.f, hA.i.thaw hb hn⟩
theorem splice_row {α : Type} [Inhabited α] {f : α → List Value} {m : Nat} (hf : ∀ x, (f x).length = m) (y : α) (rest : List Value) : ∀ (l : List α) (i : Nat), i < l.length → splice (l.flatMap f ++ rest) (0 + i * m) (f y) = (l.set i y).flatMap f ++ rest := by
  intro l
  induction l with
  | nil => intro i hi; simp at hi
  | cons a l ih =>
    intro i hi;cases i with
    | zero =>
      simp only [splice, Nat.zero_mul, Nat.add_zero, List.take_zero, List.nil_append, Nat.zero_add, List.flatMap_cons, List.set_cons_zero, List.append_assoc];congr 1;rw [hf y, ← hf a, List.drop_left]
    | succ i =>
      have h := ih i (by simpa using hi);simp only [splice, List.flatMap_cons, List.set_cons_succ, List.append_assoc] at h ⊢;have e1 : 0 + (i + 1) * m = (f a).length + (0 + i * m) := by rw [hf a, Nat.succ_mul]; omega
      rw [e1, List.take_length_add_append, show (f a).length + (0 + i * m) + (f y).length = (f a).length + (0 + i * m + (f y).length) by omega, List.drop_length_add_append, List.append_assoc, h]
theorem SO.storeRow {α : Type} [Inhabited α] {f : α → List Value} {m : Nat} (hf : ∀ x, (f x).length = m) {t b i : Nat} {p o : Operand} {v : Value} {l : List α} {y : α} {rest : List Value} {e : TypeId} (k : Nat) (hk : hp[k]? = some (b, .cells (l.flatMap f ++ rest).toArray e (0, 0))) (hz : ∀ w, (sizeOf t).run P w = .ok m w)
    (hp' : opv fr p = some (.pointer (some ⟨b, 0 + i * m, none⟩))) (ho : opv fr o = some v) (hc : v.cells = (f y).toArray) (hi : i < l.length) (hone : ∀ v ∈ f y, v.oneCell' = true) :
    SO P x fr D hp (.store t p o) ty Q (SetK D hp k b (.cells ((l.set i y).flatMap f ++ rest).toArray e (0, 0))) := by
  have h := SO.store (P := P) (x := x) (fr := fr) (D := D) (hp := hp) (ty := ty) (Q := Q) (vs := f y) k hk hz hp' ho hc (hf y) (by
    rw [List.length_append, zr hf];have : (i + 1) * m ≤ l.length * m := Nat.mul_le_mul_right m hi
    rw [Nat.succ_mul] at this;omega) hone
  rw [splice_row hf y rest l i hi] at h;exact h
theorem Yd.and1N {t t' : TypeId} {o p : Operand} {i : Nat} (ho : opv fr o = some (nt i)) (hp' : opv fr p = some (.int .i64 1)) : Yd P x fr D hp (.binOp .and t o p t') ty (nt (i % 2)) :=
  Yd.and1 ho hp'
end
end Go.W
namespace Go.W
section
variable {P : Program} {x : Cx} {fr : Fr} {D : Imm} {hp : Hp} {Q : Exit → Act → World → Prop}
section
variable {g : Operand} {ps : Array Tmp} {assign body : Code} {gf : Nat} {lb : List Value}
include g ps assign body gf lb
theorem WCF.rangeFunc {l0 k0 : Nat} {rec0 : Loop} {K : Imm → Hp → Option Code → Prop} (hk0 : hp[k0]? = some (l0, .loop rec0)) (hds : x.ds = []) 
    (hg : opv fr g = some (.func (.func gf) #[] lb.toArray)) (hc : ∀ args w, (callFunc gf args).run P w = .ok (.enter gf args) w)
    (hcall : ∀ (rec : Loop) (l : Nat) (w₁ : World), rec.state = .ready → rec.pending = none → rec.params = ps → rec.assign = assign → rec.body = body → AtF x.n fr [] ⟨rec.tmps, []⟩ → x.w0.heap.size ≤ l →
      Inv D ((l, .loop rec) :: hp) x.S x.w0 w₁ →
      Calls P gf (.func (.yield l) #[] #[] :: lb).toArray w₁ fun e w' => ∃ v D' hp' st pend, e = .returned v ∧ st ≠ .busy ∧ Inv D' ((l, .loop { rec with state := st, pending := pend }) :: hp') x.S x.w0 w' ∧ K D' hp' pend)
    (hafter : ∀ D' hp' pend, K D' hp' pend → match pend with
      | none => WP x fr D' hp' .normal Q
      | some c => WCF P (some l0) x fr D' hp' c Q) :
    WCF P (some l0) x fr D hp (.rangeFunc g ps assign body) Q := fun a w hA => by
  refine wpIn_rangeFunc fun fn _ => ?_;have hl0 := hA.i.own _ _ (mem_of_get? hk0)
  let rcd : Loop := { state := .ready, pending := none, fn, tmps := a.tmps, params := ps, assign, body, defers := rec0.defers }
  let w₁ : World := w.alloc (.loop rcd)
  have hI1 : Inv D ((w.heap.size, .loop rcd) :: hp) x.S x.w0 w₁ := hA.i.new (.loop rcd);have hev : a.eval g = .func (.func gf) #[] lb.toArray := hA.f.eval hg;have had : a.defers = [] := hA.f.defers.trans hds;have hT : AtF x.n fr [] ⟨rcd.tmps, []⟩ := ⟨hA.f.size, rfl, hA.f.slot⟩;have hc1 := hcall rcd w.heap.size w₁ rfl rfl rfl rfl rfl hT hA.i.keep.size hI1
  refine ⟨w.heap.size, [], w₁, { target := .fn (.func gf) lb.toArray, args := #[.func (.yield w.heap.size) #[] #[]] }, w₁, gf, (.func (.yield w.heap.size) #[] #[] :: lb).toArray, w₁,
    run_enterLoop_inner hl0 fn a.tmps ps assign body, ?_, fun _ _ => trivial, ?_, fun e => (by cases e), ?_⟩
  · show (resolve a.eval { callee := .value g, args := #[.const (.func (.yield w.heap.size) #[] #[])], argTypes := #[] } 0).run P w₁ = _;have he : a.eval (.const (.func (.yield w.heap.size) #[] #[])) = .func (.yield w.heap.size) #[] #[] := rfl;simp [resolve, hev, Deferred.ofValue, he]
  · simp [invoke, hc]
  · refine CallsIn.inRound (F := Fence.wide) l0 ((callsIn_wide (n := 0 - 1)).2 (Calls.mono hc1 fun e w' ⟨v, D', hp', st, pend, he, hst, hI', hK⟩ => ?_));subst he;have hl := hI'.own _ _ (List.mem_cons_self);have hend := run_endLoop (P := P) hl hst;have hI2 := (yB hI' (k := 0) rfl (.loop { rcd with state := .exhausted, pending := pend })).tail;have haf := hafter _ _ _ hK
    have hat : At x fr D' hp' { a with defers := [] ++ a.defers } (w'.putObj w.heap.size (.loop { rcd with state := .exhausted, pending := pend })) :=
      ⟨⟨hA.f.size, hA.f.defers, hA.f.slot⟩, hI2⟩
    refine ⟨pend, _, hend, ?_⟩;cases pend with
    | none => exact haf _ _ hat
    | some c => exact haf _ _ hat
theorem WC.rangeFuncM {K : Imm → Hp → Option Code → Prop} (hg : opv fr g = some (.func (.func gf) #[] lb.toArray)) (hc : ∀ args w, (callFunc gf args).run P w = .ok (.enter gf args) w) 
    (hcall : ∀ (rec : Loop) (l Dn : Nat) (w₁ : World), rec.state = .ready → rec.pending = none → rec.params = ps → rec.assign = assign → rec.body = body → AtF x.n fr [] ⟨rec.tmps, []⟩ → x.w0.heap.size ≤ Dn → x.w0.heap.size ≤ l →
      Inv D ((l, .loop rec) :: (Dn, .deferred (some [])) :: hp) x.S x.w0 w₁ →
      Calls P gf (.func (.yield l) #[] #[] :: lb).toArray w₁ fun e w' => ∃ v D' hp' st pend, e = .returned v ∧ st ≠ .busy ∧ Inv D' ((l, .loop { rec with state := st, pending := pend }) :: (Dn, .deferred (some [])) :: hp') x.S x.w0 w' ∧ K D' hp' pend)
    (hafter : ∀ Dn D' hp' pend, x.w0.heap.size ≤ Dn → K D' hp' pend → match pend with
      | none => WP ⟨x.n, y1 Dn :: x.ds, x.S, x.w0⟩ fr D' ((Dn, .deferred (some [])) :: hp') .normal Q
      | some c => WC P ⟨x.n, y1 Dn :: x.ds, x.S, x.w0⟩ fr D' ((Dn, .deferred (some [])) :: hp') c Q) :
    WC P x fr D hp (.rangeFunc g ps assign body) Q := fun a w hA => by
  refine (wpIn_wide (n := 0)).1 ?_;refine wpIn_rangeFunc fun fn _ => ?_
  let rcd : Loop := { state := .ready, pending := none, fn, tmps := a.tmps, params := ps, assign, body, defers := w.heap.size }
  let w₁ : World := (w.alloc (.deferred (some []))).alloc (.loop rcd)
  have hI1 : Inv D ((w.heap.size + 1, .loop rcd) :: (w.heap.size, .deferred (some [])) :: hp) x.S x.w0 w₁ := by
    have h1 := hA.i.new (.deferred (some []));have h2 := h1.new (.loop rcd);simp only [Array.size_push] at h2;exact h2
  have hev : a.eval g = .func (.func gf) #[] lb.toArray := hA.f.eval hg;have hT : AtF x.n fr [] ⟨rcd.tmps, []⟩ := ⟨hA.f.size, rfl, hA.f.slot⟩;have hc1 := hcall rcd (w.heap.size + 1) w.heap.size w₁ rfl rfl rfl rfl rfl hT hA.i.keep.size (by have := hA.i.keep.size; omega) hI1
  refine ⟨w.heap.size + 1, [y1 w.heap.size], w₁, { target := .fn (.func gf) lb.toArray, args := #[.func (.yield (w.heap.size + 1)) #[] #[]] }, w₁, gf, (.func (.yield (w.heap.size + 1)) #[] #[] :: lb).toArray, w₁,
    run_enterLoop_outer fn a.tmps ps assign body, ?_, fun _ _ => trivial, ?_, fun e => (by cases e), ?_⟩
  · show (resolve a.eval { callee := .value g, args := #[.const (.func (.yield (w.heap.size + 1)) #[] #[])], argTypes := #[] } 0).run P w₁ = _;have he : a.eval (.const (.func (.yield (w.heap.size + 1)) #[] #[])) = .func (.yield (w.heap.size + 1)) #[] #[] := rfl;simp [resolve, hev, Deferred.ofValue, he]
  · simp [invoke, hc]
  · refine (callsIn_wide (n := 0 - 1)).2 (Calls.mono hc1 fun e w' ⟨v, D', hp', st, pend, he, hst, hI', hK⟩ => ?_);subst he;have hl := hI'.own _ _ (List.mem_cons_self);have hend := run_endLoop (P := P) hl hst;have hI2 := (yB hI' (k := 0) rfl (.loop { rcd with state := .exhausted, pending := pend })).tail;have haf := hafter _ _ _ _ hA.i.keep.size hK
    have hat : At ⟨x.n, y1 w.heap.size :: x.ds, x.S, x.w0⟩ fr D' ((w.heap.size, .deferred (some [])) :: hp') { a with defers := [y1 w.heap.size] ++ a.defers } (w'.putObj (w.heap.size + 1) (.loop { rcd with state := .exhausted, pending := pend })) :=
      ⟨⟨hA.f.size, by show y1 w.heap.size :: a.defers = _; rw [hA.f.defers], hA.f.slot⟩, hI2⟩
    refine ⟨pend, _, hend, ?_⟩;cases pend with
    | none => exact haf _ _ hat
    | some c => exact (wpIn_wide (n := 0)).2 (haf _ _ hat)
end
def dblk (b : Nat) : Nat × Obj := (b, .deferred (some []))
theorem uT {fn : Func} {tmps : Array Value} {R : Ending → World → Prop} {ds : List Deferred} {hp0 : Hp} {S : List Nat} {w0 : World} (h : ∀ w', Inv D hp0 S w0 w' → LeavesInM Fence.wide 0 P fn tmps R ds .returning w') :
    ∀ (bs : List Nat) (w : World), Inv D (bs.map dblk ++ hp0) S w0 w → LeavesInM Fence.wide 0 P fn tmps R (bs.map y1 ++ ds) .returning w := by
  intro bs
  induction bs with
  | nil => intro w hI; exact h w hI
  | cons b bs ih =>
    intro w hI;have hb := hI.own b (.deferred (some [])) (List.mem_cons_self ..);have hI' := (yB hI (k := 0) rfl (.deferred none)).tail;exact ⟨by simp, .inl ⟨b, _, rfl, run_takeDeferred hb, ih _ hI'⟩⟩
theorem WP.retMs {e : Exit} {fn : Func} {R : Ending → World → Prop} (bs : List Nat) (hp0 : Hp) (rs : List ResultVar) (vs : List Value) (he : ZD e = true) (hd : x.ds = bs.map y1) (hs : ∀ e, e ∈ bs.map dblk ++ hp0 → e ∈ hp) (hn : (keys hp).Nodup → (keys (bs.map dblk ++ hp0)).Nodup) 
    (hr : fn.results = rs.toArray) (h : RVs P x fr D hp0 rs vs) (hR : ∀ w, Inv D hp0 x.S x.w0 w → R (.returned (retV vs)) w) : WP x fr D hp e (bodyPostM Fence.wide 0 P fn R) := fun a w hA => by
  have key : LeavesInM Fence.wide 0 P fn a.tmps R a.defers .returning w := by
    rw [hA.f.defers, hd, ← List.append_nil (bs.map y1)];exact uT (P := P) (fn := fn) (tmps := a.tmps) (R := R) (ds := []) (hp0 := hp0) (fun w' hI => ⟨_, xh hr hA.f hI h, hR w' hI⟩) bs w (hA.i.sub hs (hn hA.i.nodup))
  cases e <;> first | exact key | cases he
def KP (P : Program) (gf : Nat) (lb : List Value) (N : Nat) (arg : Nat → Value) (D : Imm) (w : World) : Prop :=
  ∀ (l : Nat) (S : List Nat) (St : Nat → Imm → Hp → Prop) (Sp : Imm → Hp → Prop),
    (∀ k D' h, St k D' h → (∀ b, b ∈ S → b ∈ keys h) ∧ (∀ b, b ∈ keys h → b ∈ S)) → (∀ D' h, Sp D' h → ∀ b, b ∈ keys h → b ∈ S) → (∀ k D1 D2 h, DExt w D1 D2 → St k D1 h → St k D2 h) →
    (∀ k D' h w', k < N → w.heap.size ≤ w'.heap.size → DExt w D D' → St k D' h → Inv D' h S w' w' → YieldAt Fence.wide 0 P l #[arg k] w' (Vk w' D' S (fun b D'' h' => (b = true ∧ St (k + 1) D'' h') ∨ (b = false ∧ Sp D'' h')))) →
    ∀ h0, St 0 D h0 → Inv D h0 S w w → wP P gf ((.func (.yield l) #[] #[]) :: lb) w D S (fun _ D' h' => St N D' h' ∨ Sp D' h')
def RK (l : Nat) (rec : Loop) (pre : Hp) (St : Imm → Hp → Prop) (Sp : Code → Imm → Hp → Prop) (b : Bool) (D' : Imm) (h : Hp) : Prop :=
  (b = true ∧ ∃ h1, h = (l, .loop rec) :: (pre ++ h1) ∧ St D' h1) ∨ (b = false ∧ ∃ c h1, h = (l, .loop { rec with state := .done, pending := some c }) :: (pre ++ h1) ∧ Sp c D' h1)
theorem rec_eta' {rec : Loop} (h1 : rec.state = .ready) (h2 : rec.pending = none) : { rec with state := .ready, pending := none } = rec := by
  cases rec; simp only at h1 h2; subst h1; subst h2; rfl
def u4 (rec : Loop) : Loop := { rec with state := .busy }
def Vj (P : Program) (n : Nat) (l : Nat) (rec : Loop) (pre : Hp) (ks : List Nat) (fr : Fr) (D1 : Imm) (h : Hp) (w1 : World) (assign body : Code) (St : Imm → Hp → Prop) (Sp : Code → Imm → Hp → Prop) : Prop :=
  WCF P (some l) ⟨n, [], ks, w1⟩ fr D1 ((l, .loop rec) :: (pre ++ h)) assign
    (Exit.then (fun a₁ w₁ => ∃ w₂, (Instr.beginRound l).run P w₁ = .ok () w₂ ∧ body.wpIn (Fx (some l)) 0 P (roundPost P l (Vk w1 D1 ks (RK l rec pre St Sp))) a₁ w₂) (fun _ _ _ => False))
theorem WP.iterBegin {l : Nat} {rec : Loop} {body : Code} {R : Exit → Act → World → Prop} (k : Nat) (hk : hp[k]? = some (l, .loop rec)) (hr : rec.state = .ready ∧ rec.pending = none) (h : WCF P (some l) x fr D (hp.set k (l, .loop (u4 rec))) body R) :
    WP x fr D hp .normal (Exit.then (fun a₁ w₁ => ∃ w₂, (Instr.beginRound l).run P w₁ = .ok () w₂ ∧ body.wpIn (Fx (some l)) 0 P R a₁ w₂) (fun _ _ _ => False)) := WP.begin hk hr.1 h
theorem DExt.wide {w w' : World} {D D' : Imm} (h : DExt w' D D') (hs : w.heap.size ≤ w'.heap.size) : DExt w D D' := ⟨h.old, fun b hb => h.new b (Nat.lt_of_lt_of_le hb hs)⟩
theorem AtF.round1 {n p1 : Nat} {T : Array Value} {v1 : Value} (h : AtF n fr [] ⟨T, []⟩) (h1 : Nat.blt p1 n = true) : AtF n ((p1, v1) :: fr) [] ⟨(#[p1].zip #[v1]).foldl (fun tmps (t, a) => tmps.setIfInBounds t a) T, []⟩ := by
  have := h.put h1 v1;simpa [Act.put] using this
section iter
variable {g : Operand} {pm : Tmp} {assign body : Code} {gf : Nat} {lb : List Value} {N : Nat} {arg : Nat → Value}
theorem jO {l : Nat} {rec : Loop} {w₁ : World} {pre : Hp} (hit : ∀ w, KP P gf lb N arg D w) (hpm : Nat.blt pm x.n = true) (St : Nat → Imm → Hp → Prop) (Sp : Code → Imm → Hp → Prop) 
    (hkey : ∀ k D' h, St k D' h → keys h = keys hp) (hkeyp : ∀ c D' h, Sp c D' h → keys h = keys hp) (hmono : ∀ k D1 D2 h, DExt x.w0 D1 D2 → St k D1 h → St k D2 h) (h0 : St 0 D hp)
    (hst : rec.state = .ready) (hpe : rec.pending = none) (hps : rec.params = #[pm]) (has : rec.assign = assign) (hbo : rec.body = body) (hT : AtF x.n fr [] ⟨rec.tmps, []⟩) (hI : Inv D ((l, .loop rec) :: (pre ++ hp)) x.S x.w0 w₁)
    (hbody : ∀ k D1 h w1, k < N → St k D1 h → DExt x.w0 D D1 → x.w0.heap.size ≤ w1.heap.size → Vj P x.n l rec pre (keys ((l, .loop rec) :: (pre ++ hp))) ((pm, arg k) :: fr) D1 h w1 assign body (St (k + 1)) Sp) :
    Calls P gf (.func (.yield l) #[] #[] :: lb).toArray w₁ fun e w' => ∃ v D' hp' st pend, e = .returned v ∧ st ≠ .busy ∧ Inv D' ((l, .loop { rec with state := st, pending := pend }) :: (pre ++ hp')) x.S x.w0 w' ∧ (DExt x.w0 D D' ∧ ((pend = none ∧ St N D' hp') ∨ ∃ c, pend = some c ∧ Sp c D' hp')) := by
  have hsz := hI.keep.size
  have hks : ∀ {h : Hp} {o : Obj}, keys h = keys hp → keys ((l, o) :: (pre ++ h)) = keys ((l, .loop rec) :: (pre ++ hp)) := fun {h} {o} e => by
    simp only [keys, List.map_cons, List.map_append] at e ⊢; rw [e]
  have hI1 : Inv D ((l, .loop rec) :: (pre ++ hp)) (keys ((l, .loop rec) :: (pre ++ hp))) w₁ w₁ := Inv.frame (own := []) hI (fun _ h => h)
  refine Calls.mono (hit w₁ l (keys ((l, .loop rec) :: (pre ++ hp))) (fun k D' h => ∃ h1, h = (l, .loop rec) :: (pre ++ h1) ∧ St k D' h1) (fun D' h => ∃ c h1, h = (l, .loop { rec with state := .done, pending := some c }) :: (pre ++ h1) ∧ Sp c D' h1)
    ?_ ?_ ?_ ?_ _ ⟨hp, rfl, h0⟩ hI1) ?_
  · rintro k D' h ⟨h1, rfl, hs⟩;rw [hks (hkey _ _ _ hs)];exact ⟨fun _ h => h, fun _ h => h⟩
  · rintro D' h ⟨c, h1, rfl, hs⟩;rw [hks (hkeyp _ _ _ hs)];exact fun _ h => h
  · rintro k D1 D2 h hx ⟨h1, rfl, hs⟩;exact ⟨h1, rfl, hmono _ _ _ _ (hx.wide hsz) hs⟩
  · rintro k D1 h w' hk hsz2 hX ⟨h1, rfl, hs⟩ hI2;have hb := hbody k D1 h1 w' hk hs (hX.wide hsz) (Nat.le_trans hsz hsz2);refine YieldAt.mono (kN (rec := rec) (k := 0) (n := x.n) (fr := (pm, arg k) :: fr) has hbo hI2 rfl (by rw [hps]; rfl) (by rw [hps]; exact hT.round1 hpm) hb) ?_;rintro e w'' ⟨b, D', hp', rfl, hD, hI3, hS3, hK⟩;refine ⟨b, D', hp', rfl, hD, hI3, hS3, ?_⟩;rcases hK with ⟨rfl, h1, rfl, hs1⟩ | ⟨rfl, c, h1, rfl, hs1⟩
    · exact .inl ⟨rfl, h1, rfl, hs1⟩
    · exact .inr ⟨rfl, c, h1, rfl, hs1⟩
  · rintro e w' ⟨v, D', hpc', rfl, hXe, hIe, hke, hK⟩;have hIu := Inv.unframe (own := []) hI (fun _ h => h) hke hXe hIe;rcases hK with ⟨h1, rfl, hs⟩ | ⟨c, h1, rfl, hs⟩
    · refine ⟨v, D', h1, .ready, none, rfl, by decide, ?_, hXe.wide hsz, .inl ⟨rfl, hs⟩⟩;rw [rec_eta' hst hpe]; exact hIu
    · exact ⟨v, D', h1, .done, some c, rfl, by decide, hIu, hXe.wide hsz, .inr ⟨c, rfl, hs⟩⟩
theorem WC.rangeIter (hit : ∀ w, KP P gf lb N arg D w) (hg : opv fr g = some (.func (.func gf) #[] lb.toArray)) (hc : ∀ args w, (callFunc gf args).run P w = .ok (.enter gf args) w) (hpm : Nat.blt pm x.n = true) 
    (St : Nat → Imm → Hp → Prop) (Sp : Code → Imm → Hp → Prop) (hkey : ∀ k D' h, St k D' h → keys h = keys hp) (hkeyp : ∀ c D' h, Sp c D' h → keys h = keys hp) (hmono : ∀ k D1 D2 h, DExt x.w0 D1 D2 → St k D1 h → St k D2 h) (h0 : St 0 D hp)
    (hbody : ∀ rec l Dn k D1 h w1, (rec.state = .ready ∧ rec.pending = none) → k < N → St k D1 h → DExt x.w0 D D1 → x.w0.heap.size ≤ w1.heap.size → Vj P x.n l rec [(Dn, .deferred (some []))] (keys ((l, .loop rec) :: ([(Dn, .deferred (some []))] ++ hp))) ((pm, arg k) :: fr) D1 h w1 assign body (St (k + 1)) Sp)
    (hdone : ∀ Dn D' hp', x.w0.heap.size ≤ Dn → DExt x.w0 D D' → St N D' hp' → WP ⟨x.n, y1 Dn :: x.ds, x.S, x.w0⟩ fr D' ((Dn, .deferred (some [])) :: hp') .normal Q)
    (hstop : ∀ Dn c D' hp', x.w0.heap.size ≤ Dn → DExt x.w0 D D' → Sp c D' hp' → WC P ⟨x.n, y1 Dn :: x.ds, x.S, x.w0⟩ fr D' ((Dn, .deferred (some [])) :: hp') c Q) :
    WC P x fr D hp (.rangeFunc g #[pm] assign body) Q := by
  refine WC.rangeFuncM (K := fun D' hp' pend => DExt x.w0 D D' ∧ ((pend = none ∧ St N D' hp') ∨ ∃ c, pend = some c ∧ Sp c D' hp')) hg hc (fun rec l Dn w1 hst hpe hps has hbo hT hDn hl hI => ?_) (fun Dn D' hp' pend hDn hK => ?_)
  · exact jO (pre := [(Dn, .deferred (some []))]) hit hpm St Sp hkey hkeyp hmono h0 hst hpe hps has hbo hT hI (fun k D1 h w2 hk hs hX hsz => hbody rec l Dn k D1 h w2 ⟨hst, hpe⟩ hk hs hX hsz)
  · obtain ⟨hX, ⟨rfl, hs⟩ | ⟨c, rfl, hs⟩⟩ := hK
    · exact hdone Dn D' hp' hDn hX hs
    · exact hstop Dn c D' hp' hDn hX hs
theorem WCF.rangeIter {l0 : Nat} {rec0 : Loop} (k0 : Nat) (hk0 : hp[k0]? = some (l0, .loop rec0)) (hit : ∀ w, KP P gf lb N arg D w) (hds : x.ds = []) (hg : opv fr g = some (.func (.func gf) #[] lb.toArray)) (hc : ∀ args w, (callFunc gf args).run P w = .ok (.enter gf args) w) (hpm : Nat.blt pm x.n = true) 
    (St : Nat → Imm → Hp → Prop) (Sp : Code → Imm → Hp → Prop) (hkey : ∀ k D' h, St k D' h → keys h = keys hp) (hkeyp : ∀ c D' h, Sp c D' h → keys h = keys hp) (hmono : ∀ k D1 D2 h, DExt x.w0 D1 D2 → St k D1 h → St k D2 h) (h0 : St 0 D hp)
    (hbody : ∀ rec l k D1 h w1, (rec.state = .ready ∧ rec.pending = none) → k < N → St k D1 h → DExt x.w0 D D1 → x.w0.heap.size ≤ w1.heap.size → Vj P x.n l rec [] (keys ((l, .loop rec) :: ([] ++ hp))) ((pm, arg k) :: fr) D1 h w1 assign body (St (k + 1)) Sp)
    (hdone : ∀ D' hp', DExt x.w0 D D' → St N D' hp' → WP x fr D' hp' .normal Q)
    (hstop : ∀ c D' hp', DExt x.w0 D D' → Sp c D' hp' → WCF P (some l0) x fr D' hp' c Q) :
    WCF P (some l0) x fr D hp (.rangeFunc g #[pm] assign body) Q := by
  refine WCF.rangeFunc (K := fun D' hp' pend => DExt x.w0 D D' ∧ ((pend = none ∧ St N D' hp') ∨ ∃ c, pend = some c ∧ Sp c D' hp')) hk0 hds hg hc (fun rec l w1 hst hpe hps has hbo hT hl hI => ?_) (fun D' hp' pend hK => ?_)
  · exact jO (pre := []) hit hpm St Sp hkey hkeyp hmono h0 hst hpe hps has hbo hT hI (fun k D1 h w2 hk hs hX hsz => hbody rec l k D1 h w2 ⟨hst, hpe⟩ hk hs hX hsz)
  · obtain ⟨hX, ⟨rfl, hs⟩ | ⟨c, rfl, hs⟩⟩ := hK
    · exact hdone D' hp' hX hs
    · exact hstop c D' hp' hX hs
end iter
theorem WCF.freezeK {r : Option Nat} {c : Code} (k : Nat) {b : Nat} {o : Obj} (hk : hp[k]? = some (b, o)) (h : D b = none → WCF P r x fr (D.add b o) (hp.eraseIdx k) c Q) : WCF P r x fr D hp c Q :=
  fun a w hA => h (hA.i.freezeK k hk).1 a w ⟨hA.f, (hA.i.freezeK k hk).2⟩
theorem WC.hpPerm {c : Code} (hp' : Hp) (hs : List.Perm hp hp') (h : WC P x fr D hp' c Q) : WC P x fr D hp c Q :=
  fun a w hA => h a w ⟨hA.f, hA.i.sub (fun _ he => hs.mem_iff.2 he) ((hs.map Prod.fst).nodup_iff.1 hA.i.nodup)⟩
theorem xl {P : Program} {b : Frame} {a : Act} {k : List Item} {cs : List Frame} {w : World} {c : Code} : step P (lone (b.atR a (.code (.scope c) :: k)) cs w) = .next (lone (b.atR a (.code c :: .inScope c :: k)) cs w) :=
  step_lone_go (by simp [stepG, stepG.exec, Frame.atR])
theorem kY {P : Program} {b : Frame} {a : Act} {k : List Item} {cs : List Frame} {w : World} {c : Code} : step P (lone (b.atR a (.inScope c :: k)) cs w) = .next (lone (b.atR a k) cs w) :=
  step_lone_go (by simp [stepG, stepG.exec, Frame.atR])
theorem vZ {F : Fence} {n : Nat} {a : Act} {w : World} {c : Code} (h : c.wpIn F n P (Exit.noGoto Q) a w) : (Code.scope c).wpIn F n P Q a w := by
  intro b k cs hro hb hr;have h0 : (lone (b.atR a (.code (.scope c) :: k)) cs w).fenced P F := fenced_calm hb hr rfl;obtain ⟨e, a₁, w₁, hq, harr⟩ := h b (.inScope c :: k) cs hro hb hr;cases e with
  | normal => exact ⟨.normal, a₁, w₁, hq, .head h0 xl (StepsIn.trans harr (.one (fenced_calm hb hr rfl) kY))⟩
  | exit id =>
    have hx : exitTo id (.inScope c :: k) = exitTo id k := by simp [exitTo]
    exact ⟨.exit id, a₁, w₁, hq, fun k' hk => .head h0 xl (harr.1 k' (by rw [hx]; exact hk)),
      fun hr' hk => let ⟨k₁, h1, h2⟩ := harr.2 hr' (by rw [hx]; exact hk); ⟨k₁, h1, .head h0 xl h2⟩⟩
  | goto l => exact hq.elim
  | ret => exact ⟨_, a₁, w₁, hq, .of_steps (.one h0 xl) harr⟩
  | panic ch => exact ⟨_, a₁, w₁, hq, .of_steps (.one h0 xl) harr⟩
  | outgrown => exact ⟨_, a₁, w₁, hq, .of_steps (.one h0 xl) harr⟩
theorem WCF.scope {r : Option Nat} {c : Code} (h : WCF P r x fr D hp c (Exit.noGoto Q)) : WCF P r x fr D hp (.scope c) Q := fun a w hA => vZ (h a w hA)
theorem WCF.label {r : Option Nat} {l : Nat} (h : WP x fr D hp .normal Q) : WCF P r x fr D hp (.label l) Q := fun a w hA => wpIn_label (h a w hA)
end
section ow
variable {P : Program} {x : Cx} {fr : Fr} {D : Imm} {hp : Hp} {Q : Exit → Act → World → Prop}
theorem Inv.freezeOw {α : Type} [Inhabited α] {f : α → List Value} {m : Nat} (hf : ∀ x, (f x).length = m) (base hp0 : Hp) (o : Option Ow) (e : TypeId) (l : List α) {S : List Nat} {w0 w : World} (ho : owP w0 o l.length m) (h : Inv D (base ++ owH o e (l.flatMap f) hp0) S w0 w) :
    ∃ D', DExt w0 D D' ∧ SlL D' m (l.map f) (owAt o) l.length ∧ Inv D' (base ++ hp0) S w0 w := by
  cases o with
  | none =>
    have h0 : l.length = 0 := ho;have hl : l = [] := List.length_eq_zero_iff.1 h0;subst hl;exact ⟨D, DExt.refl _ _, ⟨rfl, fun i r hr => by simp at hr⟩, h⟩
  | some u =>
    have hk : (base ++ owH (some u) e (l.flatMap f) hp0)[base.length]? = some (u.b, .cells (l.flatMap f ++ u.rest).toArray e (0, 0)) := by simp [owH]
    have he : (base ++ owH (some u) e (l.flatMap f) hp0).eraseIdx base.length = base ++ hp0 := by
      rw [List.eraseIdx_append_of_length_le (by omega)]; simp [owH]
    obtain ⟨hn, hI⟩ := h.freezeK base.length hk;rw [he] at hI;exact ⟨_, (DExt.refl _ _).add hn ho.1, SlL.ofBlock hf (Imm.add_self _ _ _), hI⟩
theorem WL.freezeOw {α : Type} [Inhabited α] {f : α → List Value} {m : Nat} (hf : ∀ x, (f x).length = m) {ops : Array Oper} {c : List Oper} (base hp0 : Hp) (o : Option Ow) (e : TypeId) (l : List α) {w0 : World} (hw : x.w0 = w0) (ho : owP w0 o l.length m) (hhp : hp = base ++ owH o e (l.flatMap f) hp0)
    (h : ∀ D', DExt w0 D D' → SlL D' m (l.map f) (owAt o) l.length → WL P x ops fr D' (base ++ hp0) c Q) : WL P x ops fr D hp c Q := fun a w hA => by
  subst hhp; subst hw;obtain ⟨D', h1, h2, h3⟩ := hA.i.freezeOw hf base hp0 o e l ho;exact h D' h1 h2 a w ⟨hA.f, h3⟩
theorem WA.freezeOw {α : Type} [Inhabited α] {f : α → List Value} {m : Nat} (hf : ∀ x, (f x).length = m) {ops : Array Oper} {D0 : Imm} {hpx : Hp} {plan : List (Nat × Bool)} (base hp0 : Hp) (o : Option Ow) (e : TypeId) (l : List α) {w0 : World} (hw : x.w0 = w0) (ho : owP w0 o l.length m) (hhp : hp = base ++ owH o e (l.flatMap f) hp0)
    (h : ∀ D', DExt w0 D D' → SlL D' m (l.map f) (owAt o) l.length → WA P x ops D0 hpx plan fr D' (base ++ hp0) Q) : WA P x ops D0 hpx plan fr D hp Q := fun a w hA => by
  subst hhp; subst hw;obtain ⟨D', h1, h2, h3⟩ := hA.i.freezeOw hf base hp0 o e l ho;exact h D' h1 h2 a w ⟨hA.f, h3⟩
theorem WH.freezeOw {α : Type} [Inhabited α] {f : α → List Value} {m : Nat} (hf : ∀ x, (f x).length = m) {ops : Array Oper} {D0 : Imm} {hpx : Hp} {n : Nat} {listed : Array Bool} (base hp0 : Hp) (o : Option Ow) (e : TypeId) (l : List α) {w0 : World} (hw : x.w0 = w0) (ho : owP w0 o l.length m) (hhp : hp = base ++ owH o e (l.flatMap f) hp0)
    (h : ∀ D', DExt w0 D D' → SlL D' m (l.map f) (owAt o) l.length → WH P x ops D0 hpx n listed fr D' (base ++ hp0) Q) : WH P x ops D0 hpx n listed fr D hp Q := fun a w hA => by
  subst hhp; subst hw;obtain ⟨D', h1, h2, h3⟩ := hA.i.freezeOw hf base hp0 o e l ho;exact h D' h1 h2 a w ⟨hA.f, h3⟩
variable {ty : TypeId}
theorem Inv.nil {S : List Nat} {w0 w : World} (h : Inv D hp S w0 w) : Inv D [] S w0 w := h.sub (fun _ he => by cases he) List.nodup_nil
end ow
section maps
open Go.WideElems (findIdx_born findIdx_arr modify_last)
variable {α : Type} [DecidableEq α] {kv : α → Value} {P : Program} {x : Cx} {fr : Fr} {D : Imm} {hp : Hp} {ty : TypeId} {Q : Exit → Act → World → Prop} {t k e : TypeId} {es : Array MapEntry} {clock b j : Nat} {F : α → Option Int}
end maps
end Go.W
namespace Go.W
section
variable {P : Program} {x : Cx} {fr : Fr} {D : Imm} {hp : Hp} {ty : TypeId}
theorem zcY (k : Nat) (hk : k ≤ 60) : IntKind.u64.wrap (1 * 2 ^ (min ((k : Int)).toNat IntKind.u64.bits)) = ((2 ^ k : Nat) : Int) := by
  have e : min ((k : Int)).toNat IntKind.u64.bits = k := by
    show min k 64 = k; omega
  rw [e, Int.one_mul, show ((2 : Int) ^ k) = ((2 ^ k : Nat) : Int) by rw [Int.natCast_pow]; rfl];exact wrU _ (Nat.pow_le_pow_right (by omega) hk)
theorem Yd.shlU {t t' : TypeId} {o p : Operand} {k : Nat} (ho : opv fr o = some (.int .u64 1)) (hp' : opv fr p = some (nt k)) (hk : k ≤ 60) : Yd P x fr D hp (.binOp .shl t o p t') ty (ut (2 ^ k)) :=
  Yd.shl ho hp' (by omega) (zcY k hk)
theorem Yd.subU {t t' : TypeId} {o p : Operand} {i j : Nat} (ho : opv fr o = some (ut i)) (hp' : opv fr p = some (ut j)) (h : j ≤ i) (hi : i ≤ 2 ^ 60) : Yd P x fr D hp (.binOp .sub t o p t') ty (ut (i - j)) := by
  have h1 := wrU (i - j) (by omega);have e : ((i - j : Nat) : Int) = (i : Int) - (j : Int) := by omega
  rw [e] at h1;have h2 := Yd.sub (P := P) (x := x) (D := D) (hp := hp) (ty := ty) (t := t) (t' := t') (i := (i : Int)) (j := (j : Int)) ho hp' h1;rw [← e] at h2;exact h2
end
end Go.W
namespace Go.W
section
variable {P : Program} {x : Cx} {fr : Fr} {D : Imm} {hp : Hp} {ty : TypeId}
theorem Yd.index {t e m n j : Nat} {p q : Operand} {cs : List Value} {v : Value} (hu : P.underlying t = some (.array m e)) (hz : ∀ w, (sizeOf e).run P w = .ok n w) 
    (hp' : opv fr p = some (.agg cs.toArray)) (hq : opv fr q = some (nt j)) (hj : j < m) (hv : ∀ w, (part e cs.toArray (j * n)).run P w = .ok v w) : Yd P x fr D hp (.index t p q) ty v := fun a w _ _ _ _ hA _ => by
  simp only [execOp, hA.eval hp', hA.eval hq];have h1 : (0 : Int) ≤ (j : Int) := by omega
  have h2 : (j : Int) < (m : Int) := by omega
  have : (Instr.index t (.agg cs.toArray) (.int .i64 (j : Int))).run P w = .ok v w := by
    unfold Instr.index;simp [asIntOf, run_underlying hu, hz, h1, h2, hv];intro h; omega
  simp [this]
theorem Yd.buildA {t m e n : Nat} {zs : List Value} (hz : ∃ z, (∀ w, (zeroValue t).run P w = .ok z w) ∧ z.cells = zs.toArray) (hu : P.underlying t = some (.array m e)) (hs : ∀ w, (sizeOf e).run P w = .ok n w) {ps : List (Nat × Operand)} {vals : List (Nat × Value)} {cs : List Value} 
    (hp' : opps fr ps = some vals) (hf : Instr.fill (fun i => some (i * n, n)) zs.toArray vals = some cs.toArray) : Yd P x fr D hp (.build t ps.toArray) ty (.agg cs.toArray) := fun a w _ _ _ _ hA _ => by
  have h1 := hA.evalps ps vals hp';obtain ⟨z, hz, hzc⟩ := hz;simp only [execOp, List.map_toArray, h1]
  have h3 : (Instr.build t vals.toArray).run P w = .ok (.agg cs.toArray) w := by
    unfold Instr.build;simp only [Sem.run_bind, hz, Result.andThen_ok, run_underlying hu, hzc, hs];have : Instr.fill (fun i => some (i * n, n)) zs.toArray vals.toArray.toList = some cs.toArray := hf
    rw [this]; rfl
  simp [h3]
end
end Go.W
namespace Go.W
section
variable {P : Program} {x : Cx} {fr : Fr} {D : Imm} {hp : Hp} {Q : Exit → Act → World → Prop} {ty : TypeId}
def xV (W : World) (D : Imm) (S : List Nat) (K : Bool → Imm → Hp → Prop) (e : Ending) (W' : World) : Prop :=
  ∃ b D' hp', e = .returned (.bool b) ∧ DExt W D D' ∧ Inv D' hp' S W W' ∧ K b D' hp'
theorem WP.goOnN {l k : Nat} {rec : Loop} {D0 : Imm} {K : Bool → Imm → Hp → Prop} (hk : hp[k]? = some (l, .loop rec)) (hD : DExt x.w0 D0 D) 
    (h : K true D (hp.set k (l, .loop { rec with state := .ready, pending := none }))) : WP x fr D hp .normal (roundPost P l (xV x.w0 D0 x.S K)) := fun a w hA => by
  have hl := hA.i.own _ _ (mem_of_get? hk);exact ⟨_, _, run_endRound none hl, true, _, _, rfl, hD, yB hA.i hk _, h⟩
def V9 (P : Program) (gf : Nat) (lb : List Value) (N : Nat) (arg : Nat → Value) (D : Imm) (w : World) : Prop :=
  ∀ (l : Nat) (St : Nat → Imm → Hp → Prop) (Sp : Imm → Hp → Prop), (∀ k D1 D2 h, DExt w D1 D2 → St k D1 h → St k D2 h) →
    (∀ k D' h w', k < N → w.heap.size ≤ w'.heap.size → DExt w D D' → St k D' h → Inv D' h (keys h) w' w' → YieldAt Fence.wide 0 P l #[arg k] w' (xV w' D' (keys h) (fun b D'' h' => (b = true ∧ St (k + 1) D'' h') ∨ (b = false ∧ Sp D'' h')))) →
    ∀ h0, St 0 D h0 → Inv D h0 (keys h0) w w → zp P gf ((.func (.yield l) #[] #[]) :: lb) w D (keys h0) (fun _ D' h' => St N D' h' ∨ Sp D' h')
def yP (P : Program) (n : Nat) (l : Nat) (rec : Loop) (pre : Hp) (fr : Fr) (D1 : Imm) (h : Hp) (w1 : World) (assign body : Code) (St : Imm → Hp → Prop) (Sp : Code → Imm → Hp → Prop) : Prop :=
  WCF P (some l) ⟨n, [], keys ((l, .loop rec) :: (pre ++ h)), w1⟩ fr D1 ((l, .loop rec) :: (pre ++ h)) assign
    (Exit.then (fun a₁ w₁ => ∃ w₂, (Instr.beginRound l).run P w₁ = .ok () w₂ ∧ body.wpIn (Fx (some l)) 0 P (roundPost P l (xV w1 D1 (keys ((l, .loop rec) :: (pre ++ h))) (RK l rec pre St Sp))) a₁ w₂) (fun _ _ _ => False))
theorem WP.iterOnN {l : Nat} {rec : Loop} {pre h1 : Hp} {D0 : Imm} {St : Imm → Hp → Prop} {Sp : Code → Imm → Hp → Prop} (hr : rec.state = .ready ∧ rec.pending = none) (hsub : ∀ e, e ∈ (l, .loop (u4 rec)) :: (pre ++ h1) → e ∈ hp) (hn : (keys hp).Nodup → (keys ((l, .loop (u4 rec)) :: (pre ++ h1))).Nodup) 
    (hD : DExt x.w0 D0 D) (h : St D h1) : WP x fr D hp .normal (roundPost P l (xV x.w0 D0 x.S (RK l rec pre St Sp))) := fun a w hA => by
  refine WP.goOnN (k := 0) (hp := (l, .loop (u4 rec)) :: (pre ++ h1)) rfl hD (.inl ⟨rfl, h1, ?_, h⟩) a w ⟨hA.f, hA.i.sub hsub (hn hA.i.nodup)⟩
  show (l, Obj.loop { u4 rec with state := .ready, pending := none }) :: _ = _;rw [show ({ u4 rec with state := .ready, pending := none } : Loop) = { rec with state := .ready, pending := none } from rfl, rec_eta' hr.1 hr.2]
theorem Inv.toKeys {S : List Nat} {w0 w : World} (h : Inv D hp S w0 w) : Inv D hp (keys hp) w w := Inv.frame (own := []) h (fun _ h => h)
theorem WC.rangeIterN {g : Operand} {pm : Tmp} {assign body : Code} {gf : Nat} {lb : List Value} {N : Nat} {arg : Nat → Value} (hit : ∀ w, x.w0.heap.size ≤ w.heap.size → Holds D w → V9 P gf lb N arg D w) (hg : opv fr g = some (.func (.func gf) #[] lb.toArray)) (hc : ∀ args w, (callFunc gf args).run P w = .ok (.enter gf args) w) (hpm : Nat.blt pm x.n = true) 
    (St : Nat → Imm → Hp → Prop) (Sp : Code → Imm → Hp → Prop) (hmono : ∀ k D1 D2 h, DExt x.w0 D1 D2 → St k D1 h → St k D2 h) (h0 : St 0 D hp)
    (hbody : ∀ rec l Dn k D1 h w1, (rec.state = .ready ∧ rec.pending = none) → k < N → St k D1 h → DExt x.w0 D D1 → x.w0.heap.size ≤ w1.heap.size → yP P x.n l rec [(Dn, .deferred (some []))] ((pm, arg k) :: fr) D1 h w1 assign body (St (k + 1)) Sp)
    (hdone : ∀ Dn D' hp', x.w0.heap.size ≤ Dn → DExt x.w0 D D' → St N D' hp' → WP ⟨x.n, y1 Dn :: x.ds, x.S, x.w0⟩ fr D' ((Dn, .deferred (some [])) :: hp') .normal Q)
    (hstop : ∀ Dn c D' hp', x.w0.heap.size ≤ Dn → DExt x.w0 D D' → Sp c D' hp' → WC P ⟨x.n, y1 Dn :: x.ds, x.S, x.w0⟩ fr D' ((Dn, .deferred (some [])) :: hp') c Q) :
    WC P x fr D hp (.rangeFunc g #[pm] assign body) Q := by
  refine WC.rangeFuncM (K := fun D' hp' pend => DExt x.w0 D D' ∧ ((pend = none ∧ St N D' hp') ∨ ∃ c, pend = some c ∧ Sp c D' hp')) hg hc (fun rec l Dn w₁ hst hpe hps has hbo hT hDn hl hI => ?_) (fun Dn D' hp' pend hDn hK => ?_)
  · have hsz := hI.keep.size;have hI1 := hI.toKeys;refine Calls.mono (hit w₁ hsz hI.imm l (fun k D' h => ∃ h1, h = (l, .loop rec) :: ([(Dn, .deferred (some []))] ++ h1) ∧ St k D' h1) (fun D' h => ∃ c h1, h = (l, .loop { rec with state := .done, pending := some c }) :: ([(Dn, .deferred (some []))] ++ h1) ∧ Sp c D' h1) ?_ ?_ _ ⟨hp, rfl, h0⟩ hI1) ?_
    · rintro k D1 D2 h hx ⟨h1, rfl, hs⟩;exact ⟨h1, rfl, hmono _ _ _ _ (hx.wide hsz) hs⟩
    · rintro k D1 h w' hk hsz2 hX ⟨h1, rfl, hs⟩ hI2;have hb := hbody rec l Dn k D1 h1 w' ⟨hst, hpe⟩ hk hs (hX.wide hsz) (Nat.le_trans hsz hsz2);refine YieldAt.mono (kN (rec := rec) (k := 0) (n := x.n) (fr := (pm, arg k) :: fr) has hbo hI2 rfl (by rw [hps]; rfl) (by rw [hps]; exact hT.round1 hpm) hb) ?_;rintro e w'' ⟨b, D', hp', rfl, hD, hI3, hK⟩;refine ⟨b, D', hp', rfl, hD, hI3, ?_⟩;rcases hK with ⟨rfl, h1, rfl, hs1⟩ | ⟨rfl, c, h1, rfl, hs1⟩
      · exact .inl ⟨rfl, h1, rfl, hs1⟩
      · exact .inr ⟨rfl, c, h1, rfl, hs1⟩
    · rintro e w' ⟨v, D', hpc', rfl, hXe, hIe, hK⟩
      have hIu := Inv.unframeN (own := []) hI (fun _ h => h) (fun b hb => by
        obtain ⟨o, ho⟩ := yQ hb;exact hIe.may b o ho) hXe hIe
      rcases hK with ⟨h1, rfl, hs⟩ | ⟨c, h1, rfl, hs⟩
      · refine ⟨v, D', h1, .ready, none, rfl, by decide, ?_, hXe.wide hsz, .inl ⟨rfl, hs⟩⟩;rw [rec_eta' hst hpe]; exact hIu
      · exact ⟨v, D', h1, .done, some c, rfl, by decide, hIu, hXe.wide hsz, .inr ⟨c, rfl, hs⟩⟩
  · obtain ⟨hX, ⟨rfl, hs⟩ | ⟨c, rfl, hs⟩⟩ := hK
    · exact hdone Dn D' hp' hDn hX hs
    · exact hstop Dn c D' hp' hDn hX hs
theorem WLF.yieldN {ops : Array Oper} {rest : List Oper} {dst : Option Tmp} {pos : String} {af : Array Edge} {l : Nat} {o : Operand} {A : List Operand} {ts : Array TypeId} {vals : List Value} {K : Bool → Imm → Hp → Prop} (own hpc : Hp) (hhp : ∀ e, e ∈ own ++ hpc → e ∈ hp) (hnd : (keys hp).Nodup → (keys (own ++ hpc)).Nodup) 
    (ho : opv fr o = some (.func (.yield l) #[] #[])) (ha : opvs fr A = some vals) (hd : dstB dst x.n = true)
    (hk : ∀ w, x.w0.heap.size ≤ w.heap.size → Inv D hpc (keys hpc) w w → YieldAt Fence.wide 0 P l vals.toArray w (xV w D (keys hpc) K))
    (h : ∀ b D' hpc', K b D' hpc' → DExt x.w0 D D' → WLF P none x ops (wj dst (.bool b) fr) D' (own ++ hpc') rest Q) :
    WLF P none x ops fr D hp (⟨dst, .call ⟨.value o, A.toArray, ts⟩, ty, pos, af, none⟩ :: rest) Q := fun a w hA => by
  unfold wpListIn;rw [if_pos (show Region.wanted ⟨dst, .call ⟨.value o, A.toArray, ts⟩, ty, pos, af, none⟩ (yielded ops a.tmps) = true from rfl)];refine ⟨fun _ _ => trivial, ?_⟩;have hI := hA.i.sub hhp (hnd hA.i.nodup);obtain ⟨fn, tmps, assign, body, hy, hR⟩ := hk w hA.i.keep.size (hI.frame (fun _ h => h));have h1 := hA.f.evals A vals ha
  have hrun : (Oper.semAt (Fx none).round a.eval ⟨dst, .call ⟨.value o, A.toArray, ts⟩, ty, pos, af, none⟩).run P w = .ok (.round l fn tmps assign body) w := by
    rw [Oper.semAt_none];simp only [execOp];simp [resolve, hA.f.eval ho, Deferred.ofValue, invoke, h1, hy]
  rw [hrun, Oper.uponIn_round];refine ⟨fun e => (by cases e), RoundIn.mono hR fun e w' ⟨b, D', hpc', h2, hD, hI', hK⟩ => ?_⟩;subst h2
  exact h b D' hpc' hK ⟨hD.old, fun b hb => hD.new b (Nat.lt_of_lt_of_le hb hA.i.keep.size)⟩ _ _ ⟨hA.f.putO hd _, hI.unframeN (fun _ h => h) (fun b hb => by
    obtain ⟨o, ho⟩ := yQ hb;exact hI'.may b o ho) hD hI'⟩
section
variable {r : Option Nat} {ops : Array Oper} {rest : List Oper}
include r ops rest
theorem WLF.ydg {d : Tmp} {op : Op} {pos : String} {af : Array Edge} {j : Nat} {b : Bool} {v : Value} (hn : ∀ c, op ≠ .defer c) (hg : gval ops fr j = some (.bool b)) (hy : Yd P x fr D hp op ty v) (hd : Nat.blt d x.n = true) (h : WLF P r x ops ((d, v) :: fr) D hp rest Q) :
    WLF P r x ops fr D hp (⟨some d, op, ty, pos, af, some (j, b)⟩ :: rest) Q := fun a w hA => by
  unfold wpListIn;rw [if_pos (by rw [yy hA.f hg]; simp)];refine X5 hn ?_;unfold Oper.wp;rw [hy a w _ _ _ _ hA.f hA.i, Oper.upon_value];exact h _ _ ⟨hA.f.put hd v, hA.i⟩
theorem WLF.skip {dst : Option Tmp} {op : Op} {pos : String} {af : Array Edge} {j : Nat} {b : Bool} (_hn : ∀ c, op ≠ .defer c) (hg : gval ops fr j = some (.bool !b)) (hd : dstB dst x.n = true) (h : WLF P r x ops (wj dst undef fr) D hp rest Q) :
    WLF P r x ops fr D hp (⟨dst, op, ty, pos, af, some (j, b)⟩ :: rest) Q := fun a w hA => by
  unfold wpListIn;rw [if_neg (by rw [yy hA.f hg]; cases b <;> simp)];exact ⟨fun _ _ => trivial, h _ _ ⟨hA.f.putO hd undef, hA.i⟩⟩
end
end
end Go.W
namespace Go.W
section
variable {P : Program} {x : Cx} {fr : Fr} {D : Imm} {hp : Hp} {ty : TypeId} {Q : Exit → Act → World → Prop} {ops : Array Oper}
end
end Go.W
namespace Go.W
section
variable {P : Program} {x : Cx} {ops : Array Oper} {fr : Fr} {D : Imm} {hp : Hp} {Q : Exit → Act → World → Prop} {D0 : Imm} {hp0 : Hp} {n i j k : Nat} {listed : Array Bool}
end
end Go.W
namespace Go.W
section
variable {α : Type} [DecidableEq α] {kv : α → Value}
structure MapB (kv : α → Value) (es : Array MapEntry) (clock : Nat) (F : α → Bool) : Prop where
  ent : ∀ e ∈ es.toList, ∃ x, e.key = kv x ∧ e.val = .bool true ∧ F x = true
  all : ∀ x, F x = true → ∃ e ∈ es.toList, e.key = kv x
theorem MapB.empty (kv : α → Value) : MapB kv #[] 0 (fun _ => false) := ⟨fun e he => (by simp at he), fun x h => (by cases h)⟩
variable {P : Program} {x : Cx} {fr : Fr} {D : Imm} {hp : Hp} {ty : TypeId} {Q : Exit → Act → World → Prop} {t k e : TypeId} {es : Array MapEntry} {clock b j : Nat} {F : α → Bool}
end
end Go.W
namespace Go.W
section
variable {D : Imm} {hp : Hp}
end
end Go.W
namespace Go.W
section
variable {P : Program} {x : Cx} {ops : Array Oper} {fr : Fr} {D : Imm} {hp : Hp} {ty : TypeId} {Q : Exit → Act → World → Prop}
theorem noLets.round {l : Nat} {R : Ending → World → Prop} : ¬ LetsOut (roundPost P l R) := fun ⟨_, _, h⟩ => h
theorem Wj {r : Option Nat} {i : Nat} {K : Act → World → Prop} {a : Act} {w : World} (hd : ∀ o, ops[i]? = some o → ∀ c, o.op ≠ .defer c) (hno : ¬ LetsOut Q) (h : wpOp P ops Q i K a w) : wpOpIn (Fx r) 0 P ops Q i K a w := by
  unfold wpOpIn;unfold wpOp at h;cases ho : ops[i]? with
  | none => simp only [ho] at h ⊢; exact h
  | some o =>
    simp only [ho] at h ⊢;split at h
    · rename_i hw
      rw [if_pos hw];rcases h with h | h
      · exact X5 (hd o ho) h
      · exact absurd h.2 hno
    · rename_i hw
      rw [if_neg hw];exact ⟨fun _ _ => trivial, h⟩
theorem uv {r : Option Nat} {n : Nat} (T : qz ops n) : ∀ (l : List Oper) (k : Nat) (listed : Array Bool) (a : Act) (w : World), n ≤ k → k + l.length = ops.size → (∀ j, j < l.length → l[j]? = ops[k + j]?) → LstT ops k listed →
    wpListIn (Fx r) 0 P ops Q l a w → wpAnyIn (Fx r) 0 P .any ops Q l.length listed a w
  | [], k, listed, a, w, hn, hk, _, L, h => by
    refine ⟨?_, h⟩;apply List.eq_nil_iff_forall_not_mem.2;intro t ht;obtain ⟨hun, o, ho, _⟩ := mem_ready.1 ht;have hts : t < ops.size := (Array.getElem?_eq_some_iff.1 ho).1;rw [vP (by rw [L.size]; exact hts)] at hun;have := (L.no t hts).1 hun;simp at hk; omega
  | o :: l, k, listed, a, w, hn, hk, hl, L, h => by
    have hks : k < ops.size := by simp at hk; omega
    have h0 : ops[k]? = some o := by simpa using (hl 0 (by simp)).symm
    have hr := uP T L hn hks;refine ⟨fun h1 => ?_, fun i hi => ?_⟩
    · have := (hr k).2 rfl;rw [h1] at this; cases this
    · have hik := (hr i).1 hi;subst hik;have hw : wpOpIn (Fx r) 0 P ops Q i (wpListIn (Fx r) 0 P ops Q l) a w := by unfold wpOpIn; simp only [h0]; exact h
      refine wpOpIn_mono (fun a' w' h' => uv T l (i + 1) _ a' w' (by omega) (by simp at hk; omega) (fun j hj => by
        have := hl (j + 1) (by simp; omega);rw [show i + 1 + j = i + (j + 1) by omega]; simpa using this) ⟨by simp [L.size], fun j hj => ?_⟩ h') hw
      by_cases e : i = j
      · subst e;have : (listed.setIfInBounds i true).getD i false = true := by simp [L.size, hj]
        rw [this]; simp
      · rw [getD_set_ne false e, L.no j hj]; omega
section
variable {r : Option Nat}
include r
theorem jC {C : World → Prop} {n : Nat} {tl : List Oper} (hnd : ∀ (i : Nat) (o : Oper), ops[i]? = some o → ∀ c, o.op ≠ .defer c) (hno : ¬ LetsOut Q) (T : qz ops n) (htl : n + tl.length = ops.size) (htl' : ∀ j, j < tl.length → tl[j]? = ops[n + j]?) :
    ∀ (m : Nat) (l : List Nat) (listed : Array Bool) (a : Act) (w : World), l.length = m → C w → Lst ops n l listed → remQ P ops C (fun a' => ∀ w', C w' → wpListIn (Fx r) 0 P ops Q tl a' w') l a →
      wpAnyIn (Fx r) 0 P .any ops Q (l.length + tl.length) listed a w := by
  intro m
  induction m with
  | zero =>
    intro l listed a w hm hw L h;have hl : l = [] := List.length_eq_zero_iff.1 hm;subst hl;rw [List.length_nil, Nat.zero_add];exact uv T tl n listed a w (Nat.le_refl _) htl htl' ⟨L.size, fun i hi => by rw [L.no i hi]; simp⟩ (h w hw)
  | succ m ih =>
    intro l listed a w hm hw L h;have hne : l ≠ [] := fun e => by rw [e] at hm; cases hm
    rw [show l.length + tl.length = (m + tl.length) + 1 by omega];refine ⟨fun h0 => absurd h0 (vd T L hne), fun i hi => ?_⟩;obtain ⟨hil, hnw⟩ := L.ready T hne hi;obtain ⟨l1, l2, rfl⟩ := List.append_of_mem hil
    have hap : ∀ j ∈ l1, vH ops i j = true := fun j hj => by
      have hji : j < i := by
        have := L.sorted;rw [List.pairwise_append] at this;exact this.2.2 j hj i List.mem_cons_self
      rcases T.ap i j (L.below i hil) hji with h1 | h1
      · rw [hnw j (List.mem_append_left _ hj)] at h1; cases h1
      · exact h1
    obtain ⟨o, v, ho, hy, hr⟩ := uj T.sel i l2 l1 a hap h;have hlen : (l1 ++ l2).length = m := by simp at hm ⊢; omega
    have key : ∀ w', C w' → wpAnyIn (Fx r) 0 P .any ops Q (m + tl.length) (listed.setIfInBounds i true) (a.put o.dst v) w' := fun w' hw' => by
      have := ih (l1 ++ l2) _ _ w' hlen hw' (L.next T hnw) hr
      rwa [hlen] at this
    exact Wj (hnd i) hno (wpOp_of_qOp (C := C) (K := fun a' => a' = a.put o.dst v) hw (fun a' w' hw' e => by subst e; exact key w' hw') (hy.qOp ho rfl))
theorem WQ.tailR {tl : List Oper} (h : WLF P r x ops fr D hp tl Q) : WQ P x ops D hp (fun a' => ∀ w', Inv D hp x.S x.w0 w' → wpListIn (Fx r) 0 P ops Q tl a' w') [] fr := fun a hA w hI => h a w ⟨hA, hI⟩
theorem WCF.tail {id : Nat} {ops : List Oper} (n : Nat) (heads : List Nat) (hh : List.range n = heads) (hm : P.follows .mixedOrders = true) (hB : (X0 ops.toArray n && Jr ops) = true) (hno : ¬ LetsOut Q) 
    (h : WQ P x ops.toArray D hp (fun a' => ∀ w', Inv D hp x.S x.w0 w' → wpListIn (Fx r) 0 P ops.toArray Q (ops.drop n) a' w') heads fr) : WCF P r x fr D hp (.region id ops.toArray true) Q := fun a w hA => by
  simp only [Bool.and_eq_true] at hB;have T := Z0 hB.1;refine wpIn_region_any (F := Fx r) hm ?_;have hn : n < ops.length := by simpa using T.lt
  have hq := h a hA.f;rw [← hh] at hq
  have := jC (P := P) (Q := Q) (C := Inv D hp x.S x.w0) (tl := ops.drop n) (uI hB.2) hno T (by simp; omega) (fun j hj => by simp [List.getElem?_drop]) n (List.range n) (Array.replicate ops.toArray.size false) a { w with drawn := w.drawn + 1 } (by simp) (hA.i.drew _)
    ⟨by simp, List.pairwise_lt_range, fun i hi => List.mem_range.1 hi, fun i hi => by
      simp only [List.mem_range];constructor
      · intro _; omega
      · intro _; have : i < ops.length := by simpa using hi
        simp [this], fun i j hi hni _ => absurd (List.mem_range.2 hi) hni⟩ hq
  rw [List.length_range, List.length_drop, show n + (ops.length - n) = ops.toArray.size by simp; omega] at this;exact this
theorem WCF.loop {α : Type} {c : Code} (F : α → Fr) (H : α → Hp) (I : α → Imm) (φ : α → Prop) (m : α → Nat) (x0 : α) (h0 : φ x0) 
    (hstart : ∀ a w, At x fr D hp a w → At x (F x0) (I x0) (H x0) a w)
    (hround : ∀ y, φ y → WCF P r x (F y) (I y) (H y) c (Exit.then (fun a w => ∃ z, φ z ∧ m z < m y ∧ At x (F z) (I z) (H z) a w) Q)) : WCF P r x fr D hp (.loop c) Q := by
  intro a w hA
  have key : ∀ n y a w, m y < n → φ y → At x (F y) (I y) (H y) a w → Code.roundsIn (Fx r) 0 P c Q n a w := by
    intro n
    induction n with
    | zero => intro y a w h; omega
    | succ n ih =>
      intro y a w hm hy hA;refine wpIn_mono (hround y hy a w hA) ?_;intro e a' w' hq;cases e with
      | normal =>
        obtain ⟨z, hz, hlt, hA'⟩ := hq;exact ih z a' w' (by omega) hz hA'
      | _ => exact hq
  exact wpIn_loop_rounds (m x0 + 1) (key _ x0 a w (Nat.lt_succ_self _) h0 (hstart a w hA))
theorem WCF.loopF {α : Type} {c : Code} (F : α → Fr) (φ : α → Prop) (m : α → Nat) (x0 : α) (h0 : φ x0) (hstart : subB (F x0) fr) 
    (hround : ∀ y, φ y → WCF P r x (F y) D hp c (Exit.then (fun a w => ∃ z, φ z ∧ m z < m y ∧ At x (F z) D hp a w) Q)) : WCF P r x fr D hp (.loop c) Q :=
  WCF.loop F (fun _ => hp) (fun _ => D) φ m x0 h0 (fun _ _ h => y4 h hstart) hround
end
theorem WP.goRetN {l k : Nat} {rec : Loop} {D0 : Imm} {K : Bool → Imm → Hp → Prop} (hk : hp[k]? = some (l, .loop rec)) (hD : DExt x.w0 D0 D) 
    (h : K false D (hp.set k (l, .loop { rec with state := .done, pending := some .ret }))) : WP x fr D hp .ret (roundPost P l (xV x.w0 D0 x.S K)) := fun a w hA => by
  have hl := hA.i.own _ _ (mem_of_get? hk);exact ⟨_, _, run_endRound (some .ret) hl, false, _, _, rfl, hD, yB hA.i hk _, h⟩
theorem WP.iterRetN {l : Nat} {rec : Loop} {pre h1 : Hp} {D0 : Imm} {St : Imm → Hp → Prop} {Sp : Code → Imm → Hp → Prop} (hsub : ∀ e, e ∈ (l, .loop (u4 rec)) :: (pre ++ h1) → e ∈ hp) (hn : (keys hp).Nodup → (keys ((l, .loop (u4 rec)) :: (pre ++ h1))).Nodup) 
    (hD : DExt x.w0 D0 D) (h : Sp .ret D h1) : WP x fr D hp .ret (roundPost P l (xV x.w0 D0 x.S (RK l rec pre St Sp))) := fun a w hA =>
  WP.goRetN (k := 0) (hp := (l, .loop (u4 rec)) :: (pre ++ h1)) rfl hD (.inr ⟨rfl, .ret, h1, rfl, h⟩) a w ⟨hA.f, hA.i.sub hsub (hn hA.i.nodup)⟩
theorem zm.round {l : Nat} {R : Ending → World → Prop} : zm (roundPost P l R) := fun c d v a w hq => by
  cases d <;> exact hq
theorem vQ {fn : Func} {R : Ending → World → Prop} {tmps : Array Value} {d : Nat} {v : Value} (h : d ∉ xr fn) : ∀ (ds : List Deferred) (u : FrameMode) (w : World), LeavesInM Fence.wide 0 P fn (tmps.setIfInBounds d v) R ds u w → LeavesInM Fence.wide 0 P fn tmps R ds u w := by
  intro ds
  induction ds with
  | nil =>
    intro u w hl;cases u with
    | run => exact hl
    | returning => obtain ⟨r, h1, h2⟩ := hl; exact ⟨r, by rw [j7 h] at h1; exact h1, h2⟩
    | panicking c => exact hl
  | cons e ds ih =>
    intro u w ⟨h1, h2⟩;refine ⟨h1, ?_⟩;rcases h2 with ⟨r, w', h3, h4, h5⟩ | ⟨h3, fv, cap, f, args, h4, h5, h6, h7⟩
    · exact .inl ⟨r, w', h3, h4, ih _ _ h5⟩
    · refine .inr ⟨h3, fv, cap, f, args, h4, h5, h6, h7.mono fun e u w hh => ?_⟩;cases e with
      | returned r => exact ih _ _ hh
      | panicked c => exact ih _ _ hh
      | outgrown => exact hh
theorem zN.bodyM {fn : Func} {R : Ending → World → Prop} (h : offB ops fn = true) : zN ops (bodyPostM Fence.wide 0 P fn R) := fun i o v c a w ho hq => by
  have hm : o ∈ ops.toList := by
    have := Array.mem_of_getElem? ho;exact Array.mem_toList_iff.2 this
  have h1 := List.all_eq_true.1 h o hm;cases hd : o.dst with
  | none => rw [hd] at hq; exact hq
  | some d =>
    rw [hd] at h1 hq;have hn : d ∉ xr fn := by simpa using h1
    exact vQ hn _ _ _ hq
theorem Wi {r : Option Nat} (hnd : ∀ (i : Nat) (o : Oper), ops[i]? = some o → ∀ c, o.op ≠ .defer c) (hno : ¬ LetsOut Q) : ∀ (fuel : Nat) (listed : Array Bool) (a : Act) (w : World), wpAny P .any ops Q fuel listed a w → wpAnyIn (Fx r) 0 P .any ops Q fuel listed a w
  | 0, _, _, _, h => h
  | fuel + 1, _, _, _, h => ⟨h.1, fun i hi => Wj (hnd i) hno (wpOp_mono (fun a' w' h' => Wi hnd hno fuel _ a' w' h') (h.2 i hi))⟩
theorem WCF.drawH {r : Option Nat} {id : Nat} {l : List Oper} (hp0 : Hp) (hm : P.follows .mixedOrders = true) (hB : Jr l = true) (hno : ¬ LetsOut Q) (h0 : ∀ w, Inv D hp x.S x.w0 w → Inv D hp0 x.S x.w0 w) 
    (h : WH P x l.toArray D hp0 l.length (List.replicate l.length false).toArray fr D hp Q) : WCF P r x fr D hp (.region id l.toArray true) Q := fun a w hA => by
  refine wpIn_region_any (F := Fx r) hm (Wi (uI hB) hno _ _ _ _ (wpAny_of_held (S := Inv D hp0 x.S x.w0) _ _ _ _ ?_));have := h _ _ ⟨hA.f, hA.i.drew (w.drawn + 1)⟩ (h0 _ (hA.i.drew _));have e : (Array.replicate l.toArray.size false) = (List.replicate l.length false).toArray := by simp
  rw [e];exact this
theorem WLF.sog {r : Option Nat} {rest : List Oper} {dst : Option Tmp} {op : Op} {pos : String} {af : Array Edge} {j : Nat} {b : Bool} {K : Value → Imm → Hp → Prop} (hn : ∀ c, op ≠ .defer c) (hg : gval ops fr j = some (.bool b)) (hs : SO P x fr D hp op ty Q K) (hd : dstB dst x.n = true) (h : ∀ v D' hp', K v D' hp' → WLF P r x ops (wj dst v fr) D' hp' rest Q) :
    WLF P r x ops fr D hp (⟨dst, op, ty, pos, af, some (j, b)⟩ :: rest) Q := fun a w hA => by
  unfold wpListIn;rw [if_pos (by rw [yy hA.f hg]; simp)];exact X5 hn (hs a w _ _ _ _ _ hA fun v D' hp' _ hk hi => h v D' hp' hk _ _ ⟨hA.f.putO hd v, hi⟩)
theorem WQ.skipU {K : Act → Prop} {l : List Nat} {i : Nat} {dst : Option Tmp} {op : Op} {pos : String} {af : Array Edge} {j : Nat} {b : Bool} (ho : ops[i]? = some ⟨dst, op, ty, pos, af, some (j, b)⟩) (hg : gval ops fr j = some undef) (hd : dstB dst x.n = true) (h : WQ P x ops D hp K l (wj dst undef fr)) : WQ P x ops D hp K (i :: l) fr := fun a hA =>
  ⟨_, undef, ho, .inr ⟨vp hA hg, rfl⟩, h _ (hA.putO hd undef)⟩
def zU (d : Nat) (Q : Exit → Act → World → Prop) : Prop := ∀ v c a w, Q (.panic c) (Act.put a (some d) v) w → Q (.panic c) a w
theorem zU.then {d : Nat} {K : Act → World → Prop} (h : zU d Q) : zU d (Exit.then K Q) := fun v c a w hq => h v c a w hq
theorem zU.blk {d id : Nat} (h : zU d Q) : zU d (Exit.inBlock id Q) := fun v c a w hq => h v c a w hq
theorem zU.sc {d : Nat} (h : zU d Q) : zU d (Exit.noGoto Q) := fun v c a w hq => h v c a w hq
section
variable {d : Nat} {fn : Func} {R : Ending → World → Prop} (h : (xr fn).contains d = false)
include d fn R h
theorem zU.bodyD : zU d (bodyPostD P fn R) := fun v c a w hq => uF (by simpa using h) _ _ _ hq
theorem zU.bodyM : zU d (bodyPostM Fence.wide 0 P fn R) := fun v c a w hq => vQ (by simpa using h) _ _ _ hq
end
theorem WH.ydD {D0 : Imm} {hp0 : Hp} {n i : Nat} {listed : Array Bool} {d : Tmp} {op : Op} {pos : String} {af : Array Edge} {v : Value} (hc : ((Region.ready .any ops listed).contains i && Region.free .any ops listed i && Region.noSelect ops) = true) (hQ : zU d Q) (ho : ops[i]? = some ⟨some d, op, ty, pos, af, none⟩) 
    (hy : Yd P x fr D0 hp0 op ty v) (hd : Nat.blt d x.n = true) (h : WH P x ops D0 hp0 n (listed.setIfInBounds i true) ((d, v) :: fr) D hp Q) : WH P x ops D0 hp0 (n + 1) listed fr D hp Q := fun a w hA hI => by
  simp only [Bool.and_eq_true] at hc;exact wpAnyH_take ho hc.2 hc.1.2 hc.1.1 (fun c a w => hQ v c a w) (.inl ⟨rfl, fun w' hw' => hy a w' _ _ _ _ hA.f hw'⟩) hI (h _ _ ⟨hA.f.put hd v, hA.i⟩ hI)
theorem WHo.no {D0 : Imm} {hp0 : Hp} {n i : Nat} {listed : Array Bool} {dst : Option Tmp} {op : Op} {pos : String} {af : Array Edge} (ho : ops[i]? = some ⟨dst, op, ty, pos, af, none⟩) (hs : SO P x fr D hp op ty Q NoK) : WHo P x ops D0 hp0 n listed fr D hp Q i := fun a w hA _ => by
  unfold wpOp;simp only [ho];rw [if_pos (show Region.wanted ⟨dst, op, ty, pos, af, none⟩ (yielded ops a.tmps) = true from rfl)];exact .inl (hs a w _ _ _ _ _ hA fun _ _ _ _ hk _ => hk.elim)
theorem WH.know {D0 : Imm} {hp0 : Hp} {n : Nat} {listed : Array Bool} (t : Nat) {v : Value} (v' : Value) (ht : fr.get t = some v) (hv : v = v') (h : WH P x ops D0 hp0 n listed ((t, v') :: fr) D hp Q) : WH P x ops D0 hp0 n listed fr D hp Q :=
  fun a w hA hI => h a w ⟨hA.f.weaken (vz ht hv), hA.i⟩ hI
end
end Go.W
namespace Go.W
theorem YZ {α : Type} [Inhabited α] {f : α → List Value} {m : Nat} (hf : ∀ x, (f x).length = m) (y : α) (j : Nat) (vs : List Value) (hj : j + vs.length ≤ m) (rest : List Value) : ∀ (l : List α) (i : Nat), i < l.length → f y = splice (f (gt l i)) j vs → splice (l.flatMap f ++ rest) (0 + i * m + j) vs = (l.set i y).flatMap f ++ rest := by
  intro l
  induction l with
  | nil => intro i hi; simp at hi
  | cons a l ih =>
    intro i hi hy;cases i with
    | zero =>
      have ha : (f a).length = m := hf a;have hg : gt (a :: l) 0 = a := rfl;rw [hg] at hy;rw [List.set_cons_zero, List.flatMap_cons, List.flatMap_cons, hy];simp only [splice, Nat.zero_mul, Nat.zero_add, List.append_assoc];rw [List.take_append_of_le_length (by omega), List.drop_append_of_le_length (by omega)]
    | succ i =>
      have h := ih i (by simpa using hi) hy;simp only [splice, List.flatMap_cons, List.set_cons_succ, List.append_assoc] at h ⊢;have e1 : 0 + (i + 1) * m + j = (f a).length + (0 + i * m + j) := by rw [hf a, Nat.succ_mul]; omega
      rw [e1, List.take_length_add_append, show (f a).length + (0 + i * m + j) + vs.length = (f a).length + (0 + i * m + j + vs.length) by omega, List.drop_length_add_append, List.append_assoc, h]
section
variable {P : Program} {x : Cx} {fr : Fr} {D : Imm} {hp : Hp} {ty : TypeId} {Q : Exit → Act → World → Prop}
theorem RdN.flat {α : Type} [Inhabited α] {f : α → List Value} {m : Nat} (hf : ∀ x, (f x).length = m) {k b i j n : Nat} {vs : List Value} {l : List α} {rest : List Value} {e : TypeId} {fz : Nat × Nat} (hk : hp[k]? = some (b, .cells (l.flatMap f ++ rest).toArray e fz)) (hi : i < l.length) (hv : slc (f (gt l i)) j n = vs) : RdN D hp b (0 + i * m + j) vs := fun u v hu => by
  rw [← hv] at hu;unfold slc at hu;rw [List.getElem?_take] at hu;split at hu
  · rw [List.getElem?_drop] at hu
    have hlt : j + u < m := by
      rw [← hf (gt l i)];rcases Nat.lt_or_ge (j + u) (f (gt l i)).length with h | h
      · exact h
      · rw [List.getElem?_eq_none h] at hu; cases hu
    rw [Nat.add_assoc];exact Rd.flat hf hk hi hlt hu
  · cases hu
end
end Go.W
namespace Go.W
section
variable {P : Program} {x : Cx} {fr : Fr} {D : Imm} {hp : Hp} {Q : Exit → Act → World → Prop}
theorem WC.loopT {α : Type} {c : Code} (pre : Hp) (F : α → Fr) (Ht : α → Hp) (φ : α → Prop) (m : α → Nat) (x0 : α) (h0 : φ x0) (hhp : hp = pre ++ Ht x0) (hstart : subB (F x0) fr) 
    (hround : ∀ y, φ y → WC P x (F y) D (pre ++ Ht y) c (Exit.then (fun a w => ∃ z, φ z ∧ m z < m y ∧ At x (F z) D (pre ++ Ht z) a w) Q)) : WC P x fr D hp (.loop c) Q :=
  WC.loop F (fun y => pre ++ Ht y) (fun _ => D) φ m x0 h0 (fun a w h => by subst hhp; exact y4 h hstart) hround
theorem WCF.loopT {r : Option Nat} {α : Type} {c : Code} (pre : Hp) (F : α → Fr) (Ht : α → Hp) (φ : α → Prop) (m : α → Nat) (x0 : α) (h0 : φ x0) (hhp : hp = pre ++ Ht x0) (hstart : subB (F x0) fr) 
    (hround : ∀ y, φ y → WCF P r x (F y) D (pre ++ Ht y) c (Exit.then (fun a w => ∃ z, φ z ∧ m z < m y ∧ At x (F z) D (pre ++ Ht z) a w) Q)) : WCF P r x fr D hp (.loop c) Q :=
  WCF.loop F (fun y => pre ++ Ht y) (fun _ => D) φ m x0 h0 (fun a w h => by subst hhp; exact y4 h hstart) hround
theorem WP.againT {pre : Hp} {α : Type} {F : α → Fr} {Ht : α → Hp} {φ : α → Prop} {m : α → Nat} {k : Nat} (z : α) (hz : φ z) (hm : m z < k) (d hp2 : Hp) (hhp : hp = d ++ hp2) (heq : hp2 = pre ++ Ht z) (hf : subB (F z) fr) :
    WP x fr D hp .normal (Exit.then (fun a w => ∃ z, φ z ∧ m z < k ∧ At x (F z) D (pre ++ Ht z) a w) Q) := fun a w h => by
  refine ⟨z, hz, hm, ?_⟩;subst heq; subst hhp;exact yi h hf (fun e he => List.mem_append_right _ he) (fun hn => by rw [List.map_append] at hn; exact (List.nodup_append.1 hn).2.1)
theorem WC.hpEq {c : Code} {hp' : Hp} (h : hp = hp') (hw : WC P x fr D hp' c Q) : WC P x fr D hp c Q := by subst h; exact hw
end
end Go.W
namespace Go.W
section
variable {P : Program} {x : Cx} {fr : Fr} {D : Imm} {hp : Hp} {ty : TypeId}
theorem Yd.sliceArr {t e : TypeId} {m n : Nat} {p q : Operand} {b off h : Nat} (hu : P.underlying t = some (.array m e)) (hz : ∀ w, (sizeOf e).run P w = .ok n w) (hp' : opv fr p = some (.pointer (some ⟨b, off, none⟩))) (hq : opv fr q = some (nt h)) (h0 : h ≤ m) :
    Yd P x fr D hp (.slice t p none (some q) none) ty (.slice (some ⟨b, off, none⟩) h m) := fun act w _ _ _ _ hA _ => by
  simp only [execOp, Option.map_none, Option.map_some, hA.eval hp', hA.eval hq];have hi : (asIntOf (nt h)).run P w = .ok (IntKind.i64, (h : Int)) w := rfl;have hle : (0 : Int) ≤ (h : Int) ∧ (h : Int) ≤ (m : Int) := by omega
  have : (Instr.sliceAt t (.pointer (some ⟨b, off, none⟩)) none (some (nt h)) none).run P w = .ok (.slice (some ⟨b, off, none⟩) h m) w := by
    simp only [Instr.sliceAt, Instr.sliceBounds, Instr.sliceBound, Instr.sureAddr, Sem.run_bind, run_underlying hu, hi, Result.andThen_ok, Sem.run_pure, hz];simp only [Sem.run_ite, if_pos hle, Sem.run_pure, Result.andThen_ok, Sem.run_bind, hz];by_cases h0 : m = 0
    · subst h0; simp
    · simp [h0, Addr.add]
  simp [this]
end
end Go.W
namespace Go.W
section
variable {P : Program} {x : Cx} {fr : Fr} {D : Imm} {hp : Hp} {Q : Exit → Act → World → Prop} {ops : Array Oper} {w0 : World}
theorem WC.freezeN {c : Code} (k b : Nat) (o : Obj) (hw : x.w0 = w0) (hk : hp[k]? = some (b, o)) (hb : w0.heap.size ≤ b) (h : ∀ D', DExt w0 D D' → D' b = some o → WC P x fr D' (hp.eraseIdx k) c Q) : WC P x fr D hp c Q := by
  subst hw;exact WC.freezeK k hk fun hn => h _ ((DExt.refl _ _).add hn hb) (Imm.add_self _ _ _)
theorem WL.freezeN {l : List Oper} (k b : Nat) (o : Obj) (hw : x.w0 = w0) (hk : hp[k]? = some (b, o)) (hb : w0.heap.size ≤ b) (h : ∀ D', DExt w0 D D' → D' b = some o → WL P x ops fr D' (hp.eraseIdx k) l Q) : WL P x ops fr D hp l Q := by
  subst hw;exact WL.freezeK k hk fun hn => h _ ((DExt.refl _ _).add hn hb) (Imm.add_self _ _ _)
theorem WH.freezeN {D0 : Imm} {hp0 : Hp} {n : Nat} {listed : Array Bool} (k b : Nat) (o : Obj) (hw : x.w0 = w0) (hk : hp[k]? = some (b, o)) (hb : w0.heap.size ≤ b) (h : ∀ D', DExt w0 D D' → D' b = some o → WH P x ops D0 hp0 n listed fr D' (hp.eraseIdx k) Q) : WH P x ops D0 hp0 n listed fr D hp Q := by
  subst hw;exact WH.freezeK k hk fun hn => h _ ((DExt.refl _ _).add hn hb) (Imm.add_self _ _ _)
end
end Go.W
namespace Go.W
section
variable {P : Program} {x : Cx} {fr : Fr} {D : Imm} {hp : Hp} {ty : TypeId}
end
end Go.W
namespace Go.W
section
variable {P : Program} {x : Cx} {fr : Fr} {D : Imm} {hp : Hp} {Q : Exit → Act → World → Prop}
end
end Go.W
namespace Go.W
section
variable {P : Program} {x : Cx} {fr : Fr} {D : Imm} {hp : Hp} {ty : TypeId}
section
variable {t t' : TypeId} {ms : Array (String × TypeId)} {o : Operand}
include t t' ms o
theorem Yd.neqNil {tt : TypeId} {v : Value} (hu : P.underlying t = some (.interface ms)) (ho : opv fr o = some (.iface tt v)) :
    Yd P x fr D hp (.binOp .neq t o (.const .nilIface) t') ty (.bool true) := fun a w _ _ _ _ hA _ => by
  have h1 : ∀ d, (Op.equalIn (d + 1) t (.iface tt v) .nilIface).run P w = .ok false w := fun d => by
    simp only [Op.equalIn, Sem.run_bind, run_underlying hu, Result.andThen_ok]; rfl
  have h2 := h1 9999
  have h3 : (Go.binOp .neq t (.iface tt v) .nilIface).run P w = .ok (.bool true) w := by
    show Sem.run P (do let b ← Op.equalIn (9999 + 1) t (.iface tt v) .nilIface; pure (Value.bool (!b))) w = _;rw [Sem.run_bind, h2]; rfl
  have h5 : a.eval (.const .nilIface) = .nilIface := rfl;simp only [execOp, hA.eval ho, h5];have h4 : (eqGuard .neq t o (.const .nilIface) (.iface tt v) .nilIface).run P w = .ok () w := rfl;simp [h4, h3]
theorem Yd.neqNilNil (hu : P.underlying t = some (.interface ms)) (ho : opv fr o = some .nilIface) :
    Yd P x fr D hp (.binOp .neq t o (.const .nilIface) t') ty (.bool false) := fun a w _ _ _ _ hA _ => by
  have h1 : ∀ d, (Op.equalIn (d + 1) t .nilIface .nilIface).run P w = .ok true w := fun d => by
    simp only [Op.equalIn, Sem.run_bind, run_underlying hu, Result.andThen_ok]; rfl
  have h2 := h1 9999
  have h3 : (Go.binOp .neq t .nilIface .nilIface).run P w = .ok (.bool false) w := by
    show Sem.run P (do let b ← Op.equalIn (9999 + 1) t .nilIface .nilIface; pure (Value.bool (!b))) w = _;rw [Sem.run_bind, h2]; rfl
  have h5 : a.eval (.const .nilIface) = .nilIface := rfl;simp only [execOp, hA.eval ho, h5]
  have h4 : (eqGuard .neq t o (.const .nilIface) .nilIface .nilIface).run P w = .ok () w := by
    cases o <;> rfl
  simp [h4, h3]
end
theorem Yd.field {t t' : TypeId} {fs : Array Field} {f off : Nat} {p : Operand} {cs : List Value} {v : Value} (hu : P.underlying t = some (.struct fs)) (hf : (fs[f]?).map (fun fd => (fd.type, fd.offset)) = some (t', off)) (hg : ∀ w, (isAgg t').run P w = .ok false w) 
    (hp' : opv fr p = some (.agg cs.toArray)) (hv : cs[off]? = some v) : Yd P x fr D hp (.field t p f) ty v := fun a w _ _ _ _ hA _ => by
  simp only [execOp, hA.eval hp'];cases hfd : fs[f]? with
  | none => rw [hfd] at hf; cases hf
  | some fd =>
    rw [hfd] at hf;simp only [Option.map_some, Option.some.injEq, Prod.mk.injEq] at hf;obtain ⟨rfl, rfl⟩ := hf
    have : (Instr.field t (.agg cs.toArray) f).run P w = .ok v w := by
      simp [Instr.field, run_underlying hu, hfd, asAgg, part, hg, hv]
    simp [this]
theorem Yd.shlN {t t' : TypeId} {o p : Operand} {k : Nat} (ho : opv fr o = some (.int .i64 1)) (hp' : opv fr p = some (nt k)) (hk : k ≤ 40) : Yd P x fr D hp (.binOp .shl t o p t') ty (nt (2 ^ k)) :=
  Yd.shl ho hp' (by omega) (by
    have e : min ((k : Int)).toNat IntKind.i64.bits = k := by
      show min k 64 = k; omega
    have h2 : 2 ^ k ≤ 2 ^ 40 := Nat.pow_le_pow_right (by omega) hk;rw [e, Int.one_mul, show ((2 : Int) ^ k) = ((2 ^ k : Nat) : Int) by rw [Int.natCast_pow]; rfl];generalize 2 ^ k = u at h2;exact wr64 (by omega))
end
end Go.W
namespace Go.W
section
variable {P : Program} {x : Cx} {fr : Fr} {D : Imm} {hp : Hp} {Q : Exit → Act → World → Prop} {ops : Array Oper} {w0 : World}
theorem WA.freezeN {D0 : Imm} {hpx : Hp} {plan : List (Nat × Bool)} (k b : Nat) (o : Obj) (hw : x.w0 = w0) (hk : hp[k]? = some (b, o)) (hb : w0.heap.size ≤ b) (h : ∀ D', DExt w0 D D' → D' b = some o → WA P x ops D0 hpx plan fr D' (hp.eraseIdx k) Q) : WA P x ops D0 hpx plan fr D hp Q := by
  subst hw;intro a w hA;have h1 := (hA.i.freezeK k hk).1;exact h _ ((DExt.refl _ _).add h1 hb) (Imm.add_self _ _ _) a w ⟨hA.f, (hA.i.freezeK k hk).2⟩
end
end Go.W
namespace Go.W
section
variable {D : Imm} {hp : Hp}
theorem zpH (l : List Int) (rest : List Value) (i : Nat) (x : Int) (hi : i < l.length) : splice (l.map it ++ rest) (0 + i * 1) [it x] = (l.set i x).map it ++ rest := by
  unfold splice;rw [Nat.zero_add, Nat.mul_one, List.take_append_of_le_length (by simp; omega), List.drop_append_of_le_length (by simp; omega)];rw [List.set_eq_take_append_cons_drop, if_pos hi];simp
end
end Go.W
namespace Go.W
theorem SlL.take {D : Imm} {size : Nat} {rows : List (List Value)} {a : Option Addr} {n k : Nat} (h : SlL D size rows a n) (hk : k ≤ n) : SlL D size (rows.take k) a k :=
  ⟨by rw [List.length_take, ← h.len]; omega, fun i r hr => by
    rw [List.getElem?_take] at hr;split at hr
    · exact h.row i r hr
    · cases hr⟩
def u6 (a : Option Addr) (c k size : Nat) : Option Addr := if c = k then a else a.map (·.add (k * size))
theorem SlL.drop {D : Imm} {size : Nat} {rows : List (List Value)} {a : Option Addr} {n c k : Nat} (h : SlL D size rows a n) (hk : k ≤ n) (hc : n ≤ c) : SlL D size (rows.drop k) (u6 a c k size) (n - k) :=
  ⟨by rw [List.length_drop, ← h.len], fun i r hr => by
    rw [List.getElem?_drop] at hr
    have hlt : k + i < n := by
      rw [h.len];rcases Nat.lt_or_ge (k + i) rows.length with h1 | h1
      · exact h1
      · rw [List.getElem?_eq_none h1] at hr; cases hr
    obtain ⟨h1, h2⟩ := h.row (k + i) r hr;unfold u6;rw [if_neg (by omega)]
    have e : (a.map (·.add (k * size))) = some ⟨sb a, so a + k * size, none⟩ := by
      rw [h1]
      show some (Addr.add ⟨sb a, so a, none⟩ (k * size)) = some _;unfold Addr.add;by_cases h0 : k * size = 0
      · rw [if_pos h0, h0]; rfl
      · rw [if_neg h0]; rfl
    rw [e];refine ⟨rfl, ?_⟩
    show RdD D (sb a) (so a + k * size + i * size) r;rw [Nat.add_assoc, ← Nat.add_mul];exact h2⟩
section
variable {P : Program} {x : Cx} {fr : Fr} {D : Imm} {hp : Hp} {ty : TypeId}
end
end Go.W
namespace Go.W
def AllL (p : Nat → Prop) : List Nat → Prop
  | [] => True
  | i :: l => p i ∧ AllL p l
theorem AllL.mem {p : Nat → Prop} : ∀ {l : List Nat}, AllL p l → ∀ i, i ∈ l → p i
  | j :: l, h, i, hi => by
    rcases List.mem_cons.1 hi with rfl | hi
    · exact h.1
    · exact h.2.mem i hi
section
variable {P : Program} {x : Cx} {fr : Fr} {D : Imm} {hp : Hp} {Q : Exit → Act → World → Prop} {ops : Array Oper} {D0 : Imm} {hp0 : Hp} {n : Nat} {listed : Array Bool}
theorem WH.all (rs : List Nat) (hr : decide (Region.ready .any ops listed = rs) = true) (hne : rs ≠ []) (h : AllL (WHo P x ops D0 hp0 n listed fr D hp Q) rs) : WH P x ops D0 hp0 (n + 1) listed fr D hp Q := fun a w hA hI =>
  wpAnyH_all (of_decide_eq_true hr) hne fun i hi => h.mem i hi a w hA hI
theorem WH.ofFr (fr' : Fr) (hf : subB fr' fr) (h : WH P x ops D0 hp0 n listed fr' D hp Q) : WH P x ops D0 hp0 n listed fr D hp Q := fun a w hA => h a w (y4 hA hf)
theorem zlj {α : Type} (e : α) (A T : List α) : (e :: (A ++ T)).Perm (A ++ e :: T) := List.perm_middle.symm
theorem perm2 {α : Type} (e : α) (A B T : List α) : (e :: (A ++ (B ++ T))).Perm (A ++ (B ++ e :: T)) := by
  have h := zlj e (A ++ B) T
  rwa [List.append_assoc, List.append_assoc] at h
end
end Go.W
namespace Go.W
theorem Inv.none {D : Imm} {hp : Hp} {S : List Nat} {w0 w : World} (h : Inv D hp S w0 w) : Inv D [] S w0 w := h.sub (fun _ he => nomatch he) List.nodup_nil
end Go.W
namespace Go.W
variable {P : Program} {x : Cx} {fr : Fr} {D : Imm} {hp : Hp}
end Go.W
namespace Go.W
def AltF (w0 : World) (D : Imm) (own : Hp) (K : Value → Imm → Hp → Prop) (v : Value) (D' : Imm) (hp' : Hp) : Prop := ∃ hpc', DExt w0 D D' ∧ K v D' hpc' ∧ hp' = hpc' ++ own
section
variable {P : Program} {x : Cx} {fr : Fr} {D : Imm} {hp : Hp} {ty : TypeId} {Q : Exit → Act → World → Prop}
theorem Inv.turn {a b : Hp} {S : List Nat} {w0 w : World} (h : Inv D (a ++ b) S w0 w) : Inv D (b ++ a) S w0 w :=
  h.sub (fun e he => List.perm_append_comm.mem_iff.1 he) (((List.perm_append_comm (l₁ := a) (l₂ := b)).map Prod.fst).nodup_iff.1 h.nodup)
theorem SO.altersF {c : Call} {f : FuncId} {vals : List Value} {S1 : List Nat} {K : Value → Imm → Hp → Prop} (own hpc : Hp) (hhp : hp = hpc ++ own) 
    (hS : ∀ b, b ∈ S1 → b ∈ keys hpc) (hS' : ∀ b, b ∈ keys hpc → b ∈ S1) (he : Enters P x fr D hp c ty f vals)
    (hk : ∀ w, Inv D hpc S1 w w → wP P f vals w D S1 K) : SO P x fr D hp (.call c) ty Q (AltF x.w0 D own K) := fun a w dst pos af g next hA hn => by
  subst hhp
  exact SO.alters own hpc (fun e he => List.perm_append_comm.mem_iff.1 he) (fun h => ((List.perm_append_comm (l₁ := hpc) (l₂ := own)).map Prod.fst).nodup_iff.1 h) hS hS' he hk a w dst pos af g next hA (fun v D' hp' w' hK hI => by
    obtain ⟨hpc', h1, h2, rfl⟩ := hK;exact hn v D' (hpc' ++ own) w' ⟨hpc', h1, h2, rfl⟩ hI.turn)
end
end Go.W
namespace Go.W
theorem bnc {p : Prop} {a : Bool} (h : a = true) (k : a = false) : p := absurd (h.symm.trans k) (by simp)
abbrev st (l : List UInt8) : Value := .string ⟨l.toArray⟩
abbrev bt (b : UInt8) : Value := .int .u8 (b.toNat : Int)
theorem wk (l : List UInt8) : (⟨l.toArray⟩ : ByteArray).size = l.length := by simp [ByteArray.size]
theorem US (l : List UInt8) : (⟨l.toArray⟩ : ByteArray).toList = l := by rw [Lib.toList_data]
theorem zd5 (a b : List UInt8) : (⟨a.toArray⟩ : ByteArray) ++ ⟨b.toArray⟩ = ⟨(a ++ b).toArray⟩ := by
  apply ByteArray.ext;simp [ByteArray.data_append]
section
variable {P : Program} {x : Cx} {fr : Fr} {D : Imm} {hp : Hp} {ty : TypeId} {Q : Exit → Act → World → Prop}
theorem Yd.binS {op : BinOp} {t t' : TypeId} {o p : Operand} {a b : List UInt8} {v : Value} (ho : opv fr o = some (st a)) (hp' : opv fr p = some (st b)) (hv : ∀ w, (Op.stringOp op ⟨a.toArray⟩ ⟨b.toArray⟩).run P w = .ok v w) :
    Yd P x fr D hp (.binOp op t o p t') ty v := fun act w _ _ _ _ hA _ => by
  simp only [execOp, hA.eval ho, hA.eval hp'];have hg : (eqGuard op t o p (st a) (st b)).run P w = .ok () w := by unfold eqGuard; split <;> rfl
  have hb : (Go.binOp op t (st a) (st b)).run P w = .ok v w := by
    have : Go.binOp op t (st a) (st b) = Op.stringOp op ⟨a.toArray⟩ ⟨b.toArray⟩ := by cases op <;> rfl
    rw [this]; exact hv w
  simp [hg, hb]
section
variable {t t' : TypeId} {o p : Operand} {a b : List UInt8} (ho : opv fr o = some (st a)) (hp' : opv fr p = some (st b))
include t t' o p a b ho hp'
theorem Yd.addS (hl : a.length + b.length ≤ 2 ^ 40) : Yd P x fr D hp (.binOp .add t o p t') ty (st (a ++ b)) :=
  .binS ho hp' fun w => by
    unfold Op.stringOp;simp only [wk];rw [if_neg (by have : IntKind.i64.max = 9223372036854775807 := rfl; omega), zd5];rfl
theorem Yd.eqS' : Yd P x fr D hp (.binOp .eql t o p t') ty (.bool (decide (a = b))) :=
  .binS ho hp' fun w => by
    have : (a == b) = decide (a = b) := by rw [Bool.eq_iff_iff]; simp
    simp only [Op.stringOp, US, this]; rfl
end
theorem Yd.assertNo {o : Operand} {xt t t' : TypeId} {d : TypeDesc} {v z : Value} (hu : P.underlying t = some d) (hd : ∀ ms, d ≠ .interface ms) (hz : ∀ w, (zeroValue t).run P w = .ok z w) (ho : opv fr o = some (.iface t' v)) (hne : Nat.beq t' t = false) :
    Yd P x fr D hp (.typeAssert o xt t true) ty (.tuple #[z, .bool false]) := fun a w _ _ _ _ hA _ => by
  simp only [execOp, hA.eval ho];have hn : ¬ t' = t := fun e => by subst e; simp at hne
  have : (Instr.typeAssert (.iface t' v) xt t true).run P w = .ok (.tuple #[z, .bool false]) w := by
    unfold Instr.typeAssert;simp only [Sem.run_bind, run_underlying hu, Result.andThen_ok];cases d <;> simp [hn, hz] at hd ⊢
  simp [this]
end
end Go.W
namespace Go.W
def WpN (f : FuncId) (P : Program) (c : Code) (Q : Exit → Act → World → Prop) (a : Act) (w : World) : Prop :=
  ∀ (b : Frame) (k : List Item) (cs : List Frame), b.roundOf = none → b.fn = f → ∃ e a' w', Q e a' w' ∧ ArrivesIn (Machine.fenced P Fence.wide) P (lone (b.atR a (.code c :: k)) cs w) b k cs e a' w'
def WCn (f : FuncId) (P : Program) (x : Cx) (fr : Fr) (D : Imm) (hp : Hp) (c : Code) (Q : Exit → Act → World → Prop) : Prop := ∀ a w, At x fr D hp a w → WpN f P c Q a w
theorem sIn {P : Program} {m m' : Machine} (h : step P m = .next m') : StepsIn (Machine.fenced P Fence.wide) P m m' := stepsIn_wide.2 (.one h)
section
variable {f : FuncId} {P : Program} {x : Cx} {fr : Fr} {D : Imm} {hp : Hp} {Q : Exit → Act → World → Prop}
theorem WCn.of {c : Code} (h : WC P x fr D hp c Q) : WCn f P x fr D hp c Q := fun a w hA b k cs hro _ => (wpIn_wide (n := 0)).2 (h a w hA) b k cs hro trivial (fun _ h => by cases h)
theorem WCn.seq {c d : Code} (h : WCn f P x fr D hp c (Exit.then (WpN f P d Q) Q)) : WCn f P x fr D hp (.seq c d) Q := fun a w hA b k cs hro hf => by
  obtain ⟨e, a₁, w₁, hq, harr⟩ := h a w hA b (.code d :: k) cs hro hf;have h0 : StepsIn (Machine.fenced P Fence.wide) P (lone (b.atR a (.code (.seq c d) :: k)) cs w) (lone (b.atR a (.code c :: .code d :: k)) cs w) := sIn stepR_seq;cases e with
  | normal =>
    obtain ⟨e', a₂, w₂, hq', harr'⟩ := hq b k cs hro hf;exact ⟨e', a₂, w₂, hq', .of_steps (h0.trans harr) harr'⟩
  | exit id =>
    have hx : exitTo id (.code d :: k) = exitTo id k := by simp [exitTo]
    exact ⟨.exit id, a₁, w₁, hq, fun k' hk => h0.trans (harr.1 k' (by rw [hx]; exact hk)), fun hr => by rw [hro] at hr; cases hr⟩
  | goto l => exact ⟨.goto l, a₁, w₁, hq, fun k' hk => h0.trans (harr.1 k' (by simpa [gotoIn] using hk)), fun hr => by rw [hro] at hr; cases hr⟩
  | ret => exact ⟨_, a₁, w₁, hq, .of_steps h0 harr⟩
  | panic ch => exact ⟨_, a₁, w₁, hq, .of_steps h0 harr⟩
  | outgrown => exact ⟨_, a₁, w₁, hq, .of_steps h0 harr⟩
theorem WCn.block {id : Nat} {c : Code} (h : WCn f P x fr D hp c (Exit.inBlock id Q)) : WCn f P x fr D hp (.block id c) Q := fun a w hA b k cs hro hf => by
  obtain ⟨e, a₁, w₁, hq, harr⟩ := h a w hA b (.inBlock id :: k) cs hro hf;have h0 : StepsIn (Machine.fenced P Fence.wide) P (lone (b.atR a (.code (.block id c) :: k)) cs w) (lone (b.atR a (.code c :: .inBlock id :: k)) cs w) := sIn stepR_block;cases e with
  | normal => exact ⟨.normal, a₁, w₁, hq, h0.trans (StepsIn.trans harr (sIn stepR_inBlock))⟩
  | exit id' =>
    by_cases hi : id' = id
    · subst hi
      have hq' : Q .normal a₁ w₁ := by
        have : (if id' = id' then Q .normal a₁ w₁ else Q (.exit id') a₁ w₁) := hq
        rwa [if_pos rfl] at this
      exact ⟨.normal, a₁, w₁, hq', h0.trans (harr.1 k (by simp [exitTo]))⟩
    · have hq' : Q (.exit id') a₁ w₁ := by
        have : (if id' = id then Q .normal a₁ w₁ else Q (.exit id') a₁ w₁) := hq
        rwa [if_neg hi] at this
      have hx : exitTo id' (.inBlock id :: k) = exitTo id' k := by simp [exitTo]; intro e; exact absurd e.symm hi
      exact ⟨.exit id', a₁, w₁, hq', fun k' hk => h0.trans (harr.1 k' (by rw [hx]; exact hk)), fun hr => by rw [hro] at hr; cases hr⟩
  | goto l => exact ⟨.goto l, a₁, w₁, hq, fun k' hk => h0.trans (harr.1 k' (by simpa [gotoIn] using hk)), fun hr => by rw [hro] at hr; cases hr⟩
  | ret => exact ⟨_, a₁, w₁, hq, .of_steps h0 harr⟩
  | panic ch => exact ⟨_, a₁, w₁, hq, .of_steps h0 harr⟩
  | outgrown => exact ⟨_, a₁, w₁, hq, .of_steps h0 harr⟩
theorem WCn.ofFr {c : Code} (fr' : Fr) (hf : subB fr' fr) (h : WCn f P x fr' D hp c Q) : WCn f P x fr D hp c Q := fun a w hA => h a w ⟨hA.f.weaken (x8 hf), hA.i⟩
theorem WP.thenCn {d : Code} (h : WCn f P x fr D hp d Q) : WP x fr D hp .normal (Exit.then (WpN f P d Q) Q) := h
end
def xT (P : Program) (l : Nat) (R : Ending → World → Prop) : Exit → Act → World → Prop
  | .normal, _, w => ∃ v w', (Instr.endRound l none).run P w = .ok v w' ∧ R (.returned v) w'
  | .panic ch, a, w => a.defers = [] ∧ R (.panicked ch) w
  | _, _, _ => False
section
variable {f : FuncId} {P : Program} {x : Cx} {fr : Fr} {D : Imm} {hp : Hp} {Q : Exit → Act → World → Prop}
end
end Go.W
namespace Go.W
section
variable {P : Program} {x : Cx} {fr : Fr} {D : Imm} {hp : Hp} {Q : Exit → Act → World → Prop} {ty : TypeId} {rest : List Oper} {ops : Array Oper} {pos : String} {af : Array Edge}
theorem WL.deferA {f : FuncId} {A : List Operand} {va : List Value} {ts : Array TypeId} (ha : opvs fr A = some va) 
    (h : WL P { x with ds := { target := .fn (.func f) #[], args := va.toArray } :: x.ds } ops fr D hp rest Q) : WL P x ops fr D hp (⟨none, .defer ⟨.value (.func f), A.toArray, ts⟩, ty, pos, af, none⟩ :: rest) Q :=
  fun a w hA => wpList_plain rfl fun K hK => by
    unfold Oper.wp;have h1 := hA.f.evals A va ha
    have : (execOp a.eval ⟨none, .defer ⟨.value (.func f), A.toArray, ts⟩, ty, pos, af, none⟩).run P w = .ok (.defer { target := .fn (.func f) #[], args := va.toArray }) w := by
      simp [execOp, resolve, Act.eval, Deferred.ofValue, h1]
    rw [this, Oper.upon_defer];exact hK _ _ (h _ _ ⟨⟨hA.f.size, by show _ :: a.defers = _; rw [hA.f.defers], hA.f.slot⟩, hA.i⟩)
theorem WP.endDA {e : Exit} {fn : Func} {R : Ending → World → Prop} {f : FuncId} {va : List Value} (rs : List ResultVar) (vs : List Value) (he : ZD e = true) (hd : x.ds = [{ target := .fn (.func f) #[], args := va.toArray }]) (hc : ∀ args w, (callFunc f args).run P w = .ok (.enter f args) w)
    (hi : ∀ w, Inv D hp x.S x.w0 w → Idle P f va w) (hr : fn.results = rs.toArray) (h : RVs P x fr D hp rs vs)
    (hR : ∀ w, Inv D hp x.S x.w0 w → R (.returned (retV vs)) w) : WP x fr D hp e (bodyPostD P fn R) := fun a w hA => by
  have key : Leaves P fn a.tmps R a.defers .returning w := by
    rw [hA.f.defers, hd];refine leaves_cons (f := f) (args := va.toArray) (by simp) (by simp [invoke, hc]) ((hi w hA.i).mono fun e' u' w' h' => ?_);obtain ⟨⟨v, rfl⟩, rfl, hk⟩ := h';have hI := hA.i.call hk;exact ⟨_, xh hr hA.f hI h, hR w' hI⟩
  cases e <;> first | exact key | cases he
theorem WP.panicDA {fn : Func} {R : Ending → World → Prop} {f : FuncId} {va : List Value} {v : Value} {k b : Nat} {o o' : Obj} (rs : List ResultVar) (vs : List Value) (hd : x.ds = [{ target := .fn (.func f) #[], args := va.toArray }]) (hc : ∀ args w, (callFunc f args).run P w = .ok (.enter f args) w)
    (hk : hp[k]? = some (b, o)) (hi : ∀ w, Inv D hp x.S x.w0 w → uw P f va v b o' w) (hr : fn.results = rs.toArray) (h : RVs P x fr D (hp.set k (b, o')) rs vs)
    (hR : ∀ w, Inv D (hp.set k (b, o')) x.S x.w0 w → R (.returned (retV vs)) w) : WP x fr D hp (.panic [{ v, recovered := false }]) (bodyPostD P fn R) := fun a w hA => by
  show Leaves P fn a.tmps R a.defers (.panicking [{ v, recovered := false }]) w;rw [hA.f.defers, hd];refine leaves_cons (f := f) (args := va.toArray) (by simp) (by simp [invoke, hc]) ((hi w hA.i).mono fun e' u' w' h' => ?_);obtain ⟨⟨v', rfl⟩, rfl, hkp, hb⟩ := h';have hI := hA.i.mut hk hkp hb;exact ⟨_, xh hr hA.f hI h, hR w' hI⟩
theorem WC.start {c : Code} {a : Act} {w : World} (hA : At x fr D hp a w) (h : WC P x fr D hp c Q) : c.wp P Q a w := h a w hA
def zrb (tmps : Array Value) : Fr → Prop
  | [] => True
  | (i, v) :: r => tmps[i]? = some v ∧ zrb tmps r
theorem zmH {tmps : Array Value} : ∀ {fr : Fr}, zrb tmps fr → ∀ t v, fr.get t = some v → tmps[t]? = some v
  | [], _, t, v, h => by simp [Fr.get] at h
  | (i, u) :: r, h, t, v, ht => by
    cases hb : Nat.beq i t with
    | true =>
      have := Nat.eq_of_beq_eq_true hb;subst this;simp only [Fr.get, hb, cond_true] at ht;cases ht; exact h.1
    | false =>
      simp only [Fr.get, hb, cond_false] at ht;exact zmH h.2 t v ht
theorem Keep.drewN (w : World) (n : Nat) : Keep [] w (w.drewN n) := ⟨rfl, rfl, rfl, Nat.le_refl _, fun _ _ _ => rfl, fun _ _ => rfl⟩
theorem Keep.of_heap {w w' : World} (h1 : w'.os = w.os) (h2 : w'.tape = w.tape) (h3 : w'.output = w.output) (hs : w.heap.size ≤ w'.heap.size) (h : ∀ k, k < w.heap.size → w'.heap[k]? = w.heap[k]?) : Keep [] w w' :=
  ⟨h1, h2, h3, hs, fun k hk _ => h k hk, fun a ha => xZ (h a.block ha)⟩
theorem Keep.grow (w : World) (n : Nat) (os : Array Obj) : Keep [] w (Go.Sort.grow (w.drewN n) os) := .of_heap rfl rfl rfl (by show w.heap.size ≤ (w.heap ++ os).size; simp) fun k hk => by
  show (w.heap ++ os)[k]? = _;rw [Array.getElem?_append_left hk]
end
end Go.W
namespace Go.W
section
variable {P : Program} {x : Cx} {fr : Fr} {D : Imm} {hp : Hp} {ty : TypeId} {Q : Exit → Act → World → Prop}
theorem Yd.indexV {t e : TypeId} {n k : Nat} {p q : Operand} {cs : List Value} {v : Value} (hu : P.underlying t = some (.array n e)) (hg : ∀ w, (isAgg e).run P w = .ok false w) (hz : ∀ w, (sizeOf e).run P w = .ok 1 w) 
    (hp' : opv fr p = some (.agg cs.toArray)) (hq : opv fr q = some (nt k)) (hk : k < n) (hv : cs[k]? = some v) : Yd P x fr D hp (.index t p q) ty v := fun act w _ _ _ _ hA _ => by
  simp only [execOp, hA.eval hp', hA.eval hq];have h1 : (asIntOf (nt k)).run P w = .ok (IntKind.i64, (k : Int)) w := rfl
  have : (Instr.index t (.agg cs.toArray) (nt k)).run P w = .ok v w := by
    simp only [Instr.index, Sem.run_bind, h1, Result.andThen_ok, run_underlying hu];rw [if_pos (by omega)];simp [part, hg, hz, hv]
  simp [this]
theorem SO.ofYd {op : Op} {v : Value} (hy : Yd P x fr D hp op ty v) : SO P x fr D hp op ty Q (Wo D hp v) := fun a w dst pos af g next hA hn => by
  unfold Oper.wp;rw [hy a w _ _ _ _ hA.f hA.i, Oper.upon_value];exact hn _ _ _ _ ⟨rfl, rfl, rfl⟩ hA.i
end
end Go.W
namespace Go.W
section
variable {P : Program} {x : Cx} {fr : Fr} {D : Imm} {hp : Hp} {ty : TypeId} {Q : Exit → Act → World → Prop}
def numb : Nat → List Value → List (Nat × Value)
  | _, [] => []
  | k, v :: r => (k, v) :: numb (k + 1) r
def oneC : List Value → Bool
  | [] => true
  | .agg _ :: _ => false
  | _ :: r => oneC r
theorem Up {v : Value} {r : List Value} (h : oneC (v :: r) = true) : v.cells = #[v] ∧ oneC r = true := by
  cases v <;> first | (exact ⟨rfl, h⟩) | (cases h)
theorem Zu : ∀ (vs pre post : List Value), oneC vs = true → post.length = vs.length → Instr.fill (fun i => some (i * 1, 1)) (pre ++ post).toArray (numb pre.length vs) = some (pre ++ vs).toArray
  | [], pre, post, _, h => by
    have : post = [] := List.length_eq_zero_iff.1 h
    subst this; rfl
  | v :: r, pre, [], _, h => by simp at h
  | v :: r, pre, p :: post, h1, h2 => by
    obtain ⟨hc, h3⟩ := Up h1;have ih := Zu r (pre ++ [v]) post h3 (by simpa using h2);simp only [List.length_append, List.length_cons, List.length_nil, List.append_assoc, List.cons_append, List.nil_append] at ih;rw [numb, Instr.fill, hc];simp only [Nat.mul_one] at ih ⊢;rw [if_neg (by simp)]
    have e : (#[v].zipIdx.foldl (fun cs (x : Value × Nat) => cs.setIfInBounds (pre.length + x.2) x.1) (pre ++ p :: post).toArray) = (pre ++ v :: post).toArray := by
      simp
    exact (congrArg (fun a => Instr.fill (fun i => some (i, 1)) a (numb (pre.length + 1) r)) e).trans ih
theorem SO.buildSlice1 {t e : TypeId} {len : Nat} {z : Value} {zs vs : List Value} {ps : List (Nat × Operand)} 
    (hu : P.underlying t = some (.slice e)) (hz : ∀ w, (sizeOf e).run P w = .ok 1 w) (hzero : ∀ w, (zeroValue e).run P w = .ok z w) (hzs : z.cells = zs.toArray) (hl0 : Nat.beq (len * 1) 0 = false) (hl : Nat.ble (len * 1) (2 ^ 24) = true)
    (hp' : opps fr ps = some (numb 0 vs)) (h1 : oneC vs = true) (hn : Nat.beq vs.length len = true) :
    SO P x fr D hp (.buildSlice t len ps.toArray) ty Q (NewS x D hp vs e len) :=
  SO.buildSlice hu hz hzero hzs hl0 hl hp' (by
    have := Zu vs [] (xI zs (len * 1)) h1 (by rw [yz, Nat.eq_of_beq_eq_true hn]; omega);simpa using this)
end
end Go.W
theorem Go.W.WC.drop {P : Go.Program} {x : Go.W.Cx} {fr : Go.W.Fr} {D : Go.W.Imm} {hp : Go.W.Hp} {Q : Go.Exit → Go.Act → Go.World → Prop} {c : Go.Code} (k : Nat) (h : Go.W.WC P x fr D (hp.drop k) c Q) : Go.W.WC P x fr D hp c Q := fun a w hA => h a w ⟨hA.f, hA.i.drop k⟩
namespace Go.W
section
variable {P : Program} {x : Cx} {fr : Fr} {D : Imm} {hp : Hp} {ty : TypeId} {Q : Exit → Act → World → Prop}
end
end Go.W
namespace Go.W
section
variable {P : Program} {x : Cx} {fr : Fr} {D : Imm} {hp : Hp} {ty : TypeId} {Q : Exit → Act → World → Prop}
theorem SO.newsF {c : Call} {f : FuncId} {vals : List Value} {K : Value → Imm → Hp → Prop} (he : Enters P x fr D hp c ty f vals) 
    (hk : ∀ w, Inv D hp x.S x.w0 w → News P f vals w D K) : SO P x fr D hp (.call c) ty Q (AltF x.w0 D hp K) := fun a w dst pos af g next hA hn => by
  unfold Oper.wp;rw [he a w dst pos af g hA.f hA.i, Oper.upon_enter];refine (hk w hA.i).mono fun e w' ⟨v, D', hpc', h, hD, hI', hK⟩ => ?_;rw [h];have hI : Inv D (hp ++ []) x.S x.w0 w := by rw [List.append_nil]; exact hA.i
  refine hn _ _ _ _ ⟨hpc', ⟨hD.old, fun b hb => hD.new b (Nat.lt_of_lt_of_le hb hA.i.keep.size)⟩, hK, rfl⟩ (hI.unframeN (hpc := []) (S1 := []) (fun b hb => by cases hb) (fun b hb => ?_) hD hI').turn;obtain ⟨o, ho⟩ := yQ hb;rcases hI'.may b o ho with h1 | h1
  · cases h1
  · exact .inr h1
end
section
variable {P : Program} {l : Nat} {R : Ending → World → Prop}
include P l R
theorem noLets.roundP : ¬ LetsOut (xT P l R) := fun ⟨_, _, h⟩ => h
theorem zm.roundP : zm (xT P l R) := fun c d v a w hq => by
  cases d <;> exact hq
end
theorem subS {a b : Hp} (h : List.Sublist a b) : (∀ e, e ∈ a → e ∈ b) ∧ ((keys b).Nodup → (keys a).Nodup) := ⟨fun _ he => h.subset he, fun hn => hn.sublist (h.map Prod.fst)⟩
theorem SlL.nil (D : Imm) (size : Nat) : SlL D size [] none 0 := ⟨rfl, fun _ _ h => by simp at h⟩
theorem wr8 {n : Int} (h : 0 ≤ n ∧ n ≤ 255) : IntKind.u8.wrap n = n := by
  simp [IntKind.wrap, IntKind.bits, IntKind.signed];omega
end Go.W
namespace Go.W
section
variable {P : Program} {x : Cx} {fr : Fr} {D : Imm} {hp : Hp} {ty : TypeId} {Q : Exit → Act → World → Prop}
end
end Go.W
namespace Go.W
section
variable {P : Program} {x : Cx} {fr : Fr} {D : Imm} {hp : Hp} {Q : Exit → Act → World → Prop} {ty : TypeId}
def yl (P : Program) (f : FuncId) (vals : List Value) (w : World) (D : Imm) (S : List Nat) (K : Value → Imm → Hp → Prop) (C : List PanicEntry → Imm → Hp → Prop) : Prop :=
  Calls P f vals.toArray w fun e w' => ∃ D' hp', DExt w D D' ∧ Inv D' hp' S w w' ∧ ((∃ v, e = .returned v ∧ K v D' hp') ∨ ∃ ch, e = .panicked ch ∧ C ch D' hp')
theorem SO.altersV {c : Call} {f : FuncId} {vals : List Value} {S1 : List Nat} {K : Value → Imm → Hp → Prop} {C : List PanicEntry → Imm → Hp → Prop} (own hpc : Hp) (hhp : ∀ e, e ∈ own ++ hpc → e ∈ hp) (hnd : (keys hp).Nodup → (keys (own ++ hpc)).Nodup) 
    (hS : ∀ b, b ∈ S1 → b ∈ keys hpc) (hS' : ∀ b, b ∈ keys hpc → b ∈ S1) (he : Enters P x fr D hp c ty f vals)
    (hk : ∀ w, x.w0.heap.size ≤ w.heap.size → Inv D hpc S1 w w → yl P f vals w D S1 K C)
    (hpan : ∀ ch D' h', C ch D' h' → DExt x.w0 D D' → WP x fr D' (own ++ h') (.panic ch) Q) : SO P x fr D hp (.call c) ty Q (AltK x.w0 D own K) := fun a w dst pos af g next hA hn => by
  unfold Oper.wp;rw [he a w dst pos af g hA.f hA.i, Oper.upon_enter];have hI := hA.i.sub hhp (hnd hA.i.nodup);refine (hk w hA.i.keep.size (hI.frame hS')).mono fun e w' ⟨D', hpc', hD, hI', hK⟩ => ?_;have hX : DExt x.w0 D D' := ⟨hD.old, fun b hb => hD.new b (Nat.lt_of_lt_of_le hb hA.i.keep.size)⟩
  have hIu : Inv D' (own ++ hpc') x.S x.w0 w' := hI.unframeN hS (fun b hb => by
    obtain ⟨o, ho⟩ := yQ hb;exact hI'.may b o ho) hD hI'
  rcases hK with ⟨v, rfl, hK⟩ | ⟨ch, rfl, hC⟩
  · exact hn _ _ _ _ ⟨hpc', hX, hK, rfl⟩ hIu
  · exact hpan ch D' hpc' hC hX a w' ⟨hA.f, hIu⟩
end
end Go.W
namespace Go.W
section
variable {α : Type} [DecidableEq α] {kv : α → Value} {P : Program} {x : Cx} {fr : Fr} {D : Imm} {hp : Hp} {ty : TypeId} {Q : Exit → Act → World → Prop} {t k e : TypeId} {es : Array MapEntry} {clock b j : Nat} {F : α → Option Int}
end
end Go.W
namespace Go.W
section
variable {P : Program} {x : Cx} {fr : Fr} {D : Imm} {hp : Hp} {ty : TypeId} {Q : Exit → Act → World → Prop}
theorem Yd.mulW {t t' : TypeId} {o p : Operand} {k : IntKind} {i j : Int} (ho : opv fr o = some (.int k i)) (hp' : opv fr p = some (.int k j)) : Yd P x fr D hp (.binOp .mul t o p t') ty (.int k (k.wrap (i * j))) := .bin ho hp' fun w => by
  simp [Go.binOp, Op.intArith]
theorem Inv.perm2 {hp' : Hp} {S : List Nat} {w0 w : World} (h : Inv D hp S w0 w) (hs : hp.Perm hp') : Inv D hp' S w0 w :=
  h.sub (fun e he => hs.mem_iff.2 he) ((hs.map Prod.fst).nodup_iff.1 h.nodup)
theorem zcM {a b : Hp} (h : a.Perm b) : (∀ e, e ∈ b → e ∈ a) ∧ ((keys a).Nodup → (keys b).Nodup) := ⟨fun _ he => h.mem_iff.2 he, fun hn => (h.map Prod.fst).nodup_iff.1 hn⟩
section
variable {a : Act} {w : World} {fr' : Fr} {hp' : Hp}
include a w fr' hp'
theorem v6 (hA : At x fr D hp a w) (hf : subB fr' fr) (hs : hp.Perm hp') : At x fr' D hp' a w :=
  ⟨hA.f.weaken (x8 hf), hA.i.perm2 hs⟩
theorem zL (k : Nat) (hA : At x fr D hp a w) (hf : subB fr' fr) (hs : (hp.drop k).Perm hp') : At x fr' D hp' a w :=
  ⟨hA.f.weaken (x8 hf), (hA.i.drop k).perm2 hs⟩
theorem yM {D1 : Imm} (k : Nat) (hA : At x fr D hp a w) (hf : subB fr' fr) (hs : (hp.drop k).Perm hp') (hD : ∀ b o, D1 b = some o → D b = some o) : At x fr' D1 hp' a w :=
  ⟨hA.f.weaken (x8 hf), ((hA.i.drop k).perm2 hs).shrink hD⟩
end
end
end Go.W
namespace Go.W
section
variable {P : Program} {x : Cx} {fr : Fr} {D : Imm} {hp : Hp} {Q : Exit → Act → World → Prop} {ops : Array Oper} {plan : List (Nat × Bool)}
def zO (ops : Array Oper) (plan : List (Nat × Bool)) (Q : Exit → Act → World → Prop) : Prop := ∀ (i : Nat) (o : Oper) v c a w, (i, true) ∈ plan → ops[i]? = some o → Q (.panic c) (Act.put a o.dst v) w → Q (.panic c) a w
theorem zO.then {K : Act → World → Prop} (h : zO ops plan Q) : zO ops plan (Exit.then K Q) := fun i o v c a w hm ho hq => h i o v c a w hm ho hq
theorem zO.blk {id : Nat} (h : zO ops plan Q) : zO ops plan (Exit.inBlock id Q) := fun i o v c a w hm ho hq => h i o v c a w hm ho hq
theorem zO.sc (h : zO ops plan Q) : zO ops plan (Exit.noGoto Q) := fun i o v c a w hm ho hq => h i o v c a w hm ho hq
def zaN (ops : Array Oper) (plan : List (Nat × Bool)) (fn : Func) : Bool :=
  plan.all fun y => !y.2 || (match ops[y.1]? with | some o => (match o.dst with | some d => !(xr fn).contains d | none => true) | none => true)
theorem XL {fn : Func} (h : zaN ops plan fn = true) {i : Nat} {o : Oper} (hm : (i, true) ∈ plan) (ho : ops[i]? = some o) {d : Nat} (hd : o.dst = some d) : d ∉ xr fn := by
  have h1 := List.all_eq_true.1 h _ hm;simp only [Bool.not_true, Bool.false_or, ho, hd] at h1;simpa using h1
section
variable {fn : Func} {R : Ending → World → Prop} (h : zaN ops plan fn = true)
include fn R h
theorem zO.bodyD : zO ops plan (bodyPostD P fn R) := fun i o v c a w hm ho hq => by
  cases hd : o.dst with
  | none => rw [hd] at hq; exact hq
  | some d => rw [hd] at hq; exact uF (XL h hm ho hd) _ _ _ hq
theorem zO.bodyM : zO ops plan (bodyPostM Fence.wide 0 P fn R) := fun i o v c a w hm ho hq => by
  cases hd : o.dst with
  | none => rw [hd] at hq; exact hq
  | some d => rw [hd] at hq; exact vQ (XL h hm ho hd) _ _ _ hq
end
theorem jq {S : World → Prop} (hs : Region.noSelect ops = true) :
    ∀ (plan : List (Nat × Bool)) (listed : Array Bool) (a : Act) (w : World), zO ops plan Q → ui .any ops plan listed = true → S w → jr P ops Q S plan a w → wpAnyH P .any ops Q S plan.length listed a w := by
  intro plan
  induction plan with
  | nil => intro listed a w _ hB _ h; exact ⟨by simpa [ui] using hB, h⟩
  | cons e r ih =>
    obtain ⟨i, y⟩ := e;intro listed a w hQ hB hS h;have hQ' : zO ops r Q := fun i o v c a w hm ho hq => hQ i o v c a w (List.mem_cons_of_mem _ hm) ho hq;cases y with
    | true =>
      simp only [ui, Bool.and_eq_true] at hB;obtain ⟨⟨hr, hf⟩, hB'⟩ := hB;obtain ⟨o, v, ho, hy, hw⟩ := h;exact wpAnyH_take ho hs hf hr (fun c a w => hQ i o v c a w List.mem_cons_self ho) hy hS (ih _ _ _ hQ' hB' hS hw)
    | false =>
      simp only [ui, Bool.and_eq_true, decide_eq_true_eq] at hB;obtain ⟨hr, hB'⟩ := hB;obtain ⟨o, ho, hw⟩ := h;refine wpAnyH_all hr (by simp) fun j hj => ?_;have : j = i := by simpa using hj
      subst this;unfold wpOp;simp only [ho];split
      · rename_i hwant
        rw [if_pos hwant] at hw;exact .inl (Oper.wp_mono (fun a' w' h' => ⟨h'.1, ih _ _ _ hQ' hB' h'.1 h'.2⟩) hw)
      · rename_i hwant
        rw [if_neg hwant] at hw;exact ⟨hS, ih _ _ _ hQ' hB' hS hw⟩
end
end Go.W
