import Derived.Test.YtejgofaeafphjaaGreatDoorXA
import Derived.RangeFuncRecord
import Derived.RangeFuncCalls
import Derived.OrdersIn
import Derived.Scope
set_option linter.all false
set_option maxRecDepth 100000
set_option maxHeartbeats 4000000
namespace Go.W
abbrev Fx (r : Option Nat) : Fence := { Fence.wide with round := r }
theorem zbr {P : Program} {r : Option Nat} {n : Nat} {o : Oper} {a : Act} {next : Act → World → Prop} {Q : Exit → Act → World → Prop} {res : Result Next} (h : o.upon P a next Q res) : o.uponIn (Fx r) n P a next Q res := by
  cases res with
  | ok y w =>
    cases y <;> simp only [Oper.upon, Oper.uponIn] at h ⊢ <;> first | exact h | skip
    case enter f args => exact ⟨fun e => (by cases e), (callsIn_wide (n := n - 1)).2 h⟩
    case row s args => exact ⟨fun e => (by cases e), fun c cs _ => let ⟨v, w', h1, h2⟩ := h c cs; ⟨v, w', h1, stepsIn_wide.2 h2⟩⟩
  | halt y w => cases y <;> simp only [Oper.upon, Oper.uponIn] at h ⊢ <;> exact h
theorem X5 {P : Program} {r : Option Nat} {n : Nat} {o : Oper} {a : Act} {w : World} {next : Act → World → Prop} {Q : Exit → Act → World → Prop} (hd : ∀ c, o.op ≠ .defer c) (h : Oper.wp P o a w next Q) : Oper.wpIn (Fx r) n P o a w next Q := by
  refine ⟨fun _ _ => trivial, ?_⟩;rw [Oper.semAt_eq _ _ _ hd];exact zbr h
section
variable {P : Program} {x : Cx} {fr : Fr} {D : Imm} {hp : Hp} {ty : TypeId} {Q : Exit → Act → World → Prop} {ops : Array Oper} {rest : List Oper} {r : Option Nat} {l : Nat}
  {d : Tmp} {dst : Option Tmp} {op : Op} {pos : String} {af : Array Edge}
def WLF (P : Program) (r : Option Nat) (x : Cx) (ops : Array Oper) (fr : Fr) (D : Imm) (hp : Hp) (l : List Oper) (Q : Exit → Act → World → Prop) : Prop := ∀ a w, At x fr D hp a w → wpListIn (Fx r) 0 P ops Q l a w
def WCF (P : Program) (r : Option Nat) (x : Cx) (fr : Fr) (D : Imm) (hp : Hp) (c : Code) (Q : Exit → Act → World → Prop) : Prop := ∀ a w, At x fr D hp a w → c.wpIn (Fx r) 0 P Q a w
theorem WC.ofF {c : Code} (h : WCF P none x fr D hp c Q) : WC P x fr D hp c Q := fun a w hA => (wpIn_wide (n := 0)).1 (h a w hA)
theorem WLF.nil (h : WP x fr D hp .normal Q) : WLF P r x ops fr D hp [] Q := fun a w hA => h a w hA
theorem WLF.yd {v : Value} (hn : ∀ c, op ≠ .defer c) (hy : Yd P x fr D hp op ty v) (hd : Nat.blt d x.n = true) (h : WLF P r x ops ((d, v) :: fr) D hp rest Q) : WLF P r x ops fr D hp (⟨some d, op, ty, pos, af, none⟩ :: rest) Q := fun a w hA => by
  unfold wpListIn;rw [if_pos (show Region.wanted ⟨some d, op, ty, pos, af, none⟩ (yielded ops a.tmps) = true from rfl)];refine X5 hn ?_;unfold Oper.wp;rw [hy a w _ _ _ _ hA.f hA.i, Oper.upon_value];exact h _ _ ⟨hA.f.put hd v, hA.i⟩
theorem WLF.so {K : Value → Imm → Hp → Prop} (hn : ∀ c, op ≠ .defer c) (hs : SO P x fr D hp op ty Q K) (hd : dstB dst x.n = true) (h : ∀ v D' hp', K v D' hp' → WLF P r x ops (wj dst v fr) D' hp' rest Q) :
    WLF P r x ops fr D hp (⟨dst, op, ty, pos, af, none⟩ :: rest) Q := fun a w hA => by
  unfold wpListIn;rw [if_pos (show Region.wanted ⟨dst, op, ty, pos, af, none⟩ (yielded ops a.tmps) = true from rfl)];exact X5 hn (hs a w _ _ _ _ _ hA fun v D' hp' _ hk hi => h v D' hp' hk _ _ ⟨hA.f.putO hd v, hi⟩)
theorem WLF.know {l : List Oper} (t : Nat) {v : Value} (v' : Value) (ht : fr.get t = some v) (hv : v = v') (h : WLF P r x ops ((t, v') :: fr) D hp l Q) : WLF P r x ops fr D hp l Q :=
  fun a w hA => h a w ⟨hA.f.weaken (vz ht hv), hA.i⟩
theorem WLF.part {l : List Oper} (t : Nat) {b : Bool} (ht : fr.get t = some (.bool b)) (h1 : b = true → WLF P r x ops ((t, .bool true) :: fr) D hp l Q) (h0 : b = false → WLF P r x ops ((t, .bool false) :: fr) D hp l Q) : WLF P r x ops fr D hp l Q := by
  cases hb : b with
  | true => exact WLF.know t (.bool true) ht (by rw [hb]) (h1 hb)
  | false => exact WLF.know t (.bool false) ht (by rw [hb]) (h0 hb)
theorem WLF.freezeK {l : List Oper} (k : Nat) {b : Nat} {o : Obj} (hk : hp[k]? = some (b, o)) (h : D b = none → WLF P r x ops fr (D.add b o) (hp.eraseIdx k) l Q) : WLF P r x ops fr D hp l Q :=
  fun a w hA => h (hA.i.freezeK k hk).1 a w ⟨hA.f, (hA.i.freezeK k hk).2⟩
theorem WCF.seq {c d : Code} (h : WCF P r x fr D hp c (Exit.then (d.wpIn (Fx r) 0 P Q) Q)) : WCF P r x fr D hp (.seq c d) Q := fun a w hA => wpIn_seq (h a w hA)
theorem WCF.block {id : Nat} {c : Code} (h : WCF P r x fr D hp c (Exit.inBlock id Q)) : WCF P r x fr D hp (.block id c) Q := fun a w hA => wpIn_block (h a w hA)
theorem WCF.skip (h : WP x fr D hp .normal Q) : WCF P r x fr D hp .skip Q := fun a w hA => wpIn_skip (h a w hA)
theorem WCF.ret (h : WP x fr D hp .ret Q) : WCF P r x fr D hp .ret Q := fun a w hA => wpIn_ret (h a w hA)
theorem WCF.exit {id : Nat} (h : WP x fr D hp (.exit id) Q) : WCF P r x fr D hp (.exit id) Q := fun a w hA => wpIn_exit (h a w hA)
theorem WCF.region {id : Nat} {l : List Oper} (h : WLF P r x l.toArray fr D hp l Q) : WCF P r x fr D hp (.region id l.toArray false) Q := fun a w hA => wpIn_region_lit (h a w hA)
theorem WCF.cond {c : Operand} {t e : Code} {b : Bool} (hc : opv fr c = some (.bool b)) (ht : b = true → WCF P r x fr D hp t Q) (he : b = false → WCF P r x fr D hp e Q) : WCF P r x fr D hp (.cond c t e) Q := fun a w hA => by
  cases b with
  | true => exact wpIn_cond_true (hA.f.eval hc) (ht rfl a w hA)
  | false => exact wpIn_cond_false (hA.f.eval hc) (he rfl a w hA)
theorem WCF.condT {c : Operand} {t e : Code} (hc : opv fr c = some (.bool true)) (ht : WCF P r x fr D hp t Q) : WCF P r x fr D hp (.cond c t e) Q := fun a w hA => wpIn_cond_true (hA.f.eval hc) (ht a w hA)
theorem WCF.condF {c : Operand} {t e : Code} (hc : opv fr c = some (.bool false)) (he : WCF P r x fr D hp e Q) : WCF P r x fr D hp (.cond c t e) Q := fun a w hA => wpIn_cond_false (hA.f.eval hc) (he a w hA)
theorem WCF.ofFr {c : Code} (fr' : Fr) (hf : subB fr' fr) (h : WCF P r x fr' D hp c Q) : WCF P r x fr D hp c Q := fun a w hA => h a w ⟨hA.f.weaken (x8 hf), hA.i⟩
theorem WCF.less {c : Code} (fr' : Fr) (hp' : Hp) (hf : subB fr' fr) (hs : ∀ e, e ∈ hp' → e ∈ hp) (hn : (hp.map Prod.fst).Nodup → (hp'.map Prod.fst).Nodup) (h : WCF P r x fr' D hp' c Q) : WCF P r x fr D hp c Q :=
  fun a w hA => h a w ⟨hA.f.weaken (x8 hf), hA.i.sub hs (hn hA.i.nodup)⟩
theorem WP.thenCF {d : Code} (h : WCF P r x fr D hp d Q) : WP x fr D hp .normal (Exit.then (d.wpIn (Fx r) 0 P Q) Q) := h
def Vk (W : World) (D : Imm) (S : List Nat) (K : Bool → Imm → Hp → Prop) (e : Ending) (W' : World) : Prop :=
  ∃ b D' hp', e = .returned (.bool b) ∧ DExt W D D' ∧ Inv D' hp' S W W' ∧ (∀ k, k ∈ keys hp' → k ∈ S) ∧ K b D' hp'
theorem yB {S : List Nat} {w0 w : World} {k b : Nat} {o : Obj} (h : Inv D hp S w0 w) (hk : hp[k]? = some (b, o)) (o' : Obj) (ho : WT o = true := by rfl) (ho' : WT o' = true := by rfl) : Inv D (hp.set k (b, o')) S w0 (w.putObj b o') := h.set hk o' ho ho'
theorem kN {n k : Nat} {rec : Loop} {args : Array Value} {S : List Nat} {W : World} {R : Ending → World → Prop} {assign body : Code} (ha : rec.assign = assign) (hb : rec.body = body) (hI : Inv D hp S W W) (hk : hp[k]? = some (l, .loop rec))
    (hs : args.size = rec.params.size) (hT : AtF n fr [] ⟨(rec.params.zip args).foldl (fun tmps (t, a) => tmps.setIfInBounds t a) rec.tmps, []⟩)
    (h : WCF P (some l) ⟨n, [], S, W⟩ fr D hp assign (Exit.then (fun a₁ w₁ => ∃ w₂, (Instr.beginRound l).run P w₁ = .ok () w₂ ∧ body.wpIn (Fx (some l)) 0 P (roundPost P l R) a₁ w₂) (fun _ _ _ => False))) :
    YieldAt Fence.wide 0 P l args W R := by
  subst ha;subst hb;have hl := hI.own _ _ (mem_of_get? hk);exact ⟨_, _, _, _, run_yield hl hs, roundIn_of_wpIn trivial (h _ _ ⟨hT, hI⟩)⟩
theorem WP.begin {k : Nat} {rec : Loop} {body : Code} {R : Exit → Act → World → Prop} (hk : hp[k]? = some (l, .loop rec)) (hr : rec.state = .ready)
    (h : WCF P (some l) x fr D (hp.set k (l, .loop { rec with state := .busy })) body R) :
    WP x fr D hp .normal (Exit.then (fun a₁ w₁ => ∃ w₂, (Instr.beginRound l).run P w₁ = .ok () w₂ ∧ body.wpIn (Fx (some l)) 0 P R a₁ w₂) (fun _ _ _ => False)) := fun a w hA => by
  have hl := hA.i.own _ _ (mem_of_get? hk);exact ⟨_, run_beginRound hl hr, h _ _ ⟨hA.f, yB hA.i hk _⟩⟩
abbrev y1 (b : Nat) : Deferred := { target := .collected b, args := #[] }
theorem WC.rangeFunc {g : Operand} {ps : Array Tmp} {assign body : Code} {gf : Nat} {lb : List Value} {K : Imm → Hp → Option Code → Prop} (hds : x.ds = []) (hg : opv fr g = some (.func (.func gf) #[] lb.toArray)) (hc : ∀ args w, (callFunc gf args).run P w = .ok (.enter gf args) w)
    (hcall : ∀ (rec : Loop) (l Dn : Nat) (w₁ : World), rec.state = .ready → rec.pending = none → rec.params = ps → rec.assign = assign → rec.body = body → AtF x.n fr [] ⟨rec.tmps, []⟩ → x.w0.heap.size ≤ Dn → x.w0.heap.size ≤ l →
      Inv D ((l, .loop rec) :: (Dn, .deferred (some [])) :: hp) x.S x.w0 w₁ →
      Calls P gf (.func (.yield l) #[] #[] :: lb).toArray w₁ fun e w' => ∃ v D' hp' st pend, e = .returned v ∧ st ≠ .busy ∧ Inv D' ((l, .loop { rec with state := st, pending := pend }) :: (Dn, .deferred (some [])) :: hp') x.S x.w0 w' ∧ K D' hp' pend)
    (hafter : ∀ Dn D' hp' pend, x.w0.heap.size ≤ Dn → K D' hp' pend → match pend with
      | none => WP ⟨x.n, [y1 Dn], x.S, x.w0⟩ fr D' ((Dn, .deferred (some [])) :: hp') .normal Q
      | some c => WC P ⟨x.n, [y1 Dn], x.S, x.w0⟩ fr D' ((Dn, .deferred (some [])) :: hp') c Q) :
    WC P x fr D hp (.rangeFunc g ps assign body) Q := fun a w hA => by
  refine (wpIn_wide (n := 0)).1 ?_;refine wpIn_rangeFunc fun fn _ => ?_
  let rcd : Loop := { state := .ready, pending := none, fn, tmps := a.tmps, params := ps, assign, body, defers := w.heap.size }
  let w₁ : World := (w.alloc (.deferred (some []))).alloc (.loop rcd)
  have hI1 : Inv D ((w.heap.size + 1, .loop rcd) :: (w.heap.size, .deferred (some [])) :: hp) x.S x.w0 w₁ := by
    have h1 := hA.i.new (.deferred (some []));have h2 := h1.new (.loop rcd);simp only [Array.size_push] at h2;exact h2
  have hev : a.eval g = .func (.func gf) #[] lb.toArray := hA.f.eval hg;have had : a.defers = [] := hA.f.defers.trans hds;have hT : AtF x.n fr [] ⟨rcd.tmps, []⟩ := ⟨hA.f.size, rfl, hA.f.slot⟩;have hc1 := hcall rcd (w.heap.size + 1) w.heap.size w₁ rfl rfl rfl rfl rfl hT hA.i.keep.size (by have := hA.i.keep.size; omega) hI1
  refine ⟨w.heap.size + 1, [y1 w.heap.size], w₁, { target := .fn (.func gf) lb.toArray, args := #[.func (.yield (w.heap.size + 1)) #[] #[]] }, w₁, gf, (.func (.yield (w.heap.size + 1)) #[] #[] :: lb).toArray, w₁,
    run_enterLoop_outer fn a.tmps ps assign body, ?_, fun _ _ => trivial, ?_, fun e => (by cases e), ?_⟩
  · show (resolve a.eval { callee := .value g, args := #[.const (.func (.yield (w.heap.size + 1)) #[] #[])], argTypes := #[] } 0).run P w₁ = _;have he : a.eval (.const (.func (.yield (w.heap.size + 1)) #[] #[])) = .func (.yield (w.heap.size + 1)) #[] #[] := rfl;simp [resolve, hev, Deferred.ofValue, he]
  · simp [invoke, hc]
  · refine (callsIn_wide (n := 0 - 1)).2 (Calls.mono hc1 fun e w' ⟨v, D', hp', st, pend, he, hst, hI', hK⟩ => ?_);subst he;have hl := hI'.own _ _ (List.mem_cons_self);have hend := run_endLoop (P := P) hl hst;have hI2 := (yB hI' (k := 0) rfl (.loop { rcd with state := .exhausted, pending := pend })).tail;have haf := hafter _ _ _ _ hA.i.keep.size hK
    have hat : At ⟨x.n, [y1 w.heap.size], x.S, x.w0⟩ fr D' ((w.heap.size, .deferred (some [])) :: hp') { a with defers := [y1 w.heap.size] ++ a.defers } (w'.putObj (w.heap.size + 1) (.loop { rcd with state := .exhausted, pending := pend })) :=
      ⟨⟨hA.f.size, by rw [had]; rfl, hA.f.slot⟩, hI2⟩
    refine ⟨pend, _, hend, ?_⟩;cases pend with
    | none => exact haf _ _ hat
    | some c => exact (wpIn_wide (n := 0)).2 (haf _ _ hat)
theorem zcn {f : FuncId} {fn : Func} {c : Code} {args : List Value} {S : List Nat} {w : World} {R : Ending → World → Prop}
    (hf : P.funcs[f]? = some fn) (hb : fn.body = some c) (n : Nat) (hn : fn.ntmps = n) (hl : args.length ≤ n) (hI : Inv D hp S w w)
    (h : WC P ⟨n, [], S, w⟩ (uA 0 args) D hp c (bodyPostM Fence.wide 0 P fn R)) : Calls P f args.toArray w R := by
  refine (callsIn_wide (n := 0)).1 (callsIn_of_wp_marks hf hb trivial ((wpIn_wide (n := 0)).2 (h _ _ ⟨⟨?_, rfl, fun t v ht => ?_⟩, hI⟩)))
  · simp [hn]; omega
  · obtain ⟨_, h2⟩ := u0 args 0 t v ht;simp at h2
    have hlt : t < args.length := by
      rcases Nat.lt_or_ge t args.length with h3 | h3
      · exact h3
      · rw [List.getElem?_eq_none h3] at h2; cases h2
    simp [Array.getElem?_append, hlt]; exact (List.getElem?_eq_some_iff.1 h2).2
theorem WLF.yield {o : Operand} {A : List Operand} {ts : Array TypeId} {vals : List Value} {S1 : List Nat} {K : Bool → Imm → Hp → Prop} (own hpc : Hp) (hhp : ∀ e, e ∈ own ++ hpc → e ∈ hp) (hnd : (keys hp).Nodup → (keys (own ++ hpc)).Nodup)
    (hS : ∀ b, b ∈ S1 → b ∈ keys hpc) (hS' : ∀ b, b ∈ keys hpc → b ∈ S1) (ho : opv fr o = some (.func (.yield l) #[] #[])) (ha : opvs fr A = some vals) (hd : dstB dst x.n = true)
    (hk : ∀ w, x.w0.heap.size ≤ w.heap.size → Inv D hpc S1 w w → YieldAt Fence.wide 0 P l vals.toArray w (Vk w D S1 K))
    (h : ∀ b D' hpc', K b D' hpc' → DExt x.w0 D D' → WLF P none x ops (wj dst (.bool b) fr) D' (own ++ hpc') rest Q) :
    WLF P none x ops fr D hp (⟨dst, .call ⟨.value o, A.toArray, ts⟩, ty, pos, af, none⟩ :: rest) Q := fun a w hA => by
  unfold wpListIn;rw [if_pos (show Region.wanted ⟨dst, .call ⟨.value o, A.toArray, ts⟩, ty, pos, af, none⟩ (yielded ops a.tmps) = true from rfl)];refine ⟨fun _ _ => trivial, ?_⟩;have hI := hA.i.sub hhp (hnd hA.i.nodup);obtain ⟨fn, tmps, assign, body, hy, hR⟩ := hk w hA.i.keep.size (hI.frame hS');have h1 := hA.f.evals A vals ha
  have hrun : (Oper.semAt (Fx none).round a.eval ⟨dst, .call ⟨.value o, A.toArray, ts⟩, ty, pos, af, none⟩).run P w = .ok (.round l fn tmps assign body) w := by
    rw [Oper.semAt_none];simp only [execOp];simp [resolve, hA.f.eval ho, Deferred.ofValue, invoke, h1, hy]
  rw [hrun, Oper.uponIn_round];refine ⟨fun e => (by cases e), RoundIn.mono hR fun e w' ⟨b, D', hpc', h2, hD, hI', hS2, hK⟩ => ?_⟩;subst h2;exact h b D' hpc' hK ⟨hD.old, fun b hb => hD.new b (Nat.lt_of_lt_of_le hb hA.i.keep.size)⟩ _ _ ⟨hA.f.putO hd _, hI.unframe hS hS2 hD hI'⟩
theorem zbx {i : Nat} {K : Act → World → Prop} {a : Act} {w : World} (hd : ∀ o, ops[i]? = some o → ∀ c, o.op ≠ .defer c) (hno : ¬ LetsOut Q) (h : wpOp P ops Q i K a w) : wpOpIn (Fx none) 0 P ops Q i K a w := by
  unfold wpOpIn;unfold wpOp at h;cases ho : ops[i]? with
  | none => simp only [ho] at h ⊢; exact h
  | some o =>
    simp only [ho] at h ⊢;split at h
    · rename_i hw
      rw [if_pos hw];rcases h with h | h
      · exact X5 (hd o ho) h
      · exact absurd h.2 hno
    · rename_i hw
      rw [if_neg hw];exact ⟨fun _ _ => trivial, h⟩
theorem uX {n : Nat} (T : qz ops n) : ∀ (l : List Oper) (k : Nat) (listed : Array Bool) (a : Act) (w : World), n ≤ k → k + l.length = ops.size → (∀ j, j < l.length → l[j]? = ops[k + j]?) → LstT ops k listed →
    wpListIn (Fx none) 0 P ops Q l a w → wpAnyIn (Fx none) 0 P .any ops Q l.length listed a w
  | [], k, listed, a, w, hn, hk, _, L, h => by
    refine ⟨?_, h⟩;apply List.eq_nil_iff_forall_not_mem.2;intro t ht;obtain ⟨hun, o, ho, _⟩ := mem_ready.1 ht;have hts : t < ops.size := (Array.getElem?_eq_some_iff.1 ho).1;rw [vP (by rw [L.size]; exact hts)] at hun;have := (L.no t hts).1 hun;simp at hk; omega
  | o :: l, k, listed, a, w, hn, hk, hl, L, h => by
    have hks : k < ops.size := by simp at hk; omega
    have h0 : ops[k]? = some o := by simpa using (hl 0 (by simp)).symm
    have hr := uP T L hn hks;refine ⟨fun h1 => ?_, fun i hi => ?_⟩
    · have := (hr k).2 rfl;rw [h1] at this; cases this
    · have hik := (hr i).1 hi;subst hik;have hw : wpOpIn (Fx none) 0 P ops Q i (wpListIn (Fx none) 0 P ops Q l) a w := by unfold wpOpIn; simp only [h0]; exact h
      refine wpOpIn_mono (fun a' w' h' => uX T l (i + 1) _ a' w' (by omega) (by simp at hk; omega) (fun j hj => by
        have := hl (j + 1) (by simp; omega);rw [show i + 1 + j = i + (j + 1) by omega]; simpa using this) ⟨by simp [L.size], fun j hj => ?_⟩ h') hw
      by_cases e : i = j
      · subst e;have : (listed.setIfInBounds i true).getD i false = true := by simp [L.size, hj]
        rw [this]; simp
      · rw [getD_set_ne false e, L.no j hj]; omega
theorem Za {C : World → Prop} {n : Nat} {tl : List Oper} (hnd : ∀ (i : Nat) (o : Oper), ops[i]? = some o → ∀ c, o.op ≠ .defer c) (hno : ¬ LetsOut Q) (T : qz ops n) (htl : n + tl.length = ops.size) (htl' : ∀ j, j < tl.length → tl[j]? = ops[n + j]?) :
    ∀ (m : Nat) (l : List Nat) (listed : Array Bool) (a : Act) (w : World), l.length = m → C w → Lst ops n l listed → remQ P ops C (fun a' => ∀ w', C w' → wpListIn (Fx none) 0 P ops Q tl a' w') l a →
      wpAnyIn (Fx none) 0 P .any ops Q (l.length + tl.length) listed a w := by
  intro m
  induction m with
  | zero =>
    intro l listed a w hm hw L h;have hl : l = [] := List.length_eq_zero_iff.1 hm;subst hl;rw [List.length_nil, Nat.zero_add];exact uX T tl n listed a w (Nat.le_refl _) htl htl' ⟨L.size, fun i hi => by rw [L.no i hi]; simp⟩ (h w hw)
  | succ m ih =>
    intro l listed a w hm hw L h;have hne : l ≠ [] := fun e => by rw [e] at hm; cases hm
    rw [show l.length + tl.length = (m + tl.length) + 1 by omega];refine ⟨fun h0 => absurd h0 (vd T L hne), fun i hi => ?_⟩;obtain ⟨hil, hnw⟩ := L.ready T hne hi;obtain ⟨l1, l2, rfl⟩ := List.append_of_mem hil
    have hap : ∀ j ∈ l1, vH ops i j = true := fun j hj => by
      have hji : j < i := by
        have := L.sorted;rw [List.pairwise_append] at this;exact this.2.2 j hj i List.mem_cons_self
      rcases T.ap i j (L.below i hil) hji with h1 | h1
      · rw [hnw j (List.mem_append_left _ hj)] at h1; cases h1
      · exact h1
    obtain ⟨o, v, ho, hy, hr⟩ := uj T.sel i l2 l1 a hap h;have hlen : (l1 ++ l2).length = m := by simp at hm ⊢; omega
    have key : ∀ w', C w' → wpAnyIn (Fx none) 0 P .any ops Q (m + tl.length) (listed.setIfInBounds i true) (a.put o.dst v) w' := fun w' hw' => by
      have := ih (l1 ++ l2) _ _ w' hlen hw' (L.next T hnw) hr
      rwa [hlen] at this
    exact zbx (hnd i) hno (wpOp_of_qOp (C := C) (K := fun a' => a' = a.put o.dst v) hw (fun a' w' hw' e => by subst e; exact key w' hw') (hy.qOp ho rfl))
def Jr (ops : List Oper) : Bool := ops.all fun o => match o.op with | .defer _ => false | _ => true
theorem uI {l : List Oper} (h : Jr l = true) : ∀ (i : Nat) (o : Oper), l.toArray[i]? = some o → ∀ c, o.op ≠ .defer c := fun i o ho c hc => by
  have hm : o ∈ l := by
    have := Array.mem_of_getElem? ho;simpa using this
  have := List.all_eq_true.1 h o hm;rw [hc] at this;cases this
theorem WQ.tailF {tl : List Oper} (h : WLF P none x ops fr D hp tl Q) : WQ P x ops D hp (fun a' => ∀ w', Inv D hp x.S x.w0 w' → wpListIn (Fx none) 0 P ops Q tl a' w') [] fr := fun a hA w hI => h a w ⟨hA, hI⟩
theorem WC.tailF {id : Nat} {ops : List Oper} (n : Nat) (heads : List Nat) (hh : List.range n = heads) (hm : P.follows .mixedOrders = true) (hB : (X0 ops.toArray n && Jr ops) = true) (hno : ¬ LetsOut Q)
    (h : WQ P x ops.toArray D hp (fun a' => ∀ w', Inv D hp x.S x.w0 w' → wpListIn (Fx none) 0 P ops.toArray Q (ops.drop n) a' w') heads fr) : WC P x fr D hp (.region id ops.toArray true) Q := fun a w hA => by
  simp only [Bool.and_eq_true] at hB;have T := Z0 hB.1;refine (wpIn_wide (n := 0)).1 (wpIn_region_any (F := Fx none) hm ?_);have hn : n < ops.length := by simpa using T.lt
  have hq := h a hA.f;rw [← hh] at hq
  have := Za (P := P) (Q := Q) (C := Inv D hp x.S x.w0) (tl := ops.drop n) (uI hB.2) hno T (by simp; omega) (fun j hj => by simp [List.getElem?_drop]) n (List.range n) (Array.replicate ops.toArray.size false) a { w with drawn := w.drawn + 1 } (by simp) (hA.i.drew _)
    ⟨by simp, List.pairwise_lt_range, fun i hi => List.mem_range.1 hi, fun i hi => by
      simp only [List.mem_range];constructor
      · intro _; omega
      · intro _; have : i < ops.length := by simpa using hi
        simp [this], fun i j hi hni _ => absurd (List.mem_range.2 hi) hni⟩ hq
  rw [List.length_range, List.length_drop, show n + (ops.length - n) = ops.toArray.size by simp; omega] at this;exact this
end
end Go.W
namespace Go.W
section
variable {P : Program} {x : Cx} {fr : Fr} {D : Imm} {hp : Hp} {ty : TypeId} {Q : Exit → Act → World → Prop} {ops : Array Oper}
theorem WC.scope {c : Code} (h : WC P x fr D hp c (Exit.noGoto Q)) : WC P x fr D hp (.scope c) Q := fun a w hA => wp_scope_straight (h a w hA)
theorem WC.label {l : Nat} (h : WP x fr D hp .normal Q) : WC P x fr D hp (.label l) Q := fun a w hA => wp_label (h a w hA)
theorem WP.scNormal (h : WP x fr D hp .normal Q) : WP x fr D hp .normal (Exit.noGoto Q) := h
theorem WP.scRet (h : WP x fr D hp .ret Q) : WP x fr D hp .ret (Exit.noGoto Q) := h
theorem WP.scPanic {c : List PanicEntry} (h : WP x fr D hp (.panic c) Q) : WP x fr D hp (.panic c) (Exit.noGoto Q) := h
theorem zm.sc (h : zm Q) : zm (Exit.noGoto Q) := fun c d v a w hq => h c d v a w hq
theorem zN.sc (h : zN ops Q) : zN ops (Exit.noGoto Q) := fun i o v c a w ho hq => h i o v c a w ho hq
theorem noLets.then {K : Act → World → Prop} (h : ¬ LetsOut Q) : ¬ LetsOut (Exit.then K Q) := fun ⟨a, w, hq⟩ => h ⟨a, w, hq⟩
theorem noLets.blk {id : Nat} (h : ¬ LetsOut Q) : ¬ LetsOut (Exit.inBlock id Q) := fun ⟨a, w, hq⟩ => h ⟨a, w, hq⟩
theorem noLets.sc (h : ¬ LetsOut Q) : ¬ LetsOut (Exit.noGoto Q) := fun ⟨a, w, hq⟩ => h ⟨a, w, hq⟩
theorem noLets.body {fn : Func} {R : Ending → World → Prop} (h : ∀ w, ¬ R .outgrown w) : ¬ LetsOut (bodyPost P fn R) := fun ⟨_, w, hq⟩ => h w hq
theorem Inv.drop {S : List Nat} {w0 w : World} (k : Nat) (h : Inv D hp S w0 w) : Inv D (hp.drop k) S w0 w :=
  h.sub (fun _ he => List.mem_of_mem_drop he) (by rw [List.map_drop]; exact h.nodup.sublist (List.drop_sublist _ _))
theorem WP.drop {e : Exit} (k : Nat) (h : WP x fr D (hp.drop k) e Q) : WP x fr D hp e Q := fun a w hA => h a w ⟨hA.f, hA.i.drop k⟩
theorem WC.erase {c : Code} (k : Nat) (h : WC P x fr D (hp.eraseIdx k) c Q) : WC P x fr D hp c Q := fun a w hA => h a w ⟨hA.f, hA.i.sub (fun _ he => List.mem_of_mem_eraseIdx he) (hA.i.nodup.sublist (List.Sublist.map _ (List.eraseIdx_sublist _ _)))⟩
theorem WP.freezeK {e : Exit} (k : Nat) {b : Nat} {o : Obj} (hk : hp[k]? = some (b, o)) (h : D b = none → WP x fr (D.add b o) (hp.eraseIdx k) e Q) : WP x fr D hp e Q :=
  fun a w hA => h (hA.i.freezeK k hk).1 a w ⟨hA.f, (hA.i.freezeK k hk).2⟩
theorem AtF.round2 {n p1 p2 : Nat} {T : Array Value} {v1 v2 : Value} (h : AtF n fr [] ⟨T, []⟩) (h1 : Nat.blt p1 n = true) (h2 : Nat.blt p2 n = true) :
    AtF n ((p2, v2) :: (p1, v1) :: fr) [] ⟨(#[p1, p2].zip #[v1, v2]).foldl (fun tmps (t, a) => tmps.setIfInBounds t a) T, []⟩ := by
  have := (h.put h1 v1).put h2 v2;simpa [Act.put] using this
theorem SO.appendSome {t e : TypeId} {o : Ow} {len n size : Nat} {xs ys : List Value} {info : TypeInfo} {z : Value} {ts : Array TypeId} {a1 a2 : Operand} {vy : Value} (base hp0 : Hp)
    (ht : ts[0]? = some t) (ht' : ts[1]? = some t) (hu : P.underlying t = some (.slice e)) (hz : ∀ w, (sizeOf e).run P w = .ok size w) (hi : ∀ w, (typeInfo e).run P w = .ok info w) (hzero : ∀ w, (zeroValue e).run P w = .ok z w) (hzl : z.cells.size = size)
    (hs : opv fr a1 = some (owV (some o) len)) (hy : opv fr a2 = some vy) (hhp : hp = base ++ owH (some o) e xs hp0) (hyr : RdS D hp size vy n ys) (hone : ∀ v ∈ ys, v.oneCell' = true)
    (how : owP x.w0 (some o) len size) (hxl : xs.length = len * size) (hb : (2 * (len + n) + 1000) * info.bytes ≤ 2 ^ 48) (hn : len + n ≤ 2 ^ 48) :
    SO P x fr D hp (.call ⟨.builtin .append, #[a1, a2], ts⟩) ty Q (AppK x.w0 D base hp0 e size (xs ++ ys) (len + n)) := fun a w dst pos af g next hA hnx => by
  have hrun : ∀ {v : Value} {w' : World}, (Builtin.append_ ts ty #[owV (some o) len, vy]).run P w = .ok v w' → (execOp a.eval ⟨dst, .call ⟨.builtin .append, #[a1, a2], ts⟩, ty, pos, af, g⟩).run P w = .ok (.value v) w' := fun {v} {w'} h => by
    simp only [execOp, resolve, List.map_toArray, List.map_cons, List.map_nil, hA.f.eval hs, hA.f.eval hy];simp [invoke, builtin, h]
  unfold Oper.wp;obtain ⟨hwb, hlc, hrl⟩ := how
  have hk : hp[base.length]? = some (o.b, .cells (xs ++ o.rest).toArray e (0, 0)) := by
    subst hhp; simp [owH]
  by_cases hg : len + n ≤ o.cap
  · have h3 := uz (P := P) (ty := ty) (s := owV (some o) len) ht ht' hu hz hA.i rfl hk hxl hrl hyr hone hg;rw [hrun h3, Oper.upon_value];refine hnx _ _ _ _ ⟨⟨o.b, o.cap, o.rest.drop ys.length⟩, ⟨hwb, hg, by simp [hrl, hyr.1, ← Nat.sub_mul, Nat.sub_sub]⟩, rfl, rfl, rfl⟩ ?_;have hI := hA.i.set hk (.cells (xs ++ ys ++ o.rest.drop ys.length).toArray e (0, 0));subst hhp
    have hset : (base ++ owH (some o) e xs hp0).set base.length (o.b, .cells (xs ++ ys ++ o.rest.drop ys.length).toArray e (0, 0)) = base ++ (o.b, .cells (xs ++ ys ++ o.rest.drop ys.length).toArray e (0, 0)) :: hp0 := by
      rw [List.set_append_right _ _ (by omega)]; simp [owH]
    rw [hset] at hI;exact hI
  · obtain ⟨cap', rest, h1, h2, h3⟩ := xc (P := P) (ty := ty) (cap := o.cap) (xs := xs) (s := owV (some o) len) ht ht' hu hz hi hzero hzl hA.i rfl
      ⟨hxl, .inr ⟨o.b, 0, o.cap, rfl, fun j v hj => by
        have := Rd.own (D := D) (hp := hp) hk (off := 0 + j) (v := v) (by
          rw [Nat.zero_add, List.getElem?_append_left (List.getElem?_eq_some_iff.1 hj).1]; exact hj)
        exact this⟩⟩ hyr (by omega) hb hn
    rw [hrun h3, Oper.upon_value];refine hnx _ _ _ _ ⟨⟨w.heap.size, cap', rest⟩, ⟨hA.i.keep.size, h1, h2⟩, rfl, rfl, rfl⟩ ?_;have hI := (hA.i.drew (w.drawn + 1)).new (.cells (xs ++ ys ++ rest).toArray e (0, 0));subst hhp;have hnd := hI.nodup;simp only [owH, List.map_cons, List.map_append, List.nodup_cons] at hnd;have hnd2 := hnd.2;refine hI.sub (qX (fun e' he' => List.mem_cons_of_mem _ ?_) List.mem_cons_self) (ve (fun h => hnd.1 ?_) ?_)
    · rcases List.mem_append.1 he' with h | h
      · exact List.mem_append_left _ h
      · exact List.mem_append_right _ (List.mem_cons_of_mem _ h)
    · rcases h with h | h
      · exact List.mem_append_left _ h
      · exact List.mem_append_right _ (List.mem_cons_of_mem _ h)
    · rw [List.nodup_append] at hnd2 ⊢;refine ⟨hnd2.1, (List.nodup_cons.1 hnd2.2.1).2, fun a ha b hb => hnd2.2.2 a ha b (List.mem_cons_of_mem _ hb)⟩
end
theorem flat_get {α : Type} [Inhabited α] {f : α → List Value} {m : Nat} (hf : ∀ x, (f x).length = m) : ∀ (l : List α) (i j : Nat), i < l.length → j < m → (l.flatMap f)[i * m + j]? = (f (gt l i))[j]? := by
  intro l
  induction l with
  | nil => intro i j hi _; simp at hi
  | cons x l ih =>
    intro i j hi hj;rw [List.flatMap_cons];cases i with
    | zero => rw [Nat.zero_mul, Nat.zero_add, List.getElem?_append_left (by rw [hf]; exact hj)]; rfl
    | succ i =>
      rw [List.getElem?_append_right (by rw [hf, Nat.succ_mul]; omega), hf, show (i + 1) * m + j - m = i * m + j by rw [Nat.succ_mul]; omega, ih i j (by simpa using hi) hj];rfl
theorem zr {α : Type} {f : α → List Value} {m : Nat} (hf : ∀ x, (f x).length = m) (l : List α) : (l.flatMap f).length = l.length * m := by
  induction l with
  | nil => simp
  | cons x l ih => rw [List.flatMap_cons, List.length_append, hf, ih, List.length_cons, Nat.succ_mul]; omega
theorem SlL.ofBlock {α : Type} [Inhabited α] {f : α → List Value} {m : Nat} {D : Imm} {b : Nat} {t : TypeId} {fz : Nat × Nat} {l : List α} {rest : List Value} (hf : ∀ x, (f x).length = m) (hD : D b = some (.cells (l.flatMap f ++ rest).toArray t fz)) :
    SlL D m (l.map f) (some ⟨b, 0, none⟩) l.length :=
  ⟨by simp, fun i r hr => by
    refine ⟨rfl, _, _, _, hD, fun j v hv => ?_⟩
    have hi : i < l.length := by
      have := (List.getElem?_eq_some_iff.1 hr).1;simpa using this
    have hr' : r = f (gt l i) := by
      rw [List.getElem?_map, wX hi] at hr;exact (Option.some.inj hr).symm
    subst hr';have hj : j < m := by rw [← hf (gt l i)]; exact (List.getElem?_eq_some_iff.1 hv).1
    have h1 := flat_get hf l i j hi hj;rw [hv] at h1
    show (l.flatMap f ++ rest)[0 + i * m + j]? = some v;rw [Nat.zero_add, List.getElem?_append_left (List.getElem?_eq_some_iff.1 h1).1];exact h1⟩
theorem SlL.rdS {α : Type} [Inhabited α] {f : α → List Value} {m : Nat} {D : Imm} {hp : Hp} {l : List α} {a : Option Addr} {n c : Nat} (hf : ∀ x, (f x).length = m) (h : SlL D m (l.map f) a n) (h0 : l = [] → a = none) : RdS D hp m (.slice a n c) n (l.flatMap f) := by
  have hn := h.len';subst hn;refine ⟨zr hf l, ?_⟩;cases l with
  | nil => exact .inl ⟨c, by rw [h0 rfl], rfl⟩
  | cons x l =>
    have ha := h.addr 0 (by simp);refine .inr ⟨sb a, so a, c, by rw [ha]; rfl, fun j v hj => ?_⟩;have hlt : j < (x :: l).length * m := by rw [← zr hf]; exact (List.getElem?_eq_some_iff.1 hj).1
    have hm : 0 < m := by
      rcases Nat.eq_zero_or_pos m with e | e
      · rw [e, Nat.mul_zero] at hlt; omega
      · exact e
    have hq : j / m < (x :: l).length := (Nat.div_lt_iff_lt_mul hm).2 hlt;have hr : j % m < m := Nat.mod_lt _ hm;have he : j / m * m + j % m = j := Nat.div_add_mod' j m;have h1 := flat_get hf (x :: l) (j / m) (j % m) hq hr;rw [he, hj] at h1;have h2 := (h.at (j / m) hq).rd (hp := hp) (j % m) (v := v) h1.symm;rw [show so a + j / m * m + j % m = so a + j by omega] at h2;exact h2
end Go.W
namespace Go.W
section
variable {P : Program} {x : Cx} {fr : Fr} {D : Imm} {hp : Hp} {ty : TypeId} {Q : Exit → Act → World → Prop} {ops : Array Oper}
theorem SO.makeSlice {t e : TypeId} {size n : Nat} {info : TypeInfo} {z : Value} {zs : List Value} {a1 a2 : Operand} (hu : P.underlying t = some (.slice e)) (hz : ∀ w, (sizeOf e).run P w = .ok size w) (hi : ∀ w, (typeInfo e).run P w = .ok info w) (hzero : ∀ w, (zeroValue e).run P w = .ok z w) (hzs : z.cells = zs.toArray)
    (h1 : opv fr a1 = some (.int .i64 (n : Int))) (h2 : opv fr a2 = some (.int .i64 (n : Int))) (hn : n ≤ 2 ^ 40) (hb : info.bytes * (n : Int) ≤ 2 ^ 48) : SO P x fr D hp (.makeSlice t a1 a2) ty Q (NewS x D hp (xI zs (n * size)) e n) := fun a w dst pos af g next hA hnx => by
  unfold Oper.wp;have hw : IntKind.i64.wrap (n : Int) = (n : Int) := wr64 (by omega);have hng : ¬ ((n : Int) < 0) := by omega
  have hbig : ¬ (info.bytes * (n : Int) > 2 ^ 48) := by omega
  have hrun : (Instr.makeSlice t (.int .i64 (n : Int)) (.int .i64 (n : Int))).run P w = .ok (.slice (some ⟨w.heap.size, 0, none⟩) n n) { w with heap := w.heap.push (.cells (xI zs (n * size)).toArray e (0, 0)) } := by
    have ha : ∀ w, (asInt (.int .i64 (n : Int))).run P w = .ok (n : Int) w := fun w => rfl;unfold Instr.makeSlice;simp only [Sem.run_bind, run_underlying hu, Result.andThen_ok, ha, Sem.run_pure, hi, hw];simp only [hng, hbig, decide_false, Bool.or_false, Bool.false_eq_true, false_or, if_false, or_false, gt_iff_lt, Int.lt_irrefl, run_askRoom, Question.cut, Sem.run_bind, Result.andThen_ok, hz, Int.toNat_natCast];by_cases h0 : n * size = 0
    · simp only [h0, if_true, Sem.run_pure, Result.andThen_ok, newRow, Sem.run_bind, run_newObj];have e0 : Array.range 0 = #[] := by apply Array.ext'; simp
      simp [xI, e0]
    · simp only [h0, if_false, Sem.run_bind, hzero, Sem.run_pure, Result.andThen_ok, newRow, run_newObj, hzs];rw [Wl]
  have : (execOp a.eval ⟨dst, .makeSlice t a1 a2, ty, pos, af, g⟩).run P w = .ok (.value (.slice (some ⟨w.heap.size, 0, none⟩) n n)) { w with heap := w.heap.push (.cells (xI zs (n * size)).toArray e (0, 0)) } := by
    simp only [execOp, hA.f.eval h1, hA.f.eval h2];simp [hrun]
  rw [this, Oper.upon_value];exact hnx _ _ _ _ ⟨_, hA.i.keep.size, rfl, rfl, rfl⟩ (hA.i.new _)
theorem yz (zs : List Value) : ∀ n, (xI zs n).length = n := by
  intro n; induction n with
  | zero => rfl
  | succ n ih => simp [xI, ih]
def zdq (D : Imm) (hp : Hp) (k b : Nat) (o : Obj) (_ : Value) (D' : Imm) (hp' : Hp) : Prop := D = D' ∧ hp' = hp.set k (b, o)
theorem SO.copy {t e : TypeId} {b n c size k : Nat} {cs ys : List Value} {vy : Value} {ts : Array TypeId} {a1 a2 : Operand} (ht : ts[0]? = some t) (hu : P.underlying t = some (.slice e)) (hz : ∀ w, (sizeOf e).run P w = .ok size w)
    (h1 : opv fr a1 = some (.slice (some ⟨b, 0, none⟩) n c)) (h2 : opv fr a2 = some vy) (hk : hp[k]? = some (b, .cells cs.toArray e (0, 0))) (hyr : RdS D hp size vy n ys) (hone : ∀ v ∈ ys, v.oneCell' = true) (hl : ys.length ≤ cs.length) :
    SO P x fr D hp (.call ⟨.builtin .copy, #[a1, a2], ts⟩) ty Q (zdq D hp k b (.cells (splice cs 0 ys).toArray e (0, 0))) := fun a w dst pos af g next hA hnx => by
  unfold Oper.wp
  have hlen : (Builtin.lenOf vy).run P w = .ok n w := by
    obtain ⟨_, ⟨c, rfl, _⟩ | ⟨b, o, c, rfl, _⟩⟩ := hyr <;> rfl
  have hf := xn (P := P) hyr hA.i;have hbk := hA.i.own _ _ (mem_of_get? hk);have hst := wl (P := P) (e := e) ys w cs 0 0 hbk (by simpa using hl) hone
  have hrun : (Builtin.copy_ ts ty #[.slice (some ⟨b, 0, none⟩) n c, vy]).run P w = .ok (goInt n) { w with heap := w.heap.setIfInBounds b (.cells (splice cs 0 ys).toArray e (0, 0)) } := by
    unfold Builtin.copy_;simp only [ht, List.getElem?_toArray, List.getElem?_cons_zero, List.getElem?_cons_succ, Sem.run_bind, run_underlying hu, Result.andThen_ok, hlen, hz, Sem.run_pure];have hm : Nat.min n n = n := Nat.min_self n;simp only [hm, hf, Result.andThen_ok, Sem.run_bind, List.toList_toArray, hst, Sem.run_pure, Nat.add_zero]
  have : (execOp a.eval ⟨dst, .call ⟨.builtin .copy, #[a1, a2], ts⟩, ty, pos, af, g⟩).run P w = .ok (.value (goInt n)) { w with heap := w.heap.setIfInBounds b (.cells (splice cs 0 ys).toArray e (0, 0)) } := by
    simp only [execOp, resolve, List.map_toArray, List.map_cons, List.map_nil, hA.f.eval h1, hA.f.eval h2];simp [invoke, builtin, hrun]
  rw [this, Oper.upon_value];exact hnx _ _ _ _ ⟨rfl, rfl⟩ (hA.i.set hk _)
end
end Go.W
namespace Go.W
abbrev ut (n : Nat) : Value := .int .u64 (n : Int)
section
variable {P : Program} {x : Cx} {fr : Fr} {D : Imm} {hp : Hp} {ty : TypeId} {Q : Exit → Act → World → Prop} {ops : Array Oper}
theorem Yd.subN {t t' : TypeId} {o p : Operand} {i j : Nat} (ho : opv fr o = some (nt i)) (hp' : opv fr p = some (nt j)) (h : j ≤ i) (hi : i ≤ 2 ^ 60) : Yd P x fr D hp (.binOp .sub t o p t') ty (nt (i - j)) := by
  have := Yd.sub (P := P) (x := x) (D := D) (hp := hp) (ty := ty) (t := t) (t' := t') ho hp' (wr64 ⟨by omega, by omega⟩);rw [show ((i : Int) - (j : Int)) = ((i - j : Nat) : Int) by omega] at this;exact this
theorem Yd.addN {t t' : TypeId} {o p : Operand} {i j : Nat} (ho : opv fr o = some (nt i)) (hp' : opv fr p = some (nt j)) (hi : i + j ≤ 2 ^ 60) : Yd P x fr D hp (.binOp .add t o p t') ty (nt (i + j)) := Yd.add (P := P) (x := x) (D := D) (hp := hp) (ty := ty) (t := t) (t' := t') ho hp' (wr64 ⟨by omega, by omega⟩)
theorem wrU (n : Nat) (h : n ≤ 2 ^ 60) : IntKind.u64.wrap (n : Int) = (n : Int) := by
  have : IntKind.u64.wrap (n : Int) = (n : Int) % 2 ^ 64 := by simp [IntKind.wrap, IntKind.bits, IntKind.signed]
  rw [this]; omega
theorem Yd.addW {t t' : TypeId} {o p : Operand} {k : IntKind} {i j : Int} (ho : opv fr o = some (.int k i)) (hp' : opv fr p = some (.int k j)) : Yd P x fr D hp (.binOp .add t o p t') ty (.int k (k.wrap (i + j))) := .bin ho hp' fun w => by
  simp [Go.binOp, Op.intArith]
theorem Yd.andW {t t' : TypeId} {o p : Operand} {k : IntKind} {i j : Int} (ho : opv fr o = some (.int k i)) (hp' : opv fr p = some (.int k j)) : Yd P x fr D hp (.binOp .and t o p t') ty (.int k (k.wrap ((BitVec.ofInt k.bits i &&& BitVec.ofInt k.bits j).toNat))) :=
  .bin ho hp' fun w => by
    have : (Op.intBits .and k i j).run P w = .ok (.int k (k.wrap (BitVec.ofInt k.bits i &&& BitVec.ofInt k.bits j).toNat)) w := rfl;simp [Go.binOp, this]
theorem Yd.convW {s e : TypeId} {o : Operand} {k k' : IntKind} {d : TypeDesc} {i : Int} (hs : P.underlying s = some d) (he : P.underlying e = some (.int k')) (ho : opv fr o = some (.int k i)) : Yd P x fr D hp (.convert s e o) ty (.int k' (k'.wrap i)) := fun a w _ _ _ _ hA _ => by
  simp only [execOp, hA.eval ho]
  have : (Go.convert s e (.int k i)).run P w = .ok (.int k' (k'.wrap i)) w := by
    unfold Go.convert;simp [run_underlying hs, run_underlying he];cases d <;> simp [Conv.intToInt]
  simp [this]
theorem WHo.yd {D0 : Imm} {hp0 : Hp} {n i : Nat} {listed : Array Bool} {d : Tmp} {op : Op} {pos : String} {af : Array Edge} {v : Value} (ho : ops[i]? = some ⟨some d, op, ty, pos, af, none⟩) (hy : Yd P x fr D hp op ty v) (hd : Nat.blt d x.n = true)
    (h : WH P x ops D0 hp0 n (listed.setIfInBounds i true) ((d, v) :: fr) D hp Q) : WHo P x ops D0 hp0 n listed fr D hp Q i := fun a w hA hI => by
  unfold wpOp;simp only [ho];rw [if_pos (show Region.wanted ⟨some d, op, ty, pos, af, none⟩ (yielded ops a.tmps) = true from rfl)];refine .inl ?_;unfold Oper.wp;rw [hy a w _ _ _ _ hA.f hA.i, Oper.upon_value];exact ⟨hI, h _ _ ⟨hA.f.put hd v, hA.i⟩ hI⟩
end
end Go.W
namespace Go.W
section
variable {P : Program} {x : Cx} {fr : Fr} {D : Imm} {hp : Hp} {ty : TypeId} {Q : Exit → Act → World → Prop}
theorem WC.seqJ {α : Type} {A B : Code} (F : α → Fr) (H : α → Hp) (I : α → Imm) (φ : α → Prop) (hB : ∀ y, φ y → WC P x (F y) (I y) (H y) B Q)
    (hA : WC P x fr D hp A (Exit.then (fun a w => ∃ y, φ y ∧ At x (F y) (I y) (H y) a w) Q)) : WC P x fr D hp (.seq A B) Q := fun a w hAt =>
  wp_seq (Code.wp_mono (fun e a w q => by
    cases e with
    | normal => obtain ⟨y, hy, hat⟩ := q; exact hB y hy a w hat
    | _ => exact q) (hA a w hAt))
theorem WP.join {α : Type} {F : α → Fr} {H : α → Hp} {I : α → Imm} {φ : α → Prop} (z : α) (hz : φ z) (hA : ∀ a w, At x fr D hp a w → At x (F z) (I z) (H z) a w) :
    WP x fr D hp .normal (Exit.then (fun a w => ∃ y, φ y ∧ At x (F y) (I y) (H y) a w) Q) := fun a w h => ⟨z, hz, hA a w h⟩
end
end Go.W
namespace Go.W
section
variable {P : Program} {x : Cx} {fr : Fr} {D : Imm} {hp : Hp} {ty : TypeId} {Q : Exit → Act → World → Prop}
theorem Yd.shrUN {t t' : TypeId} {o p : Operand} {i j : Nat} (ho : opv fr o = some (ut i)) (hp' : opv fr p = some (nt j)) (hj : j ≤ 60) : Yd P x fr D hp (.binOp .shr t o p t') ty (ut (i / 2 ^ j)) := by
  have := Yd.shr (P := P) (x := x) (D := D) (hp := hp) (ty := ty) (t := t) (t' := t') ho hp' (by omega)
  have e : ((i : Int)).fdiv (2 ^ (min ((j : Int)).toNat IntKind.u64.bits)) = ((i / 2 ^ j : Nat) : Int) := by
    have hb : IntKind.u64.bits = 64 := rfl;rw [Int.toNat_natCast, hb, show min j 64 = j by omega, Int.fdiv_eq_ediv_of_nonneg _ (Int.pow_nonneg (by omega))];push_cast; rfl
  rw [e] at this;exact this
theorem Yd.andU1 {t t' : TypeId} {o p : Operand} {i : Nat} (ho : opv fr o = some (ut i)) (hp' : opv fr p = some (.int .u64 1)) : Yd P x fr D hp (.binOp .and t o p t') ty (ut (i % 2)) := by
  have := Yd.andW (P := P) (x := x) (D := D) (hp := hp) (ty := ty) (t := t) (t' := t') ho hp'
  have e : (BitVec.ofInt IntKind.u64.bits (i : Int) &&& BitVec.ofInt IntKind.u64.bits 1).toNat = i % 2 := by
    have : (BitVec.ofInt IntKind.u64.bits 1) = 1#64 := rfl;rw [this]
    show (BitVec.ofInt 64 (i : Int) &&& 1#64).toNat = i % 2;rw [BitVec.toNat_and, BitVec.toNat_ofInt];simp only [BitVec.toNat_ofNat];rw [show (1 % 2 ^ 64 : Nat) = 2 ^ 1 - 1 from rfl, Nat.and_two_pow_sub_one_eq_mod];omega
  rw [e, wrU _ (by omega)] at this;exact this
end
end Go.W
namespace Go.W
section
variable {P : Program} {x : Cx} {fr : Fr} {D : Imm} {hp : Hp} {ty : TypeId} {Q : Exit → Act → World → Prop}
end
end Go.W
namespace Go.W
theorem Inv.unframeN {D D' : Imm} {own hpc hpc' : Hp} {S0 S1 : List Nat} {w0 w w' : World} (h : Inv D (own ++ hpc) S0 w0 w) (hS : ∀ b, b ∈ S1 → b ∈ keys hpc) (hS' : ∀ b, b ∈ keys hpc' → b ∈ S1 ∨ w.heap.size ≤ b)
    (hD : DExt w D D') (h' : Inv D' hpc' S1 w w') : Inv D' (own ++ hpc') S0 w0 w' := by
  have hnd := h.nodup;rw [List.map_append] at hnd;have hdj := (List.nodup_append.1 hnd).2.2;have hown : ∀ b o, (b, o) ∈ own → b ∉ S1 := fun b o hb hs => hdj b (qN hb) b (hS b hs) rfl;refine ⟨h'.imm, fun b o hb => ?_, ?_, fun b o hb => ?_, ?_, fun b o hb => ?_⟩
  · rcases List.mem_append.1 hb with hb | hb
    · have h1 := h.own b o (List.mem_append_left _ hb);rw [h'.keep.block b (lt_of_some h1) (hown b o hb)]; exact h1
    · exact h'.own b o hb
  · rw [List.map_append];refine List.nodup_append.2 ⟨(List.nodup_append.1 hnd).1, h'.nodup, fun b hb c hc e => ?_⟩;subst e;obtain ⟨o, ho⟩ := yQ hb;rcases hS' b hc with h1 | h1
    · exact hown b o ho h1
    · have := lt_of_some (h.own b o (List.mem_append_left _ ho)); omega
  · rcases List.mem_append.1 hb with hb | hb
    · have hm := List.mem_append_left hpc hb;exact hD.new b (lt_of_some (h.own b o hm)) (h.apart b o hm)
    · exact h'.apart b o hb
  · refine ⟨h'.keep.os.trans h.keep.os, h'.keep.tape.trans h.keep.tape, h'.keep.output.trans h.keep.output, Nat.le_trans h.keep.size h'.keep.size, fun j hj hjS => ?_, fun a ha => (h'.keep.fz a (Nat.lt_of_lt_of_le ha h.keep.size)).trans (h.keep.fz a ha)⟩;rw [h'.keep.block j (Nat.lt_of_lt_of_le hj h.keep.size) (fun hs => ?_)]
    · exact h.keep.block j hj hjS
    · obtain ⟨o, ho⟩ := yQ (hS j hs);rcases h.may j o (List.mem_append_right _ ho) with h1 | h1
      · exact hjS h1
      · omega
  · rcases List.mem_append.1 hb with hb | hb
    · exact h.may b o (List.mem_append_left _ hb)
    · rcases hS' b (qN hb) with h1 | h1
      · obtain ⟨o', ho'⟩ := yQ (hS b h1);exact h.may b o' (List.mem_append_right _ ho')
      · exact .inr (Nat.le_trans h.keep.size h1)
def News (P : Program) (f : FuncId) (vals : List Value) (w : World) (D : Imm) (K : Value → Imm → Hp → Prop) : Prop :=
  Calls P f vals.toArray w fun e w' => ∃ v D' hpc', e = .returned v ∧ DExt w D D' ∧ Inv D' hpc' [] w w' ∧ K v D' hpc'
section
variable {P : Program} {x : Cx} {fr : Fr} {D : Imm} {hp : Hp} {ty : TypeId} {Q : Exit → Act → World → Prop}
theorem SO.news {c : Call} {f : FuncId} {vals : List Value} {K : Value → Imm → Hp → Prop} (he : Enters P x fr D hp c ty f vals)
    (hk : ∀ w, Inv D hp x.S x.w0 w → News P f vals w D K) : SO P x fr D hp (.call c) ty Q (AltK x.w0 D hp K) := fun a w dst pos af g next hA hn => by
  unfold Oper.wp;rw [he a w dst pos af g hA.f hA.i, Oper.upon_enter];refine (hk w hA.i).mono fun e w' ⟨v, D', hpc', h, hD, hI', hK⟩ => ?_;rw [h];have hI : Inv D (hp ++ []) x.S x.w0 w := by rw [List.append_nil]; exact hA.i
  refine hn _ _ _ _ ⟨hpc', ⟨hD.old, fun b hb => hD.new b (Nat.lt_of_lt_of_le hb hA.i.keep.size)⟩, hK, rfl⟩ (hI.unframeN (hpc := []) (S1 := []) (fun b hb => by cases hb) (fun b hb => ?_) hD hI');obtain ⟨o, ho⟩ := yQ hb;rcases hI'.may b o ho with h1 | h1
  · cases h1
  · exact .inr h1
theorem jv {size : Nat} {a : Option Addr} {c : Nat} {w : World} : (Builtin.firstCells size 0 (.slice a 0 c)).run P w = .ok #[] w := by
  cases a with
  | none => rfl
  | some a => simp [Builtin.firstCells, loadCells, loadCellsFrom]
theorem SO.appendNil {t e : TypeId} {o : Ow} {len size : Nat} {ts : Array TypeId} {a1 a2 : Operand} {a : Option Addr} {c : Nat} (ht : ts[0]? = some t) (ht' : ts[1]? = some t) (hu : P.underlying t = some (.slice e)) (hz : ∀ w, (sizeOf e).run P w = .ok size w)
    (hs : opv fr a1 = some (owV (some o) len)) (hy : opv fr a2 = some (.slice a 0 c)) (hlc : len ≤ o.cap) : SO P x fr D hp (.call ⟨.builtin .append, #[a1, a2], ts⟩) ty Q (Wo D hp (owV (some o) len)) := fun act w dst pos af g next hA hnx => by
  unfold Oper.wp
  have hrun : (Builtin.append_ ts ty #[owV (some o) len, .slice a 0 c]).run P w = .ok (owV (some o) len) w := by
    have hadd : Addr.add ⟨o.b, 0, none⟩ (len * size) = ⟨o.b, len * size, none⟩ := by unfold Addr.add; split <;> simp_all
    have hlen : (Builtin.lenOf (.slice a 0 c)).run P w = .ok 0 w := rfl;unfold Builtin.append_;simp only [ht, ht', owV, List.getElem?_toArray, List.getElem?_cons_zero, List.getElem?_cons_succ, Sem.run_bind, run_underlying hu, Result.andThen_ok, hz, Sem.run_pure];simp only [Bool.false_eq_true, if_false, Sem.run_bind, hlen, Result.andThen_ok];rw [if_pos (by omega)];simp [jv, storeCells]
  have : (execOp act.eval ⟨dst, .call ⟨.builtin .append, #[a1, a2], ts⟩, ty, pos, af, g⟩).run P w = .ok (.value (owV (some o) len)) w := by
    simp only [execOp, resolve, List.map_toArray, List.map_cons, List.map_nil, hA.f.eval hs, hA.f.eval hy];simp [invoke, builtin, hrun]
  rw [this, Oper.upon_value];exact hnx _ _ _ _ ⟨rfl, rfl, rfl⟩ hA.i
end
end Go.W
namespace Go.W
section
variable {P : Program} {x : Cx} {fr : Fr} {D : Imm} {hp : Hp} {Q : Exit → Act → World → Prop} {ops : Array Oper}
theorem WA.freezeK {D0 : Imm} {hp0 : Hp} {plan : List (Nat × Bool)} (k : Nat) {b : Nat} {o : Obj} (hk : hp[k]? = some (b, o)) (h : D b = none → WA P x ops D0 hp0 plan fr (D.add b o) (hp.eraseIdx k) Q) : WA P x ops D0 hp0 plan fr D hp Q :=
  fun a w hA => h (hA.i.freezeK k hk).1 a w ⟨hA.f, (hA.i.freezeK k hk).2⟩
theorem z8.cv {f : FuncId} {vals : List Value} {w : World} {v : Value} (v' : Value) (h : z8 P f vals w v) (e : v = v') : z8 P f vals w v' := e ▸ h
end
end Go.W
namespace Go.W
section
variable {P : Program} {x : Cx} {fr : Fr} {D : Imm} {hp : Hp} {ty : TypeId}
theorem Yd.max2 {ts : Array TypeId} {p q : Operand} {k : IntKind} {a b : Int} (hp1 : opv fr p = some (.int k a)) (hp2 : opv fr q = some (.int k b)) :
    Yd P x fr D hp (.call ⟨.builtin .max, #[p, q], ts⟩) ty (.int k (max a b)) := fun act w _ _ _ _ hA _ => by
  simp only [execOp, resolve, List.map_toArray, List.map_cons, List.map_nil, hA.eval hp1, hA.eval hp2];simp [invoke, builtin, Builtin.max_, Builtin.max2];split <;> omega
theorem Yd.max3 {ts : Array TypeId} {p q r : Operand} {k : IntKind} {a b c : Int} (hp1 : opv fr p = some (.int k a)) (hp2 : opv fr q = some (.int k b)) (hp3 : opv fr r = some (.int k c)) :
    Yd P x fr D hp (.call ⟨.builtin .max, #[p, q, r], ts⟩) ty (.int k (max (max a b) c)) := fun act w _ _ _ _ hA _ => by
  simp only [execOp, resolve, List.map_toArray, List.map_cons, List.map_nil, hA.eval hp1, hA.eval hp2, hA.eval hp3];simp [invoke, builtin, Builtin.max_, Builtin.max2];split <;> split <;> omega
theorem Yd.min2 {ts : Array TypeId} {p q : Operand} {k : IntKind} {a b : Int} (hp1 : opv fr p = some (.int k a)) (hp2 : opv fr q = some (.int k b)) :
    Yd P x fr D hp (.call ⟨.builtin .min, #[p, q], ts⟩) ty (.int k (min a b)) := fun act w _ _ _ _ hA _ => by
  simp only [execOp, resolve, List.map_toArray, List.map_cons, List.map_nil, hA.eval hp1, hA.eval hp2];simp [invoke, builtin, Builtin.min_, Builtin.min2];split <;> omega
end
end Go.W
