import Derived.Test.YtaebnllfmkcpgaaGreatDoorXP
import Derived.RangeFuncNested
import Derived.RangeFuncBound
import Derived.Test.YtaebnllfmkcpgaaGreatDoorXB
import Derived.Maps.Keyed
import Derived.LoopNIn
set_option linter.unusedSimpArgs false
set_option linter.unusedVariables false
set_option linter.all false
set_option maxRecDepth 100000
set_option maxHeartbeats 1000000
/- Iterators: what one promises; a range over one, also within a round; a round that returns. A map of one's own with numbers: looked up with its bool, and put. -/
namespace Go.W
section
variable {P : Program} {x : Cx} {fr : Fr} {D : Imm} {hp : Hp} {Q : Exit → Act → World → Prop}
/-- A range over a function within a round of the loop l0. -/
theorem WCF.rangeFunc {g : Operand} {ps : Array Tmp} {assign body : Code} {gf : Nat} {lb : List Value} {l0 k0 : Nat} {rec0 : Loop} {K : Imm → Hp → Option Code → Prop} (hk0 : hp[k0]? = some (l0, .loop rec0)) (hds : x.ds = [])
    (hg : opv fr g = some (.func (.func gf) #[] lb.toArray)) (hc : ∀ args w, (callFunc gf args).run P w = .ok (.enter gf args) w)
    (hcall : ∀ (rec : Loop) (l : Nat) (w₁ : World), rec.state = .ready → rec.pending = none → rec.params = ps → rec.assign = assign → rec.body = body → AtF x.n fr [] ⟨rec.tmps, []⟩ → x.w0.heap.size ≤ l →
      Inv D ((l, .loop rec) :: hp) x.S x.w0 w₁ →
      Calls P gf (.func (.yield l) #[] #[] :: lb).toArray w₁ fun e w' => ∃ v D' hp' st pend, e = .returned v ∧ st ≠ .busy ∧ Inv D' ((l, .loop { rec with state := st, pending := pend }) :: hp') x.S x.w0 w' ∧ K D' hp' pend)
    (hafter : ∀ D' hp' pend, K D' hp' pend → match pend with
      | none => WP x fr D' hp' .normal Q
      | some c => WCF P (some l0) x fr D' hp' c Q) :
    WCF P (some l0) x fr D hp (.rangeFunc g ps assign body) Q := fun a w hA => by
  refine wpIn_rangeFunc fun fn _ => ?_
  have hl0 := hA.i.own _ _ (mem_of_get? hk0)
  let rcd : Loop := { state := .ready, pending := none, fn, tmps := a.tmps, params := ps, assign, body, defers := rec0.defers }
  let w₁ : World := w.alloc (.loop rcd)
  have hI1 : Inv D ((w.heap.size, .loop rcd) :: hp) x.S x.w0 w₁ := hA.i.new (.loop rcd)
  have hev : a.eval g = .func (.func gf) #[] lb.toArray := hA.f.eval hg
  have had : a.defers = [] := hA.f.defers.trans hds
  have hT : AtF x.n fr [] ⟨rcd.tmps, []⟩ := ⟨hA.f.size, rfl, hA.f.slot⟩
  have hc1 := hcall rcd w.heap.size w₁ rfl rfl rfl rfl rfl hT hA.i.keep.size hI1
  refine ⟨w.heap.size, [], w₁, { target := .fn (.func gf) lb.toArray, args := #[.func (.yield w.heap.size) #[] #[]] }, w₁, gf, (.func (.yield w.heap.size) #[] #[] :: lb).toArray, w₁,
    run_enterLoop_inner hl0 fn a.tmps ps assign body, ?_, fun _ _ => trivial, ?_, fun e => (by cases e), ?_⟩
  · show (resolve a.eval { callee := .value g, args := #[.const (.func (.yield w.heap.size) #[] #[])], argTypes := #[] } 0).run P w₁ = _
    have he : a.eval (.const (.func (.yield w.heap.size) #[] #[])) = .func (.yield w.heap.size) #[] #[] := rfl
    simp [resolve, hev, Deferred.ofValue, he]
  · simp [invoke, hc]
  · refine CallsIn.inRound (F := Fence.wide) l0 ((callsIn_wide (n := 0 - 1)).2 (Calls.mono hc1 fun e w' ⟨v, D', hp', st, pend, he, hst, hI', hK⟩ => ?_))
    subst he
    have hl := hI'.own _ _ (List.mem_cons_self)
    have hend := run_endLoop (P := P) hl hst
    have hI2 := (inv_putObj hI' (k := 0) rfl (.loop { rcd with state := .exhausted, pending := pend })).tail
    have haf := hafter _ _ _ hK
    have hat : At x fr D' hp' { a with defers := [] ++ a.defers } (w'.putObj w.heap.size (.loop { rcd with state := .exhausted, pending := pend })) :=
      ⟨⟨hA.f.size, hA.f.defers, hA.f.slot⟩, hI2⟩
    refine ⟨pend, _, hend, ?_⟩
    cases pend with
    | none => exact haf _ _ hat
    | some c => exact haf _ _ hat

/-- .. where calls are deferred already -/
theorem WC.rangeFuncM {g : Operand} {ps : Array Tmp} {assign body : Code} {gf : Nat} {lb : List Value} {K : Imm → Hp → Option Code → Prop} (hg : opv fr g = some (.func (.func gf) #[] lb.toArray)) (hc : ∀ args w, (callFunc gf args).run P w = .ok (.enter gf args) w)
    (hcall : ∀ (rec : Loop) (l Dn : Nat) (w₁ : World), rec.state = .ready → rec.pending = none → rec.params = ps → rec.assign = assign → rec.body = body → AtF x.n fr [] ⟨rec.tmps, []⟩ → x.w0.heap.size ≤ Dn → x.w0.heap.size ≤ l →
      Inv D ((l, .loop rec) :: (Dn, .deferred (some [])) :: hp) x.S x.w0 w₁ →
      Calls P gf (.func (.yield l) #[] #[] :: lb).toArray w₁ fun e w' => ∃ v D' hp' st pend, e = .returned v ∧ st ≠ .busy ∧ Inv D' ((l, .loop { rec with state := st, pending := pend }) :: (Dn, .deferred (some [])) :: hp') x.S x.w0 w' ∧ K D' hp' pend)
    (hafter : ∀ Dn D' hp' pend, x.w0.heap.size ≤ Dn → K D' hp' pend → match pend with
      | none => WP ⟨x.n, markOf Dn :: x.ds, x.S, x.w0⟩ fr D' ((Dn, .deferred (some [])) :: hp') .normal Q
      | some c => WC P ⟨x.n, markOf Dn :: x.ds, x.S, x.w0⟩ fr D' ((Dn, .deferred (some [])) :: hp') c Q) :
    WC P x fr D hp (.rangeFunc g ps assign body) Q := fun a w hA => by
  refine (wpIn_wide (n := 0)).1 ?_
  refine wpIn_rangeFunc fun fn _ => ?_
  let rcd : Loop := { state := .ready, pending := none, fn, tmps := a.tmps, params := ps, assign, body, defers := w.heap.size }
  let w₁ : World := (w.alloc (.deferred (some []))).alloc (.loop rcd)
  have hI1 : Inv D ((w.heap.size + 1, .loop rcd) :: (w.heap.size, .deferred (some [])) :: hp) x.S x.w0 w₁ := by
    have h1 := hA.i.new (.deferred (some []))
    have h2 := h1.new (.loop rcd)
    simp only [Array.size_push] at h2
    exact h2
  have hev : a.eval g = .func (.func gf) #[] lb.toArray := hA.f.eval hg
  have hT : AtF x.n fr [] ⟨rcd.tmps, []⟩ := ⟨hA.f.size, rfl, hA.f.slot⟩
  have hc1 := hcall rcd (w.heap.size + 1) w.heap.size w₁ rfl rfl rfl rfl rfl hT hA.i.keep.size (by have := hA.i.keep.size; omega) hI1
  refine ⟨w.heap.size + 1, [markOf w.heap.size], w₁, { target := .fn (.func gf) lb.toArray, args := #[.func (.yield (w.heap.size + 1)) #[] #[]] }, w₁, gf, (.func (.yield (w.heap.size + 1)) #[] #[] :: lb).toArray, w₁,
    run_enterLoop_outer fn a.tmps ps assign body, ?_, fun _ _ => trivial, ?_, fun e => (by cases e), ?_⟩
  · show (resolve a.eval { callee := .value g, args := #[.const (.func (.yield (w.heap.size + 1)) #[] #[])], argTypes := #[] } 0).run P w₁ = _
    have he : a.eval (.const (.func (.yield (w.heap.size + 1)) #[] #[])) = .func (.yield (w.heap.size + 1)) #[] #[] := rfl
    simp [resolve, hev, Deferred.ofValue, he]
  · simp [invoke, hc]
  · refine (callsIn_wide (n := 0 - 1)).2 (Calls.mono hc1 fun e w' ⟨v, D', hp', st, pend, he, hst, hI', hK⟩ => ?_)
    subst he
    have hl := hI'.own _ _ (List.mem_cons_self)
    have hend := run_endLoop (P := P) hl hst
    have hI2 := (inv_putObj hI' (k := 0) rfl (.loop { rcd with state := .exhausted, pending := pend })).tail
    have haf := hafter _ _ _ _ hA.i.keep.size hK
    have hat : At ⟨x.n, markOf w.heap.size :: x.ds, x.S, x.w0⟩ fr D' ((w.heap.size, .deferred (some [])) :: hp') { a with defers := [markOf w.heap.size] ++ a.defers } (w'.putObj (w.heap.size + 1) (.loop { rcd with state := .exhausted, pending := pend })) :=
      ⟨⟨hA.f.size, by show markOf w.heap.size :: a.defers = _; rw [hA.f.defers], hA.f.slot⟩, hI2⟩
    refine ⟨pend, _, hend, ?_⟩
    cases pend with
    | none => exact haf _ _ hat
    | some c => exact (wpIn_wide (n := 0)).2 (haf _ _ hat)
def dblk (b : Nat) : Nat × Obj := (b, .deferred (some []))
theorem leaves_marks {fn : Func} {tmps : Array Value} {R : Ending → World → Prop} {ds : List Deferred} {hp0 : Hp} {S : List Nat} {w0 : World} (h : ∀ w', Inv D hp0 S w0 w' → LeavesInM Fence.wide 0 P fn tmps R ds .returning w') :
    ∀ (bs : List Nat) (w : World), Inv D (bs.map dblk ++ hp0) S w0 w → LeavesInM Fence.wide 0 P fn tmps R (bs.map markOf ++ ds) .returning w := by
  intro bs
  induction bs with
  | nil => intro w hI; exact h w hI
  | cons b bs ih =>
    intro w hI
    have hb := hI.own b (.deferred (some [])) (List.mem_cons_self ..)
    have hI' := (inv_putObj hI (k := 0) rfl (.deferred none)).tail
    exact ⟨by simp, .inl ⟨b, _, rfl, run_takeDeferred hb, ih _ hI'⟩⟩
/-- the return of a function with ranges over functions in it -/
theorem WP.retMs {e : Exit} {fn : Func} {R : Ending → World → Prop} (bs : List Nat) (hp0 : Hp) (rs : List ResultVar) (vs : List Value) (he : isEnd e = true) (hd : x.ds = bs.map markOf) (hs : ∀ e, e ∈ bs.map dblk ++ hp0 → e ∈ hp) (hn : (keys hp).Nodup → (keys (bs.map dblk ++ hp0)).Nodup)
    (hr : fn.results = rs.toArray) (h : RVs P x fr D hp0 rs vs) (hR : ∀ w, Inv D hp0 x.S x.w0 w → R (.returned (retV vs)) w) : WP x fr D hp e (bodyPostM Fence.wide 0 P fn R) := fun a w hA => by
  have key : LeavesInM Fence.wide 0 P fn a.tmps R a.defers .returning w := by
    rw [hA.f.defers, hd, ← List.append_nil (bs.map markOf)]
    exact leaves_marks (P := P) (fn := fn) (tmps := a.tmps) (R := R) (ds := []) (hp0 := hp0) (fun w' hI => ⟨_, results_run hr hA.f hI h, hR w' hI⟩) bs w (hA.i.sub hs (hn hA.i.nodup))
  cases e <;> first | exact key | cases he
/-! ### iterators -/
/-- what an iterator promises: it calls yield at arg 0, arg 1, .., until N, or until yield says no -/
def IterC (P : Program) (gf : Nat) (lb : List Value) (N : Nat) (arg : Nat → Value) (D : Imm) (w : World) : Prop :=
  ∀ (l : Nat) (S : List Nat) (St : Nat → Imm → Hp → Prop) (Sp : Imm → Hp → Prop),
    (∀ k D' h, St k D' h → (∀ b, b ∈ S → b ∈ keys h) ∧ (∀ b, b ∈ keys h → b ∈ S)) → (∀ D' h, Sp D' h → ∀ b, b ∈ keys h → b ∈ S) → (∀ k D1 D2 h, DExt w D1 D2 → St k D1 h → St k D2 h) →
    (∀ k D' h w', k < N → w.heap.size ≤ w'.heap.size → DExt w D D' → St k D' h → Inv D' h S w' w' → YieldAt Fence.wide 0 P l #[arg k] w' (RoundR w' D' S (fun b D'' h' => (b = true ∧ St (k + 1) D'' h') ∨ (b = false ∧ Sp D'' h')))) →
    ∀ h0, St 0 D h0 → Inv D h0 S w w → Alters P gf ((.func (.yield l) #[] #[]) :: lb) w D S (fun _ D' h' => St N D' h' ∨ Sp D' h')
/-- what a round leaves -/
def RK (l : Nat) (rec : Loop) (pre : Hp) (St : Imm → Hp → Prop) (Sp : Code → Imm → Hp → Prop) (b : Bool) (D' : Imm) (h : Hp) : Prop :=
  (b = true ∧ ∃ h1, h = (l, .loop rec) :: (pre ++ h1) ∧ St D' h1) ∨ (b = false ∧ ∃ c h1, h = (l, .loop { rec with state := .done, pending := some c }) :: (pre ++ h1) ∧ Sp c D' h1)
theorem rec_eta' {rec : Loop} (h1 : rec.state = .ready) (h2 : rec.pending = none) : { rec with state := .ready, pending := none } = rec := by
  cases rec; simp only at h1 h2; subst h1; subst h2; rfl
def busyR (rec : Loop) : Loop := { rec with state := .busy }
/-- the goal of a round's code: the assignment, then the body -/
def RoundG (P : Program) (n : Nat) (l : Nat) (rec : Loop) (pre : Hp) (ks : List Nat) (fr : Fr) (D1 : Imm) (h : Hp) (w1 : World) (assign body : Code) (St : Imm → Hp → Prop) (Sp : Code → Imm → Hp → Prop) : Prop :=
  WCF P (some l) ⟨n, [], ks, w1⟩ fr D1 ((l, .loop rec) :: (pre ++ h)) assign
    (Exit.then (fun a₁ w₁ => ∃ w₂, (Instr.beginRound l).run P w₁ = .ok () w₂ ∧ body.wpIn (Fx (some l)) 0 P (roundPost P l (RoundR w1 D1 ks (RK l rec pre St Sp))) a₁ w₂) (fun _ _ _ => False))
theorem WP.iterBegin {l : Nat} {rec : Loop} {body : Code} {R : Exit → Act → World → Prop} (k : Nat) (hk : hp[k]? = some (l, .loop rec)) (hr : rec.state = .ready ∧ rec.pending = none) (h : WCF P (some l) x fr D (hp.set k (l, .loop (busyR rec))) body R) :
    WP x fr D hp .normal (Exit.then (fun a₁ w₁ => ∃ w₂, (Instr.beginRound l).run P w₁ = .ok () w₂ ∧ body.wpIn (Fx (some l)) 0 P R a₁ w₂) (fun _ _ _ => False)) := WP.begin hk hr.1 h
theorem DExt.wide {w w' : World} {D D' : Imm} (h : DExt w' D D') (hs : w.heap.size ≤ w'.heap.size) : DExt w D D' := ⟨h.old, fun b hb => h.new b (Nat.lt_of_lt_of_le hb hs)⟩
theorem AtF.round1 {n p1 : Nat} {T : Array Value} {v1 : Value} (h : AtF n fr [] ⟨T, []⟩) (h1 : Nat.blt p1 n = true) : AtF n ((p1, v1) :: fr) [] ⟨(#[p1].zip #[v1]).foldl (fun tmps (t, a) => tmps.setIfInBounds t a) T, []⟩ := by
  have := h.put h1 v1
  simpa [Act.put] using this
section iter
variable {g : Operand} {pm : Tmp} {assign body : Code} {gf : Nat} {lb : List Value} {N : Nat} {arg : Nat → Value}
theorem iter_calls {l : Nat} {rec : Loop} {w₁ : World} {pre : Hp} (hit : ∀ w, IterC P gf lb N arg D w) (hpm : Nat.blt pm x.n = true) (St : Nat → Imm → Hp → Prop) (Sp : Code → Imm → Hp → Prop)
    (hkey : ∀ k D' h, St k D' h → keys h = keys hp) (hkeyp : ∀ c D' h, Sp c D' h → keys h = keys hp) (hmono : ∀ k D1 D2 h, DExt x.w0 D1 D2 → St k D1 h → St k D2 h) (h0 : St 0 D hp)
    (hst : rec.state = .ready) (hpe : rec.pending = none) (hps : rec.params = #[pm]) (has : rec.assign = assign) (hbo : rec.body = body) (hT : AtF x.n fr [] ⟨rec.tmps, []⟩) (hI : Inv D ((l, .loop rec) :: (pre ++ hp)) x.S x.w0 w₁)
    (hbody : ∀ k D1 h w1, k < N → St k D1 h → DExt x.w0 D D1 → x.w0.heap.size ≤ w1.heap.size → RoundG P x.n l rec pre (keys ((l, .loop rec) :: (pre ++ hp))) ((pm, arg k) :: fr) D1 h w1 assign body (St (k + 1)) Sp) :
    Calls P gf (.func (.yield l) #[] #[] :: lb).toArray w₁ fun e w' => ∃ v D' hp' st pend, e = .returned v ∧ st ≠ .busy ∧ Inv D' ((l, .loop { rec with state := st, pending := pend }) :: (pre ++ hp')) x.S x.w0 w' ∧ (DExt x.w0 D D' ∧ ((pend = none ∧ St N D' hp') ∨ ∃ c, pend = some c ∧ Sp c D' hp')) := by
  have hsz := hI.keep.size
  have hks : ∀ {h : Hp} {o : Obj}, keys h = keys hp → keys ((l, o) :: (pre ++ h)) = keys ((l, .loop rec) :: (pre ++ hp)) := fun {h} {o} e => by
    simp only [keys, List.map_cons, List.map_append] at e ⊢; rw [e]
  have hI1 : Inv D ((l, .loop rec) :: (pre ++ hp)) (keys ((l, .loop rec) :: (pre ++ hp))) w₁ w₁ := Inv.frame (own := []) hI (fun _ h => h)
  refine Calls.mono (hit w₁ l (keys ((l, .loop rec) :: (pre ++ hp))) (fun k D' h => ∃ h1, h = (l, .loop rec) :: (pre ++ h1) ∧ St k D' h1) (fun D' h => ∃ c h1, h = (l, .loop { rec with state := .done, pending := some c }) :: (pre ++ h1) ∧ Sp c D' h1)
    ?_ ?_ ?_ ?_ _ ⟨hp, rfl, h0⟩ hI1) ?_
  · rintro k D' h ⟨h1, rfl, hs⟩
    rw [hks (hkey _ _ _ hs)]
    exact ⟨fun _ h => h, fun _ h => h⟩
  · rintro D' h ⟨c, h1, rfl, hs⟩
    rw [hks (hkeyp _ _ _ hs)]
    exact fun _ h => h
  · rintro k D1 D2 h hx ⟨h1, rfl, hs⟩
    exact ⟨h1, rfl, hmono _ _ _ _ (hx.wide hsz) hs⟩
  · rintro k D1 h w' hk hsz2 hX ⟨h1, rfl, hs⟩ hI2
    have hb := hbody k D1 h1 w' hk hs (hX.wide hsz) (Nat.le_trans hsz hsz2)
    refine YieldAt.mono (roundAt (rec := rec) (k := 0) (n := x.n) (fr := (pm, arg k) :: fr) has hbo hI2 rfl (by rw [hps]; rfl) (by rw [hps]; exact hT.round1 hpm) hb) ?_
    rintro e w'' ⟨b, D', hp', rfl, hD, hI3, hS3, hK⟩
    refine ⟨b, D', hp', rfl, hD, hI3, hS3, ?_⟩
    rcases hK with ⟨rfl, h1, rfl, hs1⟩ | ⟨rfl, c, h1, rfl, hs1⟩
    · exact .inl ⟨rfl, h1, rfl, hs1⟩
    · exact .inr ⟨rfl, c, h1, rfl, hs1⟩
  · rintro e w' ⟨v, D', hpc', rfl, hXe, hIe, hke, hK⟩
    have hIu := Inv.unframe (own := []) hI (fun _ h => h) hke hXe hIe
    rcases hK with ⟨h1, rfl, hs⟩ | ⟨c, h1, rfl, hs⟩
    · refine ⟨v, D', h1, .ready, none, rfl, by decide, ?_, hXe.wide hsz, .inl ⟨rfl, hs⟩⟩
      rw [rec_eta' hst hpe]; exact hIu
    · exact ⟨v, D', h1, .done, some c, rfl, by decide, hIu, hXe.wide hsz, .inr ⟨c, rfl, hs⟩⟩
/-- A range over an iterator. -/
theorem WC.rangeIter (hit : ∀ w, IterC P gf lb N arg D w) (hg : opv fr g = some (.func (.func gf) #[] lb.toArray)) (hc : ∀ args w, (callFunc gf args).run P w = .ok (.enter gf args) w) (hpm : Nat.blt pm x.n = true)
    (St : Nat → Imm → Hp → Prop) (Sp : Code → Imm → Hp → Prop) (hkey : ∀ k D' h, St k D' h → keys h = keys hp) (hkeyp : ∀ c D' h, Sp c D' h → keys h = keys hp) (hmono : ∀ k D1 D2 h, DExt x.w0 D1 D2 → St k D1 h → St k D2 h) (h0 : St 0 D hp)
    (hbody : ∀ rec l Dn k D1 h w1, (rec.state = .ready ∧ rec.pending = none) → k < N → St k D1 h → DExt x.w0 D D1 → x.w0.heap.size ≤ w1.heap.size → RoundG P x.n l rec [(Dn, .deferred (some []))] (keys ((l, .loop rec) :: ([(Dn, .deferred (some []))] ++ hp))) ((pm, arg k) :: fr) D1 h w1 assign body (St (k + 1)) Sp)
    (hdone : ∀ Dn D' hp', x.w0.heap.size ≤ Dn → DExt x.w0 D D' → St N D' hp' → WP ⟨x.n, markOf Dn :: x.ds, x.S, x.w0⟩ fr D' ((Dn, .deferred (some [])) :: hp') .normal Q)
    (hstop : ∀ Dn c D' hp', x.w0.heap.size ≤ Dn → DExt x.w0 D D' → Sp c D' hp' → WC P ⟨x.n, markOf Dn :: x.ds, x.S, x.w0⟩ fr D' ((Dn, .deferred (some [])) :: hp') c Q) :
    WC P x fr D hp (.rangeFunc g #[pm] assign body) Q := by
  refine WC.rangeFuncM (K := fun D' hp' pend => DExt x.w0 D D' ∧ ((pend = none ∧ St N D' hp') ∨ ∃ c, pend = some c ∧ Sp c D' hp')) hg hc (fun rec l Dn w1 hst hpe hps has hbo hT hDn hl hI => ?_) (fun Dn D' hp' pend hDn hK => ?_)
  · exact iter_calls (pre := [(Dn, .deferred (some []))]) hit hpm St Sp hkey hkeyp hmono h0 hst hpe hps has hbo hT hI (fun k D1 h w2 hk hs hX hsz => hbody rec l Dn k D1 h w2 ⟨hst, hpe⟩ hk hs hX hsz)
  · obtain ⟨hX, ⟨rfl, hs⟩ | ⟨c, rfl, hs⟩⟩ := hK
    · exact hdone Dn D' hp' hDn hX hs
    · exact hstop Dn c D' hp' hDn hX hs
/-- .. within a round -/
theorem WCF.rangeIter {l0 : Nat} {rec0 : Loop} (k0 : Nat) (hk0 : hp[k0]? = some (l0, .loop rec0)) (hit : ∀ w, IterC P gf lb N arg D w) (hds : x.ds = []) (hg : opv fr g = some (.func (.func gf) #[] lb.toArray)) (hc : ∀ args w, (callFunc gf args).run P w = .ok (.enter gf args) w) (hpm : Nat.blt pm x.n = true)
    (St : Nat → Imm → Hp → Prop) (Sp : Code → Imm → Hp → Prop) (hkey : ∀ k D' h, St k D' h → keys h = keys hp) (hkeyp : ∀ c D' h, Sp c D' h → keys h = keys hp) (hmono : ∀ k D1 D2 h, DExt x.w0 D1 D2 → St k D1 h → St k D2 h) (h0 : St 0 D hp)
    (hbody : ∀ rec l k D1 h w1, (rec.state = .ready ∧ rec.pending = none) → k < N → St k D1 h → DExt x.w0 D D1 → x.w0.heap.size ≤ w1.heap.size → RoundG P x.n l rec [] (keys ((l, .loop rec) :: ([] ++ hp))) ((pm, arg k) :: fr) D1 h w1 assign body (St (k + 1)) Sp)
    (hdone : ∀ D' hp', DExt x.w0 D D' → St N D' hp' → WP x fr D' hp' .normal Q)
    (hstop : ∀ c D' hp', DExt x.w0 D D' → Sp c D' hp' → WCF P (some l0) x fr D' hp' c Q) :
    WCF P (some l0) x fr D hp (.rangeFunc g #[pm] assign body) Q := by
  refine WCF.rangeFunc (K := fun D' hp' pend => DExt x.w0 D D' ∧ ((pend = none ∧ St N D' hp') ∨ ∃ c, pend = some c ∧ Sp c D' hp')) hk0 hds hg hc (fun rec l w1 hst hpe hps has hbo hT hl hI => ?_) (fun D' hp' pend hK => ?_)
  · exact iter_calls (pre := []) hit hpm St Sp hkey hkeyp hmono h0 hst hpe hps has hbo hT hI (fun k D1 h w2 hk hs hX hsz => hbody rec l k D1 h w2 ⟨hst, hpe⟩ hk hs hX hsz)
  · obtain ⟨hX, ⟨rfl, hs⟩ | ⟨c, rfl, hs⟩⟩ := hK
    · exact hdone D' hp' hX hs
    · exact hstop c D' hp' hX hs
end iter
theorem WCF.freezeK {r : Option Nat} {c : Code} (k : Nat) {b : Nat} {o : Obj} (hk : hp[k]? = some (b, o)) (h : D b = none → WCF P r x fr (D.add b o) (hp.eraseIdx k) c Q) : WCF P r x fr D hp c Q :=
  fun a w hA => h (hA.i.freezeK k hk).1 a w ⟨hA.f, (hA.i.freezeK k hk).2⟩
theorem stepR_scope {P : Program} {b : Frame} {a : Act} {k : List Item} {cs : List Frame} {w : World} {c : Code} : step P (lone (b.atR a (.code (.scope c) :: k)) cs w) = .next (lone (b.atR a (.code c :: .inScope c :: k)) cs w) :=
  step_lone_go (by simp [stepG, stepG.exec, Frame.atR])
theorem stepR_inScope {P : Program} {b : Frame} {a : Act} {k : List Item} {cs : List Frame} {w : World} {c : Code} : step P (lone (b.atR a (.inScope c :: k)) cs w) = .next (lone (b.atR a k) cs w) :=
  step_lone_go (by simp [stepG, stepG.exec, Frame.atR])
theorem wpIn_scope_straight {F : Fence} {n : Nat} {a : Act} {w : World} {c : Code} (h : c.wpIn F n P (Exit.noGoto Q) a w) : (Code.scope c).wpIn F n P Q a w := by
  intro b k cs hro hb hr
  have h0 : (lone (b.atR a (.code (.scope c) :: k)) cs w).fenced P F := fenced_calm hb hr rfl
  obtain ⟨e, a₁, w₁, hq, harr⟩ := h b (.inScope c :: k) cs hro hb hr
  cases e with
  | normal => exact ⟨.normal, a₁, w₁, hq, .head h0 stepR_scope (StepsIn.trans harr (.one (fenced_calm hb hr rfl) stepR_inScope))⟩
  | exit id =>
    have hx : exitTo id (.inScope c :: k) = exitTo id k := by simp [exitTo]
    exact ⟨.exit id, a₁, w₁, hq, fun k' hk => .head h0 stepR_scope (harr.1 k' (by rw [hx]; exact hk)),
      fun hr' hk => let ⟨k₁, h1, h2⟩ := harr.2 hr' (by rw [hx]; exact hk); ⟨k₁, h1, .head h0 stepR_scope h2⟩⟩
  | goto l => exact hq.elim
  | ret => exact ⟨_, a₁, w₁, hq, .of_steps (.one h0 stepR_scope) harr⟩
  | panic ch => exact ⟨_, a₁, w₁, hq, .of_steps (.one h0 stepR_scope) harr⟩
  | outgrown => exact ⟨_, a₁, w₁, hq, .of_steps (.one h0 stepR_scope) harr⟩
theorem WCF.scope {r : Option Nat} {c : Code} (h : WCF P r x fr D hp c (Exit.noGoto Q)) : WCF P r x fr D hp (.scope c) Q := fun a w hA => wpIn_scope_straight (h a w hA)
theorem WCF.label {r : Option Nat} {l : Nat} (h : WP x fr D hp .normal Q) : WCF P r x fr D hp (.label l) Q := fun a w hA => wpIn_label (h a w hA)
end
section ow
variable {P : Program} {x : Cx} {fr : Fr} {D : Imm} {hp : Hp} {Q : Exit → Act → World → Prop}
theorem Inv.freezeOw {α : Type} [Inhabited α] {f : α → List Value} {m : Nat} (hf : ∀ x, (f x).length = m) (base hp0 : Hp) (o : Option Ow) (e : TypeId) (l : List α) {S : List Nat} {w0 w : World} (ho : owP w0 o l.length m) (h : Inv D (base ++ owH o e (l.flatMap f) hp0) S w0 w) :
    ∃ D', DExt w0 D D' ∧ SlL D' m (l.map f) (owAt o) l.length ∧ Inv D' (base ++ hp0) S w0 w := by
  cases o with
  | none =>
    have h0 : l.length = 0 := ho
    have hl : l = [] := List.length_eq_zero_iff.1 h0
    subst hl
    exact ⟨D, DExt.refl _ _, ⟨rfl, fun i r hr => by simp at hr⟩, h⟩
  | some u =>
    have hk : (base ++ owH (some u) e (l.flatMap f) hp0)[base.length]? = some (u.b, .cells (l.flatMap f ++ u.rest).toArray e (0, 0)) := by simp [owH]
    have he : (base ++ owH (some u) e (l.flatMap f) hp0).eraseIdx base.length = base ++ hp0 := by
      rw [List.eraseIdx_append_of_length_le (by omega)]; simp [owH]
    obtain ⟨hn, hI⟩ := h.freezeK base.length hk
    rw [he] at hI
    exact ⟨_, (DExt.refl _ _).add hn ho.1, SlL.ofBlock hf (Imm.add_self _ _ _), hI⟩
theorem WL.freezeOw {α : Type} [Inhabited α] {f : α → List Value} {m : Nat} (hf : ∀ x, (f x).length = m) {ops : Array Oper} {c : List Oper} (base hp0 : Hp) (o : Option Ow) (e : TypeId) (l : List α) {w0 : World} (hw : x.w0 = w0) (ho : owP w0 o l.length m) (hhp : hp = base ++ owH o e (l.flatMap f) hp0)
    (h : ∀ D', DExt w0 D D' → SlL D' m (l.map f) (owAt o) l.length → WL P x ops fr D' (base ++ hp0) c Q) : WL P x ops fr D hp c Q := fun a w hA => by
  subst hhp; subst hw
  obtain ⟨D', h1, h2, h3⟩ := hA.i.freezeOw hf base hp0 o e l ho
  exact h D' h1 h2 a w ⟨hA.f, h3⟩
theorem WA.freezeOw {α : Type} [Inhabited α] {f : α → List Value} {m : Nat} (hf : ∀ x, (f x).length = m) {ops : Array Oper} {D0 : Imm} {hpx : Hp} {plan : List (Nat × Bool)} (base hp0 : Hp) (o : Option Ow) (e : TypeId) (l : List α) {w0 : World} (hw : x.w0 = w0) (ho : owP w0 o l.length m) (hhp : hp = base ++ owH o e (l.flatMap f) hp0)
    (h : ∀ D', DExt w0 D D' → SlL D' m (l.map f) (owAt o) l.length → WA P x ops D0 hpx plan fr D' (base ++ hp0) Q) : WA P x ops D0 hpx plan fr D hp Q := fun a w hA => by
  subst hhp; subst hw
  obtain ⟨D', h1, h2, h3⟩ := hA.i.freezeOw hf base hp0 o e l ho
  exact h D' h1 h2 a w ⟨hA.f, h3⟩
theorem WH.freezeOw {α : Type} [Inhabited α] {f : α → List Value} {m : Nat} (hf : ∀ x, (f x).length = m) {ops : Array Oper} {D0 : Imm} {hpx : Hp} {n : Nat} {listed : Array Bool} (base hp0 : Hp) (o : Option Ow) (e : TypeId) (l : List α) {w0 : World} (hw : x.w0 = w0) (ho : owP w0 o l.length m) (hhp : hp = base ++ owH o e (l.flatMap f) hp0)
    (h : ∀ D', DExt w0 D D' → SlL D' m (l.map f) (owAt o) l.length → WH P x ops D0 hpx n listed fr D' (base ++ hp0) Q) : WH P x ops D0 hpx n listed fr D hp Q := fun a w hA => by
  subst hhp; subst hw
  obtain ⟨D', h1, h2, h3⟩ := hA.i.freezeOw hf base hp0 o e l ho
  exact h D' h1 h2 a w ⟨hA.f, h3⟩
variable {ty : TypeId}
theorem Inv.nil {S : List Nat} {w0 w : World} (h : Inv D hp S w0 w) : Inv D [] S w0 w := h.sub (fun _ he => by cases he) List.nodup_nil
end ow
section maps
open Go.WideElems (findIdx_born findIdx_arr modify_last)
variable {α : Type} [DecidableEq α] {kv : α → Value} {P : Program} {x : Cx} {fr : Fr} {D : Imm} {hp : Hp} {ty : TypeId} {Q : Exit → Act → World → Prop} {t k e : TypeId} {es : Array MapEntry} {clock b j : Nat} {F : α → Option Int}
/-- what a key holds, and whether it has an entry -/
theorem Yd.lookOk {m i : Operand} (hinj : ∀ x y, kv x = kv y → x = y) (L : WideMaps.KeyLaw P k) (hkey : ∀ y, ∃ l, keyOf P k (kv y) = some l) (hu : P.underlying t = some (.map k e)) (hz : ∀ w, (zeroValue e).run P w = .ok (it 0) w)
    (hm : opv fr m = some (.map (some b))) {y : α} (hi : opv fr i = some (kv y)) (hj : hp[j]? = some (b, .map es clock)) (hM : MapR kv es clock F) : Yd P x fr D hp (.lookup t m i true) ty (.tuple #[it ((F y).getD 0), .bool (F y).isSome]) := fun a w _ _ _ _ hA hI => by
  have hb := hI.own _ _ (mem_of_get? hj)
  have hobj : (getObj b).run P w = .ok (.map es clock) w := by simp [getObj, Sem.run, hb]
  obtain ⟨l, hl⟩ := hkey y
  rcases find_of hinj L hkey hM y w with ⟨h1, _, h3⟩ | ⟨q, e0, v, h1, _, _, _, h5⟩
  · have : (Instr.lookup t (.map (some b)) (kv y) true).run P w = .ok (.tuple #[it 0, .bool false]) w := by
      simp [Instr.lookup, run_underlying hu, hobj, L.check w _ hl, h1, hz]
    simp only [execOp, hA.eval hm, hA.eval hi, h3]
    simp [this]
  · have : (Instr.lookup t (.map (some b)) (kv y) true).run P w = .ok (.tuple #[it v, .bool true]) w := by
      simp [Instr.lookup, run_underlying hu, hobj, L.check w _ hl, h1]
    simp only [execOp, hA.eval hm, hA.eval hi, h5]
    simp [this]
/-- an entry is put -/
theorem SO.mapPut {m i o : Operand} (hinj : ∀ x y, kv x = kv y → x = y) (L : WideMaps.KeyLaw P k) (hkey : ∀ y, ∃ l, keyOf P k (kv y) = some l) (hu : P.underlying t = some (.map k e))
    (hm : opv fr m = some (.map (some b))) {y : α} {u : Int} (hi : opv fr i = some (kv y)) (ho : opv fr o = some (it u)) (hj : hp[j]? = some (b, .map es clock)) (hM : MapR kv es clock F) : SO P x fr D hp (.mapUpdate t m i o) ty Q (StoK kv D hp j b F y u) := fun a w dst pos af g next hA hn => by
  have hb := hA.i.own _ _ (mem_of_get? hj)
  have hobj : (getObj b).run P w = .ok (.map es clock) w := by simp [getObj, Sem.run, hb]
  have hset : ∀ o', (setObj b o').run P w = .ok () { w with heap := w.heap.setIfInBounds b o' } := fun o' => by simp [setObj, Sem.run, hb]
  obtain ⟨l, hl⟩ := hkey y
  unfold Oper.wp
  rcases find_of hinj L hkey hM y w with ⟨h1, h2, h3⟩ | ⟨q, e0, v, h1, h2, h3, h4, h5⟩
  · have : (Instr.mapUpdate t (.map (some b)) (kv y) (it u)).run P w = .ok () { w with heap := w.heap.setIfInBounds b (.map (es.push { key := kv y, val := it u, born := clock }) (clock + 1)) } := by
      simp [Instr.mapUpdate, run_underlying hu, hobj, L.check w _ hl, h1, hset]
    simp only [execOp, hA.f.eval hm, hA.f.eval hi, hA.f.eval ho]
    simp only [this, Sem.run_bind, Result.andThen_ok, Sem.run_pure, Sem.run_map, Oper.upon_value, Oper.upon_skip]
    exact hn _ _ _ _ ⟨rfl, _, _, rfl, hM.push hinj h2 u⟩ (hA.i.set hj _)
  · have hq : es[q]? = some e0 := by simpa using h2
    have hmod : es.modify q (fun e => { e with key := kv y, val := it u }) = es.modify q (fun e => { e with val := it u }) := by
      apply Array.ext'
      rw [Array.toList_modify, Array.toList_modify]
      apply List.ext_getElem?
      intro r
      rw [List.getElem?_modify, List.getElem?_modify]
      by_cases hr : q = r
      · subst hr; rw [h2]; simp [← h3]
      · simp [hr]
    have : (Instr.mapUpdate t (.map (some b)) (kv y) (it u)).run P w = .ok () { w with heap := w.heap.setIfInBounds b (.map (es.modify q fun e => { e with key := kv y, val := it u }) clock) } := by
      simp [Instr.mapUpdate, run_underlying hu, hobj, L.check w _ hl, h1, hq, h3, L.stays w hl, hset]
    rw [hmod] at this
    simp only [execOp, hA.f.eval hm, hA.f.eval hi, hA.f.eval ho]
    simp only [this, Sem.run_bind, Result.andThen_ok, Sem.run_pure, Sem.run_map, Oper.upon_value, Oper.upon_skip]
    exact hn _ _ _ _ ⟨rfl, es.modify q (fun e => { e with val := it u }), clock, rfl, hM.write hinj h2 h3 u _ (fun e => ⟨rfl, rfl, rfl⟩)⟩ (hA.i.set hj _)
end maps
end Go.W
/- Sets of bits in unsigned numbers. -/
namespace Go.W
section
variable {P : Program} {x : Cx} {fr : Fr} {D : Imm} {hp : Hp} {ty : TypeId}
end
end Go.W
/- An element of an array value. -/
namespace Go.W
section
variable {P : Program} {x : Cx} {fr : Fr} {D : Imm} {hp : Hp} {ty : TypeId}
theorem Yd.index {t e m n j : Nat} {p q : Operand} {cs : List Value} {v : Value} (hu : P.underlying t = some (.array m e)) (hz : ∀ w, (sizeOf e).run P w = .ok n w)
    (hp' : opv fr p = some (.agg cs.toArray)) (hq : opv fr q = some (nt j)) (hj : j < m) (hv : ∀ w, (part e cs.toArray (j * n)).run P w = .ok v w) : Yd P x fr D hp (.index t p q) ty v := fun a w _ _ _ _ hA _ => by
  simp only [execOp, hA.eval hp', hA.eval hq]
  have h1 : (0 : Int) ≤ (j : Int) := by omega
  have h2 : (j : Int) < (m : Int) := by omega
  have : (Instr.index t (.agg cs.toArray) (.int .i64 (j : Int))).run P w = .ok v w := by
    unfold Instr.index
    simp [asIntOf, run_underlying hu, hz, h1, h2, hv]
    intro h; omega
  simp [this]
end
end Go.W
/- Iterators whose rounds may take new blocks into their own; what is deferred ahead of a range over a function. -/
namespace Go.W
section
variable {P : Program} {x : Cx} {fr : Fr} {D : Imm} {hp : Hp} {Q : Exit → Act → World → Prop} {ty : TypeId}
theorem Inv.toKeys {S : List Nat} {w0 w : World} (h : Inv D hp S w0 w) : Inv D hp (keys hp) w w := Inv.frame (own := []) h (fun _ h => h)
theorem WLF.ydg {r : Option Nat} {ops : Array Oper} {rest : List Oper} {d : Tmp} {op : Op} {pos : String} {af : Array Edge} {j : Nat} {b : Bool} {v : Value} (hn : ∀ c, op ≠ .defer c) (hg : gval ops fr j = some (.bool b)) (hy : Yd P x fr D hp op ty v) (hd : Nat.blt d x.n = true) (h : WLF P r x ops ((d, v) :: fr) D hp rest Q) :
    WLF P r x ops fr D hp (⟨some d, op, ty, pos, af, some (j, b)⟩ :: rest) Q := fun a w hA => by
  unfold wpListIn
  rw [if_pos (by rw [wanted_of hA.f hg]; simp)]
  refine wp_in hn ?_
  unfold Oper.wp
  rw [hy a w _ _ _ _ hA.f hA.i, Oper.upon_value]
  exact h _ _ ⟨hA.f.put hd v, hA.i⟩
theorem WLF.skip {r : Option Nat} {ops : Array Oper} {rest : List Oper} {dst : Option Tmp} {op : Op} {pos : String} {af : Array Edge} {j : Nat} {b : Bool} (_hn : ∀ c, op ≠ .defer c) (hg : gval ops fr j = some (.bool !b)) (hd : dstB dst x.n = true) (h : WLF P r x ops (putFr dst undef fr) D hp rest Q) :
    WLF P r x ops fr D hp (⟨dst, op, ty, pos, af, some (j, b)⟩ :: rest) Q := fun a w hA => by
  unfold wpListIn
  rw [if_neg (by rw [wanted_of hA.f hg]; cases b <;> simp)]
  exact ⟨fun _ _ => trivial, h _ _ ⟨hA.f.putO hd undef, hA.i⟩⟩
/-! ### a deferred call behind ranges over functions -/
end
end Go.W
/- make with an unsigned length; the sets that are left. -/
namespace Go.W
section
variable {P : Program} {x : Cx} {fr : Fr} {D : Imm} {hp : Hp} {ty : TypeId} {Q : Exit → Act → World → Prop} {ops : Array Oper}
end
end Go.W
/- Regions in which three operations can come next; a growing slice's value. -/
namespace Go.W
section
variable {P : Program} {x : Cx} {ops : Array Oper} {fr : Fr} {D : Imm} {hp : Hp} {Q : Exit → Act → World → Prop} {D0 : Imm} {hp0 : Hp} {n i j k : Nat} {listed : Array Bool}
theorem WH.three (hr : decide (Region.ready .any ops listed = [i, j, k]) = true) (h1 : WHo P x ops D0 hp0 n listed fr D hp Q i) (h2 : WHo P x ops D0 hp0 n listed fr D hp Q j) (h3 : WHo P x ops D0 hp0 n listed fr D hp Q k) : WH P x ops D0 hp0 (n + 1) listed fr D hp Q := fun a w hA hI =>
  wpAnyH_all (of_decide_eq_true hr) (by simp) fun m hm => by
    simp only [List.mem_cons, List.mem_nil_iff, or_false] at hm
    rcases hm with rfl | rfl | rfl
    · exact h1 a w hA hI
    · exact h2 a w hA hI
    · exact h3 a w hA hI
/-- a round ends; what was made immutable in it is let go -/
theorem WP.againS {D1 : Imm} {hp' : Hp} {α : Type} {F : α → Fr} {φ : α → Prop} {m : α → Nat} {k : Nat} (z : α) (hz : φ z) (hm : m z < k) (hf : subB (F z) fr) (hs : ∀ e, e ∈ hp' → e ∈ hp) (hn : (hp.map Prod.fst).Nodup → (hp'.map Prod.fst).Nodup) (hD : ∀ b o, D b = some o → D1 b = some o) :
    WP x fr D1 hp .normal (Exit.then (fun a w => ∃ z, φ z ∧ m z < k ∧ At x (F z) D hp' a w) Q) :=
  fun _ _ h => ⟨z, hz, hm, at_less ⟨h.f, h.i.shrink hD⟩ hf hs hn⟩
end
end Go.W
/- A map of one's own that holds just true: which keys it holds. -/
namespace Go.W
section
variable {α : Type} [DecidableEq α] {kv : α → Value}
structure MapB (kv : α → Value) (es : Array MapEntry) (clock : Nat) (F : α → Bool) : Prop where
  ent : ∀ e ∈ es.toList, ∃ x, e.key = kv x ∧ e.val = .bool true ∧ F x = true
  all : ∀ x, F x = true → ∃ e ∈ es.toList, e.key = kv x
theorem MapB.empty (kv : α → Value) : MapB kv #[] 0 (fun _ => false) := ⟨fun e he => (by simp at he), fun x h => (by cases h)⟩
variable {P : Program} {x : Cx} {fr : Fr} {D : Imm} {hp : Hp} {ty : TypeId} {Q : Exit → Act → World → Prop} {t k e : TypeId} {es : Array MapEntry} {clock b j : Nat} {F : α → Bool}
end
end Go.W
/- A block of signed numbers of one's own. -/
namespace Go.W
section
variable {D : Imm} {hp : Hp}
end
end Go.W
/- Drawn regions in the rounds of a range over a function. -/
namespace Go.W
section
variable {P : Program} {x : Cx} {ops : Array Oper} {fr : Fr} {D : Imm} {hp : Hp} {ty : TypeId} {Q : Exit → Act → World → Prop}
theorem noLets.round {l : Nat} {R : Ending → World → Prop} : ¬ LetsOut (roundPost P l R) := fun ⟨_, _, h⟩ => h
theorem wpOp_inR {r : Option Nat} {i : Nat} {K : Act → World → Prop} {a : Act} {w : World} (hd : ∀ o, ops[i]? = some o → ∀ c, o.op ≠ .defer c) (hno : ¬ LetsOut Q) (h : wpOp P ops Q i K a w) : wpOpIn (Fx r) 0 P ops Q i K a w := by
  unfold wpOpIn
  unfold wpOp at h
  cases ho : ops[i]? with
  | none => simp only [ho] at h ⊢; exact h
  | some o =>
    simp only [ho] at h ⊢
    split at h
    · rename_i hw
      rw [if_pos hw]
      rcases h with h | h
      · exact wp_in (hd o ho) h
      · exact absurd h.2 hno
    · rename_i hw
      rw [if_neg hw]
      exact ⟨fun _ _ => trivial, h⟩
theorem wpAnyIn_tailR {r : Option Nat} {n : Nat} (T : TailC ops n) : ∀ (l : List Oper) (k : Nat) (listed : Array Bool) (a : Act) (w : World), n ≤ k → k + l.length = ops.size → (∀ j, j < l.length → l[j]? = ops[k + j]?) → LstT ops k listed →
    wpListIn (Fx r) 0 P ops Q l a w → wpAnyIn (Fx r) 0 P .any ops Q l.length listed a w
  | [], k, listed, a, w, hn, hk, _, L, h => by
    refine ⟨?_, h⟩
    apply List.eq_nil_iff_forall_not_mem.2
    intro t ht
    obtain ⟨hun, o, ho, _⟩ := mem_ready.1 ht
    have hts : t < ops.size := (Array.getElem?_eq_some_iff.1 ho).1
    rw [getD_tf (by rw [L.size]; exact hts)] at hun
    have := (L.no t hts).1 hun
    simp at hk; omega
  | o :: l, k, listed, a, w, hn, hk, hl, L, h => by
    have hks : k < ops.size := by simp at hk; omega
    have h0 : ops[k]? = some o := by simpa using (hl 0 (by simp)).symm
    have hr := tail_ready T L hn hks
    refine ⟨fun h1 => ?_, fun i hi => ?_⟩
    · have := (hr k).2 rfl
      rw [h1] at this; cases this
    · have hik := (hr i).1 hi
      subst hik
      have hw : wpOpIn (Fx r) 0 P ops Q i (wpListIn (Fx r) 0 P ops Q l) a w := by unfold wpOpIn; simp only [h0]; exact h
      refine wpOpIn_mono (fun a' w' h' => wpAnyIn_tailR T l (i + 1) _ a' w' (by omega) (by simp at hk; omega) (fun j hj => by
        have := hl (j + 1) (by simp; omega)
        rw [show i + 1 + j = i + (j + 1) by omega]; simpa using this) ⟨by simp [L.size], fun j hj => ?_⟩ h') hw
      by_cases e : i = j
      · subst e
        have : (listed.setIfInBounds i true).getD i false = true := by simp [L.size, hj]
        rw [this]; simp
      · rw [getD_set_ne false e, L.no j hj]; omega

theorem wpAnyIn_headsR {r : Option Nat} {C : World → Prop} {n : Nat} {tl : List Oper} (hnd : ∀ (i : Nat) (o : Oper), ops[i]? = some o → ∀ c, o.op ≠ .defer c) (hno : ¬ LetsOut Q) (T : TailC ops n) (htl : n + tl.length = ops.size) (htl' : ∀ j, j < tl.length → tl[j]? = ops[n + j]?) :
    ∀ (m : Nat) (l : List Nat) (listed : Array Bool) (a : Act) (w : World), l.length = m → C w → Lst ops n l listed → remQ P ops C (fun a' => ∀ w', C w' → wpListIn (Fx r) 0 P ops Q tl a' w') l a →
      wpAnyIn (Fx r) 0 P .any ops Q (l.length + tl.length) listed a w := by
  intro m
  induction m with
  | zero =>
    intro l listed a w hm hw L h
    have hl : l = [] := List.length_eq_zero_iff.1 hm
    subst hl
    rw [List.length_nil, Nat.zero_add]
    exact wpAnyIn_tailR T tl n listed a w (Nat.le_refl _) htl htl' ⟨L.size, fun i hi => by rw [L.no i hi]; simp⟩ (h w hw)
  | succ m ih =>
    intro l listed a w hm hw L h
    have hne : l ≠ [] := fun e => by rw [e] at hm; cases hm
    rw [show l.length + tl.length = (m + tl.length) + 1 by omega]
    refine ⟨fun h0 => absurd h0 (mem_of_least T L hne), fun i hi => ?_⟩
    obtain ⟨hil, hnw⟩ := L.ready T hne hi
    obtain ⟨l1, l2, rfl⟩ := List.append_of_mem hil
    have hap : ∀ j ∈ l1, apartB ops i j = true := fun j hj => by
      have hji : j < i := by
        have := L.sorted
        rw [List.pairwise_append] at this
        exact this.2.2 j hj i List.mem_cons_self
      rcases T.ap i j (L.below i hil) hji with h1 | h1
      · rw [hnw j (List.mem_append_left _ hj)] at h1; cases h1
      · exact h1
    obtain ⟨o, v, ho, hy, hr⟩ := remQ_pull T.sel i l2 l1 a hap h
    have hlen : (l1 ++ l2).length = m := by simp at hm ⊢; omega
    have key : ∀ w', C w' → wpAnyIn (Fx r) 0 P .any ops Q (m + tl.length) (listed.setIfInBounds i true) (a.put o.dst v) w' := fun w' hw' => by
      have := ih (l1 ++ l2) _ _ w' hlen hw' (L.next T hnw) hr
      rwa [hlen] at this
    exact wpOp_inR (hnd i) hno (wpOp_of_qOp (C := C) (K := fun a' => a' = a.put o.dst v) hw (fun a' w' hw' e => by subst e; exact key w' hw') (hy.qOp ho rfl))

theorem WQ.tailR {r : Option Nat} {tl : List Oper} (h : WLF P r x ops fr D hp tl Q) : WQ P x ops D hp (fun a' => ∀ w', Inv D hp x.S x.w0 w' → wpListIn (Fx r) 0 P ops Q tl a' w') [] fr := fun a hA w hI => h a w ⟨hA, hI⟩
theorem WCF.tail {r : Option Nat} {id : Nat} {ops : List Oper} (n : Nat) (heads : List Nat) (hh : List.range n = heads) (hm : P.follows .mixedOrders = true) (hB : (tailB ops.toArray n && noDef ops) = true) (hno : ¬ LetsOut Q)
    (h : WQ P x ops.toArray D hp (fun a' => ∀ w', Inv D hp x.S x.w0 w' → wpListIn (Fx r) 0 P ops.toArray Q (ops.drop n) a' w') heads fr) : WCF P r x fr D hp (.region id ops.toArray true) Q := fun a w hA => by
  simp only [Bool.and_eq_true] at hB
  have T := tailC_of hB.1
  refine wpIn_region_any (F := Fx r) hm ?_
  have hn : n < ops.length := by simpa using T.lt
  have hq := h a hA.f
  rw [← hh] at hq
  have := wpAnyIn_headsR (P := P) (Q := Q) (C := Inv D hp x.S x.w0) (tl := ops.drop n) (noDef_spec hB.2) hno T (by simp; omega) (fun j hj => by simp [List.getElem?_drop]) n (List.range n) (Array.replicate ops.toArray.size false) a { w with drawn := w.drawn + 1 } (by simp) (hA.i.drew _)
    ⟨by simp, List.pairwise_lt_range, fun i hi => List.mem_range.1 hi, fun i hi => by
      simp only [List.mem_range]
      constructor
      · intro _; omega
      · intro _; have : i < ops.length := by simpa using hi
        simp [this], fun i j hi hni _ => absurd (List.mem_range.2 hi) hni⟩ hq
  rw [List.length_range, List.length_drop, show n + (ops.length - n) = ops.toArray.size by simp; omega] at this
  exact this
theorem WCF.loop {r : Option Nat} {α : Type} {c : Code} (F : α → Fr) (H : α → Hp) (I : α → Imm) (φ : α → Prop) (m : α → Nat) (x0 : α) (h0 : φ x0)
    (hstart : ∀ a w, At x fr D hp a w → At x (F x0) (I x0) (H x0) a w)
    (hround : ∀ y, φ y → WCF P r x (F y) (I y) (H y) c (Exit.then (fun a w => ∃ z, φ z ∧ m z < m y ∧ At x (F z) (I z) (H z) a w) Q)) : WCF P r x fr D hp (.loop c) Q := by
  intro a w hA
  have key : ∀ n y a w, m y < n → φ y → At x (F y) (I y) (H y) a w → Code.roundsIn (Fx r) 0 P c Q n a w := by
    intro n
    induction n with
    | zero => intro y a w h; omega
    | succ n ih =>
      intro y a w hm hy hA
      refine wpIn_mono (hround y hy a w hA) ?_
      intro e a' w' hq
      cases e with
      | normal =>
        obtain ⟨z, hz, hlt, hA'⟩ := hq
        exact ih z a' w' (by omega) hz hA'
      | _ => exact hq
  exact wpIn_loop_rounds (m x0 + 1) (key _ x0 a w (Nat.lt_succ_self _) h0 (hstart a w hA))
theorem WCF.loopF {r : Option Nat} {α : Type} {c : Code} (F : α → Fr) (φ : α → Prop) (m : α → Nat) (x0 : α) (h0 : φ x0) (hstart : subB (F x0) fr)
    (hround : ∀ y, φ y → WCF P r x (F y) D hp c (Exit.then (fun a w => ∃ z, φ z ∧ m z < m y ∧ At x (F z) D hp a w) Q)) : WCF P r x fr D hp (.loop c) Q :=
  WCF.loop F (fun _ => hp) (fun _ => D) φ m x0 h0 (fun _ _ h => at_fr h hstart) hround
theorem QuietPanic.round {l : Nat} {R : Ending → World → Prop} : QuietPanic (roundPost P l R) := fun c d v a w hq => by
  cases d <;> exact hq
theorem leaves_putM {fn : Func} {R : Ending → World → Prop} {tmps : Array Value} {d : Nat} {v : Value} (h : d ∉ resSlots fn) : ∀ (ds : List Deferred) (u : FrameMode) (w : World), LeavesInM Fence.wide 0 P fn (tmps.setIfInBounds d v) R ds u w → LeavesInM Fence.wide 0 P fn tmps R ds u w := by
  intro ds
  induction ds with
  | nil =>
    intro u w hl
    cases u with
    | run => exact hl
    | returning => obtain ⟨r, h1, h2⟩ := hl; exact ⟨r, by rw [results_put h] at h1; exact h1, h2⟩
    | panicking c => exact hl
  | cons e ds ih =>
    intro u w ⟨h1, h2⟩
    refine ⟨h1, ?_⟩
    rcases h2 with ⟨r, w', h3, h4, h5⟩ | ⟨h3, fv, cap, f, args, h4, h5, h6, h7⟩
    · exact .inl ⟨r, w', h3, h4, ih _ _ h5⟩
    · refine .inr ⟨h3, fv, cap, f, args, h4, h5, h6, h7.mono fun e u w hh => ?_⟩
      cases e with
      | returned r => exact ih _ _ hh
      | panicked c => exact ih _ _ hh
      | outgrown => exact hh
theorem QuietOn.bodyM {fn : Func} {R : Ending → World → Prop} (h : offB ops fn = true) : QuietOn ops (bodyPostM Fence.wide 0 P fn R) := fun i o v c a w ho hq => by
  have hm : o ∈ ops.toList := by
    have := Array.mem_of_getElem? ho
    exact Array.mem_toList_iff.2 this
  have h1 := List.all_eq_true.1 h o hm
  cases hd : o.dst with
  | none => rw [hd] at hq; exact hq
  | some d =>
    rw [hd] at h1 hq
    have hn : d ∉ resSlots fn := by simpa using h1
    exact leaves_putM hn _ _ _ hq
theorem wpAny_in {r : Option Nat} (hnd : ∀ (i : Nat) (o : Oper), ops[i]? = some o → ∀ c, o.op ≠ .defer c) (hno : ¬ LetsOut Q) : ∀ (fuel : Nat) (listed : Array Bool) (a : Act) (w : World), wpAny P .any ops Q fuel listed a w → wpAnyIn (Fx r) 0 P .any ops Q fuel listed a w
  | 0, _, _, _, h => h
  | fuel + 1, _, _, _, h => ⟨h.1, fun i hi => wpOp_inR (hnd i) hno (wpOp_mono (fun a' w' h' => wpAny_in hnd hno fuel _ a' w' h') (h.2 i hi))⟩
theorem WCF.drawH {r : Option Nat} {id : Nat} {l : List Oper} (hp0 : Hp) (hm : P.follows .mixedOrders = true) (hB : noDef l = true) (hno : ¬ LetsOut Q) (h0 : ∀ w, Inv D hp x.S x.w0 w → Inv D hp0 x.S x.w0 w)
    (h : WH P x l.toArray D hp0 l.length (List.replicate l.length false).toArray fr D hp Q) : WCF P r x fr D hp (.region id l.toArray true) Q := fun a w hA => by
  refine wpIn_region_any (F := Fx r) hm (wpAny_in (noDef_spec hB) hno _ _ _ _ (wpAny_of_held (S := Inv D hp0 x.S x.w0) _ _ _ _ ?_))
  have := h _ _ ⟨hA.f, hA.i.drew (w.drawn + 1)⟩ (h0 _ (hA.i.drew _))
  have e : (Array.replicate l.toArray.size false) = (List.replicate l.length false).toArray := by simp
  rw [e]
  exact this
theorem WLF.sog {r : Option Nat} {rest : List Oper} {dst : Option Tmp} {op : Op} {pos : String} {af : Array Edge} {j : Nat} {b : Bool} {K : Value → Imm → Hp → Prop} (hn : ∀ c, op ≠ .defer c) (hg : gval ops fr j = some (.bool b)) (hs : SO P x fr D hp op ty Q K) (hd : dstB dst x.n = true) (h : ∀ v D' hp', K v D' hp' → WLF P r x ops (putFr dst v fr) D' hp' rest Q) :
    WLF P r x ops fr D hp (⟨dst, op, ty, pos, af, some (j, b)⟩ :: rest) Q := fun a w hA => by
  unfold wpListIn
  rw [if_pos (by rw [wanted_of hA.f hg]; simp)]
  exact wp_in hn (hs a w _ _ _ _ _ hA fun v D' hp' _ hk hi => h v D' hp' hk _ _ ⟨hA.f.putO hd v, hi⟩)
theorem WQ.skipU {K : Act → Prop} {l : List Nat} {i : Nat} {dst : Option Tmp} {op : Op} {pos : String} {af : Array Edge} {j : Nat} {b : Bool} (ho : ops[i]? = some ⟨dst, op, ty, pos, af, some (j, b)⟩) (hg : gval ops fr j = some undef) (hd : dstB dst x.n = true) (h : WQ P x ops D hp K l (putFr dst undef fr)) : WQ P x ops D hp K (i :: l) fr := fun a hA =>
  ⟨_, undef, ho, .inr ⟨undef_wanted hA hg, rfl⟩, h _ (hA.putO hd undef)⟩
theorem leaves_marksP {ch : List PanicEntry} {fn : Func} {tmps : Array Value} {R : Ending → World → Prop} {ds : List Deferred} {hp0 : Hp} {S : List Nat} {w0 : World} (h : ∀ w', Inv D hp0 S w0 w' → LeavesInM Fence.wide 0 P fn tmps R ds (.panicking ch) w') :
    ∀ (bs : List Nat) (w : World), Inv D (bs.map dblk ++ hp0) S w0 w → LeavesInM Fence.wide 0 P fn tmps R (bs.map markOf ++ ds) (.panicking ch) w := by
  intro bs
  induction bs with
  | nil => intro w hI; exact h w hI
  | cons b bs ih =>
    intro w hI
    have hb := hI.own b (.deferred (some [])) (List.mem_cons_self ..)
    have hI' := (inv_putObj hI (k := 0) rfl (.deferred none)).tail
    exact ⟨by simp, .inl ⟨b, _, rfl, run_takeDeferred hb, ih _ hI'⟩⟩
/-- the return of a function with ranges over functions in it -/
theorem WP.panicMs {fn : Func} {ch : List PanicEntry} {R : Ending → World → Prop} (bs : List Nat) (hp0 : Hp) (hd : x.ds = bs.map markOf) (hs : ∀ e, e ∈ bs.map dblk ++ hp0 → e ∈ hp) (hn : (keys hp).Nodup → (keys (bs.map dblk ++ hp0)).Nodup)
    (hR : ∀ w, Inv D hp0 x.S x.w0 w → R (.panicked ch) w) : WP x fr D hp (.panic ch) (bodyPostM Fence.wide 0 P fn R) := fun a w hA => by
  show LeavesInM Fence.wide 0 P fn a.tmps R a.defers (.panicking ch) w
  rw [hA.f.defers, hd, ← List.append_nil (bs.map markOf)]
  exact leaves_marksP (P := P) (fn := fn) (tmps := a.tmps) (R := R) (ds := []) (hp0 := hp0) (fun w' hI => hR w' hI) bs w (hA.i.sub hs (hn hA.i.nodup))
/-- quiet at one slot -/
def QuietAt (d : Nat) (Q : Exit → Act → World → Prop) : Prop := ∀ v c a w, Q (.panic c) (Act.put a (some d) v) w → Q (.panic c) a w
theorem QuietAt.then {d : Nat} {K : Act → World → Prop} (h : QuietAt d Q) : QuietAt d (Exit.then K Q) := fun v c a w hq => h v c a w hq
theorem QuietAt.blk {d id : Nat} (h : QuietAt d Q) : QuietAt d (Exit.inBlock id Q) := fun v c a w hq => h v c a w hq
theorem QuietAt.sc {d : Nat} (h : QuietAt d Q) : QuietAt d (Exit.noGoto Q) := fun v c a w hq => h v c a w hq
theorem QuietAt.bodyD {d : Nat} {fn : Func} {R : Ending → World → Prop} (h : (resSlots fn).contains d = false) : QuietAt d (bodyPostD P fn R) := fun v c a w hq => leaves_put (by simpa using h) _ _ _ hq
theorem QuietAt.bodyM {d : Nat} {fn : Func} {R : Ending → World → Prop} (h : (resSlots fn).contains d = false) : QuietAt d (bodyPostM Fence.wide 0 P fn R) := fun v c a w hq => leaves_putM (by simpa using h) _ _ _ hq
theorem WHo.no {D0 : Imm} {hp0 : Hp} {n i : Nat} {listed : Array Bool} {dst : Option Tmp} {op : Op} {pos : String} {af : Array Edge} (ho : ops[i]? = some ⟨dst, op, ty, pos, af, none⟩) (hs : SO P x fr D hp op ty Q NoK) : WHo P x ops D0 hp0 n listed fr D hp Q i := fun a w hA _ => by
  unfold wpOp
  simp only [ho]
  rw [if_pos (show Region.wanted ⟨dst, op, ty, pos, af, none⟩ (yielded ops a.tmps) = true from rfl)]
  exact .inl (hs a w _ _ _ _ _ hA fun _ _ _ _ hk _ => hk.elim)
theorem WH.know {D0 : Imm} {hp0 : Hp} {n : Nat} {listed : Array Bool} (t : Nat) {v : Value} (v' : Value) (ht : fr.get t = some v) (hv : v = v') (h : WH P x ops D0 hp0 n listed ((t, v') :: fr) D hp Q) : WH P x ops D0 hp0 n listed fr D hp Q :=
  fun a w hA hI => h a w ⟨hA.f.weaken (get_know ht hv), hA.i⟩ hI
end
end Go.W
/- Some cells of a row of a block of one's own are read and written. -/
namespace Go.W
section
variable {P : Program} {x : Cx} {fr : Fr} {D : Imm} {hp : Hp} {ty : TypeId} {Q : Exit → Act → World → Prop}
theorem RdN.flat {α : Type} [Inhabited α] {f : α → List Value} {m : Nat} (hf : ∀ x, (f x).length = m) {k b i j n : Nat} {vs : List Value} {l : List α} {rest : List Value} {e : TypeId} {fz : Nat × Nat} (hk : hp[k]? = some (b, .cells (l.flatMap f ++ rest).toArray e fz)) (hi : i < l.length) (hv : slc (f (gt l i)) j n = vs) : RdN D hp b (0 + i * m + j) vs := fun u v hu => by
  rw [← hv] at hu
  unfold slc at hu
  rw [List.getElem?_take] at hu
  split at hu
  · rw [List.getElem?_drop] at hu
    have hlt : j + u < m := by
      rw [← hf (gt l i)]
      rcases Nat.lt_or_ge (j + u) (f (gt l i)).length with h | h
      · exact h
      · rw [List.getElem?_eq_none h] at hu; cases hu
    rw [Nat.add_assoc]
    exact Rd.flat hf hk hi hlt hu
  · cases hu
end
end Go.W
/- Loops that change only the blocks at the end of those owned; the ones ahead are not named. -/
namespace Go.W
section
variable {P : Program} {x : Cx} {fr : Fr} {D : Imm} {hp : Hp} {Q : Exit → Act → World → Prop}
theorem WC.loopT {α : Type} {c : Code} (pre : Hp) (F : α → Fr) (Ht : α → Hp) (φ : α → Prop) (m : α → Nat) (x0 : α) (h0 : φ x0) (hhp : hp = pre ++ Ht x0) (hstart : subB (F x0) fr)
    (hround : ∀ y, φ y → WC P x (F y) D (pre ++ Ht y) c (Exit.then (fun a w => ∃ z, φ z ∧ m z < m y ∧ At x (F z) D (pre ++ Ht z) a w) Q)) : WC P x fr D hp (.loop c) Q :=
  WC.loop F (fun y => pre ++ Ht y) (fun _ => D) φ m x0 h0 (fun a w h => by subst hhp; exact at_fr h hstart) hround
theorem WCF.loopT {r : Option Nat} {α : Type} {c : Code} (pre : Hp) (F : α → Fr) (Ht : α → Hp) (φ : α → Prop) (m : α → Nat) (x0 : α) (h0 : φ x0) (hhp : hp = pre ++ Ht x0) (hstart : subB (F x0) fr)
    (hround : ∀ y, φ y → WCF P r x (F y) D (pre ++ Ht y) c (Exit.then (fun a w => ∃ z, φ z ∧ m z < m y ∧ At x (F z) D (pre ++ Ht z) a w) Q)) : WCF P r x fr D hp (.loop c) Q :=
  WCF.loop F (fun y => pre ++ Ht y) (fun _ => D) φ m x0 h0 (fun a w h => by subst hhp; exact at_fr h hstart) hround
theorem WP.againT {pre : Hp} {α : Type} {F : α → Fr} {Ht : α → Hp} {φ : α → Prop} {m : α → Nat} {k : Nat} (z : α) (hz : φ z) (hm : m z < k) (d hp2 : Hp) (hhp : hp = d ++ hp2) (heq : hp2 = pre ++ Ht z) (hf : subB (F z) fr) :
    WP x fr D hp .normal (Exit.then (fun a w => ∃ z, φ z ∧ m z < k ∧ At x (F z) D (pre ++ Ht z) a w) Q) := fun a w h => by
  refine ⟨z, hz, hm, ?_⟩
  subst heq; subst hhp
  exact at_less h hf (fun e he => List.mem_append_right _ he) (fun hn => by rw [List.map_append] at hn; exact (List.nodup_append.1 hn).2.1)
/-- the list of own blocks is another list that is the same -/
theorem WC.hpEq {c : Code} {hp' : Hp} (h : hp = hp') (hw : WC P x fr D hp' c Q) : WC P x fr D hp c Q := by subst h; exact hw
end
end Go.W
namespace Go.W
section
variable {P : Program} {x : Cx} {fr : Fr} {D : Imm} {hp : Hp} {ty : TypeId}
end
end Go.W
namespace Go.W
section
variable {P : Program} {x : Cx} {fr : Fr} {D : Imm} {hp : Hp} {Q : Exit → Act → World → Prop} {ops : Array Oper} {w0 : World}
/-- a block of one's own is immutable from now on; its content is named -/
theorem WC.freezeN {c : Code} (k b : Nat) (o : Obj) (hw : x.w0 = w0) (hk : hp[k]? = some (b, o)) (hb : w0.heap.size ≤ b) (h : ∀ D', DExt w0 D D' → D' b = some o → WC P x fr D' (hp.eraseIdx k) c Q) : WC P x fr D hp c Q := by
  subst hw
  exact WC.freezeK k hk fun hn => h _ ((DExt.refl _ _).add hn hb) (Imm.add_self _ _ _)
theorem WL.freezeN {l : List Oper} (k b : Nat) (o : Obj) (hw : x.w0 = w0) (hk : hp[k]? = some (b, o)) (hb : w0.heap.size ≤ b) (h : ∀ D', DExt w0 D D' → D' b = some o → WL P x ops fr D' (hp.eraseIdx k) l Q) : WL P x ops fr D hp l Q := by
  subst hw
  exact WL.freezeK k hk fun hn => h _ ((DExt.refl _ _).add hn hb) (Imm.add_self _ _ _)
theorem WH.freezeN {D0 : Imm} {hp0 : Hp} {n : Nat} {listed : Array Bool} (k b : Nat) (o : Obj) (hw : x.w0 = w0) (hk : hp[k]? = some (b, o)) (hb : w0.heap.size ≤ b) (h : ∀ D', DExt w0 D D' → D' b = some o → WH P x ops D0 hp0 n listed fr D' (hp.eraseIdx k) Q) : WH P x ops D0 hp0 n listed fr D hp Q := by
  subst hw
  exact WH.freezeK k hk fun hn => h _ ((DExt.refl _ _).add hn hb) (Imm.add_self _ _ _)
end
end Go.W
namespace Go.W
section
variable {P : Program} {x : Cx} {fr : Fr} {D : Imm} {hp : Hp} {ty : TypeId}
end
end Go.W
namespace Go.W
/-! ### iterators that yield two values -/
section
variable {P : Program} {x : Cx} {fr : Fr} {D : Imm} {hp : Hp} {Q : Exit → Act → World → Prop}
end
end Go.W
namespace Go.W
section
variable {P : Program} {x : Cx} {fr : Fr} {D : Imm} {hp : Hp} {ty : TypeId}
theorem Yd.neqNil {t t' : TypeId} {ms : Array (String × TypeId)} {o : Operand} {tt : TypeId} {v : Value} (hu : P.underlying t = some (.interface ms)) (ho : opv fr o = some (.iface tt v)) :
    Yd P x fr D hp (.binOp .neq t o (.const .nilIface) t') ty (.bool true) := fun a w _ _ _ _ hA _ => by
  have h1 : ∀ d, (Op.equalIn (d + 1) t (.iface tt v) .nilIface).run P w = .ok false w := fun d => by
    simp only [Op.equalIn, Sem.run_bind, run_underlying hu, Result.andThen_ok]; rfl
  have h2 := h1 9999
  have h3 : (Go.binOp .neq t (.iface tt v) .nilIface).run P w = .ok (.bool true) w := by
    show Sem.run P (do let b ← Op.equalIn (9999 + 1) t (.iface tt v) .nilIface; pure (Value.bool (!b))) w = _
    rw [Sem.run_bind, h2]; rfl
  have h5 : a.eval (.const .nilIface) = .nilIface := rfl
  simp only [execOp, hA.eval ho, h5]
  have h4 : (eqGuard .neq t o (.const .nilIface) (.iface tt v) .nilIface).run P w = .ok () w := rfl
  simp [h4, h3]
theorem Yd.neqNilNil {t t' : TypeId} {ms : Array (String × TypeId)} {o : Operand} (hu : P.underlying t = some (.interface ms)) (ho : opv fr o = some .nilIface) :
    Yd P x fr D hp (.binOp .neq t o (.const .nilIface) t') ty (.bool false) := fun a w _ _ _ _ hA _ => by
  have h1 : ∀ d, (Op.equalIn (d + 1) t .nilIface .nilIface).run P w = .ok true w := fun d => by
    simp only [Op.equalIn, Sem.run_bind, run_underlying hu, Result.andThen_ok]; rfl
  have h2 := h1 9999
  have h3 : (Go.binOp .neq t .nilIface .nilIface).run P w = .ok (.bool false) w := by
    show Sem.run P (do let b ← Op.equalIn (9999 + 1) t .nilIface .nilIface; pure (Value.bool (!b))) w = _
    rw [Sem.run_bind, h2]; rfl
  have h5 : a.eval (.const .nilIface) = .nilIface := rfl
  simp only [execOp, hA.eval ho, h5]
  have h4 : (eqGuard .neq t o (.const .nilIface) .nilIface .nilIface).run P w = .ok () w := by
    cases o <;> rfl
  simp [h4, h3]
/-- a field of a struct that is a value -/
theorem Yd.field {t t' : TypeId} {fs : Array Field} {f off : Nat} {p : Operand} {cs : List Value} {v : Value} (hu : P.underlying t = some (.struct fs)) (hf : (fs[f]?).map (fun fd => (fd.type, fd.offset)) = some (t', off)) (hg : ∀ w, (isAgg t').run P w = .ok false w)
    (hp' : opv fr p = some (.agg cs.toArray)) (hv : cs[off]? = some v) : Yd P x fr D hp (.field t p f) ty v := fun a w _ _ _ _ hA _ => by
  simp only [execOp, hA.eval hp']
  cases hfd : fs[f]? with
  | none => rw [hfd] at hf; cases hf
  | some fd =>
    rw [hfd] at hf
    simp only [Option.map_some, Option.some.injEq, Prod.mk.injEq] at hf
    obtain ⟨rfl, rfl⟩ := hf
    have : (Instr.field t (.agg cs.toArray) f).run P w = .ok v w := by
      simp [Instr.field, run_underlying hu, hfd, asAgg, part, hg, hv]
    simp [this]
end
end Go.W
namespace Go.W
section
variable {P : Program} {x : Cx} {fr : Fr} {D : Imm} {hp : Hp} {Q : Exit → Act → World → Prop} {ops : Array Oper} {w0 : World}
theorem WA.freezeN {D0 : Imm} {hpx : Hp} {plan : List (Nat × Bool)} (k b : Nat) (o : Obj) (hw : x.w0 = w0) (hk : hp[k]? = some (b, o)) (hb : w0.heap.size ≤ b) (h : ∀ D', DExt w0 D D' → D' b = some o → WA P x ops D0 hpx plan fr D' (hp.eraseIdx k) Q) : WA P x ops D0 hpx plan fr D hp Q := by
  subst hw
  intro a w hA
  have h1 := (hA.i.freezeK k hk).1
  exact h _ ((DExt.refl _ _).add h1 hb) (Imm.add_self _ _ _) a w ⟨hA.f, (hA.i.freezeK k hk).2⟩
end
end Go.W
namespace Go.W
section
variable {D : Imm} {hp : Hp}
end
end Go.W
/- The first ones and the last ones of a slice. -/
namespace Go.W
theorem SlL.take {D : Imm} {size : Nat} {rows : List (List Value)} {a : Option Addr} {n k : Nat} (h : SlL D size rows a n) (hk : k ≤ n) : SlL D size (rows.take k) a k :=
  ⟨by rw [List.length_take, ← h.len]; omega, fun i r hr => by
    rw [List.getElem?_take] at hr
    split at hr
    · exact h.row i r hr
    · cases hr⟩
def fromA (a : Option Addr) (c k size : Nat) : Option Addr := if c = k then a else a.map (·.add (k * size))
theorem SlL.drop {D : Imm} {size : Nat} {rows : List (List Value)} {a : Option Addr} {n c k : Nat} (h : SlL D size rows a n) (hk : k ≤ n) (hc : n ≤ c) : SlL D size (rows.drop k) (fromA a c k size) (n - k) :=
  ⟨by rw [List.length_drop, ← h.len], fun i r hr => by
    rw [List.getElem?_drop] at hr
    have hlt : k + i < n := by
      rw [h.len]
      rcases Nat.lt_or_ge (k + i) rows.length with h1 | h1
      · exact h1
      · rw [List.getElem?_eq_none h1] at hr; cases hr
    obtain ⟨h1, h2⟩ := h.row (k + i) r hr
    unfold fromA
    rw [if_neg (by omega)]
    have e : (a.map (·.add (k * size))) = some ⟨sb a, so a + k * size, none⟩ := by
      rw [h1]
      show some (Addr.add ⟨sb a, so a, none⟩ (k * size)) = some _
      unfold Addr.add
      by_cases h0 : k * size = 0
      · rw [if_pos h0, h0]; rfl
      · rw [if_neg h0]; rfl
    rw [e]
    refine ⟨rfl, ?_⟩
    show RdD D (sb a) (so a + k * size + i * size) r
    rw [Nat.add_assoc, ← Nat.add_mul]
    exact h2⟩
section
variable {P : Program} {x : Cx} {fr : Fr} {D : Imm} {hp : Hp} {ty : TypeId}
end
end Go.W
/- Regions whose operations make several new blocks in any order: one proof for each set of operations that have been. -/
namespace Go.W
def AllL (p : Nat → Prop) : List Nat → Prop
  | [] => True
  | i :: l => p i ∧ AllL p l
theorem AllL.mem {p : Nat → Prop} : ∀ {l : List Nat}, AllL p l → ∀ i, i ∈ l → p i
  | j :: l, h, i, hi => by
    rcases List.mem_cons.1 hi with rfl | hi
    · exact h.1
    · exact h.2.mem i hi
section
variable {P : Program} {x : Cx} {fr : Fr} {D : Imm} {hp : Hp} {Q : Exit → Act → World → Prop} {ops : Array Oper} {D0 : Imm} {hp0 : Hp} {n : Nat} {listed : Array Bool}
theorem WH.all (rs : List Nat) (hr : decide (Region.ready .any ops listed = rs) = true) (hne : rs ≠ []) (h : AllL (WHo P x ops D0 hp0 n listed fr D hp Q) rs) : WH P x ops D0 hp0 (n + 1) listed fr D hp Q := fun a w hA hI =>
  wpAnyH_all (of_decide_eq_true hr) hne fun i hi => h.mem i hi a w hA hI
theorem WH.ofFr (fr' : Fr) (hf : subB fr' fr) (h : WH P x ops D0 hp0 n listed fr' D hp Q) : WH P x ops D0 hp0 n listed fr D hp Q := fun a w hA => h a w (at_fr hA hf)
end
end Go.W
namespace Go.W
theorem Inv.none {D : Imm} {hp : Hp} {S : List Nat} {w0 w : World} (h : Inv D hp S w0 w) : Inv D [] S w0 w := h.sub (fun _ he => nomatch he) List.nodup_nil
end Go.W
/- Functions with four results. -/
namespace Go.W
variable {P : Program} {x : Cx} {fr : Fr} {D : Imm} {hp : Hp}
end Go.W
/- Calls that alter the first of one's own blocks. -/
namespace Go.W
def AltF (w0 : World) (D : Imm) (own : Hp) (K : Value → Imm → Hp → Prop) (v : Value) (D' : Imm) (hp' : Hp) : Prop := ∃ hpc', DExt w0 D D' ∧ K v D' hpc' ∧ hp' = hpc' ++ own
section
variable {P : Program} {x : Cx} {fr : Fr} {D : Imm} {hp : Hp} {ty : TypeId} {Q : Exit → Act → World → Prop}
theorem Inv.turn {a b : Hp} {S : List Nat} {w0 w : World} (h : Inv D (a ++ b) S w0 w) : Inv D (b ++ a) S w0 w :=
  h.sub (fun e he => List.perm_append_comm.mem_iff.1 he) (((List.perm_append_comm (l₁ := a) (l₂ := b)).map Prod.fst).nodup_iff.1 h.nodup)
theorem SO.altersF {c : Call} {f : FuncId} {vals : List Value} {S1 : List Nat} {K : Value → Imm → Hp → Prop} (own hpc : Hp) (hhp : hp = hpc ++ own)
    (hS : ∀ b, b ∈ S1 → b ∈ keys hpc) (hS' : ∀ b, b ∈ keys hpc → b ∈ S1) (he : Enters P x fr D hp c ty f vals)
    (hk : ∀ w, Inv D hpc S1 w w → Alters P f vals w D S1 K) : SO P x fr D hp (.call c) ty Q (AltF x.w0 D own K) := fun a w dst pos af g next hA hn => by
  subst hhp
  exact SO.alters own hpc (fun e he => List.perm_append_comm.mem_iff.1 he) (fun h => ((List.perm_append_comm (l₁ := hpc) (l₂ := own)).map Prod.fst).nodup_iff.1 h) hS hS' he hk a w dst pos af g next hA (fun v D' hp' w' hK hI => by
    obtain ⟨hpc', h1, h2, rfl⟩ := hK
    exact hn v D' (hpc' ++ own) w' ⟨hpc', h1, h2, rfl⟩ hI.turn)
end
end Go.W
