import Derived.Test.YtejgofaeafphjaaGreatDoorXG1
import Derived.RangeFuncNested
import Derived.RangeFuncBound
import Derived.Test.YtejgofaeafphjaaGreatDoorXG0
set_option linter.all false
set_option maxRecDepth 100000
set_option maxHeartbeats 4000000
namespace Go.W
section
variable {P : Program} {x : Cx} {fr : Fr} {D : Imm} {hp : Hp} {Q : Exit → Act → World → Prop}
theorem WCF.rangeFunc {g : Operand} {ps : Array Tmp} {assign body : Code} {gf : Nat} {lb : List Value} {l0 k0 : Nat} {rec0 : Loop} {K : Imm → Hp → Option Code → Prop} (hk0 : hp[k0]? = some (l0, .loop rec0)) (hds : x.ds = [])
    (hg : opv fr g = some (.func (.func gf) #[] lb.toArray)) (hc : ∀ args w, (callFunc gf args).run P w = .ok (.enter gf args) w)
    (hcall : ∀ (rec : Loop) (l : Nat) (w₁ : World), rec.state = .ready → rec.pending = none → rec.params = ps → rec.assign = assign → rec.body = body → AtF x.n fr [] ⟨rec.tmps, []⟩ → x.w0.heap.size ≤ l →
      Inv D ((l, .loop rec) :: hp) x.S x.w0 w₁ →
      Calls P gf (.func (.yield l) #[] #[] :: lb).toArray w₁ fun e w' => ∃ v D' hp' st pend, e = .returned v ∧ st ≠ .busy ∧ Inv D' ((l, .loop { rec with state := st, pending := pend }) :: hp') x.S x.w0 w' ∧ K D' hp' pend)
    (hafter : ∀ D' hp' pend, K D' hp' pend → match pend with
      | none => WP x fr D' hp' .normal Q
      | some c => WCF P (some l0) x fr D' hp' c Q) :
    WCF P (some l0) x fr D hp (.rangeFunc g ps assign body) Q := fun a w hA => by
  refine wpIn_rangeFunc fun fn _ => ?_;have hl0 := hA.i.own _ _ (mem_of_get? hk0)
  let rcd : Loop := { state := .ready, pending := none, fn, tmps := a.tmps, params := ps, assign, body, defers := rec0.defers }
  let w₁ : World := w.alloc (.loop rcd)
  have hI1 : Inv D ((w.heap.size, .loop rcd) :: hp) x.S x.w0 w₁ := hA.i.new (.loop rcd);have hev : a.eval g = .func (.func gf) #[] lb.toArray := hA.f.eval hg;have had : a.defers = [] := hA.f.defers.trans hds;have hT : AtF x.n fr [] ⟨rcd.tmps, []⟩ := ⟨hA.f.size, rfl, hA.f.slot⟩;have hc1 := hcall rcd w.heap.size w₁ rfl rfl rfl rfl rfl hT hA.i.keep.size hI1
  refine ⟨w.heap.size, [], w₁, { target := .fn (.func gf) lb.toArray, args := #[.func (.yield w.heap.size) #[] #[]] }, w₁, gf, (.func (.yield w.heap.size) #[] #[] :: lb).toArray, w₁,
    run_enterLoop_inner hl0 fn a.tmps ps assign body, ?_, fun _ _ => trivial, ?_, fun e => (by cases e), ?_⟩
  · show (resolve a.eval { callee := .value g, args := #[.const (.func (.yield w.heap.size) #[] #[])], argTypes := #[] } 0).run P w₁ = _;have he : a.eval (.const (.func (.yield w.heap.size) #[] #[])) = .func (.yield w.heap.size) #[] #[] := rfl;simp [resolve, hev, Deferred.ofValue, he]
  · simp [invoke, hc]
  · refine CallsIn.inRound (F := Fence.wide) l0 ((callsIn_wide (n := 0 - 1)).2 (Calls.mono hc1 fun e w' ⟨v, D', hp', st, pend, he, hst, hI', hK⟩ => ?_));subst he;have hl := hI'.own _ _ (List.mem_cons_self);have hend := run_endLoop (P := P) hl hst;have hI2 := (yB hI' (k := 0) rfl (.loop { rcd with state := .exhausted, pending := pend })).tail;have haf := hafter _ _ _ hK
    have hat : At x fr D' hp' { a with defers := [] ++ a.defers } (w'.putObj w.heap.size (.loop { rcd with state := .exhausted, pending := pend })) :=
      ⟨⟨hA.f.size, hA.f.defers, hA.f.slot⟩, hI2⟩
    refine ⟨pend, _, hend, ?_⟩;cases pend with
    | none => exact haf _ _ hat
    | some c => exact haf _ _ hat
theorem WC.rangeFuncM {g : Operand} {ps : Array Tmp} {assign body : Code} {gf : Nat} {lb : List Value} {K : Imm → Hp → Option Code → Prop} (hg : opv fr g = some (.func (.func gf) #[] lb.toArray)) (hc : ∀ args w, (callFunc gf args).run P w = .ok (.enter gf args) w)
    (hcall : ∀ (rec : Loop) (l Dn : Nat) (w₁ : World), rec.state = .ready → rec.pending = none → rec.params = ps → rec.assign = assign → rec.body = body → AtF x.n fr [] ⟨rec.tmps, []⟩ → x.w0.heap.size ≤ Dn → x.w0.heap.size ≤ l →
      Inv D ((l, .loop rec) :: (Dn, .deferred (some [])) :: hp) x.S x.w0 w₁ →
      Calls P gf (.func (.yield l) #[] #[] :: lb).toArray w₁ fun e w' => ∃ v D' hp' st pend, e = .returned v ∧ st ≠ .busy ∧ Inv D' ((l, .loop { rec with state := st, pending := pend }) :: (Dn, .deferred (some [])) :: hp') x.S x.w0 w' ∧ K D' hp' pend)
    (hafter : ∀ Dn D' hp' pend, x.w0.heap.size ≤ Dn → K D' hp' pend → match pend with
      | none => WP ⟨x.n, y1 Dn :: x.ds, x.S, x.w0⟩ fr D' ((Dn, .deferred (some [])) :: hp') .normal Q
      | some c => WC P ⟨x.n, y1 Dn :: x.ds, x.S, x.w0⟩ fr D' ((Dn, .deferred (some [])) :: hp') c Q) :
    WC P x fr D hp (.rangeFunc g ps assign body) Q := fun a w hA => by
  refine (wpIn_wide (n := 0)).1 ?_;refine wpIn_rangeFunc fun fn _ => ?_
  let rcd : Loop := { state := .ready, pending := none, fn, tmps := a.tmps, params := ps, assign, body, defers := w.heap.size }
  let w₁ : World := (w.alloc (.deferred (some []))).alloc (.loop rcd)
  have hI1 : Inv D ((w.heap.size + 1, .loop rcd) :: (w.heap.size, .deferred (some [])) :: hp) x.S x.w0 w₁ := by
    have h1 := hA.i.new (.deferred (some []));have h2 := h1.new (.loop rcd);simp only [Array.size_push] at h2;exact h2
  have hev : a.eval g = .func (.func gf) #[] lb.toArray := hA.f.eval hg;have hT : AtF x.n fr [] ⟨rcd.tmps, []⟩ := ⟨hA.f.size, rfl, hA.f.slot⟩;have hc1 := hcall rcd (w.heap.size + 1) w.heap.size w₁ rfl rfl rfl rfl rfl hT hA.i.keep.size (by have := hA.i.keep.size; omega) hI1
  refine ⟨w.heap.size + 1, [y1 w.heap.size], w₁, { target := .fn (.func gf) lb.toArray, args := #[.func (.yield (w.heap.size + 1)) #[] #[]] }, w₁, gf, (.func (.yield (w.heap.size + 1)) #[] #[] :: lb).toArray, w₁,
    run_enterLoop_outer fn a.tmps ps assign body, ?_, fun _ _ => trivial, ?_, fun e => (by cases e), ?_⟩
  · show (resolve a.eval { callee := .value g, args := #[.const (.func (.yield (w.heap.size + 1)) #[] #[])], argTypes := #[] } 0).run P w₁ = _;have he : a.eval (.const (.func (.yield (w.heap.size + 1)) #[] #[])) = .func (.yield (w.heap.size + 1)) #[] #[] := rfl;simp [resolve, hev, Deferred.ofValue, he]
  · simp [invoke, hc]
  · refine (callsIn_wide (n := 0 - 1)).2 (Calls.mono hc1 fun e w' ⟨v, D', hp', st, pend, he, hst, hI', hK⟩ => ?_);subst he;have hl := hI'.own _ _ (List.mem_cons_self);have hend := run_endLoop (P := P) hl hst;have hI2 := (yB hI' (k := 0) rfl (.loop { rcd with state := .exhausted, pending := pend })).tail;have haf := hafter _ _ _ _ hA.i.keep.size hK
    have hat : At ⟨x.n, y1 w.heap.size :: x.ds, x.S, x.w0⟩ fr D' ((w.heap.size, .deferred (some [])) :: hp') { a with defers := [y1 w.heap.size] ++ a.defers } (w'.putObj (w.heap.size + 1) (.loop { rcd with state := .exhausted, pending := pend })) :=
      ⟨⟨hA.f.size, by show y1 w.heap.size :: a.defers = _; rw [hA.f.defers], hA.f.slot⟩, hI2⟩
    refine ⟨pend, _, hend, ?_⟩;cases pend with
    | none => exact haf _ _ hat
    | some c => exact (wpIn_wide (n := 0)).2 (haf _ _ hat)
def dblk (b : Nat) : Nat × Obj := (b, .deferred (some []))
theorem uT {fn : Func} {tmps : Array Value} {R : Ending → World → Prop} {ds : List Deferred} {hp0 : Hp} {S : List Nat} {w0 : World} (h : ∀ w', Inv D hp0 S w0 w' → LeavesInM Fence.wide 0 P fn tmps R ds .returning w') :
    ∀ (bs : List Nat) (w : World), Inv D (bs.map dblk ++ hp0) S w0 w → LeavesInM Fence.wide 0 P fn tmps R (bs.map y1 ++ ds) .returning w := by
  intro bs
  induction bs with
  | nil => intro w hI; exact h w hI
  | cons b bs ih =>
    intro w hI;have hb := hI.own b (.deferred (some [])) (List.mem_cons_self ..);have hI' := (yB hI (k := 0) rfl (.deferred none)).tail;exact ⟨by simp, .inl ⟨b, _, rfl, run_takeDeferred hb, ih _ hI'⟩⟩
theorem WP.retMs {e : Exit} {fn : Func} {R : Ending → World → Prop} (bs : List Nat) (hp0 : Hp) (rs : List ResultVar) (vs : List Value) (he : ZD e = true) (hd : x.ds = bs.map y1) (hs : ∀ e, e ∈ bs.map dblk ++ hp0 → e ∈ hp) (hn : (keys hp).Nodup → (keys (bs.map dblk ++ hp0)).Nodup)
    (hr : fn.results = rs.toArray) (h : RVs P x fr D hp0 rs vs) (hR : ∀ w, Inv D hp0 x.S x.w0 w → R (.returned (retV vs)) w) : WP x fr D hp e (bodyPostM Fence.wide 0 P fn R) := fun a w hA => by
  have key : LeavesInM Fence.wide 0 P fn a.tmps R a.defers .returning w := by
    rw [hA.f.defers, hd, ← List.append_nil (bs.map y1)];exact uT (P := P) (fn := fn) (tmps := a.tmps) (R := R) (ds := []) (hp0 := hp0) (fun w' hI => ⟨_, xh hr hA.f hI h, hR w' hI⟩) bs w (hA.i.sub hs (hn hA.i.nodup))
  cases e <;> first | exact key | cases he
def KP (P : Program) (gf : Nat) (lb : List Value) (N : Nat) (arg : Nat → Value) (D : Imm) (w : World) : Prop :=
  ∀ (l : Nat) (S : List Nat) (St : Nat → Imm → Hp → Prop) (Sp : Imm → Hp → Prop),
    (∀ k D' h, St k D' h → (∀ b, b ∈ S → b ∈ keys h) ∧ (∀ b, b ∈ keys h → b ∈ S)) → (∀ D' h, Sp D' h → ∀ b, b ∈ keys h → b ∈ S) → (∀ k D1 D2 h, DExt w D1 D2 → St k D1 h → St k D2 h) →
    (∀ k D' h w', k < N → w.heap.size ≤ w'.heap.size → DExt w D D' → St k D' h → Inv D' h S w' w' → YieldAt Fence.wide 0 P l #[arg k] w' (Vk w' D' S (fun b D'' h' => (b = true ∧ St (k + 1) D'' h') ∨ (b = false ∧ Sp D'' h')))) →
    ∀ h0, St 0 D h0 → Inv D h0 S w w → wP P gf ((.func (.yield l) #[] #[]) :: lb) w D S (fun _ D' h' => St N D' h' ∨ Sp D' h')
def RK (l : Nat) (rec : Loop) (pre : Hp) (St : Imm → Hp → Prop) (Sp : Code → Imm → Hp → Prop) (b : Bool) (D' : Imm) (h : Hp) : Prop :=
  (b = true ∧ ∃ h1, h = (l, .loop rec) :: (pre ++ h1) ∧ St D' h1) ∨ (b = false ∧ ∃ c h1, h = (l, .loop { rec with state := .done, pending := some c }) :: (pre ++ h1) ∧ Sp c D' h1)
theorem rec_eta' {rec : Loop} (h1 : rec.state = .ready) (h2 : rec.pending = none) : { rec with state := .ready, pending := none } = rec := by
  cases rec; simp only at h1 h2; subst h1; subst h2; rfl
def u4 (rec : Loop) : Loop := { rec with state := .busy }
def Vj (P : Program) (n : Nat) (l : Nat) (rec : Loop) (pre : Hp) (ks : List Nat) (fr : Fr) (D1 : Imm) (h : Hp) (w1 : World) (assign body : Code) (St : Imm → Hp → Prop) (Sp : Code → Imm → Hp → Prop) : Prop :=
  WCF P (some l) ⟨n, [], ks, w1⟩ fr D1 ((l, .loop rec) :: (pre ++ h)) assign
    (Exit.then (fun a₁ w₁ => ∃ w₂, (Instr.beginRound l).run P w₁ = .ok () w₂ ∧ body.wpIn (Fx (some l)) 0 P (roundPost P l (Vk w1 D1 ks (RK l rec pre St Sp))) a₁ w₂) (fun _ _ _ => False))
theorem WP.iterBegin {l : Nat} {rec : Loop} {body : Code} {R : Exit → Act → World → Prop} (k : Nat) (hk : hp[k]? = some (l, .loop rec)) (hr : rec.state = .ready ∧ rec.pending = none) (h : WCF P (some l) x fr D (hp.set k (l, .loop (u4 rec))) body R) :
    WP x fr D hp .normal (Exit.then (fun a₁ w₁ => ∃ w₂, (Instr.beginRound l).run P w₁ = .ok () w₂ ∧ body.wpIn (Fx (some l)) 0 P R a₁ w₂) (fun _ _ _ => False)) := WP.begin hk hr.1 h
theorem DExt.wide {w w' : World} {D D' : Imm} (h : DExt w' D D') (hs : w.heap.size ≤ w'.heap.size) : DExt w D D' := ⟨h.old, fun b hb => h.new b (Nat.lt_of_lt_of_le hb hs)⟩
theorem AtF.round1 {n p1 : Nat} {T : Array Value} {v1 : Value} (h : AtF n fr [] ⟨T, []⟩) (h1 : Nat.blt p1 n = true) : AtF n ((p1, v1) :: fr) [] ⟨(#[p1].zip #[v1]).foldl (fun tmps (t, a) => tmps.setIfInBounds t a) T, []⟩ := by
  have := h.put h1 v1;simpa [Act.put] using this
section iter
variable {g : Operand} {pm : Tmp} {assign body : Code} {gf : Nat} {lb : List Value} {N : Nat} {arg : Nat → Value}
theorem jO {l : Nat} {rec : Loop} {w₁ : World} {pre : Hp} (hit : ∀ w, KP P gf lb N arg D w) (hpm : Nat.blt pm x.n = true) (St : Nat → Imm → Hp → Prop) (Sp : Code → Imm → Hp → Prop)
    (hkey : ∀ k D' h, St k D' h → keys h = keys hp) (hkeyp : ∀ c D' h, Sp c D' h → keys h = keys hp) (hmono : ∀ k D1 D2 h, DExt x.w0 D1 D2 → St k D1 h → St k D2 h) (h0 : St 0 D hp)
    (hst : rec.state = .ready) (hpe : rec.pending = none) (hps : rec.params = #[pm]) (has : rec.assign = assign) (hbo : rec.body = body) (hT : AtF x.n fr [] ⟨rec.tmps, []⟩) (hI : Inv D ((l, .loop rec) :: (pre ++ hp)) x.S x.w0 w₁)
    (hbody : ∀ k D1 h w1, k < N → St k D1 h → DExt x.w0 D D1 → x.w0.heap.size ≤ w1.heap.size → Vj P x.n l rec pre (keys ((l, .loop rec) :: (pre ++ hp))) ((pm, arg k) :: fr) D1 h w1 assign body (St (k + 1)) Sp) :
    Calls P gf (.func (.yield l) #[] #[] :: lb).toArray w₁ fun e w' => ∃ v D' hp' st pend, e = .returned v ∧ st ≠ .busy ∧ Inv D' ((l, .loop { rec with state := st, pending := pend }) :: (pre ++ hp')) x.S x.w0 w' ∧ (DExt x.w0 D D' ∧ ((pend = none ∧ St N D' hp') ∨ ∃ c, pend = some c ∧ Sp c D' hp')) := by
  have hsz := hI.keep.size
  have hks : ∀ {h : Hp} {o : Obj}, keys h = keys hp → keys ((l, o) :: (pre ++ h)) = keys ((l, .loop rec) :: (pre ++ hp)) := fun {h} {o} e => by
    simp only [keys, List.map_cons, List.map_append] at e ⊢; rw [e]
  have hI1 : Inv D ((l, .loop rec) :: (pre ++ hp)) (keys ((l, .loop rec) :: (pre ++ hp))) w₁ w₁ := Inv.frame (own := []) hI (fun _ h => h)
  refine Calls.mono (hit w₁ l (keys ((l, .loop rec) :: (pre ++ hp))) (fun k D' h => ∃ h1, h = (l, .loop rec) :: (pre ++ h1) ∧ St k D' h1) (fun D' h => ∃ c h1, h = (l, .loop { rec with state := .done, pending := some c }) :: (pre ++ h1) ∧ Sp c D' h1)
    ?_ ?_ ?_ ?_ _ ⟨hp, rfl, h0⟩ hI1) ?_
  · rintro k D' h ⟨h1, rfl, hs⟩;rw [hks (hkey _ _ _ hs)];exact ⟨fun _ h => h, fun _ h => h⟩
  · rintro D' h ⟨c, h1, rfl, hs⟩;rw [hks (hkeyp _ _ _ hs)];exact fun _ h => h
  · rintro k D1 D2 h hx ⟨h1, rfl, hs⟩;exact ⟨h1, rfl, hmono _ _ _ _ (hx.wide hsz) hs⟩
  · rintro k D1 h w' hk hsz2 hX ⟨h1, rfl, hs⟩ hI2;have hb := hbody k D1 h1 w' hk hs (hX.wide hsz) (Nat.le_trans hsz hsz2);refine YieldAt.mono (kN (rec := rec) (k := 0) (n := x.n) (fr := (pm, arg k) :: fr) has hbo hI2 rfl (by rw [hps]; rfl) (by rw [hps]; exact hT.round1 hpm) hb) ?_;rintro e w'' ⟨b, D', hp', rfl, hD, hI3, hS3, hK⟩;refine ⟨b, D', hp', rfl, hD, hI3, hS3, ?_⟩;rcases hK with ⟨rfl, h1, rfl, hs1⟩ | ⟨rfl, c, h1, rfl, hs1⟩
    · exact .inl ⟨rfl, h1, rfl, hs1⟩
    · exact .inr ⟨rfl, c, h1, rfl, hs1⟩
  · rintro e w' ⟨v, D', hpc', rfl, hXe, hIe, hke, hK⟩;have hIu := Inv.unframe (own := []) hI (fun _ h => h) hke hXe hIe;rcases hK with ⟨h1, rfl, hs⟩ | ⟨c, h1, rfl, hs⟩
    · refine ⟨v, D', h1, .ready, none, rfl, by decide, ?_, hXe.wide hsz, .inl ⟨rfl, hs⟩⟩;rw [rec_eta' hst hpe]; exact hIu
    · exact ⟨v, D', h1, .done, some c, rfl, by decide, hIu, hXe.wide hsz, .inr ⟨c, rfl, hs⟩⟩
theorem WC.rangeIter (hit : ∀ w, KP P gf lb N arg D w) (hg : opv fr g = some (.func (.func gf) #[] lb.toArray)) (hc : ∀ args w, (callFunc gf args).run P w = .ok (.enter gf args) w) (hpm : Nat.blt pm x.n = true)
    (St : Nat → Imm → Hp → Prop) (Sp : Code → Imm → Hp → Prop) (hkey : ∀ k D' h, St k D' h → keys h = keys hp) (hkeyp : ∀ c D' h, Sp c D' h → keys h = keys hp) (hmono : ∀ k D1 D2 h, DExt x.w0 D1 D2 → St k D1 h → St k D2 h) (h0 : St 0 D hp)
    (hbody : ∀ rec l Dn k D1 h w1, (rec.state = .ready ∧ rec.pending = none) → k < N → St k D1 h → DExt x.w0 D D1 → x.w0.heap.size ≤ w1.heap.size → Vj P x.n l rec [(Dn, .deferred (some []))] (keys ((l, .loop rec) :: ([(Dn, .deferred (some []))] ++ hp))) ((pm, arg k) :: fr) D1 h w1 assign body (St (k + 1)) Sp)
    (hdone : ∀ Dn D' hp', x.w0.heap.size ≤ Dn → DExt x.w0 D D' → St N D' hp' → WP ⟨x.n, y1 Dn :: x.ds, x.S, x.w0⟩ fr D' ((Dn, .deferred (some [])) :: hp') .normal Q)
    (hstop : ∀ Dn c D' hp', x.w0.heap.size ≤ Dn → DExt x.w0 D D' → Sp c D' hp' → WC P ⟨x.n, y1 Dn :: x.ds, x.S, x.w0⟩ fr D' ((Dn, .deferred (some [])) :: hp') c Q) :
    WC P x fr D hp (.rangeFunc g #[pm] assign body) Q := by
  refine WC.rangeFuncM (K := fun D' hp' pend => DExt x.w0 D D' ∧ ((pend = none ∧ St N D' hp') ∨ ∃ c, pend = some c ∧ Sp c D' hp')) hg hc (fun rec l Dn w1 hst hpe hps has hbo hT hDn hl hI => ?_) (fun Dn D' hp' pend hDn hK => ?_)
  · exact jO (pre := [(Dn, .deferred (some []))]) hit hpm St Sp hkey hkeyp hmono h0 hst hpe hps has hbo hT hI (fun k D1 h w2 hk hs hX hsz => hbody rec l Dn k D1 h w2 ⟨hst, hpe⟩ hk hs hX hsz)
  · obtain ⟨hX, ⟨rfl, hs⟩ | ⟨c, rfl, hs⟩⟩ := hK
    · exact hdone Dn D' hp' hDn hX hs
    · exact hstop Dn c D' hp' hDn hX hs
theorem WCF.rangeIter {l0 : Nat} {rec0 : Loop} (k0 : Nat) (hk0 : hp[k0]? = some (l0, .loop rec0)) (hit : ∀ w, KP P gf lb N arg D w) (hds : x.ds = []) (hg : opv fr g = some (.func (.func gf) #[] lb.toArray)) (hc : ∀ args w, (callFunc gf args).run P w = .ok (.enter gf args) w) (hpm : Nat.blt pm x.n = true)
    (St : Nat → Imm → Hp → Prop) (Sp : Code → Imm → Hp → Prop) (hkey : ∀ k D' h, St k D' h → keys h = keys hp) (hkeyp : ∀ c D' h, Sp c D' h → keys h = keys hp) (hmono : ∀ k D1 D2 h, DExt x.w0 D1 D2 → St k D1 h → St k D2 h) (h0 : St 0 D hp)
    (hbody : ∀ rec l k D1 h w1, (rec.state = .ready ∧ rec.pending = none) → k < N → St k D1 h → DExt x.w0 D D1 → x.w0.heap.size ≤ w1.heap.size → Vj P x.n l rec [] (keys ((l, .loop rec) :: ([] ++ hp))) ((pm, arg k) :: fr) D1 h w1 assign body (St (k + 1)) Sp)
    (hdone : ∀ D' hp', DExt x.w0 D D' → St N D' hp' → WP x fr D' hp' .normal Q)
    (hstop : ∀ c D' hp', DExt x.w0 D D' → Sp c D' hp' → WCF P (some l0) x fr D' hp' c Q) :
    WCF P (some l0) x fr D hp (.rangeFunc g #[pm] assign body) Q := by
  refine WCF.rangeFunc (K := fun D' hp' pend => DExt x.w0 D D' ∧ ((pend = none ∧ St N D' hp') ∨ ∃ c, pend = some c ∧ Sp c D' hp')) hk0 hds hg hc (fun rec l w1 hst hpe hps has hbo hT hl hI => ?_) (fun D' hp' pend hK => ?_)
  · exact jO (pre := []) hit hpm St Sp hkey hkeyp hmono h0 hst hpe hps has hbo hT hI (fun k D1 h w2 hk hs hX hsz => hbody rec l k D1 h w2 ⟨hst, hpe⟩ hk hs hX hsz)
  · obtain ⟨hX, ⟨rfl, hs⟩ | ⟨c, rfl, hs⟩⟩ := hK
    · exact hdone D' hp' hX hs
    · exact hstop c D' hp' hX hs
end iter
theorem WCF.freezeK {r : Option Nat} {c : Code} (k : Nat) {b : Nat} {o : Obj} (hk : hp[k]? = some (b, o)) (h : D b = none → WCF P r x fr (D.add b o) (hp.eraseIdx k) c Q) : WCF P r x fr D hp c Q :=
  fun a w hA => h (hA.i.freezeK k hk).1 a w ⟨hA.f, (hA.i.freezeK k hk).2⟩
theorem WC.hpPerm {c : Code} (hp' : Hp) (hs : List.Perm hp hp') (h : WC P x fr D hp' c Q) : WC P x fr D hp c Q :=
  fun a w hA => h a w ⟨hA.f, hA.i.sub (fun _ he => hs.mem_iff.2 he) ((hs.map Prod.fst).nodup_iff.1 hA.i.nodup)⟩
theorem xl {P : Program} {b : Frame} {a : Act} {k : List Item} {cs : List Frame} {w : World} {c : Code} : step P (lone (b.atR a (.code (.scope c) :: k)) cs w) = .next (lone (b.atR a (.code c :: .inScope c :: k)) cs w) :=
  step_lone_go (by simp [stepG, stepG.exec, Frame.atR])
theorem kY {P : Program} {b : Frame} {a : Act} {k : List Item} {cs : List Frame} {w : World} {c : Code} : step P (lone (b.atR a (.inScope c :: k)) cs w) = .next (lone (b.atR a k) cs w) :=
  step_lone_go (by simp [stepG, stepG.exec, Frame.atR])
theorem vZ {F : Fence} {n : Nat} {a : Act} {w : World} {c : Code} (h : c.wpIn F n P (Exit.noGoto Q) a w) : (Code.scope c).wpIn F n P Q a w := by
  intro b k cs hro hb hr;have h0 : (lone (b.atR a (.code (.scope c) :: k)) cs w).fenced P F := fenced_calm hb hr rfl;obtain ⟨e, a₁, w₁, hq, harr⟩ := h b (.inScope c :: k) cs hro hb hr;cases e with
  | normal => exact ⟨.normal, a₁, w₁, hq, .head h0 xl (StepsIn.trans harr (.one (fenced_calm hb hr rfl) kY))⟩
  | exit id =>
    have hx : exitTo id (.inScope c :: k) = exitTo id k := by simp [exitTo]
    exact ⟨.exit id, a₁, w₁, hq, fun k' hk => .head h0 xl (harr.1 k' (by rw [hx]; exact hk)),
      fun hr' hk => let ⟨k₁, h1, h2⟩ := harr.2 hr' (by rw [hx]; exact hk); ⟨k₁, h1, .head h0 xl h2⟩⟩
  | goto l => exact hq.elim
  | ret => exact ⟨_, a₁, w₁, hq, .of_steps (.one h0 xl) harr⟩
  | panic ch => exact ⟨_, a₁, w₁, hq, .of_steps (.one h0 xl) harr⟩
  | outgrown => exact ⟨_, a₁, w₁, hq, .of_steps (.one h0 xl) harr⟩
theorem WCF.scope {r : Option Nat} {c : Code} (h : WCF P r x fr D hp c (Exit.noGoto Q)) : WCF P r x fr D hp (.scope c) Q := fun a w hA => vZ (h a w hA)
theorem WCF.label {r : Option Nat} {l : Nat} (h : WP x fr D hp .normal Q) : WCF P r x fr D hp (.label l) Q := fun a w hA => wpIn_label (h a w hA)
end
section ow
variable {P : Program} {x : Cx} {fr : Fr} {D : Imm} {hp : Hp} {Q : Exit → Act → World → Prop}
theorem Inv.freezeOw {α : Type} [Inhabited α] {f : α → List Value} {m : Nat} (hf : ∀ x, (f x).length = m) (base hp0 : Hp) (o : Option Ow) (e : TypeId) (l : List α) {S : List Nat} {w0 w : World} (ho : owP w0 o l.length m) (h : Inv D (base ++ owH o e (l.flatMap f) hp0) S w0 w) :
    ∃ D', DExt w0 D D' ∧ SlL D' m (l.map f) (owAt o) l.length ∧ Inv D' (base ++ hp0) S w0 w := by
  cases o with
  | none =>
    have h0 : l.length = 0 := ho;have hl : l = [] := List.length_eq_zero_iff.1 h0;subst hl;exact ⟨D, DExt.refl _ _, ⟨rfl, fun i r hr => by simp at hr⟩, h⟩
  | some u =>
    have hk : (base ++ owH (some u) e (l.flatMap f) hp0)[base.length]? = some (u.b, .cells (l.flatMap f ++ u.rest).toArray e (0, 0)) := by simp [owH]
    have he : (base ++ owH (some u) e (l.flatMap f) hp0).eraseIdx base.length = base ++ hp0 := by
      rw [List.eraseIdx_append_of_length_le (by omega)]; simp [owH]
    obtain ⟨hn, hI⟩ := h.freezeK base.length hk;rw [he] at hI;exact ⟨_, (DExt.refl _ _).add hn ho.1, SlL.ofBlock hf (Imm.add_self _ _ _), hI⟩
theorem WL.freezeOw {α : Type} [Inhabited α] {f : α → List Value} {m : Nat} (hf : ∀ x, (f x).length = m) {ops : Array Oper} {c : List Oper} (base hp0 : Hp) (o : Option Ow) (e : TypeId) (l : List α) {w0 : World} (hw : x.w0 = w0) (ho : owP w0 o l.length m) (hhp : hp = base ++ owH o e (l.flatMap f) hp0)
    (h : ∀ D', DExt w0 D D' → SlL D' m (l.map f) (owAt o) l.length → WL P x ops fr D' (base ++ hp0) c Q) : WL P x ops fr D hp c Q := fun a w hA => by
  subst hhp; subst hw;obtain ⟨D', h1, h2, h3⟩ := hA.i.freezeOw hf base hp0 o e l ho;exact h D' h1 h2 a w ⟨hA.f, h3⟩
theorem WA.freezeOw {α : Type} [Inhabited α] {f : α → List Value} {m : Nat} (hf : ∀ x, (f x).length = m) {ops : Array Oper} {D0 : Imm} {hpx : Hp} {plan : List (Nat × Bool)} (base hp0 : Hp) (o : Option Ow) (e : TypeId) (l : List α) {w0 : World} (hw : x.w0 = w0) (ho : owP w0 o l.length m) (hhp : hp = base ++ owH o e (l.flatMap f) hp0)
    (h : ∀ D', DExt w0 D D' → SlL D' m (l.map f) (owAt o) l.length → WA P x ops D0 hpx plan fr D' (base ++ hp0) Q) : WA P x ops D0 hpx plan fr D hp Q := fun a w hA => by
  subst hhp; subst hw;obtain ⟨D', h1, h2, h3⟩ := hA.i.freezeOw hf base hp0 o e l ho;exact h D' h1 h2 a w ⟨hA.f, h3⟩
theorem WH.freezeOw {α : Type} [Inhabited α] {f : α → List Value} {m : Nat} (hf : ∀ x, (f x).length = m) {ops : Array Oper} {D0 : Imm} {hpx : Hp} {n : Nat} {listed : Array Bool} (base hp0 : Hp) (o : Option Ow) (e : TypeId) (l : List α) {w0 : World} (hw : x.w0 = w0) (ho : owP w0 o l.length m) (hhp : hp = base ++ owH o e (l.flatMap f) hp0)
    (h : ∀ D', DExt w0 D D' → SlL D' m (l.map f) (owAt o) l.length → WH P x ops D0 hpx n listed fr D' (base ++ hp0) Q) : WH P x ops D0 hpx n listed fr D hp Q := fun a w hA => by
  subst hhp; subst hw;obtain ⟨D', h1, h2, h3⟩ := hA.i.freezeOw hf base hp0 o e l ho;exact h D' h1 h2 a w ⟨hA.f, h3⟩
variable {ty : TypeId}
theorem Inv.nil {S : List Nat} {w0 w : World} (h : Inv D hp S w0 w) : Inv D [] S w0 w := h.sub (fun _ he => by cases he) List.nodup_nil
end ow
section maps
open Go.WideElems (findIdx_born findIdx_arr modify_last)
variable {α : Type} [DecidableEq α] {kv : α → Value} {P : Program} {x : Cx} {fr : Fr} {D : Imm} {hp : Hp} {ty : TypeId} {Q : Exit → Act → World → Prop} {t k e : TypeId} {es : Array MapEntry} {clock b j : Nat} {F : α → Option Int}
end maps
end Go.W
namespace Go.W
section
variable {P : Program} {x : Cx} {fr : Fr} {D : Imm} {hp : Hp} {ty : TypeId}
theorem zcY (k : Nat) (hk : k ≤ 60) : IntKind.u64.wrap (1 * 2 ^ (min ((k : Int)).toNat IntKind.u64.bits)) = ((2 ^ k : Nat) : Int) := by
  have e : min ((k : Int)).toNat IntKind.u64.bits = k := by
    show min k 64 = k; omega
  rw [e, Int.one_mul, show ((2 : Int) ^ k) = ((2 ^ k : Nat) : Int) by rw [Int.natCast_pow]; rfl];exact wrU _ (Nat.pow_le_pow_right (by omega) hk)
theorem Yd.shlU {t t' : TypeId} {o p : Operand} {k : Nat} (ho : opv fr o = some (.int .u64 1)) (hp' : opv fr p = some (nt k)) (hk : k ≤ 60) : Yd P x fr D hp (.binOp .shl t o p t') ty (ut (2 ^ k)) :=
  Yd.shl ho hp' (by omega) (zcY k hk)
theorem Yd.subU {t t' : TypeId} {o p : Operand} {i j : Nat} (ho : opv fr o = some (ut i)) (hp' : opv fr p = some (ut j)) (h : j ≤ i) (hi : i ≤ 2 ^ 60) : Yd P x fr D hp (.binOp .sub t o p t') ty (ut (i - j)) := by
  have h1 := wrU (i - j) (by omega);have e : ((i - j : Nat) : Int) = (i : Int) - (j : Int) := by omega
  rw [e] at h1;have h2 := Yd.sub (P := P) (x := x) (D := D) (hp := hp) (ty := ty) (t := t) (t' := t') (i := (i : Int)) (j := (j : Int)) ho hp' h1;rw [← e] at h2;exact h2
end
end Go.W
namespace Go.W
section
variable {P : Program} {x : Cx} {fr : Fr} {D : Imm} {hp : Hp} {ty : TypeId}
theorem Yd.index {t e m n j : Nat} {p q : Operand} {cs : List Value} {v : Value} (hu : P.underlying t = some (.array m e)) (hz : ∀ w, (sizeOf e).run P w = .ok n w)
    (hp' : opv fr p = some (.agg cs.toArray)) (hq : opv fr q = some (nt j)) (hj : j < m) (hv : ∀ w, (part e cs.toArray (j * n)).run P w = .ok v w) : Yd P x fr D hp (.index t p q) ty v := fun a w _ _ _ _ hA _ => by
  simp only [execOp, hA.eval hp', hA.eval hq];have h1 : (0 : Int) ≤ (j : Int) := by omega
  have h2 : (j : Int) < (m : Int) := by omega
  have : (Instr.index t (.agg cs.toArray) (.int .i64 (j : Int))).run P w = .ok v w := by
    unfold Instr.index;simp [asIntOf, run_underlying hu, hz, h1, h2, hv];intro h; omega
  simp [this]
theorem Yd.buildA {t m e n : Nat} {zs : List Value} (hz : ∃ z, (∀ w, (zeroValue t).run P w = .ok z w) ∧ z.cells = zs.toArray) (hu : P.underlying t = some (.array m e)) (hs : ∀ w, (sizeOf e).run P w = .ok n w) {ps : List (Nat × Operand)} {vals : List (Nat × Value)} {cs : List Value}
    (hp' : opps fr ps = some vals) (hf : Instr.fill (fun i => some (i * n, n)) zs.toArray vals = some cs.toArray) : Yd P x fr D hp (.build t ps.toArray) ty (.agg cs.toArray) := fun a w _ _ _ _ hA _ => by
  have h1 := hA.evalps ps vals hp';obtain ⟨z, hz, hzc⟩ := hz;simp only [execOp, List.map_toArray, h1]
  have h3 : (Instr.build t vals.toArray).run P w = .ok (.agg cs.toArray) w := by
    unfold Instr.build;simp only [Sem.run_bind, hz, Result.andThen_ok, run_underlying hu, hzc, hs];have : Instr.fill (fun i => some (i * n, n)) zs.toArray vals.toArray.toList = some cs.toArray := hf;rw [this]; rfl
  simp [h3]
end
end Go.W
namespace Go.W
section
variable {P : Program} {x : Cx} {fr : Fr} {D : Imm} {hp : Hp} {Q : Exit → Act → World → Prop} {ty : TypeId}
def xV (W : World) (D : Imm) (S : List Nat) (K : Bool → Imm → Hp → Prop) (e : Ending) (W' : World) : Prop :=
  ∃ b D' hp', e = .returned (.bool b) ∧ DExt W D D' ∧ Inv D' hp' S W W' ∧ K b D' hp'
theorem WP.goOnN {l k : Nat} {rec : Loop} {D0 : Imm} {K : Bool → Imm → Hp → Prop} (hk : hp[k]? = some (l, .loop rec)) (hD : DExt x.w0 D0 D)
    (h : K true D (hp.set k (l, .loop { rec with state := .ready, pending := none }))) : WP x fr D hp .normal (roundPost P l (xV x.w0 D0 x.S K)) := fun a w hA => by
  have hl := hA.i.own _ _ (mem_of_get? hk);exact ⟨_, _, run_endRound none hl, true, _, _, rfl, hD, yB hA.i hk _, h⟩
def V9 (P : Program) (gf : Nat) (lb : List Value) (N : Nat) (arg : Nat → Value) (D : Imm) (w : World) : Prop :=
  ∀ (l : Nat) (St : Nat → Imm → Hp → Prop) (Sp : Imm → Hp → Prop), (∀ k D1 D2 h, DExt w D1 D2 → St k D1 h → St k D2 h) →
    (∀ k D' h w', k < N → w.heap.size ≤ w'.heap.size → DExt w D D' → St k D' h → Inv D' h (keys h) w' w' → YieldAt Fence.wide 0 P l #[arg k] w' (xV w' D' (keys h) (fun b D'' h' => (b = true ∧ St (k + 1) D'' h') ∨ (b = false ∧ Sp D'' h')))) →
    ∀ h0, St 0 D h0 → Inv D h0 (keys h0) w w → zp P gf ((.func (.yield l) #[] #[]) :: lb) w D (keys h0) (fun _ D' h' => St N D' h' ∨ Sp D' h')
def yP (P : Program) (n : Nat) (l : Nat) (rec : Loop) (pre : Hp) (fr : Fr) (D1 : Imm) (h : Hp) (w1 : World) (assign body : Code) (St : Imm → Hp → Prop) (Sp : Code → Imm → Hp → Prop) : Prop :=
  WCF P (some l) ⟨n, [], keys ((l, .loop rec) :: (pre ++ h)), w1⟩ fr D1 ((l, .loop rec) :: (pre ++ h)) assign
    (Exit.then (fun a₁ w₁ => ∃ w₂, (Instr.beginRound l).run P w₁ = .ok () w₂ ∧ body.wpIn (Fx (some l)) 0 P (roundPost P l (xV w1 D1 (keys ((l, .loop rec) :: (pre ++ h))) (RK l rec pre St Sp))) a₁ w₂) (fun _ _ _ => False))
theorem WP.iterOnN {l : Nat} {rec : Loop} {pre h1 : Hp} {D0 : Imm} {St : Imm → Hp → Prop} {Sp : Code → Imm → Hp → Prop} (hr : rec.state = .ready ∧ rec.pending = none) (hsub : ∀ e, e ∈ (l, .loop (u4 rec)) :: (pre ++ h1) → e ∈ hp) (hn : (keys hp).Nodup → (keys ((l, .loop (u4 rec)) :: (pre ++ h1))).Nodup)
    (hD : DExt x.w0 D0 D) (h : St D h1) : WP x fr D hp .normal (roundPost P l (xV x.w0 D0 x.S (RK l rec pre St Sp))) := fun a w hA => by
  refine WP.goOnN (k := 0) (hp := (l, .loop (u4 rec)) :: (pre ++ h1)) rfl hD (.inl ⟨rfl, h1, ?_, h⟩) a w ⟨hA.f, hA.i.sub hsub (hn hA.i.nodup)⟩
  show (l, Obj.loop { u4 rec with state := .ready, pending := none }) :: _ = _;rw [show ({ u4 rec with state := .ready, pending := none } : Loop) = { rec with state := .ready, pending := none } from rfl, rec_eta' hr.1 hr.2]
theorem Inv.toKeys {S : List Nat} {w0 w : World} (h : Inv D hp S w0 w) : Inv D hp (keys hp) w w := Inv.frame (own := []) h (fun _ h => h)
theorem WC.rangeIterN {g : Operand} {pm : Tmp} {assign body : Code} {gf : Nat} {lb : List Value} {N : Nat} {arg : Nat → Value} (hit : ∀ w, x.w0.heap.size ≤ w.heap.size → Holds D w → V9 P gf lb N arg D w) (hg : opv fr g = some (.func (.func gf) #[] lb.toArray)) (hc : ∀ args w, (callFunc gf args).run P w = .ok (.enter gf args) w) (hpm : Nat.blt pm x.n = true)
    (St : Nat → Imm → Hp → Prop) (Sp : Code → Imm → Hp → Prop) (hmono : ∀ k D1 D2 h, DExt x.w0 D1 D2 → St k D1 h → St k D2 h) (h0 : St 0 D hp)
    (hbody : ∀ rec l Dn k D1 h w1, (rec.state = .ready ∧ rec.pending = none) → k < N → St k D1 h → DExt x.w0 D D1 → x.w0.heap.size ≤ w1.heap.size → yP P x.n l rec [(Dn, .deferred (some []))] ((pm, arg k) :: fr) D1 h w1 assign body (St (k + 1)) Sp)
    (hdone : ∀ Dn D' hp', x.w0.heap.size ≤ Dn → DExt x.w0 D D' → St N D' hp' → WP ⟨x.n, y1 Dn :: x.ds, x.S, x.w0⟩ fr D' ((Dn, .deferred (some [])) :: hp') .normal Q)
    (hstop : ∀ Dn c D' hp', x.w0.heap.size ≤ Dn → DExt x.w0 D D' → Sp c D' hp' → WC P ⟨x.n, y1 Dn :: x.ds, x.S, x.w0⟩ fr D' ((Dn, .deferred (some [])) :: hp') c Q) :
    WC P x fr D hp (.rangeFunc g #[pm] assign body) Q := by
  refine WC.rangeFuncM (K := fun D' hp' pend => DExt x.w0 D D' ∧ ((pend = none ∧ St N D' hp') ∨ ∃ c, pend = some c ∧ Sp c D' hp')) hg hc (fun rec l Dn w₁ hst hpe hps has hbo hT hDn hl hI => ?_) (fun Dn D' hp' pend hDn hK => ?_)
  · have hsz := hI.keep.size;have hI1 := hI.toKeys;refine Calls.mono (hit w₁ hsz hI.imm l (fun k D' h => ∃ h1, h = (l, .loop rec) :: ([(Dn, .deferred (some []))] ++ h1) ∧ St k D' h1) (fun D' h => ∃ c h1, h = (l, .loop { rec with state := .done, pending := some c }) :: ([(Dn, .deferred (some []))] ++ h1) ∧ Sp c D' h1) ?_ ?_ _ ⟨hp, rfl, h0⟩ hI1) ?_
    · rintro k D1 D2 h hx ⟨h1, rfl, hs⟩;exact ⟨h1, rfl, hmono _ _ _ _ (hx.wide hsz) hs⟩
    · rintro k D1 h w' hk hsz2 hX ⟨h1, rfl, hs⟩ hI2;have hb := hbody rec l Dn k D1 h1 w' ⟨hst, hpe⟩ hk hs (hX.wide hsz) (Nat.le_trans hsz hsz2);refine YieldAt.mono (kN (rec := rec) (k := 0) (n := x.n) (fr := (pm, arg k) :: fr) has hbo hI2 rfl (by rw [hps]; rfl) (by rw [hps]; exact hT.round1 hpm) hb) ?_;rintro e w'' ⟨b, D', hp', rfl, hD, hI3, hK⟩;refine ⟨b, D', hp', rfl, hD, hI3, ?_⟩;rcases hK with ⟨rfl, h1, rfl, hs1⟩ | ⟨rfl, c, h1, rfl, hs1⟩
      · exact .inl ⟨rfl, h1, rfl, hs1⟩
      · exact .inr ⟨rfl, c, h1, rfl, hs1⟩
    · rintro e w' ⟨v, D', hpc', rfl, hXe, hIe, hK⟩
      have hIu := Inv.unframeN (own := []) hI (fun _ h => h) (fun b hb => by
        obtain ⟨o, ho⟩ := yQ hb;exact hIe.may b o ho) hXe hIe
      rcases hK with ⟨h1, rfl, hs⟩ | ⟨c, h1, rfl, hs⟩
      · refine ⟨v, D', h1, .ready, none, rfl, by decide, ?_, hXe.wide hsz, .inl ⟨rfl, hs⟩⟩;rw [rec_eta' hst hpe]; exact hIu
      · exact ⟨v, D', h1, .done, some c, rfl, by decide, hIu, hXe.wide hsz, .inr ⟨c, rfl, hs⟩⟩
  · obtain ⟨hX, ⟨rfl, hs⟩ | ⟨c, rfl, hs⟩⟩ := hK
    · exact hdone Dn D' hp' hDn hX hs
    · exact hstop Dn c D' hp' hDn hX hs
theorem WLF.yieldN {ops : Array Oper} {rest : List Oper} {dst : Option Tmp} {pos : String} {af : Array Edge} {l : Nat} {o : Operand} {A : List Operand} {ts : Array TypeId} {vals : List Value} {K : Bool → Imm → Hp → Prop} (own hpc : Hp) (hhp : ∀ e, e ∈ own ++ hpc → e ∈ hp) (hnd : (keys hp).Nodup → (keys (own ++ hpc)).Nodup)
    (ho : opv fr o = some (.func (.yield l) #[] #[])) (ha : opvs fr A = some vals) (hd : dstB dst x.n = true)
    (hk : ∀ w, x.w0.heap.size ≤ w.heap.size → Inv D hpc (keys hpc) w w → YieldAt Fence.wide 0 P l vals.toArray w (xV w D (keys hpc) K))
    (h : ∀ b D' hpc', K b D' hpc' → DExt x.w0 D D' → WLF P none x ops (wj dst (.bool b) fr) D' (own ++ hpc') rest Q) :
    WLF P none x ops fr D hp (⟨dst, .call ⟨.value o, A.toArray, ts⟩, ty, pos, af, none⟩ :: rest) Q := fun a w hA => by
  unfold wpListIn;rw [if_pos (show Region.wanted ⟨dst, .call ⟨.value o, A.toArray, ts⟩, ty, pos, af, none⟩ (yielded ops a.tmps) = true from rfl)];refine ⟨fun _ _ => trivial, ?_⟩;have hI := hA.i.sub hhp (hnd hA.i.nodup);obtain ⟨fn, tmps, assign, body, hy, hR⟩ := hk w hA.i.keep.size (hI.frame (fun _ h => h));have h1 := hA.f.evals A vals ha
  have hrun : (Oper.semAt (Fx none).round a.eval ⟨dst, .call ⟨.value o, A.toArray, ts⟩, ty, pos, af, none⟩).run P w = .ok (.round l fn tmps assign body) w := by
    rw [Oper.semAt_none];simp only [execOp];simp [resolve, hA.f.eval ho, Deferred.ofValue, invoke, h1, hy]
  rw [hrun, Oper.uponIn_round];refine ⟨fun e => (by cases e), RoundIn.mono hR fun e w' ⟨b, D', hpc', h2, hD, hI', hK⟩ => ?_⟩;subst h2
  exact h b D' hpc' hK ⟨hD.old, fun b hb => hD.new b (Nat.lt_of_lt_of_le hb hA.i.keep.size)⟩ _ _ ⟨hA.f.putO hd _, hI.unframeN (fun _ h => h) (fun b hb => by
    obtain ⟨o, ho⟩ := yQ hb;exact hI'.may b o ho) hD hI'⟩
theorem SO.altersNS {c : Call} {f : FuncId} {vals : List Value} {K : Value → Imm → Hp → Prop} (own hpc : Hp) (hhp : ∀ e, e ∈ own ++ hpc → e ∈ hp) (hnd : (keys hp).Nodup → (keys (own ++ hpc)).Nodup) (he : Enters P x fr D hp c ty f vals)
    (hk : ∀ w, x.w0.heap.size ≤ w.heap.size → Inv D hpc (keys hpc) w w → zp P f vals w D (keys hpc) K) : SO P x fr D hp (.call c) ty Q (AltK x.w0 D own K) := fun a w dst pos af g next hA hn => by
  unfold Oper.wp;rw [he a w dst pos af g hA.f hA.i, Oper.upon_enter];have hI := hA.i.sub hhp (hnd hA.i.nodup);refine (hk w hA.i.keep.size (hI.frame (fun _ h => h))).mono fun e w' ⟨v, D', hpc', h, hD, hI', hK⟩ => ?_;rw [h]
  exact hn _ _ _ _ ⟨hpc', ⟨hD.old, fun b hb => hD.new b (Nat.lt_of_lt_of_le hb hA.i.keep.size)⟩, hK, rfl⟩ (hI.unframeN (fun _ h => h) (fun b hb => by
    obtain ⟨o, ho⟩ := yQ hb;exact hI'.may b o ho) hD hI')
theorem WLF.ydg {r : Option Nat} {ops : Array Oper} {rest : List Oper} {d : Tmp} {op : Op} {pos : String} {af : Array Edge} {j : Nat} {b : Bool} {v : Value} (hn : ∀ c, op ≠ .defer c) (hg : gval ops fr j = some (.bool b)) (hy : Yd P x fr D hp op ty v) (hd : Nat.blt d x.n = true) (h : WLF P r x ops ((d, v) :: fr) D hp rest Q) :
    WLF P r x ops fr D hp (⟨some d, op, ty, pos, af, some (j, b)⟩ :: rest) Q := fun a w hA => by
  unfold wpListIn;rw [if_pos (by rw [yy hA.f hg]; simp)];refine X5 hn ?_;unfold Oper.wp;rw [hy a w _ _ _ _ hA.f hA.i, Oper.upon_value];exact h _ _ ⟨hA.f.put hd v, hA.i⟩
theorem WLF.skip {r : Option Nat} {ops : Array Oper} {rest : List Oper} {dst : Option Tmp} {op : Op} {pos : String} {af : Array Edge} {j : Nat} {b : Bool} (_hn : ∀ c, op ≠ .defer c) (hg : gval ops fr j = some (.bool !b)) (hd : dstB dst x.n = true) (h : WLF P r x ops (wj dst undef fr) D hp rest Q) :
    WLF P r x ops fr D hp (⟨dst, op, ty, pos, af, some (j, b)⟩ :: rest) Q := fun a w hA => by
  unfold wpListIn;rw [if_neg (by rw [yy hA.f hg]; cases b <;> simp)];exact ⟨fun _ _ => trivial, h _ _ ⟨hA.f.putO hd undef, hA.i⟩⟩
theorem yI {n : Nat} {f : FuncId} {fn : Func} {c : Code} {args : Array Value} {u : FrameMode} {w : World} {R : Ending → FrameMode → World → Prop}
    (hf : P.funcs[f]? = some fn) (hb : fn.body = some c)
    (h : ∀ (c₀ : Frame) (cs : List Frame), c₀.mode = u →
      c.wpS P (bodyPostS P fn c₀ cs R) { tmps := args ++ Array.replicate (fn.ntmps - args.size) undef, defers := [] } (c₀ :: cs) w) :
    CallsDIn Fence.wide n P f args u w R := by
  refine ⟨trivial, fun c₀ cs hu _ => ?_⟩
  let b : Frame := { (default : Frame) with fn := f, kind := .deferred }
  have henter : Frame.enter P f args .deferred =
      b.at { tmps := args ++ Array.replicate (fn.ntmps - args.size) undef, defers := [] } [.code c] := by
    simp [Frame.enter, Frame.at, hf, hb, b]
  obtain ⟨e, a', cs', w', hq, harr⟩ := h c₀ cs hu b [] rfl rfl;rw [← henter] at harr;cases e with
  | normal =>
    obtain ⟨hd, u', rfl, v, hr, hR⟩ := hq;exact ⟨.returned v, u', w', _, hR, comesIn_wide.2 (Steps.trans harr (.one step_end)), rfl, rfl, rfl, hd, fn, hf, hr⟩
  | ret =>
    obtain ⟨hd, u', rfl, v, hr, hR⟩ := hq;obtain ⟨todo, hs⟩ := harr;exact ⟨.returned v, u', w', _, hR, comesIn_wide.2 hs, rfl, rfl, rfl, hd, fn, hf, hr⟩
  | panic chain =>
    obtain ⟨hd, u', rfl, hR⟩ := hq;obtain ⟨todo, hs⟩ := harr;exact ⟨.panicked chain, u', w', _, hR, comesIn_wide.2 hs, rfl, rfl, rfl, hd, fn, hf⟩
  | exit id => exact hq.elim
  | goto l => exact hq.elim
  | outgrown =>
    obtain ⟨u', hR⟩ := hq;exact ⟨.outgrown, u', w', b, hR, comesIn_wide.2 (harr.resolve_left (by simp [b])), rfl, rfl, trivial⟩
def V7 (P : Program) (f : FuncId) (vals : List Value) (w : World) : Prop := CallsDIn Fence.wide 0 P f vals.toArray .returning w fun e u' w' => (∃ v, e = .returned v) ∧ u' = .returning ∧ Keep [] w w'
theorem WP.retMsD {e : Exit} {fn : Func} {R : Ending → World → Prop} {f : FuncId} {cap : List Value} (bs : List Nat) (hp0 : Hp) (rs : List ResultVar) (vs : List Value) (he : ZD e = true) (hd : x.ds = bs.map y1 ++ [{ target := .fn (.func f) cap.toArray, args := #[] }]) (hc : ∀ args w, (callFunc f args).run P w = .ok (.enter f args) w)
    (hi : ∀ w, Inv D hp0 x.S x.w0 w → V7 P f cap w) (hs : ∀ e, e ∈ bs.map dblk ++ hp0 → e ∈ hp) (hn : (keys hp).Nodup → (keys (bs.map dblk ++ hp0)).Nodup)
    (hr : fn.results = rs.toArray) (h : RVs P x fr D hp0 rs vs) (hR : ∀ w, Inv D hp0 x.S x.w0 w → R (.returned (retV vs)) w) : WP x fr D hp e (bodyPostM Fence.wide 0 P fn R) := fun a w hA => by
  have key : LeavesInM Fence.wide 0 P fn a.tmps R a.defers .returning w := by
    rw [hA.f.defers, hd];refine uT (P := P) (fn := fn) (tmps := a.tmps) (R := R) (hp0 := hp0) (fun w' hI => ?_) bs w (hA.i.sub hs (hn hA.i.nodup));refine ⟨by simp, .inr ⟨fun h => (by cases h), .func f, cap.toArray, f, cap.toArray, rfl, by simp [invoke, hc], fun _ _ => trivial, ?_⟩⟩;have h1 := hi w' hI;refine ⟨h1.1, fun c cs hc' hroom => ?_⟩;obtain ⟨e', u', w2, fr', ⟨⟨v, rfl⟩, rfl, hk⟩, rest⟩ := h1.2 c cs hc' hroom;refine ⟨.returned v, .returning, w2, fr', ?_, rest⟩;have hI2 := hI.call hk;exact ⟨_, xh hr hA.f hI2 h, hR w2 hI2⟩
  cases e <;> first | exact key | cases he
end
end Go.W
namespace Go.W
section
variable {P : Program} {x : Cx} {fr : Fr} {D : Imm} {hp : Hp} {ty : TypeId} {Q : Exit → Act → World → Prop} {ops : Array Oper}
end
end Go.W
namespace Go.W
section
variable {P : Program} {x : Cx} {ops : Array Oper} {fr : Fr} {D : Imm} {hp : Hp} {Q : Exit → Act → World → Prop} {D0 : Imm} {hp0 : Hp} {n i j k : Nat} {listed : Array Bool}
theorem Yd.eqB {ty : TypeId} {t t' : TypeId} {o p : Operand} {a b : Bool} (hu : P.underlying t = some .bool) (ho : opv fr o = some (.bool a)) (hp' : opv fr p = some (.bool b)) :
    Yd P x fr D hp (.binOp .eql t o p t') ty (.bool (a == b)) := fun act w _ _ _ _ hA _ => by
  simp only [execOp, hA.eval ho, hA.eval hp'];have hg : (eqGuard .eql t o p (.bool a) (.bool b)).run P w = .ok () w := by unfold eqGuard; split <;> rfl
  have he : ∀ n, (Op.equalIn (n + 1) t (.bool a) (.bool b)).run P w = .ok (a == b) w := fun n => by
    unfold Op.equalIn; simp [run_underlying hu]
  have : (Go.binOp .eql t (.bool a) (.bool b)).run P w = .ok (.bool (a == b)) w := by
    have h1 : (Go.binOp .eql t (.bool a) (.bool b)).run P w = ((Op.equalIn (9999 + 1) t (.bool a) (.bool b)).run P w).andThen fun r w' => .ok (.bool r) w' := by
      simp [Go.binOp, Op.equal, Op.maxDepth]
    rw [h1, he];rfl
  simp [hg, this]
theorem WP.againS {D1 : Imm} {hp' : Hp} {α : Type} {F : α → Fr} {φ : α → Prop} {m : α → Nat} {k : Nat} (z : α) (hz : φ z) (hm : m z < k) (hf : subB (F z) fr) (hs : ∀ e, e ∈ hp' → e ∈ hp) (hn : (hp.map Prod.fst).Nodup → (hp'.map Prod.fst).Nodup) (hD : ∀ b o, D b = some o → D1 b = some o) :
    WP x fr D1 hp .normal (Exit.then (fun a w => ∃ z, φ z ∧ m z < k ∧ At x (F z) D hp' a w) Q) :=
  fun _ _ h => ⟨z, hz, hm, yi ⟨h.f, h.i.shrink hD⟩ hf hs hn⟩
end
end Go.W
