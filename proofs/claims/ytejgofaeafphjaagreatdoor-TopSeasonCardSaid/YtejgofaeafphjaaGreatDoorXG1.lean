import Derived.Test.YtejgofaeafphjaaGreatDoorXG0
import Derived.ProofKit
import Derived.Deep.Slices
import Derived.Deep.Fields
import Derived.Lib.SmallJoins
import Derived.SizedLaws
import Derived.Shelf.Vars
import Derived.Lay
import Derived.LaidMore
import Derived.Stop.LaidErr
import Derived.Lib.LaidTab
set_option linter.all false
set_option maxRecDepth 100000
set_option maxHeartbeats 4000000
namespace Go.W
section
variable {P : Program} {x : Cx} {fr : Fr} {D : Imm} {hp : Hp} {Q : Exit → Act → World → Prop}
def Ke (P : Program) (f : FuncId) (vals : List Value) (v : Value) (b : Nat) (o' : Obj) (w : World) : Prop :=
  CallsDIn Fence.wide 0 P f vals.toArray (.panicking [{ v, recovered := false }]) w fun e u' w' => (∃ v, e = .returned v) ∧ u' = .panicking [{ v, recovered := true }] ∧ Keep [b] w w' ∧ w'.heap[b]? = some o'
theorem WP.panicMsD {fn : Func} {R : Ending → World → Prop} {f : FuncId} {cap : List Value} {v : Value} {k b : Nat} {o o' : Obj} (bs : List Nat) (hp0 : Hp) (rs : List ResultVar) (vs : List Value) (hd : x.ds = bs.map y1 ++ [{ target := .fn (.func f) cap.toArray, args := #[] }]) (hc : ∀ args w, (callFunc f args).run P w = .ok (.enter f args) w)
    (hk : hp0[k]? = some (b, o)) (hi : ∀ w, Inv D hp0 x.S x.w0 w → Ke P f cap v b o' w) (hs : ∀ e, e ∈ bs.map dblk ++ hp0 → e ∈ hp) (hn : (keys hp).Nodup → (keys (bs.map dblk ++ hp0)).Nodup)
    (hr : fn.results = rs.toArray) (h : RVs P x fr D (hp0.set k (b, o')) rs vs) (hR : ∀ w, Inv D (hp0.set k (b, o')) x.S x.w0 w → R (.returned (retV vs)) w) : WP x fr D hp (.panic [{ v, recovered := false }]) (bodyPostM Fence.wide 0 P fn R) := fun a w hA => by
  show LeavesInM Fence.wide 0 P fn a.tmps R a.defers (.panicking [{ v, recovered := false }]) w;rw [hA.f.defers, hd];refine u9 (P := P) (fn := fn) (tmps := a.tmps) (R := R) (hp0 := hp0) (fun w' hI => ?_) bs w (hA.i.sub hs (hn hA.i.nodup));refine ⟨by simp, .inr ⟨fun h => (by cases h), .func f, cap.toArray, f, cap.toArray, rfl, by simp [invoke, hc], fun _ _ => trivial, ?_⟩⟩;have h1 := hi w' hI;refine ⟨h1.1, fun c cs hc' hroom => ?_⟩;obtain ⟨e', u', w2, fr', ⟨⟨v', rfl⟩, rfl, hkp, hb⟩, rest⟩ := h1.2 c cs hc' hroom;refine ⟨.returned v', .panicking [{ v, recovered := true }], w2, fr', ?_, rest⟩;have hI2 := hI.mut hk hkp hb;exact ⟨_, xh hr hA.f hI2 h, hR w2 hI2⟩
theorem WLF.freezeN {r : Option Nat} {ops : Array Oper} {l : List Oper} {w0 : World} (k b : Nat) (o : Obj) (hw : x.w0 = w0) (hk : hp[k]? = some (b, o)) (hb : w0.heap.size ≤ b) (h : ∀ D', DExt w0 D D' → D' b = some o → WLF P r x ops fr D' (hp.eraseIdx k) l Q) : WLF P r x ops fr D hp l Q := by
  subst hw;exact WLF.freezeK k hk fun hn => h _ ((DExt.refl _ D).add hn hb) (Imm.add_self _ _ _)
theorem WCF.freezeN {r : Option Nat} {c : Code} {w0 : World} (k b : Nat) (o : Obj) (hw : x.w0 = w0) (hk : hp[k]? = some (b, o)) (hb : w0.heap.size ≤ b) (h : ∀ D', DExt w0 D D' → D' b = some o → WCF P r x fr D' (hp.eraseIdx k) c Q) : WCF P r x fr D hp c Q := by
  subst hw;exact WCF.freezeK k hk fun hn => h _ ((DExt.refl _ D).add hn hb) (Imm.add_self _ _ _)
end
end Go.W
namespace Go.W
section
variable {P : Program} {x : Cx} {fr : Fr} {D : Imm} {hp : Hp} {ty : TypeId} {Q : Exit → Act → World → Prop}
abbrev Vi := List (Nat × Value × List Value)
def YP (pl : List (Nat × Nat)) (n : Nat) : Vi → Prop
  | [] => True
  | (i, v, row) :: r => v.cells = row.toArray ∧ (∃ off, pl[i]? = some (off, row.length) ∧ off + row.length ≤ n) ∧ YP pl n r
def J1 (pl : List (Nat × Nat)) : List Value → Vi → List Value
  | cs, [] => cs
  | cs, (i, _, row) :: r => J1 pl (splice cs (pl.getD i (0, 0)).1 row) r
def zaY (l : Vi) : List (Nat × Value) := l.map fun y => (y.1, y.2.1)
theorem kW {cs vs : List Value} {off : Nat} (h : off + vs.length ≤ cs.length) : (splice cs off vs).length = cs.length := by
  simp only [splice, List.length_append, List.length_take, List.length_drop]; omega
theorem jG (pl : List (Nat × Nat)) : ∀ (l : Vi) (cs : List Value), YP pl cs.length l → Instr.fill (fun i => pl.toArray[i]?) cs.toArray (zaY l) = some (J1 pl cs l).toArray
  | [], cs, _ => rfl
  | (i, v, row) :: r, cs, h => by
    obtain ⟨hc, ⟨off, ho, hl⟩, hr⟩ := h;have ho' : pl.toArray[i]? = some (off, row.length) := by simpa using ho
    have hg : pl.getD i (0, 0) = (off, row.length) := by simp [List.getD, ho]
    show Instr.fill (fun i => pl.toArray[i]?) cs.toArray ((i, v) :: zaY r) = _;rw [Instr.fill];simp only [ho', hc];have hn : ¬ off + row.length > cs.length := by omega
    rw [if_neg (by simpa using hn)];have e := Zc row ((cs.drop off).take row.length) (cs.take off) (cs.drop (off + row.length)) off 0 (by rw [List.length_take, List.length_drop]; omega) (by rw [List.length_take]; omega)
    have e3 : cs.take off ++ ((cs.drop off).take row.length ++ cs.drop (off + row.length)) = cs := by
      rw [← List.drop_drop, List.take_append_drop, List.take_append_drop]
    rw [e3] at e
    have e2 : (Array.foldl (fun (cs : Array Value) (x : Value × Nat) => cs.setIfInBounds (off + x.2) x.1) cs.toArray row.toArray.zipIdx) = (splice cs off row).toArray := by
      unfold splice;rw [List.append_assoc, ← e]; simp
    show Instr.fill _ (Array.foldl (fun (cs : Array Value) (x : Value × Nat) => cs.setIfInBounds (off + x.2) x.1) cs.toArray row.toArray.zipIdx) _ = _;rw [e2, jG pl r (splice cs off row) (by rw [kW hl]; exact hr), J1, hg]
theorem Yd.buildL {t : TypeId} {zs : List Value} {pl : List (Nat × Nat)} (hS : zj P t zs pl) {ps : List (Nat × Operand)} (l : Vi) (cs : List Value) (hp' : opps fr ps = some (zaY l)) (hok : YP pl zs.length l) (hcs : J1 pl zs l = cs) :
    Yd P x fr D hp (.build t ps.toArray) ty (.agg cs.toArray) := by
  subst hcs;exact Yd.build hS hp' (jG pl l zs hok)
end
end Go.W
namespace Go.W
section
variable {P : Program} {x : Cx} {fr : Fr} {D : Imm} {hp : Hp} {ty : TypeId} {Q : Exit → Act → World → Prop}
theorem Kn {t e : TypeId} {p : Option Addr} (hu : P.underlying t = some (.pointer e)) (w : World) : (Op.equalIn 10000 t (.pointer p) (.pointer none)).run P w = .ok p.isNone w := by
  have h1 : ∀ d, (Op.equalIn (d + 1) t (.pointer p) (.pointer none)).run P w = .ok p.isNone w := fun d => by
    cases p with
    | none => simp only [Op.equalIn, Sem.run_bind, run_underlying hu, Result.andThen_ok]; rfl
    | some a => simp only [Op.equalIn, Sem.run_bind, run_underlying hu, Result.andThen_ok]; rfl
  exact h1 9999
section
variable {t t' e : TypeId} {o : Operand} {p : Option Addr} (hu : P.underlying t = some (.pointer e)) (ho : opv fr o = some (.pointer p))
include t t' e o p hu ho
theorem Yd.eqP :
    Yd P x fr D hp (.binOp .eql t o (.const (.pointer none)) t') ty (.bool p.isNone) := fun a w _ _ _ _ hA _ => by
  have h3 : (Go.binOp .eql t (.pointer p) (.pointer none)).run P w = .ok (.bool p.isNone) w := by
    show Sem.run P (do let b ← Op.equalIn 10000 t (.pointer p) (.pointer none); pure (Value.bool b)) w = _;rw [Sem.run_bind, Kn hu]; rfl
  have h5 : a.eval (.const (.pointer none)) = .pointer none := rfl;simp only [execOp, hA.eval ho, h5];have h4 : (eqGuard .eql t o (.const (.pointer none)) (.pointer p) (.pointer none)).run P w = .ok () w := by cases p <;> rfl
  simp [h4, h3]
theorem Yd.neP :
    Yd P x fr D hp (.binOp .neq t o (.const (.pointer none)) t') ty (.bool !p.isNone) := fun a w _ _ _ _ hA _ => by
  have h3 : (Go.binOp .neq t (.pointer p) (.pointer none)).run P w = .ok (.bool !p.isNone) w := by
    show Sem.run P (do let b ← Op.equalIn 10000 t (.pointer p) (.pointer none); pure (Value.bool !b)) w = _;rw [Sem.run_bind, Kn hu]; rfl
  have h5 : a.eval (.const (.pointer none)) = .pointer none := rfl;simp only [execOp, hA.eval ho, h5];have h4 : (eqGuard .neq t o (.const (.pointer none)) (.pointer p) (.pointer none)).run P w = .ok () w := by cases p <;> rfl
  simp [h4, h3]
end
theorem Holds.add {w : World} {b : Nat} {o : Obj} (h : Holds D w) (hb : w.heap[b]? = some o) : Holds (D.add b o) w := fun b' o' hb' => by
  unfold Imm.add at hb';split at hb'
  · rename_i e; cases hb'; rw [e]; exact hb
  · exact h b' o' hb'
theorem xD {b : Nat} {o : Obj} (hn : D b = none) : ∀ b' o', D b' = some o' → (D.add b o) b' = some o' := fun b' o' h => by
  unfold Imm.add;split
  · rename_i e; rw [e, hn] at h; cases h
  · exact h
end
end Go.W
namespace Go.W
section
variable {P : Program} {x : Cx} {fr : Fr} {D : Imm} {hp : Hp} {ty : TypeId} {Q : Exit → Act → World → Prop}
theorem Inv.thawS {S : List Nat} {w0 w : World} {b : Nat} {o : Obj} (h : Inv D hp S w0 w) (hb : D b = some o) (hn : b ∈ S ∨ w0.heap.size ≤ b) : Inv (D.minus b) ((b, o) :: hp) S w0 w := by
  refine ⟨fun k o' hk => ?_, fun k o' hk => ?_, ?_, fun k o' hk => ?_, h.keep, fun k o' hk => ?_⟩
  · unfold Imm.minus at hk;split at hk
    · cases hk
    · exact h.imm k o' hk
  · rcases List.mem_cons.1 hk with e | e
    · cases e; exact h.imm _ _ hb
    · exact h.own k o' e
  · rw [List.map_cons, List.nodup_cons];refine ⟨fun hm => ?_, h.nodup⟩;obtain ⟨e, he, heq⟩ := List.mem_map.1 hm;have := h.apart e.1 e.2 he;rw [show e.1 = b from heq, hb] at this; cases this
  · unfold Imm.minus;split
    · rfl
    · rename_i hne
      rcases List.mem_cons.1 hk with e | e
      · cases e; exact absurd rfl hne
      · exact h.apart k o' e
  · rcases List.mem_cons.1 hk with e | e
    · cases e; exact hn
    · exact h.may k o' e
theorem WC.thawS {c : Code} {b : Nat} {o : Obj} (hb : D b = some o) (hn : b ∈ x.S ∨ x.w0.heap.size ≤ b) (h : WC P x fr (D.minus b) ((b, o) :: hp) c Q) : WC P x fr D hp c Q :=
  fun a w hA => h a w ⟨hA.f, hA.i.thawS hb hn⟩
theorem DExt.lent {w : World} {D D2 : Imm} {b : Nat} {o : Obj} (hn : D b = none) (h : DExt w (D.add b o) D2) : DExt w D (D2.minus b) := by
  refine ⟨fun k o' hk => ?_, fun k hk hd => ?_⟩
  · unfold Imm.minus;split
    · rename_i e; rw [e, hn] at hk; cases hk
    · exact h.old k o' (xD hn k o' hk)
  · unfold Imm.minus;split
    · rfl
    · rename_i hne
      refine h.new k hk ?_;unfold Imm.add; rw [if_neg hne]; exact hd
theorem zcB {S : List Nat} {w0 w : World} {b : Nat} {o : Obj} (h : Inv D [(b, o)] S w0 w) : D b = none ∧ Inv (D.add b o) [] S w0 w := h.freezeK 0 rfl
theorem WLF.yieldPg {r : Option Nat} {ty : TypeId} {ops : Array Oper} {rest : List Oper} {dst : Option Tmp} {pos : String} {af : Array Edge} {l : Nat} {o : Operand} {A : List Operand} {ts : Array TypeId} {vals : List Value} {j : Nat} {b : Bool} {K : Imm → Hp → Prop} {C : List PanicEntry → Imm → Hp → Prop} (own hpc : Hp) (hhp : ∀ e, e ∈ own ++ hpc → e ∈ hp) (hnd : (keys hp).Nodup → (keys (own ++ hpc)).Nodup) 
    (hg : gval ops fr j = some (.bool b)) (ho : opv fr o = some (.func (.yield l) #[] #[])) (ha : opvs fr A = some vals) (hd : dstB dst x.n = true)
    (hk : ∀ w, x.w0.heap.size ≤ w.heap.size → Inv D hpc (keys hpc) w w → YieldAt Fence.wide 0 P l vals.toArray w (jE w D (keys hpc) K C))
    (h : ∀ D' hpc', K D' hpc' → DExt x.w0 D D' → WLF P r x ops (wj dst (.bool true) fr) D' (own ++ hpc') rest Q)
    (hp' : ∀ ch D' hpc', C ch D' hpc' → DExt x.w0 D D' → WP x fr D' (own ++ hpc') (.panic ch) Q) :
    WLF P r x ops fr D hp (⟨dst, .call ⟨.value o, A.toArray, ts⟩, ty, pos, af, some (j, b)⟩ :: rest) Q := fun a w hA => by
  unfold wpListIn;rw [if_pos (by rw [yy hA.f hg]; simp)];refine ⟨fun _ _ => trivial, ?_⟩;have hI := hA.i.sub hhp (hnd hA.i.nodup);obtain ⟨fn, tmps, assign, body, hy, hR⟩ := hk w hA.i.keep.size (hI.frame (fun _ h => h));have h1 := hA.f.evals A vals ha
  have hrun : (Oper.semAt (Fx r).round a.eval ⟨dst, .call ⟨.value o, A.toArray, ts⟩, ty, pos, af, some (j, b)⟩).run P w = .ok (.round l fn tmps assign body) w := by
    have : Oper.semAt (Fx r).round a.eval ⟨dst, .call ⟨.value o, A.toArray, ts⟩, ty, pos, af, some (j, b)⟩ = execOp a.eval ⟨dst, .call ⟨.value o, A.toArray, ts⟩, ty, pos, af, some (j, b)⟩ := by
      cases r <;> rfl
    rw [this];simp only [execOp];simp [resolve, hA.f.eval ho, Deferred.ofValue, invoke, h1, hy]
  rw [hrun, Oper.uponIn_round];have hR' : RoundIn (Fx r) 0 P l fn tmps assign body w (jE w D (keys hpc) K C) := hR;refine ⟨fun e => (by cases e), RoundIn.mono hR' fun e w' ⟨D', hpc', hD, hI', hK⟩ => ?_⟩;have hX : DExt x.w0 D D' := ⟨hD.old, fun b hb => hD.new b (Nat.lt_of_lt_of_le hb hA.i.keep.size)⟩
  have hIu : Inv D' (own ++ hpc') x.S x.w0 w' := hI.unframeN (fun _ h => h) (fun b hb => by
    obtain ⟨o, ho⟩ := yQ hb;exact hI'.may b o ho) hD hI'
  rcases hK with ⟨rfl, hs⟩ | ⟨ch, rfl, hs⟩
  · exact h D' hpc' hs hX _ _ ⟨hA.f.putO hd _, hIu⟩
  · exact hp' ch D' hpc' hs hX _ _ ⟨hA.f, hIu⟩
end
end Go.W
namespace Go.W
section
variable {P : Program} {x : Cx} {fr : Fr} {D : Imm} {hp : Hp} {ty : TypeId} {Q : Exit → Act → World → Prop}
theorem WLF.no {r : Option Nat} {ops : Array Oper} {rest : List Oper} {dst : Option Tmp} {op : Op} {pos : String} {af : Array Edge} (hn : ∀ c, op ≠ .defer c) (hs : SO P x fr D hp op ty Q NoK) : WLF P r x ops fr D hp (⟨dst, op, ty, pos, af, none⟩ :: rest) Q := fun a w hA => by
  unfold wpListIn;rw [if_pos (show Region.wanted ⟨dst, op, ty, pos, af, none⟩ (yielded ops a.tmps) = true from rfl)];exact X5 hn (hs a w _ _ _ _ _ hA fun _ _ _ _ hk _ => hk.elim)
end
end Go.W
namespace Go.W
structure AL (es : Array MapEntry) (G : List (List UInt8 × Value)) : Prop where
  ent : es.toList.map (fun e => (e.key, e.val)) = G.map (fun p => (st p.1, p.2))
  len : ∀ p ∈ G, p.1.length ≤ 2 ^ 40
  nod : (G.map (·.1)).Nodup
theorem AL.nil : AL #[] [] := ⟨rfl, fun p hp => (by simp at hp), List.nodup_nil⟩
theorem XD {y : List UInt8} {v : Value} : ∀ {G : List (List UInt8 × Value)}, (G.map (·.1)).Nodup → (y, v) ∈ G → G.lookup y = some v
  | [], _, h => (by simp at h)
  | (z, u) :: G, hn, h => by
    rw [List.map_cons, List.nodup_cons] at hn;rcases List.mem_cons.1 h with h | h
    · cases h; simp [List.lookup]
    · have h2 : y ≠ z := fun e => hn.1 (List.mem_map.2 ⟨(y, v), h, e⟩);rw [List.lookup_cons, show (y == z) = false by simpa using h2];exact XD hn.2 h
theorem Uc {y : List UInt8} : ∀ {G : List (List UInt8 × Value)}, (∀ p ∈ G, p.1 ≠ y) → G.lookup y = none
  | [], _ => rfl
  | (z, u) :: G, h => by
    have h1 : y ≠ z := fun e => h (z, u) (by simp) e.symm;rw [List.lookup_cons, show (y == z) = false by simpa using h1];exact Uc (fun p hp => h p (by simp [hp]))
section
variable {P : Program} {x : Cx} {fr : Fr} {D : Imm} {hp : Hp} {ty : TypeId} {Q : Exit → Act → World → Prop} {t k e : TypeId} {es : Array MapEntry} {clock b j : Nat} {G : List (List UInt8 × Value)}
theorem Xi (L : Go.Maps.Keyed P k) (hk : P.underlying k = some .string) (hA : AL es G) (y : List UInt8) (hy : y.length ≤ 2 ^ 40) (w : World) :
    ((Instr.findKey k (st y) es.toList).run P w = .ok none w ∧ G.lookup y = none) ∨ ∃ q v, (Instr.findKey k (st y) es.toList).run P w = .ok (some (q, v)) w ∧ G.lookup y = some v := by
  obtain ⟨l, hl⟩ := kw hk ⟨y, hy⟩
  rcases L.find w hl es.toList (fun e he => by
      have h1 : (e.key, e.val) ∈ es.toList.map (fun e => (e.key, e.val)) := List.mem_map_of_mem he;rw [hA.ent] at h1;obtain ⟨p, hp, hq⟩ := List.mem_map.1 h1;rw [← (Prod.mk.inj hq).1];exact kw hk ⟨p.1, hA.len p hp⟩) with ⟨h1, h2⟩ | ⟨q, e0, h1, h2, h3⟩
  · refine .inl ⟨h1, Uc fun p hp h => ?_⟩;have h4 : (st p.1, p.2) ∈ es.toList.map (fun e => (e.key, e.val)) := by rw [hA.ent]; exact List.mem_map_of_mem hp
    obtain ⟨e, he, hq⟩ := List.mem_map.1 h4;exact h2 e he ((Prod.mk.inj hq).1.trans (congrArg st h))
  · have h4 : (e0.key, e0.val) ∈ es.toList.map (fun e => (e.key, e.val)) := List.mem_map_of_mem (List.mem_of_getElem? h2);rw [hA.ent] at h4;obtain ⟨p, hp, hq⟩ := List.mem_map.1 h4;have h5 : p.1 = y := zd6 (by rw [(Prod.mk.inj hq).1, h3]; rfl);subst h5;exact .inr ⟨q, e0.val, h1, XD hA.nod (by rw [← (Prod.mk.inj hq).2]; exact hp)⟩
theorem Yd.lookADOk {m i : Operand} {z : Value} (L : Go.Maps.Keyed P k) (hk : P.underlying k = some .string) (hu : P.underlying t = some (.map k e)) (hz : ∀ w, (zeroValue e).run P w = .ok z w) 
    (hm : opv fr m = some (.map (some b))) {y : List UInt8} (hy : y.length ≤ 2 ^ 40) (hi : opv fr i = some (st y)) (hj : D b = some (.map es clock)) (hA : AL es G) : Yd P x fr D hp (.lookup t m i true) ty (.tuple #[(G.lookup y).getD z, .bool (G.lookup y).isSome]) := fun a w _ _ _ _ hF hI => by
  have hb := hI.imm _ _ hj;have hobj : (getObj b).run P w = .ok (.map es clock) w := by simp [getObj, Sem.run, hb]
  obtain ⟨l, hl⟩ := kw hk ⟨y, hy⟩;have hc := fun em => L.check w em hl;simp only [kvS] at hc;rcases Xi L hk hA y hy w with ⟨h1, h3⟩ | ⟨q, v, h1, h3⟩
  · have : (Instr.lookup t (.map (some b)) (st y) true).run P w = .ok (.tuple #[z, .bool false]) w := by
      simp [Instr.lookup, run_underlying hu, hobj, hc, h1, hz]
    simp only [execOp, hF.eval hm, hF.eval hi, h3];simp [this]
  · have : (Instr.lookup t (.map (some b)) (st y) true).run P w = .ok (.tuple #[v, .bool true]) w := by
      simp [Instr.lookup, run_underlying hu, hobj, hc, h1]
    simp only [execOp, hF.eval hm, hF.eval hi, h3];simp [this]
def InsA (D : Imm) (hp : Hp) (j b : Nat) (G : List (List UInt8 × Value)) (y : List UInt8) (u : Value) (_ : Value) (D' : Imm) (hp' : Hp) : Prop :=
  D = D' ∧ ∃ es1 clock1, hp' = hp.set j (b, .map es1 clock1) ∧ AL es1 (G ++ [(y, u)])
theorem AL.push (hA : AL es G) {y : List UInt8} (hy : y.length ≤ 2 ^ 40) (hn : y ∉ G.map (·.1)) (u : Value) (c : Nat) : AL (es.push { key := st y, val := u, born := c }) (G ++ [(y, u)]) := by
  refine ⟨by simp [hA.ent], fun p hp => ?_, ?_⟩
  · rcases List.mem_append.1 hp with h | h
    · exact hA.len p h
    · simp only [List.mem_singleton] at h; subst h; exact hy
  · rw [List.map_append, List.nodup_append];refine ⟨hA.nod, by simp, fun a ha b hb => ?_⟩;simp only [List.map_cons, List.map_nil, List.mem_singleton] at hb;subst hb;rintro rfl;exact hn ha
section
variable {m i o : Operand} {u : Value} (L : Go.Maps.Keyed P k) (hk : P.underlying k = some .string) (hu : P.underlying t = some (.map k e))
include m i o u L hk hu
theorem updA {y : List UInt8} (hy : y.length ≤ 2 ^ 40) (hA : AL es G) (hn : y ∉ G.map (·.1)) {w : World} (hb : w.heap[b]? = some (.map es clock)) :
    (Instr.mapUpdate t (.map (some b)) (st y) u).run P w = .ok () { w with heap := w.heap.setIfInBounds b (.map (es.push { key := st y, val := u, born := clock }) (clock + 1)) } := by
  have hobj : (getObj b).run P w = .ok (.map es clock) w := by simp [getObj, Sem.run, hb]
  have hset : ∀ o', (setObj b o').run P w = .ok () { w with heap := w.heap.setIfInBounds b o' } := fun o' => by simp [setObj, Sem.run, hb]
  obtain ⟨l, hl⟩ := kw hk ⟨y, hy⟩;rcases Xi L hk hA y hy w with ⟨h1, _⟩ | ⟨q, v, _, h3⟩
  · have hc := fun em => L.check w em hl;have hs := L.stays w hl;simp only [kvS] at hc hs;simp [Instr.mapUpdate, run_underlying hu, hobj, hc, h1, hset]
  · exfalso
    have : ∀ {G : List (List UInt8 × Value)}, G.lookup y = some v → y ∈ G.map (·.1) := by
      intro G
      induction G with
      | nil => intro h; cases h
      | cons p G ih =>
        intro h;by_cases hp : y = p.1
        · simp [hp]
        · rw [show (p :: G) = ((p.1, p.2) :: G) from rfl, List.lookup_cons, show (y == p.1) = false by simpa using hp] at h;simp only [List.map_cons, List.mem_cons];exact .inr (ih h)
    exact hn (this h3)
theorem SO.insA 
    (hm : opv fr m = some (.map (some b))) {y : List UInt8} (hy : y.length ≤ 2 ^ 40) (hi : opv fr i = some (st y)) (ho : opv fr o = some u) (hj : hp[j]? = some (b, .map es clock)) (hA : AL es G) (hn : y ∉ G.map (·.1)) : SO P x fr D hp (.insert t m i o) ty Q (InsA D hp j b G y u) := fun a w dst pos af g next hF hN => by
  have hb := hF.i.own _ _ (mem_of_get? hj);have := updA (m := m) (i := i) (o := o) (u := u) L hk hu hy hA hn hb;unfold Oper.wp;simp only [execOp, hF.f.eval hm, hF.f.eval hi, hF.f.eval ho];simp only [this, Sem.run_bind, Result.andThen_ok, Sem.run_pure, Sem.run_map, Oper.upon_value, Oper.upon_skip];exact hN _ _ _ _ ⟨rfl, _, _, rfl, hA.push hy hn u _⟩ (hF.i.set hj _)
theorem SO.updA 
    (hm : opv fr m = some (.map (some b))) {y : List UInt8} (hy : y.length ≤ 2 ^ 40) (hi : opv fr i = some (st y)) (ho : opv fr o = some u) (hj : hp[j]? = some (b, .map es clock)) (hA : AL es G) (hn : y ∉ G.map (·.1)) : SO P x fr D hp (.mapUpdate t m i o) ty Q (InsA D hp j b G y u) := fun a w dst pos af g next hF hN => by
  have hb := hF.i.own _ _ (mem_of_get? hj);have := Go.W.updA (m := m) (i := i) (o := o) (u := u) L hk hu hy hA hn hb;unfold Oper.wp;simp only [execOp, hF.f.eval hm, hF.f.eval hi, hF.f.eval ho];simp only [this, Sem.run_bind, Result.andThen_ok, Sem.run_pure, Sem.run_map, Oper.upon_value, Oper.upon_skip];exact hN _ _ _ _ ⟨rfl, _, _, rfl, hA.push hy hn u _⟩ (hF.i.set hj _)
end
end
end Go.W
namespace Go.W
section
variable {P : Program} {x : Cx} {fr : Fr} {D : Imm} {hp : Hp} {Q : Exit → Act → World → Prop} {ops : Array Oper}
theorem WL.hpPerm {c : List Oper} (hp' : Hp) (hs : List.Perm hp hp') (h : WL P x ops fr D hp' c Q) : WL P x ops fr D hp c Q :=
  fun a w hA => h a w ⟨hA.f, hA.i.sub (fun _ he => hs.mem_iff.2 he) ((hs.map Prod.fst).nodup_iff.1 hA.i.nodup)⟩
end
end Go.W
namespace Go.W
section
variable {P : Program} {x : Cx} {fr : Fr} {D D0 : Imm} {l1 l2 hp0 : Hp} {Q : Exit → Act → World → Prop} {ops : Array Oper} {plan : List (Nat × Bool)}
theorem WA.left (h : WA P x ops D0 hp0 plan fr D l1 Q) : WA P x ops D0 hp0 plan fr D (l1 ++ l2) Q := fun a w hA => h a w ⟨hA.f, hA.i.left⟩
theorem WL.left {c : List Oper} (h : WL P x ops fr D l1 c Q) : WL P x ops fr D (l1 ++ l2) c Q := fun a w hA => h a w ⟨hA.f, hA.i.left⟩
end
end Go.W
namespace Go.W
section
variable {P : Program} {x : Cx} {fr : Fr} {D : Imm} {hp : Hp} {ty : TypeId} {Q : Exit → Act → World → Prop}
end
end Go.W
namespace Go.W
section
variable {P : Program} {x : Cx} {fr : Fr} {D : Imm} {hp : Hp} {ty : TypeId} {Q : Exit → Act → World → Prop}
theorem Imm.minus_of {D : Imm} {b k : Nat} {o : Obj} (hne : k ≠ b) (h : D k = some o) : (D.minus b) k = some o := by
  unfold Imm.minus; rw [if_neg hne]; exact h
theorem SlL.minus {D : Imm} {m : Nat} {rows : List (List Value)} {a : Option Addr} {n b : Nat} (h : SlL D m rows a n) (hne : ∀ ad, a = some ad → ad.block ≠ b) : SlL (D.minus b) m rows a n :=
  ⟨h.len, fun i r hr => by
    obtain ⟨h1, cs, t, fz, h2, h3⟩ := h.row i r hr;exact ⟨h1, cs, t, fz, Imm.minus_of (hne _ h1) h2, h3⟩⟩
theorem SlL.none (D : Imm) (m : Nat) (a : Option Addr) : SlL D m [] a 0 := ⟨rfl, fun _ _ h => by simp at h⟩
end
end Go.W
namespace Go.W
section
variable {P : Program} {x : Cx} {fr : Fr} {D : Imm} {hp : Hp} {ty : TypeId} {Q : Exit → Act → World → Prop}
theorem Yd.fieldN {t t' : TypeId} {fs : Array Field} {f off n : Nat} {p : Operand} {cs vs : List Value} (hu : P.underlying t = some (.struct fs)) (hf : (fs[f]?).map (fun fd => (fd.type, fd.offset)) = some (t', off)) (hg : ∀ w, (isAgg t').run P w = .ok true w) (hz : ∀ w, (sizeOf t').run P w = .ok n w) 
    (hp' : opv fr p = some (.agg cs.toArray)) (hv : slc cs off n = vs) : Yd P x fr D hp (.field t p f) ty (.agg vs.toArray) := fun a w _ _ _ _ hA _ => by
  simp only [execOp, hA.eval hp'];cases hfd : fs[f]? with
  | none => rw [hfd] at hf; cases hf
  | some fd =>
    rw [hfd] at hf;simp only [Option.map_some, Option.some.injEq, Prod.mk.injEq] at hf;obtain ⟨rfl, rfl⟩ := hf;have h1 : List.take n (List.drop fd.offset cs) = vs := hv
    have : (Instr.field t (.agg cs.toArray) f).run P w = .ok (.agg vs.toArray) w := by
      simp [Instr.field, run_underlying hu, hfd, asAgg, part, hg, hz, h1]
    simp [this]
end
end Go.W
namespace Go.W
section
variable {P : Program} {x : Cx} {fr : Fr} {D : Imm} {hp : Hp} {Q : Exit → Act → World → Prop} {ops : Array Oper} {D0 : Imm} {hp0 : Hp} {n : Nat} {listed : Array Bool}
theorem WH.plan (plan : List (Nat × Bool)) (hn : plan.length = n) (hB : (Region.noSelect ops && ui .any ops plan listed) = true) (hQ : zm Q) (h : WA P x ops D0 hp0 plan fr D hp Q) : WH P x ops D0 hp0 n listed fr D hp Q := fun a w hA hI => by
  subst hn;simp only [Bool.and_eq_true] at hB;exact jq hB.1 plan listed a w (fun _ o v c a w _ _ hq => hQ c o.dst v a w hq) hB.2 hI (h a w hA)
theorem WH.cut (n' : Nat) (L : Array Bool) (fr' : Fr) (hp' : Hp) (h1 : WH P x ops D0 hp0 n' L fr' D hp' Q → WH P x ops D0 hp0 n listed fr D hp Q) (h2 : WH P x ops D0 hp0 n' L fr' D hp' Q) : WH P x ops D0 hp0 n listed fr D hp Q := h1 h2
theorem WH.cutA {α : Type} (n' : Nat) (L : Array Bool) (fr' : α → Fr) (hp' : α → Hp) (φ : α → Prop) (h1 : (∀ y, φ y → WH P x ops D0 hp0 n' L (fr' y) D (hp' y) Q) → WH P x ops D0 hp0 n listed fr D hp Q) (h2 : ∀ y, φ y → WH P x ops D0 hp0 n' L (fr' y) D (hp' y) Q) : WH P x ops D0 hp0 n listed fr D hp Q := h1 h2
theorem WH.via {L : Array Bool} {fr' : Fr} {hp' : Hp} (k : WH P x ops D0 hp0 n L fr' D hp' Q) (hl : listed = L) (hf : subB fr' fr) (hs : hp'.Sublist hp) : WH P x ops D0 hp0 n listed fr D hp Q := fun a w hA hI => by
  subst hl;exact k a w ⟨(y4 hA hf).f, hA.i.sub (fun _ he => hs.subset he) (hA.i.nodup.sublist (hs.map Prod.fst))⟩ hI
variable {i : Nat} {d : Tmp} {dst : Option Tmp} {op : Op} {ty : TypeId} {pos : String} {af : Array Edge}
theorem WH.ydg {j : Nat} {b : Bool} {v : Value} (hc : ((Region.ready .any ops listed).contains i && Region.free .any ops listed i && Region.noSelect ops) = true) (hQ : zN ops Q) (ho : ops[i]? = some ⟨some d, op, ty, pos, af, some (j, b)⟩) (hg : gval ops fr j = some (.bool b)) 
    (hy : Yd P x fr D0 hp0 op ty v) (hd : Nat.blt d x.n = true) (h : WH P x ops D0 hp0 n (listed.setIfInBounds i true) ((d, v) :: fr) D hp Q) : WH P x ops D0 hp0 (n + 1) listed fr D hp Q := fun a w hA hI => by
  simp only [Bool.and_eq_true] at hc;exact wpAnyH_take ho hc.2 hc.1.2 hc.1.1 (fun c a w => hQ i _ v c a w ho) (.inl ⟨by rw [yy hA.f hg]; simp, fun w' hw' => hy a w' _ _ _ _ hA.f hw'⟩) hI (h _ _ ⟨hA.f.put hd v, hA.i⟩ hI)
theorem WHo.sog {j : Nat} {b : Bool} {K : Value → Imm → Hp → Prop} (ho : ops[i]? = some ⟨dst, op, ty, pos, af, some (j, b)⟩) (hg : gval ops fr j = some (.bool b)) (hs : SO P x fr D hp op ty Q K) (hd : dstB dst x.n = true) 
    (h : ∀ v D' hp', K v D' hp' → (∀ w, Inv D' hp' x.S x.w0 w → Inv D0 hp0 x.S x.w0 w) ∧ WH P x ops D0 hp0 n (listed.setIfInBounds i true) (wj dst v fr) D' hp' Q) : WHo P x ops D0 hp0 n listed fr D hp Q i := fun a w hA _ => by
  unfold wpOp;simp only [ho];rw [if_pos (by rw [yy hA.f hg]; simp)];exact .inl (hs a w _ _ _ _ _ hA fun v D' hp' w' hk hi => ⟨(h v D' hp' hk).1 _ hi, (h v D' hp' hk).2 _ _ ⟨hA.f.putO hd v, hi⟩ ((h v D' hp' hk).1 _ hi)⟩)
theorem pm1 {α : Type} (A B : List α) (e : α) : (A ++ e :: B).Perm (A ++ B ++ [e]) := List.perm_middle.trans (List.perm_append_singleton e (A ++ B)).symm
theorem zn3 (o : Option Ow) (e : TypeId) (xs : List Value) (r : Hp) : r.Sublist (owH o e xs r) := by
  cases o with
  | none => exact List.Sublist.refl _
  | some u => exact List.Sublist.cons _ (List.Sublist.refl _)
end
end Go.W
namespace Go.W
open Go.ChangeShapes Go.WideShapes Go.RowKit Go.Deep
theorem Keep.below {w w' : World} (h : Keep [] w w') : Below w.heap.size w w' := ⟨h.os, h.tape, h.output, h.size, fun k hk => h.block k hk (by simp)⟩
section
variable {H : Type} {enc : TypeId × Value → H} {P : Program}
theorem uW (hl : laidOutB P = true) {W W' : World} {sp : Nat → Bool} (hk : Keep [] W W') : ∀ {ts : List TypeId} {vs : List Value} {ds : List (DataW H)} {ps : List MemPlace},
    ts.all (fun t => P.readableRec t && decide (t < P.types.size)) = true → DataW.TrodAll enc P W 0 (fun _ => true) true ts vs ds ps → (∀ p ∈ ps, p.block < W.heap.size) → (∀ p ∈ ps, sp p.block = true) → DataW.TrodAll enc P W' 0 sp true ts vs ds ps
  | [], [], [], _, _, h, _, _ => h
  | t :: ts, v :: vs, d :: ds, _, ht, ⟨p, q, h1, h2, e⟩, hlt, hs => by
    subst e;simp only [List.all_cons, Bool.and_eq_true, decide_eq_true_eq] at ht;refine ⟨p, q, WideElems.Trod_stays hl ht.1.1 ht.1.2 h1 (fun x hx => hk.below.same (hlt x (List.mem_append_left _ hx))) (fun x hx => hs x (List.mem_append_left _ hx)), ?_, rfl⟩;exact uW hl hk (by simpa using ht.2) h2 (fun x hx => hlt x (List.mem_append_right _ hx)) (fun x hx => hs x (List.mem_append_right _ hx))
  | [], _ :: _, _, _, _, h, _, _ => h.elim
  | [], [], _ :: _, _, _, h, _, _ => h.elim
  | _ :: _, [], _, _, _, h, _, _ => h.elim
  | _ :: _, _ :: _, [], _, _, h, _, _ => h.elim
theorem qq (hl : laidOutB P = true) {f : Func} {s : ChangeSpec} {apart fresh handsOn : Bool} {W W' : World} {args : Array Value} {ds gs : List (DataW H)} {before : List MemPlace} {tb : TypeId} 
    (hW : DataW.Whole enc P f.params.toList s.vars apart W args.toList ds gs before) (hv : s.vars = []) (hres : (s.fn H (ds ++ gs)).results = [.lit (.bool true)]) (hargs : (s.fn H (ds ++ gs)).args = ds) (hvars : (s.fn H (ds ++ gs)).vars = [])
    (hr : f.resultTypes = #[tb]) (hu : P.underlying tb = some .bool) (ht : f.params.toList.all (fun t => P.readableRec t && decide (t < P.types.size)) = true) (hk : Keep [] W W') :
    s.post enc P f apart fresh handsOn false W args (.bool true) W' := by
  have hW' := hW;obtain ⟨p, q, hA, hV, rfl, hfz, hnd⟩ := hW
  have hq : gs = [] ∧ q = [] := by
    rw [hv] at hV;cases gs with
    | nil => exact ⟨rfl, hV⟩
    | cons g gs => exact hV.elim
  obtain ⟨rfl, rfl⟩ := hq;have hlt : ∀ x ∈ p, x.block < W.heap.size := fun x hx => by simpa using hW'.lt x (List.mem_append_left _ hx)
  have hold : ∀ x ∈ p, (fun b => decide (b < W.heap.size)) x.block = true := fun x hx => by simpa using hlt x hx
  refine ⟨ds, [], p ++ [], [], p, [], hW', ?_, ?_, ?_, World.keptBut_mono (fun x hx => ⟨hx, .inr (.inl (by simpa using hx))⟩) (hk.below.frame _), fun h => by cases h⟩
  · rw [hres, hr];exact trodAll_mk1 (shut_bool hu true)
  · rw [hargs];exact uW hl hk ht hA hlt hold
  · rw [hvars, hv];rfl
end
def wY (w : World) : Imm := fun b => w.heap[b]?
theorem heapI_holds (w : World) : Holds (wY w) w := fun _ _ h => h
theorem JO {α : Type} [Inhabited α] (f : α → List Value) (D : Imm) (m : Nat) (a : Option Addr) (len : Nat) (h : ∀ i, i < len → ∃ x : α, a = some ⟨sb a, so a, none⟩ ∧ RdD D (sb a) (so a + i * m) (f x)) :
    ∃ l : List α, l.length = len ∧ SlL D m (l.map f) a len := by
  let g : Nat → α := fun i => if hi : i < len then Classical.choose (h i hi) else default
  refine ⟨(List.range len).map g, by simp, by simp, fun i r hr => ?_⟩;rw [List.getElem?_map, List.getElem?_map] at hr;rcases Nat.lt_or_ge i len with hi | hi
  · rw [List.getElem?_range hi] at hr;simp only [Option.map_some, Option.some.injEq] at hr;subst hr;have := Classical.choose_spec (h i hi);have e : g i = Classical.choose (h i hi) := dif_pos hi;rw [e];exact this
  · rw [List.getElem?_eq_none (by simpa using hi)] at hr;cases hr
section
variable {H : Type} {enc : TypeId × Value → H} {P : Program} {w : World} {spare : Nat → Bool} {held : Bool}
theorem ZW {a : Addr} {base m : Nat} {cs : List Value} (hm : 0 < m) (h : w.cells? base a m = some cs) : a.spot = none ∧ RdD (wY w) a.block a.off cs := by
  obtain ⟨_, hl, hc⟩ := World.cells?_some h;have h0 := hc 0 hm;rw [List.getElem?_eq_getElem (by omega)] at h0
  have hsp : a.spot = none := by
    have h1 := h0;unfold World.cell? at h1;have e : (a.add 0).spot.isSome = a.spot.isSome := by unfold Addr.add; split <;> simp_all
    cases hsp : a.spot with
    | none => rfl
    | some x =>
      rw [hsp] at e;revert h1;split
      · rw [if_pos (by rw [e]; rfl)]; intro h; cases h
      · intro h; cases h
  refine ⟨hsp, ?_⟩
  have hadd : ∀ i, a.add i = ⟨a.block, a.off + i, none⟩ := fun i => by
    obtain ⟨b, o, s⟩ := a;simp only at hsp;subst hsp;unfold Addr.add; split <;> simp_all
  have hh : ∃ c e fz, w.heap[a.block]? = some (.cells c e fz) := by
    rw [hadd] at h0;unfold World.cell? at h0;revert h0;split
    · rename_i c e fz hq; intro _; exact ⟨c, e, fz, hq⟩
    · intro h; cases h
  obtain ⟨c, e, fz, hq⟩ := hh;refine ⟨c.toList, e, fz, by simpa [wY] using hq, fun j v hj => ?_⟩
  have hjl : j < cs.length := by
    rcases Nat.lt_or_ge j cs.length with h1 | h1
    · exact h1
    · rw [List.getElem?_eq_none h1] at hj; cases hj
  have := hc j (by omega);rw [hadd, hj] at this;unfold World.cell? at this;simp only [hq, Option.isSome_none, Bool.false_eq_true, if_false] at this;simpa using this
theorem YN {α : Type} [Inhabited α] (f : α → List Value) {t e : TypeId} {m fuel : Nat} {cs : List Value} {x : DataW H × List MemPlace} (ht : P.underlying t = some (.slice e)) (hm : P.cellsOf e = m) (h0 : 0 < m)
    (hel : ∀ n cs' y, DataW.trod enc P w 0 spare held n e cs' = some y → cs'.length = m → ∃ u : α, cs' = f u) (h : DataW.trod enc P w 0 spare held fuel t cs = some x) :
    ∃ (l : List α) (a : Option Addr) (n c : Nat), cs = [.slice a n c] ∧ n ≤ maxLen ∧ SlL (wY w) m (l.map f) a n := by
  rcases open_slice ht h with ⟨rfl, _⟩ | ⟨a, len, cap, m', n, D, Pl, rfl, hb, hl, hmx, hmm, _, hi⟩
  · exact ⟨[], none, 0, 0, rfl, Nat.zero_le _, rfl, fun i r hr => by simp at hr⟩
  · have hlen : len ≤ m' := by rw [hmm]; split <;> omega
    obtain ⟨l, hll, hs⟩ := JO f (wY w) m (some a) len (fun i hil => by
      obtain ⟨cs', hc, ht'⟩ := hi i (by omega);rw [hm] at hc;obtain ⟨u, hu⟩ := hel _ _ _ ht' (World.cells?_some hc).2.1;obtain ⟨hsp, hr⟩ := ZW h0 hc;obtain ⟨cs0, hc0, ht0⟩ := hi 0 (by omega);rw [hm] at hc0;have hsp0 := (ZW h0 hc0).1;rw [Nat.zero_mul] at hsp0;obtain ⟨ab, ao, asp⟩ := a
      have has : asp = none := by
        have e : (Addr.add ⟨ab, ao, asp⟩ 0) = ⟨ab, ao, asp⟩ := by unfold Addr.add; simp
        rw [e] at hsp0; exact hsp0
      subst has;refine ⟨u, rfl, ?_⟩;rw [← hu];have e1 : (Addr.add ⟨ab, ao, none⟩ (i * m)) = ⟨ab, ao + i * m, none⟩ := by unfold Addr.add; split <;> simp_all
      rw [e1] at hr;exact hr)
    exact ⟨l, some a, len, cap, rfl, by omega, hs⟩
end
end Go.W
namespace Go.W
open Go.ChangeShapes Go.WideShapes Go.RowKit Go.Deep
section
variable {H : Type} {enc : TypeId × Value → H}
theorem wy {a : Assume} {C : Checked} {os : Os} {f : FuncId} {fn : Func} {s : ChangeSpec} {conds : List PathCond} {apart fresh handsOn again : Bool} {X : World → Array Value → Prop} 
    (hX : ∀ (w w' : World) (args : Array Value), w.heap = w'.heap → X w args → X w' args)
    (own : ownKnob C.prog.godebug = none) (started : os.Started) (noInit : C.prog.inits.idxOf? f = none) (hfn : C.prog.funcs[f]? = some fn)
    (witness : ∃ (w : World) (tape : Tape) (i : Input), w.os = os ∧ (w.forCall tape i).Shaped C.prog ∧ i.vars = [] ∧ Input.okWide C.prog (w.forCall tape i) .any w.heap.size f i ∧
      ((s.pre enc C.prog fn conds apart (w.forCall tape i).memory i.args ∧ X (w.forCall tape i).memory i.args) ∧ sizedMet enc C.prog fn (OpenSpec.ofChange s) apart (w.forCall tape i).memory i.args) ∧ a.holds C.prog (lone (Frame.enter C.prog f i.args .normal) [] (w.forCall tape i)))
    (contract : ∀ (W : World) (base : Nat) (args : Array Value) (ds gs : List (DataW H)) (before : List MemPlace),
      (∀ (j : Nat) t v, fn.params[j]? = some t → args[j]? = some v → Value.okWide C.prog W .any base t v) →
      DataW.Whole enc C.prog fn.params.toList s.vars apart W args.toList ds gs before → W.ShapedOpen C.prog → X W args →
      Calls C.prog f args W fun e W' => ∃ v, e = .returned v ∧ s.post enc C.prog fn apart fresh handsOn again W args v W') :
    ReturnsInHanded a C os f .any (fun w args => (s.pre enc C.prog fn conds apart w args ∧ X w args) ∧ sizedMet enc C.prog fn (OpenSpec.ofChange s) apart w args) (s.post enc C.prog fn apart fresh handsOn again) := by
  refine returnsInHanded_of_calls own started noInit witness ?_;intro w tape i _ hsh _ hok hpre _;obtain ⟨_, _, _, fn', hfn', _, _, _, _, hval⟩ := hok;have e : fn' = fn := Option.some.inj (hfn'.symm.trans hfn);subst e;obtain ⟨⟨⟨ds, gs, before, hw, _⟩, hx⟩, _⟩ := hpre;have hw' := DataW.Whole.of_heap (w' := w.forCall tape i) (by rfl) hw;refine (contract (w.forCall tape i) w.heap.size i.args ds gs before hval hw' hsh (hX _ _ _ (by rfl) hx)).mono fun e W' ⟨v, he, hp⟩ => ?_;subst he;exact ChangeSpec.post_blind hp
end
theorem wu {P : Program} {W : World} {n : String} {g : Nat} {cs : Array Value} (hg : P.globalNamed n = some g) (hv : W.var? P n = some cs) : ∃ t fz, wY W g = some (.cells cs t fz) := by
  unfold World.var? at hv;rw [hg] at hv;simp only [Option.bind_some] at hv;unfold wY;split at hv
  · rename_i c t fz he
    cases hv
    exact ⟨t, fz, he⟩
  · cases hv
theorem Wu {W : World} {g : Nat} {v : Value} (h : W.cell? ⟨g, 0, none⟩ = some v) : ∃ r t fz, wY W g = some (.cells (List.toArray (v :: r)) t fz) := by
  unfold World.cell? at h;unfold wY;revert h;split
  · rename_i cs t fz he
    intro h;simp only [Option.isSome_none, Bool.false_eq_true, if_false] at h;obtain ⟨l⟩ := cs;cases l with
    | nil => simp at h
    | cons x r =>
      simp at h;subst h;exact ⟨r, t, fz, he⟩
  · intro h; cases h
section
variable {H : Type} {enc : TypeId × Value → H} {P : Program} {w : World} {base : Nat} {spare : Nat → Bool} {held : Bool}
end
end Go.W
namespace Go.W
universe u
class AgF (P : Program) (t : TypeId) (b : outParam Bool) : Prop where
  h : ∀ w, (isAgg t).run P w = .ok b w
class SzF (P : Program) (t : TypeId) (n : outParam Nat) : Prop where
  h : ∀ w, (sizeOf t).run P w = .ok n w
class UnF (P : Program) (t : TypeId) (d : outParam TypeDesc) : Prop where
  h : P.underlying t = some d
class ZvF (P : Program) (t : TypeId) (v : outParam Value) : Prop where
  h : ∀ w, (zeroValue t).run P w = .ok v w
class SaF (P : Program) (t : TypeId) (zs : outParam (List Value)) (pl : outParam (List (Nat × Nat))) : Prop where
  h : zj P t zs pl
class EgF (P : Program) (t : TypeId) : Prop where
  h : P.eqGuardType P.depth t = false
class CaF (P : Program) (f : FuncId) : Prop where
  h : ∀ args w, (callFunc f args).run P w = .ok (.enter f args) w
def slcF (cs : List Value) : Nat → Nat → Option (List Value)
  | _, 0 => some []
  | o, n + 1 => match cs[o]? with
    | some v => match slcF cs (o + 1) n with
      | some vs => some (v :: vs)
      | none => none
    | none => none
theorem uk {cs : List Value} : ∀ {n o : Nat} {vs : List Value}, slcF cs o n = some vs → vs.length = n ∧ slc cs o n = vs
  | 0, o, vs, h => by simp [slcF] at h; subst h; exact ⟨rfl, by simp [slc]⟩
  | n + 1, o, vs, h => by
    simp only [slcF] at h;cases hc : cs[o]? with
    | none => rw [hc] at h; cases h
    | some v =>
      rw [hc] at h;cases hr : slcF cs (o + 1) n with
      | none => rw [hr] at h; cases h
      | some us =>
        rw [hr] at h;cases h
        obtain ⟨h1, h2⟩ := uk hr;refine ⟨by simp [h1], ?_⟩;obtain ⟨hl, e⟩ := List.getElem?_eq_some_iff.1 hc;unfold slc at *;rw [List.drop_eq_getElem_cons hl, List.take_succ_cons, e, h2]
def jN : List Value → Option (List Value)
  | [] => some []
  | a :: l => match jN l with
    | some r => some (a :: r)
    | none => none
theorem Zx : ∀ {l r : List Value}, jN l = some r → l = r
  | [], r, h => by simp [jN] at h; exact h.symm
  | a :: l, r, h => by
    simp only [jN] at h;cases hr : jN l with
    | none => rw [hr] at h; cases h
    | some u => rw [hr] at h; cases h; rw [Zx hr]
def RdK (D : Imm) (hp : Hp) (b o n : Nat) (vs : List Value) : Prop := vs.length = n ∧ RdN D hp b o vs
theorem RdK.own {D : Imm} {hp : Hp} {k b off n : Nat} {cs vs : List Value} {e : TypeId} {fz : Nat × Nat} (hk : hp[k]? = some (b, .cells cs.toArray e fz)) (hv : slcF cs off n = some vs) : RdK D hp b off n vs := ⟨(uk hv).1, RdN.own hk (uk hv).2⟩
theorem RdK.imm {D : Imm} {hp : Hp} {b off n : Nat} {cs vs : List Value} {e : TypeId} {fz : Nat × Nat} (hk : D b = some (.cells cs.toArray e fz)) (hv : slcF cs off n = some vs) : RdK D hp b off n vs := ⟨(uk hv).1, RdN.imm hk (uk hv).2⟩
theorem RdK.ofN {D : Imm} {hp : Hp} {b o n : Nat} {vs : List Value} (hr : RdN D hp b o vs) (h : vs.length = n := by rfl) : RdK D hp b o n vs := ⟨h, hr⟩
section hk
variable {hp : Hp}
theorem hk0 {a : Nat × Obj} {l : Hp} : (a :: l)[0]? = some a := rfl
theorem hk1 {a b : Nat × Obj} {l : Hp} : (b :: a :: l)[1]? = some a := rfl
theorem hk2 {a b c : Nat × Obj} {l : Hp} : (b :: c :: a :: l)[2]? = some a := rfl
theorem hk3 {a b c d : Nat × Obj} {l : Hp} : (b :: c :: d :: a :: l)[3]? = some a := rfl
theorem hk4 {a b c d e : Nat × Obj} {l : Hp} : (b :: c :: d :: e :: a :: l)[4]? = some a := rfl
theorem hk5 {a b c d e f : Nat × Obj} {l : Hp} : (b :: c :: d :: e :: f :: a :: l)[5]? = some a := rfl
theorem hk6 {a b c d e f g : Nat × Obj} {l : Hp} : (b :: c :: d :: e :: f :: g :: a :: l)[6]? = some a := rfl
theorem hk7 {a b c d e f g h : Nat × Obj} {l : Hp} : (b :: c :: d :: e :: f :: g :: h :: a :: l)[7]? = some a := rfl
theorem hk8 {a b c d e f g h i : Nat × Obj} {l : Hp} : (b :: c :: d :: e :: f :: g :: h :: i :: a :: l)[8]? = some a := rfl
theorem zHk {k : Nat} {a : Nat × Obj} (h : hp[k]? = some a := by first | exact hk0 | exact hk1 | exact hk2 | exact hk3 | exact hk4 | exact hk5 | exact hk6 | exact hk7 | exact hk8) : hp[k]? = some a := h
end hk
section rd
variable {D : Imm} {hp : Hp} {b off : Nat} {cs : List Value} {e : TypeId} {fz : Nat × Nat} {v : Value}
theorem rdo {k : Nat} (hk : hp[k]? = some (b, .cells cs.toArray e fz)) (hc : cs[off]? = some v) : Rd D hp ⟨b, off, none⟩ v := Rd.own hk hc
theorem zR {a : Addr} (h : Rd D hp a v := by
  first
  | exact Rd.imm (by assumption) (by exact rfl)
  | exact rdo zHk (by exact rfl)) : Rd D hp a v := h
theorem zK {o n : Nat} {vs : List Value} (h : RdK D hp b o n vs := by
  first
  | exact RdK.imm (by assumption) (by exact rfl)
  | exact RdK.own zHk (by exact rfl)) : RdK D hp b o n vs := h
end rd
section yd
variable {P : Program} {x : Cx} {fr : Fr} {D : Imm} {hp : Hp} {ty : TypeId}
theorem Yd.l1 {t b o : Nat} {p : Operand} {v : Value} [AgF P t false] (hp' : opv fr p = some (.pointer (some ⟨b, o, none⟩))) (hr : Rd D hp ⟨b, o, none⟩ v) : Yd P x fr D hp (.load t p) ty v := Yd.load1 AgF.h hp' hr
theorem Yd.lK {t b o n : Nat} {p : Operand} {vs : List Value} [AgF P t true] [SzF P t n] (hp' : opv fr p = some (.pointer (some ⟨b, o, none⟩))) (hr : RdK D hp b o n vs) : Yd P x fr D hp (.load t p) ty (.agg vs.toArray) := Yd.loadN AgF.h SzF.h hp' hr.1 hr.2
theorem Yd.lV {t b o n : Nat} {p : Operand} (vs : List Value) [AgF P t true] [SzF P t n] (hp' : opv fr p = some (.pointer (some ⟨b, o, none⟩))) (hr : RdN D hp b o vs) (hl : vs.length = n := by rfl) : Yd P x fr D hp (.load t p) ty (.agg vs.toArray) := Yd.loadN AgF.h SzF.h hp' hl hr
def fldF : List Field → Nat → Option (Nat × Nat)
  | [], _ => none
  | { type := t, offset := o, .. } :: _, 0 => some (t, o)
  | _ :: l, n + 1 => fldF l n
theorem VO : ∀ {l : List Field} {f t off : Nat}, fldF l f = some (t, off) → (l[f]?).map (fun fd => (fd.type, fd.offset)) = some (t, off)
  | [], f, t, off, h => by simp [fldF] at h
  | fd :: l, 0, t, off, h => by simpa [fldF] using h
  | fd :: l, f + 1, t, off, h => by
    have h1 := VO (l := l) (f := f) (by simpa [fldF] using h);simpa using h1
theorem Yd.fA {s t f n off b o : Nat} {p : Operand} {fs : Array Field} [UnF P s (.struct fs)] (hf : fldF fs.toList f = some (t, off)) [SzF P t n] (hp' : opv fr p = some (.pointer (some ⟨b, o, none⟩))) (hn : Nat.beq n 0 = false) : Yd P x fr D hp (.fieldAddr s p f) ty (.pointer (some ⟨b, o + off, none⟩)) :=
  Yd.fieldAddr (k8.mk UnF.h (by have := VO hf; simpa using this) SzF.h (fun e => by subst e; cases hn)) hp'
theorem Yd.lnS {t e : TypeId} {ts : List TypeId} {p : Operand} {a : Option Addr} {len cap : Nat} (hp' : opv fr p = some (.slice a len cap)) [UnF P t (.slice e)] : Yd P x fr D hp (.call ⟨.builtin .len, #[p], ⟨t :: ts⟩⟩) ty (.int .i64 len) := Yd.lenS (t := t) rfl UnF.h hp'
theorem Yd.bd {t : TypeId} {zs : List Value} {pl : List (Nat × Nat)} [SaF P t zs pl] {ps : List (Nat × Operand)} {vals : List (Nat × Value)} {cs : List Value}
    (hp' : opps fr ps = some vals) (hf : (Instr.fill (pl.toArray[·]?) zs.toArray vals).bind (fun a => jN a.toList) = some cs) : Yd P x fr D hp (.build t ps.toArray) ty (.agg cs.toArray) := Yd.build SaF.h hp' (by
      cases h : Instr.fill (pl.toArray[·]?) zs.toArray vals with
      | none => rw [h] at hf; cases hf
      | some a => rw [h] at hf; rw [← Zx hf])
theorem Yd.ix {t e : TypeId} {n : Nat} {p q : Operand} {a : Option Addr} {len cap : Nat} {k : IntKind} {j : Int} [UnF P t (.slice e)] [SzF P e n] (hp' : opv fr p = some (.slice a len cap)) (hq : opv fr q = some (.int k j))
    (ha : a = some ⟨sb a, so a, none⟩) (h0 : 0 ≤ j := by omega) (hl : j < len := by omega) :
    Yd P x fr D hp (.indexAddr t p q) ty (.pointer (some ⟨sb a, so a + j.toNat * n, none⟩)) := Yd.indexS UnF.h SzF.h hp' hq h0 hl ha
theorem Yd.ifc {t : TypeId} {dsc : TypeDesc} {o : Operand} {v : Value} [UnF P t dsc] (ho : opv fr o = some v) (hn : ∀ ms, dsc ≠ .interface ms := by intro _ h; cases h) : Yd P x fr D hp (.makeInterface t o) ty (.iface t v) := Yd.iface UnF.h hn ho
def ydF (fr : Fr) : Op → Option Value
  | .move o => opv fr o
  | .assign o => opv fr o
  | .extract o n => match opv fr o with
    | some (.tuple vs) => vs[n]?
    | _ => none
  | .nilCheck o => match opv fr o with
    | some (.pointer (some p)) => some (.pointer (some p))
    | _ => none
  | .pick c p q => match opv fr c with
    | some (.bool true) => opv fr p
    | some (.bool false) => opv fr q
    | _ => none
  | .unOp .not _ o => match opv fr o with
    | some (.bool b) => some (.bool !b)
    | _ => none
  | .makeFunc fn ⟨A⟩ ⟨B⟩ => match opvs fr A, opvs fr B with
    | some va, some vb => some (.func fn va.toArray vb.toArray)
    | _, _ => none
  | _ => none
theorem Yd.ev {op : Op} {v : Value} (h : ydF fr op = some v) : Yd P x fr D hp op ty v := by
  unfold ydF at h;split at h
  · exact Yd.move h
  · exact Yd.assign h
  · split at h
    · exact Yd.extract (by assumption) h
    · cases h
  · split at h
    · cases h; exact Yd.nilCheck (by assumption)
    · cases h
  · split at h
    · exact Yd.pickT (by assumption) h
    · exact Yd.pickF (by assumption) h
    · cases h
  · split at h
    · cases h; exact Yd.not (by assumption)
    · cases h
  · split at h
    · cases h; exact Yd.func (by assumption) (by assumption)
    · cases h
  · cases h
def cmpF (i j : Int) : BinOp → Option Value
  | .lss => some (.bool (decide (i < j)))
  | .leq => some (.bool (decide (i ≤ j)))
  | .gtr => some (.bool (decide (j < i)))
  | .geq => some (.bool (decide (j ≤ i)))
  | .eql => some (.bool (decide (i = j)))
  | .neq => some (.bool (decide (i ≠ j)))
  | _ => none
theorem Yd.cmp {op : BinOp} {t t' : TypeId} {o p : Operand} {k : IntKind} {i j : Int} {v : Value} (h : cmpF i j op = some v) (ho : opv fr o = some (.int k i)) (hp' : opv fr p = some (.int k j)) : Yd P x fr D hp (.binOp op t o p t') ty v := by
  cases op <;> simp only [cmpF] at h <;> cases h
  · exact Yd.eql ho hp'
  · exact Yd.neq ho hp'
  · exact Yd.lss ho hp'
  · exact Yd.leq ho hp'
  · exact Yd.gtr ho hp'
  · exact Yd.geq ho hp'
class OpK (op : Op) (k : outParam Nat) : Prop where
instance okL {t : TypeId} {p : Operand} : OpK (.load t p) 1 := ⟨⟩
instance okF {t : TypeId} {p : Operand} {n : Nat} : OpK (.fieldAddr t p n) 2 := ⟨⟩
instance okB {o : BinOp} {t u : TypeId} {p q : Operand} : OpK (.binOp o t p q u) 3 := ⟨⟩
instance okD {t : TypeId} {l : Array (Nat × Operand)} : OpK (.build t l) 4 := ⟨⟩
instance okI {t : TypeId} {p : Operand} : OpK (.makeInterface t p) 5 := ⟨⟩
instance okC {c : Call} : OpK (.call c) 6 := ⟨⟩
section
variable {op : Op} {v : Value}
include op v
theorem yK1 [OpK op 1] (h : Yd P x fr D hp op ty v) : Yd P x fr D hp op ty v := h
theorem yK2 [OpK op 2] (h : Yd P x fr D hp op ty v) : Yd P x fr D hp op ty v := h
theorem yK3 [OpK op 3] (h : Yd P x fr D hp op ty v) : Yd P x fr D hp op ty v := h
theorem yK4 [OpK op 4] (h : Yd P x fr D hp op ty v) : Yd P x fr D hp op ty v := h
theorem yK5 [OpK op 5] (h : Yd P x fr D hp op ty v) : Yd P x fr D hp op ty v := h
theorem yK6 [OpK op 6] (h : Yd P x fr D hp op ty v) : Yd P x fr D hp op ty v := h
theorem zY (h : Yd P x fr D hp op ty v := by
  first
  | exact Yd.ev rfl
  | (apply yK1
     first
     | exact Yd.load1 AgF.h rfl zR
     | exact Yd.lK rfl zK)
  | (apply yK2
     exact Yd.fA rfl rfl rfl)
  | (apply yK3
     first
     | exact Yd.cmp rfl rfl rfl
     | exact Yd.add rfl rfl (wr64 ⟨by omega, by omega⟩)
     | exact Yd.sub rfl rfl (wr64 ⟨by omega, by omega⟩)
     | exact Yd.mul rfl rfl (wr64 ⟨by omega, by omega⟩))
  | (apply yK4
     exact Yd.bd rfl rfl)
  | (apply yK5
     exact Yd.ifc rfl)
  | (apply yK6
     exact Yd.lnS rfl)) : Yd P x fr D hp op ty v := h
end
end yd
section so
variable {P : Program} {x : Cx} {fr : Fr} {D : Imm} {hp : Hp} {ty : TypeId} {Q : Exit → Act → World → Prop}
theorem SO.st {t b off n k : Nat} {p o : Operand} {v : Value} {cs vs : List Value} {e : TypeId} [SzF P t n]
    (hp' : opv fr p = some (.pointer (some ⟨b, off, none⟩))) (ho : opv fr o = some v) (hc : v.cells = vs.toArray) (hl : vs.length = n) (hk : hp[k]? = some (b, .cells cs.toArray e (0, 0))) (hoff : Nat.ble (off + n) cs.length = true := by rfl) (hone : oneB vs = true := by rfl) :
    SO P x fr D hp (.store t p o) ty Q (SetK D hp k b (.cells (splice cs off vs).toArray e (0, 0))) := SO.store k hk SzF.h hp' ho hc hl (Nat.le_of_ble_eq_true hoff) (za hone)
theorem SO.cl {f : FuncId} {A : List Operand} {ts : Array TypeId} {vals : List Value} {v : Value} [CaF P f] (hk : ∀ w, Inv D hp x.S x.w0 w → z8 P f vals w v) (ha : opvs fr A = some vals := by rfl) :
    SO P x fr D hp (.call ⟨.value (.func f), A.toArray, ts⟩) ty Q (Wo D hp v) := SO.call (Enters.func CaF.h ha) hk
end so
def znd : Op → Bool | .defer _ => false | _ => true
theorem zn {op : Op} (h : znd op = true) : ∀ c, op ≠ .defer c := fun c e => by subst e; cases h
theorem zs {D : Imm} {hp : Hp} {v : Value} {R : Value → Imm → Hp → Prop} (h : R v D hp) : ∀ v2 D2 hp2, Wo D hp v v2 D2 hp2 → R v2 D2 hp2 := fun _ _ _ ⟨a, b, c⟩ => by subst a; subst b; subst c; exact h
theorem zt {D : Imm} {hp : Hp} {k b : Nat} {o : Obj} {R : Value → Imm → Hp → Prop} (h : R undef D (hp.set k (b, o))) : ∀ v2 D2 hp2, SetK D hp k b o v2 D2 hp2 → R v2 D2 hp2 := fun _ _ _ ⟨a, b, c⟩ => by subst a; subst b; subst c; exact h
theorem zk {α : Sort u} {a b : α} (h : a = b := by kernel_rfl) : a = b := h
theorem zU1 {a b : Hp} (h : List.Sublist a b := by repeat first | exact List.nil_sublist _ | exact List.Sublist.refl _ | apply List.Sublist.cons_cons | apply List.Sublist.cons) : ∀ e, e ∈ a → e ∈ b := (subS h).1
theorem zU2 {a b : Hp} (h : List.Sublist a b := by repeat first | exact List.nil_sublist _ | exact List.Sublist.refl _ | apply List.Sublist.cons_cons | apply List.Sublist.cons) : (keys b).Nodup → (keys a).Nodup := (subS h).2
section quiet
variable {ops : Array Oper} {Q : Exit → Act → World → Prop}
theorem zQP (h : zm Q := by first | ((repeat first | refine zm.then ?_ | refine zm.blk ?_ | exact zm.body | refine zm.sc ?_ | exact zm.round | exact zm.roundP); done) | fail) : zm Q := h
theorem zQO (h : zN ops Q := by first | ((repeat first | refine zN.then ?_ | refine zN.blk ?_ | exact zN.bodyD (by rfl) | exact zN.bodyM (by rfl) | refine zN.sc ?_); done) | fail) : zN ops Q := h
theorem zQA {d : Nat} (h : zU d Q := by first | ((repeat first | refine zU.then ?_ | refine zU.blk ?_ | exact zU.bodyD (by rfl) | exact zU.bodyM (by rfl) | refine zU.sc ?_); done) | fail) : zU d Q := h
theorem zQL {pl : List (Nat × Bool)} (h : zO ops pl Q := by first | ((repeat first | refine zO.then ?_ | refine zO.blk ?_ | exact zO.bodyD (by rfl) | exact zO.bodyM (by rfl) | refine zO.sc ?_); done) | fail) : zO ops pl Q := h
theorem zN.ofP (h : zm Q) : zN ops Q := fun _ o v c a w _ hq => h c o.dst v a w hq
theorem zU.ofP {d : Nat} (h : zm Q) : zU d Q := fun v c a w hq => h c (some d) v a w hq
theorem zO.ofP {pl : List (Nat × Bool)} (h : zm Q) : zO ops pl Q := fun _ o v c a w _ _ hq => h c o.dst v a w hq
theorem zX {p : Prop} (h : p := by
  first
  | (show zN _ _
     first | exact zQO | exact zN.ofP zQP)
  | (show zU _ _
     first | exact zQA | exact zU.ofP zQP)
  | (show zO _ _ _
     first | exact zQL | exact zO.ofP zQP)
  | exact zQP) : p := h
end quiet
def pz : List Nat → List (Nat × Bool)
  | [] => []
  | n :: l => (n / 2, Nat.beq (n % 2) 1) :: pz l
section ret
variable {P : Program} {x : Cx} {fr : Fr} {D : Imm} {hp : Hp}
theorem RV.cN {s t b o n : Nat} {vs : List Value} [AgF P t true] [SzF P t n] (h : fr.get s = some (.pointer (some ⟨b, o, none⟩))) (hr : RdK D hp b o n vs) : RV P x fr D hp (.cell s t) (.agg vs.toArray) := RV.cellN AgF.h SzF.h h hr.1 hr.2
theorem zW {r : ResultVar} {v : Value} (h : RV P x fr D hp r v := by first | exact RV.tmp rfl | exact RV.cell1 AgF.h rfl zR | exact RV.cN rfl zK) : RV P x fr D hp r v := h
theorem zV {rs : List ResultVar} {vs : List Value} (h : RVs P x fr D hp rs vs := by repeat first | exact trivial | refine ⟨zW, ?_⟩) : RVs P x fr D hp rs vs := h
theorem zI {w : World} : Inv (fun _ => none) [] [] w w := Inv.start (by intro _ _ h; cases h)
variable {f : FuncId} {fn : Func} {c : Code} {args : List Value} {S : List Nat} {w : World} {R : Ending → World → Prop} {n : Nat}
section
variable (hf : P.funcs[f]? = some fn) (hb : fn.body = some c) (hn : fn.ntmps = n) (hI : Inv D hp S w w)
include hf hb hn hI
theorem en (h : WC P ⟨n, [], S, w⟩ (uA 0 args) D hp c (bodyPost P fn R)) (hl : Nat.ble args.length n = true := by rfl) : Calls P f args.toArray w R := enter hf hb n hn (Nat.le_of_ble_eq_true hl) hI h
theorem enD (h : WC P ⟨n, [], S, w⟩ (uA 0 args) D hp c (bodyPostD P fn R)) (hl : Nat.ble args.length n = true := by rfl) : Calls P f args.toArray w R := zcm hf hb n hn (Nat.le_of_ble_eq_true hl) hI h
theorem enM (h : WC P ⟨n, [], S, w⟩ (uA 0 args) D hp c (bodyPostM Fence.wide 0 P fn R)) (hl : Nat.ble args.length n = true := by rfl) : Calls P f args.toArray w R := zcn hf hb n hn (Nat.le_of_ble_eq_true hl) hI h
theorem enN (h : WCn f P ⟨n, [], S, w⟩ (uA 0 args) D hp c (bodyPostM Fence.wide 0 P fn R)) (hl : Nat.ble args.length n = true := by rfl) : Calls P f args.toArray w R := zag hf hb n hn (Nat.le_of_ble_eq_true hl) hI h
end
end ret
section so2
variable {P : Program} {x : Cx} {fr : Fr} {D : Imm} {hp : Hp} {ops : Array Oper} {Q : Exit → Act → World → Prop} {rest : List Oper} {dst : Option Tmp} {ty : TypeId} {pos : String} {af : Array Edge} {f : FuncId} {A : List Operand} {ts : Array TypeId} {vals : List Value} {v : Value} {u : Option Nat}
theorem zw {cs : List Value} {t : TypeId} {R : Value → Imm → Hp → Prop} (h : ∀ b, x.w0.heap.size ≤ b → R (.pointer (some ⟨b, 0, none⟩)) D ((b, .cells cs.toArray t (0, 0)) :: hp)) : ∀ v D' hp', NewK x D hp cs t v D' hp' → R v D' hp' := fun _ _ _ ⟨b, hb, e1, e2, e3⟩ => by subst e1; subst e2; subst e3; exact h b hb
theorem WL.cl [CaF P f] (ha : opvs fr A = some vals) (hk : ∀ w, Inv D hp x.S x.w0 w → z8 P f vals w v) (h : WL P x ops (wj dst v fr) D hp rest Q) (hd : dstB dst x.n = true := by rfl) : WL P x ops fr D hp (⟨dst, .call ⟨.value (.func f), A.toArray, ts⟩, ty, pos, af, none⟩ :: rest) Q := WL.so (SO.call (Enters.func CaF.h ha) hk) hd (zs h)
theorem WLF.cl [CaF P f] (ha : opvs fr A = some vals) (hk : ∀ w, Inv D hp x.S x.w0 w → z8 P f vals w v) (h : WLF P u x ops (wj dst v fr) D hp rest Q) (hd : dstB dst x.n = true := by rfl) : WLF P u x ops fr D hp (⟨dst, .call ⟨.value (.func f), A.toArray, ts⟩, ty, pos, af, none⟩ :: rest) Q := WLF.so (zn rfl) (SO.call (Enters.func CaF.h ha) hk) hd (zs h)
theorem WL.nf {ch : List PanicEntry} [CaF P f] (ha : opvs fr A = some vals) (hk : ∀ w, Inv D hp x.S x.w0 w → xC P f vals w ch) (h : WP x fr D hp (.panic ch) Q) : WL P x ops fr D hp (⟨dst, .call ⟨.value (.func f), A.toArray, ts⟩, ty, pos, af, none⟩ :: rest) Q := WL.no (SO.fail (Enters.func CaF.h ha) hk h)
theorem WL.al {t : TypeId} {z : Value} {cs : List Value} [ZvF P t z] (h : ∀ b, x.w0.heap.size ≤ b → WL P x ops (wj dst (.pointer (some ⟨b, 0, none⟩)) fr) D ((b, .cells cs.toArray t (0, 0)) :: hp) rest Q) (hc : z.cells = cs.toArray) (hd : dstB dst x.n = true := by rfl) : WL P x ops fr D hp (⟨dst, .alloc t, ty, pos, af, none⟩ :: rest) Q := WL.so (SO.alloc ZvF.h hc) hd (zw h)
end so2
structure Wh (i : Nat) (r p : Prop) : Prop where
  go : r → p
section wh
variable {P : Program} {x : Cx} {fr : Fr} {D D0 : Imm} {hp hp0 : Hp} {ops : Array Oper} {Q : Exit → Act → World → Prop} {n i : Nat} {listed : Array Bool} {d : Tmp} {op : Op} {ty : TypeId} {pos : String} {af : Array Edge} {v : Value}
section
variable (hc : ((Region.ready .any ops listed).contains i && Region.free .any ops listed i && Region.noSelect ops) = true)
include hc
theorem Wh.yd (hQ : zN ops Q) (ho : ops[i]? = some ⟨some d, op, ty, pos, af, none⟩) 
    (hy : Yd P x fr D0 hp0 op ty v) (hd : Nat.blt d x.n = true) : Wh i (WH P x ops D0 hp0 n (listed.setIfInBounds i true) ((d, v) :: fr) D hp Q) (WH P x ops D0 hp0 (n + 1) listed fr D hp Q) := ⟨fun h => WH.yd hc hQ ho hy hd h⟩
theorem Wh.ydD (hQ : zU d Q) (ho : ops[i]? = some ⟨some d, op, ty, pos, af, none⟩) 
    (hy : Yd P x fr D0 hp0 op ty v) (hd : Nat.blt d x.n = true) : Wh i (WH P x ops D0 hp0 n (listed.setIfInBounds i true) ((d, v) :: fr) D hp Q) (WH P x ops D0 hp0 (n + 1) listed fr D hp Q) := ⟨fun h => WH.ydD hc hQ ho hy hd h⟩
end
theorem zH {r p : Prop} (h : Wh i r p := by first | exact Wh.yd zk zX rfl zY rfl | exact Wh.ydD zk zX rfl zY rfl) : Wh i r p := h
end wh
section steps
variable {P : Program} {x : Cx} {fr : Fr} {D : Imm} {hp : Hp} {ops : Array Oper} {Q : Exit → Act → World → Prop} {rest : List Oper}
def pickF (fr : Fr) : List Nat → Option Fr
  | [] => some []
  | t :: l => match fr.get t with
    | some v => match pickF fr l with
      | some r => some ((t, v) :: r)
      | none => none
    | none => none
theorem uh : ∀ {l : List Nat} {r : Fr}, pickF fr l = some r → subB r fr
  | [], r, h => by simp [pickF] at h; subst h; trivial
  | t :: l, r, h => by
    simp only [pickF] at h;cases hc : fr.get t with
    | none => rw [hc] at h; cases h
    | some v =>
      rw [hc] at h;cases hr : pickF fr l with
      | none => rw [hr] at h; cases h
      | some u => rw [hr] at h; cases h; exact ⟨hc, uh hr⟩
structure Wk (l : List (List Nat)) (p : Prop) : Prop where
  go : p
variable {q : Prop}
theorem Wk.done {p : Prop} : p → Wk [] p := fun h => ⟨h⟩
theorem Wk.step {n : Nat} {l : List (List Nat)} {r p : Prop} (h : r → p) (k : q → Wk ([n] :: l) r) : q → Wk ([n + 1] :: l) p := fun a => ⟨h (k a).go⟩
theorem Wk.zero {l : List (List Nat)} {p : Prop} (k : q → Wk l p) : q → Wk ([0] :: l) p := fun a => ⟨(k a).go⟩
section
variable {n t : Nat} {s : List Nat} {l : List (List Nat)} {r : Fr} {c : Code}
include n t s l r c
theorem Wk.pkC (h : pickF fr (t :: s) = some r) (k : q → Wk ([n] :: l) (WC P x r D hp c Q)) : q → Wk ((n :: t :: s) :: l) (WC P x fr D hp c Q) := fun a => ⟨WC.ofFr r (uh h) (k a).go⟩
theorem Wk.pkF {u : Option Nat} (h : pickF fr (t :: s) = some r) (k : q → Wk ([n] :: l) (WCF P u x r D hp c Q)) : q → Wk ((n :: t :: s) :: l) (WCF P u x fr D hp c Q) := fun a => ⟨WCF.ofFr r (uh h) (k a).go⟩
theorem Wk.pkn {f : FuncId} (h : pickF fr (t :: s) = some r) (k : q → Wk ([n] :: l) (WCn f P x r D hp c Q)) : q → Wk ((n :: t :: s) :: l) (WCn f P x fr D hp c Q) := fun a => ⟨WCn.ofFr r (uh h) (k a).go⟩
end
theorem Wk.wh {i : Nat} {l : List (List Nat)} {r p : Prop} (h : Wh i r p) (k : q → Wk l r) : q → Wk ([i + 1000] :: l) p := fun a => ⟨h.go (k a).go⟩
theorem Wk.tl {n id : Nat} {l : List (List Nat)} {os : List Oper} (hm : P.follows .mixedOrders = true) (hB : X0 os.toArray n = true) 
    (k : q → Wk l (WQ P x os.toArray D hp (fun a' => ∀ w', Inv D hp x.S x.w0 w' → wpList P os.toArray Q (os.drop n) a' w') (List.range n) fr)) : q → Wk ([n + 3000] :: l) (WC P x fr D hp (.region id os.toArray true) Q) := fun a => ⟨WC.tail n _ rfl hm hB (k a).go⟩
section
variable {r : Prop}
include r
theorem gWL {P : Program} {x : Cx} {ops : Array Oper} {fr : Fr} {D : Imm} {hp : Hp} {l : List Oper} {Q : Exit → Act → World → Prop} (h : r → WL P x ops fr D hp l Q) : r → WL P x ops fr D hp l Q := h
theorem gWP {x : Cx} {fr : Fr} {D : Imm} {hp : Hp} {e : Exit} {Q : Exit → Act → World → Prop} (h : r → WP x fr D hp e Q) : r → WP x fr D hp e Q := h
theorem gWC {P : Program} {x : Cx} {fr : Fr} {D : Imm} {hp : Hp} {c : Code} {Q : Exit → Act → World → Prop} (h : r → WC P x fr D hp c Q) : r → WC P x fr D hp c Q := h
theorem gWQ {P : Program} {x : Cx} {ops : Array Oper} {D : Imm} {hp : Hp} {K : Act → Prop} {l : List Nat} {fr : Fr} (h : r → WQ P x ops D hp K l fr) : r → WQ P x ops D hp K l fr := h
theorem gWA {P : Program} {x : Cx} {ops : Array Oper} {D0 : Imm} {hp0 : Hp} {pl : List (Nat × Bool)} {fr : Fr} {D : Imm} {hp : Hp} {Q : Exit → Act → World → Prop} (h : r → WA P x ops D0 hp0 pl fr D hp Q) : r → WA P x ops D0 hp0 pl fr D hp Q := h
theorem gWLF {P : Program} {u : Option Nat} {x : Cx} {ops : Array Oper} {fr : Fr} {D : Imm} {hp : Hp} {l : List Oper} {Q : Exit → Act → World → Prop} (h : r → WLF P u x ops fr D hp l Q) : r → WLF P u x ops fr D hp l Q := h
theorem gWCF {P : Program} {u : Option Nat} {x : Cx} {fr : Fr} {D : Imm} {hp : Hp} {c : Code} {Q : Exit → Act → World → Prop} (h : r → WCF P u x fr D hp c Q) : r → WCF P u x fr D hp c Q := h
theorem gWCn {f : FuncId} {P : Program} {x : Cx} {fr : Fr} {D : Imm} {hp : Hp} {c : Code} {Q : Exit → Act → World → Prop} (h : r → WCn f P x fr D hp c Q) : r → WCn f P x fr D hp c Q := h
end
theorem z1 {q p : Prop} (h : q → p := by
  first
  | (apply gWL
     first
     | exact WL.yd zY rfl
     | exact WL.nil
     | exact WL.skip rfl rfl
     | exact WL.ydg rfl zY rfl
     | exact fun k => WL.so (SO.st rfl rfl rfl rfl zHk) rfl (zt k)
     | exact WL.skipU rfl rfl)
  | (apply gWP
     first
     | exact WP.thenC
     | exact WP.blkNormal
     | exact WP.thenCF
     | exact WP.thenRet
     | exact WP.thenPanic
     | exact WP.thenExit
     | exact WP.blkRet
     | exact WP.blkPanic
     | exact WP.blkHit
     | exact WP.blkMiss rfl
     | exact WP.thenCn)
  | (apply gWC
     first
     | exact WC.seq
     | exact WC.region
     | exact WC.block
     | exact WC.skip
     | exact WC.ret
     | exact WC.exit
     | exact WC.condT rfl
     | exact WC.condF rfl)
  | (apply gWQ
     first
     | exact WQ.q rfl (Yd.qt zY) rfl
     | exact WQ.tail
     | exact WQ.skip rfl rfl rfl
     | exact WQ.qg rfl rfl (Yd.qt zY) rfl
     | exact WQ.skipU rfl rfl rfl)
  | (apply gWA
     first
     | exact WA.yd rfl zY rfl
     | exact WA.nil
     | exact WA.skip rfl rfl rfl
     | exact WA.ydg rfl rfl zY rfl
     | exact WA.skipU rfl rfl rfl)
  | (apply gWLF
     first
     | exact WLF.yd (zn rfl) zY rfl
     | exact WLF.nil
     | exact WLF.skip (zn rfl) rfl rfl
     | exact WLF.ydg (zn rfl) rfl zY rfl
     | exact fun k => WLF.so (zn rfl) (SO.st rfl rfl rfl rfl zHk) rfl (zt k))
  | (apply gWCF
     first
     | exact WCF.seq
     | exact WCF.region
     | exact WCF.skip
     | exact WCF.ret
     | exact WCF.exit
     | exact WCF.block)
  | (apply gWCn
     first
     | exact WCn.seq
     | exact WCn.block
     | exact WCn.of)) : q → p := h
theorem g (l : List (List Nat)) {p : Prop} (k : q) (h : q → Wk l p := by
  repeat first
  | exact Wk.done
  | (apply Wk.tl; exact zk; exact zk)
  | (apply Wk.wh; exact zH)
  | (apply Wk.step; exact z1)
  | apply Wk.zero
  | (apply Wk.pkC; exact rfl)
  | (apply Wk.pkF; exact rfl)
  | (apply Wk.pkn; exact rfl)) : p := (h k).go
end steps
theorem zNl {D : Imm} {hp : Hp} {S : List Nat} {w0 : World} : ∀ w, Inv D hp S w0 w → Inv D [] S w0 w := fun _ h => h.nil
theorem zHl {D : Imm} {hp : Hp} {S : List Nat} {w0 : World} : ∀ w, Inv D hp S w0 w → Inv D hp S w0 w := fun _ h => h
end Go.W
