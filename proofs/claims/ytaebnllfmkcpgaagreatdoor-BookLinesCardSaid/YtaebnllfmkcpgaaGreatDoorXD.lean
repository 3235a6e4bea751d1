import Derived.Test.YtaebnllfmkcpgaaGreatDoorXS
import Derived.Test.YtaebnllfmkcpgaaGreatDoorXK
import Derived.Test.YtaebnllfmkcpgaaGreatDoorXU
import Derived.Test.YtaebnllfmkcpgaaGreatDoorRows
set_option linter.unusedSimpArgs false
set_option linter.unusedVariables false
set_option linter.all false
set_option maxRecDepth 100000
set_option maxHeartbeats 1000000
namespace Go.Proofs.YtaebnllfmkcpgaaGreatDoor
open Go.W Go.Bk

theorem var_of {P : Program} {name : String} {w : World} {n : Nat} {cs : Array Value} {t : TypeId} {fz : Nat × Nat} (hg : P.globalNamed name = some n) (h : w.heap[n]? = some (.cells cs t fz)) : w.var? P name = some cs := by
  unfold World.var?
  rw [hg]
  simp [h]
/-- what the library's variables hold, and the program's one -/
structure LibD (D : Imm) : Prop where
  marks : ∃ t fz, D 0 = some (.cells (List.toArray [st [], st [63], st [33]]) t fz)
  maxLen : ∃ (m : Int) (r : List Value) (t : TypeId) (fz : Nat × Nat), D 1 = some (.cells (List.toArray (it m :: r)) t fz)
  syn : ∃ (tp : TypeId) (p : Value) (t : TypeId) (fz : Nat × Nat), D 2 = some (.cells (List.toArray [.iface tp p]) t fz)
  rng : ∃ (tp : TypeId) (p : Value) (t : TypeId) (fz : Nat × Nat), D 3 = some (.cells (List.toArray [.iface tp p]) t fz)
  pow : ∃ t fz, D 4 = some (.cells (Lib.pow10Tab.map fun z => Value.int .u64 z).toArray t fz)
theorem LibD.ext {w : World} {D D' : Imm} (hD : DExt w D D') (h : LibD D) : LibD D' :=
  ⟨let ⟨t, fz, e⟩ := h.marks; ⟨t, fz, hD.old _ _ e⟩, let ⟨m, r, t, fz, e⟩ := h.maxLen; ⟨m, r, t, fz, hD.old _ _ e⟩, let ⟨a, b, t, fz, e⟩ := h.syn; ⟨a, b, t, fz, hD.old _ _ e⟩, let ⟨a, b, t, fz, e⟩ := h.rng; ⟨a, b, t, fz, hD.old _ _ e⟩, let ⟨t, fz, e⟩ := h.pow; ⟨t, fz, hD.old _ _ e⟩⟩
theorem LibD.max {D : Imm} (h : LibD D) {w : World} (hH : Holds D w) : ∃ m : Int, w.cell? ⟨1, 0, none⟩ = some (.int .i64 m) := by
  obtain ⟨m, r, t, fz, e⟩ := h.maxLen
  exact ⟨m, by have := hH _ _ e; simp [World.cell?, this]⟩
theorem cell0 {D : Imm} {g : Nat} {v : Value} {r : List Value} {t : TypeId} {fz : Nat × Nat} (e : D g = some (.cells (List.toArray (v :: r)) t fz)) {w : World} (hH : Holds D w) : w.cell? ⟨g, 0, none⟩ = some v := by
  have := hH _ _ e
  simp [World.cell?, this]
def i64B (n : Int) : Prop := -9223372036854775808 ≤ n ∧ n ≤ 9223372036854775807
theorem itoa_g (n : Int) (hn : i64B n) (D : Imm) (hL : LibD D) (w : World) (hH : Holds D w) : Gives Tryz.prog 140 [it n] w (st (num n)) := by
  obtain ⟨t, fz, e⟩ := hL.pow
  exact (Any.strconv_Itoa laysM171 n hn.1 hn.2 w (var_of (by kernel_rfl) (hH _ _ e))).mono fun e' w' ⟨h1, k, os, h2⟩ => ⟨h1, h2 ▸ Keep.grow w k os⟩
theorem atoi_ok (s : Bs) (hs : s.length ≤ 2 ^ 40) (v : Int) (h : Lib.atoiAll s = .ok v) (w : World) : Gives Tryz.prog 144 [st s] w (.tuple #[it v, .nilIface]) :=
  (Any.strconv_Atoi_ok laysC172 ⟨s.toArray⟩ (by rw [st_size]; omega) v h w).mono fun e' w' ⟨h1, h2⟩ => ⟨h1, by
    rcases h2 with rfl | ⟨t, rfl⟩
    · exact Keep.refl _ _
    · exact Keep.of_below (Lib.bytesWorld_below w _ _)⟩
theorem atoi_no (s : Bs) (hs : s.length ≤ 2 ^ 40) (h : ∀ v, Lib.atoiAll s ≠ .ok v) (D : Imm) (hL : LibD D) (w : World) (hH : Holds D w) : News Tryz.prog 144 [st s] w D (fun v _ h' => h' = [] ∧ ∃ z tt p, v = .tuple #[it z, .iface tt p]) := by
  have fin : ∀ {w' : World}, RowKit.Below w.heap.size w w' → Inv D [] [] w w' := fun hb => (Inv.start hH).call (Keep.of_below hb)
  rcases e : Lib.atoiAll s with v | _ | _
  · exact absurd e (h v)
  · obtain ⟨tp, p, t, fz, e2⟩ := hL.syn
    exact (Any.strconv_Atoi_syntax laysC172 ⟨s.toArray⟩ (by rw [st_size]; omega) e (.iface tp p) w (cell0 e2 hH) (.inr ⟨_, _, rfl⟩)).mono fun e' w' ⟨N, h1, _, _, h4⟩ => ⟨_, D, [], h1, DExt.refl _ _, fin h4, rfl, _, _, _, rfl⟩
  · obtain ⟨tp, p, t, fz, e2⟩ := hL.rng
    exact (Any.strconv_Atoi_range laysC172 ⟨s.toArray⟩ (by rw [st_size]; omega) e (.iface tp p) w (cell0 e2 hH) (.inr ⟨_, _, rfl⟩)).mono fun e' w' ⟨N, h1, _, _, h4⟩ => ⟨_, D, [], h1, DExt.refl _ _, fin h4, rfl, _, _, _, rfl⟩
theorem trimL_g (s : Bs) (w : World) : Gives Tryz.prog 145 [st s, st [32]] w (st (Lib.trimLeftS s [32])) := by
  rw [Lib.trimLeftS_one]
  exact (Any.strings_TrimLeft_one lays161 ⟨s.toArray⟩ 32 (by decide) w).mono fun e' w' ⟨h1, h2⟩ => ⟨h1, h2 ▸ Keep.refl _ _⟩
theorem trimR_g (s : Bs) (hs : s.length ≤ 2 ^ 40) (w : World) : Gives Tryz.prog 105 [st s, st [63, 33]] w (st (Lib.trimRightS s [63, 33])) :=
  (Any.strings_TrimRight_laid lays162 (by kernel_rfl) ⟨s.toArray⟩ ⟨List.toArray [63, 33]⟩ w (by rw [st_size]; omega) (by rw [st_size]; decide) (fun j b hb => by
    have : b ∈ ([63, 33] : Bs) := List.mem_of_getElem? hb
    simp at this
    rcases this with rfl | rfl <;> decide)).mono fun e' w' ⟨h1, h2⟩ => ⟨h1, Keep.of_below h2⟩
theorem cut_g (s sep : Bs) (hs : s.length ≤ 2 ^ 20) (D : Imm) (hL : LibD D) (w : World) (hH : Holds D w) : Gives Tryz.prog 102 [st s, st sep] w (.tuple #[st (Lib.cut s sep).1, st (Lib.cut s sep).2.1, .bool (Lib.cut s sep).2.2]) := by
  obtain ⟨m, hm⟩ := hL.max hH
  exact (Any.strings_Cut lays145 ⟨s.toArray⟩ ⟨sep.toArray⟩ m w (by rw [st_size]; omega) hm).mono fun e' w' ⟨h1, n, h2⟩ => ⟨h1, h2 ▸ Keep.drewN w n⟩
theorem trimP_g (s p : Bs) (w : World) : Gives Tryz.prog 93 [st s, st p] w (st (Lib.trimPrefix s p)) :=
  (Any.strings_TrimPrefix lays101 ⟨s.toArray⟩ ⟨p.toArray⟩ w).mono fun e' w' ⟨h1, h2⟩ => ⟨h1, h2 ▸ Keep.refl _ _⟩
theorem trimS_g (s p : Bs) (hs : s.length ≤ 2 ^ 40) (w : World) : Gives Tryz.prog 111 [st s, st p] w (st (Lib.trimSuffix s p)) :=
  (Any.strings_TrimSuffix lays102 ⟨s.toArray⟩ ⟨p.toArray⟩ w (by rw [st_size]; omega)).mono fun e' w' ⟨h1, h2⟩ => ⟨h1, h2 ▸ Keep.refl _ _⟩
theorem cutP_g (s p : Bs) (w : World) : Gives Tryz.prog 143 [st s, st p] w (.tuple #[st (Lib.trimPrefix s p), .bool (Lib.hasPrefix s p)]) :=
  (Any.strings_CutPrefix lays103 ⟨s.toArray⟩ ⟨p.toArray⟩ w).mono fun e' w' ⟨h1, h2⟩ => ⟨h1, h2 ▸ Keep.refl _ _⟩
theorem cutS_g (s p : Bs) (hs : s.length ≤ 2 ^ 40) (w : World) : Gives Tryz.prog 110 [st s, st p] w (.tuple #[st (Lib.trimSuffix s p), .bool (Lib.hasSuffix s p)]) :=
  (Any.strings_CutSuffix lays104 ⟨s.toArray⟩ ⟨p.toArray⟩ w (by rw [st_size]; omega)).mono fun e' w' ⟨h1, h2⟩ => ⟨h1, h2 ▸ Keep.refl _ _⟩
theorem idx_g (s : Bs) (c : UInt8) (w : World) : Gives Tryz.prog 169 [st s, .int .u8 (c.toNat : Int)] w (it (Lib.indexByte s c)) :=
  (Any.strings_IndexByte lays137 ⟨s.toArray⟩ (c.toNat : Int) w).mono fun e' w' ⟨h1, h2⟩ => ⟨by simpa using h1, h2 ▸ Keep.refl _ _⟩
theorem split_g (s : Bs) (c : UInt8) (hs : s.length ≤ 2 ^ 20) (D : Imm) (hL : LibD D) (w : World) (hH : Holds D w) : Makes Tryz.prog 117 [st s, st [c]] w D (fun v D' => ∃ a n cp, v = .slice a n cp ∧ SlL D' 1 ((Lib.split s [c]).map fun p => [st p]) a n) := by
  obtain ⟨m, hm⟩ := hL.max hH
  refine (Any.strings_Split lays146 (by kernel_rfl) ⟨s.toArray⟩ ⟨List.toArray [c]⟩ m w (by rw [st_size]; omega) hm (by rw [st_size]; simp)).mono fun e' w' ⟨h1, h2⟩ => ?_
  subst h2
  have hI := (Inv.start hH).new (.cells ((Lib.splitB ⟨List.toArray [c]⟩ 0 (Lib.countB ⟨s.toArray⟩ ⟨List.toArray [c]⟩) ⟨s.toArray⟩).map Value.string).toArray 9)
  have hlen : (Lib.split s [c]).length = Lib.countB ⟨s.toArray⟩ ⟨List.toArray [c]⟩ + 1 := by
    have := Lib.splitB_all ⟨List.toArray [c]⟩ (by rw [st_size]; simp) 0 _ ⟨s.toArray⟩ rfl
    have h3 := congrArg List.length (Lib.splitB_data ⟨List.toArray [c]⟩ 0 (Lib.countB ⟨s.toArray⟩ ⟨List.toArray [c]⟩) ⟨s.toArray⟩)
    rw [List.length_map, this] at h3
    exact h3.symm
  have hd : (Lib.splitB ⟨List.toArray [c]⟩ 0 (Lib.countB ⟨s.toArray⟩ ⟨List.toArray [c]⟩) ⟨s.toArray⟩).map Value.string = ((Lib.split s [c]).flatMap fun p => [st p]) ++ [] := by
    have h3 := Lib.splitB_data ⟨List.toArray [c]⟩ 0 (Lib.countB ⟨s.toArray⟩ ⟨List.toArray [c]⟩) ⟨s.toArray⟩
    have h4 : Lib.split s [c] = (Lib.splitB ⟨List.toArray [c]⟩ 0 (Lib.countB ⟨s.toArray⟩ ⟨List.toArray [c]⟩) ⟨s.toArray⟩).map (·.data.toList) := h3.symm
    rw [h4, List.append_nil]
    induction (Lib.splitB ⟨List.toArray [c]⟩ 0 (Lib.countB ⟨s.toArray⟩ ⟨List.toArray [c]⟩) ⟨s.toArray⟩) with
    | nil => rfl
    | cons x l ih => rw [List.map_cons, List.map_cons, List.flatMap_cons, ← ih]; rfl
  refine ⟨_, _, h1, hI.keep, hI.freeze.imm, ?_, ?_⟩
  · exact (DExt.refl w D).add (hI.apart _ _ (List.mem_cons_self)) (Nat.le_refl _)
  · exact ⟨_, _, _, rfl, by rw [← hlen]; exact SlL.ofBlock (rest := []) (fun _ => rfl) (by rw [← hd]; exact Imm.add_self _ _ _)⟩

end Go.Proofs.YtaebnllfmkcpgaaGreatDoor
namespace Go.Proofs.YtaebnllfmkcpgaaGreatDoor
open Go.W Go.Bk

def stopB (e : Int) : List PanicEntry := [{ v := .iface 145 (it e), recovered := false }]

theorem must_ok (e : Int) (w : World) : Gives Tryz.prog 61 [.bool true, it e] w (.tuple #[]) := by
  unfold Gives
  refine enter Tryz.func61 rfl 8 Tryz.ntmps61 (zqb rfl) (Inv.start (D := fun _ => none) (by intro _ _ h; cases h)) ?_
  refine WC.seq (WC.ofFr [(0, _), (1, _)] ⟨rfl, rfl, trivial⟩ (WC.region ?_))
  refine zym rfl rfl ?_
  refine WL.yd (Yd.not rfl) rfl ?_
  refine WL.nil (WP.thenC ?_)
  refine WC.condF rfl ?_
  refine WC.skip ?_
  refine WP.ret0 rfl rfl Tryz.results61  (fun w hI => ⟨rfl, hI.keep⟩)

theorem must_no (e : Int) (w : World) : Fails Tryz.prog 61 [.bool false, it e] w (stopB e) := by
  unfold Fails
  refine enter Tryz.func61 rfl 8 Tryz.ntmps61 (zqb rfl) (Inv.start (D := fun _ => none) (by intro _ _ h; cases h)) ?_
  refine WC.seq (WC.ofFr [(0, _), (1, _)] ⟨rfl, rfl, trivial⟩ (WC.region ?_))
  refine zym rfl rfl ?_
  refine WL.yd (Yd.not rfl) rfl ?_
  refine WL.nil (WP.thenC ?_)
  refine WC.condT rfl ?_
  refine WC.ofFr [(1, _)] ⟨rfl, trivial⟩ (WC.region ?_)
  refine zym rfl rfl ?_
  refine WL.yd (Yd.iface Tryz.underlying145 (by intro _ h; cases h) rfl) rfl ?_
  refine WL.no (SO.panic rfl ?_)
  refine WP.panicBody rfl (fun w hI => ⟨rfl, hI.keep⟩)

theorem answer_idle (b : Nat) (w : World) : Idle Tryz.prog 51 [pt b] w := by
  refine callsD_of_wpS Tryz.func51 rfl fun c₀ cs hu => ?_
  refine wpS_seq ?_
  apply wpS_region
  simp [wpOpsS, go_sem, recoverD, hu, Tryz.ntmps51]
  show Code.wpS _ _ _ _ _ _
  refine wpS_of_wp (WC.start (x := ⟨19, [], [], w⟩) (fr := [(0, pt b), (2, .nilIface)]) (D := fun _ => none) (hp := []) ?_ ?_)
  · exact ⟨⟨by simp, rfl, slots_of ⟨by simp, by simp, trivial⟩⟩, (Inv.start (by intro _ _ h; cases h))⟩
  refine WC.seq (WC.ofFr [(0, _), (2, _)] ⟨rfl, rfl, trivial⟩ (WC.region ?_))
  refine zym rfl rfl ?_
  refine WL.yd (Yd.neqNilNil Tryz.underlying20 rfl) rfl ?_
  refine WL.nil (WP.thenC ?_)
  refine WC.condF rfl ?_
  refine WC.skip ?_
  exact fun a w' hA => ⟨hA.f.defers, .returning, by cases c₀; simp only at hu; subst hu; rfl, .tuple #[], by simp [results, Tryz.results51], ⟨_, rfl⟩, rfl, hA.i.keep⟩

theorem answer_catch (b : Nat) (e v0 : Int) (t : TypeId) (w : World) (hb : w.heap[b]? = some (.cells (List.toArray [it v0]) t (0, 0))) : Catch Tryz.prog 51 [pt b] (.iface 145 (it e)) b (.cells (List.toArray [it e]) t (0, 0)) w := by
  refine callsD_of_wpS Tryz.func51 rfl fun c₀ cs hu => ?_
  refine wpS_seq ?_
  apply wpS_region
  simp [wpOpsS, go_sem, recoverD, hu, Tryz.ntmps51]
  show Code.wpS _ _ _ _ _ _
  refine wpS_of_wp (WC.start (x := ⟨19, [], [b], w⟩) (fr := [(0, pt b), (2, .iface 145 (it e))]) (D := fun _ => none) (hp := [(b, .cells (List.toArray [it v0]) t (0, 0))]) ?_ ?_)
  · exact ⟨⟨by simp, rfl, slots_of ⟨by simp, by simp, trivial⟩⟩, (Inv.one hb)⟩
  refine WC.seq (WC.ofFr [(0, _), (2, _)] ⟨rfl, rfl, trivial⟩ (WC.region ?_))
  refine zym rfl rfl ?_
  refine WL.yd (Yd.neqNil Tryz.underlying20 rfl) rfl ?_
  refine WL.nil (WP.thenC ?_)
  refine WC.condT rfl ?_
  refine WC.seq (WC.ofFr [(0, _), (2, _)] ⟨rfl, rfl, trivial⟩ (WC.region ?_))
  refine zym rfl rfl ?_
  refine WL.yd (Yd.assert Tryz.underlying145 (by intro _ h; cases h) rfl) rfl ?_
  refine zym rfl rfl ?_
  refine WL.yd (Yd.extract rfl rfl) rfl ?_
  refine WL.yd (Yd.extract rfl rfl) rfl ?_
  refine zya rfl rfl ?_
  refine zya rfl rfl ?_
  refine WL.nil (WP.thenC (WC.seq (WC.seq (WC.ofFr [(4, _), (3, _), (0, _), (2, _)] ⟨rfl, rfl, rfl, rfl, trivial⟩ (WC.region ?_)))))
  refine zym rfl rfl ?_
  refine WL.yd (Yd.not rfl) rfl ?_
  refine WL.nil (WP.thenC ?_)
  refine WC.condF rfl ?_
  refine WC.skip (WP.thenC (WC.ofFr [(3, _), (0, _)] ⟨rfl, rfl, trivial⟩ (WC.region ?_)))
  refine zym rfl rfl ?_
  refine zym rfl rfl ?_
  refine WL.yd (Yd.nilCheck rfl) rfl ?_
  refine WL.so (SO.store 0 rfl Tryz.sizeOf38 rfl rfl rfl rfl (zqb rfl) (oneB_spec rfl)) rfl ?_
  rintro _ _ _ ⟨rfl, rfl, rfl⟩
  refine WL.nil ?_
  exact fun a w' hA => ⟨hA.f.defers, .panicking [{ v := .iface 145 (it e), recovered := true }], rfl, .tuple #[], by simp [results, Tryz.results51], ⟨_, rfl⟩, rfl, hA.i.keep, hA.i.own _ _ (List.mem_of_getElem? (i := 0) rfl)⟩

end Go.Proofs.YtaebnllfmkcpgaaGreatDoor
namespace Go.Proofs.YtaebnllfmkcpgaaGreatDoor
open Go.W Go.Bk
theorem FA114_0 : FieldAt Tryz.prog 114 0 0 := FieldAt.mk (t := 3) (off := 0) Tryz.underlying114 rfl Tryz.sizeOf3 (by decide)
theorem FA114_1 : FieldAt Tryz.prog 114 1 1 := FieldAt.mk (t := 3) (off := 1) Tryz.underlying114 rfl Tryz.sizeOf3 (by decide)
inductive Part where
  | s (l : Bs)
  | i (n : Int)
  | c (n : Int)
  | p (x : Sp)
instance : Inhabited Part := ⟨.s []⟩
def partV : Part → Value
  | .s l => .iface 9 (st l)
  | .i n => .iface 3 (it n)
  | .c n => .iface 148 (it n)
  | .p x => .iface 114 (.agg #[it x.lo, it x.hi])
def partT : Part → Bs
  | .s l => l
  | .i n => num n
  | .c n => two n
  | .p x => spanT x
def partOk : Part → Prop
  | .s l => l.length ≤ 10000
  | .i n => i64B n
  | .c n => i64B n
  | .p x => i64B x.lo ∧ i64B x.hi
def partS : Part → Prop
  | .s _ => True
  | .i _ => True
  | _ => False
def partC (p : Part) : List Value := [partV p]
def joinT (ps : List Part) : Bs := ps.flatMap partT
theorem nDigits_le : ∀ (k u : Nat), u < 10 ^ (k + 1) → Lib.nDigits u ≤ k + 1
  | 0, u, h => by rw [Lib.nDigits_small (by simpa using h)]; omega
  | k + 1, u, h => by
    by_cases hu : u < 10
    · rw [Lib.nDigits_small hu]; omega
    · rw [Lib.nDigits_big hu]
      have := nDigits_le k (u / 10) (by rw [Nat.pow_succ] at h; omega)
      omega
theorem num_le {n : Int} (h : i64B n) : (num n).length ≤ 20 := by
  unfold num Lib.itoa
  obtain ⟨h1, h2⟩ := h
  split
  · have := nDigits_le 18 n.natAbs (by omega)
    rw [List.length_cons, Lib.decDigits_length]; omega
  · have := nDigits_le 18 n.toNat (by omega)
    rw [Lib.decDigits_length]; omega
theorem partT_len {p : Part} (h : partOk p) : (partT p).length ≤ 10000 := by
  cases p with
  | s l => exact h
  | i n => have := num_le h; simp only [partT]; omega
  | c n => have := num_le h; simp only [partT, two]; split <;> simp <;> omega
  | p x =>
    have h1 := num_le h.1; have h2 := num_le h.2
    simp only [partT, spanT]; split
    · omega
    · simp; omega
theorem joinT_len : ∀ (ps : List Part), (∀ p ∈ ps, partOk p) → (joinT ps).length ≤ ps.length * 10000
  | [], _ => by simp [joinT]
  | p :: ps, h => by
    have h1 := partT_len (h p (by simp)); have h2 := joinT_len ps fun q hq => h q (by simp [hq])
    simp only [joinT, List.flatMap_cons, List.length_append, List.length_cons] at h2 ⊢
    omega
theorem gtB_mem {α : Type} [Inhabited α] {l : List α} {i : Nat} (h : i < l.length) : gt l i ∈ l := by
  have : gt l i = l[i] := by simp [gt, List.getD, h]
  rw [this]; exact List.getElem_mem h
theorem joinT_succ {ps : List Part} {k : Nat} {p : Part} (hg : gt ps k = p) (hk : k < ps.length) : joinT (ps.take (k + 1)) = joinT (ps.take k) ++ partT p := by
  have : gt ps k = ps[k] := by simp [gt, List.getD, hk]
  unfold joinT
  rw [List.take_succ_eq_append_getElem hk, List.flatMap_append, ← this, hg]
  simp

theorem join0_g (ps : List Part) (a : Option Addr) (n c : Nat) (D : Imm) (hL : LibD D) (hS : SlL D 1 (ps.map partC) a n) (hps : ∀ p ∈ ps, partOk p) (h0 : ∀ p ∈ ps, partS p) (hn : ps.length ≤ 20) (w : World) (hH : Holds D w) : Gives Tryz.prog 89 [.slice a n c] w (st (joinT ps)) := by
  unfold Gives
  obtain rfl : n = ps.length := by have := hS.len'; exact this
  refine enter Tryz.func89 rfl 68 Tryz.ntmps89 (zqb rfl) (Inv.start hH) ?_
  refine WC.seq (WC.ofFr [(0, _)] ⟨rfl, trivial⟩ (WC.region ?_))
  refine zya rfl rfl ?_
  refine WL.nil (WP.thenC (WC.seq (WC.ofFr [(2, _), (0, _)] ⟨rfl, rfl, trivial⟩ (WC.region ?_))))
  refine zya rfl rfl ?_
  refine WL.nil (WP.thenC (WC.seq (WC.seq (WC.ofFr [(3, _), (2, _), (0, _)] ⟨rfl, rfl, rfl, trivial⟩ (WC.region ?_)))))
  refine zym rfl rfl ?_
  refine WL.yd (Yd.lenS rfl Tryz.underlying208 rfl) rfl ?_
  refine zym rfl rfl ?_
  refine WL.nil (WP.thenC (WC.block ?_))
  refine WC.loopF (fun k : Nat => [(3, st (joinT (ps.take k))), (10, .slice a ps.length c), (11, nt ps.length), (12, nt k)]) (fun k => k ≤ ps.length) (fun k => ps.length - k) 0 (Nat.zero_le _) ⟨rfl, rfl, rfl, rfl, trivial⟩ ?_
  intro k hk
  have hjl := joinT_len (ps.take k) (fun p hp => hps p (List.mem_of_mem_take hp))
  rw [List.length_take] at hjl
  have hjm : min k ps.length ≤ 20 := by omega
  refine WC.seq (WC.ofFr [(3, _), (10, _), (11, _), (12, _)] ⟨rfl, rfl, rfl, rfl, trivial⟩ (WC.region ?_))
  refine WL.yd (Yd.lss rfl rfl) rfl ?_
  refine WL.nil (WP.thenC (WC.seq ?_))
  refine WC.cond rfl (fun c13 => ?_) (fun c13 => ?_)
  · try simp only [zq1, zq2, zq3, zq4, zq5, zq6, zq7, zq8] at c13
    have hkl : k < ps.length := by omega
    refine WC.skip (WP.thenC (WC.seq (WC.block (WC.seq (WC.ofFr [(3, _), (10, _), (11, _), (12, _)] ⟨rfl, rfl, rfl, rfl, trivial⟩ (WC.region ?_))))))
    refine WL.yd (Yd.indexS Tryz.underlying208 Tryz.sizeOf20 rfl rfl (by omega) (by omega) (by first | exact hS.addr k (by omega))) rfl ?_
    refine WL.yd (Yd.load1 Tryz.isAgg20 rfl (by first | exact (hS.at k (by omega)).rd 0 rfl)) rfl ?_
    refine zya rfl rfl ?_
    refine WL.nil (WP.thenC (WC.seq ?_))
    generalize hg : gt ps k = pk
    have hok : partOk pk := hg ▸ hps _ (gtB_mem hkl)
    rcases pk with l | n | n | x
    · have hl1 : l.length ≤ 10000 := hok
      refine WC.ofFr [(5, _), (3, _), (10, _), (11, _), (12, _)] ⟨rfl, rfl, rfl, rfl, rfl, trivial⟩ (WC.region ?_)
      skip
      refine zym rfl rfl ?_
      refine WL.nil (WP.thenC (WC.block (WC.seq (WC.ofFr [(16, _), (3, _), (10, _), (11, _), (12, _)] ⟨rfl, rfl, rfl, rfl, rfl, trivial⟩ (WC.region ?_)))))
      refine WL.yd (Yd.assert Tryz.underlying9 (by intro _ h; cases h) rfl) rfl ?_
      refine WL.yd (Yd.extract rfl rfl) rfl ?_
      refine WL.yd (Yd.extract rfl rfl) rfl ?_
      refine WL.nil (WP.thenC ?_)
      refine WC.condT rfl ?_
      refine WC.seq (WC.ofFr [(19, _), (3, _), (10, _), (11, _), (12, _)] ⟨rfl, rfl, rfl, rfl, rfl, trivial⟩ (WC.region ?_))
      refine zya rfl rfl ?_
      refine WL.nil (WP.thenC (WC.ofFr [(6, _), (3, _), (10, _), (11, _), (12, _)] ⟨rfl, rfl, rfl, rfl, rfl, trivial⟩ (WC.region ?_)))
      refine zym rfl rfl ?_
      refine zym rfl rfl ?_
      refine WL.yd (Yd.addS rfl rfl (by (try simp only [List.length_append, List.length_cons, List.length_nil]); omega)) rfl ?_
      refine zya rfl rfl ?_
      refine WL.nil (WP.blkNormal (WP.blkNormal (WP.thenC (WC.ofFr [(3, _), (10, _), (11, _), (12, _)] ⟨rfl, rfl, rfl, rfl, trivial⟩ (WC.region ?_)))))
      refine WL.yd (Yd.add rfl rfl (wr64 ⟨by omega, by omega⟩)) rfl ?_
      refine zym rfl rfl ?_
      refine WL.nil ?_
      exact WP.againF (k + 1) hkl (by omega) ⟨by show some (st _) = some (st _); rw [joinT_succ hg hkl]; simp_all [partT, two, spanT, joinT], rfl, rfl, rfl, trivial⟩ (fun _ h => nomatch h) (fun _ => List.nodup_nil)
    · have hl1 : (num n).length ≤ 20 := num_le hok
      refine WC.ofFr [(5, _), (3, _), (10, _), (11, _), (12, _)] ⟨rfl, rfl, rfl, rfl, rfl, trivial⟩ (WC.region ?_)
      skip
      refine zym rfl rfl ?_
      refine WL.nil (WP.thenC (WC.block (WC.seq (WC.ofFr [(16, _), (3, _), (10, _), (11, _), (12, _)] ⟨rfl, rfl, rfl, rfl, rfl, trivial⟩ (WC.region ?_)))))
      refine WL.yd (Yd.assertNo Tryz.underlying9 (by intro _ h; cases h) Tryz.zeroValue9 rfl rfl) rfl ?_
      refine WL.yd (Yd.extract rfl rfl) rfl ?_
      refine WL.yd (Yd.extract rfl rfl) rfl ?_
      refine WL.nil (WP.thenC ?_)
      refine WC.condF rfl ?_
      refine WC.seq (WC.ofFr [(16, _), (3, _), (10, _), (11, _), (12, _)] ⟨rfl, rfl, rfl, rfl, rfl, trivial⟩ (WC.region ?_))
      refine WL.yd (Yd.assert Tryz.underlying3 (by intro _ h; cases h) rfl) rfl ?_
      refine WL.yd (Yd.extract rfl rfl) rfl ?_
      refine WL.yd (Yd.extract rfl rfl) rfl ?_
      refine WL.nil (WP.thenC ?_)
      refine WC.condT rfl ?_
      refine WC.seq (WC.ofFr [(25, _), (3, _), (10, _), (11, _), (12, _)] ⟨rfl, rfl, rfl, rfl, rfl, trivial⟩ (WC.region ?_))
      refine zya rfl rfl ?_
      refine WL.nil (WP.thenC (WC.ofFr [(7, _), (3, _), (10, _), (11, _), (12, _)] ⟨rfl, rfl, rfl, rfl, rfl, trivial⟩ (WC.region ?_)))
      refine zym rfl rfl ?_
      refine zym rfl rfl ?_
      refine WL.so (SO.callP Tryz.call140 rfl (fun w hI => itoa_g _ hok D hL _ hI.imm)) rfl ?_
      rintro _ _ _ ⟨rfl, rfl, rfl⟩
      refine WL.yd (Yd.addS rfl rfl (by (try simp only [List.length_append, List.length_cons, List.length_nil]); omega)) rfl ?_
      refine zya rfl rfl ?_
      refine WL.nil (WP.blkNormal (WP.blkNormal (WP.thenC (WC.ofFr [(3, _), (10, _), (11, _), (12, _)] ⟨rfl, rfl, rfl, rfl, trivial⟩ (WC.region ?_)))))
      refine WL.yd (Yd.add rfl rfl (wr64 ⟨by omega, by omega⟩)) rfl ?_
      refine zym rfl rfl ?_
      refine WL.nil ?_
      exact WP.againF (k + 1) hkl (by omega) ⟨by show some (st _) = some (st _); rw [joinT_succ hg hkl]; simp_all [partT, two, spanT, joinT], rfl, rfl, rfl, trivial⟩ (fun _ h => nomatch h) (fun _ => List.nodup_nil)
    · exact ((by have := h0 _ (gtB_mem hkl); rw [hg] at this; exact this : False)).elim
    · exact ((by have := h0 _ (gtB_mem hkl); rw [hg] at this; exact this : False)).elim
  · try simp only [zq1, zq2, zq3, zq4, zq5, zq6, zq7, zq8] at c13
    obtain rfl : k = ps.length := by omega
    refine WC.exit ?_
    refine WP.thenExit ?_
    refine WP.thenExit ?_
    refine WP.blkHit ?_
    refine WP.thenC (WC.seq (WC.ofFr [(3, _)] ⟨rfl, trivial⟩ (WC.region ?_)))
    refine zym rfl rfl ?_
    refine zya rfl rfl ?_
    refine WL.nil (WP.thenC (WC.ret ?_))
    refine WP.ret1 rfl rfl Tryz.results89 (RV.tmp rfl) (fun w hI => ⟨by rw [List.take_length], hI.keep⟩)

theorem join_g (ps : List Part) (a : Option Addr) (n c : Nat) (D : Imm) (hL : LibD D) (hS : SlL D 1 (ps.map partC) a n) (hps : ∀ p ∈ ps, partOk p) (hn : ps.length ≤ 20) (w : World) (hH : Holds D w) : Gives Tryz.prog 89 [.slice a n c] w (st (joinT ps)) := by
  unfold Gives
  obtain rfl : n = ps.length := by have := hS.len'; exact this
  refine enter Tryz.func89 rfl 68 Tryz.ntmps89 (zqb rfl) (Inv.start hH) ?_
  refine WC.seq (WC.ofFr [(0, _)] ⟨rfl, trivial⟩ (WC.region ?_))
  refine zya rfl rfl ?_
  refine WL.nil (WP.thenC (WC.seq (WC.ofFr [(2, _), (0, _)] ⟨rfl, rfl, trivial⟩ (WC.region ?_))))
  refine zya rfl rfl ?_
  refine WL.nil (WP.thenC (WC.seq (WC.seq (WC.ofFr [(3, _), (2, _), (0, _)] ⟨rfl, rfl, rfl, trivial⟩ (WC.region ?_)))))
  refine zym rfl rfl ?_
  refine WL.yd (Yd.lenS rfl Tryz.underlying208 rfl) rfl ?_
  refine zym rfl rfl ?_
  refine WL.nil (WP.thenC (WC.block ?_))
  refine WC.loopF (fun k : Nat => [(3, st (joinT (ps.take k))), (10, .slice a ps.length c), (11, nt ps.length), (12, nt k)]) (fun k => k ≤ ps.length) (fun k => ps.length - k) 0 (Nat.zero_le _) ⟨rfl, rfl, rfl, rfl, trivial⟩ ?_
  intro k hk
  have hjl := joinT_len (ps.take k) (fun p hp => hps p (List.mem_of_mem_take hp))
  rw [List.length_take] at hjl
  have hjm : min k ps.length ≤ 20 := by omega
  refine WC.seq (WC.ofFr [(3, _), (10, _), (11, _), (12, _)] ⟨rfl, rfl, rfl, rfl, trivial⟩ (WC.region ?_))
  refine WL.yd (Yd.lss rfl rfl) rfl ?_
  refine WL.nil (WP.thenC (WC.seq ?_))
  refine WC.cond rfl (fun c13 => ?_) (fun c13 => ?_)
  · try simp only [zq1, zq2, zq3, zq4, zq5, zq6, zq7, zq8] at c13
    have hkl : k < ps.length := by omega
    refine WC.skip (WP.thenC (WC.seq (WC.block (WC.seq (WC.ofFr [(3, _), (10, _), (11, _), (12, _)] ⟨rfl, rfl, rfl, rfl, trivial⟩ (WC.region ?_))))))
    refine WL.yd (Yd.indexS Tryz.underlying208 Tryz.sizeOf20 rfl rfl (by omega) (by omega) (by first | exact hS.addr k (by omega))) rfl ?_
    refine WL.yd (Yd.load1 Tryz.isAgg20 rfl (by first | exact (hS.at k (by omega)).rd 0 rfl)) rfl ?_
    refine zya rfl rfl ?_
    refine WL.nil (WP.thenC (WC.seq ?_))
    generalize hg : gt ps k = pk
    have hok : partOk pk := hg ▸ hps _ (gtB_mem hkl)
    rcases pk with l | n | n | x
    · have hl1 : l.length ≤ 10000 := hok
      refine WC.ofFr [(5, _), (3, _), (10, _), (11, _), (12, _)] ⟨rfl, rfl, rfl, rfl, rfl, trivial⟩ (WC.region ?_)
      skip
      refine zym rfl rfl ?_
      refine WL.nil (WP.thenC (WC.block (WC.seq (WC.ofFr [(16, _), (3, _), (10, _), (11, _), (12, _)] ⟨rfl, rfl, rfl, rfl, rfl, trivial⟩ (WC.region ?_)))))
      refine WL.yd (Yd.assert Tryz.underlying9 (by intro _ h; cases h) rfl) rfl ?_
      refine WL.yd (Yd.extract rfl rfl) rfl ?_
      refine WL.yd (Yd.extract rfl rfl) rfl ?_
      refine WL.nil (WP.thenC ?_)
      refine WC.condT rfl ?_
      refine WC.seq (WC.ofFr [(19, _), (3, _), (10, _), (11, _), (12, _)] ⟨rfl, rfl, rfl, rfl, rfl, trivial⟩ (WC.region ?_))
      refine zya rfl rfl ?_
      refine WL.nil (WP.thenC (WC.ofFr [(6, _), (3, _), (10, _), (11, _), (12, _)] ⟨rfl, rfl, rfl, rfl, rfl, trivial⟩ (WC.region ?_)))
      refine zym rfl rfl ?_
      refine zym rfl rfl ?_
      refine WL.yd (Yd.addS rfl rfl (by (try simp only [List.length_append, List.length_cons, List.length_nil]); omega)) rfl ?_
      refine zya rfl rfl ?_
      refine WL.nil (WP.blkNormal (WP.blkNormal (WP.thenC (WC.ofFr [(3, _), (10, _), (11, _), (12, _)] ⟨rfl, rfl, rfl, rfl, trivial⟩ (WC.region ?_)))))
      refine WL.yd (Yd.add rfl rfl (wr64 ⟨by omega, by omega⟩)) rfl ?_
      refine zym rfl rfl ?_
      refine WL.nil ?_
      exact WP.againF (k + 1) hkl (by omega) ⟨by show some (st _) = some (st _); rw [joinT_succ hg hkl]; simp_all [partT, two, spanT, joinT], rfl, rfl, rfl, trivial⟩ (fun _ h => nomatch h) (fun _ => List.nodup_nil)
    · have hl1 : (num n).length ≤ 20 := num_le hok
      refine WC.ofFr [(5, _), (3, _), (10, _), (11, _), (12, _)] ⟨rfl, rfl, rfl, rfl, rfl, trivial⟩ (WC.region ?_)
      skip
      refine zym rfl rfl ?_
      refine WL.nil (WP.thenC (WC.block (WC.seq (WC.ofFr [(16, _), (3, _), (10, _), (11, _), (12, _)] ⟨rfl, rfl, rfl, rfl, rfl, trivial⟩ (WC.region ?_)))))
      refine WL.yd (Yd.assertNo Tryz.underlying9 (by intro _ h; cases h) Tryz.zeroValue9 rfl rfl) rfl ?_
      refine WL.yd (Yd.extract rfl rfl) rfl ?_
      refine WL.yd (Yd.extract rfl rfl) rfl ?_
      refine WL.nil (WP.thenC ?_)
      refine WC.condF rfl ?_
      refine WC.seq (WC.ofFr [(16, _), (3, _), (10, _), (11, _), (12, _)] ⟨rfl, rfl, rfl, rfl, rfl, trivial⟩ (WC.region ?_))
      refine WL.yd (Yd.assert Tryz.underlying3 (by intro _ h; cases h) rfl) rfl ?_
      refine WL.yd (Yd.extract rfl rfl) rfl ?_
      refine WL.yd (Yd.extract rfl rfl) rfl ?_
      refine WL.nil (WP.thenC ?_)
      refine WC.condT rfl ?_
      refine WC.seq (WC.ofFr [(25, _), (3, _), (10, _), (11, _), (12, _)] ⟨rfl, rfl, rfl, rfl, rfl, trivial⟩ (WC.region ?_))
      refine zya rfl rfl ?_
      refine WL.nil (WP.thenC (WC.ofFr [(7, _), (3, _), (10, _), (11, _), (12, _)] ⟨rfl, rfl, rfl, rfl, rfl, trivial⟩ (WC.region ?_)))
      refine zym rfl rfl ?_
      refine zym rfl rfl ?_
      refine WL.so (SO.callP Tryz.call140 rfl (fun w hI => itoa_g _ hok D hL _ hI.imm)) rfl ?_
      rintro _ _ _ ⟨rfl, rfl, rfl⟩
      refine WL.yd (Yd.addS rfl rfl (by (try simp only [List.length_append, List.length_cons, List.length_nil]); omega)) rfl ?_
      refine zya rfl rfl ?_
      refine WL.nil (WP.blkNormal (WP.blkNormal (WP.thenC (WC.ofFr [(3, _), (10, _), (11, _), (12, _)] ⟨rfl, rfl, rfl, rfl, trivial⟩ (WC.region ?_)))))
      refine WL.yd (Yd.add rfl rfl (wr64 ⟨by omega, by omega⟩)) rfl ?_
      refine zym rfl rfl ?_
      refine WL.nil ?_
      exact WP.againF (k + 1) hkl (by omega) ⟨by show some (st _) = some (st _); rw [joinT_succ hg hkl]; simp_all [partT, two, spanT, joinT], rfl, rfl, rfl, trivial⟩ (fun _ h => nomatch h) (fun _ => List.nodup_nil)
    · have hl1 : (num n).length ≤ 20 := num_le hok
      have hl3 : (joinT [Part.i n]).length ≤ 20 := by simp [joinT, partT]; omega
      refine WC.ofFr [(5, _), (3, _), (10, _), (11, _), (12, _)] ⟨rfl, rfl, rfl, rfl, rfl, trivial⟩ (WC.region ?_)
      skip
      refine zym rfl rfl ?_
      refine WL.nil (WP.thenC (WC.block (WC.seq (WC.ofFr [(16, _), (3, _), (10, _), (11, _), (12, _)] ⟨rfl, rfl, rfl, rfl, rfl, trivial⟩ (WC.region ?_)))))
      refine WL.yd (Yd.assertNo Tryz.underlying9 (by intro _ h; cases h) Tryz.zeroValue9 rfl rfl) rfl ?_
      refine WL.yd (Yd.extract rfl rfl) rfl ?_
      refine WL.yd (Yd.extract rfl rfl) rfl ?_
      refine WL.nil (WP.thenC ?_)
      refine WC.condF rfl ?_
      refine WC.seq (WC.ofFr [(16, _), (3, _), (10, _), (11, _), (12, _)] ⟨rfl, rfl, rfl, rfl, rfl, trivial⟩ (WC.region ?_))
      refine WL.yd (Yd.assertNo Tryz.underlying3 (by intro _ h; cases h) Tryz.zeroValue3 rfl rfl) rfl ?_
      refine WL.yd (Yd.extract rfl rfl) rfl ?_
      refine WL.yd (Yd.extract rfl rfl) rfl ?_
      refine WL.nil (WP.thenC ?_)
      refine WC.condF rfl ?_
      refine WC.seq (WC.ofFr [(16, _), (3, _), (10, _), (11, _), (12, _)] ⟨rfl, rfl, rfl, rfl, rfl, trivial⟩ (WC.region ?_))
      refine WL.yd (Yd.assert Tryz.underlying148 (by intro _ h; cases h) rfl) rfl ?_
      refine WL.yd (Yd.extract rfl rfl) rfl ?_
      refine WL.yd (Yd.extract rfl rfl) rfl ?_
      refine WL.nil (WP.thenC ?_)
      refine WC.condT rfl ?_
      refine WC.seq (WC.ofFr [(32, _), (3, _), (10, _), (11, _), (12, _)] ⟨rfl, rfl, rfl, rfl, rfl, trivial⟩ (WC.region ?_))
      refine zya rfl rfl ?_
      refine WL.nil (WP.thenC (WC.seq (WC.seq (WC.ofFr [(8, _), (3, _), (10, _), (11, _), (12, _)] ⟨rfl, rfl, rfl, rfl, rfl, trivial⟩ (WC.region ?_)))))
      refine zym rfl rfl ?_
      refine WL.yd (Yd.lss rfl rfl) rfl ?_
      refine WL.nil (WP.thenC ?_)
      refine WC.cond rfl (fun c34 => ?_) (fun c34 => ?_)
      · try simp only [zq1, zq2, zq3, zq4, zq5, zq6, zq7, zq8] at c34
        refine WC.ofFr [(8, _), (3, _), (10, _), (11, _), (12, _)] ⟨rfl, rfl, rfl, rfl, rfl, trivial⟩ (WC.region ?_)
        refine zym rfl rfl ?_
        refine WL.yd (Yd.addS rfl rfl (by (try simp only [List.length_append, List.length_cons, List.length_nil]); omega)) rfl ?_
        refine zya rfl rfl ?_
        refine WL.nil (WP.thenC (WC.ofFr [(3, _), (8, _), (10, _), (11, _), (12, _)] ⟨rfl, rfl, rfl, rfl, rfl, trivial⟩ (WC.region ?_)))
        refine zym rfl rfl ?_
        refine zym rfl rfl ?_
        refine WL.yd (Yd.iface Tryz.underlying3 (by intro _ h; cases h) rfl) rfl ?_
        refine WL.so (SO.buildSlice Tryz.underlying208 Tryz.sizeOf20 Tryz.zeroValue20 rfl rfl rfl rfl (cs := [_]) rfl) rfl ?_
        rintro _ _ _ ⟨b40, hb40, rfl, rfl, rfl⟩
        refine WL.so (SO.callP Tryz.call89 rfl (fun w hI => join0_g [Part.i n] _ _ _ _ (hL.ext ((DExt.refl _ D).add (hI.apart _ _ (List.mem_of_getElem? (i := 0) rfl)) hb40)) (SlL.ofBlock (l := [Part.i n]) (f := partC) (m := 1) (rest := []) (fun _ => rfl) (Imm.add_self _ _ _)) (by simp [partOk]; simp_all [partOk, i64B]) (by simp [partS]) (by simp) _ (hI.freezeK 0 rfl).2.imm)) rfl ?_
        rintro _ _ _ ⟨rfl, rfl, rfl⟩
        refine WL.yd (Yd.addS rfl rfl (by (try simp only [List.length_append, List.length_cons, List.length_nil]); omega)) rfl ?_
        refine zya rfl rfl ?_
        refine WL.nil (WP.blkNormal (WP.blkNormal (WP.thenC (WC.ofFr [(3, _), (10, _), (11, _), (12, _)] ⟨rfl, rfl, rfl, rfl, trivial⟩ (WC.region ?_)))))
        refine WL.yd (Yd.add rfl rfl (wr64 ⟨by omega, by omega⟩)) rfl ?_
        refine zym rfl rfl ?_
        refine WL.nil ?_
        exact WP.againF (k + 1) hkl (by omega) ⟨by show some (st _) = some (st _); rw [joinT_succ hg hkl]; simp_all [partT, two, spanT, joinT], rfl, rfl, rfl, trivial⟩ (fun _ h => nomatch h) (fun _ => List.nodup_nil)
      · try simp only [zq1, zq2, zq3, zq4, zq5, zq6, zq7, zq8] at c34
        refine WC.skip (WP.thenC (WC.ofFr [(8, _), (3, _), (10, _), (11, _), (12, _)] ⟨rfl, rfl, rfl, rfl, rfl, trivial⟩ (WC.region ?_)))
        refine zym rfl rfl ?_
        refine zym rfl rfl ?_
        refine WL.yd (Yd.iface Tryz.underlying3 (by intro _ h; cases h) rfl) rfl ?_
        refine WL.so (SO.buildSlice Tryz.underlying208 Tryz.sizeOf20 Tryz.zeroValue20 rfl rfl rfl rfl (cs := [_]) rfl) rfl ?_
        rintro _ _ _ ⟨b40, hb40, rfl, rfl, rfl⟩
        refine WL.so (SO.callP Tryz.call89 rfl (fun w hI => join0_g [Part.i n] _ _ _ _ (hL.ext ((DExt.refl _ D).add (hI.apart _ _ (List.mem_of_getElem? (i := 0) rfl)) hb40)) (SlL.ofBlock (l := [Part.i n]) (f := partC) (m := 1) (rest := []) (fun _ => rfl) (Imm.add_self _ _ _)) (by simp [partOk]; simp_all [partOk, i64B]) (by simp [partS]) (by simp) _ (hI.freezeK 0 rfl).2.imm)) rfl ?_
        rintro _ _ _ ⟨rfl, rfl, rfl⟩
        refine WL.yd (Yd.addS rfl rfl (by (try simp only [List.length_append, List.length_cons, List.length_nil]); omega)) rfl ?_
        refine zya rfl rfl ?_
        refine WL.nil (WP.blkNormal (WP.blkNormal (WP.thenC (WC.ofFr [(3, _), (10, _), (11, _), (12, _)] ⟨rfl, rfl, rfl, rfl, trivial⟩ (WC.region ?_)))))
        refine WL.yd (Yd.add rfl rfl (wr64 ⟨by omega, by omega⟩)) rfl ?_
        refine zym rfl rfl ?_
        refine WL.nil ?_
        exact WP.againF (k + 1) hkl (by omega) ⟨by show some (st _) = some (st _); rw [joinT_succ hg hkl]; simp_all [partT, two, spanT, joinT], rfl, rfl, rfl, trivial⟩ (fun _ h => nomatch h) (fun _ => List.nodup_nil)
    · have hl1 : (num x.lo).length ≤ 20 := num_le hok.1
      have hl2 : (num x.hi).length ≤ 20 := num_le hok.2
      have hl3 : (joinT [Part.i x.lo]).length ≤ 20 := by simp [joinT, partT]; omega
      have hl4 : (joinT [Part.s [46, 46], Part.i x.hi]).length ≤ 22 := by simp [joinT, partT]; omega
      refine WC.ofFr [(5, _), (3, _), (10, _), (11, _), (12, _)] ⟨rfl, rfl, rfl, rfl, rfl, trivial⟩ (WC.region ?_)
      skip
      refine zym rfl rfl ?_
      refine WL.nil (WP.thenC (WC.block (WC.seq (WC.ofFr [(16, _), (3, _), (10, _), (11, _), (12, _)] ⟨rfl, rfl, rfl, rfl, rfl, trivial⟩ (WC.region ?_)))))
      refine WL.yd (Yd.assertNo Tryz.underlying9 (by intro _ h; cases h) Tryz.zeroValue9 rfl rfl) rfl ?_
      refine WL.yd (Yd.extract rfl rfl) rfl ?_
      refine WL.yd (Yd.extract rfl rfl) rfl ?_
      refine WL.nil (WP.thenC ?_)
      refine WC.condF rfl ?_
      refine WC.seq (WC.ofFr [(16, _), (3, _), (10, _), (11, _), (12, _)] ⟨rfl, rfl, rfl, rfl, rfl, trivial⟩ (WC.region ?_))
      refine WL.yd (Yd.assertNo Tryz.underlying3 (by intro _ h; cases h) Tryz.zeroValue3 rfl rfl) rfl ?_
      refine WL.yd (Yd.extract rfl rfl) rfl ?_
      refine WL.yd (Yd.extract rfl rfl) rfl ?_
      refine WL.nil (WP.thenC ?_)
      refine WC.condF rfl ?_
      refine WC.seq (WC.ofFr [(16, _), (3, _), (10, _), (11, _), (12, _)] ⟨rfl, rfl, rfl, rfl, rfl, trivial⟩ (WC.region ?_))
      refine WL.yd (Yd.assertNo Tryz.underlying148 (by intro _ h; cases h) Tryz.zeroValue148 rfl rfl) rfl ?_
      refine WL.yd (Yd.extract rfl rfl) rfl ?_
      refine WL.yd (Yd.extract rfl rfl) rfl ?_
      refine WL.nil (WP.thenC ?_)
      refine WC.condF rfl ?_
      refine WC.seq (WC.ofFr [(16, _), (3, _), (10, _), (11, _), (12, _)] ⟨rfl, rfl, rfl, rfl, rfl, trivial⟩ (WC.region ?_))
      refine WL.yd (Yd.assert Tryz.underlying114 (by intro _ h; cases h) rfl) rfl ?_
      refine WL.yd (Yd.extract rfl rfl) rfl ?_
      refine WL.yd (Yd.extract rfl rfl) rfl ?_
      refine WL.nil (WP.thenC ?_)
      refine WC.condT rfl ?_
      refine WC.seq (WC.ofFr [(45, _), (3, _), (10, _), (11, _), (12, _)] ⟨rfl, rfl, rfl, rfl, rfl, trivial⟩ (WC.region ?_))
      refine WL.so (SO.alloc Tryz.zeroValue114 rfl) rfl ?_
      rintro _ _ _ ⟨b9, hb9, rfl, rfl, rfl⟩
      refine WL.so (SO.store 0 rfl Tryz.sizeOf114 rfl rfl rfl rfl (zqb rfl) (oneB_spec rfl)) rfl ?_
      rintro _ _ _ ⟨rfl, rfl, rfl⟩
      refine WL.nil (WP.thenC (WC.seq (WC.ofFr [(9, _), (3, _), (10, _), (11, _), (12, _)] ⟨rfl, rfl, rfl, rfl, rfl, trivial⟩ (WC.region ?_))))
      refine zym rfl rfl ?_
      refine WL.yd (Yd.fieldAddr FA114_0 rfl) rfl ?_
      refine WL.yd (Yd.load1 Tryz.isAgg3 rfl (by first | exact ro0 rfl rfl | exact (hS.at k (by omega)).rd 0 rfl)) rfl ?_
      refine WL.yd (Yd.iface Tryz.underlying3 (by intro _ h; cases h) rfl) rfl ?_
      refine WL.so (SO.buildSlice Tryz.underlying208 Tryz.sizeOf20 Tryz.zeroValue20 rfl rfl rfl rfl (cs := [_]) rfl) rfl ?_
      rintro _ _ _ ⟨b50, hb50, rfl, rfl, rfl⟩
      refine WL.so (SO.callP Tryz.call89 rfl (fun w hI => join0_g [Part.i x.lo] _ _ _ _ (hL.ext ((DExt.refl _ D).add (hI.apart _ _ (List.mem_of_getElem? (i := 0) rfl)) hb50)) (SlL.ofBlock (l := [Part.i x.lo]) (f := partC) (m := 1) (rest := []) (fun _ => rfl) (Imm.add_self _ _ _)) (by simp [partOk]; simp_all [partOk, i64B]) (by simp [partS]) (by simp) _ (hI.freezeK 0 rfl).2.imm)) rfl ?_
      rintro _ _ _ ⟨rfl, rfl, rfl⟩
      refine WL.yd (Yd.addS rfl rfl (by (try simp only [List.length_append, List.length_cons, List.length_nil]); omega)) rfl ?_
      refine zya rfl rfl ?_
      refine WL.nil (WP.thenC (WC.seq (WC.ofFr [(3, _), (9, _), (10, _), (11, _), (12, _)] ⟨rfl, rfl, rfl, rfl, rfl, trivial⟩ (WC.region ?_))))
      refine WL.yd (Yd.fieldAddr FA114_0 rfl) rfl ?_
      refine WL.yd (Yd.load1 Tryz.isAgg3 rfl (by first | exact ro0 rfl rfl | exact ro1 rfl rfl | exact (hS.at k (by omega)).rd 0 rfl)) rfl ?_
      refine WL.yd (Yd.fieldAddr FA114_1 rfl) rfl ?_
      refine WL.yd (Yd.load1 Tryz.isAgg3 rfl (by first | exact ro0 rfl rfl | exact ro1 rfl rfl | exact (hS.at k (by omega)).rd 0 rfl)) rfl ?_
      refine WL.yd (Yd.neq rfl rfl) rfl ?_
      refine WL.nil (WP.thenC ?_)
      refine WC.cond rfl (fun c57 => ?_) (fun c57 => ?_)
      · try simp only [zq1, zq2, zq3, zq4, zq5, zq6, zq7, zq8] at c57
        refine WC.ofFr [(3, _), (9, _), (10, _), (11, _), (12, _)] ⟨rfl, rfl, rfl, rfl, rfl, trivial⟩ (WC.region ?_)
        refine zym rfl rfl ?_
        refine WL.yd (Yd.iface Tryz.underlying9 (by intro _ h; cases h) rfl) rfl ?_
        refine WL.yd (Yd.fieldAddr FA114_1 rfl) rfl ?_
        refine WL.yd (Yd.load1 Tryz.isAgg3 rfl (by first | exact ro0 rfl rfl | exact ro1 rfl rfl | exact (hS.at k (by omega)).rd 0 rfl)) rfl ?_
        refine WL.yd (Yd.iface Tryz.underlying3 (by intro _ h; cases h) rfl) rfl ?_
        refine WL.so (SO.buildSlice Tryz.underlying208 Tryz.sizeOf20 Tryz.zeroValue20 rfl rfl rfl rfl (cs := [_, _]) rfl) rfl ?_
        rintro _ _ _ ⟨b63, hb63, rfl, rfl, rfl⟩
        refine WL.so (SO.callP Tryz.call89 rfl (fun w hI => join0_g [Part.s [46, 46], Part.i x.hi] _ _ _ _ (hL.ext ((DExt.refl _ D).add (hI.apart _ _ (List.mem_of_getElem? (i := 0) rfl)) hb63)) (SlL.ofBlock (l := [Part.s [46, 46], Part.i x.hi]) (f := partC) (m := 1) (rest := []) (fun _ => rfl) (Imm.add_self _ _ _)) (by simp [partOk]; simp_all [partOk, i64B]) (by simp [partS]) (by simp) _ (hI.freezeK 0 rfl).2.imm)) rfl ?_
        rintro _ _ _ ⟨rfl, rfl, rfl⟩
        refine WL.yd (Yd.addS rfl rfl (by (try simp only [List.length_append, List.length_cons, List.length_nil]); omega)) rfl ?_
        refine zya rfl rfl ?_
        refine WL.nil (WP.blkNormal (WP.blkNormal (WP.thenC (WC.ofFr [(3, _), (10, _), (11, _), (12, _)] ⟨rfl, rfl, rfl, rfl, trivial⟩ (WC.region ?_)))))
        refine WL.yd (Yd.add rfl rfl (wr64 ⟨by omega, by omega⟩)) rfl ?_
        refine zym rfl rfl ?_
        refine WL.nil ?_
        exact WP.againF (k + 1) hkl (by omega) ⟨by show some (st _) = some (st _); rw [joinT_succ hg hkl]; simp_all [partT, two, spanT, joinT], rfl, rfl, rfl, trivial⟩ (fun _ h => nomatch h) (fun _ => List.nodup_nil)
      · try simp only [zq1, zq2, zq3, zq4, zq5, zq6, zq7, zq8] at c57
        refine WC.skip (WP.blkNormal (WP.blkNormal (WP.thenC (WC.ofFr [(3, _), (10, _), (11, _), (12, _)] ⟨rfl, rfl, rfl, rfl, trivial⟩ (WC.region ?_)))))
        refine WL.yd (Yd.add rfl rfl (wr64 ⟨by omega, by omega⟩)) rfl ?_
        refine zym rfl rfl ?_
        refine WL.nil ?_
        exact WP.againF (k + 1) hkl (by omega) ⟨by show some (st _) = some (st _); rw [joinT_succ hg hkl]; simp_all [partT, two, spanT, joinT], rfl, rfl, rfl, trivial⟩ (fun _ h => nomatch h) (fun _ => List.nodup_nil)
  · try simp only [zq1, zq2, zq3, zq4, zq5, zq6, zq7, zq8] at c13
    obtain rfl : k = ps.length := by omega
    refine WC.exit ?_
    refine WP.thenExit ?_
    refine WP.thenExit ?_
    refine WP.blkHit ?_
    refine WP.thenC (WC.seq (WC.ofFr [(3, _)] ⟨rfl, trivial⟩ (WC.region ?_)))
    refine zym rfl rfl ?_
    refine zya rfl rfl ?_
    refine WL.nil (WP.thenC (WC.ret ?_))
    refine WP.ret1 rfl rfl Tryz.results89 (RV.tmp rfl) (fun w hI => ⟨by rw [List.take_length], hI.keep⟩)

end Go.Proofs.YtaebnllfmkcpgaaGreatDoor
namespace Go.Proofs.YtaebnllfmkcpgaaGreatDoor
open Go.W Go.Bk
theorem SA114 : StructAt Tryz.prog 114 [.int .i64 0, .int .i64 0] [(0, 1), (1, 1)] := ⟨⟨_, Tryz.zeroValue114, rfl⟩, _, Tryz.underlying114, fun w => by simp [Tryz.sizeOf3]⟩
def endO (o : Option Value) : Ending := match o with | some v => .returned v | none => .panicked (stopB 8)
theorem endO_some {o : Option Value} {v : Value} (h : o = some v) : Ending.returned v = endO o := by subst h; rfl
theorem endO_none {o : Option Value} (h : o = none) : Ending.panicked (stopB 8) = endO o := by subst h; rfl
/-- the callee gives a value, or refuses -/
def Try1 (f : FuncId) (vals : List Value) (w : World) (o : Option Value) : Prop := Calls Tryz.prog f vals.toArray w fun e w' => e = endO o ∧ Keep [] w w'
theorem Try1.ok {f : FuncId} {vals : List Value} {w : World} {o : Option Value} {v : Value} (h : Try1 f vals w o) (e : o = some v) : Gives Tryz.prog f vals w v := by subst e; exact h
theorem Try1.no {f : FuncId} {vals : List Value} {w : World} {o : Option Value} (h : Try1 f vals w o) (e : o = none) : Fails Tryz.prog f vals w (stopB 8) := by subst e; exact h
theorem Try1.of {f : FuncId} {vals : List Value} {w : World} {α : Type} {o : Option α} {φ : α → Value} (h1 : ∀ x, o = some x → Gives Tryz.prog f vals w (φ x)) (h2 : o = none → Fails Tryz.prog f vals w (stopB 8)) : Try1 f vals w (o.map φ) := by
  cases o with
  | none => exact h2 rfl
  | some x => exact h1 x rfl
/-- .. or makes new data -/
def Try2 {α : Type} (f : FuncId) (vals : List Value) (w : World) (D : Imm) (o : Option α) (φ : α → Value → Imm → Prop) : Prop := Calls Tryz.prog f vals.toArray w fun e w' =>
  (∃ x v D', o = some x ∧ e = .returned v ∧ Keep [] w w' ∧ Holds D' w' ∧ DExt w D D' ∧ φ x v D') ∨ (o = none ∧ e = .panicked (stopB 8) ∧ Keep [] w w')
theorem Try2.ok {α : Type} {f : FuncId} {vals : List Value} {w : World} {D : Imm} {o : Option α} {φ : α → Value → Imm → Prop} {x : α} (h : Try2 f vals w D o φ) (e : o = some x) : Makes Tryz.prog f vals w D (φ x) := by
  refine h.mono ?_
  rintro e' w' (⟨y, v, D', h1, h2⟩ | ⟨h1, _⟩)
  · rw [e] at h1; cases h1; exact ⟨v, D', h2⟩
  · rw [e] at h1; cases h1
theorem Try2.no {α : Type} {f : FuncId} {vals : List Value} {w : World} {D : Imm} {o : Option α} {φ : α → Value → Imm → Prop} (h : Try2 f vals w D o φ) (e : o = none) : Fails Tryz.prog f vals w (stopB 8) := by
  refine h.mono ?_
  rintro e' w' (⟨y, v, D', h1, h2⟩ | ⟨_, h2⟩)
  · rw [e] at h1; cases h1
  · exact h2
theorem trimL_len (s cs : Bs) : (Lib.trimLeftS s cs).length ≤ s.length := by
  unfold Lib.trimLeftS
  exact (List.dropWhile_sublist _).length_le
theorem cut_len (s sep : Bs) : (Lib.cut s sep).1.length ≤ s.length ∧ (Lib.cut s sep).2.1.length ≤ s.length := by
  unfold Lib.cut
  split <;> simp <;> omega
theorem trimP_len (s p : Bs) : (Lib.trimPrefix s p).length ≤ s.length := Lib.trimPrefix_le s p
theorem trimS_len (s p : Bs) : (Lib.trimSuffix s p).length ≤ s.length := Lib.trimSuffix_le s p

theorem number_ok (s : Bs) (hs : s.length ≤ 2 ^ 20) (v : Int) (h : numP s = some v) (w : World) : Gives Tryz.prog 95 [st s] w (it v) := by
  unfold Gives
  have ha : Lib.atoiAll (Lib.trimLeftS s [32]) = .ok v := by
    unfold numP at h
    split at h
    · cases h; assumption
    · cases h
  refine enter Tryz.func95 rfl 15 Tryz.ntmps95 (zqb rfl) (Inv.start (D := fun _ => none) (by intro _ _ h; cases h)) ?_
  refine WC.seq (WC.ofFr [(0, _)] ⟨rfl, trivial⟩ (WC.region ?_))
  refine zya rfl rfl ?_
  refine WL.nil (WP.thenC (WC.seq (WC.ofFr [(2, _), (0, _)] ⟨rfl, rfl, trivial⟩ (WC.region ?_))))
  refine zym rfl rfl ?_
  refine WL.so (SO.callP Tryz.call145 rfl (fun w hI => trimL_g s _)) rfl ?_
  rintro _ _ _ ⟨rfl, rfl, rfl⟩
  refine WL.so (SO.callP Tryz.call144 rfl (fun w hI => atoi_ok _ (by have := trimL_len s [32]; omega) v ha _)) rfl ?_
  rintro _ _ _ ⟨rfl, rfl, rfl⟩
  refine zym rfl rfl ?_
  refine WL.yd (Yd.extract rfl rfl) rfl ?_
  refine WL.yd (Yd.extract rfl rfl) rfl ?_
  refine zya rfl rfl ?_
  refine zya rfl rfl ?_
  refine WL.nil (WP.thenC (WC.seq (WC.ofFr [(4, _), (3, _), (2, _)] ⟨rfl, rfl, rfl, trivial⟩ (WC.region ?_))))
  refine zym rfl rfl ?_
  refine WL.yd (Yd.eqlNilNil Tryz.underlying210 rfl) rfl ?_
  refine WL.so (SO.call (Enters.func Tryz.call61 rfl) (fun w hI => must_ok _ _)) rfl ?_
  rintro _ _ _ ⟨rfl, rfl, rfl⟩
  refine WL.nil (WP.thenC (WC.seq (WC.ofFr [(3, _), (2, _)] ⟨rfl, rfl, trivial⟩ (WC.region ?_))))
  refine zym rfl rfl ?_
  refine zya rfl rfl ?_
  refine WL.nil (WP.thenC (WC.ret ?_))
  refine WP.ret1 rfl rfl Tryz.results95 (RV.tmp rfl) (fun w hI => ⟨rfl, hI.keep⟩)

theorem number_no (s : Bs) (hs : s.length ≤ 2 ^ 20) (h : numP s = none) (D : Imm) (hL : LibD D) (w : World) (hH : Holds D w) : Fails Tryz.prog 95 [st s] w (stopB 8) := by
  unfold Fails
  have ha : ∀ v, Lib.atoiAll (Lib.trimLeftS s [32]) ≠ .ok v := fun v e => by
    unfold numP at h
    rw [e] at h
    cases h
  refine enter Tryz.func95 rfl 15 Tryz.ntmps95 (zqb rfl) (Inv.start hH) ?_
  refine WC.seq (WC.ofFr [(0, _)] ⟨rfl, trivial⟩ (WC.region ?_))
  refine zya rfl rfl ?_
  refine WL.nil (WP.thenC (WC.seq (WC.ofFr [(2, _), (0, _)] ⟨rfl, rfl, trivial⟩ (WC.region ?_))))
  refine zym rfl rfl ?_
  refine WL.so (SO.callP Tryz.call145 rfl (fun w hI => trimL_g s _)) rfl ?_
  rintro _ _ _ ⟨rfl, rfl, rfl⟩
  refine WL.so (SO.news (Enters.func Tryz.call144 rfl) (fun w hI => atoi_no _ (by have := trimL_len s [32]; omega) ha D hL w hI.imm)) rfl ?_
  rintro _ D1 _ ⟨_, hX1, ⟨rfl, z, tt, p, rfl⟩, rfl⟩
  refine zym rfl rfl ?_
  refine WL.yd (Yd.extract rfl rfl) rfl ?_
  refine WL.yd (Yd.extract rfl rfl) rfl ?_
  refine zya rfl rfl ?_
  refine zya rfl rfl ?_
  refine WL.nil (WP.thenC (WC.seq (WC.ofFr [(4, _), (3, _), (2, _)] ⟨rfl, rfl, rfl, trivial⟩ (WC.region ?_))))
  refine zym rfl rfl ?_
  refine WL.yd (Yd.eqlNil Tryz.underlying210 rfl) rfl ?_
  refine WL.no (SO.fail (Enters.func Tryz.call61 rfl) (fun w hI => must_no _ _) ?_)
  refine WP.thenPanic ?_
  refine WP.panicBody rfl (fun w hI => ⟨rfl, hI.keep⟩)

theorem number_g (s : Bs) (hs : s.length ≤ 2 ^ 20) (D : Imm) (hL : LibD D) (w : World) (hH : Holds D w) : Try1 95 [st s] w ((numP s).map it) :=
  Try1.of (fun x h => number_ok s hs x h w) (fun h => number_no s hs h D hL w hH)

theorem pair_g (s b : Bs) (hs : s.length ≤ 2 ^ 20) (D : Imm) (hL : LibD D) (w : World) (hH : Holds D w) : Try1 92 [st s, st b] w ((pairP s b).map fun p => .tuple #[it p.1, it p.2]) := by
  unfold Try1
  have hc := cut_len s b
  refine enter Tryz.func92 rfl 22 Tryz.ntmps92 (zqb rfl) (Inv.start hH) ?_
  refine WC.seq (WC.ofFr [(0, _), (1, _)] ⟨rfl, rfl, trivial⟩ (WC.region ?_))
  refine zya rfl rfl ?_
  refine zya rfl rfl ?_
  refine WL.nil (WP.thenC (WC.seq (WC.ofFr [(5, _), (4, _), (0, _), (1, _)] ⟨rfl, rfl, rfl, rfl, trivial⟩ (WC.region ?_))))
  refine zym rfl rfl ?_
  refine zym rfl rfl ?_
  refine WL.so (SO.callP Tryz.call102 rfl (fun w hI => cut_g s b hs D hL _ hI.imm)) rfl ?_
  rintro _ _ _ ⟨rfl, rfl, rfl⟩
  refine zym rfl rfl ?_
  refine WL.yd (Yd.extract rfl rfl) rfl ?_
  refine WL.yd (Yd.extract rfl rfl) rfl ?_
  refine WL.yd (Yd.extract rfl rfl) rfl ?_
  refine zya rfl rfl ?_
  refine zya rfl rfl ?_
  refine zya rfl rfl ?_
  refine WL.nil (WP.thenC (WC.seq (WC.ofFr [(8, _), (7, _), (6, _), (5, _), (4, _)] ⟨rfl, rfl, rfl, rfl, rfl, trivial⟩ (WC.region ?_))))
  refine zym rfl rfl ?_
  refine WL.part 16 rfl (fun g16 => ?_) (fun g16 => ?_)
  · try simp only [zq1, zq2, zq3, zq4, zq5, zq6, zq7, zq8] at g16
    refine WL.so (SO.call (Enters.func Tryz.call61 rfl) (fun w hI => must_ok _ _)) rfl ?_
    rintro _ _ _ ⟨rfl, rfl, rfl⟩
    refine WL.nil (WP.thenC (WC.seq (WC.ofFr [(7, _), (6, _), (5, _), (4, _)] ⟨rfl, rfl, rfl, rfl, trivial⟩ (WC.region ?_))))
    refine zym rfl rfl ?_
    rcases h19 : numP (Lib.cut s b).1 with _ | x
    · refine WL.no (SO.fail (Enters.func Tryz.call95 rfl) (fun w hI => (number_g _ (by omega) D hL _ hI.imm).no (by rw [h19]; rfl)) ?_)
      refine WP.thenPanic ?_
      refine WP.panicBody rfl (fun w hI => ⟨endO_none (by simp_all [pairP]), hI.keep⟩)
    · skip
      refine WL.so (SO.callP Tryz.call95 rfl (fun w hI => (number_g _ (by omega) D hL _ hI.imm).ok (by rw [h19]; rfl))) rfl ?_
      rintro _ _ _ ⟨rfl, rfl, rfl⟩
      refine zym rfl rfl ?_
      rcases h21 : numP (Lib.cut s b).2.1 with _ | y
      · refine WL.no (SO.fail (Enters.func Tryz.call95 rfl) (fun w hI => (number_g _ (by omega) D hL _ hI.imm).no (by rw [h21]; rfl)) ?_)
        refine WP.thenPanic ?_
        refine WP.panicBody rfl (fun w hI => ⟨endO_none (by simp_all [pairP]), hI.keep⟩)
      · skip
        refine WL.so (SO.callP Tryz.call95 rfl (fun w hI => (number_g _ (by omega) D hL _ hI.imm).ok (by rw [h21]; rfl))) rfl ?_
        rintro _ _ _ ⟨rfl, rfl, rfl⟩
        refine zya rfl rfl ?_
        refine zya rfl rfl ?_
        refine WL.nil (WP.thenC (WC.ret ?_))
        refine WP.ret2 rfl rfl Tryz.results92 (RV.tmp rfl) (RV.tmp rfl) (fun w hI => ⟨endO_some (by simp_all [pairP]), hI.keep⟩)
  · try simp only [zq1, zq2, zq3, zq4, zq5, zq6, zq7, zq8] at g16
    refine WL.no (SO.fail (Enters.func Tryz.call61 rfl) (fun w hI => must_no _ _) ?_)
    refine WP.thenPanic ?_
    refine WP.panicBody rfl (fun w hI => ⟨endO_none (by simp_all [pairP]), hI.keep⟩)

theorem span_g (s : Bs) (hs : s.length ≤ 2 ^ 20) (D : Imm) (hL : LibD D) (w : World) (hH : Holds D w) : Try1 107 [st s] w ((spanP s).map fun x => .agg #[it x.lo, it x.hi]) := by
  unfold Try1
  have hc := cut_len s [46, 46]
  refine enter Tryz.func107 rfl 20 Tryz.ntmps107 (zqb rfl) (Inv.start hH) ?_
  refine WC.seq (WC.ofFr [(0, _)] ⟨rfl, trivial⟩ (WC.region ?_))
  refine WL.so (SO.alloc Tryz.zeroValue114 rfl) rfl ?_
  rintro _ _ _ ⟨b2, hb2, rfl, rfl, rfl⟩
  refine WL.nil (WP.thenC (WC.seq (WC.ofFr [(2, _), (0, _)] ⟨rfl, rfl, trivial⟩ (WC.region ?_))))
  refine zym rfl rfl ?_
  refine WL.so (SO.callP Tryz.call102 rfl (fun w hI => cut_g s [46, 46] hs D hL _ hI.imm)) rfl ?_
  rintro _ _ _ ⟨rfl, rfl, rfl⟩
  refine zym rfl rfl ?_
  refine WL.yd (Yd.extract rfl rfl) rfl ?_
  refine WL.yd (Yd.extract rfl rfl) rfl ?_
  refine WL.yd (Yd.extract rfl rfl) rfl ?_
  refine zya rfl rfl ?_
  refine zya rfl rfl ?_
  refine zya rfl rfl ?_
  refine WL.nil (WP.thenC (WC.seq (WC.seq (WC.ofFr [(5, _), (4, _), (3, _), (2, _)] ⟨rfl, rfl, rfl, rfl, trivial⟩ (WC.region ?_)))))
  refine zym rfl rfl ?_
  refine WL.yd (Yd.not rfl) rfl ?_
  refine WL.nil (WP.thenC ?_)
  refine WC.cond rfl (fun c13 => ?_) (fun c13 => ?_)
  · try simp only [zq1, zq2, zq3, zq4, zq5, zq6, zq7, zq8] at c13
    refine WC.ofFr [(4, _), (3, _), (2, _)] ⟨rfl, rfl, rfl, trivial⟩ (WC.region ?_)
    refine zym rfl rfl ?_
    refine zya rfl rfl ?_
    refine WL.nil (WP.thenC (WC.seq (WC.ofFr [(4, _), (3, _), (2, _)] ⟨rfl, rfl, rfl, trivial⟩ (WC.region ?_))))
    refine zym rfl rfl ?_
    rcases h16 : numP (Lib.cut s [46, 46]).1 with _ | x
    · refine WL.no (SO.fail (Enters.func Tryz.call95 rfl) (fun w hI => (number_g _ (by omega) D hL _ hI.imm).no (by rw [h16]; rfl)) ?_)
      refine WP.thenPanic ?_
      refine WP.panicBody rfl (fun w hI => ⟨endO_none (by simp_all [spanP]), hI.keep⟩)
    · skip
      refine WL.so (SO.callP Tryz.call95 rfl (fun w hI => (number_g _ (by omega) D hL _ hI.imm).ok (by rw [h16]; rfl))) rfl ?_
      rintro _ _ _ ⟨rfl, rfl, rfl⟩
      refine zym rfl rfl ?_
      rcases h18 : numP (Lib.cut s [46, 46]).1 with _ | y
      · refine WL.no (SO.fail (Enters.func Tryz.call95 rfl) (fun w hI => (number_g _ (by omega) D hL _ hI.imm).no (by rw [h18]; rfl)) ?_)
        refine WP.thenPanic ?_
        refine WP.panicBody rfl (fun w hI => ⟨endO_none (by simp_all [spanP]), hI.keep⟩)
      · skip
        refine WL.so (SO.callP Tryz.call95 rfl (fun w hI => (number_g _ (by omega) D hL _ hI.imm).ok (by rw [h18]; rfl))) rfl ?_
        rintro _ _ _ ⟨rfl, rfl, rfl⟩
        refine WL.yd (Yd.build SA114 rfl (cs := [_, _]) rfl) rfl ?_
        refine WL.so (SO.store 0 rfl Tryz.sizeOf114 rfl rfl rfl rfl (zqb rfl) (oneB_spec rfl)) rfl ?_
        rintro _ _ _ ⟨rfl, rfl, rfl⟩
        refine WL.nil (WP.thenC (WC.ret ?_))
        refine WP.ret1 rfl rfl Tryz.results107 (RV.cellN Tryz.isAgg114 Tryz.sizeOf114 rfl (vs := [_, _]) rfl (by first | exact rn0 (n := 2) rfl rfl)) (fun w hI => ⟨endO_some ((congrArg (Option.map _) (show spanP s = some ⟨x, y⟩ by simp_all [spanP])).trans rfl), hI.keep⟩)
  · try simp only [zq1, zq2, zq3, zq4, zq5, zq6, zq7, zq8] at c13
    refine WC.skip (WP.thenC (WC.seq (WC.ofFr [(4, _), (3, _), (2, _)] ⟨rfl, rfl, rfl, trivial⟩ (WC.region ?_))))
    refine zym rfl rfl ?_
    rcases h16 : numP (Lib.cut s [46, 46]).1 with _ | x
    · refine WL.no (SO.fail (Enters.func Tryz.call95 rfl) (fun w hI => (number_g _ (by omega) D hL _ hI.imm).no (by rw [h16]; rfl)) ?_)
      refine WP.thenPanic ?_
      refine WP.panicBody rfl (fun w hI => ⟨endO_none (by simp_all [spanP]), hI.keep⟩)
    · skip
      refine WL.so (SO.callP Tryz.call95 rfl (fun w hI => (number_g _ (by omega) D hL _ hI.imm).ok (by rw [h16]; rfl))) rfl ?_
      rintro _ _ _ ⟨rfl, rfl, rfl⟩
      refine zym rfl rfl ?_
      rcases h18 : numP (Lib.cut s [46, 46]).2.1 with _ | y
      · refine WL.no (SO.fail (Enters.func Tryz.call95 rfl) (fun w hI => (number_g _ (by omega) D hL _ hI.imm).no (by rw [h18]; rfl)) ?_)
        refine WP.thenPanic ?_
        refine WP.panicBody rfl (fun w hI => ⟨endO_none (by simp_all [spanP]), hI.keep⟩)
      · skip
        refine WL.so (SO.callP Tryz.call95 rfl (fun w hI => (number_g _ (by omega) D hL _ hI.imm).ok (by rw [h18]; rfl))) rfl ?_
        rintro _ _ _ ⟨rfl, rfl, rfl⟩
        refine WL.yd (Yd.build SA114 rfl (cs := [_, _]) rfl) rfl ?_
        refine WL.so (SO.store 0 rfl Tryz.sizeOf114 rfl rfl rfl rfl (zqb rfl) (oneB_spec rfl)) rfl ?_
        rintro _ _ _ ⟨rfl, rfl, rfl⟩
        refine WL.nil (WP.thenC (WC.ret ?_))
        refine WP.ret1 rfl rfl Tryz.results107 (RV.cellN Tryz.isAgg114 Tryz.sizeOf114 rfl (vs := [_, _]) rfl (by first | exact rn0 (n := 2) rfl rfl)) (fun w hI => ⟨endO_some ((congrArg (Option.map _) (show spanP s = some ⟨x, y⟩ by simp_all [spanP])).trans rfl), hI.keep⟩)

end Go.Proofs.YtaebnllfmkcpgaaGreatDoor
namespace Go.Proofs.YtaebnllfmkcpgaaGreatDoor
open Go.W Go.Bk
theorem FA168_0 : FieldAt Tryz.prog 168 0 0 := FieldAt.mk (t := 166) (off := 0) Tryz.underlying168 rfl Tryz.sizeOf166 (by decide)
theorem FA174_0 : FieldAt Tryz.prog 174 0 0 := FieldAt.mk (t := 172) (off := 0) Tryz.underlying174 rfl Tryz.sizeOf172 (by decide)
theorem FA181_0 : FieldAt Tryz.prog 181 0 0 := FieldAt.mk (t := 179) (off := 0) Tryz.underlying181 rfl Tryz.sizeOf179 (by decide)
theorem idx_no : ∀ {s : Bs} {c : UInt8}, Lib.indexByte s c = -1 → s.takeWhile (· != c) = s ∧ s.dropWhile (· != c) = [] ∧ c ∉ s
  | [], c, _ => by simp
  | b :: l, c, h => by
    unfold Lib.indexByte at h
    split at h
    · cases h
    · rename_i hb
      have h1 : Lib.indexByte l c = -1 := by
        have := Lib.indexByte_ge l c
        split at h
        · rename_i h2; simpa using h2
        · omega
      obtain ⟨i1, i2, i3⟩ := idx_no h1
      have hb' : (b != c) = true := by simpa using hb
      rw [List.takeWhile_cons, List.dropWhile_cons, if_pos hb', if_pos hb', i1, i2]
      exact ⟨rfl, rfl, by rw [List.mem_cons, not_or]; exact ⟨fun e => hb (by simp [e]), i3⟩⟩
theorem idx_at : ∀ {s : Bs} {c : UInt8} {j : Nat}, Lib.indexByte s c = (j : Int) → j < s.length ∧ s.takeWhile (· != c) = s.take j ∧ s.dropWhile (· != c) = s.drop j ∧ s = s.take j ++ c :: s.drop (j + 1)
  | [], c, j, h => by simp [Lib.indexByte] at h
  | b :: l, c, j, h => by
    unfold Lib.indexByte at h
    split at h
    · rename_i hb
      obtain rfl : j = 0 := by omega
      have hb' : (b != c) = false := by simpa using hb
      have : b = c := by simpa using hb
      rw [List.takeWhile_cons, List.dropWhile_cons, hb']
      simp [this]
    · rename_i hb
      have hge := Lib.indexByte_ge l c
      split at h
      · omega
      · rename_i h2
        obtain ⟨k, rfl⟩ : ∃ k, j = k + 1 := ⟨j - 1, by simp at h2; omega⟩
        obtain ⟨i1, i2, i3, i4⟩ := idx_at (s := l) (c := c) (j := k) (by omega)
        have hb' : (b != c) = true := by simpa using hb
        rw [List.takeWhile_cons, List.dropWhile_cons, if_pos hb', if_pos hb', i2, i3]
        refine ⟨by simp; omega, rfl, rfl, ?_⟩
        simp only [List.take_succ_cons, List.drop_succ_cons, List.cons_append]
        rw [← i4]
def spC (s : Sp) : List Value := [it s.lo, it s.hi]
theorem spC_len : ∀ s, (spC s).length = 2 := fun _ => rfl
theorem colsP_fuel : ∀ (n : Nat) (r : Bs), r.length < n → ∀ m, r.length < m → colsP n r = colsP m r
  | n + 1, r, h, m + 1, h' => by
    rw [colsP, colsP]
    by_cases e : r = []
    · rw [if_pos e, if_pos e]
    · have hl : 0 < r.length := List.length_pos_iff.2 e
      rw [if_neg e, if_neg e, colsP_fuel n (r.drop 6) (by simp; omega) m (by simp; omega)]
theorem colsP_nil (n : Nat) : colsP n [] = some [] := by cases n <;> simp [colsP]
theorem colsP_step {r : Bs} (e : r ≠ []) {a b : Int} (h : pairP (r.take 6) [45] = some (a, b)) : colsP (r.length + 1) r = (colsP ((r.drop 6).length + 1) (r.drop 6)).map (⟨a, b⟩ :: ·) := by
  have hl : 0 < r.length := List.length_pos_iff.2 e
  rw [colsP, if_neg e, h]
  simp only
  rw [colsP_fuel r.length (r.drop 6) (by simp; omega) ((r.drop 6).length + 1) (by omega)]
theorem colsP_no {r : Bs} (e : r ≠ []) (h : pairP (r.take 6) [45] = none) : colsP (r.length + 1) r = none := by
  rw [colsP, if_neg e, h]
theorem trimP_drop {s w : Bs} (h : Lib.hasPrefix s w = true) : Lib.trimPrefix s w = s.drop w.length := by unfold Lib.trimPrefix; rw [if_pos h]
theorem columnsP_start {s w : Bs} (h : Lib.hasPrefix s w = true) (h6 : (Lib.trimPrefix s w).length % 6 = 0) : columnsP s w = (colsP ((Lib.trimPrefix s w).length + 1) (Lib.trimPrefix s w)).map ([] ++ ·) := by
  rw [trimP_drop h] at h6 ⊢
  unfold columnsP
  rw [if_pos ⟨h, by simpa using h6⟩, colsP_fuel (s.length + 1) _ (by simp; omega) ((s.drop w.length).length + 1) (by omega)]
  simp
theorem columnsP_bad {s w : Bs} (h : Lib.hasPrefix s w = true → ¬ (Lib.trimPrefix s w).length % 6 = 0) : columnsP s w = none := by
  unfold columnsP
  rw [if_neg]
  rintro ⟨e1, e2⟩
  have := h e1
  rw [trimP_drop e1] at this
  simp at this
  exact this e2
theorem takenP_fuel {α : Type} (take : Bs → Option α) : ∀ (n : Nat) (r : Bs), r.length < n → ∀ m, r.length < m → takenP take n r = takenP take m r
  | n + 1, [], _, m + 1, _ => rfl
  | n + 1, c :: r, h, m + 1, h' => by
    simp only [List.length_cons] at h h'
    have hl : (r.dropWhile (· != 32)).length ≤ r.length := (List.dropWhile_sublist _).length_le
    rw [takenP, takenP, takenP_fuel take n _ (by omega) m (by omega)]
theorem takenP_step {α : Type} {take : Bs → Option α} {r : Bs} {x : α} (h : take (r.takeWhile (· != 32)) = some x) : takenP take ((32 :: r).length + 1) (32 :: r) = (takenP take ((r.dropWhile (· != 32)).length + 1) (r.dropWhile (· != 32))).map (x :: ·) := by
  have hl : (r.dropWhile (· != 32)).length ≤ r.length := (List.dropWhile_sublist _).length_le
  rw [takenP, if_pos rfl, h]
  simp only
  rw [takenP_fuel take _ _ (by simp; omega) ((r.dropWhile (· != 32)).length + 1) (by omega)]
theorem takenP_no {α : Type} {take : Bs → Option α} {r : Bs} (h : take (r.takeWhile (· != 32)) = none) (n : Nat) : takenP take (n + 1) (32 :: r) = none := by
  rw [takenP, if_pos rfl, h]
theorem takenP_bad {α : Type} {take : Bs → Option α} {r : Bs} (e : r ≠ []) (h : Lib.hasPrefix r [32] = false) (n : Nat) : takenP take (n + 1) r = none := by
  cases r with
  | nil => exact absurd rfl e
  | cons c r =>
    rw [takenP, if_neg]
    rintro rfl
    simp [Lib.hasPrefix] at h
theorem pre32 {r : Bs} (h : Lib.hasPrefix r [32] = true) : ∃ r', r = 32 :: r' := by
  cases r with
  | nil => simp [Lib.hasPrefix] at h
  | cons c r => simp [Lib.hasPrefix] at h; exact ⟨r, by rw [h]⟩
theorem trim32 (r : Bs) : Lib.trimPrefix (32 :: r) [32] = r := trimPrefix_app [32] r
theorem tw_len (r : Bs) : (r.takeWhile (· != 32)).length ≤ r.length ∧ (r.dropWhile (· != 32)).length ≤ r.length := ⟨(List.takeWhile_sublist _).length_le, (List.dropWhile_sublist _).length_le⟩

theorem upTo_g (s : Bs) (w : World) : Gives Tryz.prog 147 [st s] w (.tuple #[st (s.takeWhile (· != 32)), st (s.dropWhile (· != 32))]) := by
  unfold Gives
  refine enter Tryz.func147 rfl 16 Tryz.ntmps147 (zqb rfl) (Inv.start (D := fun _ => none) (by intro _ _ h; cases h)) ?_
  refine WC.seq (WC.ofFr [(0, _)] ⟨rfl, trivial⟩ (WC.region ?_))
  refine zya rfl rfl ?_
  refine zya rfl rfl ?_
  refine WL.nil (WP.thenC (WC.seq (WC.seq (WC.ofFr [(3, _), (2, _), (0, _)] ⟨rfl, rfl, rfl, trivial⟩ (WC.region ?_)))))
  refine zym rfl rfl ?_
  refine WL.so (SO.callP Tryz.call169 rfl (fun w hI => idx_g s 32 _)) rfl ?_
  rintro _ _ _ ⟨rfl, rfl, rfl⟩
  refine zya rfl rfl ?_
  refine WL.nil (WP.thenC (WC.seq (WC.ofFr [(4, _), (3, _), (2, _), (0, _)] ⟨rfl, rfl, rfl, rfl, trivial⟩ (WC.region ?_))))
  refine zym rfl rfl ?_
  refine WL.yd (Yd.geq rfl rfl) rfl ?_
  refine WL.nil (WP.thenC ?_)
  refine WC.cond rfl (fun c8 => ?_) (fun c8 => ?_)
  · try simp only [zq1, zq2, zq3, zq4, zq5, zq6, zq7, zq8] at c8
    refine WC.seq ?_
    obtain ⟨j, hj⟩ : ∃ j : Nat, Lib.indexByte s 32 = (j : Int) := ⟨(Lib.indexByte s 32).toNat, by omega⟩
    obtain ⟨hjs, ht, hd, _⟩ := idx_at hj
    refine WC.know 4 (nt j) rfl (by rw [hj]) ?_
    refine WC.ofFr [(4, _), (3, _), (2, _), (0, _)] ⟨rfl, rfl, rfl, rfl, trivial⟩ ?_
    refine WC.tail 7 [0, 1, 2, 3, 4, 5, 6] rfl (by kernel_rfl) (by kernel_rfl)  ?_
    refine WQ.q rfl (Yd.qt (Yd.move rfl)) rfl ?_
    refine WQ.q rfl (Yd.qt (Yd.move rfl)) rfl ?_
    refine WQ.q rfl (Yd.qt (Yd.sliceToS Tryz.underlying9 rfl rfl (by omega))) rfl ?_
    refine WQ.q rfl (Yd.qt (Yd.move rfl)) rfl ?_
    refine WQ.q rfl (Yd.qt (Yd.move rfl)) rfl ?_
    refine WQ.q rfl (Yd.qt (Yd.sliceFromS Tryz.underlying9 rfl rfl (by omega))) rfl ?_
    refine WQ.q rfl (Yd.qt (Yd.assign rfl)) rfl ?_
    refine WQ.tail ?_
    refine zya rfl rfl ?_
    refine WL.nil (WP.thenC (WC.ret (WP.thenRet ?_)))
    refine WP.ret2 rfl rfl Tryz.results147 (RV.tmp rfl) (RV.tmp rfl) (fun w hI => ⟨by rw [ht, hd], hI.keep⟩)
  · try simp only [zq1, zq2, zq3, zq4, zq5, zq6, zq7, zq8] at c8
    refine WC.skip (WP.thenC (WC.seq (WC.ofFr [(3, _), (2, _), (0, _)] ⟨rfl, rfl, rfl, trivial⟩ (WC.region ?_))))
    refine zym rfl rfl ?_
    refine zya rfl rfl ?_
    refine zya rfl rfl ?_
    refine WL.nil (WP.thenC (WC.ret ?_))
    refine WP.ret2 rfl rfl Tryz.results147 (RV.tmp rfl) (RV.tmp rfl) (fun w hI => ⟨by have hge := Lib.indexByte_ge s 32; obtain ⟨h1, h2, _⟩ := idx_no (s := s) (c := 32) (by omega); rw [h1, h2], hI.keep⟩)

theorem columns_g (s word : Bs) (hs : s.length ≤ 2 ^ 20) (D : Imm) (hL : LibD D) (w : World) (hH : Holds D w) : Try2 94 [st s, st word] w D (columnsP s word) (fun l v D' => ∃ a n c, v = .slice a n c ∧ SlL D' 2 (l.map spC) a n) := by
  unfold Try2
  refine enter Tryz.func94 rfl 40 Tryz.ntmps94 (zqb rfl) (Inv.start hH) ?_
  refine WC.seq (WC.ofFr [(0, _), (1, _)] ⟨rfl, rfl, trivial⟩ (WC.region ?_))
  refine zya rfl rfl ?_
  refine WL.nil (WP.thenC (WC.seq (WC.ofFr [(4, _), (0, _), (1, _)] ⟨rfl, rfl, rfl, trivial⟩ (WC.region ?_))))
  refine zym rfl rfl ?_
  refine zym rfl rfl ?_
  refine WL.so (SO.callP Tryz.call143 rfl (fun w hI => cutP_g s word _)) rfl ?_
  rintro _ _ _ ⟨rfl, rfl, rfl⟩
  refine zym rfl rfl ?_
  refine WL.yd (Yd.extract rfl rfl) rfl ?_
  refine WL.yd (Yd.extract rfl rfl) rfl ?_
  refine zya rfl rfl ?_
  refine zya rfl rfl ?_
  refine WL.nil (WP.thenC (WC.seq (WC.ofFr [(6, _), (5, _), (4, _)] ⟨rfl, rfl, rfl, trivial⟩ (WC.region ?_))))
  refine zym rfl rfl ?_
  refine zym rfl rfl ?_
  refine WL.part 16 rfl (fun g16 => ?_) (fun g16 => ?_)
  · try simp only [zq1, zq2, zq3, zq4, zq5, zq6, zq7, zq8] at g16
    refine WL.ydg rfl (Yd.move rfl) rfl ?_
    refine WL.ydg rfl (Yd.lenStr rfl Tryz.underlying9 rfl) rfl ?_
    refine WL.ydg rfl (Yd.rem rfl rfl (by (try dsimp only); omega) (by (try dsimp only); omega)) rfl ?_
    refine WL.ydg rfl (Yd.eql rfl rfl) rfl ?_
    refine WL.yd (Yd.pickT rfl rfl) rfl ?_
    refine WL.part 21 rfl (fun g21 => ?_) (fun g21 => ?_)
    · try simp only [zq1, zq2, zq3, zq4, zq5, zq6, zq7, zq8] at g21
      refine WL.so (SO.call (Enters.func Tryz.call61 rfl) (fun w hI => must_ok _ _)) rfl ?_
      rintro _ _ _ ⟨rfl, rfl, rfl⟩
      refine WL.nil (WP.thenC (WC.seq (WC.block ?_)))
      refine WC.loopT [] (fun y : List Sp × Bs × Option Ow => [(4, owV y.2.2 y.1.length), (5, st y.2.1)]) (fun y => owH y.2.2 114 (y.1.flatMap spC) []) (fun y => columnsP s word = (colsP (y.2.1.length + 1) y.2.1).map (y.1 ++ ·) ∧ y.2.1.length % 6 = 0 ∧ y.1.length + y.2.1.length ≤ 2 ^ 20 ∧ owP w y.2.2 y.1.length 2) (fun y => y.2.1.length) ([], Lib.trimPrefix s word, none) ⟨columnsP_start g16 (by omega), by dsimp only; omega, by have := trimP_len s word; simp; omega, rfl⟩ rfl ⟨rfl, rfl, trivial⟩ ?_
      rintro ⟨l0, r, o⟩ ⟨hc, h6, hl, ho⟩
      dsimp only at hc h6 hl ho
      refine WC.seq (WC.seq ?_)
      skip
      refine WC.ofFr [(4, _), (5, _)] ⟨rfl, rfl, trivial⟩ (WC.region ?_)
      refine zym rfl rfl ?_
      refine WL.yd (Yd.neS' rfl rfl) rfl ?_
      refine WL.nil (WP.thenC ?_)
      refine WC.cond rfl (fun c24 => ?_) (fun c24 => ?_)
      · try simp only [zq1, zq2, zq3, zq4, zq5, zq6, zq7, zq8] at c24
        have hrl : 0 < r.length := List.length_pos_iff.2 c24
        refine WC.skip (WP.thenC (WC.seq (WC.block (WC.seq (WC.ofFr [(4, _), (5, _)] ⟨rfl, rfl, trivial⟩ (WC.region ?_))))))
        refine zym rfl rfl ?_
        refine WL.yd (Yd.sliceToS (j := 6) Tryz.underlying9 rfl rfl (by (try dsimp only); omega)) rfl ?_
        rcases h30 : pairP (r.take 6) [45] with _ | ⟨x, y⟩
        · refine WL.no (SO.fail (Enters.func Tryz.call92 rfl) (fun w hI => (pair_g _ _ (by simp; omega) D hL _ hI.imm).no (by rw [h30]; rfl)) ?_)
          refine WP.thenPanic ?_
          refine WP.blkPanic ?_
          refine WP.thenPanic ?_
          refine WP.thenPanic ?_
          refine WP.blkPanic ?_
          refine WP.thenPanic ?_
          refine WP.panicBody rfl (fun w hI => .inr ⟨?_, rfl, hI.keep⟩)
          first
            | (rw [hc, colsP_no c24 h30]; rfl)
            | exact columnsP_bad (fun _ => by omega)
            | exact columnsP_bad (fun e => by rw [e] at g16; cases g16)
        · skip
          refine WL.so (SO.callP Tryz.call92 rfl (fun w hI => (pair_g _ _ (by simp; omega) D hL _ hI.imm).ok (by rw [h30]; rfl))) rfl ?_
          rintro _ _ _ ⟨rfl, rfl, rfl⟩
          refine zym rfl rfl ?_
          refine WL.yd (Yd.extract rfl rfl) rfl ?_
          refine WL.yd (Yd.extract rfl rfl) rfl ?_
          refine zya rfl rfl ?_
          refine zya rfl rfl ?_
          refine WL.nil (WP.thenC (WC.ofFr [(8, _), (7, _), (4, _), (5, _)] ⟨rfl, rfl, rfl, rfl, trivial⟩ (WC.region ?_)))
          refine zym rfl rfl ?_
          refine zym rfl rfl ?_
          refine zym rfl rfl ?_
          refine WL.yd (Yd.build SA114 rfl (cs := [_, _]) rfl) rfl ?_
          refine WL.so (SO.buildSlice Tryz.underlying22 Tryz.sizeOf114 Tryz.zeroValue114 rfl rfl rfl rfl (cs := [_, _]) rfl) rfl ?_
          rintro _ _ _ ⟨b37, hb37, rfl, rfl, rfl⟩
          refine WL.so (SO.appendOw (o := o) (len := l0.length) (n := 1) (xs := (l0.flatMap spC)) (size := 2) [_] [] [] rfl rfl Tryz.underlying22 Tryz.sizeOf114 Tryz.typeInfo114 Tryz.zeroValue114 rfl rfl rfl rfl ⟨rfl, .inr ⟨_, _, _, rfl, RdN.own (k := 0) (n := 2) rfl rfl⟩⟩ (oneB_spec rfl) ho (flat_len spC_len _) (by omega) (by show (2 * (_ + _) + 1000) * 16 ≤ 2 ^ 48; omega) (by omega)) rfl ?_
          rintro _ _ _ ⟨u1, hu1, rfl, rfl, rfl⟩
          refine zya rfl rfl ?_
          refine WL.nil (WP.blkNormal (WP.thenC (WC.ofFr [(4, _), (5, _)] ⟨rfl, rfl, trivial⟩ (WC.region ?_))))
          refine zym rfl rfl ?_
          refine WL.yd (Yd.sliceFromS (i := 6) Tryz.underlying9 rfl rfl (by (try dsimp only); omega)) rfl ?_
          refine zya rfl rfl ?_
          refine WL.nil ?_
          exact WP.againT (l0 ++ [(⟨x, y⟩ : Sp)], r.drop 6, some u1) ⟨by dsimp only; rw [hc, colsP_step c24 h30, Option.map_map]; congr 1; funext z; simp, by simp; omega, by simp; omega, by simpa using hu1⟩ (by simp; omega) [] _ rfl (by show _ = _ ++ owH (some u1) _ ((l0 ++ [(⟨x, y⟩ : Sp)]).flatMap spC) []; rw [List.flatMap_append]; rfl) ⟨by show _ = some (owV (some u1) (l0 ++ [_]).length); rw [List.length_append]; rfl, rfl, trivial⟩
      · try simp only [zq1, zq2, zq3, zq4, zq5, zq6, zq7, zq8] at c24
        refine WC.exit ?_
        refine WP.thenExit ?_
        refine WP.thenExit ?_
        refine WP.blkHit ?_
        refine WP.thenC (WC.seq (WC.ofFr [(4, _)] ⟨rfl, trivial⟩ (WC.region ?_)))
        obtain rfl : r = [] := by simpa using c24
        refine WL.freezeOw (f := spC) (m := 2) spC_len [] [] o 114 l0 rfl ho rfl (fun D2 hX2 hS2 => ?_)
        have hfin : columnsP s word = some l0 := by rw [hc, colsP_nil]; simp
        refine zym rfl rfl ?_
        refine zya rfl rfl ?_
        refine WL.nil (WP.thenC (WC.ret ?_))
        refine WP.ret1 rfl rfl Tryz.results94 (RV.tmp rfl) (fun w1 hI => .inl ⟨l0, _, D2, hfin, rfl, hI.keep, hI.imm, hX2, owAt o, _, _, owV_owL (owL_of ho), hS2⟩)
    · try simp only [zq1, zq2, zq3, zq4, zq5, zq6, zq7, zq8] at g21
      refine WL.no (SO.fail (Enters.func Tryz.call61 rfl) (fun w hI => must_no _ _) ?_)
      refine WP.thenPanic ?_
      refine WP.panicBody rfl (fun w hI => .inr ⟨?_, rfl, hI.keep⟩)
      first
        | (rw [hc, colsP_no c24 h30]; rfl)
        | exact columnsP_bad (fun _ => by omega)
        | exact columnsP_bad (fun e => by rw [e] at g16; cases g16)
  · try simp only [zq1, zq2, zq3, zq4, zq5, zq6, zq7, zq8] at g16
    refine WL.skip rfl rfl ?_
    refine WL.skip rfl rfl ?_
    refine WL.skip rfl rfl ?_
    refine WL.skip rfl rfl ?_
    refine WL.yd (Yd.pickF rfl rfl) rfl ?_
    refine WL.no (SO.fail (Enters.func Tryz.call61 rfl) (fun w hI => must_no _ _) ?_)
    refine WP.thenPanic ?_
    refine WP.panicBody rfl (fun w hI => .inr ⟨?_, rfl, hI.keep⟩)
    first
      | (rw [hc, colsP_no c24 h30]; rfl)
      | exact columnsP_bad (fun _ => by omega)
      | exact columnsP_bad (fun e => by rw [e] at g16; cases g16)

def hourC (h : FHour) : List Value := [it h.wind.lo, it h.wind.hi, it h.thunder]
def seenC (s : FSeen) : List Value := [it s.hour, .bool s.up]
def bsC (s : BSeen) : List Value := [it s.minute, it s.cols.lo, it s.cols.hi, it s.rows.lo, it s.rows.hi]
theorem hourC_len : ∀ s, (hourC s).length = 3 := fun _ => rfl
theorem seenC_len : ∀ s, (seenC s).length = 2 := fun _ => rfl
theorem bsC_len : ∀ s, (bsC s).length = 5 := fun _ => rfl
theorem listP_start {α : Type} {take : Bs → Option α} {s w : Bs} (h : Lib.hasPrefix s w = true) : listP take s w = (takenP take ((Lib.trimPrefix s w).length + 1) (Lib.trimPrefix s w)).map ([] ++ ·) := by
  rw [trimP_drop h]
  unfold listP
  rw [if_pos h, takenP_fuel take (s.length + 1) _ (by simp; omega) ((s.drop w.length).length + 1) (by omega)]
  simp
theorem listP_bad {α : Type} {take : Bs → Option α} {s w : Bs} (h : Lib.hasPrefix s w = false) : listP take s w = none := by
  unfold listP
  rw [h]; rfl

theorem taken_hour (s word : Bs) (hs : s.length ≤ 2 ^ 20) (fi : FuncId) (take : Bs → Option FHour) (D : Imm) (w : World) (hH : Holds D w) (hfi : ∀ args w, (callFunc fi args).run Tryz.prog w = .ok (.enter fi args) w) (hF : ∀ p : Bs, p.length ≤ 2 ^ 20 → ∀ w', Holds D w' → Try1 fi [st p] w' ((take p).map fun x => .agg (hourC x).toArray)) : Try2 103 [st s, st word, .agg #[.func (.func fi) #[] #[]]] w D (listP take s word) (fun l v D' => ∃ a n c, v = .slice a n c ∧ SlL D' 3 (l.map hourC) a n) := by
  unfold Try2
  refine enter Tryz.func103 rfl 40 Tryz.ntmps103 (zqb rfl) (Inv.start hH) ?_
  refine WC.seq (WC.ofFr [(0, _), (1, _), (2, _)] ⟨rfl, rfl, rfl, trivial⟩ (WC.region ?_))
  refine WL.so (SO.box rfl rfl) rfl ?_
  rintro _ _ _ ⟨b5, hb5, rfl, rfl, rfl⟩
  refine zya rfl rfl ?_
  refine WL.nil (WP.thenC (WC.seq (WC.ofFr [(6, _), (5, _), (0, _), (1, _)] ⟨rfl, rfl, rfl, rfl, trivial⟩ (WC.region ?_))))
  refine zym rfl rfl ?_
  refine zym rfl rfl ?_
  refine WL.so (SO.callP Tryz.call143 rfl (fun w hI => cutP_g s word _)) rfl ?_
  rintro _ _ _ ⟨rfl, rfl, rfl⟩
  refine zym rfl rfl ?_
  refine WL.yd (Yd.extract rfl rfl) rfl ?_
  refine WL.yd (Yd.extract rfl rfl) rfl ?_
  refine zya rfl rfl ?_
  refine zya rfl rfl ?_
  refine WL.nil (WP.thenC (WC.seq (WC.ofFr [(8, _), (7, _), (6, _), (5, _)] ⟨rfl, rfl, rfl, rfl, trivial⟩ (WC.region ?_))))
  refine zym rfl rfl ?_
  refine WL.part 16 rfl (fun g16 => ?_) (fun g16 => ?_)
  · try simp only [zq1, zq2, zq3, zq4, zq5, zq6, zq7, zq8] at g16
    refine WL.so (SO.call (Enters.func Tryz.call61 rfl) (fun w hI => must_ok _ _)) rfl ?_
    rintro _ _ _ ⟨rfl, rfl, rfl⟩
    refine WL.nil (WP.thenC (WC.seq (WC.block ?_)))
    refine WC.loopT [_] (fun y : List FHour × Bs × Option Ow => [(5, pt b5), (6, owV y.2.2 y.1.length), (7, st y.2.1)]) (fun y => owH y.2.2 138 (y.1.flatMap hourC) []) (fun y => listP take s word = (takenP take (y.2.1.length + 1) y.2.1).map (y.1 ++ ·) ∧ y.1.length + y.2.1.length ≤ 2 ^ 20 ∧ owP w y.2.2 y.1.length 3) (fun y => y.2.1.length) ([], Lib.trimPrefix s word, none) ⟨listP_start g16, by have := trimP_len s word; simp; omega, rfl⟩ rfl ⟨rfl, rfl, rfl, trivial⟩ ?_
    rintro ⟨l0, r, o⟩ ⟨hc, hl, ho⟩
    dsimp only at hc hl ho
    refine WC.seq (WC.seq (WC.ofFr [(5, _), (6, _), (7, _)] ⟨rfl, rfl, rfl, trivial⟩ (WC.region ?_)))
    refine zym rfl rfl ?_
    refine WL.yd (Yd.neS' rfl rfl) rfl ?_
    refine WL.nil (WP.thenC ?_)
    refine WC.cond rfl (fun c19 => ?_) (fun c19 => ?_)
    · try simp only [zq1, zq2, zq3, zq4, zq5, zq6, zq7, zq8] at c19
      refine WC.skip (WP.thenC (WC.block (WC.seq (WC.ofFr [(5, _), (6, _), (7, _)] ⟨rfl, rfl, rfl, trivial⟩ (WC.region ?_)))))
      refine zya rfl rfl ?_
      refine WL.nil (WP.thenC (WC.seq (WC.ofFr [(9, _), (5, _), (6, _), (7, _)] ⟨rfl, rfl, rfl, rfl, trivial⟩ (WC.region ?_))))
      refine zym rfl rfl ?_
      refine WL.so (SO.callP Tryz.call143 rfl (fun w hI => cutP_g r [32] _)) rfl ?_
      rintro _ _ _ ⟨rfl, rfl, rfl⟩
      refine zym rfl rfl ?_
      refine WL.yd (Yd.extract rfl rfl) rfl ?_
      refine WL.yd (Yd.extract rfl rfl) rfl ?_
      refine zya rfl rfl ?_
      refine zya rfl rfl ?_
      refine WL.nil (WP.thenC (WC.seq (WC.ofFr [(8, _), (7, _), (9, _), (5, _), (6, _)] ⟨rfl, rfl, rfl, rfl, rfl, trivial⟩ (WC.region ?_))))
      refine zym rfl rfl ?_
      refine WL.part 25 rfl (fun g25 => ?_) (fun g25 => ?_)
      · try simp only [zq1, zq2, zq3, zq4, zq5, zq6, zq7, zq8] at g25
        refine WL.so (SO.call (Enters.func Tryz.call61 rfl) (fun w hI => must_ok _ _)) rfl ?_
        rintro _ _ _ ⟨rfl, rfl, rfl⟩
        refine WL.nil (WP.thenC (WC.seq (WC.ofFr [(7, _), (9, _), (5, _), (6, _)] ⟨rfl, rfl, rfl, rfl, trivial⟩ (WC.region ?_))))
        obtain ⟨r', rfl⟩ := pre32 g25
        refine WL.know 7 (st r') rfl (show st (Lib.trimPrefix (32 :: r') [32]) = st r' by rw [trim32]) ?_
        refine zym rfl rfl ?_
        refine WL.so (SO.callP Tryz.call147 rfl (fun w hI => upTo_g _ _)) rfl ?_
        rintro _ _ _ ⟨rfl, rfl, rfl⟩
        refine zym rfl rfl ?_
        refine WL.yd (Yd.extract rfl rfl) rfl ?_
        refine WL.yd (Yd.extract rfl rfl) rfl ?_
        refine zya rfl rfl ?_
        refine zya rfl rfl ?_
        refine WL.nil (WP.thenC (WC.ofFr [(7, _), (9, _), (5, _), (6, _)] ⟨rfl, rfl, rfl, rfl, trivial⟩ (WC.region ?_)))
        refine zym rfl rfl ?_
        refine WL.yd (Yd.fieldAddr FA168_0 rfl) rfl ?_
        refine WL.yd (Yd.load1 Tryz.isAgg166 rfl (by first | exact ro0 rfl rfl)) rfl ?_
        refine zym rfl rfl ?_
        rcases h36 : take (r'.takeWhile (· != 32)) with _ | x
        · refine WL.no (SO.fail (Enters.val hfi rfl rfl) (fun w hI => (hF _ (by have := tw_len r'; simp at hl; omega) _ hI.imm).no (by rw [h36]; rfl)) ?_)
          refine WP.blkPanic ?_
          refine WP.thenPanic ?_
          refine WP.blkPanic ?_
          refine WP.thenPanic ?_
          refine WP.panicBody rfl (fun w hI => .inr ⟨?_, rfl, hI.keep⟩)
          first
            | (rw [hc, takenP_no h36]; rfl)
            | (rw [hc, takenP_bad c19 g25]; rfl)
            | exact listP_bad g16
        · skip
          refine WL.so (SO.call (Enters.val hfi rfl rfl) (fun w hI => (hF _ (by have := tw_len r'; simp at hl; omega) _ hI.imm).ok (by rw [h36]; rfl))) rfl ?_
          rintro _ _ _ ⟨rfl, rfl, rfl⟩
          refine WL.so (SO.buildSlice Tryz.underlying26 Tryz.sizeOf138 Tryz.zeroValue138 rfl rfl rfl rfl (cs := [_, _, _]) rfl) rfl ?_
          rintro _ _ _ ⟨b37, hb37, rfl, rfl, rfl⟩
          refine WL.so (SO.appendOw (o := o) (len := l0.length) (n := 1) (xs := (l0.flatMap hourC)) (size := 3) [_] [_] [] rfl rfl Tryz.underlying26 Tryz.sizeOf138 Tryz.typeInfo138 Tryz.zeroValue138 rfl rfl rfl rfl ⟨rfl, .inr ⟨_, _, _, rfl, RdN.own (k := 0) (n := 3) rfl rfl⟩⟩ (oneB_spec rfl) ho (flat_len hourC_len _) (by omega) (by show (2 * (_ + _) + 1000) * 24 ≤ 2 ^ 48; omega) (by omega)) rfl ?_
          rintro _ _ _ ⟨u1, hu1, rfl, rfl, rfl⟩
          refine zya rfl rfl ?_
          refine WL.nil (WP.blkNormal ?_)
          exact WP.againT (l0 ++ [x], r'.dropWhile (· != 32), some u1) ⟨by dsimp only; rw [hc, takenP_step h36, Option.map_map]; congr 1; funext z; simp, by have := tw_len r'; simp at hl ⊢; omega, by simpa using hu1⟩ (by have := tw_len r'; simp; omega) [] _ rfl (by show _ = _ ++ owH (some u1) _ ((l0 ++ [x]).flatMap hourC) []; rw [List.flatMap_append]; rfl) ⟨rfl, by show _ = some (owV (some u1) (l0 ++ [_]).length); rw [List.length_append]; rfl, rfl, trivial⟩
      · try simp only [zq1, zq2, zq3, zq4, zq5, zq6, zq7, zq8] at g25
        refine WL.no (SO.fail (Enters.func Tryz.call61 rfl) (fun w hI => must_no _ _) ?_)
        refine WP.thenPanic ?_
        refine WP.blkPanic ?_
        refine WP.thenPanic ?_
        refine WP.blkPanic ?_
        refine WP.thenPanic ?_
        refine WP.panicBody rfl (fun w hI => .inr ⟨?_, rfl, hI.keep⟩)
        first
          | (rw [hc, takenP_no h36]; rfl)
          | (rw [hc, takenP_bad c19 g25]; rfl)
          | exact listP_bad g16
    · try simp only [zq1, zq2, zq3, zq4, zq5, zq6, zq7, zq8] at c19
      refine WC.exit ?_
      refine WP.thenExit ?_
      refine WP.thenExit ?_
      refine WP.blkHit ?_
      refine WP.thenC (WC.seq (WC.ofFr [(6, _)] ⟨rfl, trivial⟩ (WC.region ?_)))
      obtain rfl : r = [] := by simpa using c19
      refine WL.freezeOw (f := hourC) (m := 3) hourC_len [_] [] o 138 l0 rfl ho rfl (fun D2 hX2 hS2 => ?_)
      have hfin : listP take s word = some l0 := by rw [hc]; simp [takenP]
      refine zym rfl rfl ?_
      refine zya rfl rfl ?_
      refine WL.nil (WP.thenC (WC.ret ?_))
      refine WP.ret1 rfl rfl Tryz.results103 (RV.tmp rfl) (fun w1 hI => .inl ⟨l0, _, D2, hfin, rfl, hI.keep, hI.imm, hX2, owAt o, _, _, owV_owL (owL_of ho), hS2⟩)
  · try simp only [zq1, zq2, zq3, zq4, zq5, zq6, zq7, zq8] at g16
    refine WL.no (SO.fail (Enters.func Tryz.call61 rfl) (fun w hI => must_no _ _) ?_)
    refine WP.thenPanic ?_
    refine WP.panicBody rfl (fun w hI => .inr ⟨?_, rfl, hI.keep⟩)
    first
      | (rw [hc, takenP_no h36]; rfl)
      | (rw [hc, takenP_bad c19 g25]; rfl)
      | exact listP_bad g16

theorem taken_fseen (s word : Bs) (hs : s.length ≤ 2 ^ 20) (fi : FuncId) (take : Bs → Option FSeen) (D : Imm) (w : World) (hH : Holds D w) (hfi : ∀ args w, (callFunc fi args).run Tryz.prog w = .ok (.enter fi args) w) (hF : ∀ p : Bs, p.length ≤ 2 ^ 20 → ∀ w', Holds D w' → Try1 fi [st p] w' ((take p).map fun x => .agg (seenC x).toArray)) : Try2 108 [st s, st word, .agg #[.func (.func fi) #[] #[]]] w D (listP take s word) (fun l v D' => ∃ a n c, v = .slice a n c ∧ SlL D' 2 (l.map seenC) a n) := by
  unfold Try2
  refine enter Tryz.func108 rfl 40 Tryz.ntmps108 (zqb rfl) (Inv.start hH) ?_
  refine WC.seq (WC.ofFr [(0, _), (1, _), (2, _)] ⟨rfl, rfl, rfl, trivial⟩ (WC.region ?_))
  refine WL.so (SO.box rfl rfl) rfl ?_
  rintro _ _ _ ⟨b5, hb5, rfl, rfl, rfl⟩
  refine zya rfl rfl ?_
  refine WL.nil (WP.thenC (WC.seq (WC.ofFr [(6, _), (5, _), (0, _), (1, _)] ⟨rfl, rfl, rfl, rfl, trivial⟩ (WC.region ?_))))
  refine zym rfl rfl ?_
  refine zym rfl rfl ?_
  refine WL.so (SO.callP Tryz.call143 rfl (fun w hI => cutP_g s word _)) rfl ?_
  rintro _ _ _ ⟨rfl, rfl, rfl⟩
  refine zym rfl rfl ?_
  refine WL.yd (Yd.extract rfl rfl) rfl ?_
  refine WL.yd (Yd.extract rfl rfl) rfl ?_
  refine zya rfl rfl ?_
  refine zya rfl rfl ?_
  refine WL.nil (WP.thenC (WC.seq (WC.ofFr [(8, _), (7, _), (6, _), (5, _)] ⟨rfl, rfl, rfl, rfl, trivial⟩ (WC.region ?_))))
  refine zym rfl rfl ?_
  refine WL.part 16 rfl (fun g16 => ?_) (fun g16 => ?_)
  · try simp only [zq1, zq2, zq3, zq4, zq5, zq6, zq7, zq8] at g16
    refine WL.so (SO.call (Enters.func Tryz.call61 rfl) (fun w hI => must_ok _ _)) rfl ?_
    rintro _ _ _ ⟨rfl, rfl, rfl⟩
    refine WL.nil (WP.thenC (WC.seq (WC.block ?_)))
    refine WC.loopT [_] (fun y : List FSeen × Bs × Option Ow => [(5, pt b5), (6, owV y.2.2 y.1.length), (7, st y.2.1)]) (fun y => owH y.2.2 141 (y.1.flatMap seenC) []) (fun y => listP take s word = (takenP take (y.2.1.length + 1) y.2.1).map (y.1 ++ ·) ∧ y.1.length + y.2.1.length ≤ 2 ^ 20 ∧ owP w y.2.2 y.1.length 2) (fun y => y.2.1.length) ([], Lib.trimPrefix s word, none) ⟨listP_start g16, by have := trimP_len s word; simp; omega, rfl⟩ rfl ⟨rfl, rfl, rfl, trivial⟩ ?_
    rintro ⟨l0, r, o⟩ ⟨hc, hl, ho⟩
    dsimp only at hc hl ho
    refine WC.seq (WC.seq (WC.ofFr [(5, _), (6, _), (7, _)] ⟨rfl, rfl, rfl, trivial⟩ (WC.region ?_)))
    refine zym rfl rfl ?_
    refine WL.yd (Yd.neS' rfl rfl) rfl ?_
    refine WL.nil (WP.thenC ?_)
    refine WC.cond rfl (fun c19 => ?_) (fun c19 => ?_)
    · try simp only [zq1, zq2, zq3, zq4, zq5, zq6, zq7, zq8] at c19
      refine WC.skip (WP.thenC (WC.block (WC.seq (WC.ofFr [(5, _), (6, _), (7, _)] ⟨rfl, rfl, rfl, trivial⟩ (WC.region ?_)))))
      refine zya rfl rfl ?_
      refine WL.nil (WP.thenC (WC.seq (WC.ofFr [(9, _), (5, _), (6, _), (7, _)] ⟨rfl, rfl, rfl, rfl, trivial⟩ (WC.region ?_))))
      refine zym rfl rfl ?_
      refine WL.so (SO.callP Tryz.call143 rfl (fun w hI => cutP_g r [32] _)) rfl ?_
      rintro _ _ _ ⟨rfl, rfl, rfl⟩
      refine zym rfl rfl ?_
      refine WL.yd (Yd.extract rfl rfl) rfl ?_
      refine WL.yd (Yd.extract rfl rfl) rfl ?_
      refine zya rfl rfl ?_
      refine zya rfl rfl ?_
      refine WL.nil (WP.thenC (WC.seq (WC.ofFr [(8, _), (7, _), (9, _), (5, _), (6, _)] ⟨rfl, rfl, rfl, rfl, rfl, trivial⟩ (WC.region ?_))))
      refine zym rfl rfl ?_
      refine WL.part 25 rfl (fun g25 => ?_) (fun g25 => ?_)
      · try simp only [zq1, zq2, zq3, zq4, zq5, zq6, zq7, zq8] at g25
        refine WL.so (SO.call (Enters.func Tryz.call61 rfl) (fun w hI => must_ok _ _)) rfl ?_
        rintro _ _ _ ⟨rfl, rfl, rfl⟩
        refine WL.nil (WP.thenC (WC.seq (WC.ofFr [(7, _), (9, _), (5, _), (6, _)] ⟨rfl, rfl, rfl, rfl, trivial⟩ (WC.region ?_))))
        obtain ⟨r', rfl⟩ := pre32 g25
        refine WL.know 7 (st r') rfl (show st (Lib.trimPrefix (32 :: r') [32]) = st r' by rw [trim32]) ?_
        refine zym rfl rfl ?_
        refine WL.so (SO.callP Tryz.call147 rfl (fun w hI => upTo_g _ _)) rfl ?_
        rintro _ _ _ ⟨rfl, rfl, rfl⟩
        refine zym rfl rfl ?_
        refine WL.yd (Yd.extract rfl rfl) rfl ?_
        refine WL.yd (Yd.extract rfl rfl) rfl ?_
        refine zya rfl rfl ?_
        refine zya rfl rfl ?_
        refine WL.nil (WP.thenC (WC.ofFr [(7, _), (9, _), (5, _), (6, _)] ⟨rfl, rfl, rfl, rfl, trivial⟩ (WC.region ?_)))
        refine zym rfl rfl ?_
        refine WL.yd (Yd.fieldAddr FA174_0 rfl) rfl ?_
        refine WL.yd (Yd.load1 Tryz.isAgg172 rfl (by first | exact ro0 rfl rfl)) rfl ?_
        refine zym rfl rfl ?_
        rcases h36 : take (r'.takeWhile (· != 32)) with _ | x
        · refine WL.no (SO.fail (Enters.val hfi rfl rfl) (fun w hI => (hF _ (by have := tw_len r'; simp at hl; omega) _ hI.imm).no (by rw [h36]; rfl)) ?_)
          refine WP.blkPanic ?_
          refine WP.thenPanic ?_
          refine WP.blkPanic ?_
          refine WP.thenPanic ?_
          refine WP.panicBody rfl (fun w hI => .inr ⟨?_, rfl, hI.keep⟩)
          first
            | (rw [hc, takenP_no h36]; rfl)
            | (rw [hc, takenP_bad c19 g25]; rfl)
            | exact listP_bad g16
        · skip
          refine WL.so (SO.call (Enters.val hfi rfl rfl) (fun w hI => (hF _ (by have := tw_len r'; simp at hl; omega) _ hI.imm).ok (by rw [h36]; rfl))) rfl ?_
          rintro _ _ _ ⟨rfl, rfl, rfl⟩
          refine WL.so (SO.buildSlice Tryz.underlying27 Tryz.sizeOf141 Tryz.zeroValue141 rfl rfl rfl rfl (cs := [_, _]) rfl) rfl ?_
          rintro _ _ _ ⟨b37, hb37, rfl, rfl, rfl⟩
          refine WL.so (SO.appendOw (o := o) (len := l0.length) (n := 1) (xs := (l0.flatMap seenC)) (size := 2) [_] [_] [] rfl rfl Tryz.underlying27 Tryz.sizeOf141 Tryz.typeInfo141 Tryz.zeroValue141 rfl rfl rfl rfl ⟨rfl, .inr ⟨_, _, _, rfl, RdN.own (k := 0) (n := 2) rfl rfl⟩⟩ (oneB_spec rfl) ho (flat_len seenC_len _) (by omega) (by show (2 * (_ + _) + 1000) * 16 ≤ 2 ^ 48; omega) (by omega)) rfl ?_
          rintro _ _ _ ⟨u1, hu1, rfl, rfl, rfl⟩
          refine zya rfl rfl ?_
          refine WL.nil (WP.blkNormal ?_)
          exact WP.againT (l0 ++ [x], r'.dropWhile (· != 32), some u1) ⟨by dsimp only; rw [hc, takenP_step h36, Option.map_map]; congr 1; funext z; simp, by have := tw_len r'; simp at hl ⊢; omega, by simpa using hu1⟩ (by have := tw_len r'; simp; omega) [] _ rfl (by show _ = _ ++ owH (some u1) _ ((l0 ++ [x]).flatMap seenC) []; rw [List.flatMap_append]; rfl) ⟨rfl, by show _ = some (owV (some u1) (l0 ++ [_]).length); rw [List.length_append]; rfl, rfl, trivial⟩
      · try simp only [zq1, zq2, zq3, zq4, zq5, zq6, zq7, zq8] at g25
        refine WL.no (SO.fail (Enters.func Tryz.call61 rfl) (fun w hI => must_no _ _) ?_)
        refine WP.thenPanic ?_
        refine WP.blkPanic ?_
        refine WP.thenPanic ?_
        refine WP.blkPanic ?_
        refine WP.thenPanic ?_
        refine WP.panicBody rfl (fun w hI => .inr ⟨?_, rfl, hI.keep⟩)
        first
          | (rw [hc, takenP_no h36]; rfl)
          | (rw [hc, takenP_bad c19 g25]; rfl)
          | exact listP_bad g16
    · try simp only [zq1, zq2, zq3, zq4, zq5, zq6, zq7, zq8] at c19
      refine WC.exit ?_
      refine WP.thenExit ?_
      refine WP.thenExit ?_
      refine WP.blkHit ?_
      refine WP.thenC (WC.seq (WC.ofFr [(6, _)] ⟨rfl, trivial⟩ (WC.region ?_)))
      obtain rfl : r = [] := by simpa using c19
      refine WL.freezeOw (f := seenC) (m := 2) seenC_len [_] [] o 141 l0 rfl ho rfl (fun D2 hX2 hS2 => ?_)
      have hfin : listP take s word = some l0 := by rw [hc]; simp [takenP]
      refine zym rfl rfl ?_
      refine zya rfl rfl ?_
      refine WL.nil (WP.thenC (WC.ret ?_))
      refine WP.ret1 rfl rfl Tryz.results108 (RV.tmp rfl) (fun w1 hI => .inl ⟨l0, _, D2, hfin, rfl, hI.keep, hI.imm, hX2, owAt o, _, _, owV_owL (owL_of ho), hS2⟩)
  · try simp only [zq1, zq2, zq3, zq4, zq5, zq6, zq7, zq8] at g16
    refine WL.no (SO.fail (Enters.func Tryz.call61 rfl) (fun w hI => must_no _ _) ?_)
    refine WP.thenPanic ?_
    refine WP.panicBody rfl (fun w hI => .inr ⟨?_, rfl, hI.keep⟩)
    first
      | (rw [hc, takenP_no h36]; rfl)
      | (rw [hc, takenP_bad c19 g25]; rfl)
      | exact listP_bad g16

theorem taken_bseen (s word : Bs) (hs : s.length ≤ 2 ^ 20) (fi : FuncId) (take : Bs → Option BSeen) (D : Imm) (w : World) (hH : Holds D w) (hfi : ∀ args w, (callFunc fi args).run Tryz.prog w = .ok (.enter fi args) w) (hF : ∀ p : Bs, p.length ≤ 2 ^ 20 → ∀ w', Holds D w' → Try1 fi [st p] w' ((take p).map fun x => .agg (bsC x).toArray)) : Try2 118 [st s, st word, .agg #[.func (.func fi) #[] #[]]] w D (listP take s word) (fun l v D' => ∃ a n c, v = .slice a n c ∧ SlL D' 5 (l.map bsC) a n) := by
  unfold Try2
  refine enter Tryz.func118 rfl 40 Tryz.ntmps118 (zqb rfl) (Inv.start hH) ?_
  refine WC.seq (WC.ofFr [(0, _), (1, _), (2, _)] ⟨rfl, rfl, rfl, trivial⟩ (WC.region ?_))
  refine WL.so (SO.box rfl rfl) rfl ?_
  rintro _ _ _ ⟨b5, hb5, rfl, rfl, rfl⟩
  refine zya rfl rfl ?_
  refine WL.nil (WP.thenC (WC.seq (WC.ofFr [(6, _), (5, _), (0, _), (1, _)] ⟨rfl, rfl, rfl, rfl, trivial⟩ (WC.region ?_))))
  refine zym rfl rfl ?_
  refine zym rfl rfl ?_
  refine WL.so (SO.callP Tryz.call143 rfl (fun w hI => cutP_g s word _)) rfl ?_
  rintro _ _ _ ⟨rfl, rfl, rfl⟩
  refine zym rfl rfl ?_
  refine WL.yd (Yd.extract rfl rfl) rfl ?_
  refine WL.yd (Yd.extract rfl rfl) rfl ?_
  refine zya rfl rfl ?_
  refine zya rfl rfl ?_
  refine WL.nil (WP.thenC (WC.seq (WC.ofFr [(8, _), (7, _), (6, _), (5, _)] ⟨rfl, rfl, rfl, rfl, trivial⟩ (WC.region ?_))))
  refine zym rfl rfl ?_
  refine WL.part 16 rfl (fun g16 => ?_) (fun g16 => ?_)
  · try simp only [zq1, zq2, zq3, zq4, zq5, zq6, zq7, zq8] at g16
    refine WL.so (SO.call (Enters.func Tryz.call61 rfl) (fun w hI => must_ok _ _)) rfl ?_
    rintro _ _ _ ⟨rfl, rfl, rfl⟩
    refine WL.nil (WP.thenC (WC.seq (WC.block ?_)))
    refine WC.loopT [_] (fun y : List BSeen × Bs × Option Ow => [(5, pt b5), (6, owV y.2.2 y.1.length), (7, st y.2.1)]) (fun y => owH y.2.2 143 (y.1.flatMap bsC) []) (fun y => listP take s word = (takenP take (y.2.1.length + 1) y.2.1).map (y.1 ++ ·) ∧ y.1.length + y.2.1.length ≤ 2 ^ 20 ∧ owP w y.2.2 y.1.length 5) (fun y => y.2.1.length) ([], Lib.trimPrefix s word, none) ⟨listP_start g16, by have := trimP_len s word; simp; omega, rfl⟩ rfl ⟨rfl, rfl, rfl, trivial⟩ ?_
    rintro ⟨l0, r, o⟩ ⟨hc, hl, ho⟩
    dsimp only at hc hl ho
    refine WC.seq (WC.seq (WC.ofFr [(5, _), (6, _), (7, _)] ⟨rfl, rfl, rfl, trivial⟩ (WC.region ?_)))
    refine zym rfl rfl ?_
    refine WL.yd (Yd.neS' rfl rfl) rfl ?_
    refine WL.nil (WP.thenC ?_)
    refine WC.cond rfl (fun c19 => ?_) (fun c19 => ?_)
    · try simp only [zq1, zq2, zq3, zq4, zq5, zq6, zq7, zq8] at c19
      refine WC.skip (WP.thenC (WC.block (WC.seq (WC.ofFr [(5, _), (6, _), (7, _)] ⟨rfl, rfl, rfl, trivial⟩ (WC.region ?_)))))
      refine zya rfl rfl ?_
      refine WL.nil (WP.thenC (WC.seq (WC.ofFr [(9, _), (5, _), (6, _), (7, _)] ⟨rfl, rfl, rfl, rfl, trivial⟩ (WC.region ?_))))
      refine zym rfl rfl ?_
      refine WL.so (SO.callP Tryz.call143 rfl (fun w hI => cutP_g r [32] _)) rfl ?_
      rintro _ _ _ ⟨rfl, rfl, rfl⟩
      refine zym rfl rfl ?_
      refine WL.yd (Yd.extract rfl rfl) rfl ?_
      refine WL.yd (Yd.extract rfl rfl) rfl ?_
      refine zya rfl rfl ?_
      refine zya rfl rfl ?_
      refine WL.nil (WP.thenC (WC.seq (WC.ofFr [(8, _), (7, _), (9, _), (5, _), (6, _)] ⟨rfl, rfl, rfl, rfl, rfl, trivial⟩ (WC.region ?_))))
      refine zym rfl rfl ?_
      refine WL.part 25 rfl (fun g25 => ?_) (fun g25 => ?_)
      · try simp only [zq1, zq2, zq3, zq4, zq5, zq6, zq7, zq8] at g25
        refine WL.so (SO.call (Enters.func Tryz.call61 rfl) (fun w hI => must_ok _ _)) rfl ?_
        rintro _ _ _ ⟨rfl, rfl, rfl⟩
        refine WL.nil (WP.thenC (WC.seq (WC.ofFr [(7, _), (9, _), (5, _), (6, _)] ⟨rfl, rfl, rfl, rfl, trivial⟩ (WC.region ?_))))
        obtain ⟨r', rfl⟩ := pre32 g25
        refine WL.know 7 (st r') rfl (show st (Lib.trimPrefix (32 :: r') [32]) = st r' by rw [trim32]) ?_
        refine zym rfl rfl ?_
        refine WL.so (SO.callP Tryz.call147 rfl (fun w hI => upTo_g _ _)) rfl ?_
        rintro _ _ _ ⟨rfl, rfl, rfl⟩
        refine zym rfl rfl ?_
        refine WL.yd (Yd.extract rfl rfl) rfl ?_
        refine WL.yd (Yd.extract rfl rfl) rfl ?_
        refine zya rfl rfl ?_
        refine zya rfl rfl ?_
        refine WL.nil (WP.thenC (WC.ofFr [(7, _), (9, _), (5, _), (6, _)] ⟨rfl, rfl, rfl, rfl, trivial⟩ (WC.region ?_)))
        refine zym rfl rfl ?_
        refine WL.yd (Yd.fieldAddr FA181_0 rfl) rfl ?_
        refine WL.yd (Yd.load1 Tryz.isAgg179 rfl (by first | exact ro0 rfl rfl)) rfl ?_
        refine zym rfl rfl ?_
        rcases h36 : take (r'.takeWhile (· != 32)) with _ | x
        · refine WL.no (SO.fail (Enters.val hfi rfl rfl) (fun w hI => (hF _ (by have := tw_len r'; simp at hl; omega) _ hI.imm).no (by rw [h36]; rfl)) ?_)
          refine WP.blkPanic ?_
          refine WP.thenPanic ?_
          refine WP.blkPanic ?_
          refine WP.thenPanic ?_
          refine WP.panicBody rfl (fun w hI => .inr ⟨?_, rfl, hI.keep⟩)
          first
            | (rw [hc, takenP_no h36]; rfl)
            | (rw [hc, takenP_bad c19 g25]; rfl)
            | exact listP_bad g16
        · skip
          refine WL.so (SO.call (Enters.val hfi rfl rfl) (fun w hI => (hF _ (by have := tw_len r'; simp at hl; omega) _ hI.imm).ok (by rw [h36]; rfl))) rfl ?_
          rintro _ _ _ ⟨rfl, rfl, rfl⟩
          refine WL.so (SO.buildSlice Tryz.underlying79 Tryz.sizeOf143 Tryz.zeroValue143 rfl rfl rfl rfl (cs := [_, _, _, _, _]) rfl) rfl ?_
          rintro _ _ _ ⟨b37, hb37, rfl, rfl, rfl⟩
          refine WL.so (SO.appendOw (o := o) (len := l0.length) (n := 1) (xs := (l0.flatMap bsC)) (size := 5) [_] [_] [] rfl rfl Tryz.underlying79 Tryz.sizeOf143 Tryz.typeInfo143 Tryz.zeroValue143 rfl rfl rfl rfl ⟨rfl, .inr ⟨_, _, _, rfl, RdN.own (k := 0) (n := 5) rfl rfl⟩⟩ (oneB_spec rfl) ho (flat_len bsC_len _) (by omega) (by show (2 * (_ + _) + 1000) * 40 ≤ 2 ^ 48; omega) (by omega)) rfl ?_
          rintro _ _ _ ⟨u1, hu1, rfl, rfl, rfl⟩
          refine zya rfl rfl ?_
          refine WL.nil (WP.blkNormal ?_)
          exact WP.againT (l0 ++ [x], r'.dropWhile (· != 32), some u1) ⟨by dsimp only; rw [hc, takenP_step h36, Option.map_map]; congr 1; funext z; simp, by have := tw_len r'; simp at hl ⊢; omega, by simpa using hu1⟩ (by have := tw_len r'; simp; omega) [] _ rfl (by show _ = _ ++ owH (some u1) _ ((l0 ++ [x]).flatMap bsC) []; rw [List.flatMap_append]; rfl) ⟨rfl, by show _ = some (owV (some u1) (l0 ++ [_]).length); rw [List.length_append]; rfl, rfl, trivial⟩
      · try simp only [zq1, zq2, zq3, zq4, zq5, zq6, zq7, zq8] at g25
        refine WL.no (SO.fail (Enters.func Tryz.call61 rfl) (fun w hI => must_no _ _) ?_)
        refine WP.thenPanic ?_
        refine WP.blkPanic ?_
        refine WP.thenPanic ?_
        refine WP.blkPanic ?_
        refine WP.thenPanic ?_
        refine WP.panicBody rfl (fun w hI => .inr ⟨?_, rfl, hI.keep⟩)
        first
          | (rw [hc, takenP_no h36]; rfl)
          | (rw [hc, takenP_bad c19 g25]; rfl)
          | exact listP_bad g16
    · try simp only [zq1, zq2, zq3, zq4, zq5, zq6, zq7, zq8] at c19
      refine WC.exit ?_
      refine WP.thenExit ?_
      refine WP.thenExit ?_
      refine WP.blkHit ?_
      refine WP.thenC (WC.seq (WC.ofFr [(6, _)] ⟨rfl, trivial⟩ (WC.region ?_)))
      obtain rfl : r = [] := by simpa using c19
      refine WL.freezeOw (f := bsC) (m := 5) bsC_len [_] [] o 143 l0 rfl ho rfl (fun D2 hX2 hS2 => ?_)
      have hfin : listP take s word = some l0 := by rw [hc]; simp [takenP]
      refine zym rfl rfl ?_
      refine zya rfl rfl ?_
      refine WL.nil (WP.thenC (WC.ret ?_))
      refine WP.ret1 rfl rfl Tryz.results118 (RV.tmp rfl) (fun w1 hI => .inl ⟨l0, _, D2, hfin, rfl, hI.keep, hI.imm, hX2, owAt o, _, _, owV_owL (owL_of ho), hS2⟩)
  · try simp only [zq1, zq2, zq3, zq4, zq5, zq6, zq7, zq8] at g16
    refine WL.no (SO.fail (Enters.func Tryz.call61 rfl) (fun w hI => must_no _ _) ?_)
    refine WP.thenPanic ?_
    refine WP.panicBody rfl (fun w hI => .inr ⟨?_, rfl, hI.keep⟩)
    first
      | (rw [hc, takenP_no h36]; rfl)
      | (rw [hc, takenP_bad c19 g25]; rfl)
      | exact listP_bad g16

end Go.Proofs.YtaebnllfmkcpgaaGreatDoor
namespace Go.Proofs.YtaebnllfmkcpgaaGreatDoor
open Go.W Go.Bk
theorem SA138 : StructAt Tryz.prog 138 [.int .i64 0, .int .i64 0, .int .i64 0] [(0, 2), (2, 1)] := ⟨⟨_, Tryz.zeroValue138, rfl⟩, _, Tryz.underlying138, fun w => by simp [Tryz.sizeOf3, Tryz.sizeOf114]⟩
theorem SA141 : StructAt Tryz.prog 141 [.int .i64 0, .bool false] [(0, 1), (1, 1)] := ⟨⟨_, Tryz.zeroValue141, rfl⟩, _, Tryz.underlying141, fun w => by simp [Tryz.sizeOf3, Tryz.sizeOf4]⟩
theorem SA143 : StructAt Tryz.prog 143 [.int .i64 0, .int .i64 0, .int .i64 0, .int .i64 0, .int .i64 0] [(0, 1), (1, 2), (3, 2)] := ⟨⟨_, Tryz.zeroValue143, rfl⟩, _, Tryz.underlying143, fun w => by simp [Tryz.sizeOf3, Tryz.sizeOf114]⟩
def marksL : List Bs := [[], [63], [33]]
theorem marks_len (k : Nat) : (gt marksL k).length ≤ 2 ^ 40 := by
  match k with
  | 0 => decide
  | 1 => decide
  | 2 => decide
  | k + 3 => exact (show (0 : Nat) ≤ 2 ^ 40 by omega)
def mkF : Nat → SKey → Option Int
  | 0 => fun _ => none
  | k + 1 => putF (mkF k) ⟨gt marksL k, marks_len k⟩ (k : Int)
def markO (s : Bs) : Option Int := match s with | [] => some 0 | [63] => some 1 | [33] => some 2 | _ => none
theorem mkF_eq (y : SKey) : mkF 3 y = markO y.1 := by
  obtain ⟨s, hs⟩ := y
  simp only [mkF, putF, Subtype.mk.injEq]
  unfold markO
  have e0 : gt marksL 0 = [] := rfl
  have e1 : gt marksL 1 = [63] := rfl
  have e2 : gt marksL 2 = [33] := rfl
  rw [e0, e1, e2]
  by_cases a : s = [33]
  · subst a; rfl
  · by_cases b : s = [63]
    · subst b; rfl
    · by_cases c : s = []
      · subst c; rfl
      · rw [if_neg a, if_neg b, if_neg c]
        split <;> simp_all
theorem hourP_eq (s : Bs) : hourP s = match markO (s.drop (Lib.trimRightS s [63, 33]).length), spanP (Lib.trimRightS s [63, 33]) with
  | some t, some w => some ⟨w, t⟩
  | _, _ => none := rfl
theorem trimR_len (s cs : Bs) : (Lib.trimRightS s cs).length ≤ s.length := by
  unfold Lib.trimRightS
  have := (List.dropWhile_sublist (cs.contains ·) (l := s.reverse)).length_le
  simpa using this

theorem thunders_g (D : Imm) (hL : LibD D) (w : World) (hH : Holds D w) : News Tryz.prog 106 [] w D (fun v D' h' => D = D' ∧ ∃ b es ck, v = .map (some b) ∧ h' = [(b, .map es ck)] ∧ MapR kvS es ck (mkF 3)) := by
  unfold News
  obtain ⟨mt, mfz, hmk⟩ := hL.marks
  refine enter Tryz.func106 rfl 15 Tryz.ntmps106 (zqb rfl) (Inv.start hH) ?_
  refine WC.seq (WC.ofFr [] trivial (WC.region ?_))
  refine zya rfl rfl ?_
  refine WL.nil (WP.thenC (WC.seq (WC.ofFr [(0, _)] ⟨rfl, trivial⟩ (WC.region ?_))))
  refine WL.so SO.makeMap rfl ?_
  rintro _ _ _ ⟨b4, hb4, rfl, rfl, rfl⟩
  refine zya rfl rfl ?_
  refine WL.nil (WP.thenC (WC.seq (WC.seq (WC.ofFr [(1, _), (0, _)] ⟨rfl, rfl, trivial⟩ (WC.region ?_)))))
  refine WL.yd (Yd.loadN Tryz.isAgg157 Tryz.sizeOf157 rfl (vs := [_, _, _]) rfl (by first | exact rn0 (n := 3) rfl rfl | exact (RdN.imm (n := 3) hmk rfl))) rfl ?_
  refine zym rfl rfl ?_
  refine WL.nil (WP.thenC (WC.block ?_))
  refine WC.loopT [] (fun y : Nat × Array MapEntry × Nat => [(1, .map (some b4)), (5, .agg (List.toArray [st [], st [63], st [33]])), (6, nt y.1)]) (fun y => [(b4, .map y.2.1 y.2.2)]) (fun y => y.1 ≤ 3 ∧ MapR kvS y.2.1 y.2.2 (mkF y.1)) (fun y => 3 - y.1) (0, #[], 0) ⟨Nat.zero_le _, MapR.empty kvS⟩ rfl ⟨rfl, rfl, rfl, trivial⟩ ?_
  rintro ⟨k, es, ck⟩ ⟨hk, hM⟩
  dsimp only at hk hM
  refine WC.seq (WC.ofFr [(1, _), (5, _), (6, _)] ⟨rfl, rfl, rfl, trivial⟩ (WC.region ?_))
  refine WL.yd (Yd.lss rfl rfl) rfl ?_
  refine WL.nil (WP.thenC (WC.seq ?_))
  refine WC.cond rfl (fun c7 => ?_) (fun c7 => ?_)
  · try simp only [zq1, zq2, zq3, zq4, zq5, zq6, zq7, zq8] at c7
    have hk3 : k < 3 := by omega
    refine WC.skip (WP.thenC (WC.seq (WC.block (WC.seq (WC.ofFr [(1, _), (5, _), (6, _)] ⟨rfl, rfl, rfl, trivial⟩ (WC.region ?_))))))
    refine zym rfl rfl ?_
    refine WL.yd (Yd.indexV Tryz.underlying157 Tryz.isAgg9 Tryz.sizeOf9 rfl rfl (by omega) (v := st (gt marksL k)) (by match k, hk3 with | 0, _ => rfl | 1, _ => rfl | 2, _ => rfl)) rfl ?_
    refine zya rfl rfl ?_
    refine zya rfl rfl ?_
    refine WL.nil (WP.thenC (WC.ofFr [(3, _), (2, _), (1, _), (5, _), (6, _)] ⟨rfl, rfl, rfl, rfl, rfl, trivial⟩ (WC.region ?_)))
    refine zym rfl rfl ?_
    refine zym rfl rfl ?_
    refine zym rfl rfl ?_
    refine WL.so (SO.mapPut (j := 0) kvS_inj (WideMaps.string_law Tryz.underlying9) (kvS_key Tryz.underlying9) Tryz.underlying163 rfl (y := ⟨gt marksL k, marks_len k⟩) (u := (k : Int)) rfl rfl rfl hM) rfl ?_
    rintro _ _ _ ⟨rfl, es2, ck2, rfl, hM2⟩
    refine WL.nil (WP.blkNormal (WP.thenC (WC.ofFr [(1, _), (5, _), (6, _)] ⟨rfl, rfl, rfl, trivial⟩ (WC.region ?_))))
    refine WL.yd (Yd.add rfl rfl (wr64 ⟨by omega, by omega⟩)) rfl ?_
    refine zym rfl rfl ?_
    refine WL.nil ?_
    exact WP.againT (k + 1, es2, ck2) ⟨by dsimp only; omega, hM2⟩ (by dsimp only; omega) [] _ rfl rfl ⟨rfl, rfl, rfl, trivial⟩
  · try simp only [zq1, zq2, zq3, zq4, zq5, zq6, zq7, zq8] at c7
    obtain rfl : k = 3 := by omega
    refine WC.exit ?_
    refine WP.thenExit ?_
    refine WP.thenExit ?_
    refine WP.blkHit ?_
    refine WP.thenC (WC.seq (WC.ofFr [(1, _)] ⟨rfl, trivial⟩ (WC.region ?_)))
    refine zym rfl rfl ?_
    refine zya rfl rfl ?_
    refine WL.nil (WP.thenC (WC.ret ?_))
    refine WP.ret1 rfl rfl Tryz.results106 (RV.tmp rfl) (fun w1 hI => ⟨_, D, _, rfl, DExt.refl _ _, hI, rfl, b4, es, ck, rfl, rfl, hM⟩)

theorem hourP_g (s : Bs) (hs : s.length ≤ 2 ^ 20) (D : Imm) (hL : LibD D) (w : World) (hH : Holds D w) : Try1 104 [st s] w ((hourP s).map fun x => .agg (hourC x).toArray) := by
  unfold Try1
  have htl := trimR_len s [63, 33]
  refine enter Tryz.func104 rfl 23 Tryz.ntmps104 (zqb rfl) (Inv.start hH) ?_
  refine WC.seq (WC.ofFr [(0, _)] ⟨rfl, trivial⟩ (WC.region ?_))
  refine WL.so (SO.alloc Tryz.zeroValue138 rfl) rfl ?_
  rintro _ _ _ ⟨b2, hb2, rfl, rfl, rfl⟩
  refine WL.nil (WP.thenC (WC.seq (WC.ofFr [(2, _), (0, _)] ⟨rfl, rfl, trivial⟩ (WC.region ?_))))
  refine zym rfl rfl ?_
  refine WL.so (SO.callP Tryz.call105 rfl (fun w hI => trimR_g s (by omega) _)) rfl ?_
  rintro _ _ _ ⟨rfl, rfl, rfl⟩
  refine zya rfl rfl ?_
  refine WL.nil (WP.thenC (WC.seq (WC.ofFr [(3, _), (2, _), (0, _)] ⟨rfl, rfl, rfl, trivial⟩ ?_)))
  refine WC.draw [(1, true), (2, true), (3, true), (4, true), (0, false), (5, false), (6, true), (7, true), (8, true), (9, true), (10, true)] (by kernel_rfl) (by kernel_rfl) (QuietPanic.then QuietPanic.body) ?_
  refine WA.yd rfl (Yd.move rfl) rfl ?_
  refine WA.yd rfl (Yd.move rfl) rfl ?_
  refine WA.yd rfl (Yd.lenStr rfl Tryz.underlying9 rfl) rfl ?_
  refine WA.yd rfl (Yd.sliceFromS Tryz.underlying9 rfl rfl (by omega)) rfl ?_
  refine WA.so rfl (SO.news (Enters.func Tryz.call106 rfl) (fun w hI => thunders_g D hL w hI.imm)) rfl ?_
  rintro _ _ _ ⟨_, _, ⟨rfl, bm, es, ck, rfl, rfl, hM⟩, rfl⟩
  refine ⟨fun _ hI => hI.left, ?_⟩
  refine WA.so rfl (SO.ofYd (Yd.lookOk (j := 1) kvS_inj (WideMaps.string_law Tryz.underlying9) (kvS_key Tryz.underlying9) Tryz.underlying163 Tryz.zeroValue3 rfl (y := ⟨(s.drop (Lib.trimRightS s [63, 33]).length), by simp; omega⟩) rfl rfl hM)) rfl ?_
  rintro _ _ _ ⟨rfl, rfl, rfl⟩
  refine ⟨fun _ hI => hI.left, ?_⟩
  refine WA.yd rfl (Yd.move rfl) rfl ?_
  refine WA.yd rfl (Yd.extract rfl rfl) rfl ?_
  refine WA.yd rfl (Yd.extract rfl rfl) rfl ?_
  refine WA.yd rfl (Yd.assign rfl) rfl ?_
  refine WA.yd rfl (Yd.assign rfl) rfl ?_
  refine WA.nil (WP.thenC (WC.seq (WC.ofFr [(5, _), (4, _), (3, _), (2, _)] ⟨rfl, rfl, rfl, rfl, trivial⟩ (WC.region ?_))))
  refine zym rfl rfl ?_
  refine WL.part 17 rfl (fun g17 => ?_) (fun g17 => ?_)
  · try simp only [zq1, zq2, zq3, zq4, zq5, zq6, zq7, zq8] at g17
    refine WL.so (SO.call (Enters.func Tryz.call61 rfl) (fun w hI => must_ok _ _)) rfl ?_
    rintro _ _ _ ⟨rfl, rfl, rfl⟩
    refine WL.nil (WP.thenC (WC.seq (WC.ofFr [(4, _), (3, _), (2, _)] ⟨rfl, rfl, rfl, trivial⟩ (WC.region ?_))))
    refine zym rfl rfl ?_
    rcases h20 : spanP (Lib.trimRightS s [63, 33]) with _ | x
    · refine WL.no (SO.fail (Enters.func Tryz.call107 rfl) (fun w hI => (span_g _ (by omega) D hL _ hI.imm).no (by rw [h20]; rfl)) ?_)
      refine WP.thenPanic ?_
      refine WP.panicBody rfl (fun w hI => ⟨endO_none ?_, hI.keep⟩)
      rw [hourP_eq]
      rw [mkF_eq] at g17
      first
        | (rw [h20]; cases markO _ <;> rfl)
        | (cases hm : markO (s.drop (Lib.trimRightS s [63, 33]).length) with
          | none => rfl
          | some t => rw [hm] at g17; cases g17)
    · skip
      refine WL.so (SO.callP Tryz.call107 rfl (fun w hI => (span_g _ (by omega) D hL _ hI.imm).ok (by rw [h20]; rfl))) rfl ?_
      rintro _ _ _ ⟨rfl, rfl, rfl⟩
      refine zym rfl rfl ?_
      refine WL.yd (Yd.build SA138 rfl (cs := [_, _, _]) rfl) rfl ?_
      refine WL.so (SO.store 0 rfl Tryz.sizeOf138 rfl rfl rfl rfl (zqb rfl) (oneB_spec rfl)) rfl ?_
      rintro _ _ _ ⟨rfl, rfl, rfl⟩
      refine WL.nil (WP.thenC (WC.ret ?_))
      refine WP.ret1 rfl rfl Tryz.results104 (RV.cellN Tryz.isAgg138 Tryz.sizeOf138 rfl (vs := [_, _, _]) rfl (by first | exact rn0 (n := 3) rfl rfl | exact rn1 (n := 3) rfl rfl)) (fun w hI => ⟨?_, hI.keep⟩)
      rw [mkF_eq] at g17 ⊢
      cases hm : markO (s.drop (Lib.trimRightS s [63, 33]).length) with
      | none => rw [hm] at g17; cases g17
      | some t => exact endO_some (by rw [hourP_eq, h20, hm]; rfl)
  · try simp only [zq1, zq2, zq3, zq4, zq5, zq6, zq7, zq8] at g17
    refine WL.no (SO.fail (Enters.func Tryz.call61 rfl) (fun w hI => must_no _ _) ?_)
    refine WP.thenPanic ?_
    refine WP.panicBody rfl (fun w hI => ⟨endO_none ?_, hI.keep⟩)
    rw [hourP_eq]
    rw [mkF_eq] at g17
    first
      | (rw [h20]; cases markO _ <;> rfl)
      | (cases hm : markO (s.drop (Lib.trimRightS s [63, 33]).length) with
        | none => rfl
        | some t => rw [hm] at g17; cases g17)

theorem fseenP_g (s : Bs) (hs : s.length ≤ 2 ^ 20) (D : Imm) (hL : LibD D) (w : World) (hH : Holds D w) : Try1 109 [st s] w ((fseenP s).map fun x => .agg (seenC x).toArray) := by
  unfold Try1
  refine enter Tryz.func109 rfl 15 Tryz.ntmps109 (zqb rfl) (Inv.start hH) ?_
  refine WC.seq (WC.ofFr [(0, _)] ⟨rfl, trivial⟩ (WC.region ?_))
  refine WL.so (SO.alloc Tryz.zeroValue141 rfl) rfl ?_
  rintro _ _ _ ⟨b2, hb2, rfl, rfl, rfl⟩
  refine WL.nil (WP.thenC (WC.seq (WC.ofFr [(2, _), (0, _)] ⟨rfl, rfl, trivial⟩ (WC.region ?_))))
  refine zym rfl rfl ?_
  refine WL.so (SO.callP Tryz.call110 rfl (fun w hI => cutS_g s [43] (by omega) _)) rfl ?_
  rintro _ _ _ ⟨rfl, rfl, rfl⟩
  refine zym rfl rfl ?_
  refine WL.yd (Yd.extract rfl rfl) rfl ?_
  refine WL.yd (Yd.extract rfl rfl) rfl ?_
  refine zya rfl rfl ?_
  refine zya rfl rfl ?_
  refine WL.nil (WP.thenC (WC.seq (WC.ofFr [(4, _), (3, _), (2, _)] ⟨rfl, rfl, rfl, trivial⟩ (WC.region ?_))))
  refine zym rfl rfl ?_
  refine WL.so (SO.callP Tryz.call111 rfl (fun w hI => trimS_g _ [45] (by have := trimS_len s [43]; omega) _)) rfl ?_
  rintro _ _ _ ⟨rfl, rfl, rfl⟩
  rcases h12 : numP (Lib.trimSuffix (Lib.trimSuffix s [43]) [45]) with _ | x
  · refine WL.no (SO.fail (Enters.func Tryz.call95 rfl) (fun w hI => (number_g _ (by have h1 := trimS_len s [43]; have h2 := trimS_len (Lib.trimSuffix s [43]) [45]; omega) D hL _ hI.imm).no (by rw [h12]; rfl)) ?_)
    refine WP.thenPanic ?_
    refine WP.panicBody rfl (fun w hI => ⟨endO_none (by unfold fseenP; rw [h12]; rfl), hI.keep⟩)
  · skip
    refine WL.so (SO.callP Tryz.call95 rfl (fun w hI => (number_g _ (by have h1 := trimS_len s [43]; have h2 := trimS_len (Lib.trimSuffix s [43]) [45]; omega) D hL _ hI.imm).ok (by rw [h12]; rfl))) rfl ?_
    rintro _ _ _ ⟨rfl, rfl, rfl⟩
    refine zym rfl rfl ?_
    refine WL.yd (Yd.build SA141 rfl (cs := [_, _]) rfl) rfl ?_
    refine WL.so (SO.store 0 rfl Tryz.sizeOf141 rfl rfl rfl rfl (zqb rfl) (oneB_spec rfl)) rfl ?_
    rintro _ _ _ ⟨rfl, rfl, rfl⟩
    refine WL.nil (WP.thenC (WC.ret ?_))
    refine WP.ret1 rfl rfl Tryz.results109 (RV.cellN Tryz.isAgg141 Tryz.sizeOf141 rfl (vs := [_, _]) rfl (by first | exact rn0 (n := 2) rfl rfl)) (fun w hI => ⟨endO_some (by unfold fseenP; rw [h12]; rfl), hI.keep⟩)

theorem bseenP_g (s : Bs) (hs : s.length ≤ 2 ^ 20) (D : Imm) (hL : LibD D) (w : World) (hH : Holds D w) : Try1 119 [st s] w ((bseenP s).map fun x => .agg (bsC x).toArray) := by
  unfold Try1
  have hc1 := cut_len s [64]
  have hc2 := cut_len (Lib.cut s [64]).2.1 [44]
  refine enter Tryz.func119 rfl 33 Tryz.ntmps119 (zqb rfl) (Inv.start hH) ?_
  refine WC.seq (WC.ofFr [(0, _)] ⟨rfl, trivial⟩ (WC.region ?_))
  refine WL.so (SO.alloc Tryz.zeroValue143 rfl) rfl ?_
  rintro _ _ _ ⟨b2, hb2, rfl, rfl, rfl⟩
  refine WL.nil (WP.thenC (WC.seq (WC.ofFr [(2, _), (0, _)] ⟨rfl, rfl, trivial⟩ (WC.region ?_))))
  refine zym rfl rfl ?_
  refine WL.so (SO.callP Tryz.call102 rfl (fun w hI => cut_g s [64] hs D hL _ hI.imm)) rfl ?_
  rintro _ _ _ ⟨rfl, rfl, rfl⟩
  refine zym rfl rfl ?_
  refine WL.yd (Yd.extract rfl rfl) rfl ?_
  refine WL.yd (Yd.extract rfl rfl) rfl ?_
  refine WL.yd (Yd.extract rfl rfl) rfl ?_
  refine zya rfl rfl ?_
  refine zya rfl rfl ?_
  refine zya rfl rfl ?_
  refine WL.nil (WP.thenC (WC.seq (WC.ofFr [(5, _), (4, _), (3, _), (2, _)] ⟨rfl, rfl, rfl, rfl, trivial⟩ (WC.region ?_))))
  refine zym rfl rfl ?_
  refine WL.so (SO.callP Tryz.call102 rfl (fun w hI => cut_g _ [44] (by omega) D hL _ hI.imm)) rfl ?_
  rintro _ _ _ ⟨rfl, rfl, rfl⟩
  refine zym rfl rfl ?_
  refine WL.yd (Yd.extract rfl rfl) rfl ?_
  refine WL.yd (Yd.extract rfl rfl) rfl ?_
  refine WL.yd (Yd.extract rfl rfl) rfl ?_
  refine zya rfl rfl ?_
  refine zya rfl rfl ?_
  refine zya rfl rfl ?_
  refine WL.nil (WP.thenC (WC.seq (WC.ofFr [(8, _), (7, _), (6, _), (5, _), (3, _), (2, _)] ⟨rfl, rfl, rfl, rfl, rfl, rfl, trivial⟩ (WC.region ?_))))
  refine zym rfl rfl ?_
  refine zym rfl rfl ?_
  refine WL.part 22 rfl (fun g22 => ?_) (fun g22 => ?_)
  · try simp only [zq1, zq2, zq3, zq4, zq5, zq6, zq7, zq8] at g22
    refine WL.ydg rfl (Yd.move rfl) rfl ?_
    refine WL.yd (Yd.pickT rfl rfl) rfl ?_
    refine WL.part 24 rfl (fun g24 => ?_) (fun g24 => ?_)
    · try simp only [zq1, zq2, zq3, zq4, zq5, zq6, zq7, zq8] at g24
      refine WL.so (SO.call (Enters.func Tryz.call61 rfl) (fun w hI => must_ok _ _)) rfl ?_
      rintro _ _ _ ⟨rfl, rfl, rfl⟩
      refine WL.nil (WP.thenC (WC.seq (WC.ofFr [(7, _), (6, _), (3, _), (2, _)] ⟨rfl, rfl, rfl, rfl, trivial⟩ (WC.region ?_))))
      refine zym rfl rfl ?_
      rcases h27 : numP (Lib.cut s [64]).1 with _ | x
      · refine WL.no (SO.fail (Enters.func Tryz.call95 rfl) (fun w hI => (number_g _ (by omega) D hL _ hI.imm).no (by rw [h27]; rfl)) ?_)
        refine WP.thenPanic ?_
        refine WP.panicBody rfl (fun w hI => ⟨endO_none (by simp_all [bseenP]), hI.keep⟩)
      · skip
        refine WL.so (SO.callP Tryz.call95 rfl (fun w hI => (number_g _ (by omega) D hL _ hI.imm).ok (by rw [h27]; rfl))) rfl ?_
        rintro _ _ _ ⟨rfl, rfl, rfl⟩
        refine zym rfl rfl ?_
        rcases h29 : spanP (Lib.cut (Lib.cut s [64]).2.1 [44]).1 with _ | y
        · refine WL.no (SO.fail (Enters.func Tryz.call107 rfl) (fun w hI => (span_g _ (by omega) D hL _ hI.imm).no (by rw [h29]; rfl)) ?_)
          refine WP.thenPanic ?_
          refine WP.panicBody rfl (fun w hI => ⟨endO_none (by simp_all [bseenP]), hI.keep⟩)
        · skip
          refine WL.so (SO.callP Tryz.call107 rfl (fun w hI => (span_g _ (by omega) D hL _ hI.imm).ok (by rw [h29]; rfl))) rfl ?_
          rintro _ _ _ ⟨rfl, rfl, rfl⟩
          refine zym rfl rfl ?_
          rcases h31 : spanP (Lib.cut (Lib.cut s [64]).2.1 [44]).2.1 with _ | z
          · refine WL.no (SO.fail (Enters.func Tryz.call107 rfl) (fun w hI => (span_g _ (by omega) D hL _ hI.imm).no (by rw [h31]; rfl)) ?_)
            refine WP.thenPanic ?_
            refine WP.panicBody rfl (fun w hI => ⟨endO_none (by simp_all [bseenP]), hI.keep⟩)
          · skip
            refine WL.so (SO.callP Tryz.call107 rfl (fun w hI => (span_g _ (by omega) D hL _ hI.imm).ok (by rw [h31]; rfl))) rfl ?_
            rintro _ _ _ ⟨rfl, rfl, rfl⟩
            refine WL.yd (Yd.build SA143 rfl (cs := [_, _, _, _, _]) rfl) rfl ?_
            refine WL.so (SO.store 0 rfl Tryz.sizeOf143 rfl rfl rfl rfl (zqb rfl) (oneB_spec rfl)) rfl ?_
            rintro _ _ _ ⟨rfl, rfl, rfl⟩
            refine WL.nil (WP.thenC (WC.ret ?_))
            refine WP.ret1 rfl rfl Tryz.results119 (RV.cellN Tryz.isAgg143 Tryz.sizeOf143 rfl (vs := [_, _, _, _, _]) rfl (by first | exact rn0 (n := 5) rfl rfl)) (fun w hI => ⟨endO_some ((congrArg (Option.map _) (show bseenP s = some ⟨x, y, z⟩ by simp_all [bseenP])).trans rfl), hI.keep⟩)
    · try simp only [zq1, zq2, zq3, zq4, zq5, zq6, zq7, zq8] at g24
      refine WL.no (SO.fail (Enters.func Tryz.call61 rfl) (fun w hI => must_no _ _) ?_)
      refine WP.thenPanic ?_
      refine WP.panicBody rfl (fun w hI => ⟨endO_none (by simp_all [bseenP]), hI.keep⟩)
  · try simp only [zq1, zq2, zq3, zq4, zq5, zq6, zq7, zq8] at g22
    refine WL.skip rfl rfl ?_
    refine WL.yd (Yd.pickF rfl rfl) rfl ?_
    refine WL.no (SO.fail (Enters.func Tryz.call61 rfl) (fun w hI => must_no _ _) ?_)
    refine WP.thenPanic ?_
    refine WP.panicBody rfl (fun w hI => ⟨endO_none (by simp_all [bseenP]), hI.keep⟩)

end Go.Proofs.YtaebnllfmkcpgaaGreatDoor
