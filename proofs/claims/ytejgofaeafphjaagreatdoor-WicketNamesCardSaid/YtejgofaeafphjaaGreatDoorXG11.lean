import Derived.Test.YtejgofaeafphjaaGreatDoorXG10
import Derived.Test.YtejgofaeafphjaaGreatDoorXG2
import Derived.Test.YtejgofaeafphjaaGreatDoorXG7
import Derived.Test.YtejgofaeafphjaaGreatDoorXG8
import Derived.Test.YtejgofaeafphjaaGreatDoorXG3
set_option linter.unusedSimpArgs false
set_option linter.unusedVariables false
set_option linter.all false
set_option maxRecDepth 100000
set_option maxHeartbeats 4000000
attribute [local irreducible] Go.W.WL Go.W.WLF Go.W.WC Go.W.WCF Go.W.WP Go.W.WA Go.W.WQ Go.W.WH Go.W.WHo Go.W.WCn Go.Code.wp Go.Code.wpIn
namespace Go.Proofs.YtejgofaeafphjaaGreatDoor
open Go.W Go.Ti
theorem word_some {x : Wick} {bq : Nat → Nat} {D : Imm} (hE : EntH bq D 4) {y : Bs} {v : Value} (h : (w9L ++ entW bq 4).lookup y = some v) : ∃ (n : Nat) (f : FuncId) (cap : List Value), v = wdV n (.func (.func f) #[] cap.toArray) ∧ wordN y = some n ∧ DoX x f cap n (fun d ls => doD x d y ls) D := by
  change List.lookup y [(ticketS, wdV 5 (.func (.func 151) #[] #[])), (lookS, wdV 4 (.func (.func 152) #[] #[])), (turnS, wdV 1 (.func (.func 153) #[] #[])), (whoseS, wdV 1 (.func (.func 154) #[] #[])), (freeS, wdV 2 (.func (.func 155) #[] #[])), (depthS_, wdV 2 (.func (.func 156) #[] #[])), (firstS, wdV 3 (.func (.func 157) #[] #[])), (bookS, wdV 0 (.func (.func 158) #[] #[])), (sumS, wdV 0 (.func (.func 159) #[] #[])), (payS, wdV 1 (bkV (bq 1))), (fineS, wdV 1 (bkV (bq 2))), (backS, wdV 2 (bkV (bq 3)))] = some v at h
  by_cases e0 : y = ticketS
  · subst e0
    rw [List.lookup_cons, beq_self_eq_true] at h
    dsimp only at h
    cases h
    exact ⟨5, _, [], rfl, by decide, do_sellX x D⟩
  rw [List.lookup_cons, show (y == ticketS) = false by simpa using e0] at h
  dsimp only at h
  by_cases e1 : y = lookS
  · subst e1
    rw [List.lookup_cons, beq_self_eq_true] at h
    dsimp only at h
    cases h
    exact ⟨4, _, [], rfl, by decide, do_lookX x D⟩
  rw [List.lookup_cons, show (y == lookS) = false by simpa using e1] at h
  dsimp only at h
  by_cases e2 : y = turnS
  · subst e2
    rw [List.lookup_cons, beq_self_eq_true] at h
    dsimp only at h
    cases h
    exact ⟨1, _, [], rfl, by decide, do_turnX x D⟩
  rw [List.lookup_cons, show (y == turnS) = false by simpa using e2] at h
  dsimp only at h
  by_cases e3 : y = whoseS
  · subst e3
    rw [List.lookup_cons, beq_self_eq_true] at h
    dsimp only at h
    cases h
    exact ⟨1, _, [], rfl, by decide, do_whoseX x D⟩
  rw [List.lookup_cons, show (y == whoseS) = false by simpa using e3] at h
  dsimp only at h
  by_cases e4 : y = freeS
  · subst e4
    rw [List.lookup_cons, beq_self_eq_true] at h
    dsimp only at h
    cases h
    exact ⟨2, _, [], rfl, by decide, do_freeX x D⟩
  rw [List.lookup_cons, show (y == freeS) = false by simpa using e4] at h
  dsimp only at h
  by_cases e5 : y = depthS_
  · subst e5
    rw [List.lookup_cons, beq_self_eq_true] at h
    dsimp only at h
    cases h
    exact ⟨2, _, [], rfl, by decide, do_depthX x D⟩
  rw [List.lookup_cons, show (y == depthS_) = false by simpa using e5] at h
  dsimp only at h
  by_cases e6 : y = firstS
  · subst e6
    rw [List.lookup_cons, beq_self_eq_true] at h
    dsimp only at h
    cases h
    exact ⟨3, _, [], rfl, by decide, do_firstX x D⟩
  rw [List.lookup_cons, show (y == firstS) = false by simpa using e6] at h
  dsimp only at h
  by_cases e7 : y = bookS
  · subst e7
    rw [List.lookup_cons, beq_self_eq_true] at h
    dsimp only at h
    cases h
    exact ⟨0, _, [], rfl, by decide, do_bookX x D⟩
  rw [List.lookup_cons, show (y == bookS) = false by simpa using e7] at h
  dsimp only at h
  by_cases e8 : y = sumS
  · subst e8
    rw [List.lookup_cons, beq_self_eq_true] at h
    dsimp only at h
    cases h
    exact ⟨0, _, [], rfl, by decide, do_sumX x D⟩
  rw [List.lookup_cons, show (y == sumS) = false by simpa using e8] at h
  dsimp only at h
  by_cases e9 : y = payS
  · subst e9
    rw [List.lookup_cons, beq_self_eq_true] at h
    dsimp only at h
    cases h
    exact ⟨1, _, [pt (bq 1)], rfl, by decide, do_payX x D (bq 1) (hE 1 (by omega) (by omega))⟩
  rw [List.lookup_cons, show (y == payS) = false by simpa using e9] at h
  dsimp only at h
  by_cases e10 : y = fineS
  · subst e10
    rw [List.lookup_cons, beq_self_eq_true] at h
    dsimp only at h
    cases h
    exact ⟨1, _, [pt (bq 2)], rfl, by decide, do_fineX x D (bq 2) (hE 2 (by omega) (by omega))⟩
  rw [List.lookup_cons, show (y == fineS) = false by simpa using e10] at h
  dsimp only at h
  by_cases e11 : y = backS
  · subst e11
    rw [List.lookup_cons, beq_self_eq_true] at h
    dsimp only at h
    cases h
    exact ⟨2, _, [pt (bq 3)], rfl, by decide, do_backX x D (bq 3) (hE 3 (by omega) (by omega))⟩
  rw [List.lookup_cons, show (y == backS) = false by simpa using e11] at h
  dsimp only at h
  cases h
theorem word_none {bq : Nat → Nat} {y : Bs} (h : (w9L ++ entW bq 4).lookup y = none) : wordN y = none := by
  have hne : ∀ s v, (s, v) ∈ [(ticketS, wdV 5 (.func (.func 151) #[] #[])), (lookS, wdV 4 (.func (.func 152) #[] #[])), (turnS, wdV 1 (.func (.func 153) #[] #[])), (whoseS, wdV 1 (.func (.func 154) #[] #[])), (freeS, wdV 2 (.func (.func 155) #[] #[])), (depthS_, wdV 2 (.func (.func 156) #[] #[])), (firstS, wdV 3 (.func (.func 157) #[] #[])), (bookS, wdV 0 (.func (.func 158) #[] #[])), (sumS, wdV 0 (.func (.func 159) #[] #[])), (payS, wdV 1 (bkV (bq 1))), (fineS, wdV 1 (bkV (bq 2))), (backS, wdV 2 (bkV (bq 3)))] → y ≠ s := by
    rintro s v hm rfl
    change List.lookup y [(ticketS, wdV 5 (.func (.func 151) #[] #[])), (lookS, wdV 4 (.func (.func 152) #[] #[])), (turnS, wdV 1 (.func (.func 153) #[] #[])), (whoseS, wdV 1 (.func (.func 154) #[] #[])), (freeS, wdV 2 (.func (.func 155) #[] #[])), (depthS_, wdV 2 (.func (.func 156) #[] #[])), (firstS, wdV 3 (.func (.func 157) #[] #[])), (bookS, wdV 0 (.func (.func 158) #[] #[])), (sumS, wdV 0 (.func (.func 159) #[] #[])), (payS, wdV 1 (bkV (bq 1))), (fineS, wdV 1 (bkV (bq 2))), (backS, wdV 2 (bkV (bq 3)))] = none at h
    rw [List.lookup_eq_none_iff] at h
    exact absurd (h _ hm) (by simp)
  unfold wordN
  rw [if_neg (hne ticketS _ (by repeat (first | exact List.mem_cons_self | apply List.mem_cons_of_mem)))]; rw [if_neg (hne lookS _ (by repeat (first | exact List.mem_cons_self | apply List.mem_cons_of_mem)))]; rw [if_neg (hne turnS _ (by repeat (first | exact List.mem_cons_self | apply List.mem_cons_of_mem)))]; rw [if_neg (hne whoseS _ (by repeat (first | exact List.mem_cons_self | apply List.mem_cons_of_mem)))]; rw [if_neg (hne freeS _ (by repeat (first | exact List.mem_cons_self | apply List.mem_cons_of_mem)))]; rw [if_neg (hne depthS_ _ (by repeat (first | exact List.mem_cons_self | apply List.mem_cons_of_mem)))]; rw [if_neg (hne firstS _ (by repeat (first | exact List.mem_cons_self | apply List.mem_cons_of_mem)))]; rw [if_neg (hne bookS _ (by repeat (first | exact List.mem_cons_self | apply List.mem_cons_of_mem)))]; rw [if_neg (hne sumS _ (by repeat (first | exact List.mem_cons_self | apply List.mem_cons_of_mem)))]; rw [if_neg (hne payS _ (by repeat (first | exact List.mem_cons_self | apply List.mem_cons_of_mem)))]; rw [if_neg (hne fineS _ (by repeat (first | exact List.mem_cons_self | apply List.mem_cons_of_mem)))]; rw [if_neg (hne backS _ (by repeat (first | exact List.mem_cons_self | apply List.mem_cons_of_mem)))]
def tkO (a : Option Addr) (n c : Nat) : Obj := .cells (List.toArray [.slice a n c]) 129 (0, 0)
def strC (p : Bs) : List Value := [st p]
def NumK (s : Bs) (tb : Nat) (a : Option Addr) (n c : Nat) (v : Value) (D' : Imm) (hp' : Hp) : Prop := (∃ z, Go.Ti.numP s = some z ∧ v = it z) ∧ hp' = [(tb, tkO (fromA a c 1 1) (n - 1) (c - 1))]
def NumC (s : Bs) (ch : List PanicEntry) (_ : Imm) (_ : Hp) : Prop := Go.Ti.numP s = none ∧ ch = stopW 8
theorem num_no {s : Bs} (h : ∀ v, Lib.atoiAll s ≠ .ok v) : Go.Ti.numP s = none := by
  unfold Go.Ti.numP
  split
  · rename_i v e; exact absurd e (h v)
  rfl
theorem num_if {s : Bs} {v : Int} (h : Lib.atoiAll s = .ok v) : Go.Ti.numP s = if 0 ≤ v ∧ s.length ≤ 6 ∧ Lib.itoa v = s then some v else none := by unfold Go.Ti.numP; rw [h]
theorem atoi_i64 {s : Bs} {v : Int} (h : Lib.atoiAll s = .ok v) : i64B v := by
  unfold Lib.atoiAll at h
  unfold i64B
  split at h
  · cases h
  dsimp only at h
  split at h
  · cases h
  · cases h
  split at h
  · cases h
  split at h
  · cases h
  cases h
  split <;> omega
theorem splitC_g (s : Bs) (c : UInt8) (hs : s.length ≤ 2 ^ 20) (D : Imm) (hL : LibW D) (w : World) (hH : Holds D w) : Makes Tryz.prog 72 [st s, st [c]] w D (fun v D' => ∃ a n cp, v = .slice a n cp ∧ n ≤ cp ∧ SlL D' 1 ((Lib.split s [c]).map fun p => [st p]) a n) := by
  obtain ⟨m, hm⟩ := hL.max hH
  refine (Any.strings_Split lays146 zk ⟨s.toArray⟩ ⟨List.toArray [c]⟩ m w (by rw [st_size]; omega) hm (by rw [st_size]; simp)).mono fun e' w' ⟨h1, h2⟩ => ?_
  subst h2
  have hI := (Inv.start hH).new (.cells ((Lib.splitB ⟨List.toArray [c]⟩ 0 (Lib.countB ⟨s.toArray⟩ ⟨List.toArray [c]⟩) ⟨s.toArray⟩).map Value.string).toArray 9)
  have hlen : (Lib.split s [c]).length = Lib.countB ⟨s.toArray⟩ ⟨List.toArray [c]⟩ + 1 := by
    have := Lib.splitB_all ⟨List.toArray [c]⟩ (by rw [st_size]; simp) 0 _ ⟨s.toArray⟩ rfl
    have h3 := congrArg List.length (Lib.splitB_data ⟨List.toArray [c]⟩ 0 (Lib.countB ⟨s.toArray⟩ ⟨List.toArray [c]⟩) ⟨s.toArray⟩)
    rw [List.length_map, this] at h3
    exact h3.symm
  have hd : (Lib.splitB ⟨List.toArray [c]⟩ 0 (Lib.countB ⟨s.toArray⟩ ⟨List.toArray [c]⟩) ⟨s.toArray⟩).map Value.string = ((Lib.split s [c]).flatMap fun p => [st p]) ++ [] := by
    have h3 := Lib.splitB_data ⟨List.toArray [c]⟩ 0 (Lib.countB ⟨s.toArray⟩ ⟨List.toArray [c]⟩) ⟨s.toArray⟩
    have h4 : Lib.split s [c] = (Lib.splitB ⟨List.toArray [c]⟩ 0 (Lib.countB ⟨s.toArray⟩ ⟨List.toArray [c]⟩) ⟨s.toArray⟩).map (·.data.toList) := h3.symm
    rw [h4, List.append_nil]
    induction (Lib.splitB ⟨List.toArray [c]⟩ 0 (Lib.countB ⟨s.toArray⟩ ⟨List.toArray [c]⟩) ⟨s.toArray⟩) with
    | nil => rfl
    | cons x l ih => rw [List.map_cons, List.map_cons, List.flatMap_cons, ← ih]; rfl
  refine ⟨_, _, h1, hI.keep, hI.freeze.imm, ?_, ?_⟩
  · exact (DExt.refl w D).add (hI.apart _ _ (List.mem_cons_self)) (Nat.le_refl _)
  exact ⟨_, _, _, rfl, Nat.le_refl _, by rw [← hlen]; exact SlL.ofBlock (rest := []) (fun _ => rfl) (by rw [← hd]; exact Imm.add_self _ _ _)⟩
theorem number1_g (tb : Nat) (ss : List Bs) (a : Option Addr) (n c : Nat) (D : Imm) (w : World) (hL : LibW D) (hS : SlL D 1 (ss.map strC) a n) (h1 : 1 ≤ n) (hc : n ≤ c) (hl : (gt ss 0).length ≤ 2 ^ 20) (hI0 : Inv D [(tb, tkO a n c)] [tb] w w) (v : Int) (hv : Lib.atoiAll (gt ss 0) = .ok v) : AltersV Tryz.prog 161 [pt tb] w D [tb] (NumK (gt ss 0) tb a n c) (NumC (gt ss 0)) := by
  unfold AltersV
  refine en Tryz.func161 rfl Tryz.ntmps161 hI0 (g [[1],[5,0],[5,2,0]] ?_)
  refine WL.yd (Yd.ix rfl rfl (hS.addr 0 (by omega))) rfl (WL.yd (Yd.l1 rfl ((hS.at 0 (by omega)).rd 0 rfl)) rfl (g [[4],[6,3,2,0]] ?_))
  refine WL.yd (Yd.sliceFrom (k := 1) Tryz.underlying37 Tryz.sizeOf9 rfl rfl (by omega)) rfl (g [[6],[2,3,2]] ?_)
  refine WL.cl rfl (fun w hI => atoi_ok _ (by omega) v hv _) (g [[8],[2,5,4,3,2]] ?_)
  refine WL.yd (Yd.eqlNilNil UnF.h rfl) rfl (g [[5]] ?_)
  refine WL.part 31 rfl (fun g31 => ?_) (fun g31 => ?_)
  · try simp only [zq] at g31
    refine g [[1]] ?_
    refine WL.ydg rfl (Yd.lenStr rfl Tryz.underlying9 rfl) rfl (g [[3]] ?_)
    refine WL.part 36 rfl (fun g36 => ?_) (fun g36 => ?_)
    · try simp only [zq] at g36
      refine g [[1]] ?_
      refine WL.sog rfl (SO.callP CaF.h rfl (fun w hI => itoa_g v (atoi_i64 hv) D hL _ hI.imm)) rfl (zs (g [[1]] ?_))
      refine WL.ydg rfl (Yd.eqS' rfl rfl) rfl (g [[1]] ?_)
      refine WL.part 41 rfl (fun g41 => ?_) (fun g41 => ?_)
      · try simp only [zq] at g41
        refine WL.cl rfl (fun w hI => mustW_ok _ _) (g [[3],[6,4,2]] ?_)
        refine WP.ret1 rfl rfl rfl (RV.tmp rfl) (fun w1 hI => ⟨D, [_], DExt.refl _ _, hI, .inl ⟨_, rfl, ⟨v, by rw [num_if hv, if_pos ⟨by omega, by omega, by assumption⟩], rfl⟩, rfl⟩⟩)
      try simp only [zq] at g41
      refine WL.nf rfl (fun w hI => mustW_no _ _) (g [[1]] ?_)
      exact WP.panicBody rfl (fun w1 hI => ⟨D, [_], DExt.refl _ _, hI, .inr ⟨_, rfl, by rw [num_if hv, if_neg]; rintro ⟨k1, k2, k3⟩; first | exact g41 k3 | omega, rfl⟩⟩)
    try simp only [zq] at g36
    refine g [[5]] ?_
    refine WL.nf rfl (fun w hI => mustW_no _ _) (g [[1]] ?_)
    exact WP.panicBody rfl (fun w1 hI => ⟨D, [_], DExt.refl _ _, hI, .inr ⟨_, rfl, by rw [num_if hv, if_neg]; rintro ⟨k1, k2, k3⟩; first | exact g41 k3 | omega, rfl⟩⟩)
  try simp only [zq] at g31
  refine g [[10]] ?_
  refine WL.nf rfl (fun w hI => mustW_no _ _) (g [[1]] ?_)
  exact WP.panicBody rfl (fun w1 hI => ⟨D, [_], DExt.refl _ _, hI, .inr ⟨_, rfl, by rw [num_if hv, if_neg]; rintro ⟨k1, k2, k3⟩; first | exact g41 k3 | omega, rfl⟩⟩)
theorem number0_g (tb : Nat) (ss : List Bs) (a : Option Addr) (n c : Nat) (D : Imm) (w : World) (hL : LibW D) (hS : SlL D 1 (ss.map strC) a n) (h1 : 1 ≤ n) (hc : n ≤ c) (hl : (gt ss 0).length ≤ 2 ^ 20) (hI0 : Inv D [(tb, tkO a n c)] [tb] w w) (hv : ∀ v, Lib.atoiAll (gt ss 0) ≠ .ok v) : AltersV Tryz.prog 161 [pt tb] w D [tb] (NumK (gt ss 0) tb a n c) (NumC (gt ss 0)) := by
  unfold AltersV
  refine en Tryz.func161 rfl Tryz.ntmps161 hI0 (g [[1],[5,0],[5,2,0]] ?_)
  refine WL.yd (Yd.ix rfl rfl (hS.addr 0 (by omega))) rfl (WL.yd (Yd.l1 rfl ((hS.at 0 (by omega)).rd 0 rfl)) rfl (g [[4],[6,3,2,0]] ?_))
  refine WL.yd (Yd.sliceFrom (k := 1) Tryz.underlying37 Tryz.sizeOf9 rfl rfl (by omega)) rfl (g [[6],[2,3,2]] ?_)
  refine WL.so (SO.news (Enters.func CaF.h rfl) (fun w hI => atoi_no _ (by omega) hv D hL w hI.imm)) rfl ?_
  rintro _ D1 _ ⟨_, hX1, ⟨rfl, z, tt, p, rfl⟩, rfl⟩
  refine g [[8],[2,5,4,3,2]] ?_
  refine WL.yd (Yd.eqlNil UnF.h rfl) rfl (g [[15]] ?_)
  refine WL.nf rfl (fun w hI => mustW_no _ _) (g [[1]] ?_)
  exact WP.panicBody rfl (fun w1 hI => ⟨D1, [_], hX1, hI, .inr ⟨_, rfl, num_no hv, rfl⟩⟩)
end Go.Proofs.YtejgofaeafphjaaGreatDoor
namespace Go.Proofs.YtejgofaeafphjaaGreatDoor
open Go.W Go.Ti
theorem gt_drop {α : Type} [Inhabited α] (l : List α) (k : Nat) : gt (l.drop k) 0 = gt l k := by simp [gt, List.getD]
theorem number_g (tb : Nat) (ss : List Bs) (a : Option Addr) (n c : Nat) (D : Imm) (w : World) (hL : LibW D) (hS : SlL D 1 (ss.map strC) a n) (h1 : 1 ≤ n) (hc : n ≤ c) (hl : (gt ss 0).length ≤ 2 ^ 20) (hI0 : Inv D [(tb, tkO a n c)] [tb] w w) : AltersV Tryz.prog 161 [pt tb] w D [tb] (NumK (gt ss 0) tb a n c) (NumC (gt ss 0)) := by
  by_cases h : ∃ v, Lib.atoiAll (gt ss 0) = .ok v
  · obtain ⟨v, hv⟩ := h
    exact number1_g tb ss a n c D w hL hS h1 hc hl hI0 v hv
  exact number0_g tb ss a n c D w hL hS h1 hc hl hI0 (fun v e => h ⟨v, e⟩)
theorem nums_no {s : Bs} : ∀ {ss : List Bs}, s ∈ ss → Go.Ti.numP s = none → numsL ss = none
  | x :: ss, h, hn => by
    rcases List.mem_cons.1 h with rfl | h
    · rw [numsL, hn]; rfl
    rw [numsL, nums_no h hn]
    cases Go.Ti.numP x <;> rfl
theorem nums_snoc {s : Bs} {v : Int} (hv : Go.Ti.numP s = some v) : ∀ {ss : List Bs} {l : List Int}, numsL ss = some l → numsL (ss ++ [s]) = some (l ++ [v])
  | [], l, h => by cases h; rw [List.nil_append, numsL, hv]; rfl
  | x :: ss, l, h => by
    rw [numsL] at h
    rw [List.cons_append, numsL]
    cases hx : Go.Ti.numP x with
    | none => rw [hx] at h; cases h
    | some u =>
      rw [hx] at h
      cases hr : numsL ss with
      | none => rw [hr] at h; cases h
      | some r => rw [hr] at h; cases h; rw [nums_snoc hv hr]; rfl
def AllK (ss : List Bs) (v : Value) (D' : Imm) (_ : Hp) : Prop := ∃ (l : List Int) (al : Option Addr) (nl cl : Nat), numsL ss = some l ∧ v = .slice al nl cl ∧ SlL D' 1 (l.map intC) al nl ∧ nl = ss.length
def AllC (ss : List Bs) (ch : List PanicEntry) (_ : Imm) (_ : Hp) : Prop := numsL ss = none ∧ ch = stopW 8
theorem all_g (tb : Nat) (ss : List Bs) (a : Option Addr) (c : Nat) (D : Imm) (w : World) (hL : LibW D) (hS : SlL D 1 (ss.map strC) a ss.length) (hc : ss.length ≤ c) (hll : ss.length ≤ 1000) (hlen : ∀ s ∈ ss, s.length ≤ 2 ^ 20) (hI0 : Inv D [(tb, tkO a ss.length c)] [tb] w w) : AltersV Tryz.prog 74 [pt tb] w D [tb] (AllK ss) (AllC ss) := by
  unfold AltersV
  refine en Tryz.func74 rfl Tryz.ntmps74 hI0 (g [[1],[4,0]] ?_)
  refine WC.scope (g [[1],[7,2,0]] ?_)
  refine WC.label (g [[3]] ?_)
  refine WC.loop (fun y : Nat × Imm × Option Ow × Option Addr × Nat × List Int => [(0, pt tb), (2, owV y.2.2.1 y.1), (3, .func (.func 161) #[pt tb] #[])]) (fun y => (tb, tkO y.2.2.2.1 (ss.length - y.1) y.2.2.2.2.1) :: owH y.2.2.1 3 (y.2.2.2.2.2.flatMap intC) []) (fun y => y.2.1) (fun y => y.1 ≤ ss.length ∧ DExt w D y.2.1 ∧ owP w y.2.2.1 y.1 1 ∧ SlL y.2.1 1 ((ss.drop y.1).map strC) y.2.2.2.1 (ss.length - y.1) ∧ ss.length - y.1 ≤ y.2.2.2.2.1 ∧ y.2.2.2.2.2.length = y.1 ∧ numsL (ss.take y.1) = some y.2.2.2.2.2) (fun y => ss.length - y.1) ⟨0, D, none, a, c, []⟩ ⟨by omega, DExt.refl _ _, rfl, hS, hc, rfl, rfl⟩ (fun a w h => at_fr h ⟨rfl, rfl, rfl, trivial⟩) ?_
  rintro ⟨k, D1, o, a1, c1, lk⟩ ⟨hk, hX1, ho, hS1, hc1, hlk, hnk⟩
  dsimp only at hk hX1 ho hS1 hc1 hlk hnk
  refine g [[3],[9,0,2,3]] ?_
  refine WC.cond rfl (fun c11 => ?_) (fun c11 => ?_)
  · try simp only [zq] at c11
    obtain rfl : k = ss.length := by omega
    refine g [[7],[2,2]] ?_
    refine WL.know 17 (.slice (owAt o) ss.length (owCp o ss.length)) rfl (owV_owL (owL_of ho)) ?_
    refine WL.freezeOw (f := intC) (m := 1) intC_len [_] [] o 3 lk rfl (by rw [hlk]; exact ho) rfl (fun D3 hX3 hS3 => ?_)
    refine g [[4]] ?_
    refine WP.scRet ?_
    refine WP.ret1 rfl rfl rfl (RV.tmp rfl) (fun w1 hI => ⟨D3, _, hX1.trans hX3 (Nat.le_refl _), hI, .inl ⟨_, rfl, lk, _, _, _, by rw [← hnk, List.take_length], rfl, (by rw [← hlk]; exact hS3), rfl⟩⟩)
  try simp only [zq] at c11
  have hkl : k < ss.length := by omega
  refine g [[2],[3,0,2,3]] ?_
  refine WL.so  (SO.altersV (own := owH o 3 (lk.flatMap intC) []) (hpc := [(tb, tkO a1 (ss.length - k) c1)]) (S1 := [tb]) (fun e he => (List.perm_append_singleton _ _).mem_iff.1 he) (fun hn => ((List.perm_append_singleton _ _).map Prod.fst).nodup_iff.2 hn) (fun _ h => h) (fun _ h => h) (Enters.val CaF.h rfl rfl) (fun w1 _ hI => number_g tb (ss.drop k) a1 _ c1 D1 w1 (hL.ext hX1) hS1 (by omega) hc1 (by rw [gt_drop]; exact hlen _ (gt_mem' hkl)) hI) ?_) rfl ?_
  · rintro ch D5 hp5 ⟨hnn, rfl⟩ hX5
    rw [gt_drop] at hnn
    refine g [[4]] ?_
    refine WP.scPanic ?_
    exact WP.panicBody rfl (fun w1 hI => ⟨D5, _, hX1.trans hX5 (Nat.le_refl _), hI, .inr ⟨_, rfl, nums_no (gt_mem' hkl) hnn, rfl⟩⟩)
  rintro _ D2 _ ⟨hp2, hX2, ⟨⟨z, hz, rfl⟩, rfl⟩, rfl⟩
  rw [gt_drop] at hz
  refine WL.hpPerm ((tb, tkO (fromA a1 c1 1 1) (ss.length - k - 1) (c1 - 1)) :: owH o 3 (lk.flatMap intC) []) (List.perm_append_singleton _ _) (WL.so (SO.buildSlice1 UnF.h SzF.h ZvF.h rfl rfl rfl (vs := [_]) rfl rfl rfl) rfl ?_)
  rintro _ _ _ ⟨b15, hb15, rfl, rfl, rfl⟩
  refine WL.so (SO.appendOwW (W := w) (Nat.le_refl _) (o := o) (len := k) (n := 1) (xs := (lk.flatMap intC)) (size := 1) [_] [_] [] rfl rfl Tryz.underlying94 Tryz.sizeOf3 Tryz.typeInfo3 Tryz.zeroValue3 rfl rfl rfl rfl ⟨rfl, .inr ⟨_, _, _, rfl, RdN.own (k := 0) (n := 1) rfl rfl⟩⟩ (oneB_spec rfl) ho (by rw [flat_len intC_len, hlk, Nat.mul_one]) (by omega) (by show (2 * (k + 1) + 1000) * 8 ≤ 2 ^ 48; omega) (by omega)) rfl ?_
  rintro _ _ _ ⟨u1, hu1, rfl, rfl, rfl⟩
  refine g [[3]] ?_
  exact WP.again (⟨k + 1, D2, some u1, fromA a1 c1 1 1, c1 - 1, lk ++ [z]⟩ : Nat × Imm × Option Ow × Option Addr × Nat × List Int) ⟨by simp only; omega, hX1.trans hX2 (Nat.le_refl _), hu1, by dsimp only; rw [← List.drop_drop, show ss.length - (k + 1) = ss.length - k - 1 by omega]; rw [List.map_drop]; exact (hS1.ext hX2).drop (by omega) hc1, by dsimp only; omega, by dsimp only; rw [List.length_append, hlk]; rfl, by dsimp only; rw [take_gt hkl]; exact nums_snoc hz hnk⟩ (by simp only; omega) (fun aa ww h => at_dropS 0 h ⟨rfl, rfl, rfl, trivial⟩ (by dsimp only; rw [List.flatMap_append]; exact List.Perm.refl _) (fun _ _ h => h))
end Go.Proofs.YtejgofaeafphjaaGreatDoor
namespace Go.Proofs.YtejgofaeafphjaaGreatDoor
open Go.W Go.Ti
theorem SA129 : StructAt Tryz.prog 129 [.slice none 0 0] [(0, 1)] := ⟨⟨_, Tryz.zeroValue129, rfl⟩, _, Tryz.underlying129, fun w => by simp [Tryz.sizeOf37]⟩
@[reducible, instance] def ISA129 := SaF.mk SA129
theorem word_look {x : Wick} {bq : Nat → Nat} {D : Imm} (hE : EntH bq D 4) {y : Bs} {n : Nat} (hN : wordN y = some n) : ∃ (f : FuncId) (cap : List Value), (w9L ++ entW bq 4).lookup y = some (wdV n (.func (.func f) #[] cap.toArray)) ∧ DoX x f cap n (fun d ls => doD x d y ls) D := by
  cases h : (w9L ++ entW bq 4).lookup y with
  | none => rw [word_none h] at hN; cases hN
  | some v =>
    obtain ⟨k, f, cap, rfl, h1, h2⟩ := word_some (x := x) hE h
    rw [h1] at hN; cases hN
    exact ⟨f, cap, rfl, h2⟩
theorem word_miss {bq : Nat → Nat} {D : Imm} (hE : EntH bq D 4) {y : Bs} (hN : wordN y = none) : (w9L ++ entW bq 4).lookup y = none := by
  cases h : (w9L ++ entW bq 4).lookup y with
  | none => rfl
  | some v =>
    obtain ⟨k, f, cap, rfl, h1, h2⟩ := word_some (x := ⟨0, 0, 0, 0, [], []⟩) hE h
    rw [h1] at hN; cases hN
theorem partsR_le : ∀ (s acc p : Bs), p ∈ partsR acc s → p.length ≤ acc.length + s.length
  | [], acc, p, h => by simp only [partsR, List.mem_singleton] at h; subst h; simp
  | c :: s, acc, p, h => by
    rw [partsR] at h
    split at h
    · rcases List.mem_cons.1 h with rfl | h
      · omega
      have := partsR_le s [] p h; simp only [List.length_nil, List.length_cons] at this ⊢; omega
    have := partsR_le s _ p h; simp only [List.length_append, List.length_singleton, List.length_cons] at this ⊢; simp at this; omega
theorem split_le {s p : Bs} (h : p ∈ Lib.split s [32]) : p.length ≤ s.length := by
  rw [split_parts _ s (Nat.le_refl _)] at h
  simpa using partsR_le s [] p h
theorem partsR_num : ∀ (s acc : Bs), (partsR acc s).length ≤ s.length + 1
  | [], acc => by simp [partsR]
  | c :: s, acc => by
    rw [partsR]
    split
    · have := partsR_num s []; simp only [List.length_cons]; omega
    have := partsR_num s (acc ++ [c]); simp only [List.length_cons]; omega
theorem split_num (s : Bs) : (Lib.split s [32]).length ≤ s.length + 1 := by
  rw [split_parts _ s (Nat.le_refl _)]; exact partsR_num s []
theorem gt_head {l : List Bs} : gt l 0 = l.headD [] := by cases l <;> rfl
theorem split_pos (s : Bs) : 1 ≤ (Lib.split s [32]).length := by
  have := split_ne s
  rcases h : Lib.split s [32] with _ | ⟨a, l⟩
  · exact absurd h this
  simp
theorem line_long {x : Wick} {d : Day} {s : Bs} (h : 60 < s.length) : lineD x d s = errD d 3 := by unfold lineD; rw [if_pos h]
theorem line_miss {x : Wick} {d : Day} {s : Bs} (h : ¬ 60 < s.length) (hN : wordN (gt (Lib.split s [32]) 0) = none) : lineD x d s = errD d 8 := by
  unfold lineD; rw [if_neg h, ← gt_head, hN]
theorem line_many {x : Wick} {d : Day} {s : Bs} {n : Nat} (h : ¬ 60 < s.length) (hN : wordN (gt (Lib.split s [32]) 0) = some n) (hn : (Lib.split s [32]).length ≠ n + 1) : lineD x d s = errD d 8 := by
  unfold lineD; rw [if_neg h, ← gt_head, hN]; dsimp only; rw [if_pos hn]
theorem line_nums {x : Wick} {d : Day} {s : Bs} {n : Nat} (h : ¬ 60 < s.length) (hN : wordN (gt (Lib.split s [32]) 0) = some n) (hn : (Lib.split s [32]).length = n + 1) (hl : numsL ((Lib.split s [32]).drop 1) = none) : lineD x d s = errD d 8 := by
  unfold lineD; rw [if_neg h, ← gt_head, hN]; dsimp only; rw [if_neg (by omega), ← List.drop_one, hl]
theorem line_do {x : Wick} {d : Day} {s : Bs} {n : Nat} {l : List Int} (h : ¬ 60 < s.length) (hN : wordN (gt (Lib.split s [32]) 0) = some n) (hn : (Lib.split s [32]).length = n + 1) (hl : numsL ((Lib.split s [32]).drop 1) = some l) : lineD x d s = doD x d (gt (Lib.split s [32]) 0) l := by
  unfold lineD; rw [if_neg h, ← gt_head, hN]; dsimp only; rw [if_neg (by omega), ← List.drop_one, hl]
theorem look_v {P : Program} {x : Cx} {fr : Fr} {D : Imm} {hp : Hp} {op : Op} {ty : TypeId} {G : List (List UInt8 × Value)} {y : List UInt8} {r : Option Value} {z v : Value} (hr : G.lookup y = r) (hv : Value.tuple #[r.getD z, .bool r.isSome] = v) (h : Yd P x fr D hp op ty (.tuple #[(G.lookup y).getD z, .bool (G.lookup y).isSome])) : Yd P x fr D hp op ty v := by
  rw [hr, hv] at h; exact h
def LineK (x : Wick) (m s : Sl) (xb : Nat) (r : Rep) (v : Value) (D' : Imm) (hp' : Hp) : Prop := v = .tuple #[st r.2.1, it r.2.2] ∧ ∃ t' l' b', hp' = [(xb, womO x m s t' l' b')] ∧ DayR D' r.1 t' l' b'
theorem lineK_n {x : Wick} {d : Day} {m s t l b : Sl} {xb : Nat} {D : Imm} (e : Int) (hd : DayR D d t l b) : LineK x m s xb (errD d e) (.tuple #[st [], it e]) D [(xb, womO x m s t l b)] := ⟨rfl, t, l, b, rfl, hd⟩
theorem lineK_e {x : Wick} {d : Day} {q : Bs} {m s t l b : Sl} {xb : Nat} {D : Imm} {r : Rep} (h : lineD x d q = r) (he : r.2.2 ≠ 0) (hd : DayR D d t l b) : LineK x m s xb (lineD x d q) (.tuple #[st [], it r.2.2]) D [(xb, womO x m s t l b)] := by
  have h1 := rep_err (line_rep x d q) (by rw [h]; exact he)
  refine ⟨by rw [h1.2, h], t, l, b, rfl, by rw [h1.1]; exact hd⟩
theorem lineN_g (x : Wick) (d : Day) (m s t l b : Sl) (xb : Nat) (q : Bs) (D : Imm) (w : World) (hw : wickB x = true) (hdo : DayOk x d) (hW : WickR D x m s) (hd : DayR D d t l b) (hL : LibW D) (hq : q.length ≤ 2 ^ 20) (hI0 : Inv D [(xb, womO x m s t l b)] [xb] w w) (hN : wordN (gt (Lib.split q [32]) 0) = none) : AltersN Tryz.prog 20 [pt xb, st q] w D [xb] (LineK x m s xb (lineD x d q)) := by
  unfold AltersN
  refine enD Tryz.func20 rfl Tryz.ntmps20 hI0 (g [[1],[2,0,1]] ?_)
  refine WL.so (SO.alloc ZvF.h rfl) rfl (zw fun b5 hb5 => ?_)
  refine g [[3],[2,5,4,0,1]] ?_
  refine WL.defer rfl (g [[3],[2,5,4,0,1]] ?_)
  refine WL.yd (Yd.neP UnF.h rfl) rfl (g [[6]] ?_)
  refine WL.cl rfl (fun w hI => mustW_ok _ _) (g [[3],[2,5,4,0,1]] ?_)
  refine WL.yd (Yd.lenStr rfl Tryz.underlying9 rfl) rfl (g [[1]] ?_)
  refine WL.part 22 rfl (fun g22 => ?_) (fun g22 => ?_)
  · try simp only [zq] at g22
    refine WL.cl rfl (fun w hI => mustW_ok _ _) (g [[3],[2,5,4,0,1]] ?_)
    refine WL.so (SO.makes (Enters.func Tryz.call72 rfl) (fun w1 hI => splitC_g q 32 (by omega) D hL _ hI.imm)) rfl ?_
    rintro _ D2 _ ⟨hX2, ⟨a1, n1, c1, rfl, hc1, hS2⟩, rfl⟩
    have hL2 := hL.ext hX2
    obtain rfl := hS2.len' (f := strC)
    have hpos := split_pos q
    have hup := split_num q
    refine g [[4],[0,6,5,4,0]] ?_
    refine WC.drawH [] zk (fun _ hI => hI.nil) (g [[1001]] ?_)
    refine WH.yd (i := 2) zk zX rfl (Yd.ix rfl rfl (hS2.addr 0 (by omega))) rfl (WH.yd (i := 3) zk zX rfl (Yd.l1 rfl ((hS2.at 0 (by omega)).rd 0 rfl)) rfl ?_)
    refine WH.two (i := 0) (j := 8) zk ?_ ?_
    · refine WHo.so rfl (SO.makes (Enters.func Tryz.call73 rfl) (fun w1 hI => words_g D2 hL2 _ hI.imm)) rfl ?_
      rintro _ D3 _ ⟨hX3, ⟨bm, es, ck, bq, rfl, hbm, hAL, hE⟩, rfl⟩
      have hlk := word_miss hE hN
      refine ⟨(fun _ hI => by first | exact hI.nil | exact hI.nil.shrink hX3.old), ?_⟩
      refine WH.two (i := 4) (j := 8) zk ?_ ?_
      · refine WHo.yd rfl (look_v (v := .tuple #[.agg #[it 0, .nilFunc], .bool false]) hlk rfl (Yd.lookADOk (z := .agg #[it 0, .nilFunc]) strK UnF.h UnF.h ZvF.h rfl (Nat.le_trans (split_le (gt_mem' (by omega))) (by omega)) rfl hbm hAL)) rfl (g [[1005],[1006],[1007]] ?_)
        refine WH.know 33 (.bool false) rfl rfl ?_
        refine WH.one (i := 8) zk (WHo.so rfl (SO.alloc ZvF.h rfl) rfl ?_)
        rintro _ _ _ ⟨b7, hb7, rfl, rfl, rfl⟩
        refine ⟨(fun _ hI => by first | exact hI.nil | exact hI.nil.shrink hX3.old), ?_⟩
        refine WH.one (i := 9) zk (WHo.so rfl (SO.store 0 rfl SzF.h rfl rfl rfl rfl (zqb rfl) (oneB_spec rfl)) rfl ?_)
        rintro _ _ _ ⟨rfl, rfl, rfl⟩
        refine ⟨(fun _ hI => by first | exact hI.nil | exact hI.nil.shrink hX3.old), ?_⟩
        refine g [[1010]] ?_
        refine WH.know 8 (.bool false) rfl rfl (WH.nil zk (g [[2],[10,8,7,6,5,4,0]] ?_))
        refine WL.nf rfl (fun w hI => mustW_no _ _) (g [[1]] ?_)
        refine WP.panicD (k := 1) [_, _] [_, _] rfl CaF.h rfl (fun w hI => catch69 _ _ _ _ _ (hI.own _ _ (List.mem_of_getElem? (i := 1) rfl))) rfl zV (fun w1 hI => ⟨_, D3, [_], rfl, hX2.trans hX3 (Nat.le_refl _), hI.tail.tail, by rw [line_miss (by omega) hN]; exact lineK_n 8 ((hd.ext hX2).ext hX3)⟩)
      refine WHo.so rfl (SO.alloc ZvF.h rfl) rfl ?_
      rintro _ _ _ ⟨b7, hb7, rfl, rfl, rfl⟩
      refine ⟨(fun _ hI => by first | exact hI.nil | exact hI.nil.shrink hX3.old), ?_⟩
      refine WH.one (i := 4) zk (WHo.yd rfl (look_v (v := .tuple #[.agg #[it 0, .nilFunc], .bool false]) hlk rfl (Yd.lookADOk (z := .agg #[it 0, .nilFunc]) strK UnF.h UnF.h ZvF.h rfl (Nat.le_trans (split_le (gt_mem' (by omega))) (by omega)) rfl hbm hAL)) rfl (g [[1005],[1006],[1007]] ?_))
      refine WH.know 33 (.bool false) rfl rfl ?_
      refine WH.one (i := 9) zk (WHo.so rfl (SO.store 0 rfl SzF.h rfl rfl rfl rfl (zqb rfl) (oneB_spec rfl)) rfl ?_)
      rintro _ _ _ ⟨rfl, rfl, rfl⟩
      refine ⟨(fun _ hI => by first | exact hI.nil | exact hI.nil.shrink hX3.old), ?_⟩
      refine g [[1010]] ?_
      refine WH.know 8 (.bool false) rfl rfl (WH.nil zk (g [[2],[10,8,7,6,5,4,0]] ?_))
      refine WL.nf rfl (fun w hI => mustW_no _ _) (g [[1]] ?_)
      refine WP.panicD (k := 1) [_, _] [_, _] rfl CaF.h rfl (fun w hI => catch69 _ _ _ _ _ (hI.own _ _ (List.mem_of_getElem? (i := 1) rfl))) rfl zV (fun w1 hI => ⟨_, D3, [_], rfl, hX2.trans hX3 (Nat.le_refl _), hI.tail.tail, by rw [line_miss (by omega) hN]; exact lineK_n 8 ((hd.ext hX2).ext hX3)⟩)
    refine WHo.so rfl (SO.alloc ZvF.h rfl) rfl ?_
    rintro _ _ _ ⟨b7, hb7, rfl, rfl, rfl⟩
    refine ⟨(fun _ hI => by first | exact hI.nil | exact hI.nil.shrink hX3.old), ?_⟩
    refine WH.one (i := 0) zk (WHo.so rfl (SO.makes (Enters.func Tryz.call73 rfl) (fun w1 hI => words_g D2 hL2 _ hI.imm)) rfl ?_)
    rintro _ D3 _ ⟨hX3, ⟨bm, es, ck, bq, rfl, hbm, hAL, hE⟩, rfl⟩
    have hlk := word_miss hE hN
    refine ⟨(fun _ hI => by first | exact hI.nil | exact hI.nil.shrink hX3.old), ?_⟩
    refine WH.one (i := 4) zk (WHo.yd rfl (look_v (v := .tuple #[.agg #[it 0, .nilFunc], .bool false]) hlk rfl (Yd.lookADOk (z := .agg #[it 0, .nilFunc]) strK UnF.h UnF.h ZvF.h rfl (Nat.le_trans (split_le (gt_mem' (by omega))) (by omega)) rfl hbm hAL)) rfl (g [[1005],[1006],[1007]] ?_))
    refine WH.know 33 (.bool false) rfl rfl ?_
    refine WH.one (i := 9) zk (WHo.so rfl (SO.store 0 rfl SzF.h rfl rfl rfl rfl (zqb rfl) (oneB_spec rfl)) rfl ?_)
    rintro _ _ _ ⟨rfl, rfl, rfl⟩
    refine ⟨(fun _ hI => by first | exact hI.nil | exact hI.nil.shrink hX3.old), ?_⟩
    refine g [[1010]] ?_
    refine WH.know 8 (.bool false) rfl rfl (WH.nil zk (g [[2],[10,8,7,6,5,4,0]] ?_))
    refine WL.nf rfl (fun w hI => mustW_no _ _) (g [[1]] ?_)
    refine WP.panicD (k := 1) [_, _] [_, _] rfl CaF.h rfl (fun w hI => catch69 _ _ _ _ _ (hI.own _ _ (List.mem_of_getElem? (i := 1) rfl))) rfl zV (fun w1 hI => ⟨_, D3, [_], rfl, hX2.trans hX3 (Nat.le_refl _), hI.tail.tail, by rw [line_miss (by omega) hN]; exact lineK_n 8 ((hd.ext hX2).ext hX3)⟩)
  try simp only [zq] at g22
  refine WL.nf rfl (fun w hI => mustW_no _ _) (g [[1]] ?_)
  refine WP.panicD (k := 0) [_, _] [_, _] rfl CaF.h rfl (fun w hI => catch69 _ _ _ _ _ (hI.own _ _ (List.mem_of_getElem? (i := 0) rfl))) rfl zV (fun w1 hI => ⟨_, D, [_], rfl, DExt.refl _ _, hI.tail, by rw [line_long (by omega)]; exact lineK_n 3 hd⟩)
theorem lineS_g (x : Wick) (d : Day) (m s t l b : Sl) (xb : Nat) (q : Bs) (D : Imm) (w : World) (hw : wickB x = true) (hdo : DayOk x d) (hW : WickR D x m s) (hd : DayR D d t l b) (hL : LibW D) (hq : q.length ≤ 2 ^ 20) (hI0 : Inv D [(xb, womO x m s t l b)] [xb] w w) (n : Nat) (hN : wordN (gt (Lib.split q [32]) 0) = some n) : AltersN Tryz.prog 20 [pt xb, st q] w D [xb] (LineK x m s xb (lineD x d q)) := by
  unfold AltersN
  refine enD Tryz.func20 rfl Tryz.ntmps20 hI0 (g [[1],[2,0,1]] ?_)
  refine WL.so (SO.alloc ZvF.h rfl) rfl (zw fun b5 hb5 => ?_)
  refine g [[3],[2,5,4,0,1]] ?_
  refine WL.defer rfl (g [[3],[2,5,4,0,1]] ?_)
  refine WL.yd (Yd.neP UnF.h rfl) rfl (g [[6]] ?_)
  refine WL.cl rfl (fun w hI => mustW_ok _ _) (g [[3],[2,5,4,0,1]] ?_)
  refine WL.yd (Yd.lenStr rfl Tryz.underlying9 rfl) rfl (g [[1]] ?_)
  refine WL.part 22 rfl (fun g22 => ?_) (fun g22 => ?_)
  · try simp only [zq] at g22
    refine WL.cl rfl (fun w hI => mustW_ok _ _) (g [[3],[2,5,4,0,1]] ?_)
    refine WL.so (SO.makes (Enters.func Tryz.call72 rfl) (fun w1 hI => splitC_g q 32 (by omega) D hL _ hI.imm)) rfl ?_
    rintro _ D2 _ ⟨hX2, ⟨a1, n1, c1, rfl, hc1, hS2⟩, rfl⟩
    have hL2 := hL.ext hX2
    obtain rfl := hS2.len' (f := strC)
    have hpos := split_pos q
    have hup := split_num q
    refine g [[4],[0,6,5,4,0]] ?_
    refine WC.drawH [] zk (fun _ hI => hI.nil) (g [[1001]] ?_)
    refine WH.yd (i := 2) zk zX rfl (Yd.ix rfl rfl (hS2.addr 0 (by omega))) rfl (WH.yd (i := 3) zk zX rfl (Yd.l1 rfl ((hS2.at 0 (by omega)).rd 0 rfl)) rfl ?_)
    refine WH.two (i := 0) (j := 8) zk ?_ ?_
    · refine WHo.so rfl (SO.makes (Enters.func Tryz.call73 rfl) (fun w1 hI => words_g D2 hL2 _ hI.imm)) rfl ?_
      rintro _ D3 _ ⟨hX3, ⟨bm, es, ck, bq, rfl, hbm, hAL, hE⟩, rfl⟩
      obtain ⟨f, cap, hlk, hDo⟩ := word_look (x := x) hE hN
      refine ⟨(fun _ hI => by first | exact hI.nil | exact hI.nil.shrink hX3.old), ?_⟩
      refine WH.two (i := 4) (j := 8) zk ?_ ?_
      · refine WHo.yd rfl (look_v (v := .tuple #[wdV n (.func (.func f) #[] cap.toArray), .bool true]) hlk rfl (Yd.lookADOk (z := .agg #[it 0, .nilFunc]) strK UnF.h UnF.h ZvF.h rfl (Nat.le_trans (split_le (gt_mem' (by omega))) (by omega)) rfl hbm hAL)) rfl (g [[1005],[1006],[1007]] ?_)
        refine WH.know 33 (.bool true) rfl rfl ?_
        refine WH.one (i := 8) zk (WHo.so rfl (SO.alloc ZvF.h rfl) rfl ?_)
        rintro _ _ _ ⟨b7, hb7, rfl, rfl, rfl⟩
        refine ⟨(fun _ hI => by first | exact hI.nil | exact hI.nil.shrink hX3.old), ?_⟩
        refine WH.one (i := 9) zk (WHo.so rfl (SO.store 0 rfl SzF.h rfl rfl rfl rfl (zqb rfl) (oneB_spec rfl)) rfl ?_)
        rintro _ _ _ ⟨rfl, rfl, rfl⟩
        refine ⟨(fun _ hI => by first | exact hI.nil | exact hI.nil.shrink hX3.old), ?_⟩
        refine g [[1010]] ?_
        refine WH.know 8 (.bool true) rfl rfl (WH.nil zk (g [[2],[10,8,7,6,5,4,0]] ?_))
        refine WL.part 42 rfl (fun g42 => ?_) (fun g42 => ?_)
        · try simp only [zq] at g42
          refine WL.cl rfl (fun w hI => mustW_ok _ _) (g [[3],[2,7,6,5,4,0]] ?_)
          refine WL.yd (Yd.sliceFrom (k := 1) Tryz.underlying37 Tryz.sizeOf9 rfl rfl (by omega)) rfl (g [[1]] ?_)
          refine WL.so (SO.box rfl rfl) rfl (zw fun b47 hb47 => ?_)
          refine g [[4]] ?_
          refine WC.hpPerm _ (List.perm_append_singleton _ _).symm (g [[0,9,7,5,4,0]] ?_)
          refine WC.drawP [_] (pz [1,3,5,7,8,10,12,14]) zk zk zX (fun _ hI => Inv.left (l1 := [_]) hI) (g [[2]] ?_)
          refine WA.know 49 (.func (.func f) #[] cap.toArray) rfl rfl (g [[2]] ?_)
          refine WA.so rfl  (SO.altersV (own := _) (hpc := [(b47, tkO (fromA a1 c1 1 1) ((Lib.split q [32]).length - 1) (c1 - 1))]) (S1 := [b47]) (fun _ h => h) (fun h => h) (fun _ h => h) (fun _ h => h) (Enters.func CaF.h rfl) (fun w1 _ hI => all_g b47 ((Lib.split q [32]).drop 1) (fromA a1 c1 1 1) (c1 - 1) D3 w1 (hL2.ext hX3) (by rw [List.map_drop, List.length_drop]; exact (hS2.ext hX3).drop (k := 1) (by omega) hc1) (by rw [List.length_drop]; omega) (by rw [List.length_drop]; omega) (fun p hp => Nat.le_trans (split_le (List.mem_of_mem_drop hp)) (by omega)) (by rw [List.length_drop]; exact hI)) ?_) rfl ?_
          · rintro ch D5 hp5 ⟨hnn, rfl⟩ hX5
            refine g [[1]] ?_
            refine WP.panicD (k := 1) [_, _] [_, _] rfl CaF.h rfl (fun w hI => catch69 _ _ _ _ _ (hI.own _ _ (List.mem_of_getElem? (i := 1) rfl))) rfl zV (fun w1 hI => ⟨_, D5, [_], rfl, (hX2.trans hX3 (Nat.le_refl _)).trans hX5 (Nat.le_refl _), (Inv.left (l1 := [_, _, _]) hI).tail.tail, by rw [line_nums (by omega) hN (by omega) hnn]; exact lineK_n 8 (((hd.ext hX2).ext hX3).ext hX5)⟩)
          rintro _ D4 _ ⟨hp4, hX4, ⟨ls, al, nl, cl, hls, rfl, hSl, hnl⟩, rfl⟩
          have hX234 := (hX2.trans hX3 (Nat.le_refl _)).trans hX4 (Nat.le_refl _)
          refine ⟨fun _ hI => (Inv.left (l1 := [_]) hI.left).shrink hX4.old, ?_⟩
          refine WA.left ?_
          refine WA.so rfl  (SO.altersV (own := [_, _]) (hpc := [(xb, womO x m s t l b)]) (S1 := [xb]) (fun _ h => h) (fun h => h) (fun _ h => h) (fun _ h => h) (Enters.val (va := []) (vb := cap) (vals := [pt xb, .slice al nl cl]) hDo.1 rfl rfl) (fun w1 _ hI => hDo.2 d m s t l b xb D4 w1 (fun b o h => hX4.old _ _ h) hw hdo (hW.ext hX234) (hd.ext hX234) (hL.ext hX234) ls al nl cl hSl (by rw [← hSl.len', hnl, List.length_drop]; omega) (by rw [hnl, List.length_drop]; omega) hI) ?_) rfl ?_
          · rintro ch D5 hp5 ⟨hne, rfl, rfl⟩ hX5
            refine g [[1]] ?_
            refine WP.panicD (k := 1) [_, _] [_, _] rfl CaF.h rfl (fun w hI => catch69 _ _ _ _ _ (hI.own _ _ (List.mem_of_getElem? (i := 1) rfl))) rfl zV (fun w1 hI => ⟨_, D5, [_], rfl, hX234.trans hX5 (Nat.le_refl _), hI.tail.tail, lineK_e (line_do (by omega) hN (by omega) hls) hne ((hd.ext hX234).ext hX5)⟩)
          rintro _ D5 _ ⟨hp5, hX5, ⟨he0, rfl, t1, l1, b1, rfl, hd5⟩, rfl⟩
          refine ⟨fun _ hI => ((Inv.left (l1 := [_]) hI).shrink hX5.old).shrink hX4.old, ?_⟩
          refine WA.so rfl (SO.ofYd (Yd.assign rfl)) rfl ?_
          rintro _ _ _ ⟨rfl, rfl, rfl⟩
          refine ⟨fun _ hI => ((Inv.left (l1 := [_]) hI).shrink hX5.old).shrink hX4.old, ?_⟩
          refine WA.so rfl (SO.store 1 rfl SzF.h rfl rfl rfl rfl (zqb rfl) (oneB_spec rfl)) rfl ?_
          rintro _ _ _ ⟨rfl, rfl, rfl⟩
          refine ⟨fun _ hI => ((Inv.left (l1 := [_]) hI).shrink hX5.old).shrink hX4.old, ?_⟩
          refine g [[3]] ?_
          refine WP.endD [_, _] [_, _] rfl rfl CaF.h (fun w hI => idle69 _ _) rfl zV (fun w1 hI => ⟨_, D5, [_], rfl, hX234.trans hX5 (Nat.le_refl _), hI.tail.tail, by rw [line_do (by omega) hN (by omega) hls]; exact ⟨by rw [he0]; rfl, t1, l1, b1, rfl, hd5⟩⟩)
        try simp only [zq] at g42
        refine WL.nf rfl (fun w hI => mustW_no _ _) (g [[1]] ?_)
        refine WP.panicD (k := 1) [_, _] [_, _] rfl CaF.h rfl (fun w hI => catch69 _ _ _ _ _ (hI.own _ _ (List.mem_of_getElem? (i := 1) rfl))) rfl zV (fun w1 hI => ⟨_, D3, [_], rfl, hX2.trans hX3 (Nat.le_refl _), hI.tail.tail, by rw [line_many (by omega) hN (by omega)]; exact lineK_n 8 ((hd.ext hX2).ext hX3)⟩)
      refine WHo.so rfl (SO.alloc ZvF.h rfl) rfl ?_
      rintro _ _ _ ⟨b7, hb7, rfl, rfl, rfl⟩
      refine ⟨(fun _ hI => by first | exact hI.nil | exact hI.nil.shrink hX3.old), ?_⟩
      refine WH.one (i := 4) zk (WHo.yd rfl (look_v (v := .tuple #[wdV n (.func (.func f) #[] cap.toArray), .bool true]) hlk rfl (Yd.lookADOk (z := .agg #[it 0, .nilFunc]) strK UnF.h UnF.h ZvF.h rfl (Nat.le_trans (split_le (gt_mem' (by omega))) (by omega)) rfl hbm hAL)) rfl (g [[1005],[1006],[1007]] ?_))
      refine WH.know 33 (.bool true) rfl rfl ?_
      refine WH.one (i := 9) zk (WHo.so rfl (SO.store 0 rfl SzF.h rfl rfl rfl rfl (zqb rfl) (oneB_spec rfl)) rfl ?_)
      rintro _ _ _ ⟨rfl, rfl, rfl⟩
      refine ⟨(fun _ hI => by first | exact hI.nil | exact hI.nil.shrink hX3.old), ?_⟩
      refine g [[1010]] ?_
      refine WH.know 8 (.bool true) rfl rfl (WH.nil zk (g [[2],[10,8,7,6,5,4,0]] ?_))
      refine WL.part 42 rfl (fun g42 => ?_) (fun g42 => ?_)
      · try simp only [zq] at g42
        refine WL.cl rfl (fun w hI => mustW_ok _ _) (g [[3],[2,7,6,5,4,0]] ?_)
        refine WL.yd (Yd.sliceFrom (k := 1) Tryz.underlying37 Tryz.sizeOf9 rfl rfl (by omega)) rfl (g [[1]] ?_)
        refine WL.so (SO.box rfl rfl) rfl (zw fun b47 hb47 => ?_)
        refine g [[4]] ?_
        refine WC.hpPerm _ (List.perm_append_singleton _ _).symm (g [[0,9,7,5,4,0]] ?_)
        refine WC.drawP [_] (pz [1,3,5,7,8,10,12,14]) zk zk zX (fun _ hI => Inv.left (l1 := [_]) hI) (g [[2]] ?_)
        refine WA.know 49 (.func (.func f) #[] cap.toArray) rfl rfl (g [[2]] ?_)
        refine WA.so rfl  (SO.altersV (own := _) (hpc := [(b47, tkO (fromA a1 c1 1 1) ((Lib.split q [32]).length - 1) (c1 - 1))]) (S1 := [b47]) (fun _ h => h) (fun h => h) (fun _ h => h) (fun _ h => h) (Enters.func CaF.h rfl) (fun w1 _ hI => all_g b47 ((Lib.split q [32]).drop 1) (fromA a1 c1 1 1) (c1 - 1) D3 w1 (hL2.ext hX3) (by rw [List.map_drop, List.length_drop]; exact (hS2.ext hX3).drop (k := 1) (by omega) hc1) (by rw [List.length_drop]; omega) (by rw [List.length_drop]; omega) (fun p hp => Nat.le_trans (split_le (List.mem_of_mem_drop hp)) (by omega)) (by rw [List.length_drop]; exact hI)) ?_) rfl ?_
        · rintro ch D5 hp5 ⟨hnn, rfl⟩ hX5
          refine g [[1]] ?_
          refine WP.panicD (k := 1) [_, _] [_, _] rfl CaF.h rfl (fun w hI => catch69 _ _ _ _ _ (hI.own _ _ (List.mem_of_getElem? (i := 1) rfl))) rfl zV (fun w1 hI => ⟨_, D5, [_], rfl, (hX2.trans hX3 (Nat.le_refl _)).trans hX5 (Nat.le_refl _), (Inv.left (l1 := [_, _, _]) hI).tail.tail, by rw [line_nums (by omega) hN (by omega) hnn]; exact lineK_n 8 (((hd.ext hX2).ext hX3).ext hX5)⟩)
        rintro _ D4 _ ⟨hp4, hX4, ⟨ls, al, nl, cl, hls, rfl, hSl, hnl⟩, rfl⟩
        have hX234 := (hX2.trans hX3 (Nat.le_refl _)).trans hX4 (Nat.le_refl _)
        refine ⟨fun _ hI => (Inv.left (l1 := [_]) hI.left).shrink hX4.old, ?_⟩
        refine WA.left ?_
        refine WA.so rfl  (SO.altersV (own := [_, _]) (hpc := [(xb, womO x m s t l b)]) (S1 := [xb]) (fun _ h => h) (fun h => h) (fun _ h => h) (fun _ h => h) (Enters.val (va := []) (vb := cap) (vals := [pt xb, .slice al nl cl]) hDo.1 rfl rfl) (fun w1 _ hI => hDo.2 d m s t l b xb D4 w1 (fun b o h => hX4.old _ _ h) hw hdo (hW.ext hX234) (hd.ext hX234) (hL.ext hX234) ls al nl cl hSl (by rw [← hSl.len', hnl, List.length_drop]; omega) (by rw [hnl, List.length_drop]; omega) hI) ?_) rfl ?_
        · rintro ch D5 hp5 ⟨hne, rfl, rfl⟩ hX5
          refine g [[1]] ?_
          refine WP.panicD (k := 1) [_, _] [_, _] rfl CaF.h rfl (fun w hI => catch69 _ _ _ _ _ (hI.own _ _ (List.mem_of_getElem? (i := 1) rfl))) rfl zV (fun w1 hI => ⟨_, D5, [_], rfl, hX234.trans hX5 (Nat.le_refl _), hI.tail.tail, lineK_e (line_do (by omega) hN (by omega) hls) hne ((hd.ext hX234).ext hX5)⟩)
        rintro _ D5 _ ⟨hp5, hX5, ⟨he0, rfl, t1, l1, b1, rfl, hd5⟩, rfl⟩
        refine ⟨fun _ hI => ((Inv.left (l1 := [_]) hI).shrink hX5.old).shrink hX4.old, ?_⟩
        refine WA.so rfl (SO.ofYd (Yd.assign rfl)) rfl ?_
        rintro _ _ _ ⟨rfl, rfl, rfl⟩
        refine ⟨fun _ hI => ((Inv.left (l1 := [_]) hI).shrink hX5.old).shrink hX4.old, ?_⟩
        refine WA.so rfl (SO.store 1 rfl SzF.h rfl rfl rfl rfl (zqb rfl) (oneB_spec rfl)) rfl ?_
        rintro _ _ _ ⟨rfl, rfl, rfl⟩
        refine ⟨fun _ hI => ((Inv.left (l1 := [_]) hI).shrink hX5.old).shrink hX4.old, ?_⟩
        refine g [[3]] ?_
        refine WP.endD [_, _] [_, _] rfl rfl CaF.h (fun w hI => idle69 _ _) rfl zV (fun w1 hI => ⟨_, D5, [_], rfl, hX234.trans hX5 (Nat.le_refl _), hI.tail.tail, by rw [line_do (by omega) hN (by omega) hls]; exact ⟨by rw [he0]; rfl, t1, l1, b1, rfl, hd5⟩⟩)
      try simp only [zq] at g42
      refine WL.nf rfl (fun w hI => mustW_no _ _) (g [[1]] ?_)
      refine WP.panicD (k := 1) [_, _] [_, _] rfl CaF.h rfl (fun w hI => catch69 _ _ _ _ _ (hI.own _ _ (List.mem_of_getElem? (i := 1) rfl))) rfl zV (fun w1 hI => ⟨_, D3, [_], rfl, hX2.trans hX3 (Nat.le_refl _), hI.tail.tail, by rw [line_many (by omega) hN (by omega)]; exact lineK_n 8 ((hd.ext hX2).ext hX3)⟩)
    refine WHo.so rfl (SO.alloc ZvF.h rfl) rfl ?_
    rintro _ _ _ ⟨b7, hb7, rfl, rfl, rfl⟩
    refine ⟨(fun _ hI => by first | exact hI.nil | exact hI.nil.shrink hX3.old), ?_⟩
    refine WH.one (i := 0) zk (WHo.so rfl (SO.makes (Enters.func Tryz.call73 rfl) (fun w1 hI => words_g D2 hL2 _ hI.imm)) rfl ?_)
    rintro _ D3 _ ⟨hX3, ⟨bm, es, ck, bq, rfl, hbm, hAL, hE⟩, rfl⟩
    obtain ⟨f, cap, hlk, hDo⟩ := word_look (x := x) hE hN
    refine ⟨(fun _ hI => by first | exact hI.nil | exact hI.nil.shrink hX3.old), ?_⟩
    refine WH.one (i := 4) zk (WHo.yd rfl (look_v (v := .tuple #[wdV n (.func (.func f) #[] cap.toArray), .bool true]) hlk rfl (Yd.lookADOk (z := .agg #[it 0, .nilFunc]) strK UnF.h UnF.h ZvF.h rfl (Nat.le_trans (split_le (gt_mem' (by omega))) (by omega)) rfl hbm hAL)) rfl (g [[1005],[1006],[1007]] ?_))
    refine WH.know 33 (.bool true) rfl rfl ?_
    refine WH.one (i := 9) zk (WHo.so rfl (SO.store 0 rfl SzF.h rfl rfl rfl rfl (zqb rfl) (oneB_spec rfl)) rfl ?_)
    rintro _ _ _ ⟨rfl, rfl, rfl⟩
    refine ⟨(fun _ hI => by first | exact hI.nil | exact hI.nil.shrink hX3.old), ?_⟩
    refine g [[1010]] ?_
    refine WH.know 8 (.bool true) rfl rfl (WH.nil zk (g [[2],[10,8,7,6,5,4,0]] ?_))
    refine WL.part 42 rfl (fun g42 => ?_) (fun g42 => ?_)
    · try simp only [zq] at g42
      refine WL.cl rfl (fun w hI => mustW_ok _ _) (g [[3],[2,7,6,5,4,0]] ?_)
      refine WL.yd (Yd.sliceFrom (k := 1) Tryz.underlying37 Tryz.sizeOf9 rfl rfl (by omega)) rfl (g [[1]] ?_)
      refine WL.so (SO.box rfl rfl) rfl (zw fun b47 hb47 => ?_)
      refine g [[4]] ?_
      refine WC.hpPerm _ (List.perm_append_singleton _ _).symm (g [[0,9,7,5,4,0]] ?_)
      refine WC.drawP [_] (pz [1,3,5,7,8,10,12,14]) zk zk zX (fun _ hI => Inv.left (l1 := [_]) hI) (g [[2]] ?_)
      refine WA.know 49 (.func (.func f) #[] cap.toArray) rfl rfl (g [[2]] ?_)
      refine WA.so rfl  (SO.altersV (own := _) (hpc := [(b47, tkO (fromA a1 c1 1 1) ((Lib.split q [32]).length - 1) (c1 - 1))]) (S1 := [b47]) (fun _ h => h) (fun h => h) (fun _ h => h) (fun _ h => h) (Enters.func CaF.h rfl) (fun w1 _ hI => all_g b47 ((Lib.split q [32]).drop 1) (fromA a1 c1 1 1) (c1 - 1) D3 w1 (hL2.ext hX3) (by rw [List.map_drop, List.length_drop]; exact (hS2.ext hX3).drop (k := 1) (by omega) hc1) (by rw [List.length_drop]; omega) (by rw [List.length_drop]; omega) (fun p hp => Nat.le_trans (split_le (List.mem_of_mem_drop hp)) (by omega)) (by rw [List.length_drop]; exact hI)) ?_) rfl ?_
      · rintro ch D5 hp5 ⟨hnn, rfl⟩ hX5
        refine g [[1]] ?_
        refine WP.panicD (k := 1) [_, _] [_, _] rfl CaF.h rfl (fun w hI => catch69 _ _ _ _ _ (hI.own _ _ (List.mem_of_getElem? (i := 1) rfl))) rfl zV (fun w1 hI => ⟨_, D5, [_], rfl, (hX2.trans hX3 (Nat.le_refl _)).trans hX5 (Nat.le_refl _), (Inv.left (l1 := [_, _, _]) hI).tail.tail, by rw [line_nums (by omega) hN (by omega) hnn]; exact lineK_n 8 (((hd.ext hX2).ext hX3).ext hX5)⟩)
      rintro _ D4 _ ⟨hp4, hX4, ⟨ls, al, nl, cl, hls, rfl, hSl, hnl⟩, rfl⟩
      have hX234 := (hX2.trans hX3 (Nat.le_refl _)).trans hX4 (Nat.le_refl _)
      refine ⟨fun _ hI => (Inv.left (l1 := [_]) hI.left).shrink hX4.old, ?_⟩
      refine WA.left ?_
      refine WA.so rfl  (SO.altersV (own := [_, _]) (hpc := [(xb, womO x m s t l b)]) (S1 := [xb]) (fun _ h => h) (fun h => h) (fun _ h => h) (fun _ h => h) (Enters.val (va := []) (vb := cap) (vals := [pt xb, .slice al nl cl]) hDo.1 rfl rfl) (fun w1 _ hI => hDo.2 d m s t l b xb D4 w1 (fun b o h => hX4.old _ _ h) hw hdo (hW.ext hX234) (hd.ext hX234) (hL.ext hX234) ls al nl cl hSl (by rw [← hSl.len', hnl, List.length_drop]; omega) (by rw [hnl, List.length_drop]; omega) hI) ?_) rfl ?_
      · rintro ch D5 hp5 ⟨hne, rfl, rfl⟩ hX5
        refine g [[1]] ?_
        refine WP.panicD (k := 1) [_, _] [_, _] rfl CaF.h rfl (fun w hI => catch69 _ _ _ _ _ (hI.own _ _ (List.mem_of_getElem? (i := 1) rfl))) rfl zV (fun w1 hI => ⟨_, D5, [_], rfl, hX234.trans hX5 (Nat.le_refl _), hI.tail.tail, lineK_e (line_do (by omega) hN (by omega) hls) hne ((hd.ext hX234).ext hX5)⟩)
      rintro _ D5 _ ⟨hp5, hX5, ⟨he0, rfl, t1, l1, b1, rfl, hd5⟩, rfl⟩
      refine ⟨fun _ hI => ((Inv.left (l1 := [_]) hI).shrink hX5.old).shrink hX4.old, ?_⟩
      refine WA.so rfl (SO.ofYd (Yd.assign rfl)) rfl ?_
      rintro _ _ _ ⟨rfl, rfl, rfl⟩
      refine ⟨fun _ hI => ((Inv.left (l1 := [_]) hI).shrink hX5.old).shrink hX4.old, ?_⟩
      refine WA.so rfl (SO.store 1 rfl SzF.h rfl rfl rfl rfl (zqb rfl) (oneB_spec rfl)) rfl ?_
      rintro _ _ _ ⟨rfl, rfl, rfl⟩
      refine ⟨fun _ hI => ((Inv.left (l1 := [_]) hI).shrink hX5.old).shrink hX4.old, ?_⟩
      refine g [[3]] ?_
      refine WP.endD [_, _] [_, _] rfl rfl CaF.h (fun w hI => idle69 _ _) rfl zV (fun w1 hI => ⟨_, D5, [_], rfl, hX234.trans hX5 (Nat.le_refl _), hI.tail.tail, by rw [line_do (by omega) hN (by omega) hls]; exact ⟨by rw [he0]; rfl, t1, l1, b1, rfl, hd5⟩⟩)
    try simp only [zq] at g42
    refine WL.nf rfl (fun w hI => mustW_no _ _) (g [[1]] ?_)
    refine WP.panicD (k := 1) [_, _] [_, _] rfl CaF.h rfl (fun w hI => catch69 _ _ _ _ _ (hI.own _ _ (List.mem_of_getElem? (i := 1) rfl))) rfl zV (fun w1 hI => ⟨_, D3, [_], rfl, hX2.trans hX3 (Nat.le_refl _), hI.tail.tail, by rw [line_many (by omega) hN (by omega)]; exact lineK_n 8 ((hd.ext hX2).ext hX3)⟩)
  try simp only [zq] at g22
  refine WL.nf rfl (fun w hI => mustW_no _ _) (g [[1]] ?_)
  refine WP.panicD (k := 0) [_, _] [_, _] rfl CaF.h rfl (fun w hI => catch69 _ _ _ _ _ (hI.own _ _ (List.mem_of_getElem? (i := 0) rfl))) rfl zV (fun w1 hI => ⟨_, D, [_], rfl, DExt.refl _ _, hI.tail, by rw [line_long (by omega)]; exact lineK_n 3 hd⟩)
end Go.Proofs.YtejgofaeafphjaaGreatDoor
namespace Go.Proofs.YtejgofaeafphjaaGreatDoor
open Go.W Go.Ti
theorem line_g (x : Wick) (d : Day) (m s t l b : Sl) (xb : Nat) (q : Bs) (D : Imm) (w : World) (hw : wickB x = true) (hdo : DayOk x d) (hW : WickR D x m s) (hd : DayR D d t l b) (hL : LibW D) (hq : q.length ≤ 2 ^ 20) (hI0 : Inv D [(xb, womO x m s t l b)] [xb] w w) : AltersN Tryz.prog 20 [pt xb, st q] w D [xb] (LineK x m s xb (lineD x d q)) := by
  cases hN : wordN (gt (Lib.split q [32]) 0) with
  | none => exact lineN_g x d m s t l b xb q D w hw hdo hW hd hL hq hI0 hN
  | some n => exact lineS_g x d m s t l b xb q D w hw hdo hW hd hL hq hI0 n hN
end Go.Proofs.YtejgofaeafphjaaGreatDoor
namespace Go.Proofs.YtejgofaeafphjaaGreatDoor
open Go.W Go.Ti
theorem strC_len (p : Bs) : (strC p).length = 1 := rfl
theorem reps_tk {x : Wick} {ls : List Bs} {k : Nat} (h : k ≤ ls.length) : (repsD x day0 (ls.take k)).1.length = k := by rw [(reps_len x _ _).1, List.length_take, Nat.min_eq_left h]
theorem reps_y {x : Wick} {ls : List Bs} {k n : Nat} (hk : k < ls.length) (hn : n = (repsD x day0 (ls.take k)).2) (he : (lineD x (linesD x day0 (ls.take k)) (gt ls k)).2.2 ≠ 0) : n + 1 = (repsD x day0 (ls.take (k + 1))).2 := by
  rw [reps_take x day0 hk, if_pos he, hn]
theorem reps_n {x : Wick} {ls : List Bs} {k n : Nat} (hk : k < ls.length) (hn : n = (repsD x day0 (ls.take k)).2) (he : (lineD x (linesD x day0 (ls.take k)) (gt ls k)).2.2 = 0) : n = (repsD x day0 (ls.take (k + 1))).2 := by
  rw [reps_take x day0 hk, if_neg (fun h => h he), hn]; rfl
theorem reps_fl {x : Wick} {ls : List Bs} {k : Nat} (hk : k < ls.length) : (repsD x day0 (ls.take (k + 1))).1.flatMap strC = (repsD x day0 (ls.take k)).1.flatMap strC ++ [st (lineD x (linesD x day0 (ls.take k)) (gt ls k)).2.1] := by
  rw [reps_take x day0 hk, List.flatMap_append]; rfl
def PlayK (x : Wick) (ls : List Bs) (v : Value) (D' : Imm) : Prop := ∃ a n c, v = .tuple #[.slice a n c, it (PlayOut x ls).2.1, it (PlayOut x ls).2.2] ∧ SlL D' 1 ((PlayOut x ls).1.map strC) a n
theorem play_long {x : Wick} {ls : List Bs} (h : 60 < ls.length) : PlayOut x ls = ([], 0, 3) := by unfold PlayOut; rw [if_pos h]
theorem play_bad {x : Wick} {ls : List Bs} (h : ¬ 60 < ls.length) (hv : wickB x = false) : PlayOut x ls = ([], 0, 1) := by unfold PlayOut; rw [if_neg h, if_pos hv]
theorem play_ok {x : Wick} {ls : List Bs} (h : ¬ 60 < ls.length) (hv : wickB x = true) : PlayOut x ls = ((repsD x day0 ls).1, ((repsD x day0 ls).2 : Int), 0) := by unfold PlayOut; rw [if_neg h, if_neg (by simp [hv])]
theorem play1_g (x : Wick) (m s : Sl) (ls : List Bs) (al : Option Addr) (nl cl : Nat) (D : Imm) (w : World) (hW : WickR D x m s) (hS : SlL D 1 (ls.map strC) al nl) (hlen : ∀ q ∈ ls, q.length ≤ 2 ^ 20) (hL : LibW D) (hH : Holds D w) (hk : 60 < ls.length) : Makes Tryz.prog 30 [wickV x m s, .slice al nl cl] w D (PlayK x ls) := by
  unfold Makes
  obtain rfl := hS.len'
  refine en Tryz.func30 rfl Tryz.ntmps30 (Inv.start hH) (g [[1],[1,0,1]] ?_)
  refine WL.so (SO.box rfl rfl) rfl (zw fun b2 hb2 => ?_)
  refine g [[7],[4,6,5,4,2,1]] ?_
  refine WL.know 14 (.bool true) rfl (congrArg Value.bool (decide_eq_true (by omega))) (g [[4],[8,6,5,4,2,1]] ?_)
  refine WP.ret3 rfl rfl rfl (RV.tmp rfl) (RV.tmp rfl) (RV.tmp rfl) (fun w1 hI => ⟨_, D, rfl, hI.keep, hI.imm, DExt.refl _ _, none, 0, 0, by rw [play_long hk], by rw [play_long hk]; exact SlL.nil _ _⟩)
theorem play2_g (x : Wick) (m s : Sl) (ls : List Bs) (al : Option Addr) (nl cl : Nat) (D : Imm) (w : World) (hW : WickR D x m s) (hS : SlL D 1 (ls.map strC) al nl) (hlen : ∀ q ∈ ls, q.length ≤ 2 ^ 20) (hL : LibW D) (hH : Holds D w) (hk : ¬ 60 < ls.length) (hv : wickB x = false) : Makes Tryz.prog 30 [wickV x m s, .slice al nl cl] w D (PlayK x ls) := by
  unfold Makes
  obtain rfl := hS.len'
  refine en Tryz.func30 rfl Tryz.ntmps30 (Inv.start hH) (g [[1],[1,0,1]] ?_)
  refine WL.so (SO.box rfl rfl) rfl (zw fun b2 hb2 => ?_)
  refine g [[7],[4,6,5,4,2,1]] ?_
  refine WL.know 14 (.bool false) rfl (congrArg Value.bool (decide_eq_false (by omega))) (g [[6],[2,6,5,4,2,1]] ?_)
  refine WL.so (SO.news (Enters.func CaF.h rfl) (fun w1 hI => New_g x m s D _ hW hI.imm hL)) rfl ?_
  rintro _ D3 _ ⟨hp3, hX3, (⟨hv1, xb, m', s', rfl, rfl, hWr⟩ | ⟨hv1, rfl⟩), rfl⟩
  · rw [hv] at hv1; cases hv1
  refine g [[9],[3,6,7,5,4,1]] ?_
  refine WL.know 21 (.bool true) rfl rfl (g [[4],[9,6,7,5,4,1]] ?_)
  refine WP.ret3 rfl rfl rfl (RV.tmp rfl) (RV.tmp rfl) (RV.tmp rfl) (fun w1 hI => ⟨_, D3, rfl, hI.keep, hI.imm, hX3, none, 0, 0, by rw [play_bad hk hv]; rfl, by rw [play_bad hk hv]; exact SlL.nil _ _⟩)
theorem play3_g (x : Wick) (m s : Sl) (ls : List Bs) (al : Option Addr) (nl cl : Nat) (D : Imm) (w : World) (hW : WickR D x m s) (hS : SlL D 1 (ls.map strC) al nl) (hlen : ∀ q ∈ ls, q.length ≤ 2 ^ 20) (hL : LibW D) (hH : Holds D w) (hk : ¬ 60 < ls.length) (hv : wickB x = true) : Makes Tryz.prog 30 [wickV x m s, .slice al nl cl] w D (PlayK x ls) := by
  unfold Makes
  obtain rfl := hS.len'
  refine en Tryz.func30 rfl Tryz.ntmps30 (Inv.start hH) (g [[1],[1,0,1]] ?_)
  refine WL.so (SO.box rfl rfl) rfl (zw fun b2 hb2 => ?_)
  refine g [[7],[4,6,5,4,2,1]] ?_
  refine WL.know 14 (.bool false) rfl (congrArg Value.bool (decide_eq_false (by omega))) (g [[6],[2,6,5,4,2,1]] ?_)
  refine WL.so (SO.news (Enters.func CaF.h rfl) (fun w1 hI => New_g x m s D _ hW hI.imm hL)) rfl ?_
  rintro _ D3 _ ⟨hp3, hX3, (⟨hv1, xb, m', s', rfl, rfl, hWr⟩ | ⟨hv1, rfl⟩), rfl⟩
  rotate_left
  · rw [hv] at hv1; cases hv1
  refine g [[9]] ?_
  refine WC.erase 0 (g [[3,6,7,5,4,1]] ?_)
  refine WL.know 21 (.bool false) rfl rfl (g [[7],[7,6,7,5,4,1]] ?_)
  refine WC.loop (fun y : Nat × Imm × Option Ow × Sl × Sl × Sl × Nat => [(4, owV y.2.2.1 y.1), (5, nt y.2.2.2.2.2.2), (7, pt xb), (23, .slice al ls.length cl), (24, nt ls.length), (25, nt y.1)]) (fun y => (xb, womO x m' s' y.2.2.2.1 y.2.2.2.2.1 y.2.2.2.2.2.1) :: owH y.2.2.1 9 ((repsD x day0 (ls.take y.1)).1.flatMap strC) []) (fun y => y.2.1) (fun y => y.1 ≤ ls.length ∧ DExt w D3 y.2.1 ∧ owP w y.2.2.1 y.1 1 ∧ DayR y.2.1 (linesD x day0 (ls.take y.1)) y.2.2.2.1 y.2.2.2.2.1 y.2.2.2.2.2.1 ∧ y.2.2.2.2.2.2 = (repsD x day0 (ls.take y.1)).2) (fun y => ls.length - y.1) ⟨0, D3, none, nilS, nilS, nilS, 0⟩ ⟨by omega, DExt.refl _ _, rfl, DayR.nil _, rfl⟩ (fun a w h => at_fr h ⟨rfl, rfl, rfl, rfl, rfl, rfl, trivial⟩) ?_
  rintro ⟨k, D1, o, t, l, b, n⟩ ⟨hk7, hX1, ho, hd1, hn⟩
  dsimp only at hk7 hX1 ho hd1 hn
  have hnb : n ≤ 60 := by rw [hn]; have := (reps_len x (ls.take k) day0).2; rw [List.length_take] at this; omega
  refine g [[1],[5,4,5,7,23,24,25]] ?_
  refine WC.cond rfl (fun c26 => ?_) (fun c26 => ?_)
  · try simp only [zq] at c26
    have hkl : k < ls.length := by omega
    refine g [[5],[1,4,5,7,23,24,25]] ?_
    refine WL.yd (Yd.ix rfl rfl (hS.addr k (by omega))) rfl (WL.yd (Yd.l1 rfl ((((hS.ext hX3).ext hX1).at k (by omega)).rd 0 rfl)) rfl (g [[4],[3,9,4,5,7,23,24,25]] ?_))
    refine WL.so (SO.altersN (own := owH o 9 ((repsD x day0 (ls.take k)).1.flatMap strC) []) (hpc := [(xb, womO x m' s' t l b)]) (S1 := [xb]) (fun e he => (List.perm_append_singleton _ _).mem_iff.1 he) (fun hn => ((List.perm_append_singleton _ _).map Prod.fst).nodup_iff.2 hn) (fun _ h => h) (fun _ h => h) (Enters.func CaF.h rfl) (fun w1 hI => line_g x (linesD x day0 (ls.take k)) m' s' t l b xb (gt ls k) D1 w1 hv (lines_ok _ (day0_ok hv)) (hWr.ext hX1) hd1 ((hL.ext hX3).ext hX1) (hlen _ (gt_mem' hkl)) hI)) rfl ?_
    rintro _ D4 _ ⟨hp4, hX4, ⟨rfl, t1, l1, b1, rfl, hd4⟩, rfl⟩
    refine WL.hpPerm ((xb, womO x m' s' t1 l1 b1) :: owH o 9 ((repsD x day0 (ls.take k)).1.flatMap strC) []) (List.perm_append_singleton _ _) (g [[9],[5,11,10,4,5,7,23,24,25]] ?_)
    refine WC.cond rfl (fun c36 => ?_) (fun c36 => ?_)
    · try simp only [zq] at c36
      refine g [[2,10,4,5,7,23,24,25]] ?_
      refine WL.know 37 (nt n) rfl rfl (g [[4],[3,5,10,4,7,23,24,25]] ?_)
      refine WL.so (SO.buildSlice1 UnF.h SzF.h ZvF.h rfl rfl rfl (vs := [_]) rfl rfl rfl) rfl ?_
      rintro _ _ _ ⟨b41, hb41, rfl, rfl, rfl⟩
      refine WL.so (SO.appendOwW (W := w) (Nat.le_refl _) (o := o) (len := k) (n := 1) (xs := ((repsD x day0 (ls.take k)).1.flatMap strC)) (size := 1) [_] [_] [] rfl rfl Tryz.underlying37 Tryz.sizeOf9 Tryz.typeInfo9 Tryz.zeroValue9 rfl rfl rfl rfl ⟨rfl, .inr ⟨_, _, _, rfl, RdN.own (k := 0) (n := 1) rfl rfl⟩⟩ (oneB_spec rfl) ho (by rw [flat_len strC_len, reps_tk (by omega), Nat.mul_one]) (by omega) (by show (2 * (k + 1) + 1000) * 16 ≤ 2 ^ 48; omega) (by omega)) rfl ?_
      rintro _ _ _ ⟨u1, hu1, rfl, rfl, rfl⟩
      refine g [[4],[4,4,5,7,23,24,25]] ?_
      exact WP.again (⟨k + 1, D4, some u1, t1, l1, b1, n + 1⟩ : Nat × Imm × Option Ow × Sl × Sl × Sl × Nat) ⟨by simp only; omega, hX1.trans hX4 (Nat.le_refl _), hu1, by dsimp only; rw [lines_take x day0 hkl]; exact hd4, reps_y hkl hn c36⟩ (by simp only; omega) (fun aa ww h => at_dropS 0 h ⟨rfl, rfl, rfl, rfl, rfl, rfl, trivial⟩ (by dsimp only; rw [reps_fl hkl]; exact List.Perm.refl _) (fun _ _ h => h))
    try simp only [zq] at c36
    refine g [[2],[3,10,4,5,7,23,24,25]] ?_
    refine WL.so (SO.buildSlice1 UnF.h SzF.h ZvF.h rfl rfl rfl (vs := [_]) rfl rfl rfl) rfl ?_
    rintro _ _ _ ⟨b41, hb41, rfl, rfl, rfl⟩
    refine WL.so (SO.appendOwW (W := w) (Nat.le_refl _) (o := o) (len := k) (n := 1) (xs := ((repsD x day0 (ls.take k)).1.flatMap strC)) (size := 1) [_] [_] [] rfl rfl Tryz.underlying37 Tryz.sizeOf9 Tryz.typeInfo9 Tryz.zeroValue9 rfl rfl rfl rfl ⟨rfl, .inr ⟨_, _, _, rfl, RdN.own (k := 0) (n := 1) rfl rfl⟩⟩ (oneB_spec rfl) ho (by rw [flat_len strC_len, reps_tk (by omega), Nat.mul_one]) (by omega) (by show (2 * (k + 1) + 1000) * 16 ≤ 2 ^ 48; omega) (by omega)) rfl ?_
    rintro _ _ _ ⟨u1, hu1, rfl, rfl, rfl⟩
    refine g [[4],[4,4,5,7,23,24,25]] ?_
    exact WP.again (⟨k + 1, D4, some u1, t1, l1, b1, n⟩ : Nat × Imm × Option Ow × Sl × Sl × Sl × Nat) ⟨by simp only; omega, hX1.trans hX4 (Nat.le_refl _), hu1, by dsimp only; rw [lines_take x day0 hkl]; exact hd4, reps_n hkl hn (Decidable.not_not.1 c36)⟩ (by simp only; omega) (fun aa ww h => at_dropS 0 h ⟨rfl, rfl, rfl, rfl, rfl, rfl, trivial⟩ (by dsimp only; rw [reps_fl hkl]; exact List.Perm.refl _) (fun _ _ h => h))
  try simp only [zq] at c26
  obtain rfl : k = ls.length := by omega
  refine g [[6],[3,4,5]] ?_
  refine WL.know 44 (.slice (owAt o) ls.length (owCp o ls.length)) rfl (owV_owL (owL_of ho)) ?_
  refine WL.freezeOw (f := strC) (m := 1) strC_len [_] [] o 9 (repsD x day0 (ls.take ls.length)).1 rfl (by rw [reps_tk (Nat.le_refl _)]; exact ho) rfl (fun D5 hX5 hS5 => ?_)
  rw [reps_tk (Nat.le_refl _)] at hS5
  refine g [[6]] ?_
  refine WP.ret3 rfl rfl rfl (RV.tmp rfl) (RV.tmp rfl) (RV.tmp rfl) (fun w1 hI => ⟨_, D5, rfl, hI.keep, hI.imm, (hX3.trans hX1 (Nat.le_refl _)).trans hX5 (Nat.le_refl _), _, _, _, by rw [play_ok hk hv]; dsimp only; rw [hn, List.take_length], by rw [play_ok hk hv]; have := hS5; rw [List.take_length] at this; exact this⟩)
theorem play_g (x : Wick) (m s : Sl) (ls : List Bs) (al : Option Addr) (nl cl : Nat) (D : Imm) (w : World) (hW : WickR D x m s) (hS : SlL D 1 (ls.map strC) al nl) (hlen : ∀ q ∈ ls, q.length ≤ 2 ^ 20) (hL : LibW D) (hH : Holds D w) : Makes Tryz.prog 30 [wickV x m s, .slice al nl cl] w D (PlayK x ls) := by
  by_cases hk : 60 < ls.length
  · exact play1_g x m s ls al nl cl D w hW hS hlen hL hH hk
  cases hv : wickB x with
  | false => exact play2_g x m s ls al nl cl D w hW hS hlen hL hH hk hv
  | true => exact play3_g x m s ls al nl cl D w hW hS hlen hL hH hk hv
end Go.Proofs.YtejgofaeafphjaaGreatDoor
namespace Go.Proofs.YtejgofaeafphjaaGreatDoor
open Go.W Go.Ti
theorem tk_eq {α : Type} {a b : List α} (h : a.length = b.length) (h2 : a.take a.length = b.take a.length) : a = b := by
  rw [List.take_length, List.take_of_length_le (by omega)] at h2; exact h2
theorem tk_succ {α : Type} [Inhabited α] {a b : List α} {k : Nat} (h1 : k < a.length) (h2 : k < b.length) (h : a.take k = b.take k) (hg : gt a k = gt b k) : a.take (k + 1) = b.take (k + 1) := by
  rw [take_gt h1, take_gt h2, h, hg]
theorem Strings_g (A B : List Bs) (a1 a2 : Option Addr) (n1 n2 c1 c2 : Nat) (D : Imm) (h1 : SlL D 1 (A.map strC) a1 n1) (h2 : SlL D 1 (B.map strC) a2 n2) (hA : n1 ≤ 1000) (w : World) (hH : Holds D w) : Gives Tryz.prog 32 [.slice a1 n1 c1, .slice a2 n2 c2] w (.bool (decide (A = B))) := by
  unfold Gives
  obtain rfl := h1.len'
  obtain rfl := h2.len'
  refine en Tryz.func32 rfl Tryz.ntmps32 (Inv.start hH) (g [[1],[6,0,1],[8,4,0,1]] ?_)
  refine WC.cond rfl (fun c10 => ?_) (fun c10 => ?_)
  · try simp only [zq] at c10
    refine g [[1],[6,4,0,1]] ?_
    refine WP.ret1 rfl rfl rfl (RV.tmp rfl) (fun w hI => ⟨ret_bool (decide_eq_false (fun e => by subst e; omega)).symm, hI.keep⟩)
  try simp only [zq] at c10
  refine g [[4],[5,4,0,1]] ?_
  refine WC.loopT [] (fun k : Nat => [(0, .slice a1 A.length c1), (1, .slice a2 B.length c2), (5, nt k)]) (fun _ => []) (fun k => k ≤ A.length ∧ A.take k = B.take k) (fun k => A.length - k) 0 ⟨Nat.zero_le _, rfl⟩ rfl ⟨rfl, rfl, rfl, trivial⟩ ?_
  rintro k ⟨hk, hF⟩
  refine g [[2],[7,0,1,5]] ?_
  refine WC.cond rfl (fun c14 => ?_) (fun c14 => ?_)
  · try simp only [zq] at c14
    have hkl : k < A.length := by omega
    refine g [[5],[0,0,1,5],[3008],[2]] ?_
    refine WQ.q rfl (Yd.qt (Yd.ix rfl rfl (h1.addr k (by omega)))) rfl (WQ.q rfl (Yd.qt (Yd.l1 rfl ((h1.at k (by omega)).rd 0 rfl))) rfl (g [[2]] ?_))
    refine WQ.q rfl (Yd.qt (Yd.ix rfl rfl (h2.addr k (by omega)))) rfl (WQ.q rfl (Yd.qt (Yd.l1 rfl ((h2.at k (by omega)).rd 0 rfl))) rfl (g [[1]] ?_))
    refine WL.yd (Yd.neS' rfl rfl) rfl (g [[2]] ?_)
    refine WC.cond rfl (fun c25 => ?_) (fun c25 => ?_)
    · try simp only [zq] at c25
      refine g [[1],[10,0,1,5]] ?_
      refine WP.ret1 rfl rfl rfl (RV.tmp rfl) (fun w hI => ⟨ret_bool (decide_eq_false (fun e => by subst e; simp at c25)).symm, hI.keep⟩)
    try simp only [zq] at c25
    refine g [[3],[5,0,1,5]] ?_
    exact WP.againT (k + 1) ⟨hkl, tk_succ hkl (by omega) hF (by simpa using c25)⟩ (by omega) [] _ rfl rfl ⟨rfl, rfl, rfl, trivial⟩
  try simp only [zq] at c14
  obtain rfl : k = A.length := by omega
  refine g [[6]] ?_
  refine WC.ofFr [] trivial (g [[5]] ?_)
  refine WP.ret1 rfl rfl rfl (RV.tmp rfl) (fun w hI => ⟨ret_bool (decide_eq_true (tk_eq (by omega) hF)).symm, hI.keep⟩)
end Go.Proofs.YtejgofaeafphjaaGreatDoor
namespace Go.Proofs.YtejgofaeafphjaaGreatDoor
open Go.W Go.Ti
end Go.Proofs.YtejgofaeafphjaaGreatDoor
namespace Go.Ti
open Go.W
end Go.Ti
namespace Go.Ti
open Go.W
def sampW : Wick := ⟨2, 12, 5, 2, [⟨0, ⟨10, 12⟩⟩, ⟨60, ⟨40, 41⟩⟩, ⟨120, ⟨12, 12⟩⟩], [⟨5, 6⟩, ⟨20, 20⟩]⟩
def aliveL : List Bs := [[116, 105, 99, 107, 101, 116, 32, 48, 32, 48, 32, 48, 32, 49, 48, 32, 49, 49], [116, 105, 99, 107, 101, 116, 32, 50, 32, 51, 32, 49, 32, 56, 32, 56], [116, 105, 99, 107, 101, 116, 32, 51, 32, 52, 32, 48, 32, 52, 48, 32, 52, 49], [116, 105, 99, 107, 101, 116, 32, 48, 32, 48, 32, 50, 32, 57, 32, 57], [116, 117, 114, 110, 32, 49], [119, 104, 111, 115, 101, 32, 49, 49], [102, 114, 101, 101, 32, 48, 32, 52, 48], [108, 111, 111, 107, 32, 49, 32, 51, 48, 32, 54, 32, 54], [100, 101, 112, 116, 104, 32, 48, 32, 49, 48], [102, 105, 114, 115, 116, 32, 49, 32, 53, 32, 48], [112, 97, 121, 32, 48], [112, 97, 121, 32, 49], [102, 105, 110, 101, 32, 49], [98, 97, 99, 107, 32, 50, 32, 54], [112, 97, 121, 32, 49], [98, 111, 111, 107], [115, 117, 109], [102, 105, 110, 101, 32, 48], [98, 111, 111, 107], [115, 117, 109]]
def aliveR : List Bs := [[116, 105, 99, 107, 101, 116, 32, 48], [116, 105, 99, 107, 101, 116, 32, 49], [116, 105, 99, 107, 101, 116, 32, 50], [], [116, 117, 114, 110, 32, 48], [119, 104, 111, 115, 101, 32, 53, 32, 48], [102, 114, 101, 101, 32, 49], [108, 111, 111, 107, 32, 48], [100, 101, 112, 116, 104, 32, 55, 32, 57], [102, 105, 114, 115, 116, 32, 50, 57], [112, 97, 105, 100, 32, 48], [112, 97, 105, 100, 32, 49], [112, 97, 105, 100, 32, 50], [112, 97, 105, 100, 32, 51], [], [98, 111, 111, 107], [115, 117, 109, 32, 50, 51], [112, 97, 105, 100, 32, 52], [98, 111, 111, 107, 32, 52, 32, 50], []]
def namesL : List (Bs × Bs × Int) := [([116, 105, 99, 107, 101, 116, 32, 48, 32, 48, 32, 48, 32, 49, 48, 32, 49, 49], [116, 105, 99, 107, 101, 116, 32, 48], 0), ([116, 105, 99, 107, 101, 116, 32, 48, 32, 48, 32, 50, 32, 57, 32, 57], [], 2), ([116, 117, 114, 110, 32, 51], [], 2), ([108, 111, 111, 107, 32, 50, 32, 51, 48, 32, 54, 32, 54], [], 2), ([112, 97, 121, 32, 48], [112, 97, 105, 100, 32, 48], 0), ([112, 97, 121, 32, 48], [], 5), ([102, 105, 110, 101, 32, 48], [112, 97, 105, 100, 32, 49], 0), ([98, 111, 111, 107], [98, 111, 111, 107, 32, 49, 32, 50], 0), ([115, 117, 109], [], 11), ([112, 97, 121], [], 8)]
set_option maxRecDepth 1000000 in
theorem alive_play : PlayOut sampW aliveL = (aliveR, 3, 0) := by decide +kernel
set_option maxRecDepth 1000000 in
theorem samp_ok : wickB sampW = true := by decide +kernel
set_option maxRecDepth 1000000 in
theorem names_ok : ∀ i, i < 10 → (lineD sampW (linesD sampW day0 ((namesL.take i).map (·.1))) (gt namesL i).1).2 = (gt namesL i).2 := by decide +kernel
end Go.Ti
namespace Go.Proofs.YtejgofaeafphjaaGreatDoor
open Go.W Go.Ti
theorem SA49 : StructAt Tryz.prog 49 [.int .i64 0, .int .i64 0, .int .i64 0, .int .i64 0, .slice none 0 0, .slice none 0 0] [(0, 1), (1, 1), (2, 1), (3, 1), (4, 1), (5, 1)] := ⟨⟨_, Tryz.zeroValue49, rfl⟩, _, Tryz.underlying49, fun w => by simp [Tryz.sizeOf3, Tryz.sizeOf27, Tryz.sizeOf28]⟩
@[reducible, instance] def ISA49 := SaF.mk SA49
theorem SA62 : StructAt Tryz.prog 62 [.int .i64 0, .int .i64 0, .int .i64 0] [(0, 1), (1, 2)] := ⟨⟨_, Tryz.zeroValue62, rfl⟩, _, Tryz.underlying62, fun w => by simp [Tryz.sizeOf3, Tryz.sizeOf39]⟩
@[reducible, instance] def ISA62 := SaF.mk SA62
theorem alive_pk {v : Value} {D : Imm} (h : PlayK sampW aliveL v D) : ∃ a n c, v = .tuple #[.slice a n c, it 3, it 0] ∧ SlL D 1 (aliveR.map strC) a n := by
  unfold PlayK at h; rw [alive_play] at h; exact h
theorem alive_len : ∀ q ∈ aliveL, q.length ≤ 2 ^ 20 := by decide
theorem lspan_g (a b : Int) (w : World) : Gives Tryz.prog 44 [it a, it b] w (.agg #[it a, it b]) := by
  unfold Gives
  refine en Tryz.func44 rfl Tryz.ntmps44 zI (g [[1],[1,0,1]] ?_)
  refine WL.so (SO.alloc ZvF.h rfl) rfl (zw fun b4 hb4 => ?_)
  refine g [[3],[8,4,0,1]] ?_
  refine WP.ret1 rfl rfl rfl (RV.cellN AgF.h SzF.h rfl (vs := [_, _]) rfl (RdN.own (k := 0) (n := 2) rfl rfl)) (fun w hI => ⟨rfl, hI.keep⟩)
theorem sample_g (D : Imm) (w : World) (hH : Holds D w) : Makes Tryz.prog 33 [] w D (fun v D' => ∃ m s, v = wickV sampW m s ∧ WickR D' sampW m s) := by
  unfold Makes
  refine en Tryz.func33 rfl Tryz.ntmps33 (Inv.start hH) (g [[1]] ?_)
  refine WC.ofFr [] trivial (g [[1]] ?_)
  refine WL.so (SO.alloc ZvF.h rfl) rfl (zw fun b0 hb0 => ?_)
  refine g [[3],[1,0]] ?_
  refine WL.cl rfl (fun w hI => lspan_g _ _ _) (g [[1]] ?_)
  refine WL.cl rfl (fun w hI => lspan_g _ _ _) (g [[1]] ?_)
  refine WL.cl rfl (fun w hI => lspan_g _ _ _) (g [[1]] ?_)
  refine WL.so (SO.buildSlice UnF.h SzF.h ZvF.h rfl rfl rfl rfl (cs := [_, _, _, _, _, _, _, _, _]) rfl) rfl ?_
  rintro _ _ _ ⟨b7, hb7, rfl, rfl, rfl⟩
  refine WL.cl rfl (fun w hI => lspan_g _ _ _) (WL.cl rfl (fun w hI => lspan_g _ _ _) ?_)
  refine WL.so (SO.buildSlice UnF.h SzF.h ZvF.h rfl rfl rfl rfl (cs := [_, _, _, _]) rfl) rfl ?_
  rintro _ _ _ ⟨b10, hb10, rfl, rfl, rfl⟩
  refine WL.freezeN 1 b7 (.cells (List.toArray (sampW.marks.flatMap markC ++ [])) 62 (0, 0)) rfl rfl hb7 (fun D1 hX1 h7 => ?_)
  refine WL.freezeN 0 b10 (.cells (List.toArray (sampW.sand.flatMap spanC ++ [])) 39 (0, 0)) rfl rfl hb10 (fun D2 hX2 h10 => ?_)
  refine g [[5]] ?_
  refine WP.ret1 rfl rfl rfl (RV.cellN AgF.h SzF.h rfl (vs := [_, _, _, _, _, _]) rfl (RdN.own (k := 0) (n := 6) rfl rfl)) (fun w1 hI => ⟨_, D2, rfl, hI.keep, hI.imm, hX1.trans hX2 (Nat.le_refl _), ⟨some ⟨b7, 0, none⟩, 3, 3⟩, ⟨some ⟨b10, 0, none⟩, 2, 2⟩, rfl, ⟨(SlL.ofBlock markC_len h7).ext hX2, SlL.ofBlock spanC_len h10, Nat.le_of_ble_eq_true rfl, Nat.le_of_ble_eq_true rfl⟩⟩)
theorem alive_g (D : Imm) (hL : LibW D) (w : World) (hH : Holds D w) : Gives Tryz.prog 29 [] w (.bool true) := by
  unfold Gives
  refine en Tryz.func29 rfl Tryz.ntmps29 (Inv.start hH) (g [[1]] ?_)
  refine WC.ofFr [] trivial (g [[5],[1,0]] ?_)
  refine WL.so (SO.buildSlice1 UnF.h SzF.h ZvF.h rfl rfl rfl (vs := [_, _, _, _, _, _, _, _, _, _, _, _, _, _, _, _, _, _, _, _]) rfl rfl rfl) rfl ?_
  rintro _ _ _ ⟨b6, hb6, rfl, rfl, rfl⟩
  refine g [[4],[1,1,0]] ?_
  refine WL.so (SO.buildSlice1 UnF.h SzF.h ZvF.h rfl rfl rfl (vs := [_, _, _, _, _, _, _, _, _, _, _, _, _, _, _, _, _, _, _, _]) rfl rfl rfl) rfl ?_
  rintro _ _ _ ⟨b7, hb7, rfl, rfl, rfl⟩
  refine g [[4]] ?_
  refine WC.freezeN 0 b7 (.cells (List.toArray (aliveR.flatMap strC ++ [])) 9 (0, 0)) rfl rfl hb7 (fun D1 hX1 h7 => ?_)
  refine WC.freezeN 0 b6 (.cells (List.toArray (aliveL.flatMap strC ++ [])) 9 (0, 0)) rfl rfl hb6 (fun D2 hX2 h6 => ?_)
  have hL2 := (hL.ext hX1).ext hX2
  refine g [[1,2,1,0]] ?_
  refine WL.so (SO.makes (Enters.func Tryz.call33 rfl) (fun w1 hI => sample_g D2 _ hI.imm)) rfl ?_
  rintro _ D3 _ ⟨hX3, ⟨m, s, rfl, hWs⟩, rfl⟩
  refine g [[1]] ?_
  refine WL.so (SO.makes (Enters.func Tryz.call30 rfl) (fun w1 hI => play_g sampW m s aliveL (some ⟨b6, 0, none⟩) 20 20 D3 _ hWs ((SlL.ofBlock strC_len h6).ext hX3) alive_len (hL2.ext hX3) hI.imm)) rfl ?_
  rintro _ D4 _ ⟨hX4, hPK, rfl⟩
  obtain ⟨a, n, c, rfl, hS4⟩ := alive_pk hPK
  obtain rfl := hS4.len'
  refine g [[10],[3,5,4,3,2,0]] ?_
  refine WL.cl rfl (fun w hI => Strings_g aliveR aliveR a (some ⟨b7, 0, none⟩) _ 20 c 20 D4 hS4 ((((SlL.ofBlock strC_len h7).ext hX2).ext hX3).ext hX4) (by decide) _ hI.imm) (WL.know 17 (.bool true) rfl (congrArg Value.bool (decide_eq_true rfl)) (g [[3]] ?_))
  refine WL.know 20 (.bool true) rfl rfl (g [[4]] ?_)
  refine WL.know 24 (.bool true) rfl rfl (g [[5]] ?_)
  refine WP.ret1 rfl rfl rfl (RV.tmp rfl) (fun w1 hI => ⟨rfl, hI.keep⟩)
end Go.Proofs.YtejgofaeafphjaaGreatDoor
namespace Go.Proofs.YtejgofaeafphjaaGreatDoor
open Go.W Go.Ti
theorem SA77 : StructAt Tryz.prog 77 [.string .empty, .string .empty, .int .i64 0] [(0, 1), (1, 1), (2, 1)] := ⟨⟨_, Tryz.zeroValue77, rfl⟩, _, Tryz.underlying77, fun w => by simp [Tryz.sizeOf9, Tryz.sizeOf51]⟩
@[reducible, instance] def ISA77 := SaF.mk SA77
def namC (x : Bs × Bs × Int) : List Value := [st x.1, st x.2.1, it x.2.2]
theorem namC_len (x : Bs × Bs × Int) : (namC x).length = 3 := rfl
theorem names_q : ∀ i, i < 10 → (gt namesL i).1.length ≤ 2 ^ 20 := by decide
theorem names_tk {k : Nat} (h : k < 10) : linesD sampW day0 ((namesL.take (k + 1)).map (·.1)) = (lineD sampW (linesD sampW day0 ((namesL.take k).map (·.1))) (gt namesL k).1).1 := by
  rw [take_gt (show k < namesL.length from h), List.map_append, lines_app]; rfl
theorem WicketNames_g (D : Imm) (hL : LibW D) (w : World) (hH : Holds D w) : Gives Tryz.prog 5 [] w (.bool true) := by
  unfold Gives
  refine en Tryz.func5 rfl Tryz.ntmps5 (Inv.start hH) (g [[1]] ?_)
  refine WC.ofFr [] trivial (g [[5],[1,0]] ?_)
  refine WL.so (SO.makes (Enters.func Tryz.call33 rfl) (fun w1 hI => sample_g D _ hI.imm)) rfl ?_
  rintro _ D2 _ ⟨hX2, ⟨m, s, rfl, hWs⟩, rfl⟩
  refine WL.so (SO.news (Enters.func CaF.h rfl) (fun w1 hI => New_g sampW m s D2 _ hWs hI.imm (hL.ext hX2))) rfl ?_
  rintro _ D3 _ ⟨hp3, hX3, (⟨hv1, xb, m', s', rfl, rfl, hWr⟩ | ⟨hv1, rfl⟩), rfl⟩
  rotate_left
  · rw [samp_ok] at hv1; cases hv1
  refine g [[9],[2,2,1,0]] ?_
  refine WL.yd (Yd.eqP UnF.h rfl) rfl (WL.know 13 (.bool false) rfl rfl (g [[3]] ?_))
  refine WL.know 16 (.bool false) rfl rfl (g [[8],[11,1,0]] ?_)
  refine WL.so (SO.buildSlice UnF.h SzF.h ZvF.h rfl rfl rfl rfl (cs := [_, _, _, _, _, _, _, _, _, _, _, _, _, _, _, _, _, _, _, _, _, _, _, _, _, _, _, _, _, _]) rfl) rfl ?_
  rintro _ _ _ ⟨b28, hb28, rfl, rfl, rfl⟩
  refine WL.freezeN 0 b28 (.cells (List.toArray (namesL.flatMap namC ++ [])) 77 (0, 0)) rfl rfl hb28 (fun D5 hX5 h28 => ?_)
  have hN : SlL D5 3 (namesL.map namC) (some ⟨b28, 0, none⟩) 10 := SlL.ofBlock namC_len h28
  refine g [[5]] ?_
  refine WC.loop (fun y : Nat × Imm × Sl × Sl × Sl => [(1, pt xb), (28, .slice (some ⟨b28, 0, none⟩) 10 10), (29, nt 10), (30, nt y.1)]) (fun y => [(xb, womO sampW m' s' y.2.2.1 y.2.2.2.1 y.2.2.2.2)]) (fun y => y.2.1) (fun y => y.1 ≤ 10 ∧ DExt w D5 y.2.1 ∧ DayR y.2.1 (linesD sampW day0 ((namesL.take y.1).map (·.1))) y.2.2.1 y.2.2.2.1 y.2.2.2.2) (fun y => 10 - y.1) ⟨0, D5, nilS, nilS, nilS⟩ ⟨by omega, DExt.refl _ _, DayR.nil _⟩ (fun a w h => at_fr h ⟨rfl, rfl, rfl, rfl, trivial⟩) ?_
  rintro ⟨k, D1, t, l, b⟩ ⟨hk7, hX1, hd1⟩
  dsimp only at hk7 hX1 hd1
  refine g [[1],[5,1,28,29,30]] ?_
  refine WC.cond rfl (fun c31 => ?_) (fun c31 => ?_)
  · try simp only [zq] at c31
    have hkl : k < 10 := by omega
    refine g [[5],[1,1,28,29,30]] ?_
    refine WL.yd (Yd.ix rfl rfl ((hN.ext hX1).addr k (by omega))) rfl (WL.yd (Yd.lV [_, _, _] rfl (((hN.ext hX1).at k (by omega)).rdn 0 3 rfl)) rfl ?_)
    refine WL.so (SO.alloc ZvF.h rfl) rfl (zw fun b4 hb4 => ?_)
    refine g [[4],[4,4,1,28,29,30]] ?_
    refine WL.so (SO.altersN (own := [_]) (hpc := [(xb, womO sampW m' s' t l b)]) (S1 := [xb]) (fun _ h => h) (fun h => h) (fun _ h => h) (fun _ h => h) (Enters.func CaF.h rfl) (fun w1 hI => line_g sampW (linesD sampW day0 ((namesL.take k).map (·.1))) m' s' t l b xb (gt namesL k).1 D1 w1 samp_ok (lines_ok _ (day0_ok samp_ok)) ((hWr.ext hX5).ext hX1) hd1 ((((hL.ext hX2).ext hX3).ext hX5).ext hX1) (names_q k hkl) hI)) rfl ?_
    rintro _ D6 _ ⟨hp6, hX6, ⟨hv6, t1, l1, b1, rfl, hd6⟩, rfl⟩
    have hnk := names_ok k hkl
    rw [show (lineD sampW (linesD sampW day0 ((namesL.take k).map (·.1))) (gt namesL k).1).2.1 = (gt namesL k).2.1 from congrArg Prod.fst hnk, show (lineD sampW (linesD sampW day0 ((namesL.take k).map (·.1))) (gt namesL k).1).2.2 = (gt namesL k).2.2 from congrArg Prod.snd hnk] at hv6
    subst hv6
    refine g [[8],[4,6,5,4,1,28,29,30]] ?_
    refine WL.yd (Yd.neS' rfl rfl) rfl ?_
    refine WL.know 44 (.bool false) rfl (congrArg Value.bool (by simp)) (g [[5]] ?_)
    refine WL.know 49 (.bool false) rfl (congrArg Value.bool (by simp)) (g [[7],[4,1,28,29,30]] ?_)
    exact WP.again (⟨k + 1, D6, t1, l1, b1⟩ : Nat × Imm × Sl × Sl × Sl) ⟨by simp only; omega, hX1.trans hX6 (Nat.le_refl _), by dsimp only; rw [names_tk hkl]; exact hd6⟩ (by simp only; omega) (fun aa ww h => at_drop 1 h ⟨rfl, rfl, rfl, rfl, trivial⟩ (List.Perm.refl _))
  try simp only [zq] at c31
  obtain rfl : k = 10 := by omega
  refine g [[6]] ?_
  refine WC.ofFr [] trivial (g [[2]] ?_)
  refine WL.sog rfl (SO.callP CaF.h rfl (fun w hI => alive_g D1 ((((hL.ext hX2).ext hX3).ext hX5).ext hX1) _ hI.imm)) rfl (zs (g [[5]] ?_))
  refine WP.ret1 rfl rfl rfl (RV.tmp rfl) (fun w1 hI => ⟨rfl, hI.keep⟩)
end Go.Proofs.YtejgofaeafphjaaGreatDoor
namespace Go.Proofs.YtejgofaeafphjaaGreatDoor
open Go.W Go.Ti Go.ChangeShapes Go.WideShapes Go.ChangeAt Go.RowKit Go.Deep
abbrev laidL : List (String × DataW Unit) := Rows.wicketNamesRow.laid
theorem star_err : "*errors.errorString" = "*" ++ "errors.errorString" := by decide
theorem row_err : ∀ u, Tryz.prog.typeName? 3 u = some "*errors.errorString" → u = 417 := fun u h =>
  typeName_ptr_named (nm := "errors.errorString") (by rw [← star_err]; kernel_rfl) zk (by decide) u (by rw [← star_err]; exact h)
theorem len4c {l : List Value} (h : l.length = 4) : ∃ a b c d, l = [a, b, c, d] := by
  match l, h with
  | [a, b, c, d], _ => exact ⟨a, b, c, d, rfl⟩
set_option maxRecDepth 100000 in
theorem ents_at {W : World} {x : String × DataW Unit} {r : List (String × DataW Unit)} (hx : x = ("dipworks/wicket.entries", Rows.laid_dipworks_wicket_entries)) (h : laidMet Tryz.prog (x :: r) W) : ∃ t fz, heapI W 0 = some (.cells (List.toArray [st [], st payS, st fineS, st backS]) t fz) := by
  subst hx
  obtain ⟨ps, ⟨g, t, cs, fuel, p, q, hg, ht, hv, hd, _, _⟩, _, _⟩ := h
  obtain rfl := Option.some.inj ((show Tryz.prog.globalNamed "dipworks/wicket.entries" = some 0 by kernel_rfl).symm.trans hg)
  obtain rfl := Option.some.inj ((show (Tryz.prog.globals[0]?).map (·.type) = some 216 by kernel_rfl).symm.trans ht)
  obtain ⟨t', fz, hh⟩ := var_heapI hg hv
  refine ⟨t', fz, ?_⟩
  rw [hh]
  obtain ⟨l⟩ := cs
  obtain ⟨xs, m, rfl, hx, hlen, hxl, hel⟩ := DataW.trod_array (show Tryz.prog.underlying 216 = some (.array 4 9) by kernel_rfl) hd
  have hc : Tryz.prog.cellsOf 216 = 4 := by kernel_rfl
  have hcS : Tryz.prog.cellsOf 9 = 1 := by kernel_rfl
  rw [hc] at hlen
  obtain ⟨c0, c1, c2, c3, rfl⟩ := len4c hlen
  have h0 := hel 0 (by omega)
  have h1 := hel 1 (by omega)
  have h2 := hel 2 (by omega)
  have h3 := hel 3 (by omega)
  simp only [Prod.mk.injEq, DataW.agg.injEq, Rows.laid_dipworks_wicket_entries] at hx
  rw [hcS] at h0 h1 h2 h3
  match xs, hxl, hx, h0, h1, h2, h3 with
  | [x0, x1, x2, x3], _, hx, h0, h1, h2, h3 =>
    obtain ⟨s0, e0, f0, _⟩ := DataW.trod_string Tryz.underlying9 (show DataW.trod _ Tryz.prog W 0 _ false m 9 [c0] = some x0 from h0)
    obtain ⟨s1, e1, f1, _⟩ := DataW.trod_string Tryz.underlying9 (show DataW.trod _ Tryz.prog W 0 _ false m 9 [c1] = some x1 from h1)
    obtain ⟨s2, e2, f2, _⟩ := DataW.trod_string Tryz.underlying9 (show DataW.trod _ Tryz.prog W 0 _ false m 9 [c2] = some x2 from h2)
    obtain ⟨s3, e3, f3, _⟩ := DataW.trod_string Tryz.underlying9 (show DataW.trod _ Tryz.prog W 0 _ false m 9 [c3] = some x3 from h3)
    subst f0; subst f1; subst f2; subst f3
    simp only [List.map_cons, List.map_nil, List.cons.injEq, DataW.lit.injEq, Lit.string.injEq, and_true] at hx
    simp only [List.cons.injEq, and_true] at e0 e1 e2 e3
    subst e0; subst e1; subst e2; subst e3
    obtain ⟨q0, q1, q2, q3⟩ := hx.1
    obtain ⟨⟨d0⟩⟩ := s0
    obtain ⟨⟨d1⟩⟩ := s1
    obtain ⟨⟨d2⟩⟩ := s2
    obtain ⟨⟨d3⟩⟩ := s3
    simp only at q0 q1 q2 q3
    subst q0; subst q1; subst q2; subst q3
    rfl
set_option maxRecDepth 100000 in
theorem libW_of {W : World} (hS : W.ShapedOpen Tryz.prog) (hL : laidMetH Tryz.prog laidL W) : LibW (heapI W) := by
  rw [MakeChecks.laidMetH_plain _ _ _ zk] at hL
  have h0 : laidMet Tryz.prog [("math/bits.deBruijn32tab", Rows.laid_math_bits_deBruijn32tab), ("math/bits.deBruijn64tab", Lib.tabData .u8 (Lib.deBruijn64tab.map fun n : Nat => (n : Int))), ("internal/strconv.uint64pow10", Lib.tabData .u64 Lib.pow10Tab), ("unicode/utf8.acceptRanges", Rows.laid_unicode_utf8_acceptRanges), ("dipworks/tide.done", Lib.tabData .i64 donL), ("strconv.ErrRange", Rows.laid_strconv_ErrRange), ("strconv.ErrSyntax", Rows.laid_strconv_ErrSyntax), ("dipworks/wicket.entries", Rows.laid_dipworks_wicket_entries), ("unicode/utf8.first", Rows.laid_unicode_utf8_first)] W := hL
  have h1 := h0.tail
  have hb : Lib.TabIs Tryz.prog W "math/bits.deBruijn64tab" .u8 (Lib.deBruijn64tab.map fun n : Nat => (n : Int)) := Lib.tabIs_of_head (g := 6) (t := 361) (e := 5) (n := 64) zk zk zk zk zk zk h1
  have h2 := h1.tail
  have hp : Lib.TabIs Tryz.prog W "internal/strconv.uint64pow10" .u64 Lib.pow10Tab := Lib.tabIs_of_head (g := 7) (t := 386) (e := 233) (n := 20) zk zk zk zk zk zk h2
  have h3 := h2.tail.tail
  have hq : Lib.TabIs Tryz.prog W "dipworks/tide.done" .i64 donL := Lib.tabIs_of_head (g := 2) (t := 308) (e := 3) (n := 7) zk zk zk zk zk zk h3
  have h4 := h3.tail
  obtain ⟨a1, s1, hv1, _⟩ := laid_sentinel (g := 9) (ti := 193) (tp := 417) (te := 419) (ts := 9) h4 zk zk Tryz.underlying193 row_err Tryz.underlying417 Tryz.underlying419 rfl rfl Tryz.underlying9 zk zk
  have h5 := h4.tail
  obtain ⟨a2, s2, hv2, _⟩ := laid_sentinel (g := 8) (ti := 193) (tp := 417) (te := 419) (ts := 9) h5 zk zk Tryz.underlying193 row_err Tryz.underlying417 Tryz.underlying419 rfl rfl Tryz.underlying9 zk zk
  have h6 := h5.tail
  obtain ⟨m, hm⟩ := cell_of_shapedOpen_int (k := .i64) (zero := #[.int .i64 0]) (t := 3) (g := 1) hS (of_decide_eq_true zk) zk rfl zk zk Tryz.underlying3
  obtain ⟨r, tm, fm, hmm⟩ := cell_heapI hm
  obtain ⟨t1, f1, g1⟩ := var_heapI (g := 9) zk hv1
  obtain ⟨t2, f2, g2⟩ := var_heapI (g := 8) zk hv2
  obtain ⟨t3, f3, g3⟩ := var_heapI (g := 7) zk hp
  obtain ⟨t4, f4, g4⟩ := var_heapI (g := 2) zk hq
  obtain ⟨t5, f5, g5⟩ := var_heapI (g := 6) zk hb
  exact ⟨⟨t4, f4, g4⟩, ents_at rfl h6, ⟨m, r, tm, fm, hmm⟩, ⟨_, _, t2, f2, g2⟩, ⟨_, _, t1, f1, g1⟩, ⟨t3, f3, g3⟩, ⟨t5, f5, by rw [g5]; unfold tabV; rw [List.map_map]; rfl⟩⟩
theorem own_knob : ownKnob Tryz.prog.godebug = none := by kernel_rfl
theorem laid_met (os : Os) (args : Array Value) : laidMetH Tryz.prog laidL ((World.laidAll Tryz.prog os laidL).forCall (fun _ _ => 0) ⟨#[], args, []⟩).memory := by
  rw [MakeChecks.laidMetH_plain _ _ _ zk]; exact laidMet_laidAll _ zk zk
theorem laid_shaped (os : Os) (args : Array Value) : ((World.laidAll Tryz.prog os laidL).forCall (fun _ _ => 0) ⟨#[], args, []⟩).Shaped Tryz.prog := World.shaped_of_ZipB zk zk
theorem laid_out : laidOutB Tryz.prog = true := by kernel_rfl
end Go.Proofs.YtejgofaeafphjaaGreatDoor
