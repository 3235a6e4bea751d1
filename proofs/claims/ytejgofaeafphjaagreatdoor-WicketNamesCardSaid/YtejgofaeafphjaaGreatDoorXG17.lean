import Derived.Test.YtejgofaeafphjaaGreatDoorXG16
import Derived.Test.YtejgofaeafphjaaGreatDoorXG3
import Derived.Test.YtejgofaeafphjaaGreatDoorXG5
import Derived.Test.YtejgofaeafphjaaGreatDoorXG7
set_option linter.unusedSimpArgs false
set_option linter.unusedVariables false
set_option linter.all false
set_option maxRecDepth 100000
set_option maxHeartbeats 4000000
attribute [local irreducible] Go.W.WL Go.W.WLF Go.W.WC Go.W.WCF Go.W.WP Go.W.WA Go.W.WQ Go.W.WH Go.W.WHo Go.W.WCn Go.W.Yd Go.W.Qt Go.W.SO Go.Code.wp Go.Code.wpIn
namespace Go.Proofs.YtejgofaeafphjaaGreatDoor
open Go.W Go.Ti
def tdC (T : Tide) (h : Hts) : List Value := htC h ++ (List.range 4).map fun p => if p < T.sand.length then ut (setU T h p) else ut 0
def tdV (T : Tide) (h : Hts) : Value := .agg (tdC T h).toArray
theorem tdC_len (T : Tide) : ∀ h, (tdC T h).length = 8 := fun _ => rfl
theorem every_g (T : Tide) (a1 a2 a3 : Option Addr) (n1 n2 n3 c1 c2 c3 : Nat) (D : Imm) (w : World) (hR : TideR D T a1 n1 a2 n2 a3 n3) (qb mb : Nat) (hq : D qb = some (shoO (.slice a1 n1 c1) (.slice a2 n2 c2) (.slice a3 n3 c3) mb)) (hH : Holds D w) (hT : TideOk T) : Gives Tryz.prog 172 [pt qb] w (ut (2 ^ T.looks.length - 1)) := by
  unfold Gives
  obtain rfl := hR.mark.len'
  obtain rfl := hR.sand.len'
  obtain rfl := hR.look.len'
  obtain ⟨hl1, hl2, hl3⟩ := hR.len
  have hnl := hT.nl
  refine en Tryz.func172 rfl Tryz.ntmps172 (Inv.start hH) (g [[1],[5,0],[7,2,0]] ?_)
  refine WL.yd (Yd.shlU rfl rfl (by omega)) rfl (WL.yd (Yd.subU (i := 2 ^ T.looks.length) (j := 1) rfl rfl (Nat.one_le_two_pow) (Nat.pow_le_pow_right (by omega) (by omega))) rfl (g [[4]] ?_))
  refine WP.ret1 rfl rfl rfl (RV.tmp rfl) (fun w hI => ⟨rfl, hI.keep⟩)
theorem truthsD_g (q n : Nat) (D : Imm) (w : World) (hH : Holds D w) : Makes Tryz.prog 171 [pt q, ut n] w D (fun v D' => ∃ b c, v = .func (.func 235) #[] #[pt b, pt c] ∧ D' b = some (.cells (List.toArray [pt q]) 134 (0, 0)) ∧ D' c = some (.cells (List.toArray [ut n]) 200 (0, 0))) := by
  unfold Makes
  refine en Tryz.func171 rfl Tryz.ntmps171 (Inv.start hH) (g [[1],[1,0,1]] ?_)
  refine WL.so (SO.box rfl rfl) rfl (zw fun b2 hb2 => ?_)
  refine WL.so (SO.box rfl rfl) rfl (zw fun b3 hb3 => ?_)
  refine g [[4]] ?_
  refine WC.freezeK 0 rfl (fun hn3 => ?_)
  refine WC.freezeK 0 rfl (fun hn2 => ?_)
  refine g [[6,4,3,2]] ?_
  refine WP.ret1 rfl rfl rfl (RV.tmp rfl) (fun w1 hI => ⟨_, _, rfl, hI.keep, hI.imm, ((DExt.refl w D).add hn3 hb3).add hn2 hb2, b2, b3, rfl, Imm.add_self _ _ _, ((DExt.refl w _).add hn2 hb2).old _ _ (Imm.add_self _ _ _)⟩)
end Go.Proofs.YtejgofaeafphjaaGreatDoor
namespace Go.Proofs.YtejgofaeafphjaaGreatDoor
open Go.W Go.Ti
def tdF (T : Tide) (rem : Nat) (h : Hts) (k : Nat) : List Hts := (hsL T rem h k).filter (truB T)
def spR (T : Tide) (k : Nat) : List Int := rng (gt T.marks k).high.lo (gt T.marks k).high.hi
theorem tdF_zero (T : Tide) (h : Hts) (k : Nat) : tdF T 0 h k = if truB T h then [h] else [] := by
  unfold tdF hsL
  cases hb : truB T h <;> simp [hb]
theorem tdF_succ (T : Tide) (rem : Nat) (h : Hts) (k : Nat) : tdF T (rem + 1) h k = (spR T k).flatMap fun n => tdF T rem (updH h k n) (k + 1) := by
  unfold tdF spR
  rw [hsL, List.filter_flatMap]
def tdN (T : Tide) (rem : Nat) (h : Hts) (k i : Nat) : Nat := (((spR T k).take i).flatMap fun n => tdF T rem (updH h k n) (k + 1)).length
theorem tdN_succ {T : Tide} {rem : Nat} {h : Hts} {k i : Nat} (hi : i < (spR T k).length) : tdN T rem h k (i + 1) = tdN T rem h k i + (tdF T rem (updH h k (gt (spR T k) i)) (k + 1)).length := by
  unfold tdN
  exact take_flat (fun n => tdF T rem (updH h k n) (k + 1)) hi
theorem tdN_part {T : Tide} {rem : Nat} {h : Hts} {k i k0 : Nat} {A : List Hts} (hA : PartOf A (tdF T (rem + 1) h k) k0) (hi : i < (spR T k).length) : PartOf A (tdF T rem (updH h k (gt (spR T k) i)) (k + 1)) (k0 + tdN T rem h k i) := by
  rw [tdF_succ] at hA
  exact hA.step hi
theorem tdN_all (T : Tide) (rem : Nat) (h : Hts) (k : Nat) : tdN T rem h k (spR T k).length = (tdF T (rem + 1) h k).length := by
  unfold tdN
  rw [tdF_succ, List.take_length]
theorem tdF_all (T : Tide) : tdF T T.marks.length zeroH 0 = tdL T := rfl
theorem htB_upd {h : Hts} (hh : HtB h) (k : Nat) {n : Int} (hn : 0 ≤ n ∧ n ≤ 60) : HtB (updH h k n) := fun j => by
  unfold updH; split
  · exact hn
  exact hh j
theorem htB_zero : HtB zeroH := fun _ => by simp [zeroH]
def truTo (T : Tide) (h : Hts) (k : Nat) : Bool := (List.range k).all fun p => !(setL T h p).isEmpty
theorem sumU_nil {l : List Int} : sumU l = 0 ↔ l = [] := by
  unfold sumU
  cases l with
  | nil => simp
  | cons a r =>
    have := Nat.two_pow_pos a.toNat
    simp only [List.map_cons, List.sum_cons, reduceCtorEq, iff_false]
    omega
theorem truTo_succ {T : Tide} {h : Hts} {k : Nat} : truTo T h (k + 1) = (truTo T h k && !decide (setU T h k = 0)) := by
  unfold truTo setU
  rw [List.range_succ, List.all_append]
  simp only [List.all_cons, List.all_nil, Bool.and_true]
  congr 1
  cases hl : setL T h k with
  | nil => rfl
  | cons a r =>
    have : ¬ sumU (a :: r) = 0 := fun e => by have := sumU_nil.1 e; cases this
    simp [this]
def tdP (T : Tide) (h : Hts) (j : Nat) : List Value := htC h ++ (List.range 4).map fun p => if p < j then ut (setU T h p) else ut 0
theorem spl_td (T : Tide) (h : Hts) {j : Nat} (hj : j < 4) : splice (tdP T h j) (0 + 4 + j * 1) [ut (setU T h j)] = tdP T h (j + 1) := by
  rcases (show j = 0 ∨ j = 1 ∨ j = 2 ∨ j = 3 by omega) with rfl | rfl | rfl | rfl <;> simp [tdP, htC, splice, List.range, List.range.loop]
theorem td_rd (T : Tide) (h : Hts) {j : Nat} (hj : j < 4) : (tdP T h (j + 1))[0 + 4 + j * 1]? = some (ut (setU T h j)) := by
  rcases (show j = 0 ∨ j = 1 ∨ j = 2 ∨ j = 3 by omega) with rfl | rfl | rfl | rfl <;> simp [tdP, htC, List.range, List.range.loop]
theorem inv_flip {D : Imm} {a b : Nat × Obj} {h0 hM : Hp} {S : List Nat} {w0 w : World} (h : Inv D ((a :: b :: h0) ++ hM) S w0 w) : Inv D (hM ++ h0) S w0 w := by
  have hp : ((a :: b :: h0) ++ hM).Perm (a :: b :: (hM ++ h0)) := (List.perm_append_comm.cons b).cons a
  refine h.sub (fun e he => hp.mem_iff.2 (List.mem_cons_of_mem _ (List.mem_cons_of_mem _ he))) ?_
  have hn := ((hp.map Prod.fst).nodup_iff).1 h.nodup
  rw [List.map_cons, List.map_cons] at hn
  exact (List.nodup_cons.1 (List.nodup_cons.1 hn).2).2
end Go.Proofs.YtejgofaeafphjaaGreatDoor
namespace Go.Proofs.YtejgofaeafphjaaGreatDoor
open Go.W Go.Ti
theorem SA236 : StructAt Tryz.prog 236 [.int .i64 0, .int .i64 0, .int .i64 0, .int .i64 0, .int .u64 0, .int .u64 0, .int .u64 0, .int .u64 0] [(0, 4), (4, 4)] := ⟨⟨_, Tryz.zeroValue236, rfl⟩, _, Tryz.underlying236, fun w => by simp [Tryz.sizeOf232, Tryz.sizeOf234]⟩
@[reducible, instance] def ISA236 := SaF.mk SA236
theorem onD_0 (T : Tide) (a1 a2 a3 : Option Addr) (n1 n2 n3 c1 c2 c3 : Nat) (qb mb bs bo bm by_ ly : Nat) (St : Nat → Imm → Hp → Prop) (Sp : Imm → Hp → Prop) (w0 : World) (A : List Hts) (hT : TideOk T)
    (hSm : ∀ k D1 D2 h, DExt w0 D1 D2 → St k D1 h → St k D2 h)
    (DD : Imm) (hround : ∀ k D' h w', k < A.length → w0.heap.size ≤ w'.heap.size → DExt w0 DD D' → St k D' h → Inv D' h (keys h) w' w' → YieldAt Fence.wide 0 Tryz.prog ly #[tdV T (gt A k)] w' (RoundN w' D' (keys h) (fun b D'' h' => (b = true ∧ St (k + 1) D'' h') ∨ (b = false ∧ Sp D'' h')))) : ∀ (h : Hts) (k k0 : Nat) (D : Imm) (w : World) (hM h0 : Hp), k + 0 = T.marks.length → PartOf A (tdF T 0 h k) k0 → HtB h → w0.heap.size ≤ w.heap.size → DExt w0 DD D → TideR D T a1 n1 a2 n2 a3 n3 → D qb = some (shoO (.slice a1 n1 c1) (.slice a2 n2 c2) (.slice a3 n3 c3) mb) → DoneD D → D bs = some (.cells (List.toArray [pt qb]) 134 (0, 0)) → D bo = some (.cells (List.toArray [.func (.func 236) #[] #[pt bs, pt bo, pt bm, pt by_]]) 312 (0, 0)) → D bm = some (.cells (List.toArray [ut (2 ^ T.looks.length - 1)]) 200 (0, 0)) → D by_ = some (.cells (List.toArray [.func (.yield ly) #[] #[]]) 311 (0, 0)) → MapK T mb hM → St k0 D h0 → Inv D (hM ++ h0) (keys (hM ++ h0)) w w → AltersN Tryz.prog 236 [htV h, nt k, pt bs, pt bo, pt bm, pt by_] w D (keys (hM ++ h0)) (fun v D' h' => ∃ b hM' h1, v = .bool b ∧ h' = hM' ++ h1 ∧ MapK T mb hM' ∧ ((b = true ∧ St (k0 + (tdF T 0 h k).length) D' h1) ∨ (b = false ∧ Sp D' h1))) := by
  intro h k k0 D w hM h0 hin hpart hh hsw hXX hR hq hdn h1 h2 h3 h4 hMM hS0 hI0
  obtain rfl := hR.mark.len'
  obtain rfl := hR.sand.len'
  obtain rfl := hR.look.len'
  obtain ⟨hl1, hl2, hl3⟩ := hR.len
  obtain ⟨es0, clock0, F0, rfl, hMR0, hFK0⟩ := hMM
  have hnm := hT.nm
  have hns := hT.ns
  unfold AltersN
  refine en Tryz.func236 rfl Tryz.ntmps236 hI0 (g [[1],[1,0,1,2,3,4,5]] ?_)
  refine WL.so (SO.box rfl rfl) rfl (zw fun b6 hb6 => ?_)
  refine g [[5],[11,8,6,1,2,3,4,5]] ?_
  refine WC.cond rfl (fun c20 => ?_) (fun c20 => ?_)
  · try simp only [zq] at c20
    omega
  try simp only [zq] at c20
  refine g [[3],[3,8,6,2,4,5]] ?_
  refine WL.so (SO.alloc ZvF.h rfl) rfl (zw fun b11 hb11 => ?_)
  refine g [[5],[11,11,8,6,2,4,5]] ?_
  refine WC.loop (fun y : Nat × Hp => [(2, pt bs), (4, pt bm), (5, pt by_), (6, pt b6), (11, pt b11), (63, nt T.sand.length), (64, nt y.1)]) (fun y => ((b11, .cells (List.toArray (tdP T h y.1)) 236 (0, 0)) :: (b6, .cells (List.toArray (htC h)) 232 (0, 0)) :: h0) ++ y.2) (fun _ => D) (fun y => y.1 ≤ T.sand.length ∧ MapK T mb y.2 ∧ truTo T h y.1 = true) (fun y => T.sand.length - y.1) (0, [(mb, .map es0 clock0)]) ⟨by omega, ⟨es0, clock0, F0, rfl, hMR0, hFK0⟩, rfl⟩ (fun a w h => at_less h ⟨rfl, rfl, rfl, rfl, rfl, rfl, rfl, trivial⟩ (fun e he => by
    rcases List.mem_append.1 he with he | he
    · rcases List.mem_cons.1 he with rfl | he
      · exact List.mem_cons_self
      rcases List.mem_cons.1 he with rfl | he
      · exact List.mem_cons_of_mem _ List.mem_cons_self
      exact List.mem_cons_of_mem _ (List.mem_cons_of_mem _ (List.mem_cons_of_mem _ he))
    · obtain rfl := List.mem_singleton.1 he
      exact List.mem_cons_of_mem _ (List.mem_cons_of_mem _ List.mem_cons_self)) (fun hn => by
    simp only [keys, List.map_append, List.map_cons, List.map_nil, List.cons_append, List.nil_append] at hn ⊢
    exact ((((List.perm_append_singleton mb (h0.map Prod.fst)).cons b6).cons b11).nodup_iff).2 hn)) ?_
  rintro ⟨j, hM⟩ ⟨hj, hMM, htr⟩
  dsimp only at hj hMM htr
  obtain ⟨es, clock, F, rfl, hMR, hFK⟩ := hMM
  refine g [[1],[5,2,4,5,6,11,63,64]] ?_
  refine WC.cond rfl (fun c65 => ?_) (fun c65 => ?_)
  · try simp only [zq] at c65
    have hjs : j < T.sand.length := by omega
    refine g [[5],[6,2,4,5,6,11,63,64],[6,12,2,4,5,6,11,63,64]] ?_
    refine WL.so (SO.altersN (own := ((b11, .cells (List.toArray (tdP T h j)) 236 (0, 0)) :: (b6, .cells (List.toArray (htC h)) 232 (0, 0)) :: h0)) (hpc := [(mb, .map es clock)]) (S1 := [mb]) (fun _ h => h) (fun h => h) (fun _ h => h) (fun _ h => h) (Enters.func CaF.h rfl) (fun w1 hI => sand_g T a1 a2 a3 _ _ _ c1 c2 c3 D w1 hR qb mb hq hI.imm hT hdn h hh j hjs _ ⟨es, clock, F, rfl, hMR, hFK⟩ hI)) rfl ?_
    rintro _ _ _ ⟨hM2, _, ⟨rfl, rfl, hMM2⟩, rfl⟩
    refine g [[1]] ?_
    refine WL.yd (Yd.indexA UnF.h SzF.h rfl rfl (by omega) (by omega)) rfl ?_
    refine WL.so (SO.store 0 rfl SzF.h rfl rfl rfl rfl (by show 0 + 4 + j * 1 + 1 ≤ 8; omega) (oneB_spec rfl)) rfl (zt (g [[3],[1,12,2,4,5,6,11,63,64]] ?_))
    rw [show splice (tdP T h j) (0 + 4 + (j : Int).toNat * 1) [ut (setU T h j)] = tdP T h (j + 1) from spl_td T h (by omega)]
    refine g [[2]] ?_
    refine WL.yd (Yd.indexA UnF.h SzF.h rfl rfl (by omega) (by omega)) rfl (WL.yd (Yd.l1 rfl (Rd.own (k := 0) rfl (td_rd T h (j := j) (by omega)))) rfl (g [[3]] ?_))
    refine WC.cond rfl (fun c79 => ?_) (fun c79 => ?_)
    · try simp only [zq] at c79
      refine g [[1],[10,2,4,5,6,11,63,64]] ?_
      refine WP.ret1 rfl rfl rfl (RV.tmp rfl) (fun w1 hI => ⟨_, _, hM2 ++ h0, rfl, DExt.refl _ _, inv_flip hI, true, hM2, h0, rfl, rfl, hMM2, .inl ⟨rfl, by
        have hno : truB T h = false := by
          cases hb : truB T h with
          | false => rfl
          | true =>
            have h9 := List.all_eq_true.1 hb j (List.mem_range.2 hjs)
            have h8 : setL T h j = [] := sumU_nil.1 (by show setU T h j = 0; omega)
            rw [h8] at h9; cases h9
        rw [tdF_zero, hno]; exact hS0⟩⟩)
    try simp only [zq] at c79
    refine g [[3],[4,2,4,5,6,11,63,64]] ?_
    exact WP.again (⟨j + 1, hM2⟩ : Nat × Hp) ⟨by simp only; omega, hMM2, by simp only; rw [truTo_succ, htr, decide_eq_false (by omega)]; rfl⟩ (by simp only; omega) (fun a w h => at_fr h ⟨rfl, rfl, rfl, rfl, rfl, rfl, rfl, trivial⟩)
  try simp only [zq] at c65
  obtain rfl : j = T.sand.length := by omega
  refine g [[6]] ?_
  have htB : truB T h = true := htr
  have hA1 : tdF T 0 h k = [h] := by rw [tdF_zero, if_pos htB]
  have hkA := hpart.at 0 (by rw [hA1]; exact Nat.zero_lt_one)
  have hgA : gt A k0 = h := by have := hkA.1; rw [hA1] at this; exact this
  refine g [[0,5,11]] ?_
  refine WC.ofF (g [[3]] ?_)
  refine WLF.know 82 (tdV T h) rfl rfl ?_
  refine WLF.yieldN (l := ly) (vals := [tdV T h]) [(b11, .cells (List.toArray (tdP T h T.sand.length)) 236 (0, 0)), (b6, .cells (List.toArray (htC h)) 232 (0, 0)), (mb, .map es clock)] h0 (fun e he => by simp only [List.cons_append, List.nil_append, List.mem_cons, List.mem_append, List.not_mem_nil, or_false] at he ⊢; rcases he with h | h | h | h <;> simp [h]) (fun hn => by simp only [keys, List.map_append, List.map_cons, List.map_nil, List.cons_append, List.nil_append] at hn ⊢; exact ((((List.perm_append_singleton mb (h0.map Prod.fst)).cons b6).cons b11).nodup_iff).1 hn) rfl rfl rfl (fun w' hsz hI => by rw [← hgA]; exact hround k0 D h0 w' hkA.2 (Nat.le_trans hsw hsz) hXX hS0 hI) ?_
  rintro b22 D5 hp5 hK5 hX5
  refine g [[4]] ?_
  refine WP.ret1 rfl rfl rfl (RV.tmp rfl) (fun w1 hI => by
    rcases hK5 with ⟨rfl, hK5⟩ | ⟨rfl, hK5⟩
    · exact ⟨_, D5, [(mb, .map es clock)] ++ hp5, rfl, hX5, hI.drop 2, true, _, hp5, rfl, rfl, ⟨es, clock, F, rfl, hMR, hFK⟩, .inl ⟨rfl, by rw [hA1]; exact hK5⟩⟩
    exact ⟨_, D5, [(mb, .map es clock)] ++ hp5, rfl, hX5, hI.drop 2, false, _, hp5, rfl, rfl, ⟨es, clock, F, rfl, hMR, hFK⟩, .inr ⟨rfl, hK5⟩⟩)
end Go.Proofs.YtejgofaeafphjaaGreatDoor
namespace Go.Proofs.YtejgofaeafphjaaGreatDoor
open Go.W Go.Ti
theorem onD_s (T : Tide) (a1 a2 a3 : Option Addr) (n1 n2 n3 c1 c2 c3 : Nat) (qb mb bs bo bm by_ ly : Nat) (St : Nat → Imm → Hp → Prop) (Sp : Imm → Hp → Prop) (w0 : World) (A : List Hts) (hT : TideOk T)
    (hSm : ∀ k D1 D2 h, DExt w0 D1 D2 → St k D1 h → St k D2 h)
    (DD : Imm) (hround : ∀ k D' h w', k < A.length → w0.heap.size ≤ w'.heap.size → DExt w0 DD D' → St k D' h → Inv D' h (keys h) w' w' → YieldAt Fence.wide 0 Tryz.prog ly #[tdV T (gt A k)] w' (RoundN w' D' (keys h) (fun b D'' h' => (b = true ∧ St (k + 1) D'' h') ∨ (b = false ∧ Sp D'' h')))) (rem : Nat) (ih : ∀ (h : Hts) (k k0 : Nat) (D : Imm) (w : World) (hM h0 : Hp), k + rem = T.marks.length → PartOf A (tdF T rem h k) k0 → HtB h → w0.heap.size ≤ w.heap.size → DExt w0 DD D → TideR D T a1 n1 a2 n2 a3 n3 → D qb = some (shoO (.slice a1 n1 c1) (.slice a2 n2 c2) (.slice a3 n3 c3) mb) → DoneD D → D bs = some (.cells (List.toArray [pt qb]) 134 (0, 0)) → D bo = some (.cells (List.toArray [.func (.func 236) #[] #[pt bs, pt bo, pt bm, pt by_]]) 312 (0, 0)) → D bm = some (.cells (List.toArray [ut (2 ^ T.looks.length - 1)]) 200 (0, 0)) → D by_ = some (.cells (List.toArray [.func (.yield ly) #[] #[]]) 311 (0, 0)) → MapK T mb hM → St k0 D h0 → Inv D (hM ++ h0) (keys (hM ++ h0)) w w → AltersN Tryz.prog 236 [htV h, nt k, pt bs, pt bo, pt bm, pt by_] w D (keys (hM ++ h0)) (fun v D' h' => ∃ b hM' h1, v = .bool b ∧ h' = hM' ++ h1 ∧ MapK T mb hM' ∧ ((b = true ∧ St (k0 + (tdF T rem h k).length) D' h1) ∨ (b = false ∧ Sp D' h1)))) : ∀ (h : Hts) (k k0 : Nat) (D : Imm) (w : World) (hM h0 : Hp), k + (rem + 1) = T.marks.length → PartOf A (tdF T (rem + 1) h k) k0 → HtB h → w0.heap.size ≤ w.heap.size → DExt w0 DD D → TideR D T a1 n1 a2 n2 a3 n3 → D qb = some (shoO (.slice a1 n1 c1) (.slice a2 n2 c2) (.slice a3 n3 c3) mb) → DoneD D → D bs = some (.cells (List.toArray [pt qb]) 134 (0, 0)) → D bo = some (.cells (List.toArray [.func (.func 236) #[] #[pt bs, pt bo, pt bm, pt by_]]) 312 (0, 0)) → D bm = some (.cells (List.toArray [ut (2 ^ T.looks.length - 1)]) 200 (0, 0)) → D by_ = some (.cells (List.toArray [.func (.yield ly) #[] #[]]) 311 (0, 0)) → MapK T mb hM → St k0 D h0 → Inv D (hM ++ h0) (keys (hM ++ h0)) w w → AltersN Tryz.prog 236 [htV h, nt k, pt bs, pt bo, pt bm, pt by_] w D (keys (hM ++ h0)) (fun v D' h' => ∃ b hM' h1, v = .bool b ∧ h' = hM' ++ h1 ∧ MapK T mb hM' ∧ ((b = true ∧ St (k0 + (tdF T (rem + 1) h k).length) D' h1) ∨ (b = false ∧ Sp D' h1))) := by
  intro h k k0 D w hM h0 hin hpart hh hsw hXX hR hq hdn h1 h2 h3 h4 hMM hS0 hI0
  obtain rfl := hR.mark.len'
  obtain rfl := hR.sand.len'
  obtain rfl := hR.look.len'
  obtain ⟨hl1, hl2, hl3⟩ := hR.len
  have hnm := hT.nm
  have hkm : k < T.marks.length := by omega
  have hk4 : k < 4 := by omega
  have hsp := narrow_iff.1 (hT.mark k hkm).2
  unfold AltersN
  refine en Tryz.func236 rfl Tryz.ntmps236 hI0 (g [[1],[1,0,1,2,3,4,5]] ?_)
  refine WL.so (SO.box rfl rfl) rfl (zw fun b6 hb6 => ?_)
  refine g [[5],[11,8,6,1,2,3,4,5]] ?_
  refine WC.cond rfl (fun c20 => ?_) (fun c20 => ?_)
  · try simp only [zq] at c20
    refine g [[1],[8,8,6,1,2,3,4,5],[7,9,8,6,1,2,3,4,5]] ?_
    refine WL.yd (Yd.ix rfl rfl (hR.mark.addr k (by omega))) rfl (g [[2]] ?_)
    refine WL.yd (Yd.l1 rfl ((hR.mark.at k (by omega)).rd 1 rfl)) rfl (g [[4]] ?_)
    refine WC.loop (fun y : Nat × Imm × Hp × Hp => [(1, nt k), (2, pt bs), (3, pt bo), (6, pt b6), (9, .func (.func 237) #[htV h] #[]), (10, it ((gt T.marks k).high.lo + ((y.1 : Nat) : Int)))]) (fun y => (b6, .cells (List.toArray (htC h)) 232 (0, 0)) :: (y.2.2.1 ++ y.2.2.2)) (fun y => y.2.1) (fun y => y.1 ≤ ((gt T.marks k).high.hi - (gt T.marks k).high.lo + 1).toNat ∧ DExt w D y.2.1 ∧ MapK T mb y.2.2.1 ∧ St (k0 + tdN T rem h k y.1) y.2.1 y.2.2.2) (fun y => ((gt T.marks k).high.hi - (gt T.marks k).high.lo + 1).toNat - y.1) ⟨0, D, hM, h0⟩ ⟨by omega, DExt.refl _ _, hMM, hS0⟩ (fun a w h => at_fr h ⟨rfl, rfl, rfl, rfl, rfl, by show some (it _) = some (it _); congr 2; push_cast; omega, trivial⟩) ?_
    rintro ⟨i, D1, hM1, hG⟩ ⟨hi, hX1, hMM1, hSG⟩
    dsimp only at hi hX1 hMM1 hSG
    replace hXX := hXX.trans (hX1) hsw
    replace hR := hR.ext (hX1)
    replace hq := (hX1).old _ _ hq
    replace hdn := hdn.ext (hX1)
    replace h1 := (hX1).old _ _ h1
    replace h2 := (hX1).old _ _ h2
    replace h3 := (hX1).old _ _ h3
    replace h4 := (hX1).old _ _ h4
    refine g [[2],[8,1,2,3,6,9,10]] ?_
    refine WL.yd (Yd.ix rfl rfl (hR.mark.addr k (by omega))) rfl (g [[2]] ?_)
    refine WL.yd (Yd.l1 rfl ((hR.mark.at k (by omega)).rd 2 rfl)) rfl (g [[3]] ?_)
    refine WC.cond rfl (fun c44 => ?_) (fun c44 => ?_)
    · try simp only [zq] at c44
      have hiW : i < ((gt T.marks k).high.hi - (gt T.marks k).high.lo + 1).toNat := by omega
      have hil : i < (spR T k).length := by unfold spR; rw [rng_len]; exact hiW
      have hgi : gt (spR T k) i = ((gt T.marks k).high.lo + ((i : Nat) : Int)) := gt_rng hiW
      have hpt := tdN_part hpart hil
      rw [hgi] at hpt
      refine g [[5],[0,1,2,3,6,9,10]] ?_
      refine WC.drawO [_] (pz [1,3,5,7,11,13,8,14,17]) zk zk zX (fun _ hI => Inv.left (l1 := [_]) (l2 := hM1 ++ hG) hI) (g [[5]] ?_)
      refine WA.yd rfl (Yd.addN (i := k) (j := 1) rfl rfl (by omega)) rfl (WA.so rfl (SO.call (Enters.val CaF.h rfl rfl) (fun w hI => withH_g h k ((gt T.marks k).high.lo + ((i : Nat) : Int)) hk4 _)) rfl ?_)
      rintro _ _ _ ⟨rfl, rfl, rfl⟩
      refine ⟨fun _ hI => Inv.left (l1 := [_]) (l2 := hM1 ++ hG) hI, ?_⟩
      refine WA.so rfl (SO.altersNS (own := [_]) (hpc := hM1 ++ hG) (fun _ h => h) (fun h => h) (Enters.val CaF.h rfl rfl) (fun w3 hsz3 hI => ih (updH h k ((gt T.marks k).high.lo + ((i : Nat) : Int))) (k + 1) (k0 + tdN T rem h k i) D1 w3 hM1 hG (by omega) hpt (htB_upd hh k (by omega)) (Nat.le_trans hsw hsz3) hXX hR hq hdn h1 h2 h3 h4 hMM1 hSG hI)) rfl ?_
      rintro _ D8 _ ⟨hp8, hX8, ⟨b84, hM2, h9, rfl, rfl, hMM2, hK8⟩, rfl⟩
      refine ⟨fun _ hI => inv_weak (Inv.left (l1 := [_]) hI) hX8, ?_⟩
      refine g [[3]] ?_
      refine WC.cond rfl (fun c55 => ?_) (fun c55 => ?_)
      · try simp only [zq] at c55
        refine g [[1],[11,1,2,3,6,9,10]] ?_
        refine WP.ret1 rfl rfl rfl (RV.tmp rfl) (fun w1 hI => by
          rcases hK8 with ⟨htt, _⟩ | ⟨_, hK8⟩
          · simp_all
          exact ⟨_, D8, hM2 ++ h9, rfl, hX1.trans hX8 (Nat.le_refl _), hI.drop 1, false, hM2, h9, rfl, rfl, hMM2, .inr ⟨rfl, hK8⟩⟩)
      try simp only [zq] at c55
      refine g [[3],[5,1,2,3,6,9,10]] ?_
      rcases hK8 with ⟨_, hK8⟩ | ⟨hff, _⟩
      · exact WP.again (⟨i + 1, D8, hM2, h9⟩ : Nat × Imm × Hp × Hp) ⟨by simp only; omega, hX1.trans hX8 (Nat.le_refl _), hMM2, by simp only; rw [tdN_succ hil, hgi, ← Nat.add_assoc]; exact hK8⟩ (by simp only; omega) (fun a w h => at_fr h ⟨rfl, rfl, rfl, rfl, rfl, by show some (it _) = some (it _); congr 2; push_cast; omega, trivial⟩)
      simp_all
    try simp only [zq] at c44
    obtain rfl : i = ((gt T.marks k).high.hi - (gt T.marks k).high.lo + 1).toNat := by omega
    refine g [[6],[6,2,6]] ?_
    refine WP.ret1 rfl rfl rfl (RV.tmp rfl) (fun w1 hI => ⟨_, D1, hM1 ++ hG, rfl, hX1, hI.drop 1, true, hM1, hG, rfl, rfl, hMM1, .inl ⟨rfl, by rw [← tdN_all]; unfold spR; rw [rng_len]; exact hSG⟩⟩)
  try simp only [zq] at c20
  omega
theorem onD_g (T : Tide) (a1 a2 a3 : Option Addr) (n1 n2 n3 c1 c2 c3 : Nat) (qb mb bs bo bm by_ ly : Nat) (St : Nat → Imm → Hp → Prop) (Sp : Imm → Hp → Prop) (w0 : World) (A : List Hts) (hT : TideOk T)
    (hSm : ∀ k D1 D2 h, DExt w0 D1 D2 → St k D1 h → St k D2 h)
    (DD : Imm) (hround : ∀ k D' h w', k < A.length → w0.heap.size ≤ w'.heap.size → DExt w0 DD D' → St k D' h → Inv D' h (keys h) w' w' → YieldAt Fence.wide 0 Tryz.prog ly #[tdV T (gt A k)] w' (RoundN w' D' (keys h) (fun b D'' h' => (b = true ∧ St (k + 1) D'' h') ∨ (b = false ∧ Sp D'' h')))) : ∀ rem, ∀ (h : Hts) (k k0 : Nat) (D : Imm) (w : World) (hM h0 : Hp), k + rem = T.marks.length → PartOf A (tdF T rem h k) k0 → HtB h → w0.heap.size ≤ w.heap.size → DExt w0 DD D → TideR D T a1 n1 a2 n2 a3 n3 → D qb = some (shoO (.slice a1 n1 c1) (.slice a2 n2 c2) (.slice a3 n3 c3) mb) → DoneD D → D bs = some (.cells (List.toArray [pt qb]) 134 (0, 0)) → D bo = some (.cells (List.toArray [.func (.func 236) #[] #[pt bs, pt bo, pt bm, pt by_]]) 312 (0, 0)) → D bm = some (.cells (List.toArray [ut (2 ^ T.looks.length - 1)]) 200 (0, 0)) → D by_ = some (.cells (List.toArray [.func (.yield ly) #[] #[]]) 311 (0, 0)) → MapK T mb hM → St k0 D h0 → Inv D (hM ++ h0) (keys (hM ++ h0)) w w → AltersN Tryz.prog 236 [htV h, nt k, pt bs, pt bo, pt bm, pt by_] w D (keys (hM ++ h0)) (fun v D' h' => ∃ b hM' h1, v = .bool b ∧ h' = hM' ++ h1 ∧ MapK T mb hM' ∧ ((b = true ∧ St (k0 + (tdF T rem h k).length) D' h1) ∨ (b = false ∧ Sp D' h1))) := by
  intro rem
  induction rem with
  | zero => exact onD_0 T a1 a2 a3 n1 n2 n3 c1 c2 c3 qb mb bs bo bm by_ ly St Sp w0 A hT hSm DD hround
  | succ rem ih => exact onD_s T a1 a2 a3 n1 n2 n3 c1 c2 c3 qb mb bs bo bm by_ ly St Sp w0 A hT hSm DD hround rem ih
end Go.Proofs.YtejgofaeafphjaaGreatDoor
namespace Go.Proofs.YtejgofaeafphjaaGreatDoor
open Go.W Go.Ti
theorem truthsD1_iter (T : Tide) (a1 a2 a3 : Option Addr) (n1 n2 n3 c1 c2 c3 : Nat) (qb mb bs bm : Nat) (D : Imm) (w : World) (hT : TideOk T) (hR : TideR D T a1 n1 a2 n2 a3 n3) (hq : D qb = some (shoO (.slice a1 n1 c1) (.slice a2 n2 c2) (.slice a3 n3 c3) mb)) (hdn : DoneD D) (h1 : D bs = some (.cells (List.toArray [pt qb]) 134 (0, 0))) (hm : D bm = some (.cells (List.toArray [ut (2 ^ T.looks.length - 1)]) 200 (0, 0))) : IterT Tryz.prog 235 [pt bs, pt bm] (tdL T).length (fun k => tdV T (gt (tdL T) k)) D (MapK T mb) w := by
  unfold IterT
  intro l St Sp hSm hround hM h0 hMM hS0 hI0
  unfold AltersN
  refine en Tryz.func235 rfl Tryz.ntmps235 hI0 (g [[1],[1,0,1,2]] ?_)
  refine WL.so (SO.box rfl rfl) rfl (zw fun b3 hb3 => ?_)
  refine g [[3],[1,3,1,2]] ?_
  refine WL.so (SO.alloc ZvF.h rfl) rfl (zw fun b4 hb4 => ?_)
  refine g [[3],[5,4,3,1,2]] ?_
  refine WC.freezeK 0 rfl (fun hn4 => ?_)
  refine WC.freezeK 0 rfl (fun hn3 => ?_)
  have hX3 : DExt w D ((D.add b4 (.cells (List.toArray [.func (.func 236) #[] #[pt bs, pt b4, pt bm, pt b3]]) 312 (0, 0))).add b3 (.cells (List.toArray [.func (.yield l) #[] #[]]) 311 (0, 0))) := ((DExt.refl w D).add hn4 hb4).add hn3 hb3
  have h3 : ((D.add b4 (.cells (List.toArray [.func (.func 236) #[] #[pt bs, pt b4, pt bm, pt b3]]) 312 (0, 0))).add b3 (.cells (List.toArray [.func (.yield l) #[] #[]]) 311 (0, 0))) b3 = some (.cells (List.toArray [.func (.yield l) #[] #[]]) 311 (0, 0)) := Imm.add_self _ _ _
  have h4 : ((D.add b4 (.cells (List.toArray [.func (.func 236) #[] #[pt bs, pt b4, pt bm, pt b3]]) 312 (0, 0))).add b3 (.cells (List.toArray [.func (.yield l) #[] #[]]) 311 (0, 0))) b4 = some (.cells (List.toArray [.func (.func 236) #[] #[pt bs, pt b4, pt bm, pt b3]]) 312 (0, 0)) := ((DExt.refl w _).add hn3 hb3).old _ _ (Imm.add_self _ _ _)
  replace h1 := hX3.old _ _ h1
  replace hm := hX3.old _ _ hm
  replace hq := hX3.old _ _ hq
  replace hR := hR.ext hX3
  replace hdn := hdn.ext hX3
  refine (?_ : WC Tryz.prog _ _ ((D.add b4 (.cells (List.toArray [.func (.func 236) #[] #[pt bs, pt b4, pt bm, pt b3]]) 312 (0, 0))).add b3 (.cells (List.toArray [.func (.yield l) #[] #[]]) 311 (0, 0))) (hM ++ h0) _ _)
  generalize ((D.add b4 (.cells (List.toArray [.func (.func 236) #[] #[pt bs, pt b4, pt bm, pt b3]]) 312 (0, 0))).add b3 (.cells (List.toArray [.func (.yield l) #[] #[]]) 311 (0, 0))) = D3 at hX3 h1 h3 h4 hm hq hR hdn ⊢
  refine g [[2,4]] ?_
  refine WL.yd (Yd.buildA (zs := [.int .i64 0, .int .i64 0, .int .i64 0, .int .i64 0]) ⟨_, ZvF.h, rfl⟩ UnF.h SzF.h rfl (cs := [_, _, _, _]) rfl) rfl (WL.know 7 (htV zeroH) rfl rfl ?_)
  refine WL.so (SO.altersNS (own := []) (hpc := hM ++ h0) (fun _ h => h) (fun h => h) (Enters.val CaF.h rfl rfl) (fun w3 hsz hI => onD_g T a1 a2 a3 n1 n2 n3 c1 c2 c3 qb mb bs b4 bm b3 l St Sp w (tdL T) hT hSm D hround T.marks.length zeroH 0 0 D3 w3 hM h0 (by omega) ⟨[], [], by simp [tdF_all], rfl⟩ htB_zero hsz hX3 hR hq hdn h1 h4 hm h3 hMM (hSm _ _ _ _ hX3 hS0) hI)) rfl ?_
  rintro _ D8 hp8 ⟨_, hX8, ⟨b7, hM2, h9, rfl, rfl, hMM2, hK8⟩, rfl⟩
  refine g [[1]] ?_
  refine WP.ret0 rfl rfl rfl  (fun w1 hI => by
    rcases hK8 with ⟨rfl, hK8⟩ | ⟨rfl, hK8⟩
    · exact ⟨_, D8, hM2 ++ h9, rfl, hX3.trans hX8 (Nat.le_refl _), hI, hM2, h9, rfl, hMM2, .inl (by rw [Nat.zero_add] at hK8; exact hK8)⟩
    exact ⟨_, D8, hM2 ++ h9, rfl, hX3.trans hX8 (Nat.le_refl _), hI, hM2, h9, rfl, hMM2, .inr hK8⟩)
end Go.Proofs.YtejgofaeafphjaaGreatDoor
namespace Go.Proofs.YtejgofaeafphjaaGreatDoor
open Go.W Go.Ti
theorem flat_le {α β : Type} (f : α → List β) (n : Nat) : ∀ l : List α, (∀ x ∈ l, (f x).length ≤ n) → (l.flatMap f).length ≤ l.length * n
  | [], _ => by simp
  | x :: l, h => by
    have h1 := h x List.mem_cons_self
    have h2 := flat_le f n l fun y hy => h y (List.mem_cons_of_mem _ hy)
    rw [List.flatMap_cons, List.length_append, List.length_cons, Nat.succ_mul]; omega
theorem hsL_len {T : Tide} (hT : TideOk T) : ∀ (r : Nat) (h : Hts) (k : Nat), k + r ≤ T.marks.length → (hsL T r h k).length ≤ 3 ^ r
  | 0, _, _, _ => by simp [hsL]
  | r + 1, h, k, hk => by
    have hw := narrow_iff.1 (hT.mark k (by omega)).2
    have h1 := flat_le (fun n => hsL T r (updH h k n) (k + 1)) (3 ^ r) (rng (gt T.marks k).high.lo (gt T.marks k).high.hi) fun n _ => hsL_len hT r _ _ (by omega)
    rw [rng_len] at h1
    show ((rng (gt T.marks k).high.lo (gt T.marks k).high.hi).flatMap fun n => hsL T r (updH h k n) (k + 1)).length ≤ _
    refine Nat.le_trans h1 ?_
    rw [Nat.pow_succ, Nat.mul_comm]
    exact Nat.mul_le_mul_left _ (by omega)
theorem tdL_len {T : Tide} (hT : TideOk T) : (tdL T).length ≤ 81 := by
  have h1 : (tdL T).length ≤ (hsL T T.marks.length zeroH 0).length := List.length_filter_le _ _
  have h2 := hsL_len hT T.marks.length zeroH 0 (by omega)
  have h3 : 3 ^ T.marks.length ≤ 3 ^ 4 := Nat.pow_le_pow_right (by decide) hT.nm.2
  omega
theorem tdC_one (T : Tide) (h : Hts) : ∀ v ∈ tdC T h, v.oneCell' = true := fun v hv => by
  unfold tdC at hv
  rcases List.mem_append.1 hv with hv | hv
  · simp only [htC, List.mem_cons, List.not_mem_nil, or_false] at hv
    rcases hv with rfl | rfl | rfl | rfl <;> rfl
  obtain ⟨p, _, rfl⟩ := List.mem_map.1 hv
  split <;> rfl
theorem len8v {l : List Value} (h : l.length = 8) : ∃ a b c d e f x y, l = [a, b, c, d, e, f, x, y] := by
  match l, h with
  | [a, b, c, d, e, f, x, y], _ => exact ⟨a, b, c, d, e, f, x, y, rfl⟩
theorem appT_g (T : Tide) (hT : TideOk T) (mb : Nat) (gf : Nat) (lb : List Value) (D : Imm) (w : World) (hit : ∀ w1, w.heap.size ≤ w1.heap.size → Holds D w1 → IterT Tryz.prog gf lb (tdL T).length (fun k => tdV T (gt (tdL T) k)) D (MapK T mb) w1) (hc : ∀ args w, (callFunc gf args).run Tryz.prog w = .ok (.enter gf args) w) (hM : Hp) (hMM : MapK T mb hM) (hI0 : Inv D hM [mb] w w) : AltersN Tryz.prog 234 [.slice none 0 0, .func (.func gf) #[] lb.toArray] w D [mb] (fun v D' hp' => ∃ a c, v = .slice a (tdL T).length c ∧ SlL D' 8 ((tdL T).map (tdC T)) a (tdL T).length ∧ MapK T mb hp') := by
  unfold AltersN
  have h81 := tdL_len hT
  obtain ⟨es, clock, F, rfl, hMR, hFK⟩ := hMM
  refine enM Tryz.func234 rfl Tryz.ntmps234 hI0 (g [[1],[1,0,1]] ?_)
  refine WL.so (SO.box rfl rfl) rfl (zw fun b2 hb2 => ?_)
  refine g [[5],[5,4,2,1],[0,2,6]] ?_
  refine WC.hpPerm ([(mb, .map es clock)] ++ [(b2, .cells (List.toArray [.slice none 0 0]) 139 (0, 0))]) (List.Perm.swap _ _ _) ?_
  refine WC.rangeIterT [(mb, .map es clock)] _ rfl ⟨es, clock, F, rfl, hMR, hFK⟩ (N := (tdL T).length) (arg := fun k => tdV T (gt (tdL T) k)) (fun w1 hs hD1 => hit w1 hs hD1) rfl hc rfl (fun k _ h => ∃ o, owP w o k 8 ∧ h = ((b2, .cells (List.toArray [owV o k]) 139 (0, 0)) : Nat × Obj) :: owH o 236 (((tdL T).take k).flatMap (tdC T)) []) (fun _ _ _ => False) (fun _ _ _ _ _ h => h) ⟨none, rfl, rfl⟩ ?_ ?_ ?_
  · rintro rec1 l1 Dn0 k D5 _ w1 hrec hk ⟨o, ho, rfl⟩ hX5 hsz
    unfold RoundGN
    obtain ⟨e0, e1, e2, e3, e4, e5, e6, e7, he⟩ := len8v (tdC_len T (gt (tdL T) k))
    have hone := tdC_one T (gt (tdL T) k)
    rw [he] at hone
    refine g [[1,7,2]] ?_
    refine WLF.know 7 (.agg (List.toArray [e0, e1, e2, e3, e4, e5, e6, e7])) rfl (by unfold tdV; rw [he]) ?_
    refine WLF.so (zn rfl) (SO.alloc ZvF.h rfl) rfl (zw fun b5 hb5 => ?_)
    refine WLF.so (zn rfl) (SO.store 0 rfl SzF.h rfl rfl rfl rfl (zqb rfl) hone) rfl (zt (g [[1]] ?_))
    refine WP.iterBegin 1 rfl hrec (g [[1],[3,5,2]] ?_)
    refine WLF.so (zn rfl) (SO.buildRows UnF.h SzF.h ZvF.h rfl rfl rfl (rows := [[e0, e1, e2, e3, e4, e5, e6, e7]]) rfl (by intro r hr; repeat first | (rcases List.mem_cons.1 hr with rfl | hr; rfl) | (cases hr)) rfl) rfl ?_
    rintro _ _ _ ⟨b10, hb10, rfl, rfl, rfl⟩
    refine WLF.so (by intro _ h; cases h) (SO.appendOwW (W := w) hsz (o := o) (len := k) (n := 1) (xs := (((tdL T).take k).flatMap (tdC T))) (size := 8) [_] [_, _, _, _] [] rfl rfl Tryz.underlying139 Tryz.sizeOf236 Tryz.typeInfo236 Tryz.zeroValue236 rfl rfl rfl rfl ⟨rfl, .inr ⟨_, _, _, rfl, RdN.own (k := 0) (n := 8) rfl rfl⟩⟩ hone ho (by rw [flat_len (tdC_len T), List.length_take, Nat.min_eq_left (by omega)]) (by omega) (by show (2 * (_ + _) + 1000) * 64 ≤ 2 ^ 48; omega) (by omega)) rfl ?_
    rintro _ _ _ ⟨u1, hu1, rfl, rfl, rfl⟩
    refine g [[3]] ?_
    refine WP.iterOnN hrec (h1 := (b2, .cells (List.toArray [owV (some u1) (k + 1)]) 139 (0, 0)) :: owH (some u1) 236 (((tdL T).take k).flatMap (tdC T) ++ [e0, e1, e2, e3, e4, e5, e6, e7]) []) (fun _ h => List.mem_cons_of_mem _ h) (fun h => (List.nodup_cons.1 h).2) (DExt.refl _ _) ⟨some u1, hu1, ?_⟩
    rw [take_gt hk, List.flatMap_append, List.flatMap_cons, List.flatMap_nil, List.append_nil, he]
  · rintro Dn1 D6 hM1 _ hDn1 hX6 hMM1 ⟨o, ho, rfl⟩
    obtain ⟨es1, clock1, F1, rfl, hMR1, hFK1⟩ := hMM1
    rw [List.take_length]
    refine g [[3],[2,2]] ?_
    refine WL.know 12 (.slice (owAt o) (tdL T).length (owCp o (tdL T).length)) rfl (owV_owL (owL_of ho)) ?_
    refine WL.freezeOw (f := tdC T) (m := 8) (tdC_len T) [_, _, _] [] o 236 (tdL T) rfl ho rfl (fun D7 hX7 hS7 => ?_)
    refine g [[4]] ?_
    refine WP.retMs [Dn1] [(mb, .map es1 clock1)] [_] [_] rfl rfl zU1 zU2 rfl zV (fun w1 hI => ⟨_, D7, [(mb, .map es1 clock1)], rfl, hX6.trans hX7 (Nat.le_refl _), hI, owAt o, _, rfl, hS7, es1, clock1, F1, rfl, hMR1, hFK1⟩)
  exact fun _ _ _ _ _ _ _ _ h => h.elim
theorem collT_g (T : Tide) (hT : TideOk T) (mb : Nat) (gf : Nat) (lb : List Value) (D : Imm) (w : World) (hit : ∀ w1, w.heap.size ≤ w1.heap.size → Holds D w1 → IterT Tryz.prog gf lb (tdL T).length (fun k => tdV T (gt (tdL T) k)) D (MapK T mb) w1) (hc : ∀ args w, (callFunc gf args).run Tryz.prog w = .ok (.enter gf args) w) (hM : Hp) (hMM : MapK T mb hM) (hI0 : Inv D hM [mb] w w) : AltersN Tryz.prog 170 [.func (.func gf) #[] lb.toArray] w D [mb] (fun v D' hp' => ∃ a c, v = .slice a (tdL T).length c ∧ SlL D' 8 ((tdL T).map (tdC T)) a (tdL T).length ∧ MapK T mb hp') := by
  unfold AltersN
  obtain ⟨es, clock, F, rfl, hMR, hFK⟩ := hMM
  refine en Tryz.func170 rfl Tryz.ntmps170 hI0 (g [[1],[5,0],[2,2,0]] ?_)
  refine WL.so (SO.altersNS (own := []) (hpc := [(mb, .map es clock)]) (fun _ h => h) (fun h => h) (Enters.func CaF.h rfl) (fun w2 hsz0 hI => appT_g T hT mb gf lb D w2 (fun w1 hs => hit w1 (Nat.le_trans hsz0 hs)) hc [(mb, .map es clock)] ⟨es, clock, F, rfl, hMR, hFK⟩ hI)) rfl ?_
  rintro _ D2 _ ⟨hp2, hX2, ⟨a, c, rfl, hS2, hMM2⟩, rfl⟩
  refine g [[4]] ?_
  refine WP.ret1 rfl rfl rfl (RV.tmp rfl) (fun w1 hI => ⟨_, D2, _, rfl, hX2, hI, a, c, rfl, hS2, hMM2⟩)
end Go.Proofs.YtejgofaeafphjaaGreatDoor
namespace Go.Proofs.YtejgofaeafphjaaGreatDoor
open Go.W Go.Ti
theorem sumU_cons (a : Int) (r : List Int) : sumU (a :: r) = 2 ^ a.toNat + sumU r := by simp [sumU]
theorem sumU_low : ∀ (l : List Int) (a : Nat), (∀ x ∈ l, (a : Int) ≤ x) → ∃ m, sumU l = 2 ^ a * m
  | [], a, _ => ⟨0, by simp [sumU]⟩
  | x :: r, a, h => by
    obtain ⟨m, hm⟩ := sumU_low r a fun y hy => h y (List.mem_cons_of_mem _ hy)
    have hx := h x List.mem_cons_self
    obtain ⟨d, hd⟩ : ∃ d, x.toNat = a + d := ⟨x.toNat - a, by omega⟩
    exact ⟨2 ^ d + m, by rw [sumU_cons, hm, hd, Nat.pow_add, Nat.mul_add]⟩
theorem sumU_high : ∀ (l : List Int) (lo hi : Nat), l.Pairwise (· < ·) → (∀ x ∈ l, (lo : Int) ≤ x ∧ x ≤ (hi : Int)) → lo ≤ hi + 1 → sumU l + 2 ^ lo ≤ 2 ^ (hi + 1)
  | [], lo, hi, _, _, hle => by
    have := Nat.pow_le_pow_right (show 0 < 2 by decide) hle
    simpa [sumU] using this
  | x :: r, lo, hi, hs, h, _ => by
    obtain ⟨h1, h2⟩ := List.pairwise_cons.1 hs
    have hx := h x List.mem_cons_self
    obtain ⟨n, rfl⟩ : ∃ n : Nat, x = (n : Int) := ⟨x.toNat, by omega⟩
    have ih := sumU_high r (n + 1) hi h2 (fun y hy => ⟨by have := h1 y hy; omega, (h y (List.mem_cons_of_mem _ hy)).2⟩) (by omega)
    have hp := Nat.pow_le_pow_right (show 0 < 2 by decide) (show lo ≤ n by omega)
    rw [sumU_cons, Int.toNat_natCast]
    rw [Nat.pow_succ] at ih
    omega
theorem sumU_mem : ∀ (l : List Int) (x : Int), x ∈ l → 2 ^ x.toNat ≤ sumU l
  | y :: r, x, h => by
    rw [sumU_cons]
    rcases List.mem_cons.1 h with rfl | h
    · exact Nat.le_add_right _ _
    exact Nat.le_trans (sumU_mem r x h) (Nat.le_add_left _ _)
theorem odd_pow : ∀ (a c m n : Nat), 2 ^ a * (2 * m + 1) = 2 ^ c * (2 * n + 1) → a = c
  | 0, 0, _, _, _ => rfl
  | 0, c + 1, m, n, h => by rw [Nat.pow_succ, Nat.mul_assoc, Nat.mul_left_comm] at h; omega
  | a + 1, 0, m, n, h => by rw [Nat.pow_succ, Nat.mul_assoc, Nat.mul_left_comm] at h; omega
  | a + 1, c + 1, m, n, h => by
    have : 2 ^ a * (2 * m + 1) = 2 ^ c * (2 * n + 1) := by
      rw [Nat.pow_succ, Nat.pow_succ, Nat.mul_comm (2 ^ a) 2, Nat.mul_comm (2 ^ c) 2, Nat.mul_assoc, Nat.mul_assoc] at h
      exact Nat.eq_of_mul_eq_mul_left (show 0 < 2 by decide) h
    rw [odd_pow a c m n this]
theorem set_low {l : List Int} (hs : l.Pairwise (· < ·)) (hn : ∀ x ∈ l, 0 ≤ x ∧ x ≤ 60) (hne : l ≠ []) : sumU l < 2 ^ 61 ∧ sumU l ≠ 0 ∧ (Lib.ctz 64 (sumU l) : Int) = headI l ∧ (Lib.bitLen (sumU l) : Int) - 1 = lastI l := by
  have hlt : sumU l < 2 ^ 61 := by
    have := sumU_high l 0 60 hs (fun x hx => by have := hn x hx; omega) (by omega)
    have h0 : (2 : Nat) ^ 0 = 1 := rfl
    omega
  have h0 : sumU l ≠ 0 := fun e => hne (sumU_nil.1 e)
  obtain ⟨e1, e2, e3⟩ := ends_spec hs hne
  refine ⟨hlt, h0, ?_, ?_⟩
  · obtain ⟨m, hm, _⟩ := Lib.ctzFrom_spec 64 (sumU l) (by omega) (Nat.lt_trans hlt (by decide))
    have hz : Lib.ctz 64 (sumU l) = Lib.ctzFrom 64 (sumU l) := by unfold Lib.ctz; rw [if_neg h0]
    rw [hz]
    cases l with
    | nil => exact absurd rfl hne
    | cons a r =>
      have ha := hn a List.mem_cons_self
      obtain ⟨n, rfl⟩ : ∃ n : Nat, a = (n : Int) := ⟨a.toNat, by omega⟩
      obtain ⟨q, hq⟩ := sumU_low r (n + 1) fun x hx => by have := (List.pairwise_cons.1 hs).1 x hx; omega
      have hx : sumU ((n : Int) :: r) = 2 ^ n * (2 * q + 1) := by
        rw [sumU_cons, Int.toNat_natCast, hq, Nat.pow_succ, Nat.mul_add, Nat.mul_assoc]; omega
      have := odd_pow n _ q m (hx.symm.trans hm)
      show ((Lib.ctzFrom 64 (sumU ((n : Int) :: r)) : Nat) : Int) = (n : Int)
      rw [← this]
  obtain ⟨b1, b2, b3⟩ := Lib.bitLenAux_bounds 64 (sumU l) (Nat.lt_trans hlt (by decide)) h0
  have hlast := hn _ e2
  obtain ⟨n, hnn⟩ : ∃ n : Nat, lastI l = (n : Int) := ⟨(lastI l).toNat, by omega⟩
  have h1 := sumU_mem l _ e2
  have h2 := sumU_high l 0 n hs (fun x hx => by have := e3 x hx; have := hn x hx; omega) (by omega)
  rw [hnn, Int.toNat_natCast] at h1
  rw [hnn]
  show ((Lib.bitLenAux 64 (sumU l) : Nat) : Int) - 1 = (n : Int)
  generalize Lib.bitLenAux 64 (sumU l) = L at b1 b2 b3
  have h3 : n < L := (Nat.pow_lt_pow_iff_right (show 1 < 2 by decide)).1 (Nat.lt_of_le_of_lt h1 b3)
  have h4 : L - 1 < n + 1 := (Nat.pow_lt_pow_iff_right (show 1 < 2 by decide)).1 (Nat.lt_of_le_of_lt b2 (by have h0 : (2 : Nat) ^ 0 = 1 := rfl; omega))
  omega
theorem setU_ends {T : Tide} (hT : TideOk T) {h : Hts} {p : Nat} (hp : p < T.sand.length) (hne : setL T h p ≠ []) : setU T h p < 2 ^ 61 ∧ setU T h p ≠ 0 ∧ (Lib.ctz 64 (setU T h p) : Int) = headI (setL T h p) ∧ (Lib.bitLen (setU T h p) : Int) - 1 = lastI (setL T h p) :=
  set_low (List.Pairwise.filter _ (rng_sorted _ _)) (fun x hx => set_num hT hp hx) hne
theorem toldD_g (T : Tide) (a1 a2 a3 : Option Addr) (n1 n2 n3 c1 c2 c3 : Nat) (D : Imm) (w : World) (hR : TideR D T a1 n1 a2 n2 a3 n3) (qb mb : Nat) (hq : D qb = some (shoO (.slice a1 n1 c1) (.slice a2 n2 c2) (.slice a3 n3 c3) mb)) (hH : Holds D w) (hT : TideOk T) (hdn : DoneD D) (hM : Hp) (hMM : MapK T mb hM) (hI0 : Inv D hM [mb] w w) : AltersV Tryz.prog 85 [pt qb] w D [mb] (fun v D' hp' => tdL T ≠ [] ∧ ∃ a c, v = .slice a (tdL T).length c ∧ SlL D' 8 ((tdL T).map (tdC T)) a (tdL T).length ∧ MapK T mb hp') (fun ch D' hp' => ch = stopD 10 ∧ tdL T = [] ∧ MapK T mb hp') := by
  unfold AltersV
  obtain rfl := hR.mark.len'
  obtain rfl := hR.sand.len'
  obtain rfl := hR.look.len'
  obtain ⟨hl1, hl2, hl3⟩ := hR.len
  obtain ⟨es, clock, F, rfl, hMR, hFK⟩ := hMM
  refine en Tryz.func85 rfl Tryz.ntmps85 hI0 (g [[1],[5,0],[3,2,0]] ?_)
  refine WL.cl rfl (fun w hI => every_g T a1 a2 a3 _ _ _ c1 c2 c3 D _ hR qb mb hq hI.imm hT) (WL.so (SO.makes (Enters.func Tryz.call171 rfl) (fun w hI => truthsD_g qb _ D _ hI.imm)) rfl ?_)
  rintro _ D1 _ ⟨hX1, ⟨bs, bm, rfl, h1, hm⟩, rfl⟩
  replace hR := hR.ext hX1
  replace hq := hX1.old _ _ hq
  replace hdn := hdn.ext hX1
  refine WL.so (SO.altersNS (own := []) (hpc := [(mb, .map es clock)]) (fun _ h => h) (fun h => h) (Enters.func CaF.h rfl) (fun w2 hsz0 hI => collT_g T hT mb 235 [pt bs, pt bm] D1 w2 (fun w1 hs hH1 => truthsD1_iter T a1 a2 a3 _ _ _ c1 c2 c3 qb mb bs bm D1 w1 hT hR hq hdn h1 hm) CaF.h [(mb, .map es clock)] ⟨es, clock, F, rfl, hMR, hFK⟩ hI)) rfl ?_
  rintro _ D2 _ ⟨hp2, hX2, ⟨a, c, rfl, hS2, hMM2⟩, rfl⟩
  refine g [[4],[4,3,2]] ?_
  refine WL.part 11 rfl (fun g11 => ?_) (fun g11 => ?_)
  · try simp only [zq] at g11
    refine WL.cl rfl (fun w hI => mustD_ok _ _) (g [[3],[6,3,2]] ?_)
    refine WP.ret1 rfl rfl rfl (RV.tmp rfl) (fun w1 hI => ⟨D2, _, hX1.trans hX2 (Nat.le_refl _), hI, .inl ⟨_, rfl, List.ne_nil_of_length_pos (by omega), a, c, rfl, hS2, hMM2⟩⟩)
  try simp only [zq] at g11
  refine WL.nf rfl (fun w hI => mustD_no _ _) (g [[1]] ?_)
  exact WP.panicBody rfl (fun w1 hI => ⟨D2, _, hX1.trans hX2 (Nat.le_refl _), hI, .inr ⟨_, rfl, rfl, List.length_eq_zero_iff.1 (by omega), hMM2⟩⟩)
end Go.Proofs.YtejgofaeafphjaaGreatDoor
namespace Go.Proofs.YtejgofaeafphjaaGreatDoor
open Go.W Go.Ti
theorem SA302 : StructAt Tryz.prog 302 [.int .i64 0, .int .i64 0, .bool false, .nilFunc] [(0, 2), (2, 1), (3, 1)] := ⟨⟨_, Tryz.zeroValue302, rfl⟩, _, Tryz.underlying302, fun w => by simp [Tryz.sizeOf4, Tryz.sizeOf39, Tryz.sizeOf240]⟩
@[reducible, instance] def ISA302 := SaF.mk SA302
def CloD (T : Tide) (mb : Nat) (D : Imm) (L : List Hts) (fi : FuncId) (cp : List Value) (gg : Hts → Int × Int) : Prop :=
  (∀ args w, (callFunc fi args).run Tryz.prog w = .ok (.enter fi args) w) ∧ ∀ h, h ∈ L → ∀ w hM, MapK T mb hM → Inv D hM [mb] w w → AltersN Tryz.prog fi (tdV T h :: cp) w D [mb] (fun v D' hp' => v = .tuple #[it (gg h).1, it (gg h).2] ∧ D' = D ∧ MapK T mb hp')
def hulO (of : Value) (s : Ms) : Obj := .cells (List.toArray [it s.2.1, it s.2.2, .bool s.1, of]) 302 (0, 0)
theorem gt_mem' {α : Type} [Inhabited α] {l : List α} {k : Nat} (h : k < l.length) : gt l k ∈ l := by
  have : gt l k = l[k] := by simp [gt, List.getD, h]
  rw [this]; exact List.getElem_mem h
theorem seeD_g (T : Tide) (mb : Nat) (L : List Hts) (fi : FuncId) (cp : List Value) (gg : Hts → Int × Int) (D : Imm) (hC : CloD T mb D L fi cp gg) (h : Hts) (hh : h ∈ L) (s : Ms) (hb : Nat) (hM : Hp) (hMM : MapK T mb hM) (w : World) (hI0 : Inv D ((hb, hulO (.func (.func fi) #[] cp.toArray) s) :: hM) [hb, mb] w w) : AltersN Tryz.prog 229 [pt hb, tdV T h] w D [hb, mb] (fun v D' hp' => v = .tuple #[] ∧ D' = D ∧ ∃ hM', MapK T mb hM' ∧ hp' = (hb, hulO (.func (.func fi) #[] cp.toArray) (seeD s (gg h))) :: hM') := by
  unfold AltersN
  obtain ⟨es, clock, F, rfl, hMR, hFK⟩ := hMM
  refine en Tryz.func229 rfl Tryz.ntmps229 hI0 (g [[1],[1,0,1]] ?_)
  refine WL.so (SO.box rfl rfl) rfl (zw fun b3 hb3 => ?_)
  refine g [[3],[0,3,0]] ?_
  refine WC.drawO [_, _] (pz [1,3,5,7,9,10,13,15,17,19,21]) zk zk zX (fun _ hI => Inv.left (l1 := [_, _]) (l2 := [_]) hI) (g [[5]] ?_)
  refine WA.know 11 (tdV T h) rfl rfl (WA.so rfl (SO.altersN (own := [_, _]) (hpc := [(mb, .map es clock)]) (S1 := [mb]) (fun _ h => h) (fun h => h) (fun _ h => h) (fun _ h => h) (Enters.val hC.1 rfl rfl) (fun w1 hI => hC.2 h hh w1 _ ⟨es, clock, F, rfl, hMR, hFK⟩ hI)) rfl ?_)
  rintro _ _ _ ⟨hp3, _, ⟨rfl, rfl, hMM2⟩, rfl⟩
  refine ⟨fun _ hI => Inv.left (l1 := [_, _]) hI, ?_⟩
  refine g [[9],[8,5,4,0]] ?_
  refine WC.cond rfl (fun c19 => ?_) (fun c19 => ?_)
  · try simp only [zq] at c19
    refine g [[14,5,4,0],[0,5,4,0],[3016],[7]] ?_
    refine WQ.q rfl (Yd.qt (Yd.min2 rfl rfl)) rfl (g [[6]] ?_)
    refine WQ.q rfl (Yd.qt (Yd.max2 rfl rfl)) rfl (g [[6]] ?_)
    refine WP.ret0 rfl rfl rfl  (fun w1 hI => ⟨_, _, _, rfl, DExt.refl _ _, hI.drop 1, rfl, rfl, hp3, hMM2, by first | rfl | (simp_all [hulO, seeD, splice]; exact ⟨rfl, rfl⟩)⟩)
  try simp only [zq] at c19
  refine g [[2],[0,5,4,0],[3016],[7]] ?_
  refine WQ.q rfl (Yd.qt (Yd.min2 rfl rfl)) rfl (g [[6]] ?_)
  refine WQ.q rfl (Yd.qt (Yd.max2 rfl rfl)) rfl (g [[6]] ?_)
  refine WP.ret0 rfl rfl rfl  (fun w1 hI => ⟨_, _, _, rfl, DExt.refl _ _, hI.drop 1, rfl, rfl, hp3, hMM2, by first | rfl | (simp_all [hulO, seeD, splice]; exact ⟨rfl, rfl⟩)⟩)
theorem spanD_g (T : Tide) (mb : Nat) (L : List Hts) (fi : FuncId) (cp : List Value) (gg : Hts → Int × Int) (D : Imm) (hC : CloD T mb D L fi cp gg) (a : Option Addr) (n c : Nat) (hS : SlL D 8 (L.map (tdC T)) a n) (hn : n ≤ 1000) (hM : Hp) (hMM : MapK T mb hM) (w : World) (hI0 : Inv D hM [mb] w w) : AltersN Tryz.prog 166 [.slice a n c, (.func (.func fi) #[] cp.toArray)] w D [mb] (fun v D' hp' => v = .agg #[it (spanD gg L).lo, it (spanD gg L).hi] ∧ D' = D ∧ MapK T mb hp') := by
  unfold AltersN
  obtain rfl := hS.len'
  obtain ⟨es, clock, F, rfl, hMR, hFK⟩ := hMM
  refine en Tryz.func166 rfl Tryz.ntmps166 hI0 (g [[1],[1,0,1]] ?_)
  refine WL.so (SO.alloc ZvF.h rfl) rfl (zw fun b4 hb4 => ?_)
  refine g [[3],[3,4,0,1]] ?_
  refine WL.so (SO.alloc ZvF.h rfl) rfl (zw fun b5 hb5 => ?_)
  refine g [[5],[7,5,4,0]] ?_
  refine WC.loop (fun y : Nat × Hp => [(4, pt b4), (5, pt b5), (10, .slice a L.length c), (11, nt L.length), (12, nt y.1)]) (fun y => (b5, hulO (.func (.func fi) #[] cp.toArray) (foldD gg (L.take y.1))) :: (b4, .cells (List.toArray [it 0, it 0]) 39 (0, 0)) :: y.2) (fun _ => D) (fun y => y.1 ≤ L.length ∧ MapK T mb y.2) (fun y => L.length - y.1) (0, [(mb, .map es clock)]) ⟨by omega, es, clock, F, rfl, hMR, hFK⟩ (fun a w h => at_fr h ⟨rfl, rfl, rfl, rfl, rfl, trivial⟩) ?_
  rintro ⟨k, hM2⟩ ⟨hk, hMM2⟩
  dsimp only at hk hMM2
  clear hMR hFK
  obtain ⟨es, clock, F, rfl, hMR, hFK⟩ := hMM2
  refine g [[1],[5,4,5,10,11,12]] ?_
  refine WC.cond rfl (fun c13 => ?_) (fun c13 => ?_)
  · try simp only [zq] at c13
    have hkn : k < L.length := by omega
    refine g [[5],[1,4,5,10,11,12]] ?_
    refine WL.yd (Yd.ix rfl rfl (hS.addr k (by omega))) rfl (WL.yd (Yd.lV [_, _, _, _, _, _, _, _] rfl ((hS.at k (by omega)).rdn 0 8 rfl)) rfl ?_)
    refine WL.know 15 (tdV T (gt L k)) rfl rfl ?_
    refine WL.so (SO.alloc ZvF.h rfl) rfl (zw fun b7 hb7 => ?_)
    refine WL.so (SO.store 0 rfl SzF.h rfl rfl rfl rfl (zqb rfl) (tdC_one T _)) rfl (zt (g [[2],[2,7,4,5,10,11,12]] ?_))
    refine WL.know 16 (tdV T (gt L k)) rfl rfl (WL.so (SO.altersN (own := [_, _]) (hpc := [_, (mb, .map es clock)]) (S1 := [b5, mb]) (permS ((List.Perm.swap _ _ _).cons _)).1 (permS ((List.Perm.swap _ _ _).cons _)).2 (fun _ h => h) (fun _ h => h) (Enters.func CaF.h rfl) (fun w1 hI => seeD_g T mb L fi cp gg D hC (gt L k) (gt_mem' hkn) (foldD gg (L.take k)) b5 [(mb, .map es clock)] ⟨es, clock, F, rfl, hMR, hFK⟩ w1 hI)) rfl ?_)
    rintro _ _ _ ⟨_, _, ⟨rfl, rfl, hM3, hMM3, rfl⟩, rfl⟩
    refine g [[3],[4,4,5,10,11,12]] ?_
    exact WP.again (⟨k + 1, hM3⟩ : Nat × Hp) ⟨by simp only; omega, hMM3⟩ (by simp only; omega) (fun a w h => at_drop 1 h ⟨rfl, rfl, rfl, rfl, rfl, trivial⟩ (by dsimp only; rw [foldD_take gg hkn]; exact List.Perm.swap _ _ _))
  try simp only [zq] at c13
  obtain rfl : k = L.length := by omega
  rw [List.take_length]
  refine g [[6],[7,4,5]] ?_
  refine WP.ret1 rfl rfl rfl (RV.cellN AgF.h SzF.h rfl (vs := [_, _]) rfl (RdN.own (k := 1) (n := 2) rfl rfl)) (fun w1 hI => ⟨_, D, _, rfl, DExt.refl _ _, hI.drop 2, rfl, rfl, es, clock, F, rfl, hMR, hFK⟩)
end Go.Proofs.YtejgofaeafphjaaGreatDoor
