import Derived.Test.YtejgofaeafphjaaGreatDoorXG27
import Derived.Test.YtejgofaeafphjaaGreatDoorXG5
import Derived.Test.YtejgofaeafphjaaGreatDoorXG7
set_option linter.unusedSimpArgs false
set_option linter.unusedVariables false
set_option linter.all false
set_option maxRecDepth 100000
set_option maxHeartbeats 4000000
attribute [local irreducible] Go.W.WL Go.W.WLF Go.W.WC Go.W.WCF Go.W.WP Go.W.WA Go.W.WQ Go.W.WH Go.W.WHo Go.W.WCn Go.W.Yd Go.W.Qt Go.W.SO Go.Code.wp Go.Code.wpIn
namespace Go.Proofs.YtejgofaeafphjaaGreatDoor
open Go.W Go.Ti
theorem SA129 : StructAt Tryz.prog 129 [.slice none 0 0] [(0, 1)] := ⟨⟨_, Tryz.zeroValue129, rfl⟩, _, Tryz.underlying129, fun w => by simp [Tryz.sizeOf37]⟩
@[reducible, instance] def ISA129 := SaF.mk SA129
theorem word_look {x : Wick} {bq : Nat → Nat} {D : Imm} (hE : EntH bq D 4) {y : Bs} {n : Nat} (hN : wordN y = some n) : ∃ (f : FuncId) (cap : List Value), (w9L ++ entW bq 4).lookup y = some (wdV n (.func (.func f) #[] cap.toArray)) ∧ DoX x f cap n (fun d ls => doD x d y ls) D := by
  cases h : (w9L ++ entW bq 4).lookup y with
  | none => rw [word_none h] at hN; cases hN
  | some v =>
    obtain ⟨k, f, cap, rfl, h1, h2⟩ := word_some (x := x) hE h
    rw [h1] at hN; cases hN
    exact ⟨f, cap, rfl, h2⟩
theorem word_miss {bq : Nat → Nat} {D : Imm} (hE : EntH bq D 4) {y : Bs} (hN : wordN y = none) : (w9L ++ entW bq 4).lookup y = none := by
  cases h : (w9L ++ entW bq 4).lookup y with
  | none => rfl
  | some v =>
    obtain ⟨k, f, cap, rfl, h1, h2⟩ := word_some (x := ⟨0, 0, 0, 0, [], []⟩) hE h
    rw [h1] at hN; cases hN
theorem partsR_le : ∀ (s acc p : Bs), p ∈ partsR acc s → p.length ≤ acc.length + s.length
  | [], acc, p, h => by simp only [partsR, List.mem_singleton] at h; subst h; simp
  | c :: s, acc, p, h => by
    rw [partsR] at h
    split at h
    · rcases List.mem_cons.1 h with rfl | h
      · omega
      have := partsR_le s [] p h; simp only [List.length_nil, List.length_cons] at this ⊢; omega
    have := partsR_le s _ p h; simp only [List.length_append, List.length_singleton, List.length_cons] at this ⊢; simp at this; omega
theorem split_le {s p : Bs} (h : p ∈ Lib.split s [32]) : p.length ≤ s.length := by
  rw [split_parts _ s (Nat.le_refl _)] at h
  simpa using partsR_le s [] p h
theorem partsR_num : ∀ (s acc : Bs), (partsR acc s).length ≤ s.length + 1
  | [], acc => by simp [partsR]
  | c :: s, acc => by
    rw [partsR]
    split
    · have := partsR_num s []; simp only [List.length_cons]; omega
    have := partsR_num s (acc ++ [c]); simp only [List.length_cons]; omega
theorem split_num (s : Bs) : (Lib.split s [32]).length ≤ s.length + 1 := by
  rw [split_parts _ s (Nat.le_refl _)]; exact partsR_num s []
theorem gt_head {l : List Bs} : gt l 0 = l.headD [] := by cases l <;> rfl
theorem split_pos (s : Bs) : 1 ≤ (Lib.split s [32]).length := by
  have := split_ne s
  rcases h : Lib.split s [32] with _ | ⟨a, l⟩
  · exact absurd h this
  simp
theorem line_long {x : Wick} {d : Day} {s : Bs} (h : 60 < s.length) : lineD x d s = errD d 3 := by unfold lineD; rw [if_pos h]
theorem line_miss {x : Wick} {d : Day} {s : Bs} (h : ¬ 60 < s.length) (hN : wordN (gt (Lib.split s [32]) 0) = none) : lineD x d s = errD d 8 := by
  unfold lineD; rw [if_neg h, ← gt_head, hN]
theorem line_many {x : Wick} {d : Day} {s : Bs} {n : Nat} (h : ¬ 60 < s.length) (hN : wordN (gt (Lib.split s [32]) 0) = some n) (hn : (Lib.split s [32]).length ≠ n + 1) : lineD x d s = errD d 8 := by
  unfold lineD; rw [if_neg h, ← gt_head, hN]; dsimp only; rw [if_pos hn]
theorem line_nums {x : Wick} {d : Day} {s : Bs} {n : Nat} (h : ¬ 60 < s.length) (hN : wordN (gt (Lib.split s [32]) 0) = some n) (hn : (Lib.split s [32]).length = n + 1) (hl : numsL ((Lib.split s [32]).drop 1) = none) : lineD x d s = errD d 8 := by
  unfold lineD; rw [if_neg h, ← gt_head, hN]; dsimp only; rw [if_neg (by omega), ← List.drop_one, hl]
theorem line_do {x : Wick} {d : Day} {s : Bs} {n : Nat} {l : List Int} (h : ¬ 60 < s.length) (hN : wordN (gt (Lib.split s [32]) 0) = some n) (hn : (Lib.split s [32]).length = n + 1) (hl : numsL ((Lib.split s [32]).drop 1) = some l) : lineD x d s = doD x d (gt (Lib.split s [32]) 0) l := by
  unfold lineD; rw [if_neg h, ← gt_head, hN]; dsimp only; rw [if_neg (by omega), ← List.drop_one, hl]
theorem look_v {P : Program} {x : Cx} {fr : Fr} {D : Imm} {hp : Hp} {op : Op} {ty : TypeId} {G : List (List UInt8 × Value)} {y : List UInt8} {r : Option Value} {z v : Value} (hr : G.lookup y = r) (hv : Value.tuple #[r.getD z, .bool r.isSome] = v) (h : Yd P x fr D hp op ty (.tuple #[(G.lookup y).getD z, .bool (G.lookup y).isSome])) : Yd P x fr D hp op ty v := by
  rw [hr, hv] at h; exact h
def LineK (x : Wick) (m s : Sl) (xb : Nat) (r : Rep) (v : Value) (D' : Imm) (hp' : Hp) : Prop := v = .tuple #[st r.2.1, it r.2.2] ∧ ∃ t' l' b', hp' = [(xb, womO x m s t' l' b')] ∧ DayR D' r.1 t' l' b'
theorem lineK_n {x : Wick} {d : Day} {m s t l b : Sl} {xb : Nat} {D : Imm} (e : Int) (hd : DayR D d t l b) : LineK x m s xb (errD d e) (.tuple #[st [], it e]) D [(xb, womO x m s t l b)] := ⟨rfl, t, l, b, rfl, hd⟩
theorem lineK_e {x : Wick} {d : Day} {q : Bs} {m s t l b : Sl} {xb : Nat} {D : Imm} {r : Rep} (h : lineD x d q = r) (he : r.2.2 ≠ 0) (hd : DayR D d t l b) : LineK x m s xb (lineD x d q) (.tuple #[st [], it r.2.2]) D [(xb, womO x m s t l b)] := by
  have h1 := rep_err (line_rep x d q) (by rw [h]; exact he)
  refine ⟨by rw [h1.2, h], t, l, b, rfl, by rw [h1.1]; exact hd⟩
theorem lineN_g (x : Wick) (d : Day) (m s t l b : Sl) (xb : Nat) (q : Bs) (D : Imm) (w : World) (hw : wickB x = true) (hdo : DayOk x d) (hW : WickR D x m s) (hd : DayR D d t l b) (hL : LibW D) (hq : q.length ≤ 2 ^ 20) (hI0 : Inv D [(xb, womO x m s t l b)] [xb] w w) (hN : wordN (gt (Lib.split q [32]) 0) = none) : AltersN Tryz.prog 20 [pt xb, st q] w D [xb] (LineK x m s xb (lineD x d q)) := by
  unfold AltersN
  refine enD Tryz.func20 rfl Tryz.ntmps20 hI0 (g [[1],[2,0,1]] ?_)
  refine WL.so (SO.alloc ZvF.h rfl) rfl (zw fun b5 hb5 => ?_)
  refine g [[3],[2,5,4,0,1]] ?_
  refine WL.defer rfl (g [[3],[2,5,4,0,1]] ?_)
  refine WL.yd (Yd.neP UnF.h rfl) rfl (g [[6]] ?_)
  refine WL.cl rfl (fun w hI => mustW_ok _ _) (g [[3],[2,5,4,0,1]] ?_)
  refine WL.yd (Yd.lenStr rfl Tryz.underlying9 rfl) rfl (g [[1]] ?_)
  refine WL.part 22 rfl (fun g22 => ?_) (fun g22 => ?_)
  · try simp only [zq] at g22
    refine WL.cl rfl (fun w hI => mustW_ok _ _) (g [[3],[2,5,4,0,1]] ?_)
    refine WL.so (SO.makes (Enters.func Tryz.call72 rfl) (fun w1 hI => splitC_g q 32 (by omega) D hL _ hI.imm)) rfl ?_
    rintro _ D2 _ ⟨hX2, ⟨a1, n1, c1, rfl, hc1, hS2⟩, rfl⟩
    have hL2 := hL.ext hX2
    obtain rfl := hS2.len' (f := strC)
    have hpos := split_pos q
    have hup := split_num q
    refine g [[4],[0,6,5,4,0]] ?_
    refine WC.drawH [] zk (fun _ hI => hI.nil) (g [[1001]] ?_)
    refine WH.yd (i := 2) zk zX rfl (Yd.ix rfl rfl (hS2.addr 0 (by omega))) rfl (WH.yd (i := 3) zk zX rfl (Yd.l1 rfl ((hS2.at 0 (by omega)).rd 0 rfl)) rfl ?_)
    refine WH.two (i := 0) (j := 8) zk ?_ ?_
    · refine WHo.so rfl (SO.makes (Enters.func Tryz.call73 rfl) (fun w1 hI => words_g D2 hL2 _ hI.imm)) rfl ?_
      rintro _ D3 _ ⟨hX3, ⟨bm, es, ck, bq, rfl, hbm, hAL, hE⟩, rfl⟩
      have hlk := word_miss hE hN
      refine ⟨(fun _ hI => by first | exact hI.nil | exact hI.nil.shrink hX3.old), ?_⟩
      refine WH.two (i := 4) (j := 8) zk ?_ ?_
      · refine WHo.yd rfl (look_v (v := .tuple #[.agg #[it 0, .nilFunc], .bool false]) hlk rfl (Yd.lookADOk (z := .agg #[it 0, .nilFunc]) strK UnF.h UnF.h ZvF.h rfl (Nat.le_trans (split_le (gt_mem' (by omega))) (by omega)) rfl hbm hAL)) rfl (g [[1005],[1006],[1007]] ?_)
        refine WH.know 33 (.bool false) rfl rfl ?_
        refine WH.one (i := 8) zk (WHo.so rfl (SO.alloc ZvF.h rfl) rfl ?_)
        rintro _ _ _ ⟨b7, hb7, rfl, rfl, rfl⟩
        refine ⟨(fun _ hI => by first | exact hI.nil | exact hI.nil.shrink hX3.old), ?_⟩
        refine WH.one (i := 9) zk (WHo.so rfl (SO.store 0 rfl SzF.h rfl rfl rfl rfl (zqb rfl) (oneB_spec rfl)) rfl ?_)
        rintro _ _ _ ⟨rfl, rfl, rfl⟩
        refine ⟨(fun _ hI => by first | exact hI.nil | exact hI.nil.shrink hX3.old), ?_⟩
        refine g [[1010]] ?_
        refine WH.know 8 (.bool false) rfl rfl (WH.nil zk (g [[2],[10,8,7,6,5,4,0]] ?_))
        refine WL.nf rfl (fun w hI => mustW_no _ _) (g [[1]] ?_)
        refine WP.panicD (k := 1) [_, _] [_, _] rfl CaF.h rfl (fun w hI => catch69 _ _ _ _ _ (hI.own _ _ (List.mem_of_getElem? (i := 1) rfl))) rfl zV (fun w1 hI => ⟨_, D3, [_], rfl, hX2.trans hX3 (Nat.le_refl _), hI.tail.tail, by rw [line_miss (by omega) hN]; exact lineK_n 8 ((hd.ext hX2).ext hX3)⟩)
      refine WHo.so rfl (SO.alloc ZvF.h rfl) rfl ?_
      rintro _ _ _ ⟨b7, hb7, rfl, rfl, rfl⟩
      refine ⟨(fun _ hI => by first | exact hI.nil | exact hI.nil.shrink hX3.old), ?_⟩
      refine WH.one (i := 4) zk (WHo.yd rfl (look_v (v := .tuple #[.agg #[it 0, .nilFunc], .bool false]) hlk rfl (Yd.lookADOk (z := .agg #[it 0, .nilFunc]) strK UnF.h UnF.h ZvF.h rfl (Nat.le_trans (split_le (gt_mem' (by omega))) (by omega)) rfl hbm hAL)) rfl (g [[1005],[1006],[1007]] ?_))
      refine WH.know 33 (.bool false) rfl rfl ?_
      refine WH.one (i := 9) zk (WHo.so rfl (SO.store 0 rfl SzF.h rfl rfl rfl rfl (zqb rfl) (oneB_spec rfl)) rfl ?_)
      rintro _ _ _ ⟨rfl, rfl, rfl⟩
      refine ⟨(fun _ hI => by first | exact hI.nil | exact hI.nil.shrink hX3.old), ?_⟩
      refine g [[1010]] ?_
      refine WH.know 8 (.bool false) rfl rfl (WH.nil zk (g [[2],[10,8,7,6,5,4,0]] ?_))
      refine WL.nf rfl (fun w hI => mustW_no _ _) (g [[1]] ?_)
      refine WP.panicD (k := 1) [_, _] [_, _] rfl CaF.h rfl (fun w hI => catch69 _ _ _ _ _ (hI.own _ _ (List.mem_of_getElem? (i := 1) rfl))) rfl zV (fun w1 hI => ⟨_, D3, [_], rfl, hX2.trans hX3 (Nat.le_refl _), hI.tail.tail, by rw [line_miss (by omega) hN]; exact lineK_n 8 ((hd.ext hX2).ext hX3)⟩)
    refine WHo.so rfl (SO.alloc ZvF.h rfl) rfl ?_
    rintro _ _ _ ⟨b7, hb7, rfl, rfl, rfl⟩
    refine ⟨(fun _ hI => by first | exact hI.nil | exact hI.nil.shrink hX3.old), ?_⟩
    refine WH.one (i := 0) zk (WHo.so rfl (SO.makes (Enters.func Tryz.call73 rfl) (fun w1 hI => words_g D2 hL2 _ hI.imm)) rfl ?_)
    rintro _ D3 _ ⟨hX3, ⟨bm, es, ck, bq, rfl, hbm, hAL, hE⟩, rfl⟩
    have hlk := word_miss hE hN
    refine ⟨(fun _ hI => by first | exact hI.nil | exact hI.nil.shrink hX3.old), ?_⟩
    refine WH.one (i := 4) zk (WHo.yd rfl (look_v (v := .tuple #[.agg #[it 0, .nilFunc], .bool false]) hlk rfl (Yd.lookADOk (z := .agg #[it 0, .nilFunc]) strK UnF.h UnF.h ZvF.h rfl (Nat.le_trans (split_le (gt_mem' (by omega))) (by omega)) rfl hbm hAL)) rfl (g [[1005],[1006],[1007]] ?_))
    refine WH.know 33 (.bool false) rfl rfl ?_
    refine WH.one (i := 9) zk (WHo.so rfl (SO.store 0 rfl SzF.h rfl rfl rfl rfl (zqb rfl) (oneB_spec rfl)) rfl ?_)
    rintro _ _ _ ⟨rfl, rfl, rfl⟩
    refine ⟨(fun _ hI => by first | exact hI.nil | exact hI.nil.shrink hX3.old), ?_⟩
    refine g [[1010]] ?_
    refine WH.know 8 (.bool false) rfl rfl (WH.nil zk (g [[2],[10,8,7,6,5,4,0]] ?_))
    refine WL.nf rfl (fun w hI => mustW_no _ _) (g [[1]] ?_)
    refine WP.panicD (k := 1) [_, _] [_, _] rfl CaF.h rfl (fun w hI => catch69 _ _ _ _ _ (hI.own _ _ (List.mem_of_getElem? (i := 1) rfl))) rfl zV (fun w1 hI => ⟨_, D3, [_], rfl, hX2.trans hX3 (Nat.le_refl _), hI.tail.tail, by rw [line_miss (by omega) hN]; exact lineK_n 8 ((hd.ext hX2).ext hX3)⟩)
  try simp only [zq] at g22
  refine WL.nf rfl (fun w hI => mustW_no _ _) (g [[1]] ?_)
  refine WP.panicD (k := 0) [_, _] [_, _] rfl CaF.h rfl (fun w hI => catch69 _ _ _ _ _ (hI.own _ _ (List.mem_of_getElem? (i := 0) rfl))) rfl zV (fun w1 hI => ⟨_, D, [_], rfl, DExt.refl _ _, hI.tail, by rw [line_long (by omega)]; exact lineK_n 3 hd⟩)
theorem lineS_g (x : Wick) (d : Day) (m s t l b : Sl) (xb : Nat) (q : Bs) (D : Imm) (w : World) (hw : wickB x = true) (hdo : DayOk x d) (hW : WickR D x m s) (hd : DayR D d t l b) (hL : LibW D) (hq : q.length ≤ 2 ^ 20) (hI0 : Inv D [(xb, womO x m s t l b)] [xb] w w) (n : Nat) (hN : wordN (gt (Lib.split q [32]) 0) = some n) : AltersN Tryz.prog 20 [pt xb, st q] w D [xb] (LineK x m s xb (lineD x d q)) := by
  unfold AltersN
  refine enD Tryz.func20 rfl Tryz.ntmps20 hI0 (g [[1],[2,0,1]] ?_)
  refine WL.so (SO.alloc ZvF.h rfl) rfl (zw fun b5 hb5 => ?_)
  refine g [[3],[2,5,4,0,1]] ?_
  refine WL.defer rfl (g [[3],[2,5,4,0,1]] ?_)
  refine WL.yd (Yd.neP UnF.h rfl) rfl (g [[6]] ?_)
  refine WL.cl rfl (fun w hI => mustW_ok _ _) (g [[3],[2,5,4,0,1]] ?_)
  refine WL.yd (Yd.lenStr rfl Tryz.underlying9 rfl) rfl (g [[1]] ?_)
  refine WL.part 22 rfl (fun g22 => ?_) (fun g22 => ?_)
  · try simp only [zq] at g22
    refine WL.cl rfl (fun w hI => mustW_ok _ _) (g [[3],[2,5,4,0,1]] ?_)
    refine WL.so (SO.makes (Enters.func Tryz.call72 rfl) (fun w1 hI => splitC_g q 32 (by omega) D hL _ hI.imm)) rfl ?_
    rintro _ D2 _ ⟨hX2, ⟨a1, n1, c1, rfl, hc1, hS2⟩, rfl⟩
    have hL2 := hL.ext hX2
    obtain rfl := hS2.len' (f := strC)
    have hpos := split_pos q
    have hup := split_num q
    refine g [[4],[0,6,5,4,0]] ?_
    refine WC.drawH [] zk (fun _ hI => hI.nil) (g [[1001]] ?_)
    refine WH.yd (i := 2) zk zX rfl (Yd.ix rfl rfl (hS2.addr 0 (by omega))) rfl (WH.yd (i := 3) zk zX rfl (Yd.l1 rfl ((hS2.at 0 (by omega)).rd 0 rfl)) rfl ?_)
    refine WH.two (i := 0) (j := 8) zk ?_ ?_
    · refine WHo.so rfl (SO.makes (Enters.func Tryz.call73 rfl) (fun w1 hI => words_g D2 hL2 _ hI.imm)) rfl ?_
      rintro _ D3 _ ⟨hX3, ⟨bm, es, ck, bq, rfl, hbm, hAL, hE⟩, rfl⟩
      obtain ⟨f, cap, hlk, hDo⟩ := word_look (x := x) hE hN
      refine ⟨(fun _ hI => by first | exact hI.nil | exact hI.nil.shrink hX3.old), ?_⟩
      refine WH.two (i := 4) (j := 8) zk ?_ ?_
      · refine WHo.yd rfl (look_v (v := .tuple #[wdV n (.func (.func f) #[] cap.toArray), .bool true]) hlk rfl (Yd.lookADOk (z := .agg #[it 0, .nilFunc]) strK UnF.h UnF.h ZvF.h rfl (Nat.le_trans (split_le (gt_mem' (by omega))) (by omega)) rfl hbm hAL)) rfl (g [[1005],[1006],[1007]] ?_)
        refine WH.know 33 (.bool true) rfl rfl ?_
        refine WH.one (i := 8) zk (WHo.so rfl (SO.alloc ZvF.h rfl) rfl ?_)
        rintro _ _ _ ⟨b7, hb7, rfl, rfl, rfl⟩
        refine ⟨(fun _ hI => by first | exact hI.nil | exact hI.nil.shrink hX3.old), ?_⟩
        refine WH.one (i := 9) zk (WHo.so rfl (SO.store 0 rfl SzF.h rfl rfl rfl rfl (zqb rfl) (oneB_spec rfl)) rfl ?_)
        rintro _ _ _ ⟨rfl, rfl, rfl⟩
        refine ⟨(fun _ hI => by first | exact hI.nil | exact hI.nil.shrink hX3.old), ?_⟩
        refine g [[1010]] ?_
        refine WH.know 8 (.bool true) rfl rfl (WH.nil zk (g [[2],[10,8,7,6,5,4,0]] ?_))
        refine WL.part 42 rfl (fun g42 => ?_) (fun g42 => ?_)
        · try simp only [zq] at g42
          refine WL.cl rfl (fun w hI => mustW_ok _ _) (g [[3],[2,7,6,5,4,0]] ?_)
          refine WL.yd (Yd.sliceFrom (k := 1) Tryz.underlying37 Tryz.sizeOf9 rfl rfl (by omega)) rfl (g [[1]] ?_)
          refine WL.so (SO.box rfl rfl) rfl (zw fun b47 hb47 => ?_)
          refine g [[4]] ?_
          refine WC.hpPerm _ (List.perm_append_singleton _ _).symm (g [[0,9,7,5,4,0]] ?_)
          refine WC.drawP [_] (pz [1,3,5,7,8,10,12,14]) zk zk zX (fun _ hI => Inv.left (l1 := [_]) hI) (g [[2]] ?_)
          refine WA.know 49 (.func (.func f) #[] cap.toArray) rfl rfl (g [[2]] ?_)
          refine WA.so rfl  (SO.altersV (own := _) (hpc := [(b47, tkO (fromA a1 c1 1 1) ((Lib.split q [32]).length - 1) (c1 - 1))]) (S1 := [b47]) (fun _ h => h) (fun h => h) (fun _ h => h) (fun _ h => h) (Enters.func CaF.h rfl) (fun w1 _ hI => all_g b47 ((Lib.split q [32]).drop 1) (fromA a1 c1 1 1) (c1 - 1) D3 w1 (hL2.ext hX3) (by rw [List.map_drop, List.length_drop]; exact (hS2.ext hX3).drop (k := 1) (by omega) hc1) (by rw [List.length_drop]; omega) (by rw [List.length_drop]; omega) (fun p hp => Nat.le_trans (split_le (List.mem_of_mem_drop hp)) (by omega)) (by rw [List.length_drop]; exact hI)) ?_) rfl ?_
          · rintro ch D5 hp5 ⟨hnn, rfl⟩ hX5
            refine g [[1]] ?_
            refine WP.panicD (k := 1) [_, _] [_, _] rfl CaF.h rfl (fun w hI => catch69 _ _ _ _ _ (hI.own _ _ (List.mem_of_getElem? (i := 1) rfl))) rfl zV (fun w1 hI => ⟨_, D5, [_], rfl, (hX2.trans hX3 (Nat.le_refl _)).trans hX5 (Nat.le_refl _), (Inv.left (l1 := [_, _, _]) hI).tail.tail, by rw [line_nums (by omega) hN (by omega) hnn]; exact lineK_n 8 (((hd.ext hX2).ext hX3).ext hX5)⟩)
          rintro _ D4 _ ⟨hp4, hX4, ⟨ls, al, nl, cl, hls, rfl, hSl, hnl⟩, rfl⟩
          have hX234 := (hX2.trans hX3 (Nat.le_refl _)).trans hX4 (Nat.le_refl _)
          refine ⟨fun _ hI => (Inv.left (l1 := [_]) hI.left).shrink hX4.old, ?_⟩
          refine WA.left ?_
          refine WA.so rfl  (SO.altersV (own := [_, _]) (hpc := [(xb, womO x m s t l b)]) (S1 := [xb]) (fun _ h => h) (fun h => h) (fun _ h => h) (fun _ h => h) (Enters.val (va := []) (vb := cap) (vals := [pt xb, .slice al nl cl]) hDo.1 rfl rfl) (fun w1 _ hI => hDo.2 d m s t l b xb D4 w1 (fun b o h => hX4.old _ _ h) hw hdo (hW.ext hX234) (hd.ext hX234) (hL.ext hX234) ls al nl cl hSl (by rw [← hSl.len', hnl, List.length_drop]; omega) (by rw [hnl, List.length_drop]; omega) hI) ?_) rfl ?_
          · rintro ch D5 hp5 ⟨hne, rfl, rfl⟩ hX5
            refine g [[1]] ?_
            refine WP.panicD (k := 1) [_, _] [_, _] rfl CaF.h rfl (fun w hI => catch69 _ _ _ _ _ (hI.own _ _ (List.mem_of_getElem? (i := 1) rfl))) rfl zV (fun w1 hI => ⟨_, D5, [_], rfl, hX234.trans hX5 (Nat.le_refl _), hI.tail.tail, lineK_e (line_do (by omega) hN (by omega) hls) hne ((hd.ext hX234).ext hX5)⟩)
          rintro _ D5 _ ⟨hp5, hX5, ⟨he0, rfl, t1, l1, b1, rfl, hd5⟩, rfl⟩
          refine ⟨fun _ hI => ((Inv.left (l1 := [_]) hI).shrink hX5.old).shrink hX4.old, ?_⟩
          refine WA.so rfl (SO.ofYd (Yd.assign rfl)) rfl ?_
          rintro _ _ _ ⟨rfl, rfl, rfl⟩
          refine ⟨fun _ hI => ((Inv.left (l1 := [_]) hI).shrink hX5.old).shrink hX4.old, ?_⟩
          refine WA.so rfl (SO.store 1 rfl SzF.h rfl rfl rfl rfl (zqb rfl) (oneB_spec rfl)) rfl ?_
          rintro _ _ _ ⟨rfl, rfl, rfl⟩
          refine ⟨fun _ hI => ((Inv.left (l1 := [_]) hI).shrink hX5.old).shrink hX4.old, ?_⟩
          refine g [[3]] ?_
          refine WP.endD [_, _] [_, _] rfl rfl CaF.h (fun w hI => idle69 _ _) rfl zV (fun w1 hI => ⟨_, D5, [_], rfl, hX234.trans hX5 (Nat.le_refl _), hI.tail.tail, by rw [line_do (by omega) hN (by omega) hls]; exact ⟨by rw [he0]; rfl, t1, l1, b1, rfl, hd5⟩⟩)
        try simp only [zq] at g42
        refine WL.nf rfl (fun w hI => mustW_no _ _) (g [[1]] ?_)
        refine WP.panicD (k := 1) [_, _] [_, _] rfl CaF.h rfl (fun w hI => catch69 _ _ _ _ _ (hI.own _ _ (List.mem_of_getElem? (i := 1) rfl))) rfl zV (fun w1 hI => ⟨_, D3, [_], rfl, hX2.trans hX3 (Nat.le_refl _), hI.tail.tail, by rw [line_many (by omega) hN (by omega)]; exact lineK_n 8 ((hd.ext hX2).ext hX3)⟩)
      refine WHo.so rfl (SO.alloc ZvF.h rfl) rfl ?_
      rintro _ _ _ ⟨b7, hb7, rfl, rfl, rfl⟩
      refine ⟨(fun _ hI => by first | exact hI.nil | exact hI.nil.shrink hX3.old), ?_⟩
      refine WH.one (i := 4) zk (WHo.yd rfl (look_v (v := .tuple #[wdV n (.func (.func f) #[] cap.toArray), .bool true]) hlk rfl (Yd.lookADOk (z := .agg #[it 0, .nilFunc]) strK UnF.h UnF.h ZvF.h rfl (Nat.le_trans (split_le (gt_mem' (by omega))) (by omega)) rfl hbm hAL)) rfl (g [[1005],[1006],[1007]] ?_))
      refine WH.know 33 (.bool true) rfl rfl ?_
      refine WH.one (i := 9) zk (WHo.so rfl (SO.store 0 rfl SzF.h rfl rfl rfl rfl (zqb rfl) (oneB_spec rfl)) rfl ?_)
      rintro _ _ _ ⟨rfl, rfl, rfl⟩
      refine ⟨(fun _ hI => by first | exact hI.nil | exact hI.nil.shrink hX3.old), ?_⟩
      refine g [[1010]] ?_
      refine WH.know 8 (.bool true) rfl rfl (WH.nil zk (g [[2],[10,8,7,6,5,4,0]] ?_))
      refine WL.part 42 rfl (fun g42 => ?_) (fun g42 => ?_)
      · try simp only [zq] at g42
        refine WL.cl rfl (fun w hI => mustW_ok _ _) (g [[3],[2,7,6,5,4,0]] ?_)
        refine WL.yd (Yd.sliceFrom (k := 1) Tryz.underlying37 Tryz.sizeOf9 rfl rfl (by omega)) rfl (g [[1]] ?_)
        refine WL.so (SO.box rfl rfl) rfl (zw fun b47 hb47 => ?_)
        refine g [[4]] ?_
        refine WC.hpPerm _ (List.perm_append_singleton _ _).symm (g [[0,9,7,5,4,0]] ?_)
        refine WC.drawP [_] (pz [1,3,5,7,8,10,12,14]) zk zk zX (fun _ hI => Inv.left (l1 := [_]) hI) (g [[2]] ?_)
        refine WA.know 49 (.func (.func f) #[] cap.toArray) rfl rfl (g [[2]] ?_)
        refine WA.so rfl  (SO.altersV (own := _) (hpc := [(b47, tkO (fromA a1 c1 1 1) ((Lib.split q [32]).length - 1) (c1 - 1))]) (S1 := [b47]) (fun _ h => h) (fun h => h) (fun _ h => h) (fun _ h => h) (Enters.func CaF.h rfl) (fun w1 _ hI => all_g b47 ((Lib.split q [32]).drop 1) (fromA a1 c1 1 1) (c1 - 1) D3 w1 (hL2.ext hX3) (by rw [List.map_drop, List.length_drop]; exact (hS2.ext hX3).drop (k := 1) (by omega) hc1) (by rw [List.length_drop]; omega) (by rw [List.length_drop]; omega) (fun p hp => Nat.le_trans (split_le (List.mem_of_mem_drop hp)) (by omega)) (by rw [List.length_drop]; exact hI)) ?_) rfl ?_
        · rintro ch D5 hp5 ⟨hnn, rfl⟩ hX5
          refine g [[1]] ?_
          refine WP.panicD (k := 1) [_, _] [_, _] rfl CaF.h rfl (fun w hI => catch69 _ _ _ _ _ (hI.own _ _ (List.mem_of_getElem? (i := 1) rfl))) rfl zV (fun w1 hI => ⟨_, D5, [_], rfl, (hX2.trans hX3 (Nat.le_refl _)).trans hX5 (Nat.le_refl _), (Inv.left (l1 := [_, _, _]) hI).tail.tail, by rw [line_nums (by omega) hN (by omega) hnn]; exact lineK_n 8 (((hd.ext hX2).ext hX3).ext hX5)⟩)
        rintro _ D4 _ ⟨hp4, hX4, ⟨ls, al, nl, cl, hls, rfl, hSl, hnl⟩, rfl⟩
        have hX234 := (hX2.trans hX3 (Nat.le_refl _)).trans hX4 (Nat.le_refl _)
        refine ⟨fun _ hI => (Inv.left (l1 := [_]) hI.left).shrink hX4.old, ?_⟩
        refine WA.left ?_
        refine WA.so rfl  (SO.altersV (own := [_, _]) (hpc := [(xb, womO x m s t l b)]) (S1 := [xb]) (fun _ h => h) (fun h => h) (fun _ h => h) (fun _ h => h) (Enters.val (va := []) (vb := cap) (vals := [pt xb, .slice al nl cl]) hDo.1 rfl rfl) (fun w1 _ hI => hDo.2 d m s t l b xb D4 w1 (fun b o h => hX4.old _ _ h) hw hdo (hW.ext hX234) (hd.ext hX234) (hL.ext hX234) ls al nl cl hSl (by rw [← hSl.len', hnl, List.length_drop]; omega) (by rw [hnl, List.length_drop]; omega) hI) ?_) rfl ?_
        · rintro ch D5 hp5 ⟨hne, rfl, rfl⟩ hX5
          refine g [[1]] ?_
          refine WP.panicD (k := 1) [_, _] [_, _] rfl CaF.h rfl (fun w hI => catch69 _ _ _ _ _ (hI.own _ _ (List.mem_of_getElem? (i := 1) rfl))) rfl zV (fun w1 hI => ⟨_, D5, [_], rfl, hX234.trans hX5 (Nat.le_refl _), hI.tail.tail, lineK_e (line_do (by omega) hN (by omega) hls) hne ((hd.ext hX234).ext hX5)⟩)
        rintro _ D5 _ ⟨hp5, hX5, ⟨he0, rfl, t1, l1, b1, rfl, hd5⟩, rfl⟩
        refine ⟨fun _ hI => ((Inv.left (l1 := [_]) hI).shrink hX5.old).shrink hX4.old, ?_⟩
        refine WA.so rfl (SO.ofYd (Yd.assign rfl)) rfl ?_
        rintro _ _ _ ⟨rfl, rfl, rfl⟩
        refine ⟨fun _ hI => ((Inv.left (l1 := [_]) hI).shrink hX5.old).shrink hX4.old, ?_⟩
        refine WA.so rfl (SO.store 1 rfl SzF.h rfl rfl rfl rfl (zqb rfl) (oneB_spec rfl)) rfl ?_
        rintro _ _ _ ⟨rfl, rfl, rfl⟩
        refine ⟨fun _ hI => ((Inv.left (l1 := [_]) hI).shrink hX5.old).shrink hX4.old, ?_⟩
        refine g [[3]] ?_
        refine WP.endD [_, _] [_, _] rfl rfl CaF.h (fun w hI => idle69 _ _) rfl zV (fun w1 hI => ⟨_, D5, [_], rfl, hX234.trans hX5 (Nat.le_refl _), hI.tail.tail, by rw [line_do (by omega) hN (by omega) hls]; exact ⟨by rw [he0]; rfl, t1, l1, b1, rfl, hd5⟩⟩)
      try simp only [zq] at g42
      refine WL.nf rfl (fun w hI => mustW_no _ _) (g [[1]] ?_)
      refine WP.panicD (k := 1) [_, _] [_, _] rfl CaF.h rfl (fun w hI => catch69 _ _ _ _ _ (hI.own _ _ (List.mem_of_getElem? (i := 1) rfl))) rfl zV (fun w1 hI => ⟨_, D3, [_], rfl, hX2.trans hX3 (Nat.le_refl _), hI.tail.tail, by rw [line_many (by omega) hN (by omega)]; exact lineK_n 8 ((hd.ext hX2).ext hX3)⟩)
    refine WHo.so rfl (SO.alloc ZvF.h rfl) rfl ?_
    rintro _ _ _ ⟨b7, hb7, rfl, rfl, rfl⟩
    refine ⟨(fun _ hI => by first | exact hI.nil | exact hI.nil.shrink hX3.old), ?_⟩
    refine WH.one (i := 0) zk (WHo.so rfl (SO.makes (Enters.func Tryz.call73 rfl) (fun w1 hI => words_g D2 hL2 _ hI.imm)) rfl ?_)
    rintro _ D3 _ ⟨hX3, ⟨bm, es, ck, bq, rfl, hbm, hAL, hE⟩, rfl⟩
    obtain ⟨f, cap, hlk, hDo⟩ := word_look (x := x) hE hN
    refine ⟨(fun _ hI => by first | exact hI.nil | exact hI.nil.shrink hX3.old), ?_⟩
    refine WH.one (i := 4) zk (WHo.yd rfl (look_v (v := .tuple #[wdV n (.func (.func f) #[] cap.toArray), .bool true]) hlk rfl (Yd.lookADOk (z := .agg #[it 0, .nilFunc]) strK UnF.h UnF.h ZvF.h rfl (Nat.le_trans (split_le (gt_mem' (by omega))) (by omega)) rfl hbm hAL)) rfl (g [[1005],[1006],[1007]] ?_))
    refine WH.know 33 (.bool true) rfl rfl ?_
    refine WH.one (i := 9) zk (WHo.so rfl (SO.store 0 rfl SzF.h rfl rfl rfl rfl (zqb rfl) (oneB_spec rfl)) rfl ?_)
    rintro _ _ _ ⟨rfl, rfl, rfl⟩
    refine ⟨(fun _ hI => by first | exact hI.nil | exact hI.nil.shrink hX3.old), ?_⟩
    refine g [[1010]] ?_
    refine WH.know 8 (.bool true) rfl rfl (WH.nil zk (g [[2],[10,8,7,6,5,4,0]] ?_))
    refine WL.part 42 rfl (fun g42 => ?_) (fun g42 => ?_)
    · try simp only [zq] at g42
      refine WL.cl rfl (fun w hI => mustW_ok _ _) (g [[3],[2,7,6,5,4,0]] ?_)
      refine WL.yd (Yd.sliceFrom (k := 1) Tryz.underlying37 Tryz.sizeOf9 rfl rfl (by omega)) rfl (g [[1]] ?_)
      refine WL.so (SO.box rfl rfl) rfl (zw fun b47 hb47 => ?_)
      refine g [[4]] ?_
      refine WC.hpPerm _ (List.perm_append_singleton _ _).symm (g [[0,9,7,5,4,0]] ?_)
      refine WC.drawP [_] (pz [1,3,5,7,8,10,12,14]) zk zk zX (fun _ hI => Inv.left (l1 := [_]) hI) (g [[2]] ?_)
      refine WA.know 49 (.func (.func f) #[] cap.toArray) rfl rfl (g [[2]] ?_)
      refine WA.so rfl  (SO.altersV (own := _) (hpc := [(b47, tkO (fromA a1 c1 1 1) ((Lib.split q [32]).length - 1) (c1 - 1))]) (S1 := [b47]) (fun _ h => h) (fun h => h) (fun _ h => h) (fun _ h => h) (Enters.func CaF.h rfl) (fun w1 _ hI => all_g b47 ((Lib.split q [32]).drop 1) (fromA a1 c1 1 1) (c1 - 1) D3 w1 (hL2.ext hX3) (by rw [List.map_drop, List.length_drop]; exact (hS2.ext hX3).drop (k := 1) (by omega) hc1) (by rw [List.length_drop]; omega) (by rw [List.length_drop]; omega) (fun p hp => Nat.le_trans (split_le (List.mem_of_mem_drop hp)) (by omega)) (by rw [List.length_drop]; exact hI)) ?_) rfl ?_
      · rintro ch D5 hp5 ⟨hnn, rfl⟩ hX5
        refine g [[1]] ?_
        refine WP.panicD (k := 1) [_, _] [_, _] rfl CaF.h rfl (fun w hI => catch69 _ _ _ _ _ (hI.own _ _ (List.mem_of_getElem? (i := 1) rfl))) rfl zV (fun w1 hI => ⟨_, D5, [_], rfl, (hX2.trans hX3 (Nat.le_refl _)).trans hX5 (Nat.le_refl _), (Inv.left (l1 := [_, _, _]) hI).tail.tail, by rw [line_nums (by omega) hN (by omega) hnn]; exact lineK_n 8 (((hd.ext hX2).ext hX3).ext hX5)⟩)
      rintro _ D4 _ ⟨hp4, hX4, ⟨ls, al, nl, cl, hls, rfl, hSl, hnl⟩, rfl⟩
      have hX234 := (hX2.trans hX3 (Nat.le_refl _)).trans hX4 (Nat.le_refl _)
      refine ⟨fun _ hI => (Inv.left (l1 := [_]) hI.left).shrink hX4.old, ?_⟩
      refine WA.left ?_
      refine WA.so rfl  (SO.altersV (own := [_, _]) (hpc := [(xb, womO x m s t l b)]) (S1 := [xb]) (fun _ h => h) (fun h => h) (fun _ h => h) (fun _ h => h) (Enters.val (va := []) (vb := cap) (vals := [pt xb, .slice al nl cl]) hDo.1 rfl rfl) (fun w1 _ hI => hDo.2 d m s t l b xb D4 w1 (fun b o h => hX4.old _ _ h) hw hdo (hW.ext hX234) (hd.ext hX234) (hL.ext hX234) ls al nl cl hSl (by rw [← hSl.len', hnl, List.length_drop]; omega) (by rw [hnl, List.length_drop]; omega) hI) ?_) rfl ?_
      · rintro ch D5 hp5 ⟨hne, rfl, rfl⟩ hX5
        refine g [[1]] ?_
        refine WP.panicD (k := 1) [_, _] [_, _] rfl CaF.h rfl (fun w hI => catch69 _ _ _ _ _ (hI.own _ _ (List.mem_of_getElem? (i := 1) rfl))) rfl zV (fun w1 hI => ⟨_, D5, [_], rfl, hX234.trans hX5 (Nat.le_refl _), hI.tail.tail, lineK_e (line_do (by omega) hN (by omega) hls) hne ((hd.ext hX234).ext hX5)⟩)
      rintro _ D5 _ ⟨hp5, hX5, ⟨he0, rfl, t1, l1, b1, rfl, hd5⟩, rfl⟩
      refine ⟨fun _ hI => ((Inv.left (l1 := [_]) hI).shrink hX5.old).shrink hX4.old, ?_⟩
      refine WA.so rfl (SO.ofYd (Yd.assign rfl)) rfl ?_
      rintro _ _ _ ⟨rfl, rfl, rfl⟩
      refine ⟨fun _ hI => ((Inv.left (l1 := [_]) hI).shrink hX5.old).shrink hX4.old, ?_⟩
      refine WA.so rfl (SO.store 1 rfl SzF.h rfl rfl rfl rfl (zqb rfl) (oneB_spec rfl)) rfl ?_
      rintro _ _ _ ⟨rfl, rfl, rfl⟩
      refine ⟨fun _ hI => ((Inv.left (l1 := [_]) hI).shrink hX5.old).shrink hX4.old, ?_⟩
      refine g [[3]] ?_
      refine WP.endD [_, _] [_, _] rfl rfl CaF.h (fun w hI => idle69 _ _) rfl zV (fun w1 hI => ⟨_, D5, [_], rfl, hX234.trans hX5 (Nat.le_refl _), hI.tail.tail, by rw [line_do (by omega) hN (by omega) hls]; exact ⟨by rw [he0]; rfl, t1, l1, b1, rfl, hd5⟩⟩)
    try simp only [zq] at g42
    refine WL.nf rfl (fun w hI => mustW_no _ _) (g [[1]] ?_)
    refine WP.panicD (k := 1) [_, _] [_, _] rfl CaF.h rfl (fun w hI => catch69 _ _ _ _ _ (hI.own _ _ (List.mem_of_getElem? (i := 1) rfl))) rfl zV (fun w1 hI => ⟨_, D3, [_], rfl, hX2.trans hX3 (Nat.le_refl _), hI.tail.tail, by rw [line_many (by omega) hN (by omega)]; exact lineK_n 8 ((hd.ext hX2).ext hX3)⟩)
  try simp only [zq] at g22
  refine WL.nf rfl (fun w hI => mustW_no _ _) (g [[1]] ?_)
  refine WP.panicD (k := 0) [_, _] [_, _] rfl CaF.h rfl (fun w hI => catch69 _ _ _ _ _ (hI.own _ _ (List.mem_of_getElem? (i := 0) rfl))) rfl zV (fun w1 hI => ⟨_, D, [_], rfl, DExt.refl _ _, hI.tail, by rw [line_long (by omega)]; exact lineK_n 3 hd⟩)
end Go.Proofs.YtejgofaeafphjaaGreatDoor
namespace Go.Proofs.YtejgofaeafphjaaGreatDoor
open Go.W Go.Ti
theorem line_g (x : Wick) (d : Day) (m s t l b : Sl) (xb : Nat) (q : Bs) (D : Imm) (w : World) (hw : wickB x = true) (hdo : DayOk x d) (hW : WickR D x m s) (hd : DayR D d t l b) (hL : LibW D) (hq : q.length ≤ 2 ^ 20) (hI0 : Inv D [(xb, womO x m s t l b)] [xb] w w) : AltersN Tryz.prog 20 [pt xb, st q] w D [xb] (LineK x m s xb (lineD x d q)) := by
  cases hN : wordN (gt (Lib.split q [32]) 0) with
  | none => exact lineN_g x d m s t l b xb q D w hw hdo hW hd hL hq hI0 hN
  | some n => exact lineS_g x d m s t l b xb q D w hw hdo hW hd hL hq hI0 n hN
end Go.Proofs.YtejgofaeafphjaaGreatDoor
namespace Go.Proofs.YtejgofaeafphjaaGreatDoor
open Go.W Go.Ti
theorem strC_len (p : Bs) : (strC p).length = 1 := rfl
theorem reps_tk {x : Wick} {ls : List Bs} {k : Nat} (h : k ≤ ls.length) : (repsD x day0 (ls.take k)).1.length = k := by rw [(reps_len x _ _).1, List.length_take, Nat.min_eq_left h]
theorem reps_y {x : Wick} {ls : List Bs} {k n : Nat} (hk : k < ls.length) (hn : n = (repsD x day0 (ls.take k)).2) (he : (lineD x (linesD x day0 (ls.take k)) (gt ls k)).2.2 ≠ 0) : n + 1 = (repsD x day0 (ls.take (k + 1))).2 := by
  rw [reps_take x day0 hk, if_pos he, hn]
theorem reps_n {x : Wick} {ls : List Bs} {k n : Nat} (hk : k < ls.length) (hn : n = (repsD x day0 (ls.take k)).2) (he : (lineD x (linesD x day0 (ls.take k)) (gt ls k)).2.2 = 0) : n = (repsD x day0 (ls.take (k + 1))).2 := by
  rw [reps_take x day0 hk, if_neg (fun h => h he), hn]; rfl
theorem reps_fl {x : Wick} {ls : List Bs} {k : Nat} (hk : k < ls.length) : (repsD x day0 (ls.take (k + 1))).1.flatMap strC = (repsD x day0 (ls.take k)).1.flatMap strC ++ [st (lineD x (linesD x day0 (ls.take k)) (gt ls k)).2.1] := by
  rw [reps_take x day0 hk, List.flatMap_append]; rfl
def PlayK (x : Wick) (ls : List Bs) (v : Value) (D' : Imm) : Prop := ∃ a n c, v = .tuple #[.slice a n c, it (PlayOut x ls).2.1, it (PlayOut x ls).2.2] ∧ SlL D' 1 ((PlayOut x ls).1.map strC) a n
theorem play_long {x : Wick} {ls : List Bs} (h : 60 < ls.length) : PlayOut x ls = ([], 0, 3) := by unfold PlayOut; rw [if_pos h]
theorem play_bad {x : Wick} {ls : List Bs} (h : ¬ 60 < ls.length) (hv : wickB x = false) : PlayOut x ls = ([], 0, 1) := by unfold PlayOut; rw [if_neg h, if_pos hv]
theorem play_ok {x : Wick} {ls : List Bs} (h : ¬ 60 < ls.length) (hv : wickB x = true) : PlayOut x ls = ((repsD x day0 ls).1, ((repsD x day0 ls).2 : Int), 0) := by unfold PlayOut; rw [if_neg h, if_neg (by simp [hv])]
theorem play1_g (x : Wick) (m s : Sl) (ls : List Bs) (al : Option Addr) (nl cl : Nat) (D : Imm) (w : World) (hW : WickR D x m s) (hS : SlL D 1 (ls.map strC) al nl) (hlen : ∀ q ∈ ls, q.length ≤ 2 ^ 20) (hL : LibW D) (hH : Holds D w) (hk : 60 < ls.length) : Makes Tryz.prog 30 [wickV x m s, .slice al nl cl] w D (PlayK x ls) := by
  unfold Makes
  obtain rfl := hS.len'
  refine en Tryz.func30 rfl Tryz.ntmps30 (Inv.start hH) (g [[1],[1,0,1]] ?_)
  refine WL.so (SO.box rfl rfl) rfl (zw fun b2 hb2 => ?_)
  refine g [[7],[4,6,5,4,2,1]] ?_
  refine WL.know 14 (.bool true) rfl (congrArg Value.bool (decide_eq_true (by omega))) (g [[4],[8,6,5,4,2,1]] ?_)
  refine WP.ret3 rfl rfl rfl (RV.tmp rfl) (RV.tmp rfl) (RV.tmp rfl) (fun w1 hI => ⟨_, D, rfl, hI.keep, hI.imm, DExt.refl _ _, none, 0, 0, by rw [play_long hk], by rw [play_long hk]; exact SlL.nil _ _⟩)
theorem play2_g (x : Wick) (m s : Sl) (ls : List Bs) (al : Option Addr) (nl cl : Nat) (D : Imm) (w : World) (hW : WickR D x m s) (hS : SlL D 1 (ls.map strC) al nl) (hlen : ∀ q ∈ ls, q.length ≤ 2 ^ 20) (hL : LibW D) (hH : Holds D w) (hk : ¬ 60 < ls.length) (hv : wickB x = false) : Makes Tryz.prog 30 [wickV x m s, .slice al nl cl] w D (PlayK x ls) := by
  unfold Makes
  obtain rfl := hS.len'
  refine en Tryz.func30 rfl Tryz.ntmps30 (Inv.start hH) (g [[1],[1,0,1]] ?_)
  refine WL.so (SO.box rfl rfl) rfl (zw fun b2 hb2 => ?_)
  refine g [[7],[4,6,5,4,2,1]] ?_
  refine WL.know 14 (.bool false) rfl (congrArg Value.bool (decide_eq_false (by omega))) (g [[6],[2,6,5,4,2,1]] ?_)
  refine WL.so (SO.news (Enters.func CaF.h rfl) (fun w1 hI => New_g x m s D _ hW hI.imm hL)) rfl ?_
  rintro _ D3 _ ⟨hp3, hX3, (⟨hv1, xb, m', s', rfl, rfl, hWr⟩ | ⟨hv1, rfl⟩), rfl⟩
  · rw [hv] at hv1; cases hv1
  refine g [[9],[3,6,7,5,4,1]] ?_
  refine WL.know 21 (.bool true) rfl rfl (g [[4],[9,6,7,5,4,1]] ?_)
  refine WP.ret3 rfl rfl rfl (RV.tmp rfl) (RV.tmp rfl) (RV.tmp rfl) (fun w1 hI => ⟨_, D3, rfl, hI.keep, hI.imm, hX3, none, 0, 0, by rw [play_bad hk hv]; rfl, by rw [play_bad hk hv]; exact SlL.nil _ _⟩)
theorem play3_g (x : Wick) (m s : Sl) (ls : List Bs) (al : Option Addr) (nl cl : Nat) (D : Imm) (w : World) (hW : WickR D x m s) (hS : SlL D 1 (ls.map strC) al nl) (hlen : ∀ q ∈ ls, q.length ≤ 2 ^ 20) (hL : LibW D) (hH : Holds D w) (hk : ¬ 60 < ls.length) (hv : wickB x = true) : Makes Tryz.prog 30 [wickV x m s, .slice al nl cl] w D (PlayK x ls) := by
  unfold Makes
  obtain rfl := hS.len'
  refine en Tryz.func30 rfl Tryz.ntmps30 (Inv.start hH) (g [[1],[1,0,1]] ?_)
  refine WL.so (SO.box rfl rfl) rfl (zw fun b2 hb2 => ?_)
  refine g [[7],[4,6,5,4,2,1]] ?_
  refine WL.know 14 (.bool false) rfl (congrArg Value.bool (decide_eq_false (by omega))) (g [[6],[2,6,5,4,2,1]] ?_)
  refine WL.so (SO.news (Enters.func CaF.h rfl) (fun w1 hI => New_g x m s D _ hW hI.imm hL)) rfl ?_
  rintro _ D3 _ ⟨hp3, hX3, (⟨hv1, xb, m', s', rfl, rfl, hWr⟩ | ⟨hv1, rfl⟩), rfl⟩
  rotate_left
  · rw [hv] at hv1; cases hv1
  refine g [[9]] ?_
  refine WC.erase 0 (g [[3,6,7,5,4,1]] ?_)
  refine WL.know 21 (.bool false) rfl rfl (g [[7],[7,6,7,5,4,1]] ?_)
  refine WC.loop (fun y : Nat × Imm × Option Ow × Sl × Sl × Sl × Nat => [(4, owV y.2.2.1 y.1), (5, nt y.2.2.2.2.2.2), (7, pt xb), (23, .slice al ls.length cl), (24, nt ls.length), (25, nt y.1)]) (fun y => (xb, womO x m' s' y.2.2.2.1 y.2.2.2.2.1 y.2.2.2.2.2.1) :: owH y.2.2.1 9 ((repsD x day0 (ls.take y.1)).1.flatMap strC) []) (fun y => y.2.1) (fun y => y.1 ≤ ls.length ∧ DExt w D3 y.2.1 ∧ owP w y.2.2.1 y.1 1 ∧ DayR y.2.1 (linesD x day0 (ls.take y.1)) y.2.2.2.1 y.2.2.2.2.1 y.2.2.2.2.2.1 ∧ y.2.2.2.2.2.2 = (repsD x day0 (ls.take y.1)).2) (fun y => ls.length - y.1) ⟨0, D3, none, nilS, nilS, nilS, 0⟩ ⟨by omega, DExt.refl _ _, rfl, DayR.nil _, rfl⟩ (fun a w h => at_fr h ⟨rfl, rfl, rfl, rfl, rfl, rfl, trivial⟩) ?_
  rintro ⟨k, D1, o, t, l, b, n⟩ ⟨hk7, hX1, ho, hd1, hn⟩
  dsimp only at hk7 hX1 ho hd1 hn
  have hnb : n ≤ 60 := by rw [hn]; have := (reps_len x (ls.take k) day0).2; rw [List.length_take] at this; omega
  refine g [[1],[5,4,5,7,23,24,25]] ?_
  refine WC.cond rfl (fun c26 => ?_) (fun c26 => ?_)
  · try simp only [zq] at c26
    have hkl : k < ls.length := by omega
    refine g [[5],[1,4,5,7,23,24,25]] ?_
    refine WL.yd (Yd.ix rfl rfl (hS.addr k (by omega))) rfl (WL.yd (Yd.l1 rfl ((((hS.ext hX3).ext hX1).at k (by omega)).rd 0 rfl)) rfl (g [[4],[3,9,4,5,7,23,24,25]] ?_))
    refine WL.so (SO.altersN (own := owH o 9 ((repsD x day0 (ls.take k)).1.flatMap strC) []) (hpc := [(xb, womO x m' s' t l b)]) (S1 := [xb]) (fun e he => (List.perm_append_singleton _ _).mem_iff.1 he) (fun hn => ((List.perm_append_singleton _ _).map Prod.fst).nodup_iff.2 hn) (fun _ h => h) (fun _ h => h) (Enters.func CaF.h rfl) (fun w1 hI => line_g x (linesD x day0 (ls.take k)) m' s' t l b xb (gt ls k) D1 w1 hv (lines_ok _ (day0_ok hv)) (hWr.ext hX1) hd1 ((hL.ext hX3).ext hX1) (hlen _ (gt_mem' hkl)) hI)) rfl ?_
    rintro _ D4 _ ⟨hp4, hX4, ⟨rfl, t1, l1, b1, rfl, hd4⟩, rfl⟩
    refine WL.hpPerm ((xb, womO x m' s' t1 l1 b1) :: owH o 9 ((repsD x day0 (ls.take k)).1.flatMap strC) []) (List.perm_append_singleton _ _) (g [[9],[5,11,10,4,5,7,23,24,25]] ?_)
    refine WC.cond rfl (fun c36 => ?_) (fun c36 => ?_)
    · try simp only [zq] at c36
      refine g [[2,10,4,5,7,23,24,25]] ?_
      refine WL.know 37 (nt n) rfl rfl (g [[4],[3,5,10,4,7,23,24,25]] ?_)
      refine WL.so (SO.buildSlice1 UnF.h SzF.h ZvF.h rfl rfl rfl (vs := [_]) rfl rfl rfl) rfl ?_
      rintro _ _ _ ⟨b41, hb41, rfl, rfl, rfl⟩
      refine WL.so (SO.appendOwW (W := w) (Nat.le_refl _) (o := o) (len := k) (n := 1) (xs := ((repsD x day0 (ls.take k)).1.flatMap strC)) (size := 1) [_] [_] [] rfl rfl Tryz.underlying37 Tryz.sizeOf9 Tryz.typeInfo9 Tryz.zeroValue9 rfl rfl rfl rfl ⟨rfl, .inr ⟨_, _, _, rfl, RdN.own (k := 0) (n := 1) rfl rfl⟩⟩ (oneB_spec rfl) ho (by rw [flat_len strC_len, reps_tk (by omega), Nat.mul_one]) (by omega) (by show (2 * (k + 1) + 1000) * 16 ≤ 2 ^ 48; omega) (by omega)) rfl ?_
      rintro _ _ _ ⟨u1, hu1, rfl, rfl, rfl⟩
      refine g [[4],[4,4,5,7,23,24,25]] ?_
      exact WP.again (⟨k + 1, D4, some u1, t1, l1, b1, n + 1⟩ : Nat × Imm × Option Ow × Sl × Sl × Sl × Nat) ⟨by simp only; omega, hX1.trans hX4 (Nat.le_refl _), hu1, by dsimp only; rw [lines_take x day0 hkl]; exact hd4, reps_y hkl hn c36⟩ (by simp only; omega) (fun aa ww h => at_dropS 0 h ⟨rfl, rfl, rfl, rfl, rfl, rfl, trivial⟩ (by dsimp only; rw [reps_fl hkl]; exact List.Perm.refl _) (fun _ _ h => h))
    try simp only [zq] at c36
    refine g [[2],[3,10,4,5,7,23,24,25]] ?_
    refine WL.so (SO.buildSlice1 UnF.h SzF.h ZvF.h rfl rfl rfl (vs := [_]) rfl rfl rfl) rfl ?_
    rintro _ _ _ ⟨b41, hb41, rfl, rfl, rfl⟩
    refine WL.so (SO.appendOwW (W := w) (Nat.le_refl _) (o := o) (len := k) (n := 1) (xs := ((repsD x day0 (ls.take k)).1.flatMap strC)) (size := 1) [_] [_] [] rfl rfl Tryz.underlying37 Tryz.sizeOf9 Tryz.typeInfo9 Tryz.zeroValue9 rfl rfl rfl rfl ⟨rfl, .inr ⟨_, _, _, rfl, RdN.own (k := 0) (n := 1) rfl rfl⟩⟩ (oneB_spec rfl) ho (by rw [flat_len strC_len, reps_tk (by omega), Nat.mul_one]) (by omega) (by show (2 * (k + 1) + 1000) * 16 ≤ 2 ^ 48; omega) (by omega)) rfl ?_
    rintro _ _ _ ⟨u1, hu1, rfl, rfl, rfl⟩
    refine g [[4],[4,4,5,7,23,24,25]] ?_
    exact WP.again (⟨k + 1, D4, some u1, t1, l1, b1, n⟩ : Nat × Imm × Option Ow × Sl × Sl × Sl × Nat) ⟨by simp only; omega, hX1.trans hX4 (Nat.le_refl _), hu1, by dsimp only; rw [lines_take x day0 hkl]; exact hd4, reps_n hkl hn (Decidable.not_not.1 c36)⟩ (by simp only; omega) (fun aa ww h => at_dropS 0 h ⟨rfl, rfl, rfl, rfl, rfl, rfl, trivial⟩ (by dsimp only; rw [reps_fl hkl]; exact List.Perm.refl _) (fun _ _ h => h))
  try simp only [zq] at c26
  obtain rfl : k = ls.length := by omega
  refine g [[6],[3,4,5]] ?_
  refine WL.know 44 (.slice (owAt o) ls.length (owCp o ls.length)) rfl (owV_owL (owL_of ho)) ?_
  refine WL.freezeOw (f := strC) (m := 1) strC_len [_] [] o 9 (repsD x day0 (ls.take ls.length)).1 rfl (by rw [reps_tk (Nat.le_refl _)]; exact ho) rfl (fun D5 hX5 hS5 => ?_)
  rw [reps_tk (Nat.le_refl _)] at hS5
  refine g [[6]] ?_
  refine WP.ret3 rfl rfl rfl (RV.tmp rfl) (RV.tmp rfl) (RV.tmp rfl) (fun w1 hI => ⟨_, D5, rfl, hI.keep, hI.imm, (hX3.trans hX1 (Nat.le_refl _)).trans hX5 (Nat.le_refl _), _, _, _, by rw [play_ok hk hv]; dsimp only; rw [hn, List.take_length], by rw [play_ok hk hv]; have := hS5; rw [List.take_length] at this; exact this⟩)
theorem play_g (x : Wick) (m s : Sl) (ls : List Bs) (al : Option Addr) (nl cl : Nat) (D : Imm) (w : World) (hW : WickR D x m s) (hS : SlL D 1 (ls.map strC) al nl) (hlen : ∀ q ∈ ls, q.length ≤ 2 ^ 20) (hL : LibW D) (hH : Holds D w) : Makes Tryz.prog 30 [wickV x m s, .slice al nl cl] w D (PlayK x ls) := by
  by_cases hk : 60 < ls.length
  · exact play1_g x m s ls al nl cl D w hW hS hlen hL hH hk
  cases hv : wickB x with
  | false => exact play2_g x m s ls al nl cl D w hW hS hlen hL hH hk hv
  | true => exact play3_g x m s ls al nl cl D w hW hS hlen hL hH hk hv
end Go.Proofs.YtejgofaeafphjaaGreatDoor
namespace Go.Proofs.YtejgofaeafphjaaGreatDoor
open Go.W Go.Ti
theorem tk_eq {α : Type} {a b : List α} (h : a.length = b.length) (h2 : a.take a.length = b.take a.length) : a = b := by
  rw [List.take_length, List.take_of_length_le (by omega)] at h2; exact h2
theorem tk_succ {α : Type} [Inhabited α] {a b : List α} {k : Nat} (h1 : k < a.length) (h2 : k < b.length) (h : a.take k = b.take k) (hg : gt a k = gt b k) : a.take (k + 1) = b.take (k + 1) := by
  rw [take_gt h1, take_gt h2, h, hg]
theorem Strings_g (A B : List Bs) (a1 a2 : Option Addr) (n1 n2 c1 c2 : Nat) (D : Imm) (h1 : SlL D 1 (A.map strC) a1 n1) (h2 : SlL D 1 (B.map strC) a2 n2) (hA : n1 ≤ 1000) (w : World) (hH : Holds D w) : Gives Tryz.prog 32 [.slice a1 n1 c1, .slice a2 n2 c2] w (.bool (decide (A = B))) := by
  unfold Gives
  obtain rfl := h1.len'
  obtain rfl := h2.len'
  refine en Tryz.func32 rfl Tryz.ntmps32 (Inv.start hH) (g [[1],[6,0,1],[8,4,0,1]] ?_)
  refine WC.cond rfl (fun c10 => ?_) (fun c10 => ?_)
  · try simp only [zq] at c10
    refine g [[1],[6,4,0,1]] ?_
    refine WP.ret1 rfl rfl rfl (RV.tmp rfl) (fun w hI => ⟨ret_bool (decide_eq_false (fun e => by subst e; omega)).symm, hI.keep⟩)
  try simp only [zq] at c10
  refine g [[4],[5,4,0,1]] ?_
  refine WC.loopT [] (fun k : Nat => [(0, .slice a1 A.length c1), (1, .slice a2 B.length c2), (5, nt k)]) (fun _ => []) (fun k => k ≤ A.length ∧ A.take k = B.take k) (fun k => A.length - k) 0 ⟨Nat.zero_le _, rfl⟩ rfl ⟨rfl, rfl, rfl, trivial⟩ ?_
  rintro k ⟨hk, hF⟩
  refine g [[2],[7,0,1,5]] ?_
  refine WC.cond rfl (fun c14 => ?_) (fun c14 => ?_)
  · try simp only [zq] at c14
    have hkl : k < A.length := by omega
    refine g [[5],[0,0,1,5],[3008],[2]] ?_
    refine WQ.q rfl (Yd.qt (Yd.ix rfl rfl (h1.addr k (by omega)))) rfl (WQ.q rfl (Yd.qt (Yd.l1 rfl ((h1.at k (by omega)).rd 0 rfl))) rfl (g [[2]] ?_))
    refine WQ.q rfl (Yd.qt (Yd.ix rfl rfl (h2.addr k (by omega)))) rfl (WQ.q rfl (Yd.qt (Yd.l1 rfl ((h2.at k (by omega)).rd 0 rfl))) rfl (g [[1]] ?_))
    refine WL.yd (Yd.neS' rfl rfl) rfl (g [[2]] ?_)
    refine WC.cond rfl (fun c25 => ?_) (fun c25 => ?_)
    · try simp only [zq] at c25
      refine g [[1],[10,0,1,5]] ?_
      refine WP.ret1 rfl rfl rfl (RV.tmp rfl) (fun w hI => ⟨ret_bool (decide_eq_false (fun e => by subst e; simp at c25)).symm, hI.keep⟩)
    try simp only [zq] at c25
    refine g [[3],[5,0,1,5]] ?_
    exact WP.againT (k + 1) ⟨hkl, tk_succ hkl (by omega) hF (by simpa using c25)⟩ (by omega) [] _ rfl rfl ⟨rfl, rfl, rfl, trivial⟩
  try simp only [zq] at c14
  obtain rfl : k = A.length := by omega
  refine g [[6]] ?_
  refine WC.ofFr [] trivial (g [[5]] ?_)
  refine WP.ret1 rfl rfl rfl (RV.tmp rfl) (fun w hI => ⟨ret_bool (decide_eq_true (tk_eq (by omega) hF)).symm, hI.keep⟩)
end Go.Proofs.YtejgofaeafphjaaGreatDoor
namespace Go.Proofs.YtejgofaeafphjaaGreatDoor
open Go.W Go.Ti
end Go.Proofs.YtejgofaeafphjaaGreatDoor
