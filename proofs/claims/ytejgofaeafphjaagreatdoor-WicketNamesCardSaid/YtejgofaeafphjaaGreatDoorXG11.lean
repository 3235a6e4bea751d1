import Derived.Test.YtejgofaeafphjaaGreatDoorXG10
import Derived.Test.YtejgofaeafphjaaGreatDoorXG3
import Derived.Test.YtejgofaeafphjaaGreatDoorXG7
set_option linter.unusedSimpArgs false
set_option linter.unusedVariables false
set_option linter.all false
set_option maxRecDepth 100000
set_option maxHeartbeats 4000000
attribute [local irreducible] Go.W.WL Go.W.WLF Go.W.WC Go.W.WCF Go.W.WP Go.W.WA Go.W.WQ Go.W.WH Go.W.WHo Go.W.WCn Go.W.Yd Go.W.Qt Go.W.SO Go.Code.wp Go.Code.wpIn
namespace Go.Proofs.YtejgofaeafphjaaGreatDoor
open Go.W Go.Ti
def spC (s : Sp) : List Value := [it s.lo, it s.hi]
theorem spC_len : ∀ s, (spC s).length = 2 := fun _ => rfl
def zMs : Ms := (false, 0, 0)
theorem zero_rows : ∀ n, zeroL [.nilFunc, .bool false, .int .i64 0, .int .i64 0] (n * 4) = (rows (fun _ => ((.nilFunc, zMs) : Row)) n).flatMap rowC ++ [] := by
  intro n
  rw [List.append_nil]
  induction n with
  | zero => rfl
  | succ n ih =>
    rw [show (n + 1) * 4 = n * 4 + 1 + 1 + 1 + 1 by omega]
    simp only [zeroL, List.length_cons, List.length_nil, Nat.reduceAdd]
    rw [ih, show (n * 4 + 1 + 1 + 1) % 4 = 3 by omega, show (n * 4 + 1 + 1) % 4 = 2 by omega, show (n * 4 + 1) % 4 = 1 by omega, show n * 4 % 4 = 0 by omega]
    simp [rows, List.range_succ, rowC, zMs]
def iniF (fs : List Clo) (k : Nat) (u : Nat) : Row := (if u < k then cloV (gt fs u) else .nilFunc, zMs)
def msF (fs : List Clo) (l : List Tru) (u : Nat) : Row := (cloV (gt fs u), foldS (gt fs u).g l)
def midF (fs : List Clo) (L : List Tru) (k j : Nat) (u : Nat) : Row := (cloV (gt fs u), foldS (gt fs u).g (L.take (if u < j then k + 1 else k)))
def outX (fs : List Clo) (L : List Tru) (k : Nat) : List Value := ((fs.take k).map fun c => spanS c.g L).flatMap spC
theorem outX_len {fs : List Clo} {L : List Tru} {k : Nat} (hk : k ≤ fs.length) : (outX fs L k).length = k * 2 := by
  unfold outX
  rw [flat_len spC_len, List.length_map, List.length_take, Nat.min_eq_left hk]
theorem outX_succ {fs : List Clo} {L : List Tru} {k : Nat} (hk : k < fs.length) : outX fs L (k + 1) = outX fs L k ++ spC (spanS (gt fs k).g L) := by
  have hg : gt fs k = fs[k] := by simp [gt, List.getD, hk]
  unfold outX
  rw [List.take_succ_eq_append_getElem hk, List.map_append, List.flatMap_append, hg]
  simp
theorem ini_step (fs : List Clo) (k : Nat) : (fun u => if u = k then ((cloV (gt fs k), zMs) : Row) else iniF fs k u) = iniF fs (k + 1) := by
  funext u
  unfold iniF
  by_cases h : u = k
  · subst h; rw [if_pos rfl, if_pos (by omega)]
  rw [if_neg h]
  by_cases h2 : u < k
  · rw [if_pos h2, if_pos (by omega)]
  rw [if_neg h2, if_neg (by omega)]
theorem ini_end (fs : List Clo) : rowsO (iniF fs fs.length) fs.length = rowsO (msF fs []) fs.length := rowsO_congr fun i hi => by
  unfold iniF msF; rw [if_pos hi]; rfl
theorem mid_start (fs : List Clo) (L : List Tru) (k : Nat) : midF fs L k 0 = msF fs (L.take k) := by
  funext u
  unfold midF msF; rw [if_neg (by omega)]
theorem mid_step (fs : List Clo) {L : List Tru} {k : Nat} (hk : k < L.length) (j : Nat) : (fun u => if u = j then ((cloV (gt fs j), seeS (foldS (gt fs j).g (L.take k)) ((gt fs j).g (gt L k))) : Row) else midF fs L k j u) = midF fs L k (j + 1) := by
  funext u
  unfold midF
  by_cases h : u = j
  · subst h; rw [if_pos rfl, if_pos (by omega), foldS_take _ hk]
  rw [if_neg h]
  by_cases h2 : u < j
  · rw [if_pos h2, if_pos (by omega)]
  rw [if_neg h2, if_neg (by omega)]
theorem mid_end (fs : List Clo) (L : List Tru) (k : Nat) : rowsO (midF fs L k fs.length) fs.length = rowsO (msF fs (L.take (k + 1))) fs.length := rowsO_congr fun i hi => by
  unfold midF msF; rw [if_pos hi]
theorem spans_ok (T : Tks) (a1 : Option Addr) (n1 c1 : Nat) (q : Nat) (D : Imm) (w : World) (hO : OffAt D q T (.slice a1 n1 c1)) (hR : TksR D T a1 n1) (hH : Holds D w) (hv : tksB T = true) (fs : List Clo) (af : Option Addr) (nf cf : Nat) (hS : SlL D 1 (fs.map fun c => [cloV c]) af nf) (hfs : nf ≤ 100) (hC : ∀ i, i < fs.length → CloOK D (allT T) (gt fs i)) (hne : allT T ≠ []) : Makes Tryz.prog 242 [pt q, .slice af nf cf] w D (fun v D' => ∃ a c, v = .slice a fs.length c ∧ SlL D' 2 ((fs.map fun c => spanS c.g (allT T)).map spC) a fs.length) := by
  unfold Makes
  obtain rfl := hR.tick.len'
  have hl1 := hR.len
  obtain rfl := hS.len'
  refine enM Tryz.func242 rfl Tryz.ntmps242 (Inv.start hH) (g [[1],[5,0,1],[3,4,0,1]] ?_)
  refine WL.so (SO.makeSlice Tryz.underlying370 Tryz.sizeOf372 Tryz.typeInfo372 Tryz.zeroValue372 rfl rfl rfl (by omega) (by show 32 * ((fs.length : Nat) : Int) ≤ 2 ^ 48; omega)) rfl ?_
  rintro _ _ _ ⟨b16, hb16, rfl, rfl, rfl⟩
  skip
  refine WL.so (SO.alloc ZvF.h rfl) rfl (zw fun b5 hb5 => ?_)
  refine g [[5]] ?_
  refine WC.hpEq (hp' := [(b5, .cells (List.toArray [.slice (some ⟨b16, 0, none⟩) fs.length fs.length]) 370 (0, 0)), (b16, rowsO (iniF fs 0) fs.length)]) (by rw [show iniF fs 0 = fun _ => ((.nilFunc, zMs) : Row) from funext fun u => by unfold iniF; rw [if_neg (by omega)]]; unfold rowsO; rw [← zero_rows]; rfl) (g [[7,5,4,0,1]] ?_)
  refine WC.loopT [_] (fun k : Nat => [(0, pt q), (4, .slice none 0 0), (5, pt b5), (17, .slice af fs.length cf), (18, nt fs.length), (19, nt k)]) (fun k => [(b16, rowsO (iniF fs k) fs.length)]) (fun k => k ≤ fs.length) (fun k => fs.length - k) 0 (by omega) rfl ⟨rfl, rfl, rfl, rfl, rfl, rfl, trivial⟩ ?_
  intro k hk
  refine g [[1],[5,0,4,5,17,18,19]] ?_
  refine WC.cond rfl (fun c20 => ?_) (fun c20 => ?_)
  · try simp only [zq] at c20
    have hkn : k < fs.length := by omega
    refine g [[5],[2,0,4,5,17,18,19]] ?_
    refine WL.yd (Yd.ix rfl rfl (hS.addr k (by omega))) rfl (WL.yd (Yd.l1 rfl ((hS.at k (by omega)).rd 0 rfl)) rfl (g [[4],[4,7,6,0,4,5,17,18,19]] ?_))
    refine WL.yd (Yd.ix rfl rfl (rfl)) rfl (g [[1]] ?_)
    refine WL.so (SO.storeR (k := 1) (i := k) (j := 0) (cloV (gt fs k), zMs) rfl SzF.h rfl rfl rfl rfl hkn rfl (by decide) (oneB_spec rfl) rfl) rfl ?_
    rintro _ _ _ ⟨rfl, rfl, rfl⟩
    refine g [[3],[4,0,4,5,17,18,19]] ?_
    exact WP.againT (k + 1) (by omega) (by omega) [] _ rfl (by rw [← ini_step]; rfl) ⟨rfl, rfl, rfl, rfl, rfl, rfl, trivial⟩
  try simp only [zq] at c20
  refine g [[6]] ?_
  obtain rfl : k = fs.length := by omega
  rw [ini_end]
  refine g [[1,0,4,5]] ?_
  refine WL.so (SO.alloc ZvF.h rfl) rfl (zw fun b8 hb8 => ?_)
  refine g [[5],[2,8,0,4,5]] ?_
  refine WL.so (SO.makes (Enters.func Tryz.call90 rfl) (fun w hI => truths_g q D _ hI.imm)) rfl ?_
  rintro _ D1 _ ⟨hX1, ⟨bt, rfl, hbt⟩, rfl⟩
  replace hO := hO.ext hX1
  replace hR := hR.ext hX1
  replace hC : ∀ i, i < fs.length → CloOK D1 (allT T) (gt fs i) := fun i hi => (hC i hi).ext hX1
  refine g [[3],[0,4,5,8,31]] ?_
  refine WC.rangeIterN (N := (allT T).length) (arg := fun k => truV (gt (allT T) k)) (fun w1 _ hD1 => truths1_iter T a1 _ c1 q bt D1 w1 hO hR hbt hv hD1) rfl Tryz.call177 rfl (fun k _ h => h = [(b8, .cells (List.toArray [.bool (decide (0 < k))]) 4 (0, 0)), (b5, .cells (List.toArray [.slice (some ⟨b16, 0, none⟩) fs.length fs.length]) 370 (0, 0)), (b16, rowsO (msF fs ((allT T).take k)) fs.length)]) (fun _ _ _ => False) (fun _ _ _ _ _ h => h) rfl ?_ ?_ ?_
  · rintro rec1 l1 Dn0 k D5 _ w1 hrec hk rfl hX5 hsz
    unfold RoundGN
    replace hO := hO.ext hX5
    replace hR := hR.ext hX5
    replace hC : ∀ i, i < fs.length → CloOK D5 (allT T) (gt fs i) := fun i hi => (hC i hi).ext hX5
    refine g [[1,32,4,5,8]] ?_
    refine WLF.so (zn rfl) (SO.alloc ZvF.h rfl) rfl (zw fun b9 hb9 => ?_)
    refine g [[2]] ?_
    refine WP.iterBegin 1 rfl hrec (g [[2],[5,9,4,5,8],[7,9,4,5]] ?_)
    refine WCF.loopT [_, _, _, _, _] (fun j : Nat => [(5, pt b5), (9, pt b9), (34, nt fs.length), (35, nt j)]) (fun j => [(b16, rowsO (midF fs (allT T) k j) fs.length)]) (fun j => j ≤ fs.length) (fun j => fs.length - j) 0 (by omega) (by rw [mid_start]; rfl) ⟨rfl, rfl, rfl, rfl, trivial⟩ ?_
    intro j hj
    refine g [[1],[5,5,9,34,35]] ?_
    refine WCF.cond rfl (fun c36 => ?_) (fun c36 => ?_)
    · try simp only [zq] at c36
      have hjn : j < fs.length := by omega
      refine g [[5],[5,5,9,34,35],[0,10,5,9,34,35]] ?_
      refine WCF.tail 4 [0, 1, 2, 3] rfl zk zk (noLets.blk (noLets.then (noLets.then (noLets.blk (noLets.blk noLets.round))))) (g [[2]] ?_)
      refine WQ.q rfl (Yd.qt (Yd.ix rfl rfl (rfl))) rfl (g [[1]] ?_)
      refine WQ.tailR ?_
      refine WLF.so (zn rfl) (SO.alters (own := [_, _, _, _, _]) (hpc := [_]) (S1 := [b16]) (fun _ h => h) (fun h => h) (fun _ h => h) (fun _ h => h) (Enters.func CaF.h rfl) (fun w1 hI => see_g (midF fs (allT T) k j) fs.length j hjn (gt fs j) (foldS (gt fs j).g ((allT T).take k)) (by unfold midF; rw [if_neg (by omega)]) (allT T) (gt (allT T) k) (gt_mem hk) D5 w1 (hC j hjn) b16 hI)) rfl ?_
      rintro _ _ _ ⟨_, _, ⟨rfl, rfl, rfl⟩, rfl⟩
      refine g [[3],[4,5,9,34,35]] ?_
      exact WP.againT (j + 1) (by omega) (by omega) [] _ rfl (by rw [← mid_step fs hk]; rfl) ⟨rfl, rfl, rfl, rfl, trivial⟩
    try simp only [zq] at c36
    obtain rfl : j = fs.length := by omega
    refine g [[5]] ?_
    refine WP.iterOnN hrec (h1 := [_, _, _]) (fun _ h => List.mem_cons_of_mem _ h) (fun h => (List.nodup_cons.1 h).2) (DExt.refl _ _) ?_
    rw [← mid_end, decide_eq_true (show 0 < k + 1 by omega)]
    rfl
  · rintro Dn1 D6 _ hDn1 hX6 rfl
    rw [List.take_length]
    have hpos : 0 < (allT T).length := List.length_pos_iff.2 hne
    refine g [[3],[2,4,5,8]] ?_
    refine WL.know 44 (.bool true) rfl (congrArg Value.bool (decide_eq_true hpos)) (WL.cl rfl (fun w hI => mustK_ok _ _) (g [[3],[6,4,5],[7,11,4,5]] ?_))
    refine WC.loopT [_, _, _, _] (fun y : Nat × Option Ow => [(4, .slice none 0 0), (11, owV y.2 y.1), (46, .slice (some ⟨b16, 0, none⟩) fs.length fs.length), (47, nt fs.length), (48, nt y.1)]) (fun y => owH y.2 39 (outX fs (allT T) y.1) []) (fun y => y.1 ≤ fs.length ∧ owP w y.2 y.1 2) (fun y => fs.length - y.1) (0, none) ⟨by omega, rfl⟩ rfl ⟨rfl, rfl, rfl, rfl, rfl, trivial⟩ ?_
    rintro ⟨k, o⟩ ⟨hk, ho⟩
    dsimp only at hk ho
    refine g [[1],[5,4,11,46,47,48]] ?_
    refine WC.cond rfl (fun c49 => ?_) (fun c49 => ?_)
    · try simp only [zq] at c49
      have hkn : k < fs.length := by omega
      refine g [[5],[1,4,11,46,47,48]] ?_
      refine WL.yd (Yd.ix rfl rfl (rfl)) rfl (WL.yd (Yd.lV [_, _, _, _] rfl (rdnR 3 rfl hkn rfl)) rfl ?_)
      refine WL.so (SO.alloc ZvF.h rfl) rfl (zw fun b13 hb13 => ?_)
      refine g [[3],[4,13,4,11,46,47,48]] ?_
      refine WL.so (SO.buildSlice UnF.h SzF.h ZvF.h rfl rfl rfl rfl (cs := [_, _]) rfl) rfl ?_
      rintro _ _ _ ⟨b55, hb55, rfl, rfl, rfl⟩
      refine WL.so (SO.appendOw (o := o) (len := k) (n := 1) (xs := (outX fs (allT T) k)) (size := 2) [_] [_, _, _, _, _] [] rfl rfl Tryz.underlying28 Tryz.sizeOf39 Tryz.typeInfo39 Tryz.zeroValue39 rfl rfl rfl rfl ⟨rfl, .inr ⟨_, _, _, rfl, RdN.own (k := 0) (n := 2) rfl rfl⟩⟩ (oneB_spec rfl) ho (outX_len hk) (by omega) (by show (2 * (_ + _) + 1000) * 16 ≤ 2 ^ 48; omega) (by omega)) rfl ?_
      rintro _ _ _ ⟨u1, hu1, rfl, rfl, rfl⟩
      refine g [[4],[4,11,4,46,47,48]] ?_
      exact WP.againT (⟨k + 1, some u1⟩ : Nat × Option Ow) ⟨by simp only; omega, hu1⟩ (by simp only; omega) [_] _ rfl (by show _ = _ ++ owH (some u1) _ (outX fs (allT T) (k + 1)) []; rw [outX_succ hkn]; rfl) ⟨rfl, rfl, rfl, rfl, rfl, trivial⟩
    try simp only [zq] at c49
    refine g [[6],[1,4,11]] ?_
    obtain rfl : k = fs.length := by omega
    refine WL.freezeOw (f := spC) (m := 2) spC_len [_, _, _, _] [] o 39 (fs.map fun c => spanS c.g (allT T)) rfl (by rw [List.length_map]; exact ho) (by unfold outX; rw [List.take_length]) (fun D2 hX2 hS2 => ?_)
    rw [List.length_map] at hS2
    refine g [[5]] ?_
    refine WP.retMs [Dn1] [_, _, _] [_] [_] rfl rfl (fun _ h => h) (fun h => h) rfl zV (fun w1 hI => ⟨_, D2, rfl, hI.keep, hI.imm, (hX1.trans hX6 (Nat.le_refl _)).trans hX2 (Nat.le_refl _), owAt o, _, owV_owL (owL_of ho), hS2⟩)
  rintro Dn1 c D6 _ hDn1 hX6 hff
  exact hff.elim
theorem spans_no (T : Tks) (a1 : Option Addr) (n1 c1 : Nat) (q : Nat) (D : Imm) (w : World) (hO : OffAt D q T (.slice a1 n1 c1)) (hR : TksR D T a1 n1) (hH : Holds D w) (hv : tksB T = true) (fs : List Clo) (af : Option Addr) (nf cf : Nat) (hS : SlL D 1 (fs.map fun c => [cloV c]) af nf) (hfs : nf ≤ 100) (hC : ∀ i, i < fs.length → CloOK D (allT T) (gt fs i)) (hne : allT T = []) : Fails Tryz.prog 242 [pt q, .slice af nf cf] w (stopK 10) := by
  unfold Fails
  obtain rfl := hR.tick.len'
  have hl1 := hR.len
  obtain rfl := hS.len'
  refine enM Tryz.func242 rfl Tryz.ntmps242 (Inv.start hH) (g [[1],[5,0,1],[3,4,0,1]] ?_)
  refine WL.so (SO.makeSlice Tryz.underlying370 Tryz.sizeOf372 Tryz.typeInfo372 Tryz.zeroValue372 rfl rfl rfl (by omega) (by show 32 * ((fs.length : Nat) : Int) ≤ 2 ^ 48; omega)) rfl ?_
  rintro _ _ _ ⟨b16, hb16, rfl, rfl, rfl⟩
  skip
  refine WL.so (SO.alloc ZvF.h rfl) rfl (zw fun b5 hb5 => ?_)
  refine g [[5]] ?_
  refine WC.hpEq (hp' := [(b5, .cells (List.toArray [.slice (some ⟨b16, 0, none⟩) fs.length fs.length]) 370 (0, 0)), (b16, rowsO (iniF fs 0) fs.length)]) (by rw [show iniF fs 0 = fun _ => ((.nilFunc, zMs) : Row) from funext fun u => by unfold iniF; rw [if_neg (by omega)]]; unfold rowsO; rw [← zero_rows]; rfl) (g [[7,5,4,0,1]] ?_)
  refine WC.loopT [_] (fun k : Nat => [(0, pt q), (4, .slice none 0 0), (5, pt b5), (17, .slice af fs.length cf), (18, nt fs.length), (19, nt k)]) (fun k => [(b16, rowsO (iniF fs k) fs.length)]) (fun k => k ≤ fs.length) (fun k => fs.length - k) 0 (by omega) rfl ⟨rfl, rfl, rfl, rfl, rfl, rfl, trivial⟩ ?_
  intro k hk
  refine g [[1],[5,0,4,5,17,18,19]] ?_
  refine WC.cond rfl (fun c20 => ?_) (fun c20 => ?_)
  · try simp only [zq] at c20
    have hkn : k < fs.length := by omega
    refine g [[5],[2,0,4,5,17,18,19]] ?_
    refine WL.yd (Yd.ix rfl rfl (hS.addr k (by omega))) rfl (WL.yd (Yd.l1 rfl ((hS.at k (by omega)).rd 0 rfl)) rfl (g [[4],[4,7,6,0,4,5,17,18,19]] ?_))
    refine WL.yd (Yd.ix rfl rfl (rfl)) rfl (g [[1]] ?_)
    refine WL.so (SO.storeR (k := 1) (i := k) (j := 0) (cloV (gt fs k), zMs) rfl SzF.h rfl rfl rfl rfl hkn rfl (by decide) (oneB_spec rfl) rfl) rfl ?_
    rintro _ _ _ ⟨rfl, rfl, rfl⟩
    refine g [[3],[4,0,4,5,17,18,19]] ?_
    exact WP.againT (k + 1) (by omega) (by omega) [] _ rfl (by rw [← ini_step]; rfl) ⟨rfl, rfl, rfl, rfl, rfl, rfl, trivial⟩
  try simp only [zq] at c20
  refine g [[6]] ?_
  obtain rfl : k = fs.length := by omega
  rw [ini_end]
  refine g [[1,0,4,5]] ?_
  refine WL.so (SO.alloc ZvF.h rfl) rfl (zw fun b8 hb8 => ?_)
  refine g [[5],[2,8,0,4,5]] ?_
  refine WL.so (SO.makes (Enters.func Tryz.call90 rfl) (fun w hI => truths_g q D _ hI.imm)) rfl ?_
  rintro _ D1 _ ⟨hX1, ⟨bt, rfl, hbt⟩, rfl⟩
  replace hO := hO.ext hX1
  replace hR := hR.ext hX1
  replace hC : ∀ i, i < fs.length → CloOK D1 (allT T) (gt fs i) := fun i hi => (hC i hi).ext hX1
  refine g [[3],[0,4,5,8,31]] ?_
  refine WC.rangeIterN (N := (allT T).length) (arg := fun k => truV (gt (allT T) k)) (fun w1 _ hD1 => truths1_iter T a1 _ c1 q bt D1 w1 hO hR hbt hv hD1) rfl Tryz.call177 rfl (fun k _ h => h = [(b8, .cells (List.toArray [.bool (decide (0 < k))]) 4 (0, 0)), (b5, .cells (List.toArray [.slice (some ⟨b16, 0, none⟩) fs.length fs.length]) 370 (0, 0)), (b16, rowsO (msF fs ((allT T).take k)) fs.length)]) (fun _ _ _ => False) (fun _ _ _ _ _ h => h) rfl ?_ ?_ ?_
  · rintro rec1 l1 Dn0 k D5 _ w1 hrec hk rfl hX5 hsz
    unfold RoundGN
    replace hO := hO.ext hX5
    replace hR := hR.ext hX5
    replace hC : ∀ i, i < fs.length → CloOK D5 (allT T) (gt fs i) := fun i hi => (hC i hi).ext hX5
    refine g [[1,32,4,5,8]] ?_
    refine WLF.so (zn rfl) (SO.alloc ZvF.h rfl) rfl (zw fun b9 hb9 => ?_)
    refine g [[2]] ?_
    refine WP.iterBegin 1 rfl hrec (g [[2],[5,9,4,5,8],[7,9,4,5]] ?_)
    refine WCF.loopT [_, _, _, _, _] (fun j : Nat => [(5, pt b5), (9, pt b9), (34, nt fs.length), (35, nt j)]) (fun j => [(b16, rowsO (midF fs (allT T) k j) fs.length)]) (fun j => j ≤ fs.length) (fun j => fs.length - j) 0 (by omega) (by rw [mid_start]; rfl) ⟨rfl, rfl, rfl, rfl, trivial⟩ ?_
    intro j hj
    refine g [[1],[5,5,9,34,35]] ?_
    refine WCF.cond rfl (fun c36 => ?_) (fun c36 => ?_)
    · try simp only [zq] at c36
      have hjn : j < fs.length := by omega
      refine g [[5],[5,5,9,34,35],[0,10,5,9,34,35]] ?_
      refine WCF.tail 4 [0, 1, 2, 3] rfl zk zk (noLets.blk (noLets.then (noLets.then (noLets.blk (noLets.blk noLets.round))))) (g [[2]] ?_)
      refine WQ.q rfl (Yd.qt (Yd.ix rfl rfl (rfl))) rfl (g [[1]] ?_)
      refine WQ.tailR ?_
      refine WLF.so (zn rfl) (SO.alters (own := [_, _, _, _, _]) (hpc := [_]) (S1 := [b16]) (fun _ h => h) (fun h => h) (fun _ h => h) (fun _ h => h) (Enters.func CaF.h rfl) (fun w1 hI => see_g (midF fs (allT T) k j) fs.length j hjn (gt fs j) (foldS (gt fs j).g ((allT T).take k)) (by unfold midF; rw [if_neg (by omega)]) (allT T) (gt (allT T) k) (gt_mem hk) D5 w1 (hC j hjn) b16 hI)) rfl ?_
      rintro _ _ _ ⟨_, _, ⟨rfl, rfl, rfl⟩, rfl⟩
      refine g [[3],[4,5,9,34,35]] ?_
      exact WP.againT (j + 1) (by omega) (by omega) [] _ rfl (by rw [← mid_step fs hk]; rfl) ⟨rfl, rfl, rfl, rfl, trivial⟩
    try simp only [zq] at c36
    obtain rfl : j = fs.length := by omega
    refine g [[5]] ?_
    refine WP.iterOnN hrec (h1 := [_, _, _]) (fun _ h => List.mem_cons_of_mem _ h) (fun h => (List.nodup_cons.1 h).2) (DExt.refl _ _) ?_
    rw [← mid_end, decide_eq_true (show 0 < k + 1 by omega)]
    rfl
  · rintro Dn1 D6 _ hDn1 hX6 rfl
    rw [List.take_length]
    have hpos : ¬ 0 < (allT T).length := by rw [hne]; simp
    refine g [[3],[2,4,5,8]] ?_
    refine WL.know 44 (.bool false) rfl (congrArg Value.bool (decide_eq_false hpos)) (WL.nf rfl (fun w hI => mustK_no _ _) (g [[1]] ?_))
    exact WP.panicMs [Dn1] [_, _, _] rfl (fun _ h => h) (fun h => h) (fun w hI => ⟨rfl, hI.keep⟩)
  rintro Dn1 c D6 _ hDn1 hX6 hff
  exact hff.elim
end Go.Proofs.YtejgofaeafphjaaGreatDoor
namespace Go.Proofs.YtejgofaeafphjaaGreatDoor
open Go.W Go.Ti
theorem okTr_mem {T : Tks} (hv : tksB T = true) {t : Tru} (h : t ∈ allT T) : okTr t := fun i => by
  have hs := mem_allT.1 h
  rcases Nat.lt_or_ge i T.l.length with hi | hi
  · have h1 := pairP_iff.1 (hs.pair i hi)
    have h2 := (tks_num hv).2.2 i hi
    omega
  rw [hs.rest i hi]; simp
theorem tru_rdn (t : Tru) {i : Nat} (hi : i < 5) : slc (truC t) (0 + i * 2) 2 = [it (t i).1, it (t i).2] := by
  rcases (show i = 0 ∨ i = 1 ∨ i = 2 ∨ i = 3 ∨ i = 4 by omega) with rfl | rfl | rfl | rfl | rfl <;> rfl
theorem min1_g (a b1 : Nat) (ha : a < 5) (D : Imm) (h1 : D b1 = some (.cells (List.toArray [nt a]) 3 (0, 0))) (t : Tru) (w : World) (hH : Holds D w) : Gives Tryz.prog 352 [truV t, pt b1] w (it (t a).1) := by
  unfold Gives
  refine en Tryz.func352 rfl Tryz.ntmps352 (Inv.start hH) (g [[1],[1,0,1]] ?_)
  refine WL.so (SO.box rfl rfl) rfl (zw fun b2 hb2 => ?_)
  refine g [[4],[2,3,2,1]] ?_
  refine WL.yd (Yd.indexA UnF.h SzF.h rfl rfl (by omega) (by omega)) rfl (g [[1]] ?_)
  refine WL.yd (Yd.l1 rfl (Rd.own (k := 0) rfl (tru_rd t (i := a) (by omega)).1)) rfl (g [[4]] ?_)
  refine WP.ret1 rfl rfl rfl (RV.tmp rfl) (fun w hI => ⟨rfl, hI.keep⟩)
theorem min2_g (a b1 : Nat) (ha : a < 5) (D : Imm) (h1 : D b1 = some (.cells (List.toArray [nt a]) 3 (0, 0))) (t : Tru) (w : World) (hH : Holds D w) : Gives Tryz.prog 353 [truV t, pt b1] w (it (t a).2) := by
  unfold Gives
  refine en Tryz.func353 rfl Tryz.ntmps353 (Inv.start hH) (g [[1],[1,0,1]] ?_)
  refine WL.so (SO.box rfl rfl) rfl (zw fun b2 hb2 => ?_)
  refine g [[4],[2,3,2,1]] ?_
  refine WL.yd (Yd.indexA UnF.h SzF.h rfl rfl (by omega) (by omega)) rfl (g [[1]] ?_)
  refine WL.yd (Yd.l1 rfl (Rd.own (k := 0) rfl (tru_rd t (i := a) (by omega)).2)) rfl (g [[4]] ?_)
  refine WP.ret1 rfl rfl rfl (RV.tmp rfl) (fun w hI => ⟨rfl, hI.keep⟩)
theorem waitc_g (T : Tks) (a1 : Option Addr) (n1 c1 b1 : Nat) (D : Imm) (hn1 : n1 = T.l.length) (h5 : T.l.length ≤ 5) (h1 : D b1 = some (boxT T (.slice a1 n1 c1))) (t : Tru) (hok : okTr t) (w : World) (hH : Holds D w) : Gives Tryz.prog 243 [truV t, pt b1] w (it (longT T.l.length t)) := by
  unfold Gives
  subst hn1
  refine en Tryz.func243 rfl Tryz.ntmps243 (Inv.start hH) (g [[1],[1,0,1]] ?_)
  refine WL.so (SO.box rfl rfl) rfl (zw fun b2 hb2 => ?_)
  refine g [[4],[6,3,2,1],[4,4,3,2,1]] ?_
  refine WL.yd (Yd.sliceArr Tryz.underlying150 Tryz.sizeOf148 rfl rfl h5) rfl (g [[5]] ?_)
  refine WC.loopT [] (fun k : Nat => [(4, it (longT k t)), (10, .slice (some ⟨b2, 0, none⟩) T.l.length 5), (11, nt T.l.length), (12, nt k)]) (fun _ => [(b2, .cells (List.toArray (truC t)) 150 (0, 0))]) (fun k => k ≤ T.l.length) (fun k => T.l.length - k) 0 (by omega) rfl ⟨rfl, rfl, rfl, rfl, trivial⟩ ?_
  intro k hk
  refine g [[1],[5,4,10,11,12]] ?_
  refine WC.cond rfl (fun c13 => ?_) (fun c13 => ?_)
  · try simp only [zq] at c13
    have hk5 : k < 5 := by omega
    have hbk := hok k
    refine g [[5],[1,4,10,11,12]] ?_
    refine WL.yd (Yd.ix rfl rfl (rfl)) rfl (WL.yd (Yd.lV [_, _] rfl (RdN.own (k := 0) (n := 2) rfl (tru_rdn t hk5))) rfl ?_)
    refine WL.so (SO.alloc ZvF.h rfl) rfl (zw fun b6 hb6 => ?_)
    refine g [[3],[6,6,4,10,11,12]] ?_
    refine WL.know 18 (it (t k).2) rfl rfl (WL.know 20 (it (t k).1) rfl rfl (g [[1]] ?_))
    refine WL.yd (Yd.max2 rfl rfl) rfl (g [[4],[4,4,10,11,12]] ?_)
    exact WP.againT (k + 1) (by omega) (by omega) [_] _ rfl rfl ⟨rfl, rfl, rfl, rfl, trivial⟩
  try simp only [zq] at c13
  obtain rfl : k = T.l.length := by omega
  refine g [[6],[6,4]] ?_
  refine WP.ret1 rfl rfl rfl (RV.tmp rfl) (fun w hI => ⟨rfl, hI.keep⟩)
theorem fs1_sl (D : Imm) (c : Clo) (b : Nat) (hb : D b = some (.cells (List.toArray [cloV c]) 319 (0, 0))) : SlL D 1 ([c].map fun c => [cloV c]) (some ⟨b, 0, none⟩) 1 :=
  SlL.ofBlock (f := fun c => [cloV c]) (l := [c]) (rest := []) (fun _ => rfl) hb
theorem fs2_sl (D : Imm) (c d : Clo) (b : Nat) (hb : D b = some (.cells (List.toArray [cloV c, cloV d]) 319 (0, 0))) : SlL D 1 ([c, d].map fun c => [cloV c]) (some ⟨b, 0, none⟩) 2 :=
  SlL.ofBlock (f := fun c => [cloV c]) (l := [c, d]) (rest := []) (fun _ => rfl) hb
theorem cl1 {φ : Clo → Prop} {c : Clo} (h : φ c) : ∀ i, i < [c].length → φ (gt [c] i) := fun i hi => by
  obtain rfl : i = 0 := by simpa using hi
  exact h
theorem cl2 {φ : Clo → Prop} {c d : Clo} (h : φ c) (h' : φ d) : ∀ i, i < [c, d].length → φ (gt [c, d] i) := fun i hi => by
  rcases (show i = 0 ∨ i = 1 by simp at hi; omega) with rfl | rfl
  · exact h
  exact h'
theorem spans1_ok (T : Tks) (a1 : Option Addr) (n1 c1 : Nat) (q : Nat) (D : Imm) (w : World) (hO : OffAt D q T (.slice a1 n1 c1)) (hR : TksR D T a1 n1) (hH : Holds D w) (hv : tksB T = true) (c : Clo) (b : Nat) (hb : D b = some (.cells (List.toArray [cloV c]) 319 (0, 0))) (hC : CloOK D (allT T) c) (hne : allT T ≠ []) :
    Makes Tryz.prog 242 [pt q, .slice (some ⟨b, 0, none⟩) 1 1] w D (fun v D' => ∃ a c9, v = .slice a 1 c9 ∧ SlL D' 2 ([spanS c.g (allT T)].map spC) a 1) :=
  spans_ok T a1 n1 c1 q D w hO hR hH hv [c] _ 1 1 (fs1_sl D c b hb) (by omega) (cl1 hC) hne
theorem spans1_no (T : Tks) (a1 : Option Addr) (n1 c1 : Nat) (q : Nat) (D : Imm) (w : World) (hO : OffAt D q T (.slice a1 n1 c1)) (hR : TksR D T a1 n1) (hH : Holds D w) (hv : tksB T = true) (c : Clo) (b : Nat) (hb : D b = some (.cells (List.toArray [cloV c]) 319 (0, 0))) (hC : CloOK D (allT T) c) (hne : allT T = []) :
    Fails Tryz.prog 242 [pt q, .slice (some ⟨b, 0, none⟩) 1 1] w (stopK 10) :=
  spans_no T a1 n1 c1 q D w hO hR hH hv [c] _ 1 1 (fs1_sl D c b hb) (by omega) (cl1 hC) hne
theorem spans2_ok (T : Tks) (a1 : Option Addr) (n1 c1 : Nat) (q : Nat) (D : Imm) (w : World) (hO : OffAt D q T (.slice a1 n1 c1)) (hR : TksR D T a1 n1) (hH : Holds D w) (hv : tksB T = true) (c d : Clo) (b : Nat) (hb : D b = some (.cells (List.toArray [cloV c, cloV d]) 319 (0, 0))) (hC : CloOK D (allT T) c) (hC' : CloOK D (allT T) d) (hne : allT T ≠ []) :
    Makes Tryz.prog 242 [pt q, .slice (some ⟨b, 0, none⟩) 2 2] w D (fun v D' => ∃ a c9, v = .slice a 2 c9 ∧ SlL D' 2 ([spanS c.g (allT T), spanS d.g (allT T)].map spC) a 2) :=
  spans_ok T a1 n1 c1 q D w hO hR hH hv [c, d] _ 2 2 (fs2_sl D c d b hb) (by omega) (cl2 hC hC') hne
theorem spans2_no (T : Tks) (a1 : Option Addr) (n1 c1 : Nat) (q : Nat) (D : Imm) (w : World) (hO : OffAt D q T (.slice a1 n1 c1)) (hR : TksR D T a1 n1) (hH : Holds D w) (hv : tksB T = true) (c d : Clo) (b : Nat) (hb : D b = some (.cells (List.toArray [cloV c, cloV d]) 319 (0, 0))) (hC : CloOK D (allT T) c) (hC' : CloOK D (allT T) d) (hne : allT T = []) :
    Fails Tryz.prog 242 [pt q, .slice (some ⟨b, 0, none⟩) 2 2] w (stopK 10) :=
  spans_no T a1 n1 c1 q D w hO hR hH hv [c, d] _ 2 2 (fs2_sl D c d b hb) (by omega) (cl2 hC hC') hne
end Go.Proofs.YtejgofaeafphjaaGreatDoor
namespace Go.Proofs.YtejgofaeafphjaaGreatDoor
open Go.W Go.Ti
def spV (s : Sp) : Value := .agg #[it s.lo, it s.hi]
theorem Waits_1 (T : Tks) (a1 : Option Addr) (n1 c1 : Nat) (D : Imm) (w : World) (hR : TksR D T a1 n1) (hH : Holds D w) (hv : tksB T = false) : Gives Tryz.prog 184 [.agg #[it T.huts, .slice a1 n1 c1]] w (.tuple #[spV (WaitsOut T).1, it (WaitsOut T).2]) := by
  unfold Gives
  obtain rfl := hR.tick.len'
  have hl1 := hR.len
  have hE : tksE T true = 1 := by
    unfold tksE
    rw [if_pos hv]
  have hO0 : WaitsOut T = (⟨0, 0⟩, 1) := by unfold WaitsOut; rw [if_pos (by rw [hE]; simp), hE]
  refine enD Tryz.func184 rfl Tryz.ntmps184 (Inv.start hH) (g [[1],[1,0]] ?_)
  refine WL.so (SO.box rfl rfl) rfl (zw fun b1 hb1 => ?_)
  refine WL.so (SO.alloc ZvF.h rfl) rfl (zw fun b2 hb2 => ?_)
  refine WL.so (SO.alloc ZvF.h rfl) rfl (zw fun b3 hb3 => ?_)
  refine g [[3],[2,3,2,1]] ?_
  refine WL.defer rfl (g [[3]] ?_)
  refine WC.freezeN 2 b1 (boxT T (.slice a1 T.l.length c1)) rfl rfl hb1 (fun D1 hX1 h1 => ?_)
  replace hR := hR.ext hX1
  refine g [[2,3,2,1]] ?_
  refine WL.nf rfl (fun w hI => open_1 T a1 _ c1 _ _ hR hI.imm true hv) (g [[1]] ?_)
  refine WP.panicD (k := 0) [_, _] [_, _] rfl CaF.h rfl (fun w hI => catch241 _ _ _ _ _ (hI.own _ _ (List.mem_of_getElem? (i := 0) rfl))) rfl zV (fun w hI => ⟨congrArg Ending.returned (by rw [hO0]; rfl), hI.keep⟩)
theorem Waits_3 (T : Tks) (a1 : Option Addr) (n1 c1 : Nat) (D : Imm) (w : World) (hR : TksR D T a1 n1) (hH : Holds D w) (hv : tksB T = true) (hne : allT T = []) : Gives Tryz.prog 184 [.agg #[it T.huts, .slice a1 n1 c1]] w (.tuple #[spV (WaitsOut T).1, it (WaitsOut T).2]) := by
  unfold Gives
  obtain rfl := hR.tick.len'
  have hl1 := hR.len
  have hE : tksE T true = 10 := by
    unfold tksE
    rw [if_neg (by rw [hv]; simp), if_neg (by simp), if_pos (by rw [hne]; rfl)]
  have hO0 : WaitsOut T = (⟨0, 0⟩, 10) := by unfold WaitsOut; rw [if_pos (by rw [hE]; simp), hE]
  have h5 := (tks_num hv).2.1
  refine enD Tryz.func184 rfl Tryz.ntmps184 (Inv.start hH) (g [[1],[1,0]] ?_)
  refine WL.so (SO.box rfl rfl) rfl (zw fun b1 hb1 => ?_)
  refine WL.so (SO.alloc ZvF.h rfl) rfl (zw fun b2 hb2 => ?_)
  refine WL.so (SO.alloc ZvF.h rfl) rfl (zw fun b3 hb3 => ?_)
  refine g [[3],[2,3,2,1]] ?_
  refine WL.defer rfl (g [[3]] ?_)
  refine WC.freezeN 2 b1 (boxT T (.slice a1 T.l.length c1)) rfl rfl hb1 (fun D1 hX1 h1 => ?_)
  replace hR := hR.ext hX1
  refine g [[2,3,2,1]] ?_
  refine WL.so (SO.makes (Enters.func Tryz.call88 rfl) (fun w hI => open_ok T a1 _ c1 _ _ hR hI.imm hv)) rfl ?_
  rintro _ D2 _ ⟨hX2, ⟨bq, rfl, hO⟩, rfl⟩
  replace hR := hR.ext hX2
  replace h1 := hX2.old _ _ h1
  refine g [[1]] ?_
  refine WL.so (SO.buildSlice UnF.h SzF.h ZvF.h rfl rfl rfl rfl (cs := [_]) rfl) rfl ?_
  rintro _ _ _ ⟨b8, hb8, rfl, rfl, rfl⟩
  refine WL.freezeN 0 b8 (.cells (List.toArray [cloV (⟨243, [pt b1], longT T.l.length⟩ : Clo)]) 319 (0, 0)) rfl rfl hb8 (fun D3 hX3 h8 => ?_)
  
  replace hO := hO.ext hX3
  replace hR := hR.ext hX3
  replace h1 := hX3.old _ _ h1
  have hCW : CloOK D3 (allT T) (⟨243, [pt b1], longT T.l.length⟩ : Clo) := ⟨Tryz.call243, fun t ht w' hH' => waitc_g T a1 _ c1 b1 _ rfl h5 h1 t (okTr_mem hv ht) w' hH'⟩
  refine WL.nf rfl (fun w hI => spans1_no T a1 _ c1 bq D3 _ hO hR hI.imm hv (⟨243, [pt b1], longT T.l.length⟩ : Clo) b8 h8 hCW hne) (g [[1]] ?_)
  refine WP.panicD (k := 0) [_, _] [_, _] rfl CaF.h rfl (fun w hI => catch241 _ _ _ _ _ (hI.own _ _ (List.mem_of_getElem? (i := 0) rfl))) rfl zV (fun w hI => ⟨congrArg Ending.returned (by rw [hO0]; rfl), hI.keep⟩)
theorem Waits_ok (T : Tks) (a1 : Option Addr) (n1 c1 : Nat) (D : Imm) (w : World) (hR : TksR D T a1 n1) (hH : Holds D w) (hv : tksB T = true) (hne : allT T ≠ []) : Gives Tryz.prog 184 [.agg #[it T.huts, .slice a1 n1 c1]] w (.tuple #[spV (WaitsOut T).1, it (WaitsOut T).2]) := by
  unfold Gives
  obtain rfl := hR.tick.len'
  have hl1 := hR.len
  have hE : tksE T true = 0 := by
    unfold tksE
    rw [if_neg (by rw [hv]; simp), if_neg (by simp), if_neg (by rw [List.isEmpty_iff]; exact hne)]
  have hO0 : WaitsOut T = (spanS (longT T.l.length) (allT T), 0) := by unfold WaitsOut; rw [if_neg (by rw [hE]; simp)]
  have h5 := (tks_num hv).2.1
  refine enD Tryz.func184 rfl Tryz.ntmps184 (Inv.start hH) (g [[1],[1,0]] ?_)
  refine WL.so (SO.box rfl rfl) rfl (zw fun b1 hb1 => ?_)
  refine WL.so (SO.alloc ZvF.h rfl) rfl (zw fun b2 hb2 => ?_)
  refine WL.so (SO.alloc ZvF.h rfl) rfl (zw fun b3 hb3 => ?_)
  refine g [[3],[2,3,2,1]] ?_
  refine WL.defer rfl (g [[3]] ?_)
  refine WC.freezeN 2 b1 (boxT T (.slice a1 T.l.length c1)) rfl rfl hb1 (fun D1 hX1 h1 => ?_)
  replace hR := hR.ext hX1
  refine g [[2,3,2,1]] ?_
  refine WL.so (SO.makes (Enters.func Tryz.call88 rfl) (fun w hI => open_ok T a1 _ c1 _ _ hR hI.imm hv)) rfl ?_
  rintro _ D2 _ ⟨hX2, ⟨bq, rfl, hO⟩, rfl⟩
  replace hR := hR.ext hX2
  replace h1 := hX2.old _ _ h1
  refine g [[1]] ?_
  refine WL.so (SO.buildSlice UnF.h SzF.h ZvF.h rfl rfl rfl rfl (cs := [_]) rfl) rfl ?_
  rintro _ _ _ ⟨b8, hb8, rfl, rfl, rfl⟩
  refine WL.freezeN 0 b8 (.cells (List.toArray [cloV (⟨243, [pt b1], longT T.l.length⟩ : Clo)]) 319 (0, 0)) rfl rfl hb8 (fun D3 hX3 h8 => ?_)
  
  replace hO := hO.ext hX3
  replace hR := hR.ext hX3
  replace h1 := hX3.old _ _ h1
  have hCW : CloOK D3 (allT T) (⟨243, [pt b1], longT T.l.length⟩ : Clo) := ⟨Tryz.call243, fun t ht w' hH' => waitc_g T a1 _ c1 b1 _ rfl h5 h1 t (okTr_mem hv ht) w' hH'⟩
  refine WL.so (SO.makes (Enters.func Tryz.call242 rfl) (fun w hI => spans1_ok T a1 _ c1 bq D3 _ hO hR hI.imm hv (⟨243, [pt b1], longT T.l.length⟩ : Clo) b8 h8 hCW hne)) rfl ?_
  rintro _ D4 _ ⟨hX4, ⟨a9, c9, rfl, hS9⟩, rfl⟩
  refine WL.yd (Yd.ix rfl rfl (hS9.addr 0 (by omega))) rfl (WL.yd (Yd.lV [_, _] rfl ((hS9.at 0 (by omega)).rdn 0 2 rfl)) rfl (g [[5]] ?_))
  refine WP.endD [_, _] [_, _] rfl rfl CaF.h (fun w hI => idle241 _ _) rfl zV (fun w hI => ⟨congrArg Ending.returned (by rw [hO0]; rfl), hI.keep⟩)
theorem Waits_g (T : Tks) (a1 : Option Addr) (n1 c1 : Nat) (D : Imm) (w : World) (hR : TksR D T a1 n1) (hH : Holds D w) : Gives Tryz.prog 184 [.agg #[it T.huts, .slice a1 n1 c1]] w (.tuple #[spV (WaitsOut T).1, it (WaitsOut T).2]) := by
  cases hv : tksB T with
  | false => exact Waits_1 T a1 n1 c1 D w hR hH hv
  | true =>
    by_cases hne : allT T = []
    · exact Waits_3 T a1 n1 c1 D w hR hH hv hne
    exact Waits_ok T a1 n1 c1 D w hR hH hv hne
end Go.Proofs.YtejgofaeafphjaaGreatDoor
namespace Go.Proofs.YtejgofaeafphjaaGreatDoor
open Go.W Go.Ti
theorem Minutes_1 (T : Tks) (a1 : Option Addr) (n1 c1 : Nat) (D : Imm) (w : World) (hR : TksR D T a1 n1) (hH : Holds D w) (n : Int) (hv : tksB T = false) : Gives Tryz.prog 350 [.agg #[it T.huts, .slice a1 n1 c1], it n] w (.tuple #[spV (MinutesOut T n).1, spV (MinutesOut T n).2.1, it (MinutesOut T n).2.2]) := by
  unfold Gives
  obtain rfl := hR.tick.len'
  have hl1 := hR.len
  have hE : tksE T (isT T n) = 1 := by
    unfold tksE
    rw [if_pos hv]
  have hO0 : MinutesOut T n = (⟨0, 0⟩, ⟨0, 0⟩, 1) := by unfold MinutesOut; rw [if_pos (by rw [hE]; simp), hE]
  refine enD Tryz.func350 rfl Tryz.ntmps350 (Inv.start hH) (g [[1],[1,0,1]] ?_)
  refine WL.so (SO.box rfl rfl) rfl (zw fun b2 hb2 => ?_)
  refine WL.so (SO.box rfl rfl) rfl (zw fun b3 hb3 => ?_)
  refine WL.so (SO.alloc ZvF.h rfl) rfl (zw fun b4 hb4 => ?_)
  refine WL.so (SO.alloc ZvF.h rfl) rfl (zw fun b5 hb5 => ?_)
  refine WL.so (SO.alloc ZvF.h rfl) rfl (zw fun b6 hb6 => ?_)
  refine g [[3],[2,6,5,4,3,2]] ?_
  refine WL.defer rfl (g [[3]] ?_)
  refine WC.freezeN 4 b2 (boxT T (.slice a1 T.l.length c1)) rfl rfl hb2 (fun D1 hX1 h2 => ?_)
  replace hR := hR.ext hX1
  refine WC.freezeN 3 b3 (.cells (List.toArray [it n]) 3 (0, 0)) rfl rfl hb3 (fun D3 hX3 h3 => ?_)
  replace hR := hR.ext hX3
  replace h2 := hX3.old _ _ h2
  refine g [[0,6,5,4,3,2]] ?_
  refine WC.drawH [] zk (fun _ hI => hI.drop 99) (g [[1000],[1001],[1002],[1005],[1006]] ?_)
  refine WH.two (i := 3) (j := 7) zk ?_ ?_
  · refine WHo.so rfl (SO.callP CaF.h rfl (fun w hI => isTick_g T a1 _ c1 n _ rfl hl1)) rfl ?_
    rintro _ _ _ ⟨rfl, rfl, rfl⟩
    refine ⟨(fun _ hI => hI.drop 99), ?_⟩
    refine WH.two (i := 4) (j := 7) zk ?_ ?_
    · refine WHo.no rfl (SO.fail (Enters.func CaF.h rfl) (fun w hI => open_1 T a1 _ c1 _ _ hR hI.imm (isT T n) hv) (g [[1]] ?_))
      refine WP.panicD (k := 0) [_, _, _] [_, _, _] rfl CaF.h rfl (fun w hI => catch351 _ _ _ _ _ (hI.own _ _ (List.mem_of_getElem? (i := 0) rfl))) rfl zV (fun w hI => ⟨congrArg Ending.returned (by rw [hO0]; rfl), hI.keep⟩)
    refine WHo.so rfl (SO.buildSlice UnF.h SzF.h ZvF.h rfl rfl rfl rfl (cs := [_, _]) rfl) rfl ?_
    rintro _ _ _ ⟨b16, hb16, rfl, rfl, rfl⟩
    refine ⟨(fun _ hI => hI.drop 99), ?_⟩
    refine WH.one (i := 4) zk (WHo.no rfl (SO.fail (Enters.func CaF.h rfl) (fun w hI => open_1 T a1 _ c1 _ _ hR hI.imm (isT T n) hv) (g [[1]] ?_)))
    refine WP.panicD (k := 1) [_, _, _] [_, _, _] rfl CaF.h rfl (fun w hI => catch351 _ _ _ _ _ (hI.own _ _ (List.mem_of_getElem? (i := 1) rfl))) rfl zV (fun w hI => ⟨congrArg Ending.returned (by rw [hO0]; rfl), hI.keep⟩)
  refine WHo.so rfl (SO.buildSlice UnF.h SzF.h ZvF.h rfl rfl rfl rfl (cs := [_, _]) rfl) rfl ?_
  rintro _ _ _ ⟨b16, hb16, rfl, rfl, rfl⟩
  refine ⟨(fun _ hI => hI.drop 99), ?_⟩
  refine WH.one (i := 3) zk (WHo.so rfl (SO.callP CaF.h rfl (fun w hI => isTick_g T a1 _ c1 n _ rfl hl1)) rfl ?_)
  rintro _ _ _ ⟨rfl, rfl, rfl⟩
  refine ⟨(fun _ hI => hI.drop 99), ?_⟩
  refine WH.one (i := 4) zk (WHo.no rfl (SO.fail (Enters.func CaF.h rfl) (fun w hI => open_1 T a1 _ c1 _ _ hR hI.imm (isT T n) hv) (g [[1]] ?_)))
  refine WP.panicD (k := 1) [_, _, _] [_, _, _] rfl CaF.h rfl (fun w hI => catch351 _ _ _ _ _ (hI.own _ _ (List.mem_of_getElem? (i := 1) rfl))) rfl zV (fun w hI => ⟨congrArg Ending.returned (by rw [hO0]; rfl), hI.keep⟩)
theorem Minutes_2 (T : Tks) (a1 : Option Addr) (n1 c1 : Nat) (D : Imm) (w : World) (hR : TksR D T a1 n1) (hH : Holds D w) (n : Int) (hv : tksB T = true) (hw : isT T n = false) : Gives Tryz.prog 350 [.agg #[it T.huts, .slice a1 n1 c1], it n] w (.tuple #[spV (MinutesOut T n).1, spV (MinutesOut T n).2.1, it (MinutesOut T n).2.2]) := by
  unfold Gives
  obtain rfl := hR.tick.len'
  have hl1 := hR.len
  have hE : tksE T (isT T n) = 2 := by
    unfold tksE
    rw [if_neg (by rw [hv]; simp), if_pos hw]
  have hO0 : MinutesOut T n = (⟨0, 0⟩, ⟨0, 0⟩, 2) := by unfold MinutesOut; rw [if_pos (by rw [hE]; simp), hE]
  refine enD Tryz.func350 rfl Tryz.ntmps350 (Inv.start hH) (g [[1],[1,0,1]] ?_)
  refine WL.so (SO.box rfl rfl) rfl (zw fun b2 hb2 => ?_)
  refine WL.so (SO.box rfl rfl) rfl (zw fun b3 hb3 => ?_)
  refine WL.so (SO.alloc ZvF.h rfl) rfl (zw fun b4 hb4 => ?_)
  refine WL.so (SO.alloc ZvF.h rfl) rfl (zw fun b5 hb5 => ?_)
  refine WL.so (SO.alloc ZvF.h rfl) rfl (zw fun b6 hb6 => ?_)
  refine g [[3],[2,6,5,4,3,2]] ?_
  refine WL.defer rfl (g [[3]] ?_)
  refine WC.freezeN 4 b2 (boxT T (.slice a1 T.l.length c1)) rfl rfl hb2 (fun D1 hX1 h2 => ?_)
  replace hR := hR.ext hX1
  refine WC.freezeN 3 b3 (.cells (List.toArray [it n]) 3 (0, 0)) rfl rfl hb3 (fun D3 hX3 h3 => ?_)
  replace hR := hR.ext hX3
  replace h2 := hX3.old _ _ h2
  refine g [[0,6,5,4,3,2]] ?_
  refine WC.drawH [] zk (fun _ hI => hI.drop 99) (g [[1000],[1001],[1002],[1005],[1006]] ?_)
  refine WH.two (i := 3) (j := 7) zk ?_ ?_
  · refine WHo.so rfl (SO.callP CaF.h rfl (fun w hI => isTick_g T a1 _ c1 n _ rfl hl1)) rfl ?_
    rintro _ _ _ ⟨rfl, rfl, rfl⟩
    refine ⟨(fun _ hI => hI.drop 99), ?_⟩
    refine WH.know 12 (.bool false) rfl (congrArg Value.bool hw) ?_
    refine WH.two (i := 4) (j := 7) zk ?_ ?_
    · refine WHo.no rfl (SO.fail (Enters.func CaF.h rfl) (fun w hI => open_2 T a1 _ c1 _ _ hR hI.imm hv) (g [[1]] ?_))
      refine WP.panicD (k := 0) [_, _, _] [_, _, _] rfl CaF.h rfl (fun w hI => catch351 _ _ _ _ _ (hI.own _ _ (List.mem_of_getElem? (i := 0) rfl))) rfl zV (fun w hI => ⟨congrArg Ending.returned (by rw [hO0]; rfl), hI.keep⟩)
    refine WHo.so rfl (SO.buildSlice UnF.h SzF.h ZvF.h rfl rfl rfl rfl (cs := [_, _]) rfl) rfl ?_
    rintro _ _ _ ⟨b16, hb16, rfl, rfl, rfl⟩
    refine ⟨(fun _ hI => hI.drop 99), ?_⟩
    refine WH.one (i := 4) zk (WHo.no rfl (SO.fail (Enters.func CaF.h rfl) (fun w hI => open_2 T a1 _ c1 _ _ hR hI.imm hv) (g [[1]] ?_)))
    refine WP.panicD (k := 1) [_, _, _] [_, _, _] rfl CaF.h rfl (fun w hI => catch351 _ _ _ _ _ (hI.own _ _ (List.mem_of_getElem? (i := 1) rfl))) rfl zV (fun w hI => ⟨congrArg Ending.returned (by rw [hO0]; rfl), hI.keep⟩)
  refine WHo.so rfl (SO.buildSlice UnF.h SzF.h ZvF.h rfl rfl rfl rfl (cs := [_, _]) rfl) rfl ?_
  rintro _ _ _ ⟨b16, hb16, rfl, rfl, rfl⟩
  refine ⟨(fun _ hI => hI.drop 99), ?_⟩
  refine WH.one (i := 3) zk (WHo.so rfl (SO.callP CaF.h rfl (fun w hI => isTick_g T a1 _ c1 n _ rfl hl1)) rfl ?_)
  rintro _ _ _ ⟨rfl, rfl, rfl⟩
  refine ⟨(fun _ hI => hI.drop 99), ?_⟩
  refine WH.know 12 (.bool false) rfl (congrArg Value.bool hw) ?_
  refine WH.one (i := 4) zk (WHo.no rfl (SO.fail (Enters.func CaF.h rfl) (fun w hI => open_2 T a1 _ c1 _ _ hR hI.imm hv) (g [[1]] ?_)))
  refine WP.panicD (k := 1) [_, _, _] [_, _, _] rfl CaF.h rfl (fun w hI => catch351 _ _ _ _ _ (hI.own _ _ (List.mem_of_getElem? (i := 1) rfl))) rfl zV (fun w hI => ⟨congrArg Ending.returned (by rw [hO0]; rfl), hI.keep⟩)
theorem Minutes_3 (T : Tks) (a1 : Option Addr) (n1 c1 : Nat) (D : Imm) (w : World) (hR : TksR D T a1 n1) (hH : Holds D w) (n : Int) (hv : tksB T = true) (hw : isT T n = true) (hne : allT T = []) : Gives Tryz.prog 350 [.agg #[it T.huts, .slice a1 n1 c1], it n] w (.tuple #[spV (MinutesOut T n).1, spV (MinutesOut T n).2.1, it (MinutesOut T n).2.2]) := by
  unfold Gives
  obtain rfl := hR.tick.len'
  have hl1 := hR.len
  have hE : tksE T (isT T n) = 10 := by
    unfold tksE
    rw [if_neg (by rw [hv]; simp), if_neg (by rw [hw]; simp), if_pos (by rw [hne]; rfl)]
  have hO0 : MinutesOut T n = (⟨0, 0⟩, ⟨0, 0⟩, 10) := by unfold MinutesOut; rw [if_pos (by rw [hE]; simp), hE]
  have h5 := (tks_num hv).2.1
  obtain ⟨a, rfl, han⟩ := isT_nat hw
  refine enD Tryz.func350 rfl Tryz.ntmps350 (Inv.start hH) (g [[1],[1,0,1]] ?_)
  refine WL.so (SO.box rfl rfl) rfl (zw fun b2 hb2 => ?_)
  refine WL.so (SO.box rfl rfl) rfl (zw fun b3 hb3 => ?_)
  refine WL.so (SO.alloc ZvF.h rfl) rfl (zw fun b4 hb4 => ?_)
  refine WL.so (SO.alloc ZvF.h rfl) rfl (zw fun b5 hb5 => ?_)
  refine WL.so (SO.alloc ZvF.h rfl) rfl (zw fun b6 hb6 => ?_)
  refine g [[3],[2,6,5,4,3,2]] ?_
  refine WL.defer rfl (g [[3]] ?_)
  refine WC.freezeN 4 b2 (boxT T (.slice a1 T.l.length c1)) rfl rfl hb2 (fun D1 hX1 h2 => ?_)
  replace hR := hR.ext hX1
  refine WC.freezeN 3 b3 (.cells (List.toArray [it a]) 3 (0, 0)) rfl rfl hb3 (fun D3 hX3 h3 => ?_)
  replace hR := hR.ext hX3
  replace h2 := hX3.old _ _ h2
  refine g [[0,6,5,4,3,2]] ?_
  refine WC.drawH [] zk (fun _ hI => hI.drop 99) (g [[1000],[1001],[1002],[1005],[1006]] ?_)
  refine WH.two (i := 3) (j := 7) zk ?_ ?_
  · refine WHo.so rfl (SO.callP CaF.h rfl (fun w hI => isTick_g T a1 _ c1 a _ rfl hl1)) rfl ?_
    rintro _ _ _ ⟨rfl, rfl, rfl⟩
    refine ⟨(fun _ hI => hI.drop 99), ?_⟩
    refine WH.know 12 (.bool true) rfl (congrArg Value.bool hw) ?_
    refine WH.two (i := 4) (j := 7) zk ?_ ?_
    · refine WHo.so rfl (SO.makes (Enters.func Tryz.call88 rfl) (fun w hI => open_ok T a1 _ c1 _ _ hR hI.imm hv)) rfl ?_
      rintro _ D4 _ ⟨hX4, ⟨bq, rfl, hO⟩, rfl⟩
      replace hR := hR.ext hX4
      replace h3 := hX4.old _ _ h3
      refine ⟨(fun _ hI => (hI.drop 99).shrink hX4.old), ?_⟩
      refine WH.one (i := 7) zk (WHo.so rfl (SO.buildSlice UnF.h SzF.h ZvF.h rfl rfl rfl rfl (cs := [_, _]) rfl) rfl ?_)
      rintro _ _ _ ⟨b16, hb16, rfl, rfl, rfl⟩
      refine ⟨(fun _ hI => (hI.drop 99).shrink hX4.old), ?_⟩
      refine WH.freezeN 0 b16 (.cells (List.toArray [cloV (⟨352, [pt b3], fun t => (t a).1⟩ : Clo), cloV (⟨353, [pt b3], fun t => (t a).2⟩ : Clo)]) 319 (0, 0)) rfl rfl hb16 (fun D5 hX5 h16 => ?_)
      
      replace hO := hO.ext hX5
      replace hR := hR.ext hX5
      replace h3 := hX5.old _ _ h3
      have hC1 : CloOK D5 (allT T) (⟨352, [pt b3], fun t => (t a).1⟩ : Clo) := ⟨Tryz.call352, fun t ht w' hH' => min1_g a b3 (by omega) _ h3 t w' hH'⟩
      have hC2 : CloOK D5 (allT T) (⟨353, [pt b3], fun t => (t a).2⟩ : Clo) := ⟨Tryz.call353, fun t ht w' hH' => min2_g a b3 (by omega) _ h3 t w' hH'⟩
      refine WH.one (i := 8) zk (WHo.no rfl (SO.fail (Enters.func CaF.h rfl) (fun w hI => spans2_no T a1 _ c1 bq D5 _ hO hR hI.imm hv (⟨352, [pt b3], fun t => (t a).1⟩ : Clo) (⟨353, [pt b3], fun t => (t a).2⟩ : Clo) b16 h16 hC1 hC2 hne) (g [[1]] ?_)))
      refine WP.panicD (k := 0) [_, _, _] [_, _, _] rfl CaF.h rfl (fun w hI => catch351 _ _ _ _ _ (hI.own _ _ (List.mem_of_getElem? (i := 0) rfl))) rfl zV (fun w hI => ⟨congrArg Ending.returned (by rw [hO0]; rfl), hI.keep⟩)
    refine WHo.so rfl (SO.buildSlice UnF.h SzF.h ZvF.h rfl rfl rfl rfl (cs := [_, _]) rfl) rfl ?_
    rintro _ _ _ ⟨b16, hb16, rfl, rfl, rfl⟩
    refine ⟨(fun _ hI => hI.drop 99), ?_⟩
    refine WH.one (i := 4) zk (WHo.so rfl (SO.makes (Enters.func Tryz.call88 rfl) (fun w hI => open_ok T a1 _ c1 _ _ hR hI.imm hv)) rfl ?_)
    rintro _ D4 _ ⟨hX4, ⟨bq, rfl, hO⟩, rfl⟩
    replace hR := hR.ext hX4
    replace h3 := hX4.old _ _ h3
    refine ⟨(fun _ hI => (hI.drop 99).shrink hX4.old), ?_⟩
    refine WH.freezeN 0 b16 (.cells (List.toArray [cloV (⟨352, [pt b3], fun t => (t a).1⟩ : Clo), cloV (⟨353, [pt b3], fun t => (t a).2⟩ : Clo)]) 319 (0, 0)) rfl rfl hb16 (fun D5 hX5 h16 => ?_)
      
    replace hO := hO.ext hX5
    replace hR := hR.ext hX5
    replace h3 := hX5.old _ _ h3
    have hC1 : CloOK D5 (allT T) (⟨352, [pt b3], fun t => (t a).1⟩ : Clo) := ⟨Tryz.call352, fun t ht w' hH' => min1_g a b3 (by omega) _ h3 t w' hH'⟩
    have hC2 : CloOK D5 (allT T) (⟨353, [pt b3], fun t => (t a).2⟩ : Clo) := ⟨Tryz.call353, fun t ht w' hH' => min2_g a b3 (by omega) _ h3 t w' hH'⟩
    refine WH.one (i := 8) zk (WHo.no rfl (SO.fail (Enters.func CaF.h rfl) (fun w hI => spans2_no T a1 _ c1 bq D5 _ hO hR hI.imm hv (⟨352, [pt b3], fun t => (t a).1⟩ : Clo) (⟨353, [pt b3], fun t => (t a).2⟩ : Clo) b16 h16 hC1 hC2 hne) (g [[1]] ?_)))
    refine WP.panicD (k := 0) [_, _, _] [_, _, _] rfl CaF.h rfl (fun w hI => catch351 _ _ _ _ _ (hI.own _ _ (List.mem_of_getElem? (i := 0) rfl))) rfl zV (fun w hI => ⟨congrArg Ending.returned (by rw [hO0]; rfl), hI.keep⟩)
  refine WHo.so rfl (SO.buildSlice UnF.h SzF.h ZvF.h rfl rfl rfl rfl (cs := [_, _]) rfl) rfl ?_
  rintro _ _ _ ⟨b16, hb16, rfl, rfl, rfl⟩
  refine ⟨(fun _ hI => hI.drop 99), ?_⟩
  refine WH.one (i := 3) zk (WHo.so rfl (SO.callP CaF.h rfl (fun w hI => isTick_g T a1 _ c1 a _ rfl hl1)) rfl ?_)
  rintro _ _ _ ⟨rfl, rfl, rfl⟩
  refine ⟨(fun _ hI => hI.drop 99), ?_⟩
  refine WH.know 12 (.bool true) rfl (congrArg Value.bool hw) ?_
  refine WH.one (i := 4) zk (WHo.so rfl (SO.makes (Enters.func Tryz.call88 rfl) (fun w hI => open_ok T a1 _ c1 _ _ hR hI.imm hv)) rfl ?_)
  rintro _ D4 _ ⟨hX4, ⟨bq, rfl, hO⟩, rfl⟩
  replace hR := hR.ext hX4
  replace h3 := hX4.old _ _ h3
  refine ⟨(fun _ hI => (hI.drop 99).shrink hX4.old), ?_⟩
  refine WH.freezeN 0 b16 (.cells (List.toArray [cloV (⟨352, [pt b3], fun t => (t a).1⟩ : Clo), cloV (⟨353, [pt b3], fun t => (t a).2⟩ : Clo)]) 319 (0, 0)) rfl rfl hb16 (fun D5 hX5 h16 => ?_)
    
  replace hO := hO.ext hX5
  replace hR := hR.ext hX5
  replace h3 := hX5.old _ _ h3
  have hC1 : CloOK D5 (allT T) (⟨352, [pt b3], fun t => (t a).1⟩ : Clo) := ⟨Tryz.call352, fun t ht w' hH' => min1_g a b3 (by omega) _ h3 t w' hH'⟩
  have hC2 : CloOK D5 (allT T) (⟨353, [pt b3], fun t => (t a).2⟩ : Clo) := ⟨Tryz.call353, fun t ht w' hH' => min2_g a b3 (by omega) _ h3 t w' hH'⟩
  refine WH.one (i := 8) zk (WHo.no rfl (SO.fail (Enters.func CaF.h rfl) (fun w hI => spans2_no T a1 _ c1 bq D5 _ hO hR hI.imm hv (⟨352, [pt b3], fun t => (t a).1⟩ : Clo) (⟨353, [pt b3], fun t => (t a).2⟩ : Clo) b16 h16 hC1 hC2 hne) (g [[1]] ?_)))
  refine WP.panicD (k := 0) [_, _, _] [_, _, _] rfl CaF.h rfl (fun w hI => catch351 _ _ _ _ _ (hI.own _ _ (List.mem_of_getElem? (i := 0) rfl))) rfl zV (fun w hI => ⟨congrArg Ending.returned (by rw [hO0]; rfl), hI.keep⟩)
theorem Minutes_ok (T : Tks) (a1 : Option Addr) (n1 c1 : Nat) (D : Imm) (w : World) (hR : TksR D T a1 n1) (hH : Holds D w) (n : Int) (hv : tksB T = true) (hw : isT T n = true) (hne : allT T ≠ []) : Gives Tryz.prog 350 [.agg #[it T.huts, .slice a1 n1 c1], it n] w (.tuple #[spV (MinutesOut T n).1, spV (MinutesOut T n).2.1, it (MinutesOut T n).2.2]) := by
  unfold Gives
  obtain rfl := hR.tick.len'
  have hl1 := hR.len
  have hE : tksE T (isT T n) = 0 := by
    unfold tksE
    rw [if_neg (by rw [hv]; simp), if_neg (by rw [hw]; simp), if_neg (by rw [List.isEmpty_iff]; exact hne)]
  have hO0 : MinutesOut T n = (spanS (fun t => (t n.toNat).1) (allT T), spanS (fun t => (t n.toNat).2) (allT T), 0) := by unfold MinutesOut; rw [if_neg (by rw [hE]; simp)]
  have h5 := (tks_num hv).2.1
  obtain ⟨a, rfl, han⟩ := isT_nat hw
  refine enD Tryz.func350 rfl Tryz.ntmps350 (Inv.start hH) (g [[1],[1,0,1]] ?_)
  refine WL.so (SO.box rfl rfl) rfl (zw fun b2 hb2 => ?_)
  refine WL.so (SO.box rfl rfl) rfl (zw fun b3 hb3 => ?_)
  refine WL.so (SO.alloc ZvF.h rfl) rfl (zw fun b4 hb4 => ?_)
  refine WL.so (SO.alloc ZvF.h rfl) rfl (zw fun b5 hb5 => ?_)
  refine WL.so (SO.alloc ZvF.h rfl) rfl (zw fun b6 hb6 => ?_)
  refine g [[3],[2,6,5,4,3,2]] ?_
  refine WL.defer rfl (g [[3]] ?_)
  refine WC.freezeN 4 b2 (boxT T (.slice a1 T.l.length c1)) rfl rfl hb2 (fun D1 hX1 h2 => ?_)
  replace hR := hR.ext hX1
  refine WC.freezeN 3 b3 (.cells (List.toArray [it a]) 3 (0, 0)) rfl rfl hb3 (fun D3 hX3 h3 => ?_)
  replace hR := hR.ext hX3
  replace h2 := hX3.old _ _ h2
  refine g [[0,6,5,4,3,2]] ?_
  refine WC.drawH [] zk (fun _ hI => hI.drop 99) (g [[1000],[1001],[1002],[1005],[1006]] ?_)
  refine WH.two (i := 3) (j := 7) zk ?_ ?_
  · refine WHo.so rfl (SO.callP CaF.h rfl (fun w hI => isTick_g T a1 _ c1 a _ rfl hl1)) rfl ?_
    rintro _ _ _ ⟨rfl, rfl, rfl⟩
    refine ⟨(fun _ hI => hI.drop 99), ?_⟩
    refine WH.know 12 (.bool true) rfl (congrArg Value.bool hw) ?_
    refine WH.two (i := 4) (j := 7) zk ?_ ?_
    · refine WHo.so rfl (SO.makes (Enters.func Tryz.call88 rfl) (fun w hI => open_ok T a1 _ c1 _ _ hR hI.imm hv)) rfl ?_
      rintro _ D4 _ ⟨hX4, ⟨bq, rfl, hO⟩, rfl⟩
      replace hR := hR.ext hX4
      replace h3 := hX4.old _ _ h3
      refine ⟨(fun _ hI => (hI.drop 99).shrink hX4.old), ?_⟩
      refine WH.one (i := 7) zk (WHo.so rfl (SO.buildSlice UnF.h SzF.h ZvF.h rfl rfl rfl rfl (cs := [_, _]) rfl) rfl ?_)
      rintro _ _ _ ⟨b16, hb16, rfl, rfl, rfl⟩
      refine ⟨(fun _ hI => (hI.drop 99).shrink hX4.old), ?_⟩
      refine WH.freezeN 0 b16 (.cells (List.toArray [cloV (⟨352, [pt b3], fun t => (t a).1⟩ : Clo), cloV (⟨353, [pt b3], fun t => (t a).2⟩ : Clo)]) 319 (0, 0)) rfl rfl hb16 (fun D5 hX5 h16 => ?_)
      
      replace hO := hO.ext hX5
      replace hR := hR.ext hX5
      replace h3 := hX5.old _ _ h3
      have hC1 : CloOK D5 (allT T) (⟨352, [pt b3], fun t => (t a).1⟩ : Clo) := ⟨Tryz.call352, fun t ht w' hH' => min1_g a b3 (by omega) _ h3 t w' hH'⟩
      have hC2 : CloOK D5 (allT T) (⟨353, [pt b3], fun t => (t a).2⟩ : Clo) := ⟨Tryz.call353, fun t ht w' hH' => min2_g a b3 (by omega) _ h3 t w' hH'⟩
      refine WH.one (i := 8) zk (WHo.so rfl (SO.makes (Enters.func Tryz.call242 rfl) (fun w hI => spans2_ok T a1 _ c1 bq D5 _ hO hR hI.imm hv (⟨352, [pt b3], fun t => (t a).1⟩ : Clo) (⟨353, [pt b3], fun t => (t a).2⟩ : Clo) b16 h16 hC1 hC2 hne)) rfl ?_)
      rintro _ D6 _ ⟨hX6, ⟨a9, c9, rfl, hS9⟩, rfl⟩
      refine ⟨(fun _ hI => (hI.drop 99).shrink (fun b o h => hX6.old _ _ (hX5.old _ _ (hX4.old _ _ h)))), ?_⟩
      refine g [[1009]] ?_
      refine WH.nil zk (g [[2],[0,7,6,5,4]] ?_)
      refine WC.drawD [] (pz [1,3,5,7,9,11,12,14,16]) zk zk zX (fun _ hI => hI.drop 99) (g [[1]] ?_)
      refine WA.yd rfl (Yd.ix rfl rfl (hS9.addr 0 (by omega))) rfl (WA.yd rfl (Yd.lV [_, _] rfl ((hS9.at 0 (by omega)).rdn 0 2 rfl)) rfl (g [[1]] ?_))
      refine WA.yd rfl (Yd.ix rfl rfl (hS9.addr 0 (by omega))) rfl (WA.yd rfl (Yd.lV [_, _] rfl ((hS9.at 1 (by omega)).rdn 0 2 rfl)) rfl ?_)
      refine WA.so rfl (SO.store 2 rfl SzF.h rfl rfl rfl rfl (zqb rfl) (oneB_spec rfl)) rfl ?_
      rintro _ _ _ ⟨rfl, rfl, rfl⟩
      refine ⟨fun _ hI => hI.drop 99, ?_⟩
      refine WA.so rfl (SO.store 1 rfl SzF.h rfl rfl rfl rfl (zqb rfl) (oneB_spec rfl)) rfl ?_
      rintro _ _ _ ⟨rfl, rfl, rfl⟩
      refine ⟨fun _ hI => hI.drop 99, ?_⟩
      refine WA.so rfl (SO.store 0 rfl SzF.h rfl rfl rfl rfl (zqb rfl) (oneB_spec rfl)) rfl ?_
      rintro _ _ _ ⟨rfl, rfl, rfl⟩
      refine ⟨fun _ hI => hI.drop 99, ?_⟩
      refine g [[3]] ?_
      refine WP.endD [_, _, _] [_, _, _] rfl rfl CaF.h (fun w hI => idle351 _ _) rfl zV (fun w hI => ⟨congrArg Ending.returned (by rw [hO0]; rfl), hI.keep⟩)
    refine WHo.so rfl (SO.buildSlice UnF.h SzF.h ZvF.h rfl rfl rfl rfl (cs := [_, _]) rfl) rfl ?_
    rintro _ _ _ ⟨b16, hb16, rfl, rfl, rfl⟩
    refine ⟨(fun _ hI => hI.drop 99), ?_⟩
    refine WH.one (i := 4) zk (WHo.so rfl (SO.makes (Enters.func Tryz.call88 rfl) (fun w hI => open_ok T a1 _ c1 _ _ hR hI.imm hv)) rfl ?_)
    rintro _ D4 _ ⟨hX4, ⟨bq, rfl, hO⟩, rfl⟩
    replace hR := hR.ext hX4
    replace h3 := hX4.old _ _ h3
    refine ⟨(fun _ hI => (hI.drop 99).shrink hX4.old), ?_⟩
    refine WH.freezeN 0 b16 (.cells (List.toArray [cloV (⟨352, [pt b3], fun t => (t a).1⟩ : Clo), cloV (⟨353, [pt b3], fun t => (t a).2⟩ : Clo)]) 319 (0, 0)) rfl rfl hb16 (fun D5 hX5 h16 => ?_)
      
    replace hO := hO.ext hX5
    replace hR := hR.ext hX5
    replace h3 := hX5.old _ _ h3
    have hC1 : CloOK D5 (allT T) (⟨352, [pt b3], fun t => (t a).1⟩ : Clo) := ⟨Tryz.call352, fun t ht w' hH' => min1_g a b3 (by omega) _ h3 t w' hH'⟩
    have hC2 : CloOK D5 (allT T) (⟨353, [pt b3], fun t => (t a).2⟩ : Clo) := ⟨Tryz.call353, fun t ht w' hH' => min2_g a b3 (by omega) _ h3 t w' hH'⟩
    refine WH.one (i := 8) zk (WHo.so rfl (SO.makes (Enters.func Tryz.call242 rfl) (fun w hI => spans2_ok T a1 _ c1 bq D5 _ hO hR hI.imm hv (⟨352, [pt b3], fun t => (t a).1⟩ : Clo) (⟨353, [pt b3], fun t => (t a).2⟩ : Clo) b16 h16 hC1 hC2 hne)) rfl ?_)
    rintro _ D6 _ ⟨hX6, ⟨a9, c9, rfl, hS9⟩, rfl⟩
    refine ⟨(fun _ hI => (hI.drop 99).shrink (fun b o h => hX6.old _ _ (hX5.old _ _ (hX4.old _ _ h)))), ?_⟩
    refine g [[1009]] ?_
    refine WH.nil zk (g [[2],[0,7,6,5,4]] ?_)
    refine WC.drawD [] (pz [1,3,5,7,9,11,12,14,16]) zk zk zX (fun _ hI => hI.drop 99) (g [[1]] ?_)
    refine WA.yd rfl (Yd.ix rfl rfl (hS9.addr 0 (by omega))) rfl (WA.yd rfl (Yd.lV [_, _] rfl ((hS9.at 0 (by omega)).rdn 0 2 rfl)) rfl (g [[1]] ?_))
    refine WA.yd rfl (Yd.ix rfl rfl (hS9.addr 0 (by omega))) rfl (WA.yd rfl (Yd.lV [_, _] rfl ((hS9.at 1 (by omega)).rdn 0 2 rfl)) rfl ?_)
    refine WA.so rfl (SO.store 2 rfl SzF.h rfl rfl rfl rfl (zqb rfl) (oneB_spec rfl)) rfl ?_
    rintro _ _ _ ⟨rfl, rfl, rfl⟩
    refine ⟨fun _ hI => hI.drop 99, ?_⟩
    refine WA.so rfl (SO.store 1 rfl SzF.h rfl rfl rfl rfl (zqb rfl) (oneB_spec rfl)) rfl ?_
    rintro _ _ _ ⟨rfl, rfl, rfl⟩
    refine ⟨fun _ hI => hI.drop 99, ?_⟩
    refine WA.so rfl (SO.store 0 rfl SzF.h rfl rfl rfl rfl (zqb rfl) (oneB_spec rfl)) rfl ?_
    rintro _ _ _ ⟨rfl, rfl, rfl⟩
    refine ⟨fun _ hI => hI.drop 99, ?_⟩
    refine g [[3]] ?_
    refine WP.endD [_, _, _] [_, _, _] rfl rfl CaF.h (fun w hI => idle351 _ _) rfl zV (fun w hI => ⟨congrArg Ending.returned (by rw [hO0]; rfl), hI.keep⟩)
  refine WHo.so rfl (SO.buildSlice UnF.h SzF.h ZvF.h rfl rfl rfl rfl (cs := [_, _]) rfl) rfl ?_
  rintro _ _ _ ⟨b16, hb16, rfl, rfl, rfl⟩
  refine ⟨(fun _ hI => hI.drop 99), ?_⟩
  refine WH.one (i := 3) zk (WHo.so rfl (SO.callP CaF.h rfl (fun w hI => isTick_g T a1 _ c1 a _ rfl hl1)) rfl ?_)
  rintro _ _ _ ⟨rfl, rfl, rfl⟩
  refine ⟨(fun _ hI => hI.drop 99), ?_⟩
  refine WH.know 12 (.bool true) rfl (congrArg Value.bool hw) ?_
  refine WH.one (i := 4) zk (WHo.so rfl (SO.makes (Enters.func Tryz.call88 rfl) (fun w hI => open_ok T a1 _ c1 _ _ hR hI.imm hv)) rfl ?_)
  rintro _ D4 _ ⟨hX4, ⟨bq, rfl, hO⟩, rfl⟩
  replace hR := hR.ext hX4
  replace h3 := hX4.old _ _ h3
  refine ⟨(fun _ hI => (hI.drop 99).shrink hX4.old), ?_⟩
  refine WH.freezeN 0 b16 (.cells (List.toArray [cloV (⟨352, [pt b3], fun t => (t a).1⟩ : Clo), cloV (⟨353, [pt b3], fun t => (t a).2⟩ : Clo)]) 319 (0, 0)) rfl rfl hb16 (fun D5 hX5 h16 => ?_)
    
  replace hO := hO.ext hX5
  replace hR := hR.ext hX5
  replace h3 := hX5.old _ _ h3
  have hC1 : CloOK D5 (allT T) (⟨352, [pt b3], fun t => (t a).1⟩ : Clo) := ⟨Tryz.call352, fun t ht w' hH' => min1_g a b3 (by omega) _ h3 t w' hH'⟩
  have hC2 : CloOK D5 (allT T) (⟨353, [pt b3], fun t => (t a).2⟩ : Clo) := ⟨Tryz.call353, fun t ht w' hH' => min2_g a b3 (by omega) _ h3 t w' hH'⟩
  refine WH.one (i := 8) zk (WHo.so rfl (SO.makes (Enters.func Tryz.call242 rfl) (fun w hI => spans2_ok T a1 _ c1 bq D5 _ hO hR hI.imm hv (⟨352, [pt b3], fun t => (t a).1⟩ : Clo) (⟨353, [pt b3], fun t => (t a).2⟩ : Clo) b16 h16 hC1 hC2 hne)) rfl ?_)
  rintro _ D6 _ ⟨hX6, ⟨a9, c9, rfl, hS9⟩, rfl⟩
  refine ⟨(fun _ hI => (hI.drop 99).shrink (fun b o h => hX6.old _ _ (hX5.old _ _ (hX4.old _ _ h)))), ?_⟩
  refine g [[1009]] ?_
  refine WH.nil zk (g [[2],[0,7,6,5,4]] ?_)
  refine WC.drawD [] (pz [1,3,5,7,9,11,12,14,16]) zk zk zX (fun _ hI => hI.drop 99) (g [[1]] ?_)
  refine WA.yd rfl (Yd.ix rfl rfl (hS9.addr 0 (by omega))) rfl (WA.yd rfl (Yd.lV [_, _] rfl ((hS9.at 0 (by omega)).rdn 0 2 rfl)) rfl (g [[1]] ?_))
  refine WA.yd rfl (Yd.ix rfl rfl (hS9.addr 0 (by omega))) rfl (WA.yd rfl (Yd.lV [_, _] rfl ((hS9.at 1 (by omega)).rdn 0 2 rfl)) rfl ?_)
  refine WA.so rfl (SO.store 2 rfl SzF.h rfl rfl rfl rfl (zqb rfl) (oneB_spec rfl)) rfl ?_
  rintro _ _ _ ⟨rfl, rfl, rfl⟩
  refine ⟨fun _ hI => hI.drop 99, ?_⟩
  refine WA.so rfl (SO.store 1 rfl SzF.h rfl rfl rfl rfl (zqb rfl) (oneB_spec rfl)) rfl ?_
  rintro _ _ _ ⟨rfl, rfl, rfl⟩
  refine ⟨fun _ hI => hI.drop 99, ?_⟩
  refine WA.so rfl (SO.store 0 rfl SzF.h rfl rfl rfl rfl (zqb rfl) (oneB_spec rfl)) rfl ?_
  rintro _ _ _ ⟨rfl, rfl, rfl⟩
  refine ⟨fun _ hI => hI.drop 99, ?_⟩
  refine g [[3]] ?_
  refine WP.endD [_, _, _] [_, _, _] rfl rfl CaF.h (fun w hI => idle351 _ _) rfl zV (fun w hI => ⟨congrArg Ending.returned (by rw [hO0]; rfl), hI.keep⟩)
theorem Minutes_g (T : Tks) (a1 : Option Addr) (n1 c1 : Nat) (D : Imm) (w : World) (hR : TksR D T a1 n1) (hH : Holds D w) (n : Int) : Gives Tryz.prog 350 [.agg #[it T.huts, .slice a1 n1 c1], it n] w (.tuple #[spV (MinutesOut T n).1, spV (MinutesOut T n).2.1, it (MinutesOut T n).2.2]) := by
  cases hv : tksB T with
  | false => exact Minutes_1 T a1 n1 c1 D w hR hH n hv
  | true =>
    cases hw : isT T n with
    | false => exact Minutes_2 T a1 n1 c1 D w hR hH n hv hw
    | true =>
      by_cases hne : allT T = []
      · exact Minutes_3 T a1 n1 c1 D w hR hH n hv hw hne
      exact Minutes_ok T a1 n1 c1 D w hR hH n hv hw hne
end Go.Proofs.YtejgofaeafphjaaGreatDoor
namespace Go.Ti
open Go.W (gt gt_of)
def tillB (X : Till) : Bool := tksB X.tk && inB X.price 0 100 && inB X.fine 0 100 && inB X.wait 0 100
def entB (X : Till) (e : Ent) : Bool := isT X.tk e.ticket && inB e.kind 1 3
def tillE (X : Till) (l : List Ent) (is : Bool) : Int := if tillB X = false then 1 else if 20 < l.length then 3 else if is = false then 2 else if l.all (entB X) = false then 2 else 0
theorem tillE_1 {X : Till} {l : List Ent} {is : Bool} (h : tillB X = false) : tillE X l is = 1 := by unfold tillE; rw [if_pos h]
theorem tillE_3 {X : Till} {l : List Ent} {is : Bool} (h : tillB X = true) (h3 : 20 < l.length) : tillE X l is = 3 := by
  unfold tillE; rw [if_neg (by rw [h]; simp), if_pos h3]
theorem tillE_2 {X : Till} {l : List Ent} {is : Bool} (h : tillB X = true) (h3 : l.length ≤ 20) (hi : is = false) : tillE X l is = 2 := by
  unfold tillE; rw [if_neg (by rw [h]; simp), if_neg (by omega), if_pos hi]
theorem tillE_4 {X : Till} {l : List Ent} {is : Bool} (h : tillB X = true) (h3 : l.length ≤ 20) {k : Nat} (hk : k < l.length) (he : entB X (gt l k) = false) : tillE X l is = 2 := by
  have ha : l.all (entB X) = false := by
    rw [List.all_eq_false]
    exact ⟨gt l k, gt_mem hk, by rw [he]; simp⟩
  unfold tillE
  rw [if_neg (by rw [h]; simp), if_neg (by omega)]
  cases is <;> simp [ha]
theorem tillE_0 {X : Till} {l : List Ent} {is : Bool} (h : tillB X = true) (h3 : l.length ≤ 20) (hi : is = true) (ha : ∀ k, k < l.length → entB X (gt l k) = true) : tillE X l is = 0 := by
  unfold tillE
  rw [if_neg (by rw [h]; simp), if_neg (by omega), if_neg (by rw [hi]; simp), if_neg (by rw [all_iff.2 ha]; simp)]
theorem tillE_all {X : Till} {l : List Ent} {is : Bool} (h : tillE X l is = 0) : tillB X = true ∧ l.length ≤ 20 ∧ is = true ∧ ∀ k, k < l.length → entB X (gt l k) = true := by
  unfold tillE at h
  split at h
  · omega
  · split at h
    · omega
    · split at h
      · omega
      · split at h
        · omega
        · rename_i h1 h2 h3 h4
          exact ⟨by simpa using h1, by omega, by simpa using h3, all_iff.1 (by simpa using h4)⟩
theorem isT_neg (T : Tks) : isT T (-1) = false := decide_eq_false (by omega)
theorem tksE_neg (T : Tks) : tksE T (isT T (-1)) = if tksB T then 2 else 1 := by
  unfold tksE
  rw [isT_neg]
  cases tksB T <;> simp
theorem ent_kind {X : Till} {e : Ent} (h : entB X e = true) : ∃ a k : Nat, e.ticket = (a : Int) ∧ a < X.tk.l.length ∧ e.kind = (k : Int) ∧ 1 ≤ k ∧ k ≤ 3 := by
  unfold entB at h
  rw [Bool.and_eq_true] at h
  have h1 := of_decide_eq_true h.1
  have h2 := of_decide_eq_true h.2
  exact ⟨e.ticket.toNat, e.kind.toNat, by omega, by omega, by omega, by omega, by omega⟩
theorem tillB_num {X : Till} (h : tillB X = true) : tksB X.tk = true ∧ (0 ≤ X.price ∧ X.price ≤ 100) ∧ (0 ≤ X.fine ∧ X.fine ≤ 100) ∧ (0 ≤ X.wait ∧ X.wait ≤ 100) := by
  simp only [tillB, inB, Bool.and_eq_true, decide_eq_true_eq] at h
  exact ⟨h.1.1.1, h.1.1.2, h.1.2, h.2⟩
end Go.Ti
