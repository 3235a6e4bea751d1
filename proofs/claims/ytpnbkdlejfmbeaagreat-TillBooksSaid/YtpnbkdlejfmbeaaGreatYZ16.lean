import Derived.Test.YtpnbkdlejfmbeaaGreatYZ15
import Derived.Test.YtpnbkdlejfmbeaaGreatXY
set_option linter.unusedSimpArgs false
set_option linter.unusedVariables false
set_option linter.all false
set_option maxRecDepth 100000
set_option maxHeartbeats 1000000
namespace Go.Proofs.YtpnbkdlejfmbeaaGreat
open Go.W Go.Ti

theorem brok_none {X : Till} {l : List Ent} {k : Nat} (hd : ∀ i, i < k → ruleI X l i = 0) : brokL X l k = [] := by
  unfold brokL
  rw [List.filter_eq_nil_iff]
  intro i hi
  simp [hd i (List.mem_range.1 hi)]
theorem checkO_hit {X : Till} {l : List Ent} {k : Nat} (h0 : toldE X l = 0) (hk : k < l.length) (hd : ∀ i, i < k → ruleI X l i = 0) (hr : ruleI X l k ≠ 0) : CheckOut X l = ((k : Int), ruleI X l k, 0) := by
  obtain ⟨post, e⟩ := brok_split X l hk hr
  unfold CheckOut
  rw [if_neg (by rw [h0]; simp), e, brok_none hd]; rfl
theorem checkO_no {X : Till} {l : List Ent} (h0 : toldE X l = 0) (hd : ∀ i, i < l.length → ruleI X l i = 0) : CheckOut X l = (0, 0, 4) := by
  unfold CheckOut
  rw [if_neg (by rw [h0]; simp), brok_none hd]
theorem checkO_e {X : Till} {l : List Ent} (h0 : toldE X l ≠ 0) : CheckOut X l = (0, 0, toldE X l) := by unfold CheckOut; rw [if_pos h0]
theorem toldE_n4 (X : Till) (l : List Ent) : toldE X l ≠ 4 := by
  rw [toldE_is]
  unfold tolE tillE tksE
  repeat' split
  all_goals omega
def sumE (l : List Ent) (k : Nat) : Int := ((List.range k).map fun i => signI (gt l i)).sum
theorem sumE_succ (l : List Ent) (k : Nat) : sumE l (k + 1) = sumE l k + signI (gt l k) := by unfold sumE; rw [List.range_succ, List.map_append, List.sum_append]; simp
theorem sumE_y {l : List Ent} {k : Nat} (h : (gt l k).kind = 3) : sumE l (k + 1) = sumE l k - (gt l k).pence := by rw [sumE_succ]; unfold signI; rw [if_pos h]; omega
theorem sumE_n {l : List Ent} {k : Nat} (h : ¬ (gt l k).kind = 3) : sumE l (k + 1) = sumE l k + (gt l k).pence := by rw [sumE_succ]; unfold signI; rw [if_neg h]
theorem sumE_num {l : List Ent} {n : Nat} (hp : ∀ i, i < n → 0 ≤ (gt l i).pence ∧ (gt l i).pence ≤ 2400) : ∀ k, k ≤ n → -2400 * (k : Int) ≤ sumE l k ∧ sumE l k ≤ 2400 * (k : Int) := by
  intro k
  induction k with
  | zero => intro _; exact ⟨Int.le_refl 0, Int.le_refl 0⟩
  | succ k ih =>
    intro hk
    have h1 := ih (by omega)
    have h2 := hp k (by omega)
    by_cases h : (gt l k).kind = 3
    · rw [sumE_y h]; omega
    · rw [sumE_n h]; omega
theorem bits_yes {f : Nat → Bool} {n : Nat} (h : f n = true) : ((bitsI f (n + 1) : Nat) : Int) = (bitsI f n : Int) + ((2 ^ n : Nat) : Int) := by
  rw [show bitsI f (n + 1) = bitsI f n + if f n then 2 ^ n else 0 from rfl, if_pos h, Int.natCast_add]
theorem bits_no {f : Nat → Bool} {n : Nat} (h : f n = false) : bitsI f (n + 1) = bitsI f n := by
  rw [show bitsI f (n + 1) = bitsI f n + if f n then 2 ^ n else 0 from rfl, h]; rfl
def allR (f : List Pr → Bool) (rows : List TrR) (k : Nat) : Bool := (rows.take k).all fun r => f r.y
theorem allR_succ {f : List Pr → Bool} {rows : List TrR} {k : Nat} (hk : k < rows.length) : allR f rows (k + 1) = (allR f rows k && f (gt rows k).y) := by
  unfold allR
  rw [List.take_succ_eq_append_getElem hk, List.all_append, show gt rows k = rows[k] by simp [gt, List.getD, hk]]
  simp
theorem allR_t {f : List Pr → Bool} {rows : List TrR} {k : Nat} (hk : k < rows.length) (h : allR f rows k = true) : allR f rows (k + 1) = f (gt rows k).y := by rw [allR_succ hk, h]; rfl
theorem allR_f {f : List Pr → Bool} {rows : List TrR} {k : Nat} (hk : k < rows.length) (h : allR f rows k = false) : allR f rows (k + 1) = false := by rw [allR_succ hk, h]; rfl
theorem allR_all {D : Imm} {T : Tks} {rows : List TrR} {a : Option Addr} {n : Nat} (h : RowsM D T rows a n) (f : List Pr → Bool) : allR f rows rows.length = (RF T).all f := by
  unfold allR
  rw [List.take_length, ← h.ys, List.all_map]; rfl
theorem missY {X : Till} {l : List Ent} {k n : Nat} (hb : bookedB l (n : Int) (k : Int) = false) (h : k = 1 ∨ (spanOf X (n : Int) k).lo > 0) : missB X l k n = true := miss_iff.2 ⟨hb, h⟩
theorem missN {X : Till} {l : List Ent} {k n : Nat} (hb : bookedB l (n : Int) (k : Int) = true) : missB X l k n = false := by unfold missB; rw [hb]; rfl
theorem missNs {X : Till} {l : List Ent} {k n : Nat} (hk : k ≠ 1) (h : (spanOf X (n : Int) k).lo ≤ 0) : missB X l k n = false := by unfold missB; rw [decide_eq_false (show ¬ (spanOf X (n : Int) k).lo > 0 by omega), decide_eq_false hk]; simp

theorem check13_no (X : Till) (a1 : Option Addr) (n1 c1 : Nat) (D : Imm) (w : World) (hR : TksR D X.tk a1 n1) (hH : Holds D w) (l : List Ent) (ab : Option Addr) (nb cb : Nat) (hB : BookR D l ab nb) (h : toldE X l ≠ 0) : Gives Tryz.prog 19 [.agg #[it X.tk.huts, .slice a1 n1 c1, it X.price, it X.fine, it X.wait], .slice ab nb cb] w (.tuple #[it 0, it 0, it (toldE X l)]) := by
  unfold Gives
  obtain rfl := hR.tick.len'
  have hl1 := hR.len
  obtain rfl := hB.ent.len'
  have hlb := hB.len
  refine enter Tryz.func19 rfl 35 Tryz.ntmps19 (zqb rfl) (Inv.start hH) ?_
  refine WC.seq (WC.ofFr [(0, _), (1, _)] ⟨rfl, rfl, trivial⟩ (WC.region ?_))
  refine WL.so (SO.box rfl rfl) rfl ?_
  rintro _ _ _ ⟨b2, hb2, rfl, rfl, rfl⟩
  refine WL.yd (Yd.assign rfl) rfl ?_
  refine WL.yd (Yd.assign rfl) rfl ?_
  refine WL.yd (Yd.assign rfl) rfl ?_
  refine WL.nil (WP.thenC (WC.seq ?_))
  refine WC.freezeN 0 b2 (.cells (List.toArray (tillC X (.slice a1 X.tk.l.length c1))) 26 (0, 0)) rfl rfl hb2 (fun D2 hX2 h2 => ?_)
  replace hR := hR.ext hX2
  replace hB := hB.ext hX2
  refine WC.ofFr [(6, _), (5, _), (4, _), (2, _), (1, _)] ⟨rfl, rfl, rfl, rfl, rfl, trivial⟩ (WC.region ?_)
  refine WL.yd (Yd.loadN Tryz.isAgg26 Tryz.sizeOf26 rfl (vs := [_, _, _, _, _]) rfl (RdN.imm (n := 5) h2 rfl)) rfl ?_
  refine WL.yd (Yd.move rfl) rfl ?_
  refine WL.so (SO.callP Tryz.call47 rfl (fun w hI => told13_no X a1 _ c1 _ _ hR hI.imm l ab _ cb hB true h)) rfl ?_
  rintro _ _ _ ⟨rfl, rfl, rfl⟩
  refine WL.yd (Yd.move rfl) rfl ?_
  refine WL.yd (Yd.extract rfl rfl) rfl ?_
  refine WL.yd (Yd.extract rfl rfl) rfl ?_
  refine WL.yd (Yd.assign rfl) rfl ?_
  refine WL.yd (Yd.assign rfl) rfl ?_
  refine WL.nil (WP.thenC (WC.seq (WC.seq (WC.ofFr [(8, _), (7, _), (6, _), (5, _), (4, _), (2, _), (1, _)] ⟨rfl, rfl, rfl, rfl, rfl, rfl, rfl, trivial⟩ (WC.region ?_)))))
  refine WL.yd (Yd.move rfl) rfl ?_
  refine WL.yd (Yd.neq rfl rfl) rfl ?_
  refine WL.know 18 (.bool true) rfl (congrArg Value.bool (decide_eq_true (by (try dsimp only); exact h))) ?_
  refine WL.nil (WP.thenC ?_)
  refine WC.condT rfl ?_
  refine WC.seq (WC.ofFr [(8, _), (7, _), (6, _), (5, _), (4, _), (2, _), (1, _)] ⟨rfl, rfl, rfl, rfl, rfl, rfl, rfl, trivial⟩ (WC.region ?_))
  refine WL.yd (Yd.move rfl) rfl ?_
  refine WL.yd (Yd.assign rfl) rfl ?_
  refine WL.yd (Yd.assign rfl) rfl ?_
  refine WL.yd (Yd.assign rfl) rfl ?_
  refine WL.nil (WP.thenC (WC.ret (WP.thenRet ?_)))
  refine WP.ret3 rfl rfl Tryz.results19 (RV.tmp rfl) (RV.tmp rfl) (RV.tmp rfl) (fun w hI => ⟨rfl, hI.keep⟩)

theorem check13_ok (X : Till) (a1 : Option Addr) (n1 c1 : Nat) (D : Imm) (w : World) (hR : TksR D X.tk a1 n1) (hH : Holds D w) (l : List Ent) (ab : Option Addr) (nb cb : Nat) (hB : BookR D l ab nb) (h : toldE X l = 0) (hb : tillB X = true) (hA : l.all (entB X) = true) (hW : tksE X.tk true = 0) : Gives Tryz.prog 19 [.agg #[it X.tk.huts, .slice a1 n1 c1, it X.price, it X.fine, it X.wait], .slice ab nb cb] w (.tuple #[it (CheckOut X l).1, it (CheckOut X l).2.1, it (CheckOut X l).2.2]) := by
  unfold Gives
  obtain rfl := hR.tick.len'
  have hl1 := hR.len
  obtain rfl := hB.ent.len'
  have hlb := hB.len
  refine enter Tryz.func19 rfl 35 Tryz.ntmps19 (zqb rfl) (Inv.start hH) ?_
  refine WC.seq (WC.ofFr [(0, _), (1, _)] ⟨rfl, rfl, trivial⟩ (WC.region ?_))
  refine WL.so (SO.box rfl rfl) rfl ?_
  rintro _ _ _ ⟨b2, hb2, rfl, rfl, rfl⟩
  refine WL.yd (Yd.assign rfl) rfl ?_
  refine WL.yd (Yd.assign rfl) rfl ?_
  refine WL.yd (Yd.assign rfl) rfl ?_
  refine WL.nil (WP.thenC (WC.seq ?_))
  refine WC.freezeN 0 b2 (.cells (List.toArray (tillC X (.slice a1 X.tk.l.length c1))) 26 (0, 0)) rfl rfl hb2 (fun D2 hX2 h2 => ?_)
  replace hR := hR.ext hX2
  replace hB := hB.ext hX2
  refine WC.ofFr [(6, _), (5, _), (4, _), (2, _), (1, _)] ⟨rfl, rfl, rfl, rfl, rfl, trivial⟩ (WC.region ?_)
  refine WL.yd (Yd.loadN Tryz.isAgg26 Tryz.sizeOf26 rfl (vs := [_, _, _, _, _]) rfl (RdN.imm (n := 5) h2 rfl)) rfl ?_
  refine WL.yd (Yd.move rfl) rfl ?_
  refine WL.so (SO.makes (Enters.func Tryz.call47 rfl) (fun w hI => told13_ok X a1 _ c1 _ _ hR hI.imm l ab _ cb hB true h)) rfl ?_
  rintro _ D6 _ ⟨hX6, ⟨rows, a6, n6, c6, rfl, hM, hn6⟩, rfl⟩
  refine WL.yd (Yd.move rfl) rfl ?_
  refine WL.yd (Yd.extract rfl rfl) rfl ?_
  refine WL.yd (Yd.extract rfl rfl) rfl ?_
  refine WL.yd (Yd.assign rfl) rfl ?_
  refine WL.yd (Yd.assign rfl) rfl ?_
  refine WL.nil (WP.thenC (WC.seq (WC.seq ?_)))
  replace hR := hR.ext hX6
  replace h2 := hX6.old _ _ h2
  obtain rfl := hM.sl.len'
  have hn6l := hM.nn
  replace hB := hB.ext hX6
  refine WC.ofFr [(8, _), (7, _), (6, _), (5, _), (4, _), (2, _), (1, _)] ⟨rfl, rfl, rfl, rfl, rfl, rfl, rfl, trivial⟩ (WC.region ?_)
  refine WL.yd (Yd.move rfl) rfl ?_
  refine WL.yd (Yd.neq rfl rfl) rfl ?_
  refine WL.know 18 (.bool false) rfl (congrArg Value.bool (by decide)) ?_
  refine WL.nil (WP.thenC ?_)
  refine WC.condF rfl ?_
  refine WC.skip (WP.thenC (WC.seq (WC.seq (WC.ofFr [(7, _), (6, _), (5, _), (4, _), (2, _), (1, _)] ⟨rfl, rfl, rfl, rfl, rfl, rfl, trivial⟩ (WC.region ?_)))))
  refine WL.yd (Yd.assign rfl) rfl ?_
  refine WL.nil (WP.thenC (WC.block ?_))
  refine WC.loopF (fun k : Nat => [(1, .slice ab l.length cb), (2, pt b2), (7, .slice a6 rows.length c6), (9, nt k)]) (fun k => k ≤ l.length ∧ ∀ i, i < k → ruleI X l i = 0) (fun k => l.length - k) 0 ⟨by omega, by intro i hi; omega⟩ ⟨rfl, rfl, rfl, rfl, trivial⟩ ?_
  intro k ⟨hk, hd⟩
  refine WC.seq (WC.seq (WC.ofFr [(1, _), (2, _), (7, _), (9, _)] ⟨rfl, rfl, rfl, rfl, trivial⟩ (WC.region ?_)))
  refine WL.yd (Yd.move rfl) rfl ?_
  refine WL.yd (Yd.move rfl) rfl ?_
  refine WL.yd (Yd.lenS rfl Tryz.underlying38 rfl) rfl ?_
  refine WL.yd (Yd.lss rfl rfl) rfl ?_
  refine WL.nil (WP.thenC ?_)
  refine WC.cond rfl (fun c23 => ?_) (fun c23 => ?_)
  · try simp only [zq1, zq2, zq3, zq4, zq5, zq6, zq7, zq8] at c23
    have hkl : k < l.length := by omega
    refine WC.skip (WP.thenC (WC.seq (WC.block (WC.seq (WC.ofFr [(1, _), (2, _), (7, _), (9, _)] ⟨rfl, rfl, rfl, rfl, trivial⟩ (WC.region ?_))))))
    refine WL.yd (Yd.loadN Tryz.isAgg26 Tryz.sizeOf26 rfl (vs := [_, _, _, _, _]) rfl (RdN.imm (n := 5) h2 rfl)) rfl ?_
    refine WL.yd (Yd.move rfl) rfl ?_
    refine WL.yd (Yd.move rfl) rfl ?_
    refine WL.yd (Yd.move rfl) rfl ?_
    refine WL.so (SO.callP Tryz.call58 rfl (fun w hI => broken13_g X a1 _ c1 _ _ hR hI.imm rows a6 _ c6 hM hb hW l ab _ cb hB hA k (by omega))) rfl ?_
    rintro _ _ _ ⟨rfl, rfl, rfl⟩
    refine WL.yd (Yd.assign rfl) rfl ?_
    refine WL.nil (WP.thenC (WC.seq (WC.ofFr [(10, _), (1, _), (2, _), (7, _), (9, _)] ⟨rfl, rfl, rfl, rfl, rfl, trivial⟩ (WC.region ?_))))
    refine WL.yd (Yd.move rfl) rfl ?_
    refine WL.yd (Yd.neq rfl rfl) rfl ?_
    refine WL.nil (WP.thenC ?_)
    refine WC.cond rfl (fun c32 => ?_) (fun c32 => ?_)
    · try simp only [zq1, zq2, zq3, zq4, zq5, zq6, zq7, zq8] at c32
      refine WC.seq (WC.ofFr [(10, _), (1, _), (2, _), (7, _), (9, _)] ⟨rfl, rfl, rfl, rfl, rfl, trivial⟩ (WC.region ?_))
      refine WL.yd (Yd.move rfl) rfl ?_
      refine WL.yd (Yd.move rfl) rfl ?_
      refine WL.yd (Yd.assign rfl) rfl ?_
      refine WL.yd (Yd.assign rfl) rfl ?_
      refine WL.yd (Yd.assign rfl) rfl ?_
      refine WL.nil (WP.thenC (WC.ret (WP.blkRet (WP.thenRet (WP.thenRet (WP.blkRet (WP.thenRet ?_)))))))
      refine WP.ret3 rfl rfl Tryz.results19 (RV.tmp rfl) (RV.tmp rfl) (RV.tmp rfl) (fun w hI => ⟨congrArg Ending.returned ?_, hI.keep⟩)
      first
        | (rw [checkO_no h hd]; done)
        | (rw [checkO_hit h hkl hd (by omega)])
    · try simp only [zq1, zq2, zq3, zq4, zq5, zq6, zq7, zq8] at c32
      refine WC.skip (WP.blkNormal (WP.thenC (WC.ofFr [(1, _), (2, _), (7, _), (9, _)] ⟨rfl, rfl, rfl, rfl, trivial⟩ (WC.region ?_))))
      refine WL.yd (Yd.move rfl) rfl ?_
      refine WL.yd (Yd.addN (i := k) (j := 1) rfl rfl (by omega)) rfl ?_
      refine WL.yd (Yd.assign rfl) rfl ?_
      refine WL.nil ?_
      exact WP.againF (k + 1) ⟨by omega, ext_round hd (by omega)⟩ (by omega) ⟨rfl, rfl, rfl, rfl, trivial⟩ (fun _ h => h) (fun h => h)
  · try simp only [zq1, zq2, zq3, zq4, zq5, zq6, zq7, zq8] at c23
    obtain rfl : k = l.length := by omega
    refine WC.exit ?_
    refine WP.thenExit ?_
    refine WP.thenExit ?_
    refine WP.blkHit ?_
    refine WP.thenC (WC.seq (WC.ofFr [] trivial (WC.region ?_)))
    refine WL.yd (Yd.assign rfl) rfl ?_
    refine WL.yd (Yd.assign rfl) rfl ?_
    refine WL.yd (Yd.assign rfl) rfl ?_
    refine WL.nil (WP.thenC (WC.ret ?_))
    refine WP.ret3 rfl rfl Tryz.results19 (RV.tmp rfl) (RV.tmp rfl) (RV.tmp rfl) (fun w hI => ⟨congrArg Ending.returned ?_, hI.keep⟩)
    first
      | (rw [checkO_no h hd]; done)
      | (rw [checkO_hit h hkl hd (by omega)])

theorem Check13_g (X : Till) (a1 : Option Addr) (n1 c1 : Nat) (D : Imm) (w : World) (hR : TksR D X.tk a1 n1) (hH : Holds D w) (l : List Ent) (ab : Option Addr) (nb cb : Nat) (hB : BookR D l ab nb) : Gives Tryz.prog 19 [.agg #[it X.tk.huts, .slice a1 n1 c1, it X.price, it X.fine, it X.wait], .slice ab nb cb] w (.tuple #[it (CheckOut X l).1, it (CheckOut X l).2.1, it (CheckOut X l).2.2]) := by
  by_cases h : toldE X l = 0
  · obtain ⟨q1, q2, q3, q4, q5⟩ := tol_split (show tolE X l true = 0 from h)
    exact check13_ok X a1 n1 c1 D w hR hH l ab nb cb hB h q1 q4 q5
  · rw [checkO_e h]
    exact check13_no X a1 n1 c1 D w hR hH l ab nb cb hB h

theorem sum13_no (X : Till) (a1 : Option Addr) (n1 c1 : Nat) (D : Imm) (w : World) (hR : TksR D X.tk a1 n1) (hH : Holds D w) (l : List Ent) (ab : Option Addr) (nb cb : Nat) (hB : BookR D l ab nb) (h : toldE X l ≠ 0) : Gives Tryz.prog 23 [.agg #[it X.tk.huts, .slice a1 n1 c1, it X.price, it X.fine, it X.wait], .slice ab nb cb] w (.tuple #[it 0, it (toldE X l)]) := by
  unfold Gives
  obtain rfl := hR.tick.len'
  have hl1 := hR.len
  obtain rfl := hB.ent.len'
  have hlb := hB.len
  refine enter Tryz.func23 rfl 50 Tryz.ntmps23 (zqb rfl) (Inv.start hH) ?_
  refine WC.seq (WC.ofFr [(0, _), (1, _)] ⟨rfl, rfl, trivial⟩ (WC.region ?_))
  refine WL.so (SO.box rfl rfl) rfl ?_
  rintro _ _ _ ⟨b2, hb2, rfl, rfl, rfl⟩
  refine WL.yd (Yd.assign rfl) rfl ?_
  refine WL.yd (Yd.assign rfl) rfl ?_
  refine WL.nil (WP.thenC (WC.seq ?_))
  refine WC.freezeN 0 b2 (.cells (List.toArray (tillC X (.slice a1 X.tk.l.length c1))) 26 (0, 0)) rfl rfl hb2 (fun D2 hX2 h2 => ?_)
  replace hR := hR.ext hX2
  replace hB := hB.ext hX2
  refine WC.ofFr [(5, _), (4, _), (2, _), (1, _)] ⟨rfl, rfl, rfl, rfl, trivial⟩ (WC.region ?_)
  refine WL.yd (Yd.loadN Tryz.isAgg26 Tryz.sizeOf26 rfl (vs := [_, _, _, _, _]) rfl (RdN.imm (n := 5) h2 rfl)) rfl ?_
  refine WL.yd (Yd.move rfl) rfl ?_
  refine WL.so (SO.callP Tryz.call19 rfl (fun w hI => Gives.cv (.tuple #[it 0, it 0, it (toldE X l)]) (Check13_g X a1 _ c1 _ _ hR hI.imm l ab _ cb hB) (by rw [checkO_e h]))) rfl ?_
  rintro _ _ _ ⟨rfl, rfl, rfl⟩
  refine WL.yd (Yd.move rfl) rfl ?_
  refine WL.yd (Yd.extract rfl rfl) rfl ?_
  refine WL.yd (Yd.extract rfl rfl) rfl ?_
  refine WL.yd (Yd.extract rfl rfl) rfl ?_
  refine WL.yd (Yd.assign rfl) rfl ?_
  refine WL.yd (Yd.assign rfl) rfl ?_
  refine WL.yd (Yd.assign rfl) rfl ?_
  refine WL.nil (WP.thenC (WC.seq (WC.seq (WC.ofFr [(8, _), (5, _), (4, _), (1, _)] ⟨rfl, rfl, rfl, rfl, trivial⟩ (WC.region ?_)))))
  refine WL.yd (Yd.move rfl) rfl ?_
  refine WL.yd (Yd.eql rfl rfl) rfl ?_
  refine WL.know 19 (.bool false) rfl (congrArg Value.bool (decide_eq_false (by (try dsimp only); exact h))) ?_
  refine WL.nil (WP.thenC ?_)
  refine WC.condF rfl ?_
  refine WC.skip (WP.thenC (WC.seq (WC.seq (WC.ofFr [(8, _), (5, _), (4, _), (1, _)] ⟨rfl, rfl, rfl, rfl, trivial⟩ (WC.region ?_)))))
  refine WL.yd (Yd.move rfl) rfl ?_
  refine WL.yd (Yd.neq rfl rfl) rfl ?_
  refine WL.know 21 (.bool true) rfl (congrArg Value.bool (decide_eq_true (by (try dsimp only); exact toldE_n4 X l))) ?_
  refine WL.nil (WP.thenC ?_)
  refine WC.condT rfl ?_
  refine WC.seq (WC.ofFr [(8, _), (5, _), (4, _), (1, _)] ⟨rfl, rfl, rfl, rfl, trivial⟩ (WC.region ?_))
  refine WL.yd (Yd.move rfl) rfl ?_
  refine WL.yd (Yd.assign rfl) rfl ?_
  refine WL.yd (Yd.assign rfl) rfl ?_
  refine WL.nil (WP.thenC (WC.ret (WP.thenRet ?_)))
  refine WP.ret2 rfl rfl Tryz.results23 (RV.tmp rfl) (RV.tmp rfl) (fun w hI => ⟨rfl, hI.keep⟩)

theorem sum13_hit (X : Till) (a1 : Option Addr) (n1 c1 : Nat) (D : Imm) (w : World) (hR : TksR D X.tk a1 n1) (hH : Holds D w) (l : List Ent) (ab : Option Addr) (nb cb : Nat) (hB : BookR D l ab nb) (k : Nat) (r : Int) (hc : CheckOut X l = ((k : Int), r, 0)) : Gives Tryz.prog 23 [.agg #[it X.tk.huts, .slice a1 n1 c1, it X.price, it X.fine, it X.wait], .slice ab nb cb] w (.tuple #[it 0, it 11]) := by
  unfold Gives
  obtain rfl := hR.tick.len'
  have hl1 := hR.len
  obtain rfl := hB.ent.len'
  have hlb := hB.len
  refine enter Tryz.func23 rfl 50 Tryz.ntmps23 (zqb rfl) (Inv.start hH) ?_
  refine WC.seq (WC.ofFr [(0, _), (1, _)] ⟨rfl, rfl, trivial⟩ (WC.region ?_))
  refine WL.so (SO.box rfl rfl) rfl ?_
  rintro _ _ _ ⟨b2, hb2, rfl, rfl, rfl⟩
  refine WL.yd (Yd.assign rfl) rfl ?_
  refine WL.yd (Yd.assign rfl) rfl ?_
  refine WL.nil (WP.thenC (WC.seq ?_))
  refine WC.freezeN 0 b2 (.cells (List.toArray (tillC X (.slice a1 X.tk.l.length c1))) 26 (0, 0)) rfl rfl hb2 (fun D2 hX2 h2 => ?_)
  replace hR := hR.ext hX2
  replace hB := hB.ext hX2
  refine WC.ofFr [(5, _), (4, _), (2, _), (1, _)] ⟨rfl, rfl, rfl, rfl, trivial⟩ (WC.region ?_)
  refine WL.yd (Yd.loadN Tryz.isAgg26 Tryz.sizeOf26 rfl (vs := [_, _, _, _, _]) rfl (RdN.imm (n := 5) h2 rfl)) rfl ?_
  refine WL.yd (Yd.move rfl) rfl ?_
  refine WL.so (SO.callP Tryz.call19 rfl (fun w hI => Gives.cv (.tuple #[it (k : Int), it r, it 0]) (Check13_g X a1 _ c1 _ _ hR hI.imm l ab _ cb hB) (by rw [hc]))) rfl ?_
  rintro _ _ _ ⟨rfl, rfl, rfl⟩
  refine WL.yd (Yd.move rfl) rfl ?_
  refine WL.yd (Yd.extract rfl rfl) rfl ?_
  refine WL.yd (Yd.extract rfl rfl) rfl ?_
  refine WL.yd (Yd.extract rfl rfl) rfl ?_
  refine WL.yd (Yd.assign rfl) rfl ?_
  refine WL.yd (Yd.assign rfl) rfl ?_
  refine WL.yd (Yd.assign rfl) rfl ?_
  refine WL.nil (WP.thenC (WC.seq (WC.seq (WC.ofFr [(8, _), (5, _), (4, _), (1, _)] ⟨rfl, rfl, rfl, rfl, trivial⟩ (WC.region ?_)))))
  refine WL.yd (Yd.move rfl) rfl ?_
  refine WL.yd (Yd.eql rfl rfl) rfl ?_
  refine WL.know 19 (.bool true) rfl (congrArg Value.bool (by decide)) ?_
  refine WL.nil (WP.thenC ?_)
  refine WC.condT rfl ?_
  refine WC.seq (WC.ofFr [(8, _), (5, _), (4, _), (1, _)] ⟨rfl, rfl, rfl, rfl, trivial⟩ (WC.region ?_))
  refine WL.yd (Yd.assign rfl) rfl ?_
  refine WL.yd (Yd.assign rfl) rfl ?_
  refine WL.nil (WP.thenC (WC.ret (WP.thenRet ?_)))
  refine WP.ret2 rfl rfl Tryz.results23 (RV.tmp rfl) (RV.tmp rfl) (fun w hI => ⟨rfl, hI.keep⟩)

theorem sum13_c (X : Till) (a1 : Option Addr) (n1 c1 : Nat) (D : Imm) (w : World) (hR : TksR D X.tk a1 n1) (hH : Holds D w) (l : List Ent) (ab : Option Addr) (nb cb : Nat) (hB : BookR D l ab nb) (hc : CheckOut X l = (0, 0, 4)) (hp : ∀ i, i < l.length → 0 ≤ (gt l i).pence ∧ (gt l i).pence ≤ 2400) : Gives Tryz.prog 23 [.agg #[it X.tk.huts, .slice a1 n1 c1, it X.price, it X.fine, it X.wait], .slice ab nb cb] w (.tuple #[it (sumE l l.length), it 0]) := by
  unfold Gives
  obtain rfl := hR.tick.len'
  have hl1 := hR.len
  obtain rfl := hB.ent.len'
  have hlb := hB.len
  refine enter Tryz.func23 rfl 50 Tryz.ntmps23 (zqb rfl) (Inv.start hH) ?_
  refine WC.seq (WC.ofFr [(0, _), (1, _)] ⟨rfl, rfl, trivial⟩ (WC.region ?_))
  refine WL.so (SO.box rfl rfl) rfl ?_
  rintro _ _ _ ⟨b2, hb2, rfl, rfl, rfl⟩
  refine WL.yd (Yd.assign rfl) rfl ?_
  refine WL.yd (Yd.assign rfl) rfl ?_
  refine WL.nil (WP.thenC (WC.seq ?_))
  refine WC.freezeN 0 b2 (.cells (List.toArray (tillC X (.slice a1 X.tk.l.length c1))) 26 (0, 0)) rfl rfl hb2 (fun D2 hX2 h2 => ?_)
  replace hR := hR.ext hX2
  replace hB := hB.ext hX2
  refine WC.ofFr [(5, _), (4, _), (2, _), (1, _)] ⟨rfl, rfl, rfl, rfl, trivial⟩ (WC.region ?_)
  refine WL.yd (Yd.loadN Tryz.isAgg26 Tryz.sizeOf26 rfl (vs := [_, _, _, _, _]) rfl (RdN.imm (n := 5) h2 rfl)) rfl ?_
  refine WL.yd (Yd.move rfl) rfl ?_
  refine WL.so (SO.callP Tryz.call19 rfl (fun w hI => Gives.cv (.tuple #[it 0, it 0, it 4]) (Check13_g X a1 _ c1 _ _ hR hI.imm l ab _ cb hB) (by rw [hc]))) rfl ?_
  rintro _ _ _ ⟨rfl, rfl, rfl⟩
  refine WL.yd (Yd.move rfl) rfl ?_
  refine WL.yd (Yd.extract rfl rfl) rfl ?_
  refine WL.yd (Yd.extract rfl rfl) rfl ?_
  refine WL.yd (Yd.extract rfl rfl) rfl ?_
  refine WL.yd (Yd.assign rfl) rfl ?_
  refine WL.yd (Yd.assign rfl) rfl ?_
  refine WL.yd (Yd.assign rfl) rfl ?_
  refine WL.nil (WP.thenC (WC.seq (WC.seq (WC.ofFr [(8, _), (5, _), (4, _), (1, _)] ⟨rfl, rfl, rfl, rfl, trivial⟩ (WC.region ?_)))))
  refine WL.yd (Yd.move rfl) rfl ?_
  refine WL.yd (Yd.eql rfl rfl) rfl ?_
  refine WL.know 19 (.bool false) rfl (congrArg Value.bool (by decide)) ?_
  refine WL.nil (WP.thenC ?_)
  refine WC.condF rfl ?_
  refine WC.skip (WP.thenC (WC.seq (WC.seq (WC.ofFr [(8, _), (5, _), (4, _), (1, _)] ⟨rfl, rfl, rfl, rfl, trivial⟩ (WC.region ?_)))))
  refine WL.yd (Yd.move rfl) rfl ?_
  refine WL.yd (Yd.neq rfl rfl) rfl ?_
  refine WL.know 21 (.bool false) rfl (congrArg Value.bool (by decide)) ?_
  refine WL.nil (WP.thenC ?_)
  refine WC.condF rfl ?_
  refine WC.skip (WP.thenC (WC.seq (WC.ofFr [(5, _), (4, _), (1, _)] ⟨rfl, rfl, rfl, trivial⟩ (WC.region ?_))))
  refine WL.yd (Yd.assign rfl) rfl ?_
  refine WL.nil (WP.thenC (WC.seq (WC.seq (WC.ofFr [(9, _), (5, _), (4, _), (1, _)] ⟨rfl, rfl, rfl, rfl, trivial⟩ (WC.region ?_)))))
  refine WL.yd (Yd.assign rfl) rfl ?_
  refine WL.nil (WP.thenC (WC.block ?_))
  refine WC.loopF (fun k : Nat => [(1, .slice ab l.length cb), (9, it (sumE l k)), (10, nt k)]) (fun k => k ≤ l.length) (fun k => l.length - k) 0 (by omega) ⟨rfl, rfl, rfl, trivial⟩ ?_
  intro k hk
  refine WC.seq (WC.seq (WC.ofFr [(1, _), (9, _), (10, _)] ⟨rfl, rfl, rfl, trivial⟩ (WC.region ?_)))
  refine WL.yd (Yd.move rfl) rfl ?_
  refine WL.yd (Yd.move rfl) rfl ?_
  refine WL.yd (Yd.lenS rfl Tryz.underlying38 rfl) rfl ?_
  refine WL.yd (Yd.lss rfl rfl) rfl ?_
  refine WL.nil (WP.thenC ?_)
  refine WC.cond rfl (fun c26 => ?_) (fun c26 => ?_)
  · try simp only [zq1, zq2, zq3, zq4, zq5, zq6, zq7, zq8] at c26
    have hkl : k < l.length := by omega
    have hpk := hp k hkl
    have hsk := sumE_num hp k (by omega)
    refine WC.skip (WP.thenC (WC.seq (WC.block (WC.seq (WC.ofFr [(1, _), (9, _), (10, _)] ⟨rfl, rfl, rfl, trivial⟩ (WC.region ?_))))))
    refine WL.yd (Yd.move rfl) rfl ?_
    refine WL.yd (Yd.move rfl) rfl ?_
    refine WL.yd (Yd.indexS Tryz.underlying38 Tryz.sizeOf49 rfl rfl (by (try dsimp only); omega) (by (try dsimp only); omega) (by first | exact hB.ent.addr k (by omega))) rfl ?_
    refine WL.yd (Yd.fieldAddr FA49_1 rfl) rfl ?_
    refine WL.yd (Yd.load1 Tryz.isAgg3 rfl (by first | exact ((hB.ent.at k (by omega)).rd 1 rfl) | exact ((hB.ent.at k (by omega)).rd 2 rfl))) rfl ?_
    refine WL.yd (Yd.eql rfl rfl) rfl ?_
    refine WL.nil (WP.thenC ?_)
    refine WC.cond rfl (fun c34 => ?_) (fun c34 => ?_)
    · try simp only [zq1, zq2, zq3, zq4, zq5, zq6, zq7, zq8] at c34
      refine WC.ofFr [(1, _), (9, _), (10, _)] ⟨rfl, rfl, rfl, trivial⟩ (WC.region ?_)
      refine WL.yd (Yd.move rfl) rfl ?_
      refine WL.yd (Yd.move rfl) rfl ?_
      refine WL.yd (Yd.move rfl) rfl ?_
      refine WL.yd (Yd.indexS Tryz.underlying38 Tryz.sizeOf49 rfl rfl (by (try dsimp only); omega) (by (try dsimp only); omega) (by first | exact hB.ent.addr k (by omega))) rfl ?_
      refine WL.yd (Yd.fieldAddr FA49_2 rfl) rfl ?_
      refine WL.yd (Yd.load1 Tryz.isAgg3 rfl (by first | exact ((hB.ent.at k (by omega)).rd 1 rfl) | exact ((hB.ent.at k (by omega)).rd 2 rfl))) rfl ?_
      refine WL.yd (Yd.sub rfl rfl (wr64 ⟨by (try dsimp only); omega, by (try dsimp only); omega⟩)) rfl ?_
      refine WL.yd (Yd.assign rfl) rfl ?_
      refine WL.nil (WP.blkNormal (WP.thenC (WC.ofFr [(9, _), (1, _), (10, _)] ⟨rfl, rfl, rfl, trivial⟩ (WC.region ?_))))
      refine WL.yd (Yd.move rfl) rfl ?_
      refine WL.yd (Yd.addN (i := k) (j := 1) rfl rfl (by omega)) rfl ?_
      refine WL.yd (Yd.assign rfl) rfl ?_
      refine WL.nil ?_
      first
        | exact WP.againF (k + 1) (by omega) (by omega) ⟨rfl, by rw [sumE_y (by assumption)]; rfl, rfl, trivial⟩ (fun _ h => h) (fun h => h)
        | exact WP.againF (k + 1) (by omega) (by omega) ⟨rfl, by rw [sumE_n (by assumption)]; rfl, rfl, trivial⟩ (fun _ h => h) (fun h => h)
    · try simp only [zq1, zq2, zq3, zq4, zq5, zq6, zq7, zq8] at c34
      refine WC.ofFr [(1, _), (9, _), (10, _)] ⟨rfl, rfl, rfl, trivial⟩ (WC.region ?_)
      refine WL.yd (Yd.move rfl) rfl ?_
      refine WL.yd (Yd.move rfl) rfl ?_
      refine WL.yd (Yd.move rfl) rfl ?_
      refine WL.yd (Yd.indexS Tryz.underlying38 Tryz.sizeOf49 rfl rfl (by (try dsimp only); omega) (by (try dsimp only); omega) (by first | exact hB.ent.addr k (by omega))) rfl ?_
      refine WL.yd (Yd.fieldAddr FA49_2 rfl) rfl ?_
      refine WL.yd (Yd.load1 Tryz.isAgg3 rfl (by first | exact ((hB.ent.at k (by omega)).rd 1 rfl) | exact ((hB.ent.at k (by omega)).rd 2 rfl))) rfl ?_
      refine WL.yd (Yd.add rfl rfl (wr64 ⟨by (try dsimp only); omega, by (try dsimp only); omega⟩)) rfl ?_
      refine WL.yd (Yd.assign rfl) rfl ?_
      refine WL.nil (WP.blkNormal (WP.thenC (WC.ofFr [(9, _), (1, _), (10, _)] ⟨rfl, rfl, rfl, trivial⟩ (WC.region ?_))))
      refine WL.yd (Yd.move rfl) rfl ?_
      refine WL.yd (Yd.addN (i := k) (j := 1) rfl rfl (by omega)) rfl ?_
      refine WL.yd (Yd.assign rfl) rfl ?_
      refine WL.nil ?_
      first
        | exact WP.againF (k + 1) (by omega) (by omega) ⟨rfl, by rw [sumE_y (by assumption)]; rfl, rfl, trivial⟩ (fun _ h => h) (fun h => h)
        | exact WP.againF (k + 1) (by omega) (by omega) ⟨rfl, by rw [sumE_n (by assumption)]; rfl, rfl, trivial⟩ (fun _ h => h) (fun h => h)
  · try simp only [zq1, zq2, zq3, zq4, zq5, zq6, zq7, zq8] at c26
    obtain rfl : k = l.length := by omega
    refine WC.exit ?_
    refine WP.thenExit ?_
    refine WP.thenExit ?_
    refine WP.blkHit ?_
    refine WP.thenC (WC.seq (WC.ofFr [(9, _)] ⟨rfl, trivial⟩ (WC.region ?_)))
    refine WL.yd (Yd.move rfl) rfl ?_
    refine WL.yd (Yd.assign rfl) rfl ?_
    refine WL.yd (Yd.assign rfl) rfl ?_
    refine WL.nil (WP.thenC (WC.ret ?_))
    refine WP.ret2 rfl rfl Tryz.results23 (RV.tmp rfl) (RV.tmp rfl) (fun w hI => ⟨rfl, hI.keep⟩)

theorem sum13_ok (X : Till) (a1 : Option Addr) (n1 c1 : Nat) (D : Imm) (w : World) (hR : TksR D X.tk a1 n1) (hH : Holds D w) (l : List Ent) (ab : Option Addr) (nb cb : Nat) (hB : BookR D l ab nb) (h : toldE X l = 0) (hb : tillB X = true) (hA : l.all (entB X) = true) (hW : tksE X.tk true = 0) : Gives Tryz.prog 23 [.agg #[it X.tk.huts, .slice a1 n1 c1, it X.price, it X.fine, it X.wait], .slice ab nb cb] w (.tuple #[it (SumOut X l).1, it (SumOut X l).2]) := by
  unfold SumOut
  rw [if_neg (by rw [h]; simp)]
  cases hbr : brokL X l l.length with
  | nil =>
    rw [if_neg (by simp)]
    have z := sum13_c X a1 n1 c1 D w hR hH l ab nb cb hB (checkO_no h (brok_nil hbr)) (fun i hi => can_num hb (rule_zero (brok_nil hbr i hi)))
    exact z
  | cons i r =>
    rw [if_pos (by simp)]
    exact sum13_hit X a1 n1 c1 D w hR hH l ab nb cb hB i (ruleI X l i) (by unfold CheckOut; rw [if_neg (by rw [h]; simp), hbr])

theorem Sum13_g (X : Till) (a1 : Option Addr) (n1 c1 : Nat) (D : Imm) (w : World) (hR : TksR D X.tk a1 n1) (hH : Holds D w) (l : List Ent) (ab : Option Addr) (nb cb : Nat) (hB : BookR D l ab nb) : Gives Tryz.prog 23 [.agg #[it X.tk.huts, .slice a1 n1 c1, it X.price, it X.fine, it X.wait], .slice ab nb cb] w (.tuple #[it (SumOut X l).1, it (SumOut X l).2]) := by
  by_cases h : toldE X l = 0
  · obtain ⟨q1, q2, q3, q4, q5⟩ := tol_split (show tolE X l true = 0 from h)
    exact sum13_ok X a1 n1 c1 D w hR hH l ab nb cb hB h q1 q4 q5
  · rw [show SumOut X l = (0, toldE X l) by unfold SumOut; rw [if_pos h]]
    exact sum13_no X a1 n1 c1 D w hR hH l ab nb cb hB h

theorem miss13_no (X : Till) (a1 : Option Addr) (n1 c1 : Nat) (D : Imm) (w : World) (hR : TksR D X.tk a1 n1) (hH : Holds D w) (l : List Ent) (ab : Option Addr) (nb cb : Nat) (hB : BookR D l ab nb) (h : toldE X l ≠ 0) : Gives Tryz.prog 21 [.agg #[it X.tk.huts, .slice a1 n1 c1, it X.price, it X.fine, it X.wait], .slice ab nb cb] w (.tuple #[it 0, it 0, it 0, it (toldE X l)]) := by
  unfold Gives
  obtain rfl := hR.tick.len'
  have hl1 := hR.len
  obtain rfl := hB.ent.len'
  have hlb := hB.len
  refine enter Tryz.func21 rfl 95 Tryz.ntmps21 (zqb rfl) (Inv.start hH) ?_
  refine WC.seq (WC.ofFr [(0, _), (1, _)] ⟨rfl, rfl, trivial⟩ (WC.region ?_))
  refine WL.so (SO.box rfl rfl) rfl ?_
  rintro _ _ _ ⟨b2, hb2, rfl, rfl, rfl⟩
  refine WL.yd (Yd.assign rfl) rfl ?_
  refine WL.yd (Yd.assign rfl) rfl ?_
  refine WL.yd (Yd.assign rfl) rfl ?_
  refine WL.yd (Yd.assign rfl) rfl ?_
  refine WL.nil (WP.thenC (WC.seq ?_))
  refine WC.freezeN 0 b2 (.cells (List.toArray (tillC X (.slice a1 X.tk.l.length c1))) 26 (0, 0)) rfl rfl hb2 (fun D2 hX2 h2 => ?_)
  replace hR := hR.ext hX2
  replace hB := hB.ext hX2
  refine WC.ofFr [(7, _), (6, _), (5, _), (4, _), (2, _), (1, _)] ⟨rfl, rfl, rfl, rfl, rfl, rfl, trivial⟩ (WC.region ?_)
  refine WL.yd (Yd.loadN Tryz.isAgg26 Tryz.sizeOf26 rfl (vs := [_, _, _, _, _]) rfl (RdN.imm (n := 5) h2 rfl)) rfl ?_
  refine WL.yd (Yd.move rfl) rfl ?_
  refine WL.so (SO.callP Tryz.call47 rfl (fun w hI => told13_no X a1 _ c1 _ _ hR hI.imm l ab _ cb hB true h)) rfl ?_
  rintro _ _ _ ⟨rfl, rfl, rfl⟩
  refine WL.yd (Yd.move rfl) rfl ?_
  refine WL.yd (Yd.extract rfl rfl) rfl ?_
  refine WL.yd (Yd.extract rfl rfl) rfl ?_
  refine WL.yd (Yd.assign rfl) rfl ?_
  refine WL.yd (Yd.assign rfl) rfl ?_
  refine WL.nil (WP.thenC (WC.seq (WC.seq (WC.ofFr [(9, _), (8, _), (7, _), (6, _), (5, _), (4, _), (2, _), (1, _)] ⟨rfl, rfl, rfl, rfl, rfl, rfl, rfl, rfl, trivial⟩ (WC.region ?_)))))
  refine WL.yd (Yd.move rfl) rfl ?_
  refine WL.yd (Yd.neq rfl rfl) rfl ?_
  refine WL.know 24 (.bool true) rfl (congrArg Value.bool (decide_eq_true (by (try dsimp only); exact h))) ?_
  refine WL.nil (WP.thenC ?_)
  refine WC.condT rfl ?_
  refine WC.seq (WC.ofFr [(9, _), (8, _), (7, _), (6, _), (5, _), (4, _), (2, _), (1, _)] ⟨rfl, rfl, rfl, rfl, rfl, rfl, rfl, rfl, trivial⟩ (WC.region ?_))
  refine WL.yd (Yd.move rfl) rfl ?_
  refine WL.yd (Yd.assign rfl) rfl ?_
  refine WL.yd (Yd.assign rfl) rfl ?_
  refine WL.yd (Yd.assign rfl) rfl ?_
  refine WL.yd (Yd.assign rfl) rfl ?_
  refine WL.nil (WP.thenC (WC.ret (WP.thenRet ?_)))
  refine WP.ret4 rfl rfl Tryz.results21 (RV.tmp rfl) (RV.tmp rfl) (RV.tmp rfl) (RV.tmp rfl) (fun w hI => ⟨rfl, hI.keep⟩)

theorem miss13_ok (X : Till) (a1 : Option Addr) (n1 c1 : Nat) (D : Imm) (w : World) (hR : TksR D X.tk a1 n1) (hH : Holds D w) (l : List Ent) (ab : Option Addr) (nb cb : Nat) (hB : BookR D l ab nb) (h : toldE X l = 0) (hb : tillB X = true) (hA : l.all (entB X) = true) (hW : tksE X.tk true = 0) : Gives Tryz.prog 21 [.agg #[it X.tk.huts, .slice a1 n1 c1, it X.price, it X.fine, it X.wait], .slice ab nb cb] w (.tuple #[it (MissOut X l).1, it (MissOut X l).2.1, it (MissOut X l).2.2.1, it (MissOut X l).2.2.2]) := by
  unfold Gives
  obtain rfl := hR.tick.len'
  have hl1 := hR.len
  obtain rfl := hB.ent.len'
  have hlb := hB.len
  have hv := (tillB_num hb).1
  have h5 := (tks_num hv).2.1
  refine enter Tryz.func21 rfl 95 Tryz.ntmps21 (zqb rfl) (Inv.start hH) ?_
  refine WC.seq (WC.ofFr [(0, _), (1, _)] ⟨rfl, rfl, trivial⟩ (WC.region ?_))
  refine WL.so (SO.box rfl rfl) rfl ?_
  rintro _ _ _ ⟨b2, hb2, rfl, rfl, rfl⟩
  refine WL.yd (Yd.assign rfl) rfl ?_
  refine WL.yd (Yd.assign rfl) rfl ?_
  refine WL.yd (Yd.assign rfl) rfl ?_
  refine WL.yd (Yd.assign rfl) rfl ?_
  refine WL.nil (WP.thenC (WC.seq ?_))
  refine WC.freezeN 0 b2 (.cells (List.toArray (tillC X (.slice a1 X.tk.l.length c1))) 26 (0, 0)) rfl rfl hb2 (fun D2 hX2 h2 => ?_)
  replace hR := hR.ext hX2
  replace hB := hB.ext hX2
  refine WC.ofFr [(7, _), (6, _), (5, _), (4, _), (2, _), (1, _)] ⟨rfl, rfl, rfl, rfl, rfl, rfl, trivial⟩ (WC.region ?_)
  refine WL.yd (Yd.loadN Tryz.isAgg26 Tryz.sizeOf26 rfl (vs := [_, _, _, _, _]) rfl (by first | exact (RdN.imm (n := 5) h2 rfl) | exact ((hM.sl.at i (by omega)).rdn 0 2 rfl))) rfl ?_
  refine WL.yd (Yd.move rfl) rfl ?_
  refine WL.so (SO.makes (Enters.func Tryz.call47 rfl) (fun w hI => told13_ok X a1 _ c1 _ _ hR hI.imm l ab _ cb hB true h)) rfl ?_
  rintro _ D6 _ ⟨hX6, ⟨rows, a6, n6, c6, rfl, hM, hn6⟩, rfl⟩
  refine WL.yd (Yd.move rfl) rfl ?_
  refine WL.yd (Yd.extract rfl rfl) rfl ?_
  refine WL.yd (Yd.extract rfl rfl) rfl ?_
  refine WL.yd (Yd.assign rfl) rfl ?_
  refine WL.yd (Yd.assign rfl) rfl ?_
  refine WL.nil (WP.thenC (WC.seq (WC.seq ?_)))
  replace hR := hR.ext hX6
  replace h2 := hX6.old _ _ h2
  obtain rfl := hM.sl.len'
  have hn6l := hM.nn
  replace hB := hB.ext hX6
  refine WC.ofFr [(9, _), (8, _), (7, _), (6, _), (5, _), (4, _), (2, _), (1, _)] ⟨rfl, rfl, rfl, rfl, rfl, rfl, rfl, rfl, trivial⟩ (WC.region ?_)
  refine WL.yd (Yd.move rfl) rfl ?_
  refine WL.yd (Yd.neq rfl rfl) rfl ?_
  refine WL.know 24 (.bool false) rfl (congrArg Value.bool (by decide)) ?_
  refine WL.nil (WP.thenC ?_)
  refine WC.condF rfl ?_
  refine WC.skip (WP.thenC (WC.seq (WC.ofFr [(8, _), (7, _), (6, _), (5, _), (4, _), (2, _), (1, _)] ⟨rfl, rfl, rfl, rfl, rfl, rfl, rfl, trivial⟩ (WC.region ?_))))
  refine WL.yd (Yd.assign rfl) rfl ?_
  refine WL.yd (Yd.assign rfl) rfl ?_
  refine WL.yd (Yd.assign rfl) rfl ?_
  refine WL.nil (WP.thenC (WC.seq (WC.seq (WC.ofFr [(12, _), (11, _), (10, _), (8, _), (7, _), (6, _), (5, _), (4, _), (2, _), (1, _)] ⟨rfl, rfl, rfl, rfl, rfl, rfl, rfl, rfl, rfl, rfl, trivial⟩ (WC.region ?_)))))
  refine WL.yd (Yd.assign rfl) rfl ?_
  refine WL.nil (WP.thenC (WC.block ?_))
  refine WC.loopF (fun k : Nat => [(1, .slice ab l.length cb), (2, pt b2), (8, .slice a6 rows.length c6), (10, it ((bitsI (missB X l 1) k : Nat) : Int)), (11, it ((bitsI (missB X l 2) k : Nat) : Int)), (12, it ((bitsI (missB X l 3) k : Nat) : Int)), (13, nt k)]) (fun k => k ≤ X.tk.l.length) (fun k => X.tk.l.length - k) 0 (by omega) ⟨rfl, rfl, rfl, rfl, rfl, rfl, rfl, trivial⟩ ?_
  intro k hk
  refine WC.seq (WC.seq (WC.ofFr [(1, _), (2, _), (8, _), (10, _), (11, _), (12, _), (13, _)] ⟨rfl, rfl, rfl, rfl, rfl, rfl, rfl, trivial⟩ (WC.region ?_)))
  refine WL.yd (Yd.move rfl) rfl ?_
  refine WL.yd (Yd.fieldAddr FA26_0 rfl) rfl ?_
  refine WL.yd (Yd.fieldAddr FA24_1 rfl) rfl ?_
  refine WL.yd (Yd.load1 Tryz.isAgg22 rfl (Rd.imm h2 rfl)) rfl ?_
  refine WL.yd (Yd.lenS rfl Tryz.underlying22 rfl) rfl ?_
  refine WL.yd (Yd.lss rfl rfl) rfl ?_
  refine WL.nil (WP.thenC ?_)
  refine WC.cond rfl (fun c31 => ?_) (fun c31 => ?_)
  · try simp only [zq1, zq2, zq3, zq4, zq5, zq6, zq7, zq8] at c31
    have hkl : k < X.tk.l.length := by omega
    have hb1 := bits_lt (missB X l 1) k
    have hb2 := bits_lt (missB X l 2) k
    have hb3 := bits_lt (missB X l 3) k
    have h2k : 2 ^ k ≤ 2 ^ 5 := Nat.pow_le_pow_right (by omega) (by omega)
    have hin : isT X.tk (k : Int) = true := decide_eq_true (by omega)
    refine WC.skip (WP.thenC (WC.seq (WC.block (WC.seq (WC.ofFr [(1, _), (2, _), (8, _), (10, _), (11, _), (12, _), (13, _)] ⟨rfl, rfl, rfl, rfl, rfl, rfl, rfl, trivial⟩ (WC.region ?_))))))
    refine WL.yd (Yd.assign rfl) rfl ?_
    refine WL.yd (Yd.assign rfl) rfl ?_
    refine WL.nil (WP.thenC (WC.seq (WC.seq (WC.ofFr [(15, _), (14, _), (1, _), (2, _), (8, _), (10, _), (11, _), (12, _), (13, _)] ⟨rfl, rfl, rfl, rfl, rfl, rfl, rfl, rfl, rfl, trivial⟩ (WC.region ?_)))))
    refine WL.yd (Yd.assign rfl) rfl ?_
    refine WL.nil (WP.thenC (WC.block ?_))
    refine WC.loopF (fun i : Nat => [(1, .slice ab l.length cb), (2, pt b2), (8, .slice a6 rows.length c6), (10, it ((bitsI (missB X l 1) k : Nat) : Int)), (11, it ((bitsI (missB X l 2) k : Nat) : Int)), (12, it ((bitsI (missB X l 3) k : Nat) : Int)), (13, nt k), (14, .bool (allR (fun y => decide (fineY X y k > 0)) rows i)), (15, .bool (allR (fun y => decide (backY X y k > 0)) rows i)), (16, nt i)]) (fun i => i ≤ rows.length) (fun i => rows.length - i) 0 (by omega) ⟨rfl, rfl, rfl, rfl, rfl, rfl, rfl, rfl, rfl, rfl, trivial⟩ ?_
    intro i hi
    refine WC.seq (WC.seq (WC.ofFr [(1, _), (2, _), (8, _), (10, _), (11, _), (12, _), (13, _), (14, _), (15, _), (16, _)] ⟨rfl, rfl, rfl, rfl, rfl, rfl, rfl, rfl, rfl, rfl, trivial⟩ (WC.region ?_)))
    refine WL.yd (Yd.move rfl) rfl ?_
    refine WL.yd (Yd.move rfl) rfl ?_
    refine WL.yd (Yd.lenS rfl Tryz.underlying81 rfl) rfl ?_
    refine WL.yd (Yd.lss rfl rfl) rfl ?_
    refine WL.nil (WP.thenC ?_)
    refine WC.cond rfl (fun c37 => ?_) (fun c37 => ?_)
    · try simp only [zq1, zq2, zq3, zq4, zq5, zq6, zq7, zq8] at c37
      have hir : i < rows.length := by omega
      have hqn := hM.num hv hir
      refine WC.skip (WP.thenC (WC.seq (WC.block (WC.seq (WC.ofFr [(1, _), (2, _), (8, _), (10, _), (11, _), (12, _), (13, _), (14, _), (15, _), (16, _)] ⟨rfl, rfl, rfl, rfl, rfl, rfl, rfl, rfl, rfl, rfl, trivial⟩ ?_)))))
      refine WC.tail 8 [0, 1, 2, 3, 4, 5, 6, 7] rfl (by kernel_rfl) (by kernel_rfl)  ?_
      refine WQ.q rfl (Yd.qt (Yd.move rfl)) rfl ?_
      refine WQ.q rfl (Yd.qt (Yd.move rfl)) rfl ?_
      refine WQ.part 41 rfl (fun g41 => ?_) (fun g41 => ?_)
      · try simp only [zq1, zq2, zq3, zq4, zq5, zq6, zq7, zq8] at g41
        refine WQ.qg rfl rfl (Yd.qt (Yd.loadN Tryz.isAgg26 Tryz.sizeOf26 rfl (vs := [_, _, _, _, _]) rfl (by first | exact (RdN.imm (n := 5) h2 rfl) | exact ((hM.sl.at i (by omega)).rdn 0 2 rfl)))) rfl ?_
        refine WQ.qg rfl rfl (Yd.qt (Yd.move rfl)) rfl ?_
        refine WQ.qg rfl rfl (Yd.qt (Yd.move rfl)) rfl ?_
        refine WQ.qg rfl rfl (Yd.qt (Yd.indexS Tryz.underlying81 Tryz.sizeOf87 rfl rfl (by (try dsimp only); omega) (by (try dsimp only); omega) (by first | exact hM.sl.addr i (by omega)))) rfl ?_
        refine WQ.qg rfl rfl (Yd.qt (Yd.loadN Tryz.isAgg87 Tryz.sizeOf87 rfl (vs := [_, _]) rfl (by first | exact (RdN.imm (n := 5) h2 rfl) | exact ((hM.sl.at i (by omega)).rdn 0 2 rfl)))) rfl ?_
        refine WQ.qg rfl rfl (Yd.qt (Yd.move rfl)) rfl ?_
        refine WQ.tail ?_
        refine WL.sog rfl (SO.callP Tryz.call49 rfl (fun w hI => fineOf_g X a1 _ c1 (gt rows i) _ _ (hM.mem (by omega)).1 hI.imm k (by omega) (by omega))) rfl ?_
        rintro _ _ _ ⟨rfl, rfl, rfl⟩
        refine WL.ydg rfl (Yd.gtr rfl rfl) rfl ?_
        refine WL.yd (Yd.pickT rfl rfl) rfl ?_
        refine WL.yd (Yd.assign rfl) rfl ?_
        refine WL.nil (WP.thenC (WC.ofFr [(14, _), (1, _), (2, _), (8, _), (10, _), (11, _), (12, _), (13, _), (15, _), (16, _)] ⟨rfl, rfl, rfl, rfl, rfl, rfl, rfl, rfl, rfl, rfl, trivial⟩ ?_))
        refine WC.tail 8 [0, 1, 2, 3, 4, 5, 6, 7] rfl (by kernel_rfl) (by kernel_rfl)  ?_
        refine WQ.q rfl (Yd.qt (Yd.move rfl)) rfl ?_
        refine WQ.q rfl (Yd.qt (Yd.move rfl)) rfl ?_
        refine WQ.part 52 rfl (fun g52 => ?_) (fun g52 => ?_)
        · try simp only [zq1, zq2, zq3, zq4, zq5, zq6, zq7, zq8] at g52
          refine WQ.qg rfl rfl (Yd.qt (Yd.loadN Tryz.isAgg26 Tryz.sizeOf26 rfl (vs := [_, _, _, _, _]) rfl (by first | exact (RdN.imm (n := 5) h2 rfl) | exact ((hM.sl.at i (by omega)).rdn 0 2 rfl)))) rfl ?_
          refine WQ.qg rfl rfl (Yd.qt (Yd.move rfl)) rfl ?_
          refine WQ.qg rfl rfl (Yd.qt (Yd.move rfl)) rfl ?_
          refine WQ.qg rfl rfl (Yd.qt (Yd.indexS Tryz.underlying81 Tryz.sizeOf87 rfl rfl (by (try dsimp only); omega) (by (try dsimp only); omega) (by first | exact hM.sl.addr i (by omega)))) rfl ?_
          refine WQ.qg rfl rfl (Yd.qt (Yd.loadN Tryz.isAgg87 Tryz.sizeOf87 rfl (vs := [_, _]) rfl (by first | exact (RdN.imm (n := 5) h2 rfl) | exact ((hM.sl.at i (by omega)).rdn 0 2 rfl)))) rfl ?_
          refine WQ.qg rfl rfl (Yd.qt (Yd.move rfl)) rfl ?_
          refine WQ.tail ?_
          refine WL.sog rfl (SO.callP Tryz.call55 rfl (fun w hI => backOf_g X a1 _ c1 (gt rows i) _ _ (hM.mem (by omega)).1 hI.imm k (by omega) (tillB_num hb).2.2.2 (hqn.2 k (by omega)))) rfl ?_
          rintro _ _ _ ⟨rfl, rfl, rfl⟩
          refine WL.ydg rfl (Yd.gtr rfl rfl) rfl ?_
          refine WL.yd (Yd.pickT rfl rfl) rfl ?_
          refine WL.yd (Yd.assign rfl) rfl ?_
          refine WL.nil (WP.blkNormal (WP.thenC (WC.ofFr [(15, _), (14, _), (1, _), (2, _), (8, _), (10, _), (11, _), (12, _), (13, _), (16, _)] ⟨rfl, rfl, rfl, rfl, rfl, rfl, rfl, rfl, rfl, rfl, trivial⟩ (WC.region ?_))))
          refine WL.yd (Yd.move rfl) rfl ?_
          refine WL.yd (Yd.addN (i := i) (j := 1) rfl rfl (by omega)) rfl ?_
          refine WL.yd (Yd.assign rfl) rfl ?_
          refine WL.nil ?_
          exact WP.againF (i + 1) (by omega) (by omega) ⟨rfl, rfl, rfl, rfl, rfl, rfl, rfl, by first | (rw [allR_t (f := (fun y => decide (fineY X y k > 0))) hir (by assumption)]; rfl) | (rw [allR_f (f := (fun y => decide (fineY X y k > 0))) hir (by assumption)]; rfl), by first | (rw [allR_t (f := (fun y => decide (backY X y k > 0))) hir (by assumption)]; rfl) | (rw [allR_f (f := (fun y => decide (backY X y k > 0))) hir (by assumption)]; rfl), rfl, trivial⟩ (fun _ h => h) (fun h => h)
        · try simp only [zq1, zq2, zq3, zq4, zq5, zq6, zq7, zq8] at g52
          refine WQ.skip rfl rfl rfl ?_
          refine WQ.skip rfl rfl rfl ?_
          refine WQ.skip rfl rfl rfl ?_
          refine WQ.skip rfl rfl rfl ?_
          refine WQ.skip rfl rfl rfl ?_
          refine WQ.skip rfl rfl rfl ?_
          refine WQ.tail ?_
          refine WL.skip rfl rfl ?_
          refine WL.skip rfl rfl ?_
          refine WL.yd (Yd.pickF rfl rfl) rfl ?_
          refine WL.yd (Yd.assign rfl) rfl ?_
          refine WL.nil (WP.blkNormal (WP.thenC (WC.ofFr [(15, _), (14, _), (1, _), (2, _), (8, _), (10, _), (11, _), (12, _), (13, _), (16, _)] ⟨rfl, rfl, rfl, rfl, rfl, rfl, rfl, rfl, rfl, rfl, trivial⟩ (WC.region ?_))))
          refine WL.yd (Yd.move rfl) rfl ?_
          refine WL.yd (Yd.addN (i := i) (j := 1) rfl rfl (by omega)) rfl ?_
          refine WL.yd (Yd.assign rfl) rfl ?_
          refine WL.nil ?_
          exact WP.againF (i + 1) (by omega) (by omega) ⟨rfl, rfl, rfl, rfl, rfl, rfl, rfl, by first | (rw [allR_t (f := (fun y => decide (fineY X y k > 0))) hir (by assumption)]; rfl) | (rw [allR_f (f := (fun y => decide (fineY X y k > 0))) hir (by assumption)]; rfl), by first | (rw [allR_t (f := (fun y => decide (backY X y k > 0))) hir (by assumption)]; rfl) | (rw [allR_f (f := (fun y => decide (backY X y k > 0))) hir (by assumption)]; rfl), rfl, trivial⟩ (fun _ h => h) (fun h => h)
      · try simp only [zq1, zq2, zq3, zq4, zq5, zq6, zq7, zq8] at g41
        refine WQ.skip rfl rfl rfl ?_
        refine WQ.skip rfl rfl rfl ?_
        refine WQ.skip rfl rfl rfl ?_
        refine WQ.skip rfl rfl rfl ?_
        refine WQ.skip rfl rfl rfl ?_
        refine WQ.skip rfl rfl rfl ?_
        refine WQ.tail ?_
        refine WL.skip rfl rfl ?_
        refine WL.skip rfl rfl ?_
        refine WL.yd (Yd.pickF rfl rfl) rfl ?_
        refine WL.yd (Yd.assign rfl) rfl ?_
        refine WL.nil (WP.thenC (WC.ofFr [(14, _), (1, _), (2, _), (8, _), (10, _), (11, _), (12, _), (13, _), (15, _), (16, _)] ⟨rfl, rfl, rfl, rfl, rfl, rfl, rfl, rfl, rfl, rfl, trivial⟩ ?_))
        refine WC.tail 8 [0, 1, 2, 3, 4, 5, 6, 7] rfl (by kernel_rfl) (by kernel_rfl)  ?_
        refine WQ.q rfl (Yd.qt (Yd.move rfl)) rfl ?_
        refine WQ.q rfl (Yd.qt (Yd.move rfl)) rfl ?_
        refine WQ.part 52 rfl (fun g52 => ?_) (fun g52 => ?_)
        · try simp only [zq1, zq2, zq3, zq4, zq5, zq6, zq7, zq8] at g52
          refine WQ.qg rfl rfl (Yd.qt (Yd.loadN Tryz.isAgg26 Tryz.sizeOf26 rfl (vs := [_, _, _, _, _]) rfl (by first | exact (RdN.imm (n := 5) h2 rfl) | exact ((hM.sl.at i (by omega)).rdn 0 2 rfl)))) rfl ?_
          refine WQ.qg rfl rfl (Yd.qt (Yd.move rfl)) rfl ?_
          refine WQ.qg rfl rfl (Yd.qt (Yd.move rfl)) rfl ?_
          refine WQ.qg rfl rfl (Yd.qt (Yd.indexS Tryz.underlying81 Tryz.sizeOf87 rfl rfl (by (try dsimp only); omega) (by (try dsimp only); omega) (by first | exact hM.sl.addr i (by omega)))) rfl ?_
          refine WQ.qg rfl rfl (Yd.qt (Yd.loadN Tryz.isAgg87 Tryz.sizeOf87 rfl (vs := [_, _]) rfl (by first | exact (RdN.imm (n := 5) h2 rfl) | exact ((hM.sl.at i (by omega)).rdn 0 2 rfl)))) rfl ?_
          refine WQ.qg rfl rfl (Yd.qt (Yd.move rfl)) rfl ?_
          refine WQ.tail ?_
          refine WL.sog rfl (SO.callP Tryz.call55 rfl (fun w hI => backOf_g X a1 _ c1 (gt rows i) _ _ (hM.mem (by omega)).1 hI.imm k (by omega) (tillB_num hb).2.2.2 (hqn.2 k (by omega)))) rfl ?_
          rintro _ _ _ ⟨rfl, rfl, rfl⟩
          refine WL.ydg rfl (Yd.gtr rfl rfl) rfl ?_
          refine WL.yd (Yd.pickT rfl rfl) rfl ?_
          refine WL.yd (Yd.assign rfl) rfl ?_
          refine WL.nil (WP.blkNormal (WP.thenC (WC.ofFr [(15, _), (14, _), (1, _), (2, _), (8, _), (10, _), (11, _), (12, _), (13, _), (16, _)] ⟨rfl, rfl, rfl, rfl, rfl, rfl, rfl, rfl, rfl, rfl, trivial⟩ (WC.region ?_))))
          refine WL.yd (Yd.move rfl) rfl ?_
          refine WL.yd (Yd.addN (i := i) (j := 1) rfl rfl (by omega)) rfl ?_
          refine WL.yd (Yd.assign rfl) rfl ?_
          refine WL.nil ?_
          exact WP.againF (i + 1) (by omega) (by omega) ⟨rfl, rfl, rfl, rfl, rfl, rfl, rfl, by first | (rw [allR_t (f := (fun y => decide (fineY X y k > 0))) hir (by assumption)]; rfl) | (rw [allR_f (f := (fun y => decide (fineY X y k > 0))) hir (by assumption)]; rfl), by first | (rw [allR_t (f := (fun y => decide (backY X y k > 0))) hir (by assumption)]; rfl) | (rw [allR_f (f := (fun y => decide (backY X y k > 0))) hir (by assumption)]; rfl), rfl, trivial⟩ (fun _ h => h) (fun h => h)
        · try simp only [zq1, zq2, zq3, zq4, zq5, zq6, zq7, zq8] at g52
          refine WQ.skip rfl rfl rfl ?_
          refine WQ.skip rfl rfl rfl ?_
          refine WQ.skip rfl rfl rfl ?_
          refine WQ.skip rfl rfl rfl ?_
          refine WQ.skip rfl rfl rfl ?_
          refine WQ.skip rfl rfl rfl ?_
          refine WQ.tail ?_
          refine WL.skip rfl rfl ?_
          refine WL.skip rfl rfl ?_
          refine WL.yd (Yd.pickF rfl rfl) rfl ?_
          refine WL.yd (Yd.assign rfl) rfl ?_
          refine WL.nil (WP.blkNormal (WP.thenC (WC.ofFr [(15, _), (14, _), (1, _), (2, _), (8, _), (10, _), (11, _), (12, _), (13, _), (16, _)] ⟨rfl, rfl, rfl, rfl, rfl, rfl, rfl, rfl, rfl, rfl, trivial⟩ (WC.region ?_))))
          refine WL.yd (Yd.move rfl) rfl ?_
          refine WL.yd (Yd.addN (i := i) (j := 1) rfl rfl (by omega)) rfl ?_
          refine WL.yd (Yd.assign rfl) rfl ?_
          refine WL.nil ?_
          exact WP.againF (i + 1) (by omega) (by omega) ⟨rfl, rfl, rfl, rfl, rfl, rfl, rfl, by first | (rw [allR_t (f := (fun y => decide (fineY X y k > 0))) hir (by assumption)]; rfl) | (rw [allR_f (f := (fun y => decide (fineY X y k > 0))) hir (by assumption)]; rfl), by first | (rw [allR_t (f := (fun y => decide (backY X y k > 0))) hir (by assumption)]; rfl) | (rw [allR_f (f := (fun y => decide (backY X y k > 0))) hir (by assumption)]; rfl), rfl, trivial⟩ (fun _ h => h) (fun h => h)
    · try simp only [zq1, zq2, zq3, zq4, zq5, zq6, zq7, zq8] at c37
      obtain rfl : i = rows.length := by omega
      have hfa := fine_all hb hW hin
      have hba := back_all hb hW hin
      rw [Int.toNat_natCast] at hfa hba
      rw [← allR_all hM] at hfa hba
      refine WC.exit ?_
      refine WP.thenExit ?_
      refine WP.thenExit ?_
      refine WP.blkHit ?_
      refine WP.thenC ?_
      refine WC.seqJ (fun _ : Unit => [(1, .slice ab l.length cb), (2, pt b2), (8, .slice a6 rows.length c6), (10, it ((bitsI (missB X l 1) (k + 1) : Nat) : Int)), (11, it ((bitsI (missB X l 2) k : Nat) : Int)), (12, it ((bitsI (missB X l 3) k : Nat) : Int)), (13, nt k), (14, .bool (decide ((fineSp X (k : Int)).lo > 0))), (15, .bool (decide ((backSp X (k : Int)).lo > 0)))]) (fun _ => []) (fun _ => D6) (fun _ => True) ?_ ?_
      · rintro ⟨⟩ -
        refine WC.seqJ (fun _ : Unit => [(1, .slice ab l.length cb), (2, pt b2), (8, .slice a6 rows.length c6), (10, it ((bitsI (missB X l 1) (k + 1) : Nat) : Int)), (11, it ((bitsI (missB X l 2) (k + 1) : Nat) : Int)), (12, it ((bitsI (missB X l 3) k : Nat) : Int)), (13, nt k), (14, .bool (decide ((fineSp X (k : Int)).lo > 0))), (15, .bool (decide ((backSp X (k : Int)).lo > 0)))]) (fun _ => []) (fun _ => D6) (fun _ => True) ?_ ?_
        · rintro ⟨⟩ -
          refine WC.seq (WC.ofFr [(1, _), (2, _), (8, _), (10, _), (11, _), (12, _), (13, _), (15, _)] ⟨rfl, rfl, rfl, rfl, rfl, rfl, rfl, rfl, trivial⟩ (WC.region ?_))
          refine WL.yd (Yd.move rfl) rfl ?_
          refine WL.yd (Yd.move rfl) rfl ?_
          refine WL.part 82 rfl (fun g82 => ?_) (fun g82 => ?_)
          · try simp only [zq1, zq2, zq3, zq4, zq5, zq6, zq7, zq8] at g82
            refine WL.ydg rfl (Yd.move rfl) rfl ?_
            refine WL.ydg rfl (Yd.move rfl) rfl ?_
            refine WL.sog rfl (SO.callP Tryz.call28 rfl (fun w hI => booked_g _ l ab _ cb hB (k : Int) 3 _ hI.imm)) rfl ?_
            rintro _ _ _ ⟨rfl, rfl, rfl⟩
            refine WL.ydg rfl (Yd.not rfl) rfl ?_
            refine WL.yd (Yd.pickT rfl rfl) rfl ?_
            refine WL.nil (WP.thenC ?_)
            refine WC.cond rfl (fun c87 => ?_) (fun c87 => ?_)
            · try simp only [zq1, zq2, zq3, zq4, zq5, zq6, zq7, zq8] at c87
              refine WC.ofFr [(1, _), (2, _), (8, _), (10, _), (11, _), (12, _), (13, _)] ⟨rfl, rfl, rfl, rfl, rfl, rfl, rfl, trivial⟩ (WC.region ?_)
              refine WL.yd (Yd.move rfl) rfl ?_
              refine WL.yd (Yd.move rfl) rfl ?_
              refine WL.so (SO.callP Tryz.call61 rfl (fun w hI => power13_g k _ (by omega))) rfl ?_
              rintro _ _ _ ⟨rfl, rfl, rfl⟩
              refine WL.yd (Yd.add (i := ((bitsI (missB X l 3) k : Nat) : Int)) (j := ((2 ^ k : Nat) : Int)) rfl rfl (wr64 ⟨by omega, by omega⟩)) rfl ?_
              refine WL.yd (Yd.assign rfl) rfl ?_
              refine WL.nil (WP.blkNormal (WP.thenC (WC.ofFr [(12, _), (1, _), (2, _), (8, _), (10, _), (11, _), (13, _)] ⟨rfl, rfl, rfl, rfl, rfl, rfl, rfl, trivial⟩ (WC.region ?_))))
              refine WL.yd (Yd.move rfl) rfl ?_
              refine WL.yd (Yd.addN (i := k) (j := 1) rfl rfl (by omega)) rfl ?_
              refine WL.yd (Yd.assign rfl) rfl ?_
              refine WL.nil ?_
              first
                | exact WP.againF (k + 1) (by omega) (by omega) ⟨rfl, rfl, rfl, rfl, rfl, by rw [bits_yes (f := missB X l 3) (n := k) (missY (k := 3) (n := k) (by assumption) (.inr (by assumption)))]; rfl, rfl, trivial⟩ (fun _ h => h) (fun h => h)
                | exact WP.againF (k + 1) (by omega) (by omega) ⟨rfl, rfl, rfl, rfl, rfl, by rw [bits_no (f := missB X l 3) (n := k) (missN (k := 3) (n := k) (by assumption))]; first | done | rfl, rfl, trivial⟩ (fun _ h => h) (fun h => h)
                | exact WP.againF (k + 1) (by omega) (by omega) ⟨rfl, rfl, rfl, rfl, rfl, by rw [bits_no (f := missB X l 3) (n := k) (missNs (k := 3) (n := k) (by omega) (by assumption))]; first | done | rfl, rfl, trivial⟩ (fun _ h => h) (fun h => h)
            · try simp only [zq1, zq2, zq3, zq4, zq5, zq6, zq7, zq8] at c87
              refine WC.skip (WP.blkNormal (WP.thenC (WC.ofFr [(1, _), (2, _), (8, _), (10, _), (11, _), (12, _), (13, _)] ⟨rfl, rfl, rfl, rfl, rfl, rfl, rfl, trivial⟩ (WC.region ?_))))
              refine WL.yd (Yd.move rfl) rfl ?_
              refine WL.yd (Yd.addN (i := k) (j := 1) rfl rfl (by omega)) rfl ?_
              refine WL.yd (Yd.assign rfl) rfl ?_
              refine WL.nil ?_
              first
                | exact WP.againF (k + 1) (by omega) (by omega) ⟨rfl, rfl, rfl, rfl, rfl, by rw [bits_yes (f := missB X l 3) (n := k) (missY (k := 3) (n := k) (by assumption) (.inr (by assumption)))]; rfl, rfl, trivial⟩ (fun _ h => h) (fun h => h)
                | exact WP.againF (k + 1) (by omega) (by omega) ⟨rfl, rfl, rfl, rfl, rfl, by rw [bits_no (f := missB X l 3) (n := k) (missN (k := 3) (n := k) (by assumption))]; first | done | rfl, rfl, trivial⟩ (fun _ h => h) (fun h => h)
                | exact WP.againF (k + 1) (by omega) (by omega) ⟨rfl, rfl, rfl, rfl, rfl, by rw [bits_no (f := missB X l 3) (n := k) (missNs (k := 3) (n := k) (by omega) (by assumption))]; first | done | rfl, rfl, trivial⟩ (fun _ h => h) (fun h => h)
          · try simp only [zq1, zq2, zq3, zq4, zq5, zq6, zq7, zq8] at g82
            refine WL.skip rfl rfl ?_
            refine WL.skip rfl rfl ?_
            refine WL.skip rfl rfl ?_
            refine WL.skip rfl rfl ?_
            refine WL.yd (Yd.pickF rfl rfl) rfl ?_
            refine WL.nil (WP.thenC ?_)
            refine WC.condF rfl ?_
            refine WC.skip (WP.blkNormal (WP.thenC (WC.ofFr [(1, _), (2, _), (8, _), (10, _), (11, _), (12, _), (13, _)] ⟨rfl, rfl, rfl, rfl, rfl, rfl, rfl, trivial⟩ (WC.region ?_))))
            refine WL.yd (Yd.move rfl) rfl ?_
            refine WL.yd (Yd.addN (i := k) (j := 1) rfl rfl (by omega)) rfl ?_
            refine WL.yd (Yd.assign rfl) rfl ?_
            refine WL.nil ?_
            first
              | exact WP.againF (k + 1) (by omega) (by omega) ⟨rfl, rfl, rfl, rfl, rfl, by rw [bits_yes (f := missB X l 3) (n := k) (missY (k := 3) (n := k) (by assumption) (.inr (by assumption)))]; rfl, rfl, trivial⟩ (fun _ h => h) (fun h => h)
              | exact WP.againF (k + 1) (by omega) (by omega) ⟨rfl, rfl, rfl, rfl, rfl, by rw [bits_no (f := missB X l 3) (n := k) (missN (k := 3) (n := k) (by assumption))]; first | done | rfl, rfl, trivial⟩ (fun _ h => h) (fun h => h)
              | exact WP.againF (k + 1) (by omega) (by omega) ⟨rfl, rfl, rfl, rfl, rfl, by rw [bits_no (f := missB X l 3) (n := k) (missNs (k := 3) (n := k) (by omega) (by assumption))]; first | done | rfl, rfl, trivial⟩ (fun _ h => h) (fun h => h)
        · skip
          refine WC.seq (WC.ofFr [(1, _), (2, _), (8, _), (10, _), (11, _), (12, _), (13, _), (14, _), (15, _)] ⟨rfl, rfl, rfl, rfl, rfl, rfl, rfl, rfl, rfl, trivial⟩ (WC.region ?_))
          refine WL.yd (Yd.move rfl) rfl ?_
          refine WL.yd (Yd.move rfl) rfl ?_
          refine WL.part 71 rfl (fun g71 => ?_) (fun g71 => ?_)
          · try simp only [zq1, zq2, zq3, zq4, zq5, zq6, zq7, zq8] at g71
            refine WL.ydg rfl (Yd.move rfl) rfl ?_
            refine WL.ydg rfl (Yd.move rfl) rfl ?_
            refine WL.sog rfl (SO.callP Tryz.call28 rfl (fun w hI => booked_g _ l ab _ cb hB (k : Int) 2 _ hI.imm)) rfl ?_
            rintro _ _ _ ⟨rfl, rfl, rfl⟩
            refine WL.ydg rfl (Yd.not rfl) rfl ?_
            refine WL.yd (Yd.pickT rfl rfl) rfl ?_
            refine WL.nil (WP.thenC ?_)
            refine WC.cond rfl (fun c76 => ?_) (fun c76 => ?_)
            · try simp only [zq1, zq2, zq3, zq4, zq5, zq6, zq7, zq8] at c76
              refine WC.ofFr [(1, _), (2, _), (8, _), (10, _), (11, _), (12, _), (13, _), (14, _), (15, _)] ⟨rfl, rfl, rfl, rfl, rfl, rfl, rfl, rfl, rfl, trivial⟩ (WC.region ?_)
              refine WL.yd (Yd.move rfl) rfl ?_
              refine WL.yd (Yd.move rfl) rfl ?_
              refine WL.so (SO.callP Tryz.call61 rfl (fun w hI => power13_g k _ (by omega))) rfl ?_
              rintro _ _ _ ⟨rfl, rfl, rfl⟩
              refine WL.yd (Yd.add (i := ((bitsI (missB X l 2) k : Nat) : Int)) (j := ((2 ^ k : Nat) : Int)) rfl rfl (wr64 ⟨by omega, by omega⟩)) rfl ?_
              refine WL.yd (Yd.assign rfl) rfl ?_
              refine WL.nil ?_
              first
                | exact WP.join () trivial (fun aa ww h => at_fr h ⟨rfl, rfl, rfl, rfl, by rw [bits_yes (f := missB X l 2) (n := k) (missY (k := 2) (n := k) (by assumption) (.inr (by assumption)))]; rfl, rfl, rfl, rfl, rfl, trivial⟩)
                | exact WP.join () trivial (fun aa ww h => at_fr h ⟨rfl, rfl, rfl, rfl, by rw [bits_no (f := missB X l 2) (n := k) (missN (k := 2) (n := k) (by assumption))]; first | done | rfl, rfl, rfl, rfl, rfl, trivial⟩)
                | exact WP.join () trivial (fun aa ww h => at_fr h ⟨rfl, rfl, rfl, rfl, by rw [bits_no (f := missB X l 2) (n := k) (missNs (k := 2) (n := k) (by omega) (by assumption))]; first | done | rfl, rfl, rfl, rfl, rfl, trivial⟩)
            · try simp only [zq1, zq2, zq3, zq4, zq5, zq6, zq7, zq8] at c76
              refine WC.skip ?_
              first
                | exact WP.join () trivial (fun aa ww h => at_fr h ⟨rfl, rfl, rfl, rfl, by rw [bits_yes (f := missB X l 2) (n := k) (missY (k := 2) (n := k) (by assumption) (.inr (by assumption)))]; rfl, rfl, rfl, rfl, rfl, trivial⟩)
                | exact WP.join () trivial (fun aa ww h => at_fr h ⟨rfl, rfl, rfl, rfl, by rw [bits_no (f := missB X l 2) (n := k) (missN (k := 2) (n := k) (by assumption))]; first | done | rfl, rfl, rfl, rfl, rfl, trivial⟩)
                | exact WP.join () trivial (fun aa ww h => at_fr h ⟨rfl, rfl, rfl, rfl, by rw [bits_no (f := missB X l 2) (n := k) (missNs (k := 2) (n := k) (by omega) (by assumption))]; first | done | rfl, rfl, rfl, rfl, rfl, trivial⟩)
          · try simp only [zq1, zq2, zq3, zq4, zq5, zq6, zq7, zq8] at g71
            refine WL.skip rfl rfl ?_
            refine WL.skip rfl rfl ?_
            refine WL.skip rfl rfl ?_
            refine WL.skip rfl rfl ?_
            refine WL.yd (Yd.pickF rfl rfl) rfl ?_
            refine WL.nil (WP.thenC ?_)
            refine WC.condF rfl ?_
            refine WC.skip ?_
            first
              | exact WP.join () trivial (fun aa ww h => at_fr h ⟨rfl, rfl, rfl, rfl, by rw [bits_yes (f := missB X l 2) (n := k) (missY (k := 2) (n := k) (by assumption) (.inr (by assumption)))]; rfl, rfl, rfl, rfl, rfl, trivial⟩)
              | exact WP.join () trivial (fun aa ww h => at_fr h ⟨rfl, rfl, rfl, rfl, by rw [bits_no (f := missB X l 2) (n := k) (missN (k := 2) (n := k) (by assumption))]; first | done | rfl, rfl, rfl, rfl, rfl, trivial⟩)
              | exact WP.join () trivial (fun aa ww h => at_fr h ⟨rfl, rfl, rfl, rfl, by rw [bits_no (f := missB X l 2) (n := k) (missNs (k := 2) (n := k) (by omega) (by assumption))]; first | done | rfl, rfl, rfl, rfl, rfl, trivial⟩)
      · skip
        refine WC.seq (WC.ofFr [(1, _), (2, _), (8, _), (10, _), (11, _), (12, _), (13, _), (14, _), (15, _)] ⟨rfl, rfl, rfl, rfl, rfl, rfl, rfl, rfl, rfl, trivial⟩ (WC.region ?_))
        refine WL.yd (Yd.move rfl) rfl ?_
        refine WL.yd (Yd.move rfl) rfl ?_
        refine WL.so (SO.callP Tryz.call28 rfl (fun w hI => booked_g _ l ab _ cb hB (k : Int) 1 _ hI.imm)) rfl ?_
        rintro _ _ _ ⟨rfl, rfl, rfl⟩
        refine WL.yd (Yd.not rfl) rfl ?_
        refine WL.nil (WP.thenC ?_)
        refine WC.cond rfl (fun c65 => ?_) (fun c65 => ?_)
        · try simp only [zq1, zq2, zq3, zq4, zq5, zq6, zq7, zq8] at c65
          refine WC.ofFr [(1, _), (2, _), (8, _), (10, _), (11, _), (12, _), (13, _), (14, _), (15, _)] ⟨rfl, rfl, rfl, rfl, rfl, rfl, rfl, rfl, rfl, trivial⟩ (WC.region ?_)
          refine WL.yd (Yd.move rfl) rfl ?_
          refine WL.yd (Yd.move rfl) rfl ?_
          refine WL.so (SO.callP Tryz.call61 rfl (fun w hI => power13_g k _ (by omega))) rfl ?_
          rintro _ _ _ ⟨rfl, rfl, rfl⟩
          refine WL.yd (Yd.add (i := ((bitsI (missB X l 1) k : Nat) : Int)) (j := ((2 ^ k : Nat) : Int)) rfl rfl (wr64 ⟨by omega, by omega⟩)) rfl ?_
          refine WL.yd (Yd.assign rfl) rfl ?_
          refine WL.nil ?_
          first
            | exact WP.join () trivial (fun aa ww h => at_fr h ⟨rfl, rfl, rfl, by rw [bits_yes (f := missB X l 1) (n := k) (missY (k := 1) (n := k) (by assumption) (.inl rfl))]; rfl, rfl, rfl, rfl, by rw [← hfa]; rfl, by rw [← hba]; rfl, trivial⟩)
            | exact WP.join () trivial (fun aa ww h => at_fr h ⟨rfl, rfl, rfl, by rw [bits_no (f := missB X l 1) (n := k) (missN (k := 1) (n := k) (by assumption))]; first | done | rfl, rfl, rfl, rfl, by rw [← hfa]; rfl, by rw [← hba]; rfl, trivial⟩)
        · try simp only [zq1, zq2, zq3, zq4, zq5, zq6, zq7, zq8] at c65
          refine WC.skip ?_
          first
            | exact WP.join () trivial (fun aa ww h => at_fr h ⟨rfl, rfl, rfl, by rw [bits_yes (f := missB X l 1) (n := k) (missY (k := 1) (n := k) (by assumption) (.inl rfl))]; rfl, rfl, rfl, rfl, by rw [← hfa]; rfl, by rw [← hba]; rfl, trivial⟩)
            | exact WP.join () trivial (fun aa ww h => at_fr h ⟨rfl, rfl, rfl, by rw [bits_no (f := missB X l 1) (n := k) (missN (k := 1) (n := k) (by assumption))]; first | done | rfl, rfl, rfl, rfl, by rw [← hfa]; rfl, by rw [← hba]; rfl, trivial⟩)
  · try simp only [zq1, zq2, zq3, zq4, zq5, zq6, zq7, zq8] at c31
    obtain rfl : k = X.tk.l.length := by omega
    refine WC.exit ?_
    refine WP.thenExit ?_
    refine WP.thenExit ?_
    refine WP.blkHit ?_
    refine WP.thenC (WC.seq (WC.ofFr [(10, _), (11, _), (12, _)] ⟨rfl, rfl, rfl, trivial⟩ (WC.region ?_)))
    refine WL.yd (Yd.move rfl) rfl ?_
    refine WL.yd (Yd.move rfl) rfl ?_
    refine WL.yd (Yd.move rfl) rfl ?_
    refine WL.yd (Yd.assign rfl) rfl ?_
    refine WL.yd (Yd.assign rfl) rfl ?_
    refine WL.yd (Yd.assign rfl) rfl ?_
    refine WL.yd (Yd.assign rfl) rfl ?_
    refine WL.nil (WP.thenC (WC.ret ?_))
    refine WP.ret4 rfl rfl Tryz.results21 (RV.tmp rfl) (RV.tmp rfl) (RV.tmp rfl) (RV.tmp rfl) (fun w hI => ⟨congrArg Ending.returned (by rw [missO_0 h]), hI.keep⟩)

theorem Missing13_g (X : Till) (a1 : Option Addr) (n1 c1 : Nat) (D : Imm) (w : World) (hR : TksR D X.tk a1 n1) (hH : Holds D w) (l : List Ent) (ab : Option Addr) (nb cb : Nat) (hB : BookR D l ab nb) : Gives Tryz.prog 21 [.agg #[it X.tk.huts, .slice a1 n1 c1, it X.price, it X.fine, it X.wait], .slice ab nb cb] w (.tuple #[it (MissOut X l).1, it (MissOut X l).2.1, it (MissOut X l).2.2.1, it (MissOut X l).2.2.2]) := by
  by_cases h : toldE X l = 0
  · obtain ⟨q1, q2, q3, q4, q5⟩ := tol_split (show tolE X l true = 0 from h)
    exact miss13_ok X a1 n1 c1 D w hR hH l ab nb cb hB h q1 q4 q5
  · rw [show MissOut X l = (0, 0, 0, toldE X l) by unfold MissOut; rw [if_pos h]]
    exact miss13_no X a1 n1 c1 D w hR hH l ab nb cb hB h

theorem books_a (X : Till) (a1 : Option Addr) (n1 c1 : Nat) (D : Imm) (w : World) (hH : Holds D w) (ab : Option Addr) (nb cb : Nat) (hlo : 60 < max n1 nb) : Gives Tryz.prog 4 [.agg #[it X.tk.huts, .slice a1 n1 c1, it X.price, it X.fine, it X.wait], .slice ab nb cb] w (.bool true) := by
  unfold Gives
  refine enter Tryz.func4 rfl 115 Tryz.ntmps4 (zqb rfl) (Inv.start hH) ?_
  refine WC.seq (WC.ofFr [(0, _), (1, _)] ⟨rfl, rfl, trivial⟩ (WC.region ?_))
  refine WL.so (SO.box rfl rfl) rfl ?_
  rintro _ _ _ ⟨b2, hb2, rfl, rfl, rfl⟩
  refine WL.yd (Yd.assign rfl) rfl ?_
  refine WL.nil (WP.thenC (WC.seq (WC.seq (WC.ofFr [(4, _), (2, _), (1, _)] ⟨rfl, rfl, rfl, trivial⟩ (WC.region ?_)))))
  refine WL.yd (Yd.loadN Tryz.isAgg26 Tryz.sizeOf26 rfl (vs := [_, _, _, _, _]) rfl (by first | exact rn0 (n := 5) rfl rfl)) rfl ?_
  refine WL.yd (Yd.move rfl) rfl ?_
  refine WL.so (SO.callP Tryz.call8 rfl (fun w hI => heavy_a X a1 n1 c1 _ nb cb ab 700 (by omega))) rfl ?_
  rintro _ _ _ ⟨rfl, rfl, rfl⟩
  refine WL.know 25 (.bool true) rfl rfl ?_
  refine WL.nil (WP.thenC ?_)
  refine WC.condT rfl ?_
  refine WC.seq (WC.ofFr [(4, _), (2, _), (1, _)] ⟨rfl, rfl, rfl, trivial⟩ (WC.region ?_))
  refine WL.so (SO.callP Tryz.call9 rfl (fun w hI => alive_g _ _ hI.imm)) rfl ?_
  rintro _ _ _ ⟨rfl, rfl, rfl⟩
  refine WL.yd (Yd.assign rfl) rfl ?_
  refine WL.nil (WP.thenC (WC.ret (WP.thenRet ?_)))
  refine WP.ret1 rfl rfl Tryz.results4 (RV.tmp rfl) (fun w hI => ⟨rfl, hI.keep⟩)

theorem books_b (X : Till) (a1 : Option Addr) (n1 c1 : Nat) (D : Imm) (w : World) (hR : TksR D X.tk a1 n1) (hH : Holds D w) (l : List Ent) (ab : Option Addr) (nb cb : Nat) (hB : BookR D l ab nb) (hv : ∀ D w, TksR D X.tk a1 n1 → Holds D w → Gives Tryz.prog 8 [.agg #[it X.tk.huts, .slice a1 n1 c1, it X.price, it X.fine, it X.wait], .slice ab nb cb, it 700] w (.bool true)) : Gives Tryz.prog 4 [.agg #[it X.tk.huts, .slice a1 n1 c1, it X.price, it X.fine, it X.wait], .slice ab nb cb] w (.bool true) := by
  unfold Gives
  refine enter Tryz.func4 rfl 115 Tryz.ntmps4 (zqb rfl) (Inv.start hH) ?_
  refine WC.seq (WC.ofFr [(0, _), (1, _)] ⟨rfl, rfl, trivial⟩ (WC.region ?_))
  refine WL.so (SO.box rfl rfl) rfl ?_
  rintro _ _ _ ⟨b2, hb2, rfl, rfl, rfl⟩
  refine WL.yd (Yd.assign rfl) rfl ?_
  refine WL.nil (WP.thenC (WC.seq (WC.seq (WC.ofFr [(4, _), (2, _), (1, _)] ⟨rfl, rfl, rfl, trivial⟩ (WC.region ?_)))))
  refine WL.yd (Yd.loadN Tryz.isAgg26 Tryz.sizeOf26 rfl (vs := [_, _, _, _, _]) rfl (by first | exact rn0 (n := 5) rfl rfl)) rfl ?_
  refine WL.yd (Yd.move rfl) rfl ?_
  refine WL.so (SO.callP Tryz.call8 rfl (fun w hI => hv _ _ hR hI.imm)) rfl ?_
  rintro _ _ _ ⟨rfl, rfl, rfl⟩
  refine WL.know 25 (.bool true) rfl rfl ?_
  refine WL.nil (WP.thenC ?_)
  refine WC.condT rfl ?_
  refine WC.seq (WC.ofFr [(4, _), (2, _), (1, _)] ⟨rfl, rfl, rfl, trivial⟩ (WC.region ?_))
  refine WL.so (SO.callP Tryz.call9 rfl (fun w hI => alive_g _ _ hI.imm)) rfl ?_
  rintro _ _ _ ⟨rfl, rfl, rfl⟩
  refine WL.yd (Yd.assign rfl) rfl ?_
  refine WL.nil (WP.thenC (WC.ret (WP.thenRet ?_)))
  refine WP.ret1 rfl rfl Tryz.results4 (RV.tmp rfl) (fun w hI => ⟨rfl, hI.keep⟩)

theorem books_c (X : Till) (a1 : Option Addr) (n1 c1 : Nat) (D : Imm) (w : World) (hR : TksR D X.tk a1 n1) (hH : Holds D w) (l : List Ent) (ab : Option Addr) (nb cb : Nat) (hB : BookR D l ab nb) (hv : ∀ D w, TksR D X.tk a1 n1 → Holds D w → Gives Tryz.prog 8 [.agg #[it X.tk.huts, .slice a1 n1 c1, it X.price, it X.fine, it X.wait], .slice ab nb cb, it 700] w (.bool false)) : Gives Tryz.prog 4 [.agg #[it X.tk.huts, .slice a1 n1 c1, it X.price, it X.fine, it X.wait], .slice ab nb cb] w (.bool true) := by
  unfold Gives
  obtain rfl := hR.tick.len'
  have hl1 := hR.len
  obtain rfl := hB.ent.len'
  have hlb := hB.len
  refine enter Tryz.func4 rfl 115 Tryz.ntmps4 (zqb rfl) (Inv.start hH) ?_
  refine WC.seq (WC.ofFr [(0, _), (1, _)] ⟨rfl, rfl, trivial⟩ (WC.region ?_))
  refine WL.so (SO.box rfl rfl) rfl ?_
  rintro _ _ _ ⟨b2, hb2, rfl, rfl, rfl⟩
  refine WL.yd (Yd.assign rfl) rfl ?_
  refine WL.nil (WP.thenC (WC.seq (WC.seq ?_)))
  refine WC.freezeN 0 b2 (.cells (List.toArray (tillC X (.slice a1 X.tk.l.length c1))) 26 (0, 0)) rfl rfl hb2 (fun D2 hX2 h2 => ?_)
  replace hR := hR.ext hX2
  replace hB := hB.ext hX2
  refine WC.ofFr [(4, _), (2, _), (1, _)] ⟨rfl, rfl, rfl, trivial⟩ (WC.region ?_)
  refine WL.yd (Yd.loadN Tryz.isAgg26 Tryz.sizeOf26 rfl (vs := [_, _, _, _, _]) rfl (RdN.imm (n := 5) h2 rfl)) rfl ?_
  refine WL.yd (Yd.move rfl) rfl ?_
  refine WL.so (SO.callP Tryz.call8 rfl (fun w hI => hv _ _ hR hI.imm)) rfl ?_
  rintro _ _ _ ⟨rfl, rfl, rfl⟩
  refine WL.know 25 (.bool false) rfl rfl ?_
  refine WL.nil (WP.thenC ?_)
  refine WC.condF rfl ?_
  refine WC.skip (WP.thenC (WC.seq (WC.ofFr [(4, _), (2, _), (1, _)] ⟨rfl, rfl, rfl, trivial⟩ (WC.region ?_))))
  refine WL.yd (Yd.loadN Tryz.isAgg26 Tryz.sizeOf26 rfl (vs := [_, _, _, _, _]) rfl (RdN.imm (n := 5) h2 rfl)) rfl ?_
  refine WL.yd (Yd.move rfl) rfl ?_
  refine WL.so (SO.callP Tryz.call18 rfl (fun w hI => Check_g X a1 _ c1 _ _ hR hI.imm l ab _ cb hB)) rfl ?_
  rintro _ _ _ ⟨rfl, rfl, rfl⟩
  refine WL.yd (Yd.move rfl) rfl ?_
  refine WL.yd (Yd.extract rfl rfl) rfl ?_
  refine WL.yd (Yd.extract rfl rfl) rfl ?_
  refine WL.yd (Yd.extract rfl rfl) rfl ?_
  refine WL.yd (Yd.assign rfl) rfl ?_
  refine WL.yd (Yd.assign rfl) rfl ?_
  refine WL.yd (Yd.assign rfl) rfl ?_
  refine WL.nil (WP.thenC (WC.seq (WC.ofFr [(7, _), (6, _), (5, _), (4, _), (2, _), (1, _)] ⟨rfl, rfl, rfl, rfl, rfl, rfl, trivial⟩ (WC.region ?_))))
  refine WL.yd (Yd.loadN Tryz.isAgg26 Tryz.sizeOf26 rfl (vs := [_, _, _, _, _]) rfl (RdN.imm (n := 5) h2 rfl)) rfl ?_
  refine WL.yd (Yd.move rfl) rfl ?_
  refine WL.so (SO.callP Tryz.call19 rfl (fun w hI => Check13_g X a1 _ c1 _ _ hR hI.imm l ab _ cb hB)) rfl ?_
  rintro _ _ _ ⟨rfl, rfl, rfl⟩
  refine WL.yd (Yd.move rfl) rfl ?_
  refine WL.yd (Yd.extract rfl rfl) rfl ?_
  refine WL.yd (Yd.extract rfl rfl) rfl ?_
  refine WL.yd (Yd.extract rfl rfl) rfl ?_
  refine WL.yd (Yd.assign rfl) rfl ?_
  refine WL.yd (Yd.assign rfl) rfl ?_
  refine WL.yd (Yd.assign rfl) rfl ?_
  refine WL.nil (WP.thenC (WC.seq (WC.ofFr [(10, _), (9, _), (8, _), (7, _), (6, _), (5, _), (4, _), (2, _), (1, _)] ⟨rfl, rfl, rfl, rfl, rfl, rfl, rfl, rfl, rfl, trivial⟩ (WC.region ?_))))
  refine WL.yd (Yd.loadN Tryz.isAgg26 Tryz.sizeOf26 rfl (vs := [_, _, _, _, _]) rfl (RdN.imm (n := 5) h2 rfl)) rfl ?_
  refine WL.yd (Yd.move rfl) rfl ?_
  refine WL.so (SO.callP Tryz.call20 rfl (fun w hI => Missing_g X a1 _ c1 _ _ hR hI.imm l ab _ cb hB)) rfl ?_
  rintro _ _ _ ⟨rfl, rfl, rfl⟩
  refine WL.yd (Yd.move rfl) rfl ?_
  refine WL.yd (Yd.extract rfl rfl) rfl ?_
  refine WL.yd (Yd.extract rfl rfl) rfl ?_
  refine WL.yd (Yd.extract rfl rfl) rfl ?_
  refine WL.yd (Yd.extract rfl rfl) rfl ?_
  refine WL.yd (Yd.assign rfl) rfl ?_
  refine WL.yd (Yd.assign rfl) rfl ?_
  refine WL.yd (Yd.assign rfl) rfl ?_
  refine WL.yd (Yd.assign rfl) rfl ?_
  refine WL.nil (WP.thenC (WC.seq (WC.ofFr [(14, _), (13, _), (12, _), (11, _), (10, _), (9, _), (8, _), (7, _), (6, _), (5, _), (4, _), (2, _), (1, _)] ⟨rfl, rfl, rfl, rfl, rfl, rfl, rfl, rfl, rfl, rfl, rfl, rfl, rfl, trivial⟩ (WC.region ?_))))
  refine WL.yd (Yd.loadN Tryz.isAgg26 Tryz.sizeOf26 rfl (vs := [_, _, _, _, _]) rfl (RdN.imm (n := 5) h2 rfl)) rfl ?_
  refine WL.yd (Yd.move rfl) rfl ?_
  refine WL.so (SO.callP Tryz.call21 rfl (fun w hI => Missing13_g X a1 _ c1 _ _ hR hI.imm l ab _ cb hB)) rfl ?_
  rintro _ _ _ ⟨rfl, rfl, rfl⟩
  refine WL.yd (Yd.move rfl) rfl ?_
  refine WL.yd (Yd.extract rfl rfl) rfl ?_
  refine WL.yd (Yd.extract rfl rfl) rfl ?_
  refine WL.yd (Yd.extract rfl rfl) rfl ?_
  refine WL.yd (Yd.extract rfl rfl) rfl ?_
  refine WL.yd (Yd.assign rfl) rfl ?_
  refine WL.yd (Yd.assign rfl) rfl ?_
  refine WL.yd (Yd.assign rfl) rfl ?_
  refine WL.yd (Yd.assign rfl) rfl ?_
  refine WL.nil (WP.thenC (WC.seq (WC.ofFr [(18, _), (17, _), (16, _), (15, _), (14, _), (13, _), (12, _), (11, _), (10, _), (9, _), (8, _), (7, _), (6, _), (5, _), (4, _), (2, _), (1, _)] ⟨rfl, rfl, rfl, rfl, rfl, rfl, rfl, rfl, rfl, rfl, rfl, rfl, rfl, rfl, rfl, rfl, rfl, trivial⟩ (WC.region ?_))))
  refine WL.yd (Yd.loadN Tryz.isAgg26 Tryz.sizeOf26 rfl (vs := [_, _, _, _, _]) rfl (RdN.imm (n := 5) h2 rfl)) rfl ?_
  refine WL.yd (Yd.move rfl) rfl ?_
  refine WL.so (SO.callP Tryz.call22 rfl (fun w hI => Sum_g X a1 _ c1 _ _ hR hI.imm l ab _ cb hB)) rfl ?_
  rintro _ _ _ ⟨rfl, rfl, rfl⟩
  refine WL.yd (Yd.move rfl) rfl ?_
  refine WL.yd (Yd.extract rfl rfl) rfl ?_
  refine WL.yd (Yd.extract rfl rfl) rfl ?_
  refine WL.yd (Yd.assign rfl) rfl ?_
  refine WL.yd (Yd.assign rfl) rfl ?_
  refine WL.nil (WP.thenC (WC.seq (WC.ofFr [(20, _), (19, _), (18, _), (17, _), (16, _), (15, _), (14, _), (13, _), (12, _), (11, _), (10, _), (9, _), (8, _), (7, _), (6, _), (5, _), (4, _), (2, _), (1, _)] ⟨rfl, rfl, rfl, rfl, rfl, rfl, rfl, rfl, rfl, rfl, rfl, rfl, rfl, rfl, rfl, rfl, rfl, rfl, rfl, trivial⟩ (WC.region ?_))))
  refine WL.yd (Yd.loadN Tryz.isAgg26 Tryz.sizeOf26 rfl (vs := [_, _, _, _, _]) rfl (RdN.imm (n := 5) h2 rfl)) rfl ?_
  refine WL.yd (Yd.move rfl) rfl ?_
  refine WL.so (SO.callP Tryz.call23 rfl (fun w hI => Sum13_g X a1 _ c1 _ _ hR hI.imm l ab _ cb hB)) rfl ?_
  rintro _ _ _ ⟨rfl, rfl, rfl⟩
  refine WL.yd (Yd.move rfl) rfl ?_
  refine WL.yd (Yd.extract rfl rfl) rfl ?_
  refine WL.yd (Yd.extract rfl rfl) rfl ?_
  refine WL.yd (Yd.assign rfl) rfl ?_
  refine WL.yd (Yd.assign rfl) rfl ?_
  refine WL.nil (WP.thenC (WC.seq (WC.ofFr [(22, _), (21, _), (20, _), (19, _), (18, _), (17, _), (16, _), (15, _), (14, _), (13, _), (12, _), (11, _), (10, _), (9, _), (8, _), (7, _), (6, _), (5, _), (4, _)] ⟨rfl, rfl, rfl, rfl, rfl, rfl, rfl, rfl, rfl, rfl, rfl, rfl, rfl, rfl, rfl, rfl, rfl, rfl, rfl, trivial⟩ (WC.region ?_))))
  refine WL.yd (Yd.move rfl) rfl ?_
  refine WL.yd (Yd.move rfl) rfl ?_
  refine WL.yd (Yd.eql rfl rfl) rfl ?_
  refine WL.know 71 (.bool true) rfl (congrArg Value.bool (decide_eq_true rfl)) ?_
  refine WL.yd (Yd.move rfl) rfl ?_
  refine WL.ydg rfl (Yd.move rfl) rfl ?_
  refine WL.ydg rfl (Yd.move rfl) rfl ?_
  refine WL.ydg rfl (Yd.eql rfl rfl) rfl ?_
  refine WL.know 75 (.bool true) rfl (congrArg Value.bool (decide_eq_true rfl)) ?_
  refine WL.yd (Yd.pickT rfl rfl) rfl ?_
  refine WL.yd (Yd.move rfl) rfl ?_
  refine WL.ydg rfl (Yd.move rfl) rfl ?_
  refine WL.ydg rfl (Yd.move rfl) rfl ?_
  refine WL.ydg rfl (Yd.eql rfl rfl) rfl ?_
  refine WL.know 80 (.bool true) rfl (congrArg Value.bool (decide_eq_true rfl)) ?_
  refine WL.yd (Yd.pickT rfl rfl) rfl ?_
  refine WL.yd (Yd.move rfl) rfl ?_
  refine WL.ydg rfl (Yd.move rfl) rfl ?_
  refine WL.ydg rfl (Yd.move rfl) rfl ?_
  refine WL.ydg rfl (Yd.eql rfl rfl) rfl ?_
  refine WL.know 85 (.bool true) rfl (congrArg Value.bool (decide_eq_true rfl)) ?_
  refine WL.yd (Yd.pickT rfl rfl) rfl ?_
  refine WL.yd (Yd.move rfl) rfl ?_
  refine WL.ydg rfl (Yd.move rfl) rfl ?_
  refine WL.ydg rfl (Yd.move rfl) rfl ?_
  refine WL.ydg rfl (Yd.eql rfl rfl) rfl ?_
  refine WL.know 90 (.bool true) rfl (congrArg Value.bool (decide_eq_true rfl)) ?_
  refine WL.yd (Yd.pickT rfl rfl) rfl ?_
  refine WL.yd (Yd.move rfl) rfl ?_
  refine WL.ydg rfl (Yd.move rfl) rfl ?_
  refine WL.ydg rfl (Yd.move rfl) rfl ?_
  refine WL.ydg rfl (Yd.eql rfl rfl) rfl ?_
  refine WL.know 95 (.bool true) rfl (congrArg Value.bool (decide_eq_true rfl)) ?_
  refine WL.yd (Yd.pickT rfl rfl) rfl ?_
  refine WL.yd (Yd.move rfl) rfl ?_
  refine WL.ydg rfl (Yd.move rfl) rfl ?_
  refine WL.ydg rfl (Yd.move rfl) rfl ?_
  refine WL.ydg rfl (Yd.eql rfl rfl) rfl ?_
  refine WL.know 100 (.bool true) rfl (congrArg Value.bool (decide_eq_true rfl)) ?_
  refine WL.yd (Yd.pickT rfl rfl) rfl ?_
  refine WL.yd (Yd.move rfl) rfl ?_
  refine WL.ydg rfl (Yd.move rfl) rfl ?_
  refine WL.ydg rfl (Yd.move rfl) rfl ?_
  refine WL.ydg rfl (Yd.eql rfl rfl) rfl ?_
  refine WL.know 105 (.bool true) rfl (congrArg Value.bool (decide_eq_true rfl)) ?_
  refine WL.yd (Yd.pickT rfl rfl) rfl ?_
  refine WL.yd (Yd.move rfl) rfl ?_
  refine WL.ydg rfl (Yd.move rfl) rfl ?_
  refine WL.ydg rfl (Yd.move rfl) rfl ?_
  refine WL.ydg rfl (Yd.eql rfl rfl) rfl ?_
  refine WL.know 110 (.bool true) rfl (congrArg Value.bool (decide_eq_true rfl)) ?_
  refine WL.yd (Yd.pickT rfl rfl) rfl ?_
  refine WL.yd (Yd.move rfl) rfl ?_
  refine WL.sog rfl (SO.callP Tryz.call9 rfl (fun w hI => alive_g _ _ hI.imm)) rfl ?_
  rintro _ _ _ ⟨rfl, rfl, rfl⟩
  refine WL.know 113 (.bool true) rfl rfl ?_
  refine WL.yd (Yd.pickT rfl rfl) rfl ?_
  refine WL.yd (Yd.assign rfl) rfl ?_
  refine WL.nil (WP.thenC (WC.ret ?_))
  refine WP.ret1 rfl rfl Tryz.results4 (RV.tmp rfl) (fun w hI => ⟨rfl, hI.keep⟩)

theorem booksL_g (X : Till) (a1 : Option Addr) (n1 c1 : Nat) (D : Imm) (w : World) (hS : SlL D 5 (X.tk.l.map tickC) a1 n1) (hH : Holds D w) (l : List Ent) (ab : Option Addr) (nb cb : Nat) (hE : SlL D 3 (l.map entC) ab nb) : Gives Tryz.prog 4 [.agg #[it X.tk.huts, .slice a1 n1 c1, it X.price, it X.fine, it X.wait], .slice ab nb cb] w (.bool true) := by
  rcases Nat.lt_or_ge 60 (max n1 nb) with h | h
  · exact books_a X a1 n1 c1 D w hH ab nb cb h
  · have hR : TksR D X.tk a1 n1 := ⟨hS, by omega⟩
    have hB : BookR D l ab nb := ⟨hE, by omega⟩
    cases h1 : tillB X with
    | false => exact books_c X a1 n1 c1 D w hR hH l ab nb cb hB (fun D w hR hH => heavy_b X a1 n1 c1 D w hR hH nb cb ab 700 (by omega) h1)
    | true =>
      cases h2 : decide (wayI X n1 > 700) with
      | true => exact books_b X a1 n1 c1 D w hR hH l ab nb cb hB (fun D w hR hH => by have z := heavy_c X a1 n1 c1 D w hR hH nb cb ab 700 (by omega) h1; rw [h2] at z; exact z)
      | false => exact books_c X a1 n1 c1 D w hR hH l ab nb cb hB (fun D w hR hH => by have z := heavy_c X a1 n1 c1 D w hR hH nb cb ab 700 (by omega) h1; rw [h2] at z; exact z)

end Go.Proofs.YtpnbkdlejfmbeaaGreat
