import Derived.Test.YtpnbkdlejfmbeaaGreatYZ11
set_option linter.unusedSimpArgs false
set_option linter.unusedVariables false
set_option linter.all false
set_option maxRecDepth 100000
set_option maxHeartbeats 1000000
namespace Go.Proofs.YtpnbkdlejfmbeaaGreat
open Go.W Go.Ti

theorem reft_g (T : Tks) (hv : tksB T = true) (a1 : Option Addr) (n1 c1 : Nat) : ∀ (rem : Nat) (D : Imm) (w : World) (hR : TksR D T a1 n1) (q : TrR) (rows : List TrR) (o : Option Ow) (hl : q.y.length + rem = T.l.length) (hq : TrOk D q) (hy : ∀ i, i < q.y.length → 0 ≤ (gt q.y i).2 ∧ (gt q.y i).2 ≤ 240) (hO : ∀ r, r ∈ rows → TrOk D r) (ho : owL o rows.length 2) (hL : rows.length + 9 ^ rem ≤ 59049) (hI0 : Inv D (owH o 87 ((rows).flatMap trC) []) (keys (owH o 87 ((rows).flatMap trC) [])) w w), AltersN Tryz.prog 102 [.agg #[it T.huts, .slice a1 n1 c1], .agg #[.slice q.a q.y.length q.c, .slice q.d q.y.length q.e], owV o rows.length] w D (keys (owH o 87 ((rows).flatMap trC) [])) (TrK T rem q.y rows) := by
  intro rem
  induction rem with
  | zero => exact truths_0 T hv a1 n1 c1
  | succ rem ih => exact truths_s T hv a1 n1 c1 rem ih
structure RowsM (D : Imm) (T : Tks) (rows : List TrR) (a : Option Addr) (n : Nat) : Prop where
  sl : SlL D 2 (rows.map trC) a n
  ok : ∀ r, r ∈ rows → TrOk D r
  ys : rows.map TrR.y = RF T
  nn : n ≤ 59049
theorem RowsM.ext {w : World} {D D' : Imm} (hD : DExt w D D') {T : Tks} {rows : List TrR} {a : Option Addr} {n : Nat} (h : RowsM D T rows a n) : RowsM D' T rows a n := ⟨h.sl.ext hD, fun r hr => (h.ok r hr).ext hD, h.ys, h.nn⟩
theorem RowsM.mem {D : Imm} {T : Tks} {rows : List TrR} {a : Option Addr} {n : Nat} (h : RowsM D T rows a n) {i : Nat} (hi : i < rows.length) : TrOk D (gt rows i) ∧ (gt rows i).y ∈ RF T := ⟨h.ok _ (gt_mem hi), by rw [← h.ys]; exact List.mem_map.2 ⟨_, gt_mem hi, rfl⟩⟩
theorem RowsM.num {D : Imm} {T : Tks} {rows : List TrR} {a : Option Addr} {n : Nat} (h : RowsM D T rows a n) (hv : tksB T = true) {i : Nat} (hi : i < rows.length) : (gt rows i).y.length = T.l.length ∧ ∀ k, k < T.l.length → (0 ≤ (gt (gt rows i).y k).1 ∧ (gt (gt rows i).y k).1 ≤ 240) ∧ (0 ≤ (gt (gt rows i).y k).2 ∧ (gt (gt rows i).y k).2 ≤ 240) ∧ (gt (gt rows i).y k).1 ≤ (gt (gt rows i).y k).2 := by
  have h1 := ref_all (h.mem hi).2
  exact ⟨h1.1, fun k hk => sol_num hv h1.2 hk⟩
theorem RowsM.map {D : Imm} {T : Tks} {rows : List TrR} {a : Option Addr} {n : Nat} (h : RowsM D T rows a n) {β : Type} (f : List Pr → β) : (RF T).map f = rows.map fun r => f r.y := by rw [← h.ys, List.map_map]; rfl
theorem truM_g (T : Tks) (hv : tksB T = true) (a1 : Option Addr) (n1 c1 : Nat) (D : Imm) (w : World) (hR : TksR D T a1 n1) (hH : Holds D w) :
    Makes Tryz.prog 102 [.agg #[it T.huts, .slice a1 n1 c1], .agg #[.slice none 0 0, .slice none 0 0], .slice none 0 0] w D (fun v D' => ∃ rows a n c, v = .slice a n c ∧ RowsM D' T rows a n) := by
  have h5 : 9 ^ T.l.length ≤ 9 ^ 5 := Nat.pow_le_pow_right (by omega) (tks_num hv).2.1
  have h95 : (9 : Nat) ^ 5 = 59049 := by decide
  refine Calls.mono (reft_g T hv a1 n1 c1 T.l.length D w hR ⟨none, 0, none, 0, []⟩ [] none (by simp) ⟨⟨rfl, fun i r hr => by simp at hr⟩, ⟨rfl, fun i r hr => by simp at hr⟩⟩ (fun i hi => by simp at hi) (fun r hr => by simp at hr) rfl (by simp only [List.length_nil]; omega) (Inv.start hH)) fun e w' ⟨v, D', hpc', he, hX, hI, rows', o', hv', hM, hO, ho, hhp⟩ => ?_
  simp only [List.map_nil, List.nil_append] at hM
  have hle := ref_len hv T.l.length [] (by simp)
  have hlen : rows'.length = (refT T T.l.length []).length := by rw [← hM, List.length_map]
  subst he
  subst hhp
  cases o' with
  | none =>
    have h0 : rows'.length = 0 := ho
    have h00 : rows' = [] := List.length_eq_zero_iff.1 h0
    subst h00
    exact ⟨_, D', rfl, hI.keep, hI.imm, hX, [], none, 0, 0, hv', ⟨⟨rfl, fun i r hr => by simp at hr⟩, fun r hr => by simp at hr, hM, by omega⟩⟩
  | some u =>
    have hub : w.heap.size ≤ u.b := (hI.may _ _ (List.mem_of_getElem? (i := 0) rfl)).resolve_left (fun h => by simp [owH, keys] at h)
    have hnu := hI.apart _ _ (List.mem_of_getElem? (i := 0) rfl)
    have hXu := fun o => (DExt.refl w D').add (o := o) hnu hub
    exact ⟨_, _, rfl, hI.keep, hI.freeze.imm, hX.trans (hXu _) (Nat.le_refl _), rows', some ⟨u.b, 0, none⟩, rows'.length, u.cap, hv', ⟨SlL.ofBlock trC_len (Imm.add_self _ _ _), fun r hr => (hO r hr).ext (hXu _), hM, by omega⟩⟩

theorem Truths_g (T : Tks) (a1 : Option Addr) (n1 c1 : Nat) (D : Imm) (w : World) (hR : TksR D T a1 n1) (hH : Holds D w) (hv : tksB T = true) : Makes Tryz.prog 85 [.agg #[it T.huts, .slice a1 n1 c1]] w D (fun v D' => ∃ rows a n c, v = .slice a n c ∧ RowsM D' T rows a n) := by
  unfold Makes
  obtain rfl := hR.tick.len'
  have hl1 := hR.len
  refine enter Tryz.func85 rfl 6 Tryz.ntmps85 (zqb rfl) (Inv.start hH) ?_
  refine WC.seq (WC.ofFr [(0, _)] ⟨rfl, trivial⟩ (WC.region ?_))
  refine WL.so (SO.box rfl rfl) rfl ?_
  rintro _ _ _ ⟨b1, hb1, rfl, rfl, rfl⟩
  refine WL.yd (Yd.assign rfl) rfl ?_
  refine WL.nil (WP.thenC (WC.seq (WC.ofFr [(2, _), (1, _)] ⟨rfl, rfl, trivial⟩ (WC.region ?_))))
  refine WL.yd (Yd.loadN Tryz.isAgg24 Tryz.sizeOf24 rfl (vs := [_, _]) rfl (by first | exact rn0 (n := 2) rfl rfl)) rfl ?_
  refine WL.yd (Yd.build SA87 rfl (cs := [_, _]) rfl) rfl ?_
  refine WL.so (SO.makes (Enters.func Tryz.call102 rfl) (fun w hI => truM_g T hv a1 _ c1 _ w hR hI.imm)) rfl ?_
  rintro _ D6 _ ⟨hX6, ⟨rows, a6, n6, c6, rfl, hM⟩, rfl⟩
  refine WL.yd (Yd.assign rfl) rfl ?_
  refine WL.nil (WP.thenC (WC.ret ?_))
  refine WP.ret1 rfl rfl Tryz.results85 (RV.tmp rfl) (fun w1 hI => ⟨_, D6, rfl, hI.keep, hI.imm, hX6, rows, a6, n6, c6, rfl, hM⟩)

theorem tillE_no {X : Till} {l : List Ent} (hb : tillB X = true) (h3 : l.length ≤ 20) (ha : l.all (entB X) = false) : tillE X l true = 2 := by
  unfold tillE; rw [if_neg (by rw [hb]; simp), if_neg (by omega), if_neg (by simp), if_pos ha]
def tolE (X : Till) (l : List Ent) (v : Bool) : Int := if tillE X l v ≠ 0 then tillE X l v else tksE X.tk true
theorem toldE_is (X : Till) (l : List Ent) : toldE X l = tolE X l true := rfl
theorem spanE_tol (X : Till) (n : Int) : spanE X n = tolE X [] (isT X.tk n) := rfl
theorem rows_pos {D : Imm} {T : Tks} {rows : List TrR} {a : Option Addr} {n : Nat} (h : RowsM D T rows a n) (hv : tksB T = true) : tksE T true = if n = 0 then 10 else 0 := by
  have h1 := h.sl.len'
  have h2 : rows.length = (RF T).length := by rw [← h.ys, List.length_map]
  have h3 : RF T = [] ↔ n = 0 := by rw [← List.length_eq_zero_iff]; omega
  rw [tks_true hv]
  by_cases h4 : n = 0
  · rw [if_pos h4, ref_ne.1 (h3.2 h4)]; rfl
  · rw [if_neg h4, if_neg (fun e => h4 (h3.1 (ref_ne.2 (List.isEmpty_iff.1 e))))]

theorem told13_1 (X : Till) (a1 : Option Addr) (n1 c1 : Nat) (D : Imm) (w : World) (hR : TksR D X.tk a1 n1) (hH : Holds D w) (l : List Ent) (ab : Option Addr) (nb cb : Nat) (hB : BookR D l ab nb) (v : Bool) (h1 : tillB X = false) : Gives Tryz.prog 47 [.agg #[it X.tk.huts, .slice a1 n1 c1, it X.price, it X.fine, it X.wait], .slice ab nb cb, .bool v] w (.tuple #[.slice none 0 0, it 1]) := by
  unfold Gives
  obtain rfl := hR.tick.len'
  have hl1 := hR.len
  obtain rfl := hB.ent.len'
  have hlb := hB.len
  refine enter Tryz.func47 rfl 30 Tryz.ntmps47 (zqb rfl) (Inv.start hH) ?_
  refine WC.seq (WC.ofFr [(0, _), (1, _), (2, _)] ⟨rfl, rfl, rfl, trivial⟩ (WC.region ?_))
  refine WL.so (SO.box rfl rfl) rfl ?_
  rintro _ _ _ ⟨b3, hb3, rfl, rfl, rfl⟩
  refine WL.yd (Yd.assign rfl) rfl ?_
  refine WL.yd (Yd.assign rfl) rfl ?_
  refine WL.nil (WP.thenC (WC.seq (WC.seq (WC.ofFr [(7, _), (6, _), (3, _), (1, _), (2, _)] ⟨rfl, rfl, rfl, rfl, rfl, trivial⟩ (WC.region ?_)))))
  refine WL.yd (Yd.loadN Tryz.isAgg26 Tryz.sizeOf26 rfl (vs := [_, _, _, _, _]) rfl (by first | exact rn0 (n := 5) rfl rfl)) rfl ?_
  refine WL.so (SO.callP Tryz.call25 rfl (fun w hI => till13_g X a1 _ c1 _ _ hR hI.imm)) rfl ?_
  rintro _ _ _ ⟨rfl, rfl, rfl⟩
  refine WL.know 10 (.bool false) rfl (congrArg Value.bool h1) ?_
  refine WL.yd (Yd.not rfl) rfl ?_
  refine WL.nil (WP.thenC ?_)
  refine WC.condT rfl ?_
  refine WC.seq (WC.ofFr [(7, _), (6, _), (3, _), (1, _), (2, _)] ⟨rfl, rfl, rfl, rfl, rfl, trivial⟩ (WC.region ?_))
  refine WL.yd (Yd.assign rfl) rfl ?_
  refine WL.yd (Yd.assign rfl) rfl ?_
  refine WL.nil (WP.thenC (WC.ret (WP.thenRet ?_)))
  refine WP.ret2 rfl rfl Tryz.results47 (RV.tmp rfl) (RV.tmp rfl) (fun w hI => ⟨rfl, hI.keep⟩)

theorem told13_3 (X : Till) (a1 : Option Addr) (n1 c1 : Nat) (D : Imm) (w : World) (hR : TksR D X.tk a1 n1) (hH : Holds D w) (l : List Ent) (ab : Option Addr) (nb cb : Nat) (hB : BookR D l ab nb) (v : Bool) (h1 : tillB X = true) (h3 : 20 < nb) : Gives Tryz.prog 47 [.agg #[it X.tk.huts, .slice a1 n1 c1, it X.price, it X.fine, it X.wait], .slice ab nb cb, .bool v] w (.tuple #[.slice none 0 0, it 3]) := by
  unfold Gives
  obtain rfl := hR.tick.len'
  have hl1 := hR.len
  obtain rfl := hB.ent.len'
  have hlb := hB.len
  refine enter Tryz.func47 rfl 30 Tryz.ntmps47 (zqb rfl) (Inv.start hH) ?_
  refine WC.seq (WC.ofFr [(0, _), (1, _), (2, _)] ⟨rfl, rfl, rfl, trivial⟩ (WC.region ?_))
  refine WL.so (SO.box rfl rfl) rfl ?_
  rintro _ _ _ ⟨b3, hb3, rfl, rfl, rfl⟩
  refine WL.yd (Yd.assign rfl) rfl ?_
  refine WL.yd (Yd.assign rfl) rfl ?_
  refine WL.nil (WP.thenC (WC.seq (WC.seq (WC.ofFr [(7, _), (6, _), (3, _), (1, _), (2, _)] ⟨rfl, rfl, rfl, rfl, rfl, trivial⟩ (WC.region ?_)))))
  refine WL.yd (Yd.loadN Tryz.isAgg26 Tryz.sizeOf26 rfl (vs := [_, _, _, _, _]) rfl (by first | exact rn0 (n := 5) rfl rfl)) rfl ?_
  refine WL.so (SO.callP Tryz.call25 rfl (fun w hI => till13_g X a1 _ c1 _ _ hR hI.imm)) rfl ?_
  rintro _ _ _ ⟨rfl, rfl, rfl⟩
  refine WL.know 10 (.bool true) rfl (congrArg Value.bool h1) ?_
  refine WL.yd (Yd.not rfl) rfl ?_
  refine WL.nil (WP.thenC ?_)
  refine WC.condF rfl ?_
  refine WC.skip (WP.thenC (WC.seq (WC.seq (WC.ofFr [(7, _), (6, _), (3, _), (1, _), (2, _)] ⟨rfl, rfl, rfl, rfl, rfl, trivial⟩ (WC.region ?_)))))
  refine WL.yd (Yd.move rfl) rfl ?_
  refine WL.yd (Yd.lenS rfl Tryz.underlying38 rfl) rfl ?_
  refine WL.yd (Yd.gtr rfl rfl) rfl ?_
  refine WL.know 14 (.bool true) rfl (congrArg Value.bool (decide_eq_true (by (try dsimp only); omega))) ?_
  refine WL.nil (WP.thenC ?_)
  refine WC.condT rfl ?_
  refine WC.seq (WC.ofFr [(7, _), (6, _), (3, _), (1, _), (2, _)] ⟨rfl, rfl, rfl, rfl, rfl, trivial⟩ (WC.region ?_))
  refine WL.yd (Yd.assign rfl) rfl ?_
  refine WL.yd (Yd.assign rfl) rfl ?_
  refine WL.nil (WP.thenC (WC.ret (WP.thenRet ?_)))
  refine WP.ret2 rfl rfl Tryz.results47 (RV.tmp rfl) (RV.tmp rfl) (fun w hI => ⟨rfl, hI.keep⟩)

theorem told13_2v (X : Till) (a1 : Option Addr) (n1 c1 : Nat) (D : Imm) (w : World) (hR : TksR D X.tk a1 n1) (hH : Holds D w) (l : List Ent) (ab : Option Addr) (nb cb : Nat) (hB : BookR D l ab nb) (v : Bool) (h1 : tillB X = true) (h3 : nb ≤ 20) (hvv : v = false) : Gives Tryz.prog 47 [.agg #[it X.tk.huts, .slice a1 n1 c1, it X.price, it X.fine, it X.wait], .slice ab nb cb, .bool v] w (.tuple #[.slice none 0 0, it 2]) := by
  unfold Gives
  obtain rfl := hR.tick.len'
  have hl1 := hR.len
  obtain rfl := hB.ent.len'
  have hlb := hB.len
  refine enter Tryz.func47 rfl 30 Tryz.ntmps47 (zqb rfl) (Inv.start hH) ?_
  refine WC.seq (WC.ofFr [(0, _), (1, _), (2, _)] ⟨rfl, rfl, rfl, trivial⟩ (WC.region ?_))
  refine WL.so (SO.box rfl rfl) rfl ?_
  rintro _ _ _ ⟨b3, hb3, rfl, rfl, rfl⟩
  refine WL.yd (Yd.assign rfl) rfl ?_
  refine WL.yd (Yd.assign rfl) rfl ?_
  refine WL.nil (WP.thenC (WC.seq (WC.seq (WC.ofFr [(7, _), (6, _), (3, _), (1, _), (2, _)] ⟨rfl, rfl, rfl, rfl, rfl, trivial⟩ (WC.region ?_)))))
  refine WL.yd (Yd.loadN Tryz.isAgg26 Tryz.sizeOf26 rfl (vs := [_, _, _, _, _]) rfl (by first | exact rn0 (n := 5) rfl rfl)) rfl ?_
  refine WL.so (SO.callP Tryz.call25 rfl (fun w hI => till13_g X a1 _ c1 _ _ hR hI.imm)) rfl ?_
  rintro _ _ _ ⟨rfl, rfl, rfl⟩
  refine WL.know 10 (.bool true) rfl (congrArg Value.bool h1) ?_
  refine WL.yd (Yd.not rfl) rfl ?_
  refine WL.nil (WP.thenC ?_)
  refine WC.condF rfl ?_
  refine WC.skip (WP.thenC (WC.seq (WC.seq (WC.ofFr [(7, _), (6, _), (3, _), (1, _), (2, _)] ⟨rfl, rfl, rfl, rfl, rfl, trivial⟩ (WC.region ?_)))))
  refine WL.yd (Yd.move rfl) rfl ?_
  refine WL.yd (Yd.lenS rfl Tryz.underlying38 rfl) rfl ?_
  refine WL.yd (Yd.gtr rfl rfl) rfl ?_
  refine WL.know 14 (.bool false) rfl (congrArg Value.bool (decide_eq_false (by (try dsimp only); omega))) ?_
  refine WL.nil (WP.thenC ?_)
  refine WC.condF rfl ?_
  refine WC.skip (WP.thenC (WC.seq (WC.seq (WC.ofFr [(7, _), (6, _), (3, _), (1, _), (2, _)] ⟨rfl, rfl, rfl, rfl, rfl, trivial⟩ (WC.region ?_)))))
  refine WL.yd (Yd.move rfl) rfl ?_
  refine WL.know 15 (.bool false) rfl (congrArg Value.bool hvv) ?_
  refine WL.yd (Yd.not rfl) rfl ?_
  refine WL.yd (Yd.move rfl) rfl ?_
  refine WL.skip rfl rfl ?_
  refine WL.skip rfl rfl ?_
  refine WL.skip rfl rfl ?_
  refine WL.skip rfl rfl ?_
  refine WL.yd (Yd.pickT rfl rfl) rfl ?_
  refine WL.nil (WP.thenC ?_)
  refine WC.condT rfl ?_
  refine WC.seq (WC.ofFr [(7, _), (6, _), (3, _)] ⟨rfl, rfl, rfl, trivial⟩ (WC.region ?_))
  refine WL.yd (Yd.assign rfl) rfl ?_
  refine WL.yd (Yd.assign rfl) rfl ?_
  refine WL.nil (WP.thenC (WC.ret (WP.thenRet ?_)))
  refine WP.ret2 rfl rfl Tryz.results47 (RV.tmp rfl) (RV.tmp rfl) (fun w hI => ⟨rfl, hI.keep⟩)

theorem told13_2 (X : Till) (a1 : Option Addr) (n1 c1 : Nat) (D : Imm) (w : World) (hR : TksR D X.tk a1 n1) (hH : Holds D w) (l : List Ent) (ab : Option Addr) (nb cb : Nat) (hB : BookR D l ab nb) (v : Bool) (h1 : tillB X = true) (h3 : nb ≤ 20) (hvv : v = true) (h4 : l.all (entB X) = false) : Gives Tryz.prog 47 [.agg #[it X.tk.huts, .slice a1 n1 c1, it X.price, it X.fine, it X.wait], .slice ab nb cb, .bool v] w (.tuple #[.slice none 0 0, it 2]) := by
  unfold Gives
  obtain rfl := hR.tick.len'
  have hl1 := hR.len
  obtain rfl := hB.ent.len'
  have hlb := hB.len
  refine enter Tryz.func47 rfl 30 Tryz.ntmps47 (zqb rfl) (Inv.start hH) ?_
  refine WC.seq (WC.ofFr [(0, _), (1, _), (2, _)] ⟨rfl, rfl, rfl, trivial⟩ (WC.region ?_))
  refine WL.so (SO.box rfl rfl) rfl ?_
  rintro _ _ _ ⟨b3, hb3, rfl, rfl, rfl⟩
  refine WL.yd (Yd.assign rfl) rfl ?_
  refine WL.yd (Yd.assign rfl) rfl ?_
  refine WL.nil (WP.thenC (WC.seq (WC.seq (WC.ofFr [(7, _), (6, _), (3, _), (1, _), (2, _)] ⟨rfl, rfl, rfl, rfl, rfl, trivial⟩ (WC.region ?_)))))
  refine WL.yd (Yd.loadN Tryz.isAgg26 Tryz.sizeOf26 rfl (vs := [_, _, _, _, _]) rfl (by first | exact rn0 (n := 5) rfl rfl)) rfl ?_
  refine WL.so (SO.callP Tryz.call25 rfl (fun w hI => till13_g X a1 _ c1 _ _ hR hI.imm)) rfl ?_
  rintro _ _ _ ⟨rfl, rfl, rfl⟩
  refine WL.know 10 (.bool true) rfl (congrArg Value.bool h1) ?_
  refine WL.yd (Yd.not rfl) rfl ?_
  refine WL.nil (WP.thenC ?_)
  refine WC.condF rfl ?_
  refine WC.skip (WP.thenC (WC.seq (WC.seq (WC.ofFr [(7, _), (6, _), (3, _), (1, _), (2, _)] ⟨rfl, rfl, rfl, rfl, rfl, trivial⟩ (WC.region ?_)))))
  refine WL.yd (Yd.move rfl) rfl ?_
  refine WL.yd (Yd.lenS rfl Tryz.underlying38 rfl) rfl ?_
  refine WL.yd (Yd.gtr rfl rfl) rfl ?_
  refine WL.know 14 (.bool false) rfl (congrArg Value.bool (decide_eq_false (by (try dsimp only); omega))) ?_
  refine WL.nil (WP.thenC ?_)
  refine WC.condF rfl ?_
  refine WC.skip (WP.thenC (WC.seq (WC.seq (WC.ofFr [(7, _), (6, _), (3, _), (1, _), (2, _)] ⟨rfl, rfl, rfl, rfl, rfl, trivial⟩ (WC.region ?_)))))
  refine WL.yd (Yd.move rfl) rfl ?_
  refine WL.know 15 (.bool true) rfl (congrArg Value.bool hvv) ?_
  refine WL.yd (Yd.not rfl) rfl ?_
  refine WL.yd (Yd.move rfl) rfl ?_
  refine WL.ydg rfl (Yd.loadN Tryz.isAgg26 Tryz.sizeOf26 rfl (vs := [_, _, _, _, _]) rfl (by first | exact rn0 (n := 5) rfl rfl)) rfl ?_
  refine WL.ydg rfl (Yd.move rfl) rfl ?_
  refine WL.sog rfl (SO.callP Tryz.call26 rfl (fun w hI => book13_g X a1 _ c1 _ _ hR hI.imm l ab _ cb hB)) rfl ?_
  rintro _ _ _ ⟨rfl, rfl, rfl⟩
  refine WL.know 20 (.bool false) rfl (congrArg Value.bool h4) ?_
  refine WL.ydg rfl (Yd.not rfl) rfl ?_
  refine WL.yd (Yd.pickF rfl rfl) rfl ?_
  refine WL.nil (WP.thenC ?_)
  refine WC.condT rfl ?_
  refine WC.seq (WC.ofFr [(7, _), (6, _), (3, _)] ⟨rfl, rfl, rfl, trivial⟩ (WC.region ?_))
  refine WL.yd (Yd.assign rfl) rfl ?_
  refine WL.yd (Yd.assign rfl) rfl ?_
  refine WL.nil (WP.thenC (WC.ret (WP.thenRet ?_)))
  refine WP.ret2 rfl rfl Tryz.results47 (RV.tmp rfl) (RV.tmp rfl) (fun w hI => ⟨rfl, hI.keep⟩)

theorem told13_10 (X : Till) (a1 : Option Addr) (n1 c1 : Nat) (D : Imm) (w : World) (hR : TksR D X.tk a1 n1) (hH : Holds D w) (l : List Ent) (ab : Option Addr) (nb cb : Nat) (hB : BookR D l ab nb) (v : Bool) (h1 : tillB X = true) (h3 : nb ≤ 20) (hvv : v = true) (h4 : l.all (entB X) = true) (hW : tksE X.tk true = 10) : Gives Tryz.prog 47 [.agg #[it X.tk.huts, .slice a1 n1 c1, it X.price, it X.fine, it X.wait], .slice ab nb cb, .bool v] w (.tuple #[.slice none 0 0, it 10]) := by
  unfold Gives
  obtain rfl := hR.tick.len'
  have hl1 := hR.len
  obtain rfl := hB.ent.len'
  have hlb := hB.len
  have hv := (tillB_num h1).1
  refine enter Tryz.func47 rfl 30 Tryz.ntmps47 (zqb rfl) (Inv.start hH) ?_
  refine WC.seq (WC.ofFr [(0, _), (1, _), (2, _)] ⟨rfl, rfl, rfl, trivial⟩ (WC.region ?_))
  refine WL.so (SO.box rfl rfl) rfl ?_
  rintro _ _ _ ⟨b3, hb3, rfl, rfl, rfl⟩
  refine WL.yd (Yd.assign rfl) rfl ?_
  refine WL.yd (Yd.assign rfl) rfl ?_
  refine WL.nil (WP.thenC (WC.seq (WC.seq (WC.ofFr [(7, _), (6, _), (3, _), (1, _), (2, _)] ⟨rfl, rfl, rfl, rfl, rfl, trivial⟩ (WC.region ?_)))))
  refine WL.yd (Yd.loadN Tryz.isAgg26 Tryz.sizeOf26 rfl (vs := [_, _, _, _, _]) rfl (by first | exact rn0 (n := 5) rfl rfl)) rfl ?_
  refine WL.so (SO.callP Tryz.call25 rfl (fun w hI => till13_g X a1 _ c1 _ _ hR hI.imm)) rfl ?_
  rintro _ _ _ ⟨rfl, rfl, rfl⟩
  refine WL.know 10 (.bool true) rfl (congrArg Value.bool h1) ?_
  refine WL.yd (Yd.not rfl) rfl ?_
  refine WL.nil (WP.thenC ?_)
  refine WC.condF rfl ?_
  refine WC.skip (WP.thenC (WC.seq (WC.seq (WC.ofFr [(7, _), (6, _), (3, _), (1, _), (2, _)] ⟨rfl, rfl, rfl, rfl, rfl, trivial⟩ (WC.region ?_)))))
  refine WL.yd (Yd.move rfl) rfl ?_
  refine WL.yd (Yd.lenS rfl Tryz.underlying38 rfl) rfl ?_
  refine WL.yd (Yd.gtr rfl rfl) rfl ?_
  refine WL.know 14 (.bool false) rfl (congrArg Value.bool (decide_eq_false (by (try dsimp only); omega))) ?_
  refine WL.nil (WP.thenC ?_)
  refine WC.condF rfl ?_
  refine WC.skip (WP.thenC (WC.seq (WC.seq (WC.ofFr [(7, _), (6, _), (3, _), (1, _), (2, _)] ⟨rfl, rfl, rfl, rfl, rfl, trivial⟩ (WC.region ?_)))))
  refine WL.yd (Yd.move rfl) rfl ?_
  refine WL.know 15 (.bool true) rfl (congrArg Value.bool hvv) ?_
  refine WL.yd (Yd.not rfl) rfl ?_
  refine WL.yd (Yd.move rfl) rfl ?_
  refine WL.ydg rfl (Yd.loadN Tryz.isAgg26 Tryz.sizeOf26 rfl (vs := [_, _, _, _, _]) rfl (by first | exact rn0 (n := 5) rfl rfl)) rfl ?_
  refine WL.ydg rfl (Yd.move rfl) rfl ?_
  refine WL.sog rfl (SO.callP Tryz.call26 rfl (fun w hI => book13_g X a1 _ c1 _ _ hR hI.imm l ab _ cb hB)) rfl ?_
  rintro _ _ _ ⟨rfl, rfl, rfl⟩
  refine WL.know 20 (.bool true) rfl (congrArg Value.bool h4) ?_
  refine WL.ydg rfl (Yd.not rfl) rfl ?_
  refine WL.yd (Yd.pickF rfl rfl) rfl ?_
  refine WL.nil (WP.thenC ?_)
  refine WC.condF rfl ?_
  refine WC.skip (WP.thenC (WC.seq (WC.ofFr [(7, _), (6, _), (3, _)] ⟨rfl, rfl, rfl, trivial⟩ (WC.region ?_))))
  refine WL.yd (Yd.fieldAddr FA26_0 rfl) rfl ?_
  refine WL.yd (Yd.loadN Tryz.isAgg24 Tryz.sizeOf24 rfl (vs := [_, _]) rfl (by first | exact rn0 (n := 2) rfl rfl)) rfl ?_
  refine WL.so (SO.makes (Enters.func Tryz.call85 rfl) (fun w hI => Truths_g X.tk a1 _ c1 _ w hR hI.imm hv)) rfl ?_
  rintro _ D6 _ ⟨hX6, ⟨rows, a6, n6, c6, rfl, hM⟩, rfl⟩
  have hn6 : n6 = 0 := by
    have := rows_pos hM hv
    rw [hW] at this
    by_cases e : n6 = 0
    · exact e
    · rw [if_neg e] at this; cases this
  refine WL.yd (Yd.assign rfl) rfl ?_
  refine WL.nil (WP.thenC (WC.seq (WC.seq (WC.ofFr [(8, _), (7, _), (6, _)] ⟨rfl, rfl, rfl, trivial⟩ (WC.region ?_)))))
  refine WL.yd (Yd.move rfl) rfl ?_
  refine WL.yd (Yd.lenS rfl Tryz.underlying81 rfl) rfl ?_
  refine WL.yd (Yd.eql rfl rfl) rfl ?_
  refine WL.know 28 (.bool true) rfl (congrArg Value.bool (decide_eq_true (by (try dsimp only); omega))) ?_
  refine WL.nil (WP.thenC ?_)
  refine WC.condT rfl ?_
  refine WC.seq (WC.ofFr [(8, _), (7, _), (6, _)] ⟨rfl, rfl, rfl, trivial⟩ (WC.region ?_))
  refine WL.yd (Yd.assign rfl) rfl ?_
  refine WL.yd (Yd.assign rfl) rfl ?_
  refine WL.nil (WP.thenC (WC.ret (WP.thenRet ?_)))
  refine WP.ret2 rfl rfl Tryz.results47 (RV.tmp rfl) (RV.tmp rfl) (fun w hI => ⟨rfl, hI.keep⟩)

theorem told13_0 (X : Till) (a1 : Option Addr) (n1 c1 : Nat) (D : Imm) (w : World) (hR : TksR D X.tk a1 n1) (hH : Holds D w) (l : List Ent) (ab : Option Addr) (nb cb : Nat) (hB : BookR D l ab nb) (v : Bool) (h1 : tillB X = true) (h3 : nb ≤ 20) (hvv : v = true) (h4 : l.all (entB X) = true) (hW : tksE X.tk true = 0) : Makes Tryz.prog 47 [.agg #[it X.tk.huts, .slice a1 n1 c1, it X.price, it X.fine, it X.wait], .slice ab nb cb, .bool v] w D (fun r D' => ∃ rows a n c, r = .tuple #[.slice a n c, it 0] ∧ RowsM D' X.tk rows a n ∧ 0 < n) := by
  unfold Makes
  obtain rfl := hR.tick.len'
  have hl1 := hR.len
  obtain rfl := hB.ent.len'
  have hlb := hB.len
  have hv := (tillB_num h1).1
  refine enter Tryz.func47 rfl 30 Tryz.ntmps47 (zqb rfl) (Inv.start hH) ?_
  refine WC.seq (WC.ofFr [(0, _), (1, _), (2, _)] ⟨rfl, rfl, rfl, trivial⟩ (WC.region ?_))
  refine WL.so (SO.box rfl rfl) rfl ?_
  rintro _ _ _ ⟨b3, hb3, rfl, rfl, rfl⟩
  refine WL.yd (Yd.assign rfl) rfl ?_
  refine WL.yd (Yd.assign rfl) rfl ?_
  refine WL.nil (WP.thenC (WC.seq (WC.seq (WC.ofFr [(7, _), (6, _), (3, _), (1, _), (2, _)] ⟨rfl, rfl, rfl, rfl, rfl, trivial⟩ (WC.region ?_)))))
  refine WL.yd (Yd.loadN Tryz.isAgg26 Tryz.sizeOf26 rfl (vs := [_, _, _, _, _]) rfl (by first | exact rn0 (n := 5) rfl rfl)) rfl ?_
  refine WL.so (SO.callP Tryz.call25 rfl (fun w hI => till13_g X a1 _ c1 _ _ hR hI.imm)) rfl ?_
  rintro _ _ _ ⟨rfl, rfl, rfl⟩
  refine WL.know 10 (.bool true) rfl (congrArg Value.bool h1) ?_
  refine WL.yd (Yd.not rfl) rfl ?_
  refine WL.nil (WP.thenC ?_)
  refine WC.condF rfl ?_
  refine WC.skip (WP.thenC (WC.seq (WC.seq (WC.ofFr [(7, _), (6, _), (3, _), (1, _), (2, _)] ⟨rfl, rfl, rfl, rfl, rfl, trivial⟩ (WC.region ?_)))))
  refine WL.yd (Yd.move rfl) rfl ?_
  refine WL.yd (Yd.lenS rfl Tryz.underlying38 rfl) rfl ?_
  refine WL.yd (Yd.gtr rfl rfl) rfl ?_
  refine WL.know 14 (.bool false) rfl (congrArg Value.bool (decide_eq_false (by (try dsimp only); omega))) ?_
  refine WL.nil (WP.thenC ?_)
  refine WC.condF rfl ?_
  refine WC.skip (WP.thenC (WC.seq (WC.seq (WC.ofFr [(7, _), (6, _), (3, _), (1, _), (2, _)] ⟨rfl, rfl, rfl, rfl, rfl, trivial⟩ (WC.region ?_)))))
  refine WL.yd (Yd.move rfl) rfl ?_
  refine WL.know 15 (.bool true) rfl (congrArg Value.bool hvv) ?_
  refine WL.yd (Yd.not rfl) rfl ?_
  refine WL.yd (Yd.move rfl) rfl ?_
  refine WL.ydg rfl (Yd.loadN Tryz.isAgg26 Tryz.sizeOf26 rfl (vs := [_, _, _, _, _]) rfl (by first | exact rn0 (n := 5) rfl rfl)) rfl ?_
  refine WL.ydg rfl (Yd.move rfl) rfl ?_
  refine WL.sog rfl (SO.callP Tryz.call26 rfl (fun w hI => book13_g X a1 _ c1 _ _ hR hI.imm l ab _ cb hB)) rfl ?_
  rintro _ _ _ ⟨rfl, rfl, rfl⟩
  refine WL.know 20 (.bool true) rfl (congrArg Value.bool h4) ?_
  refine WL.ydg rfl (Yd.not rfl) rfl ?_
  refine WL.yd (Yd.pickF rfl rfl) rfl ?_
  refine WL.nil (WP.thenC ?_)
  refine WC.condF rfl ?_
  refine WC.skip (WP.thenC (WC.seq (WC.ofFr [(7, _), (6, _), (3, _)] ⟨rfl, rfl, rfl, trivial⟩ (WC.region ?_))))
  refine WL.yd (Yd.fieldAddr FA26_0 rfl) rfl ?_
  refine WL.yd (Yd.loadN Tryz.isAgg24 Tryz.sizeOf24 rfl (vs := [_, _]) rfl (by first | exact rn0 (n := 2) rfl rfl)) rfl ?_
  refine WL.so (SO.makes (Enters.func Tryz.call85 rfl) (fun w hI => Truths_g X.tk a1 _ c1 _ w hR hI.imm hv)) rfl ?_
  rintro _ D6 _ ⟨hX6, ⟨rows, a6, n6, c6, rfl, hM⟩, rfl⟩
  have hn6 : 0 < n6 := by
    have := rows_pos hM hv
    rw [hW] at this
    by_cases e : n6 = 0
    · rw [if_pos e] at this; cases this
    · omega
  refine WL.yd (Yd.assign rfl) rfl ?_
  refine WL.nil (WP.thenC (WC.seq (WC.seq (WC.ofFr [(8, _), (7, _), (6, _)] ⟨rfl, rfl, rfl, trivial⟩ (WC.region ?_)))))
  refine WL.yd (Yd.move rfl) rfl ?_
  refine WL.yd (Yd.lenS rfl Tryz.underlying81 rfl) rfl ?_
  refine WL.yd (Yd.eql rfl rfl) rfl ?_
  refine WL.know 28 (.bool false) rfl (congrArg Value.bool (decide_eq_false (by (try dsimp only); omega))) ?_
  refine WL.nil (WP.thenC ?_)
  refine WC.condF rfl ?_
  refine WC.skip (WP.thenC (WC.seq (WC.ofFr [(8, _), (7, _), (6, _)] ⟨rfl, rfl, rfl, trivial⟩ (WC.region ?_))))
  refine WL.yd (Yd.move rfl) rfl ?_
  refine WL.yd (Yd.assign rfl) rfl ?_
  refine WL.yd (Yd.assign rfl) rfl ?_
  refine WL.nil (WP.thenC (WC.ret ?_))
  refine WP.ret2 rfl rfl Tryz.results47 (RV.tmp rfl) (RV.tmp rfl) (fun w1 hI => ⟨_, D6, rfl, hI.keep, hI.imm, hX6, rows, a6, n6, c6, rfl, hM, hn6⟩)

theorem told13_no (X : Till) (a1 : Option Addr) (n1 c1 : Nat) (D : Imm) (w : World) (hR : TksR D X.tk a1 n1) (hH : Holds D w) (l : List Ent) (ab : Option Addr) (nb cb : Nat) (hB : BookR D l ab nb) (v : Bool) (h : tolE X l v ≠ 0) : Gives Tryz.prog 47 [.agg #[it X.tk.huts, .slice a1 n1 c1, it X.price, it X.fine, it X.wait], .slice ab nb cb, .bool v] w (.tuple #[.slice none 0 0, it (tolE X l v)]) := by
  have hl := hB.ent.len'
  cases h1 : tillB X with
  | false => rw [show tolE X l v = 1 by unfold tolE; rw [tillE_1 h1, if_pos (by decide)]]; exact told13_1 X a1 n1 c1 D w hR hH l ab nb cb hB v h1
  | true =>
    rcases Nat.lt_or_ge 20 nb with h3 | h3
    · rw [show tolE X l v = 3 by unfold tolE; rw [tillE_3 h1 (by omega), if_pos (by decide)]]; exact told13_3 X a1 n1 c1 D w hR hH l ab nb cb hB v h1 h3
    · cases hvv : v with
      | false => rw [show tolE X l false = 2 by unfold tolE; rw [tillE_2 h1 (by omega) rfl, if_pos (by decide)]]; exact told13_2v X a1 n1 c1 D w hR hH l ab nb cb hB false h1 h3 rfl
      | true =>
        cases h4 : l.all (entB X) with
        | false => rw [show tolE X l true = 2 by unfold tolE; rw [tillE_no h1 (by omega) h4, if_pos (by decide)]]; exact told13_2 X a1 n1 c1 D w hR hH l ab nb cb hB true h1 h3 rfl h4
        | true =>
          have h0 := tillE_0 (is := true) h1 (by omega : l.length ≤ 20) rfl (all_iff.1 h4)
          have e : tolE X l true = tksE X.tk true := by unfold tolE; rw [h0, if_neg (by decide)]
          rcases tks_e10 (tillB_num h1).1 with hW | hW
          · exact absurd (by rw [hvv, e, hW]) h
          · rw [e, hW]; exact told13_10 X a1 n1 c1 D w hR hH l ab nb cb hB true h1 h3 rfl h4 hW
theorem tol_split {X : Till} {l : List Ent} {v : Bool} (h : tolE X l v = 0) : tillB X = true ∧ l.length ≤ 20 ∧ v = true ∧ l.all (entB X) = true ∧ tksE X.tk true = 0 := by
  unfold tolE at h
  split at h
  · rename_i h1; exact absurd h h1
  · rename_i h1
    obtain ⟨q1, q2, q3, q4⟩ := tillE_all (Decidable.not_not.1 h1)
    exact ⟨q1, q2, q3, all_iff.2 q4, h⟩
theorem told13_ok (X : Till) (a1 : Option Addr) (n1 c1 : Nat) (D : Imm) (w : World) (hR : TksR D X.tk a1 n1) (hH : Holds D w) (l : List Ent) (ab : Option Addr) (nb cb : Nat) (hB : BookR D l ab nb) (v : Bool) (h : tolE X l v = 0) : Makes Tryz.prog 47 [.agg #[it X.tk.huts, .slice a1 n1 c1, it X.price, it X.fine, it X.wait], .slice ab nb cb, .bool v] w D (fun r D' => ∃ rows a n c, r = .tuple #[.slice a n c, it 0] ∧ RowsM D' X.tk rows a n ∧ 0 < n) := by
  obtain ⟨q1, q2, q3, q4, q5⟩ := tol_split h
  exact told13_0 X a1 n1 c1 D w hR hH l ab nb cb hB v q1 (by rw [hB.ent.len']; exact q2) q3 q4 q5

theorem hull_g (l : List Int) (a : Option Addr) (n c : Nat) (D : Imm) (w : World) (hS : SlL D 1 (l.map intC) a n) (h0 : 0 < n) (hn : n ≤ 1000000) (hH : Holds D w) : Gives Tryz.prog 50 [.slice a n c] w (spV (hullL l)) := by
  unfold Gives
  obtain rfl := hS.len'
  refine enter Tryz.func50 rfl 34 Tryz.ntmps50 (zqb rfl) (Inv.start hH) ?_
  refine WC.seq (WC.ofFr [(0, _)] ⟨rfl, trivial⟩ (WC.region ?_))
  refine WL.so (SO.alloc Tryz.zeroValue33 rfl) rfl ?_
  rintro _ _ _ ⟨b2, hb2, rfl, rfl, rfl⟩
  refine WL.nil (WP.thenC (WC.seq (WC.ofFr [(2, _), (0, _)] ⟨rfl, rfl, trivial⟩ ?_)))
  refine WC.drawH [] (by kernel_rfl) (fun _ hI => hI.none) ?_
  refine WH.yd (i := 0) (by kernel_rfl) (fun _ o v c a w _ h => (QuietPanic.then QuietPanic.body) c o.dst v a w h) rfl (Yd.move rfl) rfl ?_
  refine WH.yd (i := 1) (by kernel_rfl) (fun _ o v c a w _ h => (QuietPanic.then QuietPanic.body) c o.dst v a w h) rfl (Yd.indexS Tryz.underlying52 Tryz.sizeOf3 rfl rfl (by (try dsimp only); omega) (by (try dsimp only); omega) (by first | exact hS.addr 0 (by omega) | exact hS.addr k (by omega))) rfl ?_
  refine WH.yd (i := 2) (by kernel_rfl) (fun _ o v c a w _ h => (QuietPanic.then QuietPanic.body) c o.dst v a w h) rfl (Yd.load1 Tryz.isAgg3 rfl (by first | exact ro0 rfl rfl | exact ((hS.at 0 (by omega)).rd 0 rfl) | exact ((hS.at k (by omega)).rd 0 rfl))) rfl ?_
  refine WH.yd (i := 3) (by kernel_rfl) (fun _ o v c a w _ h => (QuietPanic.then QuietPanic.body) c o.dst v a w h) rfl (Yd.move rfl) rfl ?_
  refine WH.yd (i := 4) (by kernel_rfl) (fun _ o v c a w _ h => (QuietPanic.then QuietPanic.body) c o.dst v a w h) rfl (Yd.indexS Tryz.underlying52 Tryz.sizeOf3 rfl rfl (by (try dsimp only); omega) (by (try dsimp only); omega) (by first | exact hS.addr 0 (by omega) | exact hS.addr k (by omega))) rfl ?_
  refine WH.yd (i := 5) (by kernel_rfl) (fun _ o v c a w _ h => (QuietPanic.then QuietPanic.body) c o.dst v a w h) rfl (Yd.load1 Tryz.isAgg3 rfl (by first | exact ro0 rfl rfl | exact ((hS.at 0 (by omega)).rd 0 rfl) | exact ((hS.at k (by omega)).rd 0 rfl))) rfl ?_
  refine WH.yd (i := 6) (by kernel_rfl) (fun _ o v c a w _ h => (QuietPanic.then QuietPanic.body) c o.dst v a w h) rfl (Yd.build SA33 rfl (cs := [_, _]) rfl) rfl ?_
  refine WH.one (i := 7) (by kernel_rfl) (WHo.so rfl (SO.alloc Tryz.zeroValue33 rfl) rfl ?_)
  rintro _ _ _ ⟨b3, hb3, rfl, rfl, rfl⟩
  refine ⟨(fun _ hI => hI.none), ?_⟩
  refine WH.one (i := 8) (by kernel_rfl) (WHo.so rfl (SO.store 0 rfl Tryz.sizeOf33 rfl rfl rfl rfl (zqb rfl) (oneB_spec rfl)) rfl ?_)
  rintro _ _ _ ⟨rfl, rfl, rfl⟩
  refine ⟨(fun _ hI => hI.none), ?_⟩
  refine WH.nil (by kernel_rfl) ?_
  refine WP.thenC (WC.seq (WC.seq (WC.ofFr [(3, _), (2, _), (0, _)] ⟨rfl, rfl, rfl, trivial⟩ (WC.region ?_))))
  refine WL.yd (Yd.assign rfl) rfl ?_
  refine WL.nil (WP.thenC (WC.block ?_))
  refine WC.loopT [] (fun k : Nat => [(0, .slice a l.length c), (2, pt b2), (3, pt b3), (4, nt k)]) (fun k => [(b3, Obj.cells (List.toArray [it (((l.take k).foldl min (gt l 0))), it ((l.take k).foldl max (gt l 0))]) 33 (0, 0)), (b2, Obj.cells (List.toArray [it 0, it 0]) 33 (0, 0))]) (fun k => k ≤ l.length) (fun k => l.length - k) 0 (by omega) rfl ⟨rfl, rfl, rfl, rfl, trivial⟩ ?_
  intro k hk
  refine WC.seq (WC.seq (WC.ofFr [(0, _), (2, _), (3, _), (4, _)] ⟨rfl, rfl, rfl, rfl, trivial⟩ (WC.region ?_)))
  refine WL.yd (Yd.move rfl) rfl ?_
  refine WL.yd (Yd.move rfl) rfl ?_
  refine WL.yd (Yd.lenS rfl Tryz.underlying52 rfl) rfl ?_
  refine WL.yd (Yd.lss rfl rfl) rfl ?_
  refine WL.nil (WP.thenC ?_)
  refine WC.cond rfl (fun c15 => ?_) (fun c15 => ?_)
  · try simp only [zq1, zq2, zq3, zq4, zq5, zq6, zq7, zq8] at c15
    have hkl : k < l.length := by omega
    refine WC.skip (WP.thenC (WC.seq (WC.block (WC.ofFr [(0, _), (2, _), (3, _), (4, _)] ⟨rfl, rfl, rfl, rfl, trivial⟩ ?_))))
    refine WC.tail 14 [0, 1, 2, 3, 4, 5, 6, 7, 8, 9, 10, 11, 12, 13] rfl (by kernel_rfl) (by kernel_rfl)  ?_
    refine WQ.q rfl (Yd.qt (Yd.fieldAddr FA33_0 rfl)) rfl ?_
    refine WQ.q rfl (Yd.qt (Yd.load1 Tryz.isAgg3 rfl (by first | exact ro0 rfl rfl | exact ro1 rfl rfl | exact ((hS.at 0 (by omega)).rd 0 rfl) | exact ((hS.at k (by omega)).rd 0 rfl)))) rfl ?_
    refine WQ.q rfl (Yd.qt (Yd.move rfl)) rfl ?_
    refine WQ.q rfl (Yd.qt (Yd.move rfl)) rfl ?_
    refine WQ.q rfl (Yd.qt (Yd.indexS Tryz.underlying52 Tryz.sizeOf3 rfl rfl (by (try dsimp only); omega) (by (try dsimp only); omega) (by first | exact hS.addr 0 (by omega) | exact hS.addr k (by omega)))) rfl ?_
    refine WQ.q rfl (Yd.qt (Yd.load1 Tryz.isAgg3 rfl (by first | exact ro0 rfl rfl | exact ro1 rfl rfl | exact ((hS.at 0 (by omega)).rd 0 rfl) | exact ((hS.at k (by omega)).rd 0 rfl)))) rfl ?_
    refine WQ.q rfl (Yd.qt (Yd.min2 rfl rfl)) rfl ?_
    refine WQ.q rfl (Yd.qt (Yd.fieldAddr FA33_1 rfl)) rfl ?_
    refine WQ.q rfl (Yd.qt (Yd.load1 Tryz.isAgg3 rfl (by first | exact ro0 rfl rfl | exact ro1 rfl rfl | exact ((hS.at 0 (by omega)).rd 0 rfl) | exact ((hS.at k (by omega)).rd 0 rfl)))) rfl ?_
    refine WQ.q rfl (Yd.qt (Yd.move rfl)) rfl ?_
    refine WQ.q rfl (Yd.qt (Yd.move rfl)) rfl ?_
    refine WQ.q rfl (Yd.qt (Yd.indexS Tryz.underlying52 Tryz.sizeOf3 rfl rfl (by (try dsimp only); omega) (by (try dsimp only); omega) (by first | exact hS.addr 0 (by omega) | exact hS.addr k (by omega)))) rfl ?_
    refine WQ.q rfl (Yd.qt (Yd.load1 Tryz.isAgg3 rfl (by first | exact ro0 rfl rfl | exact ro1 rfl rfl | exact ((hS.at 0 (by omega)).rd 0 rfl) | exact ((hS.at k (by omega)).rd 0 rfl)))) rfl ?_
    refine WQ.q rfl (Yd.qt (Yd.max2 rfl rfl)) rfl ?_
    refine WQ.tail ?_
    refine WL.yd (Yd.build SA33 rfl (cs := [_, _]) rfl) rfl ?_
    refine WL.so (SO.store 0 rfl Tryz.sizeOf33 rfl rfl rfl rfl (zqb rfl) (oneB_spec rfl)) rfl ?_
    rintro _ _ _ ⟨rfl, rfl, rfl⟩
    refine WL.nil (WP.blkNormal (WP.thenC (WC.ofFr [(0, _), (2, _), (3, _), (4, _)] ⟨rfl, rfl, rfl, rfl, trivial⟩ (WC.region ?_))))
    refine WL.yd (Yd.move rfl) rfl ?_
    refine WL.yd (Yd.addN (i := k) (j := 1) rfl rfl (by omega)) rfl ?_
    refine WL.yd (Yd.assign rfl) rfl ?_
    refine WL.nil ?_
    exact WP.againT (k + 1) (by omega) (by omega) [] _ rfl (by show _ = [(b3, Obj.cells (List.toArray [it (((l.take (k + 1)).foldl min (gt l 0))), it ((l.take (k + 1)).foldl max (gt l 0))]) 33 (0, 0)), (b2, Obj.cells (List.toArray [it 0, it 0]) 33 (0, 0))]; rw [List.take_succ_eq_append_getElem hkl, List.foldl_append, List.foldl_append, ← show gt l k = l[k] by simp [gt, List.getD, hkl]]; rfl) ⟨rfl, rfl, rfl, rfl, trivial⟩
  · try simp only [zq1, zq2, zq3, zq4, zq5, zq6, zq7, zq8] at c15
    obtain rfl : k = l.length := by omega
    refine WC.exit ?_
    refine WP.thenExit ?_
    refine WP.thenExit ?_
    refine WP.blkHit ?_
    refine WP.thenC (WC.seq (WC.ofFr [(2, _), (3, _)] ⟨rfl, rfl, trivial⟩ (WC.region ?_)))
    refine WL.yd (Yd.loadN Tryz.isAgg33 Tryz.sizeOf33 rfl (vs := [_, _]) rfl (by first | exact rn0 (n := 2) rfl rfl | exact rn1 (n := 2) rfl rfl)) rfl ?_
    refine WL.so (SO.store 1 rfl Tryz.sizeOf33 rfl rfl rfl rfl (zqb rfl) (oneB_spec rfl)) rfl ?_
    rintro _ _ _ ⟨rfl, rfl, rfl⟩
    refine WL.nil (WP.thenC (WC.ret ?_))
    refine WP.ret1 rfl rfl Tryz.results50 (RV.cellN Tryz.isAgg33 Tryz.sizeOf33 rfl (vs := [_, _]) rfl (by first | exact rn0 (n := 2) rfl rfl | exact rn1 (n := 2) rfl rfl)) (fun w hI => ⟨by unfold hullL; rw [List.take_length]; rfl, hI.keep⟩)

theorem power13_g (n : Nat) (w : World) (hn : n ≤ 60) : Gives Tryz.prog 61 [nt n] w (nt (2 ^ n)) := by
  unfold Gives
  refine enter Tryz.func61 rfl 13 Tryz.ntmps61 (zqb rfl) (Inv.start (D := fun _ => none) (by intro _ _ h; cases h)) ?_
  refine WC.seq (WC.ofFr [(0, _)] ⟨rfl, trivial⟩ (WC.region ?_))
  refine WL.yd (Yd.assign rfl) rfl ?_
  refine WL.nil (WP.thenC (WC.seq (WC.ofFr [(2, _), (0, _)] ⟨rfl, rfl, trivial⟩ (WC.region ?_))))
  refine WL.yd (Yd.assign rfl) rfl ?_
  refine WL.nil (WP.thenC (WC.seq (WC.seq (WC.ofFr [(3, _), (2, _), (0, _)] ⟨rfl, rfl, rfl, trivial⟩ (WC.region ?_)))))
  refine WL.yd (Yd.assign rfl) rfl ?_
  refine WL.nil (WP.thenC (WC.block ?_))
  refine WC.loopF (fun k : Nat => [(0, nt n), (3, nt (2 ^ k)), (4, nt k)]) (fun k => k ≤ n) (fun k => n - k) 0 (by omega) ⟨rfl, rfl, rfl, trivial⟩ ?_
  intro k hk
  have hb : ((2 ^ k : Nat) : Int) ≤ ((2 ^ 60 : Nat) : Int) := by exact_mod_cast Nat.pow_le_pow_right (by omega) (by omega)
  have hb0 : (0 : Int) ≤ ((2 ^ k : Nat) : Int) := Int.natCast_nonneg _
  have hb1 : ((2 ^ 60 : Nat) : Int) = 1152921504606846976 := by decide
  refine WC.seq (WC.seq (WC.ofFr [(0, _), (3, _), (4, _)] ⟨rfl, rfl, rfl, trivial⟩ (WC.region ?_)))
  refine WL.yd (Yd.move rfl) rfl ?_
  refine WL.yd (Yd.move rfl) rfl ?_
  refine WL.yd (Yd.lss rfl rfl) rfl ?_
  refine WL.nil (WP.thenC ?_)
  refine WC.cond rfl (fun c7 => ?_) (fun c7 => ?_)
  · try simp only [zq1, zq2, zq3, zq4, zq5, zq6, zq7, zq8] at c7
    refine WC.skip (WP.thenC (WC.seq (WC.block (WC.ofFr [(0, _), (3, _), (4, _)] ⟨rfl, rfl, rfl, trivial⟩ (WC.region ?_)))))
    refine WL.yd (Yd.move rfl) rfl ?_
    refine WL.yd (Yd.mul rfl rfl (wr64 ⟨by omega, by omega⟩)) rfl ?_
    refine WL.yd (Yd.assign rfl) rfl ?_
    refine WL.nil (WP.blkNormal (WP.thenC (WC.ofFr [(3, _), (0, _), (4, _)] ⟨rfl, rfl, rfl, trivial⟩ (WC.region ?_))))
    refine WL.yd (Yd.move rfl) rfl ?_
    refine WL.yd (Yd.addN (i := k) (j := 1) rfl rfl (by omega)) rfl ?_
    refine WL.yd (Yd.assign rfl) rfl ?_
    refine WL.nil ?_
    exact WP.againF (k + 1) (by omega) (by omega) ⟨rfl, by rw [show nt (2 ^ (k + 1)) = it (2 * ((2 ^ k : Nat) : Int)) from by simp only [nt, it, Nat.pow_succ]; congr 1; push_cast; omega]; rfl, rfl, trivial⟩ (fun _ h => h) (fun h => h)
  · try simp only [zq1, zq2, zq3, zq4, zq5, zq6, zq7, zq8] at c7
    refine WC.exit ?_
    refine WP.thenExit ?_
    refine WP.thenExit ?_
    refine WP.blkHit ?_
    refine WP.thenC (WC.seq (WC.ofFr [(3, _)] ⟨rfl, trivial⟩ (WC.region ?_)))
    refine WL.yd (Yd.move rfl) rfl ?_
    refine WL.yd (Yd.assign rfl) rfl ?_
    refine WL.nil (WP.thenC (WC.ret ?_))
    refine WP.ret1 rfl rfl Tryz.results61 (RV.tmp rfl) (fun w hI => ⟨by rw [show k = n from by omega], hI.keep⟩)

end Go.Proofs.YtpnbkdlejfmbeaaGreat
