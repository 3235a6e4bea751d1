import Derived.Test.YtidjdonppfegiaaXQ
import Derived.Test.YtidjdonppfegiaaXP
import Derived.Test.YtidjdonppfegiaaXK
set_option linter.unusedSimpArgs false
set_option linter.unusedVariables false
set_option linter.all false
/- The document's list of plans, as it grows; a list of plans in memory. -/
namespace Go.Proofs.Ytidjdonppfegiaa
open Go.W Go.Dp
def plC (d : Dips) (best : Bool) (rem : Nat) (b : List Plc) : List (List Plc) := if b ≠ [] ∧ brokenR d b (b.length - 1) best ≠ 0 then [] else plR d best rem b
theorem plC_snoc (d : Dips) (best : Bool) (rem : Nat) (b : List Plc) (x : Plc) : plC d best rem (b ++ [x]) = if brokenR d (b ++ [x]) b.length best = 0 then plR d best rem (b ++ [x]) else [] := by
  unfold plC
  have e : (b ++ [x]).length - 1 = b.length := by simp
  rw [e]
  by_cases h : brokenR d (b ++ [x]) b.length best = 0
  · rw [if_neg (fun hh => hh.2 h), if_pos h]
  · rw [if_pos ⟨by simp, h⟩, if_neg h]
def rowQ (d : Dips) (best : Bool) (rem : Nat) (b : List Plc) (hr k : Nat) : List (List Plc) := (List.range k).flatMap fun j => plC d best rem (b ++ [pk hr j])
def plTo (d : Dips) (best : Bool) (rem : Nat) (b : List Plc) (hr : Nat) : List (List Plc) := (List.range hr).flatMap fun h => rowQ d best rem b h d.dippers.length
def accQ (d : Dips) (best : Bool) (rem : Nat) (b : List Plc) (L : List (List Plc)) (hr k : Nat) : List (List Plc) := L ++ plTo d best rem b hr ++ rowQ d best rem b hr k
theorem plR_succ (d : Dips) (best : Bool) (rem : Nat) (b : List Plc) : plR d best (rem + 1) b = plTo d best rem b d.hours.toNat := by
  simp only [plR, allPl, plTo, rowQ, List.flatMap_assoc, rowPl, List.flatMap_map, plC_snoc]
theorem accQ_zero (d : Dips) (best : Bool) (rem : Nat) (b : List Plc) (L : List (List Plc)) : accQ d best rem b L 0 0 = L := by simp [accQ, plTo, rowQ]
theorem accQ_succ (d : Dips) (best : Bool) (rem : Nat) (b : List Plc) (L : List (List Plc)) (hr k : Nat) : accQ d best rem b L hr (k + 1) = accQ d best rem b L hr k ++ plC d best rem (b ++ [pk hr k]) := by
  simp [accQ, rowQ, List.range_succ, List.append_assoc]
theorem accQ_next (d : Dips) (best : Bool) (rem : Nat) (b : List Plc) (L : List (List Plc)) (hr : Nat) : accQ d best rem b L hr d.dippers.length = accQ d best rem b L (hr + 1) 0 := by
  simp [accQ, plTo, rowQ, List.range_succ, List.append_assoc]
theorem accQ_all (d : Dips) (best : Bool) (rem : Nat) (b : List Plc) (L : List (List Plc)) (h : b ≠ [] → brokenR d b (b.length - 1) best = 0) : accQ d best rem b L d.hours.toNat 0 = L ++ plC d best (rem + 1) b := by
  rw [plC, if_neg (fun hh => hh.2 (h hh.1)), plR_succ]
  simp [accQ, rowQ]
theorem flat_le {α β : Type} (f : α → List β) (n : Nat) (l : List α) (h : ∀ x ∈ l, (f x).length ≤ n) : (l.flatMap f).length ≤ l.length * n := by
  induction l with
  | nil => simp
  | cons x l ih =>
    rw [List.flatMap_cons, List.length_append, List.length_cons, Nat.succ_mul]
    have h1 := h x (List.mem_cons_self ..)
    have h2 := ih (fun y hy => h y (List.mem_cons_of_mem _ hy))
    omega
theorem plC_le' {d : Dips} (best : Bool) (rem n : Nat) (b : List Plc) (h : (plR d best rem b).length ≤ n) : (plC d best rem b).length ≤ n := by
  unfold plC; split
  · simp
  · exact h
theorem plR_le {d : Dips} (hv : dipsB d = true) (best : Bool) : ∀ rem b, (plR d best rem b).length ≤ 12 ^ rem := by
  have hn := dips_num hv
  intro rem
  induction rem with
  | zero => intro b; simp [plR]
  | succ rem ih =>
    intro b
    rw [plR_succ, plTo]
    refine Nat.le_trans (flat_le _ (3 * 12 ^ rem) _ fun h _ => ?_) ?_
    · refine Nat.le_trans (flat_le _ (12 ^ rem) _ fun k _ => plC_le' best rem _ _ (ih _)) ?_
      rw [List.length_range]
      exact Nat.mul_le_mul_right _ hn.2.1
    · rw [List.length_range, Nat.pow_succ]
      have : d.hours.toNat ≤ 4 := by omega
      have := Nat.mul_le_mul_right (3 * 12 ^ rem) this
      omega
theorem plC_le {d : Dips} (hv : dipsB d = true) (best : Bool) (rem : Nat) (b : List Plc) : (plC d best rem b).length ≤ 12 ^ rem := plC_le' best rem _ b (plR_le hv best rem b)
theorem accQ_le {d : Dips} (hv : dipsB d = true) (best : Bool) (rem : Nat) (b : List Plc) (L : List (List Plc)) {hr k : Nat} (hh : hr < d.hours.toNat) (hk : k < d.dippers.length) (hL : L.length + 12 ^ (rem + 1) ≤ 248832) :
    (accQ d best rem b L hr k).length + 12 ^ rem ≤ 248832 := by
  have hn := dips_num hv
  have h1 : (plTo d best rem b hr).length ≤ hr * (3 * 12 ^ rem) := by
    have := flat_le (fun h => rowQ d best rem b h d.dippers.length) (3 * 12 ^ rem) (List.range hr) fun h _ => by
      refine Nat.le_trans (flat_le _ (12 ^ rem) _ fun k _ => plC_le hv best rem _) ?_
      rw [List.length_range]
      exact Nat.mul_le_mul_right _ hn.2.1
    rw [List.length_range] at this
    exact this
  have h2 : (rowQ d best rem b hr k).length ≤ k * 12 ^ rem := by
    have := flat_le (fun j => plC d best rem (b ++ [pk hr j])) (12 ^ rem) (List.range k) fun k _ => plC_le hv best rem _
    rw [List.length_range] at this
    exact this
  have h3 : hr ≤ 3 := by omega
  have h4 : k ≤ 2 := by omega
  have h5 := Nat.mul_le_mul_right (3 * 12 ^ rem) h3
  have h6 := Nat.mul_le_mul_right (12 ^ rem) h4
  rw [Nat.pow_succ] at hL
  simp only [accQ, List.length_append]
  omega
/-- plans in memory: a list of slices -/
structure OutR (D : Imm) (L : List (List Plc)) (vs : List Value) : Prop where
  len : vs.length = L.length
  at_ : ∀ i, i < L.length → ∃ a n c, vs[i]? = some (.slice a n c) ∧ PlanR D (gt L i) a n
theorem OutR.ext {w : World} {D D' : Imm} (hD : DExt w D D') {L : List (List Plc)} {vs : List Value} (h : OutR D L vs) : OutR D' L vs :=
  ⟨h.len, fun i hi => let ⟨a, n, c, h1, h2⟩ := h.at_ i hi; ⟨a, n, c, h1, h2.ext hD⟩⟩
theorem OutR.nil (D : Imm) : OutR D [] [] := ⟨rfl, fun i hi => by simp at hi⟩
theorem OutR.snoc {D : Imm} {L : List (List Plc)} {vs : List Value} {l : List Plc} {a : Option Addr} {n c : Nat} (h : OutR D L vs) (hP : PlanR D l a n) : OutR D (L ++ [l]) (vs ++ [.slice a n c]) := by
  refine ⟨by simp [h.len], fun i hi => ?_⟩
  rw [List.length_append, List.length_singleton] at hi
  by_cases e : i < L.length
  · obtain ⟨a', n', c', h1, h2⟩ := h.at_ i e
    refine ⟨a', n', c', ?_, ?_⟩
    · rw [List.getElem?_append_left (by rw [h.len]; exact e)]; exact h1
    · rw [gt_app_lt _ _ _ e]; exact h2
  · have : i = L.length := by omega
    subst this
    refine ⟨a, n, c, ?_, ?_⟩
    · rw [← h.len]; simp
    · rw [gt_app_at]; exact hP
def PlK (d : Dips) (best : Bool) (rem : Nat) (b : List Plc) (L : List (List Plc)) (v : Value) (D' : Imm) (hpc' : Hp) : Prop :=
  ∃ (vs' : List Value) (o' : Option Ow), v = owV o' vs'.length ∧ OutR D' (L ++ plC d best rem b) vs' ∧ owL o' vs'.length 1 ∧ hpc' = owH o' 26 vs' []
theorem PlanR_snoc {D : Imm} {u : Nat} {t : TypeId} {fz : Nat × Nat} {b : List Plc} {x : Plc} {rest : List Value} {n : Nat} (hD : D u = some (.cells (b.flatMap placeC ++ placeC x ++ rest).toArray t fz)) (hn : n = b.length + 1) (hl : n ≤ 1000) : PlanR D (b ++ [x]) (some ⟨u, 0, none⟩) n := by
  refine PlanR.ofBlock (t := t) (fz := fz) (rest := rest) ?_ n (by simp [hn]) hl
  rw [List.flatMap_append]
  simpa using hD
end Go.Proofs.Ytidjdonppfegiaa
namespace Go.Proofs.Ytidjdonppfegiaa
open Go.W Go.Dp

set_option maxRecDepth 100000 in
set_option maxHeartbeats 1000000 in
theorem plans_0 (d : Dips) (best : Bool) (hv : dipsB d = true) (a1 : Option Addr) (n1 c1 : Nat) (a2 : Option Addr) (n2 c2 : Nat) (D : Imm) (w : World) (hR : DipsR D d a1 n1 a2 n2) (b : List Plc) (a3 : Option Addr) (n3 c3 : Nat) (L : List (List Plc)) (vs : List Value) (o : Option Ow) (hl : b.length + 0 = d.bathers.length) (hq : PlOk d b) (h3 : b = [] → a3 = none) (hP : PlanR D b a3 n3) (hO : OutR D L vs) (ho : owL o vs.length 1) (hL : L.length + 12 ^ 0 ≤ 248832) (hI0 : Inv D (owH o 26 vs []) (keys (owH o 26 vs [])) w w) : AltersN Try.prog 72 [.agg #[it d.hours, .slice a1 n1 c1, .slice a2 n2 c2], .bool best, .slice a3 n3 c3, owV o vs.length] w D (keys (owH o 26 vs [])) (PlK d best 0 b L) := by
  unfold AltersN
  obtain rfl := hR.dip.len'
  obtain rfl := hR.bath.len'
  have hl1 := hR.len1
  have hl2 := hR.len2
  obtain rfl := hP.pl.len'
  have hl3 := hP.len
  have hvl := hO.len
  have hL' : L.length + 1 ≤ 248832 := hL
  refine enter Try.func72 rfl 61 Try.ntmps72 (Nat.le_of_ble_eq_true rfl) hI0 ?_
  refine WC.seq ?_
  refine WC.ofFr [(0, _), (1, _), (2, _), (3, _)] ⟨rfl, rfl, rfl, rfl, trivial⟩ ?_
  refine WC.region ?_
  refine WL.so (SO.box rfl rfl) rfl ?_
  rintro _ _ _ ⟨b4, hb4, rfl, rfl, rfl⟩ -- NEW
  refine WL.yd (Yd.assign rfl) rfl ?_
  refine WL.nil ?_
  refine WP.thenC ?_
  refine WC.seq ?_
  refine WC.ofFr [(8, _), (4, _), (1, _), (2, _), (3, _)] ⟨rfl, rfl, rfl, rfl, rfl, trivial⟩ ?_
  refine WC.region ?_
  refine WL.yd (Yd.move rfl) rfl ?_
  refine WL.yd (Yd.lenS rfl Try.underlying26 rfl) rfl ?_
  refine WL.yd (Yd.assign rfl) rfl ?_
  refine WL.nil ?_
  refine WP.thenC ?_
  refine WC.seqJ (fun _ : Unit => [(1, .bool best), (2, .slice a3 b.length c3), (3, owV o (vs).length), (4, pt b4), (9, nt b.length)]) (fun _ => (b4, .cells (List.toArray [it d.hours, .slice a1 d.dippers.length c1, .slice a2 d.bathers.length c2]) 25 (0, 0)) :: owH o 26 (vs) []) (fun _ => D) (fun _ => b ≠ [] → brokenR d b (b.length - 1) best = 0) ?_ ?_
  · rintro ⟨⟩ hj
    refine WC.seq ?_
    refine WC.seq ?_
    refine WC.ofFr [(1, _), (2, _), (3, _), (4, _), (9, _)] ⟨rfl, rfl, rfl, rfl, rfl, trivial⟩ ?_
    refine WC.region ?_
    refine WL.yd (Yd.move rfl) rfl ?_
    refine WL.yd (Yd.fieldAddr FA25_2 rfl) rfl ?_
    refine WL.yd (Yd.load1 Try.isAgg23 rfl (by first | exact Rd.own (k := 0) rfl rfl | exact Rd.own (k := 1) rfl rfl)) rfl ?_
    refine WL.yd (Yd.lenS rfl Try.underlying23 rfl) rfl ?_
    refine WL.yd (Yd.eql rfl rfl) rfl ?_
    refine WL.nil ?_
    refine WP.thenC ?_
    refine WC.cond rfl (fun c30 => ?_) (fun c30 => ?_)
    · try simp only [zq1, zq2, zq3, zq4, zq5, zq6, zq7, zq8] at c30
      refine WC.seq ?_
      refine WC.ofFr [(1, _), (2, _), (3, _), (4, _)] ⟨rfl, rfl, rfl, rfl, trivial⟩ ?_
      refine WC.region ?_
      refine WL.yd (Yd.move rfl) rfl ?_
      refine WL.yd (Yd.move rfl) rfl ?_
      refine WL.so (SO.buildSlice Try.underlying95 Try.sizeOf26 Try.zeroValue26 rfl rfl rfl rfl (cs := [_]) rfl) rfl ?_
      rintro _ _ _ ⟨b33, hb33, rfl, rfl, rfl⟩ -- NEW
      refine WL.so (SO.appendL (o := o) (len := vs.length) (n := 1) (xs := vs) (size := 1) [_] [_] [] rfl rfl Try.underlying95 Try.sizeOf26 Try.typeInfo26 Try.zeroValue26 rfl rfl rfl rfl ⟨rfl, .inr ⟨_, _, _, rfl, RdN.own (k := 0) (n := 1) rfl rfl⟩⟩ (oneB_spec rfl) ho (by omega) (by omega) (by show (2 * (_ + _) + 1000) * 24 ≤ 2 ^ 48; omega) (by omega)) rfl ?_
      rintro _ _ _ ⟨u1, hu1, rfl, rfl, rfl⟩
      refine WL.yd (Yd.assign rfl) rfl ?_
      refine WL.nil ?_
      refine WP.thenC ?_
      refine WC.ret ?_
      refine WP.thenRet ?_
      refine WP.ret1 rfl rfl Try.results72 (RV.tmp rfl) (fun w1 hI => ⟨_, _, _, rfl, DExt.refl _ _, hI.tail, vs ++ [.slice a3 b.length c3], some u1, by rw [List.length_append]; rfl, by rw [plC, if_neg (fun hh => hh.2 (hj hh.1))]; exact hO.snoc hP, by rw [List.length_append]; exact hu1, rfl⟩)
    · try simp only [zq1, zq2, zq3, zq4, zq5, zq6, zq7, zq8] at c30
      omega
  · skip
    refine WC.seq ?_
    refine WC.ofFr [(9, _), (8, _), (4, _), (1, _), (2, _), (3, _)] ⟨rfl, rfl, rfl, rfl, rfl, rfl, trivial⟩ ?_
    refine WC.region ?_
    refine WL.yd (Yd.move rfl) rfl ?_
    refine WL.yd (Yd.gtr rfl rfl) rfl ?_
    refine WL.yd (Yd.move rfl) rfl ?_
    refine WL.part 16 rfl (fun g16 => ?_) (fun g16 => ?_)
    · try simp only [zq1, zq2, zq3, zq4, zq5, zq6, zq7, zq8] at g16
      have hb1 : 0 < b.length := by omega
      refine WL.ydg rfl (Yd.loadN Try.isAgg25 Try.sizeOf25 rfl (vs := [_, _, _]) rfl (by first | exact RdN.own (k := 0) (n := 3) rfl rfl | exact RdN.own (k := 1) (n := 3) rfl rfl)) rfl ?_
      refine WL.ydg rfl (Yd.move rfl) rfl ?_
      refine WL.ydg rfl (Yd.move rfl) rfl ?_
      refine WL.ydg rfl (Yd.subN rfl rfl (by (try dsimp only); omega) (by (try dsimp only); omega)) rfl ?_
      refine WL.ydg rfl (Yd.move rfl) rfl ?_
      refine WL.sog rfl (SO.callP Try.call54 rfl (fun w hI => broken_g d a1 _ c1 a2 _ c2 D _ hR hI.imm b a3 _ c3 hP best (b.length - 1) (by omega) hv hq (by omega))) rfl ?_
      rintro _ _ _ ⟨rfl, rfl, rfl⟩
      refine WL.ydg rfl (Yd.neq rfl rfl) rfl ?_
      refine WL.yd (Yd.pickT rfl rfl) rfl ?_
      refine WL.nil ?_
      refine WP.thenC ?_
      refine WC.cond rfl (fun c24 => ?_) (fun c24 => ?_)
      · try simp only [zq1, zq2, zq3, zq4, zq5, zq6, zq7, zq8] at c24
        have hbn : brokenR d b (b.length - 1) best ≠ 0 := by simpa using c24
        refine WC.seq ?_
        refine WC.ofFr [(9, _), (8, _), (4, _), (1, _), (2, _), (3, _)] ⟨rfl, rfl, rfl, rfl, rfl, rfl, trivial⟩ ?_
        refine WC.region ?_
        refine WL.yd (Yd.move rfl) rfl ?_
        refine WL.yd (Yd.assign rfl) rfl ?_
        refine WL.nil ?_
        refine WP.thenC ?_
        refine WC.ret ?_
        refine WP.thenRet ?_
        refine WP.ret1 rfl rfl Try.results72 (RV.tmp rfl) (fun w1 hI => ⟨_, _, _, rfl, DExt.refl _ _, hI.tail, vs, o, rfl, by rw [plC, if_pos ⟨fun e => by rw [e] at hb1; simp at hb1, hbn⟩, List.append_nil]; exact hO, ho, rfl⟩)
      · try simp only [zq1, zq2, zq3, zq4, zq5, zq6, zq7, zq8] at c24
        have hbz : brokenR d b (b.length - 1) best = 0 := by simpa using c24
        refine WC.skip ?_
        exact WP.join () (fun hne => by first | exact hbz | exact absurd (List.length_eq_zero_iff.1 hb0) hne) (fun aa ww h => at_fr h ⟨rfl, rfl, rfl, rfl, rfl, trivial⟩)
    · try simp only [zq1, zq2, zq3, zq4, zq5, zq6, zq7, zq8] at g16
      have hb0 : b.length = 0 := by omega
      refine WL.skip rfl rfl ?_
      refine WL.skip rfl rfl ?_
      refine WL.skip rfl rfl ?_
      refine WL.skip rfl rfl ?_
      refine WL.skip rfl rfl ?_
      refine WL.skip rfl rfl ?_
      refine WL.skip rfl rfl ?_
      refine WL.yd (Yd.pickF rfl rfl) rfl ?_
      refine WL.nil ?_
      refine WP.thenC ?_
      refine WC.condF rfl ?_
      refine WC.skip ?_
      exact WP.join () (fun hne => by first | exact hbz | exact absurd (List.length_eq_zero_iff.1 hb0) hne) (fun aa ww h => at_fr h ⟨rfl, rfl, rfl, rfl, rfl, trivial⟩)

set_option maxRecDepth 100000 in
set_option maxHeartbeats 1000000 in
theorem plans_s (d : Dips) (best : Bool) (hv : dipsB d = true) (a1 : Option Addr) (n1 c1 : Nat) (a2 : Option Addr) (n2 c2 : Nat) (rem : Nat) (ih : ∀ (D : Imm) (w : World) (hR : DipsR D d a1 n1 a2 n2) (b : List Plc) (a3 : Option Addr) (n3 c3 : Nat) (L : List (List Plc)) (vs : List Value) (o : Option Ow) (hl : b.length + rem = d.bathers.length) (hq : PlOk d b) (h3 : b = [] → a3 = none) (hP : PlanR D b a3 n3) (hO : OutR D L vs) (ho : owL o vs.length 1) (hL : L.length + 12 ^ rem ≤ 248832) (hI0 : Inv D (owH o 26 vs []) (keys (owH o 26 vs [])) w w), AltersN Try.prog 72 [.agg #[it d.hours, .slice a1 n1 c1, .slice a2 n2 c2], .bool best, .slice a3 n3 c3, owV o vs.length] w D (keys (owH o 26 vs [])) (PlK d best rem b L)) (D : Imm) (w : World) (hR : DipsR D d a1 n1 a2 n2) (b : List Plc) (a3 : Option Addr) (n3 c3 : Nat) (L : List (List Plc)) (vs : List Value) (o : Option Ow) (hl : b.length + (rem + 1) = d.bathers.length) (hq : PlOk d b) (h3 : b = [] → a3 = none) (hP : PlanR D b a3 n3) (hO : OutR D L vs) (ho : owL o vs.length 1) (hL : L.length + 12 ^ (rem + 1) ≤ 248832) (hI0 : Inv D (owH o 26 vs []) (keys (owH o 26 vs [])) w w) : AltersN Try.prog 72 [.agg #[it d.hours, .slice a1 n1 c1, .slice a2 n2 c2], .bool best, .slice a3 n3 c3, owV o vs.length] w D (keys (owH o 26 vs [])) (PlK d best (rem + 1) b L) := by
  unfold AltersN
  obtain rfl := hR.dip.len'
  obtain rfl := hR.bath.len'
  have hl1 := hR.len1
  have hl2 := hR.len2
  obtain rfl := hP.pl.len'
  have hl3 := hP.len
  have hvl := hO.len
  have hnum := dips_num hv
  refine enter Try.func72 rfl 61 Try.ntmps72 (Nat.le_of_ble_eq_true rfl) hI0 ?_
  refine WC.seq ?_
  refine WC.ofFr [(0, _), (1, _), (2, _), (3, _)] ⟨rfl, rfl, rfl, rfl, trivial⟩ ?_
  refine WC.region ?_
  refine WL.so (SO.box rfl rfl) rfl ?_
  rintro _ _ _ ⟨b4, hb4, rfl, rfl, rfl⟩ -- NEW
  refine WL.yd (Yd.assign rfl) rfl ?_
  refine WL.nil ?_
  refine WP.thenC ?_
  refine WC.seq ?_
  refine WC.ofFr [(8, _), (4, _), (1, _), (2, _), (3, _)] ⟨rfl, rfl, rfl, rfl, rfl, trivial⟩ ?_
  refine WC.region ?_
  refine WL.yd (Yd.move rfl) rfl ?_
  refine WL.yd (Yd.lenS rfl Try.underlying26 rfl) rfl ?_
  refine WL.yd (Yd.assign rfl) rfl ?_
  refine WL.nil ?_
  refine WP.thenC ?_
  refine WC.seqJ (fun _ : Unit => [(1, .bool best), (2, .slice a3 b.length c3), (3, owV o (vs).length), (4, pt b4), (9, nt b.length)]) (fun _ => (b4, .cells (List.toArray [it d.hours, .slice a1 d.dippers.length c1, .slice a2 d.bathers.length c2]) 25 (0, 0)) :: owH o 26 (vs) []) (fun _ => D) (fun _ => b ≠ [] → brokenR d b (b.length - 1) best = 0) ?_ ?_
  · rintro ⟨⟩ hj
    refine WC.seq ?_
    refine WC.seq ?_
    refine WC.ofFr [(1, _), (2, _), (3, _), (4, _), (9, _)] ⟨rfl, rfl, rfl, rfl, rfl, trivial⟩ ?_
    refine WC.region ?_
    refine WL.yd (Yd.move rfl) rfl ?_
    refine WL.yd (Yd.fieldAddr FA25_2 rfl) rfl ?_
    refine WL.yd (Yd.load1 Try.isAgg23 rfl (by first | exact Rd.own (k := 0) rfl rfl | exact Rd.own (k := 1) rfl rfl)) rfl ?_
    refine WL.yd (Yd.lenS rfl Try.underlying23 rfl) rfl ?_
    refine WL.yd (Yd.eql rfl rfl) rfl ?_
    refine WL.nil ?_
    refine WP.thenC ?_
    refine WC.cond rfl (fun c30 => ?_) (fun c30 => ?_)
    · try simp only [zq1, zq2, zq3, zq4, zq5, zq6, zq7, zq8] at c30
      omega
    · try simp only [zq1, zq2, zq3, zq4, zq5, zq6, zq7, zq8] at c30
      refine WC.skip ?_
      refine WP.thenC ?_
      refine WC.seq ?_
      refine WC.seq ?_
      refine WC.ofFr [(1, _), (2, _), (3, _), (4, _)] ⟨rfl, rfl, rfl, rfl, trivial⟩ ?_
      refine WC.region ?_
      refine WL.yd (Yd.assign rfl) rfl ?_
      refine WL.nil ?_
      refine WP.thenC ?_
      refine WC.block ?_
      refine WC.loop (fun y : Nat × List Value × Option Ow × Imm => [(1, .bool best), (2, .slice a3 b.length c3), (3, owV y.2.2.1 (y.2.1).length), (4, pt b4), (10, nt y.1)]) (fun y => (b4, .cells (List.toArray [it d.hours, .slice a1 d.dippers.length c1, .slice a2 d.bathers.length c2]) 25 (0, 0)) :: owH y.2.2.1 26 (y.2.1) []) (fun y => y.2.2.2) (fun y => y.1 ≤ d.hours.toNat ∧ DExt w D y.2.2.2 ∧ OutR y.2.2.2 (accQ d best rem b L y.1 0) y.2.1 ∧ owL y.2.2.1 y.2.1.length 1) (fun y => d.hours.toNat - y.1) (0, vs, o, D) ⟨by omega, DExt.refl _ _, by rw [accQ_zero]; exact hO, ho⟩ (fun a w h => at_fr h ⟨rfl, rfl, rfl, rfl, rfl, trivial⟩) ?_
      rintro ⟨hr, vs0, o0, D0⟩ ⟨hhr, hX0, hO0, ho0⟩
      dsimp only at hhr hX0 hO0 ho0
      refine WC.seq ?_
      refine WC.seq ?_
      refine WC.ofFr [(1, _), (2, _), (3, _), (4, _), (10, _)] ⟨rfl, rfl, rfl, rfl, rfl, trivial⟩ ?_
      refine WC.region ?_
      refine WL.yd (Yd.move rfl) rfl ?_
      refine WL.yd (Yd.fieldAddr FA25_0 rfl) rfl ?_
      refine WL.yd (Yd.load1 Try.isAgg3 rfl (by first | exact Rd.own (k := 0) rfl rfl | exact Rd.own (k := 1) rfl rfl)) rfl ?_
      refine WL.yd (Yd.lss rfl rfl) rfl ?_
      refine WL.nil ?_
      refine WP.thenC ?_
      refine WC.cond rfl (fun c38 => ?_) (fun c38 => ?_)
      · try simp only [zq1, zq2, zq3, zq4, zq5, zq6, zq7, zq8] at c38
        refine WC.skip ?_
        refine WP.thenC ?_
        refine WC.seq ?_
        refine WC.block ?_
        refine WC.seq ?_
        refine WC.ofFr [(1, _), (2, _), (3, _), (4, _), (10, _)] ⟨rfl, rfl, rfl, rfl, rfl, trivial⟩ ?_
        refine WC.region ?_
        refine WL.yd (Yd.assign rfl) rfl ?_
        refine WL.nil ?_
        refine WP.thenC ?_
        refine WC.block ?_
        refine WC.loop (fun y : Nat × List Value × Option Ow × Imm => [(1, .bool best), (2, .slice a3 b.length c3), (3, owV y.2.2.1 (y.2.1).length), (4, pt b4), (10, nt hr), (11, nt y.1)]) (fun y => (b4, .cells (List.toArray [it d.hours, .slice a1 d.dippers.length c1, .slice a2 d.bathers.length c2]) 25 (0, 0)) :: owH y.2.2.1 26 (y.2.1) []) (fun y => y.2.2.2) (fun y => y.1 ≤ d.dippers.length ∧ DExt w D y.2.2.2 ∧ OutR y.2.2.2 (accQ d best rem b L hr y.1) y.2.1 ∧ owL y.2.2.1 y.2.1.length 1) (fun y => d.dippers.length - y.1) (0, vs0, o0, D0) ⟨by omega, hX0, hO0, ho0⟩ (fun a w h => at_fr h ⟨rfl, rfl, rfl, rfl, rfl, rfl, trivial⟩) ?_
        rintro ⟨k, vs1, o1, D1⟩ ⟨hk, hX1, hO1, ho1⟩
        dsimp only at hk hX1 hO1 ho1
        have hP1 := hP.ext hX1
        refine WC.seq ?_
        refine WC.seq ?_
        refine WC.ofFr [(1, _), (2, _), (3, _), (4, _), (10, _), (11, _)] ⟨rfl, rfl, rfl, rfl, rfl, rfl, trivial⟩ ?_
        refine WC.region ?_
        refine WL.yd (Yd.move rfl) rfl ?_
        refine WL.yd (Yd.fieldAddr FA25_1 rfl) rfl ?_
        refine WL.yd (Yd.load1 Try.isAgg22 rfl (by first | exact Rd.own (k := 0) rfl rfl | exact Rd.own (k := 1) rfl rfl)) rfl ?_
        refine WL.yd (Yd.lenS rfl Try.underlying22 rfl) rfl ?_
        refine WL.yd (Yd.lss rfl rfl) rfl ?_
        refine WL.nil ?_
        refine WP.thenC ?_
        refine WC.cond rfl (fun c45 => ?_) (fun c45 => ?_)
        · try simp only [zq1, zq2, zq3, zq4, zq5, zq6, zq7, zq8] at c45
          refine WC.skip ?_
          refine WP.thenC ?_
          refine WC.seq ?_
          refine WC.block ?_
          refine WC.ofFr [(1, _), (2, _), (3, _), (4, _), (10, _), (11, _)] ⟨rfl, rfl, rfl, rfl, rfl, rfl, trivial⟩ ?_
          refine WC.drawH [_] (by kernel_rfl) (fun _ hI => hI.pick 0 rfl) ?_
          refine WH.yd (i := 0) (by kernel_rfl) (fun _ o v c a w _ h => (QuietPanic.blk (QuietPanic.then (QuietPanic.then (QuietPanic.blk (QuietPanic.blk (QuietPanic.then (QuietPanic.then (QuietPanic.blk (QuietPanic.then QuietPanic.body))))))))) c o.dst v a w h) rfl (Yd.loadN Try.isAgg25 Try.sizeOf25 rfl (vs := [_, _, _]) rfl (by first | exact RdN.own (k := 0) (n := 3) rfl rfl | exact RdN.own (k := 1) (n := 3) rfl rfl)) rfl ?_
          refine WH.yd (i := 1) (by kernel_rfl) (fun _ o v c a w _ h => (QuietPanic.blk (QuietPanic.then (QuietPanic.then (QuietPanic.blk (QuietPanic.blk (QuietPanic.then (QuietPanic.then (QuietPanic.blk (QuietPanic.then QuietPanic.body))))))))) c o.dst v a w h) rfl (Yd.move rfl) rfl ?_
          refine WH.yd (i := 3) (by kernel_rfl) (fun _ o v c a w _ h => (QuietPanic.blk (QuietPanic.then (QuietPanic.then (QuietPanic.blk (QuietPanic.blk (QuietPanic.then (QuietPanic.then (QuietPanic.blk (QuietPanic.then QuietPanic.body))))))))) c o.dst v a w h) rfl (Yd.move rfl) rfl ?_
          refine WH.yd (i := 5) (by kernel_rfl) (fun _ o v c a w _ h => (QuietPanic.blk (QuietPanic.then (QuietPanic.then (QuietPanic.blk (QuietPanic.blk (QuietPanic.then (QuietPanic.then (QuietPanic.blk (QuietPanic.then QuietPanic.body))))))))) c o.dst v a w h) rfl (Yd.move rfl) rfl ?_
          refine WH.yd (i := 6) (by kernel_rfl) (fun _ o v c a w _ h => (QuietPanic.blk (QuietPanic.then (QuietPanic.then (QuietPanic.blk (QuietPanic.blk (QuietPanic.then (QuietPanic.then (QuietPanic.blk (QuietPanic.then QuietPanic.body))))))))) c o.dst v a w h) rfl (Yd.move rfl) rfl ?_
          refine WH.yd (i := 7) (by kernel_rfl) (fun _ o v c a w _ h => (QuietPanic.blk (QuietPanic.then (QuietPanic.then (QuietPanic.blk (QuietPanic.blk (QuietPanic.then (QuietPanic.then (QuietPanic.blk (QuietPanic.then QuietPanic.body))))))))) c o.dst v a w h) rfl (Yd.build SA61 rfl (cs := [_, _]) rfl) rfl ?_
          refine WH.yd (i := 10) (by kernel_rfl) (fun _ o v c a w _ h => (QuietPanic.blk (QuietPanic.then (QuietPanic.then (QuietPanic.blk (QuietPanic.blk (QuietPanic.then (QuietPanic.then (QuietPanic.blk (QuietPanic.then QuietPanic.body))))))))) c o.dst v a w h) rfl (Yd.move rfl) rfl ?_
          refine WH.two (i := 2) (j := 8) (by kernel_rfl) ?_ ?_
          · refine WHo.so rfl (SO.buildSlice0 Try.underlying26 Try.sizeOf61) rfl ?_
            rintro _ _ _ ⟨b50, hb50, rfl, rfl, rfl⟩ -- NEW
            refine ⟨(fun _ hI => hI.pick 1 rfl), ?_⟩
            refine WH.two (i := 4) (j := 8) (by kernel_rfl) ?_ ?_
            · refine WHo.so rfl (SO.appendSome (o := ⟨b50, 0, []⟩) (len := 0) (n := b.length) (xs := []) (ys := b.flatMap placeC) (size := 2) [] _ rfl rfl Try.underlying26 Try.sizeOf61 Try.typeInfo61 Try.zeroValue61 rfl rfl rfl rfl (hP1.pl.rdS placeC_len h3) (placeC_one _) ⟨hb50, Nat.le_refl _, rfl⟩ rfl (by show (2 * (_ + _) + 1000) * 16 ≤ 2 ^ 48; omega) (by omega)) rfl ?_
              rintro _ _ _ ⟨u52, hu52, rfl, rfl, rfl⟩
              refine ⟨(fun _ hI => hI.pick 1 rfl), ?_⟩
              refine WH.one (i := 8) (by kernel_rfl) (WHo.so rfl (SO.buildSlice Try.underlying26 Try.sizeOf61 Try.zeroValue61 rfl rfl rfl rfl (cs := [_, _]) rfl) rfl ?_)
              rintro _ _ _ ⟨b56, hb56, rfl, rfl, rfl⟩ -- NEW
              refine ⟨(fun _ hI => hI.pick 2 rfl), ?_⟩
              refine WH.one (i := 9) (by kernel_rfl) (WHo.so rfl (SO.appendOw (o := some u52) (len := 0 + b.length) (n := 1) (xs := [] ++ b.flatMap placeC) (ys := placeC (pk hr k)) (size := 2) [_] [] _ rfl rfl Try.underlying26 Try.sizeOf61 Try.typeInfo61 Try.zeroValue61 rfl rfl rfl rfl ⟨rfl, .inr ⟨_, _, _, rfl, RdN.own (k := 0) (n := 2) rfl rfl⟩⟩ (oneB_spec rfl) hu52 (by rw [List.nil_append, flat_len placeC_len]; omega) (by omega) (by show (2 * (_ + _) + 1000) * 16 ≤ 2 ^ 48; omega) (by omega)) rfl ?_)
              rintro _ _ _ ⟨u57, hu57, rfl, rfl, rfl⟩
              have hbu57 := hu57.1
              refine ⟨(fun _ hI => hI.pick 1 rfl), ?_⟩
              refine WH.freezeK 0 rfl (fun hnu57 => ?_)
              have hFu57 := fun o => (DExt.refl w D1).add (o := o) hnu57 hbu57
              have hXf := fun o => hX1.trans (hFu57 o) (Nat.le_refl _)
              refine WH.one (i := 11) (by kernel_rfl) (WHo.so rfl (SO.altersN (own := [_]) (hpc := owH o1 26 vs1 []) (S1 := keys (owH o1 26 vs1 [])) (fun e he => he) (fun h => h) (fun _ h => h) (fun _ h => h) (Enters.func Try.call72 rfl) (fun w1 hI => ih _ w1 (hR.ext (hXf _)) (b ++ [pk hr k]) _ _ _ _ vs1 o1 (by rw [List.length_append, List.length_singleton]; omega) (PlOk_snoc hq (x := pk hr k) (by dsimp only; omega)) (fun e => absurd e (by simp)) (PlanR_snoc (rest := u57.rest) (Imm.add_self _ _ _) (by omega) (by omega)) (hO1.ext (hFu57 _)) ho1 (accQ_le hv best rem b L (by omega) (by omega) hL) hI)) rfl ?_)
              rintro _ D6 _ ⟨_, hX6, ⟨vs6, o6, rfl, hO6, ho6, rfl⟩, rfl⟩
              refine ⟨(fun _ hI => (hI.pick 0 rfl).shrink ((hFu57 _).trans hX6 (Nat.le_refl _)).old), ?_⟩
              refine WH.yd (i := 12) (by kernel_rfl) (fun _ o v c a w _ h => (QuietPanic.blk (QuietPanic.then (QuietPanic.then (QuietPanic.blk (QuietPanic.blk (QuietPanic.then (QuietPanic.then (QuietPanic.blk (QuietPanic.then QuietPanic.body))))))))) c o.dst v a w h) rfl (Yd.assign rfl) rfl ?_
              refine WH.nil (by kernel_rfl) ?_
              refine WP.blkNormal ?_
              refine WP.thenC ?_
              refine WC.ofFr [(3, _), (1, _), (2, _), (4, _), (10, _), (11, _)] ⟨rfl, rfl, rfl, rfl, rfl, rfl, trivial⟩ ?_
              refine WC.region ?_
              refine WL.yd (Yd.move rfl) rfl ?_
              refine WL.yd (Yd.addN rfl rfl (by (try dsimp only); omega)) rfl ?_
              refine WL.yd (Yd.assign rfl) rfl ?_
              refine WL.nil ?_
              refine WP.again (⟨k + 1, vs6, o6, D6⟩ : Nat × List Value × Option Ow × Imm) ⟨by simp only; omega, (hXf _).trans hX6 (Nat.le_refl _), by rw [accQ_succ]; exact hO6, ho6⟩ (by simp only; omega) (fun aa ww h => at_fr h ⟨rfl, rfl, rfl, rfl, rfl, rfl, trivial⟩)
            · refine WHo.so rfl (SO.buildSlice Try.underlying26 Try.sizeOf61 Try.zeroValue61 rfl rfl rfl rfl (cs := [_, _]) rfl) rfl ?_
              rintro _ _ _ ⟨b56, hb56, rfl, rfl, rfl⟩ -- NEW
              refine ⟨(fun _ hI => hI.pick 2 rfl), ?_⟩
              refine WH.one (i := 4) (by kernel_rfl) (WHo.so rfl (SO.appendSome (o := ⟨b50, 0, []⟩) (len := 0) (n := b.length) (xs := []) (ys := b.flatMap placeC) (size := 2) [_] _ rfl rfl Try.underlying26 Try.sizeOf61 Try.typeInfo61 Try.zeroValue61 rfl rfl rfl rfl (hP1.pl.rdS placeC_len h3) (placeC_one _) ⟨hb50, Nat.le_refl _, rfl⟩ rfl (by show (2 * (_ + _) + 1000) * 16 ≤ 2 ^ 48; omega) (by omega)) rfl ?_)
              rintro _ _ _ ⟨u52, hu52, rfl, rfl, rfl⟩
              refine ⟨(fun _ hI => hI.pick 2 rfl), ?_⟩
              refine WH.one (i := 9) (by kernel_rfl) (WHo.so rfl (SO.appendOw (o := some u52) (len := 0 + b.length) (n := 1) (xs := [] ++ b.flatMap placeC) (ys := placeC (pk hr k)) (size := 2) [_] [] _ rfl rfl Try.underlying26 Try.sizeOf61 Try.typeInfo61 Try.zeroValue61 rfl rfl rfl rfl ⟨rfl, .inr ⟨_, _, _, rfl, RdN.own (k := 0) (n := 2) rfl rfl⟩⟩ (oneB_spec rfl) hu52 (by rw [List.nil_append, flat_len placeC_len]; omega) (by omega) (by show (2 * (_ + _) + 1000) * 16 ≤ 2 ^ 48; omega) (by omega)) rfl ?_)
              rintro _ _ _ ⟨u57, hu57, rfl, rfl, rfl⟩
              have hbu57 := hu57.1
              refine ⟨(fun _ hI => hI.pick 1 rfl), ?_⟩
              refine WH.freezeK 0 rfl (fun hnu57 => ?_)
              have hFu57 := fun o => (DExt.refl w D1).add (o := o) hnu57 hbu57
              have hXf := fun o => hX1.trans (hFu57 o) (Nat.le_refl _)
              refine WH.one (i := 11) (by kernel_rfl) (WHo.so rfl (SO.altersN (own := [_]) (hpc := owH o1 26 vs1 []) (S1 := keys (owH o1 26 vs1 [])) (fun e he => he) (fun h => h) (fun _ h => h) (fun _ h => h) (Enters.func Try.call72 rfl) (fun w1 hI => ih _ w1 (hR.ext (hXf _)) (b ++ [pk hr k]) _ _ _ _ vs1 o1 (by rw [List.length_append, List.length_singleton]; omega) (PlOk_snoc hq (x := pk hr k) (by dsimp only; omega)) (fun e => absurd e (by simp)) (PlanR_snoc (rest := u57.rest) (Imm.add_self _ _ _) (by omega) (by omega)) (hO1.ext (hFu57 _)) ho1 (accQ_le hv best rem b L (by omega) (by omega) hL) hI)) rfl ?_)
              rintro _ D6 _ ⟨_, hX6, ⟨vs6, o6, rfl, hO6, ho6, rfl⟩, rfl⟩
              refine ⟨(fun _ hI => (hI.pick 0 rfl).shrink ((hFu57 _).trans hX6 (Nat.le_refl _)).old), ?_⟩
              refine WH.yd (i := 12) (by kernel_rfl) (fun _ o v c a w _ h => (QuietPanic.blk (QuietPanic.then (QuietPanic.then (QuietPanic.blk (QuietPanic.blk (QuietPanic.then (QuietPanic.then (QuietPanic.blk (QuietPanic.then QuietPanic.body))))))))) c o.dst v a w h) rfl (Yd.assign rfl) rfl ?_
              refine WH.nil (by kernel_rfl) ?_
              refine WP.blkNormal ?_
              refine WP.thenC ?_
              refine WC.ofFr [(3, _), (1, _), (2, _), (4, _), (10, _), (11, _)] ⟨rfl, rfl, rfl, rfl, rfl, rfl, trivial⟩ ?_
              refine WC.region ?_
              refine WL.yd (Yd.move rfl) rfl ?_
              refine WL.yd (Yd.addN rfl rfl (by (try dsimp only); omega)) rfl ?_
              refine WL.yd (Yd.assign rfl) rfl ?_
              refine WL.nil ?_
              refine WP.again (⟨k + 1, vs6, o6, D6⟩ : Nat × List Value × Option Ow × Imm) ⟨by simp only; omega, (hXf _).trans hX6 (Nat.le_refl _), by rw [accQ_succ]; exact hO6, ho6⟩ (by simp only; omega) (fun aa ww h => at_fr h ⟨rfl, rfl, rfl, rfl, rfl, rfl, trivial⟩)
          · refine WHo.so rfl (SO.buildSlice Try.underlying26 Try.sizeOf61 Try.zeroValue61 rfl rfl rfl rfl (cs := [_, _]) rfl) rfl ?_
            rintro _ _ _ ⟨b56, hb56, rfl, rfl, rfl⟩ -- NEW
            refine ⟨(fun _ hI => hI.pick 1 rfl), ?_⟩
            refine WH.one (i := 2) (by kernel_rfl) (WHo.so rfl (SO.buildSlice0 Try.underlying26 Try.sizeOf61) rfl ?_)
            rintro _ _ _ ⟨b50, hb50, rfl, rfl, rfl⟩ -- NEW
            refine ⟨(fun _ hI => hI.pick 2 rfl), ?_⟩
            refine WH.one (i := 4) (by kernel_rfl) (WHo.so rfl (SO.appendSome (o := ⟨b50, 0, []⟩) (len := 0) (n := b.length) (xs := []) (ys := b.flatMap placeC) (size := 2) [] _ rfl rfl Try.underlying26 Try.sizeOf61 Try.typeInfo61 Try.zeroValue61 rfl rfl rfl rfl (hP1.pl.rdS placeC_len h3) (placeC_one _) ⟨hb50, Nat.le_refl _, rfl⟩ rfl (by show (2 * (_ + _) + 1000) * 16 ≤ 2 ^ 48; omega) (by omega)) rfl ?_)
            rintro _ _ _ ⟨u52, hu52, rfl, rfl, rfl⟩
            refine ⟨(fun _ hI => hI.pick 2 rfl), ?_⟩
            refine WH.one (i := 9) (by kernel_rfl) (WHo.so rfl (SO.appendOw (o := some u52) (len := 0 + b.length) (n := 1) (xs := [] ++ b.flatMap placeC) (ys := placeC (pk hr k)) (size := 2) [] [] _ rfl rfl Try.underlying26 Try.sizeOf61 Try.typeInfo61 Try.zeroValue61 rfl rfl rfl rfl ⟨rfl, .inr ⟨_, _, _, rfl, RdN.own (k := 1) (n := 2) rfl rfl⟩⟩ (oneB_spec rfl) hu52 (by rw [List.nil_append, flat_len placeC_len]; omega) (by omega) (by show (2 * (_ + _) + 1000) * 16 ≤ 2 ^ 48; omega) (by omega)) rfl ?_)
            rintro _ _ _ ⟨u57, hu57, rfl, rfl, rfl⟩
            have hbu57 := hu57.1
            refine ⟨(fun _ hI => hI.pick 2 rfl), ?_⟩
            refine WH.freezeK 0 rfl (fun hnu57 => ?_)
            have hFu57 := fun o => (DExt.refl w D1).add (o := o) hnu57 hbu57
            have hXf := fun o => hX1.trans (hFu57 o) (Nat.le_refl _)
            refine WH.one (i := 11) (by kernel_rfl) (WHo.so rfl (SO.altersN (own := [_]) (hpc := owH o1 26 vs1 []) (S1 := keys (owH o1 26 vs1 [])) (fun e he => List.mem_cons_of_mem _ he) (fun h => (List.nodup_cons.1 h).2) (fun _ h => h) (fun _ h => h) (Enters.func Try.call72 rfl) (fun w1 hI => ih _ w1 (hR.ext (hXf _)) (b ++ [pk hr k]) _ _ _ _ vs1 o1 (by rw [List.length_append, List.length_singleton]; omega) (PlOk_snoc hq (x := pk hr k) (by dsimp only; omega)) (fun e => absurd e (by simp)) (PlanR_snoc (rest := u57.rest) (Imm.add_self _ _ _) (by omega) (by omega)) (hO1.ext (hFu57 _)) ho1 (accQ_le hv best rem b L (by omega) (by omega) hL) hI)) rfl ?_)
            rintro _ D6 _ ⟨_, hX6, ⟨vs6, o6, rfl, hO6, ho6, rfl⟩, rfl⟩
            refine ⟨(fun _ hI => (hI.pick 0 rfl).shrink ((hFu57 _).trans hX6 (Nat.le_refl _)).old), ?_⟩
            refine WH.yd (i := 12) (by kernel_rfl) (fun _ o v c a w _ h => (QuietPanic.blk (QuietPanic.then (QuietPanic.then (QuietPanic.blk (QuietPanic.blk (QuietPanic.then (QuietPanic.then (QuietPanic.blk (QuietPanic.then QuietPanic.body))))))))) c o.dst v a w h) rfl (Yd.assign rfl) rfl ?_
            refine WH.nil (by kernel_rfl) ?_
            refine WP.blkNormal ?_
            refine WP.thenC ?_
            refine WC.ofFr [(3, _), (1, _), (2, _), (4, _), (10, _), (11, _)] ⟨rfl, rfl, rfl, rfl, rfl, rfl, trivial⟩ ?_
            refine WC.region ?_
            refine WL.yd (Yd.move rfl) rfl ?_
            refine WL.yd (Yd.addN rfl rfl (by (try dsimp only); omega)) rfl ?_
            refine WL.yd (Yd.assign rfl) rfl ?_
            refine WL.nil ?_
            refine WP.again (⟨k + 1, vs6, o6, D6⟩ : Nat × List Value × Option Ow × Imm) ⟨by simp only; omega, (hXf _).trans hX6 (Nat.le_refl _), by rw [accQ_succ]; exact hO6, ho6⟩ (by simp only; omega) (fun aa ww h => at_fr h ⟨rfl, rfl, rfl, rfl, rfl, rfl, trivial⟩)
        · try simp only [zq1, zq2, zq3, zq4, zq5, zq6, zq7, zq8] at c45
          obtain rfl : k = d.dippers.length := by omega
          refine WC.exit ?_
          refine WP.thenExit ?_
          refine WP.thenExit ?_
          refine WP.blkHit ?_
          refine WP.blkNormal ?_
          refine WP.thenC ?_
          refine WC.ofFr [(1, _), (2, _), (3, _), (4, _), (10, _)] ⟨rfl, rfl, rfl, rfl, rfl, trivial⟩ ?_
          refine WC.region ?_
          refine WL.yd (Yd.move rfl) rfl ?_
          refine WL.yd (Yd.addN rfl rfl (by (try dsimp only); omega)) rfl ?_
          refine WL.yd (Yd.assign rfl) rfl ?_
          refine WL.nil ?_
          refine WP.again (⟨hr + 1, vs1, o1, D1⟩ : Nat × List Value × Option Ow × Imm) ⟨by simp only; omega, hX1, by rw [accQ_next] at hO1; exact hO1, ho1⟩ (by simp only; omega) (fun aa ww h => at_fr h ⟨rfl, rfl, rfl, rfl, rfl, trivial⟩)
      · try simp only [zq1, zq2, zq3, zq4, zq5, zq6, zq7, zq8] at c38
        refine WC.exit ?_
        refine WP.thenExit ?_
        refine WP.thenExit ?_
        refine WP.blkHit ?_
        refine WP.thenC ?_
        refine WC.seq ?_
        refine WC.ofFr [(3, _)] ⟨rfl, trivial⟩ ?_
        refine WC.region ?_
        obtain rfl : hr = d.hours.toNat := by omega
        refine WL.yd (Yd.move rfl) rfl ?_
        refine WL.yd (Yd.assign rfl) rfl ?_
        refine WL.nil ?_
        refine WP.thenC ?_
        refine WC.ret ?_
        refine WP.ret1 rfl rfl Try.results72 (RV.tmp rfl) (fun w1 hI => ⟨_, _, _, rfl, hX0, hI.tail, vs0, o0, rfl, by rw [← accQ_all d best rem b L hj]; exact hO0, ho0, rfl⟩)
  · skip
    refine WC.seq ?_
    refine WC.ofFr [(9, _), (8, _), (4, _), (1, _), (2, _), (3, _)] ⟨rfl, rfl, rfl, rfl, rfl, rfl, trivial⟩ ?_
    refine WC.region ?_
    refine WL.yd (Yd.move rfl) rfl ?_
    refine WL.yd (Yd.gtr rfl rfl) rfl ?_
    refine WL.yd (Yd.move rfl) rfl ?_
    refine WL.part 16 rfl (fun g16 => ?_) (fun g16 => ?_)
    · try simp only [zq1, zq2, zq3, zq4, zq5, zq6, zq7, zq8] at g16
      have hb1 : 0 < b.length := by omega
      refine WL.ydg rfl (Yd.loadN Try.isAgg25 Try.sizeOf25 rfl (vs := [_, _, _]) rfl (by first | exact RdN.own (k := 0) (n := 3) rfl rfl | exact RdN.own (k := 1) (n := 3) rfl rfl)) rfl ?_
      refine WL.ydg rfl (Yd.move rfl) rfl ?_
      refine WL.ydg rfl (Yd.move rfl) rfl ?_
      refine WL.ydg rfl (Yd.subN rfl rfl (by (try dsimp only); omega) (by (try dsimp only); omega)) rfl ?_
      refine WL.ydg rfl (Yd.move rfl) rfl ?_
      refine WL.sog rfl (SO.callP Try.call54 rfl (fun w hI => broken_g d a1 _ c1 a2 _ c2 D _ hR hI.imm b a3 _ c3 hP best (b.length - 1) (by omega) hv hq (by omega))) rfl ?_
      rintro _ _ _ ⟨rfl, rfl, rfl⟩
      refine WL.ydg rfl (Yd.neq rfl rfl) rfl ?_
      refine WL.yd (Yd.pickT rfl rfl) rfl ?_
      refine WL.nil ?_
      refine WP.thenC ?_
      refine WC.cond rfl (fun c24 => ?_) (fun c24 => ?_)
      · try simp only [zq1, zq2, zq3, zq4, zq5, zq6, zq7, zq8] at c24
        have hbn : brokenR d b (b.length - 1) best ≠ 0 := by simpa using c24
        refine WC.seq ?_
        refine WC.ofFr [(9, _), (8, _), (4, _), (1, _), (2, _), (3, _)] ⟨rfl, rfl, rfl, rfl, rfl, rfl, trivial⟩ ?_
        refine WC.region ?_
        refine WL.yd (Yd.move rfl) rfl ?_
        refine WL.yd (Yd.assign rfl) rfl ?_
        refine WL.nil ?_
        refine WP.thenC ?_
        refine WC.ret ?_
        refine WP.thenRet ?_
        refine WP.ret1 rfl rfl Try.results72 (RV.tmp rfl) (fun w1 hI => ⟨_, _, _, rfl, DExt.refl _ _, hI.tail, vs, o, rfl, by rw [plC, if_pos ⟨fun e => by rw [e] at hb1; simp at hb1, hbn⟩, List.append_nil]; exact hO, ho, rfl⟩)
      · try simp only [zq1, zq2, zq3, zq4, zq5, zq6, zq7, zq8] at c24
        have hbz : brokenR d b (b.length - 1) best = 0 := by simpa using c24
        refine WC.skip ?_
        exact WP.join () (fun hne => by first | exact hbz | exact absurd (List.length_eq_zero_iff.1 hb0) hne) (fun aa ww h => at_fr h ⟨rfl, rfl, rfl, rfl, rfl, trivial⟩)
    · try simp only [zq1, zq2, zq3, zq4, zq5, zq6, zq7, zq8] at g16
      have hb0 : b.length = 0 := by omega
      refine WL.skip rfl rfl ?_
      refine WL.skip rfl rfl ?_
      refine WL.skip rfl rfl ?_
      refine WL.skip rfl rfl ?_
      refine WL.skip rfl rfl ?_
      refine WL.skip rfl rfl ?_
      refine WL.skip rfl rfl ?_
      refine WL.yd (Yd.pickF rfl rfl) rfl ?_
      refine WL.nil ?_
      refine WP.thenC ?_
      refine WC.condF rfl ?_
      refine WC.skip ?_
      exact WP.join () (fun hne => by first | exact hbz | exact absurd (List.length_eq_zero_iff.1 hb0) hne) (fun aa ww h => at_fr h ⟨rfl, rfl, rfl, rfl, rfl, trivial⟩)

theorem plans_g (d : Dips) (best : Bool) (hv : dipsB d = true) (a1 : Option Addr) (n1 c1 : Nat) (a2 : Option Addr) (n2 c2 : Nat) : ∀ (rem : Nat) (D : Imm) (w : World) (hR : DipsR D d a1 n1 a2 n2) (b : List Plc) (a3 : Option Addr) (n3 c3 : Nat) (L : List (List Plc)) (vs : List Value) (o : Option Ow) (hl : b.length + rem = d.bathers.length) (hq : PlOk d b) (h3 : b = [] → a3 = none) (hP : PlanR D b a3 n3) (hO : OutR D L vs) (ho : owL o vs.length 1) (hL : L.length + 12 ^ rem ≤ 248832) (hI0 : Inv D (owH o 26 vs []) (keys (owH o 26 vs [])) w w), AltersN Try.prog 72 [.agg #[it d.hours, .slice a1 n1 c1, .slice a2 n2 c2], .bool best, .slice a3 n3 c3, owV o vs.length] w D (keys (owH o 26 vs [])) (PlK d best rem b L) := by
  intro rem
  induction rem with
  | zero => exact plans_0 d best hv a1 n1 c1 a2 n2 c2
  | succ rem ih => exact plans_s d best hv a1 n1 c1 a2 n2 c2 rem ih

end Go.Proofs.Ytidjdonppfegiaa
/- The document's plans as a slice that is written no more; sizes of sets, step for step. -/
namespace Go.Proofs.Ytidjdonppfegiaa
open Go.W Go.Dp
structure PlansM (D : Imm) (L : List (List Plc)) (a : Option Addr) (n : Nat) : Prop where
  len : n = L.length
  at_ : ∀ i, i < n → a = some ⟨sb a, so a, none⟩ ∧ ∃ a' n' c', RdD D (sb a) (so a + i * 1) [.slice a' n' c'] ∧ PlanR D (gt L i) a' n'
theorem PlansM.ext {w : World} {D D' : Imm} {L : List (List Plc)} {a : Option Addr} {n : Nat} (h : PlansM D L a n) (hX : DExt w D D') : PlansM D' L a n :=
  ⟨h.len, fun i hi => let ⟨h1, a', n', c', h2, h3⟩ := h.at_ i hi; ⟨h1, a', n', c', h2.ext hX, h3.ext hX⟩⟩
theorem plansM_g (d : Dips) (best : Bool) (hv : dipsB d = true) (a1 : Option Addr) (n1 c1 : Nat) (a2 : Option Addr) (n2 c2 : Nat) (D : Imm) (w : World) (hR : DipsR D d a1 n1 a2 n2) (hH : Holds D w) :
    Makes Try.prog 72 [.agg #[it d.hours, .slice a1 n1 c1, .slice a2 n2 c2], .bool best, .slice none 0 0, .slice none 0 0] w D (fun v D' => ∃ a n c, v = .slice a n c ∧ PlansM D' (plansR d best) a n ∧ n ≤ 248832) := by
  have hn := dips_num hv
  have h5 : 12 ^ d.bathers.length ≤ 12 ^ 5 := Nat.pow_le_pow_right (by omega) hn.2.2.1
  refine Calls.mono (plans_g d best hv a1 n1 c1 a2 n2 c2 d.bathers.length D w hR [] none 0 0 [] [] none (by simp) (fun j hj => by simp at hj) (fun _ => rfl) (PlanR.nil D) (OutR.nil D) rfl (by simpa using h5) (Inv.start hH)) fun e w' ⟨v, D', hpc', he, hX, hI, vs', o', hv', hO, ho, hhp⟩ => ?_
  have hpl : [] ++ plC d best d.bathers.length [] = plansR d best := by rw [List.nil_append, plC, if_neg (fun h => h.1 rfl)]; rfl
  rw [hpl] at hO
  have hle : (plansR d best).length ≤ 248832 := Nat.le_trans (plR_le hv best _ _) h5
  have hlen := hO.len
  subst he
  subst hhp
  cases o' with
  | none =>
    have h0 : vs'.length = 0 := ho
    refine ⟨_, D', rfl, hI.keep, hI.imm, hX, none, 0, 0, by rw [hv', h0]; rfl, ⟨by omega, fun i hi => by omega⟩, by omega⟩
  | some u =>
    have hub : w.heap.size ≤ u.b := (hI.may _ _ (List.mem_of_getElem? (i := 0) rfl)).resolve_left (fun h => by simp [owH, keys] at h)
    have hnu := hI.apart _ _ (List.mem_of_getElem? (i := 0) rfl)
    have hXu := fun o => (DExt.refl w D').add (o := o) hnu hub
    refine ⟨_, _, rfl, hI.keep, hI.freeze.imm, hX.trans (hXu _) (Nat.le_refl _), some ⟨u.b, 0, none⟩, vs'.length, u.cap, hv', ⟨hlen, fun i hi => ⟨rfl, ?_⟩⟩, by omega⟩
    obtain ⟨a', n', c', h1, h2⟩ := hO.at_ i (by omega)
    refine ⟨a', n', c', ⟨_, _, _, Imm.add_self _ _ _, fun j v hj => ?_⟩, h2.ext (hXu _)⟩
    cases j with
    | zero =>
      cases hj
      show (vs' ++ u.rest)[0 + i * 1 + 0]? = _
      rw [show 0 + i * 1 + 0 = i by omega, List.getElem?_append_left (by omega)]
      exact h1
    | succ j => simp at hj
theorem checkR_bad {d : Dips} (h : checkR d true ≠ 0) : dipsB d = false := by
  cases hv : dipsB d with
  | false => rfl
  | true => exact absurd (by simp [checkR, hv]) h
theorem checkR_one {d : Dips} (h : dipsB d = false) : checkR d true = 1 := by simp [checkR, h]
end Go.Proofs.Ytidjdonppfegiaa
