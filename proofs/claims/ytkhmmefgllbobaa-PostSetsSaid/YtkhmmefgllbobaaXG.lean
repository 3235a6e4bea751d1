import Derived.Test.YtkhmmefgllbobaaXU
import Derived.Test.YtkhmmefgllbobaaXV
import Derived.Test.YtkhmmefgllbobaaXB
import Derived.Test.YtkhmmefgllbobaaXP
set_option linter.unusedSimpArgs false
set_option linter.unusedVariables false
set_option linter.all false
namespace Go.Proofs.Ytkhmmefgllbobaa
open Go.W Go.Po

theorem ruleC_ones : ∀ x : Rule, ∀ v ∈ ruleC x, v.oneCell' = true := fun x v hv => by
  simp only [ruleC, List.mem_singleton] at hv
  subst hv; rfl
theorem part88 (p : Post) (i : Nat) {j : Nat} (hj : j < 2) : ∀ w, (part 88 (List.toArray [ruleV (sideR p i false), ruleV (sideR p i true)]) (j * 1)).run Try.prog w = .ok (ruleV (sideR p i (decide (j = 1)))) w := by
  intro w
  rcases (show j = 0 ∨ j = 1 by omega) with rfl | rfl <;> simp [part, Try.isAgg88]
theorem sides_slc {p : Post} {n i : Nat} (hi : i < n) (h5 : n ≤ 5) : slc (sidesC p n) (0 + i * 2) 2 = [ruleV (sideR p i false), ruleV (sideR p i true)] := by
  have h := sides_ext p n (show i < 5 by omega)
  rw [sideV_lt hi] at h
  have h2 := congrArg Array.toList h
  simpa [slc, Array.toList_extract, List.extract_eq_take_drop, Nat.add_sub_cancel_left] using h2

set_option maxRecDepth 100000 in
set_option maxHeartbeats 1000000 in
theorem clone_g (w0 : World) (l : List Rule) (a1 : Option Addr) (n1 c1 : Nat) (D : Imm) (w : World) (hS : SlL D 1 (l.map ruleC) a1 n1) (hn : n1 ≤ 1000) (hs : w0.heap.size ≤ w.heap.size) (hH : Holds D w) : News Try.prog 103 [.slice a1 n1 c1] w D (fun v D' hp' => ∃ o, v = owV o n1 ∧ owP w0 o n1 1 ∧ hp' = owH o 88 (l.flatMap ruleC) []) := by
  unfold News
  refine enter Try.func103 rfl 8 Try.ntmps103 (Nat.le_of_ble_eq_true rfl) (Inv.start hH) ?_
  refine WC.seq ?_
  refine WC.ofFr [(0, _)] ⟨rfl, trivial⟩ ?_
  refine WC.region ?_
  refine WL.yd (Yd.assign rfl) rfl ?_
  refine WL.nil ?_
  refine WP.thenC ?_
  refine WC.seq ?_
  refine WC.seq ?_
  refine WC.ofFr [(2, _), (0, _)] ⟨rfl, rfl, trivial⟩ ?_
  refine WC.region ?_
  refine WL.yd (Yd.move rfl) rfl ?_
  refine WL.yd (Yd.nilEq Try.underlying97 rfl rfl) rfl ?_
  refine WL.nil ?_
  refine WP.thenC ?_
  refine WC.cond rfl (fun c4 => ?_) (fun c4 => ?_)
  · try simp only [zq1, zq2, zq3, zq4, zq5, zq6, zq7, zq8] at c4
    have ha : a1 = none := by simpa using c4
    have hl0 : l = [] := by
      cases l with
      | nil => rfl
      | cons x l => have := hS.addr 0 (by rw [hS.len']; simp); rw [ha] at this; cases this
    have hn0 : n1 = 0 := by rw [hS.len', hl0]; rfl
    refine WC.seq ?_
    refine WC.ofFr [(2, _), (0, _)] ⟨rfl, rfl, trivial⟩ ?_
    refine WC.region ?_
    refine WL.yd (Yd.assign rfl) rfl ?_
    refine WL.nil ?_
    refine WP.thenC ?_
    refine WC.ret ?_
    refine WP.thenRet ?_
    refine WP.ret1 rfl rfl Try.results103 (RV.tmp rfl) (fun w1 hI => ⟨_, D, [], rfl, DExt.refl _ _, hI, none, by rw [hn0]; rfl, hn0, by rw [hl0]; rfl⟩)
  · try simp only [zq1, zq2, zq3, zq4, zq5, zq6, zq7, zq8] at c4
    refine WC.skip ?_
    refine WP.thenC ?_
    refine WC.seq ?_
    refine WC.ofFr [(2, _), (0, _)] ⟨rfl, rfl, trivial⟩ ?_
    refine WC.region ?_
    refine WL.so (SO.buildSlice0 Try.underlying97 Try.sizeOf88) rfl ?_
    rintro _ _ _ ⟨b5, hb5, rfl, rfl, rfl⟩ -- NEW
    refine WL.yd (Yd.move rfl) rfl ?_
    refine WL.so (SO.appendAll (f := ruleC) (l := l) (m := 1) ruleC_len ruleC_ones [] _ rfl rfl Try.underlying97 Try.sizeOf88 Try.typeInfo88 Try.zeroValue88 rfl rfl rfl rfl hb5 hS (by show (2 * (_ + _) + 1000) * 16 ≤ 2 ^ 48; omega) (by omega)) rfl ?_
    rintro _ _ _ ⟨u1, hu1, rfl, rfl, rfl⟩
    refine WL.yd (Yd.assign rfl) rfl ?_
    refine WL.nil ?_
    refine WP.thenC ?_
    refine WC.ret ?_
    refine WP.ret1 rfl rfl Try.results103 (RV.tmp rfl) (fun w1 hI => ⟨_, D, _, rfl, DExt.refl _ _, hI, some u1, rfl, owP_mono hs hu1, rfl⟩)

set_option maxRecDepth 100000 in
set_option maxHeartbeats 1000000 in
theorem on_0 (p : Post) (a1 : Option Addr) (n1 c1 : Nat) (a2 : Option Addr) (n2 c2 : Nat) (q b1 b2 b3 b4 ly : Nat) (St : Nat → Imm → Hp → Prop) (Sp : Imm → Hp → Prop) (w0 : World) (A : List Int) (hv : postB p = true)
    (hSm : ∀ k D1 D2 h, DExt w0 D1 D2 → St k D1 h → St k D2 h)
    (DD : Imm) (hround : ∀ k D' h w', k < A.length → w0.heap.size ≤ w'.heap.size → DExt w0 DD D' → St k D' h → Inv D' h (keys h) w' w' → YieldAt Fence.wide 0 Try.prog ly #[it (gt A k)] w' (RoundN w' D' (keys h) (fun b D'' h' => (b = true ∧ St (k + 1) D'' h') ∨ (b = false ∧ Sp D'' h')))) : ∀ (l : List Rule) (i : Nat) (m : Int) (k0 : Nat) (a3 : Option Addr) (n3 c3 : Nat) (D : Imm) (w : World) (h0 : Hp), i + 0 = p.bathers.length → (0 ≤ m ∧ m ≤ (i : Int)) → PartAt A (onL p 0 l i m) k0 → l.length ≤ 8 + i → RulesP p l → w0.heap.size ≤ w.heap.size → DExt w0 DD D → BeachAt D q p (.slice a1 n1 c1) (.slice a2 n2 c2) → PostR D p a1 n1 a2 n2 → D b1 = some (.cells (List.toArray [pt q]) 74 (0, 0)) → D b2 = some (.cells (List.toArray [.func (.yield ly) #[] #[]]) 64 (0, 0)) → D b3 = some (.cells (sidesC p p.bathers.length).toArray 91 (0, 0)) → D b4 = some (.cells (List.toArray [.func (.func 102) #[] #[pt b1, pt b2, pt b3, pt b4]]) 137 (0, 0)) → SlL D 1 (l.map ruleC) a3 n3 → St k0 D h0 → Inv D h0 (keys h0) w w → AltersN Try.prog 102 [.slice a3 n3 c3, nt i, it m, pt b1, pt b2, pt b3, pt b4] w D (keys h0) (fun v D' h' => ∃ b, v = .bool b ∧ ((b = true ∧ St (k0 + (onL p 0 l i m).length) D' h') ∨ (b = false ∧ Sp D' h'))) := by
  intro l i m k0 a3 n3 c3 D w h0 hin hm hpart hll hlp hsw hXX hB hR h1 h2 h3 h4 hS hS0 hI0
  obtain rfl := hR.bath.len'
  obtain rfl := hR.claim.len'
  have hl1 := hR.len1
  have hl2 := hR.len2
  obtain rfl := hS.len'
  have h5 := (post_num hv).2.1
  unfold AltersN
  refine enter Try.func102 rfl 55 Try.ntmps102 (Nat.le_of_ble_eq_true rfl) hI0 ?_
  refine WC.seq ?_
  refine WC.ofFr [(0, _), (1, _), (2, _), (3, _), (4, _), (5, _), (6, _)] ⟨rfl, rfl, rfl, rfl, rfl, rfl, rfl, trivial⟩ ?_
  refine WC.region ?_
  refine WL.yd (Yd.assign rfl) rfl ?_
  refine WL.nil ?_
  refine WP.thenC ?_
  refine WC.seq ?_
  refine WC.seq ?_
  refine WC.ofFr [(10, _), (0, _), (1, _), (2, _), (3, _), (4, _), (5, _), (6, _)] ⟨rfl, rfl, rfl, rfl, rfl, rfl, rfl, rfl, trivial⟩ ?_
  refine WC.region ?_
  refine WL.yd (Yd.load1 Try.isAgg74 rfl (by first | exact Rd.own (k := 0) rfl rfl | exact (Rd.imm h1 rfl) | exact (Rd.imm h2 rfl) | exact (Rd.imm h4 rfl) | exact (Rd.imm hB rfl))) rfl ?_
  refine WL.yd (Yd.move rfl) rfl ?_
  refine WL.so (SO.makes (Enters.func Try.call62 rfl) (fun w hI => bounds_g p a1 _ c1 a2 _ c2 q _ _ hB hR hI.imm hv l a3 _ c3 hS (by omega) hlp)) rfl ?_
  rintro _ D2 hz ⟨hX2, ⟨es, clock, bm, rfl, hbm, hM⟩, hzz⟩
  rw [hzz]
  have hXX := hXX.trans (hX2) hsw
  have hB := hB.ext hX2
  have hR := hR.ext hX2
  have h1 := hX2.old _ _ h1
  have h2 := hX2.old _ _ h2
  have h3 := hX2.old _ _ h3
  have h4 := hX2.old _ _ h4
  have hS := hS.ext hX2
  refine WL.yd (Yd.move rfl) rfl ?_
  refine WL.yd (Yd.extract rfl rfl) rfl ?_
  refine WL.yd (Yd.extract rfl rfl) rfl ?_
  refine WL.yd (Yd.assign rfl) rfl ?_
  refine WL.yd (Yd.assign rfl) rfl ?_
  refine WL.nil ?_
  refine WP.thenC ?_
  refine WC.seq ?_
  refine WC.ofFr [(12, _), (10, _), (0, _), (1, _), (2, _), (3, _), (4, _), (5, _), (6, _)] ⟨rfl, rfl, rfl, rfl, rfl, rfl, rfl, rfl, rfl, trivial⟩ ?_
  refine WC.region ?_
  refine WL.yd (Yd.move rfl) rfl ?_
  refine WL.yd (Yd.not rfl) rfl ?_
  refine WL.nil ?_
  refine WP.thenC ?_
  refine WC.cond rfl (fun c22 => ?_) (fun c22 => ?_)
  · try simp only [zq1, zq2, zq3, zq4, zq5, zq6, zq7, zq8] at c22
    have hok : farOk p l = false := c22
    refine WC.seq ?_
    refine WC.ofFr [(10, _), (0, _), (1, _), (2, _), (3, _), (4, _), (5, _), (6, _)] ⟨rfl, rfl, rfl, rfl, rfl, rfl, rfl, rfl, trivial⟩ ?_
    refine WC.region ?_
    refine WL.yd (Yd.assign rfl) rfl ?_
    refine WL.nil ?_
    refine WP.thenC ?_
    refine WC.ret ?_
    refine WP.thenRet ?_
    refine WP.ret1 rfl rfl Try.results102 (RV.tmp rfl) (fun w1 hI => ⟨_, D2, h0, rfl, hX2, hI, true, rfl, .inl ⟨rfl, by rw [onL_no hok]; exact hSm _ _ _ _ (hX2.wide hsw) hS0⟩⟩)
  · try simp only [zq1, zq2, zq3, zq4, zq5, zq6, zq7, zq8] at c22
    have hok : farOk p l = true := c22
    have hS0 := hSm _ _ _ _ (hX2.wide hsw) hS0
    refine WC.skip ?_
    refine WP.thenC ?_
    refine WC.seq ?_
    refine WC.seq ?_
    refine WC.ofFr [(10, _), (0, _), (1, _), (2, _), (3, _), (4, _), (5, _), (6, _)] ⟨rfl, rfl, rfl, rfl, rfl, rfl, rfl, rfl, trivial⟩ ?_
    refine WC.region ?_
    refine WL.yd (Yd.move rfl) rfl ?_
    refine WL.yd (Yd.load1 Try.isAgg74 rfl (by first | exact Rd.own (k := 0) rfl rfl | exact (Rd.imm h1 rfl) | exact (Rd.imm h2 rfl) | exact (Rd.imm h4 rfl) | exact (Rd.imm hB rfl))) rfl ?_
    refine WL.yd (Yd.nilCheck rfl) rfl ?_
    refine WL.yd (Yd.fieldAddr FA94_0 rfl) rfl ?_
    refine WL.yd (Yd.fieldAddr FA27_1 rfl) rfl ?_
    refine WL.yd (Yd.load1 Try.isAgg24 rfl (by first | exact Rd.own (k := 0) rfl rfl | exact (Rd.imm h1 rfl) | exact (Rd.imm h2 rfl) | exact (Rd.imm h4 rfl) | exact (Rd.imm hB rfl))) rfl ?_
    refine WL.yd (Yd.lenS rfl Try.underlying24 rfl) rfl ?_
    refine WL.yd (Yd.eql rfl rfl) rfl ?_
    refine WL.nil ?_
    refine WP.thenC ?_
    refine WC.cond rfl (fun c30 => ?_) (fun c30 => ?_)
    · try simp only [zq1, zq2, zq3, zq4, zq5, zq6, zq7, zq8] at c30
      have hmA : it m = it (gt A k0) := by
        have := (hpart.at 0 (by rw [onL_end hok]; exact Nat.zero_lt_one)).1
        rw [onL_end hok] at this
        rw [show k0 + 0 = k0 from rfl] at this
        rw [this]; rfl
      have hkA : k0 < A.length := (hpart.at 0 (by rw [onL_end hok]; exact Nat.zero_lt_one)).2
      refine WC.seq ?_
      refine WC.ofFr [(10, _), (0, _), (1, _), (2, _), (4, _), (5, _), (6, _)] ⟨rfl, rfl, rfl, rfl, rfl, rfl, rfl, trivial⟩ ?_
      refine WC.ofF ?_
      refine WCF.region ?_
      refine WLF.yd (by intro _ h; cases h) (Yd.load1 Try.isAgg64 rfl (by first | exact Rd.own (k := 0) rfl rfl | exact (Rd.imm h1 rfl) | exact (Rd.imm h2 rfl) | exact (Rd.imm h4 rfl) | exact (Rd.imm hB rfl))) rfl ?_
      refine WLF.yd (by intro _ h; cases h) (Yd.move rfl) rfl ?_
      refine WLF.yieldN (l := ly) (vals := [it m]) [] h0 (fun _ h => h) (fun h => h) rfl rfl rfl (fun w' hsz hI => by rw [hmA]; exact hround k0 D2 h0 w' hkA (Nat.le_trans hsw hsz) hXX hS0 hI) ?_
      rintro b33 D5 hp5 hK5 hX5
      refine WLF.yd (by intro _ h; cases h) (Yd.assign rfl) rfl ?_
      refine WLF.nil ?_
      refine WP.thenC ?_
      refine WC.ret ?_
      refine WP.thenRet ?_
      refine WP.ret1 rfl rfl Try.results102 (RV.tmp rfl) (fun w1 hI => by
        rcases hK5 with ⟨rfl, hK5⟩ | ⟨rfl, hK5⟩
        · exact ⟨_, D5, hp5, rfl, hX2.trans hX5 (Nat.le_refl _), hI, true, rfl, .inl ⟨rfl, by rw [onL_end hok]; exact hK5⟩⟩
        · exact ⟨_, D5, hp5, rfl, hX2.trans hX5 (Nat.le_refl _), hI, false, rfl, .inr ⟨rfl, hK5⟩⟩)
    · try simp only [zq1, zq2, zq3, zq4, zq5, zq6, zq7, zq8] at c30
      omega

set_option maxRecDepth 100000 in
set_option maxHeartbeats 1000000 in
theorem on_s (p : Post) (a1 : Option Addr) (n1 c1 : Nat) (a2 : Option Addr) (n2 c2 : Nat) (q b1 b2 b3 b4 ly : Nat) (St : Nat → Imm → Hp → Prop) (Sp : Imm → Hp → Prop) (w0 : World) (A : List Int) (hv : postB p = true)
    (hSm : ∀ k D1 D2 h, DExt w0 D1 D2 → St k D1 h → St k D2 h)
    (DD : Imm) (hround : ∀ k D' h w', k < A.length → w0.heap.size ≤ w'.heap.size → DExt w0 DD D' → St k D' h → Inv D' h (keys h) w' w' → YieldAt Fence.wide 0 Try.prog ly #[it (gt A k)] w' (RoundN w' D' (keys h) (fun b D'' h' => (b = true ∧ St (k + 1) D'' h') ∨ (b = false ∧ Sp D'' h')))) (rem : Nat) (ih : ∀ (l : List Rule) (i : Nat) (m : Int) (k0 : Nat) (a3 : Option Addr) (n3 c3 : Nat) (D : Imm) (w : World) (h0 : Hp), i + rem = p.bathers.length → (0 ≤ m ∧ m ≤ (i : Int)) → PartAt A (onL p rem l i m) k0 → l.length ≤ 8 + i → RulesP p l → w0.heap.size ≤ w.heap.size → DExt w0 DD D → BeachAt D q p (.slice a1 n1 c1) (.slice a2 n2 c2) → PostR D p a1 n1 a2 n2 → D b1 = some (.cells (List.toArray [pt q]) 74 (0, 0)) → D b2 = some (.cells (List.toArray [.func (.yield ly) #[] #[]]) 64 (0, 0)) → D b3 = some (.cells (sidesC p p.bathers.length).toArray 91 (0, 0)) → D b4 = some (.cells (List.toArray [.func (.func 102) #[] #[pt b1, pt b2, pt b3, pt b4]]) 137 (0, 0)) → SlL D 1 (l.map ruleC) a3 n3 → St k0 D h0 → Inv D h0 (keys h0) w w → AltersN Try.prog 102 [.slice a3 n3 c3, nt i, it m, pt b1, pt b2, pt b3, pt b4] w D (keys h0) (fun v D' h' => ∃ b, v = .bool b ∧ ((b = true ∧ St (k0 + (onL p rem l i m).length) D' h') ∨ (b = false ∧ Sp D' h')))) : ∀ (l : List Rule) (i : Nat) (m : Int) (k0 : Nat) (a3 : Option Addr) (n3 c3 : Nat) (D : Imm) (w : World) (h0 : Hp), i + (rem + 1) = p.bathers.length → (0 ≤ m ∧ m ≤ (i : Int)) → PartAt A (onL p (rem + 1) l i m) k0 → l.length ≤ 8 + i → RulesP p l → w0.heap.size ≤ w.heap.size → DExt w0 DD D → BeachAt D q p (.slice a1 n1 c1) (.slice a2 n2 c2) → PostR D p a1 n1 a2 n2 → D b1 = some (.cells (List.toArray [pt q]) 74 (0, 0)) → D b2 = some (.cells (List.toArray [.func (.yield ly) #[] #[]]) 64 (0, 0)) → D b3 = some (.cells (sidesC p p.bathers.length).toArray 91 (0, 0)) → D b4 = some (.cells (List.toArray [.func (.func 102) #[] #[pt b1, pt b2, pt b3, pt b4]]) 137 (0, 0)) → SlL D 1 (l.map ruleC) a3 n3 → St k0 D h0 → Inv D h0 (keys h0) w w → AltersN Try.prog 102 [.slice a3 n3 c3, nt i, it m, pt b1, pt b2, pt b3, pt b4] w D (keys h0) (fun v D' h' => ∃ b, v = .bool b ∧ ((b = true ∧ St (k0 + (onL p (rem + 1) l i m).length) D' h') ∨ (b = false ∧ Sp D' h'))) := by
  intro l i m k0 a3 n3 c3 D w h0 hin hm hpart hll hlp hsw hXX hB hR h1 h2 h3 h4 hS hS0 hI0
  obtain rfl := hR.bath.len'
  obtain rfl := hR.claim.len'
  have hl1 := hR.len1
  have hl2 := hR.len2
  obtain rfl := hS.len'
  have h5 := (post_num hv).2.1
  unfold AltersN
  refine enter Try.func102 rfl 55 Try.ntmps102 (Nat.le_of_ble_eq_true rfl) hI0 ?_
  refine WC.seq ?_
  refine WC.ofFr [(0, _), (1, _), (2, _), (3, _), (4, _), (5, _), (6, _)] ⟨rfl, rfl, rfl, rfl, rfl, rfl, rfl, trivial⟩ ?_
  refine WC.region ?_
  refine WL.yd (Yd.assign rfl) rfl ?_
  refine WL.nil ?_
  refine WP.thenC ?_
  refine WC.seq ?_
  refine WC.seq ?_
  refine WC.ofFr [(10, _), (0, _), (1, _), (2, _), (3, _), (4, _), (5, _), (6, _)] ⟨rfl, rfl, rfl, rfl, rfl, rfl, rfl, rfl, trivial⟩ ?_
  refine WC.region ?_
  refine WL.yd (Yd.load1 Try.isAgg74 rfl (by first | exact Rd.own (k := 0) rfl rfl | exact (Rd.imm h1 rfl) | exact (Rd.imm h2 rfl) | exact (Rd.imm h4 rfl) | exact (Rd.imm hB rfl))) rfl ?_
  refine WL.yd (Yd.move rfl) rfl ?_
  refine WL.so (SO.makes (Enters.func Try.call62 rfl) (fun w hI => bounds_g p a1 _ c1 a2 _ c2 q _ _ hB hR hI.imm hv l a3 _ c3 hS (by omega) hlp)) rfl ?_
  rintro _ D2 hz ⟨hX2, ⟨es, clock, bm, rfl, hbm, hM⟩, hzz⟩
  rw [hzz]
  have hXX := hXX.trans (hX2) hsw
  have hB := hB.ext hX2
  have hR := hR.ext hX2
  have h1 := hX2.old _ _ h1
  have h2 := hX2.old _ _ h2
  have h3 := hX2.old _ _ h3
  have h4 := hX2.old _ _ h4
  have hS := hS.ext hX2
  refine WL.yd (Yd.move rfl) rfl ?_
  refine WL.yd (Yd.extract rfl rfl) rfl ?_
  refine WL.yd (Yd.extract rfl rfl) rfl ?_
  refine WL.yd (Yd.assign rfl) rfl ?_
  refine WL.yd (Yd.assign rfl) rfl ?_
  refine WL.nil ?_
  refine WP.thenC ?_
  refine WC.seq ?_
  refine WC.ofFr [(12, _), (10, _), (0, _), (1, _), (2, _), (3, _), (4, _), (5, _), (6, _)] ⟨rfl, rfl, rfl, rfl, rfl, rfl, rfl, rfl, rfl, trivial⟩ ?_
  refine WC.region ?_
  refine WL.yd (Yd.move rfl) rfl ?_
  refine WL.yd (Yd.not rfl) rfl ?_
  refine WL.nil ?_
  refine WP.thenC ?_
  refine WC.cond rfl (fun c22 => ?_) (fun c22 => ?_)
  · try simp only [zq1, zq2, zq3, zq4, zq5, zq6, zq7, zq8] at c22
    have hok : farOk p l = false := c22
    refine WC.seq ?_
    refine WC.ofFr [(10, _), (0, _), (1, _), (2, _), (3, _), (4, _), (5, _), (6, _)] ⟨rfl, rfl, rfl, rfl, rfl, rfl, rfl, rfl, trivial⟩ ?_
    refine WC.region ?_
    refine WL.yd (Yd.assign rfl) rfl ?_
    refine WL.nil ?_
    refine WP.thenC ?_
    refine WC.ret ?_
    refine WP.thenRet ?_
    refine WP.ret1 rfl rfl Try.results102 (RV.tmp rfl) (fun w1 hI => ⟨_, D2, h0, rfl, hX2, hI, true, rfl, .inl ⟨rfl, by rw [onL_no hok]; exact hSm _ _ _ _ (hX2.wide hsw) hS0⟩⟩)
  · try simp only [zq1, zq2, zq3, zq4, zq5, zq6, zq7, zq8] at c22
    have hok : farOk p l = true := c22
    have hS0 := hSm _ _ _ _ (hX2.wide hsw) hS0
    refine WC.skip ?_
    refine WP.thenC ?_
    refine WC.seq ?_
    refine WC.seq ?_
    refine WC.ofFr [(10, _), (0, _), (1, _), (2, _), (3, _), (4, _), (5, _), (6, _)] ⟨rfl, rfl, rfl, rfl, rfl, rfl, rfl, rfl, trivial⟩ ?_
    refine WC.region ?_
    refine WL.yd (Yd.move rfl) rfl ?_
    refine WL.yd (Yd.load1 Try.isAgg74 rfl (by first | exact Rd.own (k := 0) rfl rfl | exact (Rd.imm h1 rfl) | exact (Rd.imm h2 rfl) | exact (Rd.imm h4 rfl) | exact (Rd.imm hB rfl))) rfl ?_
    refine WL.yd (Yd.nilCheck rfl) rfl ?_
    refine WL.yd (Yd.fieldAddr FA94_0 rfl) rfl ?_
    refine WL.yd (Yd.fieldAddr FA27_1 rfl) rfl ?_
    refine WL.yd (Yd.load1 Try.isAgg24 rfl (by first | exact Rd.own (k := 0) rfl rfl | exact (Rd.imm h1 rfl) | exact (Rd.imm h2 rfl) | exact (Rd.imm h4 rfl) | exact (Rd.imm hB rfl))) rfl ?_
    refine WL.yd (Yd.lenS rfl Try.underlying24 rfl) rfl ?_
    refine WL.yd (Yd.eql rfl rfl) rfl ?_
    refine WL.nil ?_
    refine WP.thenC ?_
    refine WC.cond rfl (fun c30 => ?_) (fun c30 => ?_)
    · try simp only [zq1, zq2, zq3, zq4, zq5, zq6, zq7, zq8] at c30
      omega
    · try simp only [zq1, zq2, zq3, zq4, zq5, zq6, zq7, zq8] at c30
      have hin5 : i < p.bathers.length := by omega
      rw [← onTo_two hok] at hpart
      refine WC.skip ?_
      refine WP.thenC ?_
      refine WC.seq ?_
      refine WC.seq ?_
      refine WC.ofFr [(10, _), (0, _), (1, _), (2, _), (5, _), (6, _)] ⟨rfl, rfl, rfl, rfl, rfl, rfl, trivial⟩ ?_
      refine WC.region ?_
      refine WL.yd (Yd.move rfl) rfl ?_
      refine WL.yd (Yd.indexA Try.underlying91 Try.sizeOf89 rfl rfl (by omega) (by omega)) rfl ?_
      refine WL.yd (Yd.loadN Try.isAgg89 Try.sizeOf89 rfl (vs := [ruleV (sideR p i false), ruleV (sideR p i true)]) rfl (RdN.imm (n := 2) h3 (sides_slc hin5 h5))) rfl ?_
      refine WL.yd (Yd.move rfl) rfl ?_
      refine WL.nil ?_
      refine WP.thenC ?_
      refine WC.block ?_
      refine WC.loop (fun y : Nat × Imm × Hp => [(0, .slice a3 l.length c3), (1, nt i), (2, it m), (6, pt b4), (36, .agg #[ruleV (sideR p i false), ruleV (sideR p i true)]), (37, nt y.1)]) (fun y => y.2.2) (fun y => y.2.1) (fun y => y.1 ≤ 2 ∧ DExt w D2 y.2.1 ∧ St (k0 + (onTo p rem l i m y.1).length) y.2.1 y.2.2) (fun y => 2 - y.1) ⟨0, D2, h0⟩ ⟨by omega, DExt.refl _ _, hS0⟩ (fun a w h => at_fr h ⟨rfl, rfl, rfl, rfl, rfl, rfl, trivial⟩) ?_
      rintro ⟨j, D6, hG⟩ ⟨hj, hX6, hSG⟩
      dsimp only at hj hX6 hSG
      have hXX := hXX.trans (hX6) hsw
      have hB := hB.ext hX6
      have hR := hR.ext hX6
      have h1 := hX6.old _ _ h1
      have h2 := hX6.old _ _ h2
      have h3 := hX6.old _ _ h3
      have h4 := hX6.old _ _ h4
      have hS := hS.ext hX6
      refine WC.seq ?_
      refine WC.ofFr [(0, _), (1, _), (2, _), (6, _), (36, _), (37, _)] ⟨rfl, rfl, rfl, rfl, rfl, rfl, trivial⟩ ?_
      refine WC.region ?_
      refine WL.yd (Yd.lss rfl rfl) rfl ?_
      refine WL.nil ?_
      refine WP.thenC ?_
      refine WC.seq ?_
      refine WC.cond rfl (fun c38 => ?_) (fun c38 => ?_)
      · try simp only [zq1, zq2, zq3, zq4, zq5, zq6, zq7, zq8] at c38
        refine WC.skip ?_
        refine WP.thenC ?_
        refine WC.seq ?_
        refine WC.block ?_
        refine WC.seq ?_
        refine WC.ofFr [(0, _), (1, _), (2, _), (6, _), (36, _), (37, _)] ⟨rfl, rfl, rfl, rfl, rfl, rfl, trivial⟩ ?_
        refine WC.region ?_
        refine WL.yd (Yd.move rfl) rfl ?_
        refine WL.yd (Yd.index (cs := [ruleV (sideR p i false), ruleV (sideR p i true)]) (j := j) Try.underlying89 Try.sizeOf88 rfl rfl (by omega) (part88 p i (by omega))) rfl ?_
        refine WL.yd (Yd.assign rfl) rfl ?_
        refine WL.yd (Yd.assign rfl) rfl ?_
        refine WL.nil ?_
        refine WP.thenC ?_
        refine WC.seq ?_
        refine WC.ofFr [(14, _), (13, _), (0, _), (1, _), (2, _), (6, _), (36, _), (37, _)] ⟨rfl, rfl, rfl, rfl, rfl, rfl, rfl, rfl, trivial⟩ ?_
        refine WC.drawH [] (by kernel_rfl) (fun _ hI => Inv.nil hI) ?_
        refine WH.yd (i := 0) (by kernel_rfl) (fun _ o v c a w _ h => (QuietPanic.then (QuietPanic.blk (QuietPanic.then (QuietPanic.then (QuietPanic.blk (QuietPanic.then QuietPanic.body)))))) c o.dst v a w h) rfl (Yd.load1 Try.isAgg137 rfl (by first | exact Rd.own (k := 0) rfl rfl | exact (Rd.imm h1 rfl) | exact (Rd.imm h2 rfl) | exact (Rd.imm h4 rfl) | exact (Rd.imm hB rfl))) rfl ?_
        refine WH.yd (i := 1) (by kernel_rfl) (fun _ o v c a w _ h => (QuietPanic.then (QuietPanic.blk (QuietPanic.then (QuietPanic.then (QuietPanic.blk (QuietPanic.then QuietPanic.body)))))) c o.dst v a w h) rfl (Yd.move rfl) rfl ?_
        refine WH.yd (i := 3) (by kernel_rfl) (fun _ o v c a w _ h => (QuietPanic.then (QuietPanic.blk (QuietPanic.then (QuietPanic.then (QuietPanic.blk (QuietPanic.then QuietPanic.body)))))) c o.dst v a w h) rfl (Yd.move rfl) rfl ?_
        refine WH.yd (i := 6) (by kernel_rfl) (fun _ o v c a w _ h => (QuietPanic.then (QuietPanic.blk (QuietPanic.then (QuietPanic.then (QuietPanic.blk (QuietPanic.then QuietPanic.body)))))) c o.dst v a w h) rfl (Yd.move rfl) rfl ?_
        refine WH.yd (i := 7) (by kernel_rfl) (fun _ o v c a w _ h => (QuietPanic.then (QuietPanic.blk (QuietPanic.then (QuietPanic.then (QuietPanic.blk (QuietPanic.then QuietPanic.body)))))) c o.dst v a w h) rfl (Yd.add rfl rfl (wr64 ⟨by omega, by omega⟩)) rfl ?_
        refine WH.yd (i := 8) (by kernel_rfl) (fun _ o v c a w _ h => (QuietPanic.then (QuietPanic.blk (QuietPanic.then (QuietPanic.then (QuietPanic.blk (QuietPanic.then QuietPanic.body)))))) c o.dst v a w h) rfl (Yd.move rfl) rfl ?_
        refine WH.yd (i := 9) (by kernel_rfl) (fun _ o v c a w _ h => (QuietPanic.then (QuietPanic.blk (QuietPanic.then (QuietPanic.then (QuietPanic.blk (QuietPanic.then QuietPanic.body)))))) c o.dst v a w h) rfl (Yd.move rfl) rfl ?_
        refine WH.yd (i := 10) (by kernel_rfl) (fun _ o v c a w _ h => (QuietPanic.then (QuietPanic.blk (QuietPanic.then (QuietPanic.then (QuietPanic.blk (QuietPanic.then QuietPanic.body)))))) c o.dst v a w h) rfl (Yd.add rfl rfl (wr64 ⟨by omega, by omega⟩)) rfl ?_
        refine WH.two (i := 2) (j := 4) (by kernel_rfl) ?_ ?_
        · refine WHo.so rfl (SO.news (Enters.func Try.call103 rfl) (fun w2 hI => clone_g w l a3 _ c3 _ w2 hS (by omega) hI.keep.size hI.imm)) rfl ?_
          rintro _ D7 _ ⟨_, hX7, ⟨o, rfl, ho, rfl⟩, rfl⟩
          refine ⟨(fun _ hI => (Inv.nil hI).shrink hX7.old), ?_⟩
          refine WH.one (i := 4) (by kernel_rfl) (WHo.so rfl (SO.buildSlice Try.underlying97 Try.sizeOf88 Try.zeroValue88 rfl rfl rfl rfl (cs := [_]) rfl) rfl ?_)
          rintro _ _ _ ⟨b45, hb45, rfl, rfl, rfl⟩ -- NEW
          refine ⟨(fun _ hI => (Inv.nil hI).shrink hX7.old), ?_⟩
          refine WH.one (i := 5) (by kernel_rfl) (WHo.so rfl (SO.appendOw (o := o) (len := l.length) (n := 1) (xs := l.flatMap ruleC) (size := 1) [_] hG [] rfl rfl Try.underlying97 Try.sizeOf88 Try.typeInfo88 Try.zeroValue88 rfl rfl rfl rfl ⟨rfl, .inr ⟨_, _, _, rfl, RdN.own (k := 0) (n := 1) rfl rfl⟩⟩ (oneB_spec rfl) ho (flat_len ruleC_len _) (by omega) (by show (2 * (_ + _) + 1000) * 16 ≤ 2 ^ 48; omega) (by omega)) rfl ?_)
          rintro _ _ _ ⟨u1, hu1, rfl, rfl, rfl⟩
          refine ⟨(fun _ hI => (Inv.nil hI).shrink hX7.old), ?_⟩
          refine WH.freezeOw (f := ruleC) (m := 1) ruleC_len hG [] (some u1) 88 (l ++ [sideR p i (decide (j = 1))]) rfl (by rw [List.length_append]; exact hu1) (by rw [List.flatMap_append]; rfl) (fun D9 hXF hS9 => ?_)
          have hXF8 := hX7.trans hXF (Nat.le_refl _)
          have hXX := hXX.trans (hXF8) hsw
          have hB := hB.ext hXF8
          have hR := hR.ext hXF8
          have h1 := hXF8.old _ _ h1
          have h2 := hXF8.old _ _ h2
          have h3 := hXF8.old _ _ h3
          have h4 := hXF8.old _ _ h4
          have hS := hS.ext hXF8
          rw [List.length_append] at hS9
          refine WH.one (i := 11) (by kernel_rfl) (WHo.so rfl (SO.altersNS (own := []) (hpc := hG) (fun e he => List.mem_append_left _ he) (fun hn => by rw [List.append_nil] at hn; exact hn) (Enters.val Try.call102 rfl rfl) (fun w3 hsz hI => ih (l ++ [sideR p i (decide (j = 1))]) (i + 1) (m + (j : Int)) (k0 + (onTo p rem l i m j).length) (owAt (some u1)) _ u1.cap _ w3 hG (by omega) (by omega) (hpart.to (by omega)) (by rw [List.length_append]; simp; omega) (hlp.app (RulesP.one (sideR_in hin5 _))) (Nat.le_trans hsw hsz) hXX hB hR h1 h2 h3 h4 hS9 (hSm _ _ _ _ (hXF8.wide hsw) hSG) hI)) rfl ?_)
          rintro _ D8 hp8 ⟨_, hX8, ⟨b52, rfl, hK8⟩, rfl⟩
          refine ⟨(fun _ hI => (Inv.nil hI).shrink ((hX7.trans hXF (Nat.le_refl _)).trans hX8 (Nat.le_refl _)).old), ?_⟩
          refine WH.yd (i := 12) (by kernel_rfl) (fun _ o v c a w _ h => (QuietPanic.then (QuietPanic.blk (QuietPanic.then (QuietPanic.then (QuietPanic.blk (QuietPanic.then QuietPanic.body)))))) c o.dst v a w h) rfl (Yd.not rfl) rfl ?_
          refine WH.nil (by kernel_rfl) ?_
          refine WP.thenC ?_
          refine WC.cond rfl (fun c53 => ?_) (fun c53 => ?_)
          · try simp only [zq1, zq2, zq3, zq4, zq5, zq6, zq7, zq8] at c53
            have hb52 : b52 = false := c53
            refine WC.seq ?_
            refine WC.ofFr [(0, _), (1, _), (2, _), (6, _), (36, _), (37, _)] ⟨rfl, rfl, rfl, rfl, rfl, rfl, trivial⟩ ?_
            refine WC.region ?_
            refine WL.yd (Yd.assign rfl) rfl ?_
            refine WL.nil ?_
            refine WP.thenC ?_
            refine WC.ret ?_
            refine WP.blkRet ?_
            refine WP.thenRet ?_
            refine WP.thenRet ?_
            refine WP.blkRet ?_
            refine WP.thenRet ?_
            refine WP.ret1 rfl rfl Try.results102 (RV.tmp rfl) (fun w1 hI => by
              rcases hK8 with ⟨htt, _⟩ | ⟨_, hK8⟩
              · rw [hb52] at htt; cases htt
              · exact ⟨_, D8, hp8, rfl, ((hX2.trans hX6 (Nat.le_refl _)).trans hXF8 (Nat.le_refl _)).trans hX8 (Nat.le_refl _), hI, false, rfl, .inr ⟨rfl, hK8⟩⟩)
          · try simp only [zq1, zq2, zq3, zq4, zq5, zq6, zq7, zq8] at c53
            have hb52 : b52 = true := by simpa using c53
            refine WC.skip ?_
            refine WP.blkNormal ?_
            refine WP.thenC ?_
            refine WC.ofFr [(0, _), (1, _), (2, _), (6, _), (36, _), (37, _)] ⟨rfl, rfl, rfl, rfl, rfl, rfl, trivial⟩ ?_
            refine WC.region ?_
            refine WL.yd (Yd.add rfl rfl (wr64 ⟨by omega, by omega⟩)) rfl ?_
            refine WL.yd (Yd.move rfl) rfl ?_
            refine WL.nil ?_
            rcases hK8 with ⟨_, hK8⟩ | ⟨hff, _⟩
            · refine WP.again (⟨j + 1, D8, hp8⟩ : Nat × Imm × Hp) ⟨by simp only; omega, (hX6.trans hXF8 (Nat.le_refl _)).trans hX8 (Nat.le_refl _), by simp only [onTo, List.length_append]; rw [← Nat.add_assoc]; exact hK8⟩ (by simp only; omega) (fun aa ww h => at_fr h ⟨rfl, rfl, rfl, rfl, rfl, rfl, trivial⟩)
            · rw [hb52] at hff; cases hff
        · refine WHo.so rfl (SO.buildSlice Try.underlying97 Try.sizeOf88 Try.zeroValue88 rfl rfl rfl rfl (cs := [_]) rfl) rfl ?_
          rintro _ _ _ ⟨b45, hb45, rfl, rfl, rfl⟩ -- NEW
          refine ⟨(fun _ hI => Inv.nil hI), ?_⟩
          refine WH.one (i := 2) (by kernel_rfl) (WHo.so rfl (SO.news (Enters.func Try.call103 rfl) (fun w2 hI => clone_g w l a3 _ c3 _ w2 hS (by omega) hI.keep.size hI.imm)) rfl ?_)
          rintro _ D7 _ ⟨_, hX7, ⟨o, rfl, ho, rfl⟩, rfl⟩
          refine ⟨(fun _ hI => (Inv.nil hI).shrink hX7.old), ?_⟩
          refine WH.one (i := 5) (by kernel_rfl) (WHo.so rfl (SO.appendOw (o := o) (len := l.length) (n := 1) (xs := l.flatMap ruleC) (size := 1) [_] hG [] rfl rfl Try.underlying97 Try.sizeOf88 Try.typeInfo88 Try.zeroValue88 rfl rfl rfl rfl ⟨rfl, .inr ⟨_, _, _, rfl, RdN.own (k := 0) (n := 1) rfl rfl⟩⟩ (oneB_spec rfl) ho (flat_len ruleC_len _) (by omega) (by show (2 * (_ + _) + 1000) * 16 ≤ 2 ^ 48; omega) (by omega)) rfl ?_)
          rintro _ _ _ ⟨u1, hu1, rfl, rfl, rfl⟩
          refine ⟨(fun _ hI => (Inv.nil hI).shrink hX7.old), ?_⟩
          refine WH.freezeOw (f := ruleC) (m := 1) ruleC_len hG [] (some u1) 88 (l ++ [sideR p i (decide (j = 1))]) rfl (by rw [List.length_append]; exact hu1) (by rw [List.flatMap_append]; rfl) (fun D9 hXF hS9 => ?_)
          have hXF8 := hX7.trans hXF (Nat.le_refl _)
          have hXX := hXX.trans (hXF8) hsw
          have hB := hB.ext hXF8
          have hR := hR.ext hXF8
          have h1 := hXF8.old _ _ h1
          have h2 := hXF8.old _ _ h2
          have h3 := hXF8.old _ _ h3
          have h4 := hXF8.old _ _ h4
          have hS := hS.ext hXF8
          rw [List.length_append] at hS9
          refine WH.one (i := 11) (by kernel_rfl) (WHo.so rfl (SO.altersNS (own := []) (hpc := hG) (fun e he => List.mem_append_left _ he) (fun hn => by rw [List.append_nil] at hn; exact hn) (Enters.val Try.call102 rfl rfl) (fun w3 hsz hI => ih (l ++ [sideR p i (decide (j = 1))]) (i + 1) (m + (j : Int)) (k0 + (onTo p rem l i m j).length) (owAt (some u1)) _ u1.cap _ w3 hG (by omega) (by omega) (hpart.to (by omega)) (by rw [List.length_append]; simp; omega) (hlp.app (RulesP.one (sideR_in hin5 _))) (Nat.le_trans hsw hsz) hXX hB hR h1 h2 h3 h4 hS9 (hSm _ _ _ _ (hXF8.wide hsw) hSG) hI)) rfl ?_)
          rintro _ D8 hp8 ⟨_, hX8, ⟨b52, rfl, hK8⟩, rfl⟩
          refine ⟨(fun _ hI => (Inv.nil hI).shrink ((hX7.trans hXF (Nat.le_refl _)).trans hX8 (Nat.le_refl _)).old), ?_⟩
          refine WH.yd (i := 12) (by kernel_rfl) (fun _ o v c a w _ h => (QuietPanic.then (QuietPanic.blk (QuietPanic.then (QuietPanic.then (QuietPanic.blk (QuietPanic.then QuietPanic.body)))))) c o.dst v a w h) rfl (Yd.not rfl) rfl ?_
          refine WH.nil (by kernel_rfl) ?_
          refine WP.thenC ?_
          refine WC.cond rfl (fun c53 => ?_) (fun c53 => ?_)
          · try simp only [zq1, zq2, zq3, zq4, zq5, zq6, zq7, zq8] at c53
            have hb52 : b52 = false := c53
            refine WC.seq ?_
            refine WC.ofFr [(0, _), (1, _), (2, _), (6, _), (36, _), (37, _)] ⟨rfl, rfl, rfl, rfl, rfl, rfl, trivial⟩ ?_
            refine WC.region ?_
            refine WL.yd (Yd.assign rfl) rfl ?_
            refine WL.nil ?_
            refine WP.thenC ?_
            refine WC.ret ?_
            refine WP.blkRet ?_
            refine WP.thenRet ?_
            refine WP.thenRet ?_
            refine WP.blkRet ?_
            refine WP.thenRet ?_
            refine WP.ret1 rfl rfl Try.results102 (RV.tmp rfl) (fun w1 hI => by
              rcases hK8 with ⟨htt, _⟩ | ⟨_, hK8⟩
              · rw [hb52] at htt; cases htt
              · exact ⟨_, D8, hp8, rfl, ((hX2.trans hX6 (Nat.le_refl _)).trans hXF8 (Nat.le_refl _)).trans hX8 (Nat.le_refl _), hI, false, rfl, .inr ⟨rfl, hK8⟩⟩)
          · try simp only [zq1, zq2, zq3, zq4, zq5, zq6, zq7, zq8] at c53
            have hb52 : b52 = true := by simpa using c53
            refine WC.skip ?_
            refine WP.blkNormal ?_
            refine WP.thenC ?_
            refine WC.ofFr [(0, _), (1, _), (2, _), (6, _), (36, _), (37, _)] ⟨rfl, rfl, rfl, rfl, rfl, rfl, trivial⟩ ?_
            refine WC.region ?_
            refine WL.yd (Yd.add rfl rfl (wr64 ⟨by omega, by omega⟩)) rfl ?_
            refine WL.yd (Yd.move rfl) rfl ?_
            refine WL.nil ?_
            rcases hK8 with ⟨_, hK8⟩ | ⟨hff, _⟩
            · refine WP.again (⟨j + 1, D8, hp8⟩ : Nat × Imm × Hp) ⟨by simp only; omega, (hX6.trans hXF8 (Nat.le_refl _)).trans hX8 (Nat.le_refl _), by simp only [onTo, List.length_append]; rw [← Nat.add_assoc]; exact hK8⟩ (by simp only; omega) (fun aa ww h => at_fr h ⟨rfl, rfl, rfl, rfl, rfl, rfl, trivial⟩)
            · rw [hb52] at hff; cases hff
      · try simp only [zq1, zq2, zq3, zq4, zq5, zq6, zq7, zq8] at c38
        refine WC.exit ?_
        refine WP.thenExit ?_
        refine WP.thenExit ?_
        refine WP.blkHit ?_
        refine WP.thenC ?_
        refine WC.seq ?_
        refine WC.ofFr [] trivial ?_
        refine WC.region ?_
        refine WL.yd (Yd.assign rfl) rfl ?_
        refine WL.nil ?_
        refine WP.thenC ?_
        refine WC.ret ?_
        refine WP.ret1 rfl rfl Try.results102 (RV.tmp rfl) (fun w1 hI => by
          obtain rfl : j = 2 := by omega
          exact ⟨_, D6, hG, rfl, hX2.trans hX6 (Nat.le_refl _), hI, true, rfl, .inl ⟨rfl, by rw [← onTo_two hok]; exact hSG⟩⟩)

theorem on_g (p : Post) (a1 : Option Addr) (n1 c1 : Nat) (a2 : Option Addr) (n2 c2 : Nat) (q b1 b2 b3 b4 ly : Nat) (St : Nat → Imm → Hp → Prop) (Sp : Imm → Hp → Prop) (w0 : World) (A : List Int) (hv : postB p = true)
    (hSm : ∀ k D1 D2 h, DExt w0 D1 D2 → St k D1 h → St k D2 h)
    (DD : Imm) (hround : ∀ k D' h w', k < A.length → w0.heap.size ≤ w'.heap.size → DExt w0 DD D' → St k D' h → Inv D' h (keys h) w' w' → YieldAt Fence.wide 0 Try.prog ly #[it (gt A k)] w' (RoundN w' D' (keys h) (fun b D'' h' => (b = true ∧ St (k + 1) D'' h') ∨ (b = false ∧ Sp D'' h')))) : ∀ rem, ∀ (l : List Rule) (i : Nat) (m : Int) (k0 : Nat) (a3 : Option Addr) (n3 c3 : Nat) (D : Imm) (w : World) (h0 : Hp), i + rem = p.bathers.length → (0 ≤ m ∧ m ≤ (i : Int)) → PartAt A (onL p rem l i m) k0 → l.length ≤ 8 + i → RulesP p l → w0.heap.size ≤ w.heap.size → DExt w0 DD D → BeachAt D q p (.slice a1 n1 c1) (.slice a2 n2 c2) → PostR D p a1 n1 a2 n2 → D b1 = some (.cells (List.toArray [pt q]) 74 (0, 0)) → D b2 = some (.cells (List.toArray [.func (.yield ly) #[] #[]]) 64 (0, 0)) → D b3 = some (.cells (sidesC p p.bathers.length).toArray 91 (0, 0)) → D b4 = some (.cells (List.toArray [.func (.func 102) #[] #[pt b1, pt b2, pt b3, pt b4]]) 137 (0, 0)) → SlL D 1 (l.map ruleC) a3 n3 → St k0 D h0 → Inv D h0 (keys h0) w w → AltersN Try.prog 102 [.slice a3 n3 c3, nt i, it m, pt b1, pt b2, pt b3, pt b4] w D (keys h0) (fun v D' h' => ∃ b, v = .bool b ∧ ((b = true ∧ St (k0 + (onL p rem l i m).length) D' h') ∨ (b = false ∧ Sp D' h'))) := by
  intro rem
  induction rem with
  | zero => exact on_0 p a1 n1 c1 a2 n2 c2 q b1 b2 b3 b4 ly St Sp w0 A hv hSm DD hround
  | succ rem ih => exact on_s p a1 n1 c1 a2 n2 c2 q b1 b2 b3 b4 ly St Sp w0 A hv hSm DD hround rem ih

end Go.Proofs.Ytkhmmefgllbobaa
namespace Go.Proofs.Ytkhmmefgllbobaa
open Go.W Go.Po

set_option maxRecDepth 100000 in
set_option maxHeartbeats 1000000 in
theorem broke1_iter (p : Post) (a1 : Option Addr) (n1 c1 : Nat) (a2 : Option Addr) (n2 c2 : Nat) (q b1 : Nat) (D : Imm) (w : World) (hB : BeachAt D q p (.slice a1 n1 c1) (.slice a2 n2 c2)) (hR : PostR D p a1 n1 a2 n2) (h1 : D b1 = some (.cells (List.toArray [pt q]) 74 (0, 0))) (hv : postB p = true) (hH : Holds D w) : IterN Try.prog 101 [pt b1] (brokeL p).length (fun k => it (gt (brokeL p) k)) D w := by
  unfold IterN
  intro l St Sp hSm hround h0 hS0 hI0
  obtain rfl := hR.bath.len'
  obtain rfl := hR.claim.len'
  have hl1 := hR.len1
  have hl2 := hR.len2
  have h8 := (post_num hv).2.2.1
  unfold AltersN
  refine enter Try.func101 rfl 14 Try.ntmps101 (Nat.le_of_ble_eq_true rfl) hI0 ?_
  refine WC.seq ?_
  refine WC.ofFr [(0, _), (1, _)] ⟨rfl, rfl, trivial⟩ ?_
  refine WC.region ?_
  refine WL.so (SO.box rfl rfl) rfl ?_
  rintro _ _ _ ⟨b2, hb2, rfl, rfl, rfl⟩ -- NEW
  refine WL.nil ?_
  refine WP.thenC ?_
  refine WC.seq ?_
  refine WC.ofFr [(2, _), (1, _)] ⟨rfl, rfl, trivial⟩ ?_
  refine WC.region ?_
  refine WL.yd (Yd.load1 Try.isAgg74 rfl (by first | exact Rd.own (k := 0) rfl rfl | exact Rd.own (k := 1) rfl rfl | exact (Rd.imm h1 rfl) | exact (Rd.imm h4 rfl))) rfl ?_
  refine WL.so (SO.callP Try.call61 rfl (fun w hI => sides_g p a1 _ c1 a2 _ c2 q D _ hB hR hI.imm hv)) rfl ?_
  rintro _ _ _ ⟨rfl, rfl, rfl⟩
  refine WL.so (SO.alloc (cs := sidesC p 0) Try.zeroValue91 rfl) rfl ?_
  rintro _ _ _ ⟨b3, hb3, rfl, rfl, rfl⟩
  refine WL.so (SO.store 0 rfl Try.sizeOf91 rfl rfl rfl (by rw [sidesC_len]) (by simp only [sidesC_len]; omega) (sidesC_one p _)) rfl ?_
  rintro _ _ _ ⟨rfl, rfl, rfl⟩
  rw [splice_whole _ _ (by rw [sidesC_len, sidesC_len])]
  refine WL.nil ?_
  refine WP.thenC ?_
  refine WC.seq ?_
  refine WC.ofFr [(3, _), (2, _), (1, _)] ⟨rfl, rfl, rfl, trivial⟩ ?_
  refine WC.region ?_
  refine WL.so (SO.alloc Try.zeroValue137 rfl) rfl ?_
  rintro _ _ _ ⟨b4, hb4, rfl, rfl, rfl⟩ -- NEW
  refine WL.nil ?_
  refine WP.thenC ?_
  refine WC.seq ?_
  refine WC.ofFr [(4, _), (3, _), (2, _), (1, _)] ⟨rfl, rfl, rfl, rfl, trivial⟩ ?_
  refine WC.region ?_
  refine WL.yd (Yd.func rfl rfl) rfl ?_
  refine WL.so (SO.store 0 rfl Try.sizeOf137 rfl rfl rfl rfl (Nat.le_of_ble_eq_true rfl) (oneB_spec rfl)) rfl ?_
  rintro _ _ _ ⟨rfl, rfl, rfl⟩
  refine WL.nil ?_
  refine WP.thenC ?_
  refine WC.freezeK 0 rfl (fun hn4 => ?_)
  refine WC.freezeK 0 rfl (fun hn3 => ?_)
  refine WC.freezeK 0 rfl (fun hn2 => ?_)
  have hX3 : DExt w D (((D.add b4 (.cells (List.toArray [.func (.func 102) #[] #[pt b1, pt b2, pt b3, pt b4]]) 137 (0, 0))).add b3 (.cells (sidesC p p.bathers.length).toArray 91 (0, 0))).add b2 (.cells (List.toArray [.func (.yield l) #[] #[]]) 64 (0, 0))) := (((DExt.refl w D).add hn4 hb4).add hn3 hb3).add hn2 hb2
  have h2 : (((D.add b4 (.cells (List.toArray [.func (.func 102) #[] #[pt b1, pt b2, pt b3, pt b4]]) 137 (0, 0))).add b3 (.cells (sidesC p p.bathers.length).toArray 91 (0, 0))).add b2 (.cells (List.toArray [.func (.yield l) #[] #[]]) 64 (0, 0))) b2 = some (.cells (List.toArray [.func (.yield l) #[] #[]]) 64 (0, 0)) := Imm.add_self _ _ _
  have h3 : (((D.add b4 (.cells (List.toArray [.func (.func 102) #[] #[pt b1, pt b2, pt b3, pt b4]]) 137 (0, 0))).add b3 (.cells (sidesC p p.bathers.length).toArray 91 (0, 0))).add b2 (.cells (List.toArray [.func (.yield l) #[] #[]]) 64 (0, 0))) b3 = some (.cells (sidesC p p.bathers.length).toArray 91 (0, 0)) := ((DExt.refl w _).add hn2 hb2).old _ _ (Imm.add_self _ _ _)
  have h4 : (((D.add b4 (.cells (List.toArray [.func (.func 102) #[] #[pt b1, pt b2, pt b3, pt b4]]) 137 (0, 0))).add b3 (.cells (sidesC p p.bathers.length).toArray 91 (0, 0))).add b2 (.cells (List.toArray [.func (.yield l) #[] #[]]) 64 (0, 0))) b4 = some (.cells (List.toArray [.func (.func 102) #[] #[pt b1, pt b2, pt b3, pt b4]]) 137 (0, 0)) := (((DExt.refl w _).add hn3 hb3).add hn2 hb2).old _ _ (Imm.add_self _ _ _)
  replace h1 := hX3.old _ _ h1
  replace hB := hB.ext hX3
  replace hR := hR.ext hX3
  refine (?_ : WC Try.prog _ _ (((D.add b4 (.cells (List.toArray [.func (.func 102) #[] #[pt b1, pt b2, pt b3, pt b4]]) 137 (0, 0))).add b3 (.cells (sidesC p p.bathers.length).toArray 91 (0, 0))).add b2 (.cells (List.toArray [.func (.yield l) #[] #[]]) 64 (0, 0))) h0 _ _)
  generalize (((D.add b4 (.cells (List.toArray [.func (.func 102) #[] #[pt b1, pt b2, pt b3, pt b4]]) 137 (0, 0))).add b3 (.cells (sidesC p p.bathers.length).toArray 91 (0, 0))).add b2 (.cells (List.toArray [.func (.yield l) #[] #[]]) 64 (0, 0))) = D3 at hX3 h1 h2 h3 h4 hB hR ⊢
  refine WC.ofFr [(4, _), (1, _)] ⟨rfl, rfl, trivial⟩ ?_
  refine WC.drawO [] [(0, true), (1, true), (2, true), (3, false), (4, false), (5, false)] (by kernel_rfl) (by kernel_rfl) QuietPanic.body (fun w hI => Inv.nil hI) ?_
  refine WA.yd rfl (Yd.load1 Try.isAgg137 rfl (by first | exact Rd.own (k := 0) rfl rfl | exact (Rd.imm h1 rfl) | exact (Rd.imm h4 rfl))) rfl ?_
  refine WA.yd rfl (Yd.load1 Try.isAgg74 rfl (by first | exact Rd.own (k := 0) rfl rfl | exact (Rd.imm h1 rfl) | exact (Rd.imm h4 rfl))) rfl ?_
  refine WA.yd rfl (Yd.load1 Try.isAgg74 rfl (by first | exact Rd.own (k := 0) rfl rfl | exact (Rd.imm h1 rfl) | exact (Rd.imm h4 rfl))) rfl ?_
  refine WA.so rfl (SO.callP Try.call64 rfl (fun w hI => every_g p a1 _ c1 a2 _ c2 q _ _ hB hR hI.imm hv)) rfl ?_
  rintro _ _ hz ⟨rfl, rfl, hzz⟩
  rw [hzz]
  refine ⟨fun _ hI => Inv.nil hI, ?_⟩
  refine WA.so rfl (SO.news (Enters.func Try.call63 rfl) (fun w2 hI => rules_w w p a1 _ c1 a2 _ c2 q _ w2 hB hR hI.imm hv (everyS p) hI.keep.size)) rfl ?_
  rintro _ D7 _ ⟨_, hX7, ⟨o, rfl, ho, rfl⟩, rfl⟩
  refine ⟨fun _ hI => (Inv.nil hI).shrink hX7.old, ?_⟩
  refine WA.know 12 (.slice (owAt o) ((selA p (everyS p))).length (owCp o ((selA p (everyS p))).length)) rfl (owV_owL (owL_of ho)) ?_
  refine WA.freezeOw (f := ruleC) (m := 1) ruleC_len h0 [] o 88 ((selA p (everyS p))) rfl ho rfl (fun D9 hX9 hS9 => ?_)
  have hal : ((selA p (everyS p))).length ≤ 8 := by have := selR_len p (everyS p) p.claims.length; unfold selA; omega
  have hX79 := hX7.trans hX9 (Nat.le_refl _)
  have hXF := hX3.trans hX79 (Nat.le_refl _)
  replace h1 := hX79.old _ _ h1
  replace h2 := hX79.old _ _ h2
  replace h3 := hX79.old _ _ h3
  replace h4 := hX79.old _ _ h4
  replace hB := hB.ext hX79
  replace hR := hR.ext hX79
  refine WA.so rfl (SO.altersNS (own := []) (hpc := h0) (fun e he => by rw [List.append_nil]; exact he) (fun hn => by rw [List.append_nil] at hn; exact hn) (Enters.val Try.call102 rfl rfl) (fun w3 hsz hI => on_g p a1 _ c1 a2 _ c2 q b1 b2 b3 b4 l St Sp w (brokeL p) hv hSm D hround p.bathers.length (selA p (everyS p)) 0 0 0 (owAt o) _ _ D9 w3 h0 (by omega) (by omega) ⟨[], [], by simp [brokeL, allR], rfl⟩ (by omega) (selA_in hv _) hsz hXF hB hR h1 h2 h3 h4 hS9 (hSm _ _ _ _ hXF hS0) hI)) rfl ?_
  rintro _ D8 hp8 ⟨_, hX8, ⟨b52, rfl, hK8⟩, rfl⟩
  refine ⟨fun _ hI => (Inv.nil hI).shrink ((hX7.trans hX9 (Nat.le_refl _)).trans hX8 (Nat.le_refl _)).old, ?_⟩
  refine WA.nil ?_
  refine WP.ret0 rfl rfl Try.results101  (fun w1 hI => by
    rcases hK8 with ⟨rfl, hK8⟩ | ⟨rfl, hK8⟩
    · exact ⟨_, D8, hp8, rfl, hXF.trans hX8 (Nat.le_refl _), hI, .inl (by rw [Nat.zero_add] at hK8; exact hK8)⟩
    · exact ⟨_, D8, hp8, rfl, hXF.trans hX8 (Nat.le_refl _), hI, .inr hK8⟩)

set_option maxRecDepth 100000 in
set_option maxHeartbeats 1000000 in
theorem broke_g (q : Nat) (D : Imm) (w : World) (hH : Holds D w) : Makes Try.prog 68 [pt q] w D (fun v D' => ∃ b, v = .func (.func 101) #[] #[pt b] ∧ D' b = some (.cells (List.toArray [pt q]) 74 (0, 0))) := by
  unfold Makes
  refine enter Try.func68 rfl 4 Try.ntmps68 (Nat.le_of_ble_eq_true rfl) (Inv.start hH) ?_
  refine WC.seq ?_
  refine WC.ofFr [(0, _)] ⟨rfl, trivial⟩ ?_
  refine WC.region ?_
  refine WL.so (SO.box rfl rfl) rfl ?_
  rintro _ _ _ ⟨b1, hb1, rfl, rfl, rfl⟩ -- NEW
  refine WL.yd (Yd.assign rfl) rfl ?_
  refine WL.nil ?_
  refine WP.thenC ?_
  refine WC.seq ?_
  refine WC.ofFr [(2, _), (1, _)] ⟨rfl, rfl, trivial⟩ ?_
  refine WC.region ?_
  refine WL.yd (Yd.func rfl rfl) rfl ?_
  refine WL.yd (Yd.assign rfl) rfl ?_
  refine WL.nil ?_
  refine WP.thenC ?_
  refine WC.ret ?_
  refine WP.ret1 rfl rfl Try.results68 (RV.tmp rfl) (fun w1 hI => ⟨_, _, rfl, hI.keep, hI.freeze.imm, (DExt.refl w D).add (hI.apart _ _ (List.mem_of_getElem? (i := 0) rfl)) hb1, b1, rfl, Imm.add_self _ _ _⟩)

end Go.Proofs.Ytkhmmefgllbobaa
namespace Go.Proofs.Ytkhmmefgllbobaa
open Go.W Go.Po

theorem idleM67 (b : Nat) (w : World) : IdleM Try.prog 67 [pt b] w := by
  refine callsDIn_of_wpS Try.func67 rfl fun c₀ cs hu => ?_
  apply wpS_region
  simp [wpOpsS, go_sem, recoverD, hu, Try.ntmps67]
  refine (stopped_nil (pt b) w).mono ?_
  rintro e w' ⟨rfl, hk⟩
  cases c₀
  simp only at hu
  subst hu
  simp [bodyPostS, results, Try.results67, hk]

theorem idleM70 (b : Nat) (w : World) : IdleM Try.prog 70 [pt b] w := by
  refine callsDIn_of_wpS Try.func70 rfl fun c₀ cs hu => ?_
  apply wpS_region
  simp [wpOpsS, go_sem, recoverD, hu, Try.ntmps70]
  refine (stopped_nil (pt b) w).mono ?_
  rintro e w' ⟨rfl, hk⟩
  cases c₀
  simp only at hu
  subst hu
  simp [bodyPostS, results, Try.results70, hk]

set_option maxRecDepth 100000 in
set_option maxHeartbeats 1000000 in
theorem Kept_1 (p : Post) (a1 : Option Addr) (n1 c1 : Nat) (a2 : Option Addr) (n2 c2 : Nat) (D : Imm) (w : World) (hR : PostR D p a1 n1 a2 n2) (hH : Holds D w) (hv : postB p = false) : Gives Try.prog 23 [.agg #[it p.post.lo, it p.post.hi, .slice a1 n1 c1, .slice a2 n2 c2]] w (.tuple #[it (KeptOut p).1, it (KeptOut p).2]) := by
  unfold Gives
  obtain rfl := hR.bath.len'
  obtain rfl := hR.claim.len'
  have hl1 := hR.len1
  have hl2 := hR.len2
  have hE : toldE p true = 1 := by
    unfold toldE
    rw [if_pos hv]
  have hO : KeptOut p = (0, 1) := by unfold KeptOut; rw [if_pos (by rw [hE]; simp), hE]
  refine enterD Try.func23 rfl 29 Try.ntmps23 (Nat.le_of_ble_eq_true rfl) (Inv.start hH) ?_
  refine WC.seq ?_
  refine WC.ofFr [(0, _)] ⟨rfl, trivial⟩ ?_
  refine WC.region ?_
  refine WL.so (SO.box rfl rfl) rfl ?_
  rintro _ _ _ ⟨b1, hb1, rfl, rfl, rfl⟩ -- NEW
  refine WL.yd (Yd.assign rfl) rfl ?_
  refine WL.so (SO.alloc Try.zeroValue30 rfl) rfl ?_
  rintro _ _ _ ⟨b3, hb3, rfl, rfl, rfl⟩ -- NEW
  refine WL.nil ?_
  refine WP.thenC ?_
  refine WC.seq ?_
  refine WC.ofFr [(3, _), (2, _), (1, _)] ⟨rfl, rfl, rfl, trivial⟩ ?_
  refine WC.region ?_
  refine WL.yd (Yd.func rfl rfl) rfl ?_
  refine WL.defer rfl ?_
  refine WL.nil ?_
  refine WP.thenC ?_
  refine WC.seq ?_
  refine WC.ofFr [(3, _), (2, _), (1, _)] ⟨rfl, rfl, rfl, trivial⟩ ?_
  refine WC.region ?_
  refine WL.yd (Yd.loadN Try.isAgg27 Try.sizeOf27 rfl (vs := [_, _, _, _]) rfl (by first | exact RdN.own (k := 0) (n := 4) rfl rfl | exact RdN.own (k := 1) (n := 4) rfl rfl)) rfl ?_
  refine WL.no (SO.fail (Enters.func Try.call49 rfl) (fun w hI => open_1 p a1 _ c1 a2 _ c2 D _ (hR.ext (DExt.refl w D)) hI.imm ([] : List Int) _ _ _ (ints_nil _) (by omega) hv) ?_)
  refine WP.thenPanic ?_
  refine WP.panicD (k := 0) [_, _] [_, _] rfl Try.call67 rfl (fun w hI => catch67 _ _ _ _ _ (hI.own _ _ (List.mem_of_getElem? (i := 0) rfl))) Try.results23 ⟨(RV.tmp rfl), (RV.cell1 Try.isAgg30 rfl (by first | exact Rd.own (k := 0) rfl rfl | exact Rd.own (k := 1) rfl rfl)), trivial⟩ (fun w hI => ⟨congrArg Ending.returned (by rw [hO]; rfl), hI.keep⟩)

set_option maxRecDepth 100000 in
set_option maxHeartbeats 1000000 in
theorem Kept_3 (p : Post) (a1 : Option Addr) (n1 c1 : Nat) (a2 : Option Addr) (n2 c2 : Nat) (D : Imm) (w : World) (hR : PostR D p a1 n1 a2 n2) (hH : Holds D w) (hv : postB p = true) (hok : okA p = false) : Gives Try.prog 23 [.agg #[it p.post.lo, it p.post.hi, .slice a1 n1 c1, .slice a2 n2 c2]] w (.tuple #[it (KeptOut p).1, it (KeptOut p).2]) := by
  unfold Gives
  obtain rfl := hR.bath.len'
  obtain rfl := hR.claim.len'
  have hl1 := hR.len1
  have hl2 := hR.len2
  have hE : toldE p true = 10 := by
    unfold toldE
    rw [if_neg (by rw [hv]; simp), if_neg (by simp), if_pos hok]
  have hw : ([] : List Int).all (whoP p) = true := rfl
  have hO : KeptOut p = (0, 10) := by unfold KeptOut; rw [if_pos (by rw [hE]; simp), hE]
  refine enterD Try.func23 rfl 29 Try.ntmps23 (Nat.le_of_ble_eq_true rfl) (Inv.start hH) ?_
  refine WC.seq ?_
  refine WC.ofFr [(0, _)] ⟨rfl, trivial⟩ ?_
  refine WC.region ?_
  refine WL.so (SO.box rfl rfl) rfl ?_
  rintro _ _ _ ⟨b1, hb1, rfl, rfl, rfl⟩ -- NEW
  refine WL.yd (Yd.assign rfl) rfl ?_
  refine WL.so (SO.alloc Try.zeroValue30 rfl) rfl ?_
  rintro _ _ _ ⟨b3, hb3, rfl, rfl, rfl⟩ -- NEW
  refine WL.nil ?_
  refine WP.thenC ?_
  refine WC.seq ?_
  refine WC.ofFr [(3, _), (2, _), (1, _)] ⟨rfl, rfl, rfl, trivial⟩ ?_
  refine WC.region ?_
  refine WL.yd (Yd.func rfl rfl) rfl ?_
  refine WL.defer rfl ?_
  refine WL.nil ?_
  refine WP.thenC ?_
  refine WC.seq ?_
  refine WC.ofFr [(3, _), (2, _), (1, _)] ⟨rfl, rfl, rfl, trivial⟩ ?_
  refine WC.region ?_
  refine WL.yd (Yd.loadN Try.isAgg27 Try.sizeOf27 rfl (vs := [_, _, _, _]) rfl (by first | exact RdN.own (k := 0) (n := 4) rfl rfl | exact RdN.own (k := 1) (n := 4) rfl rfl)) rfl ?_
  refine WL.so (SO.makes (Enters.func Try.call49 rfl) (fun w hI => open_ok p a1 _ c1 a2 _ c2 D _ (hR.ext (DExt.refl w D)) hI.imm ([] : List Int) _ _ _ (ints_nil _) (by omega) hv hw)) rfl ?_
  rintro _ D2 _ ⟨hX2, ⟨bq, rfl, hB⟩, rfl⟩
  have hX2 := ((DExt.refl w D)).trans hX2 (Nat.le_refl _)
  have hR2 := hR.ext hX2
  refine WL.yd (Yd.assign rfl) rfl ?_
  refine WL.nil ?_
  refine WP.thenC ?_
  refine WC.seq ?_
  refine WC.ofFr [(4, _), (3, _), (2, _)] ⟨rfl, rfl, rfl, trivial⟩ ?_
  refine WC.region ?_
  refine WL.yd (Yd.move rfl) rfl ?_
  refine WL.no (SO.fail (Enters.func Try.call50 rfl) (fun w hI => told_no p a1 _ c1 a2 _ c2 bq D2 _ hB hR2 hI.imm hv hok) ?_)
  refine WP.thenPanic ?_
  refine WP.panicD (k := 0) [_, _] [_, _] rfl Try.call67 rfl (fun w hI => catch67 _ _ _ _ _ (hI.own _ _ (List.mem_of_getElem? (i := 0) rfl))) Try.results23 ⟨(RV.tmp rfl), (RV.cell1 Try.isAgg30 rfl (by first | exact Rd.own (k := 0) rfl rfl | exact Rd.own (k := 1) rfl rfl)), trivial⟩ (fun w hI => ⟨congrArg Ending.returned (by rw [hO]; rfl), hI.keep⟩)

set_option maxRecDepth 100000 in
set_option maxHeartbeats 1000000 in
theorem Kept_ok (p : Post) (a1 : Option Addr) (n1 c1 : Nat) (a2 : Option Addr) (n2 c2 : Nat) (D : Imm) (w : World) (hR : PostR D p a1 n1 a2 n2) (hH : Holds D w) (hv : postB p = true) (hok : okA p = true) : Gives Try.prog 23 [.agg #[it p.post.lo, it p.post.hi, .slice a1 n1 c1, .slice a2 n2 c2]] w (.tuple #[it (KeptOut p).1, it (KeptOut p).2]) := by
  unfold Gives
  obtain rfl := hR.bath.len'
  obtain rfl := hR.claim.len'
  have hl1 := hR.len1
  have hl2 := hR.len2
  have hE : toldE p true = 0 := by
    unfold toldE
    rw [if_neg (by rw [hv]; simp), if_neg (by simp), if_neg (by rw [hok]; simp)]
  have hw : ([] : List Int).all (whoP p) = true := rfl
  have h5 := (post_num hv).2.1
  have h8 := (post_num hv).2.2.1
  have hO : KeptOut p = (gradeI ((brokeL p).any fun m => decide (m = 0)) ((brokeL p).any fun m => decide (0 < m)), 0) := by unfold KeptOut; rw [if_neg (by rw [hE]; simp)]
  refine enterM Try.func23 rfl 29 Try.ntmps23 (Nat.le_of_ble_eq_true rfl) (Inv.start hH) ?_
  refine WC.seq ?_
  refine WC.ofFr [(0, _)] ⟨rfl, trivial⟩ ?_
  refine WC.region ?_
  refine WL.so (SO.box rfl rfl) rfl ?_
  rintro _ _ _ ⟨b1, hb1, rfl, rfl, rfl⟩ -- NEW
  refine WL.yd (Yd.assign rfl) rfl ?_
  refine WL.so (SO.alloc Try.zeroValue30 rfl) rfl ?_
  rintro _ _ _ ⟨b3, hb3, rfl, rfl, rfl⟩ -- NEW
  refine WL.nil ?_
  refine WP.thenC ?_
  refine WC.seq ?_
  refine WC.ofFr [(3, _), (2, _), (1, _)] ⟨rfl, rfl, rfl, trivial⟩ ?_
  refine WC.region ?_
  refine WL.yd (Yd.func rfl rfl) rfl ?_
  refine WL.defer rfl ?_
  refine WL.nil ?_
  refine WP.thenC ?_
  refine WC.seq ?_
  refine WC.ofFr [(3, _), (2, _), (1, _)] ⟨rfl, rfl, rfl, trivial⟩ ?_
  refine WC.region ?_
  refine WL.yd (Yd.loadN Try.isAgg27 Try.sizeOf27 rfl (vs := [_, _, _, _]) rfl (by first | exact RdN.own (k := 0) (n := 4) rfl rfl | exact RdN.own (k := 1) (n := 4) rfl rfl)) rfl ?_
  refine WL.so (SO.makes (Enters.func Try.call49 rfl) (fun w hI => open_ok p a1 _ c1 a2 _ c2 D _ (hR.ext (DExt.refl w D)) hI.imm ([] : List Int) _ _ _ (ints_nil _) (by omega) hv hw)) rfl ?_
  rintro _ D2 _ ⟨hX2, ⟨bq, rfl, hB⟩, rfl⟩
  have hX2 := ((DExt.refl w D)).trans hX2 (Nat.le_refl _)
  have hR2 := hR.ext hX2
  refine WL.yd (Yd.assign rfl) rfl ?_
  refine WL.nil ?_
  refine WP.thenC ?_
  refine WC.seq ?_
  refine WC.ofFr [(4, _), (3, _), (2, _)] ⟨rfl, rfl, rfl, trivial⟩ ?_
  refine WC.region ?_
  refine WL.yd (Yd.move rfl) rfl ?_
  refine WL.so (SO.makes (Enters.func Try.call50 rfl) (fun w hI => told_ok p a1 _ c1 a2 _ c2 bq D2 _ hB hR2 hI.imm hv hok)) rfl ?_
  rintro m3 D3 _ ⟨hX3, hMA, rfl⟩
  replace hB := hB.ext hX3
  replace hR2 := hR2.ext hX3
  refine WL.nil ?_
  refine WP.thenC ?_
  refine WC.seq ?_
  refine WC.ofFr [(4, _), (3, _), (2, _)] ⟨rfl, rfl, rfl, trivial⟩ ?_
  refine WC.region ?_
  refine WL.so (SO.alloc Try.zeroValue4 rfl) rfl ?_
  rintro _ _ _ ⟨b5, hb5, rfl, rfl, rfl⟩ -- NEW
  refine WL.so (SO.alloc Try.zeroValue4 rfl) rfl ?_
  rintro _ _ _ ⟨b6, hb6, rfl, rfl, rfl⟩ -- NEW
  refine WL.so (SO.store 1 rfl Try.sizeOf4 rfl rfl rfl rfl (Nat.le_of_ble_eq_true rfl) (oneB_spec rfl)) rfl ?_
  rintro _ _ _ ⟨rfl, rfl, rfl⟩
  refine WL.so (SO.store 0 rfl Try.sizeOf4 rfl rfl rfl rfl (Nat.le_of_ble_eq_true rfl) (oneB_spec rfl)) rfl ?_
  rintro _ _ _ ⟨rfl, rfl, rfl⟩
  refine WL.nil ?_
  refine WP.thenC ?_
  refine WC.seq ?_
  refine WC.seq ?_
  refine WC.ofFr [(6, _), (5, _), (4, _), (3, _), (2, _)] ⟨rfl, rfl, rfl, rfl, rfl, trivial⟩ ?_
  refine WC.region ?_
  refine WL.yd (Yd.move rfl) rfl ?_
  refine WL.so (SO.makes (Enters.func Try.call68 rfl) (fun w hI => broke_g bq D3 w hI.imm)) rfl ?_
  rintro _ D4 _ ⟨hX4, ⟨b14, rfl, hb14⟩, rfl⟩
  replace hB := hB.ext hX4
  replace hR2 := hR2.ext hX4
  refine WL.nil ?_
  refine WP.thenC ?_
  refine WC.block ?_
  refine WC.ofFr [(4, _), (5, _), (6, _), (3, _), (14, _)] ⟨rfl, rfl, rfl, rfl, rfl, trivial⟩ ?_
  refine WC.rangeIterN (N := (brokeL p).length) (arg := fun k => it (gt (brokeL p) k)) (fun w1 _ hD1 => broke1_iter p a1 _ c1 a2 _ c2 bq b14 D4 w1 hB hR2 hb14 hv hD1) rfl Try.call101 rfl (fun k _ h => h = [(b6, .cells (List.toArray [.bool (((brokeL p).take k).any fun m => decide (0 < m))]) 4 (0, 0)), (b5, .cells (List.toArray [.bool (((brokeL p).take k).any fun m => decide (m = 0))]) 4 (0, 0)), (b3, .cells (List.toArray [it 0]) 30 (0, 0)), (b1, .cells (List.toArray [it p.post.lo, it p.post.hi, .slice a1 p.bathers.length c1, .slice a2 p.claims.length c2]) 27 (0, 0))]) (fun _ _ _ => False) (fun _ _ _ _ _ h => h) rfl ?_ ?_ ?_
  · rintro rec1 l1 Dn0 k D5 _ w1 hrec hk rfl hX5 hsz
    unfold RoundGN
    refine WCF.ofFr [(15, _), (5, _), (6, _), (3, _)] ⟨rfl, rfl, rfl, rfl, trivial⟩ ?_
    refine WCF.region ?_
    refine WLF.yd (by intro _ h; cases h) (Yd.assign rfl) rfl ?_
    refine WLF.nil ?_
    refine WP.iterBegin 0 rfl hrec ?_
    refine WCF.block ?_
    refine WCF.ofFr [(7, _), (5, _), (6, _), (3, _)] ⟨rfl, rfl, rfl, rfl, trivial⟩ ?_
    refine WCF.region ?_
    refine WLF.yd (by intro _ h; cases h) (Yd.load1 Try.isAgg4 rfl (by first | exact Rd.own (k := 0) rfl rfl | exact Rd.own (k := 1) rfl rfl | exact Rd.own (k := 2) rfl rfl | exact Rd.own (k := 3) rfl rfl | exact Rd.own (k := 4) rfl rfl | exact Rd.own (k := 5) rfl rfl)) rfl ?_
    refine WLF.yd (by intro _ h; cases h) (Yd.move rfl) rfl ?_
    refine WLF.part 17 rfl (fun g17 => ?_) (fun g17 => ?_)
    · try simp only [zq1, zq2, zq3, zq4, zq5, zq6, zq7, zq8] at g17
      refine WLF.skip (by intro _ h; cases h) rfl rfl ?_
      refine WLF.skip (by intro _ h; cases h) rfl rfl ?_
      refine WLF.yd (by intro _ h; cases h) (Yd.pickT rfl rfl) rfl ?_
      refine WLF.yd (by intro _ h; cases h) (Yd.load1 Try.isAgg4 rfl (by first | exact Rd.own (k := 0) rfl rfl | exact Rd.own (k := 1) rfl rfl | exact Rd.own (k := 2) rfl rfl | exact Rd.own (k := 3) rfl rfl | exact Rd.own (k := 4) rfl rfl | exact Rd.own (k := 5) rfl rfl)) rfl ?_
      refine WLF.yd (by intro _ h; cases h) (Yd.move rfl) rfl ?_
      refine WLF.part 22 rfl (fun g22 => ?_) (fun g22 => ?_)
      · try simp only [zq1, zq2, zq3, zq4, zq5, zq6, zq7, zq8] at g22
        refine WLF.skip (by intro _ h; cases h) rfl rfl ?_
        refine WLF.skip (by intro _ h; cases h) rfl rfl ?_
        refine WLF.yd (by intro _ h; cases h) (Yd.pickT rfl rfl) rfl ?_
        refine WLF.so (by intro _ h; cases h) (SO.store 3 rfl Try.sizeOf4 rfl rfl rfl rfl (Nat.le_of_ble_eq_true rfl) (oneB_spec rfl)) rfl ?_
        rintro _ _ _ ⟨rfl, rfl, rfl⟩
        refine WLF.so (by intro _ h; cases h) (SO.store 2 rfl Try.sizeOf4 rfl rfl rfl rfl (Nat.le_of_ble_eq_true rfl) (oneB_spec rfl)) rfl ?_
        rintro _ _ _ ⟨rfl, rfl, rfl⟩
        refine WLF.nil ?_
        refine WP.blkNormal ?_
        refine WP.iterOnN hrec (h1 := [_, _, _, _]) (fun _ h => h) (fun h => h) (DExt.refl _ _) ?_
        rw [any_take hk, any_take hk, g17, g22]
        rfl
      · try simp only [zq1, zq2, zq3, zq4, zq5, zq6, zq7, zq8] at g22
        refine WLF.ydg (by intro _ h; cases h) rfl (Yd.move rfl) rfl ?_
        refine WLF.ydg (by intro _ h; cases h) rfl (Yd.gtr rfl rfl) rfl ?_
        refine WLF.yd (by intro _ h; cases h) (Yd.pickF rfl rfl) rfl ?_
        refine WLF.so (by intro _ h; cases h) (SO.store 3 rfl Try.sizeOf4 rfl rfl rfl rfl (Nat.le_of_ble_eq_true rfl) (oneB_spec rfl)) rfl ?_
        rintro _ _ _ ⟨rfl, rfl, rfl⟩
        refine WLF.so (by intro _ h; cases h) (SO.store 2 rfl Try.sizeOf4 rfl rfl rfl rfl (Nat.le_of_ble_eq_true rfl) (oneB_spec rfl)) rfl ?_
        rintro _ _ _ ⟨rfl, rfl, rfl⟩
        refine WLF.nil ?_
        refine WP.blkNormal ?_
        refine WP.iterOnN hrec (h1 := [_, _, _, _]) (fun _ h => h) (fun h => h) (DExt.refl _ _) ?_
        rw [any_take hk, any_take hk, g17, g22]
        rfl
    · try simp only [zq1, zq2, zq3, zq4, zq5, zq6, zq7, zq8] at g17
      refine WLF.ydg (by intro _ h; cases h) rfl (Yd.move rfl) rfl ?_
      refine WLF.ydg (by intro _ h; cases h) rfl (Yd.eql rfl rfl) rfl ?_
      refine WLF.yd (by intro _ h; cases h) (Yd.pickF rfl rfl) rfl ?_
      refine WLF.yd (by intro _ h; cases h) (Yd.load1 Try.isAgg4 rfl (by first | exact Rd.own (k := 0) rfl rfl | exact Rd.own (k := 1) rfl rfl | exact Rd.own (k := 2) rfl rfl | exact Rd.own (k := 3) rfl rfl | exact Rd.own (k := 4) rfl rfl | exact Rd.own (k := 5) rfl rfl)) rfl ?_
      refine WLF.yd (by intro _ h; cases h) (Yd.move rfl) rfl ?_
      refine WLF.part 22 rfl (fun g22 => ?_) (fun g22 => ?_)
      · try simp only [zq1, zq2, zq3, zq4, zq5, zq6, zq7, zq8] at g22
        refine WLF.skip (by intro _ h; cases h) rfl rfl ?_
        refine WLF.skip (by intro _ h; cases h) rfl rfl ?_
        refine WLF.yd (by intro _ h; cases h) (Yd.pickT rfl rfl) rfl ?_
        refine WLF.so (by intro _ h; cases h) (SO.store 3 rfl Try.sizeOf4 rfl rfl rfl rfl (Nat.le_of_ble_eq_true rfl) (oneB_spec rfl)) rfl ?_
        rintro _ _ _ ⟨rfl, rfl, rfl⟩
        refine WLF.so (by intro _ h; cases h) (SO.store 2 rfl Try.sizeOf4 rfl rfl rfl rfl (Nat.le_of_ble_eq_true rfl) (oneB_spec rfl)) rfl ?_
        rintro _ _ _ ⟨rfl, rfl, rfl⟩
        refine WLF.nil ?_
        refine WP.blkNormal ?_
        refine WP.iterOnN hrec (h1 := [_, _, _, _]) (fun _ h => h) (fun h => h) (DExt.refl _ _) ?_
        rw [any_take hk, any_take hk, g17, g22]
        rfl
      · try simp only [zq1, zq2, zq3, zq4, zq5, zq6, zq7, zq8] at g22
        refine WLF.ydg (by intro _ h; cases h) rfl (Yd.move rfl) rfl ?_
        refine WLF.ydg (by intro _ h; cases h) rfl (Yd.gtr rfl rfl) rfl ?_
        refine WLF.yd (by intro _ h; cases h) (Yd.pickF rfl rfl) rfl ?_
        refine WLF.so (by intro _ h; cases h) (SO.store 3 rfl Try.sizeOf4 rfl rfl rfl rfl (Nat.le_of_ble_eq_true rfl) (oneB_spec rfl)) rfl ?_
        rintro _ _ _ ⟨rfl, rfl, rfl⟩
        refine WLF.so (by intro _ h; cases h) (SO.store 2 rfl Try.sizeOf4 rfl rfl rfl rfl (Nat.le_of_ble_eq_true rfl) (oneB_spec rfl)) rfl ?_
        rintro _ _ _ ⟨rfl, rfl, rfl⟩
        refine WLF.nil ?_
        refine WP.blkNormal ?_
        refine WP.iterOnN hrec (h1 := [_, _, _, _]) (fun _ h => h) (fun h => h) (DExt.refl _ _) ?_
        rw [any_take hk, any_take hk, g17, g22]
        rfl
  · rintro Dn1 D6 _ hDn1 hX6 rfl
    rw [List.take_length]
    refine WP.blkNormal ?_
    refine WP.thenC ?_
    refine WC.seq ?_
    refine WC.ofFr [(5, _), (6, _), (3, _)] ⟨rfl, rfl, rfl, trivial⟩ ?_
    refine WC.region ?_
    refine WL.yd (Yd.load1 Try.isAgg4 rfl (by first | exact Rd.own (k := 0) rfl rfl | exact Rd.own (k := 1) rfl rfl | exact Rd.own (k := 2) rfl rfl | exact Rd.own (k := 3) rfl rfl | exact Rd.own (k := 4) rfl rfl)) rfl ?_
    refine WL.yd (Yd.load1 Try.isAgg4 rfl (by first | exact Rd.own (k := 0) rfl rfl | exact Rd.own (k := 1) rfl rfl | exact Rd.own (k := 2) rfl rfl | exact Rd.own (k := 3) rfl rfl | exact Rd.own (k := 4) rfl rfl)) rfl ?_
    refine WL.so (SO.callP Try.call57 rfl (fun w hI => grade_g _ _ _)) rfl ?_
    rintro _ _ _ ⟨rfl, rfl, rfl⟩
    refine WL.yd (Yd.assign rfl) rfl ?_
    refine WL.so (SO.store 3 rfl Try.sizeOf30 rfl rfl rfl rfl (Nat.le_of_ble_eq_true rfl) (oneB_spec rfl)) rfl ?_
    rintro _ _ _ ⟨rfl, rfl, rfl⟩
    refine WL.nil ?_
    refine WP.thenC ?_
    refine WC.ret ?_
    refine WP.retMsD [Dn1] [_, _, _, _] [_, _] [_, _] rfl rfl Try.call67 (fun w hI => idleM67 _ _) (fun _ h => h) (fun h => h) Try.results23 ⟨(RV.tmp rfl), (RV.cell1 Try.isAgg30 rfl (Rd.own (k := 2) rfl rfl)), trivial⟩ (fun w hI => ⟨congrArg Ending.returned (by rw [hO]; rfl), hI.keep⟩)
  · exact fun _ _ _ _ _ _ h => h.elim

theorem Kept_g (p : Post) (a1 : Option Addr) (n1 c1 : Nat) (a2 : Option Addr) (n2 c2 : Nat) (D : Imm) (w : World) (hR : PostR D p a1 n1 a2 n2) (hH : Holds D w) : Gives Try.prog 23 [.agg #[it p.post.lo, it p.post.hi, .slice a1 n1 c1, .slice a2 n2 c2]] w (.tuple #[it (KeptOut p).1, it (KeptOut p).2]) := by
  cases hv : postB p with
  | false => exact Kept_1 p a1 n1 c1 a2 n2 c2 D w hR hH hv
  | true =>
    cases hok : okA p with
    | false => exact Kept_3 p a1 n1 c1 a2 n2 c2 D w hR hH hv hok
    | true => exact Kept_ok p a1 n1 c1 a2 n2 c2 D w hR hH hv hok

end Go.Proofs.Ytkhmmefgllbobaa
namespace Go.Proofs.Ytkhmmefgllbobaa
open Go.W Go.Po

theorem intC_ones : ∀ x : Int, ∀ v ∈ intC x, v.oneCell' = true := fun x v hv => by
  simp only [intC, List.mem_singleton] at hv
  subst hv; rfl

set_option maxRecDepth 100000 in
set_option maxHeartbeats 1000000 in
theorem app_g (gf : Nat) (lb : List Value) (L : List Int) (D : Imm) (w w0 : World) (hs0 : w0.heap.size ≤ w.heap.size) (hL : L.length ≤ 100000) (hit : ∀ w1, w0.heap.size ≤ w1.heap.size → Holds D w1 → IterN Try.prog gf lb L.length (fun k => it (gt L k)) D w1) (hc : ∀ args w, (callFunc gf args).run Try.prog w = .ok (.enter gf args) w) (hH : Holds D w) : News Try.prog 104 [.slice none 0 0, .func (.func gf) #[] lb.toArray] w D (fun v D' hp' => ∃ o, v = owV o L.length ∧ owP w0 o L.length 1 ∧ hp' = owH o 3 (L.flatMap intC) []) := by
  unfold News
  refine enterM Try.func104 rfl 13 Try.ntmps104 (Nat.le_of_ble_eq_true rfl) (Inv.start hH) ?_
  refine WC.seq ?_
  refine WC.ofFr [(0, _), (1, _)] ⟨rfl, rfl, trivial⟩ ?_
  refine WC.region ?_
  refine WL.so (SO.box rfl rfl) rfl ?_
  rintro _ _ _ ⟨b2, hb2, rfl, rfl, rfl⟩ -- NEW
  refine WL.yd (Yd.assign rfl) rfl ?_
  refine WL.nil ?_
  refine WP.thenC ?_
  refine WC.seq ?_
  refine WC.seq ?_
  refine WC.ofFr [(4, _), (2, _), (1, _)] ⟨rfl, rfl, rfl, trivial⟩ ?_
  refine WC.region ?_
  refine WL.yd (Yd.move rfl) rfl ?_
  refine WL.nil ?_
  refine WP.thenC ?_
  refine WC.block ?_
  refine WC.ofFr [(2, _), (6, _)] ⟨rfl, rfl, trivial⟩ ?_
  refine WC.rangeIterN (N := L.length) (arg := fun k => it (gt L k)) (fun w1 hs hD1 => hit w1 (Nat.le_trans hs0 hs) hD1) rfl hc rfl (fun k _ h => ∃ o, owL o k 1 ∧ h = ((b2, .cells (List.toArray [owV o k]) 52 (0, 0)) : Nat × Obj) :: owH o 3 ((L.take k).flatMap intC) []) (fun _ _ _ => False) (fun _ _ _ _ _ h => h) ⟨none, rfl, rfl⟩ ?_ ?_ ?_
  · rintro rec1 l1 Dn0 k D5 _ w1 hrec hk ⟨o, ho, rfl⟩ hX5 hsz
    unfold RoundGN
    refine WCF.ofFr [(7, _), (2, _)] ⟨rfl, rfl, trivial⟩ ?_
    refine WCF.region ?_
    refine WLF.yd (by intro _ h; cases h) (Yd.assign rfl) rfl ?_
    refine WLF.nil ?_
    refine WP.iterBegin 0 rfl hrec ?_
    refine WCF.block ?_
    refine WCF.ofFr [(5, _), (2, _)] ⟨rfl, rfl, trivial⟩ ?_
    refine WCF.region ?_
    refine WLF.yd (by intro _ h; cases h) (Yd.load1 Try.isAgg52 rfl (by first | exact Rd.own (k := 0) rfl rfl | exact Rd.own (k := 1) rfl rfl | exact Rd.own (k := 2) rfl rfl | exact Rd.own (k := 3) rfl rfl | exact (Rd.own (k := 2) rfl rfl) | exact (Rd.own (k := 3) rfl rfl))) rfl ?_
    refine WLF.yd (by intro _ h; cases h) (Yd.move rfl) rfl ?_
    refine WLF.so (by intro _ h; cases h) (SO.buildSlice Try.underlying52 Try.sizeOf3 Try.zeroValue3 rfl rfl rfl rfl (cs := [_]) rfl) rfl ?_
    rintro _ _ _ ⟨b10, hb10, rfl, rfl, rfl⟩ -- NEW
    refine WLF.so (by intro _ h; cases h) (SO.appendL (o := o) (len := k) (n := 1) (xs := (L.take k).flatMap intC) (size := 1) [_] [_, _, _] [] rfl rfl Try.underlying52 Try.sizeOf3 Try.typeInfo3 Try.zeroValue3 rfl rfl rfl rfl ⟨rfl, .inr ⟨_, _, _, rfl, RdN.own (k := 0) (n := 1) rfl rfl⟩⟩ (oneB_spec rfl) ho (by rw [flat_len intC_len, List.length_take]; omega) (by omega) (by show (2 * (_ + _) + 1000) * 8 ≤ 2 ^ 48; omega) (by omega)) rfl ?_
    rintro _ _ _ ⟨u1, hu1, rfl, rfl, rfl⟩
    refine WLF.so (by intro _ h; cases h) (SO.store 2 rfl Try.sizeOf52 rfl rfl rfl rfl (Nat.le_of_ble_eq_true rfl) (oneB_spec rfl)) rfl ?_
    rintro _ _ _ ⟨rfl, rfl, rfl⟩
    refine WLF.nil ?_
    refine WP.blkNormal ?_
    refine WP.iterOnN hrec (h1 := (b2, .cells (List.toArray [owV (some u1) (k + 1)]) 52 (0, 0)) :: owH (some u1) 3 ((L.take k).flatMap intC ++ [it (gt L k)]) []) (fun _ h => h) (fun h => h) (DExt.refl _ _) ⟨some u1, hu1, ?_⟩
    rw [take_flat hk]; rfl
  · rintro Dn1 D6 _ hDn1 hX6 ⟨o, ho, rfl⟩
    rw [List.take_length]
    refine WP.blkNormal ?_
    refine WP.thenC ?_
    refine WC.seq ?_
    refine WC.ofFr [(2, _)] ⟨rfl, trivial⟩ ?_
    refine WC.region ?_
    refine WL.yd (Yd.load1 Try.isAgg52 rfl (by first | exact Rd.own (k := 0) rfl rfl | exact Rd.own (k := 1) rfl rfl | exact Rd.own (k := 2) rfl rfl | exact (Rd.own (k := 2) rfl rfl) | exact (Rd.own (k := 3) rfl rfl))) rfl ?_
    refine WL.yd (Yd.assign rfl) rfl ?_
    refine WL.nil ?_
    refine WP.thenC ?_
    refine WC.ret ?_
    refine WP.retMs [Dn1] (((b2, .cells (List.toArray [owV o L.length]) 52 (0, 0)) : Nat × Obj) :: owH o 3 (L.flatMap intC) []) [_] [_] rfl rfl (fun _ h => h) (fun h => h) Try.results104 ⟨(RV.tmp rfl), trivial⟩ (fun w1 hI => ⟨_, D6, owH o 3 (L.flatMap intC) [], rfl, hX6, hI.drop 1, o, rfl, (by
        cases o with
        | none => exact ho
        | some u => exact ⟨Nat.le_trans hs0 ((hI.may u.b _ (List.mem_cons_of_mem _ List.mem_cons_self)).resolve_left (by simp)), ho⟩), rfl⟩)
  · exact fun _ _ _ _ _ _ h => h.elim

set_option maxRecDepth 100000 in
set_option maxHeartbeats 1000000 in
theorem collect_g (gf : Nat) (lb : List Value) (L : List Int) (D : Imm) (w w0 : World) (hs0 : w0.heap.size ≤ w.heap.size) (hL : L.length ≤ 100000) (hit : ∀ w1, w0.heap.size ≤ w1.heap.size → Holds D w1 → IterN Try.prog gf lb L.length (fun k => it (gt L k)) D w1) (hc : ∀ args w, (callFunc gf args).run Try.prog w = .ok (.enter gf args) w) (hH : Holds D w) : News Try.prog 71 [.func (.func gf) #[] lb.toArray] w D (fun v D' hp' => ∃ o, v = owV o L.length ∧ owP w0 o L.length 1 ∧ hp' = owH o 3 (L.flatMap intC) []) := by
  unfold News
  refine enter Try.func71 rfl 5 Try.ntmps71 (Nat.le_of_ble_eq_true rfl) (Inv.start hH) ?_
  refine WC.seq ?_
  refine WC.ofFr [(0, _)] ⟨rfl, trivial⟩ ?_
  refine WC.region ?_
  refine WL.yd (Yd.assign rfl) rfl ?_
  refine WL.nil ?_
  refine WP.thenC ?_
  refine WC.seq ?_
  refine WC.ofFr [(2, _), (0, _)] ⟨rfl, rfl, trivial⟩ ?_
  refine WC.region ?_
  refine WL.yd (Yd.move rfl) rfl ?_
  refine WL.so (SO.news (Enters.func Try.call104 rfl) (fun w2 hI => app_g gf lb L D w2 w0 (Nat.le_trans hs0 hI.keep.size) hL hit hc hI.imm)) rfl ?_
  rintro _ D2 _ ⟨hp2, hX2, ⟨o, rfl, ho, rfl⟩, rfl⟩
  refine WL.yd (Yd.assign rfl) rfl ?_
  refine WL.nil ?_
  refine WP.thenC ?_
  refine WC.ret ?_
  refine WP.ret1 rfl rfl Try.results71 (RV.tmp rfl) (fun w1 hI => ⟨_, D2, _, rfl, hX2, hI, o, rfl, ho, rfl⟩)

set_option maxRecDepth 100000 in
set_option maxHeartbeats 1000000 in
theorem min_g (l : List Int) (a1 : Option Addr) (n1 c1 : Nat) (D : Imm) (w : World) (hS : SlL D 1 (l.map intC) a1 n1) (hn : 0 < l.length) (hn1 : n1 ≤ 1000) (hH : Holds D w) : Gives Try.prog 72 [.slice a1 n1 c1] w (it (minTo l l.length)) := by
  unfold Gives
  obtain rfl := hS.len'
  refine enter Try.func72 rfl 25 Try.ntmps72 (Nat.le_of_ble_eq_true rfl) (Inv.start hH) ?_
  refine WC.seq ?_
  refine WC.ofFr [(0, _)] ⟨rfl, trivial⟩ ?_
  refine WC.region ?_
  refine WL.yd (Yd.assign rfl) rfl ?_
  refine WL.nil ?_
  refine WP.thenC ?_
  refine WC.seq ?_
  refine WC.seq ?_
  refine WC.ofFr [(2, _), (0, _)] ⟨rfl, rfl, trivial⟩ ?_
  refine WC.region ?_
  refine WL.yd (Yd.move rfl) rfl ?_
  refine WL.yd (Yd.lenS rfl Try.underlying52 rfl) rfl ?_
  refine WL.yd (Yd.lss rfl rfl) rfl ?_
  refine WL.nil ?_
  refine WP.thenC ?_
  refine WC.cond rfl (fun c7 => ?_) (fun c7 => ?_)
  · try simp only [zq1, zq2, zq3, zq4, zq5, zq6, zq7, zq8] at c7
    omega
  · try simp only [zq1, zq2, zq3, zq4, zq5, zq6, zq7, zq8] at c7
    refine WC.skip ?_
    refine WP.thenC ?_
    refine WC.seq ?_
    refine WC.ofFr [(2, _), (0, _)] ⟨rfl, rfl, trivial⟩ ?_
    refine WC.region ?_
    refine WL.yd (Yd.move rfl) rfl ?_
    refine WL.yd (Yd.indexS Try.underlying52 Try.sizeOf3 rfl rfl (by omega) (by omega) (by first | exact hS.addr 0 (by omega) | exact hS.addr k (by omega))) rfl ?_
    refine WL.yd (Yd.load1 Try.isAgg3 rfl (by first | exact ((hS.at 0 (by omega)).rd 0 rfl) | exact ((hS.at k (by omega)).rd 0 rfl))) rfl ?_
    refine WL.yd (Yd.assign rfl) rfl ?_
    refine WL.nil ?_
    refine WP.thenC ?_
    refine WC.seq ?_
    refine WC.seq ?_
    refine WC.ofFr [(3, _), (2, _), (0, _)] ⟨rfl, rfl, rfl, trivial⟩ ?_
    refine WC.region ?_
    refine WL.yd (Yd.assign rfl) rfl ?_
    refine WL.nil ?_
    refine WP.thenC ?_
    refine WC.block ?_
    refine WC.loop (fun k : Nat => [(0, .slice a1 l.length c1), (3, it (minTo l k)), (4, nt k)]) (fun _ => []) (fun _ => D) (fun k => 1 ≤ k ∧ k ≤ l.length) (fun k => l.length - k) 1 ⟨by omega, by omega⟩ (fun a w h => ?_) ?_
    · rw [minTo_one]; exact at_fr h ⟨rfl, rfl, rfl, trivial⟩
    intro k ⟨hk1, hk⟩
    refine WC.seq ?_
    refine WC.seq ?_
    refine WC.ofFr [(0, _), (3, _), (4, _)] ⟨rfl, rfl, rfl, trivial⟩ ?_
    refine WC.region ?_
    refine WL.yd (Yd.move rfl) rfl ?_
    refine WL.yd (Yd.move rfl) rfl ?_
    refine WL.yd (Yd.lenS rfl Try.underlying52 rfl) rfl ?_
    refine WL.yd (Yd.lss rfl rfl) rfl ?_
    refine WL.nil ?_
    refine WP.thenC ?_
    refine WC.cond rfl (fun c15 => ?_) (fun c15 => ?_)
    · try simp only [zq1, zq2, zq3, zq4, zq5, zq6, zq7, zq8] at c15
      refine WC.skip ?_
      refine WP.thenC ?_
      refine WC.seq ?_
      refine WC.block ?_
      refine WC.ofFr [(0, _), (3, _), (4, _)] ⟨rfl, rfl, rfl, trivial⟩ ?_
      refine WC.region ?_
      refine WL.yd (Yd.move rfl) rfl ?_
      refine WL.yd (Yd.move rfl) rfl ?_
      refine WL.yd (Yd.move rfl) rfl ?_
      refine WL.yd (Yd.indexS Try.underlying52 Try.sizeOf3 rfl rfl (by omega) (by omega) (by first | exact hS.addr 0 (by omega) | exact hS.addr k (by omega))) rfl ?_
      refine WL.yd (Yd.load1 Try.isAgg3 rfl (by first | exact ((hS.at 0 (by omega)).rd 0 rfl) | exact ((hS.at k (by omega)).rd 0 rfl))) rfl ?_
      refine WL.yd (Yd.min2 rfl rfl) rfl ?_
      refine WL.yd (Yd.assign rfl) rfl ?_
      refine WL.nil ?_
      refine WP.blkNormal ?_
      refine WP.thenC ?_
      refine WC.ofFr [(3, _), (0, _), (4, _)] ⟨rfl, rfl, rfl, trivial⟩ ?_
      refine WC.region ?_
      refine WL.yd (Yd.move rfl) rfl ?_
      refine WL.yd (Yd.add rfl rfl (wr64 ⟨by omega, by omega⟩)) rfl ?_
      refine WL.yd (Yd.assign rfl) rfl ?_
      refine WL.nil ?_
      exact WP.again (k + 1) ⟨by omega, by omega⟩ (by omega) (fun aa ww h => at_fr h ⟨rfl, rfl, rfl, trivial⟩)
    · try simp only [zq1, zq2, zq3, zq4, zq5, zq6, zq7, zq8] at c15
      refine WC.exit ?_
      refine WP.thenExit ?_
      refine WP.thenExit ?_
      refine WP.blkHit ?_
      refine WP.thenC ?_
      refine WC.seq ?_
      obtain rfl : k = l.length := by omega
      refine WC.ofFr [(3, _)] ⟨rfl, trivial⟩ ?_
      refine WC.region ?_
      refine WL.yd (Yd.move rfl) rfl ?_
      refine WL.yd (Yd.assign rfl) rfl ?_
      refine WL.nil ?_
      refine WP.thenC ?_
      refine WC.ret ?_
      refine WP.ret1 rfl rfl Try.results72 (RV.tmp rfl) (fun w hI => ⟨rfl, hI.keep⟩)

set_option maxRecDepth 100000 in
set_option maxHeartbeats 1000000 in
theorem max_g (l : List Int) (a1 : Option Addr) (n1 c1 : Nat) (D : Imm) (w : World) (hS : SlL D 1 (l.map intC) a1 n1) (hn : 0 < l.length) (hn1 : n1 ≤ 1000) (hH : Holds D w) : Gives Try.prog 73 [.slice a1 n1 c1] w (it (maxTo l l.length)) := by
  unfold Gives
  obtain rfl := hS.len'
  refine enter Try.func73 rfl 25 Try.ntmps73 (Nat.le_of_ble_eq_true rfl) (Inv.start hH) ?_
  refine WC.seq ?_
  refine WC.ofFr [(0, _)] ⟨rfl, trivial⟩ ?_
  refine WC.region ?_
  refine WL.yd (Yd.assign rfl) rfl ?_
  refine WL.nil ?_
  refine WP.thenC ?_
  refine WC.seq ?_
  refine WC.seq ?_
  refine WC.ofFr [(2, _), (0, _)] ⟨rfl, rfl, trivial⟩ ?_
  refine WC.region ?_
  refine WL.yd (Yd.move rfl) rfl ?_
  refine WL.yd (Yd.lenS rfl Try.underlying52 rfl) rfl ?_
  refine WL.yd (Yd.lss rfl rfl) rfl ?_
  refine WL.nil ?_
  refine WP.thenC ?_
  refine WC.cond rfl (fun c7 => ?_) (fun c7 => ?_)
  · try simp only [zq1, zq2, zq3, zq4, zq5, zq6, zq7, zq8] at c7
    omega
  · try simp only [zq1, zq2, zq3, zq4, zq5, zq6, zq7, zq8] at c7
    refine WC.skip ?_
    refine WP.thenC ?_
    refine WC.seq ?_
    refine WC.ofFr [(2, _), (0, _)] ⟨rfl, rfl, trivial⟩ ?_
    refine WC.region ?_
    refine WL.yd (Yd.move rfl) rfl ?_
    refine WL.yd (Yd.indexS Try.underlying52 Try.sizeOf3 rfl rfl (by omega) (by omega) (by first | exact hS.addr 0 (by omega) | exact hS.addr k (by omega))) rfl ?_
    refine WL.yd (Yd.load1 Try.isAgg3 rfl (by first | exact ((hS.at 0 (by omega)).rd 0 rfl) | exact ((hS.at k (by omega)).rd 0 rfl))) rfl ?_
    refine WL.yd (Yd.assign rfl) rfl ?_
    refine WL.nil ?_
    refine WP.thenC ?_
    refine WC.seq ?_
    refine WC.seq ?_
    refine WC.ofFr [(3, _), (2, _), (0, _)] ⟨rfl, rfl, rfl, trivial⟩ ?_
    refine WC.region ?_
    refine WL.yd (Yd.assign rfl) rfl ?_
    refine WL.nil ?_
    refine WP.thenC ?_
    refine WC.block ?_
    refine WC.loop (fun k : Nat => [(0, .slice a1 l.length c1), (3, it (maxTo l k)), (4, nt k)]) (fun _ => []) (fun _ => D) (fun k => 1 ≤ k ∧ k ≤ l.length) (fun k => l.length - k) 1 ⟨by omega, by omega⟩ (fun a w h => ?_) ?_
    · rw [maxTo_one]; exact at_fr h ⟨rfl, rfl, rfl, trivial⟩
    intro k ⟨hk1, hk⟩
    refine WC.seq ?_
    refine WC.seq ?_
    refine WC.ofFr [(0, _), (3, _), (4, _)] ⟨rfl, rfl, rfl, trivial⟩ ?_
    refine WC.region ?_
    refine WL.yd (Yd.move rfl) rfl ?_
    refine WL.yd (Yd.move rfl) rfl ?_
    refine WL.yd (Yd.lenS rfl Try.underlying52 rfl) rfl ?_
    refine WL.yd (Yd.lss rfl rfl) rfl ?_
    refine WL.nil ?_
    refine WP.thenC ?_
    refine WC.cond rfl (fun c15 => ?_) (fun c15 => ?_)
    · try simp only [zq1, zq2, zq3, zq4, zq5, zq6, zq7, zq8] at c15
      refine WC.skip ?_
      refine WP.thenC ?_
      refine WC.seq ?_
      refine WC.block ?_
      refine WC.ofFr [(0, _), (3, _), (4, _)] ⟨rfl, rfl, rfl, trivial⟩ ?_
      refine WC.region ?_
      refine WL.yd (Yd.move rfl) rfl ?_
      refine WL.yd (Yd.move rfl) rfl ?_
      refine WL.yd (Yd.move rfl) rfl ?_
      refine WL.yd (Yd.indexS Try.underlying52 Try.sizeOf3 rfl rfl (by omega) (by omega) (by first | exact hS.addr 0 (by omega) | exact hS.addr k (by omega))) rfl ?_
      refine WL.yd (Yd.load1 Try.isAgg3 rfl (by first | exact ((hS.at 0 (by omega)).rd 0 rfl) | exact ((hS.at k (by omega)).rd 0 rfl))) rfl ?_
      refine WL.yd (Yd.max2 rfl rfl) rfl ?_
      refine WL.yd (Yd.assign rfl) rfl ?_
      refine WL.nil ?_
      refine WP.blkNormal ?_
      refine WP.thenC ?_
      refine WC.ofFr [(3, _), (0, _), (4, _)] ⟨rfl, rfl, rfl, trivial⟩ ?_
      refine WC.region ?_
      refine WL.yd (Yd.move rfl) rfl ?_
      refine WL.yd (Yd.add rfl rfl (wr64 ⟨by omega, by omega⟩)) rfl ?_
      refine WL.yd (Yd.assign rfl) rfl ?_
      refine WL.nil ?_
      exact WP.again (k + 1) ⟨by omega, by omega⟩ (by omega) (fun aa ww h => at_fr h ⟨rfl, rfl, rfl, trivial⟩)
    · try simp only [zq1, zq2, zq3, zq4, zq5, zq6, zq7, zq8] at c15
      refine WC.exit ?_
      refine WP.thenExit ?_
      refine WP.thenExit ?_
      refine WP.blkHit ?_
      refine WP.thenC ?_
      refine WC.seq ?_
      obtain rfl : k = l.length := by omega
      refine WC.ofFr [(3, _)] ⟨rfl, trivial⟩ ?_
      refine WC.region ?_
      refine WL.yd (Yd.move rfl) rfl ?_
      refine WL.yd (Yd.assign rfl) rfl ?_
      refine WL.nil ?_
      refine WP.thenC ?_
      refine WC.ret ?_
      refine WP.ret1 rfl rfl Try.results73 (RV.tmp rfl) (fun w hI => ⟨rfl, hI.keep⟩)

set_option maxRecDepth 100000 in
set_option maxHeartbeats 1000000 in
theorem Fewest_1 (p : Post) (a1 : Option Addr) (n1 c1 : Nat) (a2 : Option Addr) (n2 c2 : Nat) (D : Imm) (w : World) (hR : PostR D p a1 n1 a2 n2) (hH : Holds D w) (hv : postB p = false) : Gives Try.prog 25 [.agg #[it p.post.lo, it p.post.hi, .slice a1 n1 c1, .slice a2 n2 c2]] w (.tuple #[.agg #[it (FewestOut p).1.lo, it (FewestOut p).1.hi], it (FewestOut p).2]) := by
  unfold Gives
  obtain rfl := hR.bath.len'
  obtain rfl := hR.claim.len'
  have hl1 := hR.len1
  have hl2 := hR.len2
  have hE : toldE p true = 1 := by
    unfold toldE
    rw [if_pos hv]
  have hO : FewestOut p = (⟨0, 0⟩, 1) := by unfold FewestOut; rw [if_pos (by rw [hE]; simp), hE]
  refine enterD Try.func25 rfl 19 Try.ntmps25 (Nat.le_of_ble_eq_true rfl) (Inv.start hH) ?_
  refine WC.seq ?_
  refine WC.ofFr [(0, _)] ⟨rfl, trivial⟩ ?_
  refine WC.region ?_
  refine WL.so (SO.box rfl rfl) rfl ?_
  rintro _ _ _ ⟨b1, hb1, rfl, rfl, rfl⟩ -- NEW
  refine WL.so (SO.alloc Try.zeroValue23 rfl) rfl ?_
  rintro _ _ _ ⟨b2, hb2, rfl, rfl, rfl⟩ -- NEW
  refine WL.so (SO.alloc Try.zeroValue30 rfl) rfl ?_
  rintro _ _ _ ⟨b3, hb3, rfl, rfl, rfl⟩ -- NEW
  refine WL.nil ?_
  refine WP.thenC ?_
  refine WC.seq ?_
  refine WC.ofFr [(3, _), (2, _), (1, _)] ⟨rfl, rfl, rfl, trivial⟩ ?_
  refine WC.region ?_
  refine WL.yd (Yd.func rfl rfl) rfl ?_
  refine WL.defer rfl ?_
  refine WL.nil ?_
  refine WP.thenC ?_
  refine WC.seq ?_
  refine WC.ofFr [(3, _), (2, _), (1, _)] ⟨rfl, rfl, rfl, trivial⟩ ?_
  refine WC.region ?_
  refine WL.yd (Yd.loadN Try.isAgg27 Try.sizeOf27 rfl (vs := [_, _, _, _]) rfl (by first | exact RdN.own (k := 0) (n := 4) rfl rfl | exact RdN.own (k := 1) (n := 4) rfl rfl | exact RdN.own (k := 2) (n := 4) rfl rfl)) rfl ?_
  refine WL.no (SO.fail (Enters.func Try.call49 rfl) (fun w hI => open_1 p a1 _ c1 a2 _ c2 D _ (hR.ext (DExt.refl w D)) hI.imm ([] : List Int) _ _ _ (ints_nil _) (by omega) hv) ?_)
  refine WP.thenPanic ?_
  refine WP.panicD (k := 0) [_, _] [_, _] rfl Try.call70 rfl (fun w hI => catch70 _ _ _ _ _ (hI.own _ _ (List.mem_of_getElem? (i := 0) rfl))) Try.results25 ⟨(RV.cellN Try.isAgg23 Try.sizeOf23 rfl (vs := [_, _]) rfl (by first | exact RdN.own (k := 0) (n := 2) rfl rfl | exact RdN.own (k := 1) (n := 2) rfl rfl | exact RdN.own (k := 2) (n := 2) rfl rfl)), (RV.cell1 Try.isAgg30 rfl (by first | exact Rd.own (k := 0) rfl rfl | exact Rd.own (k := 1) rfl rfl | exact Rd.own (k := 2) rfl rfl)), trivial⟩ (fun w hI => ⟨congrArg Ending.returned (by rw [hO]; rfl), hI.keep⟩)

set_option maxRecDepth 100000 in
set_option maxHeartbeats 1000000 in
theorem Fewest_3 (p : Post) (a1 : Option Addr) (n1 c1 : Nat) (a2 : Option Addr) (n2 c2 : Nat) (D : Imm) (w : World) (hR : PostR D p a1 n1 a2 n2) (hH : Holds D w) (hv : postB p = true) (hok : okA p = false) : Gives Try.prog 25 [.agg #[it p.post.lo, it p.post.hi, .slice a1 n1 c1, .slice a2 n2 c2]] w (.tuple #[.agg #[it (FewestOut p).1.lo, it (FewestOut p).1.hi], it (FewestOut p).2]) := by
  unfold Gives
  obtain rfl := hR.bath.len'
  obtain rfl := hR.claim.len'
  have hl1 := hR.len1
  have hl2 := hR.len2
  have hE : toldE p true = 10 := by
    unfold toldE
    rw [if_neg (by rw [hv]; simp), if_neg (by simp), if_pos hok]
  have hw : ([] : List Int).all (whoP p) = true := rfl
  have hO : FewestOut p = (⟨0, 0⟩, 10) := by unfold FewestOut; rw [if_pos (by rw [hE]; simp), hE]
  refine enterD Try.func25 rfl 19 Try.ntmps25 (Nat.le_of_ble_eq_true rfl) (Inv.start hH) ?_
  refine WC.seq ?_
  refine WC.ofFr [(0, _)] ⟨rfl, trivial⟩ ?_
  refine WC.region ?_
  refine WL.so (SO.box rfl rfl) rfl ?_
  rintro _ _ _ ⟨b1, hb1, rfl, rfl, rfl⟩ -- NEW
  refine WL.so (SO.alloc Try.zeroValue23 rfl) rfl ?_
  rintro _ _ _ ⟨b2, hb2, rfl, rfl, rfl⟩ -- NEW
  refine WL.so (SO.alloc Try.zeroValue30 rfl) rfl ?_
  rintro _ _ _ ⟨b3, hb3, rfl, rfl, rfl⟩ -- NEW
  refine WL.nil ?_
  refine WP.thenC ?_
  refine WC.seq ?_
  refine WC.ofFr [(3, _), (2, _), (1, _)] ⟨rfl, rfl, rfl, trivial⟩ ?_
  refine WC.region ?_
  refine WL.yd (Yd.func rfl rfl) rfl ?_
  refine WL.defer rfl ?_
  refine WL.nil ?_
  refine WP.thenC ?_
  refine WC.seq ?_
  refine WC.ofFr [(3, _), (2, _), (1, _)] ⟨rfl, rfl, rfl, trivial⟩ ?_
  refine WC.region ?_
  refine WL.yd (Yd.loadN Try.isAgg27 Try.sizeOf27 rfl (vs := [_, _, _, _]) rfl (by first | exact RdN.own (k := 0) (n := 4) rfl rfl | exact RdN.own (k := 1) (n := 4) rfl rfl | exact RdN.own (k := 2) (n := 4) rfl rfl)) rfl ?_
  refine WL.so (SO.makes (Enters.func Try.call49 rfl) (fun w hI => open_ok p a1 _ c1 a2 _ c2 D _ (hR.ext (DExt.refl w D)) hI.imm ([] : List Int) _ _ _ (ints_nil _) (by omega) hv hw)) rfl ?_
  rintro _ D2 _ ⟨hX2, ⟨bq, rfl, hB⟩, rfl⟩
  have hX2 := ((DExt.refl w D)).trans hX2 (Nat.le_refl _)
  have hR2 := hR.ext hX2
  refine WL.yd (Yd.assign rfl) rfl ?_
  refine WL.nil ?_
  refine WP.thenC ?_
  refine WC.seq ?_
  refine WC.ofFr [(4, _), (3, _), (2, _)] ⟨rfl, rfl, rfl, trivial⟩ ?_
  refine WC.region ?_
  refine WL.yd (Yd.move rfl) rfl ?_
  refine WL.no (SO.fail (Enters.func Try.call50 rfl) (fun w hI => told_no p a1 _ c1 a2 _ c2 bq D2 _ hB hR2 hI.imm hv hok) ?_)
  refine WP.thenPanic ?_
  refine WP.panicD (k := 0) [_, _] [_, _] rfl Try.call70 rfl (fun w hI => catch70 _ _ _ _ _ (hI.own _ _ (List.mem_of_getElem? (i := 0) rfl))) Try.results25 ⟨(RV.cellN Try.isAgg23 Try.sizeOf23 rfl (vs := [_, _]) rfl (by first | exact RdN.own (k := 0) (n := 2) rfl rfl | exact RdN.own (k := 1) (n := 2) rfl rfl | exact RdN.own (k := 2) (n := 2) rfl rfl)), (RV.cell1 Try.isAgg30 rfl (by first | exact Rd.own (k := 0) rfl rfl | exact Rd.own (k := 1) rfl rfl | exact Rd.own (k := 2) rfl rfl)), trivial⟩ (fun w hI => ⟨congrArg Ending.returned (by rw [hO]; rfl), hI.keep⟩)

set_option maxRecDepth 100000 in
set_option maxHeartbeats 1000000 in
theorem Fewest_ok (p : Post) (a1 : Option Addr) (n1 c1 : Nat) (a2 : Option Addr) (n2 c2 : Nat) (D : Imm) (w : World) (hR : PostR D p a1 n1 a2 n2) (hH : Holds D w) (hv : postB p = true) (hok : okA p = true) : Gives Try.prog 25 [.agg #[it p.post.lo, it p.post.hi, .slice a1 n1 c1, .slice a2 n2 c2]] w (.tuple #[.agg #[it (FewestOut p).1.lo, it (FewestOut p).1.hi], it (FewestOut p).2]) := by
  unfold Gives
  obtain rfl := hR.bath.len'
  obtain rfl := hR.claim.len'
  have hl1 := hR.len1
  have hl2 := hR.len2
  have hE : toldE p true = 0 := by
    unfold toldE
    rw [if_neg (by rw [hv]; simp), if_neg (by simp), if_neg (by rw [hok]; simp)]
  have hw : ([] : List Int).all (whoP p) = true := rfl
  have h5 := (post_num hv).2.1
  have h8 := (post_num hv).2.2.1
  have hO : FewestOut p = (⟨minTo (brokeL p) (brokeL p).length, maxTo (brokeL p) (brokeL p).length⟩, 0) := by unfold FewestOut; rw [if_neg (by rw [hE]; simp)]
  refine enterD Try.func25 rfl 19 Try.ntmps25 (Nat.le_of_ble_eq_true rfl) (Inv.start hH) ?_
  refine WC.seq ?_
  refine WC.ofFr [(0, _)] ⟨rfl, trivial⟩ ?_
  refine WC.region ?_
  refine WL.so (SO.box rfl rfl) rfl ?_
  rintro _ _ _ ⟨b1, hb1, rfl, rfl, rfl⟩ -- NEW
  refine WL.so (SO.alloc Try.zeroValue23 rfl) rfl ?_
  rintro _ _ _ ⟨b2, hb2, rfl, rfl, rfl⟩ -- NEW
  refine WL.so (SO.alloc Try.zeroValue30 rfl) rfl ?_
  rintro _ _ _ ⟨b3, hb3, rfl, rfl, rfl⟩ -- NEW
  refine WL.nil ?_
  refine WP.thenC ?_
  refine WC.seq ?_
  refine WC.ofFr [(3, _), (2, _), (1, _)] ⟨rfl, rfl, rfl, trivial⟩ ?_
  refine WC.region ?_
  refine WL.yd (Yd.func rfl rfl) rfl ?_
  refine WL.defer rfl ?_
  refine WL.nil ?_
  refine WP.thenC ?_
  refine WC.seq ?_
  refine WC.ofFr [(3, _), (2, _), (1, _)] ⟨rfl, rfl, rfl, trivial⟩ ?_
  refine WC.region ?_
  refine WL.yd (Yd.loadN Try.isAgg27 Try.sizeOf27 rfl (vs := [_, _, _, _]) rfl (by first | exact RdN.own (k := 0) (n := 4) rfl rfl | exact RdN.own (k := 1) (n := 4) rfl rfl | exact RdN.own (k := 2) (n := 4) rfl rfl)) rfl ?_
  refine WL.so (SO.makes (Enters.func Try.call49 rfl) (fun w hI => open_ok p a1 _ c1 a2 _ c2 D _ (hR.ext (DExt.refl w D)) hI.imm ([] : List Int) _ _ _ (ints_nil _) (by omega) hv hw)) rfl ?_
  rintro _ D2 _ ⟨hX2, ⟨bq, rfl, hB⟩, rfl⟩
  have hX2 := ((DExt.refl w D)).trans hX2 (Nat.le_refl _)
  have hR2 := hR.ext hX2
  refine WL.yd (Yd.assign rfl) rfl ?_
  refine WL.nil ?_
  refine WP.thenC ?_
  refine WC.seq ?_
  refine WC.ofFr [(4, _), (3, _), (2, _)] ⟨rfl, rfl, rfl, trivial⟩ ?_
  refine WC.region ?_
  refine WL.yd (Yd.move rfl) rfl ?_
  refine WL.so (SO.makes (Enters.func Try.call50 rfl) (fun w hI => told_ok p a1 _ c1 a2 _ c2 bq D2 _ hB hR2 hI.imm hv hok)) rfl ?_
  rintro m3 D3 _ ⟨hX3, hMA, rfl⟩
  replace hB := hB.ext hX3
  replace hR2 := hR2.ext hX3
  refine WL.nil ?_
  refine WP.thenC ?_
  refine WC.seq ?_
  refine WC.ofFr [(4, _), (3, _), (2, _)] ⟨rfl, rfl, rfl, trivial⟩ ?_
  refine WC.region ?_
  refine WL.yd (Yd.move rfl) rfl ?_
  refine WL.so (SO.makes (Enters.func Try.call68 rfl) (fun w hI => broke_g bq D3 w hI.imm)) rfl ?_
  rintro _ D4 _ ⟨hX4, ⟨b14, rfl, hb14⟩, rfl⟩
  replace hB := hB.ext hX4
  replace hR2 := hR2.ext hX4
  refine WL.so (SO.news (Enters.func Try.call71 rfl) (fun w2 hI => collect_g 101 [pt b14] (brokeL p) D4 w2 w hI.keep.size (by have := brokeL_len hv; omega) (fun w1 _ hD1 => broke1_iter p a1 _ c1 a2 _ c2 bq b14 D4 w1 hB hR2 hb14 hv hD1) Try.call101 hI.imm)) rfl ?_
  rintro _ D5 _ ⟨hp5, hX5, ⟨o, rfl, ho, rfl⟩, rfl⟩
  refine WL.yd (Yd.assign rfl) rfl ?_
  refine WL.nil ?_
  refine WP.thenC ?_
  refine WC.seq ?_
  refine WC.ofFr [(5, _), (3, _), (2, _)] ⟨rfl, rfl, rfl, trivial⟩ ?_
  refine WC.region ?_
  refine WL.know 5 (.slice (owAt o) (brokeL p).length (owCp o (brokeL p).length)) rfl (owV_owL (owL_of ho)) ?_
  refine WL.freezeOw (f := intC) (m := 1) intC_len [_, _, _] [] o 3 (brokeL p) rfl ho rfl (fun D6 hX6 hS6 => ?_)
  refine WL.yd (Yd.move rfl) rfl ?_
  refine WL.so (SO.callP Try.call72 rfl (fun w hI => min_g (brokeL p) (owAt o) _ (owCp o (brokeL p).length) D6 _ hS6 (brokeL_pos hv hok) (by have := brokeL_len hv; omega) hI.imm)) rfl ?_
  rintro _ _ _ ⟨rfl, rfl, rfl⟩
  refine WL.yd (Yd.move rfl) rfl ?_
  refine WL.so (SO.callP Try.call73 rfl (fun w hI => max_g (brokeL p) (owAt o) _ (owCp o (brokeL p).length) D6 _ hS6 (brokeL_pos hv hok) (by have := brokeL_len hv; omega) hI.imm)) rfl ?_
  rintro _ _ _ ⟨rfl, rfl, rfl⟩
  refine WL.yd (Yd.build SA23 rfl (cs := [_, _]) rfl) rfl ?_
  refine WL.so (SO.store 1 rfl Try.sizeOf23 rfl rfl rfl rfl (Nat.le_of_ble_eq_true rfl) (oneB_spec rfl)) rfl ?_
  rintro _ _ _ ⟨rfl, rfl, rfl⟩
  refine WL.so (SO.store 0 rfl Try.sizeOf30 rfl rfl rfl rfl (Nat.le_of_ble_eq_true rfl) (oneB_spec rfl)) rfl ?_
  rintro _ _ _ ⟨rfl, rfl, rfl⟩
  refine WL.nil ?_
  refine WP.thenC ?_
  refine WC.ret ?_
  refine WP.endD [_, _] [_, _] rfl rfl Try.call70 (fun w hI => idle70 _ _) Try.results25 ⟨(RV.cellN Try.isAgg23 Try.sizeOf23 rfl (vs := [_, _]) rfl (by first | exact RdN.own (k := 0) (n := 2) rfl rfl | exact RdN.own (k := 1) (n := 2) rfl rfl | exact RdN.own (k := 2) (n := 2) rfl rfl)), (RV.cell1 Try.isAgg30 rfl (by first | exact Rd.own (k := 0) rfl rfl | exact Rd.own (k := 1) rfl rfl | exact Rd.own (k := 2) rfl rfl)), trivial⟩ (fun w hI => ⟨congrArg Ending.returned (by rw [hO]; rfl), hI.keep⟩)

theorem Fewest_g (p : Post) (a1 : Option Addr) (n1 c1 : Nat) (a2 : Option Addr) (n2 c2 : Nat) (D : Imm) (w : World) (hR : PostR D p a1 n1 a2 n2) (hH : Holds D w) : Gives Try.prog 25 [.agg #[it p.post.lo, it p.post.hi, .slice a1 n1 c1, .slice a2 n2 c2]] w (.tuple #[.agg #[it (FewestOut p).1.lo, it (FewestOut p).1.hi], it (FewestOut p).2]) := by
  cases hv : postB p with
  | false => exact Fewest_1 p a1 n1 c1 a2 n2 c2 D w hR hH hv
  | true =>
    cases hok : okA p with
    | false => exact Fewest_3 p a1 n1 c1 a2 n2 c2 D w hR hH hv hok
    | true => exact Fewest_ok p a1 n1 c1 a2 n2 c2 D w hR hH hv hok

end Go.Proofs.Ytkhmmefgllbobaa
