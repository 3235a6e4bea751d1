import Derived.Test.YtidjdonppfegiaaXI
import Derived.Test.YtidjdonppfegiaaXS
set_option linter.unusedSimpArgs false
set_option linter.unusedVariables false
set_option linter.all false
namespace Go.Proofs.Ytidjdonppfegiaa
open Go.W Go.Dp

set_option maxRecDepth 100000 in
set_option maxHeartbeats 1000000 in
theorem sure_g (d : Dips) (hv : dipsB d = true) (a1 : Option Addr) (n1 c1 : Nat) (a2 : Option Addr) (n2 c2 : Nat) (D : Imm) (w : World) (hR : DipsR D d a1 n1 a2 n2) (hH : Holds D w) : Makes Try.prog 69 [.agg #[it d.hours, .slice a1 n1 c1, .slice a2 n2 c2]] w D (fun v D' => ∃ a n c, v = .slice a n c ∧ PlansM D' (plansR d false) a n ∧ n ≤ 248832) := by
  unfold Makes
  refine enter Try.func69 rfl 5 Try.ntmps69 (Nat.le_of_ble_eq_true rfl) (Inv.start hH) ?_
  refine WC.seq ?_
  refine WC.ofFr [(0, _)] ⟨rfl, trivial⟩ ?_
  refine WC.region ?_
  refine WL.so (SO.box rfl rfl) rfl ?_
  rintro _ _ _ ⟨b1, hb1, rfl, rfl, rfl⟩ -- NEW
  refine WL.yd (Yd.assign rfl) rfl ?_
  refine WL.nil ?_
  refine WP.thenC ?_
  refine WC.seq ?_
  refine WC.ofFr [(2, _), (1, _)] ⟨rfl, rfl, trivial⟩ ?_
  refine WC.region ?_
  refine WL.yd (Yd.loadN Try.isAgg25 Try.sizeOf25 rfl (vs := [_, _, _]) rfl (by first | exact RdN.own (k := 0) (n := 3) rfl rfl)) rfl ?_
  refine WL.so (SO.makes (Enters.func Try.call72 rfl) (fun w hI => plansM_g d false hv a1 _ c1 a2 _ c2 D w hR hI.imm)) rfl ?_
  rintro _ D6 _ ⟨hX6, ⟨a6, n6, c6, rfl, hM6, hk6⟩, rfl⟩
  refine WL.yd (Yd.assign rfl) rfl ?_
  refine WL.nil ?_
  refine WP.thenC ?_
  refine WC.ret ?_
  refine WP.ret1 rfl rfl Try.results69 (RV.tmp rfl) (fun w1 hI => ⟨_, _, rfl, hI.keep, hI.imm, hX6, a6, n6, c6, rfl, hM6, hk6⟩)

set_option maxRecDepth 100000 in
set_option maxHeartbeats 1000000 in
theorem planF_g (d : Dips) (a1 : Option Addr) (n1 c1 : Nat) (a2 : Option Addr) (n2 c2 : Nat) (D : Imm) (w : World) (hR : DipsR D d a1 n1 a2 n2) (hH : Holds D w) : Makes Try.prog 23 [.agg #[it d.hours, .slice a1 n1 c1, .slice a2 n2 c2]] w D (fun v D' => ∃ a n c, v = .tuple #[.slice a n c, it (PlanOut d).2] ∧ PlanR D' (PlanOut d).1 a n) := by
  unfold Makes
  obtain rfl := hR.dip.len'
  obtain rfl := hR.bath.len'
  have hl1 := hR.len1
  have hl2 := hR.len2
  refine enter Try.func23 rfl 19 Try.ntmps23 (Nat.le_of_ble_eq_true rfl) (Inv.start hH) ?_
  refine WC.seq ?_
  refine WC.ofFr [(0, _)] ⟨rfl, trivial⟩ ?_
  refine WC.region ?_
  refine WL.so (SO.box rfl rfl) rfl ?_
  rintro _ _ _ ⟨b1, hb1, rfl, rfl, rfl⟩ -- NEW
  refine WL.yd (Yd.assign rfl) rfl ?_
  refine WL.yd (Yd.assign rfl) rfl ?_
  refine WL.nil ?_
  refine WP.thenC ?_
  refine WC.seq ?_
  refine WC.ofFr [(3, _), (2, _), (1, _)] ⟨rfl, rfl, rfl, trivial⟩ ?_
  refine WC.region ?_
  refine WL.yd (Yd.loadN Try.isAgg25 Try.sizeOf25 rfl (vs := [_, _, _]) rfl (by first | exact RdN.own (k := 0) (n := 3) rfl rfl)) rfl ?_
  refine WL.so (SO.callP Try.call53 rfl (fun w hI => check_g d a1 _ c1 a2 _ c2 D _ hR hI.imm true)) rfl ?_
  rintro _ _ _ ⟨rfl, rfl, rfl⟩
  refine WL.yd (Yd.assign rfl) rfl ?_
  refine WL.nil ?_
  refine WP.thenC ?_
  refine WC.seq ?_
  refine WC.seq ?_
  refine WC.ofFr [(4, _), (3, _), (2, _), (1, _)] ⟨rfl, rfl, rfl, rfl, trivial⟩ ?_
  refine WC.region ?_
  refine WL.yd (Yd.move rfl) rfl ?_
  refine WL.yd (Yd.neq rfl rfl) rfl ?_
  refine WL.nil ?_
  refine WP.thenC ?_
  refine WC.cond rfl (fun c9 => ?_) (fun c9 => ?_)
  · try simp only [zq1, zq2, zq3, zq4, zq5, zq6, zq7, zq8] at c9
    have hv : dipsB d = false := checkR_bad (by simpa using c9)
    have hc1 : checkR d true = 1 := checkR_one hv
    refine WC.seq ?_
    refine WC.ofFr [(4, _), (3, _), (2, _), (1, _)] ⟨rfl, rfl, rfl, rfl, trivial⟩ ?_
    refine WC.region ?_
    refine WL.yd (Yd.move rfl) rfl ?_
    refine WL.yd (Yd.assign rfl) rfl ?_
    refine WL.yd (Yd.assign rfl) rfl ?_
    refine WL.nil ?_
    refine WP.thenC ?_
    refine WC.ret ?_
    refine WP.thenRet ?_
    refine WP.ret2 rfl rfl Try.results23 (RV.tmp rfl) (RV.tmp rfl) (fun w1 hI => ⟨_, _, rfl, hI.keep, hI.imm, DExt.refl _ _, none, 0, 0, by rw [hc1]; simp [PlanOut, hv], by simp only [PlanOut, hv, if_true]; exact PlanR.nil _⟩)
  · try simp only [zq1, zq2, zq3, zq4, zq5, zq6, zq7, zq8] at c9
    have hv : dipsB d = true := (checkR_zero (v := true) (by simpa using c9)).1
    refine WC.skip ?_
    refine WP.thenC ?_
    refine WC.seq ?_
    refine WC.ofFr [(3, _), (2, _), (1, _)] ⟨rfl, rfl, rfl, trivial⟩ ?_
    refine WC.region ?_
    refine WL.yd (Yd.loadN Try.isAgg25 Try.sizeOf25 rfl (vs := [_, _, _]) rfl (by first | exact RdN.own (k := 0) (n := 3) rfl rfl)) rfl ?_
    refine WL.so (SO.makes (Enters.func Try.call69 rfl) (fun w hI => sure_g d hv a1 _ c1 a2 _ c2 D w hR hI.imm)) rfl ?_
    rintro _ D6 _ ⟨hX6, ⟨a6, n6, c6, rfl, hM6, hk6⟩, rfl⟩
    refine WL.yd (Yd.assign rfl) rfl ?_
    refine WL.nil ?_
    refine WP.thenC ?_
    refine WC.seq ?_
    refine WC.seq ?_
    refine WC.ofFr [(5, _), (3, _), (2, _)] ⟨rfl, rfl, rfl, trivial⟩ ?_
    refine WC.region ?_
    refine WL.yd (Yd.move rfl) rfl ?_
    refine WL.yd (Yd.lenS rfl Try.underlying95 rfl) rfl ?_
    refine WL.yd (Yd.eql rfl rfl) rfl ?_
    refine WL.nil ?_
    refine WP.thenC ?_
    refine WC.cond rfl (fun c15 => ?_) (fun c15 => ?_)
    · try simp only [zq1, zq2, zq3, zq4, zq5, zq6, zq7, zq8] at c15
      have hnil : plansR d false = [] := List.length_eq_zero_iff.1 (by have := hM6.len; omega)
      refine WC.seq ?_
      refine WC.ofFr [(5, _), (3, _), (2, _)] ⟨rfl, rfl, rfl, trivial⟩ ?_
      refine WC.region ?_
      refine WL.yd (Yd.assign rfl) rfl ?_
      refine WL.yd (Yd.assign rfl) rfl ?_
      refine WL.nil ?_
      refine WP.thenC ?_
      refine WC.ret ?_
      refine WP.thenRet ?_
      refine WP.ret2 rfl rfl Try.results23 (RV.tmp rfl) (RV.tmp rfl) (fun w1 hI => ⟨_, _, rfl, hI.keep, hI.imm, hX6, none, 0, 0, by rw [PlanOut_nil hv hnil], by rw [PlanOut_nil hv hnil]; exact PlanR.nil _⟩)
    · try simp only [zq1, zq2, zq3, zq4, zq5, zq6, zq7, zq8] at c15
      have hlen6 := hM6.len
      have h06 : 0 < n6 := by omega
      obtain ⟨hadr, a7, n7, c7, hrd, hpl⟩ := hM6.at_ 0 h06
      obtain ⟨l7, r7, hcons⟩ : ∃ l r, plansR d false = l :: r := by
        cases h : plansR d false with
        | nil => rw [h] at hlen6; simp at hlen6; omega
        | cons l r => exact ⟨l, r, rfl⟩
      rw [hcons] at hpl
      refine WC.skip ?_
      refine WP.thenC ?_
      refine WC.seq ?_
      refine WC.ofFr [(5, _), (3, _), (2, _)] ⟨rfl, rfl, rfl, trivial⟩ ?_
      refine WC.region ?_
      refine WL.yd (Yd.move rfl) rfl ?_
      refine WL.yd (Yd.indexS Try.underlying95 Try.sizeOf26 rfl rfl (by omega) (by omega) (by first | exact hadr)) rfl ?_
      refine WL.yd (Yd.load1 Try.isAgg26 rfl (by first | exact Rd.own (k := 0) rfl rfl | exact (hrd.rd 0 rfl))) rfl ?_
      refine WL.yd (Yd.assign rfl) rfl ?_
      refine WL.yd (Yd.assign rfl) rfl ?_
      refine WL.nil ?_
      refine WP.thenC ?_
      refine WC.ret ?_
      refine WP.ret2 rfl rfl Try.results23 (RV.tmp rfl) (RV.tmp rfl) (fun w1 hI => ⟨_, _, rfl, hI.keep, hI.imm, hX6, a7, n7, c7, by rw [PlanOut_cons hv hcons], by rw [PlanOut_cons hv hcons]; exact hpl⟩)

set_option maxRecDepth 100000 in
set_option maxHeartbeats 1000000 in
theorem hopeF_g (d : Dips) (a1 : Option Addr) (n1 c1 : Nat) (a2 : Option Addr) (n2 c2 : Nat) (D : Imm) (w : World) (hR : DipsR D d a1 n1 a2 n2) (hH : Holds D w) : Gives Try.prog 25 [.agg #[it d.hours, .slice a1 n1 c1, .slice a2 n2 c2]] w (.tuple #[it (HopeOut d).1, it (HopeOut d).2]) := by
  unfold Gives
  obtain rfl := hR.dip.len'
  obtain rfl := hR.bath.len'
  have hl1 := hR.len1
  have hl2 := hR.len2
  refine enter Try.func25 rfl 18 Try.ntmps25 (Nat.le_of_ble_eq_true rfl) (Inv.start hH) ?_
  refine WC.seq ?_
  refine WC.ofFr [(0, _)] ⟨rfl, trivial⟩ ?_
  refine WC.region ?_
  refine WL.so (SO.box rfl rfl) rfl ?_
  rintro _ _ _ ⟨b1, hb1, rfl, rfl, rfl⟩ -- NEW
  refine WL.yd (Yd.assign rfl) rfl ?_
  refine WL.yd (Yd.assign rfl) rfl ?_
  refine WL.nil ?_
  refine WP.thenC ?_
  refine WC.seq ?_
  refine WC.ofFr [(3, _), (2, _), (1, _)] ⟨rfl, rfl, rfl, trivial⟩ ?_
  refine WC.region ?_
  refine WL.yd (Yd.loadN Try.isAgg25 Try.sizeOf25 rfl (vs := [_, _, _]) rfl (by first | exact RdN.own (k := 0) (n := 3) rfl rfl)) rfl ?_
  refine WL.so (SO.callP Try.call53 rfl (fun w hI => check_g d a1 _ c1 a2 _ c2 D _ hR hI.imm true)) rfl ?_
  rintro _ _ _ ⟨rfl, rfl, rfl⟩
  refine WL.yd (Yd.assign rfl) rfl ?_
  refine WL.nil ?_
  refine WP.thenC ?_
  refine WC.seq ?_
  refine WC.seq ?_
  refine WC.ofFr [(4, _), (3, _), (2, _), (1, _)] ⟨rfl, rfl, rfl, rfl, trivial⟩ ?_
  refine WC.region ?_
  refine WL.yd (Yd.move rfl) rfl ?_
  refine WL.yd (Yd.neq rfl rfl) rfl ?_
  refine WL.nil ?_
  refine WP.thenC ?_
  refine WC.cond rfl (fun c8 => ?_) (fun c8 => ?_)
  · try simp only [zq1, zq2, zq3, zq4, zq5, zq6, zq7, zq8] at c8
    have hv : dipsB d = false := checkR_bad (by simpa using c8)
    have hc1 : checkR d true = 1 := checkR_one hv
    refine WC.seq ?_
    refine WC.ofFr [(4, _), (3, _), (2, _), (1, _)] ⟨rfl, rfl, rfl, rfl, trivial⟩ ?_
    refine WC.region ?_
    refine WL.yd (Yd.move rfl) rfl ?_
    refine WL.yd (Yd.assign rfl) rfl ?_
    refine WL.yd (Yd.assign rfl) rfl ?_
    refine WL.nil ?_
    refine WP.thenC ?_
    refine WC.ret ?_
    refine WP.thenRet ?_
    refine WP.ret2 rfl rfl Try.results25 (RV.tmp rfl) (RV.tmp rfl) (fun w hI => ⟨congrArg Ending.returned (by rw [hc1]; simp [HopeOut, hv]), hI.keep⟩)
  · try simp only [zq1, zq2, zq3, zq4, zq5, zq6, zq7, zq8] at c8
    have hv : dipsB d = true := (checkR_zero (v := true) (by simpa using c8)).1
    have hi1 := isSome_plans hv false
    have hi2 := isSome_plans hv true
    refine WC.skip ?_
    refine WP.thenC ?_
    refine WC.seq ?_
    refine WC.seq ?_
    refine WC.ofFr [(3, _), (2, _), (1, _)] ⟨rfl, rfl, rfl, trivial⟩ ?_
    refine WC.region ?_
    refine WL.yd (Yd.loadN Try.isAgg25 Try.sizeOf25 rfl (vs := [_, _, _]) rfl (by first | exact RdN.own (k := 0) (n := 3) rfl rfl)) rfl ?_
    refine WL.so (SO.makes (Enters.func Try.call69 rfl) (fun w hI => sure_g d hv a1 _ c1 a2 _ c2 D w hR hI.imm)) rfl ?_
    rintro _ D6 _ ⟨hX6, ⟨a6, n6, c6, rfl, hM6, hk6⟩, rfl⟩
    have hR1 := hR.ext hX6
    have hlen6 := hM6.len
    refine WL.yd (Yd.lenS rfl Try.underlying95 rfl) rfl ?_
    refine WL.yd (Yd.gtr rfl rfl) rfl ?_
    refine WL.nil ?_
    refine WP.thenC ?_
    refine WC.cond rfl (fun c13 => ?_) (fun c13 => ?_)
    · try simp only [zq1, zq2, zq3, zq4, zq5, zq6, zq7, zq8] at c13
      have hs1 : (planP d false).isSome = true := by rw [hi1]; exact decide_eq_true (by omega)
      refine WC.seq ?_
      refine WC.ofFr [(3, _), (2, _), (1, _)] ⟨rfl, rfl, rfl, trivial⟩ ?_
      refine WC.region ?_
      refine WL.yd (Yd.assign rfl) rfl ?_
      refine WL.yd (Yd.assign rfl) rfl ?_
      refine WL.nil ?_
      refine WP.thenC ?_
      refine WC.ret ?_
      refine WP.thenRet ?_
      refine WP.ret2 rfl rfl Try.results25 (RV.tmp rfl) (RV.tmp rfl) (fun w hI => ⟨congrArg Ending.returned (by simp [HopeOut, hv, hs1]), hI.keep⟩)
    · try simp only [zq1, zq2, zq3, zq4, zq5, zq6, zq7, zq8] at c13
      have hs1 : (planP d false).isSome = false := by rw [hi1]; exact decide_eq_false (by omega)
      refine WC.skip ?_
      refine WP.thenC ?_
      refine WC.seq ?_
      refine WC.seq ?_
      refine WC.ofFr [(3, _), (2, _), (1, _)] ⟨rfl, rfl, rfl, trivial⟩ ?_
      refine WC.region ?_
      refine WL.yd (Yd.loadN Try.isAgg25 Try.sizeOf25 rfl (vs := [_, _, _]) rfl (by first | exact RdN.own (k := 0) (n := 3) rfl rfl)) rfl ?_
      refine WL.so (SO.makes (Enters.func Try.call72 rfl) (fun w hI => plansM_g d true hv a1 _ c1 a2 _ c2 _ w hR1 hI.imm)) rfl ?_
      rintro _ D8 _ ⟨hX8, ⟨a8, n8, c8, rfl, hM8, hk8⟩, rfl⟩
      have hlen8 := hM8.len
      refine WL.yd (Yd.lenS rfl Try.underlying95 rfl) rfl ?_
      refine WL.yd (Yd.eql rfl rfl) rfl ?_
      refine WL.nil ?_
      refine WP.thenC ?_
      refine WC.cond rfl (fun c17 => ?_) (fun c17 => ?_)
      · try simp only [zq1, zq2, zq3, zq4, zq5, zq6, zq7, zq8] at c17
        have hs2 : (planP d true).isSome = false := by rw [hi2]; exact decide_eq_false (by omega)
        refine WC.seq ?_
        refine WC.ofFr [(3, _), (2, _)] ⟨rfl, rfl, trivial⟩ ?_
        refine WC.region ?_
        refine WL.yd (Yd.assign rfl) rfl ?_
        refine WL.yd (Yd.assign rfl) rfl ?_
        refine WL.nil ?_
        refine WP.thenC ?_
        refine WC.ret ?_
        refine WP.thenRet ?_
        refine WP.ret2 rfl rfl Try.results25 (RV.tmp rfl) (RV.tmp rfl) (fun w hI => ⟨congrArg Ending.returned (by simp [HopeOut, hv, hs1, hs2]), hI.keep⟩)
      · try simp only [zq1, zq2, zq3, zq4, zq5, zq6, zq7, zq8] at c17
        have hs2 : (planP d true).isSome = true := by rw [hi2]; exact decide_eq_true (by omega)
        refine WC.skip ?_
        refine WP.thenC ?_
        refine WC.seq ?_
        refine WC.ofFr [(3, _), (2, _)] ⟨rfl, rfl, trivial⟩ ?_
        refine WC.region ?_
        refine WL.yd (Yd.assign rfl) rfl ?_
        refine WL.yd (Yd.assign rfl) rfl ?_
        refine WL.nil ?_
        refine WP.thenC ?_
        refine WC.ret ?_
        refine WP.ret2 rfl rfl Try.results25 (RV.tmp rfl) (RV.tmp rfl) (fun w hI => ⟨congrArg Ending.returned (by simp [HopeOut, hv, hs1, hs2]), hI.keep⟩)

end Go.Proofs.Ytidjdonppfegiaa
namespace Go.Proofs.Ytidjdonppfegiaa
open Go.W Go.Dp

theorem owV_one (o : Option Ow) (n : Nat) : (owV o n).oneCell' = true := by cases o <;> rfl
theorem one3 {a b c : Value} (h1 : a.oneCell' = true) (h2 : b.oneCell' = true) (h3 : c.oneCell' = true) : ∀ v ∈ [a, b, c], v.oneCell' = true := fun v hv => by
  simp only [List.mem_cons, List.mem_nil_iff, or_false] at hv
  rcases hv with rfl | rfl | rfl <;> assumption

set_option maxRecDepth 100000 in
set_option maxHeartbeats 1000000 in
theorem only_g (d : Dips) (a1 : Option Addr) (n1 c1 : Nat) (a2 : Option Addr) (n2 c2 : Nat) (D : Imm) (w : World) (hR : DipsR D d a1 n1 a2 n2) (hH : Holds D w) (s : Nat) (hs : s ≤ 1000) (h5 : d.bathers.length ≤ 5) : Makes Try.prog 45 [.agg #[it d.hours, .slice a1 n1 c1, .slice a2 n2 c2], nt s] w D (fun v D' => ∃ a n c, v = .agg #[it d.hours, .slice a1 n1 c1, .slice a n c] ∧ DipsR D' (withB d s) a1 n1 a n) := by
  unfold Makes
  obtain rfl := hR.dip.len'
  obtain rfl := hR.bath.len'
  have hl1 := hR.len1
  have hl2 := hR.len2
  refine enter Try.func45 rfl 33 Try.ntmps45 (Nat.le_of_ble_eq_true rfl) (Inv.start hH) ?_
  refine WC.seq ?_
  refine WC.ofFr [(0, _), (1, _)] ⟨rfl, rfl, trivial⟩ ?_
  refine WC.region ?_
  refine WL.so (SO.box rfl rfl) rfl ?_
  rintro _ _ _ ⟨b2, hb2, rfl, rfl, rfl⟩ -- NEW
  refine WL.so (SO.alloc Try.zeroValue25 rfl) rfl ?_
  rintro _ _ _ ⟨b4, hb4, rfl, rfl, rfl⟩ -- NEW
  refine WL.nil ?_
  refine WP.thenC ?_
  refine WC.seq ?_
  refine WC.ofFr [(4, _), (2, _), (1, _)] ⟨rfl, rfl, rfl, trivial⟩ ?_
  refine WC.region ?_
  refine WL.yd (Yd.fieldAddr FA25_0 rfl) rfl ?_
  refine WL.yd (Yd.load1 Try.isAgg3 rfl (by first | exact Rd.own (k := 0) rfl rfl | exact Rd.own (k := 1) rfl rfl)) rfl ?_
  refine WL.yd (Yd.fieldAddr FA25_1 rfl) rfl ?_
  refine WL.yd (Yd.load1 Try.isAgg22 rfl (by first | exact Rd.own (k := 0) rfl rfl | exact Rd.own (k := 1) rfl rfl)) rfl ?_
  refine WL.yd (Yd.build SA25 rfl (cs := [_, _, _]) rfl) rfl ?_
  refine WL.so (SO.alloc Try.zeroValue25 rfl) rfl ?_
  rintro _ _ _ ⟨b5, hb5, rfl, rfl, rfl⟩ -- NEW
  refine WL.so (SO.store 0 rfl Try.sizeOf25 rfl rfl rfl rfl (Nat.le_of_ble_eq_true rfl) (oneB_spec rfl)) rfl ?_
  rintro _ _ _ ⟨rfl, rfl, rfl⟩
  refine WL.nil ?_
  refine WP.thenC ?_
  refine WC.seq ?_
  refine WC.seq ?_
  refine WC.ofFr [(5, _), (4, _), (2, _), (1, _)] ⟨rfl, rfl, rfl, rfl, trivial⟩ ?_
  refine WC.region ?_
  refine WL.yd (Yd.assign rfl) rfl ?_
  refine WL.nil ?_
  refine WP.thenC ?_
  refine WC.block ?_
  refine WC.loop (fun y : Nat × Option Ow => [(1, nt s), (2, pt b2), (4, pt b4), (5, pt b5), (6, nt y.1)]) (fun y => (b5, .cells (List.toArray [it d.hours, .slice a1 d.dippers.length c1, owV y.2 (bTo d s y.1).length]) 25 (0, 0)) :: (b4, .cells (List.toArray [.int .i64 0, .slice none 0 0, .slice none 0 0]) 25 (0, 0)) :: (b2, .cells (List.toArray [it d.hours, .slice a1 d.dippers.length c1, .slice a2 d.bathers.length c2]) 25 (0, 0)) :: owH y.2 55 (bCs d s y.1) []) (fun _ => D) (fun y => y.1 ≤ d.bathers.length ∧ owP w y.2 (bTo d s y.1).length 3) (fun y => d.bathers.length - y.1) (0, none) ⟨by omega, rfl⟩ (fun a w h => at_fr h ⟨rfl, rfl, rfl, rfl, rfl, trivial⟩) ?_
  rintro ⟨k, o⟩ ⟨hk, ho⟩
  dsimp only at hk ho
  refine WC.seq ?_
  refine WC.seq ?_
  refine WC.ofFr [(1, _), (2, _), (4, _), (5, _), (6, _)] ⟨rfl, rfl, rfl, rfl, rfl, trivial⟩ ?_
  refine WC.region ?_
  refine WL.yd (Yd.move rfl) rfl ?_
  refine WL.yd (Yd.fieldAddr FA25_2 rfl) rfl ?_
  refine WL.yd (Yd.load1 Try.isAgg23 rfl (by first | exact Rd.own (k := 0) rfl rfl | exact Rd.own (k := 1) rfl rfl | exact Rd.own (k := 2) rfl rfl | exact Rd.own (k := 3) rfl rfl)) rfl ?_
  refine WL.yd (Yd.lenS rfl Try.underlying23 rfl) rfl ?_
  refine WL.yd (Yd.lss rfl rfl) rfl ?_
  refine WL.nil ?_
  refine WP.thenC ?_
  refine WC.cond rfl (fun c16 => ?_) (fun c16 => ?_)
  · try simp only [zq1, zq2, zq3, zq4, zq5, zq6, zq7, zq8] at c16
    have hbl := bTo_len d s k
    refine WC.skip ?_
    refine WP.thenC ?_
    refine WC.seq ?_
    refine WC.block ?_
    refine WC.seq ?_
    refine WC.ofFr [(1, _), (2, _), (4, _), (5, _), (6, _)] ⟨rfl, rfl, rfl, rfl, rfl, trivial⟩ ?_
    refine WC.region ?_
    refine WL.yd (Yd.move rfl) rfl ?_
    refine WL.yd (Yd.move rfl) rfl ?_
    refine WL.so (SO.callP Try.call65 rfl (fun w hI => has_g _ _ _ (by omega) (by omega) (by omega))) rfl ?_
    rintro _ _ _ ⟨rfl, rfl, rfl⟩
    refine WL.nil ?_
    refine WP.thenC ?_
    refine WC.cond rfl (fun c21 => ?_) (fun c21 => ?_)
    · try simp only [zq1, zq2, zq3, zq4, zq5, zq6, zq7, zq8] at c21
      have hbit : s / 2 ^ k % 2 = 1 := by rw [hasB_nat] at c21; simpa using c21
      refine WC.ofFr [(1, _), (2, _), (4, _), (5, _), (6, _)] ⟨rfl, rfl, rfl, rfl, rfl, trivial⟩ ?_
      refine WC.drawH [_] (by kernel_rfl) (fun _ hI => hI.pick 2 rfl) ?_
      refine WH.yd (i := 0) (by kernel_rfl) (fun _ o v c a w _ h => (QuietPanic.blk (QuietPanic.then (QuietPanic.then (QuietPanic.blk (QuietPanic.then QuietPanic.body))))) c o.dst v a w h) rfl (Yd.fieldAddr FA25_2 rfl) rfl ?_
      refine WH.yd (i := 2) (by kernel_rfl) (fun _ o v c a w _ h => (QuietPanic.blk (QuietPanic.then (QuietPanic.then (QuietPanic.blk (QuietPanic.then QuietPanic.body))))) c o.dst v a w h) rfl (Yd.fieldAddr FA25_2 rfl) rfl ?_
      refine WH.yd (i := 3) (by kernel_rfl) (fun _ o v c a w _ h => (QuietPanic.blk (QuietPanic.then (QuietPanic.then (QuietPanic.blk (QuietPanic.then QuietPanic.body))))) c o.dst v a w h) rfl (Yd.load1 Try.isAgg23 rfl (by first | exact Rd.own (k := 0) rfl rfl | exact Rd.own (k := 1) rfl rfl | exact Rd.own (k := 2) rfl rfl | exact Rd.own (k := 3) rfl rfl)) rfl ?_
      refine WH.yd (i := 4) (by kernel_rfl) (fun _ o v c a w _ h => (QuietPanic.blk (QuietPanic.then (QuietPanic.then (QuietPanic.blk (QuietPanic.then QuietPanic.body))))) c o.dst v a w h) rfl (Yd.move rfl) rfl ?_
      refine WH.yd (i := 5) (by kernel_rfl) (fun _ o v c a w _ h => (QuietPanic.blk (QuietPanic.then (QuietPanic.then (QuietPanic.blk (QuietPanic.then QuietPanic.body))))) c o.dst v a w h) rfl (Yd.indexS Try.underlying23 Try.sizeOf55 rfl rfl (by omega) (by omega) (by first | exact hR.bath.addr k (by omega))) rfl ?_
      refine WH.yd (i := 6) (by kernel_rfl) (fun _ o v c a w _ h => (QuietPanic.blk (QuietPanic.then (QuietPanic.then (QuietPanic.blk (QuietPanic.then QuietPanic.body))))) c o.dst v a w h) rfl (Yd.loadN Try.isAgg55 Try.sizeOf55 rfl (vs := [_, _, _]) rfl (by first | exact RdN.own (k := 0) (n := 3) rfl rfl | exact RdN.own (k := 1) (n := 3) rfl rfl | exact RdN.own (k := 2) (n := 3) rfl rfl | exact RdN.own (k := 3) (n := 3) rfl rfl | exact (hR.bath.at k (by omega)).rdn 0 3 rfl)) rfl ?_
      refine WH.two (i := 1) (j := 7) (by kernel_rfl) ?_ ?_
      · refine WHo.yd rfl (Yd.load1 Try.isAgg23 rfl (by first | exact Rd.own (k := 0) rfl rfl | exact Rd.own (k := 1) rfl rfl | exact Rd.own (k := 2) rfl rfl | exact Rd.own (k := 3) rfl rfl)) rfl ?_
        refine WH.one (i := 7) (by kernel_rfl) (WHo.so rfl (SO.buildSlice Try.underlying23 Try.sizeOf55 Try.zeroValue55 rfl rfl rfl rfl (cs := [_, _, _]) rfl) rfl ?_)
        rintro _ _ _ ⟨b29, hb29, rfl, rfl, rfl⟩ -- NEW
        refine ⟨(fun _ hI => hI.pick 3 rfl), ?_⟩
        refine WH.one (i := 8) (by kernel_rfl) (WHo.so rfl (SO.appendOw (o := o) (len := (bTo d s k).length) (n := 1) (xs := bCs d s k) (size := 3) [_] [_, _, _] [] rfl rfl Try.underlying23 Try.sizeOf55 Try.typeInfo55 Try.zeroValue55 rfl rfl rfl rfl ⟨rfl, .inr ⟨_, _, _, rfl, RdN.own (k := 0) (n := 3) rfl rfl⟩⟩ (oneB_spec rfl) ho (bCs_len d s k) (by omega) (by show (2 * (_ + _) + 1000) * 24 ≤ 2 ^ 48; omega) (by omega)) rfl ?_)
        rintro _ _ _ ⟨u1, hu1, rfl, rfl, rfl⟩
        refine ⟨(fun _ hI => hI.pick 2 rfl), ?_⟩
        refine WH.yd (i := 9) (by kernel_rfl) (fun _ o v c a w _ h => (QuietPanic.blk (QuietPanic.then (QuietPanic.then (QuietPanic.blk (QuietPanic.then QuietPanic.body))))) c o.dst v a w h) rfl (Yd.fieldAddr FA25_2 rfl) rfl ?_
        refine WH.one (i := 10) (by kernel_rfl) (WHo.so rfl (SO.store 0 rfl Try.sizeOf23 rfl rfl rfl rfl (Nat.le_of_ble_eq_true rfl) (oneB_spec rfl)) rfl ?_)
        rintro _ _ _ ⟨rfl, rfl, rfl⟩
        refine ⟨(fun _ hI => hI.pick 2 rfl), ?_⟩
        refine WH.nil (by kernel_rfl) ?_
        refine WP.blkNormal ?_
        refine WP.thenC ?_
        refine WC.ofFr [(1, _), (2, _), (4, _), (5, _), (6, _)] ⟨rfl, rfl, rfl, rfl, rfl, trivial⟩ ?_
        refine WC.region ?_
        refine WL.yd (Yd.move rfl) rfl ?_
        refine WL.yd (Yd.add rfl rfl (wr64 ⟨by omega, by omega⟩)) rfl ?_
        refine WL.yd (Yd.assign rfl) rfl ?_
        refine WL.nil ?_
        first
          | (have hp1 : bTo d s (k + 1) = bTo d s k ++ [gt d.bathers k] := if_pos hbit
             have hp2 : (bTo d s (k + 1)).length = (bTo d s k).length + 1 := by rw [hp1, List.length_append, List.length_singleton]
             have hp3 : bCs d s (k + 1) = bCs d s k ++ batherC (gt d.bathers k) := by rw [bCs, hp1, List.flatMap_append, List.flatMap_singleton]; rfl
             refine WP.again (⟨k + 1, some u1⟩ : Nat × Option Ow) ⟨by simp only; omega, by simp only; rw [hp2]; exact hu1⟩ (by simp only; omega) (fun aa ww h => ?_)
             show At _ [(1, nt s), (2, pt b2), (4, pt b4), (5, pt b5), (6, nt (k + 1))] D ((b5, .cells (List.toArray [it d.hours, .slice a1 d.dippers.length c1, owV (some u1) (bTo d s (k + 1)).length]) 25 (0, 0)) :: (b4, .cells (List.toArray [.int .i64 0, .slice none 0 0, .slice none 0 0]) 25 (0, 0)) :: (b2, .cells (List.toArray [it d.hours, .slice a1 d.dippers.length c1, .slice a2 d.bathers.length c2]) 25 (0, 0)) :: owH (some u1) 55 (bCs d s (k + 1)) []) aa ww
             rw [hp2, hp3]
             exact at_fr h ⟨rfl, rfl, rfl, rfl, rfl, trivial⟩)
          | (have hp1 : bTo d s (k + 1) = bTo d s k := if_neg hbit
             refine WP.again (⟨k + 1, o⟩ : Nat × Option Ow) ⟨by simp only; omega, by simp only; rw [hp1]; exact ho⟩ (by simp only; omega) (fun aa ww h => ?_)
             show At _ [(1, nt s), (2, pt b2), (4, pt b4), (5, pt b5), (6, nt (k + 1))] D ((b5, .cells (List.toArray [it d.hours, .slice a1 d.dippers.length c1, owV o (bTo d s (k + 1)).length]) 25 (0, 0)) :: (b4, .cells (List.toArray [.int .i64 0, .slice none 0 0, .slice none 0 0]) 25 (0, 0)) :: (b2, .cells (List.toArray [it d.hours, .slice a1 d.dippers.length c1, .slice a2 d.bathers.length c2]) 25 (0, 0)) :: owH o 55 (bCs d s (k + 1)) []) aa ww
             rw [bCs, hp1]
             exact at_fr h ⟨rfl, rfl, rfl, rfl, rfl, trivial⟩)
      · refine WHo.so rfl (SO.buildSlice Try.underlying23 Try.sizeOf55 Try.zeroValue55 rfl rfl rfl rfl (cs := [_, _, _]) rfl) rfl ?_
        rintro _ _ _ ⟨b29, hb29, rfl, rfl, rfl⟩ -- NEW
        refine ⟨(fun _ hI => hI.pick 3 rfl), ?_⟩
        refine WH.one (i := 1) (by kernel_rfl) (WHo.yd rfl (Yd.load1 Try.isAgg23 rfl (by first | exact Rd.own (k := 0) rfl rfl | exact Rd.own (k := 1) rfl rfl | exact Rd.own (k := 2) rfl rfl | exact Rd.own (k := 3) rfl rfl | exact Rd.own (k := 4) rfl rfl)) rfl ?_)
        refine WH.one (i := 8) (by kernel_rfl) (WHo.so rfl (SO.appendOw (o := o) (len := (bTo d s k).length) (n := 1) (xs := bCs d s k) (size := 3) [_] [_, _, _] [] rfl rfl Try.underlying23 Try.sizeOf55 Try.typeInfo55 Try.zeroValue55 rfl rfl rfl rfl ⟨rfl, .inr ⟨_, _, _, rfl, RdN.own (k := 0) (n := 3) rfl rfl⟩⟩ (oneB_spec rfl) ho (bCs_len d s k) (by omega) (by show (2 * (_ + _) + 1000) * 24 ≤ 2 ^ 48; omega) (by omega)) rfl ?_)
        rintro _ _ _ ⟨u1, hu1, rfl, rfl, rfl⟩
        refine ⟨(fun _ hI => hI.pick 2 rfl), ?_⟩
        refine WH.yd (i := 9) (by kernel_rfl) (fun _ o v c a w _ h => (QuietPanic.blk (QuietPanic.then (QuietPanic.then (QuietPanic.blk (QuietPanic.then QuietPanic.body))))) c o.dst v a w h) rfl (Yd.fieldAddr FA25_2 rfl) rfl ?_
        refine WH.one (i := 10) (by kernel_rfl) (WHo.so rfl (SO.store 0 rfl Try.sizeOf23 rfl rfl rfl rfl (Nat.le_of_ble_eq_true rfl) (oneB_spec rfl)) rfl ?_)
        rintro _ _ _ ⟨rfl, rfl, rfl⟩
        refine ⟨(fun _ hI => hI.pick 2 rfl), ?_⟩
        refine WH.nil (by kernel_rfl) ?_
        refine WP.blkNormal ?_
        refine WP.thenC ?_
        refine WC.ofFr [(1, _), (2, _), (4, _), (5, _), (6, _)] ⟨rfl, rfl, rfl, rfl, rfl, trivial⟩ ?_
        refine WC.region ?_
        refine WL.yd (Yd.move rfl) rfl ?_
        refine WL.yd (Yd.add rfl rfl (wr64 ⟨by omega, by omega⟩)) rfl ?_
        refine WL.yd (Yd.assign rfl) rfl ?_
        refine WL.nil ?_
        first
          | (have hp1 : bTo d s (k + 1) = bTo d s k ++ [gt d.bathers k] := if_pos hbit
             have hp2 : (bTo d s (k + 1)).length = (bTo d s k).length + 1 := by rw [hp1, List.length_append, List.length_singleton]
             have hp3 : bCs d s (k + 1) = bCs d s k ++ batherC (gt d.bathers k) := by rw [bCs, hp1, List.flatMap_append, List.flatMap_singleton]; rfl
             refine WP.again (⟨k + 1, some u1⟩ : Nat × Option Ow) ⟨by simp only; omega, by simp only; rw [hp2]; exact hu1⟩ (by simp only; omega) (fun aa ww h => ?_)
             show At _ [(1, nt s), (2, pt b2), (4, pt b4), (5, pt b5), (6, nt (k + 1))] D ((b5, .cells (List.toArray [it d.hours, .slice a1 d.dippers.length c1, owV (some u1) (bTo d s (k + 1)).length]) 25 (0, 0)) :: (b4, .cells (List.toArray [.int .i64 0, .slice none 0 0, .slice none 0 0]) 25 (0, 0)) :: (b2, .cells (List.toArray [it d.hours, .slice a1 d.dippers.length c1, .slice a2 d.bathers.length c2]) 25 (0, 0)) :: owH (some u1) 55 (bCs d s (k + 1)) []) aa ww
             rw [hp2, hp3]
             exact at_fr h ⟨rfl, rfl, rfl, rfl, rfl, trivial⟩)
          | (have hp1 : bTo d s (k + 1) = bTo d s k := if_neg hbit
             refine WP.again (⟨k + 1, o⟩ : Nat × Option Ow) ⟨by simp only; omega, by simp only; rw [hp1]; exact ho⟩ (by simp only; omega) (fun aa ww h => ?_)
             show At _ [(1, nt s), (2, pt b2), (4, pt b4), (5, pt b5), (6, nt (k + 1))] D ((b5, .cells (List.toArray [it d.hours, .slice a1 d.dippers.length c1, owV o (bTo d s (k + 1)).length]) 25 (0, 0)) :: (b4, .cells (List.toArray [.int .i64 0, .slice none 0 0, .slice none 0 0]) 25 (0, 0)) :: (b2, .cells (List.toArray [it d.hours, .slice a1 d.dippers.length c1, .slice a2 d.bathers.length c2]) 25 (0, 0)) :: owH o 55 (bCs d s (k + 1)) []) aa ww
             rw [bCs, hp1]
             exact at_fr h ⟨rfl, rfl, rfl, rfl, rfl, trivial⟩)
    · try simp only [zq1, zq2, zq3, zq4, zq5, zq6, zq7, zq8] at c21
      have hbit : ¬ s / 2 ^ k % 2 = 1 := by rw [hasB_nat] at c21; simpa using c21
      refine WC.skip ?_
      refine WP.blkNormal ?_
      refine WP.thenC ?_
      refine WC.ofFr [(1, _), (2, _), (4, _), (5, _), (6, _)] ⟨rfl, rfl, rfl, rfl, rfl, trivial⟩ ?_
      refine WC.region ?_
      refine WL.yd (Yd.move rfl) rfl ?_
      refine WL.yd (Yd.add rfl rfl (wr64 ⟨by omega, by omega⟩)) rfl ?_
      refine WL.yd (Yd.assign rfl) rfl ?_
      refine WL.nil ?_
      first
        | (have hp1 : bTo d s (k + 1) = bTo d s k ++ [gt d.bathers k] := if_pos hbit
           have hp2 : (bTo d s (k + 1)).length = (bTo d s k).length + 1 := by rw [hp1, List.length_append, List.length_singleton]
           have hp3 : bCs d s (k + 1) = bCs d s k ++ batherC (gt d.bathers k) := by rw [bCs, hp1, List.flatMap_append, List.flatMap_singleton]; rfl
           refine WP.again (⟨k + 1, some u1⟩ : Nat × Option Ow) ⟨by simp only; omega, by simp only; rw [hp2]; exact hu1⟩ (by simp only; omega) (fun aa ww h => ?_)
           show At _ [(1, nt s), (2, pt b2), (4, pt b4), (5, pt b5), (6, nt (k + 1))] D ((b5, .cells (List.toArray [it d.hours, .slice a1 d.dippers.length c1, owV (some u1) (bTo d s (k + 1)).length]) 25 (0, 0)) :: (b4, .cells (List.toArray [.int .i64 0, .slice none 0 0, .slice none 0 0]) 25 (0, 0)) :: (b2, .cells (List.toArray [it d.hours, .slice a1 d.dippers.length c1, .slice a2 d.bathers.length c2]) 25 (0, 0)) :: owH (some u1) 55 (bCs d s (k + 1)) []) aa ww
           rw [hp2, hp3]
           exact at_fr h ⟨rfl, rfl, rfl, rfl, rfl, trivial⟩)
        | (have hp1 : bTo d s (k + 1) = bTo d s k := if_neg hbit
           refine WP.again (⟨k + 1, o⟩ : Nat × Option Ow) ⟨by simp only; omega, by simp only; rw [hp1]; exact ho⟩ (by simp only; omega) (fun aa ww h => ?_)
           show At _ [(1, nt s), (2, pt b2), (4, pt b4), (5, pt b5), (6, nt (k + 1))] D ((b5, .cells (List.toArray [it d.hours, .slice a1 d.dippers.length c1, owV o (bTo d s (k + 1)).length]) 25 (0, 0)) :: (b4, .cells (List.toArray [.int .i64 0, .slice none 0 0, .slice none 0 0]) 25 (0, 0)) :: (b2, .cells (List.toArray [it d.hours, .slice a1 d.dippers.length c1, .slice a2 d.bathers.length c2]) 25 (0, 0)) :: owH o 55 (bCs d s (k + 1)) []) aa ww
           rw [bCs, hp1]
           exact at_fr h ⟨rfl, rfl, rfl, rfl, rfl, trivial⟩)
  · try simp only [zq1, zq2, zq3, zq4, zq5, zq6, zq7, zq8] at c16
    refine WC.exit ?_
    refine WP.thenExit ?_
    refine WP.thenExit ?_
    refine WP.blkHit ?_
    refine WP.thenC ?_
    refine WC.seq ?_
    refine WC.ofFr [(4, _), (5, _)] ⟨rfl, rfl, trivial⟩ ?_
    refine WC.region ?_
    obtain rfl : k = d.bathers.length := by omega
    refine WL.yd (Yd.loadN Try.isAgg25 Try.sizeOf25 rfl (vs := [_, _, _]) rfl (by first | exact RdN.own (k := 0) (n := 3) rfl rfl | exact RdN.own (k := 1) (n := 3) rfl rfl | exact RdN.own (k := 2) (n := 3) rfl rfl | exact RdN.own (k := 3) (n := 3) rfl rfl | exact (hR.bath.at k (by omega)).rdn 0 3 rfl)) rfl ?_
    refine WL.so (SO.store 1 rfl Try.sizeOf25 rfl rfl rfl rfl (Nat.le_of_ble_eq_true rfl) (one3 rfl rfl (owV_one _ _))) rfl ?_
    rintro _ _ _ ⟨rfl, rfl, rfl⟩
    refine WL.nil ?_
    refine WP.thenC ?_
    refine WC.ret ?_
    refine WP.ret1 rfl rfl Try.results45 (RV.cellN Try.isAgg25 Try.sizeOf25 rfl (vs := [_, _, _]) rfl (by first | exact RdN.own (k := 0) (n := 3) rfl rfl | exact RdN.own (k := 1) (n := 3) rfl rfl | exact RdN.own (k := 2) (n := 3) rfl rfl | exact RdN.own (k := 3) (n := 3) rfl rfl | exact (hR.bath.at k (by omega)).rdn 0 3 rfl)) (fun w1 hI => ?_)
    have hf := (hI.tail).tail.tail
    have hv3 := owV_eqN ho
    cases o with
    | none =>
      have h0 : (bTo d s d.bathers.length).length = 0 := ho
      refine ⟨_, D, rfl, hI.keep, hI.imm, DExt.refl _ _, none, (bTo d s d.bathers.length).length, 0, congrArg (fun z => Value.agg #[it d.hours, .slice a1 d.dippers.length c1, z]) hv3, ⟨hR.dip, ⟨by rw [List.length_map]; rfl, fun i r hr => ?_⟩, hR.len1, by omega⟩⟩
      have : (withB d s).bathers = [] := List.length_eq_zero_iff.1 h0
      rw [this] at hr; simp at hr
    | some u =>
      have hf2 := hf.freeze
      have hnu := hf.apart _ _ (List.mem_of_getElem? (i := 0) rfl)
      have hXu := fun o => (DExt.refl w D).add (o := o) hnu ho.1
      exact ⟨_, _, rfl, hI.keep, hf2.imm, hXu _, some ⟨u.b, 0, none⟩, (bTo d s d.bathers.length).length, u.cap, congrArg (fun z => Value.agg #[it d.hours, .slice a1 d.dippers.length c1, z]) hv3, dips_own (hR.dip.ext (hXu _)) hR.len1 h5 (Imm.add_self _ _ _)⟩

def manyW (d : Dips) : Int := max 1 (d.hours * d.dippers.length)
def heavyV (d : Dips) (n1 n2 n3 : Nat) (N : Int) : Bool := decide ((40 : Int) < max (max (n1 : Int) n2) n3) || (dipsB d && decide (N < manyW d ^ d.bathers.length))
theorem manyW_num {d : Dips} (hv : dipsB d = true) : 1 ≤ manyW d ∧ manyW d ≤ 12 := by
  have hn := dips_num hv
  have h1 : (d.dippers.length : Int) ≤ 3 := by omega
  have h2 : d.hours * d.dippers.length ≤ 4 * 3 := Int.mul_le_mul hn.1.2 h1 (by omega) (by omega)
  unfold manyW
  omega
theorem manyW_pow {d : Dips} (hv : dipsB d = true) : ∀ k, k ≤ 5 → 1 ≤ manyW d ^ k ∧ manyW d ^ k ≤ 12 ^ k := by
  have h := manyW_num hv
  intro k
  induction k with
  | zero => intro _; simp
  | succ k ih =>
    intro hk
    obtain ⟨i1, i2⟩ := ih (by omega)
    rw [Int.pow_succ, Int.pow_succ]
    have h1 : manyW d ^ k * 1 ≤ manyW d ^ k * manyW d := Int.mul_le_mul_of_nonneg_left h.1 (by omega)
    have h2 : manyW d ^ k * manyW d ≤ 12 ^ k * 12 := Int.mul_le_mul i2 h.2 (by omega) (by omega)
    omega
theorem pow12 (k : Nat) (hk : k ≤ 5) : (12 : Int) ^ k ≤ 248832 := by
  rcases (show k = 0 ∨ k = 1 ∨ k = 2 ∨ k = 3 ∨ k = 4 ∨ k = 5 by omega) with rfl | rfl | rfl | rfl | rfl | rfl <;> decide
theorem heavy_long {d : Dips} {n1 n2 n3 : Nat} {N : Int} (h : ¬ heavyV d n1 n2 n3 N = true) : ¬ (40 : Int) < max (max (n1 : Int) n2) n3 := fun hh => h (by simp only [heavyV]; rw [decide_eq_true hh]; rfl)

set_option maxRecDepth 100000 in
set_option maxHeartbeats 1000000 in
theorem heavy_g (d : Dips) (a1 : Option Addr) (n1 c1 : Nat) (a2 : Option Addr) (n2 c2 : Nat) (D : Imm) (w : World) (hS1 : SlL D 3 (d.dippers.map dipperC) a1 n1) (hS2 : SlL D 3 (d.bathers.map batherC) a2 n2) (hH : Holds D w) (a3 : Option Addr) (n3 c3 : Nat) (N : Int) : Gives Try.prog 21 [.agg #[it d.hours, .slice a1 n1 c1, .slice a2 n2 c2], .slice a3 n3 c3, it N] w (.bool (heavyV d n1 n2 n3 N)) := by
  unfold Gives
  refine enter Try.func21 rfl 37 Try.ntmps21 (Nat.le_of_ble_eq_true rfl) (Inv.start hH) ?_
  refine WC.seq ?_
  refine WC.ofFr [(0, _), (1, _), (2, _)] ⟨rfl, rfl, rfl, trivial⟩ ?_
  refine WC.region ?_
  refine WL.so (SO.box rfl rfl) rfl ?_
  rintro _ _ _ ⟨b3, hb3, rfl, rfl, rfl⟩ -- NEW
  refine WL.yd (Yd.assign rfl) rfl ?_
  refine WL.nil ?_
  refine WP.thenC ?_
  refine WC.seq ?_
  refine WC.seq ?_
  refine WC.ofFr [(6, _), (3, _), (1, _), (2, _)] ⟨rfl, rfl, rfl, rfl, trivial⟩ ?_
  refine WC.region ?_
  refine WL.yd (Yd.loadN Try.isAgg25 Try.sizeOf25 rfl (vs := [_, _, _]) rfl (by first | exact RdN.own (k := 0) (n := 3) rfl rfl)) rfl ?_
  refine WL.yd (Yd.move rfl) rfl ?_
  refine WL.so (SO.callP Try.call13 rfl (fun w hI => long_g _ _ _ _ _ _ _ _ _ _ _)) rfl ?_
  rintro _ _ _ ⟨rfl, rfl, rfl⟩
  refine WL.yd (Yd.move rfl) rfl ?_
  refine WL.part 11 rfl (fun g11 => ?_) (fun g11 => ?_)
  · try simp only [zq1, zq2, zq3, zq4, zq5, zq6, zq7, zq8] at g11
    have hl1 : (40 : Int) < max (max (n1 : Int) n2) n3 := by simpa using g11
    refine WL.skip rfl rfl ?_
    refine WL.skip rfl rfl ?_
    refine WL.skip rfl rfl ?_
    refine WL.yd (Yd.pickT rfl rfl) rfl ?_
    refine WL.nil ?_
    refine WP.thenC ?_
    refine WC.condT rfl ?_
    refine WC.seq ?_
    refine WC.ofFr [(6, _), (3, _), (1, _), (2, _)] ⟨rfl, rfl, rfl, rfl, trivial⟩ ?_
    refine WC.region ?_
    refine WL.yd (Yd.loadN Try.isAgg25 Try.sizeOf25 rfl (vs := [_, _, _]) rfl (by first | exact RdN.own (k := 0) (n := 3) rfl rfl)) rfl ?_
    refine WL.yd (Yd.move rfl) rfl ?_
    refine WL.so (SO.callP Try.call13 rfl (fun w hI => long_g _ _ _ _ _ _ _ _ _ _ _)) rfl ?_
    rintro _ _ _ ⟨rfl, rfl, rfl⟩
    refine WL.yd (Yd.assign rfl) rfl ?_
    refine WL.nil ?_
    refine WP.thenC ?_
    refine WC.ret ?_
    refine WP.thenRet ?_
    refine WP.ret1 rfl rfl Try.results21 (RV.tmp rfl) (fun w hI => ⟨congrArg Ending.returned (congrArg Value.bool (by simp only [heavyV]; rw [decide_eq_true hl1]; rfl)), hI.keep⟩)
  · try simp only [zq1, zq2, zq3, zq4, zq5, zq6, zq7, zq8] at g11
    have hl0 : ¬ (40 : Int) < max (max (n1 : Int) n2) n3 := by simpa using g11
    have hR : DipsR D d a1 n1 a2 n2 := ⟨hS1, hS2, by omega, by omega⟩
    refine WL.ydg rfl (Yd.loadN Try.isAgg25 Try.sizeOf25 rfl (vs := [_, _, _]) rfl (by first | exact RdN.own (k := 0) (n := 3) rfl rfl)) rfl ?_
    refine WL.sog rfl (SO.callP Try.call36 rfl (fun w hI => dips_g d a1 _ c1 a2 _ c2 D _ hR hI.imm)) rfl ?_
    rintro _ _ _ ⟨rfl, rfl, rfl⟩
    refine WL.ydg rfl (Yd.not rfl) rfl ?_
    refine WL.yd (Yd.pickF rfl rfl) rfl ?_
    refine WL.nil ?_
    refine WP.thenC ?_
    refine WC.cond rfl (fun c15 => ?_) (fun c15 => ?_)
    · try simp only [zq1, zq2, zq3, zq4, zq5, zq6, zq7, zq8] at c15
      have hv : dipsB d = false := by simpa using c15
      refine WC.seq ?_
      refine WC.ofFr [(6, _), (3, _), (1, _), (2, _)] ⟨rfl, rfl, rfl, rfl, trivial⟩ ?_
      refine WC.region ?_
      refine WL.yd (Yd.loadN Try.isAgg25 Try.sizeOf25 rfl (vs := [_, _, _]) rfl (by first | exact RdN.own (k := 0) (n := 3) rfl rfl)) rfl ?_
      refine WL.yd (Yd.move rfl) rfl ?_
      refine WL.so (SO.callP Try.call13 rfl (fun w hI => long_g _ _ _ _ _ _ _ _ _ _ _)) rfl ?_
      rintro _ _ _ ⟨rfl, rfl, rfl⟩
      refine WL.yd (Yd.assign rfl) rfl ?_
      refine WL.nil ?_
      refine WP.thenC ?_
      refine WC.ret ?_
      refine WP.thenRet ?_
      refine WP.ret1 rfl rfl Try.results21 (RV.tmp rfl) (fun w hI => ⟨congrArg Ending.returned (congrArg Value.bool (by simp [heavyV, hv])), hI.keep⟩)
    · try simp only [zq1, zq2, zq3, zq4, zq5, zq6, zq7, zq8] at c15
      have hv : dipsB d = true := by simpa using c15
      have hn1 := hS1.len'
      have hn2 := hS2.len'
      have hnum := dips_num hv
      have hmw := manyW_num hv
      refine WC.skip ?_
      refine WP.thenC ?_
      refine WC.seq ?_
      refine WC.ofFr [(6, _), (3, _), (2, _)] ⟨rfl, rfl, rfl, trivial⟩ ?_
      refine WC.region ?_
      refine WL.yd (Yd.assign rfl) rfl ?_
      refine WL.nil ?_
      refine WP.thenC ?_
      refine WC.seq ?_
      refine WC.seq ?_
      refine WC.ofFr [(7, _), (6, _), (3, _), (2, _)] ⟨rfl, rfl, rfl, rfl, trivial⟩ ?_
      refine WC.region ?_
      refine WL.yd (Yd.fieldAddr FA25_2 rfl) rfl ?_
      refine WL.yd (Yd.load1 Try.isAgg23 rfl (by first | exact Rd.own (k := 0) rfl rfl)) rfl ?_
      refine WL.yd (Yd.lenS rfl Try.underlying23 rfl) rfl ?_
      refine WL.yd (Yd.move rfl) rfl ?_
      refine WL.nil ?_
      refine WP.thenC ?_
      refine WC.block ?_
      refine WC.loopF (fun k : Nat => [(2, it N), (3, pt b3), (7, it (manyW d ^ k)), (21, nt n2), (22, nt k)]) (fun k => k ≤ n2) (fun k => n2 - k) 0 (by omega) (by exact ⟨rfl, rfl, by rw [Int.pow_zero]; rfl, rfl, rfl, trivial⟩) ?_
      intro k hk
      refine WC.seq ?_
      refine WC.ofFr [(2, _), (3, _), (7, _), (21, _), (22, _)] ⟨rfl, rfl, rfl, rfl, rfl, trivial⟩ ?_
      refine WC.region ?_
      refine WL.yd (Yd.lss rfl rfl) rfl ?_
      refine WL.nil ?_
      refine WP.thenC ?_
      refine WC.seq ?_
      refine WC.cond rfl (fun c23 => ?_) (fun c23 => ?_)
      · try simp only [zq1, zq2, zq3, zq4, zq5, zq6, zq7, zq8] at c23
        refine WC.skip ?_
        refine WP.thenC ?_
        refine WC.seq ?_
        refine WC.block ?_
        refine WC.ofFr [(2, _), (3, _), (7, _), (21, _), (22, _)] ⟨rfl, rfl, rfl, rfl, rfl, trivial⟩ ?_
        refine WC.region ?_
        have hp := manyW_pow hv k (by omega)
        have hp12 := pow12 k (by omega)
        have hp2 := manyW_pow hv (k + 1) (by omega)
        have hp122 := pow12 (k + 1) (by omega)
        have hmul : d.hours * (n1 : Int) ≤ 12 := by rw [hn1]; have := hmw.2; unfold manyW at this; omega
        have hmul0 : 0 ≤ d.hours * (n1 : Int) := Int.mul_nonneg (by omega) (by omega)
        have hmw1 : max 1 (d.hours * (n1 : Int)) = manyW d := by rw [hn1]; rfl
        rw [Int.pow_succ] at hp2
        refine WL.yd (Yd.move rfl) rfl ?_
        refine WL.yd (Yd.fieldAddr FA25_0 rfl) rfl ?_
        refine WL.yd (Yd.load1 Try.isAgg3 rfl (by first | exact Rd.own (k := 0) rfl rfl)) rfl ?_
        refine WL.yd (Yd.fieldAddr FA25_1 rfl) rfl ?_
        refine WL.yd (Yd.load1 Try.isAgg22 rfl (by first | exact Rd.own (k := 0) rfl rfl)) rfl ?_
        refine WL.yd (Yd.lenS rfl Try.underlying22 rfl) rfl ?_
        refine WL.yd (Yd.mul rfl rfl (wr64 ⟨by omega, by omega⟩)) rfl ?_
        refine WL.yd (Yd.max2 rfl rfl) rfl ?_
        refine WL.yd (Yd.mul rfl rfl (wr64 ⟨by rw [hmw1]; omega, by rw [hmw1]; omega⟩)) rfl ?_
        refine WL.yd (Yd.assign rfl) rfl ?_
        refine WL.nil ?_
        refine WP.blkNormal ?_
        refine WP.thenC ?_
        refine WC.ofFr [(7, _), (2, _), (3, _), (21, _), (22, _)] ⟨rfl, rfl, rfl, rfl, rfl, trivial⟩ ?_
        refine WC.region ?_
        refine WL.yd (Yd.add rfl rfl (wr64 ⟨by omega, by omega⟩)) rfl ?_
        refine WL.yd (Yd.move rfl) rfl ?_
        refine WL.nil ?_
        exact WP.againF (k + 1) (by omega) (by omega) ⟨rfl, rfl, by rw [Int.pow_succ, ← hmw1]; rfl, rfl, rfl, trivial⟩ (fun _ h => h) (fun h => h)
      · try simp only [zq1, zq2, zq3, zq4, zq5, zq6, zq7, zq8] at c23
        refine WC.exit ?_
        refine WP.thenExit ?_
        refine WP.thenExit ?_
        refine WP.blkHit ?_
        refine WP.thenC ?_
        refine WC.seq ?_
        refine WC.ofFr [(2, _), (7, _)] ⟨rfl, rfl, trivial⟩ ?_
        refine WC.region ?_
        refine WL.yd (Yd.move rfl) rfl ?_
        refine WL.yd (Yd.move rfl) rfl ?_
        refine WL.yd (Yd.gtr rfl rfl) rfl ?_
        refine WL.yd (Yd.assign rfl) rfl ?_
        refine WL.nil ?_
        refine WP.thenC ?_
        refine WC.ret ?_
        refine WP.ret1 rfl rfl Try.results21 (RV.tmp rfl) (fun w hI => ⟨congrArg Ending.returned (congrArg Value.bool (by simp only [heavyV, hv]; rw [decide_eq_false hl0, show k = d.bathers.length by omega]; rfl)), hI.keep⟩)

end Go.Proofs.Ytidjdonppfegiaa
