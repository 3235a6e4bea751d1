import Derived.Test.YtaebnllfmkcpgaaGreatDoorYFF
set_option linter.unusedSimpArgs false
set_option linter.unusedVariables false
set_option linter.all false
set_option maxRecDepth 100000
set_option maxHeartbeats 1000000
namespace Go.Proofs.YtaebnllfmkcpgaaGreatDoor
open Go.W Go.Bk

theorem againX {X : Type} {z : X} {take : X → Nat → Bs → Option X} {is : X → Bool} {put : X → Bs} {s : Bs} {x : X} {c : Int} (h : readX z take is put s = (x, c)) : (c = 0 → is x = true ∧ put x = s ∧ wrO is put x = (s, 0)) ∧ (¬ c = 0 → x = z ∧ c = if 1200 < s.length then 3 else 8) := by
  constructor
  · rintro rfl
    obtain ⟨h1, h2, _⟩ := readX_of h
    exact ⟨h1, h2, by rw [wrO_yes h1, h2]⟩
  · intro e
    have h2 := readX_no (s := s) (z := z) (take := take) (is := is) (put := put) (by rw [h]; exact e)
    rw [h] at h2
    cases h2; exact ⟨rfl, rfl⟩
theorem againH (b : Bs) : ((readH b).2 = 0 → wrH (readH b).1 = (b, 0)) ∧ (¬ (readH b).2 = 0 → (readH b).1 = horsZ) := by
  rcases readH_cases b with ⟨h, e, h1, rfl⟩ | ⟨h0, e⟩ | ⟨h0, h1, e⟩ | ⟨h0, h1, e⟩ <;> rw [e]
  · exact ⟨fun _ => wrH_yes h1, fun h9 => absurd rfl h9⟩
  · exact ⟨fun h9 => absurd h9 h0, fun _ => rfl⟩
  · exact ⟨fun h9 => by simp at h9, fun _ => rfl⟩
  · exact ⟨fun h9 => by simp at h9, fun _ => rfl⟩
def fineB (b : Bs) : Bool := decide (2 ≤ b.length) && b.all fun x => decide (x.toNat < 251)
theorem fine_iff {b : Bs} (h : b.length ≤ 250) : fineB b = true ↔ openE b = 0 := by
  rw [openE_iff]
  simp only [fineB, Bool.and_eq_true, decide_eq_true_eq, List.all_eq_true]
  exact ⟨fun h1 => ⟨h1.1, h, h1.2⟩, fun h1 => ⟨h1.lo, h1.all⟩⟩
theorem readH_long {b : Bs} (h : 250 < b.length) : (readH b).2 = 3 := by
  rcases readH_cases b with ⟨k, e, h1, rfl⟩ | ⟨h0, e⟩ | ⟨h0, _, e⟩ | ⟨h0, _, e⟩
  · have := (book_len (horsB_iff.1 h1)).2; omega
  · rw [e]; rcases openE_val b with h2 | ⟨h2, _⟩ | ⟨_, h2⟩
    · exact absurd h2 h0
    · exact h2
    · omega
  · have := (openE_iff.1 h0).hi; omega
  · have := (openE_iff.1 h0).hi; omega
/-- what is told of a file that is not too long -/
theorem readH_told {b : Bs} (h : b.length ≤ 250) : ((readH b).2 = 10 ↔ fineB b = true ∧ ¬ Rt b) ∧ ((readH b).2 = 0 → fineB b = true ∧ Rt b) ∧ ((readH b).2 = 0 ∨ (readH b).2 = 10 ∨ (readH b).2 = 8) := by
  rcases readH_cases b with ⟨k, e, h1, rfl⟩ | ⟨h0, e⟩ | ⟨h0, h1, e⟩ | ⟨h0, h1, e⟩ <;> rw [e]
  · have hf := (fine_iff h).2 (openE_iff.2 (book_form (horsB_iff.1 h1)))
    exact ⟨⟨fun h9 => by simp at h9, fun h9 => absurd (book_right k) h9.2⟩, fun _ => ⟨hf, book_right k⟩, .inl rfl⟩
  · have h8 : openE b = 8 := by
      rcases openE_val b with h2 | ⟨_, h2⟩ | ⟨h2, _⟩
      · exact absurd h2 h0
      · omega
      · exact h2
    have hn : ¬ fineB b = true := fun h9 => h0 ((fine_iff h).1 h9)
    exact ⟨⟨fun h9 => by simp only [h8] at h9; omega, fun h9 => absurd h9.1 hn⟩, fun h9 => by simp only [h8] at h9; omega, .inr (.inr h8)⟩
  · exact ⟨⟨fun _ => ⟨(fine_iff h).2 h0, h1⟩, fun _ => rfl⟩, fun h9 => by simp at h9, .inr (.inl rfl)⟩
  · exact ⟨⟨fun h9 => by simp at h9, fun h9 => absurd h1 h9.2⟩, fun h9 => by simp at h9, .inr (.inr rfl)⟩
def fineK (b : Bs) (k : Nat) : Bool := decide (2 ≤ b.length) && (b.take k).all fun x => decide (x.toNat < 251)
theorem fineK_succ {b : Bs} {k : Nat} (hk : k < b.length) : fineK b (k + 1) = (fineK b k && decide ((gt b k).toNat < 251)) := by
  unfold fineK
  rw [take_gt hk, List.all_append, Bool.and_assoc]; simp
theorem fineK_all (b : Bs) : fineK b b.length = fineB b := by unfold fineK fineB; rw [List.take_length]

theorem surf0_len {D : Imm} {x : Surf} {m : SurfM} (hR : SurfR D x m) (h : x = surfZ) : m.w.n = 0 ∧ m.v.n = 0 ∧ m.h.n = 0 := by
  subst h
  exact ⟨hR.w.len', hR.v.len', hR.h.len'⟩
theorem flag0_len {D : Imm} {x : Flag} {m : FlagM} (hR : FlagR D x m) (h : x = flagZ) : m.h.n = 0 ∧ m.s.n = 0 := by
  subst h
  exact ⟨hR.h.len', hR.s.len'⟩
theorem boats0_len {D : Imm} {x : Boats} {m : BoatsM} (hR : BoatsR D x m) (h : x = boatsZ) : m.sl.n = 0 := by
  subst h
  have h1 := hR.sl.len'
  have h2 : m.l.length = 0 := hR.len
  omega
theorem hors0_len {D : Imm} {x : Hors} {m : Sl} (hR : HorsR D x m) (h : x = horsZ) : m.n = 0 := by
  subst h
  exact hR.r.len'
theorem told10 {b : Bs} (h : b.length ≤ 250) (hf : fineB b = true) : (!decide (Rt b)) = decide ((readH b).2 = 10) := by
  rw [Bool.eq_iff_iff]
  simp only [Bool.not_eq_true', decide_eq_false_iff_not, decide_eq_true_eq]
  exact ⟨fun h1 => (readH_told h).1.2 ⟨hf, h1⟩, fun h1 => ((readH_told h).1.1 h1).2⟩

set_option maxRecDepth 100000 in
set_option maxHeartbeats 8000000 in
theorem bookAgain_g (s : Bs) (l : Bs) (a : Option Addr) (n c : Nat) (D : Imm) (hL : LibD D) (hS : SlL D 1 (l.map btC) a n) (hc : n ≤ c) (w : World) (hH : Holds D w) : Gives Tryz.prog 10 [st s, .slice a n c] w (.bool true) := by
  unfold Gives
  obtain rfl : n = l.length := hS.len'
  refine enter Tryz.func10 rfl 300 Tryz.ntmps10 (zqb rfl) (Inv.start hH) ?_
  refine WC.seq (WC.ofFr [(0, _), (1, _)] ⟨rfl, rfl, trivial⟩ (WC.region ?_))
  refine zya rfl rfl ?_
  refine WL.nil (WP.thenC (WC.seq (WC.seq (WC.ofFr [(4, _), (0, _), (1, _)] ⟨rfl, rfl, rfl, trivial⟩ (WC.region ?_)))))
  refine zym rfl rfl ?_
  refine WL.yd (Yd.lenStr rfl Tryz.underlying9 rfl) rfl ?_
  refine zym rfl rfl ?_
  refine WL.yd (Yd.lenS rfl Tryz.underlying43 rfl) rfl ?_
  refine WL.yd (Yd.max2 rfl rfl) rfl ?_
  refine WL.yd (Yd.gtr rfl rfl) rfl ?_
  refine WL.nil (WP.thenC ?_)
  refine WC.cond rfl (fun c33 => ?_) (fun c33 => ?_)
  · try simp only [zq1, zq2, zq3, zq4, zq5, zq6, zq7, zq8] at c33
    refine WC.seq (WC.ofFr [(4, _), (0, _), (1, _)] ⟨rfl, rfl, rfl, trivial⟩ (WC.region ?_))
    refine WL.so (SO.callP Tryz.call13 rfl (fun w hI => awake_g D hL _ hI.imm)) rfl ?_
    rintro _ _ _ ⟨rfl, rfl, rfl⟩
    refine zya rfl rfl ?_
    refine WL.nil (WP.thenC (WC.ret (WP.thenRet ?_)))
    refine WP.ret1 rfl rfl Tryz.results10 (RV.tmp rfl) (fun w hI => ⟨rfl, hI.keep⟩)
  · try simp only [zq1, zq2, zq3, zq4, zq5, zq6, zq7, zq8] at c33
    have hs : s.length ≤ 2 ^ 20 := by omega
    have hl1 : l.length ≤ 1210 := by omega
    refine WC.skip (WP.thenC (WC.seq (WC.ofFr [(4, _), (0, _), (1, _)] ⟨rfl, rfl, rfl, trivial⟩ (WC.region ?_))))
    refine zym rfl rfl ?_
    refine WL.so (SO.makes (Enters.func Tryz.call34 rfl) (fun w1 hI => ReadSurf_g s hs D hL w1 hI.imm)) rfl ?_
    rintro _ D1 _ ⟨hX1, ⟨x1, m1, e1, hx1, rfl, hR1⟩, rfl⟩
    have hL1 := hL.ext hX1
    refine zym rfl rfl ?_
    refine WL.yd (Yd.extract rfl rfl) rfl ?_
    refine WL.yd (Yd.extract rfl rfl) rfl ?_
    refine WL.so (SO.alloc Tryz.zeroValue25 rfl) rfl ?_
    rintro _ _ _ ⟨b5, hb5, rfl, rfl, rfl⟩
    refine WL.so (SO.store 0 rfl Tryz.sizeOf25 rfl rfl rfl rfl (zqb rfl) (oneB_spec rfl)) rfl ?_
    rintro _ _ _ ⟨rfl, rfl, rfl⟩
    refine zya rfl rfl ?_
    refine WL.nil (WP.thenC (WC.seq (WC.ofFr [(6, _), (5, _), (4, _), (0, _), (1, _)] ⟨rfl, rfl, rfl, rfl, rfl, trivial⟩ (WC.region ?_))))
    refine zym rfl rfl ?_
    refine WL.so (SO.makes (Enters.func Tryz.call36 rfl) (fun w1 hI => ReadFlag_g s hs D1 hL1 w1 hI.imm)) rfl ?_
    rintro _ D2 _ ⟨hX2, ⟨x2, m2, e2, hx2, rfl, hR2⟩, rfl⟩
    have hL2 := hL1.ext hX2
    refine zym rfl rfl ?_
    refine WL.yd (Yd.extract rfl rfl) rfl ?_
    refine WL.yd (Yd.extract rfl rfl) rfl ?_
    refine WL.so (SO.alloc Tryz.zeroValue29 rfl) rfl ?_
    rintro _ _ _ ⟨b7, hb7, rfl, rfl, rfl⟩
    refine WL.so (SO.store 0 rfl Tryz.sizeOf29 rfl rfl rfl rfl (zqb rfl) (oneB_spec rfl)) rfl ?_
    rintro _ _ _ ⟨rfl, rfl, rfl⟩
    refine zya rfl rfl ?_
    refine WL.nil (WP.thenC (WC.seq (WC.ofFr [(8, _), (7, _), (6, _), (5, _), (4, _), (0, _), (1, _)] ⟨rfl, rfl, rfl, rfl, rfl, rfl, rfl, trivial⟩ (WC.region ?_))))
    refine zym rfl rfl ?_
    refine WL.so (SO.makes (Enters.func Tryz.call38 rfl) (fun w1 hI => ReadBoats_g s hs D2 hL2 w1 hI.imm)) rfl ?_
    rintro _ D3 _ ⟨hX3, ⟨x3, m3, e3, hx3, rfl, hR3⟩, rfl⟩
    have hL3 := hL2.ext hX3
    refine zym rfl rfl ?_
    refine WL.yd (Yd.extract rfl rfl) rfl ?_
    refine WL.yd (Yd.extract rfl rfl) rfl ?_
    refine WL.so (SO.alloc Tryz.zeroValue32 rfl) rfl ?_
    rintro _ _ _ ⟨b9, hb9, rfl, rfl, rfl⟩
    refine WL.so (SO.store 0 rfl Tryz.sizeOf32 rfl rfl rfl rfl (zqb rfl) (oneB_spec rfl)) rfl ?_
    rintro _ _ _ ⟨rfl, rfl, rfl⟩
    refine zya rfl rfl ?_
    refine WL.nil (WP.thenC (WC.seq (WC.ofFr [(10, _), (9, _), (8, _), (7, _), (6, _), (5, _), (4, _), (0, _), (1, _)] ⟨rfl, rfl, rfl, rfl, rfl, rfl, rfl, rfl, rfl, trivial⟩ (WC.region ?_))))
    refine zym rfl rfl ?_
    refine WL.so (SO.makes (Enters.func Tryz.call23 rfl) (fun w1 hI => ReadHorses_g l a l.length c D3 (hS.ext ((hX1.trans hX2 (Nat.le_refl _)).trans hX3 (Nat.le_refl _))) (by omega) hc w1 hI.imm)) rfl ?_
    rintro _ D4 _ ⟨hX4, ⟨m4, rfl, hR4⟩, rfl⟩
    have hL4 := hL3.ext hX4
    replace hR1 := hR1.ext ((hX2.trans hX3 (Nat.le_refl _)).trans hX4 (Nat.le_refl _))
    replace hR2 := hR2.ext (hX3.trans hX4 (Nat.le_refl _))
    replace hR3 := hR3.ext hX4
    have hz1 : ¬ e1 = 0 → m1.w.n = 0 ∧ m1.v.n = 0 ∧ m1.h.n = 0 := fun h => surf0_len hR1 ((againX hx1).2 h).1
    have hz2 : ¬ e2 = 0 → m2.h.n = 0 ∧ m2.s.n = 0 := fun h => flag0_len hR2 ((againX hx2).2 h).1
    have hz3 : ¬ e3 = 0 → m3.sl.n = 0 := fun h => boats0_len hR3 ((againX hx3).2 h).1
    have hz4 : ¬ (readH l).2 = 0 → m4.n = 0 := fun h => hors0_len hR4 ((againH l).2 h)
    refine zym rfl rfl ?_
    refine WL.yd (Yd.extract rfl rfl) rfl ?_
    refine WL.yd (Yd.extract rfl rfl) rfl ?_
    refine WL.so (SO.alloc Tryz.zeroValue35 rfl) rfl ?_
    rintro _ _ _ ⟨b11, hb11, rfl, rfl, rfl⟩
    refine WL.so (SO.store 0 rfl Tryz.sizeOf35 rfl rfl rfl rfl (zqb rfl) (oneB_spec rfl)) rfl ?_
    rintro _ _ _ ⟨rfl, rfl, rfl⟩
    refine zya rfl rfl ?_
    refine WL.nil (WP.thenC (WC.seq (WC.ofFr [(12, _), (11, _), (10, _), (9, _), (8, _), (7, _), (6, _), (5, _), (4, _), (0, _), (1, _)] ⟨rfl, rfl, rfl, rfl, rfl, rfl, rfl, rfl, rfl, rfl, rfl, trivial⟩ (WC.region ?_))))
    refine WL.yd (Yd.loadN Tryz.isAgg25 Tryz.sizeOf25 rfl (vs := [_, _, _, _, _]) rfl (RdN.own (k := 3) (n := 5) rfl rfl)) rfl ?_
    refine WL.so (SO.callP Tryz.call14 rfl (fun w hI => WriteSurf_g x1 _ D4 hL4 hR1 _ hI.imm)) rfl ?_
    rintro _ _ _ ⟨rfl, rfl, rfl⟩
    refine zym rfl rfl ?_
    refine WL.yd (Yd.extract rfl rfl) rfl ?_
    refine WL.yd (Yd.extract rfl rfl) rfl ?_
    refine zya rfl rfl ?_
    refine zya rfl rfl ?_
    refine WL.nil (WP.thenC (WC.seq (WC.ofFr [(14, _), (13, _), (12, _), (11, _), (10, _), (9, _), (8, _), (7, _), (6, _), (5, _), (4, _), (0, _), (1, _)] ⟨rfl, rfl, rfl, rfl, rfl, rfl, rfl, rfl, rfl, rfl, rfl, rfl, rfl, trivial⟩ (WC.region ?_))))
    refine WL.yd (Yd.loadN Tryz.isAgg29 Tryz.sizeOf29 rfl (vs := [_, _, _, _, _]) rfl (RdN.own (k := 2) (n := 5) rfl rfl)) rfl ?_
    refine WL.so (SO.callP Tryz.call16 rfl (fun w hI => WriteFlag_g x2 _ D4 hL4 hR2 _ hI.imm)) rfl ?_
    rintro _ _ _ ⟨rfl, rfl, rfl⟩
    refine zym rfl rfl ?_
    refine WL.yd (Yd.extract rfl rfl) rfl ?_
    refine WL.yd (Yd.extract rfl rfl) rfl ?_
    refine zya rfl rfl ?_
    refine zya rfl rfl ?_
    refine WL.nil (WP.thenC (WC.seq (WC.ofFr [(16, _), (15, _), (14, _), (13, _), (12, _), (11, _), (10, _), (9, _), (8, _), (7, _), (6, _), (5, _), (4, _), (0, _), (1, _)] ⟨rfl, rfl, rfl, rfl, rfl, rfl, rfl, rfl, rfl, rfl, rfl, rfl, rfl, rfl, rfl, trivial⟩ (WC.region ?_))))
    refine WL.yd (Yd.loadN Tryz.isAgg32 Tryz.sizeOf32 rfl (vs := [_, _, _, _, _]) rfl (RdN.own (k := 1) (n := 5) rfl rfl)) rfl ?_
    refine WL.so (SO.callP Tryz.call18 rfl (fun w hI => WriteBoats_g x3 _ D4 hL4 hR3 _ hI.imm)) rfl ?_
    rintro _ _ _ ⟨rfl, rfl, rfl⟩
    refine zym rfl rfl ?_
    refine WL.yd (Yd.extract rfl rfl) rfl ?_
    refine WL.yd (Yd.extract rfl rfl) rfl ?_
    refine zya rfl rfl ?_
    refine zya rfl rfl ?_
    refine WL.nil (WP.thenC (WC.seq (WC.ofFr [(18, _), (17, _), (16, _), (15, _), (14, _), (13, _), (12, _), (11, _), (10, _), (9, _), (8, _), (7, _), (6, _), (5, _), (4, _), (0, _), (1, _)] ⟨rfl, rfl, rfl, rfl, rfl, rfl, rfl, rfl, rfl, rfl, rfl, rfl, rfl, rfl, rfl, rfl, rfl, trivial⟩ (WC.region ?_))))
    refine WL.yd (Yd.loadN Tryz.isAgg35 Tryz.sizeOf35 rfl (vs := [_, _]) rfl (RdN.own (k := 0) (n := 2) rfl rfl)) rfl ?_
    refine WL.so (SO.makes (Enters.func Tryz.call20 rfl) (fun w1 hI => WriteHorses_g (readH l).1 _ D4 hR4 w1 hI.imm)) rfl ?_
    rintro _ D5 _ ⟨hX5, ⟨a5, n5, c5, rfl, hS5, hc5⟩, rfl⟩
    have hL5 := hL4.ext hX5
    refine zym rfl rfl ?_
    refine WL.yd (Yd.extract rfl rfl) rfl ?_
    refine WL.yd (Yd.extract rfl rfl) rfl ?_
    refine zya rfl rfl ?_
    refine zya rfl rfl ?_
    refine WL.nil (WP.thenC (WC.seq (WC.seq (WC.ofFr [(20, _), (19, _), (18, _), (17, _), (16, _), (15, _), (14, _), (13, _), (12, _), (11, _), (10, _), (9, _), (8, _), (7, _), (6, _), (5, _), (4, _), (0, _), (1, _)] ⟨rfl, rfl, rfl, rfl, rfl, rfl, rfl, rfl, rfl, rfl, rfl, rfl, rfl, rfl, rfl, rfl, rfl, rfl, rfl, trivial⟩ (WC.region ?_)))))
    refine WL.ofFr [(14, _), (13, _), (5, _), (20, _), (19, _), (18, _), (17, _), (16, _), (15, _), (12, _), (11, _), (10, _), (9, _), (8, _), (7, _), (6, _), (4, _), (0, _), (1, _)] ⟨rfl, rfl, rfl, rfl, rfl, rfl, rfl, rfl, rfl, rfl, rfl, rfl, rfl, rfl, rfl, rfl, rfl, rfl, rfl, trivial⟩ ?_
    refine WL.cutD 39 3 113 (.bool false) ?_ ?_
    · skip
      refine zym rfl rfl ?_
      refine WL.yd (Yd.eql rfl rfl) rfl ?_
      refine zym rfl rfl ?_
      refine WL.part 77 rfl (fun g77 => ?_) (fun g77 => ?_)
      · try simp only [zq1, zq2, zq3, zq4, zq5, zq6, zq7, zq8] at g77
        refine WL.ydg rfl (Yd.move rfl) rfl ?_
        refine WL.ydg rfl (Yd.neq rfl rfl) rfl ?_
        refine WL.know 79 (.bool false) rfl (congrArg Value.bool (decide_eq_false (fun h9 => h9 (by rw [((againX hx1).1 (by omega)).2.2])))) ?_
        refine WL.ydg rfl (Yd.move rfl) rfl ?_
        refine WL.ydg rfl (Yd.move rfl) rfl ?_
        refine WL.ydg rfl (Yd.move rfl) rfl ?_
        refine WL.ydg rfl (Yd.neS' rfl rfl) rfl ?_
        refine WL.know 83 (.bool false) rfl (congrArg Value.bool (decide_eq_false (fun h9 => h9 (by rw [((againX hx1).1 (by omega)).2.2])))) ?_
        refine WL.ydg rfl (Yd.pickF rfl rfl) rfl ?_
        refine WL.yd (Yd.pickT rfl rfl) rfl ?_
        refine zym rfl rfl ?_
        refine WL.ydg rfl (Yd.move rfl) rfl ?_
        refine WL.ydg rfl (Yd.neq rfl rfl) rfl ?_
        refine WL.know 88 (.bool false) rfl (congrArg Value.bool (decide_eq_false (by omega))) ?_
        refine WL.ydg rfl (Yd.move rfl) rfl ?_
        refine WL.skip rfl rfl ?_
        refine WL.skip rfl rfl ?_
        refine WL.skip rfl rfl ?_
        refine WL.skip rfl rfl ?_
        refine WL.skipU rfl rfl ?_
        refine WL.skipU rfl rfl ?_
        refine WL.skipU rfl rfl ?_
        refine WL.skip rfl rfl ?_
        refine WL.skip rfl rfl ?_
        refine WL.skipU rfl rfl ?_
        refine WL.skipU rfl rfl ?_
        refine WL.skipU rfl rfl ?_
        refine WL.skipU rfl rfl ?_
        refine WL.skipU rfl rfl ?_
        refine WL.skipU rfl rfl ?_
        refine WL.skipU rfl rfl ?_
        refine WL.skipU rfl rfl ?_
        refine WL.skipU rfl rfl ?_
        refine WL.skipU rfl rfl ?_
        refine WL.skipU rfl rfl ?_
        refine WL.skipU rfl rfl ?_
        refine WL.skip rfl rfl ?_
        refine WL.ydg rfl (Yd.pickF rfl rfl) rfl ?_
        refine WL.yd (Yd.pickF rfl rfl) rfl ?_
        refine WL.nil ?_
        exact WP.cutEnd ⟨rfl, rfl, rfl, rfl, rfl, rfl, rfl, rfl, rfl, rfl, rfl, rfl, rfl, rfl, rfl, rfl, rfl, trivial⟩
      · try simp only [zq1, zq2, zq3, zq4, zq5, zq6, zq7, zq8] at g77
        refine WL.skip rfl rfl ?_
        refine WL.skip rfl rfl ?_
        refine WL.skip rfl rfl ?_
        refine WL.skipU rfl rfl ?_
        refine WL.skipU rfl rfl ?_
        refine WL.skipU rfl rfl ?_
        refine WL.skip rfl rfl ?_
        refine WL.yd (Yd.pickF rfl rfl) rfl ?_
        refine zym rfl rfl ?_
        refine WL.ydg rfl (Yd.move rfl) rfl ?_
        refine WL.ydg rfl (Yd.neq rfl rfl) rfl ?_
        refine WL.know 88 (.bool true) rfl (congrArg Value.bool (decide_eq_true (by omega))) ?_
        refine WL.ydg rfl (Yd.move rfl) rfl ?_
        refine WL.ydg rfl (Yd.fieldAddr FA25_0 rfl) rfl ?_
        refine WL.ydg rfl (Yd.load1 Tryz.isAgg3 rfl (Rd.own (k := 3) rfl rfl)) rfl ?_
        refine WL.ydg rfl (Yd.neq rfl rfl) rfl ?_
        refine WL.know 92 (.bool false) rfl (congrArg Value.bool (decide_eq_false (fun h9 => h9 (by rw [((againX hx1).2 (by omega)).1]; rfl)))) ?_
        refine WL.ydg rfl (Yd.move rfl) rfl ?_
        refine WL.ydg rfl (Yd.fieldAddr FA25_1 rfl) rfl ?_
        refine WL.ydg rfl (Yd.load1 Tryz.isAgg3 rfl (Rd.own (k := 3) rfl rfl)) rfl ?_
        refine WL.ydg rfl (Yd.neq rfl rfl) rfl ?_
        refine WL.know 96 (.bool false) rfl (congrArg Value.bool (decide_eq_false (fun h9 => h9 (by rw [((againX hx1).2 (by omega)).1]; rfl)))) ?_
        refine WL.ydg rfl (Yd.pickF rfl rfl) rfl ?_
        refine WL.ydg rfl (Yd.move rfl) rfl ?_
        refine WL.ydg rfl (Yd.fieldAddr FA25_2 rfl) rfl ?_
        refine WL.ydg rfl (Yd.load1 Tryz.isAgg22 rfl (Rd.own (k := 3) rfl rfl)) rfl ?_
        refine WL.ydg rfl (Yd.lenS rfl Tryz.underlying22 rfl) rfl ?_
        refine WL.ydg rfl (Yd.fieldAddr FA25_3 rfl) rfl ?_
        refine WL.ydg rfl (Yd.load1 Tryz.isAgg22 rfl (Rd.own (k := 3) rfl rfl)) rfl ?_
        refine WL.ydg rfl (Yd.lenS rfl Tryz.underlying22 rfl) rfl ?_
        refine WL.ydg rfl (Yd.add rfl rfl (wr64 ⟨by omega, by omega⟩)) rfl ?_
        refine WL.ydg rfl (Yd.fieldAddr FA25_4 rfl) rfl ?_
        refine WL.ydg rfl (Yd.load1 Tryz.isAgg23 rfl (Rd.own (k := 3) rfl rfl)) rfl ?_
        refine WL.ydg rfl (Yd.lenS rfl Tryz.underlying23 rfl) rfl ?_
        refine WL.ydg rfl (Yd.add rfl rfl (wr64 ⟨by omega, by omega⟩)) rfl ?_
        refine WL.ydg rfl (Yd.neq rfl rfl) rfl ?_
        refine WL.know 110 (.bool false) rfl (congrArg Value.bool (decide_eq_false (fun h9 => h9 (by omega)))) ?_
        refine WL.ydg rfl (Yd.pickF rfl rfl) rfl ?_
        refine WL.ydg rfl (Yd.pickT rfl rfl) rfl ?_
        refine WL.yd (Yd.pickF rfl rfl) rfl ?_
        refine WL.nil ?_
        exact WP.cutEnd ⟨rfl, rfl, rfl, rfl, rfl, rfl, rfl, rfl, rfl, rfl, rfl, rfl, rfl, rfl, rfl, rfl, rfl, trivial⟩
    · skip
      refine WL.nil (WP.thenC ?_)
      refine WC.condF rfl ?_
      refine WC.skip (WP.thenC (WC.seq (WC.seq (WC.ofFr [(20, _), (19, _), (18, _), (17, _), (16, _), (15, _), (12, _), (11, _), (10, _), (9, _), (8, _), (7, _), (6, _), (4, _), (0, _), (1, _)] ⟨rfl, rfl, rfl, rfl, rfl, rfl, rfl, rfl, rfl, rfl, rfl, rfl, rfl, rfl, rfl, rfl, trivial⟩ (WC.region ?_)))))
      refine WL.ofFr [(16, _), (15, _), (7, _), (20, _), (19, _), (18, _), (17, _), (12, _), (11, _), (10, _), (9, _), (8, _), (6, _), (4, _), (0, _), (1, _)] ⟨rfl, rfl, rfl, rfl, rfl, rfl, rfl, rfl, rfl, rfl, rfl, rfl, rfl, rfl, rfl, rfl, trivial⟩ ?_
      refine WL.cutD 40 3 153 (.bool false) ?_ ?_
      · skip
        refine zym rfl rfl ?_
        refine WL.yd (Yd.eql rfl rfl) rfl ?_
        refine zym rfl rfl ?_
        refine WL.part 116 rfl (fun g116 => ?_) (fun g116 => ?_)
        · try simp only [zq1, zq2, zq3, zq4, zq5, zq6, zq7, zq8] at g116
          refine WL.ydg rfl (Yd.move rfl) rfl ?_
          refine WL.ydg rfl (Yd.neq rfl rfl) rfl ?_
          refine WL.know 118 (.bool false) rfl (congrArg Value.bool (decide_eq_false (fun h9 => h9 (by rw [((againX hx2).1 (by omega)).2.2])))) ?_
          refine WL.ydg rfl (Yd.move rfl) rfl ?_
          refine WL.ydg rfl (Yd.move rfl) rfl ?_
          refine WL.ydg rfl (Yd.move rfl) rfl ?_
          refine WL.ydg rfl (Yd.neS' rfl rfl) rfl ?_
          refine WL.know 122 (.bool false) rfl (congrArg Value.bool (decide_eq_false (fun h9 => h9 (by rw [((againX hx2).1 (by omega)).2.2])))) ?_
          refine WL.ydg rfl (Yd.pickF rfl rfl) rfl ?_
          refine WL.yd (Yd.pickT rfl rfl) rfl ?_
          refine zym rfl rfl ?_
          refine WL.ydg rfl (Yd.move rfl) rfl ?_
          refine WL.ydg rfl (Yd.neq rfl rfl) rfl ?_
          refine WL.know 127 (.bool false) rfl (congrArg Value.bool (decide_eq_false (by omega))) ?_
          refine WL.ydg rfl (Yd.move rfl) rfl ?_
          refine WL.skip rfl rfl ?_
          refine WL.skip rfl rfl ?_
          refine WL.skip rfl rfl ?_
          refine WL.skip rfl rfl ?_
          refine WL.skipU rfl rfl ?_
          refine WL.skipU rfl rfl ?_
          refine WL.skipU rfl rfl ?_
          refine WL.skip rfl rfl ?_
          refine WL.skip rfl rfl ?_
          refine WL.skipU rfl rfl ?_
          refine WL.skipU rfl rfl ?_
          refine WL.skipU rfl rfl ?_
          refine WL.skip rfl rfl ?_
          refine WL.skip rfl rfl ?_
          refine WL.skipU rfl rfl ?_
          refine WL.skipU rfl rfl ?_
          refine WL.skipU rfl rfl ?_
          refine WL.skipU rfl rfl ?_
          refine WL.skipU rfl rfl ?_
          refine WL.skipU rfl rfl ?_
          refine WL.skipU rfl rfl ?_
          refine WL.skipU rfl rfl ?_
          refine WL.skip rfl rfl ?_
          refine WL.ydg rfl (Yd.pickF rfl rfl) rfl ?_
          refine WL.yd (Yd.pickF rfl rfl) rfl ?_
          refine WL.nil ?_
          exact WP.cutEnd ⟨rfl, rfl, rfl, rfl, rfl, rfl, rfl, rfl, rfl, rfl, rfl, rfl, rfl, rfl, trivial⟩
        · try simp only [zq1, zq2, zq3, zq4, zq5, zq6, zq7, zq8] at g116
          refine WL.skip rfl rfl ?_
          refine WL.skip rfl rfl ?_
          refine WL.skip rfl rfl ?_
          refine WL.skipU rfl rfl ?_
          refine WL.skipU rfl rfl ?_
          refine WL.skipU rfl rfl ?_
          refine WL.skip rfl rfl ?_
          refine WL.yd (Yd.pickF rfl rfl) rfl ?_
          refine zym rfl rfl ?_
          refine WL.ydg rfl (Yd.move rfl) rfl ?_
          refine WL.ydg rfl (Yd.neq rfl rfl) rfl ?_
          refine WL.know 127 (.bool true) rfl (congrArg Value.bool (decide_eq_true (by omega))) ?_
          refine WL.ydg rfl (Yd.move rfl) rfl ?_
          refine WL.ydg rfl (Yd.fieldAddr FA29_0 rfl) rfl ?_
          refine WL.ydg rfl (Yd.load1 Tryz.isAgg3 rfl (Rd.own (k := 2) rfl rfl)) rfl ?_
          refine WL.ydg rfl (Yd.neq rfl rfl) rfl ?_
          refine WL.know 131 (.bool false) rfl (congrArg Value.bool (decide_eq_false (fun h9 => h9 (by rw [((againX hx2).2 (by omega)).1]; rfl)))) ?_
          refine WL.ydg rfl (Yd.move rfl) rfl ?_
          refine WL.ydg rfl (Yd.fieldAddr FA29_1 rfl) rfl ?_
          refine WL.ydg rfl (Yd.load1 Tryz.isAgg3 rfl (Rd.own (k := 2) rfl rfl)) rfl ?_
          refine WL.ydg rfl (Yd.neq rfl rfl) rfl ?_
          refine WL.know 135 (.bool false) rfl (congrArg Value.bool (decide_eq_false (fun h9 => h9 (by rw [((againX hx2).2 (by omega)).1]; rfl)))) ?_
          refine WL.ydg rfl (Yd.pickF rfl rfl) rfl ?_
          refine WL.ydg rfl (Yd.move rfl) rfl ?_
          refine WL.ydg rfl (Yd.fieldAddr FA29_2 rfl) rfl ?_
          refine WL.ydg rfl (Yd.load1 Tryz.isAgg3 rfl (Rd.own (k := 2) rfl rfl)) rfl ?_
          refine WL.ydg rfl (Yd.neq rfl rfl) rfl ?_
          refine WL.know 140 (.bool false) rfl (congrArg Value.bool (decide_eq_false (fun h9 => h9 (by rw [((againX hx2).2 (by omega)).1]; rfl)))) ?_
          refine WL.ydg rfl (Yd.pickF rfl rfl) rfl ?_
          refine WL.ydg rfl (Yd.move rfl) rfl ?_
          refine WL.ydg rfl (Yd.fieldAddr FA29_3 rfl) rfl ?_
          refine WL.ydg rfl (Yd.load1 Tryz.isAgg26 rfl (Rd.own (k := 2) rfl rfl)) rfl ?_
          refine WL.ydg rfl (Yd.lenS rfl Tryz.underlying26 rfl) rfl ?_
          refine WL.ydg rfl (Yd.fieldAddr FA29_4 rfl) rfl ?_
          refine WL.ydg rfl (Yd.load1 Tryz.isAgg27 rfl (Rd.own (k := 2) rfl rfl)) rfl ?_
          refine WL.ydg rfl (Yd.lenS rfl Tryz.underlying27 rfl) rfl ?_
          refine WL.ydg rfl (Yd.add rfl rfl (wr64 ⟨by omega, by omega⟩)) rfl ?_
          refine WL.ydg rfl (Yd.neq rfl rfl) rfl ?_
          refine WL.know 150 (.bool false) rfl (congrArg Value.bool (decide_eq_false (fun h9 => h9 (by omega)))) ?_
          refine WL.ydg rfl (Yd.pickF rfl rfl) rfl ?_
          refine WL.ydg rfl (Yd.pickT rfl rfl) rfl ?_
          refine WL.yd (Yd.pickF rfl rfl) rfl ?_
          refine WL.nil ?_
          exact WP.cutEnd ⟨rfl, rfl, rfl, rfl, rfl, rfl, rfl, rfl, rfl, rfl, rfl, rfl, rfl, rfl, trivial⟩
      · skip
        refine WL.nil (WP.thenC ?_)
        refine WC.condF rfl ?_
        refine WC.skip (WP.thenC (WC.seq (WC.seq (WC.ofFr [(20, _), (19, _), (18, _), (17, _), (12, _), (11, _), (10, _), (9, _), (8, _), (6, _), (4, _), (0, _), (1, _)] ⟨rfl, rfl, rfl, rfl, rfl, rfl, rfl, rfl, rfl, rfl, rfl, rfl, rfl, trivial⟩ (WC.region ?_)))))
        refine WL.ofFr [(18, _), (17, _), (9, _), (20, _), (19, _), (12, _), (11, _), (10, _), (8, _), (6, _), (4, _), (0, _), (1, _)] ⟨rfl, rfl, rfl, rfl, rfl, rfl, rfl, rfl, rfl, rfl, rfl, rfl, rfl, trivial⟩ ?_
        refine WL.cutD 41 3 194 (.bool false) ?_ ?_
        · skip
          refine zym rfl rfl ?_
          refine WL.yd (Yd.eql rfl rfl) rfl ?_
          refine zym rfl rfl ?_
          refine WL.part 156 rfl (fun g156 => ?_) (fun g156 => ?_)
          · try simp only [zq1, zq2, zq3, zq4, zq5, zq6, zq7, zq8] at g156
            refine WL.ydg rfl (Yd.move rfl) rfl ?_
            refine WL.ydg rfl (Yd.neq rfl rfl) rfl ?_
            refine WL.know 158 (.bool false) rfl (congrArg Value.bool (decide_eq_false (fun h9 => h9 (by rw [((againX hx3).1 (by omega)).2.2])))) ?_
            refine WL.ydg rfl (Yd.move rfl) rfl ?_
            refine WL.ydg rfl (Yd.move rfl) rfl ?_
            refine WL.ydg rfl (Yd.move rfl) rfl ?_
            refine WL.ydg rfl (Yd.neS' rfl rfl) rfl ?_
            refine WL.know 162 (.bool false) rfl (congrArg Value.bool (decide_eq_false (fun h9 => h9 (by rw [((againX hx3).1 (by omega)).2.2])))) ?_
            refine WL.ydg rfl (Yd.pickF rfl rfl) rfl ?_
            refine WL.yd (Yd.pickT rfl rfl) rfl ?_
            refine zym rfl rfl ?_
            refine WL.ydg rfl (Yd.move rfl) rfl ?_
            refine WL.ydg rfl (Yd.neq rfl rfl) rfl ?_
            refine WL.know 167 (.bool false) rfl (congrArg Value.bool (decide_eq_false (by omega))) ?_
            refine WL.ydg rfl (Yd.move rfl) rfl ?_
            refine WL.skip rfl rfl ?_
            refine WL.skip rfl rfl ?_
            refine WL.skip rfl rfl ?_
            refine WL.skip rfl rfl ?_
            refine WL.skipU rfl rfl ?_
            refine WL.skipU rfl rfl ?_
            refine WL.skipU rfl rfl ?_
            refine WL.skip rfl rfl ?_
            refine WL.skip rfl rfl ?_
            refine WL.skipU rfl rfl ?_
            refine WL.skipU rfl rfl ?_
            refine WL.skipU rfl rfl ?_
            refine WL.skip rfl rfl ?_
            refine WL.skip rfl rfl ?_
            refine WL.skipU rfl rfl ?_
            refine WL.skipU rfl rfl ?_
            refine WL.skipU rfl rfl ?_
            refine WL.skip rfl rfl ?_
            refine WL.skip rfl rfl ?_
            refine WL.skipU rfl rfl ?_
            refine WL.skipU rfl rfl ?_
            refine WL.skipU rfl rfl ?_
            refine WL.skipU rfl rfl ?_
            refine WL.skip rfl rfl ?_
            refine WL.ydg rfl (Yd.pickF rfl rfl) rfl ?_
            refine WL.yd (Yd.pickF rfl rfl) rfl ?_
            refine WL.nil ?_
            exact WP.cutEnd ⟨rfl, rfl, rfl, rfl, rfl, rfl, rfl, rfl, rfl, rfl, rfl, trivial⟩
          · try simp only [zq1, zq2, zq3, zq4, zq5, zq6, zq7, zq8] at g156
            refine WL.skip rfl rfl ?_
            refine WL.skip rfl rfl ?_
            refine WL.skip rfl rfl ?_
            refine WL.skipU rfl rfl ?_
            refine WL.skipU rfl rfl ?_
            refine WL.skipU rfl rfl ?_
            refine WL.skip rfl rfl ?_
            refine WL.yd (Yd.pickF rfl rfl) rfl ?_
            refine zym rfl rfl ?_
            refine WL.ydg rfl (Yd.move rfl) rfl ?_
            refine WL.ydg rfl (Yd.neq rfl rfl) rfl ?_
            refine WL.know 167 (.bool true) rfl (congrArg Value.bool (decide_eq_true (by omega))) ?_
            refine WL.ydg rfl (Yd.move rfl) rfl ?_
            refine WL.ydg rfl (Yd.fieldAddr FA32_0 rfl) rfl ?_
            refine WL.ydg rfl (Yd.load1 Tryz.isAgg3 rfl (Rd.own (k := 1) rfl rfl)) rfl ?_
            refine WL.ydg rfl (Yd.neq rfl rfl) rfl ?_
            refine WL.know 171 (.bool false) rfl (congrArg Value.bool (decide_eq_false (fun h9 => h9 (by rw [((againX hx3).2 (by omega)).1]; rfl)))) ?_
            refine WL.ydg rfl (Yd.move rfl) rfl ?_
            refine WL.ydg rfl (Yd.fieldAddr FA32_1 rfl) rfl ?_
            refine WL.ydg rfl (Yd.load1 Tryz.isAgg3 rfl (Rd.own (k := 1) rfl rfl)) rfl ?_
            refine WL.ydg rfl (Yd.neq rfl rfl) rfl ?_
            refine WL.know 175 (.bool false) rfl (congrArg Value.bool (decide_eq_false (fun h9 => h9 (by rw [((againX hx3).2 (by omega)).1]; rfl)))) ?_
            refine WL.ydg rfl (Yd.pickF rfl rfl) rfl ?_
            refine WL.ydg rfl (Yd.move rfl) rfl ?_
            refine WL.ydg rfl (Yd.fieldAddr FA32_2 rfl) rfl ?_
            refine WL.ydg rfl (Yd.load1 Tryz.isAgg3 rfl (Rd.own (k := 1) rfl rfl)) rfl ?_
            refine WL.ydg rfl (Yd.neq rfl rfl) rfl ?_
            refine WL.know 180 (.bool false) rfl (congrArg Value.bool (decide_eq_false (fun h9 => h9 (by rw [((againX hx3).2 (by omega)).1]; rfl)))) ?_
            refine WL.ydg rfl (Yd.pickF rfl rfl) rfl ?_
            refine WL.ydg rfl (Yd.move rfl) rfl ?_
            refine WL.ydg rfl (Yd.fieldAddr FA32_3 rfl) rfl ?_
            refine WL.ydg rfl (Yd.load1 Tryz.isAgg3 rfl (Rd.own (k := 1) rfl rfl)) rfl ?_
            refine WL.ydg rfl (Yd.neq rfl rfl) rfl ?_
            refine WL.know 185 (.bool false) rfl (congrArg Value.bool (decide_eq_false (fun h9 => h9 (by rw [((againX hx3).2 (by omega)).1]; rfl)))) ?_
            refine WL.ydg rfl (Yd.pickF rfl rfl) rfl ?_
            refine WL.ydg rfl (Yd.move rfl) rfl ?_
            refine WL.ydg rfl (Yd.fieldAddr FA32_4 rfl) rfl ?_
            refine WL.ydg rfl (Yd.load1 Tryz.isAgg30 rfl (Rd.own (k := 1) rfl rfl)) rfl ?_
            refine WL.ydg rfl (Yd.lenS rfl Tryz.underlying30 rfl) rfl ?_
            refine WL.ydg rfl (Yd.neq rfl rfl) rfl ?_
            refine WL.know 191 (.bool false) rfl (congrArg Value.bool (decide_eq_false (fun h9 => h9 (by omega)))) ?_
            refine WL.ydg rfl (Yd.pickF rfl rfl) rfl ?_
            refine WL.ydg rfl (Yd.pickT rfl rfl) rfl ?_
            refine WL.yd (Yd.pickF rfl rfl) rfl ?_
            refine WL.nil ?_
            exact WP.cutEnd ⟨rfl, rfl, rfl, rfl, rfl, rfl, rfl, rfl, rfl, rfl, rfl, trivial⟩
        · skip
          refine WL.nil (WP.thenC ?_)
          refine WC.condF rfl ?_
          refine WC.skip (WP.thenC (WC.seq (WC.seq (WC.ofFr [(20, _), (19, _), (12, _), (11, _), (10, _), (8, _), (6, _), (4, _), (0, _), (1, _)] ⟨rfl, rfl, rfl, rfl, rfl, rfl, rfl, rfl, rfl, rfl, trivial⟩ (WC.region ?_)))))
          refine WL.ofFr [(20, _), (19, _), (11, _), (12, _), (10, _), (8, _), (6, _), (4, _), (0, _), (1, _)] ⟨rfl, rfl, rfl, rfl, rfl, rfl, rfl, rfl, rfl, rfl, trivial⟩ ?_
          refine WL.cutD 27 3 221 (.bool false) ?_ ?_
          · skip
            refine zym rfl rfl ?_
            refine WL.yd (Yd.eql rfl rfl) rfl ?_
            refine zym rfl rfl ?_
            refine WL.part 197 rfl (fun g197 => ?_) (fun g197 => ?_)
            · try simp only [zq1, zq2, zq3, zq4, zq5, zq6, zq7, zq8] at g197
              refine WL.ydg rfl (Yd.move rfl) rfl ?_
              refine WL.ydg rfl (Yd.neq rfl rfl) rfl ?_
              refine WL.know 199 (.bool false) rfl (congrArg Value.bool (decide_eq_false (fun h9 => h9 (by rw [(againH l).1 (by omega)])))) ?_
              refine WL.ydg rfl (Yd.move rfl) rfl ?_
              refine WL.ydg rfl (Yd.move rfl) rfl ?_
              refine WL.ydg rfl (Yd.move rfl) rfl ?_
              refine WL.sog rfl (SO.callP Tryz.call22 rfl (fun w hI => bytes_g (wrH (readH l).1).1 l a5 a n5 l.length c5 c D5 hS5 (hS.ext ((((hX1.trans hX2 (Nat.le_refl _)).trans hX3 (Nat.le_refl _)).trans hX4 (Nat.le_refl _)).trans hX5 (Nat.le_refl _))) _ hI.imm)) rfl ?_
              rintro _ _ _ ⟨rfl, rfl, rfl⟩
              refine WL.ydg rfl (Yd.not rfl) rfl ?_
              refine WL.know 204 (.bool false) rfl (congrArg Value.bool (by rw [show decide ((wrH (readH l).1).1 = l) = true from decide_eq_true (by rw [(againH l).1 (by omega)])]; rfl)) ?_
              refine WL.ydg rfl (Yd.pickF rfl rfl) rfl ?_
              refine WL.yd (Yd.pickT rfl rfl) rfl ?_
              refine zym rfl rfl ?_
              refine WL.ydg rfl (Yd.move rfl) rfl ?_
              refine WL.ydg rfl (Yd.neq rfl rfl) rfl ?_
              refine WL.know 209 (.bool false) rfl (congrArg Value.bool (decide_eq_false (by omega))) ?_
              refine WL.ydg rfl (Yd.move rfl) rfl ?_
              refine WL.skip rfl rfl ?_
              refine WL.skip rfl rfl ?_
              refine WL.skip rfl rfl ?_
              refine WL.skip rfl rfl ?_
              refine WL.skipU rfl rfl ?_
              refine WL.skipU rfl rfl ?_
              refine WL.skipU rfl rfl ?_
              refine WL.skipU rfl rfl ?_
              refine WL.skip rfl rfl ?_
              refine WL.ydg rfl (Yd.pickF rfl rfl) rfl ?_
              refine WL.yd (Yd.pickF rfl rfl) rfl ?_
              refine WL.nil ?_
              exact WP.cutEnd ⟨rfl, rfl, rfl, rfl, rfl, rfl, rfl, rfl, trivial⟩
            · try simp only [zq1, zq2, zq3, zq4, zq5, zq6, zq7, zq8] at g197
              refine WL.skip rfl rfl ?_
              refine WL.skip rfl rfl ?_
              refine WL.skip rfl rfl ?_
              refine WL.skipU rfl rfl ?_
              refine WL.skipU rfl rfl ?_
              refine WL.skipU rfl rfl ?_
              refine WL.skipU rfl rfl ?_
              refine WL.skip rfl rfl ?_
              refine WL.yd (Yd.pickF rfl rfl) rfl ?_
              refine zym rfl rfl ?_
              refine WL.ydg rfl (Yd.move rfl) rfl ?_
              refine WL.ydg rfl (Yd.neq rfl rfl) rfl ?_
              refine WL.know 209 (.bool true) rfl (congrArg Value.bool (decide_eq_true (by omega))) ?_
              refine WL.ydg rfl (Yd.move rfl) rfl ?_
              refine WL.ydg rfl (Yd.fieldAddr FA35_0 rfl) rfl ?_
              refine WL.ydg rfl (Yd.load1 Tryz.isAgg3 rfl (Rd.own (k := 0) rfl rfl)) rfl ?_
              refine WL.ydg rfl (Yd.neq rfl rfl) rfl ?_
              refine WL.know 213 (.bool false) rfl (congrArg Value.bool (decide_eq_false (fun h9 => h9 (by rw [(againH l).2 (by omega)]; rfl)))) ?_
              refine WL.ydg rfl (Yd.move rfl) rfl ?_
              refine WL.ydg rfl (Yd.fieldAddr FA35_1 rfl) rfl ?_
              refine WL.ydg rfl (Yd.load1 Tryz.isAgg33 rfl (Rd.own (k := 0) rfl rfl)) rfl ?_
              refine WL.ydg rfl (Yd.lenS rfl Tryz.underlying33 rfl) rfl ?_
              refine WL.ydg rfl (Yd.neq rfl rfl) rfl ?_
              refine WL.know 218 (.bool false) rfl (congrArg Value.bool (decide_eq_false (fun h9 => h9 (by omega)))) ?_
              refine WL.ydg rfl (Yd.pickF rfl rfl) rfl ?_
              refine WL.ydg rfl (Yd.pickT rfl rfl) rfl ?_
              refine WL.yd (Yd.pickF rfl rfl) rfl ?_
              refine WL.nil ?_
              exact WP.cutEnd ⟨rfl, rfl, rfl, rfl, rfl, rfl, rfl, rfl, trivial⟩
          · skip
            refine WL.nil (WP.thenC ?_)
            refine WC.condF rfl ?_
            refine WC.skip (WP.thenC (WC.seq (WC.ofFr [(12, _), (10, _), (8, _), (6, _), (4, _), (0, _), (1, _)] ⟨rfl, rfl, rfl, rfl, rfl, rfl, rfl, trivial⟩ (WC.region ?_))))
            refine zya rfl rfl ?_
            refine WL.nil (WP.thenC ?_)
            refine WC.drop 99 ?_
            refine WC.seqJ (fun _ : Unit => [(1, .slice a l.length c), (6, it e1), (8, it e2), (10, it e3), (12, it (readH l).2), (21, it (if 1200 < s.length then 3 else 8))]) (fun _ => []) (fun _ => D5) (fun _ => True) ?_ ?_
            · rintro ⟨⟩ -
              have he1 := (againX hx1).2
              have he2 := (againX hx2).2
              have he3 := (againX hx3).2
              generalize (if 1200 < s.length then (3 : Int) else 8) = want at he1 he2 he3 ⊢
              refine WC.seq (WC.seq (WC.ofFr [(1, _), (6, _), (8, _), (10, _), (12, _), (21, _)] ⟨rfl, rfl, rfl, rfl, rfl, rfl, trivial⟩ (WC.region ?_)))
              refine zym rfl rfl ?_
              refine zym rfl rfl ?_
              refine zym rfl rfl ?_
              refine WL.so (SO.buildSlice1 Tryz.underlying72 Tryz.sizeOf38 Tryz.zeroValue38 rfl rfl rfl (vs := [_, _, _]) rfl rfl rfl) rfl ?_
              rintro _ _ _ ⟨b228, hb228, rfl, rfl, rfl⟩
              refine WL.freezeK 0 rfl (fun hn228 => ?_)
              have hX6 := (DExt.refl w D5).add (o := .cells (([e1, e2, e3]).flatMap eC ++ []).toArray 38 (0, 0)) hn228 hb228
              have hSE : SlL (Imm.add D5 b228 (.cells (([e1, e2, e3]).flatMap eC ++ []).toArray 38 (0, 0))) 1 (([e1, e2, e3]).map eC) (some ⟨b228, 0, none⟩) 3 := SlL.ofBlock (f := eC) (m := 1) (rest := []) (fun _ => rfl) (Imm.add_self _ _ _)
              change WL _ _ _ _ (Imm.add D5 b228 (.cells (([e1, e2, e3]).flatMap eC ++ []).toArray 38 (0, 0))) _ _ _
              generalize Imm.add D5 b228 (.cells (([e1, e2, e3]).flatMap eC ++ []).toArray 38 (0, 0)) = D6 at hX6 hSE ⊢
              generalize hes : [e1, e2, e3] = es at hSE
              refine WL.yd (Yd.lenS rfl Tryz.underlying72 rfl) rfl ?_
              refine zym rfl rfl ?_
              refine WL.nil (WP.thenC (WC.block ?_))
              have hL6 := hL5.ext hX6
              have hes3 : ∀ k, k < 3 → gt es k = 0 ∨ gt es k = want := by
                subst hes
                intro k hk
                match k, hk with
                | 0, _ => exact (Decidable.em (e1 = 0)).imp (fun h => h) (fun h => (he1 h).2)
                | 1, _ => exact (Decidable.em (e2 = 0)).imp (fun h => h) (fun h => (he2 h).2)
                | 2, _ => exact (Decidable.em (e3 = 0)).imp (fun h => h) (fun h => (he3 h).2)
              refine WC.loopF (fun k : Nat => [(1, .slice a l.length c), (12, it (readH l).2), (21, it want), (228, .slice (some ⟨b228, 0, none⟩) 3 3), (229, nt 3), (230, nt k)]) (fun k => k ≤ 3) (fun k => 3 - k) 0 (Nat.zero_le _) ⟨rfl, rfl, rfl, rfl, rfl, rfl, trivial⟩ ?_
              intro k hk
              refine WC.seq (WC.ofFr [(1, _), (12, _), (21, _), (228, _), (229, _), (230, _)] ⟨rfl, rfl, rfl, rfl, rfl, rfl, trivial⟩ (WC.region ?_))
              refine WL.yd (Yd.lss rfl rfl) rfl ?_
              refine WL.nil (WP.thenC (WC.seq ?_))
              refine WC.cond rfl (fun c231 => ?_) (fun c231 => ?_)
              · try simp only [zq1, zq2, zq3, zq4, zq5, zq6, zq7, zq8] at c231
                have hkl : k < 3 := by omega
                refine WC.skip (WP.thenC (WC.seq (WC.block (WC.seq (WC.ofFr [(1, _), (12, _), (21, _), (228, _), (229, _), (230, _)] ⟨rfl, rfl, rfl, rfl, rfl, rfl, trivial⟩ (WC.region ?_))))))
                refine WL.yd (Yd.indexS Tryz.underlying72 Tryz.sizeOf38 rfl rfl (by omega) (by omega) (by first | exact hSE.addr k (by omega) | exact (hS.ext (((((hX1.trans hX2 (Nat.le_refl _)).trans hX3 (Nat.le_refl _)).trans hX4 (Nat.le_refl _)).trans hX5 (Nat.le_refl _)).trans hX6 (Nat.le_refl _))).addr k (by omega))) rfl ?_
                refine WL.yd (Yd.load1 Tryz.isAgg38 rfl ((hSE.at k (by omega)).rd 0 rfl)) rfl ?_
                refine zya rfl rfl ?_
                refine WL.nil (WP.thenC (WC.seq (WC.ofFr [(23, _), (1, _), (12, _), (21, _), (228, _), (229, _), (230, _)] ⟨rfl, rfl, rfl, rfl, rfl, rfl, rfl, trivial⟩ (WC.region ?_))))
                refine WL.ofFr [(23, _), (1, _), (12, _), (21, _), (228, _), (229, _), (230, _)] ⟨rfl, rfl, rfl, rfl, rfl, rfl, rfl, trivial⟩ ?_
                refine WL.cutD 7 1 240 (.bool false) ?_ ?_
                · skip
                  refine zym rfl rfl ?_
                  refine WL.yd (Yd.neq rfl rfl) rfl ?_
                  refine zym rfl rfl ?_
                  refine WL.part 236 rfl (fun g236 => ?_) (fun g236 => ?_)
                  · try simp only [zq1, zq2, zq3, zq4, zq5, zq6, zq7, zq8] at g236
                    refine WL.ydg rfl (Yd.move rfl) rfl ?_
                    refine WL.ydg rfl (Yd.move rfl) rfl ?_
                    refine WL.ydg rfl (Yd.neq rfl rfl) rfl ?_
                    refine WL.know 239 (.bool false) rfl (congrArg Value.bool (decide_eq_false (fun h9 => by have := hes3 k hkl; omega))) ?_
                    refine WL.yd (Yd.pickT rfl rfl) rfl ?_
                    refine WL.nil ?_
                    exact WP.cutEnd ⟨rfl, rfl, rfl, rfl, rfl, rfl, rfl, trivial⟩
                  · try simp only [zq1, zq2, zq3, zq4, zq5, zq6, zq7, zq8] at g236
                    refine WL.skip rfl rfl ?_
                    refine WL.skip rfl rfl ?_
                    refine WL.skip rfl rfl ?_
                    refine WL.yd (Yd.pickF rfl rfl) rfl ?_
                    refine WL.nil ?_
                    exact WP.cutEnd ⟨rfl, rfl, rfl, rfl, rfl, rfl, rfl, trivial⟩
                · skip
                  refine WL.nil (WP.thenC ?_)
                  refine WC.condF rfl ?_
                  refine WC.skip (WP.blkNormal (WP.thenC (WC.ofFr [(1, _), (12, _), (21, _), (228, _), (229, _), (230, _)] ⟨rfl, rfl, rfl, rfl, rfl, rfl, trivial⟩ (WC.region ?_))))
                  refine WL.yd (Yd.add rfl rfl (wr64 ⟨by omega, by omega⟩)) rfl ?_
                  refine zym rfl rfl ?_
                  refine WL.nil ?_
                  exact WP.againF (k + 1) hkl (by omega) ⟨rfl, rfl, rfl, rfl, rfl, rfl, trivial⟩ (fun _ h => nomatch h) (fun _ => List.nodup_nil)
              · try simp only [zq1, zq2, zq3, zq4, zq5, zq6, zq7, zq8] at c231
                obtain rfl : k = 3 := by omega
                refine WC.exit ?_
                refine WP.thenExit ?_
                refine WP.thenExit ?_
                refine WP.blkHit ?_
                refine WP.thenC (WC.seq (WC.seq (WC.ofFr [(1, _), (12, _)] ⟨rfl, rfl, trivial⟩ (WC.region ?_))))
                refine zym rfl rfl ?_
                refine WL.yd (Yd.lenS rfl Tryz.underlying43 rfl) rfl ?_
                refine WL.yd (Yd.gtr rfl rfl) rfl ?_
                refine WL.nil (WP.thenC ?_)
                refine WC.cond rfl (fun c244 => ?_) (fun c244 => ?_)
                · try simp only [zq1, zq2, zq3, zq4, zq5, zq6, zq7, zq8] at c244
                  refine WC.seq (WC.ofFr [(1, _), (12, _)] ⟨rfl, rfl, trivial⟩ (WC.region ?_))
                  refine zym rfl rfl ?_
                  refine WL.yd (Yd.eql rfl rfl) rfl ?_
                  refine WL.know 246 (.bool true) rfl (congrArg Value.bool (decide_eq_true (readH_long (by omega)))) ?_
                  refine zym rfl rfl ?_
                  refine WL.sog rfl (SO.callP Tryz.call13 rfl (fun w hI => awake_g D6 hL6 _ hI.imm)) rfl ?_
                  rintro _ _ _ ⟨rfl, rfl, rfl⟩
                  refine WL.yd (Yd.pickT rfl rfl) rfl ?_
                  refine zya rfl rfl ?_
                  refine WL.nil (WP.thenC (WC.ret (WP.thenRet ?_)))
                  refine WP.ret1 rfl rfl Tryz.results10 (RV.tmp rfl) (fun w hI => ⟨rfl, hI.keep⟩)
                · try simp only [zq1, zq2, zq3, zq4, zq5, zq6, zq7, zq8] at c244
                  have hl2 : l.length ≤ 250 := by omega
                  refine WC.skip (WP.thenC (WC.seq (WC.ofFr [(1, _), (12, _)] ⟨rfl, rfl, trivial⟩ (WC.region ?_))))
                  refine zym rfl rfl ?_
                  refine WL.yd (Yd.lenS rfl Tryz.underlying43 rfl) rfl ?_
                  refine WL.yd (Yd.geq rfl rfl) rfl ?_
                  refine WL.know 252 (.bool (fineK l 0)) rfl (congrArg Value.bool (by unfold fineK; rw [List.take_zero, List.all_nil, Bool.and_true]; exact decide_eq_decide.2 ⟨fun h => by omega, fun h => by omega⟩)) ?_
                  refine zya rfl rfl ?_
                  refine WL.nil (WP.thenC (WC.seq (WC.seq (WC.ofFr [(24, _), (1, _), (12, _)] ⟨rfl, rfl, rfl, trivial⟩ (WC.region ?_)))))
                  refine zym rfl rfl ?_
                  refine WL.yd (Yd.lenS rfl Tryz.underlying43 rfl) rfl ?_
                  refine zym rfl rfl ?_
                  refine WL.nil (WP.thenC (WC.block ?_))
                  refine WC.loopF (fun k : Nat => [(1, .slice a l.length c), (12, it (readH l).2), (24, .bool (fineK l k)), (253, .slice a l.length c), (254, nt l.length), (255, nt k)]) (fun k => k ≤ l.length) (fun k => l.length - k) 0 (Nat.zero_le _) ⟨rfl, rfl, rfl, rfl, rfl, rfl, trivial⟩ ?_
                  intro k hk
                  refine WC.seq (WC.ofFr [(1, _), (12, _), (24, _), (253, _), (254, _), (255, _)] ⟨rfl, rfl, rfl, rfl, rfl, rfl, trivial⟩ (WC.region ?_))
                  refine WL.yd (Yd.lss rfl rfl) rfl ?_
                  refine WL.nil (WP.thenC (WC.seq ?_))
                  refine WC.cond rfl (fun c256 => ?_) (fun c256 => ?_)
                  · try simp only [zq1, zq2, zq3, zq4, zq5, zq6, zq7, zq8] at c256
                    have hkl : k < l.length := by omega
                    refine WC.skip (WP.thenC (WC.seq (WC.block (WC.seq (WC.ofFr [(1, _), (12, _), (24, _), (253, _), (254, _), (255, _)] ⟨rfl, rfl, rfl, rfl, rfl, rfl, trivial⟩ (WC.region ?_))))))
                    refine WL.yd (Yd.indexS Tryz.underlying43 Tryz.sizeOf5 rfl rfl (by omega) (by omega) (by first | exact hSE.addr k (by omega) | exact (hS.ext (((((hX1.trans hX2 (Nat.le_refl _)).trans hX3 (Nat.le_refl _)).trans hX4 (Nat.le_refl _)).trans hX5 (Nat.le_refl _)).trans hX6 (Nat.le_refl _))).addr k (by omega))) rfl ?_
                    refine WL.yd (Yd.load1 Tryz.isAgg5 rfl (((hS.ext (((((hX1.trans hX2 (Nat.le_refl _)).trans hX3 (Nat.le_refl _)).trans hX4 (Nat.le_refl _)).trans hX5 (Nat.le_refl _)).trans hX6 (Nat.le_refl _))).at k (by omega)).rd 0 rfl)) rfl ?_
                    refine zya rfl rfl ?_
                    refine WL.nil (WP.thenC (WC.ofFr [(26, _), (1, _), (12, _), (24, _), (253, _), (254, _), (255, _)] ⟨rfl, rfl, rfl, rfl, rfl, rfl, rfl, trivial⟩ (WC.region ?_)))
                    refine zym rfl rfl ?_
                    refine zym rfl rfl ?_
                    refine WL.part 260 rfl (fun g260 => ?_) (fun g260 => ?_)
                    · try simp only [zq1, zq2, zq3, zq4, zq5, zq6, zq7, zq8] at g260
                      refine WL.ydg rfl (Yd.move rfl) rfl ?_
                      refine WL.ydg rfl (Yd.lss rfl rfl) rfl ?_
                      refine WL.yd (Yd.pickT rfl rfl) rfl ?_
                      refine zya rfl rfl ?_
                      refine WL.nil (WP.blkNormal (WP.thenC (WC.ofFr [(24, _), (1, _), (12, _), (253, _), (254, _), (255, _)] ⟨rfl, rfl, rfl, rfl, rfl, rfl, trivial⟩ (WC.region ?_))))
                      refine WL.yd (Yd.add rfl rfl (wr64 ⟨by omega, by omega⟩)) rfl ?_
                      refine zym rfl rfl ?_
                      refine WL.nil ?_
                      exact WP.againF (k + 1) hkl (by omega) ⟨rfl, rfl, (by show some (Value.bool _) = some (Value.bool _); rw [fineK_succ hkl, g260, Bool.true_and]; first | rfl | (congr 2; exact decide_eq_decide.2 ⟨fun h => by omega, fun h => by omega⟩)), rfl, rfl, rfl, trivial⟩ (fun _ h => nomatch h) (fun _ => List.nodup_nil)
                    · try simp only [zq1, zq2, zq3, zq4, zq5, zq6, zq7, zq8] at g260
                      refine WL.skip rfl rfl ?_
                      refine WL.skip rfl rfl ?_
                      refine WL.yd (Yd.pickF rfl rfl) rfl ?_
                      refine zya rfl rfl ?_
                      refine WL.nil (WP.blkNormal (WP.thenC (WC.ofFr [(24, _), (1, _), (12, _), (253, _), (254, _), (255, _)] ⟨rfl, rfl, rfl, rfl, rfl, rfl, trivial⟩ (WC.region ?_))))
                      refine WL.yd (Yd.add rfl rfl (wr64 ⟨by omega, by omega⟩)) rfl ?_
                      refine zym rfl rfl ?_
                      refine WL.nil ?_
                      exact WP.againF (k + 1) hkl (by omega) ⟨rfl, rfl, (by show some (Value.bool _) = some (Value.bool _); rw [fineK_succ hkl, g260]; rfl), rfl, rfl, rfl, trivial⟩ (fun _ h => nomatch h) (fun _ => List.nodup_nil)
                  · try simp only [zq1, zq2, zq3, zq4, zq5, zq6, zq7, zq8] at c256
                    obtain rfl : k = l.length := by omega
                    refine WC.exit ?_
                    refine WP.thenExit ?_
                    refine WP.thenExit ?_
                    refine WP.blkHit ?_
                    refine WP.thenC (WC.seq (WC.ofFr [(1, _), (12, _), (24, _)] ⟨rfl, rfl, rfl, trivial⟩ (WC.region ?_)))
                    refine zym rfl rfl ?_
                    refine zym rfl rfl ?_
                    refine WL.part 266 rfl (fun g266 => ?_) (fun g266 => ?_)
                    · try simp only [zq1, zq2, zq3, zq4, zq5, zq6, zq7, zq8] at g266
                      refine WL.ydg rfl (Yd.move rfl) rfl ?_
                      refine WL.sog rfl (SO.callP Tryz.call33 rfl (fun w hI => right_g l a l.length c D6 (hS.ext (((((hX1.trans hX2 (Nat.le_refl _)).trans hX3 (Nat.le_refl _)).trans hX4 (Nat.le_refl _)).trans hX5 (Nat.le_refl _)).trans hX6 (Nat.le_refl _))) (by omega) hc (by have h8 := (openE_iff.1 ((fine_iff hl2).1 ((fineK_all l).symm.trans g266))).lo; exact h8) _ hI.imm)) rfl ?_
                      rintro _ _ _ ⟨rfl, rfl, rfl⟩
                      refine WL.yd (Yd.pickT rfl rfl) rfl ?_
                      refine zya rfl rfl ?_
                      refine WL.nil (WP.thenC (WC.seq (WC.ofFr [(27, _), (12, _), (24, _)] ⟨rfl, rfl, rfl, trivial⟩ (WC.region ?_))))
                      refine WL.ofFr [(27, _), (24, _), (12, _)] ⟨rfl, rfl, rfl, trivial⟩ ?_
                      refine WL.cutD 16 2 285 (.bool true) ?_ ?_
                      · skip
                        refine zym rfl rfl ?_
                        refine WL.yd (Yd.eql rfl rfl) rfl ?_
                        refine zym rfl rfl ?_
                        refine zym rfl rfl ?_
                        refine WL.part 273 rfl (fun g273 => ?_) (fun g273 => ?_)
                        · try simp only [zq1, zq2, zq3, zq4, zq5, zq6, zq7, zq8] at g273
                          refine WL.ydg rfl (Yd.move rfl) rfl ?_
                          refine WL.ydg rfl (Yd.not rfl) rfl ?_
                          refine WL.yd (Yd.pickT rfl rfl) rfl ?_
                          refine WL.yd (Yd.eqB Tryz.underlying4 rfl rfl) rfl ?_
                          refine WL.know 277 (.bool true) rfl (congrArg Value.bool (eqSelf (told10 hl2 ((fineK_all l).symm.trans g273)))) ?_
                          refine zym rfl rfl ?_
                          refine WL.ydg rfl (Yd.move rfl) rfl ?_
                          refine WL.ydg rfl (Yd.neq rfl rfl) rfl ?_
                          refine WL.ydg rfl (Yd.move rfl) rfl ?_
                          refine WL.part 281 rfl (fun g281 => ?_) (fun g281 => ?_)
                          · try simp only [zq1, zq2, zq3, zq4, zq5, zq6, zq7, zq8] at g281
                            refine WL.skip rfl rfl ?_
                            refine WL.ydg rfl (Yd.pickT rfl rfl) rfl ?_
                            refine WL.yd (Yd.pickT rfl rfl) rfl ?_
                            refine zym rfl rfl ?_
                            refine WL.nil ?_
                            exact WP.cutEnd ⟨rfl, rfl, trivial⟩
                          · try simp only [zq1, zq2, zq3, zq4, zq5, zq6, zq7, zq8] at g281
                            refine WL.ydg rfl (Yd.move rfl) rfl ?_
                            refine WL.know 282 (.bool true) rfl (congrArg Value.bool (decide_eq_true ((readH_told hl2).2.1 (by omega)).2)) ?_
                            refine WL.ydg rfl (Yd.pickF rfl rfl) rfl ?_
                            refine WL.yd (Yd.pickT rfl rfl) rfl ?_
                            refine zym rfl rfl ?_
                            refine WL.nil ?_
                            exact WP.cutEnd ⟨rfl, rfl, trivial⟩
                        · try simp only [zq1, zq2, zq3, zq4, zq5, zq6, zq7, zq8] at g273
                          refine WL.skip rfl rfl ?_
                          refine WL.skip rfl rfl ?_
                          refine WL.yd (Yd.pickF rfl rfl) rfl ?_
                          refine WL.yd (Yd.eqB Tryz.underlying4 rfl rfl) rfl ?_
                          refine WL.know 277 (.bool true) rfl (congrArg Value.bool (eqSelf (decide_eq_false (fun h9 => by have h8 := ((readH_told hl2).1.1 h9).1; rw [← fineK_all, g273] at h8; cases h8)).symm)) ?_
                          refine zym rfl rfl ?_
                          refine WL.ydg rfl (Yd.move rfl) rfl ?_
                          refine WL.ydg rfl (Yd.neq rfl rfl) rfl ?_
                          refine WL.ydg rfl (Yd.move rfl) rfl ?_
                          refine WL.part 281 rfl (fun g281 => ?_) (fun g281 => ?_)
                          · try simp only [zq1, zq2, zq3, zq4, zq5, zq6, zq7, zq8] at g281
                            refine WL.skip rfl rfl ?_
                            refine WL.ydg rfl (Yd.pickT rfl rfl) rfl ?_
                            refine WL.yd (Yd.pickT rfl rfl) rfl ?_
                            refine zym rfl rfl ?_
                            refine WL.nil ?_
                            exact WP.cutEnd ⟨rfl, rfl, trivial⟩
                          · try simp only [zq1, zq2, zq3, zq4, zq5, zq6, zq7, zq8] at g281
                            refine WL.ydg rfl (Yd.move rfl) rfl ?_
                            refine WL.know 282 (.bool true) rfl (congrArg Value.bool (decide_eq_true ((readH_told hl2).2.1 (by omega)).2)) ?_
                            refine WL.ydg rfl (Yd.pickF rfl rfl) rfl ?_
                            refine WL.yd (Yd.pickT rfl rfl) rfl ?_
                            refine zym rfl rfl ?_
                            refine WL.nil ?_
                            exact WP.cutEnd ⟨rfl, rfl, trivial⟩
                      · skip
                        refine WL.ofFr [(285, _), (12, _)] ⟨rfl, rfl, trivial⟩ ?_
                        refine WL.cutD 12 2 297 (.bool true) ?_ ?_
                        · skip
                          refine WL.ydg rfl (Yd.move rfl) rfl ?_
                          refine WL.ydg rfl (Yd.eql rfl rfl) rfl ?_
                          refine WL.ydg rfl (Yd.move rfl) rfl ?_
                          refine WL.part 288 rfl (fun g288 => ?_) (fun g288 => ?_)
                          · try simp only [zq1, zq2, zq3, zq4, zq5, zq6, zq7, zq8] at g288
                            refine WL.skip rfl rfl ?_
                            refine WL.skip rfl rfl ?_
                            refine WL.ydg rfl (Yd.pickT rfl rfl) rfl ?_
                            refine WL.ydg rfl (Yd.move rfl) rfl ?_
                            refine WL.skip rfl rfl ?_
                            refine WL.skip rfl rfl ?_
                            refine WL.ydg rfl (Yd.pickT rfl rfl) rfl ?_
                            refine WL.yd (Yd.pickT rfl rfl) rfl ?_
                            refine zym rfl rfl ?_
                            refine WL.nil ?_
                            exact WP.cutEnd ⟨rfl, trivial⟩
                          · try simp only [zq1, zq2, zq3, zq4, zq5, zq6, zq7, zq8] at g288
                            refine WL.ydg rfl (Yd.move rfl) rfl ?_
                            refine WL.ydg rfl (Yd.eql rfl rfl) rfl ?_
                            refine WL.ydg rfl (Yd.pickF rfl rfl) rfl ?_
                            refine WL.ydg rfl (Yd.move rfl) rfl ?_
                            refine WL.part 292 rfl (fun g292 => ?_) (fun g292 => ?_)
                            · try simp only [zq1, zq2, zq3, zq4, zq5, zq6, zq7, zq8] at g292
                              refine WL.skip rfl rfl ?_
                              refine WL.skip rfl rfl ?_
                              refine WL.ydg rfl (Yd.pickT rfl rfl) rfl ?_
                              refine WL.yd (Yd.pickT rfl rfl) rfl ?_
                              refine zym rfl rfl ?_
                              refine WL.nil ?_
                              exact WP.cutEnd ⟨rfl, trivial⟩
                            · try simp only [zq1, zq2, zq3, zq4, zq5, zq6, zq7, zq8] at g292
                              refine WL.ydg rfl (Yd.move rfl) rfl ?_
                              refine WL.ydg rfl (Yd.eql rfl rfl) rfl ?_
                              refine WL.know 294 (.bool true) rfl (congrArg Value.bool (decide_eq_true (by have := (readH_told hl2).2.2; omega))) ?_
                              refine WL.ydg rfl (Yd.pickF rfl rfl) rfl ?_
                              refine WL.yd (Yd.pickT rfl rfl) rfl ?_
                              refine zym rfl rfl ?_
                              refine WL.nil ?_
                              exact WP.cutEnd ⟨rfl, trivial⟩
                        · skip
                          refine WL.sog rfl (SO.callP Tryz.call13 rfl (fun w hI => awake_g D6 hL6 _ hI.imm)) rfl ?_
                          rintro _ _ _ ⟨rfl, rfl, rfl⟩
                          refine WL.yd (Yd.pickT rfl rfl) rfl ?_
                          refine zya rfl rfl ?_
                          refine WL.nil (WP.thenC (WC.ret ?_))
                          refine WP.ret1 rfl rfl Tryz.results10 (RV.tmp rfl) (fun w hI => ⟨rfl, hI.keep⟩)
                    · try simp only [zq1, zq2, zq3, zq4, zq5, zq6, zq7, zq8] at g266
                      refine WL.skip rfl rfl ?_
                      refine WL.skip rfl rfl ?_
                      refine WL.yd (Yd.pickF rfl rfl) rfl ?_
                      refine zya rfl rfl ?_
                      refine WL.nil (WP.thenC (WC.seq (WC.ofFr [(27, _), (12, _), (24, _)] ⟨rfl, rfl, rfl, trivial⟩ (WC.region ?_))))
                      refine WL.ofFr [(27, _), (24, _), (12, _)] ⟨rfl, rfl, rfl, trivial⟩ ?_
                      refine WL.cutD 16 2 285 (.bool true) ?_ ?_
                      · skip
                        refine zym rfl rfl ?_
                        refine WL.yd (Yd.eql rfl rfl) rfl ?_
                        refine zym rfl rfl ?_
                        refine zym rfl rfl ?_
                        refine WL.part 273 rfl (fun g273 => ?_) (fun g273 => ?_)
                        · try simp only [zq1, zq2, zq3, zq4, zq5, zq6, zq7, zq8] at g273
                          exact absurd (g266.symm.trans g273) (by simp)
                        · try simp only [zq1, zq2, zq3, zq4, zq5, zq6, zq7, zq8] at g273
                          refine WL.skip rfl rfl ?_
                          refine WL.skip rfl rfl ?_
                          refine WL.yd (Yd.pickF rfl rfl) rfl ?_
                          refine WL.yd (Yd.eqB Tryz.underlying4 rfl rfl) rfl ?_
                          refine WL.know 277 (.bool true) rfl (congrArg Value.bool (eqSelf (decide_eq_false (fun h9 => by have h8 := ((readH_told hl2).1.1 h9).1; rw [← fineK_all, g273] at h8; cases h8)).symm)) ?_
                          refine zym rfl rfl ?_
                          refine WL.ydg rfl (Yd.move rfl) rfl ?_
                          refine WL.ydg rfl (Yd.neq rfl rfl) rfl ?_
                          refine WL.ydg rfl (Yd.move rfl) rfl ?_
                          refine WL.part 281 rfl (fun g281 => ?_) (fun g281 => ?_)
                          · try simp only [zq1, zq2, zq3, zq4, zq5, zq6, zq7, zq8] at g281
                            refine WL.skip rfl rfl ?_
                            refine WL.ydg rfl (Yd.pickT rfl rfl) rfl ?_
                            refine WL.yd (Yd.pickT rfl rfl) rfl ?_
                            refine zym rfl rfl ?_
                            refine WL.nil ?_
                            exact WP.cutEnd ⟨rfl, rfl, trivial⟩
                          · try simp only [zq1, zq2, zq3, zq4, zq5, zq6, zq7, zq8] at g281
                            exact absurd ((readH_told hl2).2.1 (by omega)).1 (by rw [← fineK_all, g266]; simp)
                      · skip
                        refine WL.ofFr [(285, _), (12, _)] ⟨rfl, rfl, trivial⟩ ?_
                        refine WL.cutD 12 2 297 (.bool true) ?_ ?_
                        · skip
                          refine WL.ydg rfl (Yd.move rfl) rfl ?_
                          refine WL.ydg rfl (Yd.eql rfl rfl) rfl ?_
                          refine WL.ydg rfl (Yd.move rfl) rfl ?_
                          refine WL.part 288 rfl (fun g288 => ?_) (fun g288 => ?_)
                          · try simp only [zq1, zq2, zq3, zq4, zq5, zq6, zq7, zq8] at g288
                            refine WL.skip rfl rfl ?_
                            refine WL.skip rfl rfl ?_
                            refine WL.ydg rfl (Yd.pickT rfl rfl) rfl ?_
                            refine WL.ydg rfl (Yd.move rfl) rfl ?_
                            refine WL.skip rfl rfl ?_
                            refine WL.skip rfl rfl ?_
                            refine WL.ydg rfl (Yd.pickT rfl rfl) rfl ?_
                            refine WL.yd (Yd.pickT rfl rfl) rfl ?_
                            refine zym rfl rfl ?_
                            refine WL.nil ?_
                            exact WP.cutEnd ⟨rfl, trivial⟩
                          · try simp only [zq1, zq2, zq3, zq4, zq5, zq6, zq7, zq8] at g288
                            refine WL.ydg rfl (Yd.move rfl) rfl ?_
                            refine WL.ydg rfl (Yd.eql rfl rfl) rfl ?_
                            refine WL.ydg rfl (Yd.pickF rfl rfl) rfl ?_
                            refine WL.ydg rfl (Yd.move rfl) rfl ?_
                            refine WL.part 292 rfl (fun g292 => ?_) (fun g292 => ?_)
                            · try simp only [zq1, zq2, zq3, zq4, zq5, zq6, zq7, zq8] at g292
                              refine WL.skip rfl rfl ?_
                              refine WL.skip rfl rfl ?_
                              refine WL.ydg rfl (Yd.pickT rfl rfl) rfl ?_
                              refine WL.yd (Yd.pickT rfl rfl) rfl ?_
                              refine zym rfl rfl ?_
                              refine WL.nil ?_
                              exact WP.cutEnd ⟨rfl, trivial⟩
                            · try simp only [zq1, zq2, zq3, zq4, zq5, zq6, zq7, zq8] at g292
                              refine WL.ydg rfl (Yd.move rfl) rfl ?_
                              refine WL.ydg rfl (Yd.eql rfl rfl) rfl ?_
                              refine WL.know 294 (.bool true) rfl (congrArg Value.bool (decide_eq_true (by have := (readH_told hl2).2.2; omega))) ?_
                              refine WL.ydg rfl (Yd.pickF rfl rfl) rfl ?_
                              refine WL.yd (Yd.pickT rfl rfl) rfl ?_
                              refine zym rfl rfl ?_
                              refine WL.nil ?_
                              exact WP.cutEnd ⟨rfl, trivial⟩
                        · skip
                          refine WL.sog rfl (SO.callP Tryz.call13 rfl (fun w hI => awake_g D6 hL6 _ hI.imm)) rfl ?_
                          rintro _ _ _ ⟨rfl, rfl, rfl⟩
                          refine WL.yd (Yd.pickT rfl rfl) rfl ?_
                          refine zya rfl rfl ?_
                          refine WL.nil (WP.thenC (WC.ret ?_))
                          refine WP.ret1 rfl rfl Tryz.results10 (RV.tmp rfl) (fun w hI => ⟨rfl, hI.keep⟩)
            · skip
              refine WC.seq (WC.ofFr [(21, _), (12, _), (10, _), (8, _), (6, _), (4, _), (0, _), (1, _)] ⟨rfl, rfl, rfl, rfl, rfl, rfl, rfl, rfl, trivial⟩ (WC.region ?_))
              refine zym rfl rfl ?_
              refine WL.yd (Yd.lenStr rfl Tryz.underlying9 rfl) rfl ?_
              refine WL.yd (Yd.gtr rfl rfl) rfl ?_
              refine WL.nil (WP.thenC ?_)
              refine WC.cond rfl (fun c224 => ?_) (fun c224 => ?_)
              · try simp only [zq1, zq2, zq3, zq4, zq5, zq6, zq7, zq8] at c224
                refine WC.ofFr [(21, _), (12, _), (10, _), (8, _), (6, _), (4, _), (1, _)] ⟨rfl, rfl, rfl, rfl, rfl, rfl, rfl, trivial⟩ (WC.region ?_)
                refine zya rfl rfl ?_
                refine WL.nil ?_
                exact WP.join () trivial (fun aa ww h => at_fr h ⟨rfl, rfl, rfl, rfl, rfl, (by show some (it _) = some (it _); rw [if_pos (by omega)]), trivial⟩)
              · try simp only [zq1, zq2, zq3, zq4, zq5, zq6, zq7, zq8] at c224
                refine WC.skip ?_
                exact WP.join () trivial (fun aa ww h => at_fr h ⟨rfl, rfl, rfl, rfl, rfl, (by show some (it _) = some (it _); rw [if_neg (by omega)]), trivial⟩)

end Go.Proofs.YtaebnllfmkcpgaaGreatDoor
