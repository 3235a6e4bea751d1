import Derived.Test.YtaebnllfmkcpgaaGreatDoorXN
set_option linter.unusedSimpArgs false
set_option linter.unusedVariables false
set_option linter.all false
set_option maxRecDepth 100000
set_option maxHeartbeats 1000000
namespace Go.Proofs.YtaebnllfmkcpgaaGreatDoor
open Go.W Go.Bk

theorem mem_gt {α : Type} [Inhabited α] {l : List α} {x : α} (h : x ∈ l) : ∃ i, i < l.length ∧ gt l i = x := by
  obtain ⟨i, hi, e⟩ := List.mem_iff_getElem.1 h
  exact ⟨i, hi, by simp [gt, List.getD, hi, e]⟩
theorem ret_no {b : Bool} {p : Prop} (h : b = true ↔ p) (hn : ¬ p) : Ending.returned (Value.bool false) = .returned (.bool b) := by
  cases b
  · rfl
  · exact absurd (h.1 rfl) hn
theorem ret_yes {b : Bool} {p : Prop} (h : b = true ↔ p) (hp : p) : Ending.returned (Value.bool true) = .returned (.bool b) := by
  rw [h.2 hp]

theorem in02_g (n lo hi : Int) (w : World) : Gives Tryz.prog 73 [it n, it lo, it hi] w (.bool (inB n lo hi)) := by
  unfold Gives
  refine enter Tryz.func73 rfl 15 Tryz.ntmps73 (zqb rfl) (Inv.start (D := fun _ => none) (by intro _ _ h; cases h)) ?_
  refine WC.seq (WC.ofFr [(0, _), (1, _), (2, _)] ⟨rfl, rfl, rfl, trivial⟩ (WC.region ?_))
  refine zya rfl rfl ?_
  refine WL.nil (WP.thenC (WC.seq (WC.ofFr [(6, _), (0, _), (1, _), (2, _)] ⟨rfl, rfl, rfl, rfl, trivial⟩ (WC.region ?_))))
  refine zym rfl rfl ?_
  refine zym rfl rfl ?_
  refine WL.yd (Yd.leq rfl rfl) rfl ?_
  refine zym rfl rfl ?_
  refine WL.part 10 rfl (fun g10 => ?_) (fun g10 => ?_)
  · try simp only [zq1, zq2, zq3, zq4, zq5, zq6, zq7, zq8] at g10
    refine WL.ydg rfl (Yd.move rfl) rfl ?_
    refine WL.ydg rfl (Yd.move rfl) rfl ?_
    refine WL.ydg rfl (Yd.leq rfl rfl) rfl ?_
    refine WL.yd (Yd.pickT rfl rfl) rfl ?_
    refine zya rfl rfl ?_
    refine WL.nil (WP.thenC (WC.ret ?_))
    refine WP.ret1 rfl rfl Tryz.results73 (RV.tmp rfl) (fun w hI => ⟨ret_bool (by rw [Bool.eq_iff_iff]; simp [inB]; omega), hI.keep⟩)
  · try simp only [zq1, zq2, zq3, zq4, zq5, zq6, zq7, zq8] at g10
    refine WL.skip rfl rfl ?_
    refine WL.skip rfl rfl ?_
    refine WL.skip rfl rfl ?_
    refine WL.yd (Yd.pickF rfl rfl) rfl ?_
    refine zya rfl rfl ?_
    refine WL.nil (WP.thenC (WC.ret ?_))
    refine WP.ret1 rfl rfl Tryz.results73 (RV.tmp rfl) (fun w hI => ⟨ret_bool (by rw [Bool.eq_iff_iff]; simp [inB]; omega), hI.keep⟩)

theorem in04_g (n lo hi : Int) (w : World) : Gives Tryz.prog 81 [it n, it lo, it hi] w (.bool (inB n lo hi)) := by
  unfold Gives
  refine enter Tryz.func81 rfl 15 Tryz.ntmps81 (zqb rfl) (Inv.start (D := fun _ => none) (by intro _ _ h; cases h)) ?_
  refine WC.seq (WC.ofFr [(0, _), (1, _), (2, _)] ⟨rfl, rfl, rfl, trivial⟩ (WC.region ?_))
  refine zya rfl rfl ?_
  refine WL.nil (WP.thenC (WC.seq (WC.ofFr [(6, _), (0, _), (1, _), (2, _)] ⟨rfl, rfl, rfl, rfl, trivial⟩ (WC.region ?_))))
  refine zym rfl rfl ?_
  refine zym rfl rfl ?_
  refine WL.yd (Yd.leq rfl rfl) rfl ?_
  refine zym rfl rfl ?_
  refine WL.part 10 rfl (fun g10 => ?_) (fun g10 => ?_)
  · try simp only [zq1, zq2, zq3, zq4, zq5, zq6, zq7, zq8] at g10
    refine WL.ydg rfl (Yd.move rfl) rfl ?_
    refine WL.ydg rfl (Yd.move rfl) rfl ?_
    refine WL.ydg rfl (Yd.leq rfl rfl) rfl ?_
    refine WL.yd (Yd.pickT rfl rfl) rfl ?_
    refine zya rfl rfl ?_
    refine WL.nil (WP.thenC (WC.ret ?_))
    refine WP.ret1 rfl rfl Tryz.results81 (RV.tmp rfl) (fun w hI => ⟨ret_bool (by rw [Bool.eq_iff_iff]; simp [inB]; omega), hI.keep⟩)
  · try simp only [zq1, zq2, zq3, zq4, zq5, zq6, zq7, zq8] at g10
    refine WL.skip rfl rfl ?_
    refine WL.skip rfl rfl ?_
    refine WL.skip rfl rfl ?_
    refine WL.yd (Yd.pickF rfl rfl) rfl ?_
    refine zya rfl rfl ?_
    refine WL.nil (WP.thenC (WC.ret ?_))
    refine WP.ret1 rfl rfl Tryz.results81 (RV.tmp rfl) (fun w hI => ⟨ret_bool (by rw [Bool.eq_iff_iff]; simp [inB]; omega), hI.keep⟩)

theorem in10_g (n lo hi : Int) (w : World) : Gives Tryz.prog 83 [it n, it lo, it hi] w (.bool (inB n lo hi)) := by
  unfold Gives
  refine enter Tryz.func83 rfl 15 Tryz.ntmps83 (zqb rfl) (Inv.start (D := fun _ => none) (by intro _ _ h; cases h)) ?_
  refine WC.seq (WC.ofFr [(0, _), (1, _), (2, _)] ⟨rfl, rfl, rfl, trivial⟩ (WC.region ?_))
  refine zya rfl rfl ?_
  refine WL.nil (WP.thenC (WC.seq (WC.ofFr [(6, _), (0, _), (1, _), (2, _)] ⟨rfl, rfl, rfl, rfl, trivial⟩ (WC.region ?_))))
  refine zym rfl rfl ?_
  refine zym rfl rfl ?_
  refine WL.yd (Yd.leq rfl rfl) rfl ?_
  refine zym rfl rfl ?_
  refine WL.part 10 rfl (fun g10 => ?_) (fun g10 => ?_)
  · try simp only [zq1, zq2, zq3, zq4, zq5, zq6, zq7, zq8] at g10
    refine WL.ydg rfl (Yd.move rfl) rfl ?_
    refine WL.ydg rfl (Yd.move rfl) rfl ?_
    refine WL.ydg rfl (Yd.leq rfl rfl) rfl ?_
    refine WL.yd (Yd.pickT rfl rfl) rfl ?_
    refine zya rfl rfl ?_
    refine WL.nil (WP.thenC (WC.ret ?_))
    refine WP.ret1 rfl rfl Tryz.results83 (RV.tmp rfl) (fun w hI => ⟨ret_bool (by rw [Bool.eq_iff_iff]; simp [inB]; omega), hI.keep⟩)
  · try simp only [zq1, zq2, zq3, zq4, zq5, zq6, zq7, zq8] at g10
    refine WL.skip rfl rfl ?_
    refine WL.skip rfl rfl ?_
    refine WL.skip rfl rfl ?_
    refine WL.yd (Yd.pickF rfl rfl) rfl ?_
    refine zya rfl rfl ?_
    refine WL.nil (WP.thenC (WC.ret ?_))
    refine WP.ret1 rfl rfl Tryz.results83 (RV.tmp rfl) (fun w hI => ⟨ret_bool (by rw [Bool.eq_iff_iff]; simp [inB]; omega), hI.keep⟩)

theorem in12_g (n lo hi : Int) (w : World) : Gives Tryz.prog 85 [it n, it lo, it hi] w (.bool (inB n lo hi)) := by
  unfold Gives
  refine enter Tryz.func85 rfl 15 Tryz.ntmps85 (zqb rfl) (Inv.start (D := fun _ => none) (by intro _ _ h; cases h)) ?_
  refine WC.seq (WC.ofFr [(0, _), (1, _), (2, _)] ⟨rfl, rfl, rfl, trivial⟩ (WC.region ?_))
  refine zya rfl rfl ?_
  refine WL.nil (WP.thenC (WC.seq (WC.ofFr [(6, _), (0, _), (1, _), (2, _)] ⟨rfl, rfl, rfl, rfl, trivial⟩ (WC.region ?_))))
  refine zym rfl rfl ?_
  refine zym rfl rfl ?_
  refine WL.yd (Yd.leq rfl rfl) rfl ?_
  refine zym rfl rfl ?_
  refine WL.part 10 rfl (fun g10 => ?_) (fun g10 => ?_)
  · try simp only [zq1, zq2, zq3, zq4, zq5, zq6, zq7, zq8] at g10
    refine WL.ydg rfl (Yd.move rfl) rfl ?_
    refine WL.ydg rfl (Yd.move rfl) rfl ?_
    refine WL.ydg rfl (Yd.leq rfl rfl) rfl ?_
    refine WL.yd (Yd.pickT rfl rfl) rfl ?_
    refine zya rfl rfl ?_
    refine WL.nil (WP.thenC (WC.ret ?_))
    refine WP.ret1 rfl rfl Tryz.results85 (RV.tmp rfl) (fun w hI => ⟨ret_bool (by rw [Bool.eq_iff_iff]; simp [inB]; omega), hI.keep⟩)
  · try simp only [zq1, zq2, zq3, zq4, zq5, zq6, zq7, zq8] at g10
    refine WL.skip rfl rfl ?_
    refine WL.skip rfl rfl ?_
    refine WL.skip rfl rfl ?_
    refine WL.yd (Yd.pickF rfl rfl) rfl ?_
    refine zya rfl rfl ?_
    refine WL.nil (WP.thenC (WC.ret ?_))
    refine WP.ret1 rfl rfl Tryz.results85 (RV.tmp rfl) (fun w hI => ⟨ret_bool (by rw [Bool.eq_iff_iff]; simp [inB]; omega), hI.keep⟩)

theorem span04_g (x : Sp) (hi : Int) (hh : hi ≤ 100) (w : World) : Gives Tryz.prog 82 [.agg #[it x.lo, it x.hi], it hi] w (.bool (nearB x hi)) := by
  unfold Gives
  refine enter Tryz.func82 rfl 29 Tryz.ntmps82 (zqb rfl) (Inv.start (D := fun _ => none) (by intro _ _ h; cases h)) ?_
  refine WC.seq (WC.ofFr [(0, _), (1, _)] ⟨rfl, rfl, trivial⟩ (WC.region ?_))
  refine WL.so (SO.box rfl rfl) rfl ?_
  rintro _ _ _ ⟨b2, hb2, rfl, rfl, rfl⟩
  refine zya rfl rfl ?_
  refine WL.nil (WP.thenC (WC.seq (WC.ofFr [(4, _), (2, _), (1, _)] ⟨rfl, rfl, rfl, trivial⟩ (WC.region ?_))))
  refine WL.yd (Yd.fieldAddr FA114_0 rfl) rfl ?_
  refine WL.yd (Yd.load1 Tryz.isAgg3 rfl (by first | exact ro0 rfl rfl)) rfl ?_
  refine WL.yd (Yd.leq rfl rfl) rfl ?_
  refine zym rfl rfl ?_
  refine WL.part 8 rfl (fun g8 => ?_) (fun g8 => ?_)
  · try simp only [zq1, zq2, zq3, zq4, zq5, zq6, zq7, zq8] at g8
    refine WL.ydg rfl (Yd.fieldAddr FA114_0 rfl) rfl ?_
    refine WL.ydg rfl (Yd.load1 Tryz.isAgg3 rfl (by first | exact ro0 rfl rfl)) rfl ?_
    refine WL.ydg rfl (Yd.fieldAddr FA114_1 rfl) rfl ?_
    refine WL.ydg rfl (Yd.load1 Tryz.isAgg3 rfl (by first | exact ro0 rfl rfl)) rfl ?_
    refine WL.ydg rfl (Yd.leq rfl rfl) rfl ?_
    refine WL.yd (Yd.pickT rfl rfl) rfl ?_
    refine zym rfl rfl ?_
    refine WL.part 15 rfl (fun g15 => ?_) (fun g15 => ?_)
    · try simp only [zq1, zq2, zq3, zq4, zq5, zq6, zq7, zq8] at g15
      refine WL.ydg rfl (Yd.fieldAddr FA114_1 rfl) rfl ?_
      refine WL.ydg rfl (Yd.load1 Tryz.isAgg3 rfl (by first | exact ro0 rfl rfl)) rfl ?_
      refine WL.ydg rfl (Yd.move rfl) rfl ?_
      refine WL.ydg rfl (Yd.leq rfl rfl) rfl ?_
      refine WL.yd (Yd.pickT rfl rfl) rfl ?_
      refine zym rfl rfl ?_
      refine WL.part 21 rfl (fun g21 => ?_) (fun g21 => ?_)
      · try simp only [zq1, zq2, zq3, zq4, zq5, zq6, zq7, zq8] at g21
        refine WL.ydg rfl (Yd.fieldAddr FA114_1 rfl) rfl ?_
        refine WL.ydg rfl (Yd.load1 Tryz.isAgg3 rfl (by first | exact ro0 rfl rfl)) rfl ?_
        refine WL.ydg rfl (Yd.fieldAddr FA114_0 rfl) rfl ?_
        refine WL.ydg rfl (Yd.load1 Tryz.isAgg3 rfl (by first | exact ro0 rfl rfl)) rfl ?_
        refine WL.ydg rfl (Yd.sub rfl rfl (wr64 ⟨by omega, by omega⟩)) rfl ?_
        refine WL.ydg rfl (Yd.leq rfl rfl) rfl ?_
        refine WL.yd (Yd.pickT rfl rfl) rfl ?_
        refine zya rfl rfl ?_
        refine WL.nil (WP.thenC (WC.ret ?_))
        refine WP.ret1 rfl rfl Tryz.results82 (RV.tmp rfl) (fun w hI => ⟨ret_bool (by rw [Bool.eq_iff_iff]; simp [nearB, spB]; omega), hI.keep⟩)
      · try simp only [zq1, zq2, zq3, zq4, zq5, zq6, zq7, zq8] at g21
        refine WL.skip rfl rfl ?_
        refine WL.skip rfl rfl ?_
        refine WL.skip rfl rfl ?_
        refine WL.skip rfl rfl ?_
        refine WL.skip rfl rfl ?_
        refine WL.skip rfl rfl ?_
        refine WL.yd (Yd.pickF rfl rfl) rfl ?_
        refine zya rfl rfl ?_
        refine WL.nil (WP.thenC (WC.ret ?_))
        refine WP.ret1 rfl rfl Tryz.results82 (RV.tmp rfl) (fun w hI => ⟨ret_bool (by rw [Bool.eq_iff_iff]; simp [nearB, spB]; omega), hI.keep⟩)
    · try simp only [zq1, zq2, zq3, zq4, zq5, zq6, zq7, zq8] at g15
      refine WL.skip rfl rfl ?_
      refine WL.skip rfl rfl ?_
      refine WL.skip rfl rfl ?_
      refine WL.skip rfl rfl ?_
      refine WL.yd (Yd.pickF rfl rfl) rfl ?_
      refine zym rfl rfl ?_
      refine WL.skip rfl rfl ?_
      refine WL.skip rfl rfl ?_
      refine WL.skip rfl rfl ?_
      refine WL.skip rfl rfl ?_
      refine WL.skip rfl rfl ?_
      refine WL.skip rfl rfl ?_
      refine WL.yd (Yd.pickF rfl rfl) rfl ?_
      refine zya rfl rfl ?_
      refine WL.nil (WP.thenC (WC.ret ?_))
      refine WP.ret1 rfl rfl Tryz.results82 (RV.tmp rfl) (fun w hI => ⟨ret_bool (by rw [Bool.eq_iff_iff]; simp [nearB, spB]; omega), hI.keep⟩)
  · try simp only [zq1, zq2, zq3, zq4, zq5, zq6, zq7, zq8] at g8
    refine WL.skip rfl rfl ?_
    refine WL.skip rfl rfl ?_
    refine WL.skip rfl rfl ?_
    refine WL.skip rfl rfl ?_
    refine WL.skip rfl rfl ?_
    refine WL.yd (Yd.pickF rfl rfl) rfl ?_
    refine zym rfl rfl ?_
    refine WL.skip rfl rfl ?_
    refine WL.skip rfl rfl ?_
    refine WL.skip rfl rfl ?_
    refine WL.skip rfl rfl ?_
    refine WL.yd (Yd.pickF rfl rfl) rfl ?_
    refine zym rfl rfl ?_
    refine WL.skip rfl rfl ?_
    refine WL.skip rfl rfl ?_
    refine WL.skip rfl rfl ?_
    refine WL.skip rfl rfl ?_
    refine WL.skip rfl rfl ?_
    refine WL.skip rfl rfl ?_
    refine WL.yd (Yd.pickF rfl rfl) rfl ?_
    refine zya rfl rfl ?_
    refine WL.nil (WP.thenC (WC.ret ?_))
    refine WP.ret1 rfl rfl Tryz.results82 (RV.tmp rfl) (fun w hI => ⟨ret_bool (by rw [Bool.eq_iff_iff]; simp [nearB, spB]; omega), hI.keep⟩)

theorem span12_g (x : Sp) (hi : Int) (w : World) : Gives Tryz.prog 86 [.agg #[it x.lo, it x.hi], it hi] w (.bool (spB x 0 hi)) := by
  unfold Gives
  refine enter Tryz.func86 rfl 21 Tryz.ntmps86 (zqb rfl) (Inv.start (D := fun _ => none) (by intro _ _ h; cases h)) ?_
  refine WC.seq (WC.ofFr [(0, _), (1, _)] ⟨rfl, rfl, trivial⟩ (WC.region ?_))
  refine WL.so (SO.box rfl rfl) rfl ?_
  rintro _ _ _ ⟨b2, hb2, rfl, rfl, rfl⟩
  refine zya rfl rfl ?_
  refine WL.nil (WP.thenC (WC.seq (WC.ofFr [(4, _), (2, _), (1, _)] ⟨rfl, rfl, rfl, trivial⟩ (WC.region ?_))))
  refine WL.yd (Yd.fieldAddr FA114_0 rfl) rfl ?_
  refine WL.yd (Yd.load1 Tryz.isAgg3 rfl (by first | exact ro0 rfl rfl)) rfl ?_
  refine WL.yd (Yd.leq rfl rfl) rfl ?_
  refine zym rfl rfl ?_
  refine WL.part 8 rfl (fun g8 => ?_) (fun g8 => ?_)
  · try simp only [zq1, zq2, zq3, zq4, zq5, zq6, zq7, zq8] at g8
    refine WL.ydg rfl (Yd.fieldAddr FA114_0 rfl) rfl ?_
    refine WL.ydg rfl (Yd.load1 Tryz.isAgg3 rfl (by first | exact ro0 rfl rfl)) rfl ?_
    refine WL.ydg rfl (Yd.fieldAddr FA114_1 rfl) rfl ?_
    refine WL.ydg rfl (Yd.load1 Tryz.isAgg3 rfl (by first | exact ro0 rfl rfl)) rfl ?_
    refine WL.ydg rfl (Yd.leq rfl rfl) rfl ?_
    refine WL.yd (Yd.pickT rfl rfl) rfl ?_
    refine zym rfl rfl ?_
    refine WL.part 15 rfl (fun g15 => ?_) (fun g15 => ?_)
    · try simp only [zq1, zq2, zq3, zq4, zq5, zq6, zq7, zq8] at g15
      refine WL.ydg rfl (Yd.fieldAddr FA114_1 rfl) rfl ?_
      refine WL.ydg rfl (Yd.load1 Tryz.isAgg3 rfl (by first | exact ro0 rfl rfl)) rfl ?_
      refine WL.ydg rfl (Yd.move rfl) rfl ?_
      refine WL.ydg rfl (Yd.leq rfl rfl) rfl ?_
      refine WL.yd (Yd.pickT rfl rfl) rfl ?_
      refine zya rfl rfl ?_
      refine WL.nil (WP.thenC (WC.ret ?_))
      refine WP.ret1 rfl rfl Tryz.results86 (RV.tmp rfl) (fun w hI => ⟨ret_bool (by rw [Bool.eq_iff_iff]; simp [spB]; omega), hI.keep⟩)
    · try simp only [zq1, zq2, zq3, zq4, zq5, zq6, zq7, zq8] at g15
      refine WL.skip rfl rfl ?_
      refine WL.skip rfl rfl ?_
      refine WL.skip rfl rfl ?_
      refine WL.skip rfl rfl ?_
      refine WL.yd (Yd.pickF rfl rfl) rfl ?_
      refine zya rfl rfl ?_
      refine WL.nil (WP.thenC (WC.ret ?_))
      refine WP.ret1 rfl rfl Tryz.results86 (RV.tmp rfl) (fun w hI => ⟨ret_bool (by rw [Bool.eq_iff_iff]; simp [spB]; omega), hI.keep⟩)
  · try simp only [zq1, zq2, zq3, zq4, zq5, zq6, zq7, zq8] at g8
    refine WL.skip rfl rfl ?_
    refine WL.skip rfl rfl ?_
    refine WL.skip rfl rfl ?_
    refine WL.skip rfl rfl ?_
    refine WL.skip rfl rfl ?_
    refine WL.yd (Yd.pickF rfl rfl) rfl ?_
    refine zym rfl rfl ?_
    refine WL.skip rfl rfl ?_
    refine WL.skip rfl rfl ?_
    refine WL.skip rfl rfl ?_
    refine WL.skip rfl rfl ?_
    refine WL.yd (Yd.pickF rfl rfl) rfl ?_
    refine zya rfl rfl ?_
    refine WL.nil (WP.thenC (WC.ret ?_))
    refine WP.ret1 rfl rfl Tryz.results86 (RV.tmp rfl) (fun w hI => ⟨ret_bool (by rw [Bool.eq_iff_iff]; simp [spB]; omega), hI.keep⟩)

end Go.Proofs.YtaebnllfmkcpgaaGreatDoor
namespace Go.Bk
open Go.W Go.Bk Go.Proofs.YtaebnllfmkcpgaaGreatDoor
theorem SurfOk.gw {s : Surf} (h : SurfOk s) {k : Nat} (hk : k < s.water.length) : nearB (gt s.water k) 30 = true := by
  have := h.water _ (gtB_mem hk); unfold nearB; rw [this.1, Bool.true_and, decide_eq_true_eq]; exact this.2
theorem SurfOk.gv {s : Surf} (h : SurfOk s) {k : Nat} (hk : k < s.waves.length) : nearB (gt s.waves k) 10 = true := by
  have := h.waves _ (gtB_mem hk); unfold nearB; rw [this.1, Bool.true_and, decide_eq_true_eq]; exact this.2
theorem SurfOk.gh {s : Surf} (h : SurfOk s) {k : Nat} (hk : k < s.huts.length) : hutB s.rows (gt s.huts k) = true := by
  have h1 := h.huts _ (gtB_mem hk); unfold hutB inB; simp only [Bool.and_eq_true, decide_eq_true_eq]; exact ⟨⟨h1.1, h1.2.1⟩, h1.2.2⟩
end Go.Bk
namespace Go.Proofs.YtaebnllfmkcpgaaGreatDoor
open Go.W Go.Bk
theorem near_iff {x : Sp} {hi : Int} (h : nearB x hi = true) : spB x 0 hi = true ∧ x.hi - x.lo ≤ 3 := by
  unfold nearB at h; rw [Bool.and_eq_true, decide_eq_true_eq] at h; exact h
theorem surfOk_of {s : Surf} (hA : (1 ≤ s.rows ∧ s.rows ≤ 6) ∧ (0 ≤ s.step ∧ s.step ≤ 4) ∧ s.water.length ≤ 8 ∧ s.waves.length = s.water.length ∧ s.huts.length ≤ 5) (hF : ∀ i, i < s.water.length → nearB (gt s.water i) 30 = true ∧ nearB (gt s.waves i) 10 = true) (hG : ∀ i, i < s.huts.length → hutB s.rows (gt s.huts i) = true) : SurfOk s := by
  obtain ⟨a, b, c, d, e⟩ := hA
  refine ⟨a, b, c, d, e, fun x hx => ?_, fun x hx => ?_, fun x hx => ?_⟩
  · obtain ⟨i, hi, rfl⟩ := mem_gt hx; exact near_iff (hF i hi).1
  · obtain ⟨i, hi, rfl⟩ := mem_gt hx; exact near_iff (hF i (by omega)).2
  · obtain ⟨i, hi, rfl⟩ := mem_gt hx
    have := hG i hi; unfold hutB inB at this; simp only [Bool.and_eq_true, decide_eq_true_eq] at this; exact ⟨this.1.1, this.1.2, this.2⟩

theorem rvSurf_g (s : Surf) (m : SurfM) (D : Imm) (hR : SurfR D s m) (w : World) (hH : Holds D w) : Gives Tryz.prog 40 [surfV s m] w (.bool (surfB s)) := by
  unfold Gives
  obtain ⟨⟨wa, wn, wc⟩, ⟨va, vn, vc⟩, ⟨ha, hn, hc⟩⟩ := m
  obtain rfl : wn = s.water.length := hR.w.len'
  obtain rfl : vn = s.waves.length := hR.v.len'
  obtain rfl : hn = s.huts.length := hR.h.len'
  have hRw : SlL D 2 (s.water.map spC) wa s.water.length := hR.w
  have hRv : SlL D 2 (s.waves.map spC) va s.waves.length := hR.v
  have hRh : SlL D 3 (s.huts.map hutC) ha s.huts.length := hR.h
  have nw : s.water.length ≤ 9223372036854775807 := hR.nw
  have nv : s.waves.length ≤ 9223372036854775807 := hR.nv
  have nh : s.huts.length ≤ 9223372036854775807 := hR.nh
  refine enter Tryz.func40 rfl 91 Tryz.ntmps40 (zqb rfl) (Inv.start hH) ?_
  refine WC.seq (WC.ofFr [(0, _)] ⟨rfl, trivial⟩ (WC.region ?_))
  refine WL.so (SO.box rfl rfl) rfl ?_
  rintro _ _ _ ⟨b1, hb1, rfl, rfl, rfl⟩
  refine zya rfl rfl ?_
  refine WL.nil (WP.thenC (WC.seq (WC.seq (WC.ofFr [(2, _), (1, _)] ⟨rfl, rfl, trivial⟩ (WC.region ?_)))))
  refine WL.yd (Yd.fieldAddr FA25_0 rfl) rfl ?_
  refine WL.yd (Yd.load1 Tryz.isAgg3 rfl (by first | exact ro0 rfl rfl)) rfl ?_
  refine WL.so (SO.callP Tryz.call81 rfl (fun w hI => in04_g _ _ _ _)) rfl ?_
  rintro _ _ _ ⟨rfl, rfl, rfl⟩
  refine WL.yd (Yd.not rfl) rfl ?_
  refine zym rfl rfl ?_
  refine WL.part 10 rfl (fun g10 => ?_) (fun g10 => ?_)
  · try simp only [zq1, zq2, zq3, zq4, zq5, zq6, zq7, zq8] at g10
    refine WL.skip rfl rfl ?_
    refine WL.skip rfl rfl ?_
    refine WL.skip rfl rfl ?_
    refine WL.skip rfl rfl ?_
    refine WL.yd (Yd.pickT rfl rfl) rfl ?_
    refine zym rfl rfl ?_
    refine WL.skip rfl rfl ?_
    refine WL.skip rfl rfl ?_
    refine WL.skip rfl rfl ?_
    refine WL.skip rfl rfl ?_
    refine WL.yd (Yd.pickT rfl rfl) rfl ?_
    refine zym rfl rfl ?_
    refine WL.skip rfl rfl ?_
    refine WL.skip rfl rfl ?_
    refine WL.skip rfl rfl ?_
    refine WL.skip rfl rfl ?_
    refine WL.skip rfl rfl ?_
    refine WL.skip rfl rfl ?_
    refine WL.skip rfl rfl ?_
    refine WL.yd (Yd.pickT rfl rfl) rfl ?_
    refine zym rfl rfl ?_
    refine WL.skip rfl rfl ?_
    refine WL.skip rfl rfl ?_
    refine WL.skip rfl rfl ?_
    refine WL.skip rfl rfl ?_
    refine WL.yd (Yd.pickT rfl rfl) rfl ?_
    refine WL.nil (WP.thenC ?_)
    refine WC.condT rfl ?_
    refine WC.seq (WC.ofFr [(2, _), (1, _)] ⟨rfl, rfl, trivial⟩ (WC.region ?_))
    refine zya rfl rfl ?_
    refine WL.nil (WP.thenC (WC.ret (WP.thenRet ?_)))
    refine WP.ret1 rfl rfl Tryz.results40 (RV.tmp rfl) (fun w hI => ⟨ret_no surfB_iff (by intro h; have h1 := h.rows; have h2 := h.step; have h3 := h.nwater; have h4 := h.same; have h5 := h.nhuts; (simp only [inB, spB, decide_eq_true_eq, decide_eq_false_iff_not] at *; omega)), hI.keep⟩)
  · try simp only [zq1, zq2, zq3, zq4, zq5, zq6, zq7, zq8] at g10
    refine WL.ydg rfl (Yd.fieldAddr FA25_1 rfl) rfl ?_
    refine WL.ydg rfl (Yd.load1 Tryz.isAgg3 rfl (by first | exact ro0 rfl rfl)) rfl ?_
    refine WL.sog rfl (SO.callP Tryz.call81 rfl (fun w hI => in04_g _ _ _ _)) rfl ?_
    rintro _ _ _ ⟨rfl, rfl, rfl⟩
    refine WL.ydg rfl (Yd.not rfl) rfl ?_
    refine WL.yd (Yd.pickF rfl rfl) rfl ?_
    refine zym rfl rfl ?_
    refine WL.part 16 rfl (fun g16 => ?_) (fun g16 => ?_)
    · try simp only [zq1, zq2, zq3, zq4, zq5, zq6, zq7, zq8] at g16
      refine WL.skip rfl rfl ?_
      refine WL.skip rfl rfl ?_
      refine WL.skip rfl rfl ?_
      refine WL.skip rfl rfl ?_
      refine WL.yd (Yd.pickT rfl rfl) rfl ?_
      refine zym rfl rfl ?_
      refine WL.skip rfl rfl ?_
      refine WL.skip rfl rfl ?_
      refine WL.skip rfl rfl ?_
      refine WL.skip rfl rfl ?_
      refine WL.skip rfl rfl ?_
      refine WL.skip rfl rfl ?_
      refine WL.skip rfl rfl ?_
      refine WL.yd (Yd.pickT rfl rfl) rfl ?_
      refine zym rfl rfl ?_
      refine WL.skip rfl rfl ?_
      refine WL.skip rfl rfl ?_
      refine WL.skip rfl rfl ?_
      refine WL.skip rfl rfl ?_
      refine WL.yd (Yd.pickT rfl rfl) rfl ?_
      refine WL.nil (WP.thenC ?_)
      refine WC.condT rfl ?_
      refine WC.seq (WC.ofFr [(2, _), (1, _)] ⟨rfl, rfl, trivial⟩ (WC.region ?_))
      refine zya rfl rfl ?_
      refine WL.nil (WP.thenC (WC.ret (WP.thenRet ?_)))
      refine WP.ret1 rfl rfl Tryz.results40 (RV.tmp rfl) (fun w hI => ⟨ret_no surfB_iff (by intro h; have h1 := h.rows; have h2 := h.step; have h3 := h.nwater; have h4 := h.same; have h5 := h.nhuts; (simp only [inB, spB, decide_eq_true_eq, decide_eq_false_iff_not] at *; omega)), hI.keep⟩)
    · try simp only [zq1, zq2, zq3, zq4, zq5, zq6, zq7, zq8] at g16
      refine WL.ydg rfl (Yd.fieldAddr FA25_2 rfl) rfl ?_
      refine WL.ydg rfl (Yd.load1 Tryz.isAgg22 rfl (by first | exact ro0 rfl rfl)) rfl ?_
      refine WL.ydg rfl (Yd.lenS rfl Tryz.underlying22 rfl) rfl ?_
      refine WL.ydg rfl (Yd.gtr rfl rfl) rfl ?_
      refine WL.yd (Yd.pickF rfl rfl) rfl ?_
      refine zym rfl rfl ?_
      refine WL.part 22 rfl (fun g22 => ?_) (fun g22 => ?_)
      · try simp only [zq1, zq2, zq3, zq4, zq5, zq6, zq7, zq8] at g22
        refine WL.skip rfl rfl ?_
        refine WL.skip rfl rfl ?_
        refine WL.skip rfl rfl ?_
        refine WL.skip rfl rfl ?_
        refine WL.skip rfl rfl ?_
        refine WL.skip rfl rfl ?_
        refine WL.skip rfl rfl ?_
        refine WL.yd (Yd.pickT rfl rfl) rfl ?_
        refine zym rfl rfl ?_
        refine WL.skip rfl rfl ?_
        refine WL.skip rfl rfl ?_
        refine WL.skip rfl rfl ?_
        refine WL.skip rfl rfl ?_
        refine WL.yd (Yd.pickT rfl rfl) rfl ?_
        refine WL.nil (WP.thenC ?_)
        refine WC.condT rfl ?_
        refine WC.seq (WC.ofFr [(2, _), (1, _)] ⟨rfl, rfl, trivial⟩ (WC.region ?_))
        refine zya rfl rfl ?_
        refine WL.nil (WP.thenC (WC.ret (WP.thenRet ?_)))
        refine WP.ret1 rfl rfl Tryz.results40 (RV.tmp rfl) (fun w hI => ⟨ret_no surfB_iff (by intro h; have h1 := h.rows; have h2 := h.step; have h3 := h.nwater; have h4 := h.same; have h5 := h.nhuts; (simp only [inB, spB, decide_eq_true_eq, decide_eq_false_iff_not] at *; omega)), hI.keep⟩)
      · try simp only [zq1, zq2, zq3, zq4, zq5, zq6, zq7, zq8] at g22
        refine WL.ydg rfl (Yd.fieldAddr FA25_3 rfl) rfl ?_
        refine WL.ydg rfl (Yd.load1 Tryz.isAgg22 rfl (by first | exact ro0 rfl rfl)) rfl ?_
        refine WL.ydg rfl (Yd.lenS rfl Tryz.underlying22 rfl) rfl ?_
        refine WL.ydg rfl (Yd.fieldAddr FA25_2 rfl) rfl ?_
        refine WL.ydg rfl (Yd.load1 Tryz.isAgg22 rfl (by first | exact ro0 rfl rfl)) rfl ?_
        refine WL.ydg rfl (Yd.lenS rfl Tryz.underlying22 rfl) rfl ?_
        refine WL.ydg rfl (Yd.neq rfl rfl) rfl ?_
        refine WL.yd (Yd.pickF rfl rfl) rfl ?_
        refine zym rfl rfl ?_
        refine WL.part 31 rfl (fun g31 => ?_) (fun g31 => ?_)
        · try simp only [zq1, zq2, zq3, zq4, zq5, zq6, zq7, zq8] at g31
          refine WL.skip rfl rfl ?_
          refine WL.skip rfl rfl ?_
          refine WL.skip rfl rfl ?_
          refine WL.skip rfl rfl ?_
          refine WL.yd (Yd.pickT rfl rfl) rfl ?_
          refine WL.nil (WP.thenC ?_)
          refine WC.condT rfl ?_
          refine WC.seq (WC.ofFr [(2, _), (1, _)] ⟨rfl, rfl, trivial⟩ (WC.region ?_))
          refine zya rfl rfl ?_
          refine WL.nil (WP.thenC (WC.ret (WP.thenRet ?_)))
          refine WP.ret1 rfl rfl Tryz.results40 (RV.tmp rfl) (fun w hI => ⟨ret_no surfB_iff (by intro h; have h1 := h.rows; have h2 := h.step; have h3 := h.nwater; have h4 := h.same; have h5 := h.nhuts; (simp only [inB, spB, decide_eq_true_eq, decide_eq_false_iff_not] at *; omega)), hI.keep⟩)
        · try simp only [zq1, zq2, zq3, zq4, zq5, zq6, zq7, zq8] at g31
          refine WL.ydg rfl (Yd.fieldAddr FA25_4 rfl) rfl ?_
          refine WL.ydg rfl (Yd.load1 Tryz.isAgg23 rfl (by first | exact ro0 rfl rfl)) rfl ?_
          refine WL.ydg rfl (Yd.lenS rfl Tryz.underlying23 rfl) rfl ?_
          refine WL.ydg rfl (Yd.gtr rfl rfl) rfl ?_
          refine WL.yd (Yd.pickF rfl rfl) rfl ?_
          refine WL.nil (WP.thenC ?_)
          refine WC.cond rfl (fun c36 => ?_) (fun c36 => ?_)
          · try simp only [zq1, zq2, zq3, zq4, zq5, zq6, zq7, zq8] at c36
            refine WC.seq (WC.ofFr [(2, _), (1, _)] ⟨rfl, rfl, trivial⟩ (WC.region ?_))
            refine zya rfl rfl ?_
            refine WL.nil (WP.thenC (WC.ret (WP.thenRet ?_)))
            refine WP.ret1 rfl rfl Tryz.results40 (RV.tmp rfl) (fun w hI => ⟨ret_no surfB_iff (by intro h; have h1 := h.rows; have h2 := h.step; have h3 := h.nwater; have h4 := h.same; have h5 := h.nhuts; (simp only [inB, spB, decide_eq_true_eq, decide_eq_false_iff_not] at *; omega)), hI.keep⟩)
          · try simp only [zq1, zq2, zq3, zq4, zq5, zq6, zq7, zq8] at c36
            refine WC.skip (WP.thenC (WC.seq (WC.seq (WC.ofFr [(2, _), (1, _)] ⟨rfl, rfl, trivial⟩ (WC.region ?_)))))
            refine zya rfl rfl ?_
            refine WL.nil (WP.thenC (WC.block ?_))
            have hA : (1 ≤ s.rows ∧ s.rows ≤ 6) ∧ (0 ≤ s.step ∧ s.step ≤ 4) ∧ s.water.length ≤ 8 ∧ s.waves.length = s.water.length ∧ s.huts.length ≤ 5 := by (simp only [inB, spB, decide_eq_true_eq, decide_eq_false_iff_not] at *; omega)
            refine WC.loopT [] (fun k : Nat => [(1, pt b1), (3, nt k)]) (fun _ => [(b1, .cells (List.toArray [it s.rows, it s.step, .slice wa s.water.length wc, .slice va s.waves.length vc, .slice ha s.huts.length hc]) 25 (0, 0))]) (fun k => k ≤ s.water.length ∧ ∀ i, i < k → nearB (gt s.water i) 30 = true ∧ nearB (gt s.waves i) 10 = true) (fun k => s.water.length - k) 0 ⟨Nat.zero_le _, fun _ h => absurd h (Nat.not_lt_zero _)⟩ rfl ⟨rfl, rfl, trivial⟩ ?_
            rintro k ⟨hk, hF⟩
            refine WC.seq (WC.seq (WC.ofFr [(1, _), (3, _)] ⟨rfl, rfl, trivial⟩ (WC.region ?_)))
            refine zym rfl rfl ?_
            refine WL.yd (Yd.fieldAddr FA25_2 rfl) rfl ?_
            refine WL.yd (Yd.load1 Tryz.isAgg22 rfl (by first | exact ro0 rfl rfl)) rfl ?_
            refine WL.yd (Yd.lenS rfl Tryz.underlying22 rfl) rfl ?_
            refine WL.yd (Yd.lss rfl rfl) rfl ?_
            refine WL.nil (WP.thenC ?_)
            refine WC.cond rfl (fun c41 => ?_) (fun c41 => ?_)
            · try simp only [zq1, zq2, zq3, zq4, zq5, zq6, zq7, zq8] at c41
              have hkl : k < s.water.length := by omega
              refine WC.skip (WP.thenC (WC.seq (WC.block (WC.seq (WC.ofFr [(1, _), (3, _)] ⟨rfl, rfl, trivial⟩ (WC.region ?_))))))
              refine WL.yd (Yd.fieldAddr FA25_2 rfl) rfl ?_
              refine WL.yd (Yd.load1 Tryz.isAgg22 rfl (by first | exact ro0 rfl rfl)) rfl ?_
              refine zym rfl rfl ?_
              refine WL.yd (Yd.indexS Tryz.underlying22 Tryz.sizeOf114 rfl rfl (by omega) (by omega) (by first | exact hRw.addr k (by omega) | exact hRv.addr k (by omega) | exact hRh.addr k (by omega))) rfl ?_
              refine WL.yd (Yd.loadN Tryz.isAgg114 Tryz.sizeOf114 rfl (vs := [_, _]) rfl (by first | exact rn0 (n := 2) rfl rfl | exact ((hRw.at k (by omega)).rdn 0 2 rfl) | exact ((hRv.at k (by omega)).rdn 0 2 rfl))) rfl ?_
              refine WL.so (SO.callP Tryz.call82 rfl (fun w hI => span04_g (gt s.water k) 30 (by decide) _)) rfl ?_
              rintro _ _ _ ⟨rfl, rfl, rfl⟩
              refine WL.yd (Yd.not rfl) rfl ?_
              refine zym rfl rfl ?_
              refine WL.part 51 rfl (fun g51 => ?_) (fun g51 => ?_)
              · try simp only [zq1, zq2, zq3, zq4, zq5, zq6, zq7, zq8] at g51
                refine WL.skip rfl rfl ?_
                refine WL.skip rfl rfl ?_
                refine WL.skip rfl rfl ?_
                refine WL.skip rfl rfl ?_
                refine WL.skip rfl rfl ?_
                refine WL.skip rfl rfl ?_
                refine WL.skip rfl rfl ?_
                refine WL.yd (Yd.pickT rfl rfl) rfl ?_
                refine WL.nil (WP.thenC ?_)
                refine WC.condT rfl ?_
                refine WC.seq (WC.ofFr [(1, _), (3, _)] ⟨rfl, rfl, trivial⟩ (WC.region ?_))
                refine zya rfl rfl ?_
                refine WL.nil (WP.thenC (WC.ret (WP.blkRet (WP.thenRet (WP.thenRet (WP.blkRet (WP.thenRet ?_)))))))
                refine WP.ret1 rfl rfl Tryz.results40 (RV.tmp rfl) (fun w hI => ⟨ret_no surfB_iff (by intro h; have h1 := h.gw hkl; have h2 := h.gv (k := k) (by omega); simp_all), hI.keep⟩)
              · try simp only [zq1, zq2, zq3, zq4, zq5, zq6, zq7, zq8] at g51
                refine WL.ydg rfl (Yd.fieldAddr FA25_3 rfl) rfl ?_
                refine WL.ydg rfl (Yd.load1 Tryz.isAgg22 rfl (by first | exact ro0 rfl rfl)) rfl ?_
                refine WL.ydg rfl (Yd.move rfl) rfl ?_
                refine WL.ydg rfl (Yd.indexS Tryz.underlying22 Tryz.sizeOf114 rfl rfl (by omega) (by omega) (by first | exact hRw.addr k (by omega) | exact hRv.addr k (by omega) | exact hRh.addr k (by omega))) rfl ?_
                refine WL.ydg rfl (Yd.loadN Tryz.isAgg114 Tryz.sizeOf114 rfl (vs := [_, _]) rfl (by first | exact rn0 (n := 2) rfl rfl | exact ((hRw.at k (by omega)).rdn 0 2 rfl) | exact ((hRv.at k (by omega)).rdn 0 2 rfl))) rfl ?_
                refine WL.sog rfl (SO.callP Tryz.call82 rfl (fun w hI => span04_g (gt s.waves k) 10 (by decide) _)) rfl ?_
                rintro _ _ _ ⟨rfl, rfl, rfl⟩
                refine WL.ydg rfl (Yd.not rfl) rfl ?_
                refine WL.yd (Yd.pickF rfl rfl) rfl ?_
                refine WL.nil (WP.thenC ?_)
                refine WC.cond rfl (fun c59 => ?_) (fun c59 => ?_)
                · try simp only [zq1, zq2, zq3, zq4, zq5, zq6, zq7, zq8] at c59
                  refine WC.seq (WC.ofFr [(1, _), (3, _)] ⟨rfl, rfl, trivial⟩ (WC.region ?_))
                  refine zya rfl rfl ?_
                  refine WL.nil (WP.thenC (WC.ret (WP.blkRet (WP.thenRet (WP.thenRet (WP.blkRet (WP.thenRet ?_)))))))
                  refine WP.ret1 rfl rfl Tryz.results40 (RV.tmp rfl) (fun w hI => ⟨ret_no surfB_iff (by intro h; have h1 := h.gw hkl; have h2 := h.gv (k := k) (by omega); simp_all), hI.keep⟩)
                · try simp only [zq1, zq2, zq3, zq4, zq5, zq6, zq7, zq8] at c59
                  refine WC.skip (WP.blkNormal (WP.thenC (WC.ofFr [(1, _), (3, _)] ⟨rfl, rfl, trivial⟩ (WC.region ?_))))
                  refine zym rfl rfl ?_
                  refine WL.yd (Yd.add rfl rfl (wr64 ⟨by omega, by omega⟩)) rfl ?_
                  refine zya rfl rfl ?_
                  refine WL.nil ?_
                  exact WP.againT (k + 1) ⟨hkl, (fun i hi => by rcases Nat.lt_or_ge i k with h | h; exact hF i h; obtain rfl : i = k := (by omega); exact ⟨g51, c59⟩)⟩ (by omega) [] _ rfl rfl ⟨rfl, rfl, trivial⟩
            · try simp only [zq1, zq2, zq3, zq4, zq5, zq6, zq7, zq8] at c41
              obtain rfl : k = s.water.length := by omega
              refine WC.exit ?_
              refine WP.thenExit ?_
              refine WP.thenExit ?_
              refine WP.blkHit ?_
              refine WP.thenC (WC.seq (WC.seq (WC.ofFr [(1, _)] ⟨rfl, trivial⟩ (WC.region ?_))))
              refine zya rfl rfl ?_
              refine WL.nil (WP.thenC (WC.block ?_))
              refine WC.loopT [] (fun k : Nat => [(1, pt b1), (4, nt k)]) (fun _ => [(b1, .cells (List.toArray [it s.rows, it s.step, .slice wa s.water.length wc, .slice va s.waves.length vc, .slice ha s.huts.length hc]) 25 (0, 0))]) (fun k => k ≤ s.huts.length ∧ ∀ i, i < k → hutB s.rows (gt s.huts i) = true) (fun k => s.huts.length - k) 0 ⟨Nat.zero_le _, fun _ h => absurd h (Nat.not_lt_zero _)⟩ rfl ⟨rfl, rfl, trivial⟩ ?_
              rintro k ⟨hk, hG⟩
              refine WC.seq (WC.seq (WC.ofFr [(1, _), (4, _)] ⟨rfl, rfl, trivial⟩ (WC.region ?_)))
              refine zym rfl rfl ?_
              refine WL.yd (Yd.fieldAddr FA25_4 rfl) rfl ?_
              refine WL.yd (Yd.load1 Tryz.isAgg23 rfl (by first | exact ro0 rfl rfl)) rfl ?_
              refine WL.yd (Yd.lenS rfl Tryz.underlying23 rfl) rfl ?_
              refine WL.yd (Yd.lss rfl rfl) rfl ?_
              refine WL.nil (WP.thenC ?_)
              refine WC.cond rfl (fun c64 => ?_) (fun c64 => ?_)
              · try simp only [zq1, zq2, zq3, zq4, zq5, zq6, zq7, zq8] at c64
                have hkl : k < s.huts.length := by omega
                refine WC.skip (WP.thenC (WC.seq (WC.block (WC.seq (WC.ofFr [(1, _), (4, _)] ⟨rfl, rfl, trivial⟩ (WC.region ?_))))))
                refine WL.yd (Yd.fieldAddr FA25_4 rfl) rfl ?_
                refine WL.yd (Yd.load1 Tryz.isAgg23 rfl (by first | exact ro0 rfl rfl)) rfl ?_
                refine zym rfl rfl ?_
                refine WL.yd (Yd.indexS Tryz.underlying23 Tryz.sizeOf136 rfl rfl (by omega) (by omega) (by first | exact hRw.addr k (by omega) | exact hRv.addr k (by omega) | exact hRh.addr k (by omega))) rfl ?_
                refine WL.yd (Yd.loadN Tryz.isAgg136 Tryz.sizeOf136 rfl (vs := [_, _, _]) rfl (by first | exact rn0 (n := 3) rfl rfl | exact ((hRh.at k (by omega)).rdn 0 3 rfl))) rfl ?_
                refine WL.so (SO.alloc Tryz.zeroValue136 rfl) rfl ?_
                rintro _ _ _ ⟨b5, hb5, rfl, rfl, rfl⟩
                refine WL.so (SO.store 0 rfl Tryz.sizeOf136 rfl rfl rfl rfl (zqb rfl) (oneB_spec rfl)) rfl ?_
                rintro _ _ _ ⟨rfl, rfl, rfl⟩
                refine WL.nil (WP.thenC (WC.seq (WC.ofFr [(5, _), (1, _), (4, _)] ⟨rfl, rfl, rfl, trivial⟩ (WC.region ?_))))
                refine WL.yd (Yd.fieldAddr FA136_0 rfl) rfl ?_
                refine WL.yd (Yd.load1 Tryz.isAgg3 rfl (by first | exact ro0 rfl rfl | exact ro1 rfl rfl)) rfl ?_
                refine WL.so (SO.callP Tryz.call81 rfl (fun w hI => in04_g _ _ _ _)) rfl ?_
                rintro _ _ _ ⟨rfl, rfl, rfl⟩
                refine WL.yd (Yd.not rfl) rfl ?_
                refine zym rfl rfl ?_
                refine WL.part 76 rfl (fun g76 => ?_) (fun g76 => ?_)
                · try simp only [zq1, zq2, zq3, zq4, zq5, zq6, zq7, zq8] at g76
                  refine WL.skip rfl rfl ?_
                  refine WL.skip rfl rfl ?_
                  refine WL.skip rfl rfl ?_
                  refine WL.skip rfl rfl ?_
                  refine WL.yd (Yd.pickT rfl rfl) rfl ?_
                  refine zym rfl rfl ?_
                  refine WL.skip rfl rfl ?_
                  refine WL.skip rfl rfl ?_
                  refine WL.skip rfl rfl ?_
                  refine WL.skip rfl rfl ?_
                  refine WL.skip rfl rfl ?_
                  refine WL.skip rfl rfl ?_
                  refine WL.skip rfl rfl ?_
                  refine WL.yd (Yd.pickT rfl rfl) rfl ?_
                  refine WL.nil (WP.thenC ?_)
                  refine WC.condT rfl ?_
                  refine WC.seq (WC.ofFr [(1, _), (4, _)] ⟨rfl, rfl, trivial⟩ (WC.region ?_))
                  refine zya rfl rfl ?_
                  refine WL.nil (WP.thenC (WC.ret (WP.blkRet (WP.thenRet (WP.thenRet (WP.blkRet (WP.thenRet ?_)))))))
                  refine WP.ret1 rfl rfl Tryz.results40 (RV.tmp rfl) (fun w hI => ⟨ret_no surfB_iff (by intro h; have h1 := h.gh hkl; unfold hutB at h1; simp_all), hI.keep⟩)
                · try simp only [zq1, zq2, zq3, zq4, zq5, zq6, zq7, zq8] at g76
                  refine WL.ydg rfl (Yd.fieldAddr FA136_1 rfl) rfl ?_
                  refine WL.ydg rfl (Yd.load1 Tryz.isAgg3 rfl (by first | exact ro0 rfl rfl | exact ro1 rfl rfl)) rfl ?_
                  refine WL.sog rfl (SO.callP Tryz.call81 rfl (fun w hI => in04_g _ _ _ _)) rfl ?_
                  rintro _ _ _ ⟨rfl, rfl, rfl⟩
                  refine WL.ydg rfl (Yd.not rfl) rfl ?_
                  refine WL.yd (Yd.pickF rfl rfl) rfl ?_
                  refine zym rfl rfl ?_
                  refine WL.part 82 rfl (fun g82 => ?_) (fun g82 => ?_)
                  · try simp only [zq1, zq2, zq3, zq4, zq5, zq6, zq7, zq8] at g82
                    refine WL.skip rfl rfl ?_
                    refine WL.skip rfl rfl ?_
                    refine WL.skip rfl rfl ?_
                    refine WL.skip rfl rfl ?_
                    refine WL.skip rfl rfl ?_
                    refine WL.skip rfl rfl ?_
                    refine WL.skip rfl rfl ?_
                    refine WL.yd (Yd.pickT rfl rfl) rfl ?_
                    refine WL.nil (WP.thenC ?_)
                    refine WC.condT rfl ?_
                    refine WC.seq (WC.ofFr [(1, _), (4, _)] ⟨rfl, rfl, trivial⟩ (WC.region ?_))
                    refine zya rfl rfl ?_
                    refine WL.nil (WP.thenC (WC.ret (WP.blkRet (WP.thenRet (WP.thenRet (WP.blkRet (WP.thenRet ?_)))))))
                    refine WP.ret1 rfl rfl Tryz.results40 (RV.tmp rfl) (fun w hI => ⟨ret_no surfB_iff (by intro h; have h1 := h.gh hkl; unfold hutB at h1; simp_all), hI.keep⟩)
                  · try simp only [zq1, zq2, zq3, zq4, zq5, zq6, zq7, zq8] at g82
                    refine WL.ydg rfl (Yd.fieldAddr FA136_2 rfl) rfl ?_
                    refine WL.ydg rfl (Yd.load1 Tryz.isAgg3 rfl (by first | exact ro0 rfl rfl | exact ro1 rfl rfl)) rfl ?_
                    refine WL.ydg rfl (Yd.fieldAddr FA25_0 rfl) rfl ?_
                    refine WL.ydg rfl (Yd.load1 Tryz.isAgg3 rfl (by first | exact ro0 rfl rfl | exact ro1 rfl rfl)) rfl ?_
                    refine WL.ydg rfl (Yd.sub rfl rfl (wr64 ⟨by omega, by omega⟩)) rfl ?_
                    refine WL.sog rfl (SO.callP Tryz.call81 rfl (fun w hI => in04_g _ _ _ _)) rfl ?_
                    rintro _ _ _ ⟨rfl, rfl, rfl⟩
                    refine WL.ydg rfl (Yd.not rfl) rfl ?_
                    refine WL.yd (Yd.pickF rfl rfl) rfl ?_
                    refine WL.nil (WP.thenC ?_)
                    refine WC.cond rfl (fun c90 => ?_) (fun c90 => ?_)
                    · try simp only [zq1, zq2, zq3, zq4, zq5, zq6, zq7, zq8] at c90
                      refine WC.seq (WC.ofFr [(1, _), (4, _)] ⟨rfl, rfl, trivial⟩ (WC.region ?_))
                      refine zya rfl rfl ?_
                      refine WL.nil (WP.thenC (WC.ret (WP.blkRet (WP.thenRet (WP.thenRet (WP.blkRet (WP.thenRet ?_)))))))
                      refine WP.ret1 rfl rfl Tryz.results40 (RV.tmp rfl) (fun w hI => ⟨ret_no surfB_iff (by intro h; have h1 := h.gh hkl; unfold hutB at h1; simp_all), hI.keep⟩)
                    · try simp only [zq1, zq2, zq3, zq4, zq5, zq6, zq7, zq8] at c90
                      refine WC.skip (WP.blkNormal (WP.thenC (WC.ofFr [(1, _), (4, _)] ⟨rfl, rfl, trivial⟩ (WC.region ?_))))
                      refine zym rfl rfl ?_
                      refine WL.yd (Yd.add rfl rfl (wr64 ⟨by omega, by omega⟩)) rfl ?_
                      refine zya rfl rfl ?_
                      refine WL.nil ?_
                      exact WP.againT (k + 1) ⟨hkl, (fun i hi => by rcases Nat.lt_or_ge i k with h | h; exact hG i h; obtain rfl : i = k := (by omega); unfold hutB; rw [g76, g82, c90]; rfl)⟩ (by omega) [_] _ rfl rfl ⟨rfl, rfl, trivial⟩
              · try simp only [zq1, zq2, zq3, zq4, zq5, zq6, zq7, zq8] at c64
                obtain rfl : k = s.huts.length := by omega
                refine WC.exit ?_
                refine WP.thenExit ?_
                refine WP.thenExit ?_
                refine WP.blkHit ?_
                refine WP.thenC (WC.seq (WC.ofFr [] trivial (WC.region ?_)))
                refine zya rfl rfl ?_
                refine WL.nil (WP.thenC (WC.ret ?_))
                refine WP.ret1 rfl rfl Tryz.results40 (RV.tmp rfl) (fun w hI => ⟨ret_yes surfB_iff (surfOk_of hA hF hG), hI.keep⟩)

end Go.Proofs.YtaebnllfmkcpgaaGreatDoor
namespace Go.Proofs.YtaebnllfmkcpgaaGreatDoor
open Go.W Go.Bk

end Go.Proofs.YtaebnllfmkcpgaaGreatDoor
namespace Go.Bk
open Go.W Go.Bk Go.Proofs.YtaebnllfmkcpgaaGreatDoor
theorem FlagOk.gh {f : Flag} (h : FlagOk f) {k : Nat} (hk : k < f.hours.length) : (0 ≤ (gt f.hours k).wind.lo ∧ (gt f.hours k).wind.lo ≤ (gt f.hours k).wind.hi ∧ (gt f.hours k).wind.hi ≤ 12) ∧ 0 ≤ (gt f.hours k).thunder ∧ (gt f.hours k).thunder ≤ 2 := by
  have h1 := h.hours _ (gtB_mem hk); exact ⟨spB_iff.1 h1.1, h1.2⟩
end Go.Bk
namespace Go.Proofs.YtaebnllfmkcpgaaGreatDoor
open Go.W Go.Bk
theorem flagOk_of {f : Flag} (hA : (1 ≤ f.low ∧ f.low ≤ f.high ∧ f.high ≤ 12) ∧ (1 ≤ f.quiet ∧ f.quiet ≤ 4) ∧ f.hours.length ≤ 9 ∧ f.seen.length ≤ 8) (hF : ∀ i, i < f.hours.length → (0 ≤ (gt f.hours i).wind.lo ∧ (gt f.hours i).wind.lo ≤ (gt f.hours i).wind.hi ∧ (gt f.hours i).wind.hi ≤ 12) ∧ 0 ≤ (gt f.hours i).thunder ∧ (gt f.hours i).thunder ≤ 2) (hG : ∀ i, i < f.seen.length → inB (gt f.seen i).hour 0 ((f.hours.length : Int) - 1) = true) : FlagOk f := by
  obtain ⟨a, b, c, d⟩ := hA
  refine ⟨a, b, c, d, fun x hx => ?_, fun x hx => ?_⟩
  · obtain ⟨i, hi, rfl⟩ := mem_gt hx; exact ⟨spB_iff.2 (hF i hi).1, (hF i hi).2⟩
  · obtain ⟨i, hi, rfl⟩ := mem_gt hx; exact inB_iff.1 (hG i hi)
theorem rowB_take {b : Boats} : ∀ (l : List BSeen) (m : Int) (j : Nat), rowB b m l = true → rowB b m (l.take j) = true
  | [], m, j, _ => by simp [rowB]
  | s :: l, m, 0, _ => by simp [rowB]
  | s :: l, m, j + 1, h => by
    rw [List.take_succ_cons, rowB]
    rw [rowB] at h
    simp only [Bool.and_eq_true] at h ⊢
    exact ⟨h.1, rowB_take l s.minute j h.2⟩
theorem boatsOk_of {b : Boats} (hA : (1 ≤ b.wide ∧ b.wide ≤ 8) ∧ (1 ≤ b.deep ∧ b.deep ≤ 6) ∧ (0 ≤ b.speed ∧ b.speed ≤ 3) ∧ (0 ≤ b.last ∧ b.last ≤ 12) ∧ b.seen.length ≤ 4) (hF : ∀ i, i < b.seen.length → (gt b.seen i).length ≤ 5 ∧ rowB b 0 (gt b.seen i) = true) : BoatsOk b := by
  obtain ⟨a, c, d, e, f⟩ := hA
  refine ⟨a, c, d, e, f, fun x hx => ?_⟩
  obtain ⟨i, hi, rfl⟩ := mem_gt hx; exact hF i hi
theorem horsOk_of {h : Hors} (hA : (0 ≤ h.pace ∧ h.pace ≤ 3) ∧ h.moves.length ≤ 7) (hF : ∀ i, i < h.moves.length → (0 ≤ (gt h.moves i).at_ ∧ (gt h.moves i).at_ ≤ 200) ∧ (0 ≤ (gt h.moves i).place ∧ (gt h.moves i).place ≤ 30) ∧ 1 ≤ (gt h.moves i).long.lo ∧ (gt h.moves i).long.lo ≤ (gt h.moves i).long.hi ∧ (gt h.moves i).long.hi ≤ 20) : HorsOk h := by
  refine ⟨hA.1, hA.2, fun x hx => ?_⟩
  obtain ⟨i, hi, rfl⟩ := mem_gt hx; exact hF i hi

theorem rHour_g (f : Flag) (m : FlagM) (n : Int) (D : Imm) (hR : FlagR D f m) (w : World) : Gives Tryz.prog 84 [flagV f m, it n] w (.bool (inB n 0 ((f.hours.length : Int) - 1))) := by
  unfold Gives
  obtain ⟨⟨ha, hn, hc⟩, ⟨sa, sn, sc⟩⟩ := m
  obtain rfl : hn = f.hours.length := hR.h.len'
  obtain rfl : sn = f.seen.length := hR.s.len'
  have hRh : SlL D 3 (f.hours.map hourC) ha f.hours.length := hR.h
  have hRs : SlL D 2 (f.seen.map seenC) sa f.seen.length := hR.s
  have nh : f.hours.length ≤ 9223372036854775807 := hR.nh
  have ns : f.seen.length ≤ 9223372036854775807 := hR.ns
  refine enter Tryz.func84 rfl 11 Tryz.ntmps84 (zqb rfl) (Inv.start (D := fun _ => none) (by intro _ _ h; cases h)) ?_
  refine WC.seq (WC.ofFr [(0, _), (1, _)] ⟨rfl, rfl, trivial⟩ (WC.region ?_))
  refine WL.so (SO.box rfl rfl) rfl ?_
  rintro _ _ _ ⟨b2, hb2, rfl, rfl, rfl⟩
  refine zya rfl rfl ?_
  refine WL.nil (WP.thenC (WC.seq (WC.ofFr [(4, _), (2, _), (1, _)] ⟨rfl, rfl, rfl, trivial⟩ (WC.region ?_))))
  refine zym rfl rfl ?_
  refine WL.yd (Yd.fieldAddr FA29_3 rfl) rfl ?_
  refine WL.yd (Yd.load1 Tryz.isAgg26 rfl (by first | exact ro0 rfl rfl)) rfl ?_
  refine WL.yd (Yd.lenS rfl Tryz.underlying26 rfl) rfl ?_
  refine WL.yd (Yd.sub rfl rfl (wr64 ⟨by (try dsimp only); omega, by (try dsimp only); omega⟩)) rfl ?_
  refine WL.so (SO.callP Tryz.call83 rfl (fun w hI => in10_g _ _ _ _)) rfl ?_
  rintro _ _ _ ⟨rfl, rfl, rfl⟩
  refine zya rfl rfl ?_
  refine WL.nil (WP.thenC (WC.ret ?_))
  refine WP.ret1 rfl rfl Tryz.results84 (RV.tmp rfl) (fun w hI => ⟨rfl, hI.keep⟩)

theorem rvFlag_g (f : Flag) (m : FlagM) (D : Imm) (hR : FlagR D f m) (w : World) (hH : Holds D w) : Gives Tryz.prog 41 [flagV f m] w (.bool (flagB f)) := by
  unfold Gives
  obtain ⟨⟨ha, hn, hc⟩, ⟨sa, sn, sc⟩⟩ := m
  obtain rfl : hn = f.hours.length := hR.h.len'
  obtain rfl : sn = f.seen.length := hR.s.len'
  have hRh : SlL D 3 (f.hours.map hourC) ha f.hours.length := hR.h
  have hRs : SlL D 2 (f.seen.map seenC) sa f.seen.length := hR.s
  have nh : f.hours.length ≤ 9223372036854775807 := hR.nh
  have ns : f.seen.length ≤ 9223372036854775807 := hR.ns
  refine enter Tryz.func41 rfl 92 Tryz.ntmps41 (zqb rfl) (Inv.start hH) ?_
  refine WC.seq (WC.ofFr [(0, _)] ⟨rfl, trivial⟩ (WC.region ?_))
  refine WL.so (SO.box rfl rfl) rfl ?_
  rintro _ _ _ ⟨b1, hb1, rfl, rfl, rfl⟩
  refine zya rfl rfl ?_
  refine WL.nil (WP.thenC (WC.seq (WC.seq (WC.ofFr [(2, _), (1, _)] ⟨rfl, rfl, trivial⟩ (WC.region ?_)))))
  refine WL.yd (Yd.fieldAddr FA29_0 rfl) rfl ?_
  refine WL.yd (Yd.load1 Tryz.isAgg3 rfl (by first | exact ro0 rfl rfl | exact ((hRs.at k (by omega)).rd 0 rfl))) rfl ?_
  refine WL.yd (Yd.lss rfl rfl) rfl ?_
  refine zym rfl rfl ?_
  refine WL.part 9 rfl (fun g9 => ?_) (fun g9 => ?_)
  · try simp only [zq1, zq2, zq3, zq4, zq5, zq6, zq7, zq8] at g9
    refine WL.skip rfl rfl ?_
    refine WL.skip rfl rfl ?_
    refine WL.skip rfl rfl ?_
    refine WL.skip rfl rfl ?_
    refine WL.skip rfl rfl ?_
    refine WL.yd (Yd.pickT rfl rfl) rfl ?_
    refine zym rfl rfl ?_
    refine WL.skip rfl rfl ?_
    refine WL.skip rfl rfl ?_
    refine WL.skip rfl rfl ?_
    refine WL.yd (Yd.pickT rfl rfl) rfl ?_
    refine zym rfl rfl ?_
    refine WL.skip rfl rfl ?_
    refine WL.skip rfl rfl ?_
    refine WL.skip rfl rfl ?_
    refine WL.skip rfl rfl ?_
    refine WL.yd (Yd.pickT rfl rfl) rfl ?_
    refine zym rfl rfl ?_
    refine WL.skip rfl rfl ?_
    refine WL.skip rfl rfl ?_
    refine WL.skip rfl rfl ?_
    refine WL.skip rfl rfl ?_
    refine WL.yd (Yd.pickT rfl rfl) rfl ?_
    refine zym rfl rfl ?_
    refine WL.skip rfl rfl ?_
    refine WL.skip rfl rfl ?_
    refine WL.skip rfl rfl ?_
    refine WL.skip rfl rfl ?_
    refine WL.yd (Yd.pickT rfl rfl) rfl ?_
    refine WL.nil (WP.thenC ?_)
    refine WC.condT rfl ?_
    refine WC.seq (WC.ofFr [(2, _), (1, _)] ⟨rfl, rfl, trivial⟩ (WC.region ?_))
    refine zya rfl rfl ?_
    refine WL.nil (WP.thenC (WC.ret (WP.thenRet ?_)))
    refine WP.ret1 rfl rfl Tryz.results41 (RV.tmp rfl) (fun w hI => ⟨ret_no flagB_iff (by intro h; have h1 := h.low; have h2 := h.quiet; have h3 := h.nhours; have h4 := h.nseen; (simp only [inB, spB, decide_eq_true_eq, decide_eq_false_iff_not] at *; omega)), hI.keep⟩)
  · try simp only [zq1, zq2, zq3, zq4, zq5, zq6, zq7, zq8] at g9
    refine WL.ydg rfl (Yd.fieldAddr FA29_0 rfl) rfl ?_
    refine WL.ydg rfl (Yd.load1 Tryz.isAgg3 rfl (by first | exact ro0 rfl rfl | exact ((hRs.at k (by omega)).rd 0 rfl))) rfl ?_
    refine WL.ydg rfl (Yd.fieldAddr FA29_1 rfl) rfl ?_
    refine WL.ydg rfl (Yd.load1 Tryz.isAgg3 rfl (by first | exact ro0 rfl rfl | exact ((hRs.at k (by omega)).rd 0 rfl))) rfl ?_
    refine WL.ydg rfl (Yd.gtr rfl rfl) rfl ?_
    refine WL.yd (Yd.pickF rfl rfl) rfl ?_
    refine zym rfl rfl ?_
    refine WL.part 16 rfl (fun g16 => ?_) (fun g16 => ?_)
    · try simp only [zq1, zq2, zq3, zq4, zq5, zq6, zq7, zq8] at g16
      refine WL.skip rfl rfl ?_
      refine WL.skip rfl rfl ?_
      refine WL.skip rfl rfl ?_
      refine WL.yd (Yd.pickT rfl rfl) rfl ?_
      refine zym rfl rfl ?_
      refine WL.skip rfl rfl ?_
      refine WL.skip rfl rfl ?_
      refine WL.skip rfl rfl ?_
      refine WL.skip rfl rfl ?_
      refine WL.yd (Yd.pickT rfl rfl) rfl ?_
      refine zym rfl rfl ?_
      refine WL.skip rfl rfl ?_
      refine WL.skip rfl rfl ?_
      refine WL.skip rfl rfl ?_
      refine WL.skip rfl rfl ?_
      refine WL.yd (Yd.pickT rfl rfl) rfl ?_
      refine zym rfl rfl ?_
      refine WL.skip rfl rfl ?_
      refine WL.skip rfl rfl ?_
      refine WL.skip rfl rfl ?_
      refine WL.skip rfl rfl ?_
      refine WL.yd (Yd.pickT rfl rfl) rfl ?_
      refine WL.nil (WP.thenC ?_)
      refine WC.condT rfl ?_
      refine WC.seq (WC.ofFr [(2, _), (1, _)] ⟨rfl, rfl, trivial⟩ (WC.region ?_))
      refine zya rfl rfl ?_
      refine WL.nil (WP.thenC (WC.ret (WP.thenRet ?_)))
      refine WP.ret1 rfl rfl Tryz.results41 (RV.tmp rfl) (fun w hI => ⟨ret_no flagB_iff (by intro h; have h1 := h.low; have h2 := h.quiet; have h3 := h.nhours; have h4 := h.nseen; (simp only [inB, spB, decide_eq_true_eq, decide_eq_false_iff_not] at *; omega)), hI.keep⟩)
    · try simp only [zq1, zq2, zq3, zq4, zq5, zq6, zq7, zq8] at g16
      refine WL.ydg rfl (Yd.fieldAddr FA29_1 rfl) rfl ?_
      refine WL.ydg rfl (Yd.load1 Tryz.isAgg3 rfl (by first | exact ro0 rfl rfl | exact ((hRs.at k (by omega)).rd 0 rfl))) rfl ?_
      refine WL.ydg rfl (Yd.gtr rfl rfl) rfl ?_
      refine WL.yd (Yd.pickF rfl rfl) rfl ?_
      refine zym rfl rfl ?_
      refine WL.part 21 rfl (fun g21 => ?_) (fun g21 => ?_)
      · try simp only [zq1, zq2, zq3, zq4, zq5, zq6, zq7, zq8] at g21
        refine WL.skip rfl rfl ?_
        refine WL.skip rfl rfl ?_
        refine WL.skip rfl rfl ?_
        refine WL.skip rfl rfl ?_
        refine WL.yd (Yd.pickT rfl rfl) rfl ?_
        refine zym rfl rfl ?_
        refine WL.skip rfl rfl ?_
        refine WL.skip rfl rfl ?_
        refine WL.skip rfl rfl ?_
        refine WL.skip rfl rfl ?_
        refine WL.yd (Yd.pickT rfl rfl) rfl ?_
        refine zym rfl rfl ?_
        refine WL.skip rfl rfl ?_
        refine WL.skip rfl rfl ?_
        refine WL.skip rfl rfl ?_
        refine WL.skip rfl rfl ?_
        refine WL.yd (Yd.pickT rfl rfl) rfl ?_
        refine WL.nil (WP.thenC ?_)
        refine WC.condT rfl ?_
        refine WC.seq (WC.ofFr [(2, _), (1, _)] ⟨rfl, rfl, trivial⟩ (WC.region ?_))
        refine zya rfl rfl ?_
        refine WL.nil (WP.thenC (WC.ret (WP.thenRet ?_)))
        refine WP.ret1 rfl rfl Tryz.results41 (RV.tmp rfl) (fun w hI => ⟨ret_no flagB_iff (by intro h; have h1 := h.low; have h2 := h.quiet; have h3 := h.nhours; have h4 := h.nseen; (simp only [inB, spB, decide_eq_true_eq, decide_eq_false_iff_not] at *; omega)), hI.keep⟩)
      · try simp only [zq1, zq2, zq3, zq4, zq5, zq6, zq7, zq8] at g21
        refine WL.ydg rfl (Yd.fieldAddr FA29_2 rfl) rfl ?_
        refine WL.ydg rfl (Yd.load1 Tryz.isAgg3 rfl (by first | exact ro0 rfl rfl | exact ((hRs.at k (by omega)).rd 0 rfl))) rfl ?_
        refine WL.sog rfl (SO.callP Tryz.call83 rfl (fun w hI => in10_g _ _ _ _)) rfl ?_
        rintro _ _ _ ⟨rfl, rfl, rfl⟩
        refine WL.ydg rfl (Yd.not rfl) rfl ?_
        refine WL.yd (Yd.pickF rfl rfl) rfl ?_
        refine zym rfl rfl ?_
        refine WL.part 27 rfl (fun g27 => ?_) (fun g27 => ?_)
        · try simp only [zq1, zq2, zq3, zq4, zq5, zq6, zq7, zq8] at g27
          refine WL.skip rfl rfl ?_
          refine WL.skip rfl rfl ?_
          refine WL.skip rfl rfl ?_
          refine WL.skip rfl rfl ?_
          refine WL.yd (Yd.pickT rfl rfl) rfl ?_
          refine zym rfl rfl ?_
          refine WL.skip rfl rfl ?_
          refine WL.skip rfl rfl ?_
          refine WL.skip rfl rfl ?_
          refine WL.skip rfl rfl ?_
          refine WL.yd (Yd.pickT rfl rfl) rfl ?_
          refine WL.nil (WP.thenC ?_)
          refine WC.condT rfl ?_
          refine WC.seq (WC.ofFr [(2, _), (1, _)] ⟨rfl, rfl, trivial⟩ (WC.region ?_))
          refine zya rfl rfl ?_
          refine WL.nil (WP.thenC (WC.ret (WP.thenRet ?_)))
          refine WP.ret1 rfl rfl Tryz.results41 (RV.tmp rfl) (fun w hI => ⟨ret_no flagB_iff (by intro h; have h1 := h.low; have h2 := h.quiet; have h3 := h.nhours; have h4 := h.nseen; (simp only [inB, spB, decide_eq_true_eq, decide_eq_false_iff_not] at *; omega)), hI.keep⟩)
        · try simp only [zq1, zq2, zq3, zq4, zq5, zq6, zq7, zq8] at g27
          refine WL.ydg rfl (Yd.fieldAddr FA29_3 rfl) rfl ?_
          refine WL.ydg rfl (Yd.load1 Tryz.isAgg26 rfl (by first | exact ro0 rfl rfl | exact ((hRs.at k (by omega)).rd 0 rfl))) rfl ?_
          refine WL.ydg rfl (Yd.lenS rfl Tryz.underlying26 rfl) rfl ?_
          refine WL.ydg rfl (Yd.gtr rfl rfl) rfl ?_
          refine WL.yd (Yd.pickF rfl rfl) rfl ?_
          refine zym rfl rfl ?_
          refine WL.part 33 rfl (fun g33 => ?_) (fun g33 => ?_)
          · try simp only [zq1, zq2, zq3, zq4, zq5, zq6, zq7, zq8] at g33
            refine WL.skip rfl rfl ?_
            refine WL.skip rfl rfl ?_
            refine WL.skip rfl rfl ?_
            refine WL.skip rfl rfl ?_
            refine WL.yd (Yd.pickT rfl rfl) rfl ?_
            refine WL.nil (WP.thenC ?_)
            refine WC.condT rfl ?_
            refine WC.seq (WC.ofFr [(2, _), (1, _)] ⟨rfl, rfl, trivial⟩ (WC.region ?_))
            refine zya rfl rfl ?_
            refine WL.nil (WP.thenC (WC.ret (WP.thenRet ?_)))
            refine WP.ret1 rfl rfl Tryz.results41 (RV.tmp rfl) (fun w hI => ⟨ret_no flagB_iff (by intro h; have h1 := h.low; have h2 := h.quiet; have h3 := h.nhours; have h4 := h.nseen; (simp only [inB, spB, decide_eq_true_eq, decide_eq_false_iff_not] at *; omega)), hI.keep⟩)
          · try simp only [zq1, zq2, zq3, zq4, zq5, zq6, zq7, zq8] at g33
            refine WL.ydg rfl (Yd.fieldAddr FA29_4 rfl) rfl ?_
            refine WL.ydg rfl (Yd.load1 Tryz.isAgg27 rfl (by first | exact ro0 rfl rfl | exact ((hRs.at k (by omega)).rd 0 rfl))) rfl ?_
            refine WL.ydg rfl (Yd.lenS rfl Tryz.underlying27 rfl) rfl ?_
            refine WL.ydg rfl (Yd.gtr rfl rfl) rfl ?_
            refine WL.yd (Yd.pickF rfl rfl) rfl ?_
            refine WL.nil (WP.thenC ?_)
            refine WC.cond rfl (fun c38 => ?_) (fun c38 => ?_)
            · try simp only [zq1, zq2, zq3, zq4, zq5, zq6, zq7, zq8] at c38
              refine WC.seq (WC.ofFr [(2, _), (1, _)] ⟨rfl, rfl, trivial⟩ (WC.region ?_))
              refine zya rfl rfl ?_
              refine WL.nil (WP.thenC (WC.ret (WP.thenRet ?_)))
              refine WP.ret1 rfl rfl Tryz.results41 (RV.tmp rfl) (fun w hI => ⟨ret_no flagB_iff (by intro h; have h1 := h.low; have h2 := h.quiet; have h3 := h.nhours; have h4 := h.nseen; (simp only [inB, spB, decide_eq_true_eq, decide_eq_false_iff_not] at *; omega)), hI.keep⟩)
            · try simp only [zq1, zq2, zq3, zq4, zq5, zq6, zq7, zq8] at c38
              refine WC.skip (WP.thenC (WC.seq (WC.seq (WC.ofFr [(2, _), (1, _)] ⟨rfl, rfl, trivial⟩ (WC.region ?_)))))
              refine zya rfl rfl ?_
              refine WL.nil (WP.thenC (WC.block ?_))
              have hA : (1 ≤ f.low ∧ f.low ≤ f.high ∧ f.high ≤ 12) ∧ (1 ≤ f.quiet ∧ f.quiet ≤ 4) ∧ f.hours.length ≤ 9 ∧ f.seen.length ≤ 8 := by (simp only [inB, spB, decide_eq_true_eq, decide_eq_false_iff_not] at *; omega)
              refine WC.loopT [] (fun k : Nat => [(1, pt b1), (3, nt k)]) (fun _ => [(b1, .cells (List.toArray [it f.low, it f.high, it f.quiet, .slice ha f.hours.length hc, .slice sa f.seen.length sc]) 29 (0, 0))]) (fun k => k ≤ f.hours.length ∧ ∀ i, i < k → (0 ≤ (gt f.hours i).wind.lo ∧ (gt f.hours i).wind.lo ≤ (gt f.hours i).wind.hi ∧ (gt f.hours i).wind.hi ≤ 12) ∧ 0 ≤ (gt f.hours i).thunder ∧ (gt f.hours i).thunder ≤ 2) (fun k => f.hours.length - k) 0 ⟨Nat.zero_le _, fun _ h => absurd h (Nat.not_lt_zero _)⟩ rfl ⟨rfl, rfl, trivial⟩ ?_
              rintro k ⟨hk, hF⟩
              refine WC.seq (WC.seq (WC.ofFr [(1, _), (3, _)] ⟨rfl, rfl, trivial⟩ (WC.region ?_)))
              refine zym rfl rfl ?_
              refine WL.yd (Yd.fieldAddr FA29_3 rfl) rfl ?_
              refine WL.yd (Yd.load1 Tryz.isAgg26 rfl (by first | exact ro0 rfl rfl | exact ((hRs.at k (by omega)).rd 0 rfl))) rfl ?_
              refine WL.yd (Yd.lenS rfl Tryz.underlying26 rfl) rfl ?_
              refine WL.yd (Yd.lss rfl rfl) rfl ?_
              refine WL.nil (WP.thenC ?_)
              refine WC.cond rfl (fun c43 => ?_) (fun c43 => ?_)
              · try simp only [zq1, zq2, zq3, zq4, zq5, zq6, zq7, zq8] at c43
                have hkl : k < f.hours.length := by omega
                refine WC.skip (WP.thenC (WC.seq (WC.block (WC.seq (WC.ofFr [(1, _), (3, _)] ⟨rfl, rfl, trivial⟩ (WC.region ?_))))))
                refine WL.yd (Yd.fieldAddr FA29_3 rfl) rfl ?_
                refine WL.yd (Yd.load1 Tryz.isAgg26 rfl (by first | exact ro0 rfl rfl | exact ((hRs.at k (by omega)).rd 0 rfl))) rfl ?_
                refine zym rfl rfl ?_
                refine WL.yd (Yd.indexS Tryz.underlying26 Tryz.sizeOf138 rfl rfl (by omega) (by omega) (by first | exact hRh.addr k (by omega))) rfl ?_
                refine WL.yd (Yd.loadN Tryz.isAgg138 Tryz.sizeOf138 rfl (vs := [_, _, _]) rfl (by first | exact rn0 (n := 3) rfl rfl | exact ((hRh.at k (by omega)).rdn 0 3 rfl))) rfl ?_
                refine WL.so (SO.alloc Tryz.zeroValue138 rfl) rfl ?_
                rintro _ _ _ ⟨b4, hb4, rfl, rfl, rfl⟩
                refine WL.so (SO.store 0 rfl Tryz.sizeOf138 rfl rfl rfl rfl (zqb rfl) (oneB_spec rfl)) rfl ?_
                rintro _ _ _ ⟨rfl, rfl, rfl⟩
                refine WL.nil (WP.thenC (WC.seq (WC.ofFr [(4, _), (1, _), (3, _)] ⟨rfl, rfl, rfl, trivial⟩ (WC.region ?_))))
                refine WL.yd (Yd.fieldAddr FA138_0 rfl) rfl ?_
                refine WL.yd (Yd.fieldAddr FA114_0 rfl) rfl ?_
                refine WL.yd (Yd.load1 Tryz.isAgg3 rfl (by first | exact ro0 rfl rfl | exact ro1 rfl rfl | exact ((hRs.at k (by omega)).rd 0 rfl))) rfl ?_
                refine WL.yd (Yd.lss rfl rfl) rfl ?_
                refine zym rfl rfl ?_
                refine WL.part 55 rfl (fun g55 => ?_) (fun g55 => ?_)
                · try simp only [zq1, zq2, zq3, zq4, zq5, zq6, zq7, zq8] at g55
                  refine WL.skip rfl rfl ?_
                  refine WL.skip rfl rfl ?_
                  refine WL.skip rfl rfl ?_
                  refine WL.skip rfl rfl ?_
                  refine WL.skip rfl rfl ?_
                  refine WL.skip rfl rfl ?_
                  refine WL.skip rfl rfl ?_
                  refine WL.yd (Yd.pickT rfl rfl) rfl ?_
                  refine zym rfl rfl ?_
                  refine WL.skip rfl rfl ?_
                  refine WL.skip rfl rfl ?_
                  refine WL.skip rfl rfl ?_
                  refine WL.skip rfl rfl ?_
                  refine WL.yd (Yd.pickT rfl rfl) rfl ?_
                  refine zym rfl rfl ?_
                  refine WL.skip rfl rfl ?_
                  refine WL.skip rfl rfl ?_
                  refine WL.skip rfl rfl ?_
                  refine WL.skip rfl rfl ?_
                  refine WL.yd (Yd.pickT rfl rfl) rfl ?_
                  refine WL.nil (WP.thenC ?_)
                  refine WC.condT rfl ?_
                  refine WC.seq (WC.ofFr [(1, _), (3, _)] ⟨rfl, rfl, trivial⟩ (WC.region ?_))
                  refine zya rfl rfl ?_
                  refine WL.nil (WP.thenC (WC.ret (WP.blkRet (WP.thenRet (WP.thenRet (WP.blkRet (WP.thenRet ?_)))))))
                  refine WP.ret1 rfl rfl Tryz.results41 (RV.tmp rfl) (fun w hI => ⟨ret_no flagB_iff (by intro h; have h1 := h.gh hkl; (simp only [inB, spB, decide_eq_true_eq, decide_eq_false_iff_not] at *; omega)), hI.keep⟩)
                · try simp only [zq1, zq2, zq3, zq4, zq5, zq6, zq7, zq8] at g55
                  refine WL.ydg rfl (Yd.fieldAddr FA138_0 rfl) rfl ?_
                  refine WL.ydg rfl (Yd.fieldAddr FA114_0 rfl) rfl ?_
                  refine WL.ydg rfl (Yd.load1 Tryz.isAgg3 rfl (by first | exact ro0 rfl rfl | exact ro1 rfl rfl | exact ((hRs.at k (by omega)).rd 0 rfl))) rfl ?_
                  refine WL.ydg rfl (Yd.fieldAddr FA138_0 rfl) rfl ?_
                  refine WL.ydg rfl (Yd.fieldAddr FA114_1 rfl) rfl ?_
                  refine WL.ydg rfl (Yd.load1 Tryz.isAgg3 rfl (by first | exact ro0 rfl rfl | exact ro1 rfl rfl | exact ((hRs.at k (by omega)).rd 0 rfl))) rfl ?_
                  refine WL.ydg rfl (Yd.gtr rfl rfl) rfl ?_
                  refine WL.yd (Yd.pickF rfl rfl) rfl ?_
                  refine zym rfl rfl ?_
                  refine WL.part 64 rfl (fun g64 => ?_) (fun g64 => ?_)
                  · try simp only [zq1, zq2, zq3, zq4, zq5, zq6, zq7, zq8] at g64
                    refine WL.skip rfl rfl ?_
                    refine WL.skip rfl rfl ?_
                    refine WL.skip rfl rfl ?_
                    refine WL.skip rfl rfl ?_
                    refine WL.yd (Yd.pickT rfl rfl) rfl ?_
                    refine zym rfl rfl ?_
                    refine WL.skip rfl rfl ?_
                    refine WL.skip rfl rfl ?_
                    refine WL.skip rfl rfl ?_
                    refine WL.skip rfl rfl ?_
                    refine WL.yd (Yd.pickT rfl rfl) rfl ?_
                    refine WL.nil (WP.thenC ?_)
                    refine WC.condT rfl ?_
                    refine WC.seq (WC.ofFr [(1, _), (3, _)] ⟨rfl, rfl, trivial⟩ (WC.region ?_))
                    refine zya rfl rfl ?_
                    refine WL.nil (WP.thenC (WC.ret (WP.blkRet (WP.thenRet (WP.thenRet (WP.blkRet (WP.thenRet ?_)))))))
                    refine WP.ret1 rfl rfl Tryz.results41 (RV.tmp rfl) (fun w hI => ⟨ret_no flagB_iff (by intro h; have h1 := h.gh hkl; (simp only [inB, spB, decide_eq_true_eq, decide_eq_false_iff_not] at *; omega)), hI.keep⟩)
                  · try simp only [zq1, zq2, zq3, zq4, zq5, zq6, zq7, zq8] at g64
                    refine WL.ydg rfl (Yd.fieldAddr FA138_0 rfl) rfl ?_
                    refine WL.ydg rfl (Yd.fieldAddr FA114_1 rfl) rfl ?_
                    refine WL.ydg rfl (Yd.load1 Tryz.isAgg3 rfl (by first | exact ro0 rfl rfl | exact ro1 rfl rfl | exact ((hRs.at k (by omega)).rd 0 rfl))) rfl ?_
                    refine WL.ydg rfl (Yd.gtr rfl rfl) rfl ?_
                    refine WL.yd (Yd.pickF rfl rfl) rfl ?_
                    refine zym rfl rfl ?_
                    refine WL.part 70 rfl (fun g70 => ?_) (fun g70 => ?_)
                    · try simp only [zq1, zq2, zq3, zq4, zq5, zq6, zq7, zq8] at g70
                      refine WL.skip rfl rfl ?_
                      refine WL.skip rfl rfl ?_
                      refine WL.skip rfl rfl ?_
                      refine WL.skip rfl rfl ?_
                      refine WL.yd (Yd.pickT rfl rfl) rfl ?_
                      refine WL.nil (WP.thenC ?_)
                      refine WC.condT rfl ?_
                      refine WC.seq (WC.ofFr [(1, _), (3, _)] ⟨rfl, rfl, trivial⟩ (WC.region ?_))
                      refine zya rfl rfl ?_
                      refine WL.nil (WP.thenC (WC.ret (WP.blkRet (WP.thenRet (WP.thenRet (WP.blkRet (WP.thenRet ?_)))))))
                      refine WP.ret1 rfl rfl Tryz.results41 (RV.tmp rfl) (fun w hI => ⟨ret_no flagB_iff (by intro h; have h1 := h.gh hkl; (simp only [inB, spB, decide_eq_true_eq, decide_eq_false_iff_not] at *; omega)), hI.keep⟩)
                    · try simp only [zq1, zq2, zq3, zq4, zq5, zq6, zq7, zq8] at g70
                      refine WL.ydg rfl (Yd.fieldAddr FA138_1 rfl) rfl ?_
                      refine WL.ydg rfl (Yd.load1 Tryz.isAgg3 rfl (by first | exact ro0 rfl rfl | exact ro1 rfl rfl | exact ((hRs.at k (by omega)).rd 0 rfl))) rfl ?_
                      refine WL.sog rfl (SO.callP Tryz.call83 rfl (fun w hI => in10_g _ _ _ _)) rfl ?_
                      rintro _ _ _ ⟨rfl, rfl, rfl⟩
                      refine WL.ydg rfl (Yd.not rfl) rfl ?_
                      refine WL.yd (Yd.pickF rfl rfl) rfl ?_
                      refine WL.nil (WP.thenC ?_)
                      refine WC.cond rfl (fun c75 => ?_) (fun c75 => ?_)
                      · try simp only [zq1, zq2, zq3, zq4, zq5, zq6, zq7, zq8] at c75
                        refine WC.seq (WC.ofFr [(1, _), (3, _)] ⟨rfl, rfl, trivial⟩ (WC.region ?_))
                        refine zya rfl rfl ?_
                        refine WL.nil (WP.thenC (WC.ret (WP.blkRet (WP.thenRet (WP.thenRet (WP.blkRet (WP.thenRet ?_)))))))
                        refine WP.ret1 rfl rfl Tryz.results41 (RV.tmp rfl) (fun w hI => ⟨ret_no flagB_iff (by intro h; have h1 := h.gh hkl; (simp only [inB, spB, decide_eq_true_eq, decide_eq_false_iff_not] at *; omega)), hI.keep⟩)
                      · try simp only [zq1, zq2, zq3, zq4, zq5, zq6, zq7, zq8] at c75
                        refine WC.skip (WP.blkNormal (WP.thenC (WC.ofFr [(1, _), (3, _)] ⟨rfl, rfl, trivial⟩ (WC.region ?_))))
                        refine zym rfl rfl ?_
                        refine WL.yd (Yd.add rfl rfl (wr64 ⟨by omega, by omega⟩)) rfl ?_
                        refine zya rfl rfl ?_
                        refine WL.nil ?_
                        exact WP.againT (k + 1) ⟨hkl, (fun i hi => by rcases Nat.lt_or_ge i k with h | h; exact hF i h; obtain rfl : i = k := (by omega); have g9 := inB_iff.1 c75; omega)⟩ (by omega) [_] _ rfl rfl ⟨rfl, rfl, trivial⟩
              · try simp only [zq1, zq2, zq3, zq4, zq5, zq6, zq7, zq8] at c43
                obtain rfl : k = f.hours.length := by omega
                refine WC.exit ?_
                refine WP.thenExit ?_
                refine WP.thenExit ?_
                refine WP.blkHit ?_
                refine WP.thenC (WC.seq (WC.seq (WC.ofFr [(1, _)] ⟨rfl, trivial⟩ (WC.region ?_))))
                refine zya rfl rfl ?_
                refine WL.nil (WP.thenC (WC.block ?_))
                refine WC.loopT [] (fun k : Nat => [(1, pt b1), (5, nt k)]) (fun _ => [(b1, .cells (List.toArray [it f.low, it f.high, it f.quiet, .slice ha f.hours.length hc, .slice sa f.seen.length sc]) 29 (0, 0))]) (fun k => k ≤ f.seen.length ∧ ∀ i, i < k → inB (gt f.seen i).hour 0 ((f.hours.length : Int) - 1) = true) (fun k => f.seen.length - k) 0 ⟨Nat.zero_le _, fun _ h => absurd h (Nat.not_lt_zero _)⟩ rfl ⟨rfl, rfl, trivial⟩ ?_
                rintro k ⟨hk, hG⟩
                refine WC.seq (WC.seq (WC.ofFr [(1, _), (5, _)] ⟨rfl, rfl, trivial⟩ (WC.region ?_)))
                refine zym rfl rfl ?_
                refine WL.yd (Yd.fieldAddr FA29_4 rfl) rfl ?_
                refine WL.yd (Yd.load1 Tryz.isAgg27 rfl (by first | exact ro0 rfl rfl | exact ((hRs.at k (by omega)).rd 0 rfl))) rfl ?_
                refine WL.yd (Yd.lenS rfl Tryz.underlying27 rfl) rfl ?_
                refine WL.yd (Yd.lss rfl rfl) rfl ?_
                refine WL.nil (WP.thenC ?_)
                refine WC.cond rfl (fun c80 => ?_) (fun c80 => ?_)
                · try simp only [zq1, zq2, zq3, zq4, zq5, zq6, zq7, zq8] at c80
                  have hkl : k < f.seen.length := by omega
                  refine WC.skip (WP.thenC (WC.seq (WC.block (WC.seq (WC.ofFr [(1, _), (5, _)] ⟨rfl, rfl, trivial⟩ ?_)))))
                  refine WC.tail 7 [0, 1, 2, 3, 4, 5, 6] rfl (by kernel_rfl) (by kernel_rfl)  ?_
                  refine WQ.q rfl (Yd.qt (Yd.loadN Tryz.isAgg29 Tryz.sizeOf29 rfl (vs := [_, _, _, _, _]) rfl (by first | exact rn0 (n := 5) rfl rfl | exact ((hRh.at k (by omega)).rdn 0 3 rfl)))) rfl ?_
                  refine WQ.q rfl (Yd.qt (Yd.fieldAddr FA29_4 rfl)) rfl ?_
                  refine WQ.q rfl (Yd.qt (Yd.load1 Tryz.isAgg27 rfl (by first | exact ro0 rfl rfl | exact ((hRs.at k (by omega)).rd 0 rfl)))) rfl ?_
                  refine WQ.q rfl (Yd.qt (Yd.move rfl)) rfl ?_
                  refine WQ.q rfl (Yd.qt (Yd.indexS Tryz.underlying27 Tryz.sizeOf141 rfl rfl (by omega) (by omega) (by first | exact hRs.addr k (by omega)))) rfl ?_
                  refine WQ.q rfl (Yd.qt (Yd.fieldAddr FA141_0 rfl)) rfl ?_
                  refine WQ.q rfl (Yd.qt (Yd.load1 Tryz.isAgg3 rfl (by first | exact ro0 rfl rfl | exact ((hRs.at k (by omega)).rd 0 rfl)))) rfl ?_
                  refine WQ.tail ?_
                  refine WL.so (SO.callP Tryz.call84 rfl (fun w hI => rHour_g f ⟨⟨ha, f.hours.length, hc⟩, ⟨sa, f.seen.length, sc⟩⟩ _ D hR _)) rfl ?_
                  rintro _ _ _ ⟨rfl, rfl, rfl⟩
                  refine WL.yd (Yd.not rfl) rfl ?_
                  refine WL.nil (WP.thenC ?_)
                  refine WC.cond rfl (fun c91 => ?_) (fun c91 => ?_)
                  · try simp only [zq1, zq2, zq3, zq4, zq5, zq6, zq7, zq8] at c91
                    refine WC.seq (WC.ofFr [(1, _), (5, _)] ⟨rfl, rfl, trivial⟩ (WC.region ?_))
                    refine zya rfl rfl ?_
                    refine WL.nil (WP.thenC (WC.ret (WP.blkRet (WP.thenRet (WP.thenRet (WP.blkRet (WP.thenRet ?_)))))))
                    refine WP.ret1 rfl rfl Tryz.results41 (RV.tmp rfl) (fun w hI => ⟨ret_no flagB_iff (by intro h; have h1 := h.seen _ (gtB_mem hkl); (simp only [inB, spB, decide_eq_true_eq, decide_eq_false_iff_not] at *; omega)), hI.keep⟩)
                  · try simp only [zq1, zq2, zq3, zq4, zq5, zq6, zq7, zq8] at c91
                    refine WC.skip (WP.blkNormal (WP.thenC (WC.ofFr [(1, _), (5, _)] ⟨rfl, rfl, trivial⟩ (WC.region ?_))))
                    refine zym rfl rfl ?_
                    refine WL.yd (Yd.add rfl rfl (wr64 ⟨by omega, by omega⟩)) rfl ?_
                    refine zya rfl rfl ?_
                    refine WL.nil ?_
                    exact WP.againT (k + 1) ⟨hkl, (fun i hi => by rcases Nat.lt_or_ge i k with h | h; exact hG i h; obtain rfl : i = k := (by omega); exact c91)⟩ (by omega) [] _ rfl rfl ⟨rfl, rfl, trivial⟩
                · try simp only [zq1, zq2, zq3, zq4, zq5, zq6, zq7, zq8] at c80
                  obtain rfl : k = f.seen.length := by omega
                  refine WC.exit ?_
                  refine WP.thenExit ?_
                  refine WP.thenExit ?_
                  refine WP.blkHit ?_
                  refine WP.thenC (WC.seq (WC.ofFr [] trivial (WC.region ?_)))
                  refine zya rfl rfl ?_
                  refine WL.nil (WP.thenC (WC.ret ?_))
                  refine WP.ret1 rfl rfl Tryz.results41 (RV.tmp rfl) (fun w hI => ⟨ret_yes flagB_iff (flagOk_of hA hF hG), hI.keep⟩)

theorem rvBoats_g (b : Boats) (m : BoatsM) (D : Imm) (hR : BoatsR D b m) (w : World) (hH : Holds D w) : Gives Tryz.prog 42 [boatsV b m] w (.bool (boatsB b)) := by
  unfold Gives
  obtain ⟨⟨ba, bn, bc⟩, ml⟩ := m
  have hml : ml.length = b.seen.length := hR.len
  have hRs0 : SlL D 1 (ml.map slC) ba bn := hR.sl
  obtain rfl : bn = b.seen.length := by have := hRs0.len'; omega
  have hRr : ∀ i, i < b.seen.length → SlL D 5 ((gt b.seen i).map bsC) (gt ml i).a (gt ml i).n := hR.row
  have hRn : ∀ i, i < b.seen.length → (gt ml i).n ≤ 9223372036854775807 := hR.nr
  have nb : b.seen.length ≤ 9223372036854775807 := hR.n
  refine enter Tryz.func42 rfl 94 Tryz.ntmps42 (zqb rfl) (Inv.start hH) ?_
  refine WC.seq (WC.ofFr [(0, _)] ⟨rfl, trivial⟩ (WC.region ?_))
  refine WL.so (SO.box rfl rfl) rfl ?_
  rintro _ _ _ ⟨b1, hb1, rfl, rfl, rfl⟩
  refine zya rfl rfl ?_
  refine WL.nil (WP.thenC (WC.seq (WC.seq (WC.ofFr [(2, _), (1, _)] ⟨rfl, rfl, trivial⟩ (WC.region ?_)))))
  refine WL.yd (Yd.fieldAddr FA32_0 rfl) rfl ?_
  refine WL.yd (Yd.load1 Tryz.isAgg3 rfl (by first | exact ro0 rfl rfl | exact ((hRs0.at k (by omega)).rd 0 rfl))) rfl ?_
  refine WL.so (SO.callP Tryz.call85 rfl (fun w hI => in12_g _ _ _ _)) rfl ?_
  rintro _ _ _ ⟨rfl, rfl, rfl⟩
  refine WL.yd (Yd.not rfl) rfl ?_
  refine zym rfl rfl ?_
  refine WL.part 11 rfl (fun g11 => ?_) (fun g11 => ?_)
  · try simp only [zq1, zq2, zq3, zq4, zq5, zq6, zq7, zq8] at g11
    refine WL.skip rfl rfl ?_
    refine WL.skip rfl rfl ?_
    refine WL.skip rfl rfl ?_
    refine WL.skip rfl rfl ?_
    refine WL.yd (Yd.pickT rfl rfl) rfl ?_
    refine zym rfl rfl ?_
    refine WL.skip rfl rfl ?_
    refine WL.skip rfl rfl ?_
    refine WL.skip rfl rfl ?_
    refine WL.skip rfl rfl ?_
    refine WL.yd (Yd.pickT rfl rfl) rfl ?_
    refine zym rfl rfl ?_
    refine WL.skip rfl rfl ?_
    refine WL.skip rfl rfl ?_
    refine WL.skip rfl rfl ?_
    refine WL.skip rfl rfl ?_
    refine WL.yd (Yd.pickT rfl rfl) rfl ?_
    refine zym rfl rfl ?_
    refine WL.skip rfl rfl ?_
    refine WL.skip rfl rfl ?_
    refine WL.skip rfl rfl ?_
    refine WL.skip rfl rfl ?_
    refine WL.yd (Yd.pickT rfl rfl) rfl ?_
    refine WL.nil (WP.thenC ?_)
    refine WC.condT rfl ?_
    refine WC.seq (WC.ofFr [(2, _), (1, _)] ⟨rfl, rfl, trivial⟩ (WC.region ?_))
    refine zya rfl rfl ?_
    refine WL.nil (WP.thenC (WC.ret (WP.thenRet ?_)))
    refine WP.ret1 rfl rfl Tryz.results42 (RV.tmp rfl) (fun w hI => ⟨ret_no boatsB_iff (by intro h; have h1 := h.wide; have h2 := h.deep; have h3 := h.speed; have h4 := h.last; have h5 := h.n; (simp only [inB, spB, decide_eq_true_eq, decide_eq_false_iff_not] at *; omega)), hI.keep⟩)
  · try simp only [zq1, zq2, zq3, zq4, zq5, zq6, zq7, zq8] at g11
    refine WL.ydg rfl (Yd.fieldAddr FA32_1 rfl) rfl ?_
    refine WL.ydg rfl (Yd.load1 Tryz.isAgg3 rfl (by first | exact ro0 rfl rfl | exact ((hRs0.at k (by omega)).rd 0 rfl))) rfl ?_
    refine WL.sog rfl (SO.callP Tryz.call85 rfl (fun w hI => in12_g _ _ _ _)) rfl ?_
    rintro _ _ _ ⟨rfl, rfl, rfl⟩
    refine WL.ydg rfl (Yd.not rfl) rfl ?_
    refine WL.yd (Yd.pickF rfl rfl) rfl ?_
    refine zym rfl rfl ?_
    refine WL.part 17 rfl (fun g17 => ?_) (fun g17 => ?_)
    · try simp only [zq1, zq2, zq3, zq4, zq5, zq6, zq7, zq8] at g17
      refine WL.skip rfl rfl ?_
      refine WL.skip rfl rfl ?_
      refine WL.skip rfl rfl ?_
      refine WL.skip rfl rfl ?_
      refine WL.yd (Yd.pickT rfl rfl) rfl ?_
      refine zym rfl rfl ?_
      refine WL.skip rfl rfl ?_
      refine WL.skip rfl rfl ?_
      refine WL.skip rfl rfl ?_
      refine WL.skip rfl rfl ?_
      refine WL.yd (Yd.pickT rfl rfl) rfl ?_
      refine zym rfl rfl ?_
      refine WL.skip rfl rfl ?_
      refine WL.skip rfl rfl ?_
      refine WL.skip rfl rfl ?_
      refine WL.skip rfl rfl ?_
      refine WL.yd (Yd.pickT rfl rfl) rfl ?_
      refine WL.nil (WP.thenC ?_)
      refine WC.condT rfl ?_
      refine WC.seq (WC.ofFr [(2, _), (1, _)] ⟨rfl, rfl, trivial⟩ (WC.region ?_))
      refine zya rfl rfl ?_
      refine WL.nil (WP.thenC (WC.ret (WP.thenRet ?_)))
      refine WP.ret1 rfl rfl Tryz.results42 (RV.tmp rfl) (fun w hI => ⟨ret_no boatsB_iff (by intro h; have h1 := h.wide; have h2 := h.deep; have h3 := h.speed; have h4 := h.last; have h5 := h.n; (simp only [inB, spB, decide_eq_true_eq, decide_eq_false_iff_not] at *; omega)), hI.keep⟩)
    · try simp only [zq1, zq2, zq3, zq4, zq5, zq6, zq7, zq8] at g17
      refine WL.ydg rfl (Yd.fieldAddr FA32_2 rfl) rfl ?_
      refine WL.ydg rfl (Yd.load1 Tryz.isAgg3 rfl (by first | exact ro0 rfl rfl | exact ((hRs0.at k (by omega)).rd 0 rfl))) rfl ?_
      refine WL.sog rfl (SO.callP Tryz.call85 rfl (fun w hI => in12_g _ _ _ _)) rfl ?_
      rintro _ _ _ ⟨rfl, rfl, rfl⟩
      refine WL.ydg rfl (Yd.not rfl) rfl ?_
      refine WL.yd (Yd.pickF rfl rfl) rfl ?_
      refine zym rfl rfl ?_
      refine WL.part 23 rfl (fun g23 => ?_) (fun g23 => ?_)
      · try simp only [zq1, zq2, zq3, zq4, zq5, zq6, zq7, zq8] at g23
        refine WL.skip rfl rfl ?_
        refine WL.skip rfl rfl ?_
        refine WL.skip rfl rfl ?_
        refine WL.skip rfl rfl ?_
        refine WL.yd (Yd.pickT rfl rfl) rfl ?_
        refine zym rfl rfl ?_
        refine WL.skip rfl rfl ?_
        refine WL.skip rfl rfl ?_
        refine WL.skip rfl rfl ?_
        refine WL.skip rfl rfl ?_
        refine WL.yd (Yd.pickT rfl rfl) rfl ?_
        refine WL.nil (WP.thenC ?_)
        refine WC.condT rfl ?_
        refine WC.seq (WC.ofFr [(2, _), (1, _)] ⟨rfl, rfl, trivial⟩ (WC.region ?_))
        refine zya rfl rfl ?_
        refine WL.nil (WP.thenC (WC.ret (WP.thenRet ?_)))
        refine WP.ret1 rfl rfl Tryz.results42 (RV.tmp rfl) (fun w hI => ⟨ret_no boatsB_iff (by intro h; have h1 := h.wide; have h2 := h.deep; have h3 := h.speed; have h4 := h.last; have h5 := h.n; (simp only [inB, spB, decide_eq_true_eq, decide_eq_false_iff_not] at *; omega)), hI.keep⟩)
      · try simp only [zq1, zq2, zq3, zq4, zq5, zq6, zq7, zq8] at g23
        refine WL.ydg rfl (Yd.fieldAddr FA32_3 rfl) rfl ?_
        refine WL.ydg rfl (Yd.load1 Tryz.isAgg3 rfl (by first | exact ro0 rfl rfl | exact ((hRs0.at k (by omega)).rd 0 rfl))) rfl ?_
        refine WL.sog rfl (SO.callP Tryz.call85 rfl (fun w hI => in12_g _ _ _ _)) rfl ?_
        rintro _ _ _ ⟨rfl, rfl, rfl⟩
        refine WL.ydg rfl (Yd.not rfl) rfl ?_
        refine WL.yd (Yd.pickF rfl rfl) rfl ?_
        refine zym rfl rfl ?_
        refine WL.part 29 rfl (fun g29 => ?_) (fun g29 => ?_)
        · try simp only [zq1, zq2, zq3, zq4, zq5, zq6, zq7, zq8] at g29
          refine WL.skip rfl rfl ?_
          refine WL.skip rfl rfl ?_
          refine WL.skip rfl rfl ?_
          refine WL.skip rfl rfl ?_
          refine WL.yd (Yd.pickT rfl rfl) rfl ?_
          refine WL.nil (WP.thenC ?_)
          refine WC.condT rfl ?_
          refine WC.seq (WC.ofFr [(2, _), (1, _)] ⟨rfl, rfl, trivial⟩ (WC.region ?_))
          refine zya rfl rfl ?_
          refine WL.nil (WP.thenC (WC.ret (WP.thenRet ?_)))
          refine WP.ret1 rfl rfl Tryz.results42 (RV.tmp rfl) (fun w hI => ⟨ret_no boatsB_iff (by intro h; have h1 := h.wide; have h2 := h.deep; have h3 := h.speed; have h4 := h.last; have h5 := h.n; (simp only [inB, spB, decide_eq_true_eq, decide_eq_false_iff_not] at *; omega)), hI.keep⟩)
        · try simp only [zq1, zq2, zq3, zq4, zq5, zq6, zq7, zq8] at g29
          refine WL.ydg rfl (Yd.fieldAddr FA32_4 rfl) rfl ?_
          refine WL.ydg rfl (Yd.load1 Tryz.isAgg30 rfl (by first | exact ro0 rfl rfl | exact ((hRs0.at k (by omega)).rd 0 rfl))) rfl ?_
          refine WL.ydg rfl (Yd.lenS rfl Tryz.underlying30 rfl) rfl ?_
          refine WL.ydg rfl (Yd.gtr rfl rfl) rfl ?_
          refine WL.yd (Yd.pickF rfl rfl) rfl ?_
          refine WL.nil (WP.thenC ?_)
          refine WC.cond rfl (fun c34 => ?_) (fun c34 => ?_)
          · try simp only [zq1, zq2, zq3, zq4, zq5, zq6, zq7, zq8] at c34
            refine WC.seq (WC.ofFr [(2, _), (1, _)] ⟨rfl, rfl, trivial⟩ (WC.region ?_))
            refine zya rfl rfl ?_
            refine WL.nil (WP.thenC (WC.ret (WP.thenRet ?_)))
            refine WP.ret1 rfl rfl Tryz.results42 (RV.tmp rfl) (fun w hI => ⟨ret_no boatsB_iff (by intro h; have h1 := h.wide; have h2 := h.deep; have h3 := h.speed; have h4 := h.last; have h5 := h.n; (simp only [inB, spB, decide_eq_true_eq, decide_eq_false_iff_not] at *; omega)), hI.keep⟩)
          · try simp only [zq1, zq2, zq3, zq4, zq5, zq6, zq7, zq8] at c34
            refine WC.skip (WP.thenC (WC.seq (WC.seq (WC.ofFr [(2, _), (1, _)] ⟨rfl, rfl, trivial⟩ (WC.region ?_)))))
            refine zya rfl rfl ?_
            refine WL.nil (WP.thenC (WC.block ?_))
            have hA : (1 ≤ b.wide ∧ b.wide ≤ 8) ∧ (1 ≤ b.deep ∧ b.deep ≤ 6) ∧ (0 ≤ b.speed ∧ b.speed ≤ 3) ∧ (0 ≤ b.last ∧ b.last ≤ 12) ∧ b.seen.length ≤ 4 := by (simp only [inB, spB, decide_eq_true_eq, decide_eq_false_iff_not] at *; omega)
            refine WC.loopT [] (fun k : Nat => [(1, pt b1), (3, nt k)]) (fun _ => [(b1, .cells (List.toArray [it b.wide, it b.deep, it b.speed, it b.last, .slice ba b.seen.length bc]) 32 (0, 0))]) (fun k => k ≤ b.seen.length ∧ ∀ i, i < k → (gt b.seen i).length ≤ 5 ∧ rowB b 0 (gt b.seen i) = true) (fun k => b.seen.length - k) 0 ⟨Nat.zero_le _, fun _ h => absurd h (Nat.not_lt_zero _)⟩ rfl ⟨rfl, rfl, trivial⟩ ?_
            rintro k ⟨hk, hF⟩
            refine WC.seq (WC.seq (WC.ofFr [(1, _), (3, _)] ⟨rfl, rfl, trivial⟩ (WC.region ?_)))
            refine zym rfl rfl ?_
            refine WL.yd (Yd.fieldAddr FA32_4 rfl) rfl ?_
            refine WL.yd (Yd.load1 Tryz.isAgg30 rfl (by first | exact ro0 rfl rfl | exact ((hRs0.at k (by omega)).rd 0 rfl))) rfl ?_
            refine WL.yd (Yd.lenS rfl Tryz.underlying30 rfl) rfl ?_
            refine WL.yd (Yd.lss rfl rfl) rfl ?_
            refine WL.nil (WP.thenC ?_)
            refine WC.cond rfl (fun c39 => ?_) (fun c39 => ?_)
            · try simp only [zq1, zq2, zq3, zq4, zq5, zq6, zq7, zq8] at c39
              have hkl : k < b.seen.length := by omega
              have hrow := hRr k hkl
              have hrl := hrow.len'
              have hrn := hRn k hkl
              refine WC.skip (WP.thenC (WC.seq (WC.block (WC.seq (WC.seq (WC.ofFr [(1, _), (3, _)] ⟨rfl, rfl, trivial⟩ (WC.region ?_)))))))
              refine WL.yd (Yd.fieldAddr FA32_4 rfl) rfl ?_
              refine WL.yd (Yd.load1 Tryz.isAgg30 rfl (by first | exact ro0 rfl rfl | exact ((hRs0.at k (by omega)).rd 0 rfl))) rfl ?_
              refine zym rfl rfl ?_
              refine WL.yd (Yd.indexS Tryz.underlying30 Tryz.sizeOf79 rfl rfl (by omega) (by omega) (by first | exact hRs0.addr k (by omega) | exact hrow.addr j (by omega))) rfl ?_
              refine WL.yd (Yd.load1 Tryz.isAgg79 rfl (by first | exact ro0 rfl rfl | exact ((hRs0.at k (by omega)).rd 0 rfl))) rfl ?_
              refine WL.yd (Yd.lenS rfl Tryz.underlying79 rfl) rfl ?_
              refine WL.yd (Yd.gtr rfl rfl) rfl ?_
              refine WL.nil (WP.thenC ?_)
              refine WC.cond rfl (fun c48 => ?_) (fun c48 => ?_)
              · try simp only [zq1, zq2, zq3, zq4, zq5, zq6, zq7, zq8] at c48
                refine WC.seq (WC.ofFr [(1, _), (3, _)] ⟨rfl, rfl, trivial⟩ (WC.region ?_))
                refine zya rfl rfl ?_
                refine WL.nil (WP.thenC (WC.ret (WP.thenRet (WP.blkRet (WP.thenRet (WP.thenRet (WP.blkRet (WP.thenRet ?_))))))))
                refine WP.ret1 rfl rfl Tryz.results42 (RV.tmp rfl) (fun w hI => ⟨ret_no boatsB_iff (by intro h; have h1 := (h.rows _ (gtB_mem hkl)).1; omega), hI.keep⟩)
              · try simp only [zq1, zq2, zq3, zq4, zq5, zq6, zq7, zq8] at c48
                refine WC.skip (WP.thenC (WC.seq (WC.ofFr [(1, _), (3, _)] ⟨rfl, rfl, trivial⟩ (WC.region ?_))))
                refine zya rfl rfl ?_
                refine WL.nil (WP.thenC (WC.seq (WC.ofFr [(4, _), (1, _), (3, _)] ⟨rfl, rfl, rfl, trivial⟩ (WC.region ?_))))
                refine zya rfl rfl ?_
                refine WL.nil (WP.thenC (WC.block ?_))
                refine WC.loopT [] (fun j : Nat => [(1, pt b1), (3, nt k), (4, it (prevM 0 (gt b.seen k) j)), (5, nt j)]) (fun _ => [(b1, .cells (List.toArray [it b.wide, it b.deep, it b.speed, it b.last, .slice ba b.seen.length bc]) 32 (0, 0))]) (fun j => j ≤ (gt b.seen k).length ∧ rowB b 0 ((gt b.seen k).take j) = true) (fun j => (gt b.seen k).length - j) 0 ⟨Nat.zero_le _, by simp [rowB]⟩ rfl ⟨rfl, rfl, rfl, rfl, trivial⟩ ?_
                rintro j ⟨hj, hG⟩
                refine WC.seq (WC.seq (WC.ofFr [(1, _), (3, _), (4, _), (5, _)] ⟨rfl, rfl, rfl, rfl, trivial⟩ (WC.region ?_)))
                refine zym rfl rfl ?_
                refine WL.yd (Yd.fieldAddr FA32_4 rfl) rfl ?_
                refine WL.yd (Yd.load1 Tryz.isAgg30 rfl (by first | exact ro0 rfl rfl | exact ((hRs0.at k (by omega)).rd 0 rfl))) rfl ?_
                refine zym rfl rfl ?_
                refine WL.yd (Yd.indexS Tryz.underlying30 Tryz.sizeOf79 rfl rfl (by omega) (by omega) (by first | exact hRs0.addr k (by omega) | exact hrow.addr j (by omega))) rfl ?_
                refine WL.yd (Yd.load1 Tryz.isAgg79 rfl (by first | exact ro0 rfl rfl | exact ((hRs0.at k (by omega)).rd 0 rfl))) rfl ?_
                refine WL.yd (Yd.lenS rfl Tryz.underlying79 rfl) rfl ?_
                refine WL.yd (Yd.lss rfl rfl) rfl ?_
                refine WL.nil (WP.thenC ?_)
                refine WC.cond rfl (fun c56 => ?_) (fun c56 => ?_)
                · try simp only [zq1, zq2, zq3, zq4, zq5, zq6, zq7, zq8] at c56
                  have hjl : j < (gt b.seen k).length := by omega
                  refine WC.skip (WP.thenC (WC.seq (WC.block (WC.seq (WC.ofFr [(1, _), (3, _), (4, _), (5, _)] ⟨rfl, rfl, rfl, rfl, trivial⟩ (WC.region ?_))))))
                  refine WL.yd (Yd.fieldAddr FA32_4 rfl) rfl ?_
                  refine WL.yd (Yd.load1 Tryz.isAgg30 rfl (by first | exact ro0 rfl rfl | exact ((hRs0.at k (by omega)).rd 0 rfl))) rfl ?_
                  refine zym rfl rfl ?_
                  refine WL.yd (Yd.indexS Tryz.underlying30 Tryz.sizeOf79 rfl rfl (by omega) (by omega) (by first | exact hRs0.addr k (by omega) | exact hrow.addr j (by omega))) rfl ?_
                  refine WL.yd (Yd.load1 Tryz.isAgg79 rfl (by first | exact ro0 rfl rfl | exact ((hRs0.at k (by omega)).rd 0 rfl))) rfl ?_
                  refine zym rfl rfl ?_
                  refine WL.yd (Yd.indexS Tryz.underlying79 Tryz.sizeOf143 rfl rfl (by omega) (by omega) (by first | exact hRs0.addr k (by omega) | exact hrow.addr j (by omega))) rfl ?_
                  refine WL.yd (Yd.loadN Tryz.isAgg143 Tryz.sizeOf143 rfl (vs := [_, _, _, _, _]) rfl (by first | exact rn0 (n := 5) rfl rfl | exact ((hrow.at j (by omega)).rdn 0 5 rfl))) rfl ?_
                  refine WL.so (SO.alloc Tryz.zeroValue143 rfl) rfl ?_
                  rintro _ _ _ ⟨b6, hb6, rfl, rfl, rfl⟩
                  refine WL.so (SO.store 0 rfl Tryz.sizeOf143 rfl rfl rfl rfl (zqb rfl) (oneB_spec rfl)) rfl ?_
                  rintro _ _ _ ⟨rfl, rfl, rfl⟩
                  refine WL.nil (WP.thenC (WC.seq (WC.seq (WC.ofFr [(6, _), (1, _), (3, _), (4, _), (5, _)] ⟨rfl, rfl, rfl, rfl, rfl, trivial⟩ (WC.region ?_)))))
                  refine WL.yd (Yd.fieldAddr FA143_0 rfl) rfl ?_
                  refine WL.yd (Yd.load1 Tryz.isAgg3 rfl (by first | exact ro0 rfl rfl | exact ro1 rfl rfl | exact ((hRs0.at k (by omega)).rd 0 rfl))) rfl ?_
                  refine zym rfl rfl ?_
                  refine WL.yd (Yd.fieldAddr FA32_3 rfl) rfl ?_
                  refine WL.yd (Yd.load1 Tryz.isAgg3 rfl (by first | exact ro0 rfl rfl | exact ro1 rfl rfl | exact ((hRs0.at k (by omega)).rd 0 rfl))) rfl ?_
                  refine WL.so (SO.callP Tryz.call85 rfl (fun w hI => in12_g _ _ _ _)) rfl ?_
                  rintro _ _ _ ⟨rfl, rfl, rfl⟩
                  refine WL.yd (Yd.not rfl) rfl ?_
                  refine zym rfl rfl ?_
                  refine WL.part 74 rfl (fun g74 => ?_) (fun g74 => ?_)
                  · try simp only [zq1, zq2, zq3, zq4, zq5, zq6, zq7, zq8] at g74
                    refine WL.skip rfl rfl ?_
                    refine WL.skip rfl rfl ?_
                    refine WL.skip rfl rfl ?_
                    refine WL.skip rfl rfl ?_
                    refine WL.skip rfl rfl ?_
                    refine WL.skip rfl rfl ?_
                    refine WL.skip rfl rfl ?_
                    refine WL.yd (Yd.pickT rfl rfl) rfl ?_
                    refine zym rfl rfl ?_
                    refine WL.skip rfl rfl ?_
                    refine WL.skip rfl rfl ?_
                    refine WL.skip rfl rfl ?_
                    refine WL.skip rfl rfl ?_
                    refine WL.skip rfl rfl ?_
                    refine WL.skip rfl rfl ?_
                    refine WL.skip rfl rfl ?_
                    refine WL.yd (Yd.pickT rfl rfl) rfl ?_
                    refine WL.nil (WP.thenC ?_)
                    refine WC.condT rfl ?_
                    refine WC.seq (WC.ofFr [(6, _), (1, _), (3, _), (4, _), (5, _)] ⟨rfl, rfl, rfl, rfl, rfl, trivial⟩ (WC.region ?_))
                    refine zya rfl rfl ?_
                    refine WL.nil (WP.thenC (WC.ret (WP.thenRet (WP.blkRet (WP.thenRet (WP.thenRet (WP.blkRet (WP.blkRet (WP.thenRet (WP.thenRet (WP.blkRet (WP.thenRet ?_))))))))))))
                    refine WP.ret1 rfl rfl Tryz.results42 (RV.tmp rfl) (fun w hI => ⟨ret_no boatsB_iff (by intro h; have h1 := rowB_take _ _ (j + 1) (h.rows _ (gtB_mem hkl)).2; rw [rowB_succ _ _ _ hjl] at h1; unfold stepB at h1; simp_all), hI.keep⟩)
                  · try simp only [zq1, zq2, zq3, zq4, zq5, zq6, zq7, zq8] at g74
                    refine WL.ydg rfl (Yd.fieldAddr FA143_1 rfl) rfl ?_
                    refine WL.ydg rfl (Yd.loadN Tryz.isAgg114 Tryz.sizeOf114 rfl (vs := [_, _]) rfl (by first | exact rn0 (n := 2) rfl rfl | exact rn1 (n := 2) rfl rfl | exact ((hrow.at j (by omega)).rdn 0 5 rfl))) rfl ?_
                    refine WL.ydg rfl (Yd.fieldAddr FA32_0 rfl) rfl ?_
                    refine WL.ydg rfl (Yd.load1 Tryz.isAgg3 rfl (by first | exact ro0 rfl rfl | exact ro1 rfl rfl | exact ((hRs0.at k (by omega)).rd 0 rfl))) rfl ?_
                    refine WL.ydg rfl (Yd.sub rfl rfl (wr64 ⟨by omega, by omega⟩)) rfl ?_
                    refine WL.sog rfl (SO.callP Tryz.call86 rfl (fun w hI => span12_g (gt (gt b.seen k) j).cols (b.wide - 1) _)) rfl ?_
                    rintro _ _ _ ⟨rfl, rfl, rfl⟩
                    refine WL.ydg rfl (Yd.not rfl) rfl ?_
                    refine WL.yd (Yd.pickF rfl rfl) rfl ?_
                    refine zym rfl rfl ?_
                    refine WL.part 83 rfl (fun g83 => ?_) (fun g83 => ?_)
                    · try simp only [zq1, zq2, zq3, zq4, zq5, zq6, zq7, zq8] at g83
                      refine WL.skip rfl rfl ?_
                      refine WL.skip rfl rfl ?_
                      refine WL.skip rfl rfl ?_
                      refine WL.skip rfl rfl ?_
                      refine WL.skip rfl rfl ?_
                      refine WL.skip rfl rfl ?_
                      refine WL.skip rfl rfl ?_
                      refine WL.yd (Yd.pickT rfl rfl) rfl ?_
                      refine WL.nil (WP.thenC ?_)
                      refine WC.condT rfl ?_
                      refine WC.seq (WC.ofFr [(6, _), (1, _), (3, _), (4, _), (5, _)] ⟨rfl, rfl, rfl, rfl, rfl, trivial⟩ (WC.region ?_))
                      refine zya rfl rfl ?_
                      refine WL.nil (WP.thenC (WC.ret (WP.thenRet (WP.blkRet (WP.thenRet (WP.thenRet (WP.blkRet (WP.blkRet (WP.thenRet (WP.thenRet (WP.blkRet (WP.thenRet ?_))))))))))))
                      refine WP.ret1 rfl rfl Tryz.results42 (RV.tmp rfl) (fun w hI => ⟨ret_no boatsB_iff (by intro h; have h1 := rowB_take _ _ (j + 1) (h.rows _ (gtB_mem hkl)).2; rw [rowB_succ _ _ _ hjl] at h1; unfold stepB at h1; simp_all), hI.keep⟩)
                    · try simp only [zq1, zq2, zq3, zq4, zq5, zq6, zq7, zq8] at g83
                      refine WL.ydg rfl (Yd.fieldAddr FA143_2 rfl) rfl ?_
                      refine WL.ydg rfl (Yd.loadN Tryz.isAgg114 Tryz.sizeOf114 rfl (vs := [_, _]) rfl (by first | exact rn0 (n := 2) rfl rfl | exact rn1 (n := 2) rfl rfl | exact ((hrow.at j (by omega)).rdn 0 5 rfl))) rfl ?_
                      refine WL.ydg rfl (Yd.fieldAddr FA32_1 rfl) rfl ?_
                      refine WL.ydg rfl (Yd.load1 Tryz.isAgg3 rfl (by first | exact ro0 rfl rfl | exact ro1 rfl rfl | exact ((hRs0.at k (by omega)).rd 0 rfl))) rfl ?_
                      refine WL.ydg rfl (Yd.sub rfl rfl (wr64 ⟨by omega, by omega⟩)) rfl ?_
                      refine WL.sog rfl (SO.callP Tryz.call86 rfl (fun w hI => span12_g (gt (gt b.seen k) j).rows (b.deep - 1) _)) rfl ?_
                      rintro _ _ _ ⟨rfl, rfl, rfl⟩
                      refine WL.ydg rfl (Yd.not rfl) rfl ?_
                      refine WL.yd (Yd.pickF rfl rfl) rfl ?_
                      refine WL.nil (WP.thenC ?_)
                      refine WC.cond rfl (fun c91 => ?_) (fun c91 => ?_)
                      · try simp only [zq1, zq2, zq3, zq4, zq5, zq6, zq7, zq8] at c91
                        refine WC.seq (WC.ofFr [(6, _), (1, _), (3, _), (4, _), (5, _)] ⟨rfl, rfl, rfl, rfl, rfl, trivial⟩ (WC.region ?_))
                        refine zya rfl rfl ?_
                        refine WL.nil (WP.thenC (WC.ret (WP.thenRet (WP.blkRet (WP.thenRet (WP.thenRet (WP.blkRet (WP.blkRet (WP.thenRet (WP.thenRet (WP.blkRet (WP.thenRet ?_))))))))))))
                        refine WP.ret1 rfl rfl Tryz.results42 (RV.tmp rfl) (fun w hI => ⟨ret_no boatsB_iff (by intro h; have h1 := rowB_take _ _ (j + 1) (h.rows _ (gtB_mem hkl)).2; rw [rowB_succ _ _ _ hjl] at h1; unfold stepB at h1; simp_all), hI.keep⟩)
                      · try simp only [zq1, zq2, zq3, zq4, zq5, zq6, zq7, zq8] at c91
                        refine WC.skip (WP.thenC (WC.ofFr [(6, _), (1, _), (3, _), (4, _), (5, _)] ⟨rfl, rfl, rfl, rfl, rfl, trivial⟩ (WC.region ?_)))
                        refine WL.yd (Yd.fieldAddr FA143_0 rfl) rfl ?_
                        refine WL.yd (Yd.load1 Tryz.isAgg3 rfl (by first | exact ro0 rfl rfl | exact ro1 rfl rfl | exact ((hRs0.at k (by omega)).rd 0 rfl))) rfl ?_
                        refine zya rfl rfl ?_
                        refine WL.nil (WP.blkNormal (WP.thenC (WC.ofFr [(4, _), (1, _), (3, _), (5, _)] ⟨rfl, rfl, rfl, rfl, trivial⟩ (WC.region ?_))))
                        refine zym rfl rfl ?_
                        refine WL.yd (Yd.add rfl rfl (wr64 ⟨by omega, by omega⟩)) rfl ?_
                        refine zya rfl rfl ?_
                        refine WL.nil ?_
                        exact WP.againT (j + 1) ⟨hjl, by rw [rowB_succ _ _ _ hjl, hG]; unfold stepB; simp_all⟩ (by omega) [_] _ rfl rfl ⟨rfl, rfl, rfl, rfl, trivial⟩
                · try simp only [zq1, zq2, zq3, zq4, zq5, zq6, zq7, zq8] at c56
                  obtain rfl : j = (gt b.seen k).length := by omega
                  refine WC.exit ?_
                  refine WP.thenExit ?_
                  refine WP.thenExit ?_
                  refine WP.blkHit ?_
                  refine WP.blkNormal (WP.thenC (WC.ofFr [(1, _), (3, _)] ⟨rfl, rfl, trivial⟩ (WC.region ?_)))
                  refine zym rfl rfl ?_
                  refine WL.yd (Yd.add rfl rfl (wr64 ⟨by omega, by omega⟩)) rfl ?_
                  refine zya rfl rfl ?_
                  refine WL.nil ?_
                  exact WP.againT (k + 1) ⟨hkl, (fun i hi => by rcases Nat.lt_or_ge i k with h | h; exact hF i h; obtain rfl : i = k := (by omega); exact ⟨by omega, by rw [List.take_length] at hG; exact hG⟩)⟩ (by omega) [] _ rfl rfl ⟨rfl, rfl, trivial⟩
            · try simp only [zq1, zq2, zq3, zq4, zq5, zq6, zq7, zq8] at c39
              obtain rfl : k = b.seen.length := by omega
              refine WC.exit ?_
              refine WP.thenExit ?_
              refine WP.thenExit ?_
              refine WP.blkHit ?_
              refine WP.thenC (WC.seq (WC.ofFr [] trivial (WC.region ?_)))
              refine zya rfl rfl ?_
              refine WL.nil (WP.thenC (WC.ret ?_))
              refine WP.ret1 rfl rfl Tryz.results42 (RV.tmp rfl) (fun w hI => ⟨ret_yes boatsB_iff (boatsOk_of hA hF), hI.keep⟩)

theorem rvHors_g (h : Hors) (m : Sl) (D : Imm) (hR : HorsR D h m) (w : World) (hH : Holds D w) : Gives Tryz.prog 31 [horsV h m] w (.bool (horsB h)) := by
  unfold Gives
  obtain ⟨ma, mn, mc⟩ := m
  obtain rfl : mn = h.moves.length := hR.r.len'
  have hRm : SlL D 4 (h.moves.map mvC) ma h.moves.length := hR.r
  have nm : h.moves.length ≤ 9223372036854775807 := hR.n
  refine enter Tryz.func31 rfl 58 Tryz.ntmps31 (zqb rfl) (Inv.start hH) ?_
  refine WC.seq (WC.ofFr [(0, _)] ⟨rfl, trivial⟩ (WC.region ?_))
  refine WL.so (SO.box rfl rfl) rfl ?_
  rintro _ _ _ ⟨b1, hb1, rfl, rfl, rfl⟩
  refine zya rfl rfl ?_
  refine WL.nil (WP.thenC (WC.seq (WC.seq (WC.ofFr [(2, _), (1, _)] ⟨rfl, rfl, trivial⟩ (WC.region ?_)))))
  refine WL.yd (Yd.fieldAddr FA35_0 rfl) rfl ?_
  refine WL.yd (Yd.load1 Tryz.isAgg3 rfl (by first | exact ro0 rfl rfl)) rfl ?_
  refine WL.so (SO.callP Tryz.call73 rfl (fun w hI => in02_g _ _ _ _)) rfl ?_
  rintro _ _ _ ⟨rfl, rfl, rfl⟩
  refine WL.yd (Yd.not rfl) rfl ?_
  refine zym rfl rfl ?_
  refine WL.part 9 rfl (fun g9 => ?_) (fun g9 => ?_)
  · try simp only [zq1, zq2, zq3, zq4, zq5, zq6, zq7, zq8] at g9
    refine WL.skip rfl rfl ?_
    refine WL.skip rfl rfl ?_
    refine WL.skip rfl rfl ?_
    refine WL.skip rfl rfl ?_
    refine WL.yd (Yd.pickT rfl rfl) rfl ?_
    refine WL.nil (WP.thenC ?_)
    refine WC.condT rfl ?_
    refine WC.seq (WC.ofFr [(2, _), (1, _)] ⟨rfl, rfl, trivial⟩ (WC.region ?_))
    refine zya rfl rfl ?_
    refine WL.nil (WP.thenC (WC.ret (WP.thenRet ?_)))
    refine WP.ret1 rfl rfl Tryz.results31 (RV.tmp rfl) (fun w hI => ⟨ret_no horsB_iff (by intro h; have h1 := h.pace; have h2 := h.n; (simp only [inB, spB, decide_eq_true_eq, decide_eq_false_iff_not] at *; omega)), hI.keep⟩)
  · try simp only [zq1, zq2, zq3, zq4, zq5, zq6, zq7, zq8] at g9
    refine WL.ydg rfl (Yd.fieldAddr FA35_1 rfl) rfl ?_
    refine WL.ydg rfl (Yd.load1 Tryz.isAgg33 rfl (by first | exact ro0 rfl rfl)) rfl ?_
    refine WL.ydg rfl (Yd.lenS rfl Tryz.underlying33 rfl) rfl ?_
    refine WL.ydg rfl (Yd.gtr rfl rfl) rfl ?_
    refine WL.yd (Yd.pickF rfl rfl) rfl ?_
    refine WL.nil (WP.thenC ?_)
    refine WC.cond rfl (fun c14 => ?_) (fun c14 => ?_)
    · try simp only [zq1, zq2, zq3, zq4, zq5, zq6, zq7, zq8] at c14
      refine WC.seq (WC.ofFr [(2, _), (1, _)] ⟨rfl, rfl, trivial⟩ (WC.region ?_))
      refine zya rfl rfl ?_
      refine WL.nil (WP.thenC (WC.ret (WP.thenRet ?_)))
      refine WP.ret1 rfl rfl Tryz.results31 (RV.tmp rfl) (fun w hI => ⟨ret_no horsB_iff (by intro h; have h1 := h.pace; have h2 := h.n; (simp only [inB, spB, decide_eq_true_eq, decide_eq_false_iff_not] at *; omega)), hI.keep⟩)
    · try simp only [zq1, zq2, zq3, zq4, zq5, zq6, zq7, zq8] at c14
      refine WC.skip (WP.thenC (WC.seq (WC.seq (WC.ofFr [(2, _), (1, _)] ⟨rfl, rfl, trivial⟩ (WC.region ?_)))))
      refine zya rfl rfl ?_
      refine WL.nil (WP.thenC (WC.block ?_))
      have hA : (0 ≤ h.pace ∧ h.pace ≤ 3) ∧ h.moves.length ≤ 7 := by (simp only [inB, spB, decide_eq_true_eq, decide_eq_false_iff_not] at *; omega)
      refine WC.loopT [] (fun k : Nat => [(1, pt b1), (3, nt k)]) (fun _ => [(b1, .cells (List.toArray [it h.pace, .slice ma h.moves.length mc]) 35 (0, 0))]) (fun k => k ≤ h.moves.length ∧ ∀ i, i < k → (0 ≤ (gt h.moves i).at_ ∧ (gt h.moves i).at_ ≤ 200) ∧ (0 ≤ (gt h.moves i).place ∧ (gt h.moves i).place ≤ 30) ∧ 1 ≤ (gt h.moves i).long.lo ∧ (gt h.moves i).long.lo ≤ (gt h.moves i).long.hi ∧ (gt h.moves i).long.hi ≤ 20) (fun k => h.moves.length - k) 0 ⟨Nat.zero_le _, fun _ h => absurd h (Nat.not_lt_zero _)⟩ rfl ⟨rfl, rfl, trivial⟩ ?_
      rintro k ⟨hk, hF⟩
      refine WC.seq (WC.seq (WC.ofFr [(1, _), (3, _)] ⟨rfl, rfl, trivial⟩ (WC.region ?_)))
      refine zym rfl rfl ?_
      refine WL.yd (Yd.fieldAddr FA35_1 rfl) rfl ?_
      refine WL.yd (Yd.load1 Tryz.isAgg33 rfl (by first | exact ro0 rfl rfl)) rfl ?_
      refine WL.yd (Yd.lenS rfl Tryz.underlying33 rfl) rfl ?_
      refine WL.yd (Yd.lss rfl rfl) rfl ?_
      refine WL.nil (WP.thenC ?_)
      refine WC.cond rfl (fun c19 => ?_) (fun c19 => ?_)
      · try simp only [zq1, zq2, zq3, zq4, zq5, zq6, zq7, zq8] at c19
        have hkl : k < h.moves.length := by omega
        refine WC.skip (WP.thenC (WC.seq (WC.block (WC.seq (WC.ofFr [(1, _), (3, _)] ⟨rfl, rfl, trivial⟩ (WC.region ?_))))))
        refine WL.yd (Yd.fieldAddr FA35_1 rfl) rfl ?_
        refine WL.yd (Yd.load1 Tryz.isAgg33 rfl (by first | exact ro0 rfl rfl)) rfl ?_
        refine zym rfl rfl ?_
        refine WL.yd (Yd.indexS Tryz.underlying33 Tryz.sizeOf116 rfl rfl (by omega) (by omega) (by first | exact hRm.addr k (by omega))) rfl ?_
        refine WL.yd (Yd.loadN Tryz.isAgg116 Tryz.sizeOf116 rfl (vs := [_, _, _, _]) rfl (by first | exact rn0 (n := 4) rfl rfl | exact ((hRm.at k (by omega)).rdn 0 4 rfl))) rfl ?_
        refine WL.so (SO.alloc Tryz.zeroValue116 rfl) rfl ?_
        rintro _ _ _ ⟨b4, hb4, rfl, rfl, rfl⟩
        refine WL.so (SO.store 0 rfl Tryz.sizeOf116 rfl rfl rfl rfl (zqb rfl) (oneB_spec rfl)) rfl ?_
        rintro _ _ _ ⟨rfl, rfl, rfl⟩
        refine WL.nil (WP.thenC (WC.seq (WC.ofFr [(4, _), (1, _), (3, _)] ⟨rfl, rfl, rfl, trivial⟩ (WC.region ?_))))
        refine WL.yd (Yd.fieldAddr FA116_0 rfl) rfl ?_
        refine WL.yd (Yd.load1 Tryz.isAgg3 rfl (by first | exact ro0 rfl rfl | exact ro1 rfl rfl)) rfl ?_
        refine WL.so (SO.callP Tryz.call73 rfl (fun w hI => in02_g _ _ _ _)) rfl ?_
        rintro _ _ _ ⟨rfl, rfl, rfl⟩
        refine WL.yd (Yd.not rfl) rfl ?_
        refine zym rfl rfl ?_
        refine WL.part 31 rfl (fun g31 => ?_) (fun g31 => ?_)
        · try simp only [zq1, zq2, zq3, zq4, zq5, zq6, zq7, zq8] at g31
          refine WL.skip rfl rfl ?_
          refine WL.skip rfl rfl ?_
          refine WL.skip rfl rfl ?_
          refine WL.skip rfl rfl ?_
          refine WL.yd (Yd.pickT rfl rfl) rfl ?_
          refine zym rfl rfl ?_
          refine WL.skip rfl rfl ?_
          refine WL.skip rfl rfl ?_
          refine WL.skip rfl rfl ?_
          refine WL.skip rfl rfl ?_
          refine WL.yd (Yd.pickT rfl rfl) rfl ?_
          refine zym rfl rfl ?_
          refine WL.skip rfl rfl ?_
          refine WL.skip rfl rfl ?_
          refine WL.skip rfl rfl ?_
          refine WL.skip rfl rfl ?_
          refine WL.skip rfl rfl ?_
          refine WL.skip rfl rfl ?_
          refine WL.skip rfl rfl ?_
          refine WL.yd (Yd.pickT rfl rfl) rfl ?_
          refine zym rfl rfl ?_
          refine WL.skip rfl rfl ?_
          refine WL.skip rfl rfl ?_
          refine WL.skip rfl rfl ?_
          refine WL.skip rfl rfl ?_
          refine WL.yd (Yd.pickT rfl rfl) rfl ?_
          refine WL.nil (WP.thenC ?_)
          refine WC.condT rfl ?_
          refine WC.seq (WC.ofFr [(1, _), (3, _)] ⟨rfl, rfl, trivial⟩ (WC.region ?_))
          refine zya rfl rfl ?_
          refine WL.nil (WP.thenC (WC.ret (WP.blkRet (WP.thenRet (WP.thenRet (WP.blkRet (WP.thenRet ?_)))))))
          refine WP.ret1 rfl rfl Tryz.results31 (RV.tmp rfl) (fun w hI => ⟨ret_no horsB_iff (by intro h; have h1 := h.moves _ (gtB_mem hkl); (simp only [inB, spB, decide_eq_true_eq, decide_eq_false_iff_not] at *; omega)), hI.keep⟩)
        · try simp only [zq1, zq2, zq3, zq4, zq5, zq6, zq7, zq8] at g31
          refine WL.ydg rfl (Yd.fieldAddr FA116_1 rfl) rfl ?_
          refine WL.ydg rfl (Yd.load1 Tryz.isAgg3 rfl (by first | exact ro0 rfl rfl | exact ro1 rfl rfl)) rfl ?_
          refine WL.sog rfl (SO.callP Tryz.call73 rfl (fun w hI => in02_g _ _ _ _)) rfl ?_
          rintro _ _ _ ⟨rfl, rfl, rfl⟩
          refine WL.ydg rfl (Yd.not rfl) rfl ?_
          refine WL.yd (Yd.pickF rfl rfl) rfl ?_
          refine zym rfl rfl ?_
          refine WL.part 37 rfl (fun g37 => ?_) (fun g37 => ?_)
          · try simp only [zq1, zq2, zq3, zq4, zq5, zq6, zq7, zq8] at g37
            refine WL.skip rfl rfl ?_
            refine WL.skip rfl rfl ?_
            refine WL.skip rfl rfl ?_
            refine WL.skip rfl rfl ?_
            refine WL.yd (Yd.pickT rfl rfl) rfl ?_
            refine zym rfl rfl ?_
            refine WL.skip rfl rfl ?_
            refine WL.skip rfl rfl ?_
            refine WL.skip rfl rfl ?_
            refine WL.skip rfl rfl ?_
            refine WL.skip rfl rfl ?_
            refine WL.skip rfl rfl ?_
            refine WL.skip rfl rfl ?_
            refine WL.yd (Yd.pickT rfl rfl) rfl ?_
            refine zym rfl rfl ?_
            refine WL.skip rfl rfl ?_
            refine WL.skip rfl rfl ?_
            refine WL.skip rfl rfl ?_
            refine WL.skip rfl rfl ?_
            refine WL.yd (Yd.pickT rfl rfl) rfl ?_
            refine WL.nil (WP.thenC ?_)
            refine WC.condT rfl ?_
            refine WC.seq (WC.ofFr [(1, _), (3, _)] ⟨rfl, rfl, trivial⟩ (WC.region ?_))
            refine zya rfl rfl ?_
            refine WL.nil (WP.thenC (WC.ret (WP.blkRet (WP.thenRet (WP.thenRet (WP.blkRet (WP.thenRet ?_)))))))
            refine WP.ret1 rfl rfl Tryz.results31 (RV.tmp rfl) (fun w hI => ⟨ret_no horsB_iff (by intro h; have h1 := h.moves _ (gtB_mem hkl); (simp only [inB, spB, decide_eq_true_eq, decide_eq_false_iff_not] at *; omega)), hI.keep⟩)
          · try simp only [zq1, zq2, zq3, zq4, zq5, zq6, zq7, zq8] at g37
            refine WL.ydg rfl (Yd.fieldAddr FA116_2 rfl) rfl ?_
            refine WL.ydg rfl (Yd.fieldAddr FA114_0 rfl) rfl ?_
            refine WL.ydg rfl (Yd.load1 Tryz.isAgg3 rfl (by first | exact ro0 rfl rfl | exact ro1 rfl rfl)) rfl ?_
            refine WL.ydg rfl (Yd.lss rfl rfl) rfl ?_
            refine WL.yd (Yd.pickF rfl rfl) rfl ?_
            refine zym rfl rfl ?_
            refine WL.part 43 rfl (fun g43 => ?_) (fun g43 => ?_)
            · try simp only [zq1, zq2, zq3, zq4, zq5, zq6, zq7, zq8] at g43
              refine WL.skip rfl rfl ?_
              refine WL.skip rfl rfl ?_
              refine WL.skip rfl rfl ?_
              refine WL.skip rfl rfl ?_
              refine WL.skip rfl rfl ?_
              refine WL.skip rfl rfl ?_
              refine WL.skip rfl rfl ?_
              refine WL.yd (Yd.pickT rfl rfl) rfl ?_
              refine zym rfl rfl ?_
              refine WL.skip rfl rfl ?_
              refine WL.skip rfl rfl ?_
              refine WL.skip rfl rfl ?_
              refine WL.skip rfl rfl ?_
              refine WL.yd (Yd.pickT rfl rfl) rfl ?_
              refine WL.nil (WP.thenC ?_)
              refine WC.condT rfl ?_
              refine WC.seq (WC.ofFr [(1, _), (3, _)] ⟨rfl, rfl, trivial⟩ (WC.region ?_))
              refine zya rfl rfl ?_
              refine WL.nil (WP.thenC (WC.ret (WP.blkRet (WP.thenRet (WP.thenRet (WP.blkRet (WP.thenRet ?_)))))))
              refine WP.ret1 rfl rfl Tryz.results31 (RV.tmp rfl) (fun w hI => ⟨ret_no horsB_iff (by intro h; have h1 := h.moves _ (gtB_mem hkl); (simp only [inB, spB, decide_eq_true_eq, decide_eq_false_iff_not] at *; omega)), hI.keep⟩)
            · try simp only [zq1, zq2, zq3, zq4, zq5, zq6, zq7, zq8] at g43
              refine WL.ydg rfl (Yd.fieldAddr FA116_2 rfl) rfl ?_
              refine WL.ydg rfl (Yd.fieldAddr FA114_0 rfl) rfl ?_
              refine WL.ydg rfl (Yd.load1 Tryz.isAgg3 rfl (by first | exact ro0 rfl rfl | exact ro1 rfl rfl)) rfl ?_
              refine WL.ydg rfl (Yd.fieldAddr FA116_2 rfl) rfl ?_
              refine WL.ydg rfl (Yd.fieldAddr FA114_1 rfl) rfl ?_
              refine WL.ydg rfl (Yd.load1 Tryz.isAgg3 rfl (by first | exact ro0 rfl rfl | exact ro1 rfl rfl)) rfl ?_
              refine WL.ydg rfl (Yd.gtr rfl rfl) rfl ?_
              refine WL.yd (Yd.pickF rfl rfl) rfl ?_
              refine zym rfl rfl ?_
              refine WL.part 52 rfl (fun g52 => ?_) (fun g52 => ?_)
              · try simp only [zq1, zq2, zq3, zq4, zq5, zq6, zq7, zq8] at g52
                refine WL.skip rfl rfl ?_
                refine WL.skip rfl rfl ?_
                refine WL.skip rfl rfl ?_
                refine WL.skip rfl rfl ?_
                refine WL.yd (Yd.pickT rfl rfl) rfl ?_
                refine WL.nil (WP.thenC ?_)
                refine WC.condT rfl ?_
                refine WC.seq (WC.ofFr [(1, _), (3, _)] ⟨rfl, rfl, trivial⟩ (WC.region ?_))
                refine zya rfl rfl ?_
                refine WL.nil (WP.thenC (WC.ret (WP.blkRet (WP.thenRet (WP.thenRet (WP.blkRet (WP.thenRet ?_)))))))
                refine WP.ret1 rfl rfl Tryz.results31 (RV.tmp rfl) (fun w hI => ⟨ret_no horsB_iff (by intro h; have h1 := h.moves _ (gtB_mem hkl); (simp only [inB, spB, decide_eq_true_eq, decide_eq_false_iff_not] at *; omega)), hI.keep⟩)
              · try simp only [zq1, zq2, zq3, zq4, zq5, zq6, zq7, zq8] at g52
                refine WL.ydg rfl (Yd.fieldAddr FA116_2 rfl) rfl ?_
                refine WL.ydg rfl (Yd.fieldAddr FA114_1 rfl) rfl ?_
                refine WL.ydg rfl (Yd.load1 Tryz.isAgg3 rfl (by first | exact ro0 rfl rfl | exact ro1 rfl rfl)) rfl ?_
                refine WL.ydg rfl (Yd.gtr rfl rfl) rfl ?_
                refine WL.yd (Yd.pickF rfl rfl) rfl ?_
                refine WL.nil (WP.thenC ?_)
                refine WC.cond rfl (fun c57 => ?_) (fun c57 => ?_)
                · try simp only [zq1, zq2, zq3, zq4, zq5, zq6, zq7, zq8] at c57
                  refine WC.seq (WC.ofFr [(1, _), (3, _)] ⟨rfl, rfl, trivial⟩ (WC.region ?_))
                  refine zya rfl rfl ?_
                  refine WL.nil (WP.thenC (WC.ret (WP.blkRet (WP.thenRet (WP.thenRet (WP.blkRet (WP.thenRet ?_)))))))
                  refine WP.ret1 rfl rfl Tryz.results31 (RV.tmp rfl) (fun w hI => ⟨ret_no horsB_iff (by intro h; have h1 := h.moves _ (gtB_mem hkl); (simp only [inB, spB, decide_eq_true_eq, decide_eq_false_iff_not] at *; omega)), hI.keep⟩)
                · try simp only [zq1, zq2, zq3, zq4, zq5, zq6, zq7, zq8] at c57
                  refine WC.skip (WP.blkNormal (WP.thenC (WC.ofFr [(1, _), (3, _)] ⟨rfl, rfl, trivial⟩ (WC.region ?_))))
                  refine zym rfl rfl ?_
                  refine WL.yd (Yd.add rfl rfl (wr64 ⟨by omega, by omega⟩)) rfl ?_
                  refine zya rfl rfl ?_
                  refine WL.nil ?_
                  exact WP.againT (k + 1) ⟨hkl, (fun i hi => by rcases Nat.lt_or_ge i k with h | h; exact hF i h; obtain rfl : i = k := (by omega); have g8 := inB_iff.1 g31; have g9 := inB_iff.1 g37; omega)⟩ (by omega) [_] _ rfl rfl ⟨rfl, rfl, trivial⟩
      · try simp only [zq1, zq2, zq3, zq4, zq5, zq6, zq7, zq8] at c19
        obtain rfl : k = h.moves.length := by omega
        refine WC.exit ?_
        refine WP.thenExit ?_
        refine WP.thenExit ?_
        refine WP.blkHit ?_
        refine WP.thenC (WC.seq (WC.ofFr [] trivial (WC.region ?_)))
        refine zya rfl rfl ?_
        refine WL.nil (WP.thenC (WC.ret ?_))
        refine WP.ret1 rfl rfl Tryz.results31 (RV.tmp rfl) (fun w hI => ⟨ret_yes horsB_iff (horsOk_of hA hF), hI.keep⟩)

end Go.Proofs.YtaebnllfmkcpgaaGreatDoor
