import Derived.Test.YtaebnllfmkcpgaaGreatDoorXN
set_option linter.unusedSimpArgs false
set_option linter.unusedVariables false
set_option linter.all false
set_option maxRecDepth 100000
set_option maxHeartbeats 1000000
namespace Go.Proofs.YtaebnllfmkcpgaaGreatDoor
open Go.W Go.Bk

theorem mem_gt {α : Type} [Inhabited α] {l : List α} {x : α} (h : x ∈ l) : ∃ i, i < l.length ∧ gt l i = x := by
  obtain ⟨i, hi, e⟩ := List.mem_iff_getElem.1 h
  exact ⟨i, hi, by simp [gt, List.getD, hi, e]⟩
theorem ret_no {b : Bool} {p : Prop} (h : b = true ↔ p) (hn : ¬ p) : Ending.returned (Value.bool false) = .returned (.bool b) := by
  cases b
  · rfl
  · exact absurd (h.1 rfl) hn
theorem ret_yes {b : Bool} {p : Prop} (h : b = true ↔ p) (hp : p) : Ending.returned (Value.bool true) = .returned (.bool b) := by
  rw [h.2 hp]

theorem in02_g (n lo hi : Int) (w : World) : Gives Tryz.prog 73 [it n, it lo, it hi] w (.bool (inB n lo hi)) := by
  unfold Gives
  refine enter Tryz.func73 rfl 15 Tryz.ntmps73 (zqb rfl) (Inv.start (D := fun _ => none) (by intro _ _ h; cases h)) ?_
  refine WC.seq (WC.ofFr [(0, _), (1, _), (2, _)] ⟨rfl, rfl, rfl, trivial⟩ (WC.region ?_))
  refine zya rfl rfl ?_
  refine WL.nil (WP.thenC (WC.seq (WC.ofFr [(6, _), (0, _), (1, _), (2, _)] ⟨rfl, rfl, rfl, rfl, trivial⟩ (WC.region ?_))))
  refine zym rfl rfl ?_
  refine zym rfl rfl ?_
  refine WL.yd (Yd.leq rfl rfl) rfl ?_
  refine zym rfl rfl ?_
  refine WL.part 10 rfl (fun g10 => ?_) (fun g10 => ?_)
  · try simp only [zq1, zq2, zq3, zq4, zq5, zq6, zq7, zq8] at g10
    refine WL.ydg rfl (Yd.move rfl) rfl ?_
    refine WL.ydg rfl (Yd.move rfl) rfl ?_
    refine WL.ydg rfl (Yd.leq rfl rfl) rfl ?_
    refine WL.yd (Yd.pickT rfl rfl) rfl ?_
    refine zya rfl rfl ?_
    refine WL.nil (WP.thenC (WC.ret ?_))
    refine WP.ret1 rfl rfl Tryz.results73 (RV.tmp rfl) (fun w hI => ⟨ret_bool (by rw [Bool.eq_iff_iff]; simp [inB]; omega), hI.keep⟩)
  · try simp only [zq1, zq2, zq3, zq4, zq5, zq6, zq7, zq8] at g10
    refine WL.skip rfl rfl ?_
    refine WL.skip rfl rfl ?_
    refine WL.skip rfl rfl ?_
    refine WL.yd (Yd.pickF rfl rfl) rfl ?_
    refine zya rfl rfl ?_
    refine WL.nil (WP.thenC (WC.ret ?_))
    refine WP.ret1 rfl rfl Tryz.results73 (RV.tmp rfl) (fun w hI => ⟨ret_bool (by rw [Bool.eq_iff_iff]; simp [inB]; omega), hI.keep⟩)

end Go.Proofs.YtaebnllfmkcpgaaGreatDoor
namespace Go.Bk
open Go.W Go.Bk Go.Proofs.YtaebnllfmkcpgaaGreatDoor
theorem SurfOk.gh {s : Surf} (h : SurfOk s) {k : Nat} (hk : k < s.huts.length) : hutB s.rows (gt s.huts k) = true := by
  have h1 := h.huts _ (gtB_mem hk); unfold hutB inB; simp only [Bool.and_eq_true, decide_eq_true_eq]; exact ⟨⟨h1.1, h1.2.1⟩, h1.2.2⟩
end Go.Bk
namespace Go.Proofs.YtaebnllfmkcpgaaGreatDoor
open Go.W Go.Bk
end Go.Proofs.YtaebnllfmkcpgaaGreatDoor
namespace Go.Proofs.YtaebnllfmkcpgaaGreatDoor
open Go.W Go.Bk

end Go.Proofs.YtaebnllfmkcpgaaGreatDoor
namespace Go.Bk
open Go.W Go.Bk Go.Proofs.YtaebnllfmkcpgaaGreatDoor
theorem FlagOk.gh {f : Flag} (h : FlagOk f) {k : Nat} (hk : k < f.hours.length) : (0 ≤ (gt f.hours k).wind.lo ∧ (gt f.hours k).wind.lo ≤ (gt f.hours k).wind.hi ∧ (gt f.hours k).wind.hi ≤ 12) ∧ 0 ≤ (gt f.hours k).thunder ∧ (gt f.hours k).thunder ≤ 2 := by
  have h1 := h.hours _ (gtB_mem hk); exact ⟨spB_iff.1 h1.1, h1.2⟩
end Go.Bk
namespace Go.Proofs.YtaebnllfmkcpgaaGreatDoor
open Go.W Go.Bk
theorem horsOk_of {h : Hors} (hA : (0 ≤ h.pace ∧ h.pace ≤ 3) ∧ h.moves.length ≤ 7) (hF : ∀ i, i < h.moves.length → (0 ≤ (gt h.moves i).at_ ∧ (gt h.moves i).at_ ≤ 200) ∧ (0 ≤ (gt h.moves i).place ∧ (gt h.moves i).place ≤ 30) ∧ 1 ≤ (gt h.moves i).long.lo ∧ (gt h.moves i).long.lo ≤ (gt h.moves i).long.hi ∧ (gt h.moves i).long.hi ≤ 20) : HorsOk h := by
  refine ⟨hA.1, hA.2, fun x hx => ?_⟩
  obtain ⟨i, hi, rfl⟩ := mem_gt hx; exact hF i hi

theorem rvHors_g (h : Hors) (m : Sl) (D : Imm) (hR : HorsR D h m) (w : World) (hH : Holds D w) : Gives Tryz.prog 31 [horsV h m] w (.bool (horsB h)) := by
  unfold Gives
  obtain ⟨ma, mn, mc⟩ := m
  obtain rfl : mn = h.moves.length := hR.r.len'
  have hRm : SlL D 4 (h.moves.map mvC) ma h.moves.length := hR.r
  have nm : h.moves.length ≤ 9223372036854775807 := hR.n
  refine enter Tryz.func31 rfl 58 Tryz.ntmps31 (zqb rfl) (Inv.start hH) ?_
  refine WC.seq (WC.ofFr [(0, _)] ⟨rfl, trivial⟩ (WC.region ?_))
  refine WL.so (SO.box rfl rfl) rfl ?_
  rintro _ _ _ ⟨b1, hb1, rfl, rfl, rfl⟩
  refine zya rfl rfl ?_
  refine WL.nil (WP.thenC (WC.seq (WC.seq (WC.ofFr [(2, _), (1, _)] ⟨rfl, rfl, trivial⟩ (WC.region ?_)))))
  refine WL.yd (Yd.fieldAddr FA35_0 rfl) rfl ?_
  refine WL.yd (Yd.load1 Tryz.isAgg3 rfl (by first | exact ro0 rfl rfl)) rfl ?_
  refine WL.so (SO.callP Tryz.call73 rfl (fun w hI => in02_g _ _ _ _)) rfl ?_
  rintro _ _ _ ⟨rfl, rfl, rfl⟩
  refine WL.yd (Yd.not rfl) rfl ?_
  refine zym rfl rfl ?_
  refine WL.part 9 rfl (fun g9 => ?_) (fun g9 => ?_)
  · try simp only [zq1, zq2, zq3, zq4, zq5, zq6, zq7, zq8] at g9
    refine WL.skip rfl rfl ?_
    refine WL.skip rfl rfl ?_
    refine WL.skip rfl rfl ?_
    refine WL.skip rfl rfl ?_
    refine WL.yd (Yd.pickT rfl rfl) rfl ?_
    refine WL.nil (WP.thenC ?_)
    refine WC.condT rfl ?_
    refine WC.seq (WC.ofFr [(2, _), (1, _)] ⟨rfl, rfl, trivial⟩ (WC.region ?_))
    refine zya rfl rfl ?_
    refine WL.nil (WP.thenC (WC.ret (WP.thenRet ?_)))
    refine WP.ret1 rfl rfl Tryz.results31 (RV.tmp rfl) (fun w hI => ⟨ret_no horsB_iff (by intro h; have h1 := h.pace; have h2 := h.n; (simp only [inB, spB, decide_eq_true_eq, decide_eq_false_iff_not] at *; omega)), hI.keep⟩)
  · try simp only [zq1, zq2, zq3, zq4, zq5, zq6, zq7, zq8] at g9
    refine WL.ydg rfl (Yd.fieldAddr FA35_1 rfl) rfl ?_
    refine WL.ydg rfl (Yd.load1 Tryz.isAgg33 rfl (by first | exact ro0 rfl rfl)) rfl ?_
    refine WL.ydg rfl (Yd.lenS rfl Tryz.underlying33 rfl) rfl ?_
    refine WL.ydg rfl (Yd.gtr rfl rfl) rfl ?_
    refine WL.yd (Yd.pickF rfl rfl) rfl ?_
    refine WL.nil (WP.thenC ?_)
    refine WC.cond rfl (fun c14 => ?_) (fun c14 => ?_)
    · try simp only [zq1, zq2, zq3, zq4, zq5, zq6, zq7, zq8] at c14
      refine WC.seq (WC.ofFr [(2, _), (1, _)] ⟨rfl, rfl, trivial⟩ (WC.region ?_))
      refine zya rfl rfl ?_
      refine WL.nil (WP.thenC (WC.ret (WP.thenRet ?_)))
      refine WP.ret1 rfl rfl Tryz.results31 (RV.tmp rfl) (fun w hI => ⟨ret_no horsB_iff (by intro h; have h1 := h.pace; have h2 := h.n; (simp only [inB, spB, decide_eq_true_eq, decide_eq_false_iff_not] at *; omega)), hI.keep⟩)
    · try simp only [zq1, zq2, zq3, zq4, zq5, zq6, zq7, zq8] at c14
      refine WC.skip (WP.thenC (WC.seq (WC.seq (WC.ofFr [(2, _), (1, _)] ⟨rfl, rfl, trivial⟩ (WC.region ?_)))))
      refine zya rfl rfl ?_
      refine WL.nil (WP.thenC (WC.block ?_))
      have hA : (0 ≤ h.pace ∧ h.pace ≤ 3) ∧ h.moves.length ≤ 7 := by (simp only [inB, spB, decide_eq_true_eq, decide_eq_false_iff_not] at *; omega)
      refine WC.loopT [] (fun k : Nat => [(1, pt b1), (3, nt k)]) (fun _ => [(b1, .cells (List.toArray [it h.pace, .slice ma h.moves.length mc]) 35 (0, 0))]) (fun k => k ≤ h.moves.length ∧ ∀ i, i < k → (0 ≤ (gt h.moves i).at_ ∧ (gt h.moves i).at_ ≤ 200) ∧ (0 ≤ (gt h.moves i).place ∧ (gt h.moves i).place ≤ 30) ∧ 1 ≤ (gt h.moves i).long.lo ∧ (gt h.moves i).long.lo ≤ (gt h.moves i).long.hi ∧ (gt h.moves i).long.hi ≤ 20) (fun k => h.moves.length - k) 0 ⟨Nat.zero_le _, fun _ h => absurd h (Nat.not_lt_zero _)⟩ rfl ⟨rfl, rfl, trivial⟩ ?_
      rintro k ⟨hk, hF⟩
      refine WC.seq (WC.seq (WC.ofFr [(1, _), (3, _)] ⟨rfl, rfl, trivial⟩ (WC.region ?_)))
      refine zym rfl rfl ?_
      refine WL.yd (Yd.fieldAddr FA35_1 rfl) rfl ?_
      refine WL.yd (Yd.load1 Tryz.isAgg33 rfl (by first | exact ro0 rfl rfl)) rfl ?_
      refine WL.yd (Yd.lenS rfl Tryz.underlying33 rfl) rfl ?_
      refine WL.yd (Yd.lss rfl rfl) rfl ?_
      refine WL.nil (WP.thenC ?_)
      refine WC.cond rfl (fun c19 => ?_) (fun c19 => ?_)
      · try simp only [zq1, zq2, zq3, zq4, zq5, zq6, zq7, zq8] at c19
        have hkl : k < h.moves.length := by omega
        refine WC.skip (WP.thenC (WC.seq (WC.block (WC.seq (WC.ofFr [(1, _), (3, _)] ⟨rfl, rfl, trivial⟩ (WC.region ?_))))))
        refine WL.yd (Yd.fieldAddr FA35_1 rfl) rfl ?_
        refine WL.yd (Yd.load1 Tryz.isAgg33 rfl (by first | exact ro0 rfl rfl)) rfl ?_
        refine zym rfl rfl ?_
        refine WL.yd (Yd.indexS Tryz.underlying33 Tryz.sizeOf116 rfl rfl (by omega) (by omega) (by first | exact hRm.addr k (by omega))) rfl ?_
        refine WL.yd (Yd.loadN Tryz.isAgg116 Tryz.sizeOf116 rfl (vs := [_, _, _, _]) rfl (by first | exact rn0 (n := 4) rfl rfl | exact ((hRm.at k (by omega)).rdn 0 4 rfl))) rfl ?_
        refine WL.so (SO.alloc Tryz.zeroValue116 rfl) rfl ?_
        rintro _ _ _ ⟨b4, hb4, rfl, rfl, rfl⟩
        refine WL.so (SO.store 0 rfl Tryz.sizeOf116 rfl rfl rfl rfl (zqb rfl) (oneB_spec rfl)) rfl ?_
        rintro _ _ _ ⟨rfl, rfl, rfl⟩
        refine WL.nil (WP.thenC (WC.seq (WC.ofFr [(4, _), (1, _), (3, _)] ⟨rfl, rfl, rfl, trivial⟩ (WC.region ?_))))
        refine WL.yd (Yd.fieldAddr FA116_0 rfl) rfl ?_
        refine WL.yd (Yd.load1 Tryz.isAgg3 rfl (by first | exact ro0 rfl rfl | exact ro1 rfl rfl)) rfl ?_
        refine WL.so (SO.callP Tryz.call73 rfl (fun w hI => in02_g _ _ _ _)) rfl ?_
        rintro _ _ _ ⟨rfl, rfl, rfl⟩
        refine WL.yd (Yd.not rfl) rfl ?_
        refine zym rfl rfl ?_
        refine WL.part 31 rfl (fun g31 => ?_) (fun g31 => ?_)
        · try simp only [zq1, zq2, zq3, zq4, zq5, zq6, zq7, zq8] at g31
          refine WL.skip rfl rfl ?_
          refine WL.skip rfl rfl ?_
          refine WL.skip rfl rfl ?_
          refine WL.skip rfl rfl ?_
          refine WL.yd (Yd.pickT rfl rfl) rfl ?_
          refine zym rfl rfl ?_
          refine WL.skip rfl rfl ?_
          refine WL.skip rfl rfl ?_
          refine WL.skip rfl rfl ?_
          refine WL.skip rfl rfl ?_
          refine WL.yd (Yd.pickT rfl rfl) rfl ?_
          refine zym rfl rfl ?_
          refine WL.skip rfl rfl ?_
          refine WL.skip rfl rfl ?_
          refine WL.skip rfl rfl ?_
          refine WL.skip rfl rfl ?_
          refine WL.skip rfl rfl ?_
          refine WL.skip rfl rfl ?_
          refine WL.skip rfl rfl ?_
          refine WL.yd (Yd.pickT rfl rfl) rfl ?_
          refine zym rfl rfl ?_
          refine WL.skip rfl rfl ?_
          refine WL.skip rfl rfl ?_
          refine WL.skip rfl rfl ?_
          refine WL.skip rfl rfl ?_
          refine WL.yd (Yd.pickT rfl rfl) rfl ?_
          refine WL.nil (WP.thenC ?_)
          refine WC.condT rfl ?_
          refine WC.seq (WC.ofFr [(1, _), (3, _)] ⟨rfl, rfl, trivial⟩ (WC.region ?_))
          refine zya rfl rfl ?_
          refine WL.nil (WP.thenC (WC.ret (WP.blkRet (WP.thenRet (WP.thenRet (WP.blkRet (WP.thenRet ?_)))))))
          refine WP.ret1 rfl rfl Tryz.results31 (RV.tmp rfl) (fun w hI => ⟨ret_no horsB_iff (by intro h; have h1 := h.moves _ (gtB_mem hkl); (simp only [inB, spB, decide_eq_true_eq, decide_eq_false_iff_not] at *; omega)), hI.keep⟩)
        · try simp only [zq1, zq2, zq3, zq4, zq5, zq6, zq7, zq8] at g31
          refine WL.ydg rfl (Yd.fieldAddr FA116_1 rfl) rfl ?_
          refine WL.ydg rfl (Yd.load1 Tryz.isAgg3 rfl (by first | exact ro0 rfl rfl | exact ro1 rfl rfl)) rfl ?_
          refine WL.sog rfl (SO.callP Tryz.call73 rfl (fun w hI => in02_g _ _ _ _)) rfl ?_
          rintro _ _ _ ⟨rfl, rfl, rfl⟩
          refine WL.ydg rfl (Yd.not rfl) rfl ?_
          refine WL.yd (Yd.pickF rfl rfl) rfl ?_
          refine zym rfl rfl ?_
          refine WL.part 37 rfl (fun g37 => ?_) (fun g37 => ?_)
          · try simp only [zq1, zq2, zq3, zq4, zq5, zq6, zq7, zq8] at g37
            refine WL.skip rfl rfl ?_
            refine WL.skip rfl rfl ?_
            refine WL.skip rfl rfl ?_
            refine WL.skip rfl rfl ?_
            refine WL.yd (Yd.pickT rfl rfl) rfl ?_
            refine zym rfl rfl ?_
            refine WL.skip rfl rfl ?_
            refine WL.skip rfl rfl ?_
            refine WL.skip rfl rfl ?_
            refine WL.skip rfl rfl ?_
            refine WL.skip rfl rfl ?_
            refine WL.skip rfl rfl ?_
            refine WL.skip rfl rfl ?_
            refine WL.yd (Yd.pickT rfl rfl) rfl ?_
            refine zym rfl rfl ?_
            refine WL.skip rfl rfl ?_
            refine WL.skip rfl rfl ?_
            refine WL.skip rfl rfl ?_
            refine WL.skip rfl rfl ?_
            refine WL.yd (Yd.pickT rfl rfl) rfl ?_
            refine WL.nil (WP.thenC ?_)
            refine WC.condT rfl ?_
            refine WC.seq (WC.ofFr [(1, _), (3, _)] ⟨rfl, rfl, trivial⟩ (WC.region ?_))
            refine zya rfl rfl ?_
            refine WL.nil (WP.thenC (WC.ret (WP.blkRet (WP.thenRet (WP.thenRet (WP.blkRet (WP.thenRet ?_)))))))
            refine WP.ret1 rfl rfl Tryz.results31 (RV.tmp rfl) (fun w hI => ⟨ret_no horsB_iff (by intro h; have h1 := h.moves _ (gtB_mem hkl); (simp only [inB, spB, decide_eq_true_eq, decide_eq_false_iff_not] at *; omega)), hI.keep⟩)
          · try simp only [zq1, zq2, zq3, zq4, zq5, zq6, zq7, zq8] at g37
            refine WL.ydg rfl (Yd.fieldAddr FA116_2 rfl) rfl ?_
            refine WL.ydg rfl (Yd.fieldAddr FA114_0 rfl) rfl ?_
            refine WL.ydg rfl (Yd.load1 Tryz.isAgg3 rfl (by first | exact ro0 rfl rfl | exact ro1 rfl rfl)) rfl ?_
            refine WL.ydg rfl (Yd.lss rfl rfl) rfl ?_
            refine WL.yd (Yd.pickF rfl rfl) rfl ?_
            refine zym rfl rfl ?_
            refine WL.part 43 rfl (fun g43 => ?_) (fun g43 => ?_)
            · try simp only [zq1, zq2, zq3, zq4, zq5, zq6, zq7, zq8] at g43
              refine WL.skip rfl rfl ?_
              refine WL.skip rfl rfl ?_
              refine WL.skip rfl rfl ?_
              refine WL.skip rfl rfl ?_
              refine WL.skip rfl rfl ?_
              refine WL.skip rfl rfl ?_
              refine WL.skip rfl rfl ?_
              refine WL.yd (Yd.pickT rfl rfl) rfl ?_
              refine zym rfl rfl ?_
              refine WL.skip rfl rfl ?_
              refine WL.skip rfl rfl ?_
              refine WL.skip rfl rfl ?_
              refine WL.skip rfl rfl ?_
              refine WL.yd (Yd.pickT rfl rfl) rfl ?_
              refine WL.nil (WP.thenC ?_)
              refine WC.condT rfl ?_
              refine WC.seq (WC.ofFr [(1, _), (3, _)] ⟨rfl, rfl, trivial⟩ (WC.region ?_))
              refine zya rfl rfl ?_
              refine WL.nil (WP.thenC (WC.ret (WP.blkRet (WP.thenRet (WP.thenRet (WP.blkRet (WP.thenRet ?_)))))))
              refine WP.ret1 rfl rfl Tryz.results31 (RV.tmp rfl) (fun w hI => ⟨ret_no horsB_iff (by intro h; have h1 := h.moves _ (gtB_mem hkl); (simp only [inB, spB, decide_eq_true_eq, decide_eq_false_iff_not] at *; omega)), hI.keep⟩)
            · try simp only [zq1, zq2, zq3, zq4, zq5, zq6, zq7, zq8] at g43
              refine WL.ydg rfl (Yd.fieldAddr FA116_2 rfl) rfl ?_
              refine WL.ydg rfl (Yd.fieldAddr FA114_0 rfl) rfl ?_
              refine WL.ydg rfl (Yd.load1 Tryz.isAgg3 rfl (by first | exact ro0 rfl rfl | exact ro1 rfl rfl)) rfl ?_
              refine WL.ydg rfl (Yd.fieldAddr FA116_2 rfl) rfl ?_
              refine WL.ydg rfl (Yd.fieldAddr FA114_1 rfl) rfl ?_
              refine WL.ydg rfl (Yd.load1 Tryz.isAgg3 rfl (by first | exact ro0 rfl rfl | exact ro1 rfl rfl)) rfl ?_
              refine WL.ydg rfl (Yd.gtr rfl rfl) rfl ?_
              refine WL.yd (Yd.pickF rfl rfl) rfl ?_
              refine zym rfl rfl ?_
              refine WL.part 52 rfl (fun g52 => ?_) (fun g52 => ?_)
              · try simp only [zq1, zq2, zq3, zq4, zq5, zq6, zq7, zq8] at g52
                refine WL.skip rfl rfl ?_
                refine WL.skip rfl rfl ?_
                refine WL.skip rfl rfl ?_
                refine WL.skip rfl rfl ?_
                refine WL.yd (Yd.pickT rfl rfl) rfl ?_
                refine WL.nil (WP.thenC ?_)
                refine WC.condT rfl ?_
                refine WC.seq (WC.ofFr [(1, _), (3, _)] ⟨rfl, rfl, trivial⟩ (WC.region ?_))
                refine zya rfl rfl ?_
                refine WL.nil (WP.thenC (WC.ret (WP.blkRet (WP.thenRet (WP.thenRet (WP.blkRet (WP.thenRet ?_)))))))
                refine WP.ret1 rfl rfl Tryz.results31 (RV.tmp rfl) (fun w hI => ⟨ret_no horsB_iff (by intro h; have h1 := h.moves _ (gtB_mem hkl); (simp only [inB, spB, decide_eq_true_eq, decide_eq_false_iff_not] at *; omega)), hI.keep⟩)
              · try simp only [zq1, zq2, zq3, zq4, zq5, zq6, zq7, zq8] at g52
                refine WL.ydg rfl (Yd.fieldAddr FA116_2 rfl) rfl ?_
                refine WL.ydg rfl (Yd.fieldAddr FA114_1 rfl) rfl ?_
                refine WL.ydg rfl (Yd.load1 Tryz.isAgg3 rfl (by first | exact ro0 rfl rfl | exact ro1 rfl rfl)) rfl ?_
                refine WL.ydg rfl (Yd.gtr rfl rfl) rfl ?_
                refine WL.yd (Yd.pickF rfl rfl) rfl ?_
                refine WL.nil (WP.thenC ?_)
                refine WC.cond rfl (fun c57 => ?_) (fun c57 => ?_)
                · try simp only [zq1, zq2, zq3, zq4, zq5, zq6, zq7, zq8] at c57
                  refine WC.seq (WC.ofFr [(1, _), (3, _)] ⟨rfl, rfl, trivial⟩ (WC.region ?_))
                  refine zya rfl rfl ?_
                  refine WL.nil (WP.thenC (WC.ret (WP.blkRet (WP.thenRet (WP.thenRet (WP.blkRet (WP.thenRet ?_)))))))
                  refine WP.ret1 rfl rfl Tryz.results31 (RV.tmp rfl) (fun w hI => ⟨ret_no horsB_iff (by intro h; have h1 := h.moves _ (gtB_mem hkl); (simp only [inB, spB, decide_eq_true_eq, decide_eq_false_iff_not] at *; omega)), hI.keep⟩)
                · try simp only [zq1, zq2, zq3, zq4, zq5, zq6, zq7, zq8] at c57
                  refine WC.skip (WP.blkNormal (WP.thenC (WC.ofFr [(1, _), (3, _)] ⟨rfl, rfl, trivial⟩ (WC.region ?_))))
                  refine zym rfl rfl ?_
                  refine WL.yd (Yd.add rfl rfl (wr64 ⟨by omega, by omega⟩)) rfl ?_
                  refine zya rfl rfl ?_
                  refine WL.nil ?_
                  exact WP.againT (k + 1) ⟨hkl, (fun i hi => by rcases Nat.lt_or_ge i k with h | h; exact hF i h; obtain rfl : i = k := (by omega); have g8 := inB_iff.1 g31; have g9 := inB_iff.1 g37; omega)⟩ (by omega) [_] _ rfl rfl ⟨rfl, rfl, trivial⟩
      · try simp only [zq1, zq2, zq3, zq4, zq5, zq6, zq7, zq8] at c19
        obtain rfl : k = h.moves.length := by omega
        refine WC.exit ?_
        refine WP.thenExit ?_
        refine WP.thenExit ?_
        refine WP.blkHit ?_
        refine WP.thenC (WC.seq (WC.ofFr [] trivial (WC.region ?_)))
        refine zya rfl rfl ?_
        refine WL.nil (WP.thenC (WC.ret ?_))
        refine WP.ret1 rfl rfl Tryz.results31 (RV.tmp rfl) (fun w hI => ⟨ret_yes horsB_iff (horsOk_of hA hF), hI.keep⟩)

end Go.Proofs.YtaebnllfmkcpgaaGreatDoor
