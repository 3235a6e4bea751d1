import Derived.Test.YtaebnllfmkcpgaaGreatDoorXR
set_option linter.unusedSimpArgs false
set_option linter.unusedVariables false
set_option linter.all false
set_option maxRecDepth 100000
set_option maxHeartbeats 1000000
namespace Go.Proofs.YtaebnllfmkcpgaaGreatDoor
open Go.W Go.Bk

end Go.Proofs.YtaebnllfmkcpgaaGreatDoor
namespace Go.Proofs.YtaebnllfmkcpgaaGreatDoor
open Go.W Go.Bk

theorem WP.hp1 {x : Cx} {fr : Fr} {D : Imm} {h : Nat × Obj} {hp : Hp} {Q : Exit → Act → World → Prop} {e : Exit} (hw : WP x fr D [h] e Q) : WP x fr D (h :: hp) e Q := fun a w hA => hw a w ⟨hA.f, hA.i.sub (fun _ he => by simp at he; simp [he]) (by simp)⟩

end Go.Proofs.YtaebnllfmkcpgaaGreatDoor
namespace Go.Proofs.YtaebnllfmkcpgaaGreatDoor
open Go.W Go.Bk

def hN (h : Hors) (k : Nat) : List Nat := [h.pace.toNat, h.moves.length] ++ (h.moves.take k).flatMap moveN
end Go.Proofs.YtaebnllfmkcpgaaGreatDoor
namespace Go.Proofs.YtaebnllfmkcpgaaGreatDoor
open Go.W Go.Bk

end Go.Proofs.YtaebnllfmkcpgaaGreatDoor
namespace Go.Proofs.YtaebnllfmkcpgaaGreatDoor
open Go.W Go.Bk

end Go.Proofs.YtaebnllfmkcpgaaGreatDoor
namespace Go.Proofs.YtaebnllfmkcpgaaGreatDoor
open Go.W Go.Bk

theorem eqMoves (a b c d e f g h : Int) : ∀ w, (Op.equalIn 10000 116 (.agg #[it a, it b, it c, it d]) (.agg #[it e, it f, it g, it h])).run Tryz.prog w = .ok (decide ((⟨a, b, ⟨c, d⟩⟩ : Mv) = ⟨e, f, ⟨g, h⟩⟩)) w := by
  intro w
  have h1 : (Op.equalIn 10000 116 (.agg #[it a, it b, it c, it d]) (.agg #[it e, it f, it g, it h])).run Tryz.prog w = .ok (a == e && (b == f && (c == g && d == h))) w := by
    simp [go_sem, Op.eqFields]
    by_cases h1 : a = e <;> by_cases h2 : b = f <;> by_cases h3 : c = g <;> by_cases h4 : d = h <;> simp_all
  have h2 : (a == e && (b == f && (c == g && d == h))) = decide ((⟨a, b, ⟨c, d⟩⟩ : Mv) = ⟨e, f, ⟨g, h⟩⟩) := by
    rw [Bool.eq_iff_iff]; simp only [Bool.and_eq_true, beq_iff_eq, decide_eq_true_eq, Mv.mk.injEq, Sp.mk.injEq]
  rw [h1, h2]

theorem moves_eq {a b : List Mv} (h : a.length = b.length) (h2 : a.take a.length = b.take a.length) : a = b := by
  rw [List.take_length, List.take_of_length_le (by omega)] at h2; exact h2
theorem mtake_succ {a b : List Mv} {k : Nat} (h1 : k < a.length) (h2 : k < b.length) (h : a.take k = b.take k) (hg : gt a k = gt b k) : a.take (k + 1) = b.take (k + 1) := by
  rw [take_gt h1, take_gt h2, h, hg]
theorem gt_eq {a b : List Mv} {k : Nat} (h : a = b) : gt a k = gt b k := by rw [h]

theorem sameHors_g (x1 x2 : Hors) (m1 m2 : Sl) (D : Imm) (hR1 : HorsR D x1 m1) (hR2 : HorsR D x2 m2) (w : World) (hH : Holds D w) : Gives Tryz.prog 27 [horsV x1 m1, horsV x2 m2] w (.bool (decide (x1 = x2))) := by
  unfold Gives
  obtain ⟨ma, mn, mc⟩ := m1
  obtain ⟨ma2, mn2, mc2⟩ := m2
  obtain rfl : mn = x1.moves.length := hR1.r.len'
  obtain rfl : mn2 = x2.moves.length := hR2.r.len'
  have hA1 : SlL D 4 (x1.moves.map mvC) ma x1.moves.length := hR1.r
  have hA2 : SlL D 4 (x2.moves.map mvC) ma2 x2.moves.length := hR2.r
  have q1 : x1.moves.length ≤ 9223372036854775807 := hR1.n
  have q2 : x2.moves.length ≤ 9223372036854775807 := hR2.n
  refine enter Tryz.func27 rfl 38 Tryz.ntmps27 (zqb rfl) (Inv.start hH) ?_
  refine WC.seq (WC.ofFr [(0, _), (1, _)] ⟨rfl, rfl, trivial⟩ (WC.region ?_))
  refine WL.so (SO.box rfl rfl) rfl ?_
  rintro _ _ _ ⟨b2, hb2, rfl, rfl, rfl⟩
  refine WL.so (SO.box rfl rfl) rfl ?_
  rintro _ _ _ ⟨b3, hb3, rfl, rfl, rfl⟩
  refine zya rfl rfl ?_
  refine WL.nil (WP.thenC (WC.seq (WC.seq (WC.ofFr [(4, _), (3, _), (2, _)] ⟨rfl, rfl, rfl, trivial⟩ (WC.region ?_)))))
  refine WL.yd (Yd.fieldAddr FA35_0 rfl) rfl ?_
  refine WL.yd (Yd.load1 Tryz.isAgg3 rfl (by first | exact ro0 rfl rfl | exact ro1 rfl rfl)) rfl ?_
  refine WL.yd (Yd.fieldAddr FA35_0 rfl) rfl ?_
  refine WL.yd (Yd.load1 Tryz.isAgg3 rfl (by first | exact ro0 rfl rfl | exact ro1 rfl rfl)) rfl ?_
  refine WL.yd (Yd.neq rfl rfl) rfl ?_
  refine zym rfl rfl ?_
  refine WL.part 11 rfl (fun g11 => ?_) (fun g11 => ?_)
  · try simp only [zq1, zq2, zq3, zq4, zq5, zq6, zq7, zq8] at g11
    refine WL.skip rfl rfl ?_
    refine WL.skip rfl rfl ?_
    refine WL.skip rfl rfl ?_
    refine WL.skip rfl rfl ?_
    refine WL.skip rfl rfl ?_
    refine WL.skip rfl rfl ?_
    refine WL.skip rfl rfl ?_
    refine WL.yd (Yd.pickT rfl rfl) rfl ?_
    refine WL.nil (WP.thenC ?_)
    refine WC.condT rfl ?_
    refine WC.seq (WC.ofFr [(4, _), (3, _), (2, _)] ⟨rfl, rfl, rfl, trivial⟩ (WC.region ?_))
    refine zya rfl rfl ?_
    refine WL.nil (WP.thenC (WC.ret (WP.thenRet ?_)))
    refine WP.ret1 rfl rfl Tryz.results27 (RV.tmp rfl) (fun w hI => ⟨ret_bool (decide_eq_false (fun e => by subst e; omega)).symm, hI.keep⟩)
  · try simp only [zq1, zq2, zq3, zq4, zq5, zq6, zq7, zq8] at g11
    refine WL.ydg rfl (Yd.fieldAddr FA35_1 rfl) rfl ?_
    refine WL.ydg rfl (Yd.load1 Tryz.isAgg33 rfl (by first | exact ro0 rfl rfl | exact ro1 rfl rfl)) rfl ?_
    refine WL.ydg rfl (Yd.lenS rfl Tryz.underlying33 rfl) rfl ?_
    refine WL.ydg rfl (Yd.fieldAddr FA35_1 rfl) rfl ?_
    refine WL.ydg rfl (Yd.load1 Tryz.isAgg33 rfl (by first | exact ro0 rfl rfl | exact ro1 rfl rfl)) rfl ?_
    refine WL.ydg rfl (Yd.lenS rfl Tryz.underlying33 rfl) rfl ?_
    refine WL.ydg rfl (Yd.neq rfl rfl) rfl ?_
    refine WL.yd (Yd.pickF rfl rfl) rfl ?_
    refine WL.nil (WP.thenC ?_)
    refine WC.cond rfl (fun c19 => ?_) (fun c19 => ?_)
    · try simp only [zq1, zq2, zq3, zq4, zq5, zq6, zq7, zq8] at c19
      refine WC.seq (WC.ofFr [(4, _), (3, _), (2, _)] ⟨rfl, rfl, rfl, trivial⟩ (WC.region ?_))
      refine zya rfl rfl ?_
      refine WL.nil (WP.thenC (WC.ret (WP.thenRet ?_)))
      refine WP.ret1 rfl rfl Tryz.results27 (RV.tmp rfl) (fun w hI => ⟨ret_bool (decide_eq_false (fun e => by subst e; omega)).symm, hI.keep⟩)
    · try simp only [zq1, zq2, zq3, zq4, zq5, zq6, zq7, zq8] at c19
      refine WC.skip (WP.thenC (WC.seq (WC.seq (WC.ofFr [(4, _), (3, _), (2, _)] ⟨rfl, rfl, rfl, trivial⟩ (WC.region ?_)))))
      refine zya rfl rfl ?_
      refine WL.nil (WP.thenC (WC.block ?_))
      have hA : x1.pace = x2.pace ∧ x1.moves.length = x2.moves.length := ⟨by omega, by omega⟩
      refine WC.loopT [] (fun k : Nat => [(2, pt b2), (3, pt b3), (5, nt k)]) (fun _ => [(b3, .cells (List.toArray [it x2.pace, .slice ma2 x2.moves.length mc2]) 35 (0, 0)), (b2, .cells (List.toArray [it x1.pace, .slice ma x1.moves.length mc]) 35 (0, 0))]) (fun k => k ≤ x1.moves.length ∧ x1.moves.take k = x2.moves.take k) (fun k => x1.moves.length - k) 0 ⟨Nat.zero_le _, rfl⟩ rfl ⟨rfl, rfl, rfl, trivial⟩ ?_
      rintro k ⟨hk, hF⟩
      refine WC.seq (WC.seq (WC.ofFr [(2, _), (3, _), (5, _)] ⟨rfl, rfl, rfl, trivial⟩ (WC.region ?_)))
      refine zym rfl rfl ?_
      refine WL.yd (Yd.fieldAddr FA35_1 rfl) rfl ?_
      refine WL.yd (Yd.load1 Tryz.isAgg33 rfl (by first | exact ro0 rfl rfl | exact ro1 rfl rfl)) rfl ?_
      refine WL.yd (Yd.lenS rfl Tryz.underlying33 rfl) rfl ?_
      refine WL.yd (Yd.lss rfl rfl) rfl ?_
      refine WL.nil (WP.thenC ?_)
      refine WC.cond rfl (fun c24 => ?_) (fun c24 => ?_)
      · try simp only [zq1, zq2, zq3, zq4, zq5, zq6, zq7, zq8] at c24
        have hkl : k < x1.moves.length := by omega
        refine WC.skip (WP.thenC (WC.seq (WC.block (WC.seq (WC.ofFr [(2, _), (3, _), (5, _)] ⟨rfl, rfl, rfl, trivial⟩ ?_)))))
        refine WC.tail 10 [0, 1, 2, 3, 4, 5, 6, 7, 8, 9] rfl (by kernel_rfl) (by kernel_rfl)  ?_
        refine WQ.q rfl (Yd.qt (Yd.fieldAddr FA35_1 rfl)) rfl ?_
        refine WQ.q rfl (Yd.qt (Yd.load1 Tryz.isAgg33 rfl (by first | exact ro0 rfl rfl | exact ro1 rfl rfl))) rfl ?_
        refine WQ.q rfl (Yd.qt (Yd.move rfl)) rfl ?_
        refine WQ.q rfl (Yd.qt (Yd.indexS Tryz.underlying33 Tryz.sizeOf116 rfl rfl (by omega) (by omega) (by first | exact hA1.addr k (by omega) | exact hA2.addr k (by omega)))) rfl ?_
        refine WQ.q rfl (Yd.qt (Yd.loadN Tryz.isAgg116 Tryz.sizeOf116 rfl (vs := [_, _, _, _]) rfl (by first | exact rn0 (n := 4) rfl rfl | exact rn1 (n := 4) rfl rfl | exact ((hA1.at k (by omega)).rdn 0 4 rfl) | exact ((hA2.at k (by omega)).rdn 0 4 rfl)))) rfl ?_
        refine WQ.q rfl (Yd.qt (Yd.fieldAddr FA35_1 rfl)) rfl ?_
        refine WQ.q rfl (Yd.qt (Yd.load1 Tryz.isAgg33 rfl (by first | exact ro0 rfl rfl | exact ro1 rfl rfl))) rfl ?_
        refine WQ.q rfl (Yd.qt (Yd.move rfl)) rfl ?_
        refine WQ.q rfl (Yd.qt (Yd.indexS Tryz.underlying33 Tryz.sizeOf116 rfl rfl (by omega) (by omega) (by first | exact hA1.addr k (by omega) | exact hA2.addr k (by omega)))) rfl ?_
        refine WQ.q rfl (Yd.qt (Yd.loadN Tryz.isAgg116 Tryz.sizeOf116 rfl (vs := [_, _, _, _]) rfl (by first | exact rn0 (n := 4) rfl rfl | exact rn1 (n := 4) rfl rfl | exact ((hA1.at k (by omega)).rdn 0 4 rfl) | exact ((hA2.at k (by omega)).rdn 0 4 rfl)))) rfl ?_
        refine WQ.tail ?_
        refine WL.yd (Yd.neS Tryz.eqGuardType116 (eqMoves _ _ _ _ _ _ _ _) rfl rfl) rfl ?_
        refine WL.nil (WP.thenC ?_)
        refine WC.cond rfl (fun c37 => ?_) (fun c37 => ?_)
        · try simp only [zq1, zq2, zq3, zq4, zq5, zq6, zq7, zq8] at c37
          refine WC.seq (WC.ofFr [(2, _), (3, _), (5, _)] ⟨rfl, rfl, rfl, trivial⟩ (WC.region ?_))
          refine zya rfl rfl ?_
          refine WL.nil (WP.thenC (WC.ret (WP.blkRet (WP.thenRet (WP.thenRet (WP.blkRet (WP.thenRet ?_)))))))
          refine WP.ret1 rfl rfl Tryz.results27 (RV.tmp rfl) (fun w hI => ⟨ret_bool (decide_eq_false (fun e => c37 (gt_eq (congrArg Hors.moves e)))).symm, hI.keep⟩)
        · try simp only [zq1, zq2, zq3, zq4, zq5, zq6, zq7, zq8] at c37
          refine WC.skip (WP.blkNormal (WP.thenC (WC.ofFr [(2, _), (3, _), (5, _)] ⟨rfl, rfl, rfl, trivial⟩ (WC.region ?_))))
          refine zym rfl rfl ?_
          refine WL.yd (Yd.add rfl rfl (wr64 ⟨by omega, by omega⟩)) rfl ?_
          refine zya rfl rfl ?_
          refine WL.nil ?_
          exact WP.againT (k + 1) ⟨hkl, mtake_succ hkl (by omega) hF c37⟩ (by omega) [] _ rfl rfl ⟨rfl, rfl, rfl, trivial⟩
      · try simp only [zq1, zq2, zq3, zq4, zq5, zq6, zq7, zq8] at c24
        obtain rfl : k = x1.moves.length := by omega
        refine WC.exit ?_
        refine WP.thenExit ?_
        refine WP.thenExit ?_
        refine WP.blkHit ?_
        refine WP.thenC (WC.seq (WC.ofFr [] trivial (WC.region ?_)))
        refine zya rfl rfl ?_
        refine WL.nil (WP.thenC (WC.ret ?_))
        refine WP.ret1 rfl rfl Tryz.results27 (RV.tmp rfl) (fun w hI => ⟨ret_bool (decide_eq_true (by have h1 := moves_eq hA.2 hF; obtain ⟨p1, v1⟩ := x1; obtain ⟨p2, v2⟩ := x2; simp only at hA h1; rw [hA.1, h1])).symm, hI.keep⟩)

end Go.Proofs.YtaebnllfmkcpgaaGreatDoor
