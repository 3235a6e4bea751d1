import Derived.Test.YtaebnllfmkcpgaaGreatDoorXQ
import Derived.Test.YtaebnllfmkcpgaaGreatDoorXU
set_option linter.unusedSimpArgs false
set_option linter.unusedVariables false
set_option linter.all false
set_option maxRecDepth 100000
set_option maxHeartbeats 1000000
namespace Go.Proofs.YtaebnllfmkcpgaaGreatDoor
open Go.W Go.Bk

def sameSurf (a b : Surf) : Bool := decide (a.water.length = b.water.length) && (decide (a.waves.length = b.waves.length) && decide (putSurf a = putSurf b))

theorem sameSurf_g (x1 x2 : Surf) (m1 m2 : SurfM) (hN1 : SurfN x1) (hN2 : SurfN x2) (D : Imm) (hL : LibD D) (hR1 : SurfR D x1 m1) (hR2 : SurfR D x2 m2) (w : World) (hH : Holds D w) : Gives Tryz.prog 28 [surfV x1 m1, surfV x2 m2] w (.bool (sameSurf x1 x2)) := by
  unfold Gives
  obtain ⟨⟨wa, wn, wc⟩, ⟨va, vn, vc⟩, ⟨ha, hn, hc⟩⟩ := m1
  obtain ⟨⟨wa2, wn2, wc2⟩, ⟨va2, vn2, vc2⟩, ⟨ha2, hn2, hc2⟩⟩ := m2
  have e1 : wn = x1.water.length := hR1.w.len'
  have e2 : vn = x1.waves.length := hR1.v.len'
  have e3 : wn2 = x2.water.length := hR2.w.len'
  have e4 : vn2 = x2.waves.length := hR2.v.len'
  have q1 : wn ≤ 9223372036854775807 := hR1.nw
  have q2 : vn ≤ 9223372036854775807 := hR1.nv
  have q3 : wn2 ≤ 9223372036854775807 := hR2.nw
  have q4 : vn2 ≤ 9223372036854775807 := hR2.nv
  refine enter Tryz.func28 rfl 28 Tryz.ntmps28 (zqb rfl) (Inv.start hH) ?_
  refine WC.seq (WC.ofFr [(0, _), (1, _)] ⟨rfl, rfl, trivial⟩ (WC.region ?_))
  refine WL.so (SO.box rfl rfl) rfl ?_
  rintro _ _ _ ⟨b2, hb2, rfl, rfl, rfl⟩
  refine WL.so (SO.box rfl rfl) rfl ?_
  rintro _ _ _ ⟨b3, hb3, rfl, rfl, rfl⟩
  refine zya rfl rfl ?_
  refine WL.nil (WP.thenC (WC.seq (WC.ofFr [(4, _), (3, _), (2, _)] ⟨rfl, rfl, rfl, trivial⟩ ?_)))
  refine WC.tail 20 [0, 1, 2, 3, 4, 5, 6, 7, 8, 9, 10, 11, 12, 13, 14, 15, 16, 17, 18, 19] rfl (by kernel_rfl) (by kernel_rfl)  ?_
  refine WQ.q rfl (Yd.qt (Yd.fieldAddr FA25_2 rfl)) rfl ?_
  refine WQ.q rfl (Yd.qt (Yd.load1 Tryz.isAgg22 rfl (by first | exact ro0 rfl rfl | exact ro1 rfl rfl))) rfl ?_
  refine WQ.q rfl (Yd.qt (Yd.lenS rfl Tryz.underlying22 rfl)) rfl ?_
  refine WQ.q rfl (Yd.qt (Yd.fieldAddr FA25_2 rfl)) rfl ?_
  refine WQ.q rfl (Yd.qt (Yd.load1 Tryz.isAgg22 rfl (by first | exact ro0 rfl rfl | exact ro1 rfl rfl))) rfl ?_
  refine WQ.q rfl (Yd.qt (Yd.lenS rfl Tryz.underlying22 rfl)) rfl ?_
  refine WQ.q rfl (Yd.qt (Yd.eql rfl rfl)) rfl ?_
  refine WQ.q rfl (Yd.qt (Yd.move rfl)) rfl ?_
  refine WQ.part 12 rfl (fun g12 => ?_) (fun g12 => ?_)
  · try simp only [zq1, zq2, zq3, zq4, zq5, zq6, zq7, zq8] at g12
    refine WQ.qg rfl rfl (Yd.qt (Yd.fieldAddr FA25_3 rfl)) rfl ?_
    refine WQ.qg rfl rfl (Yd.qt (Yd.load1 Tryz.isAgg22 rfl (by first | exact ro0 rfl rfl | exact ro1 rfl rfl))) rfl ?_
    refine WQ.qg rfl rfl (Yd.qt (Yd.lenS rfl Tryz.underlying22 rfl)) rfl ?_
    refine WQ.qg rfl rfl (Yd.qt (Yd.fieldAddr FA25_3 rfl)) rfl ?_
    refine WQ.qg rfl rfl (Yd.qt (Yd.load1 Tryz.isAgg22 rfl (by first | exact ro0 rfl rfl | exact ro1 rfl rfl))) rfl ?_
    refine WQ.qg rfl rfl (Yd.qt (Yd.lenS rfl Tryz.underlying22 rfl)) rfl ?_
    refine WQ.qg rfl rfl (Yd.qt (Yd.eql rfl rfl)) rfl ?_
    refine WQ.q rfl (Yd.qt (Yd.pickT rfl rfl)) rfl ?_
    refine WQ.q rfl (Yd.qt (Yd.move rfl)) rfl ?_
    refine WQ.part 21 rfl (fun g21 => ?_) (fun g21 => ?_)
    · try simp only [zq1, zq2, zq3, zq4, zq5, zq6, zq7, zq8] at g21
      refine WQ.qg rfl rfl (Yd.qt (Yd.loadN Tryz.isAgg25 Tryz.sizeOf25 rfl (vs := [_, _, _, _, _]) rfl (by first | exact rn0 (n := 5) rfl rfl | exact rn1 (n := 5) rfl rfl))) rfl ?_
      refine WQ.qg rfl rfl (Qt.callP Tryz.call54 rfl (fun w hI => rSurf_g x1 ⟨⟨wa, wn, wc⟩, ⟨va, vn, vc⟩, ⟨ha, hn, hc⟩⟩ hN1 D hL hR1 _ hI.imm)) rfl ?_
      refine WQ.qg rfl rfl (Yd.qt (Yd.loadN Tryz.isAgg25 Tryz.sizeOf25 rfl (vs := [_, _, _, _, _]) rfl (by first | exact rn0 (n := 5) rfl rfl | exact rn1 (n := 5) rfl rfl))) rfl ?_
      refine WQ.tail ?_
      refine WL.sog rfl (SO.callP Tryz.call54 rfl (fun w hI => rSurf_g x2 ⟨⟨wa2, wn2, wc2⟩, ⟨va2, vn2, vc2⟩, ⟨ha2, hn2, hc2⟩⟩ hN2 D hL hR2 _ hI.imm)) rfl ?_
      rintro _ _ _ ⟨rfl, rfl, rfl⟩
      refine WL.ydg rfl (Yd.eqS' rfl rfl) rfl ?_
      refine WL.yd (Yd.pickT rfl rfl) rfl ?_
      refine zya rfl rfl ?_
      refine WL.nil (WP.thenC (WC.ret ?_))
      refine WP.ret1 rfl rfl Tryz.results28 (RV.tmp rfl) (fun w hI => ⟨ret_bool (by unfold sameSurf; rw [decide_eq_true (show x1.water.length = x2.water.length by omega), decide_eq_true (show x1.waves.length = x2.waves.length by omega)]; rfl), hI.keep⟩)
    · try simp only [zq1, zq2, zq3, zq4, zq5, zq6, zq7, zq8] at g21
      refine WQ.skip rfl rfl rfl ?_
      refine WQ.skip rfl rfl rfl ?_
      refine WQ.skip rfl rfl rfl ?_
      refine WQ.tail ?_
      refine WL.skip rfl rfl ?_
      refine WL.skip rfl rfl ?_
      refine WL.yd (Yd.pickF rfl rfl) rfl ?_
      refine zya rfl rfl ?_
      refine WL.nil (WP.thenC (WC.ret ?_))
      refine WP.ret1 rfl rfl Tryz.results28 (RV.tmp rfl) (fun w hI => ⟨ret_bool (by unfold sameSurf; rw [decide_eq_true (show x1.water.length = x2.water.length by omega), decide_eq_false (show ¬ x1.waves.length = x2.waves.length by omega)]; rfl), hI.keep⟩)
  · try simp only [zq1, zq2, zq3, zq4, zq5, zq6, zq7, zq8] at g12
    refine WQ.skip rfl rfl rfl ?_
    refine WQ.skip rfl rfl rfl ?_
    refine WQ.skip rfl rfl rfl ?_
    refine WQ.skip rfl rfl rfl ?_
    refine WQ.skip rfl rfl rfl ?_
    refine WQ.skip rfl rfl rfl ?_
    refine WQ.skip rfl rfl rfl ?_
    refine WQ.q rfl (Yd.qt (Yd.pickF rfl rfl)) rfl ?_
    refine WQ.q rfl (Yd.qt (Yd.move rfl)) rfl ?_
    refine WQ.skip rfl rfl rfl ?_
    refine WQ.skip rfl rfl rfl ?_
    refine WQ.skip rfl rfl rfl ?_
    refine WQ.tail ?_
    refine WL.skip rfl rfl ?_
    refine WL.skip rfl rfl ?_
    refine WL.yd (Yd.pickF rfl rfl) rfl ?_
    refine zya rfl rfl ?_
    refine WL.nil (WP.thenC (WC.ret ?_))
    refine WP.ret1 rfl rfl Tryz.results28 (RV.tmp rfl) (fun w hI => ⟨ret_bool (by unfold sameSurf; rw [decide_eq_false (show ¬ x1.water.length = x2.water.length by omega)]; rfl), hI.keep⟩)

theorem sameFlag_g (x1 x2 : Flag) (m1 m2 : FlagM) (hN1 : FlagN x1) (hN2 : FlagN x2) (D : Imm) (hL : LibD D) (hR1 : FlagR D x1 m1) (hR2 : FlagR D x2 m2) (w : World) (hH : Holds D w) : Gives Tryz.prog 29 [flagV x1 m1, flagV x2 m2] w (.bool (decide (putFlag x1 = putFlag x2))) := by
  unfold Gives
  refine enter Tryz.func29 rfl 10 Tryz.ntmps29 (zqb rfl) (Inv.start hH) ?_
  refine WC.seq (WC.ofFr [(0, _), (1, _)] ⟨rfl, rfl, trivial⟩ (WC.region ?_))
  refine WL.so (SO.box rfl rfl) rfl ?_
  rintro _ _ _ ⟨b2, hb2, rfl, rfl, rfl⟩
  refine WL.so (SO.box rfl rfl) rfl ?_
  rintro _ _ _ ⟨b3, hb3, rfl, rfl, rfl⟩
  refine zya rfl rfl ?_
  refine WL.nil (WP.thenC (WC.seq (WC.ofFr [(4, _), (3, _), (2, _)] ⟨rfl, rfl, rfl, trivial⟩ ?_)))
  refine WC.tail 3 [0, 1, 2] rfl (by kernel_rfl) (by kernel_rfl)  ?_
  refine WQ.q rfl (Yd.qt (Yd.loadN Tryz.isAgg29 Tryz.sizeOf29 rfl (vs := [_, _, _, _, _]) rfl (by first | exact rn0 (n := 5) rfl rfl | exact rn1 (n := 5) rfl rfl))) rfl ?_
  refine WQ.q rfl (Qt.callP Tryz.call57 rfl (fun w hI => rFlag_g x1 m1 hN1 D hL hR1 _ hI.imm)) rfl ?_
  refine WQ.q rfl (Yd.qt (Yd.loadN Tryz.isAgg29 Tryz.sizeOf29 rfl (vs := [_, _, _, _, _]) rfl (by first | exact rn0 (n := 5) rfl rfl | exact rn1 (n := 5) rfl rfl))) rfl ?_
  refine WQ.tail ?_
  refine WL.so (SO.callP Tryz.call57 rfl (fun w hI => rFlag_g x2 m2 hN2 D hL hR2 _ hI.imm)) rfl ?_
  rintro _ _ _ ⟨rfl, rfl, rfl⟩
  refine WL.yd (Yd.eqS' rfl rfl) rfl ?_
  refine zya rfl rfl ?_
  refine WL.nil (WP.thenC (WC.ret ?_))
  refine WP.ret1 rfl rfl Tryz.results29 (RV.tmp rfl) (fun w hI => ⟨rfl, hI.keep⟩)

theorem sameBoats_g (x1 x2 : Boats) (m1 m2 : BoatsM) (hN1 : BoatsN x1) (hN2 : BoatsN x2) (D : Imm) (hL : LibD D) (hR1 : BoatsR D x1 m1) (hR2 : BoatsR D x2 m2) (w : World) (hH : Holds D w) : Gives Tryz.prog 30 [boatsV x1 m1, boatsV x2 m2] w (.bool (decide (putBoats x1 = putBoats x2))) := by
  unfold Gives
  refine enter Tryz.func30 rfl 10 Tryz.ntmps30 (zqb rfl) (Inv.start hH) ?_
  refine WC.seq (WC.ofFr [(0, _), (1, _)] ⟨rfl, rfl, trivial⟩ (WC.region ?_))
  refine WL.so (SO.box rfl rfl) rfl ?_
  rintro _ _ _ ⟨b2, hb2, rfl, rfl, rfl⟩
  refine WL.so (SO.box rfl rfl) rfl ?_
  rintro _ _ _ ⟨b3, hb3, rfl, rfl, rfl⟩
  refine zya rfl rfl ?_
  refine WL.nil (WP.thenC (WC.seq (WC.ofFr [(4, _), (3, _), (2, _)] ⟨rfl, rfl, rfl, trivial⟩ ?_)))
  refine WC.tail 3 [0, 1, 2] rfl (by kernel_rfl) (by kernel_rfl)  ?_
  refine WQ.q rfl (Yd.qt (Yd.loadN Tryz.isAgg32 Tryz.sizeOf32 rfl (vs := [_, _, _, _, _]) rfl (by first | exact rn0 (n := 5) rfl rfl | exact rn1 (n := 5) rfl rfl))) rfl ?_
  refine WQ.q rfl (Qt.callP Tryz.call60 rfl (fun w hI => rBoats_g x1 m1 hN1 D hL hR1 _ hI.imm)) rfl ?_
  refine WQ.q rfl (Yd.qt (Yd.loadN Tryz.isAgg32 Tryz.sizeOf32 rfl (vs := [_, _, _, _, _]) rfl (by first | exact rn0 (n := 5) rfl rfl | exact rn1 (n := 5) rfl rfl))) rfl ?_
  refine WQ.tail ?_
  refine WL.so (SO.callP Tryz.call60 rfl (fun w hI => rBoats_g x2 m2 hN2 D hL hR2 _ hI.imm)) rfl ?_
  rintro _ _ _ ⟨rfl, rfl, rfl⟩
  refine WL.yd (Yd.eqS' rfl rfl) rfl ?_
  refine zya rfl rfl ?_
  refine WL.nil (WP.thenC (WC.ret ?_))
  refine WP.ret1 rfl rfl Tryz.results30 (RV.tmp rfl) (fun w hI => ⟨rfl, hI.keep⟩)

end Go.Proofs.YtaebnllfmkcpgaaGreatDoor
namespace Go.Proofs.YtaebnllfmkcpgaaGreatDoor
open Go.W Go.Bk

theorem bytes_g (l1 l2 : Bs) (a1 a2 : Option Addr) (n1 n2 c1 c2 : Nat) (D : Imm) (hS1 : SlL D 1 (l1.map btC) a1 n1) (hS2 : SlL D 1 (l2.map btC) a2 n2) (w : World) (hH : Holds D w) : Gives Tryz.prog 22 [.slice a1 n1 c1, .slice a2 n2 c2] w (.bool (decide (l1 = l2))) := by
  unfold Gives
  refine enter Tryz.func22 rfl 10 Tryz.ntmps22 (zqb rfl) (Inv.start hH) ?_
  refine WC.seq (WC.ofFr [(0, _), (1, _)] ⟨rfl, rfl, trivial⟩ (WC.region ?_))
  refine zya rfl rfl ?_
  refine WL.nil (WP.thenC (WC.seq (WC.ofFr [(4, _), (0, _), (1, _)] ⟨rfl, rfl, rfl, trivial⟩ (WC.region ?_))))
  refine zym rfl rfl ?_
  refine WL.yd (Yd.convBytes (l := l1) Tryz.underlying43 Tryz.underlying5 Tryz.underlying9 rfl hS1) rfl ?_
  refine zym rfl rfl ?_
  refine WL.yd (Yd.convBytes (l := l2) Tryz.underlying43 Tryz.underlying5 Tryz.underlying9 rfl hS2) rfl ?_
  refine WL.yd (Yd.eqS' rfl rfl) rfl ?_
  refine zya rfl rfl ?_
  refine WL.nil (WP.thenC (WC.ret ?_))
  refine WP.ret1 rfl rfl Tryz.results22 (RV.tmp rfl) (fun w hI => ⟨rfl, hI.keep⟩)

end Go.Proofs.YtaebnllfmkcpgaaGreatDoor
namespace Go.Proofs.YtaebnllfmkcpgaaGreatDoor
open Go.W Go.Bk

end Go.Proofs.YtaebnllfmkcpgaaGreatDoor
