import Derived.Test.YtaebnllfmkcpgaaGreatDoorXQ
import Derived.Test.YtaebnllfmkcpgaaGreatDoorXU
set_option linter.unusedSimpArgs false
set_option linter.unusedVariables false
set_option linter.all false
set_option maxRecDepth 100000
set_option maxHeartbeats 1000000
namespace Go.Proofs.YtaebnllfmkcpgaaGreatDoor
open Go.W Go.Bk

theorem sameBoats_g (x1 x2 : Boats) (m1 m2 : BoatsM) (hN1 : BoatsN x1) (hN2 : BoatsN x2) (D : Imm) (hL : LibD D) (hR1 : BoatsR D x1 m1) (hR2 : BoatsR D x2 m2) (w : World) (hH : Holds D w) : Gives Tryz.prog 30 [boatsV x1 m1, boatsV x2 m2] w (.bool (decide (putBoats x1 = putBoats x2))) := by
  unfold Gives
  refine enter Tryz.func30 rfl 10 Tryz.ntmps30 (zqb rfl) (Inv.start hH) ?_
  refine WC.seq (WC.ofFr [(0, _), (1, _)] ⟨rfl, rfl, trivial⟩ (WC.region ?_))
  refine WL.so (SO.box rfl rfl) rfl ?_
  rintro _ _ _ ⟨b2, hb2, rfl, rfl, rfl⟩
  refine WL.so (SO.box rfl rfl) rfl ?_
  rintro _ _ _ ⟨b3, hb3, rfl, rfl, rfl⟩
  refine zya rfl rfl ?_
  refine WL.nil (WP.thenC (WC.seq (WC.ofFr [(4, _), (3, _), (2, _)] ⟨rfl, rfl, rfl, trivial⟩ ?_)))
  refine WC.tail 3 [0, 1, 2] rfl (by kernel_rfl) (by kernel_rfl)  ?_
  refine WQ.q rfl (Yd.qt (Yd.loadN Tryz.isAgg32 Tryz.sizeOf32 rfl (vs := [_, _, _, _, _]) rfl (by first | exact rn0 (n := 5) rfl rfl | exact rn1 (n := 5) rfl rfl))) rfl ?_
  refine WQ.q rfl (Qt.callP Tryz.call60 rfl (fun w hI => rBoats_g x1 m1 hN1 D hL hR1 _ hI.imm)) rfl ?_
  refine WQ.q rfl (Yd.qt (Yd.loadN Tryz.isAgg32 Tryz.sizeOf32 rfl (vs := [_, _, _, _, _]) rfl (by first | exact rn0 (n := 5) rfl rfl | exact rn1 (n := 5) rfl rfl))) rfl ?_
  refine WQ.tail ?_
  refine WL.so (SO.callP Tryz.call60 rfl (fun w hI => rBoats_g x2 m2 hN2 D hL hR2 _ hI.imm)) rfl ?_
  rintro _ _ _ ⟨rfl, rfl, rfl⟩
  refine WL.yd (Yd.eqS' rfl rfl) rfl ?_
  refine zya rfl rfl ?_
  refine WL.nil (WP.thenC (WC.ret ?_))
  refine WP.ret1 rfl rfl Tryz.results30 (RV.tmp rfl) (fun w hI => ⟨rfl, hI.keep⟩)

end Go.Proofs.YtaebnllfmkcpgaaGreatDoor
namespace Go.Proofs.YtaebnllfmkcpgaaGreatDoor
open Go.W Go.Bk

theorem bytes_g (l1 l2 : Bs) (a1 a2 : Option Addr) (n1 n2 c1 c2 : Nat) (D : Imm) (hS1 : SlL D 1 (l1.map btC) a1 n1) (hS2 : SlL D 1 (l2.map btC) a2 n2) (w : World) (hH : Holds D w) : Gives Tryz.prog 22 [.slice a1 n1 c1, .slice a2 n2 c2] w (.bool (decide (l1 = l2))) := by
  unfold Gives
  refine enter Tryz.func22 rfl 10 Tryz.ntmps22 (zqb rfl) (Inv.start hH) ?_
  refine WC.seq (WC.ofFr [(0, _), (1, _)] ⟨rfl, rfl, trivial⟩ (WC.region ?_))
  refine zya rfl rfl ?_
  refine WL.nil (WP.thenC (WC.seq (WC.ofFr [(4, _), (0, _), (1, _)] ⟨rfl, rfl, rfl, trivial⟩ (WC.region ?_))))
  refine zym rfl rfl ?_
  refine WL.yd (Yd.convBytes (l := l1) Tryz.underlying43 Tryz.underlying5 Tryz.underlying9 rfl hS1) rfl ?_
  refine zym rfl rfl ?_
  refine WL.yd (Yd.convBytes (l := l2) Tryz.underlying43 Tryz.underlying5 Tryz.underlying9 rfl hS2) rfl ?_
  refine WL.yd (Yd.eqS' rfl rfl) rfl ?_
  refine zya rfl rfl ?_
  refine WL.nil (WP.thenC (WC.ret ?_))
  refine WP.ret1 rfl rfl Tryz.results22 (RV.tmp rfl) (fun w hI => ⟨rfl, hI.keep⟩)

end Go.Proofs.YtaebnllfmkcpgaaGreatDoor
namespace Go.Proofs.YtaebnllfmkcpgaaGreatDoor
open Go.W Go.Bk

theorem put_g (l : Bs) (a : Option Addr) (n c : Nat) (D : Imm) (hS : SlL D 1 (l.map btC) a n) (hn : n ≤ 2 ^ 18) (i : Nat) (x : UInt8) (hat : i < l.length) (w : World) (hH : Holds D w) : Makes Tryz.prog 32 [.slice a n c, nt i, bt x] w D (fun v D' => ∃ a n c, v = .slice a n c ∧ SlL D' 1 ((l.set i x).map btC) a n ∧ n ≤ c) := by
  unfold Makes
  obtain rfl : n = l.length := hS.len'
  refine enter Tryz.func32 rfl 16 Tryz.ntmps32 (zqb rfl) (Inv.start hH) ?_
  refine WC.seq (WC.ofFr [(0, _), (1, _), (2, _)] ⟨rfl, rfl, rfl, trivial⟩ (WC.region ?_))
  refine zya rfl rfl ?_
  refine WL.nil (WP.thenC (WC.seq (WC.ofFr [(6, _), (0, _), (1, _), (2, _)] ⟨rfl, rfl, rfl, rfl, trivial⟩ (WC.region ?_))))
  refine WL.so (SO.buildSlice0 Tryz.underlying43 Tryz.sizeOf5) rfl ?_
  rintro _ _ _ ⟨b8, hb8, rfl, rfl, rfl⟩
  refine zym rfl rfl ?_
  refine WL.so (SO.appendOw (o := some ⟨b8, 0, []⟩) (len := 0) (n := l.length) (xs := []) (size := 1) [] [] [] rfl rfl Tryz.underlying43 Tryz.sizeOf5 Tryz.typeInfo5 Tryz.zeroValue5 rfl rfl rfl rfl (hS.rdS btC_len (fun e => by subst e; simp at hat)) (btC_one _) ⟨hb8, Nat.le_refl _, rfl⟩ rfl (by omega) (by show (2 * (_ + _) + 1000) * 1 ≤ 2 ^ 48; omega) (by omega)) rfl ?_
  rintro _ _ _ ⟨u1, hu1, rfl, rfl, rfl⟩
  rw [Nat.zero_add] at hu1 ⊢
  rw [List.nil_append]
  refine zya rfl rfl ?_
  refine WL.nil (WP.thenC (WC.seq (WC.ofFr [(7, _), (6, _), (1, _), (2, _)] ⟨rfl, rfl, rfl, rfl, trivial⟩ (WC.region ?_))))
  refine zym rfl rfl ?_
  refine zym rfl rfl ?_
  refine zym rfl rfl ?_
  refine WL.yd (Yd.indexS Tryz.underlying43 Tryz.sizeOf5 rfl rfl (by omega) (by omega) (by first | exact rfl)) rfl ?_
  refine WL.so (SO.storeRow (f := btC) (m := 1) btC_len (l := l) (i := i) (y := x) 0 rfl Tryz.sizeOf5 rfl rfl rfl hat (oneB_spec rfl)) rfl ?_
  rintro _ _ _ ⟨rfl, rfl, rfl⟩
  refine WL.nil (WP.thenC (WC.seq (WC.ofFr [(7, _), (6, _)] ⟨rfl, rfl, trivial⟩ (WC.region ?_))))
  refine zym rfl rfl ?_
  refine WL.freezeOw (f := btC) (m := 1) btC_len [] [] (some u1) 5 (l.set i x) rfl (by rw [List.length_set]; exact hu1) rfl (fun D2 hX2 hS2 => ?_)
  refine zya rfl rfl ?_
  refine WL.nil (WP.thenC (WC.ret ?_))
  refine WP.ret1 rfl rfl Tryz.results32 (RV.tmp rfl) (fun w1 hI => ⟨_, D2, rfl, hI.keep, hI.imm, hX2, _, _, _, rfl, (show (l.set i x).length = l.length from List.length_set) ▸ hS2, hu1.2.1⟩)

end Go.Proofs.YtaebnllfmkcpgaaGreatDoor
