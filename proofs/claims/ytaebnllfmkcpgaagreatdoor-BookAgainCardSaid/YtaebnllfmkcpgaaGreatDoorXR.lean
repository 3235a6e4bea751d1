import Derived.Test.YtaebnllfmkcpgaaGreatDoorXQ
import Derived.Test.YtaebnllfmkcpgaaGreatDoorXU
set_option linter.unusedSimpArgs false
set_option linter.unusedVariables false
set_option linter.all false
set_option maxRecDepth 100000
set_option maxHeartbeats 1000000
namespace Go.Proofs.YtaebnllfmkcpgaaGreatDoor
open Go.W Go.Bk

theorem sameBoats_g (x1 x2 : Boats) (m1 m2 : BoatsM) (hN1 : BoatsN x1) (hN2 : BoatsN x2) (D : Imm) (hL : LibD D) (hR1 : BoatsR D x1 m1) (hR2 : BoatsR D x2 m2) (w : World) (hH : Holds D w) : Gives Tryz.prog 30 [boatsV x1 m1, boatsV x2 m2] w (.bool (decide (putBoats x1 = putBoats x2))) := by
  unfold Gives
  refine enter Tryz.func30 rfl 10 Tryz.ntmps30 (zqb rfl) (Inv.start hH) ?_
  refine WC.seq (WC.ofFr [(0, _), (1, _)] ⟨rfl, rfl, trivial⟩ (WC.region ?_))
  refine WL.so (SO.box rfl rfl) rfl ?_
  rintro _ _ _ ⟨b2, hb2, rfl, rfl, rfl⟩
  refine WL.so (SO.box rfl rfl) rfl ?_
  rintro _ _ _ ⟨b3, hb3, rfl, rfl, rfl⟩
  refine zya rfl rfl ?_
  refine WL.nil (WP.thenC (WC.seq (WC.ofFr [(4, _), (3, _), (2, _)] ⟨rfl, rfl, rfl, trivial⟩ ?_)))
  refine WC.tail 3 [0, 1, 2] rfl (by kernel_rfl) (by kernel_rfl)  ?_
  refine WQ.q rfl (Yd.qt (Yd.loadN Tryz.isAgg32 Tryz.sizeOf32 rfl (vs := [_, _, _, _, _]) rfl (by first | exact rn0 (n := 5) rfl rfl | exact rn1 (n := 5) rfl rfl))) rfl ?_
  refine WQ.q rfl (Qt.callP Tryz.call60 rfl (fun w hI => rBoats_g x1 m1 hN1 D hL hR1 _ hI.imm)) rfl ?_
  refine WQ.q rfl (Yd.qt (Yd.loadN Tryz.isAgg32 Tryz.sizeOf32 rfl (vs := [_, _, _, _, _]) rfl (by first | exact rn0 (n := 5) rfl rfl | exact rn1 (n := 5) rfl rfl))) rfl ?_
  refine WQ.tail ?_
  refine WL.so (SO.callP Tryz.call60 rfl (fun w hI => rBoats_g x2 m2 hN2 D hL hR2 _ hI.imm)) rfl ?_
  rintro _ _ _ ⟨rfl, rfl, rfl⟩
  refine WL.yd (Yd.eqS' rfl rfl) rfl ?_
  refine zya rfl rfl ?_
  refine WL.nil (WP.thenC (WC.ret ?_))
  refine WP.ret1 rfl rfl Tryz.results30 (RV.tmp rfl) (fun w hI => ⟨rfl, hI.keep⟩)

theorem sum_mod (q i x : Nat) : (q + (i + 1) * x) % 251 = (q + (i + 1) % 251 * x) % 251 := by
  have : ((i + 1) * x) % 251 = ((i + 1) % 251 * x) % 251 := by rw [Nat.mul_mod, Nat.mul_mod ((i + 1) % 251) x, Nat.mod_mod]
  rw [Nat.add_mod, this, ← Nat.add_mod]

theorem rsums_g (l : Bs) (a : Option Addr) (n c : Nat) (D : Imm) (hS : SlL D 1 (l.map btC) a n) (hn : n ≤ 2 ^ 19) (w : World) (hH : Holds D w) : Gives Tryz.prog 129 [.slice a n c] w (.tuple #[bt (UInt8.ofNat (sumsL l).1), bt (UInt8.ofNat (sumsL l).2)]) := by
  unfold Gives
  obtain rfl : n = l.length := hS.len'
  refine enter Tryz.func129 rfl 36 Tryz.ntmps129 (zqb rfl) (Inv.start hH) ?_
  refine WC.seq (WC.ofFr [(0, _)] ⟨rfl, trivial⟩ (WC.region ?_))
  refine zya rfl rfl ?_
  refine zya rfl rfl ?_
  refine WL.nil (WP.thenC (WC.seq (WC.ofFr [(3, _), (2, _), (0, _)] ⟨rfl, rfl, rfl, trivial⟩ (WC.region ?_))))
  refine zya rfl rfl ?_
  refine zya rfl rfl ?_
  refine WL.nil (WP.thenC (WC.seq (WC.seq (WC.ofFr [(5, _), (4, _), (3, _), (2, _), (0, _)] ⟨rfl, rfl, rfl, rfl, rfl, trivial⟩ (WC.region ?_)))))
  refine zya rfl rfl ?_
  refine WL.nil (WP.thenC (WC.block ?_))
  refine WC.loopF (fun y : Nat × Nat × Nat => [(0, .slice a l.length c), (4, nt y.2.1), (5, nt y.2.2), (6, nt y.1)]) (fun y => y.1 ≤ l.length ∧ y.2.1 < 251 ∧ y.2.2 < 251 ∧ sumF y.1 y.2.1 y.2.2 (l.drop y.1) = sumsL l) (fun y => l.length - y.1) (0, 0, 0) ⟨Nat.zero_le _, by decide, by decide, rfl⟩ ⟨rfl, rfl, rfl, rfl, trivial⟩ ?_
  rintro ⟨k, p, q⟩ ⟨hk, hp, hq, hF⟩
  dsimp only at hk hp hq hF
  refine WC.seq (WC.seq (WC.ofFr [(0, _), (4, _), (5, _), (6, _)] ⟨rfl, rfl, rfl, rfl, trivial⟩ (WC.region ?_)))
  refine zym rfl rfl ?_
  refine zym rfl rfl ?_
  refine WL.yd (Yd.lenS rfl Tryz.underlying43 rfl) rfl ?_
  refine WL.yd (Yd.lss rfl rfl) rfl ?_
  refine WL.nil (WP.thenC ?_)
  refine WC.cond rfl (fun c10 => ?_) (fun c10 => ?_)
  · try simp only [zq1, zq2, zq3, zq4, zq5, zq6, zq7, zq8] at c10
    have hkl : k < l.length := by omega
    refine WC.skip (WP.thenC (WC.seq (WC.block (WC.ofFr [(0, _), (4, _), (5, _), (6, _)] ⟨rfl, rfl, rfl, rfl, trivial⟩ ?_))))
    refine WC.tail 20 [0, 1, 2, 3, 4, 5, 6, 7, 8, 9, 10, 11, 12, 13, 14, 15, 16, 17, 18, 19] rfl (by kernel_rfl) (by kernel_rfl)  ?_
    have hb8 := (gt l k).toNat_lt
    have hkz : (((k : Int) + 1) * ((gt l k).toNat : Int)) = (((k + 1) * (gt l k).toNat : Nat) : Int) := by simp
    have hkb : (k + 1) * (gt l k).toNat ≤ 524288 * 256 := Nat.mul_le_mul (by omega) (by omega)
    refine WQ.q rfl (Yd.qt (Yd.move rfl)) rfl ?_
    refine WQ.q rfl (Yd.qt (Yd.move rfl)) rfl ?_
    refine WQ.q rfl (Yd.qt (Yd.move rfl)) rfl ?_
    refine WQ.q rfl (Yd.qt (Yd.indexS Tryz.underlying43 Tryz.sizeOf5 rfl rfl (by (try dsimp only); omega) (by (try dsimp only); omega) (by first | exact hS.addr k (by omega)))) rfl ?_
    refine WQ.q rfl (Yd.qt (Yd.load1 Tryz.isAgg5 rfl (by first | exact ((hS.at k (by omega)).rd 0 rfl)))) rfl ?_
    refine WQ.q rfl (Yd.qt (Yd.conv Tryz.underlying5 Tryz.underlying3 rfl (wr64 ⟨by (try dsimp only); omega, by (try dsimp only); omega⟩))) rfl ?_
    refine WQ.q rfl (Yd.qt (Yd.add rfl rfl (wr64 ⟨by (try dsimp only); omega, by (try dsimp only); omega⟩))) rfl ?_
    refine WQ.q rfl (Yd.qt (Yd.rem rfl rfl (by (try dsimp only); omega) (by (try dsimp only); omega))) rfl ?_
    refine WQ.q rfl (Yd.qt (Yd.move rfl)) rfl ?_
    refine WQ.q rfl (Yd.qt (Yd.move rfl)) rfl ?_
    refine WQ.q rfl (Yd.qt (Yd.add rfl rfl (wr64 ⟨by (try dsimp only); omega, by (try dsimp only); omega⟩))) rfl ?_
    refine WQ.q rfl (Yd.qt (Yd.move rfl)) rfl ?_
    refine WQ.q rfl (Yd.qt (Yd.move rfl)) rfl ?_
    refine WQ.q rfl (Yd.qt (Yd.indexS Tryz.underlying43 Tryz.sizeOf5 rfl rfl (by (try dsimp only); omega) (by (try dsimp only); omega) (by first | exact hS.addr k (by omega)))) rfl ?_
    refine WQ.q rfl (Yd.qt (Yd.load1 Tryz.isAgg5 rfl (by first | exact ((hS.at k (by omega)).rd 0 rfl)))) rfl ?_
    refine WQ.q rfl (Yd.qt (Yd.conv Tryz.underlying5 Tryz.underlying3 rfl (wr64 ⟨by (try dsimp only); omega, by (try dsimp only); omega⟩))) rfl ?_
    refine WQ.q rfl (Yd.qt (Yd.mul rfl rfl (wr64 ⟨by (try dsimp only); omega, by (try dsimp only); omega⟩))) rfl ?_
    refine WQ.q rfl (Yd.qt (Yd.add rfl rfl (wr64 ⟨by (try dsimp only); omega, by (try dsimp only); omega⟩))) rfl ?_
    refine WQ.q rfl (Yd.qt (Yd.rem rfl rfl (by (try dsimp only); omega) (by (try dsimp only); omega))) rfl ?_
    refine WQ.q rfl (Yd.qt (Yd.assign rfl)) rfl ?_
    refine WQ.tail ?_
    refine zya rfl rfl ?_
    refine WL.nil (WP.blkNormal (WP.thenC (WC.ofFr [(5, _), (4, _), (0, _), (6, _)] ⟨rfl, rfl, rfl, rfl, trivial⟩ (WC.region ?_))))
    refine zym rfl rfl ?_
    refine WL.yd (Yd.add rfl rfl (wr64 ⟨by (try dsimp only); omega, by (try dsimp only); omega⟩)) rfl ?_
    refine zya rfl rfl ?_
    refine WL.nil ?_
    exact WP.againF (k + 1, (p + (gt l k).toNat) % 251, (q + (k + 1) * (gt l k).toNat) % 251) ⟨hkl, Nat.mod_lt _ (by omega), Nat.mod_lt _ (by omega), by dsimp only; rw [sum_mod, ← hF, drop_gt hkl]; rfl⟩ (by dsimp only; omega) ⟨rfl, by show some (it _) = some (nt _); first | rfl | congr 2, by show some (it _) = some (nt _); first | rfl | (congr 2; dsimp only; rw [hkz]; omega), rfl, trivial⟩ (fun _ h => nomatch h) (fun _ => List.nodup_nil)
  · try simp only [zq1, zq2, zq3, zq4, zq5, zq6, zq7, zq8] at c10
    obtain rfl : k = l.length := by omega
    refine WC.exit ?_
    refine WP.thenExit ?_
    refine WP.thenExit ?_
    refine WP.blkHit ?_
    refine WP.thenC (WC.seq (WC.ofFr [(4, _), (5, _)] ⟨rfl, rfl, trivial⟩ (WC.region ?_)))
    refine zym rfl rfl ?_
    refine WL.yd (Yd.conv Tryz.underlying3 Tryz.underlying5 rfl (wr8 ⟨by (try dsimp only); omega, by (try dsimp only); omega⟩)) rfl ?_
    refine WL.know 33 (bt (UInt8.ofNat p)) rfl (btN (by (try dsimp only); omega)).symm ?_
    refine zym rfl rfl ?_
    refine WL.yd (Yd.conv Tryz.underlying3 Tryz.underlying5 rfl (wr8 ⟨by (try dsimp only); omega, by (try dsimp only); omega⟩)) rfl ?_
    refine WL.know 35 (bt (UInt8.ofNat q)) rfl (btN (by (try dsimp only); omega)).symm ?_
    refine zya rfl rfl ?_
    refine zya rfl rfl ?_
    refine WL.nil (WP.thenC (WC.ret ?_))
    refine WP.ret2 rfl rfl Tryz.results129 (RV.tmp rfl) (RV.tmp rfl) (fun w hI => ⟨by rw [List.drop_length] at hF; rw [← hF]; rfl, hI.keep⟩)

end Go.Proofs.YtaebnllfmkcpgaaGreatDoor
namespace Go.Proofs.YtaebnllfmkcpgaaGreatDoor
open Go.W Go.Bk

theorem bytes_g (l1 l2 : Bs) (a1 a2 : Option Addr) (n1 n2 c1 c2 : Nat) (D : Imm) (hS1 : SlL D 1 (l1.map btC) a1 n1) (hS2 : SlL D 1 (l2.map btC) a2 n2) (w : World) (hH : Holds D w) : Gives Tryz.prog 22 [.slice a1 n1 c1, .slice a2 n2 c2] w (.bool (decide (l1 = l2))) := by
  unfold Gives
  refine enter Tryz.func22 rfl 10 Tryz.ntmps22 (zqb rfl) (Inv.start hH) ?_
  refine WC.seq (WC.ofFr [(0, _), (1, _)] ⟨rfl, rfl, trivial⟩ (WC.region ?_))
  refine zya rfl rfl ?_
  refine WL.nil (WP.thenC (WC.seq (WC.ofFr [(4, _), (0, _), (1, _)] ⟨rfl, rfl, rfl, trivial⟩ (WC.region ?_))))
  refine zym rfl rfl ?_
  refine WL.yd (Yd.convBytes (l := l1) Tryz.underlying43 Tryz.underlying5 Tryz.underlying9 rfl hS1) rfl ?_
  refine zym rfl rfl ?_
  refine WL.yd (Yd.convBytes (l := l2) Tryz.underlying43 Tryz.underlying5 Tryz.underlying9 rfl hS2) rfl ?_
  refine WL.yd (Yd.eqS' rfl rfl) rfl ?_
  refine zya rfl rfl ?_
  refine WL.nil (WP.thenC (WC.ret ?_))
  refine WP.ret1 rfl rfl Tryz.results22 (RV.tmp rfl) (fun w hI => ⟨rfl, hI.keep⟩)

theorem seal_g (l : Bs) (a : Option Addr) (n c : Nat) (D : Imm) (hS : SlL D 1 (l.map btC) a n) (hn : n ≤ 2 ^ 18) (w : World) (hH : Holds D w) : Makes Tryz.prog 74 [.slice a n c] w D (fun v D' => ∃ a n c, v = .slice a n c ∧ SlL D' 1 ((sealL l).map btC) a n) := by
  unfold Makes
  obtain rfl : n = l.length := hS.len'
  refine enter Tryz.func74 rfl 17 Tryz.ntmps74 (zqb rfl) (Inv.start hH) ?_
  refine WC.seq (WC.ofFr [(0, _)] ⟨rfl, trivial⟩ (WC.region ?_))
  refine zya rfl rfl ?_
  refine WL.nil (WP.thenC (WC.seq (WC.ofFr [(2, _), (0, _)] ⟨rfl, rfl, trivial⟩ (WC.region ?_))))
  refine zym rfl rfl ?_
  refine WL.so (SO.callP Tryz.call129 rfl (fun w hI => rsums_g l a l.length c D hS (by omega) _ hI.imm)) rfl ?_
  rintro _ _ _ ⟨rfl, rfl, rfl⟩
  refine zym rfl rfl ?_
  refine WL.yd (Yd.extract rfl rfl) rfl ?_
  refine WL.yd (Yd.extract rfl rfl) rfl ?_
  refine zya rfl rfl ?_
  refine zya rfl rfl ?_
  refine WL.nil (WP.thenC (WC.seq ?_))
  rcases l with _ | ⟨x, l⟩
  · skip
    refine WC.ofFr [(4, _), (3, _), (2, _), (0, _)] ⟨rfl, rfl, rfl, rfl, trivial⟩ (WC.region ?_)
    refine WL.so (SO.buildSlice0 Tryz.underlying43 Tryz.sizeOf5) rfl ?_
    rintro _ _ _ ⟨b10, hb10, rfl, rfl, rfl⟩
    refine zym rfl rfl ?_
    refine WL.so (SO.appendNil (o := ⟨b10, 0, []⟩) (len := 0) rfl rfl Tryz.underlying43 Tryz.sizeOf5 rfl rfl (Nat.le_refl _)) rfl ?_
    rintro _ _ _ ⟨rfl, rfl, rfl⟩
    refine zym rfl rfl ?_
    refine zym rfl rfl ?_
    refine WL.so (SO.buildSlice1 Tryz.underlying43 Tryz.sizeOf5 Tryz.zeroValue5 rfl rfl rfl (vs := [_, _]) rfl rfl rfl) rfl ?_
    rintro _ _ _ ⟨b15, hb15, rfl, rfl, rfl⟩
    refine WL.so (SO.appendOw (o := some ⟨b10, 0, []⟩) (len := 0) (n := 2) (xs := []) (size := 1) [_] [] [] rfl rfl Tryz.underlying43 Tryz.sizeOf5 Tryz.typeInfo5 Tryz.zeroValue5 rfl rfl rfl rfl ⟨rfl, .inr ⟨_, _, _, rfl, RdN.own (k := 0) (n := 2) rfl rfl⟩⟩ (oneB_spec rfl) ⟨hb10, Nat.le_refl _, rfl⟩ rfl (by simp) (by show (2 * (_ + _) + 1000) * 1 ≤ 2 ^ 48; omega) (by omega)) rfl ?_
    rintro _ _ _ ⟨u2, hu2, rfl, rfl, rfl⟩
    refine WL.freezeOw (f := btC) (m := 1) btC_len [] [] (some u2) 5 (sealL []) rfl hu2 rfl (fun D2 hX2 hS2 => ?_)
    refine zya rfl rfl ?_
    refine WL.nil (WP.thenC (WC.ret ?_))
    refine WP.ret1 rfl rfl Tryz.results74 (RV.tmp rfl) (fun w1 hI => ⟨_, D2, rfl, hI.keep, hI.imm, hX2, _, _, _, rfl, hS2⟩)
  · skip
    refine WC.ofFr [(4, _), (3, _), (2, _), (0, _)] ⟨rfl, rfl, rfl, rfl, trivial⟩ (WC.region ?_)
    refine WL.so (SO.buildSlice0 Tryz.underlying43 Tryz.sizeOf5) rfl ?_
    rintro _ _ _ ⟨b10, hb10, rfl, rfl, rfl⟩
    refine zym rfl rfl ?_
    refine WL.so (SO.appendOw (o := some ⟨b10, 0, []⟩) (len := 0) (n := (x :: l).length) (xs := []) (size := 1) [] [] [] rfl rfl Tryz.underlying43 Tryz.sizeOf5 Tryz.typeInfo5 Tryz.zeroValue5 rfl rfl rfl rfl (hS.rdS btC_len (fun e => nomatch e)) (btC_one _) ⟨hb10, Nat.le_refl _, rfl⟩ rfl (by simp) (by show (2 * (_ + _) + 1000) * 1 ≤ 2 ^ 48; omega) (by omega)) rfl ?_
    rintro _ _ _ ⟨u1, hu1, rfl, rfl, rfl⟩
    refine zym rfl rfl ?_
    refine zym rfl rfl ?_
    refine WL.so (SO.buildSlice1 Tryz.underlying43 Tryz.sizeOf5 Tryz.zeroValue5 rfl rfl rfl (vs := [_, _]) rfl rfl rfl) rfl ?_
    rintro _ _ _ ⟨b15, hb15, rfl, rfl, rfl⟩
    refine WL.so (SO.appendOw (o := some u1) (len := (0 + (x :: l).length)) (n := 2) (xs := ([] ++ (x :: l).flatMap btC)) (size := 1) [_] [] [] rfl rfl Tryz.underlying43 Tryz.sizeOf5 Tryz.typeInfo5 Tryz.zeroValue5 rfl rfl rfl rfl ⟨rfl, .inr ⟨_, _, _, rfl, RdN.own (k := 0) (n := 2) rfl rfl⟩⟩ (oneB_spec rfl) hu1 (by rw [List.nil_append, flat_len btC_len]; omega) (by simp) (by show (2 * (_ + _) + 1000) * 1 ≤ 2 ^ 48; omega) (by omega)) rfl ?_
    rintro _ _ _ ⟨u2, hu2, rfl, rfl, rfl⟩
    refine WL.freezeOw (f := btC) (m := 1) btC_len [] [] (some u2) 5 (sealL (x :: l)) rfl (by rw [show (sealL (x :: l)).length = 0 + (x :: l).length + 2 by simp [sealL]]; exact hu2) (by show _ = _ ++ owH (some u2) _ (((x :: l) ++ [_, _]).flatMap btC) []; rw [List.flatMap_append]; rfl) (fun D2 hX2 hS2 => ?_)
    refine zya rfl rfl ?_
    refine WL.nil (WP.thenC (WC.ret ?_))
    refine WP.ret1 rfl rfl Tryz.results74 (RV.tmp rfl) (fun w1 hI => ⟨_, D2, rfl, hI.keep, hI.imm, hX2, _, _, _, rfl, (show (sealL (x :: l)).length = 0 + (x :: l).length + 2 by simp [sealL]) ▸ hS2⟩)

end Go.Proofs.YtaebnllfmkcpgaaGreatDoor
namespace Go.Proofs.YtaebnllfmkcpgaaGreatDoor
open Go.W Go.Bk

theorem right_g (l : Bs) (a : Option Addr) (n c : Nat) (D : Imm) (hS : SlL D 1 (l.map btC) a n) (hn : n ≤ 2 ^ 18) (hc : n ≤ c) (h2 : 2 ≤ l.length) (w : World) (hH : Holds D w) : Gives Tryz.prog 33 [.slice a n c] w (.bool (decide (sealL (bodyL l) = l))) := by
  unfold Gives
  obtain rfl : n = l.length := hS.len'
  refine enter Tryz.func33 rfl 11 Tryz.ntmps33 (zqb rfl) (Inv.start hH) ?_
  refine WC.seq (WC.ofFr [(0, _)] ⟨rfl, trivial⟩ (WC.region ?_))
  refine zya rfl rfl ?_
  refine WL.nil (WP.thenC (WC.seq (WC.ofFr [(2, _), (0, _)] ⟨rfl, rfl, trivial⟩ (WC.region ?_))))
  refine zym rfl rfl ?_
  refine zym rfl rfl ?_
  refine WL.yd (Yd.lenS rfl Tryz.underlying43 rfl) rfl ?_
  refine WL.yd (Yd.sub rfl rfl (wr64 ⟨by omega, by omega⟩)) rfl ?_
  refine WL.know 6 (nt (l.length - 2)) rfl (by congr 1; omega) ?_
  refine WL.yd (Yd.sliceTo Tryz.underlying43 Tryz.sizeOf5 rfl rfl (by omega)) rfl ?_
  refine WL.so (SO.makes (Enters.func Tryz.call74 rfl) (fun w hI => seal_g (bodyL l) a (l.length - 2) c D (body_sl hS) (by omega) w hI.imm)) rfl ?_
  rintro _ D2 _ ⟨hX2, ⟨a2, n2, c2, rfl, hS2⟩, rfl⟩
  refine zym rfl rfl ?_
  refine WL.so (SO.callP Tryz.call22 rfl (fun w hI => bytes_g (sealL (bodyL l)) l a2 a n2 l.length c2 c D2 hS2 (hS.ext hX2) _ hI.imm)) rfl ?_
  rintro _ _ _ ⟨rfl, rfl, rfl⟩
  refine zya rfl rfl ?_
  refine WL.nil (WP.thenC (WC.ret ?_))
  refine WP.ret1 rfl rfl Tryz.results33 (RV.tmp rfl) (fun w hI => ⟨rfl, hI.keep⟩)

end Go.Proofs.YtaebnllfmkcpgaaGreatDoor
