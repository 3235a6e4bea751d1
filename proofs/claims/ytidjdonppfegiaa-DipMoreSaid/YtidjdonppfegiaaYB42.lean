import Derived.Test.YtidjdonppfegiaaXQ
import Derived.Test.YtidjdonppfegiaaXR
import Derived.Test.YtidjdonppfegiaaXK
set_option linter.unusedSimpArgs false
set_option linter.unusedVariables false
set_option linter.all false
namespace Go.Proofs.Ytidjdonppfegiaa
open Go.W Go.Dp

set_option maxRecDepth 100000 in
set_option maxHeartbeats 1000000 in
theorem more11_1 (d : Dips) (a1 : Option Addr) (n1 c1 : Nat) (a2 : Option Addr) (n2 c2 : Nat) (D : Imm) (w : World) (hS1 : SlL D 3 (d.dippers.map dipperC) a1 n1) (hS2 : SlL D 3 (d.bathers.map batherC) a2 n2) (hH : Holds D w) (e : Dipper) (a b : Nat) (ha : a < 256) (hb : b < 256) (hv : dipsB d = false) : Gives Try.prog 11 [.agg #[it d.hours, .slice a1 n1 c1, .slice a2 n2 c2], .agg #[it e.hands.lo, it e.hands.hi, it e.hours], .int .u8 (a : Int), .int .u8 (b : Int)] w (.bool true) := by
  unfold Gives
  refine enter Try.func11 rfl 369 Try.ntmps11 (Nat.le_of_ble_eq_true rfl) (Inv.start hH) ?_
  refine WC.seq ?_
  refine WC.ofFr [(0, _), (1, _), (2, _), (3, _)] ⟨rfl, rfl, rfl, rfl, trivial⟩ ?_
  refine WC.region ?_
  refine WL.so (SO.box rfl rfl) rfl ?_
  rintro _ _ _ ⟨b4, hb4, rfl, rfl, rfl⟩ -- NEW
  refine WL.so (SO.box rfl rfl) rfl ?_
  rintro _ _ _ ⟨b5, hb5, rfl, rfl, rfl⟩ -- NEW
  refine WL.yd (Yd.assign rfl) rfl ?_
  refine WL.nil ?_
  refine WP.thenC ?_
  refine WC.seq ?_
  refine WC.seq ?_
  refine WC.ofFr [(8, _), (5, _), (4, _), (2, _), (3, _)] ⟨rfl, rfl, rfl, rfl, rfl, trivial⟩ ?_
  refine WC.region ?_
  refine WL.yd (Yd.loadN Try.isAgg25 Try.sizeOf25 rfl (vs := [_, _, _]) rfl (by first | exact RdN.own (k := 0) (n := 3) rfl rfl | exact RdN.own (k := 1) (n := 3) rfl rfl)) rfl ?_
  refine WL.so (SO.callP Try.call13 rfl (fun w hI => long_g _ _ _ _ _ _ _ _ _ _ _)) rfl ?_
  rintro _ _ _ ⟨rfl, rfl, rfl⟩
  refine WL.yd (Yd.move rfl) rfl ?_
  refine WL.part 39 rfl (fun g39 => ?_) (fun g39 => ?_)
  · try simp only [zq1, zq2, zq3, zq4, zq5, zq6, zq7, zq8] at g39
    refine WL.skip rfl rfl ?_
    refine WL.skip rfl rfl ?_
    refine WL.skip rfl rfl ?_
    refine WL.yd (Yd.pickT rfl rfl) rfl ?_
    refine WL.nil ?_
    refine WP.thenC ?_
    refine WC.condT rfl ?_
    refine WC.seq ?_
    refine WC.ofFr [(8, _), (5, _), (4, _), (2, _), (3, _)] ⟨rfl, rfl, rfl, rfl, rfl, trivial⟩ ?_
    refine WC.region ?_
    refine WL.so (SO.callP Try.call14 rfl (fun w hI => alive_g _ _ hI.imm)) rfl ?_
    rintro _ _ _ ⟨rfl, rfl, rfl⟩
    refine WL.yd (Yd.assign rfl) rfl ?_
    refine WL.nil ?_
    refine WP.thenC ?_
    refine WC.ret ?_
    refine WP.thenRet ?_
    refine WP.ret1 rfl rfl Try.results11 (RV.tmp rfl) (fun w hI => ⟨rfl, hI.keep⟩)
  · try simp only [zq1, zq2, zq3, zq4, zq5, zq6, zq7, zq8] at g39
    have hR : DipsR D d a1 n1 a2 n2 := ⟨hS1, hS2, by have := g39; omega, by have := g39; omega⟩
    refine WL.ydg rfl (Yd.loadN Try.isAgg25 Try.sizeOf25 rfl (vs := [_, _, _]) rfl (by first | exact RdN.own (k := 0) (n := 3) rfl rfl | exact RdN.own (k := 1) (n := 3) rfl rfl)) rfl ?_
    refine WL.sog rfl (SO.callP Try.call36 rfl (fun w hI => dips_g d a1 _ c1 a2 _ c2 D _ hR hI.imm)) rfl ?_
    rintro _ _ _ ⟨rfl, rfl, rfl⟩
    refine WL.ydg rfl (Yd.not rfl) rfl ?_
    refine WL.yd (Yd.pickF rfl rfl) rfl ?_
    refine WL.nil ?_
    refine WP.thenC ?_
    refine WC.cond rfl (fun c43 => ?_) (fun c43 => ?_)
    · try simp only [zq1, zq2, zq3, zq4, zq5, zq6, zq7, zq8] at c43
      refine WC.seq ?_
      refine WC.ofFr [(8, _), (5, _), (4, _), (2, _), (3, _)] ⟨rfl, rfl, rfl, rfl, rfl, trivial⟩ ?_
      refine WC.region ?_
      refine WL.so (SO.callP Try.call14 rfl (fun w hI => alive_g _ _ hI.imm)) rfl ?_
      rintro _ _ _ ⟨rfl, rfl, rfl⟩
      refine WL.yd (Yd.assign rfl) rfl ?_
      refine WL.nil ?_
      refine WP.thenC ?_
      refine WC.ret ?_
      refine WP.thenRet ?_
      refine WP.ret1 rfl rfl Try.results11 (RV.tmp rfl) (fun w hI => ⟨rfl, hI.keep⟩)
    · try simp only [zq1, zq2, zq3, zq4, zq5, zq6, zq7, zq8] at c43
      rw [hv] at c43; cases c43

set_option maxRecDepth 100000 in
set_option maxHeartbeats 1000000 in
theorem more11_ok (d : Dips) (a1 : Option Addr) (n1 c1 : Nat) (a2 : Option Addr) (n2 c2 : Nat) (D : Imm) (w : World) (hS1 : SlL D 3 (d.dippers.map dipperC) a1 n1) (hS2 : SlL D 3 (d.bathers.map batherC) a2 n2) (hH : Holds D w) (e : Dipper) (a b : Nat) (ha : a < 256) (hb : b < 256) (hv : dipsB d = true) : Gives Try.prog 11 [.agg #[it d.hours, .slice a1 n1 c1, .slice a2 n2 c2], .agg #[it e.hands.lo, it e.hands.hi, it e.hours], .int .u8 (a : Int), .int .u8 (b : Int)] w (.bool true) := by
  unfold Gives
  have hR : DipsR D d a1 n1 a2 n2 := by
    have h1 := hS1.len'
    have h2 := hS2.len'
    have h3 := dips_num hv
    exact ⟨hS1, hS2, by omega, by omega⟩
  obtain rfl := hS1.len'
  obtain rfl := hS2.len'
  have hnum := dips_num hv
  have h5 := hnum.2.2.1
  have hsn := sets_num h5
  have hph : 2 ^ d.hours.toNat ≤ 2 ^ 4 := Nat.pow_le_pow_right (by omega) (by omega)
  have hph1 : 1 ≤ 2 ^ d.hours.toNat := Nat.one_le_two_pow
  have hmn := most_num hv
  refine enter Try.func11 rfl 369 Try.ntmps11 (Nat.le_of_ble_eq_true rfl) (Inv.start hH) ?_
  refine WC.seq ?_
  refine WC.ofFr [(0, _), (1, _), (2, _), (3, _)] ⟨rfl, rfl, rfl, rfl, trivial⟩ ?_
  refine WC.region ?_
  refine WL.so (SO.box rfl rfl) rfl ?_
  rintro _ _ _ ⟨b4, hb4, rfl, rfl, rfl⟩ -- NEW
  refine WL.so (SO.box rfl rfl) rfl ?_
  rintro _ _ _ ⟨b5, hb5, rfl, rfl, rfl⟩ -- NEW
  refine WL.yd (Yd.assign rfl) rfl ?_
  refine WL.nil ?_
  refine WP.thenC ?_
  refine WC.seq ?_
  refine WC.seq ?_
  refine WC.ofFr [(8, _), (5, _), (4, _), (2, _), (3, _)] ⟨rfl, rfl, rfl, rfl, rfl, trivial⟩ ?_
  refine WC.region ?_
  refine WL.yd (Yd.loadN Try.isAgg25 Try.sizeOf25 rfl (vs := [_, _, _]) rfl (by first | exact RdN.own (k := 0) (n := 3) rfl rfl | exact RdN.own (k := 1) (n := 3) rfl rfl)) rfl ?_
  refine WL.so (SO.callP Try.call13 rfl (fun w hI => long_g _ _ _ _ _ _ _ _ _ _ _)) rfl ?_
  rintro _ _ _ ⟨rfl, rfl, rfl⟩
  refine WL.yd (Yd.move rfl) rfl ?_
  refine WL.part 39 rfl (fun g39 => ?_) (fun g39 => ?_)
  · try simp only [zq1, zq2, zq3, zq4, zq5, zq6, zq7, zq8] at g39
    omega
  · try simp only [zq1, zq2, zq3, zq4, zq5, zq6, zq7, zq8] at g39
    refine WL.ydg rfl (Yd.loadN Try.isAgg25 Try.sizeOf25 rfl (vs := [_, _, _]) rfl (by first | exact RdN.own (k := 0) (n := 3) rfl rfl | exact RdN.own (k := 1) (n := 3) rfl rfl)) rfl ?_
    refine WL.sog rfl (SO.callP Try.call36 rfl (fun w hI => dips_g d a1 _ c1 a2 _ c2 D _ hR hI.imm)) rfl ?_
    rintro _ _ _ ⟨rfl, rfl, rfl⟩
    refine WL.ydg rfl (Yd.not rfl) rfl ?_
    refine WL.yd (Yd.pickF rfl rfl) rfl ?_
    refine WL.nil ?_
    refine WP.thenC ?_
    refine WC.cond rfl (fun c43 => ?_) (fun c43 => ?_)
    · try simp only [zq1, zq2, zq3, zq4, zq5, zq6, zq7, zq8] at c43
      rw [hv] at c43; cases c43
    · try simp only [zq1, zq2, zq3, zq4, zq5, zq6, zq7, zq8] at c43
      refine WC.skip ?_
      refine WP.thenC ?_
      refine WC.seq ?_
      refine WC.ofFr [(8, _), (5, _), (4, _), (2, _), (3, _)] ⟨rfl, rfl, rfl, rfl, rfl, trivial⟩ ?_
      refine WC.region ?_
      refine WL.yd (Yd.loadN Try.isAgg25 Try.sizeOf25 rfl (vs := [_, _, _]) rfl (by first | exact RdN.own (k := 0) (n := 3) rfl rfl | exact RdN.own (k := 1) (n := 3) rfl rfl)) rfl ?_
      refine WL.so (SO.alloc Try.zeroValue25 rfl) rfl ?_
      rintro _ _ _ ⟨b9, hb9, rfl, rfl, rfl⟩ -- NEW
      refine WL.so (SO.store 0 rfl Try.sizeOf25 rfl rfl rfl rfl (Nat.le_of_ble_eq_true rfl) (oneB_spec rfl)) rfl ?_
      rintro _ _ _ ⟨rfl, rfl, rfl⟩
      refine WL.nil ?_
      refine WP.thenC ?_
      refine WC.seqJ (fun y : Ow × Ow => [(2, .int .u8 (a : Int)), (3, .int .u8 (b : Int)), (4, pt b4), (5, pt b5), (9, pt b9)]) (fun y => [(y.2.b, .cells (List.toArray (d.bathers.flatMap batherC ++ y.2.rest)) 55 (0, 0)), (y.1.b, .cells (List.toArray (d.dippers.flatMap dipperC ++ y.1.rest)) 53 (0, 0)), (b9, .cells (List.toArray [it d.hours, owV (some y.1) d.dippers.length, owV (some y.2) d.bathers.length]) 25 (0, 0)), (b5, .cells (List.toArray [it e.hands.lo, it e.hands.hi, it e.hours]) 53 (0, 0)), (b4, .cells (List.toArray [it d.hours, .slice a1 d.dippers.length c1, .slice a2 d.bathers.length c2]) 25 (0, 0))]) (fun _ => D) (fun y => owP w (some y.1) d.dippers.length 3 ∧ owP w (some y.2) d.bathers.length 3) ?_ ?_
      · rintro ⟨u1, u2⟩ ⟨hu1, hu2⟩
        dsimp only at hu1 hu2
        refine WC.seq ?_
        refine WC.ofFr [(2, _), (3, _), (4, _), (5, _), (9, _)] ⟨rfl, rfl, rfl, rfl, rfl, trivial⟩ ?_
        refine WC.region ?_
        refine WL.yd (Yd.fieldAddr FA25_0 rfl) rfl ?_
        refine WL.yd (Yd.load1 Try.isAgg3 rfl (by first | exact Rd.own (k := 0) rfl rfl | exact Rd.own (k := 1) rfl rfl | exact Rd.own (k := 2) rfl rfl | exact Rd.own (k := 3) rfl rfl | exact Rd.own (k := 4) rfl rfl)) rfl ?_
        refine WL.yd (Yd.shl rfl rfl (by omega) (shlH hnum.1)) rfl ?_
        refine WL.yd (Yd.subN (j := 1) rfl rfl (by (try dsimp only); omega) (by (try dsimp only); omega)) rfl ?_
        refine WL.yd (Yd.assign rfl) rfl ?_
        refine WL.nil ?_
        refine WP.thenC ?_
        refine WC.seqJ (fun y : Dips × Ow × Ow × Nat × Nat × List Value × List Value => [(3, .int .u8 (b : Int)), (4, pt b4), (9, pt b9)]) (fun y => [(y.2.2.1.b, .cells (List.toArray (y.2.2.2.2.2.2 ++ y.2.2.1.rest)) 55 (0, 0)), (y.2.1.b, .cells (List.toArray (y.2.2.2.2.2.1 ++ y.2.1.rest)) 53 (0, 0)), (b9, .cells (List.toArray [it y.1.hours, owV (some y.2.1) y.2.2.2.1, owV (some y.2.2.1) y.2.2.2.2.1]) 25 (0, 0)), (b5, .cells (List.toArray [it e.hands.lo, it e.hands.hi, it e.hours]) 53 (0, 0)), (b4, .cells (List.toArray [it d.hours, .slice a1 d.dippers.length c1, .slice a2 d.bathers.length c2]) 25 (0, 0))]) (fun _ => D) (fun y => Bet d y.1 ∧ owP w (some y.2.1) y.2.2.2.1 3 ∧ owP w (some y.2.2.1) y.2.2.2.2.1 3 ∧ y.2.2.2.1 = y.1.dippers.length ∧ y.2.2.2.2.1 = y.1.bathers.length ∧ y.2.2.2.2.2.1 = y.1.dippers.flatMap dipperC ∧ y.2.2.2.2.2.2 = y.1.bathers.flatMap batherC ∧ y.1.dippers.length ≤ 1000) ?_ ?_
        · rintro ⟨x, u1, u2, k1, k2, xs, ys⟩ ⟨hbet, hu1, hu2, h1, h2, h3, h4, hx10⟩
          dsimp only at hbet hu1 hu2 h1 h2 h3 h4 hx10
          subst h1
          subst h2
          subst h3
          subst h4
          refine WC.seq ?_
          refine WC.freezeOw (f := batherC) (m := 3) batherC_len [] [_, _, _, _] (some u2) 55 x.bathers rfl hu2 rfl (fun Da hXa hSa => ?_)
          refine WC.freezeOw (f := dipperC) (m := 3) dipperC_len [] [_, _, _] (some u1) 53 x.dippers rfl hu1 rfl (fun Db hXb hSb => ?_)
          replace hR := (hR.ext hXa).ext hXb
          have hRX : DipsR Db x (owAt (some u1)) x.dippers.length (owAt (some u2)) x.bathers.length := ⟨hSb, hSa.ext hXb, hx10, by rw [hbet.bl]; omega⟩
          have hxh := hbet.hours
          refine WC.ofFr [(3, _), (4, _), (9, _)] ⟨rfl, rfl, rfl, trivial⟩ ?_
          refine WC.region ?_
          refine WL.yd (Yd.loadN Try.isAgg25 Try.sizeOf25 rfl (vs := [_, _, _]) rfl (by first | exact RdN.own (k := 0) (n := 3) rfl rfl | exact RdN.own (k := 1) (n := 3) rfl rfl | exact RdN.own (k := 2) (n := 3) rfl rfl)) rfl ?_
          refine WL.so (SO.makes (Enters.func Try.call22 rfl) (fun w hI => Plan_g d a1 _ c1 a2 _ c2 _ w hR hI.imm)) rfl ?_
          rintro _ D5 _ ⟨hX5, ⟨a3, n3, c3, rfl, hP⟩, rfl⟩
          replace hR := hR.ext hX5
          replace hRX := hRX.ext hX5
          obtain rfl := hP.pl.len'
          refine WL.yd (Yd.move rfl) rfl ?_
          refine WL.yd (Yd.extract rfl rfl) rfl ?_
          refine WL.yd (Yd.extract rfl rfl) rfl ?_
          refine WL.yd (Yd.assign rfl) rfl ?_
          refine WL.yd (Yd.assign rfl) rfl ?_
          refine WL.nil ?_
          refine WP.thenC ?_
          refine WC.seq ?_
          refine WC.ofFr [(14, _), (13, _), (3, _), (4, _), (9, _)] ⟨rfl, rfl, rfl, rfl, rfl, trivial⟩ ?_
          refine WC.region ?_
          refine WL.yd (Yd.loadN Try.isAgg25 Try.sizeOf25 rfl (vs := [_, _, _]) rfl (by first | exact RdN.own (k := 0) (n := 3) rfl rfl | exact RdN.own (k := 1) (n := 3) rfl rfl | exact RdN.own (k := 2) (n := 3) rfl rfl)) rfl ?_
          refine WL.so (SO.callP Try.call24 rfl (fun w hI => Hope_g d a1 _ c1 a2 _ c2 _ _ hR hI.imm)) rfl ?_
          rintro _ _ _ ⟨rfl, rfl, rfl⟩
          refine WL.yd (Yd.move rfl) rfl ?_
          refine WL.yd (Yd.extract rfl rfl) rfl ?_
          refine WL.yd (Yd.extract rfl rfl) rfl ?_
          refine WL.yd (Yd.assign rfl) rfl ?_
          refine WL.yd (Yd.assign rfl) rfl ?_
          refine WL.nil ?_
          refine WP.thenC ?_
          refine WC.seq ?_
          refine WC.ofFr [(16, _), (15, _), (14, _), (13, _), (3, _), (4, _), (9, _)] ⟨rfl, rfl, rfl, rfl, rfl, rfl, rfl, trivial⟩ ?_
          refine WC.region ?_
          refine WL.yd (Yd.loadN Try.isAgg25 Try.sizeOf25 rfl (vs := [_, _, _]) rfl (by first | exact RdN.own (k := 0) (n := 3) rfl rfl | exact RdN.own (k := 1) (n := 3) rfl rfl | exact RdN.own (k := 2) (n := 3) rfl rfl)) rfl ?_
          refine WL.so (SO.callP Try.call29 rfl (fun w hI => Most_g d a1 _ c1 a2 _ c2 _ _ hR hI.imm)) rfl ?_
          rintro _ _ _ ⟨rfl, rfl, rfl⟩
          refine WL.yd (Yd.move rfl) rfl ?_
          refine WL.yd (Yd.extract rfl rfl) rfl ?_
          refine WL.yd (Yd.extract rfl rfl) rfl ?_
          refine WL.yd (Yd.extract rfl rfl) rfl ?_
          refine WL.yd (Yd.assign rfl) rfl ?_
          refine WL.yd (Yd.assign rfl) rfl ?_
          refine WL.yd (Yd.assign rfl) rfl ?_
          refine WL.nil ?_
          refine WP.thenC ?_
          refine WC.seq ?_
          refine WC.ofFr [(19, _), (17, _), (16, _), (15, _), (14, _), (13, _), (3, _), (4, _), (9, _)] ⟨rfl, rfl, rfl, rfl, rfl, rfl, rfl, rfl, rfl, trivial⟩ ?_
          refine WC.region ?_
          refine WL.yd (Yd.loadN Try.isAgg25 Try.sizeOf25 rfl (vs := [_, _, _]) rfl (by first | exact RdN.own (k := 0) (n := 3) rfl rfl | exact RdN.own (k := 1) (n := 3) rfl rfl | exact RdN.own (k := 2) (n := 3) rfl rfl)) rfl ?_
          refine WL.so (SO.callP Try.call26 rfl (fun w hI => Fewest_g d a1 _ c1 a2 _ c2 _ _ hR hI.imm)) rfl ?_
          rintro _ _ _ ⟨rfl, rfl, rfl⟩
          refine WL.yd (Yd.move rfl) rfl ?_
          refine WL.yd (Yd.extract rfl rfl) rfl ?_
          refine WL.yd (Yd.extract rfl rfl) rfl ?_
          refine WL.yd (Yd.assign rfl) rfl ?_
          refine WL.yd (Yd.assign rfl) rfl ?_
          refine WL.nil ?_
          refine WP.thenC ?_
          refine WC.seq ?_
          refine WC.seq ?_
          refine WC.ofFr [(21, _), (20, _), (19, _), (17, _), (16, _), (15, _), (14, _), (13, _), (3, _), (4, _), (9, _)] ⟨rfl, rfl, rfl, rfl, rfl, rfl, rfl, rfl, rfl, rfl, rfl, trivial⟩ ?_
          refine WC.region ?_
          refine WL.yd (Yd.move rfl) rfl ?_
          refine WL.yd (Yd.neq rfl rfl) rfl ?_
          refine WL.know 229 (.bool false) rfl (congrArg Value.bool (by rw [(hope_n hv).1]; decide)) ?_
          refine WL.yd (Yd.move rfl) rfl ?_
          refine WL.ydg rfl (Yd.move rfl) rfl ?_
          refine WL.ydg rfl (Yd.neq rfl rfl) rfl ?_
          refine WL.know 232 (.bool false) rfl (congrArg Value.bool (by rw [(most_num hv).2]; decide)) ?_
          refine WL.yd (Yd.pickF rfl rfl) rfl ?_
          refine WL.yd (Yd.move rfl) rfl ?_
          refine WL.ydg rfl (Yd.move rfl) rfl ?_
          refine WL.ydg rfl (Yd.move rfl) rfl ?_
          refine WL.ydg rfl (Yd.neq rfl rfl) rfl ?_
          refine WL.know 237 (.bool false) rfl (congrArg Value.bool (decide_eq_false (fun h => h (few_err hv)))) ?_
          refine WL.yd (Yd.pickF rfl rfl) rfl ?_
          refine WL.nil ?_
          refine WP.thenC ?_
          refine WC.condF rfl ?_
          refine WC.skip ?_
          refine WP.thenC ?_
          refine WC.seqJ (fun _ : Imm => [(3, .int .u8 (b : Int)), (4, pt b4), (17, it (MostOut d).1)]) (fun _ => [(b4, .cells (List.toArray [it d.hours, .slice a1 d.dippers.length c1, .slice a2 d.bathers.length c2]) 25 (0, 0))]) (fun y => y) (fun y => DipsR y d a1 d.dippers.length a2 d.bathers.length) ?_ ?_
          · rintro DD hR
            refine WC.seq ?_
            refine WC.seq ?_
            refine WC.ofFr [(3, _), (4, _), (17, _)] ⟨rfl, rfl, rfl, trivial⟩ ?_
            refine WC.region ?_
            refine WL.yd (Yd.fieldAddr FA25_2 rfl) rfl ?_
            refine WL.yd (Yd.load1 Try.isAgg23 rfl (by first | exact Rd.own (k := 0) rfl rfl)) rfl ?_
            refine WL.yd (Yd.lenS rfl Try.underlying23 rfl) rfl ?_
            refine WL.yd (Yd.eql rfl rfl) rfl ?_
            refine WL.nil ?_
            refine WP.thenC ?_
            refine WC.cond rfl (fun c331 => ?_) (fun c331 => ?_)
            · try simp only [zq1, zq2, zq3, zq4, zq5, zq6, zq7, zq8] at c331
              refine WC.seq ?_
              refine WC.ofFr [(3, _), (4, _), (17, _)] ⟨rfl, rfl, rfl, trivial⟩ ?_
              refine WC.region ?_
              refine WL.so (SO.callP Try.call14 rfl (fun w hI => alive_g _ _ hI.imm)) rfl ?_
              rintro _ _ _ ⟨rfl, rfl, rfl⟩
              refine WL.yd (Yd.assign rfl) rfl ?_
              refine WL.nil ?_
              refine WP.thenC ?_
              refine WC.ret ?_
              refine WP.thenRet ?_
              refine WP.ret1 rfl rfl Try.results11 (RV.tmp rfl) (fun w hI => ⟨rfl, hI.keep⟩)
            · try simp only [zq1, zq2, zq3, zq4, zq5, zq6, zq7, zq8] at c331
              refine WC.skip ?_
              refine WP.thenC ?_
              refine WC.seq ?_
              refine WC.ofFr [(3, _), (4, _), (17, _)] ⟨rfl, rfl, rfl, trivial⟩ ?_
              refine WC.draw [(0, true), (1, true), (2, true), (3, true), (4, true), (5, true), (6, true), (7, true), (8, true), (9, true), (10, true), (11, true), (12, true), (13, true), (14, false), (15, false), (16, true), (17, true), (18, true), (19, true), (20, true), (21, true), (22, true)] (by kernel_rfl) (by kernel_rfl) (QuietPanic.then QuietPanic.body) ?_
              refine WA.yd rfl (Yd.loadN Try.isAgg25 Try.sizeOf25 rfl (vs := [_, _, _]) rfl (by first | exact RdN.own (k := 0) (n := 3) rfl rfl)) rfl ?_
              refine WA.yd rfl (Yd.fieldAddr FA25_2 rfl) rfl ?_
              refine WA.yd rfl (Yd.load1 Try.isAgg23 rfl (by first | exact Rd.own (k := 0) rfl rfl)) rfl ?_
              refine WA.yd rfl (Yd.lenS rfl Try.underlying23 rfl) rfl ?_
              refine WA.yd rfl (Yd.shl rfl rfl (by omega) (shlI d.bathers.length h5)) rfl ?_
              refine WA.yd rfl (Yd.subN (j := 1) rfl rfl (by (try dsimp only); omega) (by (try dsimp only); omega)) rfl ?_
              refine WA.yd rfl (Yd.move rfl) rfl ?_
              refine WA.yd rfl (Yd.conv Try.underlying5 Try.underlying3 rfl (wr64 ⟨by omega, by omega⟩)) rfl ?_
              refine WA.yd rfl (Yd.fieldAddr FA25_2 rfl) rfl ?_
              refine WA.yd rfl (Yd.load1 Try.isAgg23 rfl (by first | exact Rd.own (k := 0) rfl rfl)) rfl ?_
              refine WA.yd rfl (Yd.lenS rfl Try.underlying23 rfl) rfl ?_
              refine WA.yd rfl (Yd.remN (i := b) (j := d.bathers.length) rfl rfl (by omega)) rfl ?_
              generalize hib : b % d.bathers.length = i
              have hi : i < d.bathers.length := by rw [← hib]; exact Nat.mod_lt _ (by omega)
              have hpi : 2 ^ i < 2 ^ d.bathers.length := Nat.pow_lt_pow_right (by omega) hi
              have hm1 := most_one hv hi
              refine WA.yd rfl (Yd.shl rfl rfl (by omega) (shlI i (by omega))) rfl ?_
              refine WA.yd rfl (Yd.subN (j := 2 ^ i) rfl rfl (by (try dsimp only); omega) (by (try dsimp only); omega)) rfl ?_
              refine WA.so rfl (SO.makes (Enters.func Try.call45 rfl) (fun w hI => only_g d a1 _ c1 a2 _ c2 DD w hR hI.imm (2 ^ d.bathers.length - 1 - 2 ^ i) (Nat.le_trans (Nat.sub_le _ _) (by omega)) h5)) rfl ?_
              rintro _ D7 _ ⟨hX7, ⟨a2', n2', c2', rfl, hR7⟩, rfl⟩
              refine ⟨fun _ hI => hI.shrink hX7.old, ?_⟩
              refine WA.so rfl (SO.callP Try.call29 rfl (fun w hI => Most_g (withB d (2 ^ d.bathers.length - 1 - 2 ^ i)) a1 _ c1 a2' n2' c2' D7 _ hR7 hI.imm)) rfl ?_
              rintro _ _ _ ⟨rfl, rfl, rfl⟩
              refine ⟨fun _ hI => hI.shrink hX7.old, ?_⟩
              refine WA.yd rfl (Yd.move rfl) rfl ?_
              refine WA.yd rfl (Yd.extract rfl rfl) rfl ?_
              refine WA.yd rfl (Yd.extract rfl rfl) rfl ?_
              refine WA.yd rfl (Yd.extract rfl rfl) rfl ?_
              refine WA.yd rfl (Yd.assign rfl) rfl ?_
              refine WA.yd rfl (Yd.assign rfl) rfl ?_
              refine WA.yd rfl (Yd.assign rfl) rfl ?_
              refine WA.nil ?_
              refine WP.thenC ?_
              refine WC.seq ?_
              refine WC.ofFr [(36, _), (34, _), (17, _)] ⟨rfl, rfl, rfl, trivial⟩ ?_
              refine WC.region ?_
              refine WL.yd (Yd.move rfl) rfl ?_
              refine WL.yd (Yd.eql rfl rfl) rfl ?_
              refine WL.know 354 (.bool true) rfl (congrArg Value.bool (by rw [hm1.2.1]; decide)) ?_
              refine WL.yd (Yd.move rfl) rfl ?_
              refine WL.ydg rfl (Yd.move rfl) rfl ?_
              refine WL.ydg rfl (Yd.move rfl) rfl ?_
              refine WL.ydg rfl (Yd.leq rfl rfl) rfl ?_
              refine WL.know 358 (.bool true) rfl (congrArg Value.bool (decide_eq_true hm1.2.2.1)) ?_
              refine WL.yd (Yd.pickT rfl rfl) rfl ?_
              refine WL.yd (Yd.move rfl) rfl ?_
              refine WL.ydg rfl (Yd.move rfl) rfl ?_
              refine WL.ydg rfl (Yd.move rfl) rfl ?_
              refine WL.ydg rfl (Yd.sub rfl rfl (wr64 ⟨by omega, by omega⟩)) rfl ?_
              refine WL.ydg rfl (Yd.geq rfl rfl) rfl ?_
              refine WL.know 364 (.bool true) rfl (congrArg Value.bool (decide_eq_true hm1.2.2.2)) ?_
              refine WL.yd (Yd.pickT rfl rfl) rfl ?_
              refine WL.yd (Yd.move rfl) rfl ?_
              refine WL.sog rfl (SO.callP Try.call14 rfl (fun w hI => alive_g _ _ hI.imm)) rfl ?_
              rintro _ _ _ ⟨rfl, rfl, rfl⟩
              refine WL.yd (Yd.pickT rfl rfl) rfl ?_
              refine WL.know 368 (.bool true) rfl rfl ?_
              refine WL.yd (Yd.assign rfl) rfl ?_
              refine WL.nil ?_
              refine WP.thenC ?_
              refine WC.ret ?_
              refine WP.ret1 rfl rfl Try.results11 (RV.tmp rfl) (fun w hI => ⟨rfl, hI.keep⟩)
          · skip
            refine WC.seq ?_
            refine WC.ofFr [(20, _), (17, _), (15, _), (14, _), (13, _), (3, _), (4, _), (9, _)] ⟨rfl, rfl, rfl, rfl, rfl, rfl, rfl, rfl, trivial⟩ ?_
            refine WC.region ?_
            refine WL.yd (Yd.loadN Try.isAgg25 Try.sizeOf25 rfl (vs := [_, _, _]) rfl (by first | exact RdN.own (k := 0) (n := 3) rfl rfl | exact RdN.own (k := 1) (n := 3) rfl rfl | exact RdN.own (k := 2) (n := 3) rfl rfl)) rfl ?_
            refine WL.so (SO.callP Try.call36 rfl (fun w hI => dips_g x (owAt (some u1)) _ u1.cap (owAt (some u2)) _ u2.cap D5 _ hRX hI.imm)) rfl ?_
            rintro _ _ _ ⟨rfl, rfl, rfl⟩
            refine WL.nil ?_
            refine WP.thenC ?_
            refine WC.cond rfl (fun c240 => ?_) (fun c240 => ?_)
            · try simp only [zq1, zq2, zq3, zq4, zq5, zq6, zq7, zq8] at c240
              have hvx : dipsB x = true := c240
              refine WC.seq ?_
              refine WC.ofFr [(20, _), (17, _), (15, _), (14, _), (13, _), (3, _), (4, _), (9, _)] ⟨rfl, rfl, rfl, rfl, rfl, rfl, rfl, rfl, trivial⟩ ?_
              refine WC.region ?_
              refine WL.yd (Yd.loadN Try.isAgg25 Try.sizeOf25 rfl (vs := [_, _, _]) rfl (by first | exact RdN.own (k := 0) (n := 3) rfl rfl | exact RdN.own (k := 1) (n := 3) rfl rfl | exact RdN.own (k := 2) (n := 3) rfl rfl)) rfl ?_
              refine WL.so (SO.makes (Enters.func Try.call22 rfl) (fun w hI => Plan_g x (owAt (some u1)) _ u1.cap (owAt (some u2)) _ u2.cap _ w hRX hI.imm)) rfl ?_
              rintro _ D9 _ ⟨hX9, ⟨a9, n9, c9, rfl, hP9⟩, rfl⟩
              replace hR := hR.ext hX9
              replace hRX := hRX.ext hX9
              replace hP := hP.ext hX9
              obtain rfl := hP9.pl.len'
              refine WL.yd (Yd.move rfl) rfl ?_
              refine WL.yd (Yd.extract rfl rfl) rfl ?_
              refine WL.yd (Yd.extract rfl rfl) rfl ?_
              refine WL.yd (Yd.assign rfl) rfl ?_
              refine WL.yd (Yd.assign rfl) rfl ?_
              refine WL.nil ?_
              refine WP.thenC ?_
              refine WC.seq ?_
              refine WC.ofFr [(23, _), (22, _), (20, _), (17, _), (15, _), (14, _), (13, _), (3, _), (4, _), (9, _)] ⟨rfl, rfl, rfl, rfl, rfl, rfl, rfl, rfl, rfl, rfl, trivial⟩ ?_
              refine WC.region ?_
              refine WL.yd (Yd.loadN Try.isAgg25 Try.sizeOf25 rfl (vs := [_, _, _]) rfl (by first | exact RdN.own (k := 0) (n := 3) rfl rfl | exact RdN.own (k := 1) (n := 3) rfl rfl | exact RdN.own (k := 2) (n := 3) rfl rfl)) rfl ?_
              refine WL.so (SO.callP Try.call24 rfl (fun w hI => Hope_g x (owAt (some u1)) _ u1.cap (owAt (some u2)) _ u2.cap _ _ hRX hI.imm)) rfl ?_
              rintro _ _ _ ⟨rfl, rfl, rfl⟩
              refine WL.yd (Yd.move rfl) rfl ?_
              refine WL.yd (Yd.extract rfl rfl) rfl ?_
              refine WL.yd (Yd.extract rfl rfl) rfl ?_
              refine WL.yd (Yd.assign rfl) rfl ?_
              refine WL.yd (Yd.assign rfl) rfl ?_
              refine WL.nil ?_
              refine WP.thenC ?_
              refine WC.seq ?_
              refine WC.ofFr [(25, _), (24, _), (23, _), (22, _), (20, _), (17, _), (15, _), (14, _), (13, _), (3, _), (4, _), (9, _)] ⟨rfl, rfl, rfl, rfl, rfl, rfl, rfl, rfl, rfl, rfl, rfl, rfl, trivial⟩ ?_
              refine WC.region ?_
              refine WL.yd (Yd.loadN Try.isAgg25 Try.sizeOf25 rfl (vs := [_, _, _]) rfl (by first | exact RdN.own (k := 0) (n := 3) rfl rfl | exact RdN.own (k := 1) (n := 3) rfl rfl | exact RdN.own (k := 2) (n := 3) rfl rfl)) rfl ?_
              refine WL.so (SO.callP Try.call29 rfl (fun w hI => Most_g x (owAt (some u1)) _ u1.cap (owAt (some u2)) _ u2.cap _ _ hRX hI.imm)) rfl ?_
              rintro _ _ _ ⟨rfl, rfl, rfl⟩
              refine WL.yd (Yd.move rfl) rfl ?_
              refine WL.yd (Yd.extract rfl rfl) rfl ?_
              refine WL.yd (Yd.extract rfl rfl) rfl ?_
              refine WL.yd (Yd.extract rfl rfl) rfl ?_
              refine WL.yd (Yd.assign rfl) rfl ?_
              refine WL.yd (Yd.assign rfl) rfl ?_
              refine WL.yd (Yd.assign rfl) rfl ?_
              refine WL.nil ?_
              refine WP.thenC ?_
              refine WC.seq ?_
              refine WC.ofFr [(28, _), (26, _), (25, _), (24, _), (23, _), (22, _), (20, _), (17, _), (15, _), (14, _), (13, _), (3, _), (4, _), (9, _)] ⟨rfl, rfl, rfl, rfl, rfl, rfl, rfl, rfl, rfl, rfl, rfl, rfl, rfl, rfl, trivial⟩ ?_
              refine WC.region ?_
              refine WL.yd (Yd.loadN Try.isAgg25 Try.sizeOf25 rfl (vs := [_, _, _]) rfl (by first | exact RdN.own (k := 0) (n := 3) rfl rfl | exact RdN.own (k := 1) (n := 3) rfl rfl | exact RdN.own (k := 2) (n := 3) rfl rfl)) rfl ?_
              refine WL.so (SO.callP Try.call26 rfl (fun w hI => Fewest_g x (owAt (some u1)) _ u1.cap (owAt (some u2)) _ u2.cap _ _ hRX hI.imm)) rfl ?_
              rintro _ _ _ ⟨rfl, rfl, rfl⟩
              refine WL.yd (Yd.move rfl) rfl ?_
              refine WL.yd (Yd.extract rfl rfl) rfl ?_
              refine WL.yd (Yd.extract rfl rfl) rfl ?_
              refine WL.yd (Yd.assign rfl) rfl ?_
              refine WL.yd (Yd.assign rfl) rfl ?_
              refine WL.nil ?_
              refine WP.thenC ?_
              refine WC.seq ?_
              refine WC.ofFr [(30, _), (29, _), (28, _), (26, _), (25, _), (24, _), (23, _), (22, _), (20, _), (17, _), (15, _), (14, _), (13, _), (3, _), (4, _), (9, _)] ⟨rfl, rfl, rfl, rfl, rfl, rfl, rfl, rfl, rfl, rfl, rfl, rfl, rfl, rfl, rfl, rfl, trivial⟩ ?_
              refine WC.region ?_
              refine WL.yd (Yd.assign rfl) rfl ?_
              refine WL.nil ?_
              refine WP.thenC ?_
              refine WC.seq ?_
              refine WC.seq ?_
              refine WC.ofFr [(31, _), (30, _), (29, _), (28, _), (26, _), (25, _), (24, _), (23, _), (22, _), (20, _), (17, _), (15, _), (14, _), (13, _), (3, _), (4, _), (9, _)] ⟨rfl, rfl, rfl, rfl, rfl, rfl, rfl, rfl, rfl, rfl, rfl, rfl, rfl, rfl, rfl, rfl, rfl, trivial⟩ ?_
              refine WC.region ?_
              refine WL.yd (Yd.move rfl) rfl ?_
              refine WL.yd (Yd.neq rfl rfl) rfl ?_
              refine WL.know 263 (.bool false) rfl (congrArg Value.bool (by rw [(hope_n hvx).1]; decide)) ?_
              refine WL.yd (Yd.move rfl) rfl ?_
              refine WL.ydg rfl (Yd.move rfl) rfl ?_
              refine WL.ydg rfl (Yd.neq rfl rfl) rfl ?_
              refine WL.know 266 (.bool false) rfl (congrArg Value.bool (by rw [(most_num hvx).2]; decide)) ?_
              refine WL.yd (Yd.pickF rfl rfl) rfl ?_
              refine WL.yd (Yd.move rfl) rfl ?_
              refine WL.ydg rfl (Yd.move rfl) rfl ?_
              refine WL.ydg rfl (Yd.move rfl) rfl ?_
              refine WL.ydg rfl (Yd.lss rfl rfl) rfl ?_
              refine WL.know 271 (.bool false) rfl (congrArg Value.bool (decide_eq_false (by have := hope_bet hbet hv hvx; omega))) ?_
              refine WL.yd (Yd.pickF rfl rfl) rfl ?_
              refine WL.yd (Yd.move rfl) rfl ?_
              refine WL.ydg rfl (Yd.move rfl) rfl ?_
              refine WL.ydg rfl (Yd.move rfl) rfl ?_
              refine WL.ydg rfl (Yd.lss rfl rfl) rfl ?_
              refine WL.know 276 (.bool false) rfl (congrArg Value.bool (decide_eq_false (by have := bet_most hbet hv hvx; omega))) ?_
              refine WL.yd (Yd.pickF rfl rfl) rfl ?_
              refine WL.yd (Yd.move rfl) rfl ?_
              refine WL.ofFr [(31, _), (30, _), (29, _), (23, _), (22, _), (20, _), (278, _), (17, _), (14, _), (13, _), (3, _), (4, _), (9, _)] ⟨rfl, rfl, rfl, rfl, rfl, rfl, rfl, rfl, rfl, rfl, rfl, rfl, rfl, trivial⟩ ?_
              refine WL.cutD 34 6 312 (.bool false) ?_ ?_
              · skip
                refine WL.ydg rfl (Yd.move rfl) rfl ?_
                refine WL.ydg rfl (Yd.eql rfl rfl) rfl ?_
                refine WL.ydg rfl (Yd.move rfl) rfl ?_
                refine WL.part 281 rfl (fun g281 => ?_) (fun g281 => ?_)
                · try simp only [zq1, zq2, zq3, zq4, zq5, zq6, zq7, zq8] at g281
                  have he : (PlanOut d).2 = 0 := g281
                  obtain ⟨s, t, hfs, hft, hs, ht, hpop⟩ := bet_few hbet hv hvx he
                  refine WL.know 20 (nt s) rfl (congrArg it (congrArg Prod.fst hfs)) ?_
                  refine WL.know 29 (nt t) rfl (congrArg it (congrArg Prod.fst hft)) ?_
                  refine WL.ydg rfl (Yd.move rfl) rfl ?_
                  refine WL.ydg rfl (Yd.neq rfl rfl) rfl ?_
                  refine WL.know 283 (.bool false) rfl (congrArg Value.bool (by rw [(bet_plan hbet hv hvx he).1]; decide)) ?_
                  refine WL.ydg rfl (Yd.move rfl) rfl ?_
                  refine WL.ydg rfl (Yd.move rfl) rfl ?_
                  refine WL.ydg rfl (Yd.lenS rfl Try.underlying26 rfl) rfl ?_
                  refine WL.ydg rfl (Yd.move rfl) rfl ?_
                  refine WL.ydg rfl (Yd.lenS rfl Try.underlying26 rfl) rfl ?_
                  refine WL.ydg rfl (Yd.neq rfl rfl) rfl ?_
                  refine WL.know 289 (.bool false) rfl (congrArg Value.bool (decide_eq_false (fun h => h (by have := (bet_plan hbet hv hvx he).2; omega)))) ?_
                  refine WL.ydg rfl (Yd.pickF rfl rfl) rfl ?_
                  refine WL.ydg rfl (Yd.move rfl) rfl ?_
                  refine WL.ydg rfl (Yd.move rfl) rfl ?_
                  refine WL.ydg rfl (Yd.neq rfl rfl) rfl ?_
                  refine WL.know 293 (.bool false) rfl (congrArg Value.bool (by rw [hft]; simp)) ?_
                  refine WL.ydg rfl (Yd.pickF rfl rfl) rfl ?_
                  refine WL.ydg rfl (Yd.move rfl) rfl ?_
                  refine WL.ydg rfl (Yd.move rfl) rfl ?_
                  refine WL.ydg rfl (Yd.lss rfl rfl) rfl ?_
                  refine WL.know 297 (.bool false) rfl (congrArg Value.bool (decide_eq_false (by omega))) ?_
                  refine WL.ydg rfl (Yd.pickF rfl rfl) rfl ?_
                  refine WL.ydg rfl (Yd.move rfl) rfl ?_
                  refine WL.ydg rfl (Yd.move rfl) rfl ?_
                  refine WL.ydg rfl (Yd.lss rfl rfl) rfl ?_
                  refine WL.know 301 (.bool false) rfl (congrArg Value.bool (decide_eq_false (by omega))) ?_
                  refine WL.ydg rfl (Yd.pickF rfl rfl) rfl ?_
                  refine WL.ydg rfl (Yd.move rfl) rfl ?_
                  refine WL.ydg rfl (Yd.move rfl) rfl ?_
                  refine WL.ydg rfl (Yd.move rfl) rfl ?_
                  refine WL.sog rfl (SO.call (Enters.val Try.call42 rfl rfl) (fun w hI => size_g t (by omega) _)) rfl ?_
                  rintro _ _ _ ⟨rfl, rfl, rfl⟩
                  refine WL.ydg rfl (Yd.move rfl) rfl ?_
                  refine WL.ydg rfl (Yd.move rfl) rfl ?_
                  refine WL.sog rfl (SO.call (Enters.val Try.call42 rfl rfl) (fun w hI => size_g s (by omega) _)) rfl ?_
                  rintro _ _ _ ⟨rfl, rfl, rfl⟩
                  refine WL.ydg rfl (Yd.gtr rfl rfl) rfl ?_
                  refine WL.know 310 (.bool false) rfl (congrArg Value.bool (decide_eq_false (by omega))) ?_
                  refine WL.ydg rfl (Yd.pickF rfl rfl) rfl ?_
                  refine WL.ydg rfl (Yd.pickT rfl rfl) rfl ?_
                  refine WL.nil ?_
                  exact WP.cutEnd ⟨rfl, rfl, rfl, rfl, rfl, rfl, rfl, rfl, trivial⟩
                · try simp only [zq1, zq2, zq3, zq4, zq5, zq6, zq7, zq8] at g281
                  refine WL.skip rfl rfl ?_
                  refine WL.skip rfl rfl ?_
                  refine WL.skip rfl rfl ?_
                  refine WL.skipU rfl rfl ?_
                  refine WL.skipU rfl rfl ?_
                  refine WL.skipU rfl rfl ?_
                  refine WL.skipU rfl rfl ?_
                  refine WL.skipU rfl rfl ?_
                  refine WL.skip rfl rfl ?_
                  refine WL.skip rfl rfl ?_
                  refine WL.skipU rfl rfl ?_
                  refine WL.skipU rfl rfl ?_
                  refine WL.skip rfl rfl ?_
                  refine WL.skip rfl rfl ?_
                  refine WL.skipU rfl rfl ?_
                  refine WL.skipU rfl rfl ?_
                  refine WL.skip rfl rfl ?_
                  refine WL.skip rfl rfl ?_
                  refine WL.skipU rfl rfl ?_
                  refine WL.skipU rfl rfl ?_
                  refine WL.skip rfl rfl ?_
                  refine WL.skip rfl rfl ?_
                  refine WL.skipU rfl rfl ?_
                  refine WL.skipU rfl rfl ?_
                  refine WL.skipU rfl rfl ?_
                  refine WL.skipU rfl rfl ?_
                  refine WL.skipU rfl rfl ?_
                  refine WL.skipU rfl rfl ?_
                  refine WL.skipU rfl rfl ?_
                  refine WL.skip rfl rfl ?_
                  refine WL.ydg rfl (Yd.pickF rfl rfl) rfl ?_
                  refine WL.nil ?_
                  exact WP.cutEnd ⟨rfl, rfl, rfl, rfl, rfl, rfl, rfl, rfl, trivial⟩
              · skip
                refine WL.yd (Yd.pickF rfl rfl) rfl ?_
                refine WL.nil ?_
                refine WP.thenC ?_
                refine WC.condF rfl ?_
                refine WC.skip ?_
                refine WP.thenC ?_
                refine WC.seq ?_
                refine WC.ofFr [(17, _), (14, _), (13, _), (3, _), (4, _), (9, _)] ⟨rfl, rfl, rfl, rfl, rfl, rfl, trivial⟩ ?_
                refine WC.region ?_
                refine WL.yd (Yd.move rfl) rfl ?_
                refine WL.yd (Yd.eql rfl rfl) rfl ?_
                refine WL.nil ?_
                refine WP.thenC ?_
                refine WC.cond rfl (fun c315 => ?_) (fun c315 => ?_)
                · try simp only [zq1, zq2, zq3, zq4, zq5, zq6, zq7, zq8] at c315
                  have he : (PlanOut d).2 = 0 := by omega
                  refine WC.seq ?_
                  refine WC.ofFr [(17, _), (13, _), (3, _), (4, _), (9, _)] ⟨rfl, rfl, rfl, rfl, rfl, trivial⟩ ?_
                  refine WC.region ?_
                  refine WL.yd (Yd.loadN Try.isAgg25 Try.sizeOf25 rfl (vs := [_, _, _]) rfl (by first | exact RdN.own (k := 0) (n := 3) rfl rfl | exact RdN.own (k := 1) (n := 3) rfl rfl | exact RdN.own (k := 2) (n := 3) rfl rfl)) rfl ?_
                  refine WL.yd (Yd.move rfl) rfl ?_
                  refine WL.so (SO.callP Try.call17 rfl (fun w hI => Gives.cv (.tuple #[it 2, it 0]) (Right_g x (owAt (some u1)) _ u1.cap (owAt (some u2)) _ u2.cap _ _ hRX hI.imm (PlanOut d).1 a3 _ c3 hP) (by rw [bet_right hbet hv hvx he]))) rfl ?_
                  rintro _ _ _ ⟨rfl, rfl, rfl⟩
                  refine WL.yd (Yd.move rfl) rfl ?_
                  refine WL.yd (Yd.extract rfl rfl) rfl ?_
                  refine WL.yd (Yd.extract rfl rfl) rfl ?_
                  refine WL.yd (Yd.assign rfl) rfl ?_
                  refine WL.yd (Yd.assign rfl) rfl ?_
                  refine WL.nil ?_
                  refine WP.thenC ?_
                  refine WC.seq ?_
                  refine WC.ofFr [(33, _), (32, _), (17, _), (3, _), (4, _)] ⟨rfl, rfl, rfl, rfl, rfl, trivial⟩ ?_
                  refine WC.region ?_
                  refine WL.yd (Yd.move rfl) rfl ?_
                  refine WL.yd (Yd.neq rfl rfl) rfl ?_
                  refine WL.know 323 (.bool false) rfl (congrArg Value.bool (by decide)) ?_
                  refine WL.yd (Yd.move rfl) rfl ?_
                  refine WL.ydg rfl (Yd.move rfl) rfl ?_
                  refine WL.ydg rfl (Yd.neq rfl rfl) rfl ?_
                  refine WL.know 326 (.bool false) rfl (congrArg Value.bool (by decide)) ?_
                  refine WL.yd (Yd.pickF rfl rfl) rfl ?_
                  refine WL.nil ?_
                  refine WP.thenC ?_
                  refine WC.condF rfl ?_
                  refine WC.skip ?_
                  exact WP.join _ hR (fun aa ww h => at_less h ⟨rfl, rfl, rfl, trivial⟩ (fun e he => by rw [List.mem_singleton.1 he]; exact List.mem_cons_of_mem _ (List.mem_cons_of_mem _ (List.mem_cons_self ..))) (fun _ => by simp))
                · try simp only [zq1, zq2, zq3, zq4, zq5, zq6, zq7, zq8] at c315
                  refine WC.skip ?_
                  exact WP.join _ hR (fun aa ww h => at_less h ⟨rfl, rfl, rfl, trivial⟩ (fun e he => by rw [List.mem_singleton.1 he]; exact List.mem_cons_of_mem _ (List.mem_cons_of_mem _ (List.mem_cons_self ..))) (fun _ => by simp))
            · try simp only [zq1, zq2, zq3, zq4, zq5, zq6, zq7, zq8] at c240
              refine WC.skip ?_
              exact WP.join _ hR (fun aa ww h => at_less h ⟨rfl, rfl, rfl, trivial⟩ (fun e he => by rw [List.mem_singleton.1 he]; exact List.mem_cons_of_mem _ (List.mem_cons_of_mem _ (List.mem_cons_self ..))) (fun _ => by simp))
        · skip
          refine WC.block ?_
          refine WC.seq ?_
          refine WC.ofFr [(10, _), (2, _), (3, _), (4, _), (5, _), (9, _)] ⟨rfl, rfl, rfl, rfl, rfl, rfl, trivial⟩ ?_
          refine WC.region ?_
          refine WL.yd (Yd.move rfl) rfl ?_
          refine WL.yd (Yd.rem rfl rfl (by omega) (by omega)) rfl ?_
          refine WL.yd (Yd.eql rfl rfl) rfl ?_
          refine WL.yd (Yd.assign rfl) rfl ?_
          refine WL.nil ?_
          refine WP.thenC ?_
          refine WC.cond rfl (fun c60 => ?_) (fun c60 => ?_)
          · try simp only [zq1, zq2, zq3, zq4, zq5, zq6, zq7, zq8] at c60
            refine WC.ofFr [(3, _), (4, _), (5, _), (9, _)] ⟨rfl, rfl, rfl, rfl, trivial⟩ ?_
            refine WC.region ?_
            refine WL.yd (Yd.fieldAddr FA25_1 rfl) rfl ?_
            refine WL.yd (Yd.load1 Try.isAgg22 rfl (by first | exact Rd.own (k := 0) rfl rfl | exact Rd.own (k := 1) rfl rfl | exact Rd.own (k := 2) rfl rfl | exact Rd.own (k := 3) rfl rfl | exact Rd.own (k := 4) rfl rfl)) rfl ?_
            refine WL.yd (Yd.loadN Try.isAgg53 Try.sizeOf53 rfl (vs := [_, _, _]) rfl (by first | exact RdN.own (k := 0) (n := 3) rfl rfl | exact RdN.own (k := 1) (n := 3) rfl rfl | exact RdN.own (k := 2) (n := 3) rfl rfl | exact RdN.own (k := 3) (n := 3) rfl rfl | exact RdN.own (k := 4) (n := 3) rfl rfl)) rfl ?_
            refine WL.so (SO.buildSlice Try.underlying22 Try.sizeOf53 Try.zeroValue53 rfl rfl rfl rfl (cs := [_, _, _]) rfl) rfl ?_
            rintro _ _ _ ⟨b67, hb67, rfl, rfl, rfl⟩ -- NEW
            refine WL.so (SO.appendOw (o := some u1) (len := d.dippers.length) (n := 1) (xs := d.dippers.flatMap dipperC) (size := 3) [_] [_] [_, _, _] rfl rfl Try.underlying22 Try.sizeOf53 Try.typeInfo53 Try.zeroValue53 rfl rfl rfl rfl ⟨rfl, .inr ⟨_, _, _, rfl, RdN.own (k := 0) (n := 3) rfl rfl⟩⟩ (oneB_spec rfl) hu1 (flat_len dipperC_len _) (by omega) (by show (2 * (_ + _) + 1000) * 24 ≤ 2 ^ 48; omega) (by omega)) rfl ?_
            rintro _ _ _ ⟨u3, hu3, rfl, rfl, rfl⟩
            refine WL.yd (Yd.fieldAddr FA25_1 rfl) rfl ?_
            refine WL.so (SO.store 2 rfl Try.sizeOf22 rfl rfl rfl rfl (Nat.le_of_ble_eq_true rfl) (oneB_spec rfl)) rfl ?_
            rintro _ _ _ ⟨rfl, rfl, rfl⟩
            refine WL.nil ?_
            refine WP.blkNormal ?_
            exact WP.join ((⟨d.hours, d.dippers ++ [e], d.bathers⟩, u3, u2, (d.dippers.length + 1), d.bathers.length, (d.dippers.flatMap dipperC ++ dipperC e), (d.bathers.flatMap batherC)) : Dips × Ow × Ow × Nat × Nat × List Value × List Value) ⟨bet_app d e, hu3, hu2, by simp, rfl, flat_snoc _ _ _, rfl, by simp; try omega⟩ (fun aa ww h => at_fr h ⟨rfl, rfl, rfl, trivial⟩)
          · try simp only [zq1, zq2, zq3, zq4, zq5, zq6, zq7, zq8] at c60
            refine WC.seq ?_
            refine WC.ofFr [(10, _), (2, _), (3, _), (4, _), (9, _)] ⟨rfl, rfl, rfl, rfl, rfl, trivial⟩ ?_
            refine WC.region ?_
            refine WL.yd (Yd.move rfl) rfl ?_
            refine WL.yd (Yd.rem rfl rfl (by omega) (by omega)) rfl ?_
            refine WL.yd (Yd.eql rfl rfl) rfl ?_
            refine WL.yd (Yd.move rfl) rfl ?_
            refine WL.part 74 rfl (fun g74 => ?_) (fun g74 => ?_)
            · try simp only [zq1, zq2, zq3, zq4, zq5, zq6, zq7, zq8] at g74
              refine WL.ydg rfl (Yd.fieldAddr FA25_1 rfl) rfl ?_
              refine WL.ydg rfl (Yd.load1 Try.isAgg22 rfl (by first | exact Rd.own (k := 0) rfl rfl | exact Rd.own (k := 1) rfl rfl | exact Rd.own (k := 2) rfl rfl | exact Rd.own (k := 3) rfl rfl | exact Rd.own (k := 4) rfl rfl)) rfl ?_
              refine WL.ydg rfl (Yd.lenS rfl Try.underlying22 rfl) rfl ?_
              refine WL.ydg rfl (Yd.gtr rfl rfl) rfl ?_
              refine WL.yd (Yd.pickT rfl rfl) rfl ?_
              refine WL.yd (Yd.assign rfl) rfl ?_
              refine WL.nil ?_
              refine WP.thenC ?_
              refine WC.cond rfl (fun c70 => ?_) (fun c70 => ?_)
              · try simp only [zq1, zq2, zq3, zq4, zq5, zq6, zq7, zq8] at c70
                refine WC.seq ?_
                refine WC.ofFr [(3, _), (4, _), (9, _)] ⟨rfl, rfl, rfl, trivial⟩ ?_
                refine WC.tail 8 [0, 1, 2, 3, 4, 5, 6, 7] rfl (by kernel_rfl) (by kernel_rfl)  ?_
                refine WQ.q rfl (Yd.qt (Yd.fieldAddr FA25_1 rfl)) rfl ?_
                refine WQ.q rfl (Yd.qt (Yd.load1 Try.isAgg22 rfl (by first | exact Rd.own (k := 0) rfl rfl | exact Rd.own (k := 1) rfl rfl | exact Rd.own (k := 2) rfl rfl | exact Rd.own (k := 3) rfl rfl | exact Rd.own (k := 4) rfl rfl))) rfl ?_
                refine WQ.q rfl (Yd.qt (Yd.move rfl)) rfl ?_
                refine WQ.q rfl (Yd.qt (Yd.conv Try.underlying5 Try.underlying3 rfl (wr64 ⟨by omega, by omega⟩))) rfl ?_
                refine WQ.q rfl (Yd.qt (Yd.fieldAddr FA25_1 rfl)) rfl ?_
                refine WQ.q rfl (Yd.qt (Yd.load1 Try.isAgg22 rfl (by first | exact Rd.own (k := 0) rfl rfl | exact Rd.own (k := 1) rfl rfl | exact Rd.own (k := 2) rfl rfl | exact Rd.own (k := 3) rfl rfl | exact Rd.own (k := 4) rfl rfl))) rfl ?_
                refine WQ.q rfl (Yd.qt (Yd.lenS rfl Try.underlying22 rfl)) rfl ?_
                refine WQ.q rfl (Yd.qt (Yd.remN (i := b) (j := d.dippers.length) rfl rfl (by omega))) rfl ?_
                refine WQ.tail ?_
                generalize hib : b % d.dippers.length = i
                have hi : i < d.dippers.length := by rw [← hib]; exact Nat.mod_lt _ (by omega)
                have hdi := hnum.2.2.2.1 i hi
                refine WL.yd (Yd.indexS Try.underlying22 Try.sizeOf53 rfl rfl (by omega) (by omega) (by first | exact rfl)) rfl ?_
                refine WL.yd (Yd.fieldAddr FA53_0 rfl) rfl ?_
                refine WL.yd (Yd.assign rfl) rfl ?_
                refine WL.nil ?_
                refine WP.thenC ?_
                refine WC.seq ?_
                refine WC.ofFr [(11, _), (3, _), (4, _), (9, _)] ⟨rfl, rfl, rfl, rfl, trivial⟩ ?_
                refine WC.region ?_
                refine WL.yd (Yd.move rfl) rfl ?_
                refine WL.yd (Yd.move rfl) rfl ?_
                refine WL.yd (Yd.nilCheck rfl) rfl ?_
                refine WL.yd (Yd.fieldAddr FA35_1 rfl) rfl ?_
                refine WL.yd (Yd.load1 Try.isAgg3 rfl (Rd.flat dipperC_len (k := 1) (l := d.dippers) (i := i) (j := 1) rfl hi (by decide) rfl)) rfl ?_
                refine WL.yd (Yd.add rfl rfl (wr64 ⟨by omega, by omega⟩)) rfl ?_
                refine WL.yd (Yd.min2 rfl rfl) rfl ?_
                refine WL.yd (Yd.nilCheck rfl) rfl ?_
                refine WL.yd (Yd.fieldAddr FA35_1 rfl) rfl ?_
                refine WL.so (SO.storeFlat dipperC_len (l := d.dippers) (rest := u1.rest) (i := i) (j := 1) (y := (⟨⟨(gt d.dippers i).hands.lo, min 8 ((gt d.dippers i).hands.hi + 1)⟩, (gt d.dippers i).hours⟩ : Dipper)) 1 rfl Try.sizeOf3 rfl rfl rfl hi (by decide) rfl (splice_flat dipperC_len (by decide) _ _ _ hi rfl)) rfl ?_
                rintro _ _ _ ⟨rfl, rfl, rfl⟩
                refine WL.nil ?_
                refine WP.thenC ?_
                refine WC.ofFr [(11, _), (3, _), (4, _), (9, _)] ⟨rfl, rfl, rfl, rfl, trivial⟩ ?_
                refine WC.drawH [_, _, _] (by kernel_rfl) (fun _ hI => hI.drop 2) ?_
                refine WH.yd (i := 0) (by kernel_rfl) (fun _ o v c a w _ h => (QuietPanic.blk (QuietPanic.then QuietPanic.body)) c o.dst v a w h) rfl (Yd.move rfl) rfl ?_
                refine WH.yd (i := 1) (by kernel_rfl) (fun _ o v c a w _ h => (QuietPanic.blk (QuietPanic.then QuietPanic.body)) c o.dst v a w h) rfl (Yd.move rfl) rfl ?_
                refine WH.yd (i := 2) (by kernel_rfl) (fun _ o v c a w _ h => (QuietPanic.blk (QuietPanic.then QuietPanic.body)) c o.dst v a w h) rfl (Yd.nilCheck rfl) rfl ?_
                refine WH.yd (i := 3) (by kernel_rfl) (fun _ o v c a w _ h => (QuietPanic.blk (QuietPanic.then QuietPanic.body)) c o.dst v a w h) rfl (Yd.fieldAddr FA35_1 rfl) rfl ?_
                refine WH.yd (i := 5) (by kernel_rfl) (fun _ o v c a w _ h => (QuietPanic.blk (QuietPanic.then QuietPanic.body)) c o.dst v a w h) rfl (Yd.move rfl) rfl ?_
                refine WH.yd (i := 6) (by kernel_rfl) (fun _ o v c a w _ h => (QuietPanic.blk (QuietPanic.then QuietPanic.body)) c o.dst v a w h) rfl (Yd.nilCheck rfl) rfl ?_
                refine WH.yd (i := 7) (by kernel_rfl) (fun _ o v c a w _ h => (QuietPanic.blk (QuietPanic.then QuietPanic.body)) c o.dst v a w h) rfl (Yd.fieldAddr FA35_0 rfl) rfl ?_
                refine WH.two (i := 4) (j := 8) (by kernel_rfl) ?_ ?_
                · refine WHo.yd rfl (Yd.load1 Try.isAgg3 rfl (Rd.flatSet dipperC_len (k := 1) (l := d.dippers) (y := (⟨⟨(gt d.dippers i).hands.lo, min 8 ((gt d.dippers i).hands.hi + 1)⟩, (gt d.dippers i).hours⟩ : Dipper)) (i := i) (j := 1) rfl hi (by decide) rfl)) rfl ?_
                  refine WH.one (i := 8) (by kernel_rfl) (WHo.yd rfl (Yd.load1 Try.isAgg3 rfl (Rd.flatSet dipperC_len (k := 1) (l := d.dippers) (y := (⟨⟨(gt d.dippers i).hands.lo, min 8 ((gt d.dippers i).hands.hi + 1)⟩, (gt d.dippers i).hours⟩ : Dipper)) (i := i) (j := 0) rfl hi (by decide) rfl)) rfl ?_)
                  refine WH.yd (i := 9) (by kernel_rfl) (fun _ o v c a w _ h => (QuietPanic.blk (QuietPanic.then QuietPanic.body)) c o.dst v a w h) rfl (Yd.add rfl rfl (wr64 ⟨by (try dsimp only); omega, by (try dsimp only); omega⟩)) rfl ?_
                  refine WH.yd (i := 10) (by kernel_rfl) (fun _ o v c a w _ h => (QuietPanic.blk (QuietPanic.then QuietPanic.body)) c o.dst v a w h) rfl (Yd.min2 rfl rfl) rfl ?_
                  refine WH.yd (i := 11) (by kernel_rfl) (fun _ o v c a w _ h => (QuietPanic.blk (QuietPanic.then QuietPanic.body)) c o.dst v a w h) rfl (Yd.nilCheck rfl) rfl ?_
                  refine WH.yd (i := 12) (by kernel_rfl) (fun _ o v c a w _ h => (QuietPanic.blk (QuietPanic.then QuietPanic.body)) c o.dst v a w h) rfl (Yd.fieldAddr FA35_0 rfl) rfl ?_
                  refine WH.one (i := 13) (by kernel_rfl) (WHo.so rfl (SO.storeFlat dipperC_len (l := d.dippers.set i (⟨⟨(gt d.dippers i).hands.lo, min 8 ((gt d.dippers i).hands.hi + 1)⟩, (gt d.dippers i).hours⟩ : Dipper)) (rest := u1.rest) (i := i) (j := 0) (y := (⟨⟨min (min 8 ((gt d.dippers i).hands.hi + 1)) ((gt d.dippers i).hands.lo + 1), min 8 ((gt d.dippers i).hands.hi + 1)⟩, (gt d.dippers i).hours⟩ : Dipper)) 1 rfl Try.sizeOf3 rfl rfl rfl (by rw [List.length_set]; exact hi) (by decide) rfl (splice_flat dipperC_len (by decide) _ _ _ (by rw [List.length_set]; exact hi) (by rw [gt_setQ _ _ _ _ hi, if_pos rfl]; rfl))) rfl ?_)
                  rintro _ _ _ ⟨rfl, rfl, rfl⟩
                  refine ⟨(fun _ hI => hI.drop 2), ?_⟩
                  refine WH.nil (by kernel_rfl) ?_
                  refine WP.blkNormal ?_
                  exact WP.join ((⟨d.hours, d.dippers.set i (⟨⟨min (min 8 ((gt d.dippers i).hands.hi + 1)) ((gt d.dippers i).hands.lo + 1), min 8 ((gt d.dippers i).hands.hi + 1)⟩, (gt d.dippers i).hours⟩ : Dipper), d.bathers⟩, u1, u2, d.dippers.length, d.bathers.length, (((d.dippers.set i (⟨⟨(gt d.dippers i).hands.lo, min 8 ((gt d.dippers i).hands.hi + 1)⟩, (gt d.dippers i).hours⟩ : Dipper)).set i (⟨⟨min (min 8 ((gt d.dippers i).hands.hi + 1)) ((gt d.dippers i).hands.lo + 1), min 8 ((gt d.dippers i).hands.hi + 1)⟩, (gt d.dippers i).hours⟩ : Dipper)).flatMap dipperC), (d.bathers.flatMap batherC)) : Dips × Ow × Ow × Nat × Nat × List Value × List Value) ⟨bet_dip d i _ (by show _ ≤ min (min 8 (_ + 1)) (_ + 1); omega) (by show _ ≤ min 8 (_ + 1); omega) (fun _ h => h), hu1, hu2, by simp, rfl, by rw [List.set_set], rfl, by simp; try omega⟩ (fun aa ww h => at_fr h ⟨rfl, rfl, rfl, trivial⟩)
                · refine WHo.yd rfl (Yd.load1 Try.isAgg3 rfl (Rd.flatSet dipperC_len (k := 1) (l := d.dippers) (y := (⟨⟨(gt d.dippers i).hands.lo, min 8 ((gt d.dippers i).hands.hi + 1)⟩, (gt d.dippers i).hours⟩ : Dipper)) (i := i) (j := 0) rfl hi (by decide) rfl)) rfl ?_
                  refine WH.yd (i := 9) (by kernel_rfl) (fun _ o v c a w _ h => (QuietPanic.blk (QuietPanic.then QuietPanic.body)) c o.dst v a w h) rfl (Yd.add rfl rfl (wr64 ⟨by (try dsimp only); omega, by (try dsimp only); omega⟩)) rfl ?_
                  refine WH.one (i := 4) (by kernel_rfl) (WHo.yd rfl (Yd.load1 Try.isAgg3 rfl (Rd.flatSet dipperC_len (k := 1) (l := d.dippers) (y := (⟨⟨(gt d.dippers i).hands.lo, min 8 ((gt d.dippers i).hands.hi + 1)⟩, (gt d.dippers i).hours⟩ : Dipper)) (i := i) (j := 1) rfl hi (by decide) rfl)) rfl ?_)
                  refine WH.yd (i := 10) (by kernel_rfl) (fun _ o v c a w _ h => (QuietPanic.blk (QuietPanic.then QuietPanic.body)) c o.dst v a w h) rfl (Yd.min2 rfl rfl) rfl ?_
                  refine WH.yd (i := 11) (by kernel_rfl) (fun _ o v c a w _ h => (QuietPanic.blk (QuietPanic.then QuietPanic.body)) c o.dst v a w h) rfl (Yd.nilCheck rfl) rfl ?_
                  refine WH.yd (i := 12) (by kernel_rfl) (fun _ o v c a w _ h => (QuietPanic.blk (QuietPanic.then QuietPanic.body)) c o.dst v a w h) rfl (Yd.fieldAddr FA35_0 rfl) rfl ?_
                  refine WH.one (i := 13) (by kernel_rfl) (WHo.so rfl (SO.storeFlat dipperC_len (l := d.dippers.set i (⟨⟨(gt d.dippers i).hands.lo, min 8 ((gt d.dippers i).hands.hi + 1)⟩, (gt d.dippers i).hours⟩ : Dipper)) (rest := u1.rest) (i := i) (j := 0) (y := (⟨⟨min (min 8 ((gt d.dippers i).hands.hi + 1)) ((gt d.dippers i).hands.lo + 1), min 8 ((gt d.dippers i).hands.hi + 1)⟩, (gt d.dippers i).hours⟩ : Dipper)) 1 rfl Try.sizeOf3 rfl rfl rfl (by rw [List.length_set]; exact hi) (by decide) rfl (splice_flat dipperC_len (by decide) _ _ _ (by rw [List.length_set]; exact hi) (by rw [gt_setQ _ _ _ _ hi, if_pos rfl]; rfl))) rfl ?_)
                  rintro _ _ _ ⟨rfl, rfl, rfl⟩
                  refine ⟨(fun _ hI => hI.drop 2), ?_⟩
                  refine WH.nil (by kernel_rfl) ?_
                  refine WP.blkNormal ?_
                  exact WP.join ((⟨d.hours, d.dippers.set i (⟨⟨min (min 8 ((gt d.dippers i).hands.hi + 1)) ((gt d.dippers i).hands.lo + 1), min 8 ((gt d.dippers i).hands.hi + 1)⟩, (gt d.dippers i).hours⟩ : Dipper), d.bathers⟩, u1, u2, d.dippers.length, d.bathers.length, (((d.dippers.set i (⟨⟨(gt d.dippers i).hands.lo, min 8 ((gt d.dippers i).hands.hi + 1)⟩, (gt d.dippers i).hours⟩ : Dipper)).set i (⟨⟨min (min 8 ((gt d.dippers i).hands.hi + 1)) ((gt d.dippers i).hands.lo + 1), min 8 ((gt d.dippers i).hands.hi + 1)⟩, (gt d.dippers i).hours⟩ : Dipper)).flatMap dipperC), (d.bathers.flatMap batherC)) : Dips × Ow × Ow × Nat × Nat × List Value × List Value) ⟨bet_dip d i _ (by show _ ≤ min (min 8 (_ + 1)) (_ + 1); omega) (by show _ ≤ min 8 (_ + 1); omega) (fun _ h => h), hu1, hu2, by simp, rfl, by rw [List.set_set], rfl, by simp; try omega⟩ (fun aa ww h => at_fr h ⟨rfl, rfl, rfl, trivial⟩)
              · try simp only [zq1, zq2, zq3, zq4, zq5, zq6, zq7, zq8] at c70
                refine WC.seq ?_
                refine WC.ofFr [(10, _), (2, _), (3, _), (4, _), (9, _)] ⟨rfl, rfl, rfl, rfl, rfl, trivial⟩ ?_
                refine WC.region ?_
                refine WL.yd (Yd.move rfl) rfl ?_
                refine WL.yd (Yd.rem rfl rfl (by omega) (by omega)) rfl ?_
                refine WL.yd (Yd.eql rfl rfl) rfl ?_
                refine WL.yd (Yd.move rfl) rfl ?_
                refine WL.part 116 rfl (fun g116 => ?_) (fun g116 => ?_)
                · try simp only [zq1, zq2, zq3, zq4, zq5, zq6, zq7, zq8] at g116
                  refine WL.ydg rfl (Yd.fieldAddr FA25_1 rfl) rfl ?_
                  refine WL.ydg rfl (Yd.load1 Try.isAgg22 rfl (by first | exact Rd.own (k := 0) rfl rfl | exact Rd.own (k := 1) rfl rfl | exact Rd.own (k := 2) rfl rfl | exact Rd.own (k := 3) rfl rfl | exact Rd.own (k := 4) rfl rfl)) rfl ?_
                  refine WL.ydg rfl (Yd.lenS rfl Try.underlying22 rfl) rfl ?_
                  refine WL.ydg rfl (Yd.gtr rfl rfl) rfl ?_
                  refine WL.yd (Yd.pickT rfl rfl) rfl ?_
                  refine WL.yd (Yd.assign rfl) rfl ?_
                  refine WL.nil ?_
                  refine WP.thenC ?_
                  refine WC.cond rfl (fun c112 => ?_) (fun c112 => ?_)
                  · try simp only [zq1, zq2, zq3, zq4, zq5, zq6, zq7, zq8] at c112
                    refine WC.ofFr [(10, _), (3, _), (4, _), (9, _)] ⟨rfl, rfl, rfl, rfl, trivial⟩ ?_
                    refine WC.drawH [_, _, _] (by kernel_rfl) (fun _ hI => hI.drop 2) ?_
                    refine WH.yd (i := 0) (by kernel_rfl) (fun _ o v c a w _ h => (QuietPanic.blk (QuietPanic.then QuietPanic.body)) c o.dst v a w h) rfl (Yd.fieldAddr FA25_1 rfl) rfl ?_
                    refine WH.yd (i := 1) (by kernel_rfl) (fun _ o v c a w _ h => (QuietPanic.blk (QuietPanic.then QuietPanic.body)) c o.dst v a w h) rfl (Yd.load1 Try.isAgg22 rfl (by first | exact Rd.own (k := 0) rfl rfl | exact Rd.own (k := 1) rfl rfl | exact Rd.own (k := 2) rfl rfl | exact Rd.own (k := 3) rfl rfl | exact Rd.own (k := 4) rfl rfl)) rfl ?_
                    refine WH.yd (i := 2) (by kernel_rfl) (fun _ o v c a w _ h => (QuietPanic.blk (QuietPanic.then QuietPanic.body)) c o.dst v a w h) rfl (Yd.move rfl) rfl ?_
                    refine WH.yd (i := 3) (by kernel_rfl) (fun _ o v c a w _ h => (QuietPanic.blk (QuietPanic.then QuietPanic.body)) c o.dst v a w h) rfl (Yd.conv Try.underlying5 Try.underlying3 rfl (wr64 ⟨by omega, by omega⟩)) rfl ?_
                    refine WH.yd (i := 4) (by kernel_rfl) (fun _ o v c a w _ h => (QuietPanic.blk (QuietPanic.then QuietPanic.body)) c o.dst v a w h) rfl (Yd.fieldAddr FA25_1 rfl) rfl ?_
                    refine WH.yd (i := 5) (by kernel_rfl) (fun _ o v c a w _ h => (QuietPanic.blk (QuietPanic.then QuietPanic.body)) c o.dst v a w h) rfl (Yd.load1 Try.isAgg22 rfl (by first | exact Rd.own (k := 0) rfl rfl | exact Rd.own (k := 1) rfl rfl | exact Rd.own (k := 2) rfl rfl | exact Rd.own (k := 3) rfl rfl | exact Rd.own (k := 4) rfl rfl)) rfl ?_
                    refine WH.yd (i := 6) (by kernel_rfl) (fun _ o v c a w _ h => (QuietPanic.blk (QuietPanic.then QuietPanic.body)) c o.dst v a w h) rfl (Yd.lenS rfl Try.underlying22 rfl) rfl ?_
                    refine WH.yd (i := 7) (by kernel_rfl) (fun _ o v c a w _ h => (QuietPanic.blk (QuietPanic.then QuietPanic.body)) c o.dst v a w h) rfl (Yd.remN (i := b) (j := d.dippers.length) rfl rfl (by omega)) rfl ?_
                    generalize hib : b % d.dippers.length = i
                    have hi : i < d.dippers.length := by rw [← hib]; exact Nat.mod_lt _ (by omega)
                    have hdi := hnum.2.2.2.1 i hi
                    refine WH.yd (i := 8) (by kernel_rfl) (fun _ o v c a w _ h => (QuietPanic.blk (QuietPanic.then QuietPanic.body)) c o.dst v a w h) rfl (Yd.indexS Try.underlying22 Try.sizeOf53 rfl rfl (by omega) (by omega) (by first | exact rfl)) rfl ?_
                    refine WH.yd (i := 9) (by kernel_rfl) (fun _ o v c a w _ h => (QuietPanic.blk (QuietPanic.then QuietPanic.body)) c o.dst v a w h) rfl (Yd.fieldAddr FA53_1 rfl) rfl ?_
                    refine WH.yd (i := 11) (by kernel_rfl) (fun _ o v c a w _ h => (QuietPanic.blk (QuietPanic.then QuietPanic.body)) c o.dst v a w h) rfl (Yd.move rfl) rfl ?_
                    refine WH.yd (i := 12) (by kernel_rfl) (fun _ o v c a w _ h => (QuietPanic.blk (QuietPanic.then QuietPanic.body)) c o.dst v a w h) rfl (Yd.conv Try.underlying5 Try.underlying3 rfl (wr64 ⟨by omega, by omega⟩)) rfl ?_
                    refine WH.yd (i := 13) (by kernel_rfl) (fun _ o v c a w _ h => (QuietPanic.blk (QuietPanic.then QuietPanic.body)) c o.dst v a w h) rfl (Yd.quoN (i := b) (j := 4) rfl rfl (by omega) (by omega)) rfl ?_
                    refine WH.yd (i := 14) (by kernel_rfl) (fun _ o v c a w _ h => (QuietPanic.blk (QuietPanic.then QuietPanic.body)) c o.dst v a w h) rfl (Yd.move rfl) rfl ?_
                    refine WH.yd (i := 15) (by kernel_rfl) (fun _ o v c a w _ h => (QuietPanic.blk (QuietPanic.then QuietPanic.body)) c o.dst v a w h) rfl (Yd.andM (n := d.hours.toNat) (by omega) (by omega) rfl rfl) rfl ?_
                    refine WH.one (i := 10) (by kernel_rfl) (WHo.yd rfl (Yd.load1 Try.isAgg3 rfl (Rd.flat dipperC_len (k := 1) (l := d.dippers) (i := i) (j := 2) rfl hi (by decide) rfl)) rfl ?_)
                    refine WH.yd (i := 16) (by kernel_rfl) (fun _ o v c a w _ h => (QuietPanic.blk (QuietPanic.then QuietPanic.body)) c o.dst v a w h) rfl (Yd.orI (by omega) (by omega) (by omega) rfl rfl) rfl ?_
                    refine WH.yd (i := 17) (by kernel_rfl) (fun _ o v c a w _ h => (QuietPanic.blk (QuietPanic.then QuietPanic.body)) c o.dst v a w h) rfl (Yd.indexS Try.underlying22 Try.sizeOf53 rfl rfl (by omega) (by omega) (by first | exact rfl)) rfl ?_
                    refine WH.yd (i := 18) (by kernel_rfl) (fun _ o v c a w _ h => (QuietPanic.blk (QuietPanic.then QuietPanic.body)) c o.dst v a w h) rfl (Yd.fieldAddr FA53_1 rfl) rfl ?_
                    refine WH.one (i := 19) (by kernel_rfl) (WHo.so rfl (SO.storeFlat dipperC_len (l := d.dippers) (rest := u1.rest) (i := i) (j := 2) (y := (⟨(gt d.dippers i).hands, orI (gt d.dippers i).hours (b / 4 % 2 ^ d.hours.toNat)⟩ : Dipper)) 1 rfl Try.sizeOf3 rfl rfl rfl hi (by decide) rfl (splice_flat dipperC_len (by decide) _ _ _ hi rfl)) rfl ?_)
                    rintro _ _ _ ⟨rfl, rfl, rfl⟩
                    refine ⟨(fun _ hI => hI.drop 2), ?_⟩
                    refine WH.nil (by kernel_rfl) ?_
                    refine WP.blkNormal ?_
                    exact WP.join ((⟨d.hours, d.dippers.set i (⟨(gt d.dippers i).hands, orI (gt d.dippers i).hours (b / 4 % 2 ^ d.hours.toNat)⟩ : Dipper), d.bathers⟩, u1, u2, d.dippers.length, d.bathers.length, ((d.dippers.set i (⟨(gt d.dippers i).hands, orI (gt d.dippers i).hours (b / 4 % 2 ^ d.hours.toNat)⟩ : Dipper)).flatMap dipperC), (d.bathers.flatMap batherC)) : Dips × Ow × Ow × Nat × Nat × List Value × List Value) ⟨bet_dip d i _ (Int.le_refl _) (Int.le_refl _) (fun h hh => orI_has (by omega) _ h hh), hu1, hu2, by simp, rfl, rfl, rfl, by simp; try omega⟩ (fun aa ww h => at_fr h ⟨rfl, rfl, rfl, trivial⟩)
                  · try simp only [zq1, zq2, zq3, zq4, zq5, zq6, zq7, zq8] at c112
                    refine WC.seq ?_
                    refine WC.ofFr [(10, _), (2, _), (3, _), (4, _), (9, _)] ⟨rfl, rfl, rfl, rfl, rfl, trivial⟩ ?_
                    refine WC.region ?_
                    refine WL.yd (Yd.move rfl) rfl ?_
                    refine WL.yd (Yd.rem rfl rfl (by omega) (by omega)) rfl ?_
                    refine WL.yd (Yd.eql rfl rfl) rfl ?_
                    refine WL.yd (Yd.move rfl) rfl ?_
                    refine WL.part 145 rfl (fun g145 => ?_) (fun g145 => ?_)
                    · try simp only [zq1, zq2, zq3, zq4, zq5, zq6, zq7, zq8] at g145
                      refine WL.ydg rfl (Yd.fieldAddr FA25_2 rfl) rfl ?_
                      refine WL.ydg rfl (Yd.load1 Try.isAgg23 rfl (by first | exact Rd.own (k := 0) rfl rfl | exact Rd.own (k := 1) rfl rfl | exact Rd.own (k := 2) rfl rfl | exact Rd.own (k := 3) rfl rfl | exact Rd.own (k := 4) rfl rfl)) rfl ?_
                      refine WL.ydg rfl (Yd.lenS rfl Try.underlying23 rfl) rfl ?_
                      refine WL.ydg rfl (Yd.gtr rfl rfl) rfl ?_
                      refine WL.yd (Yd.pickT rfl rfl) rfl ?_
                      refine WL.yd (Yd.assign rfl) rfl ?_
                      refine WL.nil ?_
                      refine WP.thenC ?_
                      refine WC.cond rfl (fun c141 => ?_) (fun c141 => ?_)
                      · try simp only [zq1, zq2, zq3, zq4, zq5, zq6, zq7, zq8] at c141
                        refine WC.seq ?_
                        refine WC.ofFr [(3, _), (4, _), (9, _)] ⟨rfl, rfl, rfl, trivial⟩ ?_
                        refine WC.tail 8 [0, 1, 2, 3, 4, 5, 6, 7] rfl (by kernel_rfl) (by kernel_rfl)  ?_
                        refine WQ.q rfl (Yd.qt (Yd.fieldAddr FA25_2 rfl)) rfl ?_
                        refine WQ.q rfl (Yd.qt (Yd.load1 Try.isAgg23 rfl (by first | exact Rd.own (k := 0) rfl rfl | exact Rd.own (k := 1) rfl rfl | exact Rd.own (k := 2) rfl rfl | exact Rd.own (k := 3) rfl rfl | exact Rd.own (k := 4) rfl rfl))) rfl ?_
                        refine WQ.q rfl (Yd.qt (Yd.move rfl)) rfl ?_
                        refine WQ.q rfl (Yd.qt (Yd.conv Try.underlying5 Try.underlying3 rfl (wr64 ⟨by omega, by omega⟩))) rfl ?_
                        refine WQ.q rfl (Yd.qt (Yd.fieldAddr FA25_2 rfl)) rfl ?_
                        refine WQ.q rfl (Yd.qt (Yd.load1 Try.isAgg23 rfl (by first | exact Rd.own (k := 0) rfl rfl | exact Rd.own (k := 1) rfl rfl | exact Rd.own (k := 2) rfl rfl | exact Rd.own (k := 3) rfl rfl | exact Rd.own (k := 4) rfl rfl))) rfl ?_
                        refine WQ.q rfl (Yd.qt (Yd.lenS rfl Try.underlying23 rfl)) rfl ?_
                        refine WQ.q rfl (Yd.qt (Yd.remN (i := b) (j := d.bathers.length) rfl rfl (by omega))) rfl ?_
                        refine WQ.tail ?_
                        generalize hib : b % d.bathers.length = i
                        have hi : i < d.bathers.length := by rw [← hib]; exact Nat.mod_lt _ (by omega)
                        have hdi := hnum.2.2.2.2 i hi
                        refine WL.yd (Yd.indexS Try.underlying23 Try.sizeOf55 rfl rfl (by omega) (by omega) (by first | exact rfl)) rfl ?_
                        refine WL.yd (Yd.fieldAddr FA55_0 rfl) rfl ?_
                        refine WL.yd (Yd.assign rfl) rfl ?_
                        refine WL.nil ?_
                        refine WP.thenC ?_
                        refine WC.seq ?_
                        refine WC.ofFr [(12, _), (3, _), (4, _), (9, _)] ⟨rfl, rfl, rfl, rfl, trivial⟩ ?_
                        refine WC.region ?_
                        refine WL.yd (Yd.move rfl) rfl ?_
                        refine WL.yd (Yd.move rfl) rfl ?_
                        refine WL.yd (Yd.nilCheck rfl) rfl ?_
                        refine WL.yd (Yd.fieldAddr FA35_0 rfl) rfl ?_
                        refine WL.yd (Yd.load1 Try.isAgg3 rfl (Rd.flat batherC_len (k := 0) (l := d.bathers) (i := i) (j := 0) rfl hi (by decide) rfl)) rfl ?_
                        refine WL.yd (Yd.sub rfl rfl (wr64 ⟨by omega, by omega⟩)) rfl ?_
                        refine WL.yd (Yd.max2 rfl rfl) rfl ?_
                        refine WL.yd (Yd.nilCheck rfl) rfl ?_
                        refine WL.yd (Yd.fieldAddr FA35_0 rfl) rfl ?_
                        refine WL.so (SO.storeFlat batherC_len (l := d.bathers) (rest := u2.rest) (i := i) (j := 0) (y := (⟨⟨max 1 ((gt d.bathers i).needs.lo - 1), (gt d.bathers i).needs.hi⟩, (gt d.bathers i).hours⟩ : Bather)) 0 rfl Try.sizeOf3 rfl rfl rfl hi (by decide) rfl (splice_flat batherC_len (by decide) _ _ _ hi rfl)) rfl ?_
                        rintro _ _ _ ⟨rfl, rfl, rfl⟩
                        refine WL.nil ?_
                        refine WP.thenC ?_
                        refine WC.ofFr [(12, _), (3, _), (4, _), (9, _)] ⟨rfl, rfl, rfl, rfl, trivial⟩ ?_
                        refine WC.drawH [_, _, _] (by kernel_rfl) (fun _ hI => hI.drop 2) ?_
                        refine WH.yd (i := 0) (by kernel_rfl) (fun _ o v c a w _ h => (QuietPanic.blk (QuietPanic.then QuietPanic.body)) c o.dst v a w h) rfl (Yd.move rfl) rfl ?_
                        refine WH.yd (i := 1) (by kernel_rfl) (fun _ o v c a w _ h => (QuietPanic.blk (QuietPanic.then QuietPanic.body)) c o.dst v a w h) rfl (Yd.move rfl) rfl ?_
                        refine WH.yd (i := 2) (by kernel_rfl) (fun _ o v c a w _ h => (QuietPanic.blk (QuietPanic.then QuietPanic.body)) c o.dst v a w h) rfl (Yd.nilCheck rfl) rfl ?_
                        refine WH.yd (i := 3) (by kernel_rfl) (fun _ o v c a w _ h => (QuietPanic.blk (QuietPanic.then QuietPanic.body)) c o.dst v a w h) rfl (Yd.fieldAddr FA35_0 rfl) rfl ?_
                        refine WH.yd (i := 5) (by kernel_rfl) (fun _ o v c a w _ h => (QuietPanic.blk (QuietPanic.then QuietPanic.body)) c o.dst v a w h) rfl (Yd.move rfl) rfl ?_
                        refine WH.yd (i := 6) (by kernel_rfl) (fun _ o v c a w _ h => (QuietPanic.blk (QuietPanic.then QuietPanic.body)) c o.dst v a w h) rfl (Yd.nilCheck rfl) rfl ?_
                        refine WH.yd (i := 7) (by kernel_rfl) (fun _ o v c a w _ h => (QuietPanic.blk (QuietPanic.then QuietPanic.body)) c o.dst v a w h) rfl (Yd.fieldAddr FA35_1 rfl) rfl ?_
                        refine WH.two (i := 4) (j := 8) (by kernel_rfl) ?_ ?_
                        · refine WHo.yd rfl (Yd.load1 Try.isAgg3 rfl (Rd.flatSet batherC_len (k := 0) (l := d.bathers) (y := (⟨⟨max 1 ((gt d.bathers i).needs.lo - 1), (gt d.bathers i).needs.hi⟩, (gt d.bathers i).hours⟩ : Bather)) (i := i) (j := 0) rfl hi (by decide) rfl)) rfl ?_
                          refine WH.one (i := 8) (by kernel_rfl) (WHo.yd rfl (Yd.load1 Try.isAgg3 rfl (Rd.flatSet batherC_len (k := 0) (l := d.bathers) (y := (⟨⟨max 1 ((gt d.bathers i).needs.lo - 1), (gt d.bathers i).needs.hi⟩, (gt d.bathers i).hours⟩ : Bather)) (i := i) (j := 1) rfl hi (by decide) rfl)) rfl ?_)
                          refine WH.yd (i := 9) (by kernel_rfl) (fun _ o v c a w _ h => (QuietPanic.blk (QuietPanic.then QuietPanic.body)) c o.dst v a w h) rfl (Yd.sub rfl rfl (wr64 ⟨by (try dsimp only); omega, by (try dsimp only); omega⟩)) rfl ?_
                          refine WH.yd (i := 10) (by kernel_rfl) (fun _ o v c a w _ h => (QuietPanic.blk (QuietPanic.then QuietPanic.body)) c o.dst v a w h) rfl (Yd.max2 rfl rfl) rfl ?_
                          refine WH.yd (i := 11) (by kernel_rfl) (fun _ o v c a w _ h => (QuietPanic.blk (QuietPanic.then QuietPanic.body)) c o.dst v a w h) rfl (Yd.nilCheck rfl) rfl ?_
                          refine WH.yd (i := 12) (by kernel_rfl) (fun _ o v c a w _ h => (QuietPanic.blk (QuietPanic.then QuietPanic.body)) c o.dst v a w h) rfl (Yd.fieldAddr FA35_1 rfl) rfl ?_
                          refine WH.one (i := 13) (by kernel_rfl) (WHo.so rfl (SO.storeFlat batherC_len (l := d.bathers.set i (⟨⟨max 1 ((gt d.bathers i).needs.lo - 1), (gt d.bathers i).needs.hi⟩, (gt d.bathers i).hours⟩ : Bather)) (rest := u2.rest) (i := i) (j := 1) (y := (⟨⟨max 1 ((gt d.bathers i).needs.lo - 1), max (max 1 ((gt d.bathers i).needs.lo - 1)) ((gt d.bathers i).needs.hi - 1)⟩, (gt d.bathers i).hours⟩ : Bather)) 0 rfl Try.sizeOf3 rfl rfl rfl (by rw [List.length_set]; exact hi) (by decide) rfl (splice_flat batherC_len (by decide) _ _ _ (by rw [List.length_set]; exact hi) (by rw [gt_setQ _ _ _ _ hi, if_pos rfl]; rfl))) rfl ?_)
                          rintro _ _ _ ⟨rfl, rfl, rfl⟩
                          refine ⟨(fun _ hI => hI.drop 2), ?_⟩
                          refine WH.nil (by kernel_rfl) ?_
                          refine WP.blkNormal ?_
                          exact WP.join ((⟨d.hours, d.dippers, d.bathers.set i (⟨⟨max 1 ((gt d.bathers i).needs.lo - 1), max (max 1 ((gt d.bathers i).needs.lo - 1)) ((gt d.bathers i).needs.hi - 1)⟩, (gt d.bathers i).hours⟩ : Bather)⟩, u1, u2, d.dippers.length, d.bathers.length, (d.dippers.flatMap dipperC), (((d.bathers.set i (⟨⟨max 1 ((gt d.bathers i).needs.lo - 1), (gt d.bathers i).needs.hi⟩, (gt d.bathers i).hours⟩ : Bather)).set i (⟨⟨max 1 ((gt d.bathers i).needs.lo - 1), max (max 1 ((gt d.bathers i).needs.lo - 1)) ((gt d.bathers i).needs.hi - 1)⟩, (gt d.bathers i).hours⟩ : Bather)).flatMap batherC)) : Dips × Ow × Ow × Nat × Nat × List Value × List Value) ⟨bet_bath d i _ (by show max 1 (_ - 1) ≤ _; omega) (by show max (max 1 (_ - 1)) (_ - 1) ≤ _; omega) (fun _ h => h), hu1, hu2, rfl, by simp, rfl, by rw [List.set_set], by simp; try omega⟩ (fun aa ww h => at_fr h ⟨rfl, rfl, rfl, trivial⟩)
                        · refine WHo.yd rfl (Yd.load1 Try.isAgg3 rfl (Rd.flatSet batherC_len (k := 0) (l := d.bathers) (y := (⟨⟨max 1 ((gt d.bathers i).needs.lo - 1), (gt d.bathers i).needs.hi⟩, (gt d.bathers i).hours⟩ : Bather)) (i := i) (j := 1) rfl hi (by decide) rfl)) rfl ?_
                          refine WH.yd (i := 9) (by kernel_rfl) (fun _ o v c a w _ h => (QuietPanic.blk (QuietPanic.then QuietPanic.body)) c o.dst v a w h) rfl (Yd.sub rfl rfl (wr64 ⟨by (try dsimp only); omega, by (try dsimp only); omega⟩)) rfl ?_
                          refine WH.one (i := 4) (by kernel_rfl) (WHo.yd rfl (Yd.load1 Try.isAgg3 rfl (Rd.flatSet batherC_len (k := 0) (l := d.bathers) (y := (⟨⟨max 1 ((gt d.bathers i).needs.lo - 1), (gt d.bathers i).needs.hi⟩, (gt d.bathers i).hours⟩ : Bather)) (i := i) (j := 0) rfl hi (by decide) rfl)) rfl ?_)
                          refine WH.yd (i := 10) (by kernel_rfl) (fun _ o v c a w _ h => (QuietPanic.blk (QuietPanic.then QuietPanic.body)) c o.dst v a w h) rfl (Yd.max2 rfl rfl) rfl ?_
                          refine WH.yd (i := 11) (by kernel_rfl) (fun _ o v c a w _ h => (QuietPanic.blk (QuietPanic.then QuietPanic.body)) c o.dst v a w h) rfl (Yd.nilCheck rfl) rfl ?_
                          refine WH.yd (i := 12) (by kernel_rfl) (fun _ o v c a w _ h => (QuietPanic.blk (QuietPanic.then QuietPanic.body)) c o.dst v a w h) rfl (Yd.fieldAddr FA35_1 rfl) rfl ?_
                          refine WH.one (i := 13) (by kernel_rfl) (WHo.so rfl (SO.storeFlat batherC_len (l := d.bathers.set i (⟨⟨max 1 ((gt d.bathers i).needs.lo - 1), (gt d.bathers i).needs.hi⟩, (gt d.bathers i).hours⟩ : Bather)) (rest := u2.rest) (i := i) (j := 1) (y := (⟨⟨max 1 ((gt d.bathers i).needs.lo - 1), max (max 1 ((gt d.bathers i).needs.lo - 1)) ((gt d.bathers i).needs.hi - 1)⟩, (gt d.bathers i).hours⟩ : Bather)) 0 rfl Try.sizeOf3 rfl rfl rfl (by rw [List.length_set]; exact hi) (by decide) rfl (splice_flat batherC_len (by decide) _ _ _ (by rw [List.length_set]; exact hi) (by rw [gt_setQ _ _ _ _ hi, if_pos rfl]; rfl))) rfl ?_)
                          rintro _ _ _ ⟨rfl, rfl, rfl⟩
                          refine ⟨(fun _ hI => hI.drop 2), ?_⟩
                          refine WH.nil (by kernel_rfl) ?_
                          refine WP.blkNormal ?_
                          exact WP.join ((⟨d.hours, d.dippers, d.bathers.set i (⟨⟨max 1 ((gt d.bathers i).needs.lo - 1), max (max 1 ((gt d.bathers i).needs.lo - 1)) ((gt d.bathers i).needs.hi - 1)⟩, (gt d.bathers i).hours⟩ : Bather)⟩, u1, u2, d.dippers.length, d.bathers.length, (d.dippers.flatMap dipperC), (((d.bathers.set i (⟨⟨max 1 ((gt d.bathers i).needs.lo - 1), (gt d.bathers i).needs.hi⟩, (gt d.bathers i).hours⟩ : Bather)).set i (⟨⟨max 1 ((gt d.bathers i).needs.lo - 1), max (max 1 ((gt d.bathers i).needs.lo - 1)) ((gt d.bathers i).needs.hi - 1)⟩, (gt d.bathers i).hours⟩ : Bather)).flatMap batherC)) : Dips × Ow × Ow × Nat × Nat × List Value × List Value) ⟨bet_bath d i _ (by show max 1 (_ - 1) ≤ _; omega) (by show max (max 1 (_ - 1)) (_ - 1) ≤ _; omega) (fun _ h => h), hu1, hu2, rfl, by simp, rfl, by rw [List.set_set], by simp; try omega⟩ (fun aa ww h => at_fr h ⟨rfl, rfl, rfl, trivial⟩)
                      · try simp only [zq1, zq2, zq3, zq4, zq5, zq6, zq7, zq8] at c141
                        refine WC.seq ?_
                        refine WC.ofFr [(10, _), (3, _), (4, _), (9, _)] ⟨rfl, rfl, rfl, rfl, trivial⟩ ?_
                        refine WC.region ?_
                        refine WL.yd (Yd.fieldAddr FA25_2 rfl) rfl ?_
                        refine WL.yd (Yd.load1 Try.isAgg23 rfl (by first | exact Rd.own (k := 0) rfl rfl | exact Rd.own (k := 1) rfl rfl | exact Rd.own (k := 2) rfl rfl | exact Rd.own (k := 3) rfl rfl | exact Rd.own (k := 4) rfl rfl)) rfl ?_
                        refine WL.yd (Yd.lenS rfl Try.underlying23 rfl) rfl ?_
                        refine WL.yd (Yd.gtr rfl rfl) rfl ?_
                        refine WL.yd (Yd.assign rfl) rfl ?_
                        refine WL.nil ?_
                        refine WP.thenC ?_
                        refine WC.cond rfl (fun c183 => ?_) (fun c183 => ?_)
                        · try simp only [zq1, zq2, zq3, zq4, zq5, zq6, zq7, zq8] at c183
                          refine WC.ofFr [(10, _), (3, _), (4, _), (9, _)] ⟨rfl, rfl, rfl, rfl, trivial⟩ ?_
                          refine WC.drawH [_, _, _] (by kernel_rfl) (fun _ hI => hI.drop 2) ?_
                          refine WH.yd (i := 0) (by kernel_rfl) (fun _ o v c a w _ h => (QuietPanic.blk (QuietPanic.then QuietPanic.body)) c o.dst v a w h) rfl (Yd.fieldAddr FA25_2 rfl) rfl ?_
                          refine WH.yd (i := 1) (by kernel_rfl) (fun _ o v c a w _ h => (QuietPanic.blk (QuietPanic.then QuietPanic.body)) c o.dst v a w h) rfl (Yd.load1 Try.isAgg23 rfl (by first | exact Rd.own (k := 0) rfl rfl | exact Rd.own (k := 1) rfl rfl | exact Rd.own (k := 2) rfl rfl | exact Rd.own (k := 3) rfl rfl | exact Rd.own (k := 4) rfl rfl)) rfl ?_
                          refine WH.yd (i := 2) (by kernel_rfl) (fun _ o v c a w _ h => (QuietPanic.blk (QuietPanic.then QuietPanic.body)) c o.dst v a w h) rfl (Yd.move rfl) rfl ?_
                          refine WH.yd (i := 3) (by kernel_rfl) (fun _ o v c a w _ h => (QuietPanic.blk (QuietPanic.then QuietPanic.body)) c o.dst v a w h) rfl (Yd.conv Try.underlying5 Try.underlying3 rfl (wr64 ⟨by omega, by omega⟩)) rfl ?_
                          refine WH.yd (i := 4) (by kernel_rfl) (fun _ o v c a w _ h => (QuietPanic.blk (QuietPanic.then QuietPanic.body)) c o.dst v a w h) rfl (Yd.fieldAddr FA25_2 rfl) rfl ?_
                          refine WH.yd (i := 5) (by kernel_rfl) (fun _ o v c a w _ h => (QuietPanic.blk (QuietPanic.then QuietPanic.body)) c o.dst v a w h) rfl (Yd.load1 Try.isAgg23 rfl (by first | exact Rd.own (k := 0) rfl rfl | exact Rd.own (k := 1) rfl rfl | exact Rd.own (k := 2) rfl rfl | exact Rd.own (k := 3) rfl rfl | exact Rd.own (k := 4) rfl rfl)) rfl ?_
                          refine WH.yd (i := 6) (by kernel_rfl) (fun _ o v c a w _ h => (QuietPanic.blk (QuietPanic.then QuietPanic.body)) c o.dst v a w h) rfl (Yd.lenS rfl Try.underlying23 rfl) rfl ?_
                          refine WH.yd (i := 7) (by kernel_rfl) (fun _ o v c a w _ h => (QuietPanic.blk (QuietPanic.then QuietPanic.body)) c o.dst v a w h) rfl (Yd.remN (i := b) (j := d.bathers.length) rfl rfl (by omega)) rfl ?_
                          generalize hib : b % d.bathers.length = i
                          have hi : i < d.bathers.length := by rw [← hib]; exact Nat.mod_lt _ (by omega)
                          have hdi := hnum.2.2.2.2 i hi
                          refine WH.yd (i := 8) (by kernel_rfl) (fun _ o v c a w _ h => (QuietPanic.blk (QuietPanic.then QuietPanic.body)) c o.dst v a w h) rfl (Yd.indexS Try.underlying23 Try.sizeOf55 rfl rfl (by omega) (by omega) (by first | exact rfl)) rfl ?_
                          refine WH.yd (i := 9) (by kernel_rfl) (fun _ o v c a w _ h => (QuietPanic.blk (QuietPanic.then QuietPanic.body)) c o.dst v a w h) rfl (Yd.fieldAddr FA55_1 rfl) rfl ?_
                          refine WH.yd (i := 11) (by kernel_rfl) (fun _ o v c a w _ h => (QuietPanic.blk (QuietPanic.then QuietPanic.body)) c o.dst v a w h) rfl (Yd.move rfl) rfl ?_
                          refine WH.yd (i := 12) (by kernel_rfl) (fun _ o v c a w _ h => (QuietPanic.blk (QuietPanic.then QuietPanic.body)) c o.dst v a w h) rfl (Yd.conv Try.underlying5 Try.underlying3 rfl (wr64 ⟨by omega, by omega⟩)) rfl ?_
                          refine WH.yd (i := 13) (by kernel_rfl) (fun _ o v c a w _ h => (QuietPanic.blk (QuietPanic.then QuietPanic.body)) c o.dst v a w h) rfl (Yd.quoN (i := b) (j := 8) rfl rfl (by omega) (by omega)) rfl ?_
                          refine WH.yd (i := 14) (by kernel_rfl) (fun _ o v c a w _ h => (QuietPanic.blk (QuietPanic.then QuietPanic.body)) c o.dst v a w h) rfl (Yd.move rfl) rfl ?_
                          refine WH.yd (i := 15) (by kernel_rfl) (fun _ o v c a w _ h => (QuietPanic.blk (QuietPanic.then QuietPanic.body)) c o.dst v a w h) rfl (Yd.andM (n := d.hours.toNat) (by omega) (by omega) rfl rfl) rfl ?_
                          refine WH.one (i := 10) (by kernel_rfl) (WHo.yd rfl (Yd.load1 Try.isAgg3 rfl (Rd.flat batherC_len (k := 0) (l := d.bathers) (i := i) (j := 2) rfl hi (by decide) rfl)) rfl ?_)
                          refine WH.yd (i := 16) (by kernel_rfl) (fun _ o v c a w _ h => (QuietPanic.blk (QuietPanic.then QuietPanic.body)) c o.dst v a w h) rfl (Yd.orI (by omega) (by omega) (by omega) rfl rfl) rfl ?_
                          refine WH.yd (i := 17) (by kernel_rfl) (fun _ o v c a w _ h => (QuietPanic.blk (QuietPanic.then QuietPanic.body)) c o.dst v a w h) rfl (Yd.indexS Try.underlying23 Try.sizeOf55 rfl rfl (by omega) (by omega) (by first | exact rfl)) rfl ?_
                          refine WH.yd (i := 18) (by kernel_rfl) (fun _ o v c a w _ h => (QuietPanic.blk (QuietPanic.then QuietPanic.body)) c o.dst v a w h) rfl (Yd.fieldAddr FA55_1 rfl) rfl ?_
                          refine WH.one (i := 19) (by kernel_rfl) (WHo.so rfl (SO.storeFlat batherC_len (l := d.bathers) (rest := u2.rest) (i := i) (j := 2) (y := (⟨(gt d.bathers i).needs, orI (gt d.bathers i).hours (b / 8 % 2 ^ d.hours.toNat)⟩ : Bather)) 0 rfl Try.sizeOf3 rfl rfl rfl hi (by decide) rfl (splice_flat batherC_len (by decide) _ _ _ hi rfl)) rfl ?_)
                          rintro _ _ _ ⟨rfl, rfl, rfl⟩
                          refine ⟨(fun _ hI => hI.drop 2), ?_⟩
                          refine WH.nil (by kernel_rfl) ?_
                          refine WP.blkNormal ?_
                          exact WP.join ((⟨d.hours, d.dippers, d.bathers.set i (⟨(gt d.bathers i).needs, orI (gt d.bathers i).hours (b / 8 % 2 ^ d.hours.toNat)⟩ : Bather)⟩, u1, u2, d.dippers.length, d.bathers.length, (d.dippers.flatMap dipperC), ((d.bathers.set i (⟨(gt d.bathers i).needs, orI (gt d.bathers i).hours (b / 8 % 2 ^ d.hours.toNat)⟩ : Bather)).flatMap batherC)) : Dips × Ow × Ow × Nat × Nat × List Value × List Value) ⟨bet_bath d i _ (Int.le_refl _) (Int.le_refl _) (fun h hh => orI_has (by omega) _ h hh), hu1, hu2, rfl, by simp, rfl, rfl, by simp; try omega⟩ (fun aa ww h => at_fr h ⟨rfl, rfl, rfl, trivial⟩)
                        · try simp only [zq1, zq2, zq3, zq4, zq5, zq6, zq7, zq8] at c183
                          refine WC.skip ?_
                          refine WP.blkNormal ?_
                          exact WP.join ((⟨d.hours, d.dippers, d.bathers⟩, u1, u2, d.dippers.length, d.bathers.length, (d.dippers.flatMap dipperC), (d.bathers.flatMap batherC)) : Dips × Ow × Ow × Nat × Nat × List Value × List Value) ⟨bet_refl d, hu1, hu2, rfl, rfl, rfl, rfl, by simp; try omega⟩ (fun aa ww h => at_fr h ⟨rfl, rfl, rfl, trivial⟩)
                    · try simp only [zq1, zq2, zq3, zq4, zq5, zq6, zq7, zq8] at g145
                      refine WL.skip rfl rfl ?_
                      refine WL.skip rfl rfl ?_
                      refine WL.skip rfl rfl ?_
                      refine WL.skip rfl rfl ?_
                      refine WL.yd (Yd.pickF rfl rfl) rfl ?_
                      refine WL.yd (Yd.assign rfl) rfl ?_
                      refine WL.nil ?_
                      refine WP.thenC ?_
                      refine WC.condF rfl ?_
                      refine WC.seq ?_
                      refine WC.ofFr [(10, _), (3, _), (4, _), (9, _)] ⟨rfl, rfl, rfl, rfl, trivial⟩ ?_
                      refine WC.region ?_
                      refine WL.yd (Yd.fieldAddr FA25_2 rfl) rfl ?_
                      refine WL.yd (Yd.load1 Try.isAgg23 rfl (by first | exact Rd.own (k := 0) rfl rfl | exact Rd.own (k := 1) rfl rfl | exact Rd.own (k := 2) rfl rfl | exact Rd.own (k := 3) rfl rfl | exact Rd.own (k := 4) rfl rfl)) rfl ?_
                      refine WL.yd (Yd.lenS rfl Try.underlying23 rfl) rfl ?_
                      refine WL.yd (Yd.gtr rfl rfl) rfl ?_
                      refine WL.yd (Yd.assign rfl) rfl ?_
                      refine WL.nil ?_
                      refine WP.thenC ?_
                      refine WC.cond rfl (fun c183 => ?_) (fun c183 => ?_)
                      · try simp only [zq1, zq2, zq3, zq4, zq5, zq6, zq7, zq8] at c183
                        refine WC.ofFr [(10, _), (3, _), (4, _), (9, _)] ⟨rfl, rfl, rfl, rfl, trivial⟩ ?_
                        refine WC.drawH [_, _, _] (by kernel_rfl) (fun _ hI => hI.drop 2) ?_
                        refine WH.yd (i := 0) (by kernel_rfl) (fun _ o v c a w _ h => (QuietPanic.blk (QuietPanic.then QuietPanic.body)) c o.dst v a w h) rfl (Yd.fieldAddr FA25_2 rfl) rfl ?_
                        refine WH.yd (i := 1) (by kernel_rfl) (fun _ o v c a w _ h => (QuietPanic.blk (QuietPanic.then QuietPanic.body)) c o.dst v a w h) rfl (Yd.load1 Try.isAgg23 rfl (by first | exact Rd.own (k := 0) rfl rfl | exact Rd.own (k := 1) rfl rfl | exact Rd.own (k := 2) rfl rfl | exact Rd.own (k := 3) rfl rfl | exact Rd.own (k := 4) rfl rfl)) rfl ?_
                        refine WH.yd (i := 2) (by kernel_rfl) (fun _ o v c a w _ h => (QuietPanic.blk (QuietPanic.then QuietPanic.body)) c o.dst v a w h) rfl (Yd.move rfl) rfl ?_
                        refine WH.yd (i := 3) (by kernel_rfl) (fun _ o v c a w _ h => (QuietPanic.blk (QuietPanic.then QuietPanic.body)) c o.dst v a w h) rfl (Yd.conv Try.underlying5 Try.underlying3 rfl (wr64 ⟨by omega, by omega⟩)) rfl ?_
                        refine WH.yd (i := 4) (by kernel_rfl) (fun _ o v c a w _ h => (QuietPanic.blk (QuietPanic.then QuietPanic.body)) c o.dst v a w h) rfl (Yd.fieldAddr FA25_2 rfl) rfl ?_
                        refine WH.yd (i := 5) (by kernel_rfl) (fun _ o v c a w _ h => (QuietPanic.blk (QuietPanic.then QuietPanic.body)) c o.dst v a w h) rfl (Yd.load1 Try.isAgg23 rfl (by first | exact Rd.own (k := 0) rfl rfl | exact Rd.own (k := 1) rfl rfl | exact Rd.own (k := 2) rfl rfl | exact Rd.own (k := 3) rfl rfl | exact Rd.own (k := 4) rfl rfl)) rfl ?_
                        refine WH.yd (i := 6) (by kernel_rfl) (fun _ o v c a w _ h => (QuietPanic.blk (QuietPanic.then QuietPanic.body)) c o.dst v a w h) rfl (Yd.lenS rfl Try.underlying23 rfl) rfl ?_
                        refine WH.yd (i := 7) (by kernel_rfl) (fun _ o v c a w _ h => (QuietPanic.blk (QuietPanic.then QuietPanic.body)) c o.dst v a w h) rfl (Yd.remN (i := b) (j := d.bathers.length) rfl rfl (by omega)) rfl ?_
                        generalize hib : b % d.bathers.length = i
                        have hi : i < d.bathers.length := by rw [← hib]; exact Nat.mod_lt _ (by omega)
                        have hdi := hnum.2.2.2.2 i hi
                        refine WH.yd (i := 8) (by kernel_rfl) (fun _ o v c a w _ h => (QuietPanic.blk (QuietPanic.then QuietPanic.body)) c o.dst v a w h) rfl (Yd.indexS Try.underlying23 Try.sizeOf55 rfl rfl (by omega) (by omega) (by first | exact rfl)) rfl ?_
                        refine WH.yd (i := 9) (by kernel_rfl) (fun _ o v c a w _ h => (QuietPanic.blk (QuietPanic.then QuietPanic.body)) c o.dst v a w h) rfl (Yd.fieldAddr FA55_1 rfl) rfl ?_
                        refine WH.yd (i := 11) (by kernel_rfl) (fun _ o v c a w _ h => (QuietPanic.blk (QuietPanic.then QuietPanic.body)) c o.dst v a w h) rfl (Yd.move rfl) rfl ?_
                        refine WH.yd (i := 12) (by kernel_rfl) (fun _ o v c a w _ h => (QuietPanic.blk (QuietPanic.then QuietPanic.body)) c o.dst v a w h) rfl (Yd.conv Try.underlying5 Try.underlying3 rfl (wr64 ⟨by omega, by omega⟩)) rfl ?_
                        refine WH.yd (i := 13) (by kernel_rfl) (fun _ o v c a w _ h => (QuietPanic.blk (QuietPanic.then QuietPanic.body)) c o.dst v a w h) rfl (Yd.quoN (i := b) (j := 8) rfl rfl (by omega) (by omega)) rfl ?_
                        refine WH.yd (i := 14) (by kernel_rfl) (fun _ o v c a w _ h => (QuietPanic.blk (QuietPanic.then QuietPanic.body)) c o.dst v a w h) rfl (Yd.move rfl) rfl ?_
                        refine WH.yd (i := 15) (by kernel_rfl) (fun _ o v c a w _ h => (QuietPanic.blk (QuietPanic.then QuietPanic.body)) c o.dst v a w h) rfl (Yd.andM (n := d.hours.toNat) (by omega) (by omega) rfl rfl) rfl ?_
                        refine WH.one (i := 10) (by kernel_rfl) (WHo.yd rfl (Yd.load1 Try.isAgg3 rfl (Rd.flat batherC_len (k := 0) (l := d.bathers) (i := i) (j := 2) rfl hi (by decide) rfl)) rfl ?_)
                        refine WH.yd (i := 16) (by kernel_rfl) (fun _ o v c a w _ h => (QuietPanic.blk (QuietPanic.then QuietPanic.body)) c o.dst v a w h) rfl (Yd.orI (by omega) (by omega) (by omega) rfl rfl) rfl ?_
                        refine WH.yd (i := 17) (by kernel_rfl) (fun _ o v c a w _ h => (QuietPanic.blk (QuietPanic.then QuietPanic.body)) c o.dst v a w h) rfl (Yd.indexS Try.underlying23 Try.sizeOf55 rfl rfl (by omega) (by omega) (by first | exact rfl)) rfl ?_
                        refine WH.yd (i := 18) (by kernel_rfl) (fun _ o v c a w _ h => (QuietPanic.blk (QuietPanic.then QuietPanic.body)) c o.dst v a w h) rfl (Yd.fieldAddr FA55_1 rfl) rfl ?_
                        refine WH.one (i := 19) (by kernel_rfl) (WHo.so rfl (SO.storeFlat batherC_len (l := d.bathers) (rest := u2.rest) (i := i) (j := 2) (y := (⟨(gt d.bathers i).needs, orI (gt d.bathers i).hours (b / 8 % 2 ^ d.hours.toNat)⟩ : Bather)) 0 rfl Try.sizeOf3 rfl rfl rfl hi (by decide) rfl (splice_flat batherC_len (by decide) _ _ _ hi rfl)) rfl ?_)
                        rintro _ _ _ ⟨rfl, rfl, rfl⟩
                        refine ⟨(fun _ hI => hI.drop 2), ?_⟩
                        refine WH.nil (by kernel_rfl) ?_
                        refine WP.blkNormal ?_
                        exact WP.join ((⟨d.hours, d.dippers, d.bathers.set i (⟨(gt d.bathers i).needs, orI (gt d.bathers i).hours (b / 8 % 2 ^ d.hours.toNat)⟩ : Bather)⟩, u1, u2, d.dippers.length, d.bathers.length, (d.dippers.flatMap dipperC), ((d.bathers.set i (⟨(gt d.bathers i).needs, orI (gt d.bathers i).hours (b / 8 % 2 ^ d.hours.toNat)⟩ : Bather)).flatMap batherC)) : Dips × Ow × Ow × Nat × Nat × List Value × List Value) ⟨bet_bath d i _ (Int.le_refl _) (Int.le_refl _) (fun h hh => orI_has (by omega) _ h hh), hu1, hu2, rfl, by simp, rfl, rfl, by simp; try omega⟩ (fun aa ww h => at_fr h ⟨rfl, rfl, rfl, trivial⟩)
                      · try simp only [zq1, zq2, zq3, zq4, zq5, zq6, zq7, zq8] at c183
                        refine WC.skip ?_
                        refine WP.blkNormal ?_
                        exact WP.join ((⟨d.hours, d.dippers, d.bathers⟩, u1, u2, d.dippers.length, d.bathers.length, (d.dippers.flatMap dipperC), (d.bathers.flatMap batherC)) : Dips × Ow × Ow × Nat × Nat × List Value × List Value) ⟨bet_refl d, hu1, hu2, rfl, rfl, rfl, rfl, by simp; try omega⟩ (fun aa ww h => at_fr h ⟨rfl, rfl, rfl, trivial⟩)
                · try simp only [zq1, zq2, zq3, zq4, zq5, zq6, zq7, zq8] at g116
                  refine WL.skip rfl rfl ?_
                  refine WL.skip rfl rfl ?_
                  refine WL.skip rfl rfl ?_
                  refine WL.skip rfl rfl ?_
                  refine WL.yd (Yd.pickF rfl rfl) rfl ?_
                  refine WL.yd (Yd.assign rfl) rfl ?_
                  refine WL.nil ?_
                  refine WP.thenC ?_
                  refine WC.condF rfl ?_
                  refine WC.seq ?_
                  refine WC.ofFr [(10, _), (2, _), (3, _), (4, _), (9, _)] ⟨rfl, rfl, rfl, rfl, rfl, trivial⟩ ?_
                  refine WC.region ?_
                  refine WL.yd (Yd.move rfl) rfl ?_
                  refine WL.yd (Yd.rem rfl rfl (by omega) (by omega)) rfl ?_
                  refine WL.yd (Yd.eql rfl rfl) rfl ?_
                  refine WL.yd (Yd.move rfl) rfl ?_
                  refine WL.part 145 rfl (fun g145 => ?_) (fun g145 => ?_)
                  · try simp only [zq1, zq2, zq3, zq4, zq5, zq6, zq7, zq8] at g145
                    refine WL.ydg rfl (Yd.fieldAddr FA25_2 rfl) rfl ?_
                    refine WL.ydg rfl (Yd.load1 Try.isAgg23 rfl (by first | exact Rd.own (k := 0) rfl rfl | exact Rd.own (k := 1) rfl rfl | exact Rd.own (k := 2) rfl rfl | exact Rd.own (k := 3) rfl rfl | exact Rd.own (k := 4) rfl rfl)) rfl ?_
                    refine WL.ydg rfl (Yd.lenS rfl Try.underlying23 rfl) rfl ?_
                    refine WL.ydg rfl (Yd.gtr rfl rfl) rfl ?_
                    refine WL.yd (Yd.pickT rfl rfl) rfl ?_
                    refine WL.yd (Yd.assign rfl) rfl ?_
                    refine WL.nil ?_
                    refine WP.thenC ?_
                    refine WC.cond rfl (fun c141 => ?_) (fun c141 => ?_)
                    · try simp only [zq1, zq2, zq3, zq4, zq5, zq6, zq7, zq8] at c141
                      refine WC.seq ?_
                      refine WC.ofFr [(3, _), (4, _), (9, _)] ⟨rfl, rfl, rfl, trivial⟩ ?_
                      refine WC.tail 8 [0, 1, 2, 3, 4, 5, 6, 7] rfl (by kernel_rfl) (by kernel_rfl)  ?_
                      refine WQ.q rfl (Yd.qt (Yd.fieldAddr FA25_2 rfl)) rfl ?_
                      refine WQ.q rfl (Yd.qt (Yd.load1 Try.isAgg23 rfl (by first | exact Rd.own (k := 0) rfl rfl | exact Rd.own (k := 1) rfl rfl | exact Rd.own (k := 2) rfl rfl | exact Rd.own (k := 3) rfl rfl | exact Rd.own (k := 4) rfl rfl))) rfl ?_
                      refine WQ.q rfl (Yd.qt (Yd.move rfl)) rfl ?_
                      refine WQ.q rfl (Yd.qt (Yd.conv Try.underlying5 Try.underlying3 rfl (wr64 ⟨by omega, by omega⟩))) rfl ?_
                      refine WQ.q rfl (Yd.qt (Yd.fieldAddr FA25_2 rfl)) rfl ?_
                      refine WQ.q rfl (Yd.qt (Yd.load1 Try.isAgg23 rfl (by first | exact Rd.own (k := 0) rfl rfl | exact Rd.own (k := 1) rfl rfl | exact Rd.own (k := 2) rfl rfl | exact Rd.own (k := 3) rfl rfl | exact Rd.own (k := 4) rfl rfl))) rfl ?_
                      refine WQ.q rfl (Yd.qt (Yd.lenS rfl Try.underlying23 rfl)) rfl ?_
                      refine WQ.q rfl (Yd.qt (Yd.remN (i := b) (j := d.bathers.length) rfl rfl (by omega))) rfl ?_
                      refine WQ.tail ?_
                      generalize hib : b % d.bathers.length = i
                      have hi : i < d.bathers.length := by rw [← hib]; exact Nat.mod_lt _ (by omega)
                      have hdi := hnum.2.2.2.2 i hi
                      refine WL.yd (Yd.indexS Try.underlying23 Try.sizeOf55 rfl rfl (by omega) (by omega) (by first | exact rfl)) rfl ?_
                      refine WL.yd (Yd.fieldAddr FA55_0 rfl) rfl ?_
                      refine WL.yd (Yd.assign rfl) rfl ?_
                      refine WL.nil ?_
                      refine WP.thenC ?_
                      refine WC.seq ?_
                      refine WC.ofFr [(12, _), (3, _), (4, _), (9, _)] ⟨rfl, rfl, rfl, rfl, trivial⟩ ?_
                      refine WC.region ?_
                      refine WL.yd (Yd.move rfl) rfl ?_
                      refine WL.yd (Yd.move rfl) rfl ?_
                      refine WL.yd (Yd.nilCheck rfl) rfl ?_
                      refine WL.yd (Yd.fieldAddr FA35_0 rfl) rfl ?_
                      refine WL.yd (Yd.load1 Try.isAgg3 rfl (Rd.flat batherC_len (k := 0) (l := d.bathers) (i := i) (j := 0) rfl hi (by decide) rfl)) rfl ?_
                      refine WL.yd (Yd.sub rfl rfl (wr64 ⟨by omega, by omega⟩)) rfl ?_
                      refine WL.yd (Yd.max2 rfl rfl) rfl ?_
                      refine WL.yd (Yd.nilCheck rfl) rfl ?_
                      refine WL.yd (Yd.fieldAddr FA35_0 rfl) rfl ?_
                      refine WL.so (SO.storeFlat batherC_len (l := d.bathers) (rest := u2.rest) (i := i) (j := 0) (y := (⟨⟨max 1 ((gt d.bathers i).needs.lo - 1), (gt d.bathers i).needs.hi⟩, (gt d.bathers i).hours⟩ : Bather)) 0 rfl Try.sizeOf3 rfl rfl rfl hi (by decide) rfl (splice_flat batherC_len (by decide) _ _ _ hi rfl)) rfl ?_
                      rintro _ _ _ ⟨rfl, rfl, rfl⟩
                      refine WL.nil ?_
                      refine WP.thenC ?_
                      refine WC.ofFr [(12, _), (3, _), (4, _), (9, _)] ⟨rfl, rfl, rfl, rfl, trivial⟩ ?_
                      refine WC.drawH [_, _, _] (by kernel_rfl) (fun _ hI => hI.drop 2) ?_
                      refine WH.yd (i := 0) (by kernel_rfl) (fun _ o v c a w _ h => (QuietPanic.blk (QuietPanic.then QuietPanic.body)) c o.dst v a w h) rfl (Yd.move rfl) rfl ?_
                      refine WH.yd (i := 1) (by kernel_rfl) (fun _ o v c a w _ h => (QuietPanic.blk (QuietPanic.then QuietPanic.body)) c o.dst v a w h) rfl (Yd.move rfl) rfl ?_
                      refine WH.yd (i := 2) (by kernel_rfl) (fun _ o v c a w _ h => (QuietPanic.blk (QuietPanic.then QuietPanic.body)) c o.dst v a w h) rfl (Yd.nilCheck rfl) rfl ?_
                      refine WH.yd (i := 3) (by kernel_rfl) (fun _ o v c a w _ h => (QuietPanic.blk (QuietPanic.then QuietPanic.body)) c o.dst v a w h) rfl (Yd.fieldAddr FA35_0 rfl) rfl ?_
                      refine WH.yd (i := 5) (by kernel_rfl) (fun _ o v c a w _ h => (QuietPanic.blk (QuietPanic.then QuietPanic.body)) c o.dst v a w h) rfl (Yd.move rfl) rfl ?_
                      refine WH.yd (i := 6) (by kernel_rfl) (fun _ o v c a w _ h => (QuietPanic.blk (QuietPanic.then QuietPanic.body)) c o.dst v a w h) rfl (Yd.nilCheck rfl) rfl ?_
                      refine WH.yd (i := 7) (by kernel_rfl) (fun _ o v c a w _ h => (QuietPanic.blk (QuietPanic.then QuietPanic.body)) c o.dst v a w h) rfl (Yd.fieldAddr FA35_1 rfl) rfl ?_
                      refine WH.two (i := 4) (j := 8) (by kernel_rfl) ?_ ?_
                      · refine WHo.yd rfl (Yd.load1 Try.isAgg3 rfl (Rd.flatSet batherC_len (k := 0) (l := d.bathers) (y := (⟨⟨max 1 ((gt d.bathers i).needs.lo - 1), (gt d.bathers i).needs.hi⟩, (gt d.bathers i).hours⟩ : Bather)) (i := i) (j := 0) rfl hi (by decide) rfl)) rfl ?_
                        refine WH.one (i := 8) (by kernel_rfl) (WHo.yd rfl (Yd.load1 Try.isAgg3 rfl (Rd.flatSet batherC_len (k := 0) (l := d.bathers) (y := (⟨⟨max 1 ((gt d.bathers i).needs.lo - 1), (gt d.bathers i).needs.hi⟩, (gt d.bathers i).hours⟩ : Bather)) (i := i) (j := 1) rfl hi (by decide) rfl)) rfl ?_)
                        refine WH.yd (i := 9) (by kernel_rfl) (fun _ o v c a w _ h => (QuietPanic.blk (QuietPanic.then QuietPanic.body)) c o.dst v a w h) rfl (Yd.sub rfl rfl (wr64 ⟨by (try dsimp only); omega, by (try dsimp only); omega⟩)) rfl ?_
                        refine WH.yd (i := 10) (by kernel_rfl) (fun _ o v c a w _ h => (QuietPanic.blk (QuietPanic.then QuietPanic.body)) c o.dst v a w h) rfl (Yd.max2 rfl rfl) rfl ?_
                        refine WH.yd (i := 11) (by kernel_rfl) (fun _ o v c a w _ h => (QuietPanic.blk (QuietPanic.then QuietPanic.body)) c o.dst v a w h) rfl (Yd.nilCheck rfl) rfl ?_
                        refine WH.yd (i := 12) (by kernel_rfl) (fun _ o v c a w _ h => (QuietPanic.blk (QuietPanic.then QuietPanic.body)) c o.dst v a w h) rfl (Yd.fieldAddr FA35_1 rfl) rfl ?_
                        refine WH.one (i := 13) (by kernel_rfl) (WHo.so rfl (SO.storeFlat batherC_len (l := d.bathers.set i (⟨⟨max 1 ((gt d.bathers i).needs.lo - 1), (gt d.bathers i).needs.hi⟩, (gt d.bathers i).hours⟩ : Bather)) (rest := u2.rest) (i := i) (j := 1) (y := (⟨⟨max 1 ((gt d.bathers i).needs.lo - 1), max (max 1 ((gt d.bathers i).needs.lo - 1)) ((gt d.bathers i).needs.hi - 1)⟩, (gt d.bathers i).hours⟩ : Bather)) 0 rfl Try.sizeOf3 rfl rfl rfl (by rw [List.length_set]; exact hi) (by decide) rfl (splice_flat batherC_len (by decide) _ _ _ (by rw [List.length_set]; exact hi) (by rw [gt_setQ _ _ _ _ hi, if_pos rfl]; rfl))) rfl ?_)
                        rintro _ _ _ ⟨rfl, rfl, rfl⟩
                        refine ⟨(fun _ hI => hI.drop 2), ?_⟩
                        refine WH.nil (by kernel_rfl) ?_
                        refine WP.blkNormal ?_
                        exact WP.join ((⟨d.hours, d.dippers, d.bathers.set i (⟨⟨max 1 ((gt d.bathers i).needs.lo - 1), max (max 1 ((gt d.bathers i).needs.lo - 1)) ((gt d.bathers i).needs.hi - 1)⟩, (gt d.bathers i).hours⟩ : Bather)⟩, u1, u2, d.dippers.length, d.bathers.length, (d.dippers.flatMap dipperC), (((d.bathers.set i (⟨⟨max 1 ((gt d.bathers i).needs.lo - 1), (gt d.bathers i).needs.hi⟩, (gt d.bathers i).hours⟩ : Bather)).set i (⟨⟨max 1 ((gt d.bathers i).needs.lo - 1), max (max 1 ((gt d.bathers i).needs.lo - 1)) ((gt d.bathers i).needs.hi - 1)⟩, (gt d.bathers i).hours⟩ : Bather)).flatMap batherC)) : Dips × Ow × Ow × Nat × Nat × List Value × List Value) ⟨bet_bath d i _ (by show max 1 (_ - 1) ≤ _; omega) (by show max (max 1 (_ - 1)) (_ - 1) ≤ _; omega) (fun _ h => h), hu1, hu2, rfl, by simp, rfl, by rw [List.set_set], by simp; try omega⟩ (fun aa ww h => at_fr h ⟨rfl, rfl, rfl, trivial⟩)
                      · refine WHo.yd rfl (Yd.load1 Try.isAgg3 rfl (Rd.flatSet batherC_len (k := 0) (l := d.bathers) (y := (⟨⟨max 1 ((gt d.bathers i).needs.lo - 1), (gt d.bathers i).needs.hi⟩, (gt d.bathers i).hours⟩ : Bather)) (i := i) (j := 1) rfl hi (by decide) rfl)) rfl ?_
                        refine WH.yd (i := 9) (by kernel_rfl) (fun _ o v c a w _ h => (QuietPanic.blk (QuietPanic.then QuietPanic.body)) c o.dst v a w h) rfl (Yd.sub rfl rfl (wr64 ⟨by (try dsimp only); omega, by (try dsimp only); omega⟩)) rfl ?_
                        refine WH.one (i := 4) (by kernel_rfl) (WHo.yd rfl (Yd.load1 Try.isAgg3 rfl (Rd.flatSet batherC_len (k := 0) (l := d.bathers) (y := (⟨⟨max 1 ((gt d.bathers i).needs.lo - 1), (gt d.bathers i).needs.hi⟩, (gt d.bathers i).hours⟩ : Bather)) (i := i) (j := 0) rfl hi (by decide) rfl)) rfl ?_)
                        refine WH.yd (i := 10) (by kernel_rfl) (fun _ o v c a w _ h => (QuietPanic.blk (QuietPanic.then QuietPanic.body)) c o.dst v a w h) rfl (Yd.max2 rfl rfl) rfl ?_
                        refine WH.yd (i := 11) (by kernel_rfl) (fun _ o v c a w _ h => (QuietPanic.blk (QuietPanic.then QuietPanic.body)) c o.dst v a w h) rfl (Yd.nilCheck rfl) rfl ?_
                        refine WH.yd (i := 12) (by kernel_rfl) (fun _ o v c a w _ h => (QuietPanic.blk (QuietPanic.then QuietPanic.body)) c o.dst v a w h) rfl (Yd.fieldAddr FA35_1 rfl) rfl ?_
                        refine WH.one (i := 13) (by kernel_rfl) (WHo.so rfl (SO.storeFlat batherC_len (l := d.bathers.set i (⟨⟨max 1 ((gt d.bathers i).needs.lo - 1), (gt d.bathers i).needs.hi⟩, (gt d.bathers i).hours⟩ : Bather)) (rest := u2.rest) (i := i) (j := 1) (y := (⟨⟨max 1 ((gt d.bathers i).needs.lo - 1), max (max 1 ((gt d.bathers i).needs.lo - 1)) ((gt d.bathers i).needs.hi - 1)⟩, (gt d.bathers i).hours⟩ : Bather)) 0 rfl Try.sizeOf3 rfl rfl rfl (by rw [List.length_set]; exact hi) (by decide) rfl (splice_flat batherC_len (by decide) _ _ _ (by rw [List.length_set]; exact hi) (by rw [gt_setQ _ _ _ _ hi, if_pos rfl]; rfl))) rfl ?_)
                        rintro _ _ _ ⟨rfl, rfl, rfl⟩
                        refine ⟨(fun _ hI => hI.drop 2), ?_⟩
                        refine WH.nil (by kernel_rfl) ?_
                        refine WP.blkNormal ?_
                        exact WP.join ((⟨d.hours, d.dippers, d.bathers.set i (⟨⟨max 1 ((gt d.bathers i).needs.lo - 1), max (max 1 ((gt d.bathers i).needs.lo - 1)) ((gt d.bathers i).needs.hi - 1)⟩, (gt d.bathers i).hours⟩ : Bather)⟩, u1, u2, d.dippers.length, d.bathers.length, (d.dippers.flatMap dipperC), (((d.bathers.set i (⟨⟨max 1 ((gt d.bathers i).needs.lo - 1), (gt d.bathers i).needs.hi⟩, (gt d.bathers i).hours⟩ : Bather)).set i (⟨⟨max 1 ((gt d.bathers i).needs.lo - 1), max (max 1 ((gt d.bathers i).needs.lo - 1)) ((gt d.bathers i).needs.hi - 1)⟩, (gt d.bathers i).hours⟩ : Bather)).flatMap batherC)) : Dips × Ow × Ow × Nat × Nat × List Value × List Value) ⟨bet_bath d i _ (by show max 1 (_ - 1) ≤ _; omega) (by show max (max 1 (_ - 1)) (_ - 1) ≤ _; omega) (fun _ h => h), hu1, hu2, rfl, by simp, rfl, by rw [List.set_set], by simp; try omega⟩ (fun aa ww h => at_fr h ⟨rfl, rfl, rfl, trivial⟩)
                    · try simp only [zq1, zq2, zq3, zq4, zq5, zq6, zq7, zq8] at c141
                      refine WC.seq ?_
                      refine WC.ofFr [(10, _), (3, _), (4, _), (9, _)] ⟨rfl, rfl, rfl, rfl, trivial⟩ ?_
                      refine WC.region ?_
                      refine WL.yd (Yd.fieldAddr FA25_2 rfl) rfl ?_
                      refine WL.yd (Yd.load1 Try.isAgg23 rfl (by first | exact Rd.own (k := 0) rfl rfl | exact Rd.own (k := 1) rfl rfl | exact Rd.own (k := 2) rfl rfl | exact Rd.own (k := 3) rfl rfl | exact Rd.own (k := 4) rfl rfl)) rfl ?_
                      refine WL.yd (Yd.lenS rfl Try.underlying23 rfl) rfl ?_
                      refine WL.yd (Yd.gtr rfl rfl) rfl ?_
                      refine WL.yd (Yd.assign rfl) rfl ?_
                      refine WL.nil ?_
                      refine WP.thenC ?_
                      refine WC.cond rfl (fun c183 => ?_) (fun c183 => ?_)
                      · try simp only [zq1, zq2, zq3, zq4, zq5, zq6, zq7, zq8] at c183
                        refine WC.ofFr [(10, _), (3, _), (4, _), (9, _)] ⟨rfl, rfl, rfl, rfl, trivial⟩ ?_
                        refine WC.drawH [_, _, _] (by kernel_rfl) (fun _ hI => hI.drop 2) ?_
                        refine WH.yd (i := 0) (by kernel_rfl) (fun _ o v c a w _ h => (QuietPanic.blk (QuietPanic.then QuietPanic.body)) c o.dst v a w h) rfl (Yd.fieldAddr FA25_2 rfl) rfl ?_
                        refine WH.yd (i := 1) (by kernel_rfl) (fun _ o v c a w _ h => (QuietPanic.blk (QuietPanic.then QuietPanic.body)) c o.dst v a w h) rfl (Yd.load1 Try.isAgg23 rfl (by first | exact Rd.own (k := 0) rfl rfl | exact Rd.own (k := 1) rfl rfl | exact Rd.own (k := 2) rfl rfl | exact Rd.own (k := 3) rfl rfl | exact Rd.own (k := 4) rfl rfl)) rfl ?_
                        refine WH.yd (i := 2) (by kernel_rfl) (fun _ o v c a w _ h => (QuietPanic.blk (QuietPanic.then QuietPanic.body)) c o.dst v a w h) rfl (Yd.move rfl) rfl ?_
                        refine WH.yd (i := 3) (by kernel_rfl) (fun _ o v c a w _ h => (QuietPanic.blk (QuietPanic.then QuietPanic.body)) c o.dst v a w h) rfl (Yd.conv Try.underlying5 Try.underlying3 rfl (wr64 ⟨by omega, by omega⟩)) rfl ?_
                        refine WH.yd (i := 4) (by kernel_rfl) (fun _ o v c a w _ h => (QuietPanic.blk (QuietPanic.then QuietPanic.body)) c o.dst v a w h) rfl (Yd.fieldAddr FA25_2 rfl) rfl ?_
                        refine WH.yd (i := 5) (by kernel_rfl) (fun _ o v c a w _ h => (QuietPanic.blk (QuietPanic.then QuietPanic.body)) c o.dst v a w h) rfl (Yd.load1 Try.isAgg23 rfl (by first | exact Rd.own (k := 0) rfl rfl | exact Rd.own (k := 1) rfl rfl | exact Rd.own (k := 2) rfl rfl | exact Rd.own (k := 3) rfl rfl | exact Rd.own (k := 4) rfl rfl)) rfl ?_
                        refine WH.yd (i := 6) (by kernel_rfl) (fun _ o v c a w _ h => (QuietPanic.blk (QuietPanic.then QuietPanic.body)) c o.dst v a w h) rfl (Yd.lenS rfl Try.underlying23 rfl) rfl ?_
                        refine WH.yd (i := 7) (by kernel_rfl) (fun _ o v c a w _ h => (QuietPanic.blk (QuietPanic.then QuietPanic.body)) c o.dst v a w h) rfl (Yd.remN (i := b) (j := d.bathers.length) rfl rfl (by omega)) rfl ?_
                        generalize hib : b % d.bathers.length = i
                        have hi : i < d.bathers.length := by rw [← hib]; exact Nat.mod_lt _ (by omega)
                        have hdi := hnum.2.2.2.2 i hi
                        refine WH.yd (i := 8) (by kernel_rfl) (fun _ o v c a w _ h => (QuietPanic.blk (QuietPanic.then QuietPanic.body)) c o.dst v a w h) rfl (Yd.indexS Try.underlying23 Try.sizeOf55 rfl rfl (by omega) (by omega) (by first | exact rfl)) rfl ?_
                        refine WH.yd (i := 9) (by kernel_rfl) (fun _ o v c a w _ h => (QuietPanic.blk (QuietPanic.then QuietPanic.body)) c o.dst v a w h) rfl (Yd.fieldAddr FA55_1 rfl) rfl ?_
                        refine WH.yd (i := 11) (by kernel_rfl) (fun _ o v c a w _ h => (QuietPanic.blk (QuietPanic.then QuietPanic.body)) c o.dst v a w h) rfl (Yd.move rfl) rfl ?_
                        refine WH.yd (i := 12) (by kernel_rfl) (fun _ o v c a w _ h => (QuietPanic.blk (QuietPanic.then QuietPanic.body)) c o.dst v a w h) rfl (Yd.conv Try.underlying5 Try.underlying3 rfl (wr64 ⟨by omega, by omega⟩)) rfl ?_
                        refine WH.yd (i := 13) (by kernel_rfl) (fun _ o v c a w _ h => (QuietPanic.blk (QuietPanic.then QuietPanic.body)) c o.dst v a w h) rfl (Yd.quoN (i := b) (j := 8) rfl rfl (by omega) (by omega)) rfl ?_
                        refine WH.yd (i := 14) (by kernel_rfl) (fun _ o v c a w _ h => (QuietPanic.blk (QuietPanic.then QuietPanic.body)) c o.dst v a w h) rfl (Yd.move rfl) rfl ?_
                        refine WH.yd (i := 15) (by kernel_rfl) (fun _ o v c a w _ h => (QuietPanic.blk (QuietPanic.then QuietPanic.body)) c o.dst v a w h) rfl (Yd.andM (n := d.hours.toNat) (by omega) (by omega) rfl rfl) rfl ?_
                        refine WH.one (i := 10) (by kernel_rfl) (WHo.yd rfl (Yd.load1 Try.isAgg3 rfl (Rd.flat batherC_len (k := 0) (l := d.bathers) (i := i) (j := 2) rfl hi (by decide) rfl)) rfl ?_)
                        refine WH.yd (i := 16) (by kernel_rfl) (fun _ o v c a w _ h => (QuietPanic.blk (QuietPanic.then QuietPanic.body)) c o.dst v a w h) rfl (Yd.orI (by omega) (by omega) (by omega) rfl rfl) rfl ?_
                        refine WH.yd (i := 17) (by kernel_rfl) (fun _ o v c a w _ h => (QuietPanic.blk (QuietPanic.then QuietPanic.body)) c o.dst v a w h) rfl (Yd.indexS Try.underlying23 Try.sizeOf55 rfl rfl (by omega) (by omega) (by first | exact rfl)) rfl ?_
                        refine WH.yd (i := 18) (by kernel_rfl) (fun _ o v c a w _ h => (QuietPanic.blk (QuietPanic.then QuietPanic.body)) c o.dst v a w h) rfl (Yd.fieldAddr FA55_1 rfl) rfl ?_
                        refine WH.one (i := 19) (by kernel_rfl) (WHo.so rfl (SO.storeFlat batherC_len (l := d.bathers) (rest := u2.rest) (i := i) (j := 2) (y := (⟨(gt d.bathers i).needs, orI (gt d.bathers i).hours (b / 8 % 2 ^ d.hours.toNat)⟩ : Bather)) 0 rfl Try.sizeOf3 rfl rfl rfl hi (by decide) rfl (splice_flat batherC_len (by decide) _ _ _ hi rfl)) rfl ?_)
                        rintro _ _ _ ⟨rfl, rfl, rfl⟩
                        refine ⟨(fun _ hI => hI.drop 2), ?_⟩
                        refine WH.nil (by kernel_rfl) ?_
                        refine WP.blkNormal ?_
                        exact WP.join ((⟨d.hours, d.dippers, d.bathers.set i (⟨(gt d.bathers i).needs, orI (gt d.bathers i).hours (b / 8 % 2 ^ d.hours.toNat)⟩ : Bather)⟩, u1, u2, d.dippers.length, d.bathers.length, (d.dippers.flatMap dipperC), ((d.bathers.set i (⟨(gt d.bathers i).needs, orI (gt d.bathers i).hours (b / 8 % 2 ^ d.hours.toNat)⟩ : Bather)).flatMap batherC)) : Dips × Ow × Ow × Nat × Nat × List Value × List Value) ⟨bet_bath d i _ (Int.le_refl _) (Int.le_refl _) (fun h hh => orI_has (by omega) _ h hh), hu1, hu2, rfl, by simp, rfl, rfl, by simp; try omega⟩ (fun aa ww h => at_fr h ⟨rfl, rfl, rfl, trivial⟩)
                      · try simp only [zq1, zq2, zq3, zq4, zq5, zq6, zq7, zq8] at c183
                        refine WC.skip ?_
                        refine WP.blkNormal ?_
                        exact WP.join ((⟨d.hours, d.dippers, d.bathers⟩, u1, u2, d.dippers.length, d.bathers.length, (d.dippers.flatMap dipperC), (d.bathers.flatMap batherC)) : Dips × Ow × Ow × Nat × Nat × List Value × List Value) ⟨bet_refl d, hu1, hu2, rfl, rfl, rfl, rfl, by simp; try omega⟩ (fun aa ww h => at_fr h ⟨rfl, rfl, rfl, trivial⟩)
                  · try simp only [zq1, zq2, zq3, zq4, zq5, zq6, zq7, zq8] at g145
                    refine WL.skip rfl rfl ?_
                    refine WL.skip rfl rfl ?_
                    refine WL.skip rfl rfl ?_
                    refine WL.skip rfl rfl ?_
                    refine WL.yd (Yd.pickF rfl rfl) rfl ?_
                    refine WL.yd (Yd.assign rfl) rfl ?_
                    refine WL.nil ?_
                    refine WP.thenC ?_
                    refine WC.condF rfl ?_
                    refine WC.seq ?_
                    refine WC.ofFr [(10, _), (3, _), (4, _), (9, _)] ⟨rfl, rfl, rfl, rfl, trivial⟩ ?_
                    refine WC.region ?_
                    refine WL.yd (Yd.fieldAddr FA25_2 rfl) rfl ?_
                    refine WL.yd (Yd.load1 Try.isAgg23 rfl (by first | exact Rd.own (k := 0) rfl rfl | exact Rd.own (k := 1) rfl rfl | exact Rd.own (k := 2) rfl rfl | exact Rd.own (k := 3) rfl rfl | exact Rd.own (k := 4) rfl rfl)) rfl ?_
                    refine WL.yd (Yd.lenS rfl Try.underlying23 rfl) rfl ?_
                    refine WL.yd (Yd.gtr rfl rfl) rfl ?_
                    refine WL.yd (Yd.assign rfl) rfl ?_
                    refine WL.nil ?_
                    refine WP.thenC ?_
                    refine WC.cond rfl (fun c183 => ?_) (fun c183 => ?_)
                    · try simp only [zq1, zq2, zq3, zq4, zq5, zq6, zq7, zq8] at c183
                      refine WC.ofFr [(10, _), (3, _), (4, _), (9, _)] ⟨rfl, rfl, rfl, rfl, trivial⟩ ?_
                      refine WC.drawH [_, _, _] (by kernel_rfl) (fun _ hI => hI.drop 2) ?_
                      refine WH.yd (i := 0) (by kernel_rfl) (fun _ o v c a w _ h => (QuietPanic.blk (QuietPanic.then QuietPanic.body)) c o.dst v a w h) rfl (Yd.fieldAddr FA25_2 rfl) rfl ?_
                      refine WH.yd (i := 1) (by kernel_rfl) (fun _ o v c a w _ h => (QuietPanic.blk (QuietPanic.then QuietPanic.body)) c o.dst v a w h) rfl (Yd.load1 Try.isAgg23 rfl (by first | exact Rd.own (k := 0) rfl rfl | exact Rd.own (k := 1) rfl rfl | exact Rd.own (k := 2) rfl rfl | exact Rd.own (k := 3) rfl rfl | exact Rd.own (k := 4) rfl rfl)) rfl ?_
                      refine WH.yd (i := 2) (by kernel_rfl) (fun _ o v c a w _ h => (QuietPanic.blk (QuietPanic.then QuietPanic.body)) c o.dst v a w h) rfl (Yd.move rfl) rfl ?_
                      refine WH.yd (i := 3) (by kernel_rfl) (fun _ o v c a w _ h => (QuietPanic.blk (QuietPanic.then QuietPanic.body)) c o.dst v a w h) rfl (Yd.conv Try.underlying5 Try.underlying3 rfl (wr64 ⟨by omega, by omega⟩)) rfl ?_
                      refine WH.yd (i := 4) (by kernel_rfl) (fun _ o v c a w _ h => (QuietPanic.blk (QuietPanic.then QuietPanic.body)) c o.dst v a w h) rfl (Yd.fieldAddr FA25_2 rfl) rfl ?_
                      refine WH.yd (i := 5) (by kernel_rfl) (fun _ o v c a w _ h => (QuietPanic.blk (QuietPanic.then QuietPanic.body)) c o.dst v a w h) rfl (Yd.load1 Try.isAgg23 rfl (by first | exact Rd.own (k := 0) rfl rfl | exact Rd.own (k := 1) rfl rfl | exact Rd.own (k := 2) rfl rfl | exact Rd.own (k := 3) rfl rfl | exact Rd.own (k := 4) rfl rfl)) rfl ?_
                      refine WH.yd (i := 6) (by kernel_rfl) (fun _ o v c a w _ h => (QuietPanic.blk (QuietPanic.then QuietPanic.body)) c o.dst v a w h) rfl (Yd.lenS rfl Try.underlying23 rfl) rfl ?_
                      refine WH.yd (i := 7) (by kernel_rfl) (fun _ o v c a w _ h => (QuietPanic.blk (QuietPanic.then QuietPanic.body)) c o.dst v a w h) rfl (Yd.remN (i := b) (j := d.bathers.length) rfl rfl (by omega)) rfl ?_
                      generalize hib : b % d.bathers.length = i
                      have hi : i < d.bathers.length := by rw [← hib]; exact Nat.mod_lt _ (by omega)
                      have hdi := hnum.2.2.2.2 i hi
                      refine WH.yd (i := 8) (by kernel_rfl) (fun _ o v c a w _ h => (QuietPanic.blk (QuietPanic.then QuietPanic.body)) c o.dst v a w h) rfl (Yd.indexS Try.underlying23 Try.sizeOf55 rfl rfl (by omega) (by omega) (by first | exact rfl)) rfl ?_
                      refine WH.yd (i := 9) (by kernel_rfl) (fun _ o v c a w _ h => (QuietPanic.blk (QuietPanic.then QuietPanic.body)) c o.dst v a w h) rfl (Yd.fieldAddr FA55_1 rfl) rfl ?_
                      refine WH.yd (i := 11) (by kernel_rfl) (fun _ o v c a w _ h => (QuietPanic.blk (QuietPanic.then QuietPanic.body)) c o.dst v a w h) rfl (Yd.move rfl) rfl ?_
                      refine WH.yd (i := 12) (by kernel_rfl) (fun _ o v c a w _ h => (QuietPanic.blk (QuietPanic.then QuietPanic.body)) c o.dst v a w h) rfl (Yd.conv Try.underlying5 Try.underlying3 rfl (wr64 ⟨by omega, by omega⟩)) rfl ?_
                      refine WH.yd (i := 13) (by kernel_rfl) (fun _ o v c a w _ h => (QuietPanic.blk (QuietPanic.then QuietPanic.body)) c o.dst v a w h) rfl (Yd.quoN (i := b) (j := 8) rfl rfl (by omega) (by omega)) rfl ?_
                      refine WH.yd (i := 14) (by kernel_rfl) (fun _ o v c a w _ h => (QuietPanic.blk (QuietPanic.then QuietPanic.body)) c o.dst v a w h) rfl (Yd.move rfl) rfl ?_
                      refine WH.yd (i := 15) (by kernel_rfl) (fun _ o v c a w _ h => (QuietPanic.blk (QuietPanic.then QuietPanic.body)) c o.dst v a w h) rfl (Yd.andM (n := d.hours.toNat) (by omega) (by omega) rfl rfl) rfl ?_
                      refine WH.one (i := 10) (by kernel_rfl) (WHo.yd rfl (Yd.load1 Try.isAgg3 rfl (Rd.flat batherC_len (k := 0) (l := d.bathers) (i := i) (j := 2) rfl hi (by decide) rfl)) rfl ?_)
                      refine WH.yd (i := 16) (by kernel_rfl) (fun _ o v c a w _ h => (QuietPanic.blk (QuietPanic.then QuietPanic.body)) c o.dst v a w h) rfl (Yd.orI (by omega) (by omega) (by omega) rfl rfl) rfl ?_
                      refine WH.yd (i := 17) (by kernel_rfl) (fun _ o v c a w _ h => (QuietPanic.blk (QuietPanic.then QuietPanic.body)) c o.dst v a w h) rfl (Yd.indexS Try.underlying23 Try.sizeOf55 rfl rfl (by omega) (by omega) (by first | exact rfl)) rfl ?_
                      refine WH.yd (i := 18) (by kernel_rfl) (fun _ o v c a w _ h => (QuietPanic.blk (QuietPanic.then QuietPanic.body)) c o.dst v a w h) rfl (Yd.fieldAddr FA55_1 rfl) rfl ?_
                      refine WH.one (i := 19) (by kernel_rfl) (WHo.so rfl (SO.storeFlat batherC_len (l := d.bathers) (rest := u2.rest) (i := i) (j := 2) (y := (⟨(gt d.bathers i).needs, orI (gt d.bathers i).hours (b / 8 % 2 ^ d.hours.toNat)⟩ : Bather)) 0 rfl Try.sizeOf3 rfl rfl rfl hi (by decide) rfl (splice_flat batherC_len (by decide) _ _ _ hi rfl)) rfl ?_)
                      rintro _ _ _ ⟨rfl, rfl, rfl⟩
                      refine ⟨(fun _ hI => hI.drop 2), ?_⟩
                      refine WH.nil (by kernel_rfl) ?_
                      refine WP.blkNormal ?_
                      exact WP.join ((⟨d.hours, d.dippers, d.bathers.set i (⟨(gt d.bathers i).needs, orI (gt d.bathers i).hours (b / 8 % 2 ^ d.hours.toNat)⟩ : Bather)⟩, u1, u2, d.dippers.length, d.bathers.length, (d.dippers.flatMap dipperC), ((d.bathers.set i (⟨(gt d.bathers i).needs, orI (gt d.bathers i).hours (b / 8 % 2 ^ d.hours.toNat)⟩ : Bather)).flatMap batherC)) : Dips × Ow × Ow × Nat × Nat × List Value × List Value) ⟨bet_bath d i _ (Int.le_refl _) (Int.le_refl _) (fun h hh => orI_has (by omega) _ h hh), hu1, hu2, rfl, by simp, rfl, rfl, by simp; try omega⟩ (fun aa ww h => at_fr h ⟨rfl, rfl, rfl, trivial⟩)
                    · try simp only [zq1, zq2, zq3, zq4, zq5, zq6, zq7, zq8] at c183
                      refine WC.skip ?_
                      refine WP.blkNormal ?_
                      exact WP.join ((⟨d.hours, d.dippers, d.bathers⟩, u1, u2, d.dippers.length, d.bathers.length, (d.dippers.flatMap dipperC), (d.bathers.flatMap batherC)) : Dips × Ow × Ow × Nat × Nat × List Value × List Value) ⟨bet_refl d, hu1, hu2, rfl, rfl, rfl, rfl, by simp; try omega⟩ (fun aa ww h => at_fr h ⟨rfl, rfl, rfl, trivial⟩)
            · try simp only [zq1, zq2, zq3, zq4, zq5, zq6, zq7, zq8] at g74
              refine WL.skip rfl rfl ?_
              refine WL.skip rfl rfl ?_
              refine WL.skip rfl rfl ?_
              refine WL.skip rfl rfl ?_
              refine WL.yd (Yd.pickF rfl rfl) rfl ?_
              refine WL.yd (Yd.assign rfl) rfl ?_
              refine WL.nil ?_
              refine WP.thenC ?_
              refine WC.condF rfl ?_
              refine WC.seq ?_
              refine WC.ofFr [(10, _), (2, _), (3, _), (4, _), (9, _)] ⟨rfl, rfl, rfl, rfl, rfl, trivial⟩ ?_
              refine WC.region ?_
              refine WL.yd (Yd.move rfl) rfl ?_
              refine WL.yd (Yd.rem rfl rfl (by omega) (by omega)) rfl ?_
              refine WL.yd (Yd.eql rfl rfl) rfl ?_
              refine WL.yd (Yd.move rfl) rfl ?_
              refine WL.part 116 rfl (fun g116 => ?_) (fun g116 => ?_)
              · try simp only [zq1, zq2, zq3, zq4, zq5, zq6, zq7, zq8] at g116
                refine WL.ydg rfl (Yd.fieldAddr FA25_1 rfl) rfl ?_
                refine WL.ydg rfl (Yd.load1 Try.isAgg22 rfl (by first | exact Rd.own (k := 0) rfl rfl | exact Rd.own (k := 1) rfl rfl | exact Rd.own (k := 2) rfl rfl | exact Rd.own (k := 3) rfl rfl | exact Rd.own (k := 4) rfl rfl)) rfl ?_
                refine WL.ydg rfl (Yd.lenS rfl Try.underlying22 rfl) rfl ?_
                refine WL.ydg rfl (Yd.gtr rfl rfl) rfl ?_
                refine WL.yd (Yd.pickT rfl rfl) rfl ?_
                refine WL.yd (Yd.assign rfl) rfl ?_
                refine WL.nil ?_
                refine WP.thenC ?_
                refine WC.cond rfl (fun c112 => ?_) (fun c112 => ?_)
                · try simp only [zq1, zq2, zq3, zq4, zq5, zq6, zq7, zq8] at c112
                  refine WC.ofFr [(10, _), (3, _), (4, _), (9, _)] ⟨rfl, rfl, rfl, rfl, trivial⟩ ?_
                  refine WC.drawH [_, _, _] (by kernel_rfl) (fun _ hI => hI.drop 2) ?_
                  refine WH.yd (i := 0) (by kernel_rfl) (fun _ o v c a w _ h => (QuietPanic.blk (QuietPanic.then QuietPanic.body)) c o.dst v a w h) rfl (Yd.fieldAddr FA25_1 rfl) rfl ?_
                  refine WH.yd (i := 1) (by kernel_rfl) (fun _ o v c a w _ h => (QuietPanic.blk (QuietPanic.then QuietPanic.body)) c o.dst v a w h) rfl (Yd.load1 Try.isAgg22 rfl (by first | exact Rd.own (k := 0) rfl rfl | exact Rd.own (k := 1) rfl rfl | exact Rd.own (k := 2) rfl rfl | exact Rd.own (k := 3) rfl rfl | exact Rd.own (k := 4) rfl rfl)) rfl ?_
                  refine WH.yd (i := 2) (by kernel_rfl) (fun _ o v c a w _ h => (QuietPanic.blk (QuietPanic.then QuietPanic.body)) c o.dst v a w h) rfl (Yd.move rfl) rfl ?_
                  refine WH.yd (i := 3) (by kernel_rfl) (fun _ o v c a w _ h => (QuietPanic.blk (QuietPanic.then QuietPanic.body)) c o.dst v a w h) rfl (Yd.conv Try.underlying5 Try.underlying3 rfl (wr64 ⟨by omega, by omega⟩)) rfl ?_
                  refine WH.yd (i := 4) (by kernel_rfl) (fun _ o v c a w _ h => (QuietPanic.blk (QuietPanic.then QuietPanic.body)) c o.dst v a w h) rfl (Yd.fieldAddr FA25_1 rfl) rfl ?_
                  refine WH.yd (i := 5) (by kernel_rfl) (fun _ o v c a w _ h => (QuietPanic.blk (QuietPanic.then QuietPanic.body)) c o.dst v a w h) rfl (Yd.load1 Try.isAgg22 rfl (by first | exact Rd.own (k := 0) rfl rfl | exact Rd.own (k := 1) rfl rfl | exact Rd.own (k := 2) rfl rfl | exact Rd.own (k := 3) rfl rfl | exact Rd.own (k := 4) rfl rfl)) rfl ?_
                  refine WH.yd (i := 6) (by kernel_rfl) (fun _ o v c a w _ h => (QuietPanic.blk (QuietPanic.then QuietPanic.body)) c o.dst v a w h) rfl (Yd.lenS rfl Try.underlying22 rfl) rfl ?_
                  refine WH.yd (i := 7) (by kernel_rfl) (fun _ o v c a w _ h => (QuietPanic.blk (QuietPanic.then QuietPanic.body)) c o.dst v a w h) rfl (Yd.remN (i := b) (j := d.dippers.length) rfl rfl (by omega)) rfl ?_
                  generalize hib : b % d.dippers.length = i
                  have hi : i < d.dippers.length := by rw [← hib]; exact Nat.mod_lt _ (by omega)
                  have hdi := hnum.2.2.2.1 i hi
                  refine WH.yd (i := 8) (by kernel_rfl) (fun _ o v c a w _ h => (QuietPanic.blk (QuietPanic.then QuietPanic.body)) c o.dst v a w h) rfl (Yd.indexS Try.underlying22 Try.sizeOf53 rfl rfl (by omega) (by omega) (by first | exact rfl)) rfl ?_
                  refine WH.yd (i := 9) (by kernel_rfl) (fun _ o v c a w _ h => (QuietPanic.blk (QuietPanic.then QuietPanic.body)) c o.dst v a w h) rfl (Yd.fieldAddr FA53_1 rfl) rfl ?_
                  refine WH.yd (i := 11) (by kernel_rfl) (fun _ o v c a w _ h => (QuietPanic.blk (QuietPanic.then QuietPanic.body)) c o.dst v a w h) rfl (Yd.move rfl) rfl ?_
                  refine WH.yd (i := 12) (by kernel_rfl) (fun _ o v c a w _ h => (QuietPanic.blk (QuietPanic.then QuietPanic.body)) c o.dst v a w h) rfl (Yd.conv Try.underlying5 Try.underlying3 rfl (wr64 ⟨by omega, by omega⟩)) rfl ?_
                  refine WH.yd (i := 13) (by kernel_rfl) (fun _ o v c a w _ h => (QuietPanic.blk (QuietPanic.then QuietPanic.body)) c o.dst v a w h) rfl (Yd.quoN (i := b) (j := 4) rfl rfl (by omega) (by omega)) rfl ?_
                  refine WH.yd (i := 14) (by kernel_rfl) (fun _ o v c a w _ h => (QuietPanic.blk (QuietPanic.then QuietPanic.body)) c o.dst v a w h) rfl (Yd.move rfl) rfl ?_
                  refine WH.yd (i := 15) (by kernel_rfl) (fun _ o v c a w _ h => (QuietPanic.blk (QuietPanic.then QuietPanic.body)) c o.dst v a w h) rfl (Yd.andM (n := d.hours.toNat) (by omega) (by omega) rfl rfl) rfl ?_
                  refine WH.one (i := 10) (by kernel_rfl) (WHo.yd rfl (Yd.load1 Try.isAgg3 rfl (Rd.flat dipperC_len (k := 1) (l := d.dippers) (i := i) (j := 2) rfl hi (by decide) rfl)) rfl ?_)
                  refine WH.yd (i := 16) (by kernel_rfl) (fun _ o v c a w _ h => (QuietPanic.blk (QuietPanic.then QuietPanic.body)) c o.dst v a w h) rfl (Yd.orI (by omega) (by omega) (by omega) rfl rfl) rfl ?_
                  refine WH.yd (i := 17) (by kernel_rfl) (fun _ o v c a w _ h => (QuietPanic.blk (QuietPanic.then QuietPanic.body)) c o.dst v a w h) rfl (Yd.indexS Try.underlying22 Try.sizeOf53 rfl rfl (by omega) (by omega) (by first | exact rfl)) rfl ?_
                  refine WH.yd (i := 18) (by kernel_rfl) (fun _ o v c a w _ h => (QuietPanic.blk (QuietPanic.then QuietPanic.body)) c o.dst v a w h) rfl (Yd.fieldAddr FA53_1 rfl) rfl ?_
                  refine WH.one (i := 19) (by kernel_rfl) (WHo.so rfl (SO.storeFlat dipperC_len (l := d.dippers) (rest := u1.rest) (i := i) (j := 2) (y := (⟨(gt d.dippers i).hands, orI (gt d.dippers i).hours (b / 4 % 2 ^ d.hours.toNat)⟩ : Dipper)) 1 rfl Try.sizeOf3 rfl rfl rfl hi (by decide) rfl (splice_flat dipperC_len (by decide) _ _ _ hi rfl)) rfl ?_)
                  rintro _ _ _ ⟨rfl, rfl, rfl⟩
                  refine ⟨(fun _ hI => hI.drop 2), ?_⟩
                  refine WH.nil (by kernel_rfl) ?_
                  refine WP.blkNormal ?_
                  exact WP.join ((⟨d.hours, d.dippers.set i (⟨(gt d.dippers i).hands, orI (gt d.dippers i).hours (b / 4 % 2 ^ d.hours.toNat)⟩ : Dipper), d.bathers⟩, u1, u2, d.dippers.length, d.bathers.length, ((d.dippers.set i (⟨(gt d.dippers i).hands, orI (gt d.dippers i).hours (b / 4 % 2 ^ d.hours.toNat)⟩ : Dipper)).flatMap dipperC), (d.bathers.flatMap batherC)) : Dips × Ow × Ow × Nat × Nat × List Value × List Value) ⟨bet_dip d i _ (Int.le_refl _) (Int.le_refl _) (fun h hh => orI_has (by omega) _ h hh), hu1, hu2, by simp, rfl, rfl, rfl, by simp; try omega⟩ (fun aa ww h => at_fr h ⟨rfl, rfl, rfl, trivial⟩)
                · try simp only [zq1, zq2, zq3, zq4, zq5, zq6, zq7, zq8] at c112
                  refine WC.seq ?_
                  refine WC.ofFr [(10, _), (2, _), (3, _), (4, _), (9, _)] ⟨rfl, rfl, rfl, rfl, rfl, trivial⟩ ?_
                  refine WC.region ?_
                  refine WL.yd (Yd.move rfl) rfl ?_
                  refine WL.yd (Yd.rem rfl rfl (by omega) (by omega)) rfl ?_
                  refine WL.yd (Yd.eql rfl rfl) rfl ?_
                  refine WL.yd (Yd.move rfl) rfl ?_
                  refine WL.part 145 rfl (fun g145 => ?_) (fun g145 => ?_)
                  · try simp only [zq1, zq2, zq3, zq4, zq5, zq6, zq7, zq8] at g145
                    refine WL.ydg rfl (Yd.fieldAddr FA25_2 rfl) rfl ?_
                    refine WL.ydg rfl (Yd.load1 Try.isAgg23 rfl (by first | exact Rd.own (k := 0) rfl rfl | exact Rd.own (k := 1) rfl rfl | exact Rd.own (k := 2) rfl rfl | exact Rd.own (k := 3) rfl rfl | exact Rd.own (k := 4) rfl rfl)) rfl ?_
                    refine WL.ydg rfl (Yd.lenS rfl Try.underlying23 rfl) rfl ?_
                    refine WL.ydg rfl (Yd.gtr rfl rfl) rfl ?_
                    refine WL.yd (Yd.pickT rfl rfl) rfl ?_
                    refine WL.yd (Yd.assign rfl) rfl ?_
                    refine WL.nil ?_
                    refine WP.thenC ?_
                    refine WC.cond rfl (fun c141 => ?_) (fun c141 => ?_)
                    · try simp only [zq1, zq2, zq3, zq4, zq5, zq6, zq7, zq8] at c141
                      refine WC.seq ?_
                      refine WC.ofFr [(3, _), (4, _), (9, _)] ⟨rfl, rfl, rfl, trivial⟩ ?_
                      refine WC.tail 8 [0, 1, 2, 3, 4, 5, 6, 7] rfl (by kernel_rfl) (by kernel_rfl)  ?_
                      refine WQ.q rfl (Yd.qt (Yd.fieldAddr FA25_2 rfl)) rfl ?_
                      refine WQ.q rfl (Yd.qt (Yd.load1 Try.isAgg23 rfl (by first | exact Rd.own (k := 0) rfl rfl | exact Rd.own (k := 1) rfl rfl | exact Rd.own (k := 2) rfl rfl | exact Rd.own (k := 3) rfl rfl | exact Rd.own (k := 4) rfl rfl))) rfl ?_
                      refine WQ.q rfl (Yd.qt (Yd.move rfl)) rfl ?_
                      refine WQ.q rfl (Yd.qt (Yd.conv Try.underlying5 Try.underlying3 rfl (wr64 ⟨by omega, by omega⟩))) rfl ?_
                      refine WQ.q rfl (Yd.qt (Yd.fieldAddr FA25_2 rfl)) rfl ?_
                      refine WQ.q rfl (Yd.qt (Yd.load1 Try.isAgg23 rfl (by first | exact Rd.own (k := 0) rfl rfl | exact Rd.own (k := 1) rfl rfl | exact Rd.own (k := 2) rfl rfl | exact Rd.own (k := 3) rfl rfl | exact Rd.own (k := 4) rfl rfl))) rfl ?_
                      refine WQ.q rfl (Yd.qt (Yd.lenS rfl Try.underlying23 rfl)) rfl ?_
                      refine WQ.q rfl (Yd.qt (Yd.remN (i := b) (j := d.bathers.length) rfl rfl (by omega))) rfl ?_
                      refine WQ.tail ?_
                      generalize hib : b % d.bathers.length = i
                      have hi : i < d.bathers.length := by rw [← hib]; exact Nat.mod_lt _ (by omega)
                      have hdi := hnum.2.2.2.2 i hi
                      refine WL.yd (Yd.indexS Try.underlying23 Try.sizeOf55 rfl rfl (by omega) (by omega) (by first | exact rfl)) rfl ?_
                      refine WL.yd (Yd.fieldAddr FA55_0 rfl) rfl ?_
                      refine WL.yd (Yd.assign rfl) rfl ?_
                      refine WL.nil ?_
                      refine WP.thenC ?_
                      refine WC.seq ?_
                      refine WC.ofFr [(12, _), (3, _), (4, _), (9, _)] ⟨rfl, rfl, rfl, rfl, trivial⟩ ?_
                      refine WC.region ?_
                      refine WL.yd (Yd.move rfl) rfl ?_
                      refine WL.yd (Yd.move rfl) rfl ?_
                      refine WL.yd (Yd.nilCheck rfl) rfl ?_
                      refine WL.yd (Yd.fieldAddr FA35_0 rfl) rfl ?_
                      refine WL.yd (Yd.load1 Try.isAgg3 rfl (Rd.flat batherC_len (k := 0) (l := d.bathers) (i := i) (j := 0) rfl hi (by decide) rfl)) rfl ?_
                      refine WL.yd (Yd.sub rfl rfl (wr64 ⟨by omega, by omega⟩)) rfl ?_
                      refine WL.yd (Yd.max2 rfl rfl) rfl ?_
                      refine WL.yd (Yd.nilCheck rfl) rfl ?_
                      refine WL.yd (Yd.fieldAddr FA35_0 rfl) rfl ?_
                      refine WL.so (SO.storeFlat batherC_len (l := d.bathers) (rest := u2.rest) (i := i) (j := 0) (y := (⟨⟨max 1 ((gt d.bathers i).needs.lo - 1), (gt d.bathers i).needs.hi⟩, (gt d.bathers i).hours⟩ : Bather)) 0 rfl Try.sizeOf3 rfl rfl rfl hi (by decide) rfl (splice_flat batherC_len (by decide) _ _ _ hi rfl)) rfl ?_
                      rintro _ _ _ ⟨rfl, rfl, rfl⟩
                      refine WL.nil ?_
                      refine WP.thenC ?_
                      refine WC.ofFr [(12, _), (3, _), (4, _), (9, _)] ⟨rfl, rfl, rfl, rfl, trivial⟩ ?_
                      refine WC.drawH [_, _, _] (by kernel_rfl) (fun _ hI => hI.drop 2) ?_
                      refine WH.yd (i := 0) (by kernel_rfl) (fun _ o v c a w _ h => (QuietPanic.blk (QuietPanic.then QuietPanic.body)) c o.dst v a w h) rfl (Yd.move rfl) rfl ?_
                      refine WH.yd (i := 1) (by kernel_rfl) (fun _ o v c a w _ h => (QuietPanic.blk (QuietPanic.then QuietPanic.body)) c o.dst v a w h) rfl (Yd.move rfl) rfl ?_
                      refine WH.yd (i := 2) (by kernel_rfl) (fun _ o v c a w _ h => (QuietPanic.blk (QuietPanic.then QuietPanic.body)) c o.dst v a w h) rfl (Yd.nilCheck rfl) rfl ?_
                      refine WH.yd (i := 3) (by kernel_rfl) (fun _ o v c a w _ h => (QuietPanic.blk (QuietPanic.then QuietPanic.body)) c o.dst v a w h) rfl (Yd.fieldAddr FA35_0 rfl) rfl ?_
                      refine WH.yd (i := 5) (by kernel_rfl) (fun _ o v c a w _ h => (QuietPanic.blk (QuietPanic.then QuietPanic.body)) c o.dst v a w h) rfl (Yd.move rfl) rfl ?_
                      refine WH.yd (i := 6) (by kernel_rfl) (fun _ o v c a w _ h => (QuietPanic.blk (QuietPanic.then QuietPanic.body)) c o.dst v a w h) rfl (Yd.nilCheck rfl) rfl ?_
                      refine WH.yd (i := 7) (by kernel_rfl) (fun _ o v c a w _ h => (QuietPanic.blk (QuietPanic.then QuietPanic.body)) c o.dst v a w h) rfl (Yd.fieldAddr FA35_1 rfl) rfl ?_
                      refine WH.two (i := 4) (j := 8) (by kernel_rfl) ?_ ?_
                      · refine WHo.yd rfl (Yd.load1 Try.isAgg3 rfl (Rd.flatSet batherC_len (k := 0) (l := d.bathers) (y := (⟨⟨max 1 ((gt d.bathers i).needs.lo - 1), (gt d.bathers i).needs.hi⟩, (gt d.bathers i).hours⟩ : Bather)) (i := i) (j := 0) rfl hi (by decide) rfl)) rfl ?_
                        refine WH.one (i := 8) (by kernel_rfl) (WHo.yd rfl (Yd.load1 Try.isAgg3 rfl (Rd.flatSet batherC_len (k := 0) (l := d.bathers) (y := (⟨⟨max 1 ((gt d.bathers i).needs.lo - 1), (gt d.bathers i).needs.hi⟩, (gt d.bathers i).hours⟩ : Bather)) (i := i) (j := 1) rfl hi (by decide) rfl)) rfl ?_)
                        refine WH.yd (i := 9) (by kernel_rfl) (fun _ o v c a w _ h => (QuietPanic.blk (QuietPanic.then QuietPanic.body)) c o.dst v a w h) rfl (Yd.sub rfl rfl (wr64 ⟨by (try dsimp only); omega, by (try dsimp only); omega⟩)) rfl ?_
                        refine WH.yd (i := 10) (by kernel_rfl) (fun _ o v c a w _ h => (QuietPanic.blk (QuietPanic.then QuietPanic.body)) c o.dst v a w h) rfl (Yd.max2 rfl rfl) rfl ?_
                        refine WH.yd (i := 11) (by kernel_rfl) (fun _ o v c a w _ h => (QuietPanic.blk (QuietPanic.then QuietPanic.body)) c o.dst v a w h) rfl (Yd.nilCheck rfl) rfl ?_
                        refine WH.yd (i := 12) (by kernel_rfl) (fun _ o v c a w _ h => (QuietPanic.blk (QuietPanic.then QuietPanic.body)) c o.dst v a w h) rfl (Yd.fieldAddr FA35_1 rfl) rfl ?_
                        refine WH.one (i := 13) (by kernel_rfl) (WHo.so rfl (SO.storeFlat batherC_len (l := d.bathers.set i (⟨⟨max 1 ((gt d.bathers i).needs.lo - 1), (gt d.bathers i).needs.hi⟩, (gt d.bathers i).hours⟩ : Bather)) (rest := u2.rest) (i := i) (j := 1) (y := (⟨⟨max 1 ((gt d.bathers i).needs.lo - 1), max (max 1 ((gt d.bathers i).needs.lo - 1)) ((gt d.bathers i).needs.hi - 1)⟩, (gt d.bathers i).hours⟩ : Bather)) 0 rfl Try.sizeOf3 rfl rfl rfl (by rw [List.length_set]; exact hi) (by decide) rfl (splice_flat batherC_len (by decide) _ _ _ (by rw [List.length_set]; exact hi) (by rw [gt_setQ _ _ _ _ hi, if_pos rfl]; rfl))) rfl ?_)
                        rintro _ _ _ ⟨rfl, rfl, rfl⟩
                        refine ⟨(fun _ hI => hI.drop 2), ?_⟩
                        refine WH.nil (by kernel_rfl) ?_
                        refine WP.blkNormal ?_
                        exact WP.join ((⟨d.hours, d.dippers, d.bathers.set i (⟨⟨max 1 ((gt d.bathers i).needs.lo - 1), max (max 1 ((gt d.bathers i).needs.lo - 1)) ((gt d.bathers i).needs.hi - 1)⟩, (gt d.bathers i).hours⟩ : Bather)⟩, u1, u2, d.dippers.length, d.bathers.length, (d.dippers.flatMap dipperC), (((d.bathers.set i (⟨⟨max 1 ((gt d.bathers i).needs.lo - 1), (gt d.bathers i).needs.hi⟩, (gt d.bathers i).hours⟩ : Bather)).set i (⟨⟨max 1 ((gt d.bathers i).needs.lo - 1), max (max 1 ((gt d.bathers i).needs.lo - 1)) ((gt d.bathers i).needs.hi - 1)⟩, (gt d.bathers i).hours⟩ : Bather)).flatMap batherC)) : Dips × Ow × Ow × Nat × Nat × List Value × List Value) ⟨bet_bath d i _ (by show max 1 (_ - 1) ≤ _; omega) (by show max (max 1 (_ - 1)) (_ - 1) ≤ _; omega) (fun _ h => h), hu1, hu2, rfl, by simp, rfl, by rw [List.set_set], by simp; try omega⟩ (fun aa ww h => at_fr h ⟨rfl, rfl, rfl, trivial⟩)
                      · refine WHo.yd rfl (Yd.load1 Try.isAgg3 rfl (Rd.flatSet batherC_len (k := 0) (l := d.bathers) (y := (⟨⟨max 1 ((gt d.bathers i).needs.lo - 1), (gt d.bathers i).needs.hi⟩, (gt d.bathers i).hours⟩ : Bather)) (i := i) (j := 1) rfl hi (by decide) rfl)) rfl ?_
                        refine WH.yd (i := 9) (by kernel_rfl) (fun _ o v c a w _ h => (QuietPanic.blk (QuietPanic.then QuietPanic.body)) c o.dst v a w h) rfl (Yd.sub rfl rfl (wr64 ⟨by (try dsimp only); omega, by (try dsimp only); omega⟩)) rfl ?_
                        refine WH.one (i := 4) (by kernel_rfl) (WHo.yd rfl (Yd.load1 Try.isAgg3 rfl (Rd.flatSet batherC_len (k := 0) (l := d.bathers) (y := (⟨⟨max 1 ((gt d.bathers i).needs.lo - 1), (gt d.bathers i).needs.hi⟩, (gt d.bathers i).hours⟩ : Bather)) (i := i) (j := 0) rfl hi (by decide) rfl)) rfl ?_)
                        refine WH.yd (i := 10) (by kernel_rfl) (fun _ o v c a w _ h => (QuietPanic.blk (QuietPanic.then QuietPanic.body)) c o.dst v a w h) rfl (Yd.max2 rfl rfl) rfl ?_
                        refine WH.yd (i := 11) (by kernel_rfl) (fun _ o v c a w _ h => (QuietPanic.blk (QuietPanic.then QuietPanic.body)) c o.dst v a w h) rfl (Yd.nilCheck rfl) rfl ?_
                        refine WH.yd (i := 12) (by kernel_rfl) (fun _ o v c a w _ h => (QuietPanic.blk (QuietPanic.then QuietPanic.body)) c o.dst v a w h) rfl (Yd.fieldAddr FA35_1 rfl) rfl ?_
                        refine WH.one (i := 13) (by kernel_rfl) (WHo.so rfl (SO.storeFlat batherC_len (l := d.bathers.set i (⟨⟨max 1 ((gt d.bathers i).needs.lo - 1), (gt d.bathers i).needs.hi⟩, (gt d.bathers i).hours⟩ : Bather)) (rest := u2.rest) (i := i) (j := 1) (y := (⟨⟨max 1 ((gt d.bathers i).needs.lo - 1), max (max 1 ((gt d.bathers i).needs.lo - 1)) ((gt d.bathers i).needs.hi - 1)⟩, (gt d.bathers i).hours⟩ : Bather)) 0 rfl Try.sizeOf3 rfl rfl rfl (by rw [List.length_set]; exact hi) (by decide) rfl (splice_flat batherC_len (by decide) _ _ _ (by rw [List.length_set]; exact hi) (by rw [gt_setQ _ _ _ _ hi, if_pos rfl]; rfl))) rfl ?_)
                        rintro _ _ _ ⟨rfl, rfl, rfl⟩
                        refine ⟨(fun _ hI => hI.drop 2), ?_⟩
                        refine WH.nil (by kernel_rfl) ?_
                        refine WP.blkNormal ?_
                        exact WP.join ((⟨d.hours, d.dippers, d.bathers.set i (⟨⟨max 1 ((gt d.bathers i).needs.lo - 1), max (max 1 ((gt d.bathers i).needs.lo - 1)) ((gt d.bathers i).needs.hi - 1)⟩, (gt d.bathers i).hours⟩ : Bather)⟩, u1, u2, d.dippers.length, d.bathers.length, (d.dippers.flatMap dipperC), (((d.bathers.set i (⟨⟨max 1 ((gt d.bathers i).needs.lo - 1), (gt d.bathers i).needs.hi⟩, (gt d.bathers i).hours⟩ : Bather)).set i (⟨⟨max 1 ((gt d.bathers i).needs.lo - 1), max (max 1 ((gt d.bathers i).needs.lo - 1)) ((gt d.bathers i).needs.hi - 1)⟩, (gt d.bathers i).hours⟩ : Bather)).flatMap batherC)) : Dips × Ow × Ow × Nat × Nat × List Value × List Value) ⟨bet_bath d i _ (by show max 1 (_ - 1) ≤ _; omega) (by show max (max 1 (_ - 1)) (_ - 1) ≤ _; omega) (fun _ h => h), hu1, hu2, rfl, by simp, rfl, by rw [List.set_set], by simp; try omega⟩ (fun aa ww h => at_fr h ⟨rfl, rfl, rfl, trivial⟩)
                    · try simp only [zq1, zq2, zq3, zq4, zq5, zq6, zq7, zq8] at c141
                      refine WC.seq ?_
                      refine WC.ofFr [(10, _), (3, _), (4, _), (9, _)] ⟨rfl, rfl, rfl, rfl, trivial⟩ ?_
                      refine WC.region ?_
                      refine WL.yd (Yd.fieldAddr FA25_2 rfl) rfl ?_
                      refine WL.yd (Yd.load1 Try.isAgg23 rfl (by first | exact Rd.own (k := 0) rfl rfl | exact Rd.own (k := 1) rfl rfl | exact Rd.own (k := 2) rfl rfl | exact Rd.own (k := 3) rfl rfl | exact Rd.own (k := 4) rfl rfl)) rfl ?_
                      refine WL.yd (Yd.lenS rfl Try.underlying23 rfl) rfl ?_
                      refine WL.yd (Yd.gtr rfl rfl) rfl ?_
                      refine WL.yd (Yd.assign rfl) rfl ?_
                      refine WL.nil ?_
                      refine WP.thenC ?_
                      refine WC.cond rfl (fun c183 => ?_) (fun c183 => ?_)
                      · try simp only [zq1, zq2, zq3, zq4, zq5, zq6, zq7, zq8] at c183
                        refine WC.ofFr [(10, _), (3, _), (4, _), (9, _)] ⟨rfl, rfl, rfl, rfl, trivial⟩ ?_
                        refine WC.drawH [_, _, _] (by kernel_rfl) (fun _ hI => hI.drop 2) ?_
                        refine WH.yd (i := 0) (by kernel_rfl) (fun _ o v c a w _ h => (QuietPanic.blk (QuietPanic.then QuietPanic.body)) c o.dst v a w h) rfl (Yd.fieldAddr FA25_2 rfl) rfl ?_
                        refine WH.yd (i := 1) (by kernel_rfl) (fun _ o v c a w _ h => (QuietPanic.blk (QuietPanic.then QuietPanic.body)) c o.dst v a w h) rfl (Yd.load1 Try.isAgg23 rfl (by first | exact Rd.own (k := 0) rfl rfl | exact Rd.own (k := 1) rfl rfl | exact Rd.own (k := 2) rfl rfl | exact Rd.own (k := 3) rfl rfl | exact Rd.own (k := 4) rfl rfl)) rfl ?_
                        refine WH.yd (i := 2) (by kernel_rfl) (fun _ o v c a w _ h => (QuietPanic.blk (QuietPanic.then QuietPanic.body)) c o.dst v a w h) rfl (Yd.move rfl) rfl ?_
                        refine WH.yd (i := 3) (by kernel_rfl) (fun _ o v c a w _ h => (QuietPanic.blk (QuietPanic.then QuietPanic.body)) c o.dst v a w h) rfl (Yd.conv Try.underlying5 Try.underlying3 rfl (wr64 ⟨by omega, by omega⟩)) rfl ?_
                        refine WH.yd (i := 4) (by kernel_rfl) (fun _ o v c a w _ h => (QuietPanic.blk (QuietPanic.then QuietPanic.body)) c o.dst v a w h) rfl (Yd.fieldAddr FA25_2 rfl) rfl ?_
                        refine WH.yd (i := 5) (by kernel_rfl) (fun _ o v c a w _ h => (QuietPanic.blk (QuietPanic.then QuietPanic.body)) c o.dst v a w h) rfl (Yd.load1 Try.isAgg23 rfl (by first | exact Rd.own (k := 0) rfl rfl | exact Rd.own (k := 1) rfl rfl | exact Rd.own (k := 2) rfl rfl | exact Rd.own (k := 3) rfl rfl | exact Rd.own (k := 4) rfl rfl)) rfl ?_
                        refine WH.yd (i := 6) (by kernel_rfl) (fun _ o v c a w _ h => (QuietPanic.blk (QuietPanic.then QuietPanic.body)) c o.dst v a w h) rfl (Yd.lenS rfl Try.underlying23 rfl) rfl ?_
                        refine WH.yd (i := 7) (by kernel_rfl) (fun _ o v c a w _ h => (QuietPanic.blk (QuietPanic.then QuietPanic.body)) c o.dst v a w h) rfl (Yd.remN (i := b) (j := d.bathers.length) rfl rfl (by omega)) rfl ?_
                        generalize hib : b % d.bathers.length = i
                        have hi : i < d.bathers.length := by rw [← hib]; exact Nat.mod_lt _ (by omega)
                        have hdi := hnum.2.2.2.2 i hi
                        refine WH.yd (i := 8) (by kernel_rfl) (fun _ o v c a w _ h => (QuietPanic.blk (QuietPanic.then QuietPanic.body)) c o.dst v a w h) rfl (Yd.indexS Try.underlying23 Try.sizeOf55 rfl rfl (by omega) (by omega) (by first | exact rfl)) rfl ?_
                        refine WH.yd (i := 9) (by kernel_rfl) (fun _ o v c a w _ h => (QuietPanic.blk (QuietPanic.then QuietPanic.body)) c o.dst v a w h) rfl (Yd.fieldAddr FA55_1 rfl) rfl ?_
                        refine WH.yd (i := 11) (by kernel_rfl) (fun _ o v c a w _ h => (QuietPanic.blk (QuietPanic.then QuietPanic.body)) c o.dst v a w h) rfl (Yd.move rfl) rfl ?_
                        refine WH.yd (i := 12) (by kernel_rfl) (fun _ o v c a w _ h => (QuietPanic.blk (QuietPanic.then QuietPanic.body)) c o.dst v a w h) rfl (Yd.conv Try.underlying5 Try.underlying3 rfl (wr64 ⟨by omega, by omega⟩)) rfl ?_
                        refine WH.yd (i := 13) (by kernel_rfl) (fun _ o v c a w _ h => (QuietPanic.blk (QuietPanic.then QuietPanic.body)) c o.dst v a w h) rfl (Yd.quoN (i := b) (j := 8) rfl rfl (by omega) (by omega)) rfl ?_
                        refine WH.yd (i := 14) (by kernel_rfl) (fun _ o v c a w _ h => (QuietPanic.blk (QuietPanic.then QuietPanic.body)) c o.dst v a w h) rfl (Yd.move rfl) rfl ?_
                        refine WH.yd (i := 15) (by kernel_rfl) (fun _ o v c a w _ h => (QuietPanic.blk (QuietPanic.then QuietPanic.body)) c o.dst v a w h) rfl (Yd.andM (n := d.hours.toNat) (by omega) (by omega) rfl rfl) rfl ?_
                        refine WH.one (i := 10) (by kernel_rfl) (WHo.yd rfl (Yd.load1 Try.isAgg3 rfl (Rd.flat batherC_len (k := 0) (l := d.bathers) (i := i) (j := 2) rfl hi (by decide) rfl)) rfl ?_)
                        refine WH.yd (i := 16) (by kernel_rfl) (fun _ o v c a w _ h => (QuietPanic.blk (QuietPanic.then QuietPanic.body)) c o.dst v a w h) rfl (Yd.orI (by omega) (by omega) (by omega) rfl rfl) rfl ?_
                        refine WH.yd (i := 17) (by kernel_rfl) (fun _ o v c a w _ h => (QuietPanic.blk (QuietPanic.then QuietPanic.body)) c o.dst v a w h) rfl (Yd.indexS Try.underlying23 Try.sizeOf55 rfl rfl (by omega) (by omega) (by first | exact rfl)) rfl ?_
                        refine WH.yd (i := 18) (by kernel_rfl) (fun _ o v c a w _ h => (QuietPanic.blk (QuietPanic.then QuietPanic.body)) c o.dst v a w h) rfl (Yd.fieldAddr FA55_1 rfl) rfl ?_
                        refine WH.one (i := 19) (by kernel_rfl) (WHo.so rfl (SO.storeFlat batherC_len (l := d.bathers) (rest := u2.rest) (i := i) (j := 2) (y := (⟨(gt d.bathers i).needs, orI (gt d.bathers i).hours (b / 8 % 2 ^ d.hours.toNat)⟩ : Bather)) 0 rfl Try.sizeOf3 rfl rfl rfl hi (by decide) rfl (splice_flat batherC_len (by decide) _ _ _ hi rfl)) rfl ?_)
                        rintro _ _ _ ⟨rfl, rfl, rfl⟩
                        refine ⟨(fun _ hI => hI.drop 2), ?_⟩
                        refine WH.nil (by kernel_rfl) ?_
                        refine WP.blkNormal ?_
                        exact WP.join ((⟨d.hours, d.dippers, d.bathers.set i (⟨(gt d.bathers i).needs, orI (gt d.bathers i).hours (b / 8 % 2 ^ d.hours.toNat)⟩ : Bather)⟩, u1, u2, d.dippers.length, d.bathers.length, (d.dippers.flatMap dipperC), ((d.bathers.set i (⟨(gt d.bathers i).needs, orI (gt d.bathers i).hours (b / 8 % 2 ^ d.hours.toNat)⟩ : Bather)).flatMap batherC)) : Dips × Ow × Ow × Nat × Nat × List Value × List Value) ⟨bet_bath d i _ (Int.le_refl _) (Int.le_refl _) (fun h hh => orI_has (by omega) _ h hh), hu1, hu2, rfl, by simp, rfl, rfl, by simp; try omega⟩ (fun aa ww h => at_fr h ⟨rfl, rfl, rfl, trivial⟩)
                      · try simp only [zq1, zq2, zq3, zq4, zq5, zq6, zq7, zq8] at c183
                        refine WC.skip ?_
                        refine WP.blkNormal ?_
                        exact WP.join ((⟨d.hours, d.dippers, d.bathers⟩, u1, u2, d.dippers.length, d.bathers.length, (d.dippers.flatMap dipperC), (d.bathers.flatMap batherC)) : Dips × Ow × Ow × Nat × Nat × List Value × List Value) ⟨bet_refl d, hu1, hu2, rfl, rfl, rfl, rfl, by simp; try omega⟩ (fun aa ww h => at_fr h ⟨rfl, rfl, rfl, trivial⟩)
                  · try simp only [zq1, zq2, zq3, zq4, zq5, zq6, zq7, zq8] at g145
                    refine WL.skip rfl rfl ?_
                    refine WL.skip rfl rfl ?_
                    refine WL.skip rfl rfl ?_
                    refine WL.skip rfl rfl ?_
                    refine WL.yd (Yd.pickF rfl rfl) rfl ?_
                    refine WL.yd (Yd.assign rfl) rfl ?_
                    refine WL.nil ?_
                    refine WP.thenC ?_
                    refine WC.condF rfl ?_
                    refine WC.seq ?_
                    refine WC.ofFr [(10, _), (3, _), (4, _), (9, _)] ⟨rfl, rfl, rfl, rfl, trivial⟩ ?_
                    refine WC.region ?_
                    refine WL.yd (Yd.fieldAddr FA25_2 rfl) rfl ?_
                    refine WL.yd (Yd.load1 Try.isAgg23 rfl (by first | exact Rd.own (k := 0) rfl rfl | exact Rd.own (k := 1) rfl rfl | exact Rd.own (k := 2) rfl rfl | exact Rd.own (k := 3) rfl rfl | exact Rd.own (k := 4) rfl rfl)) rfl ?_
                    refine WL.yd (Yd.lenS rfl Try.underlying23 rfl) rfl ?_
                    refine WL.yd (Yd.gtr rfl rfl) rfl ?_
                    refine WL.yd (Yd.assign rfl) rfl ?_
                    refine WL.nil ?_
                    refine WP.thenC ?_
                    refine WC.cond rfl (fun c183 => ?_) (fun c183 => ?_)
                    · try simp only [zq1, zq2, zq3, zq4, zq5, zq6, zq7, zq8] at c183
                      refine WC.ofFr [(10, _), (3, _), (4, _), (9, _)] ⟨rfl, rfl, rfl, rfl, trivial⟩ ?_
                      refine WC.drawH [_, _, _] (by kernel_rfl) (fun _ hI => hI.drop 2) ?_
                      refine WH.yd (i := 0) (by kernel_rfl) (fun _ o v c a w _ h => (QuietPanic.blk (QuietPanic.then QuietPanic.body)) c o.dst v a w h) rfl (Yd.fieldAddr FA25_2 rfl) rfl ?_
                      refine WH.yd (i := 1) (by kernel_rfl) (fun _ o v c a w _ h => (QuietPanic.blk (QuietPanic.then QuietPanic.body)) c o.dst v a w h) rfl (Yd.load1 Try.isAgg23 rfl (by first | exact Rd.own (k := 0) rfl rfl | exact Rd.own (k := 1) rfl rfl | exact Rd.own (k := 2) rfl rfl | exact Rd.own (k := 3) rfl rfl | exact Rd.own (k := 4) rfl rfl)) rfl ?_
                      refine WH.yd (i := 2) (by kernel_rfl) (fun _ o v c a w _ h => (QuietPanic.blk (QuietPanic.then QuietPanic.body)) c o.dst v a w h) rfl (Yd.move rfl) rfl ?_
                      refine WH.yd (i := 3) (by kernel_rfl) (fun _ o v c a w _ h => (QuietPanic.blk (QuietPanic.then QuietPanic.body)) c o.dst v a w h) rfl (Yd.conv Try.underlying5 Try.underlying3 rfl (wr64 ⟨by omega, by omega⟩)) rfl ?_
                      refine WH.yd (i := 4) (by kernel_rfl) (fun _ o v c a w _ h => (QuietPanic.blk (QuietPanic.then QuietPanic.body)) c o.dst v a w h) rfl (Yd.fieldAddr FA25_2 rfl) rfl ?_
                      refine WH.yd (i := 5) (by kernel_rfl) (fun _ o v c a w _ h => (QuietPanic.blk (QuietPanic.then QuietPanic.body)) c o.dst v a w h) rfl (Yd.load1 Try.isAgg23 rfl (by first | exact Rd.own (k := 0) rfl rfl | exact Rd.own (k := 1) rfl rfl | exact Rd.own (k := 2) rfl rfl | exact Rd.own (k := 3) rfl rfl | exact Rd.own (k := 4) rfl rfl)) rfl ?_
                      refine WH.yd (i := 6) (by kernel_rfl) (fun _ o v c a w _ h => (QuietPanic.blk (QuietPanic.then QuietPanic.body)) c o.dst v a w h) rfl (Yd.lenS rfl Try.underlying23 rfl) rfl ?_
                      refine WH.yd (i := 7) (by kernel_rfl) (fun _ o v c a w _ h => (QuietPanic.blk (QuietPanic.then QuietPanic.body)) c o.dst v a w h) rfl (Yd.remN (i := b) (j := d.bathers.length) rfl rfl (by omega)) rfl ?_
                      generalize hib : b % d.bathers.length = i
                      have hi : i < d.bathers.length := by rw [← hib]; exact Nat.mod_lt _ (by omega)
                      have hdi := hnum.2.2.2.2 i hi
                      refine WH.yd (i := 8) (by kernel_rfl) (fun _ o v c a w _ h => (QuietPanic.blk (QuietPanic.then QuietPanic.body)) c o.dst v a w h) rfl (Yd.indexS Try.underlying23 Try.sizeOf55 rfl rfl (by omega) (by omega) (by first | exact rfl)) rfl ?_
                      refine WH.yd (i := 9) (by kernel_rfl) (fun _ o v c a w _ h => (QuietPanic.blk (QuietPanic.then QuietPanic.body)) c o.dst v a w h) rfl (Yd.fieldAddr FA55_1 rfl) rfl ?_
                      refine WH.yd (i := 11) (by kernel_rfl) (fun _ o v c a w _ h => (QuietPanic.blk (QuietPanic.then QuietPanic.body)) c o.dst v a w h) rfl (Yd.move rfl) rfl ?_
                      refine WH.yd (i := 12) (by kernel_rfl) (fun _ o v c a w _ h => (QuietPanic.blk (QuietPanic.then QuietPanic.body)) c o.dst v a w h) rfl (Yd.conv Try.underlying5 Try.underlying3 rfl (wr64 ⟨by omega, by omega⟩)) rfl ?_
                      refine WH.yd (i := 13) (by kernel_rfl) (fun _ o v c a w _ h => (QuietPanic.blk (QuietPanic.then QuietPanic.body)) c o.dst v a w h) rfl (Yd.quoN (i := b) (j := 8) rfl rfl (by omega) (by omega)) rfl ?_
                      refine WH.yd (i := 14) (by kernel_rfl) (fun _ o v c a w _ h => (QuietPanic.blk (QuietPanic.then QuietPanic.body)) c o.dst v a w h) rfl (Yd.move rfl) rfl ?_
                      refine WH.yd (i := 15) (by kernel_rfl) (fun _ o v c a w _ h => (QuietPanic.blk (QuietPanic.then QuietPanic.body)) c o.dst v a w h) rfl (Yd.andM (n := d.hours.toNat) (by omega) (by omega) rfl rfl) rfl ?_
                      refine WH.one (i := 10) (by kernel_rfl) (WHo.yd rfl (Yd.load1 Try.isAgg3 rfl (Rd.flat batherC_len (k := 0) (l := d.bathers) (i := i) (j := 2) rfl hi (by decide) rfl)) rfl ?_)
                      refine WH.yd (i := 16) (by kernel_rfl) (fun _ o v c a w _ h => (QuietPanic.blk (QuietPanic.then QuietPanic.body)) c o.dst v a w h) rfl (Yd.orI (by omega) (by omega) (by omega) rfl rfl) rfl ?_
                      refine WH.yd (i := 17) (by kernel_rfl) (fun _ o v c a w _ h => (QuietPanic.blk (QuietPanic.then QuietPanic.body)) c o.dst v a w h) rfl (Yd.indexS Try.underlying23 Try.sizeOf55 rfl rfl (by omega) (by omega) (by first | exact rfl)) rfl ?_
                      refine WH.yd (i := 18) (by kernel_rfl) (fun _ o v c a w _ h => (QuietPanic.blk (QuietPanic.then QuietPanic.body)) c o.dst v a w h) rfl (Yd.fieldAddr FA55_1 rfl) rfl ?_
                      refine WH.one (i := 19) (by kernel_rfl) (WHo.so rfl (SO.storeFlat batherC_len (l := d.bathers) (rest := u2.rest) (i := i) (j := 2) (y := (⟨(gt d.bathers i).needs, orI (gt d.bathers i).hours (b / 8 % 2 ^ d.hours.toNat)⟩ : Bather)) 0 rfl Try.sizeOf3 rfl rfl rfl hi (by decide) rfl (splice_flat batherC_len (by decide) _ _ _ hi rfl)) rfl ?_)
                      rintro _ _ _ ⟨rfl, rfl, rfl⟩
                      refine ⟨(fun _ hI => hI.drop 2), ?_⟩
                      refine WH.nil (by kernel_rfl) ?_
                      refine WP.blkNormal ?_
                      exact WP.join ((⟨d.hours, d.dippers, d.bathers.set i (⟨(gt d.bathers i).needs, orI (gt d.bathers i).hours (b / 8 % 2 ^ d.hours.toNat)⟩ : Bather)⟩, u1, u2, d.dippers.length, d.bathers.length, (d.dippers.flatMap dipperC), ((d.bathers.set i (⟨(gt d.bathers i).needs, orI (gt d.bathers i).hours (b / 8 % 2 ^ d.hours.toNat)⟩ : Bather)).flatMap batherC)) : Dips × Ow × Ow × Nat × Nat × List Value × List Value) ⟨bet_bath d i _ (Int.le_refl _) (Int.le_refl _) (fun h hh => orI_has (by omega) _ h hh), hu1, hu2, rfl, by simp, rfl, rfl, by simp; try omega⟩ (fun aa ww h => at_fr h ⟨rfl, rfl, rfl, trivial⟩)
                    · try simp only [zq1, zq2, zq3, zq4, zq5, zq6, zq7, zq8] at c183
                      refine WC.skip ?_
                      refine WP.blkNormal ?_
                      exact WP.join ((⟨d.hours, d.dippers, d.bathers⟩, u1, u2, d.dippers.length, d.bathers.length, (d.dippers.flatMap dipperC), (d.bathers.flatMap batherC)) : Dips × Ow × Ow × Nat × Nat × List Value × List Value) ⟨bet_refl d, hu1, hu2, rfl, rfl, rfl, rfl, by simp; try omega⟩ (fun aa ww h => at_fr h ⟨rfl, rfl, rfl, trivial⟩)
              · try simp only [zq1, zq2, zq3, zq4, zq5, zq6, zq7, zq8] at g116
                refine WL.skip rfl rfl ?_
                refine WL.skip rfl rfl ?_
                refine WL.skip rfl rfl ?_
                refine WL.skip rfl rfl ?_
                refine WL.yd (Yd.pickF rfl rfl) rfl ?_
                refine WL.yd (Yd.assign rfl) rfl ?_
                refine WL.nil ?_
                refine WP.thenC ?_
                refine WC.condF rfl ?_
                refine WC.seq ?_
                refine WC.ofFr [(10, _), (2, _), (3, _), (4, _), (9, _)] ⟨rfl, rfl, rfl, rfl, rfl, trivial⟩ ?_
                refine WC.region ?_
                refine WL.yd (Yd.move rfl) rfl ?_
                refine WL.yd (Yd.rem rfl rfl (by omega) (by omega)) rfl ?_
                refine WL.yd (Yd.eql rfl rfl) rfl ?_
                refine WL.yd (Yd.move rfl) rfl ?_
                refine WL.part 145 rfl (fun g145 => ?_) (fun g145 => ?_)
                · try simp only [zq1, zq2, zq3, zq4, zq5, zq6, zq7, zq8] at g145
                  refine WL.ydg rfl (Yd.fieldAddr FA25_2 rfl) rfl ?_
                  refine WL.ydg rfl (Yd.load1 Try.isAgg23 rfl (by first | exact Rd.own (k := 0) rfl rfl | exact Rd.own (k := 1) rfl rfl | exact Rd.own (k := 2) rfl rfl | exact Rd.own (k := 3) rfl rfl | exact Rd.own (k := 4) rfl rfl)) rfl ?_
                  refine WL.ydg rfl (Yd.lenS rfl Try.underlying23 rfl) rfl ?_
                  refine WL.ydg rfl (Yd.gtr rfl rfl) rfl ?_
                  refine WL.yd (Yd.pickT rfl rfl) rfl ?_
                  refine WL.yd (Yd.assign rfl) rfl ?_
                  refine WL.nil ?_
                  refine WP.thenC ?_
                  refine WC.cond rfl (fun c141 => ?_) (fun c141 => ?_)
                  · try simp only [zq1, zq2, zq3, zq4, zq5, zq6, zq7, zq8] at c141
                    refine WC.seq ?_
                    refine WC.ofFr [(3, _), (4, _), (9, _)] ⟨rfl, rfl, rfl, trivial⟩ ?_
                    refine WC.tail 8 [0, 1, 2, 3, 4, 5, 6, 7] rfl (by kernel_rfl) (by kernel_rfl)  ?_
                    refine WQ.q rfl (Yd.qt (Yd.fieldAddr FA25_2 rfl)) rfl ?_
                    refine WQ.q rfl (Yd.qt (Yd.load1 Try.isAgg23 rfl (by first | exact Rd.own (k := 0) rfl rfl | exact Rd.own (k := 1) rfl rfl | exact Rd.own (k := 2) rfl rfl | exact Rd.own (k := 3) rfl rfl | exact Rd.own (k := 4) rfl rfl))) rfl ?_
                    refine WQ.q rfl (Yd.qt (Yd.move rfl)) rfl ?_
                    refine WQ.q rfl (Yd.qt (Yd.conv Try.underlying5 Try.underlying3 rfl (wr64 ⟨by omega, by omega⟩))) rfl ?_
                    refine WQ.q rfl (Yd.qt (Yd.fieldAddr FA25_2 rfl)) rfl ?_
                    refine WQ.q rfl (Yd.qt (Yd.load1 Try.isAgg23 rfl (by first | exact Rd.own (k := 0) rfl rfl | exact Rd.own (k := 1) rfl rfl | exact Rd.own (k := 2) rfl rfl | exact Rd.own (k := 3) rfl rfl | exact Rd.own (k := 4) rfl rfl))) rfl ?_
                    refine WQ.q rfl (Yd.qt (Yd.lenS rfl Try.underlying23 rfl)) rfl ?_
                    refine WQ.q rfl (Yd.qt (Yd.remN (i := b) (j := d.bathers.length) rfl rfl (by omega))) rfl ?_
                    refine WQ.tail ?_
                    generalize hib : b % d.bathers.length = i
                    have hi : i < d.bathers.length := by rw [← hib]; exact Nat.mod_lt _ (by omega)
                    have hdi := hnum.2.2.2.2 i hi
                    refine WL.yd (Yd.indexS Try.underlying23 Try.sizeOf55 rfl rfl (by omega) (by omega) (by first | exact rfl)) rfl ?_
                    refine WL.yd (Yd.fieldAddr FA55_0 rfl) rfl ?_
                    refine WL.yd (Yd.assign rfl) rfl ?_
                    refine WL.nil ?_
                    refine WP.thenC ?_
                    refine WC.seq ?_
                    refine WC.ofFr [(12, _), (3, _), (4, _), (9, _)] ⟨rfl, rfl, rfl, rfl, trivial⟩ ?_
                    refine WC.region ?_
                    refine WL.yd (Yd.move rfl) rfl ?_
                    refine WL.yd (Yd.move rfl) rfl ?_
                    refine WL.yd (Yd.nilCheck rfl) rfl ?_
                    refine WL.yd (Yd.fieldAddr FA35_0 rfl) rfl ?_
                    refine WL.yd (Yd.load1 Try.isAgg3 rfl (Rd.flat batherC_len (k := 0) (l := d.bathers) (i := i) (j := 0) rfl hi (by decide) rfl)) rfl ?_
                    refine WL.yd (Yd.sub rfl rfl (wr64 ⟨by omega, by omega⟩)) rfl ?_
                    refine WL.yd (Yd.max2 rfl rfl) rfl ?_
                    refine WL.yd (Yd.nilCheck rfl) rfl ?_
                    refine WL.yd (Yd.fieldAddr FA35_0 rfl) rfl ?_
                    refine WL.so (SO.storeFlat batherC_len (l := d.bathers) (rest := u2.rest) (i := i) (j := 0) (y := (⟨⟨max 1 ((gt d.bathers i).needs.lo - 1), (gt d.bathers i).needs.hi⟩, (gt d.bathers i).hours⟩ : Bather)) 0 rfl Try.sizeOf3 rfl rfl rfl hi (by decide) rfl (splice_flat batherC_len (by decide) _ _ _ hi rfl)) rfl ?_
                    rintro _ _ _ ⟨rfl, rfl, rfl⟩
                    refine WL.nil ?_
                    refine WP.thenC ?_
                    refine WC.ofFr [(12, _), (3, _), (4, _), (9, _)] ⟨rfl, rfl, rfl, rfl, trivial⟩ ?_
                    refine WC.drawH [_, _, _] (by kernel_rfl) (fun _ hI => hI.drop 2) ?_
                    refine WH.yd (i := 0) (by kernel_rfl) (fun _ o v c a w _ h => (QuietPanic.blk (QuietPanic.then QuietPanic.body)) c o.dst v a w h) rfl (Yd.move rfl) rfl ?_
                    refine WH.yd (i := 1) (by kernel_rfl) (fun _ o v c a w _ h => (QuietPanic.blk (QuietPanic.then QuietPanic.body)) c o.dst v a w h) rfl (Yd.move rfl) rfl ?_
                    refine WH.yd (i := 2) (by kernel_rfl) (fun _ o v c a w _ h => (QuietPanic.blk (QuietPanic.then QuietPanic.body)) c o.dst v a w h) rfl (Yd.nilCheck rfl) rfl ?_
                    refine WH.yd (i := 3) (by kernel_rfl) (fun _ o v c a w _ h => (QuietPanic.blk (QuietPanic.then QuietPanic.body)) c o.dst v a w h) rfl (Yd.fieldAddr FA35_0 rfl) rfl ?_
                    refine WH.yd (i := 5) (by kernel_rfl) (fun _ o v c a w _ h => (QuietPanic.blk (QuietPanic.then QuietPanic.body)) c o.dst v a w h) rfl (Yd.move rfl) rfl ?_
                    refine WH.yd (i := 6) (by kernel_rfl) (fun _ o v c a w _ h => (QuietPanic.blk (QuietPanic.then QuietPanic.body)) c o.dst v a w h) rfl (Yd.nilCheck rfl) rfl ?_
                    refine WH.yd (i := 7) (by kernel_rfl) (fun _ o v c a w _ h => (QuietPanic.blk (QuietPanic.then QuietPanic.body)) c o.dst v a w h) rfl (Yd.fieldAddr FA35_1 rfl) rfl ?_
                    refine WH.two (i := 4) (j := 8) (by kernel_rfl) ?_ ?_
                    · refine WHo.yd rfl (Yd.load1 Try.isAgg3 rfl (Rd.flatSet batherC_len (k := 0) (l := d.bathers) (y := (⟨⟨max 1 ((gt d.bathers i).needs.lo - 1), (gt d.bathers i).needs.hi⟩, (gt d.bathers i).hours⟩ : Bather)) (i := i) (j := 0) rfl hi (by decide) rfl)) rfl ?_
                      refine WH.one (i := 8) (by kernel_rfl) (WHo.yd rfl (Yd.load1 Try.isAgg3 rfl (Rd.flatSet batherC_len (k := 0) (l := d.bathers) (y := (⟨⟨max 1 ((gt d.bathers i).needs.lo - 1), (gt d.bathers i).needs.hi⟩, (gt d.bathers i).hours⟩ : Bather)) (i := i) (j := 1) rfl hi (by decide) rfl)) rfl ?_)
                      refine WH.yd (i := 9) (by kernel_rfl) (fun _ o v c a w _ h => (QuietPanic.blk (QuietPanic.then QuietPanic.body)) c o.dst v a w h) rfl (Yd.sub rfl rfl (wr64 ⟨by (try dsimp only); omega, by (try dsimp only); omega⟩)) rfl ?_
                      refine WH.yd (i := 10) (by kernel_rfl) (fun _ o v c a w _ h => (QuietPanic.blk (QuietPanic.then QuietPanic.body)) c o.dst v a w h) rfl (Yd.max2 rfl rfl) rfl ?_
                      refine WH.yd (i := 11) (by kernel_rfl) (fun _ o v c a w _ h => (QuietPanic.blk (QuietPanic.then QuietPanic.body)) c o.dst v a w h) rfl (Yd.nilCheck rfl) rfl ?_
                      refine WH.yd (i := 12) (by kernel_rfl) (fun _ o v c a w _ h => (QuietPanic.blk (QuietPanic.then QuietPanic.body)) c o.dst v a w h) rfl (Yd.fieldAddr FA35_1 rfl) rfl ?_
                      refine WH.one (i := 13) (by kernel_rfl) (WHo.so rfl (SO.storeFlat batherC_len (l := d.bathers.set i (⟨⟨max 1 ((gt d.bathers i).needs.lo - 1), (gt d.bathers i).needs.hi⟩, (gt d.bathers i).hours⟩ : Bather)) (rest := u2.rest) (i := i) (j := 1) (y := (⟨⟨max 1 ((gt d.bathers i).needs.lo - 1), max (max 1 ((gt d.bathers i).needs.lo - 1)) ((gt d.bathers i).needs.hi - 1)⟩, (gt d.bathers i).hours⟩ : Bather)) 0 rfl Try.sizeOf3 rfl rfl rfl (by rw [List.length_set]; exact hi) (by decide) rfl (splice_flat batherC_len (by decide) _ _ _ (by rw [List.length_set]; exact hi) (by rw [gt_setQ _ _ _ _ hi, if_pos rfl]; rfl))) rfl ?_)
                      rintro _ _ _ ⟨rfl, rfl, rfl⟩
                      refine ⟨(fun _ hI => hI.drop 2), ?_⟩
                      refine WH.nil (by kernel_rfl) ?_
                      refine WP.blkNormal ?_
                      exact WP.join ((⟨d.hours, d.dippers, d.bathers.set i (⟨⟨max 1 ((gt d.bathers i).needs.lo - 1), max (max 1 ((gt d.bathers i).needs.lo - 1)) ((gt d.bathers i).needs.hi - 1)⟩, (gt d.bathers i).hours⟩ : Bather)⟩, u1, u2, d.dippers.length, d.bathers.length, (d.dippers.flatMap dipperC), (((d.bathers.set i (⟨⟨max 1 ((gt d.bathers i).needs.lo - 1), (gt d.bathers i).needs.hi⟩, (gt d.bathers i).hours⟩ : Bather)).set i (⟨⟨max 1 ((gt d.bathers i).needs.lo - 1), max (max 1 ((gt d.bathers i).needs.lo - 1)) ((gt d.bathers i).needs.hi - 1)⟩, (gt d.bathers i).hours⟩ : Bather)).flatMap batherC)) : Dips × Ow × Ow × Nat × Nat × List Value × List Value) ⟨bet_bath d i _ (by show max 1 (_ - 1) ≤ _; omega) (by show max (max 1 (_ - 1)) (_ - 1) ≤ _; omega) (fun _ h => h), hu1, hu2, rfl, by simp, rfl, by rw [List.set_set], by simp; try omega⟩ (fun aa ww h => at_fr h ⟨rfl, rfl, rfl, trivial⟩)
                    · refine WHo.yd rfl (Yd.load1 Try.isAgg3 rfl (Rd.flatSet batherC_len (k := 0) (l := d.bathers) (y := (⟨⟨max 1 ((gt d.bathers i).needs.lo - 1), (gt d.bathers i).needs.hi⟩, (gt d.bathers i).hours⟩ : Bather)) (i := i) (j := 1) rfl hi (by decide) rfl)) rfl ?_
                      refine WH.yd (i := 9) (by kernel_rfl) (fun _ o v c a w _ h => (QuietPanic.blk (QuietPanic.then QuietPanic.body)) c o.dst v a w h) rfl (Yd.sub rfl rfl (wr64 ⟨by (try dsimp only); omega, by (try dsimp only); omega⟩)) rfl ?_
                      refine WH.one (i := 4) (by kernel_rfl) (WHo.yd rfl (Yd.load1 Try.isAgg3 rfl (Rd.flatSet batherC_len (k := 0) (l := d.bathers) (y := (⟨⟨max 1 ((gt d.bathers i).needs.lo - 1), (gt d.bathers i).needs.hi⟩, (gt d.bathers i).hours⟩ : Bather)) (i := i) (j := 0) rfl hi (by decide) rfl)) rfl ?_)
                      refine WH.yd (i := 10) (by kernel_rfl) (fun _ o v c a w _ h => (QuietPanic.blk (QuietPanic.then QuietPanic.body)) c o.dst v a w h) rfl (Yd.max2 rfl rfl) rfl ?_
                      refine WH.yd (i := 11) (by kernel_rfl) (fun _ o v c a w _ h => (QuietPanic.blk (QuietPanic.then QuietPanic.body)) c o.dst v a w h) rfl (Yd.nilCheck rfl) rfl ?_
                      refine WH.yd (i := 12) (by kernel_rfl) (fun _ o v c a w _ h => (QuietPanic.blk (QuietPanic.then QuietPanic.body)) c o.dst v a w h) rfl (Yd.fieldAddr FA35_1 rfl) rfl ?_
                      refine WH.one (i := 13) (by kernel_rfl) (WHo.so rfl (SO.storeFlat batherC_len (l := d.bathers.set i (⟨⟨max 1 ((gt d.bathers i).needs.lo - 1), (gt d.bathers i).needs.hi⟩, (gt d.bathers i).hours⟩ : Bather)) (rest := u2.rest) (i := i) (j := 1) (y := (⟨⟨max 1 ((gt d.bathers i).needs.lo - 1), max (max 1 ((gt d.bathers i).needs.lo - 1)) ((gt d.bathers i).needs.hi - 1)⟩, (gt d.bathers i).hours⟩ : Bather)) 0 rfl Try.sizeOf3 rfl rfl rfl (by rw [List.length_set]; exact hi) (by decide) rfl (splice_flat batherC_len (by decide) _ _ _ (by rw [List.length_set]; exact hi) (by rw [gt_setQ _ _ _ _ hi, if_pos rfl]; rfl))) rfl ?_)
                      rintro _ _ _ ⟨rfl, rfl, rfl⟩
                      refine ⟨(fun _ hI => hI.drop 2), ?_⟩
                      refine WH.nil (by kernel_rfl) ?_
                      refine WP.blkNormal ?_
                      exact WP.join ((⟨d.hours, d.dippers, d.bathers.set i (⟨⟨max 1 ((gt d.bathers i).needs.lo - 1), max (max 1 ((gt d.bathers i).needs.lo - 1)) ((gt d.bathers i).needs.hi - 1)⟩, (gt d.bathers i).hours⟩ : Bather)⟩, u1, u2, d.dippers.length, d.bathers.length, (d.dippers.flatMap dipperC), (((d.bathers.set i (⟨⟨max 1 ((gt d.bathers i).needs.lo - 1), (gt d.bathers i).needs.hi⟩, (gt d.bathers i).hours⟩ : Bather)).set i (⟨⟨max 1 ((gt d.bathers i).needs.lo - 1), max (max 1 ((gt d.bathers i).needs.lo - 1)) ((gt d.bathers i).needs.hi - 1)⟩, (gt d.bathers i).hours⟩ : Bather)).flatMap batherC)) : Dips × Ow × Ow × Nat × Nat × List Value × List Value) ⟨bet_bath d i _ (by show max 1 (_ - 1) ≤ _; omega) (by show max (max 1 (_ - 1)) (_ - 1) ≤ _; omega) (fun _ h => h), hu1, hu2, rfl, by simp, rfl, by rw [List.set_set], by simp; try omega⟩ (fun aa ww h => at_fr h ⟨rfl, rfl, rfl, trivial⟩)
                  · try simp only [zq1, zq2, zq3, zq4, zq5, zq6, zq7, zq8] at c141
                    refine WC.seq ?_
                    refine WC.ofFr [(10, _), (3, _), (4, _), (9, _)] ⟨rfl, rfl, rfl, rfl, trivial⟩ ?_
                    refine WC.region ?_
                    refine WL.yd (Yd.fieldAddr FA25_2 rfl) rfl ?_
                    refine WL.yd (Yd.load1 Try.isAgg23 rfl (by first | exact Rd.own (k := 0) rfl rfl | exact Rd.own (k := 1) rfl rfl | exact Rd.own (k := 2) rfl rfl | exact Rd.own (k := 3) rfl rfl | exact Rd.own (k := 4) rfl rfl)) rfl ?_
                    refine WL.yd (Yd.lenS rfl Try.underlying23 rfl) rfl ?_
                    refine WL.yd (Yd.gtr rfl rfl) rfl ?_
                    refine WL.yd (Yd.assign rfl) rfl ?_
                    refine WL.nil ?_
                    refine WP.thenC ?_
                    refine WC.cond rfl (fun c183 => ?_) (fun c183 => ?_)
                    · try simp only [zq1, zq2, zq3, zq4, zq5, zq6, zq7, zq8] at c183
                      refine WC.ofFr [(10, _), (3, _), (4, _), (9, _)] ⟨rfl, rfl, rfl, rfl, trivial⟩ ?_
                      refine WC.drawH [_, _, _] (by kernel_rfl) (fun _ hI => hI.drop 2) ?_
                      refine WH.yd (i := 0) (by kernel_rfl) (fun _ o v c a w _ h => (QuietPanic.blk (QuietPanic.then QuietPanic.body)) c o.dst v a w h) rfl (Yd.fieldAddr FA25_2 rfl) rfl ?_
                      refine WH.yd (i := 1) (by kernel_rfl) (fun _ o v c a w _ h => (QuietPanic.blk (QuietPanic.then QuietPanic.body)) c o.dst v a w h) rfl (Yd.load1 Try.isAgg23 rfl (by first | exact Rd.own (k := 0) rfl rfl | exact Rd.own (k := 1) rfl rfl | exact Rd.own (k := 2) rfl rfl | exact Rd.own (k := 3) rfl rfl | exact Rd.own (k := 4) rfl rfl)) rfl ?_
                      refine WH.yd (i := 2) (by kernel_rfl) (fun _ o v c a w _ h => (QuietPanic.blk (QuietPanic.then QuietPanic.body)) c o.dst v a w h) rfl (Yd.move rfl) rfl ?_
                      refine WH.yd (i := 3) (by kernel_rfl) (fun _ o v c a w _ h => (QuietPanic.blk (QuietPanic.then QuietPanic.body)) c o.dst v a w h) rfl (Yd.conv Try.underlying5 Try.underlying3 rfl (wr64 ⟨by omega, by omega⟩)) rfl ?_
                      refine WH.yd (i := 4) (by kernel_rfl) (fun _ o v c a w _ h => (QuietPanic.blk (QuietPanic.then QuietPanic.body)) c o.dst v a w h) rfl (Yd.fieldAddr FA25_2 rfl) rfl ?_
                      refine WH.yd (i := 5) (by kernel_rfl) (fun _ o v c a w _ h => (QuietPanic.blk (QuietPanic.then QuietPanic.body)) c o.dst v a w h) rfl (Yd.load1 Try.isAgg23 rfl (by first | exact Rd.own (k := 0) rfl rfl | exact Rd.own (k := 1) rfl rfl | exact Rd.own (k := 2) rfl rfl | exact Rd.own (k := 3) rfl rfl | exact Rd.own (k := 4) rfl rfl)) rfl ?_
                      refine WH.yd (i := 6) (by kernel_rfl) (fun _ o v c a w _ h => (QuietPanic.blk (QuietPanic.then QuietPanic.body)) c o.dst v a w h) rfl (Yd.lenS rfl Try.underlying23 rfl) rfl ?_
                      refine WH.yd (i := 7) (by kernel_rfl) (fun _ o v c a w _ h => (QuietPanic.blk (QuietPanic.then QuietPanic.body)) c o.dst v a w h) rfl (Yd.remN (i := b) (j := d.bathers.length) rfl rfl (by omega)) rfl ?_
                      generalize hib : b % d.bathers.length = i
                      have hi : i < d.bathers.length := by rw [← hib]; exact Nat.mod_lt _ (by omega)
                      have hdi := hnum.2.2.2.2 i hi
                      refine WH.yd (i := 8) (by kernel_rfl) (fun _ o v c a w _ h => (QuietPanic.blk (QuietPanic.then QuietPanic.body)) c o.dst v a w h) rfl (Yd.indexS Try.underlying23 Try.sizeOf55 rfl rfl (by omega) (by omega) (by first | exact rfl)) rfl ?_
                      refine WH.yd (i := 9) (by kernel_rfl) (fun _ o v c a w _ h => (QuietPanic.blk (QuietPanic.then QuietPanic.body)) c o.dst v a w h) rfl (Yd.fieldAddr FA55_1 rfl) rfl ?_
                      refine WH.yd (i := 11) (by kernel_rfl) (fun _ o v c a w _ h => (QuietPanic.blk (QuietPanic.then QuietPanic.body)) c o.dst v a w h) rfl (Yd.move rfl) rfl ?_
                      refine WH.yd (i := 12) (by kernel_rfl) (fun _ o v c a w _ h => (QuietPanic.blk (QuietPanic.then QuietPanic.body)) c o.dst v a w h) rfl (Yd.conv Try.underlying5 Try.underlying3 rfl (wr64 ⟨by omega, by omega⟩)) rfl ?_
                      refine WH.yd (i := 13) (by kernel_rfl) (fun _ o v c a w _ h => (QuietPanic.blk (QuietPanic.then QuietPanic.body)) c o.dst v a w h) rfl (Yd.quoN (i := b) (j := 8) rfl rfl (by omega) (by omega)) rfl ?_
                      refine WH.yd (i := 14) (by kernel_rfl) (fun _ o v c a w _ h => (QuietPanic.blk (QuietPanic.then QuietPanic.body)) c o.dst v a w h) rfl (Yd.move rfl) rfl ?_
                      refine WH.yd (i := 15) (by kernel_rfl) (fun _ o v c a w _ h => (QuietPanic.blk (QuietPanic.then QuietPanic.body)) c o.dst v a w h) rfl (Yd.andM (n := d.hours.toNat) (by omega) (by omega) rfl rfl) rfl ?_
                      refine WH.one (i := 10) (by kernel_rfl) (WHo.yd rfl (Yd.load1 Try.isAgg3 rfl (Rd.flat batherC_len (k := 0) (l := d.bathers) (i := i) (j := 2) rfl hi (by decide) rfl)) rfl ?_)
                      refine WH.yd (i := 16) (by kernel_rfl) (fun _ o v c a w _ h => (QuietPanic.blk (QuietPanic.then QuietPanic.body)) c o.dst v a w h) rfl (Yd.orI (by omega) (by omega) (by omega) rfl rfl) rfl ?_
                      refine WH.yd (i := 17) (by kernel_rfl) (fun _ o v c a w _ h => (QuietPanic.blk (QuietPanic.then QuietPanic.body)) c o.dst v a w h) rfl (Yd.indexS Try.underlying23 Try.sizeOf55 rfl rfl (by omega) (by omega) (by first | exact rfl)) rfl ?_
                      refine WH.yd (i := 18) (by kernel_rfl) (fun _ o v c a w _ h => (QuietPanic.blk (QuietPanic.then QuietPanic.body)) c o.dst v a w h) rfl (Yd.fieldAddr FA55_1 rfl) rfl ?_
                      refine WH.one (i := 19) (by kernel_rfl) (WHo.so rfl (SO.storeFlat batherC_len (l := d.bathers) (rest := u2.rest) (i := i) (j := 2) (y := (⟨(gt d.bathers i).needs, orI (gt d.bathers i).hours (b / 8 % 2 ^ d.hours.toNat)⟩ : Bather)) 0 rfl Try.sizeOf3 rfl rfl rfl hi (by decide) rfl (splice_flat batherC_len (by decide) _ _ _ hi rfl)) rfl ?_)
                      rintro _ _ _ ⟨rfl, rfl, rfl⟩
                      refine ⟨(fun _ hI => hI.drop 2), ?_⟩
                      refine WH.nil (by kernel_rfl) ?_
                      refine WP.blkNormal ?_
                      exact WP.join ((⟨d.hours, d.dippers, d.bathers.set i (⟨(gt d.bathers i).needs, orI (gt d.bathers i).hours (b / 8 % 2 ^ d.hours.toNat)⟩ : Bather)⟩, u1, u2, d.dippers.length, d.bathers.length, (d.dippers.flatMap dipperC), ((d.bathers.set i (⟨(gt d.bathers i).needs, orI (gt d.bathers i).hours (b / 8 % 2 ^ d.hours.toNat)⟩ : Bather)).flatMap batherC)) : Dips × Ow × Ow × Nat × Nat × List Value × List Value) ⟨bet_bath d i _ (Int.le_refl _) (Int.le_refl _) (fun h hh => orI_has (by omega) _ h hh), hu1, hu2, rfl, by simp, rfl, rfl, by simp; try omega⟩ (fun aa ww h => at_fr h ⟨rfl, rfl, rfl, trivial⟩)
                    · try simp only [zq1, zq2, zq3, zq4, zq5, zq6, zq7, zq8] at c183
                      refine WC.skip ?_
                      refine WP.blkNormal ?_
                      exact WP.join ((⟨d.hours, d.dippers, d.bathers⟩, u1, u2, d.dippers.length, d.bathers.length, (d.dippers.flatMap dipperC), (d.bathers.flatMap batherC)) : Dips × Ow × Ow × Nat × Nat × List Value × List Value) ⟨bet_refl d, hu1, hu2, rfl, rfl, rfl, rfl, by simp; try omega⟩ (fun aa ww h => at_fr h ⟨rfl, rfl, rfl, trivial⟩)
                · try simp only [zq1, zq2, zq3, zq4, zq5, zq6, zq7, zq8] at g145
                  refine WL.skip rfl rfl ?_
                  refine WL.skip rfl rfl ?_
                  refine WL.skip rfl rfl ?_
                  refine WL.skip rfl rfl ?_
                  refine WL.yd (Yd.pickF rfl rfl) rfl ?_
                  refine WL.yd (Yd.assign rfl) rfl ?_
                  refine WL.nil ?_
                  refine WP.thenC ?_
                  refine WC.condF rfl ?_
                  refine WC.seq ?_
                  refine WC.ofFr [(10, _), (3, _), (4, _), (9, _)] ⟨rfl, rfl, rfl, rfl, trivial⟩ ?_
                  refine WC.region ?_
                  refine WL.yd (Yd.fieldAddr FA25_2 rfl) rfl ?_
                  refine WL.yd (Yd.load1 Try.isAgg23 rfl (by first | exact Rd.own (k := 0) rfl rfl | exact Rd.own (k := 1) rfl rfl | exact Rd.own (k := 2) rfl rfl | exact Rd.own (k := 3) rfl rfl | exact Rd.own (k := 4) rfl rfl)) rfl ?_
                  refine WL.yd (Yd.lenS rfl Try.underlying23 rfl) rfl ?_
                  refine WL.yd (Yd.gtr rfl rfl) rfl ?_
                  refine WL.yd (Yd.assign rfl) rfl ?_
                  refine WL.nil ?_
                  refine WP.thenC ?_
                  refine WC.cond rfl (fun c183 => ?_) (fun c183 => ?_)
                  · try simp only [zq1, zq2, zq3, zq4, zq5, zq6, zq7, zq8] at c183
                    refine WC.ofFr [(10, _), (3, _), (4, _), (9, _)] ⟨rfl, rfl, rfl, rfl, trivial⟩ ?_
                    refine WC.drawH [_, _, _] (by kernel_rfl) (fun _ hI => hI.drop 2) ?_
                    refine WH.yd (i := 0) (by kernel_rfl) (fun _ o v c a w _ h => (QuietPanic.blk (QuietPanic.then QuietPanic.body)) c o.dst v a w h) rfl (Yd.fieldAddr FA25_2 rfl) rfl ?_
                    refine WH.yd (i := 1) (by kernel_rfl) (fun _ o v c a w _ h => (QuietPanic.blk (QuietPanic.then QuietPanic.body)) c o.dst v a w h) rfl (Yd.load1 Try.isAgg23 rfl (by first | exact Rd.own (k := 0) rfl rfl | exact Rd.own (k := 1) rfl rfl | exact Rd.own (k := 2) rfl rfl | exact Rd.own (k := 3) rfl rfl | exact Rd.own (k := 4) rfl rfl)) rfl ?_
                    refine WH.yd (i := 2) (by kernel_rfl) (fun _ o v c a w _ h => (QuietPanic.blk (QuietPanic.then QuietPanic.body)) c o.dst v a w h) rfl (Yd.move rfl) rfl ?_
                    refine WH.yd (i := 3) (by kernel_rfl) (fun _ o v c a w _ h => (QuietPanic.blk (QuietPanic.then QuietPanic.body)) c o.dst v a w h) rfl (Yd.conv Try.underlying5 Try.underlying3 rfl (wr64 ⟨by omega, by omega⟩)) rfl ?_
                    refine WH.yd (i := 4) (by kernel_rfl) (fun _ o v c a w _ h => (QuietPanic.blk (QuietPanic.then QuietPanic.body)) c o.dst v a w h) rfl (Yd.fieldAddr FA25_2 rfl) rfl ?_
                    refine WH.yd (i := 5) (by kernel_rfl) (fun _ o v c a w _ h => (QuietPanic.blk (QuietPanic.then QuietPanic.body)) c o.dst v a w h) rfl (Yd.load1 Try.isAgg23 rfl (by first | exact Rd.own (k := 0) rfl rfl | exact Rd.own (k := 1) rfl rfl | exact Rd.own (k := 2) rfl rfl | exact Rd.own (k := 3) rfl rfl | exact Rd.own (k := 4) rfl rfl)) rfl ?_
                    refine WH.yd (i := 6) (by kernel_rfl) (fun _ o v c a w _ h => (QuietPanic.blk (QuietPanic.then QuietPanic.body)) c o.dst v a w h) rfl (Yd.lenS rfl Try.underlying23 rfl) rfl ?_
                    refine WH.yd (i := 7) (by kernel_rfl) (fun _ o v c a w _ h => (QuietPanic.blk (QuietPanic.then QuietPanic.body)) c o.dst v a w h) rfl (Yd.remN (i := b) (j := d.bathers.length) rfl rfl (by omega)) rfl ?_
                    generalize hib : b % d.bathers.length = i
                    have hi : i < d.bathers.length := by rw [← hib]; exact Nat.mod_lt _ (by omega)
                    have hdi := hnum.2.2.2.2 i hi
                    refine WH.yd (i := 8) (by kernel_rfl) (fun _ o v c a w _ h => (QuietPanic.blk (QuietPanic.then QuietPanic.body)) c o.dst v a w h) rfl (Yd.indexS Try.underlying23 Try.sizeOf55 rfl rfl (by omega) (by omega) (by first | exact rfl)) rfl ?_
                    refine WH.yd (i := 9) (by kernel_rfl) (fun _ o v c a w _ h => (QuietPanic.blk (QuietPanic.then QuietPanic.body)) c o.dst v a w h) rfl (Yd.fieldAddr FA55_1 rfl) rfl ?_
                    refine WH.yd (i := 11) (by kernel_rfl) (fun _ o v c a w _ h => (QuietPanic.blk (QuietPanic.then QuietPanic.body)) c o.dst v a w h) rfl (Yd.move rfl) rfl ?_
                    refine WH.yd (i := 12) (by kernel_rfl) (fun _ o v c a w _ h => (QuietPanic.blk (QuietPanic.then QuietPanic.body)) c o.dst v a w h) rfl (Yd.conv Try.underlying5 Try.underlying3 rfl (wr64 ⟨by omega, by omega⟩)) rfl ?_
                    refine WH.yd (i := 13) (by kernel_rfl) (fun _ o v c a w _ h => (QuietPanic.blk (QuietPanic.then QuietPanic.body)) c o.dst v a w h) rfl (Yd.quoN (i := b) (j := 8) rfl rfl (by omega) (by omega)) rfl ?_
                    refine WH.yd (i := 14) (by kernel_rfl) (fun _ o v c a w _ h => (QuietPanic.blk (QuietPanic.then QuietPanic.body)) c o.dst v a w h) rfl (Yd.move rfl) rfl ?_
                    refine WH.yd (i := 15) (by kernel_rfl) (fun _ o v c a w _ h => (QuietPanic.blk (QuietPanic.then QuietPanic.body)) c o.dst v a w h) rfl (Yd.andM (n := d.hours.toNat) (by omega) (by omega) rfl rfl) rfl ?_
                    refine WH.one (i := 10) (by kernel_rfl) (WHo.yd rfl (Yd.load1 Try.isAgg3 rfl (Rd.flat batherC_len (k := 0) (l := d.bathers) (i := i) (j := 2) rfl hi (by decide) rfl)) rfl ?_)
                    refine WH.yd (i := 16) (by kernel_rfl) (fun _ o v c a w _ h => (QuietPanic.blk (QuietPanic.then QuietPanic.body)) c o.dst v a w h) rfl (Yd.orI (by omega) (by omega) (by omega) rfl rfl) rfl ?_
                    refine WH.yd (i := 17) (by kernel_rfl) (fun _ o v c a w _ h => (QuietPanic.blk (QuietPanic.then QuietPanic.body)) c o.dst v a w h) rfl (Yd.indexS Try.underlying23 Try.sizeOf55 rfl rfl (by omega) (by omega) (by first | exact rfl)) rfl ?_
                    refine WH.yd (i := 18) (by kernel_rfl) (fun _ o v c a w _ h => (QuietPanic.blk (QuietPanic.then QuietPanic.body)) c o.dst v a w h) rfl (Yd.fieldAddr FA55_1 rfl) rfl ?_
                    refine WH.one (i := 19) (by kernel_rfl) (WHo.so rfl (SO.storeFlat batherC_len (l := d.bathers) (rest := u2.rest) (i := i) (j := 2) (y := (⟨(gt d.bathers i).needs, orI (gt d.bathers i).hours (b / 8 % 2 ^ d.hours.toNat)⟩ : Bather)) 0 rfl Try.sizeOf3 rfl rfl rfl hi (by decide) rfl (splice_flat batherC_len (by decide) _ _ _ hi rfl)) rfl ?_)
                    rintro _ _ _ ⟨rfl, rfl, rfl⟩
                    refine ⟨(fun _ hI => hI.drop 2), ?_⟩
                    refine WH.nil (by kernel_rfl) ?_
                    refine WP.blkNormal ?_
                    exact WP.join ((⟨d.hours, d.dippers, d.bathers.set i (⟨(gt d.bathers i).needs, orI (gt d.bathers i).hours (b / 8 % 2 ^ d.hours.toNat)⟩ : Bather)⟩, u1, u2, d.dippers.length, d.bathers.length, (d.dippers.flatMap dipperC), ((d.bathers.set i (⟨(gt d.bathers i).needs, orI (gt d.bathers i).hours (b / 8 % 2 ^ d.hours.toNat)⟩ : Bather)).flatMap batherC)) : Dips × Ow × Ow × Nat × Nat × List Value × List Value) ⟨bet_bath d i _ (Int.le_refl _) (Int.le_refl _) (fun h hh => orI_has (by omega) _ h hh), hu1, hu2, rfl, by simp, rfl, rfl, by simp; try omega⟩ (fun aa ww h => at_fr h ⟨rfl, rfl, rfl, trivial⟩)
                  · try simp only [zq1, zq2, zq3, zq4, zq5, zq6, zq7, zq8] at c183
                    refine WC.skip ?_
                    refine WP.blkNormal ?_
                    exact WP.join ((⟨d.hours, d.dippers, d.bathers⟩, u1, u2, d.dippers.length, d.bathers.length, (d.dippers.flatMap dipperC), (d.bathers.flatMap batherC)) : Dips × Ow × Ow × Nat × Nat × List Value × List Value) ⟨bet_refl d, hu1, hu2, rfl, rfl, rfl, rfl, by simp; try omega⟩ (fun aa ww h => at_fr h ⟨rfl, rfl, rfl, trivial⟩)
      · skip
        refine WC.ofFr [(9, _), (8, _), (5, _), (4, _), (2, _), (3, _)] ⟨rfl, rfl, rfl, rfl, rfl, rfl, trivial⟩ ?_
        refine WC.drawH [_, _] (by kernel_rfl) (fun _ hI => hI.drop 1) ?_
        refine WH.yd (i := 1) (by kernel_rfl) (fun _ o v c a w _ h => (QuietPanic.then QuietPanic.body) c o.dst v a w h) rfl (Yd.fieldAddr FA25_1 rfl) rfl ?_
        refine WH.yd (i := 2) (by kernel_rfl) (fun _ o v c a w _ h => (QuietPanic.then QuietPanic.body) c o.dst v a w h) rfl (Yd.load1 Try.isAgg22 rfl (by first | exact Rd.own (k := 0) rfl rfl | exact Rd.own (k := 1) rfl rfl | exact Rd.own (k := 2) rfl rfl)) rfl ?_
        refine WH.yd (i := 5) (by kernel_rfl) (fun _ o v c a w _ h => (QuietPanic.then QuietPanic.body) c o.dst v a w h) rfl (Yd.fieldAddr FA25_2 rfl) rfl ?_
        refine WH.yd (i := 6) (by kernel_rfl) (fun _ o v c a w _ h => (QuietPanic.then QuietPanic.body) c o.dst v a w h) rfl (Yd.load1 Try.isAgg23 rfl (by first | exact Rd.own (k := 0) rfl rfl | exact Rd.own (k := 1) rfl rfl | exact Rd.own (k := 2) rfl rfl)) rfl ?_
        refine WH.two (i := 0) (j := 4) (by kernel_rfl) ?_ ?_
        · refine WHo.so rfl (SO.buildSlice0 Try.underlying22 Try.sizeOf53) rfl ?_
          rintro _ _ _ ⟨b46, hb46, rfl, rfl, rfl⟩ -- NEW
          refine ⟨(fun _ hI => hI.drop 2), ?_⟩
          refine WH.two (i := 3) (j := 4) (by kernel_rfl) ?_ ?_
          · refine WHo.so rfl (SO.appendAll (f := dipperC) (l := d.dippers) (m := 3) dipperC_len dipperC_ones [] _ rfl rfl Try.underlying22 Try.sizeOf53 Try.typeInfo53 Try.zeroValue53 rfl rfl rfl rfl hb46 hR.dip (by show (2 * (_ + _) + 1000) * 24 ≤ 2 ^ 48; omega) (by omega)) rfl ?_
            rintro _ _ _ ⟨u1, hu1, rfl, rfl, rfl⟩
            refine ⟨(fun _ hI => hI.drop 2), ?_⟩
            refine WH.yd (i := 8) (by kernel_rfl) (fun _ o v c a w _ h => (QuietPanic.then QuietPanic.body) c o.dst v a w h) rfl (Yd.fieldAddr FA25_1 rfl) rfl ?_
            refine WH.one (i := 4) (by kernel_rfl) (WHo.so rfl (SO.buildSlice0 Try.underlying23 Try.sizeOf55) rfl ?_)
            rintro _ _ _ ⟨b50, hb50, rfl, rfl, rfl⟩ -- NEW
            refine ⟨(fun _ hI => hI.drop 3), ?_⟩
            refine WH.one (i := 7) (by kernel_rfl) (WHo.so rfl (SO.appendAll (f := batherC) (l := d.bathers) (m := 3) batherC_len batherC_ones [] _ rfl rfl Try.underlying23 Try.sizeOf55 Try.typeInfo55 Try.zeroValue55 rfl rfl rfl rfl hb50 hR.bath (by show (2 * (_ + _) + 1000) * 24 ≤ 2 ^ 48; omega) (by omega)) rfl ?_)
            rintro _ _ _ ⟨u2, hu2, rfl, rfl, rfl⟩
            refine ⟨(fun _ hI => hI.drop 3), ?_⟩
            refine WH.one (i := 9) (by kernel_rfl) (WHo.so rfl (SO.store 2 rfl Try.sizeOf22 rfl rfl rfl rfl (Nat.le_of_ble_eq_true rfl) (oneB_spec rfl)) rfl ?_)
            rintro _ _ _ ⟨rfl, rfl, rfl⟩
            refine ⟨(fun _ hI => hI.drop 3), ?_⟩
            refine WH.yd (i := 10) (by kernel_rfl) (fun _ o v c a w _ h => (QuietPanic.then QuietPanic.body) c o.dst v a w h) rfl (Yd.fieldAddr FA25_2 rfl) rfl ?_
            refine WH.one (i := 11) (by kernel_rfl) (WHo.so rfl (SO.store 2 rfl Try.sizeOf23 rfl rfl rfl rfl (Nat.le_of_ble_eq_true rfl) (oneB_spec rfl)) rfl ?_)
            rintro _ _ _ ⟨rfl, rfl, rfl⟩
            refine ⟨(fun _ hI => hI.drop 3), ?_⟩
            refine WH.nil (by kernel_rfl) ?_
            first
              | exact WP.join (u1, u2) ⟨hu1, hu2⟩ (fun aa ww h => at_fr h ⟨rfl, rfl, rfl, rfl, rfl, trivial⟩)
              | exact WP.join (u1, u2) ⟨hu1, hu2⟩ (fun aa ww h => at_less h ⟨rfl, rfl, rfl, rfl, rfl, trivial⟩ (fun e he => (List.Perm.swap _ _ _).mem_iff.1 he) (fun hn => ((List.Perm.swap _ _ _).map Prod.fst).nodup_iff.1 hn))
          · refine WHo.so rfl (SO.buildSlice0 Try.underlying23 Try.sizeOf55) rfl ?_
            rintro _ _ _ ⟨b50, hb50, rfl, rfl, rfl⟩ -- NEW
            refine ⟨(fun _ hI => hI.drop 3), ?_⟩
            refine WH.one (i := 3) (by kernel_rfl) (WHo.so rfl (SO.appendAll (f := dipperC) (l := d.dippers) (m := 3) dipperC_len dipperC_ones [_] _ rfl rfl Try.underlying22 Try.sizeOf53 Try.typeInfo53 Try.zeroValue53 rfl rfl rfl rfl hb46 hR.dip (by show (2 * (_ + _) + 1000) * 24 ≤ 2 ^ 48; omega) (by omega)) rfl ?_)
            rintro _ _ _ ⟨u1, hu1, rfl, rfl, rfl⟩
            refine ⟨(fun _ hI => hI.drop 3), ?_⟩
            refine WH.yd (i := 8) (by kernel_rfl) (fun _ o v c a w _ h => (QuietPanic.then QuietPanic.body) c o.dst v a w h) rfl (Yd.fieldAddr FA25_1 rfl) rfl ?_
            refine WH.one (i := 7) (by kernel_rfl) (WHo.so rfl (SO.appendAll (f := batherC) (l := d.bathers) (m := 3) batherC_len batherC_ones [] _ rfl rfl Try.underlying23 Try.sizeOf55 Try.typeInfo55 Try.zeroValue55 rfl rfl rfl rfl hb50 hR.bath (by show (2 * (_ + _) + 1000) * 24 ≤ 2 ^ 48; omega) (by omega)) rfl ?_)
            rintro _ _ _ ⟨u2, hu2, rfl, rfl, rfl⟩
            refine ⟨(fun _ hI => hI.drop 3), ?_⟩
            refine WH.one (i := 9) (by kernel_rfl) (WHo.so rfl (SO.store 2 rfl Try.sizeOf22 rfl rfl rfl rfl (Nat.le_of_ble_eq_true rfl) (oneB_spec rfl)) rfl ?_)
            rintro _ _ _ ⟨rfl, rfl, rfl⟩
            refine ⟨(fun _ hI => hI.drop 3), ?_⟩
            refine WH.yd (i := 10) (by kernel_rfl) (fun _ o v c a w _ h => (QuietPanic.then QuietPanic.body) c o.dst v a w h) rfl (Yd.fieldAddr FA25_2 rfl) rfl ?_
            refine WH.one (i := 11) (by kernel_rfl) (WHo.so rfl (SO.store 2 rfl Try.sizeOf23 rfl rfl rfl rfl (Nat.le_of_ble_eq_true rfl) (oneB_spec rfl)) rfl ?_)
            rintro _ _ _ ⟨rfl, rfl, rfl⟩
            refine ⟨(fun _ hI => hI.drop 3), ?_⟩
            refine WH.nil (by kernel_rfl) ?_
            first
              | exact WP.join (u1, u2) ⟨hu1, hu2⟩ (fun aa ww h => at_fr h ⟨rfl, rfl, rfl, rfl, rfl, trivial⟩)
              | exact WP.join (u1, u2) ⟨hu1, hu2⟩ (fun aa ww h => at_less h ⟨rfl, rfl, rfl, rfl, rfl, trivial⟩ (fun e he => (List.Perm.swap _ _ _).mem_iff.1 he) (fun hn => ((List.Perm.swap _ _ _).map Prod.fst).nodup_iff.1 hn))
        · refine WHo.so rfl (SO.buildSlice0 Try.underlying23 Try.sizeOf55) rfl ?_
          rintro _ _ _ ⟨b50, hb50, rfl, rfl, rfl⟩ -- NEW
          refine ⟨(fun _ hI => hI.drop 2), ?_⟩
          refine WH.one (i := 0) (by kernel_rfl) (WHo.so rfl (SO.buildSlice0 Try.underlying22 Try.sizeOf53) rfl ?_)
          rintro _ _ _ ⟨b46, hb46, rfl, rfl, rfl⟩ -- NEW
          refine ⟨(fun _ hI => hI.drop 3), ?_⟩
          refine WH.one (i := 3) (by kernel_rfl) (WHo.so rfl (SO.appendAll (f := dipperC) (l := d.dippers) (m := 3) dipperC_len dipperC_ones [] _ rfl rfl Try.underlying22 Try.sizeOf53 Try.typeInfo53 Try.zeroValue53 rfl rfl rfl rfl hb46 hR.dip (by show (2 * (_ + _) + 1000) * 24 ≤ 2 ^ 48; omega) (by omega)) rfl ?_)
          rintro _ _ _ ⟨u1, hu1, rfl, rfl, rfl⟩
          refine ⟨(fun _ hI => hI.drop 3), ?_⟩
          refine WH.yd (i := 8) (by kernel_rfl) (fun _ o v c a w _ h => (QuietPanic.then QuietPanic.body) c o.dst v a w h) rfl (Yd.fieldAddr FA25_1 rfl) rfl ?_
          refine WH.one (i := 7) (by kernel_rfl) (WHo.so rfl (SO.appendAll (f := batherC) (l := d.bathers) (m := 3) batherC_len batherC_ones [_] _ rfl rfl Try.underlying23 Try.sizeOf55 Try.typeInfo55 Try.zeroValue55 rfl rfl rfl rfl hb50 hR.bath (by show (2 * (_ + _) + 1000) * 24 ≤ 2 ^ 48; omega) (by omega)) rfl ?_)
          rintro _ _ _ ⟨u2, hu2, rfl, rfl, rfl⟩
          refine ⟨(fun _ hI => hI.drop 3), ?_⟩
          refine WH.one (i := 9) (by kernel_rfl) (WHo.so rfl (SO.store 2 rfl Try.sizeOf22 rfl rfl rfl rfl (Nat.le_of_ble_eq_true rfl) (oneB_spec rfl)) rfl ?_)
          rintro _ _ _ ⟨rfl, rfl, rfl⟩
          refine ⟨(fun _ hI => hI.drop 3), ?_⟩
          refine WH.yd (i := 10) (by kernel_rfl) (fun _ o v c a w _ h => (QuietPanic.then QuietPanic.body) c o.dst v a w h) rfl (Yd.fieldAddr FA25_2 rfl) rfl ?_
          refine WH.one (i := 11) (by kernel_rfl) (WHo.so rfl (SO.store 2 rfl Try.sizeOf23 rfl rfl rfl rfl (Nat.le_of_ble_eq_true rfl) (oneB_spec rfl)) rfl ?_)
          rintro _ _ _ ⟨rfl, rfl, rfl⟩
          refine ⟨(fun _ hI => hI.drop 3), ?_⟩
          refine WH.nil (by kernel_rfl) ?_
          first
            | exact WP.join (u1, u2) ⟨hu1, hu2⟩ (fun aa ww h => at_fr h ⟨rfl, rfl, rfl, rfl, rfl, trivial⟩)
            | exact WP.join (u1, u2) ⟨hu1, hu2⟩ (fun aa ww h => at_less h ⟨rfl, rfl, rfl, rfl, rfl, trivial⟩ (fun e he => (List.Perm.swap _ _ _).mem_iff.1 he) (fun hn => ((List.Perm.swap _ _ _).map Prod.fst).nodup_iff.1 hn))

theorem more11_g (d : Dips) (a1 : Option Addr) (n1 c1 : Nat) (a2 : Option Addr) (n2 c2 : Nat) (D : Imm) (w : World) (hS1 : SlL D 3 (d.dippers.map dipperC) a1 n1) (hS2 : SlL D 3 (d.bathers.map batherC) a2 n2) (hH : Holds D w) (e : Dipper) (a b : Nat) (ha : a < 256) (hb : b < 256) : Gives Try.prog 11 [.agg #[it d.hours, .slice a1 n1 c1, .slice a2 n2 c2], .agg #[it e.hands.lo, it e.hands.hi, it e.hours], .int .u8 (a : Int), .int .u8 (b : Int)] w (.bool true) := by
  cases hv : dipsB d with
  | false => exact more11_1 d a1 n1 c1 a2 n2 c2 D w hS1 hS2 hH e a b ha hb hv
  | true => exact more11_ok d a1 n1 c1 a2 n2 c2 D w hS1 hS2 hH e a b ha hb hv

end Go.Proofs.Ytidjdonppfegiaa
