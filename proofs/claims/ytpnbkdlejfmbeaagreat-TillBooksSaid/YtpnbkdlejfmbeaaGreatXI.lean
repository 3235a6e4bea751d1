import Derived.Test.YtpnbkdlejfmbeaaGreatXH
import Derived.Test.YtpnbkdlejfmbeaaGreatXT
set_option linter.unusedSimpArgs false
set_option linter.unusedVariables false
set_option linter.all false
set_option maxRecDepth 100000
set_option maxHeartbeats 1000000
namespace Go.Proofs.YtpnbkdlejfmbeaaGreat
open Go.W Go.Ti
theorem SA142 : StructAt Tryz.prog 142 [] [] := ⟨⟨_, Tryz.zeroValue142, rfl⟩, _, Tryz.underlying142, fun w => by simp []⟩
theorem SA144 : StructAt Tryz.prog 144 [] [(0, 0)] := ⟨⟨_, Tryz.zeroValue144, rfl⟩, _, Tryz.underlying144, fun w => by simp [Tryz.sizeOf142]⟩
theorem SA145 : StructAt Tryz.prog 145 [] [] := ⟨⟨_, Tryz.zeroValue145, rfl⟩, _, Tryz.underlying145, fun w => by simp []⟩
theorem ret_sp {a b : Int} {s : Sp} (h1 : a = s.lo) (h2 : b = s.hi) : Ending.returned (.agg #[it a, it b]) = .returned (spV s) := by subst h1; subst h2; rfl
def kindsV : Value := .agg #[.nilIface, .iface 142 (.agg #[]), .iface 144 (.agg #[]), .iface 145 (.agg #[])]

theorem told_ok (X : Till) (a1 : Option Addr) (n1 c1 : Nat) (D : Imm) (w : World) (hR : TksR D X.tk a1 n1) (hH : Holds D w) (h : (WaitsOut X.tk).2 = 0) : Gives Tryz.prog 52 [.agg #[it X.tk.huts, .slice a1 n1 c1, it X.price, it X.fine, it X.wait]] w (.agg #[it X.tk.huts, .slice a1 n1 c1, it X.price, it X.fine, it X.wait]) := by
  unfold Gives
  obtain rfl := hR.tick.len'
  have hl1 := hR.len
  refine enter Tryz.func52 rfl 17 Tryz.ntmps52 (zqb rfl) (Inv.start hH) ?_
  refine WC.seq (WC.ofFr [(0, _)] ⟨rfl, trivial⟩ (WC.region ?_))
  refine WL.so (SO.box rfl rfl) rfl ?_
  rintro _ _ _ ⟨b1, hb1, rfl, rfl, rfl⟩
  refine WL.so (SO.alloc Tryz.zeroValue69 rfl) rfl ?_
  rintro _ _ _ ⟨b2, hb2, rfl, rfl, rfl⟩
  refine WL.nil (WP.thenC (WC.seq (WC.ofFr [(2, _), (1, _)] ⟨rfl, rfl, trivial⟩ (WC.region ?_))))
  refine WL.yd (Yd.fieldAddr FA69_0 rfl) rfl ?_
  refine WL.yd (Yd.fieldAddr FA26_0 rfl) rfl ?_
  refine WL.yd (Yd.loadN Tryz.isAgg24 Tryz.sizeOf24 rfl (vs := [_, _]) rfl (by first | exact rn0 (n := 2) rfl rfl | exact rn1 (n := 2) rfl rfl)) rfl ?_
  refine WL.so (SO.callP Tryz.call27 rfl (fun w hI => Waits_g X.tk a1 _ c1 D _ hR hI.imm)) rfl ?_
  rintro _ _ _ ⟨rfl, rfl, rfl⟩
  refine WL.yd (Yd.move rfl) rfl ?_
  refine WL.yd (Yd.extract rfl rfl) rfl ?_
  refine WL.yd (Yd.extract rfl rfl) rfl ?_
  refine WL.so (SO.alloc Tryz.zeroValue33 rfl) rfl ?_
  rintro _ _ _ ⟨b3, hb3, rfl, rfl, rfl⟩
  refine WL.so (SO.store 0 rfl Tryz.sizeOf33 rfl rfl rfl rfl (zqb rfl) (oneB_spec rfl)) rfl ?_
  rintro _ _ _ ⟨rfl, rfl, rfl⟩
  refine WL.yd (Yd.assign rfl) rfl ?_
  refine WL.nil (WP.thenC (WC.seq (WC.ofFr [(4, _), (2, _), (1, _)] ⟨rfl, rfl, rfl, trivial⟩ (WC.region ?_))))
  refine WL.yd (Yd.move rfl) rfl ?_
  refine WL.yd (Yd.eql rfl rfl) rfl ?_
  refine WL.yd (Yd.move rfl) rfl ?_
  refine WL.part 13 rfl (fun g13 => ?_) (fun g13 => ?_)
  · try simp only [zq1, zq2, zq3, zq4, zq5, zq6, zq7, zq8] at g13
    refine WL.so (SO.call (Enters.func Tryz.call75 rfl) (fun w hI => mustT_ok _ _)) rfl ?_
    rintro _ _ _ ⟨rfl, rfl, rfl⟩
    refine WL.nil (WP.thenC (WC.seq (WC.ofFr [(2, _), (1, _)] ⟨rfl, rfl, trivial⟩ (WC.region ?_))))
    refine WL.yd (Yd.loadN Tryz.isAgg69 Tryz.sizeOf69 rfl (vs := [_, _, _, _, _]) rfl (by first | exact rn0 (n := 5) rfl rfl | exact rn1 (n := 5) rfl rfl | exact rn2 (n := 5) rfl rfl)) rfl ?_
    refine WL.so (SO.store 1 rfl Tryz.sizeOf69 rfl rfl rfl rfl (zqb rfl) (oneB_spec rfl)) rfl ?_
    rintro _ _ _ ⟨rfl, rfl, rfl⟩
    refine WL.nil (WP.thenC (WC.ret ?_))
    refine WP.ret1 rfl rfl Tryz.results52 (RV.cellN Tryz.isAgg69 Tryz.sizeOf69 rfl (vs := [_, _, _, _, _]) rfl (by first | exact rn0 (n := 5) rfl rfl | exact rn1 (n := 5) rfl rfl | exact rn2 (n := 5) rfl rfl)) (fun w hI => ⟨rfl, hI.keep⟩)
  · try simp only [zq1, zq2, zq3, zq4, zq5, zq6, zq7, zq8] at g13
    exact (g13 h).elim

theorem told_no (X : Till) (a1 : Option Addr) (n1 c1 : Nat) (D : Imm) (w : World) (hR : TksR D X.tk a1 n1) (hH : Holds D w) (h : (WaitsOut X.tk).2 ≠ 0) : Fails Tryz.prog 52 [.agg #[it X.tk.huts, .slice a1 n1 c1, it X.price, it X.fine, it X.wait]] w (stopT (WaitsOut X.tk).2) := by
  unfold Fails
  obtain rfl := hR.tick.len'
  have hl1 := hR.len
  refine enter Tryz.func52 rfl 17 Tryz.ntmps52 (zqb rfl) (Inv.start hH) ?_
  refine WC.seq (WC.ofFr [(0, _)] ⟨rfl, trivial⟩ (WC.region ?_))
  refine WL.so (SO.box rfl rfl) rfl ?_
  rintro _ _ _ ⟨b1, hb1, rfl, rfl, rfl⟩
  refine WL.so (SO.alloc Tryz.zeroValue69 rfl) rfl ?_
  rintro _ _ _ ⟨b2, hb2, rfl, rfl, rfl⟩
  refine WL.nil (WP.thenC (WC.seq (WC.ofFr [(2, _), (1, _)] ⟨rfl, rfl, trivial⟩ (WC.region ?_))))
  refine WL.yd (Yd.fieldAddr FA69_0 rfl) rfl ?_
  refine WL.yd (Yd.fieldAddr FA26_0 rfl) rfl ?_
  refine WL.yd (Yd.loadN Tryz.isAgg24 Tryz.sizeOf24 rfl (vs := [_, _]) rfl (by first | exact rn0 (n := 2) rfl rfl | exact rn1 (n := 2) rfl rfl)) rfl ?_
  refine WL.so (SO.callP Tryz.call27 rfl (fun w hI => Waits_g X.tk a1 _ c1 D _ hR hI.imm)) rfl ?_
  rintro _ _ _ ⟨rfl, rfl, rfl⟩
  refine WL.yd (Yd.move rfl) rfl ?_
  refine WL.yd (Yd.extract rfl rfl) rfl ?_
  refine WL.yd (Yd.extract rfl rfl) rfl ?_
  refine WL.so (SO.alloc Tryz.zeroValue33 rfl) rfl ?_
  rintro _ _ _ ⟨b3, hb3, rfl, rfl, rfl⟩
  refine WL.so (SO.store 0 rfl Tryz.sizeOf33 rfl rfl rfl rfl (zqb rfl) (oneB_spec rfl)) rfl ?_
  rintro _ _ _ ⟨rfl, rfl, rfl⟩
  refine WL.yd (Yd.assign rfl) rfl ?_
  refine WL.nil (WP.thenC (WC.seq (WC.ofFr [(4, _), (2, _), (1, _)] ⟨rfl, rfl, rfl, trivial⟩ (WC.region ?_))))
  refine WL.yd (Yd.move rfl) rfl ?_
  refine WL.yd (Yd.eql rfl rfl) rfl ?_
  refine WL.yd (Yd.move rfl) rfl ?_
  refine WL.part 13 rfl (fun g13 => ?_) (fun g13 => ?_)
  · try simp only [zq1, zq2, zq3, zq4, zq5, zq6, zq7, zq8] at g13
    exact (h g13).elim
  · try simp only [zq1, zq2, zq3, zq4, zq5, zq6, zq7, zq8] at g13
    refine WL.no (SO.fail (Enters.func Tryz.call75 rfl) (fun w hI => mustT_no _ _) ?_)
    refine WP.thenPanic ?_
    refine WP.panicBody rfl (fun w hI => ⟨rfl, hI.keep⟩)

theorem kinds_g (w : World) : Gives Tryz.prog 60 [] w kindsV := by
  unfold Gives
  refine enter Tryz.func60 rfl 8 Tryz.ntmps60 (zqb rfl) (Inv.start (D := fun _ => none) (by intro _ _ h; cases h)) ?_
  refine WC.seq (WC.ofFr [] trivial (WC.region ?_))
  refine WL.so (SO.alloc Tryz.zeroValue100 rfl) rfl ?_
  rintro _ _ _ ⟨b0, hb0, rfl, rfl, rfl⟩
  refine WL.nil (WP.thenC (WC.seq (WC.ofFr [(0, _)] ⟨rfl, trivial⟩ (WC.region ?_))))
  refine WL.yd (Yd.build SA142 rfl (cs := []) rfl) rfl ?_
  refine WL.yd (Yd.iface Tryz.underlying142 (by intro _ h; cases h) rfl) rfl ?_
  refine WL.yd (Yd.build SA144 rfl (cs := []) rfl) rfl ?_
  refine WL.yd (Yd.iface Tryz.underlying144 (by intro _ h; cases h) rfl) rfl ?_
  refine WL.yd (Yd.build SA145 rfl (cs := []) rfl) rfl ?_
  refine WL.yd (Yd.iface Tryz.underlying145 (by intro _ h; cases h) rfl) rfl ?_
  refine WL.yd (Yd.buildA (zs := [.nilIface, .nilIface, .nilIface, .nilIface]) ⟨_, Tryz.zeroValue100, rfl⟩ Tryz.underlying100 Tryz.sizeOf99 rfl (cs := [_, _, _, _]) rfl) rfl ?_
  refine WL.so (SO.store 0 rfl Tryz.sizeOf100 rfl rfl rfl rfl (zqb rfl) (oneB_spec rfl)) rfl ?_
  rintro _ _ _ ⟨rfl, rfl, rfl⟩
  refine WL.nil (WP.thenC (WC.ret ?_))
  refine WP.ret1 rfl rfl Tryz.results60 (RV.cellN Tryz.isAgg100 Tryz.sizeOf100 rfl (vs := [_, _, _, _]) rfl (by first | exact rn0 (n := 4) rfl rfl)) (fun w hI => ⟨rfl, hI.keep⟩)

theorem priceSpan_g (X : Till) (a1 : Option Addr) (n1 c1 : Nat) (n : Int) (w : World) : Gives Tryz.prog 136 [.agg #[], .agg #[it X.tk.huts, .slice a1 n1 c1, it X.price, it X.fine, it X.wait], it n] w (spV (priceSp X)) := by
  unfold Gives
  refine enter Tryz.func136 rfl 14 Tryz.ntmps136 (zqb rfl) (Inv.start (D := fun _ => none) (by intro _ _ h; cases h)) ?_
  refine WC.seq (WC.ofFr [(0, _), (1, _)] ⟨rfl, rfl, trivial⟩ (WC.region ?_))
  refine WL.so (SO.box rfl rfl) rfl ?_
  rintro _ _ _ ⟨b3, hb3, rfl, rfl, rfl⟩
  refine WL.so (SO.box rfl rfl) rfl ?_
  rintro _ _ _ ⟨b4, hb4, rfl, rfl, rfl⟩
  refine WL.so (SO.alloc Tryz.zeroValue33 rfl) rfl ?_
  rintro _ _ _ ⟨b6, hb6, rfl, rfl, rfl⟩
  refine WL.nil (WP.thenC (WC.seq (WC.ofFr [(6, _), (4, _)] ⟨rfl, rfl, trivial⟩ (WC.region ?_))))
  refine WL.yd (Yd.fieldAddr FA69_0 rfl) rfl ?_
  refine WL.yd (Yd.fieldAddr FA26_1 rfl) rfl ?_
  refine WL.yd (Yd.load1 Tryz.isAgg3 rfl (by first | exact ro0 rfl rfl | exact ro1 rfl rfl | exact ro2 rfl rfl)) rfl ?_
  refine WL.yd (Yd.fieldAddr FA69_0 rfl) rfl ?_
  refine WL.yd (Yd.fieldAddr FA26_1 rfl) rfl ?_
  refine WL.yd (Yd.load1 Tryz.isAgg3 rfl (by first | exact ro0 rfl rfl | exact ro1 rfl rfl | exact ro2 rfl rfl)) rfl ?_
  refine WL.yd (Yd.build SA33 rfl (cs := [_, _]) rfl) rfl ?_
  refine WL.so (SO.store 0 rfl Tryz.sizeOf33 rfl rfl rfl rfl (zqb rfl) (oneB_spec rfl)) rfl ?_
  rintro _ _ _ ⟨rfl, rfl, rfl⟩
  refine WL.nil (WP.thenC (WC.ret ?_))
  refine WP.ret1 rfl rfl Tryz.results136 (RV.cellN Tryz.isAgg33 Tryz.sizeOf33 rfl (vs := [_, _]) rfl (by first | exact rn0 (n := 2) rfl rfl | exact rn1 (n := 2) rfl rfl | exact rn2 (n := 2) rfl rfl)) (fun w hI => ⟨rfl, hI.keep⟩)

theorem priceCan_g (X : Till) (a1 : Option Addr) (n1 c1 : Nat) (n m : Int) (w : World) (hn : n1 = X.tk.l.length) (hl1 : n1 ≤ 1000) : Gives Tryz.prog 135 [.agg #[], .agg #[it X.tk.huts, .slice a1 n1 c1, it X.price, it X.fine, it X.wait], it n, it m] w (.bool (priceCan X n m)) := by
  unfold Gives
  subst hn
  refine enter Tryz.func135 rfl 19 Tryz.ntmps135 (zqb rfl) (Inv.start (D := fun _ => none) (by intro _ _ h; cases h)) ?_
  refine WC.seq (WC.ofFr [(0, _), (1, _), (2, _), (3, _)] ⟨rfl, rfl, rfl, rfl, trivial⟩ (WC.region ?_))
  refine WL.so (SO.box rfl rfl) rfl ?_
  rintro _ _ _ ⟨b4, hb4, rfl, rfl, rfl⟩
  refine WL.so (SO.box rfl rfl) rfl ?_
  rintro _ _ _ ⟨b5, hb5, rfl, rfl, rfl⟩
  refine WL.yd (Yd.assign rfl) rfl ?_
  refine WL.nil (WP.thenC (WC.seq (WC.ofFr [(8, _), (5, _), (2, _), (3, _)] ⟨rfl, rfl, rfl, rfl, trivial⟩ (WC.region ?_))))
  refine WL.yd (Yd.move rfl) rfl ?_
  refine WL.yd (Yd.fieldAddr FA69_0 rfl) rfl ?_
  refine WL.yd (Yd.fieldAddr FA26_1 rfl) rfl ?_
  refine WL.yd (Yd.load1 Tryz.isAgg3 rfl (by first | exact ro0 rfl rfl | exact ro1 rfl rfl)) rfl ?_
  refine WL.yd (Yd.eql rfl rfl) rfl ?_
  refine WL.yd (Yd.move rfl) rfl ?_
  refine WL.part 14 rfl (fun g14 => ?_) (fun g14 => ?_)
  · try simp only [zq1, zq2, zq3, zq4, zq5, zq6, zq7, zq8] at g14
    refine WL.ydg rfl (Yd.loadN Tryz.isAgg69 Tryz.sizeOf69 rfl (vs := [_, _, _, _, _]) rfl (by first | exact rn0 (n := 5) rfl rfl | exact rn1 (n := 5) rfl rfl)) rfl ?_
    refine WL.ydg rfl (Yd.move rfl) rfl ?_
    refine WL.sog rfl (SO.callP Tryz.call82 rfl (fun w hI => isTickT_g X a1 _ c1 n _ rfl hl1)) rfl ?_
    rintro _ _ _ ⟨rfl, rfl, rfl⟩
    refine WL.yd (Yd.pickT rfl rfl) rfl ?_
    refine WL.yd (Yd.assign rfl) rfl ?_
    refine WL.nil (WP.thenC (WC.ret ?_))
    refine WP.ret1 rfl rfl Tryz.results135 (RV.tmp rfl) (fun w hI => ⟨ret_bool (by unfold priceCan; simp_all), hI.keep⟩)
  · try simp only [zq1, zq2, zq3, zq4, zq5, zq6, zq7, zq8] at g14
    refine WL.skip rfl rfl ?_
    refine WL.skip rfl rfl ?_
    refine WL.skip rfl rfl ?_
    refine WL.yd (Yd.pickF rfl rfl) rfl ?_
    refine WL.yd (Yd.assign rfl) rfl ?_
    refine WL.nil (WP.thenC (WC.ret ?_))
    refine WP.ret1 rfl rfl Tryz.results135 (RV.tmp rfl) (fun w hI => ⟨ret_bool (by unfold priceCan; simp_all), hI.keep⟩)

theorem fineSpan_g (X : Till) (a1 : Option Addr) (n1 c1 : Nat) (D : Imm) (w : World) (hR : TksR D X.tk a1 n1) (hH : Holds D w) (n : Int) : Gives Tryz.prog 138 [.agg #[], .agg #[it X.tk.huts, .slice a1 n1 c1, it X.price, it X.fine, it X.wait], it n] w (spV (fineSp X n)) := by
  unfold Gives
  obtain rfl := hR.tick.len'
  have hl1 := hR.len
  refine enter Tryz.func138 rfl 32 Tryz.ntmps138 (zqb rfl) (Inv.start hH) ?_
  refine WC.seq (WC.ofFr [(0, _), (1, _), (2, _)] ⟨rfl, rfl, rfl, trivial⟩ (WC.region ?_))
  refine WL.so (SO.box rfl rfl) rfl ?_
  rintro _ _ _ ⟨b3, hb3, rfl, rfl, rfl⟩
  refine WL.so (SO.box rfl rfl) rfl ?_
  rintro _ _ _ ⟨b4, hb4, rfl, rfl, rfl⟩
  refine WL.so (SO.alloc Tryz.zeroValue33 rfl) rfl ?_
  rintro _ _ _ ⟨b6, hb6, rfl, rfl, rfl⟩
  refine WL.nil (WP.thenC (WC.seq (WC.ofFr [(6, _), (4, _), (2, _)] ⟨rfl, rfl, rfl, trivial⟩ (WC.region ?_))))
  refine WL.yd (Yd.fieldAddr FA69_0 rfl) rfl ?_
  refine WL.yd (Yd.fieldAddr FA26_0 rfl) rfl ?_
  refine WL.yd (Yd.loadN Tryz.isAgg24 Tryz.sizeOf24 rfl (vs := [_, _]) rfl (by first | exact rn0 (n := 2) rfl rfl | exact rn1 (n := 2) rfl rfl | exact rn2 (n := 2) rfl rfl)) rfl ?_
  refine WL.yd (Yd.move rfl) rfl ?_
  refine WL.so (SO.callP Tryz.call81 rfl (fun w hI => Turn_g X.tk a1 _ c1 D _ hR hI.imm n)) rfl ?_
  rintro _ _ _ ⟨rfl, rfl, rfl⟩
  refine WL.yd (Yd.move rfl) rfl ?_
  refine WL.yd (Yd.extract rfl rfl) rfl ?_
  refine WL.yd (Yd.extract rfl rfl) rfl ?_
  refine WL.yd (Yd.assign rfl) rfl ?_
  refine WL.yd (Yd.assign rfl) rfl ?_
  refine WL.nil (WP.thenC (WC.seq (WC.ofFr [(7, _), (6, _), (4, _)] ⟨rfl, rfl, rfl, trivial⟩ (WC.region ?_))))
  refine WL.yd (Yd.fieldAddr FA69_0 rfl) rfl ?_
  refine WL.yd (Yd.fieldAddr FA26_2 rfl) rfl ?_
  refine WL.yd (Yd.load1 Tryz.isAgg3 rfl (by first | exact ro0 rfl rfl | exact ro1 rfl rfl | exact ro2 rfl rfl)) rfl ?_
  refine WL.yd (Yd.fieldAddr FA69_0 rfl) rfl ?_
  refine WL.yd (Yd.fieldAddr FA26_2 rfl) rfl ?_
  refine WL.yd (Yd.load1 Tryz.isAgg3 rfl (by first | exact ro0 rfl rfl | exact ro1 rfl rfl | exact ro2 rfl rfl)) rfl ?_
  refine WL.yd (Yd.build SA33 rfl (cs := [_, _]) rfl) rfl ?_
  refine WL.so (SO.alloc Tryz.zeroValue33 rfl) rfl ?_
  rintro _ _ _ ⟨b9, hb9, rfl, rfl, rfl⟩
  refine WL.so (SO.store 0 rfl Tryz.sizeOf33 rfl rfl rfl rfl (zqb rfl) (oneB_spec rfl)) rfl ?_
  rintro _ _ _ ⟨rfl, rfl, rfl⟩
  refine WL.nil (WP.thenC (WC.seq (WC.seq (WC.ofFr [(9, _), (7, _), (6, _)] ⟨rfl, rfl, rfl, trivial⟩ (WC.region ?_)))))
  refine WL.yd (Yd.move rfl) rfl ?_
  refine WL.yd (Yd.neq rfl rfl) rfl ?_
  refine WL.nil (WP.thenC ?_)
  refine WC.cond rfl (fun c26 => ?_) (fun c26 => ?_)
  · try simp only [zq1, zq2, zq3, zq4, zq5, zq6, zq7, zq8] at c26
    refine WC.ofFr [(9, _), (7, _), (6, _)] ⟨rfl, rfl, rfl, trivial⟩ (WC.region ?_)
    refine WL.yd (Yd.fieldAddr FA33_0 rfl) rfl ?_
    refine WL.so (SO.store 0 rfl Tryz.sizeOf3 rfl rfl rfl rfl (zqb rfl) (oneB_spec rfl)) rfl ?_
    rintro _ _ _ ⟨rfl, rfl, rfl⟩
    refine WL.nil (WP.thenC (WC.seq (WC.seq (WC.ofFr [(9, _), (7, _), (6, _)] ⟨rfl, rfl, rfl, trivial⟩ (WC.region ?_)))))
    refine WL.yd (Yd.move rfl) rfl ?_
    refine WL.yd (Yd.eql rfl rfl) rfl ?_
    refine WL.nil (WP.thenC ?_)
    refine WC.cond rfl (fun c29 => ?_) (fun c29 => ?_)
    · try simp only [zq1, zq2, zq3, zq4, zq5, zq6, zq7, zq8] at c29
      refine WC.ofFr [(9, _), (6, _)] ⟨rfl, rfl, trivial⟩ (WC.region ?_)
      refine WL.yd (Yd.fieldAddr FA33_1 rfl) rfl ?_
      refine WL.so (SO.store 0 rfl Tryz.sizeOf3 rfl rfl rfl rfl (zqb rfl) (oneB_spec rfl)) rfl ?_
      rintro _ _ _ ⟨rfl, rfl, rfl⟩
      refine WL.nil (WP.thenC (WC.seq (WC.ofFr [(9, _), (6, _)] ⟨rfl, rfl, trivial⟩ (WC.region ?_))))
      refine WL.yd (Yd.loadN Tryz.isAgg33 Tryz.sizeOf33 rfl (vs := [_, _]) rfl (by first | exact rn0 (n := 2) rfl rfl | exact rn1 (n := 2) rfl rfl | exact rn2 (n := 2) rfl rfl | exact rn3 (n := 2) rfl rfl)) rfl ?_
      refine WL.so (SO.store 1 rfl Tryz.sizeOf33 rfl rfl rfl rfl (zqb rfl) (oneB_spec rfl)) rfl ?_
      rintro _ _ _ ⟨rfl, rfl, rfl⟩
      refine WL.nil (WP.thenC (WC.ret ?_))
      refine WP.ret1 rfl rfl Tryz.results138 (RV.cellN Tryz.isAgg33 Tryz.sizeOf33 rfl (vs := [_, _]) rfl (by first | exact rn0 (n := 2) rfl rfl | exact rn1 (n := 2) rfl rfl | exact rn2 (n := 2) rfl rfl | exact rn3 (n := 2) rfl rfl)) (fun w hI => ⟨ret_sp (by unfold fineSp; simp_all) (by unfold fineSp; simp_all), hI.keep⟩)
    · try simp only [zq1, zq2, zq3, zq4, zq5, zq6, zq7, zq8] at c29
      refine WC.skip (WP.thenC (WC.seq (WC.ofFr [(9, _), (6, _)] ⟨rfl, rfl, trivial⟩ (WC.region ?_))))
      refine WL.yd (Yd.loadN Tryz.isAgg33 Tryz.sizeOf33 rfl (vs := [_, _]) rfl (by first | exact rn0 (n := 2) rfl rfl | exact rn1 (n := 2) rfl rfl | exact rn2 (n := 2) rfl rfl | exact rn3 (n := 2) rfl rfl)) rfl ?_
      refine WL.so (SO.store 1 rfl Tryz.sizeOf33 rfl rfl rfl rfl (zqb rfl) (oneB_spec rfl)) rfl ?_
      rintro _ _ _ ⟨rfl, rfl, rfl⟩
      refine WL.nil (WP.thenC (WC.ret ?_))
      refine WP.ret1 rfl rfl Tryz.results138 (RV.cellN Tryz.isAgg33 Tryz.sizeOf33 rfl (vs := [_, _]) rfl (by first | exact rn0 (n := 2) rfl rfl | exact rn1 (n := 2) rfl rfl | exact rn2 (n := 2) rfl rfl | exact rn3 (n := 2) rfl rfl)) (fun w hI => ⟨ret_sp (by unfold fineSp; simp_all) (by unfold fineSp; simp_all), hI.keep⟩)
  · try simp only [zq1, zq2, zq3, zq4, zq5, zq6, zq7, zq8] at c26
    refine WC.skip (WP.thenC (WC.seq (WC.seq (WC.ofFr [(9, _), (7, _), (6, _)] ⟨rfl, rfl, rfl, trivial⟩ (WC.region ?_)))))
    refine WL.yd (Yd.move rfl) rfl ?_
    refine WL.yd (Yd.eql rfl rfl) rfl ?_
    refine WL.nil (WP.thenC ?_)
    refine WC.cond rfl (fun c29 => ?_) (fun c29 => ?_)
    · try simp only [zq1, zq2, zq3, zq4, zq5, zq6, zq7, zq8] at c29
      refine WC.ofFr [(9, _), (6, _)] ⟨rfl, rfl, trivial⟩ (WC.region ?_)
      refine WL.yd (Yd.fieldAddr FA33_1 rfl) rfl ?_
      refine WL.so (SO.store 0 rfl Tryz.sizeOf3 rfl rfl rfl rfl (zqb rfl) (oneB_spec rfl)) rfl ?_
      rintro _ _ _ ⟨rfl, rfl, rfl⟩
      refine WL.nil (WP.thenC (WC.seq (WC.ofFr [(9, _), (6, _)] ⟨rfl, rfl, trivial⟩ (WC.region ?_))))
      refine WL.yd (Yd.loadN Tryz.isAgg33 Tryz.sizeOf33 rfl (vs := [_, _]) rfl (by first | exact rn0 (n := 2) rfl rfl | exact rn1 (n := 2) rfl rfl | exact rn2 (n := 2) rfl rfl | exact rn3 (n := 2) rfl rfl)) rfl ?_
      refine WL.so (SO.store 1 rfl Tryz.sizeOf33 rfl rfl rfl rfl (zqb rfl) (oneB_spec rfl)) rfl ?_
      rintro _ _ _ ⟨rfl, rfl, rfl⟩
      refine WL.nil (WP.thenC (WC.ret ?_))
      refine WP.ret1 rfl rfl Tryz.results138 (RV.cellN Tryz.isAgg33 Tryz.sizeOf33 rfl (vs := [_, _]) rfl (by first | exact rn0 (n := 2) rfl rfl | exact rn1 (n := 2) rfl rfl | exact rn2 (n := 2) rfl rfl | exact rn3 (n := 2) rfl rfl)) (fun w hI => ⟨ret_sp (by unfold fineSp; simp_all) (by unfold fineSp; simp_all), hI.keep⟩)
    · try simp only [zq1, zq2, zq3, zq4, zq5, zq6, zq7, zq8] at c29
      refine WC.skip (WP.thenC (WC.seq (WC.ofFr [(9, _), (6, _)] ⟨rfl, rfl, trivial⟩ (WC.region ?_))))
      refine WL.yd (Yd.loadN Tryz.isAgg33 Tryz.sizeOf33 rfl (vs := [_, _]) rfl (by first | exact rn0 (n := 2) rfl rfl | exact rn1 (n := 2) rfl rfl | exact rn2 (n := 2) rfl rfl | exact rn3 (n := 2) rfl rfl)) rfl ?_
      refine WL.so (SO.store 1 rfl Tryz.sizeOf33 rfl rfl rfl rfl (zqb rfl) (oneB_spec rfl)) rfl ?_
      rintro _ _ _ ⟨rfl, rfl, rfl⟩
      refine WL.nil (WP.thenC (WC.ret ?_))
      refine WP.ret1 rfl rfl Tryz.results138 (RV.cellN Tryz.isAgg33 Tryz.sizeOf33 rfl (vs := [_, _]) rfl (by first | exact rn0 (n := 2) rfl rfl | exact rn1 (n := 2) rfl rfl | exact rn2 (n := 2) rfl rfl | exact rn3 (n := 2) rfl rfl)) (fun w hI => ⟨ret_sp (by unfold fineSp; simp_all) (by unfold fineSp; simp_all), hI.keep⟩)

theorem fineCan_g (X : Till) (a1 : Option Addr) (n1 c1 : Nat) (D : Imm) (w : World) (hR : TksR D X.tk a1 n1) (hH : Holds D w) (n m : Int) : Gives Tryz.prog 137 [.agg #[], .agg #[it X.tk.huts, .slice a1 n1 c1, it X.price, it X.fine, it X.wait], it n, it m] w (.bool (fineCan X n m)) := by
  unfold Gives
  obtain rfl := hR.tick.len'
  have hl1 := hR.len
  refine enter Tryz.func137 rfl 36 Tryz.ntmps137 (zqb rfl) (Inv.start hH) ?_
  refine WC.seq (WC.ofFr [(0, _), (1, _), (2, _), (3, _)] ⟨rfl, rfl, rfl, rfl, trivial⟩ (WC.region ?_))
  refine WL.so (SO.box rfl rfl) rfl ?_
  rintro _ _ _ ⟨b4, hb4, rfl, rfl, rfl⟩
  refine WL.so (SO.box rfl rfl) rfl ?_
  rintro _ _ _ ⟨b5, hb5, rfl, rfl, rfl⟩
  refine WL.yd (Yd.assign rfl) rfl ?_
  refine WL.nil (WP.thenC (WC.seq (WC.ofFr [(8, _), (5, _), (4, _), (2, _), (3, _)] ⟨rfl, rfl, rfl, rfl, rfl, trivial⟩ (WC.region ?_))))
  refine WL.yd (Yd.fieldAddr FA69_0 rfl) rfl ?_
  refine WL.yd (Yd.fieldAddr FA26_0 rfl) rfl ?_
  refine WL.yd (Yd.loadN Tryz.isAgg24 Tryz.sizeOf24 rfl (vs := [_, _]) rfl (by first | exact rn0 (n := 2) rfl rfl | exact rn1 (n := 2) rfl rfl)) rfl ?_
  refine WL.yd (Yd.move rfl) rfl ?_
  refine WL.so (SO.callP Tryz.call81 rfl (fun w hI => Turn_g X.tk a1 _ c1 D _ hR hI.imm n)) rfl ?_
  rintro _ _ _ ⟨rfl, rfl, rfl⟩
  refine WL.yd (Yd.move rfl) rfl ?_
  refine WL.yd (Yd.extract rfl rfl) rfl ?_
  refine WL.yd (Yd.extract rfl rfl) rfl ?_
  refine WL.yd (Yd.assign rfl) rfl ?_
  refine WL.yd (Yd.assign rfl) rfl ?_
  refine WL.nil (WP.thenC (WC.seq (WC.ofFr [(9, _), (8, _), (5, _), (4, _), (2, _), (3, _)] ⟨rfl, rfl, rfl, rfl, rfl, rfl, trivial⟩ (WC.region ?_))))
  refine WL.yd (Yd.loadN Tryz.isAgg69 Tryz.sizeOf69 rfl (vs := [_, _, _, _, _]) rfl (by first | exact rn0 (n := 5) rfl rfl | exact rn1 (n := 5) rfl rfl)) rfl ?_
  refine WL.so (SO.alloc Tryz.zeroValue69 rfl) rfl ?_
  rintro _ _ _ ⟨b11, hb11, rfl, rfl, rfl⟩
  refine WL.so (SO.store 0 rfl Tryz.sizeOf69 rfl rfl rfl rfl (zqb rfl) (oneB_spec rfl)) rfl ?_
  rintro _ _ _ ⟨rfl, rfl, rfl⟩
  refine WL.nil (WP.thenC (WC.seq (WC.ofFr [(11, _), (9, _), (8, _), (5, _), (4, _), (2, _), (3, _)] ⟨rfl, rfl, rfl, rfl, rfl, rfl, rfl, trivial⟩ (WC.region ?_))))
  refine WL.yd (Yd.fieldAddr FA69_0 rfl) rfl ?_
  refine WL.yd (Yd.fieldAddr FA26_2 rfl) rfl ?_
  refine WL.yd (Yd.load1 Tryz.isAgg3 rfl (by first | exact ro0 rfl rfl | exact ro1 rfl rfl | exact ro2 rfl rfl)) rfl ?_
  refine WL.yd (Yd.fieldAddr FA69_0 rfl) rfl ?_
  refine WL.yd (Yd.fieldAddr FA26_1 rfl) rfl ?_
  refine WL.so (SO.store 0 rfl Tryz.sizeOf3 rfl rfl rfl rfl (zqb rfl) (oneB_spec rfl)) rfl ?_
  rintro _ _ _ ⟨rfl, rfl, rfl⟩
  refine WL.nil (WP.thenC (WC.seq (WC.ofFr [(11, _), (9, _), (8, _), (4, _), (2, _), (3, _)] ⟨rfl, rfl, rfl, rfl, rfl, rfl, trivial⟩ (WC.region ?_))))
  refine WL.yd (Yd.move rfl) rfl ?_
  refine WL.yd (Yd.neq rfl rfl) rfl ?_
  refine WL.yd (Yd.move rfl) rfl ?_
  refine WL.part 28 rfl (fun g28 => ?_) (fun g28 => ?_)
  · try simp only [zq1, zq2, zq3, zq4, zq5, zq6, zq7, zq8] at g28
    refine WL.ydg rfl (Yd.fieldZ 2 rfl Tryz.underlying144 rfl Tryz.sizeOf142 (by kernel_rfl) rfl) rfl ?_
    refine WL.ydg rfl (Yd.loadN Tryz.isAgg142 Tryz.sizeOf142 rfl (vs := []) rfl (by first | exact rn0 (n := 0) rfl rfl | exact rn1 (n := 0) rfl rfl | exact rn2 (n := 0) rfl rfl)) rfl ?_
    refine WL.ydg rfl (Yd.loadN Tryz.isAgg69 Tryz.sizeOf69 rfl (vs := [_, _, _, _, _]) rfl (by first | exact rn0 (n := 5) rfl rfl | exact rn1 (n := 5) rfl rfl | exact rn2 (n := 5) rfl rfl)) rfl ?_
    refine WL.ydg rfl (Yd.move rfl) rfl ?_
    refine WL.ydg rfl (Yd.move rfl) rfl ?_
    refine WL.sog rfl (SO.callP Tryz.call135 rfl (fun w hI => priceCan_g { X with price := X.fine } a1 _ c1 n m _ rfl hl1)) rfl ?_
    rintro _ _ _ ⟨rfl, rfl, rfl⟩
    refine WL.yd (Yd.pickT rfl rfl) rfl ?_
    refine WL.yd (Yd.assign rfl) rfl ?_
    refine WL.nil (WP.thenC (WC.ret ?_))
    refine WP.ret1 rfl rfl Tryz.results137 (RV.tmp rfl) (fun w hI => ⟨ret_bool (by simp_all [fineCan, priceCan]), hI.keep⟩)
  · try simp only [zq1, zq2, zq3, zq4, zq5, zq6, zq7, zq8] at g28
    refine WL.skip rfl rfl ?_
    refine WL.skip rfl rfl ?_
    refine WL.skip rfl rfl ?_
    refine WL.skip rfl rfl ?_
    refine WL.skip rfl rfl ?_
    refine WL.skip rfl rfl ?_
    refine WL.yd (Yd.pickF rfl rfl) rfl ?_
    refine WL.yd (Yd.assign rfl) rfl ?_
    refine WL.nil (WP.thenC (WC.ret ?_))
    refine WP.ret1 rfl rfl Tryz.results137 (RV.tmp rfl) (fun w hI => ⟨ret_bool (by simp_all [fineCan, priceCan]), hI.keep⟩)

theorem waitsB_g (X : Till) (a1 : Option Addr) (n1 c1 : Nat) (D : Imm) (w : World) (hR : TksR D X.tk a1 n1) (hH : Holds D w) (n : Int) : Gives Tryz.prog 141 [.agg #[], .agg #[it X.tk.huts, .slice a1 n1 c1, it X.price, it X.fine, it X.wait], it n] w (spV (waitsSp X.tk n)) := by
  unfold Gives
  obtain rfl := hR.tick.len'
  have hl1 := hR.len
  have hmn := minutes_num X.tk n
  refine enter Tryz.func141 rfl 33 Tryz.ntmps141 (zqb rfl) (Inv.start hH) ?_
  refine WC.seq (WC.ofFr [(0, _), (1, _), (2, _)] ⟨rfl, rfl, rfl, trivial⟩ (WC.region ?_))
  refine WL.so (SO.box rfl rfl) rfl ?_
  rintro _ _ _ ⟨b3, hb3, rfl, rfl, rfl⟩
  refine WL.so (SO.box rfl rfl) rfl ?_
  rintro _ _ _ ⟨b4, hb4, rfl, rfl, rfl⟩
  refine WL.so (SO.alloc Tryz.zeroValue33 rfl) rfl ?_
  rintro _ _ _ ⟨b6, hb6, rfl, rfl, rfl⟩
  refine WL.nil (WP.thenC (WC.seq (WC.ofFr [(6, _), (4, _), (2, _)] ⟨rfl, rfl, rfl, trivial⟩ (WC.region ?_))))
  refine WL.yd (Yd.fieldAddr FA69_0 rfl) rfl ?_
  refine WL.yd (Yd.fieldAddr FA26_0 rfl) rfl ?_
  refine WL.yd (Yd.loadN Tryz.isAgg24 Tryz.sizeOf24 rfl (vs := [_, _]) rfl (by first | exact rn0 (n := 2) rfl rfl | exact rn1 (n := 2) rfl rfl | exact rn2 (n := 2) rfl rfl)) rfl ?_
  refine WL.yd (Yd.move rfl) rfl ?_
  refine WL.so (SO.callP Tryz.call142 rfl (fun w hI => Minutes_g X.tk a1 _ c1 D _ hR hI.imm n)) rfl ?_
  rintro _ _ _ ⟨rfl, rfl, rfl⟩
  refine WL.yd (Yd.move rfl) rfl ?_
  refine WL.yd (Yd.extract rfl rfl) rfl ?_
  refine WL.yd (Yd.extract rfl rfl) rfl ?_
  refine WL.yd (Yd.extract rfl rfl) rfl ?_
  refine WL.so (SO.alloc Tryz.zeroValue33 rfl) rfl ?_
  rintro _ _ _ ⟨b7, hb7, rfl, rfl, rfl⟩
  refine WL.so (SO.alloc Tryz.zeroValue33 rfl) rfl ?_
  rintro _ _ _ ⟨b8, hb8, rfl, rfl, rfl⟩
  refine WL.so (SO.store 1 rfl Tryz.sizeOf33 rfl rfl rfl rfl (zqb rfl) (oneB_spec rfl)) rfl ?_
  rintro _ _ _ ⟨rfl, rfl, rfl⟩
  refine WL.so (SO.store 0 rfl Tryz.sizeOf33 rfl rfl rfl rfl (zqb rfl) (oneB_spec rfl)) rfl ?_
  rintro _ _ _ ⟨rfl, rfl, rfl⟩
  refine WL.yd (Yd.assign rfl) rfl ?_
  refine WL.nil (WP.thenC (WC.seq (WC.ofFr [(8, _), (7, _), (6, _)] ⟨rfl, rfl, rfl, trivial⟩ (WC.region ?_))))
  refine WL.yd (Yd.fieldAddr FA33_0 rfl) rfl ?_
  refine WL.yd (Yd.load1 Tryz.isAgg3 rfl (by first | exact ro0 rfl rfl | exact ro1 rfl rfl | exact ro2 rfl rfl | exact ro3 rfl rfl | exact ro4 rfl rfl)) rfl ?_
  refine WL.yd (Yd.fieldAddr FA33_1 rfl) rfl ?_
  refine WL.yd (Yd.load1 Tryz.isAgg3 rfl (by first | exact ro0 rfl rfl | exact ro1 rfl rfl | exact ro2 rfl rfl | exact ro3 rfl rfl | exact ro4 rfl rfl)) rfl ?_
  refine WL.know 20 (it (MinutesOut X.tk n).2.1.lo) rfl rfl ?_
  refine WL.know 22 (it (MinutesOut X.tk n).1.hi) rfl rfl ?_
  refine WL.yd (Yd.sub rfl rfl (wr64 ⟨by omega, by omega⟩)) rfl ?_
  refine WL.yd (Yd.max2 rfl rfl) rfl ?_
  refine WL.yd (Yd.quo rfl rfl (by omega) (by omega) (wr64 ⟨by omega, by omega⟩)) rfl ?_
  refine WL.yd (Yd.fieldAddr FA33_1 rfl) rfl ?_
  refine WL.yd (Yd.load1 Tryz.isAgg3 rfl (by first | exact ro0 rfl rfl | exact ro1 rfl rfl | exact ro2 rfl rfl | exact ro3 rfl rfl | exact ro4 rfl rfl)) rfl ?_
  refine WL.yd (Yd.fieldAddr FA33_0 rfl) rfl ?_
  refine WL.yd (Yd.load1 Tryz.isAgg3 rfl (by first | exact ro0 rfl rfl | exact ro1 rfl rfl | exact ro2 rfl rfl | exact ro3 rfl rfl | exact ro4 rfl rfl)) rfl ?_
  refine WL.know 27 (it (MinutesOut X.tk n).2.1.hi) rfl rfl ?_
  refine WL.know 29 (it (MinutesOut X.tk n).1.lo) rfl rfl ?_
  refine WL.yd (Yd.sub rfl rfl (wr64 ⟨by omega, by omega⟩)) rfl ?_
  refine WL.yd (Yd.quo rfl rfl (by omega) (by omega) (wr64 ⟨by omega, by omega⟩)) rfl ?_
  refine WL.yd (Yd.build SA33 rfl (cs := [_, _]) rfl) rfl ?_
  refine WL.so (SO.store 2 rfl Tryz.sizeOf33 rfl rfl rfl rfl (zqb rfl) (oneB_spec rfl)) rfl ?_
  rintro _ _ _ ⟨rfl, rfl, rfl⟩
  refine WL.nil (WP.thenC (WC.ret ?_))
  refine WP.ret1 rfl rfl Tryz.results141 (RV.cellN Tryz.isAgg33 Tryz.sizeOf33 rfl (vs := [_, _]) rfl (by first | exact rn0 (n := 2) rfl rfl | exact rn1 (n := 2) rfl rfl | exact rn2 (n := 2) rfl rfl | exact rn3 (n := 2) rfl rfl | exact rn4 (n := 2) rfl rfl)) (fun w hI => ⟨rfl, hI.keep⟩)

theorem times_g (p n : Int) (w : World) (h : -9000000000 ≤ p * n ∧ p * n ≤ 9000000000) : Gives Tryz.prog 64 [it p, it n] w (it (p * n)) := by
  unfold Gives
  refine enter Tryz.func64 rfl 8 Tryz.ntmps64 (zqb rfl) (Inv.start (D := fun _ => none) (by intro _ _ h; cases h)) ?_
  refine WC.seq (WC.ofFr [(0, _), (1, _)] ⟨rfl, rfl, trivial⟩ (WC.region ?_))
  refine WL.yd (Yd.assign rfl) rfl ?_
  refine WL.nil (WP.thenC (WC.seq (WC.ofFr [(4, _), (0, _), (1, _)] ⟨rfl, rfl, rfl, trivial⟩ (WC.region ?_))))
  refine WL.yd (Yd.move rfl) rfl ?_
  refine WL.yd (Yd.move rfl) rfl ?_
  refine WL.yd (Yd.mul rfl rfl (wr64 ⟨by omega, by omega⟩)) rfl ?_
  refine WL.yd (Yd.assign rfl) rfl ?_
  refine WL.nil (WP.thenC (WC.ret ?_))
  refine WP.ret1 rfl rfl Tryz.results64 (RV.tmp rfl) (fun w hI => ⟨rfl, hI.keep⟩)

theorem and_g (p n : Int) (w : World) (h : -9000000000 ≤ p + n ∧ p + n ≤ 9000000000) : Gives Tryz.prog 83 [it p, it n] w (it (p + n)) := by
  unfold Gives
  refine enter Tryz.func83 rfl 8 Tryz.ntmps83 (zqb rfl) (Inv.start (D := fun _ => none) (by intro _ _ h; cases h)) ?_
  refine WC.seq (WC.ofFr [(0, _), (1, _)] ⟨rfl, rfl, trivial⟩ (WC.region ?_))
  refine WL.yd (Yd.assign rfl) rfl ?_
  refine WL.nil (WP.thenC (WC.seq (WC.ofFr [(4, _), (0, _), (1, _)] ⟨rfl, rfl, rfl, trivial⟩ (WC.region ?_))))
  refine WL.yd (Yd.move rfl) rfl ?_
  refine WL.yd (Yd.move rfl) rfl ?_
  refine WL.yd (Yd.add rfl rfl (wr64 ⟨by omega, by omega⟩)) rfl ?_
  refine WL.yd (Yd.assign rfl) rfl ?_
  refine WL.nil (WP.thenC (WC.ret ?_))
  refine WP.ret1 rfl rfl Tryz.results83 (RV.tmp rfl) (fun w hI => ⟨rfl, hI.keep⟩)

theorem backSpan_g (X : Till) (a1 : Option Addr) (n1 c1 : Nat) (D : Imm) (w : World) (hR : TksR D X.tk a1 n1) (hH : Holds D w) (hbt : tillB X = true) (n : Int) : Gives Tryz.prog 140 [.agg #[], .agg #[it X.tk.huts, .slice a1 n1 c1, it X.price, it X.fine, it X.wait], it n] w (spV (backSp X n)) := by
  unfold Gives
  obtain rfl := hR.tick.len'
  have hl1 := hR.len
  have hwt := (tillB_num hbt).2.2.2
  have hwn := waits_num X.tk n
  refine enter Tryz.func140 rfl 26 Tryz.ntmps140 (zqb rfl) (Inv.start hH) ?_
  refine WC.seq (WC.ofFr [(0, _), (1, _), (2, _)] ⟨rfl, rfl, rfl, trivial⟩ (WC.region ?_))
  refine WL.so (SO.box rfl rfl) rfl ?_
  rintro _ _ _ ⟨b3, hb3, rfl, rfl, rfl⟩
  refine WL.so (SO.box rfl rfl) rfl ?_
  rintro _ _ _ ⟨b4, hb4, rfl, rfl, rfl⟩
  refine WL.so (SO.alloc Tryz.zeroValue33 rfl) rfl ?_
  rintro _ _ _ ⟨b6, hb6, rfl, rfl, rfl⟩
  refine WL.nil (WP.thenC (WC.seq (WC.ofFr [(6, _), (4, _), (3, _), (2, _)] ⟨rfl, rfl, rfl, rfl, trivial⟩ (WC.region ?_))))
  refine WL.yd (Yd.fieldAddr FA69_0 rfl) rfl ?_
  refine WL.yd (Yd.fieldAddr FA26_3 rfl) rfl ?_
  refine WL.yd (Yd.load1 Tryz.isAgg3 rfl (by first | exact ro0 rfl rfl | exact ro1 rfl rfl | exact ro2 rfl rfl)) rfl ?_
  refine WL.yd (Yd.func rfl rfl) rfl ?_
  refine WL.yd (Yd.assign rfl) rfl ?_
  refine WL.nil (WP.thenC (WC.seq (WC.ofFr [(7, _), (6, _), (4, _), (3, _), (2, _)] ⟨rfl, rfl, rfl, rfl, rfl, trivial⟩ (WC.region ?_))))
  refine WL.yd (Yd.loadN Tryz.isAgg145 Tryz.sizeOf145 rfl (vs := []) rfl (by first | exact rn0 (n := 0) rfl rfl | exact rn1 (n := 0) rfl rfl | exact rn2 (n := 0) rfl rfl)) rfl ?_
  refine WL.yd (Yd.loadN Tryz.isAgg69 Tryz.sizeOf69 rfl (vs := [_, _, _, _, _]) rfl (by first | exact rn0 (n := 5) rfl rfl | exact rn1 (n := 5) rfl rfl | exact rn2 (n := 5) rfl rfl)) rfl ?_
  refine WL.yd (Yd.move rfl) rfl ?_
  refine WL.so (SO.callP Tryz.call141 rfl (fun w hI => waitsB_g X a1 _ c1 D _ hR hI.imm n)) rfl ?_
  rintro _ _ _ ⟨rfl, rfl, rfl⟩
  refine WL.so (SO.alloc Tryz.zeroValue33 rfl) rfl ?_
  rintro _ _ _ ⟨b8, hb8, rfl, rfl, rfl⟩
  refine WL.so (SO.store 0 rfl Tryz.sizeOf33 rfl rfl rfl rfl (zqb rfl) (oneB_spec rfl)) rfl ?_
  rintro _ _ _ ⟨rfl, rfl, rfl⟩
  refine WL.nil (WP.thenC (WC.seq (WC.ofFr [(8, _), (7, _), (6, _)] ⟨rfl, rfl, rfl, trivial⟩ ?_)))
  refine WC.tail 7 [0, 1, 2, 3, 4, 5, 6] rfl (by kernel_rfl) (by kernel_rfl)  ?_
  refine WQ.q rfl (Yd.qt (Yd.move rfl)) rfl ?_
  refine WQ.q rfl (Yd.qt (Yd.fieldAddr FA33_0 rfl)) rfl ?_
  refine WQ.q rfl (Yd.qt (Yd.load1 Tryz.isAgg3 rfl (by first | exact ro0 rfl rfl | exact ro1 rfl rfl | exact ro2 rfl rfl | exact ro3 rfl rfl))) rfl ?_
  refine WQ.q rfl (Qt.call (Enters.val Tryz.call64 rfl rfl) (fun w hI => times_g X.wait (waitsSp X.tk n).lo _ (by have h1 := mul_100 hwt (k := (waitsSp X.tk n).lo) (by omega); omega))) rfl ?_
  refine WQ.q rfl (Yd.qt (Yd.move rfl)) rfl ?_
  refine WQ.q rfl (Yd.qt (Yd.fieldAddr FA33_1 rfl)) rfl ?_
  refine WQ.q rfl (Yd.qt (Yd.load1 Tryz.isAgg3 rfl (by first | exact ro0 rfl rfl | exact ro1 rfl rfl | exact ro2 rfl rfl | exact ro3 rfl rfl))) rfl ?_
  refine WQ.tail ?_
  refine WL.so (SO.call (Enters.val Tryz.call64 rfl rfl) (fun w hI => times_g X.wait (waitsSp X.tk n).hi _ (by have h1 := mul_100 hwt (k := (waitsSp X.tk n).hi) (by omega); omega))) rfl ?_
  rintro _ _ _ ⟨rfl, rfl, rfl⟩
  refine WL.yd (Yd.build SA33 rfl (cs := [_, _]) rfl) rfl ?_
  refine WL.so (SO.store 1 rfl Tryz.sizeOf33 rfl rfl rfl rfl (zqb rfl) (oneB_spec rfl)) rfl ?_
  rintro _ _ _ ⟨rfl, rfl, rfl⟩
  refine WL.nil (WP.thenC (WC.ret ?_))
  refine WP.ret1 rfl rfl Tryz.results140 (RV.cellN Tryz.isAgg33 Tryz.sizeOf33 rfl (vs := [_, _]) rfl (by first | exact rn0 (n := 2) rfl rfl | exact rn1 (n := 2) rfl rfl | exact rn2 (n := 2) rfl rfl | exact rn3 (n := 2) rfl rfl)) (fun w hI => ⟨rfl, hI.keep⟩)

theorem backCan_g (X : Till) (a1 : Option Addr) (n1 c1 : Nat) (D : Imm) (w : World) (hR : TksR D X.tk a1 n1) (hH : Holds D w) (hbt : tillB X = true) (n m : Int) : Gives Tryz.prog 139 [.agg #[], .agg #[it X.tk.huts, .slice a1 n1 c1, it X.price, it X.fine, it X.wait], it n, it m] w (.bool (backCan X n m)) := by
  unfold Gives
  obtain rfl := hR.tick.len'
  have hl1 := hR.len
  have hwt := (tillB_num hbt).2.2.2
  have hwn := waits_num X.tk n
  refine enter Tryz.func139 rfl 30 Tryz.ntmps139 (zqb rfl) (Inv.start hH) ?_
  refine WC.seq (WC.ofFr [(0, _), (1, _), (2, _), (3, _)] ⟨rfl, rfl, rfl, rfl, trivial⟩ (WC.region ?_))
  refine WL.so (SO.box rfl rfl) rfl ?_
  rintro _ _ _ ⟨b4, hb4, rfl, rfl, rfl⟩
  refine WL.so (SO.box rfl rfl) rfl ?_
  rintro _ _ _ ⟨b5, hb5, rfl, rfl, rfl⟩
  refine WL.yd (Yd.assign rfl) rfl ?_
  refine WL.nil (WP.thenC (WC.seq (WC.ofFr [(8, _), (5, _), (4, _), (2, _), (3, _)] ⟨rfl, rfl, rfl, rfl, rfl, trivial⟩ (WC.region ?_))))
  refine WL.yd (Yd.loadN Tryz.isAgg145 Tryz.sizeOf145 rfl (vs := []) rfl (by first | exact rn0 (n := 0) rfl rfl | exact rn1 (n := 0) rfl rfl)) rfl ?_
  refine WL.yd (Yd.loadN Tryz.isAgg69 Tryz.sizeOf69 rfl (vs := [_, _, _, _, _]) rfl (by first | exact rn0 (n := 5) rfl rfl | exact rn1 (n := 5) rfl rfl)) rfl ?_
  refine WL.yd (Yd.move rfl) rfl ?_
  refine WL.so (SO.callP Tryz.call141 rfl (fun w hI => waitsB_g X a1 _ c1 D _ hR hI.imm n)) rfl ?_
  rintro _ _ _ ⟨rfl, rfl, rfl⟩
  refine WL.so (SO.alloc Tryz.zeroValue33 rfl) rfl ?_
  rintro _ _ _ ⟨b9, hb9, rfl, rfl, rfl⟩
  refine WL.so (SO.store 0 rfl Tryz.sizeOf33 rfl rfl rfl rfl (zqb rfl) (oneB_spec rfl)) rfl ?_
  rintro _ _ _ ⟨rfl, rfl, rfl⟩
  refine WL.nil (WP.thenC (WC.seq (WC.seq (WC.ofFr [(9, _), (8, _), (5, _), (3, _)] ⟨rfl, rfl, rfl, rfl, trivial⟩ (WC.region ?_)))))
  refine WL.yd (Yd.fieldAddr FA33_0 rfl) rfl ?_
  refine WL.yd (Yd.load1 Tryz.isAgg3 rfl (by first | exact ro0 rfl rfl | exact ro1 rfl rfl | exact ro2 rfl rfl)) rfl ?_
  refine WL.yd (Yd.assign rfl) rfl ?_
  refine WL.nil (WP.thenC (WC.block ?_))
  refine WC.loopF (fun i : Nat => [(3, it m), (5, pt b5), (9, pt b9), (10, it ((waitsSp X.tk n).lo + ((i : Nat) : Int)))]) (fun i => i ≤ ((waitsSp X.tk n).hi - (waitsSp X.tk n).lo + 1).toNat ∧ ∀ j : Nat, j < i → ¬ ((waitsSp X.tk n).lo + (j : Int)) * X.wait = m) (fun i => ((waitsSp X.tk n).hi - (waitsSp X.tk n).lo + 1).toNat - i) 0 ⟨by omega, by intro j hj; omega⟩ ⟨rfl, rfl, rfl, by show some (it _) = some (it _); congr 2; push_cast; omega, trivial⟩ ?_
  intro i ⟨hi, hd⟩
  refine WC.seq (WC.seq (WC.ofFr [(3, _), (5, _), (9, _), (10, _)] ⟨rfl, rfl, rfl, rfl, trivial⟩ (WC.region ?_)))
  refine WL.yd (Yd.move rfl) rfl ?_
  refine WL.yd (Yd.fieldAddr FA33_1 rfl) rfl ?_
  refine WL.yd (Yd.load1 Tryz.isAgg3 rfl (by first | exact ro0 rfl rfl | exact ro1 rfl rfl | exact ro2 rfl rfl)) rfl ?_
  refine WL.yd (Yd.leq rfl rfl) rfl ?_
  refine WL.nil (WP.thenC ?_)
  refine WC.cond rfl (fun c20 => ?_) (fun c20 => ?_)
  · try simp only [zq1, zq2, zq3, zq4, zq5, zq6, zq7, zq8] at c20
    have hmm : 0 ≤ ((waitsSp X.tk n).lo + (i : Int)) * X.wait ∧ ((waitsSp X.tk n).lo + (i : Int)) * X.wait ≤ 2400 := by rw [Int.mul_comm]; exact mul_100 hwt (by omega)
    refine WC.skip (WP.thenC (WC.seq (WC.block (WC.seq (WC.ofFr [(3, _), (5, _), (9, _), (10, _)] ⟨rfl, rfl, rfl, rfl, trivial⟩ (WC.region ?_))))))
    refine WL.yd (Yd.move rfl) rfl ?_
    refine WL.yd (Yd.fieldAddr FA69_0 rfl) rfl ?_
    refine WL.yd (Yd.fieldAddr FA26_3 rfl) rfl ?_
    refine WL.yd (Yd.load1 Tryz.isAgg3 rfl (by first | exact ro0 rfl rfl | exact ro1 rfl rfl | exact ro2 rfl rfl)) rfl ?_
    refine WL.know 26 (it X.wait) rfl rfl ?_
    refine WL.yd (Yd.mul rfl rfl (wr64 ⟨by omega, by omega⟩)) rfl ?_
    refine WL.yd (Yd.move rfl) rfl ?_
    refine WL.yd (Yd.eql rfl rfl) rfl ?_
    refine WL.nil (WP.thenC ?_)
    refine WC.cond rfl (fun c29 => ?_) (fun c29 => ?_)
    · try simp only [zq1, zq2, zq3, zq4, zq5, zq6, zq7, zq8] at c29
      refine WC.seq (WC.ofFr [(3, _), (5, _), (9, _), (10, _)] ⟨rfl, rfl, rfl, rfl, trivial⟩ (WC.region ?_))
      refine WL.yd (Yd.assign rfl) rfl ?_
      refine WL.nil (WP.thenC (WC.ret (WP.blkRet (WP.thenRet (WP.thenRet (WP.blkRet (WP.thenRet ?_)))))))
      refine WP.ret1 rfl rfl Tryz.results139 (RV.tmp rfl) (fun w hI => ⟨ret_bool (Eq.symm (List.any_eq_true.2 ⟨_, mem_rng.2 ⟨by omega, by omega⟩, decide_eq_true c29⟩)), hI.keep⟩)
    · try simp only [zq1, zq2, zq3, zq4, zq5, zq6, zq7, zq8] at c29
      refine WC.skip (WP.blkNormal (WP.thenC (WC.ofFr [(3, _), (5, _), (9, _), (10, _)] ⟨rfl, rfl, rfl, rfl, trivial⟩ (WC.region ?_))))
      refine WL.yd (Yd.move rfl) rfl ?_
      refine WL.yd (Yd.add rfl rfl (wr64 ⟨by omega, by omega⟩)) rfl ?_
      refine WL.yd (Yd.assign rfl) rfl ?_
      refine WL.nil ?_
      exact WP.againF (i + 1) ⟨by omega, ext_round hd c29⟩ (by omega) ⟨rfl, rfl, rfl, by show some (it _) = some (it _); congr 2; push_cast; omega, trivial⟩ (fun _ h => h) (fun h => h)
  · try simp only [zq1, zq2, zq3, zq4, zq5, zq6, zq7, zq8] at c20
    refine WC.exit ?_
    refine WP.thenExit ?_
    refine WP.thenExit ?_
    refine WP.blkHit ?_
    refine WP.thenC (WC.seq (WC.ofFr [] trivial (WC.region ?_)))
    refine WL.yd (Yd.assign rfl) rfl ?_
    refine WL.nil (WP.thenC (WC.ret ?_))
    refine WP.ret1 rfl rfl Tryz.results139 (RV.tmp rfl) (fun w hI => ⟨ret_bool (Eq.symm (by
      unfold backCan
      rw [List.any_eq_false]
      intro k hk
      have h1 := mem_rng.1 hk
      have h2 := hd (k - (waitsSp X.tk n).lo).toNat (by omega)
      rw [show (waitsSp X.tk n).lo + (((k - (waitsSp X.tk n).lo).toNat : Nat) : Int) = k by omega] at h2
      simpa using h2)), hI.keep⟩)

end Go.Proofs.YtpnbkdlejfmbeaaGreat
namespace Go.Proofs.YtpnbkdlejfmbeaaGreat
open Go.W Go.Ti
theorem FA79_0 : FieldAt Tryz.prog 79 0 0 := FieldAt.mk (t := 77) (off := 0) Tryz.underlying79 rfl Tryz.sizeOf77 (by decide)
theorem FA119_0 : FieldAt Tryz.prog 119 0 0 := FieldAt.mk (t := 103) (off := 0) Tryz.underlying119 rfl Tryz.sizeOf103 (by decide)
def intC (x : Int) : List Value := [it x]
theorem intC_len : ∀ x, (intC x).length = 1 := fun _ => rfl
theorem int_flat (f : Nat → Int) (n : Nat) : ((List.range n).map f).flatMap intC = (List.range n).map fun i => it (f i) := by
  rw [List.flatMap_map]
  induction n with
  | zero => rfl
  | succ n ih => rw [List.range_succ, List.flatMap_append, List.map_append, ih]; rfl
theorem range_step {α : Type} (f : Nat → α) (k : Nat) : (List.range (k + 1)).map f = (List.range k).map f ++ [f k] := by rw [List.range_succ, List.map_append]; rfl
theorem sum_take {l : List Int} {k : Nat} (hk : k < l.length) : (l.take (k + 1)).sum = (l.take k).sum + gt l k := by
  have hg : gt l k = l[k] := by simp [gt, List.getD, hk]
  rw [List.take_succ_eq_append_getElem hk, List.sum_append, hg]
  simp
theorem sum_bound {l : List Int} (h : ∀ k, k < l.length → -100000 ≤ gt l k ∧ gt l k ≤ 100000) : ∀ k, k ≤ l.length → -100000 * (k : Int) ≤ (l.take k).sum ∧ (l.take k).sum ≤ 100000 * (k : Int) := by
  intro k
  induction k with
  | zero => intro _; simp
  | succ k ih =>
    intro hk
    have h1 := ih (by omega)
    have h2 := h k (by omega)
    rw [sum_take (by omega)]
    omega
theorem sum_const (p : Int) (n : Nat) : ((List.range n).map fun _ => p).sum = p * n := by
  induction n with
  | zero => simp
  | succ n ih =>
    rw [range_step, List.sum_append, ih]
    simp [Int.mul_add]

theorem foundP_g (n : Nat) (hn : n ≤ 1000) (fi : FuncId) (cp : List Value) (f : Nat → Int) (D : Imm) (w : World) (hH : Holds D w) (hfi : ∀ args w, (callFunc fi args).run Tryz.prog w = .ok (.enter fi args) w) (hF : ∀ i, i < n → ∀ w', Holds D w' → Gives Tryz.prog fi (nt i :: cp) w' (it (f i))) : Makes Tryz.prog 42 [nt n, .agg #[.func (.func fi) #[] cp.toArray]] w D (fun v D' => ∃ a c, v = .slice a n c ∧ SlL D' 1 (((List.range n).map f).map intC) a n) := by
  unfold Makes
  refine enter Tryz.func42 rfl 19 Tryz.ntmps42 (zqb rfl) (Inv.start hH) ?_
  refine WC.seq (WC.ofFr [(0, _), (1, _)] ⟨rfl, rfl, trivial⟩ (WC.region ?_))
  refine WL.so (SO.box rfl rfl) rfl ?_
  rintro _ _ _ ⟨b3, hb3, rfl, rfl, rfl⟩
  refine WL.yd (Yd.assign rfl) rfl ?_
  refine WL.nil (WP.thenC (WC.seq (WC.seq (WC.ofFr [(4, _), (3, _), (0, _)] ⟨rfl, rfl, rfl, trivial⟩ (WC.region ?_)))))
  refine WL.yd (Yd.move rfl) rfl ?_
  refine WL.yd (Yd.move rfl) rfl ?_
  refine WL.nil (WP.thenC (WC.block ?_))
  refine WC.loopT [_] (fun y : Nat × Option Ow => [(3, pt b3), (4, owV y.2 y.1), (6, nt n), (7, nt y.1)]) (fun y => owH y.2 72 ((List.range y.1).map fun i => it (f i)) []) (fun y => y.1 ≤ n ∧ owP w y.2 y.1 1) (fun y => n - y.1) (0, none) ⟨by omega, rfl⟩ rfl ⟨rfl, rfl, rfl, rfl, trivial⟩ ?_
  rintro ⟨k, o⟩ ⟨hk, ho⟩
  dsimp only at hk ho
  refine WC.seq (WC.ofFr [(3, _), (4, _), (6, _), (7, _)] ⟨rfl, rfl, rfl, rfl, trivial⟩ (WC.region ?_))
  refine WL.yd (Yd.lss rfl rfl) rfl ?_
  refine WL.nil (WP.thenC (WC.seq ?_))
  refine WC.cond rfl (fun c8 => ?_) (fun c8 => ?_)
  · try simp only [zq1, zq2, zq3, zq4, zq5, zq6, zq7, zq8] at c8
    have hkn : k < n := by omega
    refine WC.skip (WP.thenC (WC.seq (WC.block (WC.seq (WC.ofFr [(3, _), (4, _), (6, _), (7, _)] ⟨rfl, rfl, rfl, rfl, trivial⟩ (WC.region ?_))))))
    refine WL.yd (Yd.move rfl) rfl ?_
    refine WL.yd (Yd.assign rfl) rfl ?_
    refine WL.nil (WP.thenC (WC.ofFr [(5, _), (3, _), (4, _), (6, _), (7, _)] ⟨rfl, rfl, rfl, rfl, rfl, trivial⟩ (WC.region ?_)))
    refine WL.yd (Yd.move rfl) rfl ?_
    refine WL.yd (Yd.fieldAddr FA79_0 rfl) rfl ?_
    refine WL.yd (Yd.load1 Tryz.isAgg77 rfl (by first | exact ro0 rfl rfl)) rfl ?_
    refine WL.yd (Yd.move rfl) rfl ?_
    refine WL.so (SO.call (Enters.val hfi rfl rfl) (fun w hI => hF k hkn _ hI.imm)) rfl ?_
    rintro _ _ _ ⟨rfl, rfl, rfl⟩
    refine WL.so (SO.buildSlice Tryz.underlying74 Tryz.sizeOf72 Tryz.zeroValue72 rfl rfl rfl rfl (cs := [_]) rfl) rfl ?_
    rintro _ _ _ ⟨b15, hb15, rfl, rfl, rfl⟩
    refine WL.so (SO.appendOw (o := o) (len := k) (n := 1) (xs := ((List.range k).map fun i => it (f i))) (size := 1) [_] [_] [] rfl rfl Tryz.underlying74 Tryz.sizeOf72 Tryz.typeInfo72 Tryz.zeroValue72 rfl rfl rfl rfl ⟨rfl, .inr ⟨_, _, _, rfl, RdN.own (k := 0) (n := 1) rfl rfl⟩⟩ (oneB_spec rfl) ho (by simp) (by omega) (by show (2 * (_ + _) + 1000) * 8 ≤ 2 ^ 48; omega) (by omega)) rfl ?_
    rintro _ _ _ ⟨u1, hu1, rfl, rfl, rfl⟩
    refine WL.yd (Yd.assign rfl) rfl ?_
    refine WL.nil (WP.blkNormal (WP.thenC (WC.ofFr [(4, _), (3, _), (6, _), (7, _)] ⟨rfl, rfl, rfl, rfl, trivial⟩ (WC.region ?_))))
    refine WL.yd (Yd.add rfl rfl (wr64 ⟨by omega, by omega⟩)) rfl ?_
    refine WL.yd (Yd.move rfl) rfl ?_
    refine WL.nil ?_
    exact WP.againT (⟨k + 1, some u1⟩ : Nat × Option Ow) ⟨by simp only; omega, hu1⟩ (by simp only; omega) [] _ rfl (by show _ = _ ++ owH (some u1) _ ((List.range (k + 1)).map fun i => it (f i)) []; rw [range_step]; rfl) ⟨rfl, rfl, rfl, rfl, trivial⟩
  · try simp only [zq1, zq2, zq3, zq4, zq5, zq6, zq7, zq8] at c8
    obtain rfl : k = n := by omega
    refine WC.exit ?_
    refine WP.thenExit ?_
    refine WP.thenExit ?_
    refine WP.blkHit ?_
    refine WP.thenC (WC.seq (WC.ofFr [(4, _)] ⟨rfl, trivial⟩ (WC.region ?_)))
    refine WL.freezeOw (f := intC) (m := 1) intC_len [_] [] o 72 ((List.range k).map f) rfl (by simpa using ho) (by rw [int_flat]) (fun D2 hX2 hS2 => ?_)
    rw [List.length_map, List.length_range] at hS2
    refine WL.yd (Yd.move rfl) rfl ?_
    refine WL.yd (Yd.assign rfl) rfl ?_
    refine WL.nil (WP.thenC (WC.ret ?_))
    refine WP.ret1 rfl rfl Tryz.results42 (RV.tmp rfl) (fun w1 hI => ⟨_, D2, rfl, hI.keep, hI.imm, hX2, owAt o, _, owV_owL (owL_of ho), hS2⟩)

theorem foundI_g (n : Nat) (hn : n ≤ 1000) (fi : FuncId) (cp : List Value) (f : Nat → Int) (D : Imm) (w : World) (hH : Holds D w) (hfi : ∀ args w, (callFunc fi args).run Tryz.prog w = .ok (.enter fi args) w) (hF : ∀ i, i < n → ∀ w', Holds D w' → Gives Tryz.prog fi (nt i :: cp) w' (it (f i))) : Makes Tryz.prog 77 [nt n, .agg #[.func (.func fi) #[] cp.toArray]] w D (fun v D' => ∃ a c, v = .slice a n c ∧ SlL D' 1 (((List.range n).map f).map intC) a n) := by
  unfold Makes
  refine enter Tryz.func77 rfl 19 Tryz.ntmps77 (zqb rfl) (Inv.start hH) ?_
  refine WC.seq (WC.ofFr [(0, _), (1, _)] ⟨rfl, rfl, trivial⟩ (WC.region ?_))
  refine WL.so (SO.box rfl rfl) rfl ?_
  rintro _ _ _ ⟨b3, hb3, rfl, rfl, rfl⟩
  refine WL.yd (Yd.assign rfl) rfl ?_
  refine WL.nil (WP.thenC (WC.seq (WC.seq (WC.ofFr [(4, _), (3, _), (0, _)] ⟨rfl, rfl, rfl, trivial⟩ (WC.region ?_)))))
  refine WL.yd (Yd.move rfl) rfl ?_
  refine WL.yd (Yd.move rfl) rfl ?_
  refine WL.nil (WP.thenC (WC.block ?_))
  refine WC.loopT [_] (fun y : Nat × Option Ow => [(3, pt b3), (4, owV y.2 y.1), (6, nt n), (7, nt y.1)]) (fun y => owH y.2 3 ((List.range y.1).map fun i => it (f i)) []) (fun y => y.1 ≤ n ∧ owP w y.2 y.1 1) (fun y => n - y.1) (0, none) ⟨by omega, rfl⟩ rfl ⟨rfl, rfl, rfl, rfl, trivial⟩ ?_
  rintro ⟨k, o⟩ ⟨hk, ho⟩
  dsimp only at hk ho
  refine WC.seq (WC.ofFr [(3, _), (4, _), (6, _), (7, _)] ⟨rfl, rfl, rfl, rfl, trivial⟩ (WC.region ?_))
  refine WL.yd (Yd.lss rfl rfl) rfl ?_
  refine WL.nil (WP.thenC (WC.seq ?_))
  refine WC.cond rfl (fun c8 => ?_) (fun c8 => ?_)
  · try simp only [zq1, zq2, zq3, zq4, zq5, zq6, zq7, zq8] at c8
    have hkn : k < n := by omega
    refine WC.skip (WP.thenC (WC.seq (WC.block (WC.seq (WC.ofFr [(3, _), (4, _), (6, _), (7, _)] ⟨rfl, rfl, rfl, rfl, trivial⟩ (WC.region ?_))))))
    refine WL.yd (Yd.move rfl) rfl ?_
    refine WL.yd (Yd.assign rfl) rfl ?_
    refine WL.nil (WP.thenC (WC.ofFr [(5, _), (3, _), (4, _), (6, _), (7, _)] ⟨rfl, rfl, rfl, rfl, rfl, trivial⟩ (WC.region ?_)))
    refine WL.yd (Yd.move rfl) rfl ?_
    refine WL.yd (Yd.fieldAddr FA119_0 rfl) rfl ?_
    refine WL.yd (Yd.load1 Tryz.isAgg103 rfl (by first | exact ro0 rfl rfl)) rfl ?_
    refine WL.yd (Yd.move rfl) rfl ?_
    refine WL.so (SO.call (Enters.val hfi rfl rfl) (fun w hI => hF k hkn _ hI.imm)) rfl ?_
    rintro _ _ _ ⟨rfl, rfl, rfl⟩
    refine WL.so (SO.buildSlice Tryz.underlying52 Tryz.sizeOf3 Tryz.zeroValue3 rfl rfl rfl rfl (cs := [_]) rfl) rfl ?_
    rintro _ _ _ ⟨b15, hb15, rfl, rfl, rfl⟩
    refine WL.so (SO.appendOw (o := o) (len := k) (n := 1) (xs := ((List.range k).map fun i => it (f i))) (size := 1) [_] [_] [] rfl rfl Tryz.underlying52 Tryz.sizeOf3 Tryz.typeInfo3 Tryz.zeroValue3 rfl rfl rfl rfl ⟨rfl, .inr ⟨_, _, _, rfl, RdN.own (k := 0) (n := 1) rfl rfl⟩⟩ (oneB_spec rfl) ho (by simp) (by omega) (by show (2 * (_ + _) + 1000) * 8 ≤ 2 ^ 48; omega) (by omega)) rfl ?_
    rintro _ _ _ ⟨u1, hu1, rfl, rfl, rfl⟩
    refine WL.yd (Yd.assign rfl) rfl ?_
    refine WL.nil (WP.blkNormal (WP.thenC (WC.ofFr [(4, _), (3, _), (6, _), (7, _)] ⟨rfl, rfl, rfl, rfl, trivial⟩ (WC.region ?_))))
    refine WL.yd (Yd.add rfl rfl (wr64 ⟨by omega, by omega⟩)) rfl ?_
    refine WL.yd (Yd.move rfl) rfl ?_
    refine WL.nil ?_
    exact WP.againT (⟨k + 1, some u1⟩ : Nat × Option Ow) ⟨by simp only; omega, hu1⟩ (by simp only; omega) [] _ rfl (by show _ = _ ++ owH (some u1) _ ((List.range (k + 1)).map fun i => it (f i)) []; rw [range_step]; rfl) ⟨rfl, rfl, rfl, rfl, trivial⟩
  · try simp only [zq1, zq2, zq3, zq4, zq5, zq6, zq7, zq8] at c8
    obtain rfl : k = n := by omega
    refine WC.exit ?_
    refine WP.thenExit ?_
    refine WP.thenExit ?_
    refine WP.blkHit ?_
    refine WP.thenC (WC.seq (WC.ofFr [(4, _)] ⟨rfl, trivial⟩ (WC.region ?_)))
    refine WL.freezeOw (f := intC) (m := 1) intC_len [_] [] o 3 ((List.range k).map f) rfl (by simpa using ho) (by rw [int_flat]) (fun D2 hX2 hS2 => ?_)
    rw [List.length_map, List.length_range] at hS2
    refine WL.yd (Yd.move rfl) rfl ?_
    refine WL.yd (Yd.assign rfl) rfl ?_
    refine WL.nil (WP.thenC (WC.ret ?_))
    refine WP.ret1 rfl rfl Tryz.results77 (RV.tmp rfl) (fun w1 hI => ⟨_, D2, rfl, hI.keep, hI.imm, hX2, owAt o, _, owV_owL (owL_of ho), hS2⟩)

theorem total_g (l : List Int) (a : Option Addr) (n c : Nat) (D : Imm) (w : World) (hS : SlL D 1 (l.map intC) a n) (hn : n ≤ 1000) (hb : ∀ k, k < l.length → -100000 ≤ gt l k ∧ gt l k ≤ 100000) (hH : Holds D w) : Gives Tryz.prog 41 [.slice a n c] w (it l.sum) := by
  unfold Gives
  obtain rfl := hS.len'
  refine enter Tryz.func41 rfl 18 Tryz.ntmps41 (zqb rfl) (Inv.start hH) ?_
  refine WC.seq (WC.ofFr [(0, _)] ⟨rfl, trivial⟩ (WC.region ?_))
  refine WL.yd (Yd.assign rfl) rfl ?_
  refine WL.nil (WP.thenC (WC.seq (WC.ofFr [(2, _), (0, _)] ⟨rfl, rfl, trivial⟩ (WC.region ?_))))
  refine WL.yd (Yd.assign rfl) rfl ?_
  refine WL.nil (WP.thenC (WC.seq (WC.seq (WC.ofFr [(3, _), (2, _), (0, _)] ⟨rfl, rfl, rfl, trivial⟩ (WC.region ?_)))))
  refine WL.yd (Yd.move rfl) rfl ?_
  refine WL.yd (Yd.lenS rfl Tryz.underlying74 rfl) rfl ?_
  refine WL.yd (Yd.move rfl) rfl ?_
  refine WL.nil (WP.thenC (WC.block ?_))
  refine WC.loopF (fun k : Nat => [(2, it (l.take k).sum), (3, .func (.func 83) #[] #[]), (6, .slice a l.length c), (7, nt l.length), (8, nt k)]) (fun k => k ≤ l.length) (fun k => l.length - k) 0 (by omega) ⟨rfl, rfl, rfl, rfl, rfl, trivial⟩ ?_
  intro k hk
  refine WC.seq (WC.ofFr [(2, _), (3, _), (6, _), (7, _), (8, _)] ⟨rfl, rfl, rfl, rfl, rfl, trivial⟩ (WC.region ?_))
  refine WL.yd (Yd.lss rfl rfl) rfl ?_
  refine WL.nil (WP.thenC (WC.seq ?_))
  refine WC.cond rfl (fun c9 => ?_) (fun c9 => ?_)
  · try simp only [zq1, zq2, zq3, zq4, zq5, zq6, zq7, zq8] at c9
    have hkl : k < l.length := by omega
    have hst := sum_take hkl
    have hb1 := sum_bound hb k (by omega)
    have hb2 := hb k hkl
    refine WC.skip (WP.thenC (WC.seq (WC.block (WC.seq (WC.ofFr [(2, _), (3, _), (6, _), (7, _), (8, _)] ⟨rfl, rfl, rfl, rfl, rfl, trivial⟩ (WC.region ?_))))))
    refine WL.yd (Yd.indexS Tryz.underlying74 Tryz.sizeOf72 rfl rfl (by omega) (by omega) (by first | exact hS.addr k (by omega))) rfl ?_
    refine WL.yd (Yd.load1 Tryz.isAgg72 rfl (by first | exact ((hS.at k (by omega)).rd 0 rfl))) rfl ?_
    refine WL.yd (Yd.assign rfl) rfl ?_
    refine WL.nil (WP.thenC (WC.ofFr [(5, _), (2, _), (3, _), (6, _), (7, _), (8, _)] ⟨rfl, rfl, rfl, rfl, rfl, rfl, trivial⟩ (WC.region ?_)))
    refine WL.yd (Yd.move rfl) rfl ?_
    refine WL.yd (Yd.move rfl) rfl ?_
    refine WL.yd (Yd.move rfl) rfl ?_
    refine WL.so (SO.call (Enters.val Tryz.call83 rfl rfl) (fun w hI => and_g (l.take k).sum (gt l k) _ (by omega))) rfl ?_
    rintro _ _ _ ⟨rfl, rfl, rfl⟩
    refine WL.yd (Yd.assign rfl) rfl ?_
    refine WL.nil (WP.blkNormal (WP.thenC (WC.ofFr [(2, _), (3, _), (6, _), (7, _), (8, _)] ⟨rfl, rfl, rfl, rfl, rfl, trivial⟩ (WC.region ?_))))
    refine WL.yd (Yd.add rfl rfl (wr64 ⟨by omega, by omega⟩)) rfl ?_
    refine WL.yd (Yd.move rfl) rfl ?_
    refine WL.nil ?_
    exact WP.againF (k + 1) (by omega) (by omega) ⟨by rw [hst]; rfl, rfl, rfl, rfl, rfl, trivial⟩ (fun _ h => h) (fun h => h)
  · try simp only [zq1, zq2, zq3, zq4, zq5, zq6, zq7, zq8] at c9
    obtain rfl : k = l.length := by omega
    refine WC.exit ?_
    refine WP.thenExit ?_
    refine WP.thenExit ?_
    refine WP.blkHit ?_
    refine WP.thenC (WC.seq (WC.ofFr [(2, _)] ⟨rfl, trivial⟩ (WC.region ?_)))
    refine WL.yd (Yd.move rfl) rfl ?_
    refine WL.yd (Yd.assign rfl) rfl ?_
    refine WL.nil (WP.thenC (WC.ret ?_))
    refine WP.ret1 rfl rfl Tryz.results41 (RV.tmp rfl) (fun w hI => ⟨by rw [List.take_length], hI.keep⟩)

end Go.Proofs.YtpnbkdlejfmbeaaGreat
