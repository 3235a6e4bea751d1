import Derived.Test.YtpnbkdlejfmbeaaGreatYZ12
set_option linter.unusedSimpArgs false
set_option linter.unusedVariables false
set_option linter.all false
set_option maxRecDepth 100000
set_option maxHeartbeats 1000000
namespace Go.Proofs.YtpnbkdlejfmbeaaGreat
open Go.W Go.Ti

def wayI (X : Till) : Nat → Int
  | 0 => 1
  | k + 1 => wayI X k * (((gt X.tk.l k).bought.hi - (gt X.tk.l k).bought.lo + 1) * ((gt X.tk.l k).door.hi - (gt X.tk.l k).door.lo + 1))
theorem mul33 {a b : Int} (ha : 1 ≤ a ∧ a ≤ 3) (hb : 1 ≤ b ∧ b ≤ 3) : 1 ≤ a * b ∧ a * b ≤ 9 := by
  rcases (show a = 1 ∨ a = 2 ∨ a = 3 by omega) with rfl | rfl | rfl <;> omega
theorem wayI_num {X : Till} (hv : tksB X.tk = true) : ∀ k, k ≤ X.tk.l.length → 1 ≤ wayI X k ∧ wayI X k ≤ (9 : Int) ^ k := by
  intro k
  induction k with
  | zero => intro _; exact ⟨Int.le_refl 1, Int.le_refl 1⟩
  | succ k ih =>
    intro hk
    have h1 := ih (by omega)
    have h2 := (tks_num hv).2.2 k (by omega)
    have h3 := mul33 (a := (gt X.tk.l k).bought.hi - (gt X.tk.l k).bought.lo + 1) (b := (gt X.tk.l k).door.hi - (gt X.tk.l k).door.lo + 1) (by omega) (by omega)
    show 1 ≤ wayI X k * _ ∧ wayI X k * _ ≤ (9 : Int) ^ (k + 1)
    generalize ((gt X.tk.l k).bought.hi - (gt X.tk.l k).bought.lo + 1) * ((gt X.tk.l k).door.hi - (gt X.tk.l k).door.lo + 1) = q at h3
    have h4 : wayI X k * 1 ≤ wayI X k * q := Int.mul_le_mul_of_nonneg_left h3.1 (by omega)
    have h5 : wayI X k * q ≤ wayI X k * 9 := Int.mul_le_mul_of_nonneg_left h3.2 (by omega)
    rw [Int.pow_succ]
    omega
theorem way_le {X : Till} (hv : tksB X.tk = true) {k : Nat} (hk : k ≤ X.tk.l.length) : 1 ≤ wayI X k ∧ wayI X k ≤ 59049 := by
  have h1 := wayI_num hv k hk
  have h5 := (tks_num hv).2.1
  have h2 : (9 : Nat) ^ k ≤ 9 ^ 5 := Nat.pow_le_pow_right (by omega) (by omega)
  have h3 : ((9 ^ k : Nat) : Int) ≤ ((9 ^ 5 : Nat) : Int) := by exact_mod_cast h2
  rw [Int.natCast_pow] at h3
  have h4 : ((9 ^ 5 : Nat) : Int) = 59049 := by decide
  rw [h4] at h3
  exact ⟨h1.1, Int.le_trans h1.2 h3⟩

theorem heavy_a (X : Till) (a1 : Option Addr) (n1 c1 : Nat) (w : World) (nb cb : Nat) (ab : Option Addr) (m : Int) (hlo : 60 < max n1 nb) : Gives Tryz.prog 8 [.agg #[it X.tk.huts, .slice a1 n1 c1, it X.price, it X.fine, it X.wait], .slice ab nb cb, it m] w (.bool true) := by
  unfold Gives
  refine enter Tryz.func8 rfl 52 Tryz.ntmps8 (zqb rfl) (Inv.start (D := fun _ => none) (by intro _ _ h; cases h)) ?_
  refine WC.seq (WC.ofFr [(0, _), (1, _), (2, _)] ⟨rfl, rfl, rfl, trivial⟩ (WC.region ?_))
  refine WL.so (SO.box rfl rfl) rfl ?_
  rintro _ _ _ ⟨b3, hb3, rfl, rfl, rfl⟩
  refine WL.yd (Yd.assign rfl) rfl ?_
  refine WL.nil (WP.thenC (WC.seq (WC.seq (WC.ofFr [(6, _), (3, _), (1, _), (2, _)] ⟨rfl, rfl, rfl, rfl, trivial⟩ (WC.region ?_)))))
  refine WL.yd (Yd.loadN Tryz.isAgg26 Tryz.sizeOf26 rfl (vs := [_, _, _, _, _]) rfl (by first | exact rn0 (n := 5) rfl rfl)) rfl ?_
  refine WL.yd (Yd.move rfl) rfl ?_
  refine WL.so (SO.callP Tryz.call24 rfl (fun w hI => long_g X a1 ab n1 c1 nb cb _)) rfl ?_
  rintro _ _ _ ⟨rfl, rfl, rfl⟩
  refine WL.know 12 (.bool true) rfl (congrArg Value.bool (decide_eq_true (by (try dsimp only); omega))) ?_
  refine WL.yd (Yd.move rfl) rfl ?_
  refine WL.skip rfl rfl ?_
  refine WL.skip rfl rfl ?_
  refine WL.skip rfl rfl ?_
  refine WL.yd (Yd.pickT rfl rfl) rfl ?_
  refine WL.nil (WP.thenC ?_)
  refine WC.condT rfl ?_
  refine WC.seq (WC.ofFr [(6, _), (3, _), (1, _), (2, _)] ⟨rfl, rfl, rfl, rfl, trivial⟩ (WC.region ?_))
  refine WL.yd (Yd.loadN Tryz.isAgg26 Tryz.sizeOf26 rfl (vs := [_, _, _, _, _]) rfl (by first | exact rn0 (n := 5) rfl rfl)) rfl ?_
  refine WL.yd (Yd.move rfl) rfl ?_
  refine WL.so (SO.callP Tryz.call24 rfl (fun w hI => Gives.cv (.bool true) (long_g X a1 ab n1 c1 nb cb _) (congrArg Value.bool (decide_eq_true hlo)))) rfl ?_
  rintro _ _ _ ⟨rfl, rfl, rfl⟩
  refine WL.yd (Yd.assign rfl) rfl ?_
  refine WL.nil (WP.thenC (WC.ret (WP.thenRet ?_)))
  refine WP.ret1 rfl rfl Tryz.results8 (RV.tmp rfl) (fun w hI => ⟨rfl, hI.keep⟩)

theorem heavy_b (X : Till) (a1 : Option Addr) (n1 c1 : Nat) (D : Imm) (w : World) (hR : TksR D X.tk a1 n1) (hH : Holds D w) (nb cb : Nat) (ab : Option Addr) (m : Int) (hlo : max n1 nb ≤ 60) (h1 : tillB X = false) : Gives Tryz.prog 8 [.agg #[it X.tk.huts, .slice a1 n1 c1, it X.price, it X.fine, it X.wait], .slice ab nb cb, it m] w (.bool false) := by
  unfold Gives
  obtain rfl := hR.tick.len'
  have hl1 := hR.len
  refine enter Tryz.func8 rfl 52 Tryz.ntmps8 (zqb rfl) (Inv.start hH) ?_
  refine WC.seq (WC.ofFr [(0, _), (1, _), (2, _)] ⟨rfl, rfl, rfl, trivial⟩ (WC.region ?_))
  refine WL.so (SO.box rfl rfl) rfl ?_
  rintro _ _ _ ⟨b3, hb3, rfl, rfl, rfl⟩
  refine WL.yd (Yd.assign rfl) rfl ?_
  refine WL.nil (WP.thenC (WC.seq (WC.seq (WC.ofFr [(6, _), (3, _), (1, _), (2, _)] ⟨rfl, rfl, rfl, rfl, trivial⟩ (WC.region ?_)))))
  refine WL.yd (Yd.loadN Tryz.isAgg26 Tryz.sizeOf26 rfl (vs := [_, _, _, _, _]) rfl (by first | exact rn0 (n := 5) rfl rfl)) rfl ?_
  refine WL.yd (Yd.move rfl) rfl ?_
  refine WL.so (SO.callP Tryz.call24 rfl (fun w hI => long_g X a1 ab _ c1 nb cb _)) rfl ?_
  rintro _ _ _ ⟨rfl, rfl, rfl⟩
  refine WL.know 12 (.bool false) rfl (congrArg Value.bool (decide_eq_false (by (try dsimp only); omega))) ?_
  refine WL.yd (Yd.move rfl) rfl ?_
  refine WL.ydg rfl (Yd.loadN Tryz.isAgg26 Tryz.sizeOf26 rfl (vs := [_, _, _, _, _]) rfl (by first | exact rn0 (n := 5) rfl rfl)) rfl ?_
  refine WL.sog rfl (SO.callP Tryz.call25 rfl (fun w hI => till13_g X a1 _ c1 _ _ hR hI.imm)) rfl ?_
  rintro _ _ _ ⟨rfl, rfl, rfl⟩
  refine WL.know 15 (.bool false) rfl (congrArg Value.bool h1) ?_
  refine WL.ydg rfl (Yd.not rfl) rfl ?_
  refine WL.yd (Yd.pickF rfl rfl) rfl ?_
  refine WL.nil (WP.thenC ?_)
  refine WC.condT rfl ?_
  refine WC.seq (WC.ofFr [(6, _), (3, _), (1, _), (2, _)] ⟨rfl, rfl, rfl, rfl, trivial⟩ (WC.region ?_))
  refine WL.yd (Yd.loadN Tryz.isAgg26 Tryz.sizeOf26 rfl (vs := [_, _, _, _, _]) rfl (by first | exact rn0 (n := 5) rfl rfl)) rfl ?_
  refine WL.yd (Yd.move rfl) rfl ?_
  refine WL.so (SO.callP Tryz.call24 rfl (fun w hI => Gives.cv (.bool false) (long_g X a1 ab _ c1 nb cb _) (congrArg Value.bool (decide_eq_false (by omega))))) rfl ?_
  rintro _ _ _ ⟨rfl, rfl, rfl⟩
  refine WL.yd (Yd.assign rfl) rfl ?_
  refine WL.nil (WP.thenC (WC.ret (WP.thenRet ?_)))
  refine WP.ret1 rfl rfl Tryz.results8 (RV.tmp rfl) (fun w hI => ⟨rfl, hI.keep⟩)

theorem heavy_c (X : Till) (a1 : Option Addr) (n1 c1 : Nat) (D : Imm) (w : World) (hR : TksR D X.tk a1 n1) (hH : Holds D w) (nb cb : Nat) (ab : Option Addr) (m : Int) (hlo : max n1 nb ≤ 60) (h1 : tillB X = true) : Gives Tryz.prog 8 [.agg #[it X.tk.huts, .slice a1 n1 c1, it X.price, it X.fine, it X.wait], .slice ab nb cb, it m] w (.bool (decide (wayI X n1 > m))) := by
  unfold Gives
  obtain rfl := hR.tick.len'
  have hl1 := hR.len
  have hv := (tillB_num h1).1
  refine enter Tryz.func8 rfl 52 Tryz.ntmps8 (zqb rfl) (Inv.start hH) ?_
  refine WC.seq (WC.ofFr [(0, _), (1, _), (2, _)] ⟨rfl, rfl, rfl, trivial⟩ (WC.region ?_))
  refine WL.so (SO.box rfl rfl) rfl ?_
  rintro _ _ _ ⟨b3, hb3, rfl, rfl, rfl⟩
  refine WL.yd (Yd.assign rfl) rfl ?_
  refine WL.nil (WP.thenC (WC.seq (WC.seq ?_)))
  refine WC.freezeN 0 b3 (.cells (List.toArray (tillC X (.slice a1 X.tk.l.length c1))) 26 (0, 0)) rfl rfl hb3 (fun D3 hX3 h3 => ?_)
  replace hR := hR.ext hX3
  refine WC.ofFr [(6, _), (3, _), (1, _), (2, _)] ⟨rfl, rfl, rfl, rfl, trivial⟩ (WC.region ?_)
  refine WL.yd (Yd.loadN Tryz.isAgg26 Tryz.sizeOf26 rfl (vs := [_, _, _, _, _]) rfl (by first | exact (RdN.imm (n := 5) h3 rfl) | exact ((hR.tick.at k (by omega)).rdn 0 5 rfl))) rfl ?_
  refine WL.yd (Yd.move rfl) rfl ?_
  refine WL.so (SO.callP Tryz.call24 rfl (fun w hI => long_g X a1 ab _ c1 nb cb _)) rfl ?_
  rintro _ _ _ ⟨rfl, rfl, rfl⟩
  refine WL.know 12 (.bool false) rfl (congrArg Value.bool (decide_eq_false (by (try dsimp only); omega))) ?_
  refine WL.yd (Yd.move rfl) rfl ?_
  refine WL.ydg rfl (Yd.loadN Tryz.isAgg26 Tryz.sizeOf26 rfl (vs := [_, _, _, _, _]) rfl (by first | exact (RdN.imm (n := 5) h3 rfl) | exact ((hR.tick.at k (by omega)).rdn 0 5 rfl))) rfl ?_
  refine WL.sog rfl (SO.callP Tryz.call25 rfl (fun w hI => till13_g X a1 _ c1 _ _ hR hI.imm)) rfl ?_
  rintro _ _ _ ⟨rfl, rfl, rfl⟩
  refine WL.know 15 (.bool true) rfl (congrArg Value.bool h1) ?_
  refine WL.ydg rfl (Yd.not rfl) rfl ?_
  refine WL.yd (Yd.pickF rfl rfl) rfl ?_
  refine WL.nil (WP.thenC ?_)
  refine WC.condF rfl ?_
  refine WC.skip (WP.thenC (WC.seq (WC.ofFr [(6, _), (3, _), (2, _)] ⟨rfl, rfl, rfl, trivial⟩ (WC.region ?_))))
  refine WL.yd (Yd.assign rfl) rfl ?_
  refine WL.nil (WP.thenC (WC.seq (WC.seq (WC.ofFr [(7, _), (6, _), (3, _), (2, _)] ⟨rfl, rfl, rfl, rfl, trivial⟩ (WC.region ?_)))))
  refine WL.yd (Yd.fieldAddr FA26_0 rfl) rfl ?_
  refine WL.yd (Yd.fieldAddr FA24_1 rfl) rfl ?_
  refine WL.yd (Yd.load1 Tryz.isAgg22 rfl (Rd.imm h3 rfl)) rfl ?_
  refine WL.yd (Yd.lenS rfl Tryz.underlying22 rfl) rfl ?_
  refine WL.yd (Yd.move rfl) rfl ?_
  refine WL.nil (WP.thenC (WC.block ?_))
  refine WC.loopT [] (fun k : Nat => [(2, it m), (3, pt b3), (7, it (wayI X k)), (23, .slice a1 X.tk.l.length c1), (24, nt X.tk.l.length), (25, nt k)]) (fun _ => []) (fun k => k ≤ X.tk.l.length) (fun k => X.tk.l.length - k) 0 (by omega) rfl ⟨rfl, rfl, rfl, rfl, rfl, rfl, trivial⟩ ?_
  intro k hk
  refine WC.seq (WC.ofFr [(2, _), (3, _), (7, _), (23, _), (24, _), (25, _)] ⟨rfl, rfl, rfl, rfl, rfl, rfl, trivial⟩ (WC.region ?_))
  refine WL.yd (Yd.lss rfl rfl) rfl ?_
  refine WL.nil (WP.thenC (WC.seq ?_))
  refine WC.cond rfl (fun c26 => ?_) (fun c26 => ?_)
  · try simp only [zq1, zq2, zq3, zq4, zq5, zq6, zq7, zq8] at c26
    have hkl : k < X.tk.l.length := by omega
    have hnk := (tks_num hv).2.2 k hkl
    have hwk := way_le hv (k := k) (by omega)
    have hwn := way_le hv (k := k + 1) (by omega)
    rw [show wayI X (k + 1) = wayI X k * (((gt X.tk.l k).bought.hi - (gt X.tk.l k).bought.lo + 1) * ((gt X.tk.l k).door.hi - (gt X.tk.l k).door.lo + 1)) from rfl] at hwn
    have hm9 := mul33 (a := (gt X.tk.l k).bought.hi - (gt X.tk.l k).bought.lo + 1) (b := (gt X.tk.l k).door.hi - (gt X.tk.l k).door.lo + 1) (by omega) (by omega)
    refine WC.skip (WP.thenC (WC.seq (WC.block (WC.seq (WC.ofFr [(2, _), (3, _), (7, _), (23, _), (24, _), (25, _)] ⟨rfl, rfl, rfl, rfl, rfl, rfl, trivial⟩ (WC.region ?_))))))
    refine WL.yd (Yd.indexS Tryz.underlying22 Tryz.sizeOf57 rfl rfl (by (try dsimp only); omega) (by (try dsimp only); omega) (by first | exact hR.tick.addr k (by omega))) rfl ?_
    refine WL.yd (Yd.loadN Tryz.isAgg57 Tryz.sizeOf57 rfl (vs := [_, _, _, _, _]) rfl (by first | exact (RdN.imm (n := 5) h3 rfl) | exact ((hR.tick.at k (by omega)).rdn 0 5 rfl))) rfl ?_
    refine WL.so (SO.alloc Tryz.zeroValue57 rfl) rfl ?_
    rintro _ _ _ ⟨b9, hb9, rfl, rfl, rfl⟩
    refine WL.so (SO.store 0 rfl Tryz.sizeOf57 rfl rfl rfl rfl (zqb rfl) (oneB_spec rfl)) rfl ?_
    rintro _ _ _ ⟨rfl, rfl, rfl⟩
    refine WL.nil (WP.thenC (WC.ofFr [(9, _), (2, _), (3, _), (7, _), (23, _), (24, _), (25, _)] ⟨rfl, rfl, rfl, rfl, rfl, rfl, rfl, trivial⟩ (WC.region ?_)))
    refine WL.yd (Yd.move rfl) rfl ?_
    refine WL.yd (Yd.fieldAddr FA57_0 rfl) rfl ?_
    refine WL.yd (Yd.fieldAddr FA33_1 rfl) rfl ?_
    refine WL.yd (Yd.load1 Tryz.isAgg3 rfl (Rd.own (k := 0) rfl rfl)) rfl ?_
    refine WL.yd (Yd.fieldAddr FA57_0 rfl) rfl ?_
    refine WL.yd (Yd.fieldAddr FA33_0 rfl) rfl ?_
    refine WL.yd (Yd.load1 Tryz.isAgg3 rfl (Rd.own (k := 0) rfl rfl)) rfl ?_
    refine WL.yd (Yd.sub rfl rfl (wr64 ⟨by (try dsimp only); omega, by (try dsimp only); omega⟩)) rfl ?_
    refine WL.yd (Yd.add rfl rfl (wr64 ⟨by (try dsimp only); omega, by (try dsimp only); omega⟩)) rfl ?_
    refine WL.yd (Yd.fieldAddr FA57_2 rfl) rfl ?_
    refine WL.yd (Yd.fieldAddr FA33_1 rfl) rfl ?_
    refine WL.yd (Yd.load1 Tryz.isAgg3 rfl (Rd.own (k := 0) rfl rfl)) rfl ?_
    refine WL.yd (Yd.fieldAddr FA57_2 rfl) rfl ?_
    refine WL.yd (Yd.fieldAddr FA33_0 rfl) rfl ?_
    refine WL.yd (Yd.load1 Tryz.isAgg3 rfl (Rd.own (k := 0) rfl rfl)) rfl ?_
    refine WL.yd (Yd.sub rfl rfl (wr64 ⟨by (try dsimp only); omega, by (try dsimp only); omega⟩)) rfl ?_
    refine WL.yd (Yd.add rfl rfl (wr64 ⟨by (try dsimp only); omega, by (try dsimp only); omega⟩)) rfl ?_
    refine WL.yd (Yd.mul (i := (gt X.tk.l k).bought.hi - (gt X.tk.l k).bought.lo + 1) (j := (gt X.tk.l k).door.hi - (gt X.tk.l k).door.lo + 1) rfl rfl (wr64 ⟨by omega, by omega⟩)) rfl ?_
    refine WL.yd (Yd.mul (i := wayI X k) (j := ((gt X.tk.l k).bought.hi - (gt X.tk.l k).bought.lo + 1) * ((gt X.tk.l k).door.hi - (gt X.tk.l k).door.lo + 1)) rfl rfl (wr64 ⟨by omega, by omega⟩)) rfl ?_
    refine WL.yd (Yd.assign rfl) rfl ?_
    refine WL.nil (WP.blkNormal (WP.thenC (WC.ofFr [(7, _), (2, _), (3, _), (23, _), (24, _), (25, _)] ⟨rfl, rfl, rfl, rfl, rfl, rfl, trivial⟩ (WC.region ?_))))
    refine WL.yd (Yd.addN (i := k) (j := 1) rfl rfl (by omega)) rfl ?_
    refine WL.yd (Yd.move rfl) rfl ?_
    refine WL.nil ?_
    exact WP.againT (k + 1) (by omega) (by omega) [_] _ rfl rfl ⟨rfl, rfl, rfl, rfl, rfl, rfl, trivial⟩
  · try simp only [zq1, zq2, zq3, zq4, zq5, zq6, zq7, zq8] at c26
    obtain rfl : k = X.tk.l.length := by omega
    refine WC.exit ?_
    refine WP.thenExit ?_
    refine WP.thenExit ?_
    refine WP.blkHit ?_
    refine WP.thenC (WC.seq (WC.ofFr [(2, _), (7, _)] ⟨rfl, rfl, trivial⟩ (WC.region ?_)))
    refine WL.yd (Yd.move rfl) rfl ?_
    refine WL.yd (Yd.move rfl) rfl ?_
    refine WL.yd (Yd.gtr rfl rfl) rfl ?_
    refine WL.yd (Yd.assign rfl) rfl ?_
    refine WL.nil (WP.thenC (WC.ret ?_))
    refine WP.ret1 rfl rfl Tryz.results8 (RV.tmp rfl) (fun w hI => ⟨rfl, hI.keep⟩)

end Go.Proofs.YtpnbkdlejfmbeaaGreat
