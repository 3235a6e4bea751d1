import Derived.Test.YtkhmmefgllbobaaXQ
import Derived.Test.YtkhmmefgllbobaaXN
import Derived.Test.YtkhmmefgllbobaaXV
set_option linter.unusedSimpArgs false
set_option linter.unusedVariables false
set_option linter.all false
set_option maxRecDepth 100000
set_option maxHeartbeats 1000000
namespace Go.Proofs.Ytkhmmefgllbobaa
open Go.W Go.Po

theorem long_g (lo hi : Int) (a1 : Option Addr) (n1 c1 : Nat) (a2 : Option Addr) (n2 c2 : Nat) (w : World) : Gives Try.prog 38 [.agg #[it lo, it hi, .slice a1 n1 c1, .slice a2 n2 c2]] w (.bool (decide (max (n1 : Int) (n2 : Int) > 40))) := by
  unfold Gives
  refine enter Try.func38 rfl 11 Try.ntmps38 (Nat.le_of_ble_eq_true rfl) (Inv.start (D := fun _ => none) (by intro _ _ h; cases h)) ?_
  refine WC.seq ?_
  refine WC.ofFr [(0, _)] ⟨rfl, trivial⟩ ?_
  refine WC.region ?_
  refine WL.so (SO.box rfl rfl) rfl ?_
  rintro _ _ _ ⟨b1, hb1, rfl, rfl, rfl⟩
  refine WL.yd (Yd.assign rfl) rfl ?_
  refine WL.nil ?_
  refine WP.thenC ?_
  refine WC.seq ?_
  refine WC.ofFr [(2, _), (1, _)] ⟨rfl, rfl, trivial⟩ ?_
  refine WC.region ?_
  refine WL.yd (Yd.fieldAddr FA27_1 rfl) rfl ?_
  refine WL.yd (Yd.load1 Try.isAgg24 rfl (by first | exact Rd.own (k := 0) rfl rfl)) rfl ?_
  refine WL.yd (Yd.lenS rfl Try.underlying24 rfl) rfl ?_
  refine WL.yd (Yd.fieldAddr FA27_2 rfl) rfl ?_
  refine WL.yd (Yd.load1 Try.isAgg25 rfl (by first | exact Rd.own (k := 0) rfl rfl)) rfl ?_
  refine WL.yd (Yd.lenS rfl Try.underlying25 rfl) rfl ?_
  refine WL.yd (Yd.max2 rfl rfl) rfl ?_
  refine WL.yd (Yd.gtr rfl rfl) rfl ?_
  refine WL.yd (Yd.assign rfl) rfl ?_
  refine WL.nil ?_
  refine WP.thenC ?_
  refine WC.ret ?_
  refine WP.ret1 rfl rfl Try.results38 (RV.tmp rfl) (fun w hI => ⟨rfl, hI.keep⟩)

theorem rin_g (n lo hi : Int) (w : World) : Gives Try.prog 96 [it n, it lo, it hi] w (.bool (inB n lo hi)) := by
  unfold Gives
  refine enter Try.func96 rfl 15 Try.ntmps96 (Nat.le_of_ble_eq_true rfl) (Inv.start (D := fun _ => none) (by intro _ _ h; cases h)) ?_
  refine WC.seq ?_
  refine WC.ofFr [(0, _), (1, _), (2, _)] ⟨rfl, rfl, rfl, trivial⟩ ?_
  refine WC.region ?_
  refine WL.yd (Yd.assign rfl) rfl ?_
  refine WL.nil ?_
  refine WP.thenC ?_
  refine WC.seq ?_
  refine WC.ofFr [(6, _), (0, _), (1, _), (2, _)] ⟨rfl, rfl, rfl, rfl, trivial⟩ ?_
  refine WC.region ?_
  refine WL.yd (Yd.move rfl) rfl ?_
  refine WL.yd (Yd.move rfl) rfl ?_
  refine WL.yd (Yd.leq rfl rfl) rfl ?_
  refine WL.yd (Yd.move rfl) rfl ?_
  refine WL.part 10 rfl (fun g10 => ?_) (fun g10 => ?_)
  · try simp only [zq1, zq2, zq3, zq4, zq5, zq6, zq7, zq8] at g10
    refine WL.ydg rfl (Yd.move rfl) rfl ?_
    refine WL.ydg rfl (Yd.move rfl) rfl ?_
    refine WL.ydg rfl (Yd.leq rfl rfl) rfl ?_
    refine WL.yd (Yd.pickT rfl rfl) rfl ?_
    refine WL.yd (Yd.assign rfl) rfl ?_
    refine WL.nil ?_
    refine WP.thenC ?_
    refine WC.ret ?_
    refine WP.ret1 rfl rfl Try.results96 (RV.tmp rfl) (fun w hI => ⟨ret_bool (by rw [Bool.eq_iff_iff]; simp [inB]; omega), hI.keep⟩)
  · try simp only [zq1, zq2, zq3, zq4, zq5, zq6, zq7, zq8] at g10
    refine WL.skip rfl rfl ?_
    refine WL.skip rfl rfl ?_
    refine WL.skip rfl rfl ?_
    refine WL.yd (Yd.pickF rfl rfl) rfl ?_
    refine WL.yd (Yd.assign rfl) rfl ?_
    refine WL.nil ?_
    refine WP.thenC ?_
    refine WC.ret ?_
    refine WP.ret1 rfl rfl Try.results96 (RV.tmp rfl) (fun w hI => ⟨ret_bool (by rw [Bool.eq_iff_iff]; simp [inB]; omega), hI.keep⟩)

theorem rspan_g (s : Sp) (w : World) : Gives Try.prog 89 [.agg #[it s.lo, it s.hi]] w (.bool (spanP s)) := by
  unfold Gives
  refine enter Try.func89 rfl 18 Try.ntmps89 (Nat.le_of_ble_eq_true rfl) (Inv.start (D := fun _ => none) (by intro _ _ h; cases h)) ?_
  refine WC.seq ?_
  refine WC.ofFr [(0, _)] ⟨rfl, trivial⟩ ?_
  refine WC.region ?_
  refine WL.so (SO.box rfl rfl) rfl ?_
  rintro _ _ _ ⟨b1, hb1, rfl, rfl, rfl⟩
  refine WL.yd (Yd.assign rfl) rfl ?_
  refine WL.nil ?_
  refine WP.thenC ?_
  refine WC.seq ?_
  refine WC.ofFr [(2, _), (1, _)] ⟨rfl, rfl, trivial⟩ ?_
  refine WC.region ?_
  refine WL.yd (Yd.fieldAddr FA23_0 rfl) rfl ?_
  refine WL.yd (Yd.load1 Try.isAgg3 rfl (by first | exact Rd.own (k := 0) rfl rfl)) rfl ?_
  refine WL.yd (Yd.leq rfl rfl) rfl ?_
  refine WL.yd (Yd.move rfl) rfl ?_
  refine WL.part 6 rfl (fun g6 => ?_) (fun g6 => ?_)
  · try simp only [zq1, zq2, zq3, zq4, zq5, zq6, zq7, zq8] at g6
    refine WL.ydg rfl (Yd.fieldAddr FA23_0 rfl) rfl ?_
    refine WL.ydg rfl (Yd.load1 Try.isAgg3 rfl (by first | exact Rd.own (k := 0) rfl rfl)) rfl ?_
    refine WL.ydg rfl (Yd.fieldAddr FA23_1 rfl) rfl ?_
    refine WL.ydg rfl (Yd.load1 Try.isAgg3 rfl (by first | exact Rd.own (k := 0) rfl rfl)) rfl ?_
    refine WL.ydg rfl (Yd.leq rfl rfl) rfl ?_
    refine WL.yd (Yd.pickT rfl rfl) rfl ?_
    refine WL.yd (Yd.move rfl) rfl ?_
    refine WL.part 13 rfl (fun g13 => ?_) (fun g13 => ?_)
    · try simp only [zq1, zq2, zq3, zq4, zq5, zq6, zq7, zq8] at g13
      refine WL.ydg rfl (Yd.fieldAddr FA23_1 rfl) rfl ?_
      refine WL.ydg rfl (Yd.load1 Try.isAgg3 rfl (by first | exact Rd.own (k := 0) rfl rfl)) rfl ?_
      refine WL.ydg rfl (Yd.leq rfl rfl) rfl ?_
      refine WL.yd (Yd.pickT rfl rfl) rfl ?_
      refine WL.yd (Yd.assign rfl) rfl ?_
      refine WL.nil ?_
      refine WP.thenC ?_
      refine WC.ret ?_
      refine WP.ret1 rfl rfl Try.results89 (RV.tmp rfl) (fun w hI => ⟨ret_bool (by rw [Bool.eq_iff_iff]; simp_all [spanP]; try omega), hI.keep⟩)
    · try simp only [zq1, zq2, zq3, zq4, zq5, zq6, zq7, zq8] at g13
      refine WL.skip rfl rfl ?_
      refine WL.skip rfl rfl ?_
      refine WL.skip rfl rfl ?_
      refine WL.yd (Yd.pickF rfl rfl) rfl ?_
      refine WL.yd (Yd.assign rfl) rfl ?_
      refine WL.nil ?_
      refine WP.thenC ?_
      refine WC.ret ?_
      refine WP.ret1 rfl rfl Try.results89 (RV.tmp rfl) (fun w hI => ⟨ret_bool (by rw [Bool.eq_iff_iff]; simp_all [spanP]; try omega), hI.keep⟩)
  · try simp only [zq1, zq2, zq3, zq4, zq5, zq6, zq7, zq8] at g6
    refine WL.skip rfl rfl ?_
    refine WL.skip rfl rfl ?_
    refine WL.skip rfl rfl ?_
    refine WL.skip rfl rfl ?_
    refine WL.skip rfl rfl ?_
    refine WL.yd (Yd.pickF rfl rfl) rfl ?_
    refine WL.yd (Yd.move rfl) rfl ?_
    refine WL.skip rfl rfl ?_
    refine WL.skip rfl rfl ?_
    refine WL.skip rfl rfl ?_
    refine WL.yd (Yd.pickF rfl rfl) rfl ?_
    refine WL.yd (Yd.assign rfl) rfl ?_
    refine WL.nil ?_
    refine WP.thenC ?_
    refine WC.ret ?_
    refine WP.ret1 rfl rfl Try.results89 (RV.tmp rfl) (fun w hI => ⟨ret_bool (by rw [Bool.eq_iff_iff]; simp_all [spanP]; try omega), hI.keep⟩)

theorem rwho_g (p : Post) (a1 : Option Addr) (n1 c1 : Nat) (a2 : Option Addr) (n2 c2 : Nat) (n : Int) (w : World) (hn : n1 = p.bathers.length) (hl : n1 ≤ 1000) : Gives Try.prog 53 [.agg #[it p.post.lo, it p.post.hi, .slice a1 n1 c1, .slice a2 n2 c2], it n] w (.bool (whoP p n)) := by
  unfold Gives
  subst hn
  refine enter Try.func53 rfl 11 Try.ntmps53 (Nat.le_of_ble_eq_true rfl) (Inv.start (D := fun _ => none) (by intro _ _ h; cases h)) ?_
  refine WC.seq ?_
  refine WC.ofFr [(0, _), (1, _)] ⟨rfl, rfl, trivial⟩ ?_
  refine WC.region ?_
  refine WL.so (SO.box rfl rfl) rfl ?_
  rintro _ _ _ ⟨b2, hb2, rfl, rfl, rfl⟩
  refine WL.yd (Yd.assign rfl) rfl ?_
  refine WL.nil ?_
  refine WP.thenC ?_
  refine WC.seq ?_
  refine WC.ofFr [(4, _), (2, _), (1, _)] ⟨rfl, rfl, rfl, trivial⟩ ?_
  refine WC.region ?_
  refine WL.yd (Yd.move rfl) rfl ?_
  refine WL.yd (Yd.fieldAddr FA27_1 rfl) rfl ?_
  refine WL.yd (Yd.load1 Try.isAgg24 rfl (by first | exact Rd.own (k := 0) rfl rfl)) rfl ?_
  refine WL.yd (Yd.lenS rfl Try.underlying24 rfl) rfl ?_
  refine WL.yd (Yd.sub rfl rfl (wr64 ⟨by omega, by omega⟩)) rfl ?_
  refine WL.so (SO.callP Try.call96 rfl (fun w hI => rin_g n (-1) ((p.bathers.length : Int) - 1) _)) rfl ?_
  rintro _ _ _ ⟨rfl, rfl, rfl⟩
  refine WL.yd (Yd.assign rfl) rfl ?_
  refine WL.nil ?_
  refine WP.thenC ?_
  refine WC.ret ?_
  refine WP.ret1 rfl rfl Try.results53 (RV.tmp rfl) (fun w hI => ⟨rfl, hI.keep⟩)

theorem rpost_g (p : Post) (a1 : Option Addr) (n1 c1 : Nat) (a2 : Option Addr) (n2 c2 : Nat) (D : Imm) (w : World) (hR : PostR D p a1 n1 a2 n2) (hH : Holds D w) : Gives Try.prog 39 [.agg #[it p.post.lo, it p.post.hi, .slice a1 n1 c1, .slice a2 n2 c2]] w (.bool (postB p)) := by
  unfold Gives
  obtain rfl := hR.bath.len'
  obtain rfl := hR.claim.len'
  have hl1 := hR.len1
  have hl2 := hR.len2
  refine enter Try.func39 rfl 63 Try.ntmps39 (Nat.le_of_ble_eq_true rfl) (Inv.start hH) ?_
  refine WC.seq ?_
  refine WC.ofFr [(0, _)] ⟨rfl, trivial⟩ ?_
  refine WC.region ?_
  refine WL.so (SO.box rfl rfl) rfl ?_
  rintro _ _ _ ⟨b1, hb1, rfl, rfl, rfl⟩
  refine WL.yd (Yd.assign rfl) rfl ?_
  refine WL.nil ?_
  refine WP.thenC ?_
  refine WC.seq ?_
  refine WC.seq ?_
  refine WC.ofFr [(2, _), (1, _)] ⟨rfl, rfl, trivial⟩ ?_
  refine WC.region ?_
  refine WL.yd (Yd.fieldAddr FA27_0 rfl) rfl ?_
  refine WL.yd (Yd.loadN Try.isAgg23 Try.sizeOf23 rfl (vs := [_, _]) rfl (by first | exact RdN.own (k := 0) (n := 2) rfl rfl | exact (hR.bath.at k (by omega)).rdn 1 2 rfl)) rfl ?_
  refine WL.so (SO.callP Try.call89 rfl (fun w hI => rspan_g ⟨_, _⟩ _)) rfl ?_
  rintro _ _ _ ⟨rfl, rfl, rfl⟩
  refine WL.yd (Yd.not rfl) rfl ?_
  refine WL.yd (Yd.move rfl) rfl ?_
  refine WL.part 9 rfl (fun g9 => ?_) (fun g9 => ?_)
  · try simp only [zq1, zq2, zq3, zq4, zq5, zq6, zq7, zq8] at g9
    refine WL.skip rfl rfl ?_
    refine WL.skip rfl rfl ?_
    refine WL.skip rfl rfl ?_
    refine WL.skip rfl rfl ?_
    refine WL.yd (Yd.pickT rfl rfl) rfl ?_
    refine WL.yd (Yd.move rfl) rfl ?_
    refine WL.skip rfl rfl ?_
    refine WL.skip rfl rfl ?_
    refine WL.skip rfl rfl ?_
    refine WL.skip rfl rfl ?_
    refine WL.yd (Yd.pickT rfl rfl) rfl ?_
    refine WL.nil ?_
    refine WP.thenC ?_
    refine WC.condT rfl ?_
    refine WC.seq ?_
    refine WC.ofFr [(2, _), (1, _)] ⟨rfl, rfl, trivial⟩ ?_
    refine WC.region ?_
    refine WL.yd (Yd.assign rfl) rfl ?_
    refine WL.nil ?_
    refine WP.thenC ?_
    refine WC.ret ?_
    refine WP.thenRet ?_
    refine WP.ret1 rfl rfl Try.results39 (RV.tmp rfl) (fun w hI => ⟨ret_bool (by
      first
      | exact ((postB_iff p).2 ⟨g9, by omega, by omega, hd2, fun i hi => hd i (by omega)⟩).symm
      | (have hno : postB p = false := by
          cases hdb : postB p with
          | false => rfl
          | true =>
            exfalso
            obtain ⟨h1, h2, h3, h4, h5⟩ := (postB_iff p).1 hdb
            first | omega | (rw [h1] at g9; cases g9; done) | (have := h4 k (by omega); simp_all; done) | (have := h5 k (by omega); simp_all [claimP]; done)
         exact hno.symm)), hI.keep⟩)
  · try simp only [zq1, zq2, zq3, zq4, zq5, zq6, zq7, zq8] at g9
    refine WL.ydg rfl (Yd.fieldAddr FA27_1 rfl) rfl ?_
    refine WL.ydg rfl (Yd.load1 Try.isAgg24 rfl (by first | exact Rd.own (k := 0) rfl rfl | exact ((hR.claim.at k (by omega)).rd 0 rfl) | exact ((hR.claim.at k (by omega)).rd 1 rfl))) rfl ?_
    refine WL.ydg rfl (Yd.lenS rfl Try.underlying24 rfl) rfl ?_
    refine WL.ydg rfl (Yd.gtr rfl rfl) rfl ?_
    refine WL.yd (Yd.pickF rfl rfl) rfl ?_
    refine WL.yd (Yd.move rfl) rfl ?_
    refine WL.part 15 rfl (fun g15 => ?_) (fun g15 => ?_)
    · try simp only [zq1, zq2, zq3, zq4, zq5, zq6, zq7, zq8] at g15
      refine WL.skip rfl rfl ?_
      refine WL.skip rfl rfl ?_
      refine WL.skip rfl rfl ?_
      refine WL.skip rfl rfl ?_
      refine WL.yd (Yd.pickT rfl rfl) rfl ?_
      refine WL.nil ?_
      refine WP.thenC ?_
      refine WC.condT rfl ?_
      refine WC.seq ?_
      refine WC.ofFr [(2, _), (1, _)] ⟨rfl, rfl, trivial⟩ ?_
      refine WC.region ?_
      refine WL.yd (Yd.assign rfl) rfl ?_
      refine WL.nil ?_
      refine WP.thenC ?_
      refine WC.ret ?_
      refine WP.thenRet ?_
      refine WP.ret1 rfl rfl Try.results39 (RV.tmp rfl) (fun w hI => ⟨ret_bool (by
        first
        | exact ((postB_iff p).2 ⟨g9, by omega, by omega, hd2, fun i hi => hd i (by omega)⟩).symm
        | (have hno : postB p = false := by
            cases hdb : postB p with
            | false => rfl
            | true =>
              exfalso
              obtain ⟨h1, h2, h3, h4, h5⟩ := (postB_iff p).1 hdb
              first | omega | (rw [h1] at g9; cases g9; done) | (have := h4 k (by omega); simp_all; done) | (have := h5 k (by omega); simp_all [claimP]; done)
           exact hno.symm)), hI.keep⟩)
    · try simp only [zq1, zq2, zq3, zq4, zq5, zq6, zq7, zq8] at g15
      refine WL.ydg rfl (Yd.fieldAddr FA27_2 rfl) rfl ?_
      refine WL.ydg rfl (Yd.load1 Try.isAgg25 rfl (by first | exact Rd.own (k := 0) rfl rfl | exact ((hR.claim.at k (by omega)).rd 0 rfl) | exact ((hR.claim.at k (by omega)).rd 1 rfl))) rfl ?_
      refine WL.ydg rfl (Yd.lenS rfl Try.underlying25 rfl) rfl ?_
      refine WL.ydg rfl (Yd.gtr rfl rfl) rfl ?_
      refine WL.yd (Yd.pickF rfl rfl) rfl ?_
      refine WL.nil ?_
      refine WP.thenC ?_
      refine WC.cond rfl (fun c20 => ?_) (fun c20 => ?_)
      · try simp only [zq1, zq2, zq3, zq4, zq5, zq6, zq7, zq8] at c20
        refine WC.seq ?_
        refine WC.ofFr [(2, _), (1, _)] ⟨rfl, rfl, trivial⟩ ?_
        refine WC.region ?_
        refine WL.yd (Yd.assign rfl) rfl ?_
        refine WL.nil ?_
        refine WP.thenC ?_
        refine WC.ret ?_
        refine WP.thenRet ?_
        refine WP.ret1 rfl rfl Try.results39 (RV.tmp rfl) (fun w hI => ⟨ret_bool (by
          first
          | exact ((postB_iff p).2 ⟨g9, by omega, by omega, hd2, fun i hi => hd i (by omega)⟩).symm
          | (have hno : postB p = false := by
              cases hdb : postB p with
              | false => rfl
              | true =>
                exfalso
                obtain ⟨h1, h2, h3, h4, h5⟩ := (postB_iff p).1 hdb
                first | omega | (rw [h1] at g9; cases g9; done) | (have := h4 k (by omega); simp_all; done) | (have := h5 k (by omega); simp_all [claimP]; done)
             exact hno.symm)), hI.keep⟩)
      · try simp only [zq1, zq2, zq3, zq4, zq5, zq6, zq7, zq8] at c20
        refine WC.skip ?_
        refine WP.thenC ?_
        refine WC.seq ?_
        refine WC.seq ?_
        refine WC.ofFr [(2, _), (1, _)] ⟨rfl, rfl, trivial⟩ ?_
        refine WC.region ?_
        refine WL.yd (Yd.assign rfl) rfl ?_
        refine WL.nil ?_
        refine WP.thenC ?_
        refine WC.block ?_
        refine WC.loopF (fun k : Nat => [(1, pt b1), (3, nt k)]) (fun k => k ≤ p.bathers.length ∧ ∀ i, i < k → spanP (gt p.bathers i).place = true) (fun k => p.bathers.length - k) 0 ⟨by omega, by intro i hi; omega⟩ (by exact ⟨rfl, rfl, trivial⟩) ?_
        intro k ⟨hk, hd⟩
        refine WC.seq ?_
        refine WC.seq ?_
        refine WC.ofFr [(1, _), (3, _)] ⟨rfl, rfl, trivial⟩ ?_
        refine WC.region ?_
        refine WL.yd (Yd.move rfl) rfl ?_
        refine WL.yd (Yd.fieldAddr FA27_1 rfl) rfl ?_
        refine WL.yd (Yd.load1 Try.isAgg24 rfl (by first | exact Rd.own (k := 0) rfl rfl | exact ((hR.claim.at k (by omega)).rd 0 rfl) | exact ((hR.claim.at k (by omega)).rd 1 rfl))) rfl ?_
        refine WL.yd (Yd.lenS rfl Try.underlying24 rfl) rfl ?_
        refine WL.yd (Yd.lss rfl rfl) rfl ?_
        refine WL.nil ?_
        refine WP.thenC ?_
        refine WC.cond rfl (fun c25 => ?_) (fun c25 => ?_)
        · try simp only [zq1, zq2, zq3, zq4, zq5, zq6, zq7, zq8] at c25
          refine WC.skip ?_
          refine WP.thenC ?_
          refine WC.seq ?_
          refine WC.block ?_
          refine WC.seq ?_
          refine WC.ofFr [(1, _), (3, _)] ⟨rfl, rfl, trivial⟩ ?_
          refine WC.region ?_
          refine WL.yd (Yd.fieldAddr FA27_1 rfl) rfl ?_
          refine WL.yd (Yd.load1 Try.isAgg24 rfl (by first | exact Rd.own (k := 0) rfl rfl | exact ((hR.claim.at k (by omega)).rd 0 rfl) | exact ((hR.claim.at k (by omega)).rd 1 rfl))) rfl ?_
          refine WL.yd (Yd.move rfl) rfl ?_
          refine WL.yd (Yd.indexS Try.underlying24 Try.sizeOf56 rfl rfl (by omega) (by omega) (by first | exact hR.bath.addr k (by omega))) rfl ?_
          refine WL.yd (Yd.fieldAddr FA56_1 rfl) rfl ?_
          refine WL.yd (Yd.loadN Try.isAgg23 Try.sizeOf23 rfl (vs := [_, _]) rfl (by first | exact RdN.own (k := 0) (n := 2) rfl rfl | exact (hR.bath.at k (by omega)).rdn 1 2 rfl)) rfl ?_
          refine WL.so (SO.callP Try.call89 rfl (fun w hI => rspan_g ⟨_, _⟩ _)) rfl ?_
          rintro _ _ _ ⟨rfl, rfl, rfl⟩
          refine WL.yd (Yd.not rfl) rfl ?_
          refine WL.nil ?_
          refine WP.thenC ?_
          refine WC.cond rfl (fun c35 => ?_) (fun c35 => ?_)
          · try simp only [zq1, zq2, zq3, zq4, zq5, zq6, zq7, zq8] at c35
            refine WC.seq ?_
            refine WC.ofFr [(1, _), (3, _)] ⟨rfl, rfl, trivial⟩ ?_
            refine WC.region ?_
            refine WL.yd (Yd.assign rfl) rfl ?_
            refine WL.nil ?_
            refine WP.thenC ?_
            refine WC.ret ?_
            refine WP.blkRet ?_
            refine WP.thenRet ?_
            refine WP.thenRet ?_
            refine WP.blkRet ?_
            refine WP.thenRet ?_
            refine WP.ret1 rfl rfl Try.results39 (RV.tmp rfl) (fun w hI => ⟨ret_bool (by
              first
              | exact ((postB_iff p).2 ⟨g9, by omega, by omega, hd2, fun i hi => hd i (by omega)⟩).symm
              | (have hno : postB p = false := by
                  cases hdb : postB p with
                  | false => rfl
                  | true =>
                    exfalso
                    obtain ⟨h1, h2, h3, h4, h5⟩ := (postB_iff p).1 hdb
                    first | omega | (rw [h1] at g9; cases g9; done) | (have := h4 k (by omega); simp_all; done) | (have := h5 k (by omega); simp_all [claimP]; done)
                 exact hno.symm)), hI.keep⟩)
          · try simp only [zq1, zq2, zq3, zq4, zq5, zq6, zq7, zq8] at c35
            refine WC.skip ?_
            refine WP.blkNormal ?_
            refine WP.thenC ?_
            refine WC.ofFr [(1, _), (3, _)] ⟨rfl, rfl, trivial⟩ ?_
            refine WC.region ?_
            refine WL.yd (Yd.move rfl) rfl ?_
            refine WL.yd (Yd.add rfl rfl (wr64 ⟨by omega, by omega⟩)) rfl ?_
            refine WL.yd (Yd.assign rfl) rfl ?_
            refine WL.nil ?_
            exact WP.againF (k + 1) ⟨by omega, ext_round hd (by assumption)⟩ (by omega) ⟨rfl, rfl, trivial⟩ (fun _ h => h) (fun h => h)
        · try simp only [zq1, zq2, zq3, zq4, zq5, zq6, zq7, zq8] at c25
          refine WC.exit ?_
          refine WP.thenExit ?_
          refine WP.thenExit ?_
          refine WP.blkHit ?_
          refine WP.thenC ?_
          refine WC.seq ?_
          refine WC.seq ?_
          refine WC.ofFr [(1, _)] ⟨rfl, trivial⟩ ?_
          refine WC.region ?_
          refine WL.yd (Yd.assign rfl) rfl ?_
          refine WL.nil ?_
          refine WP.thenC ?_
          refine WC.block ?_
          have hd2 : ∀ i, i < p.bathers.length → spanP (gt p.bathers i).place = true := fun i hi => hd i (by omega)
          clear hd hk c25 k
          refine WC.loopF (fun k : Nat => [(1, pt b1), (4, nt k)]) (fun k => k ≤ p.claims.length ∧ ∀ i, i < k → claimP p (gt p.claims i) = true) (fun k => p.claims.length - k) 0 ⟨by omega, by intro i hi; omega⟩ (by exact ⟨rfl, rfl, trivial⟩) ?_
          intro k ⟨hk, hd⟩
          refine WC.seq ?_
          refine WC.seq ?_
          refine WC.ofFr [(1, _), (4, _)] ⟨rfl, rfl, trivial⟩ ?_
          refine WC.region ?_
          refine WL.yd (Yd.move rfl) rfl ?_
          refine WL.yd (Yd.fieldAddr FA27_2 rfl) rfl ?_
          refine WL.yd (Yd.load1 Try.isAgg25 rfl (by first | exact Rd.own (k := 0) rfl rfl | exact ((hR.claim.at k (by omega)).rd 0 rfl) | exact ((hR.claim.at k (by omega)).rd 1 rfl))) rfl ?_
          refine WL.yd (Yd.lenS rfl Try.underlying25 rfl) rfl ?_
          refine WL.yd (Yd.lss rfl rfl) rfl ?_
          refine WL.nil ?_
          refine WP.thenC ?_
          refine WC.cond rfl (fun c40 => ?_) (fun c40 => ?_)
          · try simp only [zq1, zq2, zq3, zq4, zq5, zq6, zq7, zq8] at c40
            refine WC.skip ?_
            refine WP.thenC ?_
            refine WC.seq ?_
            refine WC.block ?_
            refine WC.seq ?_
            refine WC.ofFr [(1, _), (4, _)] ⟨rfl, rfl, trivial⟩ ?_
            refine WC.tail 17 [0, 1, 2, 3, 4, 5, 6, 7, 8, 9, 10, 11, 12, 13, 14, 15, 16] rfl (by kernel_rfl) (by kernel_rfl)  ?_
            refine WQ.q rfl (Yd.qt (Yd.loadN Try.isAgg27 Try.sizeOf27 rfl (vs := [_, _, _, _]) rfl (by first | exact RdN.own (k := 0) (n := 4) rfl rfl | exact (hR.bath.at k (by omega)).rdn 1 2 rfl))) rfl ?_
            refine WQ.q rfl (Yd.qt (Yd.fieldAddr FA27_2 rfl)) rfl ?_
            refine WQ.q rfl (Yd.qt (Yd.load1 Try.isAgg25 rfl (by first | exact Rd.own (k := 0) rfl rfl | exact ((hR.claim.at k (by omega)).rd 0 rfl) | exact ((hR.claim.at k (by omega)).rd 1 rfl)))) rfl ?_
            refine WQ.q rfl (Yd.qt (Yd.move rfl)) rfl ?_
            refine WQ.q rfl (Yd.qt (Yd.indexS Try.underlying25 Try.sizeOf47 rfl rfl (by omega) (by omega) (by first | exact hR.claim.addr k (by omega)))) rfl ?_
            refine WQ.q rfl (Yd.qt (Yd.fieldAddr FA47_0 rfl)) rfl ?_
            refine WQ.q rfl (Yd.qt (Yd.load1 Try.isAgg3 rfl ((hR.claim.at k (by omega)).rd 0 rfl))) rfl ?_
            refine WQ.q rfl (Qt.callP Try.call53 rfl (fun w hI => rwho_g p a1 _ c1 a2 _ c2 _ _ rfl hl1)) rfl ?_
            refine WQ.q rfl (Yd.qt (Yd.not rfl)) rfl ?_
            refine WQ.q rfl (Yd.qt (Yd.move rfl)) rfl ?_
            refine WQ.part 52 rfl (fun g52 => ?_) (fun g52 => ?_)
            · try simp only [zq1, zq2, zq3, zq4, zq5, zq6, zq7, zq8] at g52
              refine WQ.skip rfl rfl rfl ?_
              refine WQ.skip rfl rfl rfl ?_
              refine WQ.skip rfl rfl rfl ?_
              refine WQ.skip rfl rfl rfl ?_
              refine WQ.skip rfl rfl rfl ?_
              refine WQ.skip rfl rfl rfl ?_
              refine WQ.skip rfl rfl rfl ?_
              refine WQ.tail ?_
              refine WL.skip rfl rfl ?_
              refine WL.skip rfl rfl ?_
              refine WL.yd (Yd.pickT rfl rfl) rfl ?_
              refine WL.nil ?_
              refine WP.thenC ?_
              refine WC.condT rfl ?_
              refine WC.seq ?_
              refine WC.ofFr [(1, _), (4, _)] ⟨rfl, rfl, trivial⟩ ?_
              refine WC.region ?_
              refine WL.yd (Yd.assign rfl) rfl ?_
              refine WL.nil ?_
              refine WP.thenC ?_
              refine WC.ret ?_
              refine WP.blkRet ?_
              refine WP.thenRet ?_
              refine WP.thenRet ?_
              refine WP.blkRet ?_
              refine WP.thenRet ?_
              refine WP.ret1 rfl rfl Try.results39 (RV.tmp rfl) (fun w hI => ⟨ret_bool (by
                first
                | exact ((postB_iff p).2 ⟨g9, by omega, by omega, hd2, fun i hi => hd i (by omega)⟩).symm
                | (have hno : postB p = false := by
                    cases hdb : postB p with
                    | false => rfl
                    | true =>
                      exfalso
                      obtain ⟨h1, h2, h3, h4, h5⟩ := (postB_iff p).1 hdb
                      first | omega | (rw [h1] at g9; cases g9; done) | (have := h4 k (by omega); simp_all; done) | (have := h5 k (by omega); simp_all [claimP]; done)
                   exact hno.symm)), hI.keep⟩)
            · try simp only [zq1, zq2, zq3, zq4, zq5, zq6, zq7, zq8] at g52
              refine WQ.qg rfl rfl (Yd.qt (Yd.loadN Try.isAgg27 Try.sizeOf27 rfl (vs := [_, _, _, _]) rfl (by first | exact RdN.own (k := 0) (n := 4) rfl rfl | exact (hR.bath.at k (by omega)).rdn 1 2 rfl))) rfl ?_
              refine WQ.qg rfl rfl (Yd.qt (Yd.fieldAddr FA27_2 rfl)) rfl ?_
              refine WQ.qg rfl rfl (Yd.qt (Yd.load1 Try.isAgg25 rfl (by first | exact Rd.own (k := 0) rfl rfl | exact ((hR.claim.at k (by omega)).rd 0 rfl) | exact ((hR.claim.at k (by omega)).rd 1 rfl)))) rfl ?_
              refine WQ.qg rfl rfl (Yd.qt (Yd.move rfl)) rfl ?_
              refine WQ.qg rfl rfl (Yd.qt (Yd.indexS Try.underlying25 Try.sizeOf47 rfl rfl (by omega) (by omega) (by first | exact hR.claim.addr k (by omega)))) rfl ?_
              refine WQ.qg rfl rfl (Yd.qt (Yd.fieldAddr FA47_1 rfl)) rfl ?_
              refine WQ.qg rfl rfl (Yd.qt (Yd.load1 Try.isAgg3 rfl ((hR.claim.at k (by omega)).rd 1 rfl))) rfl ?_
              refine WQ.tail ?_
              refine WL.sog rfl (SO.callP Try.call53 rfl (fun w hI => rwho_g p a1 _ c1 a2 _ c2 _ _ rfl hl1)) rfl ?_
              rintro _ _ _ ⟨rfl, rfl, rfl⟩
              refine WL.ydg rfl (Yd.not rfl) rfl ?_
              refine WL.yd (Yd.pickF rfl rfl) rfl ?_
              refine WL.nil ?_
              refine WP.thenC ?_
              refine WC.cond rfl (fun c62 => ?_) (fun c62 => ?_)
              · try simp only [zq1, zq2, zq3, zq4, zq5, zq6, zq7, zq8] at c62
                refine WC.seq ?_
                refine WC.ofFr [(1, _), (4, _)] ⟨rfl, rfl, trivial⟩ ?_
                refine WC.region ?_
                refine WL.yd (Yd.assign rfl) rfl ?_
                refine WL.nil ?_
                refine WP.thenC ?_
                refine WC.ret ?_
                refine WP.blkRet ?_
                refine WP.thenRet ?_
                refine WP.thenRet ?_
                refine WP.blkRet ?_
                refine WP.thenRet ?_
                refine WP.ret1 rfl rfl Try.results39 (RV.tmp rfl) (fun w hI => ⟨ret_bool (by
                  first
                  | exact ((postB_iff p).2 ⟨g9, by omega, by omega, hd2, fun i hi => hd i (by omega)⟩).symm
                  | (have hno : postB p = false := by
                      cases hdb : postB p with
                      | false => rfl
                      | true =>
                        exfalso
                        obtain ⟨h1, h2, h3, h4, h5⟩ := (postB_iff p).1 hdb
                        first | omega | (rw [h1] at g9; cases g9; done) | (have := h4 k (by omega); simp_all; done) | (have := h5 k (by omega); simp_all [claimP]; done)
                     exact hno.symm)), hI.keep⟩)
              · try simp only [zq1, zq2, zq3, zq4, zq5, zq6, zq7, zq8] at c62
                refine WC.skip ?_
                refine WP.blkNormal ?_
                refine WP.thenC ?_
                refine WC.ofFr [(1, _), (4, _)] ⟨rfl, rfl, trivial⟩ ?_
                refine WC.region ?_
                refine WL.yd (Yd.move rfl) rfl ?_
                refine WL.yd (Yd.add rfl rfl (wr64 ⟨by omega, by omega⟩)) rfl ?_
                refine WL.yd (Yd.assign rfl) rfl ?_
                refine WL.nil ?_
                exact WP.againF (k + 1) ⟨by omega, ext_round hd (by simp_all [claimP])⟩ (by omega) ⟨rfl, rfl, trivial⟩ (fun _ h => h) (fun h => h)
          · try simp only [zq1, zq2, zq3, zq4, zq5, zq6, zq7, zq8] at c40
            refine WC.exit ?_
            refine WP.thenExit ?_
            refine WP.thenExit ?_
            refine WP.blkHit ?_
            refine WP.thenC ?_
            refine WC.seq ?_
            refine WC.ofFr [] trivial ?_
            refine WC.region ?_
            refine WL.yd (Yd.assign rfl) rfl ?_
            refine WL.nil ?_
            refine WP.thenC ?_
            refine WC.ret ?_
            refine WP.ret1 rfl rfl Try.results39 (RV.tmp rfl) (fun w hI => ⟨ret_bool (by
              first
              | exact ((postB_iff p).2 ⟨g9, by omega, by omega, hd2, fun i hi => hd i (by omega)⟩).symm
              | (have hno : postB p = false := by
                  cases hdb : postB p with
                  | false => rfl
                  | true =>
                    exfalso
                    obtain ⟨h1, h2, h3, h4, h5⟩ := (postB_iff p).1 hdb
                    first | omega | (rw [h1] at g9; cases g9; done) | (have := h4 k (by omega); simp_all; done) | (have := h5 k (by omega); simp_all [claimP]; done)
                 exact hno.symm)), hI.keep⟩)

theorem bathC_ones : ∀ x : Bath, ∀ v ∈ bathC x, v.oneCell' = true := fun x v hv => by
  simp only [bathC, List.mem_cons, List.mem_nil_iff, or_false] at hv
  rcases hv with rfl | rfl | rfl <;> rfl
theorem claims_snoc {D : Imm} {b : Nat} {l : List PClaim} {c : PClaim} {rest : List Value} {fz : Nat × Nat} (h : D b = some (.cells (List.toArray ((l.flatMap claimC ++ claimC c) ++ rest)) 47 fz)) : SlL D 3 ((l ++ [c]).map claimC) (some ⟨b, 0, none⟩) (l.length + 1) := by
  have e : l.flatMap claimC ++ claimC c = (l ++ [c]).flatMap claimC := by rw [List.flatMap_append]; simp
  rw [e] at h
  have := SlL.ofBlock (f := claimC) (l := l ++ [c]) (rest := rest) claimC_len h
  rwa [List.length_append] at this
theorem bath_splice (l : List Bath) (rest : List Value) {i : Nat} (hi : i < l.length) (k : Int) : splice (l.flatMap bathC ++ rest) (0 + i * 3 + 1) [it k, it k] = (l.set i ⟨(gt l i).lady, ⟨k, k⟩⟩).flatMap bathC ++ rest := by
  have h0 := flat_cell bathC_len l rest (i := i) (j := 0) hi (by omega)
  rw [splice_step (v := .bool (gt l i).lady) h0]
  exact splice_row bathC_len ⟨(gt l i).lady, ⟨k, k⟩⟩ rest l i hi

theorem with_g (p : Post) (a1 : Option Addr) (n1 c1 : Nat) (a2 : Option Addr) (n2 c2 : Nat) (D : Imm) (w : World) (hR : PostR D p a1 n1 a2 n2) (hH : Holds D w) (c : PClaim) : Makes Try.prog 41 [.agg #[it p.post.lo, it p.post.hi, .slice a1 n1 c1, .slice a2 n2 c2], .agg #[it c.a, it c.b, .bool c.not]] w D (fun v D' => ∃ a c', v = .agg #[it p.post.lo, it p.post.hi, .slice a1 n1 c1, .slice a (n2 + 1) c'] ∧ (n2 ≤ 900 → PostR D' (withP p c) a1 n1 a (n2 + 1))) := by
  unfold Makes
  obtain rfl := hR.bath.len'
  obtain rfl := hR.claim.len'
  have hl1 := hR.len1
  have hl2 := hR.len2
  refine enter Try.func41 rfl 14 Try.ntmps41 (Nat.le_of_ble_eq_true rfl) (Inv.start hH) ?_
  refine WC.seq ?_
  refine WC.ofFr [(0, _), (1, _)] ⟨rfl, rfl, trivial⟩ ?_
  refine WC.region ?_
  refine WL.so (SO.box rfl rfl) rfl ?_
  rintro _ _ _ ⟨b2, hb2, rfl, rfl, rfl⟩
  refine WL.so (SO.box rfl rfl) rfl ?_
  rintro _ _ _ ⟨b3, hb3, rfl, rfl, rfl⟩
  refine WL.so (SO.alloc Try.zeroValue27 rfl) rfl ?_
  rintro _ _ _ ⟨b4, hb4, rfl, rfl, rfl⟩
  refine WL.nil ?_
  refine WP.thenC ?_
  refine WC.seq ?_
  refine WC.ofFr [(4, _), (3, _), (2, _)] ⟨rfl, rfl, rfl, trivial⟩ ?_
  refine WC.drawH [(b3, .cells (List.toArray [it c.a, it c.b, .bool c.not]) 47 (0, 0))] (by kernel_rfl) (fun _ hI => Inv.pick 1 rfl hI) ?_
  refine WH.yd (i := 1) (by kernel_rfl) (fun _ o v c a w _ h => (QuietPanic.then QuietPanic.body) c o.dst v a w h) rfl (Yd.fieldAddr FA27_2 rfl) rfl ?_
  refine WH.yd (i := 4) (by kernel_rfl) (fun _ o v c a w _ h => (QuietPanic.then QuietPanic.body) c o.dst v a w h) rfl (Yd.loadN Try.isAgg47 Try.sizeOf47 rfl (vs := [_, _, _]) rfl (by first | exact RdN.own (k := 0) (n := 3) rfl rfl | exact RdN.own (k := 1) (n := 3) rfl rfl | exact RdN.own (k := 2) (n := 3) rfl rfl)) rfl ?_
  refine WH.three (i := 0) (j := 2) (k := 5) (by kernel_rfl) ?_ ?_ ?_
  · refine WHo.so rfl (SO.buildSlice0 Try.underlying25 Try.sizeOf47) rfl ?_
    rintro _ _ _ ⟨b5, hb5, rfl, rfl, rfl⟩
    refine ⟨(fun _ hI => Inv.pick 2 rfl hI), ?_⟩
    refine WH.two (i := 2) (j := 5) (by kernel_rfl) ?_ ?_
    · refine WHo.yd rfl (Yd.load1 Try.isAgg25 rfl (by first | exact Rd.own (k := 0) rfl rfl | exact Rd.own (k := 1) rfl rfl | exact Rd.own (k := 2) rfl rfl | exact Rd.own (k := 3) rfl rfl)) rfl ?_
      refine WH.two (i := 3) (j := 5) (by kernel_rfl) ?_ ?_
      · refine WHo.so rfl (SO.appendAll (f := claimC) (l := p.claims) (m := 3) claimC_len claimC_ones [] _ rfl rfl Try.underlying25 Try.sizeOf47 Try.typeInfo47 Try.zeroValue47 rfl rfl rfl rfl hb5 hR.claim (by show (2 * (_ + _) + 1000) * 24 ≤ 2 ^ 48; omega) (by omega)) rfl ?_
        rintro _ _ _ ⟨u1, hu1, rfl, rfl, rfl⟩
        refine ⟨(fun _ hI => Inv.pick 2 rfl hI), ?_⟩
        refine WH.one (i := 5) (by kernel_rfl) (WHo.so rfl (SO.buildSlice Try.underlying25 Try.sizeOf47 Try.zeroValue47 rfl rfl rfl rfl (cs := [_, _, _]) rfl) rfl ?_)
        rintro _ _ _ ⟨b10, hb10, rfl, rfl, rfl⟩
        refine ⟨(fun _ hI => Inv.pick 3 rfl hI), ?_⟩
        refine WH.one (i := 6) (by kernel_rfl) (WHo.so rfl (SO.appendOw (o := some u1) (len := p.claims.length) (n := 1) (xs := p.claims.flatMap claimC) (size := 3) [] [_] _ rfl rfl Try.underlying25 Try.sizeOf47 Try.typeInfo47 Try.zeroValue47 rfl rfl rfl rfl ⟨rfl, .inr ⟨_, _, _, rfl, RdN.own (k := 0) (n := 3) rfl rfl⟩⟩ (oneB_spec rfl) hu1 (flat_len claimC_len _) (by omega) (by show (2 * (_ + _) + 1000) * 24 ≤ 2 ^ 48; omega) (by omega)) rfl ?_)
        rintro _ _ _ ⟨u2, hu2, rfl, rfl, rfl⟩
        refine ⟨(fun _ hI => Inv.pick 3 rfl hI), ?_⟩
        refine WH.yd (i := 7) (by kernel_rfl) (fun _ o v c a w _ h => (QuietPanic.then QuietPanic.body) c o.dst v a w h) rfl (Yd.fieldAddr FA27_2 rfl) rfl ?_
        refine WH.one (i := 8) (by kernel_rfl) (WHo.so rfl (SO.store 4 rfl Try.sizeOf25 rfl rfl rfl rfl (Nat.le_of_ble_eq_true rfl) (oneB_spec rfl)) rfl ?_)
        rintro _ _ _ ⟨rfl, rfl, rfl⟩
        refine ⟨(fun _ hI => Inv.pick 3 rfl hI), ?_⟩
        refine WH.nil (by kernel_rfl) ?_
        refine WP.thenC ?_
        refine WC.seq ?_
        refine WC.freezeK 1 rfl (fun hn2 => ?_)
        refine WC.ofFr [(4, _), (2, _)] ⟨rfl, rfl, trivial⟩ ?_
        refine WC.region ?_
        refine WL.yd (Yd.loadN Try.isAgg27 Try.sizeOf27 rfl (vs := [_, _, _, _]) rfl (by first | exact RdN.own (k := 0) (n := 4) rfl rfl | exact RdN.own (k := 1) (n := 4) rfl rfl | exact RdN.own (k := 2) (n := 4) rfl rfl | exact RdN.own (k := 3) (n := 4) rfl rfl)) rfl ?_
        refine WL.so (SO.store 1 rfl Try.sizeOf27 rfl rfl rfl rfl (Nat.le_of_ble_eq_true rfl) (oneB_spec rfl)) rfl ?_
        rintro _ _ _ ⟨rfl, rfl, rfl⟩
        refine WL.nil ?_
        refine WP.thenC ?_
        refine WC.ret ?_
        refine WP.ret1 rfl rfl Try.results41 (RV.cellN Try.isAgg27 Try.sizeOf27 rfl (vs := [_, _, _, _]) rfl (by first | exact RdN.own (k := 0) (n := 4) rfl rfl | exact RdN.own (k := 1) (n := 4) rfl rfl | exact RdN.own (k := 2) (n := 4) rfl rfl | exact RdN.own (k := 3) (n := 4) rfl rfl)) (fun w1 hI => ⟨_, _, rfl, hI.keep, hI.imm, (DExt.refl w D).add hn2 hu2.1, some ⟨u2.b, 0, none⟩, u2.cap, rfl, fun h9 => ⟨hR.bath.ext ((DExt.refl w D).add hn2 hu2.1), claims_snoc (Imm.add_self _ _ _), hl1, by omega⟩⟩)
      · refine WHo.so rfl (SO.buildSlice Try.underlying25 Try.sizeOf47 Try.zeroValue47 rfl rfl rfl rfl (cs := [_, _, _]) rfl) rfl ?_
        rintro _ _ _ ⟨b10, hb10, rfl, rfl, rfl⟩
        refine ⟨(fun _ hI => Inv.pick 3 rfl hI), ?_⟩
        refine WH.one (i := 3) (by kernel_rfl) (WHo.so rfl (SO.appendAll (f := claimC) (l := p.claims) (m := 3) claimC_len claimC_ones [_] _ rfl rfl Try.underlying25 Try.sizeOf47 Try.typeInfo47 Try.zeroValue47 rfl rfl rfl rfl hb5 hR.claim (by show (2 * (_ + _) + 1000) * 24 ≤ 2 ^ 48; omega) (by omega)) rfl ?_)
        rintro _ _ _ ⟨u1, hu1, rfl, rfl, rfl⟩
        refine ⟨(fun _ hI => Inv.pick 3 rfl hI), ?_⟩
        refine WH.one (i := 6) (by kernel_rfl) (WHo.so rfl (SO.appendOw (o := some u1) (len := p.claims.length) (n := 1) (xs := p.claims.flatMap claimC) (size := 3) [] [_] _ rfl rfl Try.underlying25 Try.sizeOf47 Try.typeInfo47 Try.zeroValue47 rfl rfl rfl rfl ⟨rfl, .inr ⟨_, _, _, rfl, RdN.own (k := 0) (n := 3) rfl rfl⟩⟩ (oneB_spec rfl) hu1 (flat_len claimC_len _) (by omega) (by show (2 * (_ + _) + 1000) * 24 ≤ 2 ^ 48; omega) (by omega)) rfl ?_)
        rintro _ _ _ ⟨u2, hu2, rfl, rfl, rfl⟩
        refine ⟨(fun _ hI => Inv.pick 3 rfl hI), ?_⟩
        refine WH.yd (i := 7) (by kernel_rfl) (fun _ o v c a w _ h => (QuietPanic.then QuietPanic.body) c o.dst v a w h) rfl (Yd.fieldAddr FA27_2 rfl) rfl ?_
        refine WH.one (i := 8) (by kernel_rfl) (WHo.so rfl (SO.store 4 rfl Try.sizeOf25 rfl rfl rfl rfl (Nat.le_of_ble_eq_true rfl) (oneB_spec rfl)) rfl ?_)
        rintro _ _ _ ⟨rfl, rfl, rfl⟩
        refine ⟨(fun _ hI => Inv.pick 3 rfl hI), ?_⟩
        refine WH.nil (by kernel_rfl) ?_
        refine WP.thenC ?_
        refine WC.seq ?_
        refine WC.freezeK 1 rfl (fun hn2 => ?_)
        refine WC.ofFr [(4, _), (2, _)] ⟨rfl, rfl, trivial⟩ ?_
        refine WC.region ?_
        refine WL.yd (Yd.loadN Try.isAgg27 Try.sizeOf27 rfl (vs := [_, _, _, _]) rfl (by first | exact RdN.own (k := 0) (n := 4) rfl rfl | exact RdN.own (k := 1) (n := 4) rfl rfl | exact RdN.own (k := 2) (n := 4) rfl rfl | exact RdN.own (k := 3) (n := 4) rfl rfl)) rfl ?_
        refine WL.so (SO.store 1 rfl Try.sizeOf27 rfl rfl rfl rfl (Nat.le_of_ble_eq_true rfl) (oneB_spec rfl)) rfl ?_
        rintro _ _ _ ⟨rfl, rfl, rfl⟩
        refine WL.nil ?_
        refine WP.thenC ?_
        refine WC.ret ?_
        refine WP.ret1 rfl rfl Try.results41 (RV.cellN Try.isAgg27 Try.sizeOf27 rfl (vs := [_, _, _, _]) rfl (by first | exact RdN.own (k := 0) (n := 4) rfl rfl | exact RdN.own (k := 1) (n := 4) rfl rfl | exact RdN.own (k := 2) (n := 4) rfl rfl | exact RdN.own (k := 3) (n := 4) rfl rfl)) (fun w1 hI => ⟨_, _, rfl, hI.keep, hI.imm, (DExt.refl w D).add hn2 hu2.1, some ⟨u2.b, 0, none⟩, u2.cap, rfl, fun h9 => ⟨hR.bath.ext ((DExt.refl w D).add hn2 hu2.1), claims_snoc (Imm.add_self _ _ _), hl1, by omega⟩⟩)
    · refine WHo.so rfl (SO.buildSlice Try.underlying25 Try.sizeOf47 Try.zeroValue47 rfl rfl rfl rfl (cs := [_, _, _]) rfl) rfl ?_
      rintro _ _ _ ⟨b10, hb10, rfl, rfl, rfl⟩
      refine ⟨(fun _ hI => Inv.pick 3 rfl hI), ?_⟩
      refine WH.one (i := 2) (by kernel_rfl) (WHo.yd rfl (Yd.load1 Try.isAgg25 rfl (by first | exact Rd.own (k := 0) rfl rfl | exact Rd.own (k := 1) rfl rfl | exact Rd.own (k := 2) rfl rfl | exact Rd.own (k := 3) rfl rfl | exact Rd.own (k := 4) rfl rfl)) rfl ?_)
      refine WH.one (i := 3) (by kernel_rfl) (WHo.so rfl (SO.appendAll (f := claimC) (l := p.claims) (m := 3) claimC_len claimC_ones [_] _ rfl rfl Try.underlying25 Try.sizeOf47 Try.typeInfo47 Try.zeroValue47 rfl rfl rfl rfl hb5 hR.claim (by show (2 * (_ + _) + 1000) * 24 ≤ 2 ^ 48; omega) (by omega)) rfl ?_)
      rintro _ _ _ ⟨u1, hu1, rfl, rfl, rfl⟩
      refine ⟨(fun _ hI => Inv.pick 3 rfl hI), ?_⟩
      refine WH.one (i := 6) (by kernel_rfl) (WHo.so rfl (SO.appendOw (o := some u1) (len := p.claims.length) (n := 1) (xs := p.claims.flatMap claimC) (size := 3) [] [_] _ rfl rfl Try.underlying25 Try.sizeOf47 Try.typeInfo47 Try.zeroValue47 rfl rfl rfl rfl ⟨rfl, .inr ⟨_, _, _, rfl, RdN.own (k := 0) (n := 3) rfl rfl⟩⟩ (oneB_spec rfl) hu1 (flat_len claimC_len _) (by omega) (by show (2 * (_ + _) + 1000) * 24 ≤ 2 ^ 48; omega) (by omega)) rfl ?_)
      rintro _ _ _ ⟨u2, hu2, rfl, rfl, rfl⟩
      refine ⟨(fun _ hI => Inv.pick 3 rfl hI), ?_⟩
      refine WH.yd (i := 7) (by kernel_rfl) (fun _ o v c a w _ h => (QuietPanic.then QuietPanic.body) c o.dst v a w h) rfl (Yd.fieldAddr FA27_2 rfl) rfl ?_
      refine WH.one (i := 8) (by kernel_rfl) (WHo.so rfl (SO.store 4 rfl Try.sizeOf25 rfl rfl rfl rfl (Nat.le_of_ble_eq_true rfl) (oneB_spec rfl)) rfl ?_)
      rintro _ _ _ ⟨rfl, rfl, rfl⟩
      refine ⟨(fun _ hI => Inv.pick 3 rfl hI), ?_⟩
      refine WH.nil (by kernel_rfl) ?_
      refine WP.thenC ?_
      refine WC.seq ?_
      refine WC.freezeK 1 rfl (fun hn2 => ?_)
      refine WC.ofFr [(4, _), (2, _)] ⟨rfl, rfl, trivial⟩ ?_
      refine WC.region ?_
      refine WL.yd (Yd.loadN Try.isAgg27 Try.sizeOf27 rfl (vs := [_, _, _, _]) rfl (by first | exact RdN.own (k := 0) (n := 4) rfl rfl | exact RdN.own (k := 1) (n := 4) rfl rfl | exact RdN.own (k := 2) (n := 4) rfl rfl | exact RdN.own (k := 3) (n := 4) rfl rfl)) rfl ?_
      refine WL.so (SO.store 1 rfl Try.sizeOf27 rfl rfl rfl rfl (Nat.le_of_ble_eq_true rfl) (oneB_spec rfl)) rfl ?_
      rintro _ _ _ ⟨rfl, rfl, rfl⟩
      refine WL.nil ?_
      refine WP.thenC ?_
      refine WC.ret ?_
      refine WP.ret1 rfl rfl Try.results41 (RV.cellN Try.isAgg27 Try.sizeOf27 rfl (vs := [_, _, _, _]) rfl (by first | exact RdN.own (k := 0) (n := 4) rfl rfl | exact RdN.own (k := 1) (n := 4) rfl rfl | exact RdN.own (k := 2) (n := 4) rfl rfl | exact RdN.own (k := 3) (n := 4) rfl rfl)) (fun w1 hI => ⟨_, _, rfl, hI.keep, hI.imm, (DExt.refl w D).add hn2 hu2.1, some ⟨u2.b, 0, none⟩, u2.cap, rfl, fun h9 => ⟨hR.bath.ext ((DExt.refl w D).add hn2 hu2.1), claims_snoc (Imm.add_self _ _ _), hl1, by omega⟩⟩)
  · refine WHo.yd rfl (Yd.load1 Try.isAgg25 rfl (by first | exact Rd.own (k := 0) rfl rfl | exact Rd.own (k := 1) rfl rfl | exact Rd.own (k := 2) rfl rfl)) rfl ?_
    refine WH.two (i := 0) (j := 5) (by kernel_rfl) ?_ ?_
    · refine WHo.so rfl (SO.buildSlice0 Try.underlying25 Try.sizeOf47) rfl ?_
      rintro _ _ _ ⟨b5, hb5, rfl, rfl, rfl⟩
      refine ⟨(fun _ hI => Inv.pick 2 rfl hI), ?_⟩
      refine WH.two (i := 3) (j := 5) (by kernel_rfl) ?_ ?_
      · refine WHo.so rfl (SO.appendAll (f := claimC) (l := p.claims) (m := 3) claimC_len claimC_ones [] _ rfl rfl Try.underlying25 Try.sizeOf47 Try.typeInfo47 Try.zeroValue47 rfl rfl rfl rfl hb5 hR.claim (by show (2 * (_ + _) + 1000) * 24 ≤ 2 ^ 48; omega) (by omega)) rfl ?_
        rintro _ _ _ ⟨u1, hu1, rfl, rfl, rfl⟩
        refine ⟨(fun _ hI => Inv.pick 2 rfl hI), ?_⟩
        refine WH.one (i := 5) (by kernel_rfl) (WHo.so rfl (SO.buildSlice Try.underlying25 Try.sizeOf47 Try.zeroValue47 rfl rfl rfl rfl (cs := [_, _, _]) rfl) rfl ?_)
        rintro _ _ _ ⟨b10, hb10, rfl, rfl, rfl⟩
        refine ⟨(fun _ hI => Inv.pick 3 rfl hI), ?_⟩
        refine WH.one (i := 6) (by kernel_rfl) (WHo.so rfl (SO.appendOw (o := some u1) (len := p.claims.length) (n := 1) (xs := p.claims.flatMap claimC) (size := 3) [] [_] _ rfl rfl Try.underlying25 Try.sizeOf47 Try.typeInfo47 Try.zeroValue47 rfl rfl rfl rfl ⟨rfl, .inr ⟨_, _, _, rfl, RdN.own (k := 0) (n := 3) rfl rfl⟩⟩ (oneB_spec rfl) hu1 (flat_len claimC_len _) (by omega) (by show (2 * (_ + _) + 1000) * 24 ≤ 2 ^ 48; omega) (by omega)) rfl ?_)
        rintro _ _ _ ⟨u2, hu2, rfl, rfl, rfl⟩
        refine ⟨(fun _ hI => Inv.pick 3 rfl hI), ?_⟩
        refine WH.yd (i := 7) (by kernel_rfl) (fun _ o v c a w _ h => (QuietPanic.then QuietPanic.body) c o.dst v a w h) rfl (Yd.fieldAddr FA27_2 rfl) rfl ?_
        refine WH.one (i := 8) (by kernel_rfl) (WHo.so rfl (SO.store 4 rfl Try.sizeOf25 rfl rfl rfl rfl (Nat.le_of_ble_eq_true rfl) (oneB_spec rfl)) rfl ?_)
        rintro _ _ _ ⟨rfl, rfl, rfl⟩
        refine ⟨(fun _ hI => Inv.pick 3 rfl hI), ?_⟩
        refine WH.nil (by kernel_rfl) ?_
        refine WP.thenC ?_
        refine WC.seq ?_
        refine WC.freezeK 1 rfl (fun hn2 => ?_)
        refine WC.ofFr [(4, _), (2, _)] ⟨rfl, rfl, trivial⟩ ?_
        refine WC.region ?_
        refine WL.yd (Yd.loadN Try.isAgg27 Try.sizeOf27 rfl (vs := [_, _, _, _]) rfl (by first | exact RdN.own (k := 0) (n := 4) rfl rfl | exact RdN.own (k := 1) (n := 4) rfl rfl | exact RdN.own (k := 2) (n := 4) rfl rfl | exact RdN.own (k := 3) (n := 4) rfl rfl)) rfl ?_
        refine WL.so (SO.store 1 rfl Try.sizeOf27 rfl rfl rfl rfl (Nat.le_of_ble_eq_true rfl) (oneB_spec rfl)) rfl ?_
        rintro _ _ _ ⟨rfl, rfl, rfl⟩
        refine WL.nil ?_
        refine WP.thenC ?_
        refine WC.ret ?_
        refine WP.ret1 rfl rfl Try.results41 (RV.cellN Try.isAgg27 Try.sizeOf27 rfl (vs := [_, _, _, _]) rfl (by first | exact RdN.own (k := 0) (n := 4) rfl rfl | exact RdN.own (k := 1) (n := 4) rfl rfl | exact RdN.own (k := 2) (n := 4) rfl rfl | exact RdN.own (k := 3) (n := 4) rfl rfl)) (fun w1 hI => ⟨_, _, rfl, hI.keep, hI.imm, (DExt.refl w D).add hn2 hu2.1, some ⟨u2.b, 0, none⟩, u2.cap, rfl, fun h9 => ⟨hR.bath.ext ((DExt.refl w D).add hn2 hu2.1), claims_snoc (Imm.add_self _ _ _), hl1, by omega⟩⟩)
      · refine WHo.so rfl (SO.buildSlice Try.underlying25 Try.sizeOf47 Try.zeroValue47 rfl rfl rfl rfl (cs := [_, _, _]) rfl) rfl ?_
        rintro _ _ _ ⟨b10, hb10, rfl, rfl, rfl⟩
        refine ⟨(fun _ hI => Inv.pick 3 rfl hI), ?_⟩
        refine WH.one (i := 3) (by kernel_rfl) (WHo.so rfl (SO.appendAll (f := claimC) (l := p.claims) (m := 3) claimC_len claimC_ones [_] _ rfl rfl Try.underlying25 Try.sizeOf47 Try.typeInfo47 Try.zeroValue47 rfl rfl rfl rfl hb5 hR.claim (by show (2 * (_ + _) + 1000) * 24 ≤ 2 ^ 48; omega) (by omega)) rfl ?_)
        rintro _ _ _ ⟨u1, hu1, rfl, rfl, rfl⟩
        refine ⟨(fun _ hI => Inv.pick 3 rfl hI), ?_⟩
        refine WH.one (i := 6) (by kernel_rfl) (WHo.so rfl (SO.appendOw (o := some u1) (len := p.claims.length) (n := 1) (xs := p.claims.flatMap claimC) (size := 3) [] [_] _ rfl rfl Try.underlying25 Try.sizeOf47 Try.typeInfo47 Try.zeroValue47 rfl rfl rfl rfl ⟨rfl, .inr ⟨_, _, _, rfl, RdN.own (k := 0) (n := 3) rfl rfl⟩⟩ (oneB_spec rfl) hu1 (flat_len claimC_len _) (by omega) (by show (2 * (_ + _) + 1000) * 24 ≤ 2 ^ 48; omega) (by omega)) rfl ?_)
        rintro _ _ _ ⟨u2, hu2, rfl, rfl, rfl⟩
        refine ⟨(fun _ hI => Inv.pick 3 rfl hI), ?_⟩
        refine WH.yd (i := 7) (by kernel_rfl) (fun _ o v c a w _ h => (QuietPanic.then QuietPanic.body) c o.dst v a w h) rfl (Yd.fieldAddr FA27_2 rfl) rfl ?_
        refine WH.one (i := 8) (by kernel_rfl) (WHo.so rfl (SO.store 4 rfl Try.sizeOf25 rfl rfl rfl rfl (Nat.le_of_ble_eq_true rfl) (oneB_spec rfl)) rfl ?_)
        rintro _ _ _ ⟨rfl, rfl, rfl⟩
        refine ⟨(fun _ hI => Inv.pick 3 rfl hI), ?_⟩
        refine WH.nil (by kernel_rfl) ?_
        refine WP.thenC ?_
        refine WC.seq ?_
        refine WC.freezeK 1 rfl (fun hn2 => ?_)
        refine WC.ofFr [(4, _), (2, _)] ⟨rfl, rfl, trivial⟩ ?_
        refine WC.region ?_
        refine WL.yd (Yd.loadN Try.isAgg27 Try.sizeOf27 rfl (vs := [_, _, _, _]) rfl (by first | exact RdN.own (k := 0) (n := 4) rfl rfl | exact RdN.own (k := 1) (n := 4) rfl rfl | exact RdN.own (k := 2) (n := 4) rfl rfl | exact RdN.own (k := 3) (n := 4) rfl rfl)) rfl ?_
        refine WL.so (SO.store 1 rfl Try.sizeOf27 rfl rfl rfl rfl (Nat.le_of_ble_eq_true rfl) (oneB_spec rfl)) rfl ?_
        rintro _ _ _ ⟨rfl, rfl, rfl⟩
        refine WL.nil ?_
        refine WP.thenC ?_
        refine WC.ret ?_
        refine WP.ret1 rfl rfl Try.results41 (RV.cellN Try.isAgg27 Try.sizeOf27 rfl (vs := [_, _, _, _]) rfl (by first | exact RdN.own (k := 0) (n := 4) rfl rfl | exact RdN.own (k := 1) (n := 4) rfl rfl | exact RdN.own (k := 2) (n := 4) rfl rfl | exact RdN.own (k := 3) (n := 4) rfl rfl)) (fun w1 hI => ⟨_, _, rfl, hI.keep, hI.imm, (DExt.refl w D).add hn2 hu2.1, some ⟨u2.b, 0, none⟩, u2.cap, rfl, fun h9 => ⟨hR.bath.ext ((DExt.refl w D).add hn2 hu2.1), claims_snoc (Imm.add_self _ _ _), hl1, by omega⟩⟩)
    · refine WHo.so rfl (SO.buildSlice Try.underlying25 Try.sizeOf47 Try.zeroValue47 rfl rfl rfl rfl (cs := [_, _, _]) rfl) rfl ?_
      rintro _ _ _ ⟨b10, hb10, rfl, rfl, rfl⟩
      refine ⟨(fun _ hI => Inv.pick 2 rfl hI), ?_⟩
      refine WH.one (i := 0) (by kernel_rfl) (WHo.so rfl (SO.buildSlice0 Try.underlying25 Try.sizeOf47) rfl ?_)
      rintro _ _ _ ⟨b5, hb5, rfl, rfl, rfl⟩
      refine ⟨(fun _ hI => Inv.pick 3 rfl hI), ?_⟩
      refine WH.one (i := 3) (by kernel_rfl) (WHo.so rfl (SO.appendAll (f := claimC) (l := p.claims) (m := 3) claimC_len claimC_ones [] _ rfl rfl Try.underlying25 Try.sizeOf47 Try.typeInfo47 Try.zeroValue47 rfl rfl rfl rfl hb5 hR.claim (by show (2 * (_ + _) + 1000) * 24 ≤ 2 ^ 48; omega) (by omega)) rfl ?_)
      rintro _ _ _ ⟨u1, hu1, rfl, rfl, rfl⟩
      refine ⟨(fun _ hI => Inv.pick 3 rfl hI), ?_⟩
      refine WH.one (i := 6) (by kernel_rfl) (WHo.so rfl (SO.appendOw (o := some u1) (len := p.claims.length) (n := 1) (xs := p.claims.flatMap claimC) (size := 3) [] [] _ rfl rfl Try.underlying25 Try.sizeOf47 Try.typeInfo47 Try.zeroValue47 rfl rfl rfl rfl ⟨rfl, .inr ⟨_, _, _, rfl, RdN.own (k := 1) (n := 3) rfl rfl⟩⟩ (oneB_spec rfl) hu1 (flat_len claimC_len _) (by omega) (by show (2 * (_ + _) + 1000) * 24 ≤ 2 ^ 48; omega) (by omega)) rfl ?_)
      rintro _ _ _ ⟨u2, hu2, rfl, rfl, rfl⟩
      refine ⟨(fun _ hI => Inv.pick 3 rfl hI), ?_⟩
      refine WH.yd (i := 7) (by kernel_rfl) (fun _ o v c a w _ h => (QuietPanic.then QuietPanic.body) c o.dst v a w h) rfl (Yd.fieldAddr FA27_2 rfl) rfl ?_
      refine WH.one (i := 8) (by kernel_rfl) (WHo.so rfl (SO.store 4 rfl Try.sizeOf25 rfl rfl rfl rfl (Nat.le_of_ble_eq_true rfl) (oneB_spec rfl)) rfl ?_)
      rintro _ _ _ ⟨rfl, rfl, rfl⟩
      refine ⟨(fun _ hI => Inv.pick 3 rfl hI), ?_⟩
      refine WH.nil (by kernel_rfl) ?_
      refine WP.thenC ?_
      refine WC.seq ?_
      refine WC.freezeK 0 rfl (fun hn2 => ?_)
      refine WC.ofFr [(4, _), (2, _)] ⟨rfl, rfl, trivial⟩ ?_
      refine WC.region ?_
      refine WL.yd (Yd.loadN Try.isAgg27 Try.sizeOf27 rfl (vs := [_, _, _, _]) rfl (by first | exact RdN.own (k := 0) (n := 4) rfl rfl | exact RdN.own (k := 1) (n := 4) rfl rfl | exact RdN.own (k := 2) (n := 4) rfl rfl | exact RdN.own (k := 3) (n := 4) rfl rfl)) rfl ?_
      refine WL.so (SO.store 1 rfl Try.sizeOf27 rfl rfl rfl rfl (Nat.le_of_ble_eq_true rfl) (oneB_spec rfl)) rfl ?_
      rintro _ _ _ ⟨rfl, rfl, rfl⟩
      refine WL.nil ?_
      refine WP.thenC ?_
      refine WC.ret ?_
      refine WP.ret1 rfl rfl Try.results41 (RV.cellN Try.isAgg27 Try.sizeOf27 rfl (vs := [_, _, _, _]) rfl (by first | exact RdN.own (k := 0) (n := 4) rfl rfl | exact RdN.own (k := 1) (n := 4) rfl rfl | exact RdN.own (k := 2) (n := 4) rfl rfl | exact RdN.own (k := 3) (n := 4) rfl rfl)) (fun w1 hI => ⟨_, _, rfl, hI.keep, hI.imm, (DExt.refl w D).add hn2 hu2.1, some ⟨u2.b, 0, none⟩, u2.cap, rfl, fun h9 => ⟨hR.bath.ext ((DExt.refl w D).add hn2 hu2.1), claims_snoc (Imm.add_self _ _ _), hl1, by omega⟩⟩)
  · refine WHo.so rfl (SO.buildSlice Try.underlying25 Try.sizeOf47 Try.zeroValue47 rfl rfl rfl rfl (cs := [_, _, _]) rfl) rfl ?_
    rintro _ _ _ ⟨b10, hb10, rfl, rfl, rfl⟩
    refine ⟨(fun _ hI => Inv.pick 2 rfl hI), ?_⟩
    refine WH.two (i := 0) (j := 2) (by kernel_rfl) ?_ ?_
    · refine WHo.so rfl (SO.buildSlice0 Try.underlying25 Try.sizeOf47) rfl ?_
      rintro _ _ _ ⟨b5, hb5, rfl, rfl, rfl⟩
      refine ⟨(fun _ hI => Inv.pick 3 rfl hI), ?_⟩
      refine WH.one (i := 2) (by kernel_rfl) (WHo.yd rfl (Yd.load1 Try.isAgg25 rfl (by first | exact Rd.own (k := 0) rfl rfl | exact Rd.own (k := 1) rfl rfl | exact Rd.own (k := 2) rfl rfl | exact Rd.own (k := 3) rfl rfl | exact Rd.own (k := 4) rfl rfl)) rfl ?_)
      refine WH.one (i := 3) (by kernel_rfl) (WHo.so rfl (SO.appendAll (f := claimC) (l := p.claims) (m := 3) claimC_len claimC_ones [] _ rfl rfl Try.underlying25 Try.sizeOf47 Try.typeInfo47 Try.zeroValue47 rfl rfl rfl rfl hb5 hR.claim (by show (2 * (_ + _) + 1000) * 24 ≤ 2 ^ 48; omega) (by omega)) rfl ?_)
      rintro _ _ _ ⟨u1, hu1, rfl, rfl, rfl⟩
      refine ⟨(fun _ hI => Inv.pick 3 rfl hI), ?_⟩
      refine WH.one (i := 6) (by kernel_rfl) (WHo.so rfl (SO.appendOw (o := some u1) (len := p.claims.length) (n := 1) (xs := p.claims.flatMap claimC) (size := 3) [] [] _ rfl rfl Try.underlying25 Try.sizeOf47 Try.typeInfo47 Try.zeroValue47 rfl rfl rfl rfl ⟨rfl, .inr ⟨_, _, _, rfl, RdN.own (k := 1) (n := 3) rfl rfl⟩⟩ (oneB_spec rfl) hu1 (flat_len claimC_len _) (by omega) (by show (2 * (_ + _) + 1000) * 24 ≤ 2 ^ 48; omega) (by omega)) rfl ?_)
      rintro _ _ _ ⟨u2, hu2, rfl, rfl, rfl⟩
      refine ⟨(fun _ hI => Inv.pick 3 rfl hI), ?_⟩
      refine WH.yd (i := 7) (by kernel_rfl) (fun _ o v c a w _ h => (QuietPanic.then QuietPanic.body) c o.dst v a w h) rfl (Yd.fieldAddr FA27_2 rfl) rfl ?_
      refine WH.one (i := 8) (by kernel_rfl) (WHo.so rfl (SO.store 4 rfl Try.sizeOf25 rfl rfl rfl rfl (Nat.le_of_ble_eq_true rfl) (oneB_spec rfl)) rfl ?_)
      rintro _ _ _ ⟨rfl, rfl, rfl⟩
      refine ⟨(fun _ hI => Inv.pick 3 rfl hI), ?_⟩
      refine WH.nil (by kernel_rfl) ?_
      refine WP.thenC ?_
      refine WC.seq ?_
      refine WC.freezeK 0 rfl (fun hn2 => ?_)
      refine WC.ofFr [(4, _), (2, _)] ⟨rfl, rfl, trivial⟩ ?_
      refine WC.region ?_
      refine WL.yd (Yd.loadN Try.isAgg27 Try.sizeOf27 rfl (vs := [_, _, _, _]) rfl (by first | exact RdN.own (k := 0) (n := 4) rfl rfl | exact RdN.own (k := 1) (n := 4) rfl rfl | exact RdN.own (k := 2) (n := 4) rfl rfl | exact RdN.own (k := 3) (n := 4) rfl rfl)) rfl ?_
      refine WL.so (SO.store 1 rfl Try.sizeOf27 rfl rfl rfl rfl (Nat.le_of_ble_eq_true rfl) (oneB_spec rfl)) rfl ?_
      rintro _ _ _ ⟨rfl, rfl, rfl⟩
      refine WL.nil ?_
      refine WP.thenC ?_
      refine WC.ret ?_
      refine WP.ret1 rfl rfl Try.results41 (RV.cellN Try.isAgg27 Try.sizeOf27 rfl (vs := [_, _, _, _]) rfl (by first | exact RdN.own (k := 0) (n := 4) rfl rfl | exact RdN.own (k := 1) (n := 4) rfl rfl | exact RdN.own (k := 2) (n := 4) rfl rfl | exact RdN.own (k := 3) (n := 4) rfl rfl)) (fun w1 hI => ⟨_, _, rfl, hI.keep, hI.imm, (DExt.refl w D).add hn2 hu2.1, some ⟨u2.b, 0, none⟩, u2.cap, rfl, fun h9 => ⟨hR.bath.ext ((DExt.refl w D).add hn2 hu2.1), claims_snoc (Imm.add_self _ _ _), hl1, by omega⟩⟩)
    · refine WHo.yd rfl (Yd.load1 Try.isAgg25 rfl (by first | exact Rd.own (k := 0) rfl rfl | exact Rd.own (k := 1) rfl rfl | exact Rd.own (k := 2) rfl rfl | exact Rd.own (k := 3) rfl rfl)) rfl ?_
      refine WH.one (i := 0) (by kernel_rfl) (WHo.so rfl (SO.buildSlice0 Try.underlying25 Try.sizeOf47) rfl ?_)
      rintro _ _ _ ⟨b5, hb5, rfl, rfl, rfl⟩
      refine ⟨(fun _ hI => Inv.pick 3 rfl hI), ?_⟩
      refine WH.one (i := 3) (by kernel_rfl) (WHo.so rfl (SO.appendAll (f := claimC) (l := p.claims) (m := 3) claimC_len claimC_ones [] _ rfl rfl Try.underlying25 Try.sizeOf47 Try.typeInfo47 Try.zeroValue47 rfl rfl rfl rfl hb5 hR.claim (by show (2 * (_ + _) + 1000) * 24 ≤ 2 ^ 48; omega) (by omega)) rfl ?_)
      rintro _ _ _ ⟨u1, hu1, rfl, rfl, rfl⟩
      refine ⟨(fun _ hI => Inv.pick 3 rfl hI), ?_⟩
      refine WH.one (i := 6) (by kernel_rfl) (WHo.so rfl (SO.appendOw (o := some u1) (len := p.claims.length) (n := 1) (xs := p.claims.flatMap claimC) (size := 3) [] [] _ rfl rfl Try.underlying25 Try.sizeOf47 Try.typeInfo47 Try.zeroValue47 rfl rfl rfl rfl ⟨rfl, .inr ⟨_, _, _, rfl, RdN.own (k := 1) (n := 3) rfl rfl⟩⟩ (oneB_spec rfl) hu1 (flat_len claimC_len _) (by omega) (by show (2 * (_ + _) + 1000) * 24 ≤ 2 ^ 48; omega) (by omega)) rfl ?_)
      rintro _ _ _ ⟨u2, hu2, rfl, rfl, rfl⟩
      refine ⟨(fun _ hI => Inv.pick 3 rfl hI), ?_⟩
      refine WH.yd (i := 7) (by kernel_rfl) (fun _ o v c a w _ h => (QuietPanic.then QuietPanic.body) c o.dst v a w h) rfl (Yd.fieldAddr FA27_2 rfl) rfl ?_
      refine WH.one (i := 8) (by kernel_rfl) (WHo.so rfl (SO.store 4 rfl Try.sizeOf25 rfl rfl rfl rfl (Nat.le_of_ble_eq_true rfl) (oneB_spec rfl)) rfl ?_)
      rintro _ _ _ ⟨rfl, rfl, rfl⟩
      refine ⟨(fun _ hI => Inv.pick 3 rfl hI), ?_⟩
      refine WH.nil (by kernel_rfl) ?_
      refine WP.thenC ?_
      refine WC.seq ?_
      refine WC.freezeK 0 rfl (fun hn2 => ?_)
      refine WC.ofFr [(4, _), (2, _)] ⟨rfl, rfl, trivial⟩ ?_
      refine WC.region ?_
      refine WL.yd (Yd.loadN Try.isAgg27 Try.sizeOf27 rfl (vs := [_, _, _, _]) rfl (by first | exact RdN.own (k := 0) (n := 4) rfl rfl | exact RdN.own (k := 1) (n := 4) rfl rfl | exact RdN.own (k := 2) (n := 4) rfl rfl | exact RdN.own (k := 3) (n := 4) rfl rfl)) rfl ?_
      refine WL.so (SO.store 1 rfl Try.sizeOf27 rfl rfl rfl rfl (Nat.le_of_ble_eq_true rfl) (oneB_spec rfl)) rfl ?_
      rintro _ _ _ ⟨rfl, rfl, rfl⟩
      refine WL.nil ?_
      refine WP.thenC ?_
      refine WC.ret ?_
      refine WP.ret1 rfl rfl Try.results41 (RV.cellN Try.isAgg27 Try.sizeOf27 rfl (vs := [_, _, _, _]) rfl (by first | exact RdN.own (k := 0) (n := 4) rfl rfl | exact RdN.own (k := 1) (n := 4) rfl rfl | exact RdN.own (k := 2) (n := 4) rfl rfl | exact RdN.own (k := 3) (n := 4) rfl rfl)) (fun w1 hI => ⟨_, _, rfl, hI.keep, hI.imm, (DExt.refl w D).add hn2 hu2.1, some ⟨u2.b, 0, none⟩, u2.cap, rfl, fun h9 => ⟨hR.bath.ext ((DExt.refl w D).add hn2 hu2.1), claims_snoc (Imm.add_self _ _ _), hl1, by omega⟩⟩)

theorem at_n (p : Post) (a1 : Option Addr) (n1 c1 : Nat) (a2 : Option Addr) (n2 c2 : Nat) (D : Imm) (w : World) (hR : PostR D p a1 n1 a2 n2) (hH : Holds D w) (who k : Int) (hw : whoP p who = true) (hs : who < 0) : Makes Try.prog 40 [.agg #[it p.post.lo, it p.post.hi, .slice a1 n1 c1, .slice a2 n2 c2], it who, it k] w D (fun v D' => ∃ a c', v = .agg #[it (spotP p who k).post.lo, it (spotP p who k).post.hi, .slice a n1 c', .slice a2 n2 c2] ∧ PostR D' (spotP p who k) a n1 a2 n2) := by
  unfold Makes
  obtain rfl := hR.bath.len'
  obtain rfl := hR.claim.len'
  have hl1 := hR.len1
  have hl2 := hR.len2
  have hb := of_decide_eq_true hw
  rw [show spotP p who k = ⟨⟨k, k⟩, p.bathers, p.claims⟩ from if_pos hs]
  refine enter Try.func40 rfl 28 Try.ntmps40 (Nat.le_of_ble_eq_true rfl) (Inv.start hH) ?_
  refine WC.seq ?_
  refine WC.ofFr [(0, _), (1, _), (2, _)] ⟨rfl, rfl, rfl, trivial⟩ ?_
  refine WC.region ?_
  refine WL.so (SO.box rfl rfl) rfl ?_
  rintro _ _ _ ⟨b3, hb3, rfl, rfl, rfl⟩
  refine WL.so (SO.alloc Try.zeroValue27 rfl) rfl ?_
  rintro _ _ _ ⟨b6, hb6, rfl, rfl, rfl⟩
  refine WL.nil ?_
  refine WP.thenC ?_
  refine WC.seq ?_
  refine WC.seq ?_
  refine WC.ofFr [(6, _), (3, _), (1, _), (2, _)] ⟨rfl, rfl, rfl, rfl, trivial⟩ ?_
  refine WC.region ?_
  refine WL.yd (Yd.move rfl) rfl ?_
  refine WL.yd (Yd.lss rfl rfl) rfl ?_
  refine WL.nil ?_
  refine WP.thenC ?_
  refine WC.cond rfl (fun c8 => ?_) (fun c8 => ?_)
  · try simp only [zq1, zq2, zq3, zq4, zq5, zq6, zq7, zq8] at c8
    refine WC.seq ?_
    refine WC.ofFr [(6, _), (3, _), (1, _), (2, _)] ⟨rfl, rfl, rfl, rfl, trivial⟩ ?_
    refine WC.region ?_
    refine WL.yd (Yd.move rfl) rfl ?_
    refine WL.yd (Yd.move rfl) rfl ?_
    refine WL.so (SO.callP Try.call32 rfl (fun w hI => lspan_g _ _ _)) rfl ?_
    rintro _ _ _ ⟨rfl, rfl, rfl⟩
    refine WL.yd (Yd.fieldAddr FA27_0 rfl) rfl ?_
    refine WL.so (SO.store 1 rfl Try.sizeOf23 rfl rfl rfl rfl (Nat.le_of_ble_eq_true rfl) (oneB_spec rfl)) rfl ?_
    rintro _ _ _ ⟨rfl, rfl, rfl⟩
    refine WL.nil ?_
    refine WP.thenC ?_
    refine WC.seq ?_
    refine WC.ofFr [(6, _), (3, _), (1, _), (2, _)] ⟨rfl, rfl, rfl, rfl, trivial⟩ ?_
    refine WC.region ?_
    refine WL.yd (Yd.loadN Try.isAgg27 Try.sizeOf27 rfl (vs := [_, _, _, _]) rfl (by first | exact RdN.own (k := 0) (n := 4) rfl rfl | exact RdN.own (k := 1) (n := 4) rfl rfl)) rfl ?_
    refine WL.so (SO.store 0 rfl Try.sizeOf27 rfl rfl rfl rfl (Nat.le_of_ble_eq_true rfl) (oneB_spec rfl)) rfl ?_
    rintro _ _ _ ⟨rfl, rfl, rfl⟩
    refine WL.nil ?_
    refine WP.thenC ?_
    refine WC.ret ?_
    refine WP.thenRet ?_
    refine WP.ret1 rfl rfl Try.results40 (RV.cellN Try.isAgg27 Try.sizeOf27 rfl (vs := [_, _, _, _]) rfl (by first | exact RdN.own (k := 0) (n := 4) rfl rfl | exact RdN.own (k := 1) (n := 4) rfl rfl)) (fun w1 hI => ⟨_, D, rfl, hI.keep, hI.imm, DExt.refl w D, a1, c1, rfl, hR.bath, hR.claim, hl1, hl2⟩)
  · try simp only [zq1, zq2, zq3, zq4, zq5, zq6, zq7, zq8] at c8
    omega

theorem bath_set {D : Imm} {b : Nat} {l : List Bath} {i : Nat} {y : Bath} {rest : List Value} {fz : Nat × Nat} (h : D b = some (.cells (List.toArray ((l.set i y).flatMap bathC ++ rest)) 56 fz)) : SlL D 3 ((l.set i y).map bathC) (some ⟨b, 0, none⟩) l.length := by
  have := SlL.ofBlock (f := bathC) (l := l.set i y) (rest := rest) bathC_len h
  rwa [List.length_set] at this

theorem at_p (p : Post) (a1 : Option Addr) (n1 c1 : Nat) (a2 : Option Addr) (n2 c2 : Nat) (D : Imm) (w : World) (hR : PostR D p a1 n1 a2 n2) (hH : Holds D w) (who k : Int) (hw : whoP p who = true) (hs : ¬ who < 0) : Makes Try.prog 40 [.agg #[it p.post.lo, it p.post.hi, .slice a1 n1 c1, .slice a2 n2 c2], it who, it k] w D (fun v D' => ∃ a c', v = .agg #[it (spotP p who k).post.lo, it (spotP p who k).post.hi, .slice a n1 c', .slice a2 n2 c2] ∧ PostR D' (spotP p who k) a n1 a2 n2) := by
  unfold Makes
  obtain rfl := hR.bath.len'
  obtain rfl := hR.claim.len'
  have hl1 := hR.len1
  have hl2 := hR.len2
  have hb := of_decide_eq_true hw
  have hwn : who.toNat < p.bathers.length := by omega
  rw [show spotP p who k = ⟨p.post, p.bathers.set who.toNat ⟨(gt p.bathers who.toNat).lady, ⟨k, k⟩⟩, p.claims⟩ from if_neg hs]
  refine enter Try.func40 rfl 28 Try.ntmps40 (Nat.le_of_ble_eq_true rfl) (Inv.start hH) ?_
  refine WC.seq ?_
  refine WC.ofFr [(0, _), (1, _), (2, _)] ⟨rfl, rfl, rfl, trivial⟩ ?_
  refine WC.region ?_
  refine WL.so (SO.box rfl rfl) rfl ?_
  rintro _ _ _ ⟨b3, hb3, rfl, rfl, rfl⟩
  refine WL.so (SO.alloc Try.zeroValue27 rfl) rfl ?_
  rintro _ _ _ ⟨b6, hb6, rfl, rfl, rfl⟩
  refine WL.nil ?_
  refine WP.thenC ?_
  refine WC.seq ?_
  refine WC.seq ?_
  refine WC.ofFr [(6, _), (3, _), (1, _), (2, _)] ⟨rfl, rfl, rfl, rfl, trivial⟩ ?_
  refine WC.region ?_
  refine WL.yd (Yd.move rfl) rfl ?_
  refine WL.yd (Yd.lss rfl rfl) rfl ?_
  refine WL.nil ?_
  refine WP.thenC ?_
  refine WC.cond rfl (fun c8 => ?_) (fun c8 => ?_)
  · try simp only [zq1, zq2, zq3, zq4, zq5, zq6, zq7, zq8] at c8
    omega
  · try simp only [zq1, zq2, zq3, zq4, zq5, zq6, zq7, zq8] at c8
    refine WC.skip ?_
    refine WP.thenC ?_
    refine WC.seq ?_
    refine WC.ofFr [(6, _), (3, _), (1, _), (2, _)] ⟨rfl, rfl, rfl, rfl, trivial⟩ ?_
    refine WC.region ?_
    refine WL.so (SO.buildSlice0 Try.underlying24 Try.sizeOf56) rfl ?_
    rintro _ _ _ ⟨b14, hb14, rfl, rfl, rfl⟩
    refine WL.yd (Yd.fieldAddr FA27_1 rfl) rfl ?_
    refine WL.yd (Yd.load1 Try.isAgg24 rfl (by first | exact Rd.own (k := 0) rfl rfl | exact Rd.own (k := 1) rfl rfl | exact Rd.own (k := 2) rfl rfl)) rfl ?_
    refine WL.so (SO.appendAll (f := bathC) (l := p.bathers) (m := 3) bathC_len bathC_ones [] _ rfl rfl Try.underlying24 Try.sizeOf56 Try.typeInfo56 Try.zeroValue56 rfl rfl rfl rfl hb14 hR.bath (by show (2 * (_ + _) + 1000) * 24 ≤ 2 ^ 48; omega) (by omega)) rfl ?_
    rintro _ _ _ ⟨u1, hu1, rfl, rfl, rfl⟩
    refine WL.yd (Yd.fieldAddr FA27_1 rfl) rfl ?_
    refine WL.so (SO.store 2 rfl Try.sizeOf24 rfl rfl rfl rfl (Nat.le_of_ble_eq_true rfl) (oneB_spec rfl)) rfl ?_
    rintro _ _ _ ⟨rfl, rfl, rfl⟩
    refine WL.nil ?_
    refine WP.thenC ?_
    refine WC.seq ?_
    refine WC.ofFr [(6, _), (3, _), (1, _), (2, _)] ⟨rfl, rfl, rfl, rfl, trivial⟩ ?_
    refine WC.tail 6 [0, 1, 2, 3, 4, 5] rfl (by kernel_rfl) (by kernel_rfl)  ?_
    refine WQ.q rfl (Yd.qt (Yd.fieldAddr FA27_1 rfl)) rfl ?_
    refine WQ.q rfl (Yd.qt (Yd.load1 Try.isAgg24 rfl (by first | exact Rd.own (k := 0) rfl rfl | exact Rd.own (k := 1) rfl rfl | exact Rd.own (k := 2) rfl rfl))) rfl ?_
    refine WQ.q rfl (Yd.qt (Yd.move rfl)) rfl ?_
    refine WQ.q rfl (Yd.qt (Yd.move rfl)) rfl ?_
    refine WQ.q rfl (Yd.qt (Yd.move rfl)) rfl ?_
    refine WQ.q rfl (Qt.callP Try.call32 rfl (fun w hI => lspan_g _ _ _)) rfl ?_
    refine WQ.tail ?_
    refine WL.yd (Yd.indexS Try.underlying24 Try.sizeOf56 rfl rfl (by omega) (by omega) (by first | exact (rfl : (some ⟨u1.b, 0, none⟩ : Option Addr) = some ⟨u1.b, 0, none⟩))) rfl ?_
    refine WL.yd (Yd.fieldAddr FA56_1 rfl) rfl ?_
    refine WL.so (SO.store (off := 0 + who.toNat * 3 + 1) 0 rfl Try.sizeOf23 rfl rfl rfl rfl (by rw [List.length_append, flat_len bathC_len]; omega) (oneB_spec rfl)) rfl ?_
    rintro _ _ _ ⟨rfl, rfl, rfl⟩
    rw [bath_splice _ _ hwn]
    refine WL.nil ?_
    refine WP.thenC ?_
    refine WC.seq ?_
    refine WC.freezeK 0 rfl (fun hn1 => ?_)
    refine WC.ofFr [(6, _), (3, _)] ⟨rfl, rfl, trivial⟩ ?_
    refine WC.region ?_
    refine WL.yd (Yd.loadN Try.isAgg27 Try.sizeOf27 rfl (vs := [_, _, _, _]) rfl (by first | exact RdN.own (k := 0) (n := 4) rfl rfl | exact RdN.own (k := 1) (n := 4) rfl rfl)) rfl ?_
    refine WL.so (SO.store 0 rfl Try.sizeOf27 rfl rfl rfl rfl (Nat.le_of_ble_eq_true rfl) (oneB_spec rfl)) rfl ?_
    rintro _ _ _ ⟨rfl, rfl, rfl⟩
    refine WL.nil ?_
    refine WP.thenC ?_
    refine WC.ret ?_
    refine WP.ret1 rfl rfl Try.results40 (RV.cellN Try.isAgg27 Try.sizeOf27 rfl (vs := [_, _, _, _]) rfl (by first | exact RdN.own (k := 0) (n := 4) rfl rfl | exact RdN.own (k := 1) (n := 4) rfl rfl)) (fun w1 hI => ⟨_, _, rfl, hI.keep, hI.imm, (DExt.refl w D).add hn1 hu1.1, some ⟨u1.b, 0, none⟩, u1.cap, rfl, bath_set (Imm.add_self _ _ _), hR.claim.ext ((DExt.refl w D).add hn1 hu1.1), hl1, hl2⟩)

theorem at_g (p : Post) (a1 : Option Addr) (n1 c1 : Nat) (a2 : Option Addr) (n2 c2 : Nat) (D : Imm) (w : World) (hR : PostR D p a1 n1 a2 n2) (hH : Holds D w) (who k : Int) (hw : whoP p who = true) : Makes Try.prog 40 [.agg #[it p.post.lo, it p.post.hi, .slice a1 n1 c1, .slice a2 n2 c2], it who, it k] w D (fun v D' => ∃ a c', v = .agg #[it (spotP p who k).post.lo, it (spotP p who k).post.hi, .slice a n1 c', .slice a2 n2 c2] ∧ PostR D' (spotP p who k) a n1 a2 n2) := by
  by_cases hs : who < 0
  · exact at_n p a1 n1 c1 a2 n2 c2 D w hR hH who k hw hs
  · exact at_p p a1 n1 c1 a2 n2 c2 D w hR hH who k hw hs

end Go.Proofs.Ytkhmmefgllbobaa
