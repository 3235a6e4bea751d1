import Derived.Test.YtkhmmefgllbobaaXQ
import Derived.Test.YtkhmmefgllbobaaXN
import Derived.Test.YtkhmmefgllbobaaXV
set_option linter.unusedSimpArgs false
set_option linter.unusedVariables false
set_option linter.all false
namespace Go.Proofs.Ytkhmmefgllbobaa
open Go.W Go.Po

set_option maxRecDepth 100000 in
set_option maxHeartbeats 1000000 in
theorem long_g (lo hi : Int) (a1 : Option Addr) (n1 c1 : Nat) (a2 : Option Addr) (n2 c2 : Nat) (w : World) : Gives Try.prog 38 [.agg #[it lo, it hi, .slice a1 n1 c1, .slice a2 n2 c2]] w (.bool (decide (max (n1 : Int) (n2 : Int) > 40))) := by
  unfold Gives
  refine enter Try.func38 rfl 11 Try.ntmps38 (Nat.le_of_ble_eq_true rfl) (Inv.start (D := fun _ => none) (by intro _ _ h; cases h)) ?_
  refine WC.seq ?_
  refine WC.ofFr [(0, _)] ⟨rfl, trivial⟩ ?_
  refine WC.region ?_
  refine WL.so (SO.box rfl rfl) rfl ?_
  rintro _ _ _ ⟨b1, hb1, rfl, rfl, rfl⟩ -- NEW
  refine WL.yd (Yd.assign rfl) rfl ?_
  refine WL.nil ?_
  refine WP.thenC ?_
  refine WC.seq ?_
  refine WC.ofFr [(2, _), (1, _)] ⟨rfl, rfl, trivial⟩ ?_
  refine WC.region ?_
  refine WL.yd (Yd.fieldAddr FA27_1 rfl) rfl ?_
  refine WL.yd (Yd.load1 Try.isAgg24 rfl (by first | exact Rd.own (k := 0) rfl rfl)) rfl ?_
  refine WL.yd (Yd.lenS rfl Try.underlying24 rfl) rfl ?_
  refine WL.yd (Yd.fieldAddr FA27_2 rfl) rfl ?_
  refine WL.yd (Yd.load1 Try.isAgg25 rfl (by first | exact Rd.own (k := 0) rfl rfl)) rfl ?_
  refine WL.yd (Yd.lenS rfl Try.underlying25 rfl) rfl ?_
  refine WL.yd (Yd.max2 rfl rfl) rfl ?_
  refine WL.yd (Yd.gtr rfl rfl) rfl ?_
  refine WL.yd (Yd.assign rfl) rfl ?_
  refine WL.nil ?_
  refine WP.thenC ?_
  refine WC.ret ?_
  refine WP.ret1 rfl rfl Try.results38 (RV.tmp rfl) (fun w hI => ⟨rfl, hI.keep⟩)

set_option maxRecDepth 100000 in
set_option maxHeartbeats 1000000 in
theorem rin_g (n lo hi : Int) (w : World) : Gives Try.prog 96 [it n, it lo, it hi] w (.bool (inB n lo hi)) := by
  unfold Gives
  refine enter Try.func96 rfl 15 Try.ntmps96 (Nat.le_of_ble_eq_true rfl) (Inv.start (D := fun _ => none) (by intro _ _ h; cases h)) ?_
  refine WC.seq ?_
  refine WC.ofFr [(0, _), (1, _), (2, _)] ⟨rfl, rfl, rfl, trivial⟩ ?_
  refine WC.region ?_
  refine WL.yd (Yd.assign rfl) rfl ?_
  refine WL.nil ?_
  refine WP.thenC ?_
  refine WC.seq ?_
  refine WC.ofFr [(6, _), (0, _), (1, _), (2, _)] ⟨rfl, rfl, rfl, rfl, trivial⟩ ?_
  refine WC.region ?_
  refine WL.yd (Yd.move rfl) rfl ?_
  refine WL.yd (Yd.move rfl) rfl ?_
  refine WL.yd (Yd.leq rfl rfl) rfl ?_
  refine WL.yd (Yd.move rfl) rfl ?_
  refine WL.part 10 rfl (fun g10 => ?_) (fun g10 => ?_)
  · try simp only [zq1, zq2, zq3, zq4, zq5, zq6, zq7, zq8] at g10
    refine WL.ydg rfl (Yd.move rfl) rfl ?_
    refine WL.ydg rfl (Yd.move rfl) rfl ?_
    refine WL.ydg rfl (Yd.leq rfl rfl) rfl ?_
    refine WL.yd (Yd.pickT rfl rfl) rfl ?_
    refine WL.yd (Yd.assign rfl) rfl ?_
    refine WL.nil ?_
    refine WP.thenC ?_
    refine WC.ret ?_
    refine WP.ret1 rfl rfl Try.results96 (RV.tmp rfl) (fun w hI => ⟨ret_bool (by rw [Bool.eq_iff_iff]; simp [inB]; omega), hI.keep⟩)
  · try simp only [zq1, zq2, zq3, zq4, zq5, zq6, zq7, zq8] at g10
    refine WL.skip rfl rfl ?_
    refine WL.skip rfl rfl ?_
    refine WL.skip rfl rfl ?_
    refine WL.yd (Yd.pickF rfl rfl) rfl ?_
    refine WL.yd (Yd.assign rfl) rfl ?_
    refine WL.nil ?_
    refine WP.thenC ?_
    refine WC.ret ?_
    refine WP.ret1 rfl rfl Try.results96 (RV.tmp rfl) (fun w hI => ⟨ret_bool (by rw [Bool.eq_iff_iff]; simp [inB]; omega), hI.keep⟩)

set_option maxRecDepth 100000 in
set_option maxHeartbeats 1000000 in
theorem rspan_g (s : Sp) (w : World) : Gives Try.prog 89 [.agg #[it s.lo, it s.hi]] w (.bool (spanP s)) := by
  unfold Gives
  refine enter Try.func89 rfl 18 Try.ntmps89 (Nat.le_of_ble_eq_true rfl) (Inv.start (D := fun _ => none) (by intro _ _ h; cases h)) ?_
  refine WC.seq ?_
  refine WC.ofFr [(0, _)] ⟨rfl, trivial⟩ ?_
  refine WC.region ?_
  refine WL.so (SO.box rfl rfl) rfl ?_
  rintro _ _ _ ⟨b1, hb1, rfl, rfl, rfl⟩ -- NEW
  refine WL.yd (Yd.assign rfl) rfl ?_
  refine WL.nil ?_
  refine WP.thenC ?_
  refine WC.seq ?_
  refine WC.ofFr [(2, _), (1, _)] ⟨rfl, rfl, trivial⟩ ?_
  refine WC.region ?_
  refine WL.yd (Yd.fieldAddr FA23_0 rfl) rfl ?_
  refine WL.yd (Yd.load1 Try.isAgg3 rfl (by first | exact Rd.own (k := 0) rfl rfl)) rfl ?_
  refine WL.yd (Yd.leq rfl rfl) rfl ?_
  refine WL.yd (Yd.move rfl) rfl ?_
  refine WL.part 6 rfl (fun g6 => ?_) (fun g6 => ?_)
  · try simp only [zq1, zq2, zq3, zq4, zq5, zq6, zq7, zq8] at g6
    refine WL.ydg rfl (Yd.fieldAddr FA23_0 rfl) rfl ?_
    refine WL.ydg rfl (Yd.load1 Try.isAgg3 rfl (by first | exact Rd.own (k := 0) rfl rfl)) rfl ?_
    refine WL.ydg rfl (Yd.fieldAddr FA23_1 rfl) rfl ?_
    refine WL.ydg rfl (Yd.load1 Try.isAgg3 rfl (by first | exact Rd.own (k := 0) rfl rfl)) rfl ?_
    refine WL.ydg rfl (Yd.leq rfl rfl) rfl ?_
    refine WL.yd (Yd.pickT rfl rfl) rfl ?_
    refine WL.yd (Yd.move rfl) rfl ?_
    refine WL.part 13 rfl (fun g13 => ?_) (fun g13 => ?_)
    · try simp only [zq1, zq2, zq3, zq4, zq5, zq6, zq7, zq8] at g13
      refine WL.ydg rfl (Yd.fieldAddr FA23_1 rfl) rfl ?_
      refine WL.ydg rfl (Yd.load1 Try.isAgg3 rfl (by first | exact Rd.own (k := 0) rfl rfl)) rfl ?_
      refine WL.ydg rfl (Yd.leq rfl rfl) rfl ?_
      refine WL.yd (Yd.pickT rfl rfl) rfl ?_
      refine WL.yd (Yd.assign rfl) rfl ?_
      refine WL.nil ?_
      refine WP.thenC ?_
      refine WC.ret ?_
      refine WP.ret1 rfl rfl Try.results89 (RV.tmp rfl) (fun w hI => ⟨ret_bool (by rw [Bool.eq_iff_iff]; simp_all [spanP]; try omega), hI.keep⟩)
    · try simp only [zq1, zq2, zq3, zq4, zq5, zq6, zq7, zq8] at g13
      refine WL.skip rfl rfl ?_
      refine WL.skip rfl rfl ?_
      refine WL.skip rfl rfl ?_
      refine WL.yd (Yd.pickF rfl rfl) rfl ?_
      refine WL.yd (Yd.assign rfl) rfl ?_
      refine WL.nil ?_
      refine WP.thenC ?_
      refine WC.ret ?_
      refine WP.ret1 rfl rfl Try.results89 (RV.tmp rfl) (fun w hI => ⟨ret_bool (by rw [Bool.eq_iff_iff]; simp_all [spanP]; try omega), hI.keep⟩)
  · try simp only [zq1, zq2, zq3, zq4, zq5, zq6, zq7, zq8] at g6
    refine WL.skip rfl rfl ?_
    refine WL.skip rfl rfl ?_
    refine WL.skip rfl rfl ?_
    refine WL.skip rfl rfl ?_
    refine WL.skip rfl rfl ?_
    refine WL.yd (Yd.pickF rfl rfl) rfl ?_
    refine WL.yd (Yd.move rfl) rfl ?_
    refine WL.skip rfl rfl ?_
    refine WL.skip rfl rfl ?_
    refine WL.skip rfl rfl ?_
    refine WL.yd (Yd.pickF rfl rfl) rfl ?_
    refine WL.yd (Yd.assign rfl) rfl ?_
    refine WL.nil ?_
    refine WP.thenC ?_
    refine WC.ret ?_
    refine WP.ret1 rfl rfl Try.results89 (RV.tmp rfl) (fun w hI => ⟨ret_bool (by rw [Bool.eq_iff_iff]; simp_all [spanP]; try omega), hI.keep⟩)

set_option maxRecDepth 100000 in
set_option maxHeartbeats 1000000 in
theorem rwho_g (p : Post) (a1 : Option Addr) (n1 c1 : Nat) (a2 : Option Addr) (n2 c2 : Nat) (n : Int) (w : World) (hn : n1 = p.bathers.length) (hl : n1 ≤ 1000) : Gives Try.prog 53 [.agg #[it p.post.lo, it p.post.hi, .slice a1 n1 c1, .slice a2 n2 c2], it n] w (.bool (whoP p n)) := by
  unfold Gives
  subst hn
  refine enter Try.func53 rfl 11 Try.ntmps53 (Nat.le_of_ble_eq_true rfl) (Inv.start (D := fun _ => none) (by intro _ _ h; cases h)) ?_
  refine WC.seq ?_
  refine WC.ofFr [(0, _), (1, _)] ⟨rfl, rfl, trivial⟩ ?_
  refine WC.region ?_
  refine WL.so (SO.box rfl rfl) rfl ?_
  rintro _ _ _ ⟨b2, hb2, rfl, rfl, rfl⟩ -- NEW
  refine WL.yd (Yd.assign rfl) rfl ?_
  refine WL.nil ?_
  refine WP.thenC ?_
  refine WC.seq ?_
  refine WC.ofFr [(4, _), (2, _), (1, _)] ⟨rfl, rfl, rfl, trivial⟩ ?_
  refine WC.region ?_
  refine WL.yd (Yd.move rfl) rfl ?_
  refine WL.yd (Yd.fieldAddr FA27_1 rfl) rfl ?_
  refine WL.yd (Yd.load1 Try.isAgg24 rfl (by first | exact Rd.own (k := 0) rfl rfl)) rfl ?_
  refine WL.yd (Yd.lenS rfl Try.underlying24 rfl) rfl ?_
  refine WL.yd (Yd.sub rfl rfl (wr64 ⟨by omega, by omega⟩)) rfl ?_
  refine WL.so (SO.callP Try.call96 rfl (fun w hI => rin_g n (-1) ((p.bathers.length : Int) - 1) _)) rfl ?_
  rintro _ _ _ ⟨rfl, rfl, rfl⟩
  refine WL.yd (Yd.assign rfl) rfl ?_
  refine WL.nil ?_
  refine WP.thenC ?_
  refine WC.ret ?_
  refine WP.ret1 rfl rfl Try.results53 (RV.tmp rfl) (fun w hI => ⟨rfl, hI.keep⟩)

set_option maxRecDepth 100000 in
set_option maxHeartbeats 1000000 in
theorem rpost_g (p : Post) (a1 : Option Addr) (n1 c1 : Nat) (a2 : Option Addr) (n2 c2 : Nat) (D : Imm) (w : World) (hR : PostR D p a1 n1 a2 n2) (hH : Holds D w) : Gives Try.prog 39 [.agg #[it p.post.lo, it p.post.hi, .slice a1 n1 c1, .slice a2 n2 c2]] w (.bool (postB p)) := by
  unfold Gives
  obtain rfl := hR.bath.len'
  obtain rfl := hR.claim.len'
  have hl1 := hR.len1
  have hl2 := hR.len2
  refine enter Try.func39 rfl 63 Try.ntmps39 (Nat.le_of_ble_eq_true rfl) (Inv.start hH) ?_
  refine WC.seq ?_
  refine WC.ofFr [(0, _)] ⟨rfl, trivial⟩ ?_
  refine WC.region ?_
  refine WL.so (SO.box rfl rfl) rfl ?_
  rintro _ _ _ ⟨b1, hb1, rfl, rfl, rfl⟩ -- NEW
  refine WL.yd (Yd.assign rfl) rfl ?_
  refine WL.nil ?_
  refine WP.thenC ?_
  refine WC.seq ?_
  refine WC.seq ?_
  refine WC.ofFr [(2, _), (1, _)] ⟨rfl, rfl, trivial⟩ ?_
  refine WC.region ?_
  refine WL.yd (Yd.fieldAddr FA27_0 rfl) rfl ?_
  refine WL.yd (Yd.loadN Try.isAgg23 Try.sizeOf23 rfl (vs := [_, _]) rfl (by first | exact RdN.own (k := 0) (n := 2) rfl rfl | exact (hR.bath.at k (by omega)).rdn 1 2 rfl)) rfl ?_
  refine WL.so (SO.callP Try.call89 rfl (fun w hI => rspan_g ⟨_, _⟩ _)) rfl ?_
  rintro _ _ _ ⟨rfl, rfl, rfl⟩
  refine WL.yd (Yd.not rfl) rfl ?_
  refine WL.yd (Yd.move rfl) rfl ?_
  refine WL.part 9 rfl (fun g9 => ?_) (fun g9 => ?_)
  · try simp only [zq1, zq2, zq3, zq4, zq5, zq6, zq7, zq8] at g9
    refine WL.skip rfl rfl ?_
    refine WL.skip rfl rfl ?_
    refine WL.skip rfl rfl ?_
    refine WL.skip rfl rfl ?_
    refine WL.yd (Yd.pickT rfl rfl) rfl ?_
    refine WL.yd (Yd.move rfl) rfl ?_
    refine WL.skip rfl rfl ?_
    refine WL.skip rfl rfl ?_
    refine WL.skip rfl rfl ?_
    refine WL.skip rfl rfl ?_
    refine WL.yd (Yd.pickT rfl rfl) rfl ?_
    refine WL.nil ?_
    refine WP.thenC ?_
    refine WC.condT rfl ?_
    refine WC.seq ?_
    refine WC.ofFr [(2, _), (1, _)] ⟨rfl, rfl, trivial⟩ ?_
    refine WC.region ?_
    refine WL.yd (Yd.assign rfl) rfl ?_
    refine WL.nil ?_
    refine WP.thenC ?_
    refine WC.ret ?_
    refine WP.thenRet ?_
    refine WP.ret1 rfl rfl Try.results39 (RV.tmp rfl) (fun w hI => ⟨ret_bool (by
      first
      | exact ((postB_iff p).2 ⟨g9, by omega, by omega, hd2, fun i hi => hd i (by omega)⟩).symm
      | (have hno : postB p = false := by
          cases hdb : postB p with
          | false => rfl
          | true =>
            exfalso
            obtain ⟨h1, h2, h3, h4, h5⟩ := (postB_iff p).1 hdb
            first | omega | (rw [h1] at g9; cases g9; done) | (have := h4 k (by omega); simp_all; done) | (have := h5 k (by omega); simp_all [claimP]; done)
         exact hno.symm)), hI.keep⟩)
  · try simp only [zq1, zq2, zq3, zq4, zq5, zq6, zq7, zq8] at g9
    refine WL.ydg rfl (Yd.fieldAddr FA27_1 rfl) rfl ?_
    refine WL.ydg rfl (Yd.load1 Try.isAgg24 rfl (by first | exact Rd.own (k := 0) rfl rfl | exact ((hR.claim.at k (by omega)).rd 0 rfl) | exact ((hR.claim.at k (by omega)).rd 1 rfl))) rfl ?_
    refine WL.ydg rfl (Yd.lenS rfl Try.underlying24 rfl) rfl ?_
    refine WL.ydg rfl (Yd.gtr rfl rfl) rfl ?_
    refine WL.yd (Yd.pickF rfl rfl) rfl ?_
    refine WL.yd (Yd.move rfl) rfl ?_
    refine WL.part 15 rfl (fun g15 => ?_) (fun g15 => ?_)
    · try simp only [zq1, zq2, zq3, zq4, zq5, zq6, zq7, zq8] at g15
      refine WL.skip rfl rfl ?_
      refine WL.skip rfl rfl ?_
      refine WL.skip rfl rfl ?_
      refine WL.skip rfl rfl ?_
      refine WL.yd (Yd.pickT rfl rfl) rfl ?_
      refine WL.nil ?_
      refine WP.thenC ?_
      refine WC.condT rfl ?_
      refine WC.seq ?_
      refine WC.ofFr [(2, _), (1, _)] ⟨rfl, rfl, trivial⟩ ?_
      refine WC.region ?_
      refine WL.yd (Yd.assign rfl) rfl ?_
      refine WL.nil ?_
      refine WP.thenC ?_
      refine WC.ret ?_
      refine WP.thenRet ?_
      refine WP.ret1 rfl rfl Try.results39 (RV.tmp rfl) (fun w hI => ⟨ret_bool (by
        first
        | exact ((postB_iff p).2 ⟨g9, by omega, by omega, hd2, fun i hi => hd i (by omega)⟩).symm
        | (have hno : postB p = false := by
            cases hdb : postB p with
            | false => rfl
            | true =>
              exfalso
              obtain ⟨h1, h2, h3, h4, h5⟩ := (postB_iff p).1 hdb
              first | omega | (rw [h1] at g9; cases g9; done) | (have := h4 k (by omega); simp_all; done) | (have := h5 k (by omega); simp_all [claimP]; done)
           exact hno.symm)), hI.keep⟩)
    · try simp only [zq1, zq2, zq3, zq4, zq5, zq6, zq7, zq8] at g15
      refine WL.ydg rfl (Yd.fieldAddr FA27_2 rfl) rfl ?_
      refine WL.ydg rfl (Yd.load1 Try.isAgg25 rfl (by first | exact Rd.own (k := 0) rfl rfl | exact ((hR.claim.at k (by omega)).rd 0 rfl) | exact ((hR.claim.at k (by omega)).rd 1 rfl))) rfl ?_
      refine WL.ydg rfl (Yd.lenS rfl Try.underlying25 rfl) rfl ?_
      refine WL.ydg rfl (Yd.gtr rfl rfl) rfl ?_
      refine WL.yd (Yd.pickF rfl rfl) rfl ?_
      refine WL.nil ?_
      refine WP.thenC ?_
      refine WC.cond rfl (fun c20 => ?_) (fun c20 => ?_)
      · try simp only [zq1, zq2, zq3, zq4, zq5, zq6, zq7, zq8] at c20
        refine WC.seq ?_
        refine WC.ofFr [(2, _), (1, _)] ⟨rfl, rfl, trivial⟩ ?_
        refine WC.region ?_
        refine WL.yd (Yd.assign rfl) rfl ?_
        refine WL.nil ?_
        refine WP.thenC ?_
        refine WC.ret ?_
        refine WP.thenRet ?_
        refine WP.ret1 rfl rfl Try.results39 (RV.tmp rfl) (fun w hI => ⟨ret_bool (by
          first
          | exact ((postB_iff p).2 ⟨g9, by omega, by omega, hd2, fun i hi => hd i (by omega)⟩).symm
          | (have hno : postB p = false := by
              cases hdb : postB p with
              | false => rfl
              | true =>
                exfalso
                obtain ⟨h1, h2, h3, h4, h5⟩ := (postB_iff p).1 hdb
                first | omega | (rw [h1] at g9; cases g9; done) | (have := h4 k (by omega); simp_all; done) | (have := h5 k (by omega); simp_all [claimP]; done)
             exact hno.symm)), hI.keep⟩)
      · try simp only [zq1, zq2, zq3, zq4, zq5, zq6, zq7, zq8] at c20
        refine WC.skip ?_
        refine WP.thenC ?_
        refine WC.seq ?_
        refine WC.seq ?_
        refine WC.ofFr [(2, _), (1, _)] ⟨rfl, rfl, trivial⟩ ?_
        refine WC.region ?_
        refine WL.yd (Yd.assign rfl) rfl ?_
        refine WL.nil ?_
        refine WP.thenC ?_
        refine WC.block ?_
        refine WC.loopF (fun k : Nat => [(1, pt b1), (3, nt k)]) (fun k => k ≤ p.bathers.length ∧ ∀ i, i < k → spanP (gt p.bathers i).place = true) (fun k => p.bathers.length - k) 0 ⟨by omega, by intro i hi; omega⟩ (by exact ⟨rfl, rfl, trivial⟩) ?_
        intro k ⟨hk, hd⟩
        refine WC.seq ?_
        refine WC.seq ?_
        refine WC.ofFr [(1, _), (3, _)] ⟨rfl, rfl, trivial⟩ ?_
        refine WC.region ?_
        refine WL.yd (Yd.move rfl) rfl ?_
        refine WL.yd (Yd.fieldAddr FA27_1 rfl) rfl ?_
        refine WL.yd (Yd.load1 Try.isAgg24 rfl (by first | exact Rd.own (k := 0) rfl rfl | exact ((hR.claim.at k (by omega)).rd 0 rfl) | exact ((hR.claim.at k (by omega)).rd 1 rfl))) rfl ?_
        refine WL.yd (Yd.lenS rfl Try.underlying24 rfl) rfl ?_
        refine WL.yd (Yd.lss rfl rfl) rfl ?_
        refine WL.nil ?_
        refine WP.thenC ?_
        refine WC.cond rfl (fun c25 => ?_) (fun c25 => ?_)
        · try simp only [zq1, zq2, zq3, zq4, zq5, zq6, zq7, zq8] at c25
          refine WC.skip ?_
          refine WP.thenC ?_
          refine WC.seq ?_
          refine WC.block ?_
          refine WC.seq ?_
          refine WC.ofFr [(1, _), (3, _)] ⟨rfl, rfl, trivial⟩ ?_
          refine WC.region ?_
          refine WL.yd (Yd.fieldAddr FA27_1 rfl) rfl ?_
          refine WL.yd (Yd.load1 Try.isAgg24 rfl (by first | exact Rd.own (k := 0) rfl rfl | exact ((hR.claim.at k (by omega)).rd 0 rfl) | exact ((hR.claim.at k (by omega)).rd 1 rfl))) rfl ?_
          refine WL.yd (Yd.move rfl) rfl ?_
          refine WL.yd (Yd.indexS Try.underlying24 Try.sizeOf56 rfl rfl (by omega) (by omega) (by first | exact hR.bath.addr k (by omega))) rfl ?_
          refine WL.yd (Yd.fieldAddr FA56_1 rfl) rfl ?_
          refine WL.yd (Yd.loadN Try.isAgg23 Try.sizeOf23 rfl (vs := [_, _]) rfl (by first | exact RdN.own (k := 0) (n := 2) rfl rfl | exact (hR.bath.at k (by omega)).rdn 1 2 rfl)) rfl ?_
          refine WL.so (SO.callP Try.call89 rfl (fun w hI => rspan_g ⟨_, _⟩ _)) rfl ?_
          rintro _ _ _ ⟨rfl, rfl, rfl⟩
          refine WL.yd (Yd.not rfl) rfl ?_
          refine WL.nil ?_
          refine WP.thenC ?_
          refine WC.cond rfl (fun c35 => ?_) (fun c35 => ?_)
          · try simp only [zq1, zq2, zq3, zq4, zq5, zq6, zq7, zq8] at c35
            refine WC.seq ?_
            refine WC.ofFr [(1, _), (3, _)] ⟨rfl, rfl, trivial⟩ ?_
            refine WC.region ?_
            refine WL.yd (Yd.assign rfl) rfl ?_
            refine WL.nil ?_
            refine WP.thenC ?_
            refine WC.ret ?_
            refine WP.blkRet ?_
            refine WP.thenRet ?_
            refine WP.thenRet ?_
            refine WP.blkRet ?_
            refine WP.thenRet ?_
            refine WP.ret1 rfl rfl Try.results39 (RV.tmp rfl) (fun w hI => ⟨ret_bool (by
              first
              | exact ((postB_iff p).2 ⟨g9, by omega, by omega, hd2, fun i hi => hd i (by omega)⟩).symm
              | (have hno : postB p = false := by
                  cases hdb : postB p with
                  | false => rfl
                  | true =>
                    exfalso
                    obtain ⟨h1, h2, h3, h4, h5⟩ := (postB_iff p).1 hdb
                    first | omega | (rw [h1] at g9; cases g9; done) | (have := h4 k (by omega); simp_all; done) | (have := h5 k (by omega); simp_all [claimP]; done)
                 exact hno.symm)), hI.keep⟩)
          · try simp only [zq1, zq2, zq3, zq4, zq5, zq6, zq7, zq8] at c35
            refine WC.skip ?_
            refine WP.blkNormal ?_
            refine WP.thenC ?_
            refine WC.ofFr [(1, _), (3, _)] ⟨rfl, rfl, trivial⟩ ?_
            refine WC.region ?_
            refine WL.yd (Yd.move rfl) rfl ?_
            refine WL.yd (Yd.add rfl rfl (wr64 ⟨by omega, by omega⟩)) rfl ?_
            refine WL.yd (Yd.assign rfl) rfl ?_
            refine WL.nil ?_
            exact WP.againF (k + 1) ⟨by omega, ext_round hd (by assumption)⟩ (by omega) ⟨rfl, rfl, trivial⟩ (fun _ h => h) (fun h => h)
        · try simp only [zq1, zq2, zq3, zq4, zq5, zq6, zq7, zq8] at c25
          refine WC.exit ?_
          refine WP.thenExit ?_
          refine WP.thenExit ?_
          refine WP.blkHit ?_
          refine WP.thenC ?_
          refine WC.seq ?_
          refine WC.seq ?_
          refine WC.ofFr [(1, _)] ⟨rfl, trivial⟩ ?_
          refine WC.region ?_
          refine WL.yd (Yd.assign rfl) rfl ?_
          refine WL.nil ?_
          refine WP.thenC ?_
          refine WC.block ?_
          have hd2 : ∀ i, i < p.bathers.length → spanP (gt p.bathers i).place = true := fun i hi => hd i (by omega)
          clear hd hk c25 k
          refine WC.loopF (fun k : Nat => [(1, pt b1), (4, nt k)]) (fun k => k ≤ p.claims.length ∧ ∀ i, i < k → claimP p (gt p.claims i) = true) (fun k => p.claims.length - k) 0 ⟨by omega, by intro i hi; omega⟩ (by exact ⟨rfl, rfl, trivial⟩) ?_
          intro k ⟨hk, hd⟩
          refine WC.seq ?_
          refine WC.seq ?_
          refine WC.ofFr [(1, _), (4, _)] ⟨rfl, rfl, trivial⟩ ?_
          refine WC.region ?_
          refine WL.yd (Yd.move rfl) rfl ?_
          refine WL.yd (Yd.fieldAddr FA27_2 rfl) rfl ?_
          refine WL.yd (Yd.load1 Try.isAgg25 rfl (by first | exact Rd.own (k := 0) rfl rfl | exact ((hR.claim.at k (by omega)).rd 0 rfl) | exact ((hR.claim.at k (by omega)).rd 1 rfl))) rfl ?_
          refine WL.yd (Yd.lenS rfl Try.underlying25 rfl) rfl ?_
          refine WL.yd (Yd.lss rfl rfl) rfl ?_
          refine WL.nil ?_
          refine WP.thenC ?_
          refine WC.cond rfl (fun c40 => ?_) (fun c40 => ?_)
          · try simp only [zq1, zq2, zq3, zq4, zq5, zq6, zq7, zq8] at c40
            refine WC.skip ?_
            refine WP.thenC ?_
            refine WC.seq ?_
            refine WC.block ?_
            refine WC.seq ?_
            refine WC.ofFr [(1, _), (4, _)] ⟨rfl, rfl, trivial⟩ ?_
            refine WC.tail 17 [0, 1, 2, 3, 4, 5, 6, 7, 8, 9, 10, 11, 12, 13, 14, 15, 16] rfl (by kernel_rfl) (by kernel_rfl)  ?_
            refine WQ.q rfl (Yd.qt (Yd.loadN Try.isAgg27 Try.sizeOf27 rfl (vs := [_, _, _, _]) rfl (by first | exact RdN.own (k := 0) (n := 4) rfl rfl | exact (hR.bath.at k (by omega)).rdn 1 2 rfl))) rfl ?_
            refine WQ.q rfl (Yd.qt (Yd.fieldAddr FA27_2 rfl)) rfl ?_
            refine WQ.q rfl (Yd.qt (Yd.load1 Try.isAgg25 rfl (by first | exact Rd.own (k := 0) rfl rfl | exact ((hR.claim.at k (by omega)).rd 0 rfl) | exact ((hR.claim.at k (by omega)).rd 1 rfl)))) rfl ?_
            refine WQ.q rfl (Yd.qt (Yd.move rfl)) rfl ?_
            refine WQ.q rfl (Yd.qt (Yd.indexS Try.underlying25 Try.sizeOf47 rfl rfl (by omega) (by omega) (by first | exact hR.claim.addr k (by omega)))) rfl ?_
            refine WQ.q rfl (Yd.qt (Yd.fieldAddr FA47_0 rfl)) rfl ?_
            refine WQ.q rfl (Yd.qt (Yd.load1 Try.isAgg3 rfl ((hR.claim.at k (by omega)).rd 0 rfl))) rfl ?_
            refine WQ.q rfl (Qt.callP Try.call53 rfl (fun w hI => rwho_g p a1 _ c1 a2 _ c2 _ _ rfl hl1)) rfl ?_
            refine WQ.q rfl (Yd.qt (Yd.not rfl)) rfl ?_
            refine WQ.q rfl (Yd.qt (Yd.move rfl)) rfl ?_
            refine WQ.part 52 rfl (fun g52 => ?_) (fun g52 => ?_)
            · try simp only [zq1, zq2, zq3, zq4, zq5, zq6, zq7, zq8] at g52
              refine WQ.skip rfl rfl rfl ?_
              refine WQ.skip rfl rfl rfl ?_
              refine WQ.skip rfl rfl rfl ?_
              refine WQ.skip rfl rfl rfl ?_
              refine WQ.skip rfl rfl rfl ?_
              refine WQ.skip rfl rfl rfl ?_
              refine WQ.skip rfl rfl rfl ?_
              refine WQ.tail ?_
              refine WL.skip rfl rfl ?_
              refine WL.skip rfl rfl ?_
              refine WL.yd (Yd.pickT rfl rfl) rfl ?_
              refine WL.nil ?_
              refine WP.thenC ?_
              refine WC.condT rfl ?_
              refine WC.seq ?_
              refine WC.ofFr [(1, _), (4, _)] ⟨rfl, rfl, trivial⟩ ?_
              refine WC.region ?_
              refine WL.yd (Yd.assign rfl) rfl ?_
              refine WL.nil ?_
              refine WP.thenC ?_
              refine WC.ret ?_
              refine WP.blkRet ?_
              refine WP.thenRet ?_
              refine WP.thenRet ?_
              refine WP.blkRet ?_
              refine WP.thenRet ?_
              refine WP.ret1 rfl rfl Try.results39 (RV.tmp rfl) (fun w hI => ⟨ret_bool (by
                first
                | exact ((postB_iff p).2 ⟨g9, by omega, by omega, hd2, fun i hi => hd i (by omega)⟩).symm
                | (have hno : postB p = false := by
                    cases hdb : postB p with
                    | false => rfl
                    | true =>
                      exfalso
                      obtain ⟨h1, h2, h3, h4, h5⟩ := (postB_iff p).1 hdb
                      first | omega | (rw [h1] at g9; cases g9; done) | (have := h4 k (by omega); simp_all; done) | (have := h5 k (by omega); simp_all [claimP]; done)
                   exact hno.symm)), hI.keep⟩)
            · try simp only [zq1, zq2, zq3, zq4, zq5, zq6, zq7, zq8] at g52
              refine WQ.qg rfl rfl (Yd.qt (Yd.loadN Try.isAgg27 Try.sizeOf27 rfl (vs := [_, _, _, _]) rfl (by first | exact RdN.own (k := 0) (n := 4) rfl rfl | exact (hR.bath.at k (by omega)).rdn 1 2 rfl))) rfl ?_
              refine WQ.qg rfl rfl (Yd.qt (Yd.fieldAddr FA27_2 rfl)) rfl ?_
              refine WQ.qg rfl rfl (Yd.qt (Yd.load1 Try.isAgg25 rfl (by first | exact Rd.own (k := 0) rfl rfl | exact ((hR.claim.at k (by omega)).rd 0 rfl) | exact ((hR.claim.at k (by omega)).rd 1 rfl)))) rfl ?_
              refine WQ.qg rfl rfl (Yd.qt (Yd.move rfl)) rfl ?_
              refine WQ.qg rfl rfl (Yd.qt (Yd.indexS Try.underlying25 Try.sizeOf47 rfl rfl (by omega) (by omega) (by first | exact hR.claim.addr k (by omega)))) rfl ?_
              refine WQ.qg rfl rfl (Yd.qt (Yd.fieldAddr FA47_1 rfl)) rfl ?_
              refine WQ.qg rfl rfl (Yd.qt (Yd.load1 Try.isAgg3 rfl ((hR.claim.at k (by omega)).rd 1 rfl))) rfl ?_
              refine WQ.tail ?_
              refine WL.sog rfl (SO.callP Try.call53 rfl (fun w hI => rwho_g p a1 _ c1 a2 _ c2 _ _ rfl hl1)) rfl ?_
              rintro _ _ _ ⟨rfl, rfl, rfl⟩
              refine WL.ydg rfl (Yd.not rfl) rfl ?_
              refine WL.yd (Yd.pickF rfl rfl) rfl ?_
              refine WL.nil ?_
              refine WP.thenC ?_
              refine WC.cond rfl (fun c62 => ?_) (fun c62 => ?_)
              · try simp only [zq1, zq2, zq3, zq4, zq5, zq6, zq7, zq8] at c62
                refine WC.seq ?_
                refine WC.ofFr [(1, _), (4, _)] ⟨rfl, rfl, trivial⟩ ?_
                refine WC.region ?_
                refine WL.yd (Yd.assign rfl) rfl ?_
                refine WL.nil ?_
                refine WP.thenC ?_
                refine WC.ret ?_
                refine WP.blkRet ?_
                refine WP.thenRet ?_
                refine WP.thenRet ?_
                refine WP.blkRet ?_
                refine WP.thenRet ?_
                refine WP.ret1 rfl rfl Try.results39 (RV.tmp rfl) (fun w hI => ⟨ret_bool (by
                  first
                  | exact ((postB_iff p).2 ⟨g9, by omega, by omega, hd2, fun i hi => hd i (by omega)⟩).symm
                  | (have hno : postB p = false := by
                      cases hdb : postB p with
                      | false => rfl
                      | true =>
                        exfalso
                        obtain ⟨h1, h2, h3, h4, h5⟩ := (postB_iff p).1 hdb
                        first | omega | (rw [h1] at g9; cases g9; done) | (have := h4 k (by omega); simp_all; done) | (have := h5 k (by omega); simp_all [claimP]; done)
                     exact hno.symm)), hI.keep⟩)
              · try simp only [zq1, zq2, zq3, zq4, zq5, zq6, zq7, zq8] at c62
                refine WC.skip ?_
                refine WP.blkNormal ?_
                refine WP.thenC ?_
                refine WC.ofFr [(1, _), (4, _)] ⟨rfl, rfl, trivial⟩ ?_
                refine WC.region ?_
                refine WL.yd (Yd.move rfl) rfl ?_
                refine WL.yd (Yd.add rfl rfl (wr64 ⟨by omega, by omega⟩)) rfl ?_
                refine WL.yd (Yd.assign rfl) rfl ?_
                refine WL.nil ?_
                exact WP.againF (k + 1) ⟨by omega, ext_round hd (by simp_all [claimP])⟩ (by omega) ⟨rfl, rfl, trivial⟩ (fun _ h => h) (fun h => h)
          · try simp only [zq1, zq2, zq3, zq4, zq5, zq6, zq7, zq8] at c40
            refine WC.exit ?_
            refine WP.thenExit ?_
            refine WP.thenExit ?_
            refine WP.blkHit ?_
            refine WP.thenC ?_
            refine WC.seq ?_
            refine WC.ofFr [] trivial ?_
            refine WC.region ?_
            refine WL.yd (Yd.assign rfl) rfl ?_
            refine WL.nil ?_
            refine WP.thenC ?_
            refine WC.ret ?_
            refine WP.ret1 rfl rfl Try.results39 (RV.tmp rfl) (fun w hI => ⟨ret_bool (by
              first
              | exact ((postB_iff p).2 ⟨g9, by omega, by omega, hd2, fun i hi => hd i (by omega)⟩).symm
              | (have hno : postB p = false := by
                  cases hdb : postB p with
                  | false => rfl
                  | true =>
                    exfalso
                    obtain ⟨h1, h2, h3, h4, h5⟩ := (postB_iff p).1 hdb
                    first | omega | (rw [h1] at g9; cases g9; done) | (have := h4 k (by omega); simp_all; done) | (have := h5 k (by omega); simp_all [claimP]; done)
                 exact hno.symm)), hI.keep⟩)

theorem bathC_ones : ∀ x : Bath, ∀ v ∈ bathC x, v.oneCell' = true := fun x v hv => by
  simp only [bathC, List.mem_cons, List.mem_nil_iff, or_false] at hv
  rcases hv with rfl | rfl | rfl <;> rfl
theorem claims_snoc {D : Imm} {b : Nat} {l : List PClaim} {c : PClaim} {rest : List Value} {fz : Nat × Nat} (h : D b = some (.cells (List.toArray ((l.flatMap claimC ++ claimC c) ++ rest)) 47 fz)) : SlL D 3 ((l ++ [c]).map claimC) (some ⟨b, 0, none⟩) (l.length + 1) := by
  have e : l.flatMap claimC ++ claimC c = (l ++ [c]).flatMap claimC := by rw [List.flatMap_append]; simp
  rw [e] at h
  have := SlL.ofBlock (f := claimC) (l := l ++ [c]) (rest := rest) claimC_len h
  rwa [List.length_append] at this
theorem bath_splice (l : List Bath) (rest : List Value) {i : Nat} (hi : i < l.length) (k : Int) : splice (l.flatMap bathC ++ rest) (0 + i * 3 + 1) [it k, it k] = (l.set i ⟨(gt l i).lady, ⟨k, k⟩⟩).flatMap bathC ++ rest := by
  have h0 := flat_cell bathC_len l rest (i := i) (j := 0) hi (by omega)
  rw [splice_step (v := .bool (gt l i).lady) h0]
  exact splice_row bathC_len ⟨(gt l i).lady, ⟨k, k⟩⟩ rest l i hi

set_option maxRecDepth 100000 in
set_option maxHeartbeats 1000000 in
theorem with_g (p : Post) (a1 : Option Addr) (n1 c1 : Nat) (a2 : Option Addr) (n2 c2 : Nat) (D : Imm) (w : World) (hR : PostR D p a1 n1 a2 n2) (hH : Holds D w) (c : PClaim) : Makes Try.prog 41 [.agg #[it p.post.lo, it p.post.hi, .slice a1 n1 c1, .slice a2 n2 c2], .agg #[it c.a, it c.b, .bool c.not]] w D (fun v D' => ∃ a c', v = .agg #[it p.post.lo, it p.post.hi, .slice a1 n1 c1, .slice a (n2 + 1) c'] ∧ (n2 ≤ 900 → PostR D' (withP p c) a1 n1 a (n2 + 1))) := by
  unfold Makes
  obtain rfl := hR.bath.len'
  obtain rfl := hR.claim.len'
  have hl1 := hR.len1
  have hl2 := hR.len2
  refine enter Try.func41 rfl 14 Try.ntmps41 (Nat.le_of_ble_eq_true rfl) (Inv.start hH) ?_
  refine WC.seq ?_
  refine WC.ofFr [(0, _), (1, _)] ⟨rfl, rfl, trivial⟩ ?_
  refine WC.region ?_
  refine WL.so (SO.box rfl rfl) rfl ?_
  rintro _ _ _ ⟨b2, hb2, rfl, rfl, rfl⟩ -- NEW
  refine WL.so (SO.box rfl rfl) rfl ?_
  rintro _ _ _ ⟨b3, hb3, rfl, rfl, rfl⟩ -- NEW
  refine WL.so (SO.alloc Try.zeroValue27 rfl) rfl ?_
  rintro _ _ _ ⟨b4, hb4, rfl, rfl, rfl⟩ -- NEW
  refine WL.nil ?_
  refine WP.thenC ?_
  refine WC.seq ?_
  refine WC.ofFr [(4, _), (3, _), (2, _)] ⟨rfl, rfl, rfl, trivial⟩ ?_
  refine WC.drawH [(b3, .cells (List.toArray [it c.a, it c.b, .bool c.not]) 47 (0, 0))] (by kernel_rfl) (fun _ hI => Inv.pick 1 rfl hI) ?_
  refine WH.yd (i := 1) (by kernel_rfl) (fun _ o v c a w _ h => (QuietPanic.then QuietPanic.body) c o.dst v a w h) rfl (Yd.fieldAddr FA27_2 rfl) rfl ?_
  refine WH.yd (i := 4) (by kernel_rfl) (fun _ o v c a w _ h => (QuietPanic.then QuietPanic.body) c o.dst v a w h) rfl (Yd.loadN Try.isAgg47 Try.sizeOf47 rfl (vs := [_, _, _]) rfl (by first | exact RdN.own (k := 0) (n := 3) rfl rfl | exact RdN.own (k := 1) (n := 3) rfl rfl | exact RdN.own (k := 2) (n := 3) rfl rfl)) rfl ?_
  refine WH.three (i := 0) (j := 2) (k := 5) (by kernel_rfl) ?_ ?_ ?_
  · refine WHo.so rfl (SO.buildSlice0 Try.underlying25 Try.sizeOf47) rfl ?_
    rintro _ _ _ ⟨b5, hb5, rfl, rfl, rfl⟩ -- NEW
    refine ⟨(fun _ hI => Inv.pick 2 rfl hI), ?_⟩
    refine WH.two (i := 2) (j := 5) (by kernel_rfl) ?_ ?_
    · refine WHo.yd rfl (Yd.load1 Try.isAgg25 rfl (by first | exact Rd.own (k := 0) rfl rfl | exact Rd.own (k := 1) rfl rfl | exact Rd.own (k := 2) rfl rfl | exact Rd.own (k := 3) rfl rfl)) rfl ?_
      refine WH.two (i := 3) (j := 5) (by kernel_rfl) ?_ ?_
      · refine WHo.so rfl (SO.appendAll (f := claimC) (l := p.claims) (m := 3) claimC_len claimC_ones [] _ rfl rfl Try.underlying25 Try.sizeOf47 Try.typeInfo47 Try.zeroValue47 rfl rfl rfl rfl hb5 hR.claim (by show (2 * (_ + _) + 1000) * 24 ≤ 2 ^ 48; omega) (by omega)) rfl ?_
        rintro _ _ _ ⟨u1, hu1, rfl, rfl, rfl⟩
        refine ⟨(fun _ hI => Inv.pick 2 rfl hI), ?_⟩
        refine WH.one (i := 5) (by kernel_rfl) (WHo.so rfl (SO.buildSlice Try.underlying25 Try.sizeOf47 Try.zeroValue47 rfl rfl rfl rfl (cs := [_, _, _]) rfl) rfl ?_)
        rintro _ _ _ ⟨b10, hb10, rfl, rfl, rfl⟩ -- NEW
        refine ⟨(fun _ hI => Inv.pick 3 rfl hI), ?_⟩
        refine WH.one (i := 6) (by kernel_rfl) (WHo.so rfl (SO.appendOw (o := some u1) (len := p.claims.length) (n := 1) (xs := p.claims.flatMap claimC) (size := 3) [] [_] _ rfl rfl Try.underlying25 Try.sizeOf47 Try.typeInfo47 Try.zeroValue47 rfl rfl rfl rfl ⟨rfl, .inr ⟨_, _, _, rfl, RdN.own (k := 0) (n := 3) rfl rfl⟩⟩ (oneB_spec rfl) hu1 (flat_len claimC_len _) (by omega) (by show (2 * (_ + _) + 1000) * 24 ≤ 2 ^ 48; omega) (by omega)) rfl ?_)
        rintro _ _ _ ⟨u2, hu2, rfl, rfl, rfl⟩
        refine ⟨(fun _ hI => Inv.pick 3 rfl hI), ?_⟩
        refine WH.yd (i := 7) (by kernel_rfl) (fun _ o v c a w _ h => (QuietPanic.then QuietPanic.body) c o.dst v a w h) rfl (Yd.fieldAddr FA27_2 rfl) rfl ?_
        refine WH.one (i := 8) (by kernel_rfl) (WHo.so rfl (SO.store 4 rfl Try.sizeOf25 rfl rfl rfl rfl (Nat.le_of_ble_eq_true rfl) (oneB_spec rfl)) rfl ?_)
        rintro _ _ _ ⟨rfl, rfl, rfl⟩
        refine ⟨(fun _ hI => Inv.pick 3 rfl hI), ?_⟩
        refine WH.nil (by kernel_rfl) ?_
        refine WP.thenC ?_
        refine WC.seq ?_
        refine WC.freezeK 1 rfl (fun hn2 => ?_)
        refine WC.ofFr [(4, _), (2, _)] ⟨rfl, rfl, trivial⟩ ?_
        refine WC.region ?_
        refine WL.yd (Yd.loadN Try.isAgg27 Try.sizeOf27 rfl (vs := [_, _, _, _]) rfl (by first | exact RdN.own (k := 0) (n := 4) rfl rfl | exact RdN.own (k := 1) (n := 4) rfl rfl | exact RdN.own (k := 2) (n := 4) rfl rfl | exact RdN.own (k := 3) (n := 4) rfl rfl)) rfl ?_
        refine WL.so (SO.store 1 rfl Try.sizeOf27 rfl rfl rfl rfl (Nat.le_of_ble_eq_true rfl) (oneB_spec rfl)) rfl ?_
        rintro _ _ _ ⟨rfl, rfl, rfl⟩
        refine WL.nil ?_
        refine WP.thenC ?_
        refine WC.ret ?_
        refine WP.ret1 rfl rfl Try.results41 (RV.cellN Try.isAgg27 Try.sizeOf27 rfl (vs := [_, _, _, _]) rfl (by first | exact RdN.own (k := 0) (n := 4) rfl rfl | exact RdN.own (k := 1) (n := 4) rfl rfl | exact RdN.own (k := 2) (n := 4) rfl rfl | exact RdN.own (k := 3) (n := 4) rfl rfl)) (fun w1 hI => ⟨_, _, rfl, hI.keep, hI.imm, (DExt.refl w D).add hn2 hu2.1, some ⟨u2.b, 0, none⟩, u2.cap, rfl, fun h9 => ⟨hR.bath.ext ((DExt.refl w D).add hn2 hu2.1), claims_snoc (Imm.add_self _ _ _), hl1, by omega⟩⟩)
      · refine WHo.so rfl (SO.buildSlice Try.underlying25 Try.sizeOf47 Try.zeroValue47 rfl rfl rfl rfl (cs := [_, _, _]) rfl) rfl ?_
        rintro _ _ _ ⟨b10, hb10, rfl, rfl, rfl⟩ -- NEW
        refine ⟨(fun _ hI => Inv.pick 3 rfl hI), ?_⟩
        refine WH.one (i := 3) (by kernel_rfl) (WHo.so rfl (SO.appendAll (f := claimC) (l := p.claims) (m := 3) claimC_len claimC_ones [_] _ rfl rfl Try.underlying25 Try.sizeOf47 Try.typeInfo47 Try.zeroValue47 rfl rfl rfl rfl hb5 hR.claim (by show (2 * (_ + _) + 1000) * 24 ≤ 2 ^ 48; omega) (by omega)) rfl ?_)
        rintro _ _ _ ⟨u1, hu1, rfl, rfl, rfl⟩
        refine ⟨(fun _ hI => Inv.pick 3 rfl hI), ?_⟩
        refine WH.one (i := 6) (by kernel_rfl) (WHo.so rfl (SO.appendOw (o := some u1) (len := p.claims.length) (n := 1) (xs := p.claims.flatMap claimC) (size := 3) [] [_] _ rfl rfl Try.underlying25 Try.sizeOf47 Try.typeInfo47 Try.zeroValue47 rfl rfl rfl rfl ⟨rfl, .inr ⟨_, _, _, rfl, RdN.own (k := 0) (n := 3) rfl rfl⟩⟩ (oneB_spec rfl) hu1 (flat_len claimC_len _) (by omega) (by show (2 * (_ + _) + 1000) * 24 ≤ 2 ^ 48; omega) (by omega)) rfl ?_)
        rintro _ _ _ ⟨u2, hu2, rfl, rfl, rfl⟩
        refine ⟨(fun _ hI => Inv.pick 3 rfl hI), ?_⟩
        refine WH.yd (i := 7) (by kernel_rfl) (fun _ o v c a w _ h => (QuietPanic.then QuietPanic.body) c o.dst v a w h) rfl (Yd.fieldAddr FA27_2 rfl) rfl ?_
        refine WH.one (i := 8) (by kernel_rfl) (WHo.so rfl (SO.store 4 rfl Try.sizeOf25 rfl rfl rfl rfl (Nat.le_of_ble_eq_true rfl) (oneB_spec rfl)) rfl ?_)
        rintro _ _ _ ⟨rfl, rfl, rfl⟩
        refine ⟨(fun _ hI => Inv.pick 3 rfl hI), ?_⟩
        refine WH.nil (by kernel_rfl) ?_
        refine WP.thenC ?_
        refine WC.seq ?_
        refine WC.freezeK 1 rfl (fun hn2 => ?_)
        refine WC.ofFr [(4, _), (2, _)] ⟨rfl, rfl, trivial⟩ ?_
        refine WC.region ?_
        refine WL.yd (Yd.loadN Try.isAgg27 Try.sizeOf27 rfl (vs := [_, _, _, _]) rfl (by first | exact RdN.own (k := 0) (n := 4) rfl rfl | exact RdN.own (k := 1) (n := 4) rfl rfl | exact RdN.own (k := 2) (n := 4) rfl rfl | exact RdN.own (k := 3) (n := 4) rfl rfl)) rfl ?_
        refine WL.so (SO.store 1 rfl Try.sizeOf27 rfl rfl rfl rfl (Nat.le_of_ble_eq_true rfl) (oneB_spec rfl)) rfl ?_
        rintro _ _ _ ⟨rfl, rfl, rfl⟩
        refine WL.nil ?_
        refine WP.thenC ?_
        refine WC.ret ?_
        refine WP.ret1 rfl rfl Try.results41 (RV.cellN Try.isAgg27 Try.sizeOf27 rfl (vs := [_, _, _, _]) rfl (by first | exact RdN.own (k := 0) (n := 4) rfl rfl | exact RdN.own (k := 1) (n := 4) rfl rfl | exact RdN.own (k := 2) (n := 4) rfl rfl | exact RdN.own (k := 3) (n := 4) rfl rfl)) (fun w1 hI => ⟨_, _, rfl, hI.keep, hI.imm, (DExt.refl w D).add hn2 hu2.1, some ⟨u2.b, 0, none⟩, u2.cap, rfl, fun h9 => ⟨hR.bath.ext ((DExt.refl w D).add hn2 hu2.1), claims_snoc (Imm.add_self _ _ _), hl1, by omega⟩⟩)
    · refine WHo.so rfl (SO.buildSlice Try.underlying25 Try.sizeOf47 Try.zeroValue47 rfl rfl rfl rfl (cs := [_, _, _]) rfl) rfl ?_
      rintro _ _ _ ⟨b10, hb10, rfl, rfl, rfl⟩ -- NEW
      refine ⟨(fun _ hI => Inv.pick 3 rfl hI), ?_⟩
      refine WH.one (i := 2) (by kernel_rfl) (WHo.yd rfl (Yd.load1 Try.isAgg25 rfl (by first | exact Rd.own (k := 0) rfl rfl | exact Rd.own (k := 1) rfl rfl | exact Rd.own (k := 2) rfl rfl | exact Rd.own (k := 3) rfl rfl | exact Rd.own (k := 4) rfl rfl)) rfl ?_)
      refine WH.one (i := 3) (by kernel_rfl) (WHo.so rfl (SO.appendAll (f := claimC) (l := p.claims) (m := 3) claimC_len claimC_ones [_] _ rfl rfl Try.underlying25 Try.sizeOf47 Try.typeInfo47 Try.zeroValue47 rfl rfl rfl rfl hb5 hR.claim (by show (2 * (_ + _) + 1000) * 24 ≤ 2 ^ 48; omega) (by omega)) rfl ?_)
      rintro _ _ _ ⟨u1, hu1, rfl, rfl, rfl⟩
      refine ⟨(fun _ hI => Inv.pick 3 rfl hI), ?_⟩
      refine WH.one (i := 6) (by kernel_rfl) (WHo.so rfl (SO.appendOw (o := some u1) (len := p.claims.length) (n := 1) (xs := p.claims.flatMap claimC) (size := 3) [] [_] _ rfl rfl Try.underlying25 Try.sizeOf47 Try.typeInfo47 Try.zeroValue47 rfl rfl rfl rfl ⟨rfl, .inr ⟨_, _, _, rfl, RdN.own (k := 0) (n := 3) rfl rfl⟩⟩ (oneB_spec rfl) hu1 (flat_len claimC_len _) (by omega) (by show (2 * (_ + _) + 1000) * 24 ≤ 2 ^ 48; omega) (by omega)) rfl ?_)
      rintro _ _ _ ⟨u2, hu2, rfl, rfl, rfl⟩
      refine ⟨(fun _ hI => Inv.pick 3 rfl hI), ?_⟩
      refine WH.yd (i := 7) (by kernel_rfl) (fun _ o v c a w _ h => (QuietPanic.then QuietPanic.body) c o.dst v a w h) rfl (Yd.fieldAddr FA27_2 rfl) rfl ?_
      refine WH.one (i := 8) (by kernel_rfl) (WHo.so rfl (SO.store 4 rfl Try.sizeOf25 rfl rfl rfl rfl (Nat.le_of_ble_eq_true rfl) (oneB_spec rfl)) rfl ?_)
      rintro _ _ _ ⟨rfl, rfl, rfl⟩
      refine ⟨(fun _ hI => Inv.pick 3 rfl hI), ?_⟩
      refine WH.nil (by kernel_rfl) ?_
      refine WP.thenC ?_
      refine WC.seq ?_
      refine WC.freezeK 1 rfl (fun hn2 => ?_)
      refine WC.ofFr [(4, _), (2, _)] ⟨rfl, rfl, trivial⟩ ?_
      refine WC.region ?_
      refine WL.yd (Yd.loadN Try.isAgg27 Try.sizeOf27 rfl (vs := [_, _, _, _]) rfl (by first | exact RdN.own (k := 0) (n := 4) rfl rfl | exact RdN.own (k := 1) (n := 4) rfl rfl | exact RdN.own (k := 2) (n := 4) rfl rfl | exact RdN.own (k := 3) (n := 4) rfl rfl)) rfl ?_
      refine WL.so (SO.store 1 rfl Try.sizeOf27 rfl rfl rfl rfl (Nat.le_of_ble_eq_true rfl) (oneB_spec rfl)) rfl ?_
      rintro _ _ _ ⟨rfl, rfl, rfl⟩
      refine WL.nil ?_
      refine WP.thenC ?_
      refine WC.ret ?_
      refine WP.ret1 rfl rfl Try.results41 (RV.cellN Try.isAgg27 Try.sizeOf27 rfl (vs := [_, _, _, _]) rfl (by first | exact RdN.own (k := 0) (n := 4) rfl rfl | exact RdN.own (k := 1) (n := 4) rfl rfl | exact RdN.own (k := 2) (n := 4) rfl rfl | exact RdN.own (k := 3) (n := 4) rfl rfl)) (fun w1 hI => ⟨_, _, rfl, hI.keep, hI.imm, (DExt.refl w D).add hn2 hu2.1, some ⟨u2.b, 0, none⟩, u2.cap, rfl, fun h9 => ⟨hR.bath.ext ((DExt.refl w D).add hn2 hu2.1), claims_snoc (Imm.add_self _ _ _), hl1, by omega⟩⟩)
  · refine WHo.yd rfl (Yd.load1 Try.isAgg25 rfl (by first | exact Rd.own (k := 0) rfl rfl | exact Rd.own (k := 1) rfl rfl | exact Rd.own (k := 2) rfl rfl)) rfl ?_
    refine WH.two (i := 0) (j := 5) (by kernel_rfl) ?_ ?_
    · refine WHo.so rfl (SO.buildSlice0 Try.underlying25 Try.sizeOf47) rfl ?_
      rintro _ _ _ ⟨b5, hb5, rfl, rfl, rfl⟩ -- NEW
      refine ⟨(fun _ hI => Inv.pick 2 rfl hI), ?_⟩
      refine WH.two (i := 3) (j := 5) (by kernel_rfl) ?_ ?_
      · refine WHo.so rfl (SO.appendAll (f := claimC) (l := p.claims) (m := 3) claimC_len claimC_ones [] _ rfl rfl Try.underlying25 Try.sizeOf47 Try.typeInfo47 Try.zeroValue47 rfl rfl rfl rfl hb5 hR.claim (by show (2 * (_ + _) + 1000) * 24 ≤ 2 ^ 48; omega) (by omega)) rfl ?_
        rintro _ _ _ ⟨u1, hu1, rfl, rfl, rfl⟩
        refine ⟨(fun _ hI => Inv.pick 2 rfl hI), ?_⟩
        refine WH.one (i := 5) (by kernel_rfl) (WHo.so rfl (SO.buildSlice Try.underlying25 Try.sizeOf47 Try.zeroValue47 rfl rfl rfl rfl (cs := [_, _, _]) rfl) rfl ?_)
        rintro _ _ _ ⟨b10, hb10, rfl, rfl, rfl⟩ -- NEW
        refine ⟨(fun _ hI => Inv.pick 3 rfl hI), ?_⟩
        refine WH.one (i := 6) (by kernel_rfl) (WHo.so rfl (SO.appendOw (o := some u1) (len := p.claims.length) (n := 1) (xs := p.claims.flatMap claimC) (size := 3) [] [_] _ rfl rfl Try.underlying25 Try.sizeOf47 Try.typeInfo47 Try.zeroValue47 rfl rfl rfl rfl ⟨rfl, .inr ⟨_, _, _, rfl, RdN.own (k := 0) (n := 3) rfl rfl⟩⟩ (oneB_spec rfl) hu1 (flat_len claimC_len _) (by omega) (by show (2 * (_ + _) + 1000) * 24 ≤ 2 ^ 48; omega) (by omega)) rfl ?_)
        rintro _ _ _ ⟨u2, hu2, rfl, rfl, rfl⟩
        refine ⟨(fun _ hI => Inv.pick 3 rfl hI), ?_⟩
        refine WH.yd (i := 7) (by kernel_rfl) (fun _ o v c a w _ h => (QuietPanic.then QuietPanic.body) c o.dst v a w h) rfl (Yd.fieldAddr FA27_2 rfl) rfl ?_
        refine WH.one (i := 8) (by kernel_rfl) (WHo.so rfl (SO.store 4 rfl Try.sizeOf25 rfl rfl rfl rfl (Nat.le_of_ble_eq_true rfl) (oneB_spec rfl)) rfl ?_)
        rintro _ _ _ ⟨rfl, rfl, rfl⟩
        refine ⟨(fun _ hI => Inv.pick 3 rfl hI), ?_⟩
        refine WH.nil (by kernel_rfl) ?_
        refine WP.thenC ?_
        refine WC.seq ?_
        refine WC.freezeK 1 rfl (fun hn2 => ?_)
        refine WC.ofFr [(4, _), (2, _)] ⟨rfl, rfl, trivial⟩ ?_
        refine WC.region ?_
        refine WL.yd (Yd.loadN Try.isAgg27 Try.sizeOf27 rfl (vs := [_, _, _, _]) rfl (by first | exact RdN.own (k := 0) (n := 4) rfl rfl | exact RdN.own (k := 1) (n := 4) rfl rfl | exact RdN.own (k := 2) (n := 4) rfl rfl | exact RdN.own (k := 3) (n := 4) rfl rfl)) rfl ?_
        refine WL.so (SO.store 1 rfl Try.sizeOf27 rfl rfl rfl rfl (Nat.le_of_ble_eq_true rfl) (oneB_spec rfl)) rfl ?_
        rintro _ _ _ ⟨rfl, rfl, rfl⟩
        refine WL.nil ?_
        refine WP.thenC ?_
        refine WC.ret ?_
        refine WP.ret1 rfl rfl Try.results41 (RV.cellN Try.isAgg27 Try.sizeOf27 rfl (vs := [_, _, _, _]) rfl (by first | exact RdN.own (k := 0) (n := 4) rfl rfl | exact RdN.own (k := 1) (n := 4) rfl rfl | exact RdN.own (k := 2) (n := 4) rfl rfl | exact RdN.own (k := 3) (n := 4) rfl rfl)) (fun w1 hI => ⟨_, _, rfl, hI.keep, hI.imm, (DExt.refl w D).add hn2 hu2.1, some ⟨u2.b, 0, none⟩, u2.cap, rfl, fun h9 => ⟨hR.bath.ext ((DExt.refl w D).add hn2 hu2.1), claims_snoc (Imm.add_self _ _ _), hl1, by omega⟩⟩)
      · refine WHo.so rfl (SO.buildSlice Try.underlying25 Try.sizeOf47 Try.zeroValue47 rfl rfl rfl rfl (cs := [_, _, _]) rfl) rfl ?_
        rintro _ _ _ ⟨b10, hb10, rfl, rfl, rfl⟩ -- NEW
        refine ⟨(fun _ hI => Inv.pick 3 rfl hI), ?_⟩
        refine WH.one (i := 3) (by kernel_rfl) (WHo.so rfl (SO.appendAll (f := claimC) (l := p.claims) (m := 3) claimC_len claimC_ones [_] _ rfl rfl Try.underlying25 Try.sizeOf47 Try.typeInfo47 Try.zeroValue47 rfl rfl rfl rfl hb5 hR.claim (by show (2 * (_ + _) + 1000) * 24 ≤ 2 ^ 48; omega) (by omega)) rfl ?_)
        rintro _ _ _ ⟨u1, hu1, rfl, rfl, rfl⟩
        refine ⟨(fun _ hI => Inv.pick 3 rfl hI), ?_⟩
        refine WH.one (i := 6) (by kernel_rfl) (WHo.so rfl (SO.appendOw (o := some u1) (len := p.claims.length) (n := 1) (xs := p.claims.flatMap claimC) (size := 3) [] [_] _ rfl rfl Try.underlying25 Try.sizeOf47 Try.typeInfo47 Try.zeroValue47 rfl rfl rfl rfl ⟨rfl, .inr ⟨_, _, _, rfl, RdN.own (k := 0) (n := 3) rfl rfl⟩⟩ (oneB_spec rfl) hu1 (flat_len claimC_len _) (by omega) (by show (2 * (_ + _) + 1000) * 24 ≤ 2 ^ 48; omega) (by omega)) rfl ?_)
        rintro _ _ _ ⟨u2, hu2, rfl, rfl, rfl⟩
        refine ⟨(fun _ hI => Inv.pick 3 rfl hI), ?_⟩
        refine WH.yd (i := 7) (by kernel_rfl) (fun _ o v c a w _ h => (QuietPanic.then QuietPanic.body) c o.dst v a w h) rfl (Yd.fieldAddr FA27_2 rfl) rfl ?_
        refine WH.one (i := 8) (by kernel_rfl) (WHo.so rfl (SO.store 4 rfl Try.sizeOf25 rfl rfl rfl rfl (Nat.le_of_ble_eq_true rfl) (oneB_spec rfl)) rfl ?_)
        rintro _ _ _ ⟨rfl, rfl, rfl⟩
        refine ⟨(fun _ hI => Inv.pick 3 rfl hI), ?_⟩
        refine WH.nil (by kernel_rfl) ?_
        refine WP.thenC ?_
        refine WC.seq ?_
        refine WC.freezeK 1 rfl (fun hn2 => ?_)
        refine WC.ofFr [(4, _), (2, _)] ⟨rfl, rfl, trivial⟩ ?_
        refine WC.region ?_
        refine WL.yd (Yd.loadN Try.isAgg27 Try.sizeOf27 rfl (vs := [_, _, _, _]) rfl (by first | exact RdN.own (k := 0) (n := 4) rfl rfl | exact RdN.own (k := 1) (n := 4) rfl rfl | exact RdN.own (k := 2) (n := 4) rfl rfl | exact RdN.own (k := 3) (n := 4) rfl rfl)) rfl ?_
        refine WL.so (SO.store 1 rfl Try.sizeOf27 rfl rfl rfl rfl (Nat.le_of_ble_eq_true rfl) (oneB_spec rfl)) rfl ?_
        rintro _ _ _ ⟨rfl, rfl, rfl⟩
        refine WL.nil ?_
        refine WP.thenC ?_
        refine WC.ret ?_
        refine WP.ret1 rfl rfl Try.results41 (RV.cellN Try.isAgg27 Try.sizeOf27 rfl (vs := [_, _, _, _]) rfl (by first | exact RdN.own (k := 0) (n := 4) rfl rfl | exact RdN.own (k := 1) (n := 4) rfl rfl | exact RdN.own (k := 2) (n := 4) rfl rfl | exact RdN.own (k := 3) (n := 4) rfl rfl)) (fun w1 hI => ⟨_, _, rfl, hI.keep, hI.imm, (DExt.refl w D).add hn2 hu2.1, some ⟨u2.b, 0, none⟩, u2.cap, rfl, fun h9 => ⟨hR.bath.ext ((DExt.refl w D).add hn2 hu2.1), claims_snoc (Imm.add_self _ _ _), hl1, by omega⟩⟩)
    · refine WHo.so rfl (SO.buildSlice Try.underlying25 Try.sizeOf47 Try.zeroValue47 rfl rfl rfl rfl (cs := [_, _, _]) rfl) rfl ?_
      rintro _ _ _ ⟨b10, hb10, rfl, rfl, rfl⟩ -- NEW
      refine ⟨(fun _ hI => Inv.pick 2 rfl hI), ?_⟩
      refine WH.one (i := 0) (by kernel_rfl) (WHo.so rfl (SO.buildSlice0 Try.underlying25 Try.sizeOf47) rfl ?_)
      rintro _ _ _ ⟨b5, hb5, rfl, rfl, rfl⟩ -- NEW
      refine ⟨(fun _ hI => Inv.pick 3 rfl hI), ?_⟩
      refine WH.one (i := 3) (by kernel_rfl) (WHo.so rfl (SO.appendAll (f := claimC) (l := p.claims) (m := 3) claimC_len claimC_ones [] _ rfl rfl Try.underlying25 Try.sizeOf47 Try.typeInfo47 Try.zeroValue47 rfl rfl rfl rfl hb5 hR.claim (by show (2 * (_ + _) + 1000) * 24 ≤ 2 ^ 48; omega) (by omega)) rfl ?_)
      rintro _ _ _ ⟨u1, hu1, rfl, rfl, rfl⟩
      refine ⟨(fun _ hI => Inv.pick 3 rfl hI), ?_⟩
      refine WH.one (i := 6) (by kernel_rfl) (WHo.so rfl (SO.appendOw (o := some u1) (len := p.claims.length) (n := 1) (xs := p.claims.flatMap claimC) (size := 3) [] [] _ rfl rfl Try.underlying25 Try.sizeOf47 Try.typeInfo47 Try.zeroValue47 rfl rfl rfl rfl ⟨rfl, .inr ⟨_, _, _, rfl, RdN.own (k := 1) (n := 3) rfl rfl⟩⟩ (oneB_spec rfl) hu1 (flat_len claimC_len _) (by omega) (by show (2 * (_ + _) + 1000) * 24 ≤ 2 ^ 48; omega) (by omega)) rfl ?_)
      rintro _ _ _ ⟨u2, hu2, rfl, rfl, rfl⟩
      refine ⟨(fun _ hI => Inv.pick 3 rfl hI), ?_⟩
      refine WH.yd (i := 7) (by kernel_rfl) (fun _ o v c a w _ h => (QuietPanic.then QuietPanic.body) c o.dst v a w h) rfl (Yd.fieldAddr FA27_2 rfl) rfl ?_
      refine WH.one (i := 8) (by kernel_rfl) (WHo.so rfl (SO.store 4 rfl Try.sizeOf25 rfl rfl rfl rfl (Nat.le_of_ble_eq_true rfl) (oneB_spec rfl)) rfl ?_)
      rintro _ _ _ ⟨rfl, rfl, rfl⟩
      refine ⟨(fun _ hI => Inv.pick 3 rfl hI), ?_⟩
      refine WH.nil (by kernel_rfl) ?_
      refine WP.thenC ?_
      refine WC.seq ?_
      refine WC.freezeK 0 rfl (fun hn2 => ?_)
      refine WC.ofFr [(4, _), (2, _)] ⟨rfl, rfl, trivial⟩ ?_
      refine WC.region ?_
      refine WL.yd (Yd.loadN Try.isAgg27 Try.sizeOf27 rfl (vs := [_, _, _, _]) rfl (by first | exact RdN.own (k := 0) (n := 4) rfl rfl | exact RdN.own (k := 1) (n := 4) rfl rfl | exact RdN.own (k := 2) (n := 4) rfl rfl | exact RdN.own (k := 3) (n := 4) rfl rfl)) rfl ?_
      refine WL.so (SO.store 1 rfl Try.sizeOf27 rfl rfl rfl rfl (Nat.le_of_ble_eq_true rfl) (oneB_spec rfl)) rfl ?_
      rintro _ _ _ ⟨rfl, rfl, rfl⟩
      refine WL.nil ?_
      refine WP.thenC ?_
      refine WC.ret ?_
      refine WP.ret1 rfl rfl Try.results41 (RV.cellN Try.isAgg27 Try.sizeOf27 rfl (vs := [_, _, _, _]) rfl (by first | exact RdN.own (k := 0) (n := 4) rfl rfl | exact RdN.own (k := 1) (n := 4) rfl rfl | exact RdN.own (k := 2) (n := 4) rfl rfl | exact RdN.own (k := 3) (n := 4) rfl rfl)) (fun w1 hI => ⟨_, _, rfl, hI.keep, hI.imm, (DExt.refl w D).add hn2 hu2.1, some ⟨u2.b, 0, none⟩, u2.cap, rfl, fun h9 => ⟨hR.bath.ext ((DExt.refl w D).add hn2 hu2.1), claims_snoc (Imm.add_self _ _ _), hl1, by omega⟩⟩)
  · refine WHo.so rfl (SO.buildSlice Try.underlying25 Try.sizeOf47 Try.zeroValue47 rfl rfl rfl rfl (cs := [_, _, _]) rfl) rfl ?_
    rintro _ _ _ ⟨b10, hb10, rfl, rfl, rfl⟩ -- NEW
    refine ⟨(fun _ hI => Inv.pick 2 rfl hI), ?_⟩
    refine WH.two (i := 0) (j := 2) (by kernel_rfl) ?_ ?_
    · refine WHo.so rfl (SO.buildSlice0 Try.underlying25 Try.sizeOf47) rfl ?_
      rintro _ _ _ ⟨b5, hb5, rfl, rfl, rfl⟩ -- NEW
      refine ⟨(fun _ hI => Inv.pick 3 rfl hI), ?_⟩
      refine WH.one (i := 2) (by kernel_rfl) (WHo.yd rfl (Yd.load1 Try.isAgg25 rfl (by first | exact Rd.own (k := 0) rfl rfl | exact Rd.own (k := 1) rfl rfl | exact Rd.own (k := 2) rfl rfl | exact Rd.own (k := 3) rfl rfl | exact Rd.own (k := 4) rfl rfl)) rfl ?_)
      refine WH.one (i := 3) (by kernel_rfl) (WHo.so rfl (SO.appendAll (f := claimC) (l := p.claims) (m := 3) claimC_len claimC_ones [] _ rfl rfl Try.underlying25 Try.sizeOf47 Try.typeInfo47 Try.zeroValue47 rfl rfl rfl rfl hb5 hR.claim (by show (2 * (_ + _) + 1000) * 24 ≤ 2 ^ 48; omega) (by omega)) rfl ?_)
      rintro _ _ _ ⟨u1, hu1, rfl, rfl, rfl⟩
      refine ⟨(fun _ hI => Inv.pick 3 rfl hI), ?_⟩
      refine WH.one (i := 6) (by kernel_rfl) (WHo.so rfl (SO.appendOw (o := some u1) (len := p.claims.length) (n := 1) (xs := p.claims.flatMap claimC) (size := 3) [] [] _ rfl rfl Try.underlying25 Try.sizeOf47 Try.typeInfo47 Try.zeroValue47 rfl rfl rfl rfl ⟨rfl, .inr ⟨_, _, _, rfl, RdN.own (k := 1) (n := 3) rfl rfl⟩⟩ (oneB_spec rfl) hu1 (flat_len claimC_len _) (by omega) (by show (2 * (_ + _) + 1000) * 24 ≤ 2 ^ 48; omega) (by omega)) rfl ?_)
      rintro _ _ _ ⟨u2, hu2, rfl, rfl, rfl⟩
      refine ⟨(fun _ hI => Inv.pick 3 rfl hI), ?_⟩
      refine WH.yd (i := 7) (by kernel_rfl) (fun _ o v c a w _ h => (QuietPanic.then QuietPanic.body) c o.dst v a w h) rfl (Yd.fieldAddr FA27_2 rfl) rfl ?_
      refine WH.one (i := 8) (by kernel_rfl) (WHo.so rfl (SO.store 4 rfl Try.sizeOf25 rfl rfl rfl rfl (Nat.le_of_ble_eq_true rfl) (oneB_spec rfl)) rfl ?_)
      rintro _ _ _ ⟨rfl, rfl, rfl⟩
      refine ⟨(fun _ hI => Inv.pick 3 rfl hI), ?_⟩
      refine WH.nil (by kernel_rfl) ?_
      refine WP.thenC ?_
      refine WC.seq ?_
      refine WC.freezeK 0 rfl (fun hn2 => ?_)
      refine WC.ofFr [(4, _), (2, _)] ⟨rfl, rfl, trivial⟩ ?_
      refine WC.region ?_
      refine WL.yd (Yd.loadN Try.isAgg27 Try.sizeOf27 rfl (vs := [_, _, _, _]) rfl (by first | exact RdN.own (k := 0) (n := 4) rfl rfl | exact RdN.own (k := 1) (n := 4) rfl rfl | exact RdN.own (k := 2) (n := 4) rfl rfl | exact RdN.own (k := 3) (n := 4) rfl rfl)) rfl ?_
      refine WL.so (SO.store 1 rfl Try.sizeOf27 rfl rfl rfl rfl (Nat.le_of_ble_eq_true rfl) (oneB_spec rfl)) rfl ?_
      rintro _ _ _ ⟨rfl, rfl, rfl⟩
      refine WL.nil ?_
      refine WP.thenC ?_
      refine WC.ret ?_
      refine WP.ret1 rfl rfl Try.results41 (RV.cellN Try.isAgg27 Try.sizeOf27 rfl (vs := [_, _, _, _]) rfl (by first | exact RdN.own (k := 0) (n := 4) rfl rfl | exact RdN.own (k := 1) (n := 4) rfl rfl | exact RdN.own (k := 2) (n := 4) rfl rfl | exact RdN.own (k := 3) (n := 4) rfl rfl)) (fun w1 hI => ⟨_, _, rfl, hI.keep, hI.imm, (DExt.refl w D).add hn2 hu2.1, some ⟨u2.b, 0, none⟩, u2.cap, rfl, fun h9 => ⟨hR.bath.ext ((DExt.refl w D).add hn2 hu2.1), claims_snoc (Imm.add_self _ _ _), hl1, by omega⟩⟩)
    · refine WHo.yd rfl (Yd.load1 Try.isAgg25 rfl (by first | exact Rd.own (k := 0) rfl rfl | exact Rd.own (k := 1) rfl rfl | exact Rd.own (k := 2) rfl rfl | exact Rd.own (k := 3) rfl rfl)) rfl ?_
      refine WH.one (i := 0) (by kernel_rfl) (WHo.so rfl (SO.buildSlice0 Try.underlying25 Try.sizeOf47) rfl ?_)
      rintro _ _ _ ⟨b5, hb5, rfl, rfl, rfl⟩ -- NEW
      refine ⟨(fun _ hI => Inv.pick 3 rfl hI), ?_⟩
      refine WH.one (i := 3) (by kernel_rfl) (WHo.so rfl (SO.appendAll (f := claimC) (l := p.claims) (m := 3) claimC_len claimC_ones [] _ rfl rfl Try.underlying25 Try.sizeOf47 Try.typeInfo47 Try.zeroValue47 rfl rfl rfl rfl hb5 hR.claim (by show (2 * (_ + _) + 1000) * 24 ≤ 2 ^ 48; omega) (by omega)) rfl ?_)
      rintro _ _ _ ⟨u1, hu1, rfl, rfl, rfl⟩
      refine ⟨(fun _ hI => Inv.pick 3 rfl hI), ?_⟩
      refine WH.one (i := 6) (by kernel_rfl) (WHo.so rfl (SO.appendOw (o := some u1) (len := p.claims.length) (n := 1) (xs := p.claims.flatMap claimC) (size := 3) [] [] _ rfl rfl Try.underlying25 Try.sizeOf47 Try.typeInfo47 Try.zeroValue47 rfl rfl rfl rfl ⟨rfl, .inr ⟨_, _, _, rfl, RdN.own (k := 1) (n := 3) rfl rfl⟩⟩ (oneB_spec rfl) hu1 (flat_len claimC_len _) (by omega) (by show (2 * (_ + _) + 1000) * 24 ≤ 2 ^ 48; omega) (by omega)) rfl ?_)
      rintro _ _ _ ⟨u2, hu2, rfl, rfl, rfl⟩
      refine ⟨(fun _ hI => Inv.pick 3 rfl hI), ?_⟩
      refine WH.yd (i := 7) (by kernel_rfl) (fun _ o v c a w _ h => (QuietPanic.then QuietPanic.body) c o.dst v a w h) rfl (Yd.fieldAddr FA27_2 rfl) rfl ?_
      refine WH.one (i := 8) (by kernel_rfl) (WHo.so rfl (SO.store 4 rfl Try.sizeOf25 rfl rfl rfl rfl (Nat.le_of_ble_eq_true rfl) (oneB_spec rfl)) rfl ?_)
      rintro _ _ _ ⟨rfl, rfl, rfl⟩
      refine ⟨(fun _ hI => Inv.pick 3 rfl hI), ?_⟩
      refine WH.nil (by kernel_rfl) ?_
      refine WP.thenC ?_
      refine WC.seq ?_
      refine WC.freezeK 0 rfl (fun hn2 => ?_)
      refine WC.ofFr [(4, _), (2, _)] ⟨rfl, rfl, trivial⟩ ?_
      refine WC.region ?_
      refine WL.yd (Yd.loadN Try.isAgg27 Try.sizeOf27 rfl (vs := [_, _, _, _]) rfl (by first | exact RdN.own (k := 0) (n := 4) rfl rfl | exact RdN.own (k := 1) (n := 4) rfl rfl | exact RdN.own (k := 2) (n := 4) rfl rfl | exact RdN.own (k := 3) (n := 4) rfl rfl)) rfl ?_
      refine WL.so (SO.store 1 rfl Try.sizeOf27 rfl rfl rfl rfl (Nat.le_of_ble_eq_true rfl) (oneB_spec rfl)) rfl ?_
      rintro _ _ _ ⟨rfl, rfl, rfl⟩
      refine WL.nil ?_
      refine WP.thenC ?_
      refine WC.ret ?_
      refine WP.ret1 rfl rfl Try.results41 (RV.cellN Try.isAgg27 Try.sizeOf27 rfl (vs := [_, _, _, _]) rfl (by first | exact RdN.own (k := 0) (n := 4) rfl rfl | exact RdN.own (k := 1) (n := 4) rfl rfl | exact RdN.own (k := 2) (n := 4) rfl rfl | exact RdN.own (k := 3) (n := 4) rfl rfl)) (fun w1 hI => ⟨_, _, rfl, hI.keep, hI.imm, (DExt.refl w D).add hn2 hu2.1, some ⟨u2.b, 0, none⟩, u2.cap, rfl, fun h9 => ⟨hR.bath.ext ((DExt.refl w D).add hn2 hu2.1), claims_snoc (Imm.add_self _ _ _), hl1, by omega⟩⟩)

set_option maxRecDepth 100000 in
set_option maxHeartbeats 1000000 in
theorem at_n (p : Post) (a1 : Option Addr) (n1 c1 : Nat) (a2 : Option Addr) (n2 c2 : Nat) (D : Imm) (w : World) (hR : PostR D p a1 n1 a2 n2) (hH : Holds D w) (who k : Int) (hw : whoP p who = true) (hs : who < 0) : Makes Try.prog 40 [.agg #[it p.post.lo, it p.post.hi, .slice a1 n1 c1, .slice a2 n2 c2], it who, it k] w D (fun v D' => ∃ a c', v = .agg #[it (spotP p who k).post.lo, it (spotP p who k).post.hi, .slice a n1 c', .slice a2 n2 c2] ∧ PostR D' (spotP p who k) a n1 a2 n2) := by
  unfold Makes
  obtain rfl := hR.bath.len'
  obtain rfl := hR.claim.len'
  have hl1 := hR.len1
  have hl2 := hR.len2
  have hb := of_decide_eq_true hw
  rw [show spotP p who k = ⟨⟨k, k⟩, p.bathers, p.claims⟩ from if_pos hs]
  refine enter Try.func40 rfl 28 Try.ntmps40 (Nat.le_of_ble_eq_true rfl) (Inv.start hH) ?_
  refine WC.seq ?_
  refine WC.ofFr [(0, _), (1, _), (2, _)] ⟨rfl, rfl, rfl, trivial⟩ ?_
  refine WC.region ?_
  refine WL.so (SO.box rfl rfl) rfl ?_
  rintro _ _ _ ⟨b3, hb3, rfl, rfl, rfl⟩ -- NEW
  refine WL.so (SO.alloc Try.zeroValue27 rfl) rfl ?_
  rintro _ _ _ ⟨b6, hb6, rfl, rfl, rfl⟩ -- NEW
  refine WL.nil ?_
  refine WP.thenC ?_
  refine WC.seq ?_
  refine WC.seq ?_
  refine WC.ofFr [(6, _), (3, _), (1, _), (2, _)] ⟨rfl, rfl, rfl, rfl, trivial⟩ ?_
  refine WC.region ?_
  refine WL.yd (Yd.move rfl) rfl ?_
  refine WL.yd (Yd.lss rfl rfl) rfl ?_
  refine WL.nil ?_
  refine WP.thenC ?_
  refine WC.cond rfl (fun c8 => ?_) (fun c8 => ?_)
  · try simp only [zq1, zq2, zq3, zq4, zq5, zq6, zq7, zq8] at c8
    refine WC.seq ?_
    refine WC.ofFr [(6, _), (3, _), (1, _), (2, _)] ⟨rfl, rfl, rfl, rfl, trivial⟩ ?_
    refine WC.region ?_
    refine WL.yd (Yd.move rfl) rfl ?_
    refine WL.yd (Yd.move rfl) rfl ?_
    refine WL.so (SO.callP Try.call32 rfl (fun w hI => lspan_g _ _ _)) rfl ?_
    rintro _ _ _ ⟨rfl, rfl, rfl⟩
    refine WL.yd (Yd.fieldAddr FA27_0 rfl) rfl ?_
    refine WL.so (SO.store 1 rfl Try.sizeOf23 rfl rfl rfl rfl (Nat.le_of_ble_eq_true rfl) (oneB_spec rfl)) rfl ?_
    rintro _ _ _ ⟨rfl, rfl, rfl⟩
    refine WL.nil ?_
    refine WP.thenC ?_
    refine WC.seq ?_
    refine WC.ofFr [(6, _), (3, _), (1, _), (2, _)] ⟨rfl, rfl, rfl, rfl, trivial⟩ ?_
    refine WC.region ?_
    refine WL.yd (Yd.loadN Try.isAgg27 Try.sizeOf27 rfl (vs := [_, _, _, _]) rfl (by first | exact RdN.own (k := 0) (n := 4) rfl rfl | exact RdN.own (k := 1) (n := 4) rfl rfl)) rfl ?_
    refine WL.so (SO.store 0 rfl Try.sizeOf27 rfl rfl rfl rfl (Nat.le_of_ble_eq_true rfl) (oneB_spec rfl)) rfl ?_
    rintro _ _ _ ⟨rfl, rfl, rfl⟩
    refine WL.nil ?_
    refine WP.thenC ?_
    refine WC.ret ?_
    refine WP.thenRet ?_
    refine WP.ret1 rfl rfl Try.results40 (RV.cellN Try.isAgg27 Try.sizeOf27 rfl (vs := [_, _, _, _]) rfl (by first | exact RdN.own (k := 0) (n := 4) rfl rfl | exact RdN.own (k := 1) (n := 4) rfl rfl)) (fun w1 hI => ⟨_, D, rfl, hI.keep, hI.imm, DExt.refl w D, a1, c1, rfl, hR.bath, hR.claim, hl1, hl2⟩)
  · try simp only [zq1, zq2, zq3, zq4, zq5, zq6, zq7, zq8] at c8
    omega

theorem bath_set {D : Imm} {b : Nat} {l : List Bath} {i : Nat} {y : Bath} {rest : List Value} {fz : Nat × Nat} (h : D b = some (.cells (List.toArray ((l.set i y).flatMap bathC ++ rest)) 56 fz)) : SlL D 3 ((l.set i y).map bathC) (some ⟨b, 0, none⟩) l.length := by
  have := SlL.ofBlock (f := bathC) (l := l.set i y) (rest := rest) bathC_len h
  rwa [List.length_set] at this

set_option maxRecDepth 100000 in
set_option maxHeartbeats 1000000 in
theorem at_p (p : Post) (a1 : Option Addr) (n1 c1 : Nat) (a2 : Option Addr) (n2 c2 : Nat) (D : Imm) (w : World) (hR : PostR D p a1 n1 a2 n2) (hH : Holds D w) (who k : Int) (hw : whoP p who = true) (hs : ¬ who < 0) : Makes Try.prog 40 [.agg #[it p.post.lo, it p.post.hi, .slice a1 n1 c1, .slice a2 n2 c2], it who, it k] w D (fun v D' => ∃ a c', v = .agg #[it (spotP p who k).post.lo, it (spotP p who k).post.hi, .slice a n1 c', .slice a2 n2 c2] ∧ PostR D' (spotP p who k) a n1 a2 n2) := by
  unfold Makes
  obtain rfl := hR.bath.len'
  obtain rfl := hR.claim.len'
  have hl1 := hR.len1
  have hl2 := hR.len2
  have hb := of_decide_eq_true hw
  have hwn : who.toNat < p.bathers.length := by omega
  rw [show spotP p who k = ⟨p.post, p.bathers.set who.toNat ⟨(gt p.bathers who.toNat).lady, ⟨k, k⟩⟩, p.claims⟩ from if_neg hs]
  refine enter Try.func40 rfl 28 Try.ntmps40 (Nat.le_of_ble_eq_true rfl) (Inv.start hH) ?_
  refine WC.seq ?_
  refine WC.ofFr [(0, _), (1, _), (2, _)] ⟨rfl, rfl, rfl, trivial⟩ ?_
  refine WC.region ?_
  refine WL.so (SO.box rfl rfl) rfl ?_
  rintro _ _ _ ⟨b3, hb3, rfl, rfl, rfl⟩ -- NEW
  refine WL.so (SO.alloc Try.zeroValue27 rfl) rfl ?_
  rintro _ _ _ ⟨b6, hb6, rfl, rfl, rfl⟩ -- NEW
  refine WL.nil ?_
  refine WP.thenC ?_
  refine WC.seq ?_
  refine WC.seq ?_
  refine WC.ofFr [(6, _), (3, _), (1, _), (2, _)] ⟨rfl, rfl, rfl, rfl, trivial⟩ ?_
  refine WC.region ?_
  refine WL.yd (Yd.move rfl) rfl ?_
  refine WL.yd (Yd.lss rfl rfl) rfl ?_
  refine WL.nil ?_
  refine WP.thenC ?_
  refine WC.cond rfl (fun c8 => ?_) (fun c8 => ?_)
  · try simp only [zq1, zq2, zq3, zq4, zq5, zq6, zq7, zq8] at c8
    omega
  · try simp only [zq1, zq2, zq3, zq4, zq5, zq6, zq7, zq8] at c8
    refine WC.skip ?_
    refine WP.thenC ?_
    refine WC.seq ?_
    refine WC.ofFr [(6, _), (3, _), (1, _), (2, _)] ⟨rfl, rfl, rfl, rfl, trivial⟩ ?_
    refine WC.region ?_
    refine WL.so (SO.buildSlice0 Try.underlying24 Try.sizeOf56) rfl ?_
    rintro _ _ _ ⟨b14, hb14, rfl, rfl, rfl⟩ -- NEW
    refine WL.yd (Yd.fieldAddr FA27_1 rfl) rfl ?_
    refine WL.yd (Yd.load1 Try.isAgg24 rfl (by first | exact Rd.own (k := 0) rfl rfl | exact Rd.own (k := 1) rfl rfl | exact Rd.own (k := 2) rfl rfl)) rfl ?_
    refine WL.so (SO.appendAll (f := bathC) (l := p.bathers) (m := 3) bathC_len bathC_ones [] _ rfl rfl Try.underlying24 Try.sizeOf56 Try.typeInfo56 Try.zeroValue56 rfl rfl rfl rfl hb14 hR.bath (by show (2 * (_ + _) + 1000) * 24 ≤ 2 ^ 48; omega) (by omega)) rfl ?_
    rintro _ _ _ ⟨u1, hu1, rfl, rfl, rfl⟩
    refine WL.yd (Yd.fieldAddr FA27_1 rfl) rfl ?_
    refine WL.so (SO.store 2 rfl Try.sizeOf24 rfl rfl rfl rfl (Nat.le_of_ble_eq_true rfl) (oneB_spec rfl)) rfl ?_
    rintro _ _ _ ⟨rfl, rfl, rfl⟩
    refine WL.nil ?_
    refine WP.thenC ?_
    refine WC.seq ?_
    refine WC.ofFr [(6, _), (3, _), (1, _), (2, _)] ⟨rfl, rfl, rfl, rfl, trivial⟩ ?_
    refine WC.tail 6 [0, 1, 2, 3, 4, 5] rfl (by kernel_rfl) (by kernel_rfl)  ?_
    refine WQ.q rfl (Yd.qt (Yd.fieldAddr FA27_1 rfl)) rfl ?_
    refine WQ.q rfl (Yd.qt (Yd.load1 Try.isAgg24 rfl (by first | exact Rd.own (k := 0) rfl rfl | exact Rd.own (k := 1) rfl rfl | exact Rd.own (k := 2) rfl rfl))) rfl ?_
    refine WQ.q rfl (Yd.qt (Yd.move rfl)) rfl ?_
    refine WQ.q rfl (Yd.qt (Yd.move rfl)) rfl ?_
    refine WQ.q rfl (Yd.qt (Yd.move rfl)) rfl ?_
    refine WQ.q rfl (Qt.callP Try.call32 rfl (fun w hI => lspan_g _ _ _)) rfl ?_
    refine WQ.tail ?_
    refine WL.yd (Yd.indexS Try.underlying24 Try.sizeOf56 rfl rfl (by omega) (by omega) (by first | exact (rfl : (some ⟨u1.b, 0, none⟩ : Option Addr) = some ⟨u1.b, 0, none⟩))) rfl ?_
    refine WL.yd (Yd.fieldAddr FA56_1 rfl) rfl ?_
    refine WL.so (SO.store (off := 0 + who.toNat * 3 + 1) 0 rfl Try.sizeOf23 rfl rfl rfl rfl (by rw [List.length_append, flat_len bathC_len]; omega) (oneB_spec rfl)) rfl ?_
    rintro _ _ _ ⟨rfl, rfl, rfl⟩
    rw [bath_splice _ _ hwn]
    refine WL.nil ?_
    refine WP.thenC ?_
    refine WC.seq ?_
    refine WC.freezeK 0 rfl (fun hn1 => ?_)
    refine WC.ofFr [(6, _), (3, _)] ⟨rfl, rfl, trivial⟩ ?_
    refine WC.region ?_
    refine WL.yd (Yd.loadN Try.isAgg27 Try.sizeOf27 rfl (vs := [_, _, _, _]) rfl (by first | exact RdN.own (k := 0) (n := 4) rfl rfl | exact RdN.own (k := 1) (n := 4) rfl rfl)) rfl ?_
    refine WL.so (SO.store 0 rfl Try.sizeOf27 rfl rfl rfl rfl (Nat.le_of_ble_eq_true rfl) (oneB_spec rfl)) rfl ?_
    rintro _ _ _ ⟨rfl, rfl, rfl⟩
    refine WL.nil ?_
    refine WP.thenC ?_
    refine WC.ret ?_
    refine WP.ret1 rfl rfl Try.results40 (RV.cellN Try.isAgg27 Try.sizeOf27 rfl (vs := [_, _, _, _]) rfl (by first | exact RdN.own (k := 0) (n := 4) rfl rfl | exact RdN.own (k := 1) (n := 4) rfl rfl)) (fun w1 hI => ⟨_, _, rfl, hI.keep, hI.imm, (DExt.refl w D).add hn1 hu1.1, some ⟨u1.b, 0, none⟩, u1.cap, rfl, bath_set (Imm.add_self _ _ _), hR.claim.ext ((DExt.refl w D).add hn1 hu1.1), hl1, hl2⟩)

theorem at_g (p : Post) (a1 : Option Addr) (n1 c1 : Nat) (a2 : Option Addr) (n2 c2 : Nat) (D : Imm) (w : World) (hR : PostR D p a1 n1 a2 n2) (hH : Holds D w) (who k : Int) (hw : whoP p who = true) : Makes Try.prog 40 [.agg #[it p.post.lo, it p.post.hi, .slice a1 n1 c1, .slice a2 n2 c2], it who, it k] w D (fun v D' => ∃ a c', v = .agg #[it (spotP p who k).post.lo, it (spotP p who k).post.hi, .slice a n1 c', .slice a2 n2 c2] ∧ PostR D' (spotP p who k) a n1 a2 n2) := by
  by_cases hs : who < 0
  · exact at_n p a1 n1 c1 a2 n2 c2 D w hR hH who k hw hs
  · exact at_p p a1 n1 c1 a2 n2 c2 D w hR hH who k hw hs

end Go.Proofs.Ytkhmmefgllbobaa
namespace Go.Proofs.Ytkhmmefgllbobaa
open Go.W Go.Po

theorem beq_iff' {P Q : Prop} [Decidable P] [Decidable Q] (h : P ↔ Q) : (decide P == decide Q) = true := by
  by_cases hp : P
  · rw [decide_eq_true hp, decide_eq_true (h.1 hp)]; rfl
  · rw [decide_eq_false hp, decide_eq_false (fun hq => hp (h.2 hq))]; rfl
theorem bne_iff' {P Q : Prop} [Decidable P] [Decidable Q] (h : P ↔ Q) : (decide P != decide Q) = false := by
  unfold bne; rw [beq_iff' h]; rfl
theorem bne_and {P A B : Prop} [Decidable P] [Decidable A] [Decidable B] (h : P ↔ A ∧ B) : (decide P != (decide A && decide B)) = false := by
  rw [← Bool.decide_and]; exact bne_iff' h
theorem place_bad {p : Post} (hv : postB p = true) (hok : okA p = false) {a : Int} (ha : whoP p a = true) : PlaceOut p a = (⟨0, 0⟩, 10) := by
  unfold PlaceOut; rw [told_bad hv hok ha]; rfl
theorem before_bad {p : Post} (hv : postB p = true) (hok : okA p = false) {a b : Int} (ha : whoP p a = true) (hb : whoP p b = true) : BeforeOut p a b = (0, 10) := by
  unfold BeforeOut; rw [told_bad hv hok (and_t ha hb)]; rfl
theorem near_bad {p : Post} (hv : postB p = true) (hok : okA p = false) {a b : Int} (ha : whoP p a = true) (hb : whoP p b = true) : NearOut p a b = (⟨0, 0⟩, 10) := by
  unfold NearOut; rw [told_bad hv hok (and_t ha hb)]; rfl
theorem breaks_bad {p : Post} (hv : postB p = true) (hok : okA p = false) : BreaksOut p = (0, 0, 10) := by
  unfold BreaksOut; rw [told_bad hv hok rfl]; rfl
theorem kept_bad {p : Post} (hv : postB p = true) (hok : okA p = false) : KeptOut p = (0, 10) := by
  unfold KeptOut; rw [told_bad hv hok rfl]; rfl
theorem few_bad {p : Post} (hv : postB p = true) (hok : okA p = false) : FewestOut p = (⟨0, 0⟩, 10) := by
  unfold FewestOut; rw [told_bad hv hok rfl]; rfl
theorem place_range {p : Post} (hv : postB p = true) {a : Int} (ha : whoP p a = false) : PlaceOut p a = (⟨0, 0⟩, 2) := by
  unfold PlaceOut; rw [ha, told_range hv]; rfl
theorem before_range {p : Post} (hv : postB p = true) {a b : Int} (ha : (whoP p a && whoP p b) = false) : BeforeOut p a b = (0, 2) := by
  unfold BeforeOut; rw [ha, told_range hv]; rfl
theorem near_range {p : Post} (hv : postB p = true) {a b : Int} (ha : (whoP p a && whoP p b) = false) : NearOut p a b = (⟨0, 0⟩, 2) := by
  unfold NearOut; rw [ha, told_range hv]; rfl
theorem clash_err {p : Post} (hv : postB p = true) : (ClashOut p).2 = if okA p = true then 4 else 0 := by
  unfold ClashOut; rw [if_neg (by rw [hv]; simp)]
  split <;> rfl
theorem clash_is4 {p : Post} (hv : postB p = true) : (ClashOut p).2 = 4 ↔ ∃ x, Sol p (allR p) x := by
  rw [clash_err hv, ← ok_iff hv]
  split <;> simp_all
theorem clash_is0 {p : Post} (hv : postB p = true) : (ClashOut p).2 = 0 ↔ ¬ ∃ x, Sol p (allR p) x := by
  rw [clash_err hv, ← ok_iff hv]
  split <;> simp_all
theorem own_in {p : Post} (hv : postB p = true) (hok : okA p = true) {a : Int} (ha : whoP p a = true) : -GA p (ix a) 0 ≤ GA p 0 (ix a) ∧ (ownS p a).lo ≤ -GA p (ix a) 0 ∧ GA p 0 (ix a) ≤ (ownS p a).hi ∧ 0 ≤ (ownS p a).lo ∧ (ownS p a).hi ≤ 40 := by
  obtain ⟨x, hx⟩ := (ok_iff hv).1 hok
  have h1 := (place_in hv hok ha _).2 ⟨x, hx, rfl⟩
  have hi := (ix_who ha).1
  obtain ⟨y, hy, ey⟩ := (place_in hv hok ha (-GA p (ix a) 0)).1 ⟨Int.le_refl _, by omega⟩
  obtain ⟨z, hz, ez⟩ := (place_in hv hok ha (GA p 0 (ix a))).1 ⟨by omega, Int.le_refl _⟩
  have h2 := hy.place _ hi
  have h3 := hz.place _ hi
  have h4 := place_num hv hi
  rw [own_place ha] at h2 h3 h4
  omega
theorem spot_clash {p : Post} (hv : postB p = true) (hok : okA p = true) {a k : Int} (ha : whoP p a = true) (hk : (ownS p a).lo ≤ k ∧ k ≤ (ownS p a).hi) : (ClashOut (spotP p a k)).2 = 4 ↔ (-GA p (ix a) 0 ≤ k ∧ k ≤ GA p 0 (ix a)) := by
  have h0 := own_in hv hok ha
  rw [clash_is4 (spot_ok hv ha ⟨by omega, by omega⟩), place_in hv hok ha]
  exact exists_congr fun x => sol_spot ha hk
theorem cok_not {x : Nat → Int} {a b : Int} : COk x ⟨a, b, true⟩ ↔ ¬ x (ix a) < x (ix b) := by rw [cok_iff]; simp
theorem cok_bef {x : Nat → Int} {a b : Int} : COk x ⟨a, b, false⟩ ↔ x (ix a) < x (ix b) := by rw [cok_iff]; simp
theorem with_clash0 {p : Post} (hv : postB p = true) (h7 : p.claims.length ≤ 7) {c : PClaim} (hc : claimP p c = true) : (ClashOut (withP p c)).2 = 0 ↔ ¬ ∃ x, Sol p (allR p) x ∧ COk x c := by
  rw [clash_is0 (with_ok hv h7 hc)]
  exact not_congr (exists_congr fun x => sol_with)
theorem with_clash4 {p : Post} (hv : postB p = true) (h7 : p.claims.length ≤ 7) {c : PClaim} (hc : claimP p c = true) : (ClashOut (withP p c)).2 = 4 ↔ ∃ x, Sol p (allR p) x ∧ COk x c := by
  rw [clash_is4 (with_ok hv h7 hc)]
  exact exists_congr fun x => sol_with
def befG (p : Post) (a b : Int) : Int := gradeI (decide (0 < GA p (ix a) (ix b))) (decide (-GA p (ix b) (ix a) ≤ 0))
theorem bef_is2 {p : Post} (hv : postB p = true) (hok : okA p = true) {a b : Int} (ha : whoP p a = true) (hb : whoP p b = true) : befG p a b = 2 ↔ ¬ ∃ x, Sol p (allR p) x ∧ ¬ x (ix a) < x (ix b) := by
  unfold befG
  rw [grade_two, decide_eq_false_iff_not, before_not hv hok ha hb]
theorem bef_is0 {p : Post} (hv : postB p = true) (hok : okA p = true) {a b : Int} (ha : whoP p a = true) (hb : whoP p b = true) : befG p a b = 0 ↔ ¬ ∃ x, Sol p (allR p) x ∧ x (ix a) < x (ix b) := by
  unfold befG
  rw [grade_zero, decide_eq_false_iff_not, before_some hv hok ha hb, decide_eq_true_eq, before_not hv hok ha hb]
  constructor
  · exact fun h => h.2
  · intro h
    refine ⟨?_, h⟩
    obtain ⟨x, hx⟩ := (ok_iff hv).1 hok
    exact ⟨x, hx, fun hl => h ⟨x, hx, hl⟩⟩
theorem places_not {p : Post} (hv : postB p = true) (hok : okA p = true) (h7 : p.claims.length ≤ 7) {a b : Int} (ha : whoP p a = true) (hb : whoP p b = true) : befG p a b = 2 ↔ (ClashOut (withP p ⟨a, b, true⟩)).2 = 0 := by
  rw [bef_is2 hv hok ha hb, with_clash0 hv h7 (and_t ha hb)]
  simp only [cok_not]
theorem places_bef {p : Post} (hv : postB p = true) (hok : okA p = true) (h7 : p.claims.length ≤ 7) {a b : Int} (ha : whoP p a = true) (hb : whoP p b = true) : befG p a b = 0 ↔ (ClashOut (withP p ⟨a, b, false⟩)).2 = 0 := by
  rw [bef_is0 hv hok ha hb, with_clash0 hv h7 (and_t ha hb)]
  simp only [cok_bef]

set_option maxRecDepth 100000 in
set_option maxHeartbeats 1000000 in
theorem places_l (lo hi : Int) (a1 : Option Addr) (n1 c1 : Nat) (a2 : Option Addr) (n2 c2 : Nat) (m1 m2 : Nat) (D : Imm) (w : World) (hH : Holds D w) (hl : max (n1 : Int) (n2 : Int) > 40) : Gives Try.prog 7 [.agg #[it lo, it hi, .slice a1 n1 c1, .slice a2 n2 c2], .int .u8 (m1 : Int), .int .u8 (m2 : Int)] w (.bool true) := by
  unfold Gives
  refine enter Try.func7 rfl 219 Try.ntmps7 (Nat.le_of_ble_eq_true rfl) (Inv.start hH) ?_
  refine WC.seq ?_
  refine WC.ofFr [(0, _), (1, _), (2, _)] ⟨rfl, rfl, rfl, trivial⟩ ?_
  refine WC.region ?_
  refine WL.so (SO.box rfl rfl) rfl ?_
  rintro _ _ _ ⟨b3, hb3, rfl, rfl, rfl⟩ -- NEW
  refine WL.yd (Yd.assign rfl) rfl ?_
  refine WL.nil ?_
  refine WP.thenC ?_
  refine WC.seq ?_
  refine WC.seq ?_
  refine WC.ofFr [(6, _), (3, _), (1, _), (2, _)] ⟨rfl, rfl, rfl, rfl, trivial⟩ ?_
  refine WC.region ?_
  refine WL.yd (Yd.loadN Try.isAgg27 Try.sizeOf27 rfl (vs := [_, _, _, _]) rfl (by first | exact RdN.own (k := 0) (n := 4) rfl rfl)) rfl ?_
  refine WL.so (SO.callP Try.call38 rfl (fun w hI => long_g _ _ _ _ _ _ _ _ _)) rfl ?_
  rintro _ _ _ ⟨rfl, rfl, rfl⟩
  refine WL.know 31 (.bool true) rfl (congrArg Value.bool (decide_eq_true hl)) ?_
  refine WL.yd (Yd.move rfl) rfl ?_
  refine WL.skip rfl rfl ?_
  refine WL.skip rfl rfl ?_
  refine WL.skip rfl rfl ?_
  refine WL.yd (Yd.pickT rfl rfl) rfl ?_
  refine WL.yd (Yd.move rfl) rfl ?_
  refine WL.skip rfl rfl ?_
  refine WL.skip rfl rfl ?_
  refine WL.skip rfl rfl ?_
  refine WL.skip rfl rfl ?_
  refine WL.yd (Yd.pickT rfl rfl) rfl ?_
  refine WL.nil ?_
  refine WP.thenC ?_
  refine WC.condT rfl ?_
  refine WC.seq ?_
  refine WC.ofFr [(6, _), (3, _), (1, _), (2, _)] ⟨rfl, rfl, rfl, rfl, trivial⟩ ?_
  refine WC.region ?_
  refine WL.so (SO.callP Try.call14 rfl (fun w hI => alive_g _ _ hI.imm)) rfl ?_
  rintro _ _ _ ⟨rfl, rfl, rfl⟩
  refine WL.yd (Yd.assign rfl) rfl ?_
  refine WL.nil ?_
  refine WP.thenC ?_
  refine WC.ret ?_
  refine WP.thenRet ?_
  refine WP.ret1 rfl rfl Try.results7 (RV.tmp rfl) (fun w hI => ⟨rfl, hI.keep⟩)

set_option maxRecDepth 100000 in
set_option maxHeartbeats 1000000 in
theorem places_a (p : Post) (a1 : Option Addr) (n1 c1 : Nat) (a2 : Option Addr) (n2 c2 : Nat) (D : Imm) (w : World) (hR : PostR D p a1 n1 a2 n2) (hH : Holds D w) (m1 m2 : Nat) (hl : ¬ (max (n1 : Int) (n2 : Int) > 40)) (hv : postB p = false) : Gives Try.prog 7 [.agg #[it p.post.lo, it p.post.hi, .slice a1 n1 c1, .slice a2 n2 c2], .int .u8 (m1 : Int), .int .u8 (m2 : Int)] w (.bool true) := by
  unfold Gives
  obtain rfl := hR.bath.len'
  obtain rfl := hR.claim.len'
  have hl1 := hR.len1
  have hl2 := hR.len2
  refine enter Try.func7 rfl 219 Try.ntmps7 (Nat.le_of_ble_eq_true rfl) (Inv.start hH) ?_
  refine WC.seq ?_
  refine WC.ofFr [(0, _), (1, _), (2, _)] ⟨rfl, rfl, rfl, trivial⟩ ?_
  refine WC.region ?_
  refine WL.so (SO.box rfl rfl) rfl ?_
  rintro _ _ _ ⟨b3, hb3, rfl, rfl, rfl⟩ -- NEW
  refine WL.yd (Yd.assign rfl) rfl ?_
  refine WL.nil ?_
  refine WP.thenC ?_
  refine WC.seq ?_
  refine WC.seq ?_
  refine WC.ofFr [(6, _), (3, _), (1, _), (2, _)] ⟨rfl, rfl, rfl, rfl, trivial⟩ ?_
  refine WC.region ?_
  refine WL.yd (Yd.loadN Try.isAgg27 Try.sizeOf27 rfl (vs := [_, _, _, _]) rfl (by first | exact RdN.own (k := 0) (n := 4) rfl rfl)) rfl ?_
  refine WL.so (SO.callP Try.call38 rfl (fun w hI => long_g _ _ _ _ _ _ _ _ _)) rfl ?_
  rintro _ _ _ ⟨rfl, rfl, rfl⟩
  refine WL.know 31 (.bool false) rfl (congrArg Value.bool (decide_eq_false hl)) ?_
  refine WL.yd (Yd.move rfl) rfl ?_
  refine WL.ydg rfl (Yd.loadN Try.isAgg27 Try.sizeOf27 rfl (vs := [_, _, _, _]) rfl (by first | exact RdN.own (k := 0) (n := 4) rfl rfl)) rfl ?_
  refine WL.sog rfl (SO.callP Try.call39 rfl (fun w hI => rpost_g p a1 _ c1 a2 _ c2 _ w hR hI.imm)) rfl ?_
  rintro _ _ _ ⟨rfl, rfl, rfl⟩
  refine WL.know 34 (.bool false) rfl (congrArg Value.bool hv) ?_
  refine WL.ydg rfl (Yd.not rfl) rfl ?_
  refine WL.yd (Yd.pickF rfl rfl) rfl ?_
  refine WL.yd (Yd.move rfl) rfl ?_
  refine WL.skip rfl rfl ?_
  refine WL.skip rfl rfl ?_
  refine WL.skip rfl rfl ?_
  refine WL.skip rfl rfl ?_
  refine WL.yd (Yd.pickT rfl rfl) rfl ?_
  refine WL.nil ?_
  refine WP.thenC ?_
  refine WC.condT rfl ?_
  refine WC.seq ?_
  refine WC.ofFr [(6, _), (3, _), (1, _), (2, _)] ⟨rfl, rfl, rfl, rfl, trivial⟩ ?_
  refine WC.region ?_
  refine WL.so (SO.callP Try.call14 rfl (fun w hI => alive_g _ _ hI.imm)) rfl ?_
  rintro _ _ _ ⟨rfl, rfl, rfl⟩
  refine WL.yd (Yd.assign rfl) rfl ?_
  refine WL.nil ?_
  refine WP.thenC ?_
  refine WC.ret ?_
  refine WP.thenRet ?_
  refine WP.ret1 rfl rfl Try.results7 (RV.tmp rfl) (fun w hI => ⟨rfl, hI.keep⟩)

set_option maxRecDepth 100000 in
set_option maxHeartbeats 1000000 in
theorem places_m (p : Post) (a1 : Option Addr) (n1 c1 : Nat) (a2 : Option Addr) (n2 c2 : Nat) (D : Imm) (w : World) (hR : PostR D p a1 n1 a2 n2) (hH : Holds D w) (m1 m2 : Nat) (hl : ¬ (max (n1 : Int) (n2 : Int) > 40)) (hv : postB p = true) (hm : 8 ≤ p.claims.length) : Gives Try.prog 7 [.agg #[it p.post.lo, it p.post.hi, .slice a1 n1 c1, .slice a2 n2 c2], .int .u8 (m1 : Int), .int .u8 (m2 : Int)] w (.bool true) := by
  unfold Gives
  obtain rfl := hR.bath.len'
  obtain rfl := hR.claim.len'
  have hl1 := hR.len1
  have hl2 := hR.len2
  refine enter Try.func7 rfl 219 Try.ntmps7 (Nat.le_of_ble_eq_true rfl) (Inv.start hH) ?_
  refine WC.seq ?_
  refine WC.ofFr [(0, _), (1, _), (2, _)] ⟨rfl, rfl, rfl, trivial⟩ ?_
  refine WC.region ?_
  refine WL.so (SO.box rfl rfl) rfl ?_
  rintro _ _ _ ⟨b3, hb3, rfl, rfl, rfl⟩ -- NEW
  refine WL.yd (Yd.assign rfl) rfl ?_
  refine WL.nil ?_
  refine WP.thenC ?_
  refine WC.seq ?_
  refine WC.seq ?_
  refine WC.ofFr [(6, _), (3, _), (1, _), (2, _)] ⟨rfl, rfl, rfl, rfl, trivial⟩ ?_
  refine WC.region ?_
  refine WL.yd (Yd.loadN Try.isAgg27 Try.sizeOf27 rfl (vs := [_, _, _, _]) rfl (by first | exact RdN.own (k := 0) (n := 4) rfl rfl)) rfl ?_
  refine WL.so (SO.callP Try.call38 rfl (fun w hI => long_g _ _ _ _ _ _ _ _ _)) rfl ?_
  rintro _ _ _ ⟨rfl, rfl, rfl⟩
  refine WL.know 31 (.bool false) rfl (congrArg Value.bool (decide_eq_false hl)) ?_
  refine WL.yd (Yd.move rfl) rfl ?_
  refine WL.ydg rfl (Yd.loadN Try.isAgg27 Try.sizeOf27 rfl (vs := [_, _, _, _]) rfl (by first | exact RdN.own (k := 0) (n := 4) rfl rfl)) rfl ?_
  refine WL.sog rfl (SO.callP Try.call39 rfl (fun w hI => rpost_g p a1 _ c1 a2 _ c2 _ w hR hI.imm)) rfl ?_
  rintro _ _ _ ⟨rfl, rfl, rfl⟩
  refine WL.know 34 (.bool true) rfl (congrArg Value.bool hv) ?_
  refine WL.ydg rfl (Yd.not rfl) rfl ?_
  refine WL.yd (Yd.pickF rfl rfl) rfl ?_
  refine WL.yd (Yd.move rfl) rfl ?_
  refine WL.ydg rfl (Yd.fieldAddr FA27_2 rfl) rfl ?_
  refine WL.ydg rfl (Yd.load1 Try.isAgg25 rfl (by first | exact Rd.own (k := 0) rfl rfl)) rfl ?_
  refine WL.ydg rfl (Yd.lenS rfl Try.underlying25 rfl) rfl ?_
  refine WL.ydg rfl (Yd.geq rfl rfl) rfl ?_
  refine WL.know 41 (.bool true) rfl (congrArg Value.bool (decide_eq_true (by omega))) ?_
  refine WL.yd (Yd.pickF rfl rfl) rfl ?_
  refine WL.nil ?_
  refine WP.thenC ?_
  refine WC.condT rfl ?_
  refine WC.seq ?_
  refine WC.ofFr [(6, _), (3, _), (1, _), (2, _)] ⟨rfl, rfl, rfl, rfl, trivial⟩ ?_
  refine WC.region ?_
  refine WL.so (SO.callP Try.call14 rfl (fun w hI => alive_g _ _ hI.imm)) rfl ?_
  rintro _ _ _ ⟨rfl, rfl, rfl⟩
  refine WL.yd (Yd.assign rfl) rfl ?_
  refine WL.nil ?_
  refine WP.thenC ?_
  refine WC.ret ?_
  refine WP.thenRet ?_
  refine WP.ret1 rfl rfl Try.results7 (RV.tmp rfl) (fun w hI => ⟨rfl, hI.keep⟩)

set_option maxRecDepth 100000 in
set_option maxHeartbeats 1000000 in
theorem places_b (p : Post) (a1 : Option Addr) (n1 c1 : Nat) (a2 : Option Addr) (n2 c2 : Nat) (D : Imm) (w : World) (hR : PostR D p a1 n1 a2 n2) (hH : Holds D w) (m1 m2 : Nat) (hm1 : m1 ≤ 255) (hm2 : m2 ≤ 255) (hl : ¬ (max (n1 : Int) (n2 : Int) > 40)) (hv : postB p = true) (hm : p.claims.length ≤ 7) (hok : okA p = false) : Gives Try.prog 7 [.agg #[it p.post.lo, it p.post.hi, .slice a1 n1 c1, .slice a2 n2 c2], .int .u8 (m1 : Int), .int .u8 (m2 : Int)] w (.bool true) := by
  unfold Gives
  obtain rfl := hR.bath.len'
  obtain rfl := hR.claim.len'
  have hl1 := hR.len1
  have hl2 := hR.len2
  have hx1 : 0 ≤ (m1 : Int) % ((p.bathers.length : Int) + 1) ∧ (m1 : Int) % ((p.bathers.length : Int) + 1) < (p.bathers.length : Int) + 1 := ⟨Int.emod_nonneg _ (by omega), Int.emod_lt_of_pos _ (by omega)⟩
  have hx2 : 0 ≤ (m2 : Int) % ((p.bathers.length : Int) + 1) ∧ (m2 : Int) % ((p.bathers.length : Int) + 1) < (p.bathers.length : Int) + 1 := ⟨Int.emod_nonneg _ (by omega), Int.emod_lt_of_pos _ (by omega)⟩
  refine enter Try.func7 rfl 219 Try.ntmps7 (Nat.le_of_ble_eq_true rfl) (Inv.start hH) ?_
  refine WC.seq ?_
  refine WC.ofFr [(0, _), (1, _), (2, _)] ⟨rfl, rfl, rfl, trivial⟩ ?_
  refine WC.region ?_
  refine WL.so (SO.box rfl rfl) rfl ?_
  rintro _ _ _ ⟨b3, hb3, rfl, rfl, rfl⟩ -- NEW
  refine WL.yd (Yd.assign rfl) rfl ?_
  refine WL.nil ?_
  refine WP.thenC ?_
  refine WC.seq ?_
  refine WC.seq ?_
  refine WC.ofFr [(6, _), (3, _), (1, _), (2, _)] ⟨rfl, rfl, rfl, rfl, trivial⟩ ?_
  refine WC.region ?_
  refine WL.yd (Yd.loadN Try.isAgg27 Try.sizeOf27 rfl (vs := [_, _, _, _]) rfl (by first | exact RdN.own (k := 0) (n := 4) rfl rfl)) rfl ?_
  refine WL.so (SO.callP Try.call38 rfl (fun w hI => long_g _ _ _ _ _ _ _ _ _)) rfl ?_
  rintro _ _ _ ⟨rfl, rfl, rfl⟩
  refine WL.know 31 (.bool false) rfl (congrArg Value.bool (decide_eq_false hl)) ?_
  refine WL.yd (Yd.move rfl) rfl ?_
  refine WL.ydg rfl (Yd.loadN Try.isAgg27 Try.sizeOf27 rfl (vs := [_, _, _, _]) rfl (by first | exact RdN.own (k := 0) (n := 4) rfl rfl)) rfl ?_
  refine WL.sog rfl (SO.callP Try.call39 rfl (fun w hI => rpost_g p a1 _ c1 a2 _ c2 _ w hR hI.imm)) rfl ?_
  rintro _ _ _ ⟨rfl, rfl, rfl⟩
  refine WL.know 34 (.bool true) rfl (congrArg Value.bool hv) ?_
  refine WL.ydg rfl (Yd.not rfl) rfl ?_
  refine WL.yd (Yd.pickF rfl rfl) rfl ?_
  refine WL.yd (Yd.move rfl) rfl ?_
  refine WL.ydg rfl (Yd.fieldAddr FA27_2 rfl) rfl ?_
  refine WL.ydg rfl (Yd.load1 Try.isAgg25 rfl (by first | exact Rd.own (k := 0) rfl rfl)) rfl ?_
  refine WL.ydg rfl (Yd.lenS rfl Try.underlying25 rfl) rfl ?_
  refine WL.ydg rfl (Yd.geq rfl rfl) rfl ?_
  refine WL.know 41 (.bool false) rfl (congrArg Value.bool (decide_eq_false (by omega))) ?_
  refine WL.yd (Yd.pickF rfl rfl) rfl ?_
  refine WL.nil ?_
  refine WP.thenC ?_
  refine WC.condF rfl ?_
  refine WC.skip ?_
  refine WP.thenC ?_
  refine WC.seq ?_
  refine WC.ofFr [(6, _), (3, _), (1, _), (2, _)] ⟨rfl, rfl, rfl, rfl, trivial⟩ ?_
  refine WC.region ?_
  refine WL.yd (Yd.fieldAddr FA27_1 rfl) rfl ?_
  refine WL.yd (Yd.load1 Try.isAgg24 rfl (by first | exact Rd.own (k := 0) rfl rfl)) rfl ?_
  refine WL.yd (Yd.lenS rfl Try.underlying24 rfl) rfl ?_
  refine WL.yd (Yd.add rfl rfl (wr64 ⟨by omega, by omega⟩)) rfl ?_
  refine WL.yd (Yd.assign rfl) rfl ?_
  refine WL.nil ?_
  refine WP.thenC ?_
  refine WC.seq ?_
  refine WC.ofFr [(7, _), (6, _), (3, _), (1, _), (2, _)] ⟨rfl, rfl, rfl, rfl, rfl, trivial⟩ ?_
  refine WC.tail 11 [0, 1, 2, 3, 4, 5, 6, 7, 8, 9, 10] rfl (by kernel_rfl) (by kernel_rfl)  ?_
  refine WQ.q rfl (Yd.qt (Yd.move rfl)) rfl ?_
  refine WQ.q rfl (Yd.qt (Yd.conv Try.underlying5 Try.underlying3 rfl (wr64 ⟨by omega, by omega⟩))) rfl ?_
  refine WQ.q rfl (Yd.qt (Yd.move rfl)) rfl ?_
  refine WQ.q rfl (Yd.qt (Yd.rem rfl rfl (by omega) (by omega))) rfl ?_
  refine WQ.q rfl (Yd.qt (Yd.sub rfl rfl (wr64 ⟨by omega, by omega⟩))) rfl ?_
  refine WQ.q rfl (Yd.qt (Yd.move rfl)) rfl ?_
  refine WQ.q rfl (Yd.qt (Yd.conv Try.underlying5 Try.underlying3 rfl (wr64 ⟨by omega, by omega⟩))) rfl ?_
  refine WQ.q rfl (Yd.qt (Yd.move rfl)) rfl ?_
  refine WQ.q rfl (Yd.qt (Yd.rem rfl rfl (by omega) (by omega))) rfl ?_
  refine WQ.q rfl (Yd.qt (Yd.sub rfl rfl (wr64 ⟨by omega, by omega⟩))) rfl ?_
  refine WQ.q rfl (Yd.qt (Yd.assign rfl)) rfl ?_
  refine WQ.tail ?_
  refine WL.yd (Yd.assign rfl) rfl ?_
  refine WL.nil ?_
  refine WP.thenC ?_
  refine WC.seq ?_
  generalize hEa : (m1 : Int) % ((p.bathers.length : Int) + 1) - 1 = a
  have hwa : whoP p a = true := decide_eq_true ⟨by omega, by omega⟩
  generalize hEb : (m2 : Int) % ((p.bathers.length : Int) + 1) - 1 = b
  have hwb : whoP p b = true := decide_eq_true ⟨by omega, by omega⟩
  refine WC.ofFr [(9, _), (8, _), (7, _), (6, _), (3, _)] ⟨rfl, rfl, rfl, rfl, rfl, trivial⟩ ?_
  refine WC.region ?_
  refine WL.yd (Yd.loadN Try.isAgg27 Try.sizeOf27 rfl (vs := [_, _, _, _]) rfl (by first | exact RdN.own (k := 0) (n := 4) rfl rfl)) rfl ?_
  refine WL.yd (Yd.move rfl) rfl ?_
  refine WL.so (SO.callP Try.call15 rfl (fun w hI => Gives.cv (.tuple #[.agg #[it 0, it 0], it 10]) (Place_g p a1 _ c1 a2 _ c2 _ w hR hI.imm a) (by rw [place_bad hv hok hwa]))) rfl ?_
  rintro _ _ _ ⟨rfl, rfl, rfl⟩
  refine WL.yd (Yd.move rfl) rfl ?_
  refine WL.yd (Yd.extract rfl rfl) rfl ?_
  refine WL.yd (Yd.extract rfl rfl) rfl ?_
  refine WL.so (SO.alloc Try.zeroValue23 rfl) rfl ?_
  rintro _ _ _ ⟨b10, hb10, rfl, rfl, rfl⟩ -- NEW
  refine WL.so (SO.store 0 rfl Try.sizeOf23 rfl rfl rfl rfl (Nat.le_of_ble_eq_true rfl) (oneB_spec rfl)) rfl ?_
  rintro _ _ _ ⟨rfl, rfl, rfl⟩
  refine WL.yd (Yd.assign rfl) rfl ?_
  refine WL.nil ?_
  refine WP.thenC ?_
  refine WC.seq ?_
  refine WC.ofFr [(11, _), (10, _), (9, _), (8, _), (7, _), (6, _), (3, _)] ⟨rfl, rfl, rfl, rfl, rfl, rfl, rfl, trivial⟩ ?_
  refine WC.region ?_
  refine WL.yd (Yd.loadN Try.isAgg27 Try.sizeOf27 rfl (vs := [_, _, _, _]) rfl (by first | exact RdN.own (k := 0) (n := 4) rfl rfl | exact RdN.own (k := 1) (n := 4) rfl rfl)) rfl ?_
  refine WL.yd (Yd.move rfl) rfl ?_
  refine WL.yd (Yd.move rfl) rfl ?_
  refine WL.so (SO.callP Try.call17 rfl (fun w hI => Gives.cv (.tuple #[it 0, it 10]) (Before_g p a1 _ c1 a2 _ c2 _ w hR hI.imm a b) (by rw [before_bad hv hok hwa hwb]))) rfl ?_
  rintro _ _ _ ⟨rfl, rfl, rfl⟩
  refine WL.yd (Yd.move rfl) rfl ?_
  refine WL.yd (Yd.extract rfl rfl) rfl ?_
  refine WL.yd (Yd.extract rfl rfl) rfl ?_
  refine WL.yd (Yd.assign rfl) rfl ?_
  refine WL.yd (Yd.assign rfl) rfl ?_
  refine WL.nil ?_
  refine WP.thenC ?_
  refine WC.seq ?_
  refine WC.ofFr [(13, _), (12, _), (11, _), (10, _), (9, _), (8, _), (7, _), (6, _), (3, _)] ⟨rfl, rfl, rfl, rfl, rfl, rfl, rfl, rfl, rfl, trivial⟩ ?_
  refine WC.region ?_
  refine WL.yd (Yd.loadN Try.isAgg27 Try.sizeOf27 rfl (vs := [_, _, _, _]) rfl (by first | exact RdN.own (k := 0) (n := 4) rfl rfl | exact RdN.own (k := 1) (n := 4) rfl rfl)) rfl ?_
  refine WL.so (SO.callP Try.call29 rfl (fun w hI => Gives.cv (.tuple #[it ((clashS p : Nat) : Int), it 0]) (Clash_g p a1 _ c1 a2 _ c2 _ w hR hI.imm) (by rw [clash_out hv hok]))) rfl ?_
  rintro _ _ _ ⟨rfl, rfl, rfl⟩
  refine WL.yd (Yd.move rfl) rfl ?_
  refine WL.yd (Yd.extract rfl rfl) rfl ?_
  refine WL.yd (Yd.extract rfl rfl) rfl ?_
  refine WL.yd (Yd.assign rfl) rfl ?_
  refine WL.yd (Yd.assign rfl) rfl ?_
  refine WL.nil ?_
  refine WP.thenC ?_
  refine WC.seq ?_
  refine WC.seq ?_
  refine WC.ofFr [(15, _), (13, _), (12, _), (11, _), (10, _), (9, _), (8, _), (7, _), (6, _), (3, _)] ⟨rfl, rfl, rfl, rfl, rfl, rfl, rfl, rfl, rfl, rfl, trivial⟩ ?_
  refine WC.region ?_
  refine WL.yd (Yd.move rfl) rfl ?_
  refine WL.yd (Yd.move rfl) rfl ?_
  refine WL.yd (Yd.neq rfl rfl) rfl ?_
  refine WL.know 78 (.bool false) rfl (congrArg Value.bool (decide_eq_false (by simp))) ?_
  refine WL.yd (Yd.move rfl) rfl ?_
  refine WL.ydg rfl (Yd.move rfl) rfl ?_
  refine WL.ydg rfl (Yd.eql rfl rfl) rfl ?_
  refine WL.ydg rfl (Yd.move rfl) rfl ?_
  refine WL.ydg rfl (Yd.eql rfl rfl) rfl ?_
  refine WL.ydg rfl (Yd.neB Try.underlying4 rfl rfl) rfl ?_
  refine WL.know 84 (.bool false) rfl (congrArg Value.bool (by decide)) ?_
  refine WL.yd (Yd.pickF rfl rfl) rfl ?_
  refine WL.nil ?_
  refine WP.thenC ?_
  refine WC.condF rfl ?_
  refine WC.skip ?_
  refine WP.thenC ?_
  refine WC.seq ?_
  refine WC.seq ?_
  refine WC.ofFr [(12, _), (11, _), (10, _), (9, _), (8, _), (7, _), (6, _), (3, _)] ⟨rfl, rfl, rfl, rfl, rfl, rfl, rfl, rfl, trivial⟩ ?_
  refine WC.region ?_
  refine WL.yd (Yd.move rfl) rfl ?_
  refine WL.yd (Yd.neq rfl rfl) rfl ?_
  refine WL.know 87 (.bool true) rfl (congrArg Value.bool (by decide)) ?_
  refine WL.nil ?_
  refine WP.thenC ?_
  refine WC.condT rfl ?_
  refine WC.seq ?_
  refine WC.ofFr [(12, _), (11, _), (10, _), (9, _), (8, _), (7, _), (6, _), (3, _)] ⟨rfl, rfl, rfl, rfl, rfl, rfl, rfl, rfl, trivial⟩ ?_
  refine WC.region ?_
  refine WL.yd (Yd.move rfl) rfl ?_
  refine WL.yd (Yd.eql rfl rfl) rfl ?_
  refine WL.know 89 (.bool true) rfl (congrArg Value.bool (by decide)) ?_
  refine WL.yd (Yd.move rfl) rfl ?_
  refine WL.ydg rfl (Yd.loadN Try.isAgg23 Try.sizeOf23 rfl (vs := [_, _]) rfl (by first | exact RdN.own (k := 0) (n := 2) rfl rfl | exact RdN.own (k := 1) (n := 2) rfl rfl)) rfl ?_
  refine WL.ydg rfl (Yd.build SA23 rfl (cs := [_, _]) rfl) rfl ?_
  refine WL.ydg rfl (Yd.eqS Try.eqGuardType23 (eq23 _ _ _ _) rfl rfl) rfl ?_
  refine WL.know 93 (.bool true) rfl (congrArg Value.bool (decide_eq_true rfl)) ?_
  refine WL.yd (Yd.pickT rfl rfl) rfl ?_
  refine WL.yd (Yd.move rfl) rfl ?_
  refine WL.ydg rfl (Yd.move rfl) rfl ?_
  refine WL.ydg rfl (Yd.eql rfl rfl) rfl ?_
  refine WL.know 97 (.bool true) rfl (congrArg Value.bool (by decide)) ?_
  refine WL.yd (Yd.pickT rfl rfl) rfl ?_
  refine WL.yd (Yd.move rfl) rfl ?_
  refine WL.sog rfl (SO.callP Try.call14 rfl (fun w hI => alive_g _ _ hI.imm)) rfl ?_
  rintro _ _ _ ⟨rfl, rfl, rfl⟩
  refine WL.know 100 (.bool true) rfl rfl ?_
  refine WL.yd (Yd.pickT rfl rfl) rfl ?_
  refine WL.yd (Yd.assign rfl) rfl ?_
  refine WL.nil ?_
  refine WP.thenC ?_
  refine WC.ret ?_
  refine WP.thenRet ?_
  refine WP.ret1 rfl rfl Try.results7 (RV.tmp rfl) (fun w hI => ⟨rfl, hI.keep⟩)

set_option maxRecDepth 100000 in
set_option maxHeartbeats 1000000 in
theorem places_o (p : Post) (a1 : Option Addr) (n1 c1 : Nat) (a2 : Option Addr) (n2 c2 : Nat) (D : Imm) (w : World) (hR : PostR D p a1 n1 a2 n2) (hH : Holds D w) (m1 m2 : Nat) (hm1 : m1 ≤ 255) (hm2 : m2 ≤ 255) (hl : ¬ (max (n1 : Int) (n2 : Int) > 40)) (hv : postB p = true) (hm : p.claims.length ≤ 7) (hok : okA p = true) : Gives Try.prog 7 [.agg #[it p.post.lo, it p.post.hi, .slice a1 n1 c1, .slice a2 n2 c2], .int .u8 (m1 : Int), .int .u8 (m2 : Int)] w (.bool true) := by
  unfold Gives
  obtain rfl := hR.bath.len'
  obtain rfl := hR.claim.len'
  have hl1 := hR.len1
  have hl2 := hR.len2
  have hx1 : 0 ≤ (m1 : Int) % ((p.bathers.length : Int) + 1) ∧ (m1 : Int) % ((p.bathers.length : Int) + 1) < (p.bathers.length : Int) + 1 := ⟨Int.emod_nonneg _ (by omega), Int.emod_lt_of_pos _ (by omega)⟩
  have hx2 : 0 ≤ (m2 : Int) % ((p.bathers.length : Int) + 1) ∧ (m2 : Int) % ((p.bathers.length : Int) + 1) < (p.bathers.length : Int) + 1 := ⟨Int.emod_nonneg _ (by omega), Int.emod_lt_of_pos _ (by omega)⟩
  refine enter Try.func7 rfl 219 Try.ntmps7 (Nat.le_of_ble_eq_true rfl) (Inv.start hH) ?_
  refine WC.seq ?_
  refine WC.ofFr [(0, _), (1, _), (2, _)] ⟨rfl, rfl, rfl, trivial⟩ ?_
  refine WC.region ?_
  refine WL.so (SO.box rfl rfl) rfl ?_
  rintro _ _ _ ⟨b3, hb3, rfl, rfl, rfl⟩ -- NEW
  refine WL.yd (Yd.assign rfl) rfl ?_
  refine WL.nil ?_
  refine WP.thenC ?_
  refine WC.seq ?_
  refine WC.seq ?_
  refine WC.ofFr [(6, _), (3, _), (1, _), (2, _)] ⟨rfl, rfl, rfl, rfl, trivial⟩ ?_
  refine WC.region ?_
  refine WL.yd (Yd.loadN Try.isAgg27 Try.sizeOf27 rfl (vs := [_, _, _, _]) rfl (by first | exact RdN.own (k := 0) (n := 4) rfl rfl | exact (hR.bath.at a.toNat (by omega)).rdn 1 2 rfl)) rfl ?_
  refine WL.so (SO.callP Try.call38 rfl (fun w hI => long_g _ _ _ _ _ _ _ _ _)) rfl ?_
  rintro _ _ _ ⟨rfl, rfl, rfl⟩
  refine WL.know 31 (.bool false) rfl (congrArg Value.bool (decide_eq_false hl)) ?_
  refine WL.yd (Yd.move rfl) rfl ?_
  refine WL.ydg rfl (Yd.loadN Try.isAgg27 Try.sizeOf27 rfl (vs := [_, _, _, _]) rfl (by first | exact RdN.own (k := 0) (n := 4) rfl rfl | exact (hR.bath.at a.toNat (by omega)).rdn 1 2 rfl)) rfl ?_
  refine WL.sog rfl (SO.callP Try.call39 rfl (fun w hI => rpost_g p a1 _ c1 a2 _ c2 _ w hR hI.imm)) rfl ?_
  rintro _ _ _ ⟨rfl, rfl, rfl⟩
  refine WL.know 34 (.bool true) rfl (congrArg Value.bool hv) ?_
  refine WL.ydg rfl (Yd.not rfl) rfl ?_
  refine WL.yd (Yd.pickF rfl rfl) rfl ?_
  refine WL.yd (Yd.move rfl) rfl ?_
  refine WL.ydg rfl (Yd.fieldAddr FA27_2 rfl) rfl ?_
  refine WL.ydg rfl (Yd.load1 Try.isAgg25 rfl (by first | exact Rd.own (k := 0) rfl rfl)) rfl ?_
  refine WL.ydg rfl (Yd.lenS rfl Try.underlying25 rfl) rfl ?_
  refine WL.ydg rfl (Yd.geq rfl rfl) rfl ?_
  refine WL.know 41 (.bool false) rfl (congrArg Value.bool (decide_eq_false (by omega))) ?_
  refine WL.yd (Yd.pickF rfl rfl) rfl ?_
  refine WL.nil ?_
  refine WP.thenC ?_
  refine WC.condF rfl ?_
  refine WC.skip ?_
  refine WP.thenC ?_
  refine WC.seq ?_
  refine WC.ofFr [(6, _), (3, _), (1, _), (2, _)] ⟨rfl, rfl, rfl, rfl, trivial⟩ ?_
  refine WC.region ?_
  refine WL.yd (Yd.fieldAddr FA27_1 rfl) rfl ?_
  refine WL.yd (Yd.load1 Try.isAgg24 rfl (by first | exact Rd.own (k := 0) rfl rfl)) rfl ?_
  refine WL.yd (Yd.lenS rfl Try.underlying24 rfl) rfl ?_
  refine WL.yd (Yd.add rfl rfl (wr64 ⟨by omega, by omega⟩)) rfl ?_
  refine WL.yd (Yd.assign rfl) rfl ?_
  refine WL.nil ?_
  refine WP.thenC ?_
  refine WC.seq ?_
  refine WC.ofFr [(7, _), (6, _), (3, _), (1, _), (2, _)] ⟨rfl, rfl, rfl, rfl, rfl, trivial⟩ ?_
  refine WC.tail 11 [0, 1, 2, 3, 4, 5, 6, 7, 8, 9, 10] rfl (by kernel_rfl) (by kernel_rfl)  ?_
  refine WQ.q rfl (Yd.qt (Yd.move rfl)) rfl ?_
  refine WQ.q rfl (Yd.qt (Yd.conv Try.underlying5 Try.underlying3 rfl (wr64 ⟨by omega, by omega⟩))) rfl ?_
  refine WQ.q rfl (Yd.qt (Yd.move rfl)) rfl ?_
  refine WQ.q rfl (Yd.qt (Yd.rem rfl rfl (by omega) (by omega))) rfl ?_
  refine WQ.q rfl (Yd.qt (Yd.sub rfl rfl (wr64 ⟨by omega, by omega⟩))) rfl ?_
  refine WQ.q rfl (Yd.qt (Yd.move rfl)) rfl ?_
  refine WQ.q rfl (Yd.qt (Yd.conv Try.underlying5 Try.underlying3 rfl (wr64 ⟨by omega, by omega⟩))) rfl ?_
  refine WQ.q rfl (Yd.qt (Yd.move rfl)) rfl ?_
  refine WQ.q rfl (Yd.qt (Yd.rem rfl rfl (by omega) (by omega))) rfl ?_
  refine WQ.q rfl (Yd.qt (Yd.sub rfl rfl (wr64 ⟨by omega, by omega⟩))) rfl ?_
  refine WQ.q rfl (Yd.qt (Yd.assign rfl)) rfl ?_
  refine WQ.tail ?_
  refine WL.yd (Yd.assign rfl) rfl ?_
  refine WL.nil ?_
  refine WP.thenC ?_
  refine WC.seq ?_
  generalize hEa : (m1 : Int) % ((p.bathers.length : Int) + 1) - 1 = a
  have hwa : whoP p a = true := decide_eq_true ⟨by omega, by omega⟩
  generalize hEb : (m2 : Int) % ((p.bathers.length : Int) + 1) - 1 = b
  have hwb : whoP p b = true := decide_eq_true ⟨by omega, by omega⟩
  have hos := own_in hv hok hwa
  refine WC.ofFr [(9, _), (8, _), (7, _), (6, _), (3, _)] ⟨rfl, rfl, rfl, rfl, rfl, trivial⟩ ?_
  refine WC.region ?_
  refine WL.yd (Yd.loadN Try.isAgg27 Try.sizeOf27 rfl (vs := [_, _, _, _]) rfl (by first | exact RdN.own (k := 0) (n := 4) rfl rfl | exact (hR.bath.at a.toNat (by omega)).rdn 1 2 rfl)) rfl ?_
  refine WL.yd (Yd.move rfl) rfl ?_
  refine WL.so (SO.callP Try.call15 rfl (fun w hI => Gives.cv (.tuple #[.agg #[it (-GA p (ix a) 0), it (GA p 0 (ix a))], it 0]) (Place_g p a1 _ c1 a2 _ c2 _ w hR hI.imm a) (by rw [place_out hv hok hwa]))) rfl ?_
  rintro _ _ _ ⟨rfl, rfl, rfl⟩
  refine WL.yd (Yd.move rfl) rfl ?_
  refine WL.yd (Yd.extract rfl rfl) rfl ?_
  refine WL.yd (Yd.extract rfl rfl) rfl ?_
  refine WL.so (SO.alloc Try.zeroValue23 rfl) rfl ?_
  rintro _ _ _ ⟨b10, hb10, rfl, rfl, rfl⟩ -- NEW
  refine WL.so (SO.store 0 rfl Try.sizeOf23 rfl rfl rfl rfl (Nat.le_of_ble_eq_true rfl) (oneB_spec rfl)) rfl ?_
  rintro _ _ _ ⟨rfl, rfl, rfl⟩
  refine WL.yd (Yd.assign rfl) rfl ?_
  refine WL.nil ?_
  refine WP.thenC ?_
  refine WC.seq ?_
  refine WC.ofFr [(11, _), (10, _), (9, _), (8, _), (7, _), (6, _), (3, _)] ⟨rfl, rfl, rfl, rfl, rfl, rfl, rfl, trivial⟩ ?_
  refine WC.region ?_
  refine WL.yd (Yd.loadN Try.isAgg27 Try.sizeOf27 rfl (vs := [_, _, _, _]) rfl (by first | exact RdN.own (k := 0) (n := 4) rfl rfl | exact RdN.own (k := 1) (n := 4) rfl rfl | exact (hR.bath.at a.toNat (by omega)).rdn 1 2 rfl)) rfl ?_
  refine WL.yd (Yd.move rfl) rfl ?_
  refine WL.yd (Yd.move rfl) rfl ?_
  refine WL.so (SO.callP Try.call17 rfl (fun w hI => Gives.cv (.tuple #[it (befG p a b), it 0]) (Before_g p a1 _ c1 a2 _ c2 _ w hR hI.imm a b) (by rw [before_out hv hok hwa hwb]; rfl))) rfl ?_
  rintro _ _ _ ⟨rfl, rfl, rfl⟩
  refine WL.yd (Yd.move rfl) rfl ?_
  refine WL.yd (Yd.extract rfl rfl) rfl ?_
  refine WL.yd (Yd.extract rfl rfl) rfl ?_
  refine WL.yd (Yd.assign rfl) rfl ?_
  refine WL.yd (Yd.assign rfl) rfl ?_
  refine WL.nil ?_
  refine WP.thenC ?_
  refine WC.seq ?_
  refine WC.ofFr [(13, _), (12, _), (11, _), (10, _), (9, _), (8, _), (7, _), (6, _), (3, _)] ⟨rfl, rfl, rfl, rfl, rfl, rfl, rfl, rfl, rfl, trivial⟩ ?_
  refine WC.region ?_
  refine WL.yd (Yd.loadN Try.isAgg27 Try.sizeOf27 rfl (vs := [_, _, _, _]) rfl (by first | exact RdN.own (k := 0) (n := 4) rfl rfl | exact RdN.own (k := 1) (n := 4) rfl rfl | exact (hR.bath.at a.toNat (by omega)).rdn 1 2 rfl)) rfl ?_
  refine WL.so (SO.callP Try.call29 rfl (fun w hI => Gives.cv (.tuple #[it 0, it 4]) (Clash_g p a1 _ c1 a2 _ c2 _ w hR hI.imm) (by rw [clash_none hv hok]))) rfl ?_
  rintro _ _ _ ⟨rfl, rfl, rfl⟩
  refine WL.yd (Yd.move rfl) rfl ?_
  refine WL.yd (Yd.extract rfl rfl) rfl ?_
  refine WL.yd (Yd.extract rfl rfl) rfl ?_
  refine WL.yd (Yd.assign rfl) rfl ?_
  refine WL.yd (Yd.assign rfl) rfl ?_
  refine WL.nil ?_
  refine WP.thenC ?_
  refine WC.seq ?_
  refine WC.seq ?_
  refine WC.ofFr [(15, _), (13, _), (12, _), (11, _), (10, _), (9, _), (8, _), (7, _), (6, _), (3, _)] ⟨rfl, rfl, rfl, rfl, rfl, rfl, rfl, rfl, rfl, rfl, trivial⟩ ?_
  refine WC.region ?_
  refine WL.yd (Yd.move rfl) rfl ?_
  refine WL.yd (Yd.move rfl) rfl ?_
  refine WL.yd (Yd.neq rfl rfl) rfl ?_
  refine WL.know 78 (.bool false) rfl (congrArg Value.bool (decide_eq_false (by simp))) ?_
  refine WL.yd (Yd.move rfl) rfl ?_
  refine WL.ydg rfl (Yd.move rfl) rfl ?_
  refine WL.ydg rfl (Yd.eql rfl rfl) rfl ?_
  refine WL.ydg rfl (Yd.move rfl) rfl ?_
  refine WL.ydg rfl (Yd.eql rfl rfl) rfl ?_
  refine WL.ydg rfl (Yd.neB Try.underlying4 rfl rfl) rfl ?_
  refine WL.know 84 (.bool false) rfl (congrArg Value.bool (by decide)) ?_
  refine WL.yd (Yd.pickF rfl rfl) rfl ?_
  refine WL.nil ?_
  refine WP.thenC ?_
  refine WC.condF rfl ?_
  refine WC.skip ?_
  refine WP.thenC ?_
  refine WC.seq ?_
  refine WC.seq ?_
  refine WC.ofFr [(12, _), (11, _), (10, _), (9, _), (8, _), (7, _), (6, _), (3, _)] ⟨rfl, rfl, rfl, rfl, rfl, rfl, rfl, rfl, trivial⟩ ?_
  refine WC.region ?_
  refine WL.yd (Yd.move rfl) rfl ?_
  refine WL.yd (Yd.neq rfl rfl) rfl ?_
  refine WL.know 87 (.bool false) rfl (congrArg Value.bool (decide_eq_false (by simp))) ?_
  refine WL.nil ?_
  refine WP.thenC ?_
  refine WC.condF rfl ?_
  refine WC.skip ?_
  refine WP.thenC ?_
  refine WC.seq ?_
  refine WC.ofFr [(12, _), (10, _), (9, _), (8, _), (7, _), (6, _), (3, _)] ⟨rfl, rfl, rfl, rfl, rfl, rfl, rfl, trivial⟩ ?_
  refine WC.region ?_
  refine WL.yd (Yd.fieldAddr FA27_0 rfl) rfl ?_
  refine WL.yd (Yd.loadN Try.isAgg23 Try.sizeOf23 rfl (vs := [_, _]) rfl (by first | exact RdN.own (k := 0) (n := 2) rfl rfl | exact RdN.own (k := 1) (n := 2) rfl rfl | exact (hR.bath.at a.toNat (by omega)).rdn 1 2 rfl)) rfl ?_
  refine WL.so (SO.alloc Try.zeroValue23 rfl) rfl ?_
  rintro _ _ _ ⟨b16, hb16, rfl, rfl, rfl⟩ -- NEW
  refine WL.so (SO.store 0 rfl Try.sizeOf23 rfl rfl rfl rfl (Nat.le_of_ble_eq_true rfl) (oneB_spec rfl)) rfl ?_
  rintro _ _ _ ⟨rfl, rfl, rfl⟩
  refine WL.nil ?_
  refine WP.thenC ?_
  refine WC.seqJ (fun _ : Unit => [(3, pt b3), (7, it ((p.bathers.length : Int) + 1)), (8, it a), (9, it b), (10, pt b10), (12, it (befG p a b)), (16, pt b16)]) (fun _ => [(b16, .cells (List.toArray [it (ownS p a).lo, it (ownS p a).hi]) 23 (0, 0)), (b10, .cells (List.toArray [it (-GA p (ix a) 0), it (GA p 0 (ix a))]) 23 (0, 0)), (b3, .cells (List.toArray [it p.post.lo, it p.post.hi, .slice a1 p.bathers.length c1, .slice a2 p.claims.length c2]) 27 (0, 0))]) (fun _ => D) (fun _ => True) ?_ ?_
  · rintro _ _
    refine WC.seq ?_
    refine WC.seq ?_
    refine WC.ofFr [(3, _), (7, _), (8, _), (9, _), (10, _), (12, _), (16, _)] ⟨rfl, rfl, rfl, rfl, rfl, rfl, rfl, trivial⟩ ?_
    refine WC.region ?_
    refine WL.yd (Yd.fieldAddr FA23_0 rfl) rfl ?_
    refine WL.yd (Yd.load1 Try.isAgg3 rfl (by first | exact Rd.own (k := 0) rfl rfl | exact Rd.own (k := 1) rfl rfl | exact Rd.own (k := 2) rfl rfl)) rfl ?_
    refine WL.yd (Yd.fieldAddr FA23_1 rfl) rfl ?_
    refine WL.yd (Yd.load1 Try.isAgg3 rfl (by first | exact Rd.own (k := 0) rfl rfl | exact Rd.own (k := 1) rfl rfl | exact Rd.own (k := 2) rfl rfl)) rfl ?_
    refine WL.yd (Yd.gtr rfl rfl) rfl ?_
    refine WL.know 116 (.bool false) rfl (congrArg Value.bool (decide_eq_false (by omega))) ?_
    refine WL.yd (Yd.move rfl) rfl ?_
    refine WL.ydg rfl (Yd.fieldAddr FA23_0 rfl) rfl ?_
    refine WL.ydg rfl (Yd.load1 Try.isAgg3 rfl (by first | exact Rd.own (k := 0) rfl rfl | exact Rd.own (k := 1) rfl rfl | exact Rd.own (k := 2) rfl rfl)) rfl ?_
    refine WL.ydg rfl (Yd.fieldAddr FA23_0 rfl) rfl ?_
    refine WL.ydg rfl (Yd.load1 Try.isAgg3 rfl (by first | exact Rd.own (k := 0) rfl rfl | exact Rd.own (k := 1) rfl rfl | exact Rd.own (k := 2) rfl rfl)) rfl ?_
    refine WL.ydg rfl (Yd.lss rfl rfl) rfl ?_
    refine WL.know 122 (.bool false) rfl (congrArg Value.bool (decide_eq_false (by omega))) ?_
    refine WL.yd (Yd.pickF rfl rfl) rfl ?_
    refine WL.yd (Yd.move rfl) rfl ?_
    refine WL.ydg rfl (Yd.fieldAddr FA23_1 rfl) rfl ?_
    refine WL.ydg rfl (Yd.load1 Try.isAgg3 rfl (by first | exact Rd.own (k := 0) rfl rfl | exact Rd.own (k := 1) rfl rfl | exact Rd.own (k := 2) rfl rfl)) rfl ?_
    refine WL.ydg rfl (Yd.fieldAddr FA23_1 rfl) rfl ?_
    refine WL.ydg rfl (Yd.load1 Try.isAgg3 rfl (by first | exact Rd.own (k := 0) rfl rfl | exact Rd.own (k := 1) rfl rfl | exact Rd.own (k := 2) rfl rfl)) rfl ?_
    refine WL.ydg rfl (Yd.gtr rfl rfl) rfl ?_
    refine WL.know 129 (.bool false) rfl (congrArg Value.bool (decide_eq_false (by omega))) ?_
    refine WL.yd (Yd.pickF rfl rfl) rfl ?_
    refine WL.nil ?_
    refine WP.thenC ?_
    refine WC.condF rfl ?_
    refine WC.skip ?_
    refine WP.thenC ?_
    refine WC.seq ?_
    refine WC.seq ?_
    refine WC.ofFr [(3, _), (7, _), (8, _), (9, _), (10, _), (12, _), (16, _)] ⟨rfl, rfl, rfl, rfl, rfl, rfl, rfl, trivial⟩ ?_
    refine WC.region ?_
    refine WL.yd (Yd.fieldAddr FA23_0 rfl) rfl ?_
    refine WL.yd (Yd.load1 Try.isAgg3 rfl (by first | exact Rd.own (k := 0) rfl rfl | exact Rd.own (k := 1) rfl rfl | exact Rd.own (k := 2) rfl rfl)) rfl ?_
    refine WL.yd (Yd.assign rfl) rfl ?_
    refine WL.nil ?_
    refine WP.thenC ?_
    refine WC.block ?_
    refine WC.loopF (fun k : Int => [(3, pt b3), (7, it ((p.bathers.length : Int) + 1)), (8, it a), (9, it b), (10, pt b10), (12, it (befG p a b)), (16, pt b16), (17, it k)]) (fun k => (ownS p a).lo ≤ k ∧ k ≤ (ownS p a).hi + 1) (fun k => ((ownS p a).hi + 1 - k).toNat) (ownS p a).lo ⟨by omega, by omega⟩ (by exact ⟨rfl, rfl, rfl, rfl, rfl, rfl, rfl, rfl, trivial⟩) ?_
    rintro k ⟨hk1, hk2⟩
    refine WC.seq ?_
    refine WC.seq ?_
    refine WC.ofFr [(3, _), (7, _), (8, _), (9, _), (10, _), (12, _), (16, _), (17, _)] ⟨rfl, rfl, rfl, rfl, rfl, rfl, rfl, rfl, trivial⟩ ?_
    refine WC.region ?_
    refine WL.yd (Yd.move rfl) rfl ?_
    refine WL.yd (Yd.fieldAddr FA23_1 rfl) rfl ?_
    refine WL.yd (Yd.load1 Try.isAgg3 rfl (by first | exact Rd.own (k := 0) rfl rfl | exact Rd.own (k := 1) rfl rfl | exact Rd.own (k := 2) rfl rfl)) rfl ?_
    refine WL.yd (Yd.leq rfl rfl) rfl ?_
    refine WL.nil ?_
    refine WP.thenC ?_
    refine WC.cond rfl (fun c136 => ?_) (fun c136 => ?_)
    · try simp only [zq1, zq2, zq3, zq4, zq5, zq6, zq7, zq8] at c136
      refine WC.skip ?_
      refine WP.thenC ?_
      refine WC.seq ?_
      refine WC.block ?_
      refine WC.seq ?_
      refine WC.ofFr [(3, _), (7, _), (8, _), (9, _), (10, _), (12, _), (16, _), (17, _)] ⟨rfl, rfl, rfl, rfl, rfl, rfl, rfl, rfl, trivial⟩ ?_
      refine WC.region ?_
      refine WL.yd (Yd.loadN Try.isAgg27 Try.sizeOf27 rfl (vs := [_, _, _, _]) rfl (by first | exact RdN.own (k := 0) (n := 4) rfl rfl | exact RdN.own (k := 1) (n := 4) rfl rfl | exact RdN.own (k := 2) (n := 4) rfl rfl | exact (hR.bath.at a.toNat (by omega)).rdn 1 2 rfl)) rfl ?_
      refine WL.yd (Yd.move rfl) rfl ?_
      refine WL.yd (Yd.move rfl) rfl ?_
      refine WL.so (SO.makes (Enters.func Try.call40 rfl) (fun w hI => at_g p a1 _ c1 a2 _ c2 _ w hR hI.imm a k hwa)) rfl ?_
      rintro _ D8 _ ⟨hX8, ⟨a8, c8, rfl, hR8⟩, rfl⟩
      refine WL.so (SO.callP Try.call29 rfl (fun w hI => Clash_g (spotP p a k) a8 _ c8 a2 _ c2 _ w hR8 hI.imm)) rfl ?_
      rintro _ _ _ ⟨rfl, rfl, rfl⟩
      refine WL.yd (Yd.move rfl) rfl ?_
      refine WL.yd (Yd.extract rfl rfl) rfl ?_
      refine WL.yd (Yd.extract rfl rfl) rfl ?_
      refine WL.yd (Yd.assign rfl) rfl ?_
      refine WL.yd (Yd.assign rfl) rfl ?_
      refine WL.nil ?_
      refine WP.thenC ?_
      refine WC.seq ?_
      refine WC.ofFr [(19, _), (3, _), (7, _), (8, _), (9, _), (10, _), (12, _), (16, _), (17, _)] ⟨rfl, rfl, rfl, rfl, rfl, rfl, rfl, rfl, rfl, trivial⟩ ?_
      refine WC.region ?_
      refine WL.yd (Yd.move rfl) rfl ?_
      refine WL.yd (Yd.eql rfl rfl) rfl ?_
      refine WL.yd (Yd.move rfl) rfl ?_
      refine WL.yd (Yd.loadN Try.isAgg23 Try.sizeOf23 rfl (vs := [_, _]) rfl (by first | exact RdN.own (k := 0) (n := 2) rfl rfl | exact RdN.own (k := 1) (n := 2) rfl rfl | exact RdN.own (k := 2) (n := 2) rfl rfl | exact (hR.bath.at a.toNat (by omega)).rdn 1 2 rfl)) rfl ?_
      refine WL.so (SO.callP Try.call37 rfl (fun w hI => inside_g _ _ _ _)) rfl ?_
      rintro _ _ _ ⟨rfl, rfl, rfl⟩
      refine WL.yd (Yd.neB Try.underlying4 rfl rfl) rfl ?_
      refine WL.know 152 (.bool false) rfl (congrArg Value.bool (bne_and (spot_clash hv hok hwa ⟨hk1, by omega⟩))) ?_
      refine WL.nil ?_
      refine WP.thenC ?_
      refine WC.condF rfl ?_
      refine WC.skip ?_
      refine WP.blkNormal ?_
      refine WP.thenC ?_
      refine WC.ofFr [(3, _), (7, _), (8, _), (9, _), (10, _), (12, _), (16, _), (17, _)] ⟨rfl, rfl, rfl, rfl, rfl, rfl, rfl, rfl, trivial⟩ ?_
      refine WC.region ?_
      refine WL.yd (Yd.move rfl) rfl ?_
      refine WL.yd (Yd.add rfl rfl (wr64 ⟨by omega, by omega⟩)) rfl ?_
      refine WL.yd (Yd.assign rfl) rfl ?_
      refine WL.nil ?_
      exact WP.againS (k + 1) ⟨by omega, by omega⟩ (by omega) ⟨rfl, rfl, rfl, rfl, rfl, rfl, rfl, rfl, trivial⟩ (fun _ h => h) (fun h => h) hX8.old
    · try simp only [zq1, zq2, zq3, zq4, zq5, zq6, zq7, zq8] at c136
      refine WC.exit ?_
      refine WP.thenExit ?_
      refine WP.thenExit ?_
      refine WP.blkHit ?_
      refine WP.thenC ?_
      refine WC.seq ?_
      refine WC.ofFr [(3, _), (7, _), (8, _), (9, _), (12, _)] ⟨rfl, rfl, rfl, rfl, rfl, trivial⟩ ?_
      refine WC.draw [(0, true), (1, true), (2, true), (3, false), (4, false), (5, false), (6, true), (7, true), (8, true), (9, true), (10, true)] (by kernel_rfl) (by kernel_rfl) (QuietPanic.then QuietPanic.body) ?_
      refine WA.yd rfl (Yd.loadN Try.isAgg27 Try.sizeOf27 rfl (vs := [_, _, _, _]) rfl (by first | exact RdN.own (k := 0) (n := 4) rfl rfl | exact RdN.own (k := 1) (n := 4) rfl rfl | exact RdN.own (k := 2) (n := 4) rfl rfl | exact (hR.bath.at a.toNat (by omega)).rdn 1 2 rfl)) rfl ?_
      refine WA.yd rfl (Yd.move rfl) rfl ?_
      refine WA.yd rfl (Yd.move rfl) rfl ?_
      refine WA.so rfl (SO.callP Try.call33 rfl (fun w hI => lbef_g _ _ _)) rfl ?_
      rintro _ _ _ ⟨rfl, rfl, rfl⟩
      refine ⟨fun _ hI => hI, ?_⟩
      refine WA.so rfl (SO.makes (Enters.func Try.call41 rfl) (fun w hI => with_g p a1 _ c1 a2 _ c2 _ w hR hI.imm ⟨a, b, false⟩)) rfl ?_
      rintro _ D6 _ ⟨hX6, ⟨a6, c6, rfl, hR6⟩, rfl⟩
      replace hR6 := hR6 (by omega)
      replace hR := hR.ext hX6
      refine ⟨fun _ hI => hI.shrink hX6.old, ?_⟩
      refine WA.so rfl (SO.callP Try.call29 rfl (fun w hI => Clash_g (withP p ⟨a, b, false⟩) a1 _ c1 a6 _ c6 _ w hR6 hI.imm)) rfl ?_
      rintro _ _ _ ⟨rfl, rfl, rfl⟩
      refine ⟨fun _ hI => hI.shrink hX6.old, ?_⟩
      refine WA.yd rfl (Yd.move rfl) rfl ?_
      refine WA.yd rfl (Yd.extract rfl rfl) rfl ?_
      refine WA.yd rfl (Yd.extract rfl rfl) rfl ?_
      refine WA.yd rfl (Yd.assign rfl) rfl ?_
      refine WA.yd rfl (Yd.assign rfl) rfl ?_
      refine WA.nil ?_
      refine WP.thenC ?_
      refine WC.seq ?_
      refine WC.ofFr [(21, _), (3, _), (7, _), (8, _), (9, _), (12, _)] ⟨rfl, rfl, rfl, rfl, rfl, rfl, trivial⟩ ?_
      refine WC.draw [(0, true), (1, true), (2, true), (3, false), (4, false), (5, false), (6, true), (7, true), (8, true), (9, true), (10, true)] (by kernel_rfl) (by kernel_rfl) (QuietPanic.then QuietPanic.body) ?_
      refine WA.yd rfl (Yd.loadN Try.isAgg27 Try.sizeOf27 rfl (vs := [_, _, _, _]) rfl (by first | exact RdN.own (k := 0) (n := 4) rfl rfl | exact RdN.own (k := 1) (n := 4) rfl rfl | exact RdN.own (k := 2) (n := 4) rfl rfl | exact (hR.bath.at a.toNat (by omega)).rdn 1 2 rfl)) rfl ?_
      refine WA.yd rfl (Yd.move rfl) rfl ?_
      refine WA.yd rfl (Yd.move rfl) rfl ?_
      refine WA.so rfl (SO.callP Try.call42 rfl (fun w hI => lnot_g _ _ _)) rfl ?_
      rintro _ _ _ ⟨rfl, rfl, rfl⟩
      refine ⟨fun _ hI => hI, ?_⟩
      refine WA.so rfl (SO.makes (Enters.func Try.call41 rfl) (fun w hI => with_g p a1 _ c1 a2 _ c2 _ w hR hI.imm ⟨a, b, true⟩)) rfl ?_
      rintro _ D7 _ ⟨hX7, ⟨a7, c7, rfl, hR7⟩, rfl⟩
      replace hR7 := hR7 (by omega)
      replace hR := hR.ext hX7
      refine ⟨fun _ hI => hI.shrink hX7.old, ?_⟩
      refine WA.so rfl (SO.callP Try.call29 rfl (fun w hI => Clash_g (withP p ⟨a, b, true⟩) a1 _ c1 a7 _ c7 _ w hR7 hI.imm)) rfl ?_
      rintro _ _ _ ⟨rfl, rfl, rfl⟩
      refine ⟨fun _ hI => hI.shrink hX7.old, ?_⟩
      refine WA.yd rfl (Yd.move rfl) rfl ?_
      refine WA.yd rfl (Yd.extract rfl rfl) rfl ?_
      refine WA.yd rfl (Yd.extract rfl rfl) rfl ?_
      refine WA.yd rfl (Yd.assign rfl) rfl ?_
      refine WA.yd rfl (Yd.assign rfl) rfl ?_
      refine WA.nil ?_
      refine WP.thenC ?_
      refine WC.seq ?_
      refine WC.ofFr [(23, _), (21, _), (3, _), (7, _), (8, _), (12, _)] ⟨rfl, rfl, rfl, rfl, rfl, rfl, trivial⟩ ?_
      refine WC.region ?_
      refine WL.yd (Yd.loadN Try.isAgg27 Try.sizeOf27 rfl (vs := [_, _, _, _]) rfl (by first | exact RdN.own (k := 0) (n := 4) rfl rfl | exact RdN.own (k := 1) (n := 4) rfl rfl | exact RdN.own (k := 2) (n := 4) rfl rfl | exact (hR.bath.at a.toNat (by omega)).rdn 1 2 rfl)) rfl ?_
      refine WL.yd (Yd.move rfl) rfl ?_
      refine WL.yd (Yd.sub rfl rfl (wr64 ⟨by omega, by omega⟩)) rfl ?_
      refine WL.so (SO.callP Try.call15 rfl (fun w hI => Gives.cv (.tuple #[.agg #[it 0, it 0], it 2]) (Place_g p a1 _ c1 a2 _ c2 _ w hR hI.imm ((p.bathers.length : Int) + 1 - 1)) (by rw [place_range hv (decide_eq_false (by omega))]))) rfl ?_
      rintro _ _ _ ⟨rfl, rfl, rfl⟩
      refine WL.yd (Yd.move rfl) rfl ?_
      refine WL.yd (Yd.extract rfl rfl) rfl ?_
      refine WL.yd (Yd.extract rfl rfl) rfl ?_
      refine WL.so (SO.alloc Try.zeroValue23 rfl) rfl ?_
      rintro _ _ _ ⟨b24, hb24, rfl, rfl, rfl⟩ -- NEW
      refine WL.so (SO.store 0 rfl Try.sizeOf23 rfl rfl rfl rfl (Nat.le_of_ble_eq_true rfl) (oneB_spec rfl)) rfl ?_
      rintro _ _ _ ⟨rfl, rfl, rfl⟩
      refine WL.yd (Yd.assign rfl) rfl ?_
      refine WL.nil ?_
      refine WP.thenC ?_
      refine WC.seq ?_
      refine WC.ofFr [(25, _), (23, _), (21, _), (3, _), (7, _), (8, _), (12, _)] ⟨rfl, rfl, rfl, rfl, rfl, rfl, rfl, trivial⟩ ?_
      refine WC.region ?_
      refine WL.yd (Yd.loadN Try.isAgg27 Try.sizeOf27 rfl (vs := [_, _, _, _]) rfl (by first | exact RdN.own (k := 0) (n := 4) rfl rfl | exact RdN.own (k := 1) (n := 4) rfl rfl | exact RdN.own (k := 2) (n := 4) rfl rfl | exact RdN.own (k := 3) (n := 4) rfl rfl | exact (hR.bath.at a.toNat (by omega)).rdn 1 2 rfl)) rfl ?_
      refine WL.yd (Yd.move rfl) rfl ?_
      refine WL.so (SO.callP Try.call17 rfl (fun w hI => Gives.cv (.tuple #[it 0, it 2]) (Before_g p a1 _ c1 a2 _ c2 _ w hR hI.imm (-2) a) (by rw [before_range hv (by rw [show whoP p (-2) = false from decide_eq_false (by omega)]; rfl)]))) rfl ?_
      rintro _ _ _ ⟨rfl, rfl, rfl⟩
      refine WL.yd (Yd.move rfl) rfl ?_
      refine WL.yd (Yd.extract rfl rfl) rfl ?_
      refine WL.yd (Yd.extract rfl rfl) rfl ?_
      refine WL.yd (Yd.assign rfl) rfl ?_
      refine WL.yd (Yd.assign rfl) rfl ?_
      refine WL.nil ?_
      refine WP.thenC ?_
      refine WC.seq ?_
      refine WC.ofFr [(27, _), (25, _), (23, _), (21, _), (3, _), (7, _), (8, _), (12, _)] ⟨rfl, rfl, rfl, rfl, rfl, rfl, rfl, rfl, trivial⟩ ?_
      refine WC.region ?_
      refine WL.yd (Yd.loadN Try.isAgg27 Try.sizeOf27 rfl (vs := [_, _, _, _]) rfl (by first | exact RdN.own (k := 0) (n := 4) rfl rfl | exact RdN.own (k := 1) (n := 4) rfl rfl | exact RdN.own (k := 2) (n := 4) rfl rfl | exact RdN.own (k := 3) (n := 4) rfl rfl | exact (hR.bath.at a.toNat (by omega)).rdn 1 2 rfl)) rfl ?_
      refine WL.yd (Yd.move rfl) rfl ?_
      refine WL.yd (Yd.move rfl) rfl ?_
      refine WL.yd (Yd.sub rfl rfl (wr64 ⟨by omega, by omega⟩)) rfl ?_
      refine WL.so (SO.callP Try.call19 rfl (fun w hI => Gives.cv (.tuple #[.agg #[it 0, it 0], it 2]) (Near_g p a1 _ c1 a2 _ c2 _ w hR hI.imm a ((p.bathers.length : Int) + 1 - 1)) (by rw [near_range hv (by rw [show whoP p ((p.bathers.length : Int) + 1 - 1) = false from decide_eq_false (by omega), Bool.and_false])]))) rfl ?_
      rintro _ _ _ ⟨rfl, rfl, rfl⟩
      refine WL.yd (Yd.move rfl) rfl ?_
      refine WL.yd (Yd.extract rfl rfl) rfl ?_
      refine WL.yd (Yd.extract rfl rfl) rfl ?_
      refine WL.so (SO.alloc Try.zeroValue23 rfl) rfl ?_
      rintro _ _ _ ⟨b28, hb28, rfl, rfl, rfl⟩ -- NEW
      refine WL.so (SO.store 0 rfl Try.sizeOf23 rfl rfl rfl rfl (Nat.le_of_ble_eq_true rfl) (oneB_spec rfl)) rfl ?_
      rintro _ _ _ ⟨rfl, rfl, rfl⟩
      refine WL.yd (Yd.assign rfl) rfl ?_
      refine WL.nil ?_
      refine WP.thenC ?_
      refine WC.seq ?_
      refine WC.ofFr [(29, _), (27, _), (25, _), (23, _), (21, _), (12, _)] ⟨rfl, rfl, rfl, rfl, rfl, rfl, trivial⟩ ?_
      refine WC.region ?_
      refine WL.yd (Yd.move rfl) rfl ?_
      refine WL.yd (Yd.eql rfl rfl) rfl ?_
      refine WL.yd (Yd.move rfl) rfl ?_
      refine WL.yd (Yd.eql rfl rfl) rfl ?_
      refine WL.yd (Yd.eqB Try.underlying4 rfl rfl) rfl ?_
      refine WL.know 196 (.bool true) rfl (congrArg Value.bool (beq_iff' (places_not hv hok hm hwa hwb))) ?_
      refine WL.yd (Yd.move rfl) rfl ?_
      refine WL.ydg rfl (Yd.move rfl) rfl ?_
      refine WL.ydg rfl (Yd.eql rfl rfl) rfl ?_
      refine WL.ydg rfl (Yd.move rfl) rfl ?_
      refine WL.ydg rfl (Yd.eql rfl rfl) rfl ?_
      refine WL.ydg rfl (Yd.eqB Try.underlying4 rfl rfl) rfl ?_
      refine WL.know 202 (.bool true) rfl (congrArg Value.bool (beq_iff' (places_bef hv hok hm hwa hwb))) ?_
      refine WL.yd (Yd.pickT rfl rfl) rfl ?_
      refine WL.yd (Yd.move rfl) rfl ?_
      refine WL.ydg rfl (Yd.move rfl) rfl ?_
      refine WL.ydg rfl (Yd.eql rfl rfl) rfl ?_
      refine WL.know 206 (.bool true) rfl (congrArg Value.bool (by decide)) ?_
      refine WL.yd (Yd.pickT rfl rfl) rfl ?_
      refine WL.yd (Yd.move rfl) rfl ?_
      refine WL.ydg rfl (Yd.move rfl) rfl ?_
      refine WL.ydg rfl (Yd.eql rfl rfl) rfl ?_
      refine WL.know 210 (.bool true) rfl (congrArg Value.bool (by decide)) ?_
      refine WL.yd (Yd.pickT rfl rfl) rfl ?_
      refine WL.yd (Yd.move rfl) rfl ?_
      refine WL.ydg rfl (Yd.move rfl) rfl ?_
      refine WL.ydg rfl (Yd.eql rfl rfl) rfl ?_
      refine WL.know 214 (.bool true) rfl (congrArg Value.bool (by decide)) ?_
      refine WL.yd (Yd.pickT rfl rfl) rfl ?_
      refine WL.yd (Yd.move rfl) rfl ?_
      refine WL.sog rfl (SO.callP Try.call14 rfl (fun w hI => alive_g _ _ hI.imm)) rfl ?_
      rintro _ _ _ ⟨rfl, rfl, rfl⟩
      refine WL.know 217 (.bool true) rfl rfl ?_
      refine WL.yd (Yd.pickT rfl rfl) rfl ?_
      refine WL.yd (Yd.assign rfl) rfl ?_
      refine WL.nil ?_
      refine WP.thenC ?_
      refine WC.ret ?_
      refine WP.ret1 rfl rfl Try.results7 (RV.tmp rfl) (fun w hI => ⟨rfl, hI.keep⟩)
  · skip
    refine WC.seq ?_
    refine WC.ofFr [(16, _), (12, _), (10, _), (9, _), (8, _), (7, _), (6, _), (3, _)] ⟨rfl, rfl, rfl, rfl, rfl, rfl, rfl, rfl, trivial⟩ ?_
    refine WC.region ?_
    refine WL.yd (Yd.move rfl) rfl ?_
    refine WL.yd (Yd.geq rfl rfl) rfl ?_
    refine WL.nil ?_
    refine WP.thenC ?_
    refine WC.cond rfl (fun c105 => ?_) (fun c105 => ?_)
    · try simp only [zq1, zq2, zq3, zq4, zq5, zq6, zq7, zq8] at c105
      refine WC.ofFr [(16, _), (12, _), (10, _), (9, _), (8, _), (7, _), (6, _), (3, _)] ⟨rfl, rfl, rfl, rfl, rfl, rfl, rfl, rfl, trivial⟩ ?_
      refine WC.region ?_
      refine WL.yd (Yd.fieldAddr FA27_1 rfl) rfl ?_
      refine WL.yd (Yd.load1 Try.isAgg24 rfl (by first | exact Rd.own (k := 0) rfl rfl | exact Rd.own (k := 1) rfl rfl | exact Rd.own (k := 2) rfl rfl)) rfl ?_
      refine WL.yd (Yd.move rfl) rfl ?_
      refine WL.yd (Yd.indexS Try.underlying24 Try.sizeOf56 rfl rfl (by omega) (by omega) (by first | exact hR.bath.addr a.toNat (by omega))) rfl ?_
      refine WL.yd (Yd.fieldAddr FA56_1 rfl) rfl ?_
      refine WL.yd (Yd.loadN Try.isAgg23 Try.sizeOf23 rfl (vs := [_, _]) rfl (by first | exact RdN.own (k := 0) (n := 2) rfl rfl | exact RdN.own (k := 1) (n := 2) rfl rfl | exact RdN.own (k := 2) (n := 2) rfl rfl | exact (hR.bath.at a.toNat (by omega)).rdn 1 2 rfl)) rfl ?_
      refine WL.so (SO.store 0 rfl Try.sizeOf23 rfl rfl rfl rfl (Nat.le_of_ble_eq_true rfl) (oneB_spec rfl)) rfl ?_
      rintro _ _ _ ⟨rfl, rfl, rfl⟩
      refine WL.nil ?_
      first
        | (have eo : ownS p a = (gt p.bathers a.toNat).place := if_neg (by omega)
           refine WP.join () trivial (fun aa ww h => ?_)
           rw [eo]
           exact at_fr h ⟨rfl, rfl, rfl, rfl, rfl, rfl, rfl, trivial⟩)
        | (have eo : ownS p a = p.post := if_pos (by omega)
           refine WP.join () trivial (fun aa ww h => ?_)
           rw [eo]
           exact at_fr h ⟨rfl, rfl, rfl, rfl, rfl, rfl, rfl, trivial⟩)
    · try simp only [zq1, zq2, zq3, zq4, zq5, zq6, zq7, zq8] at c105
      refine WC.skip ?_
      first
        | (have eo : ownS p a = (gt p.bathers a.toNat).place := if_neg (by omega)
           refine WP.join () trivial (fun aa ww h => ?_)
           rw [eo]
           exact at_fr h ⟨rfl, rfl, rfl, rfl, rfl, rfl, rfl, trivial⟩)
        | (have eo : ownS p a = p.post := if_pos (by omega)
           refine WP.join () trivial (fun aa ww h => ?_)
           rw [eo]
           exact at_fr h ⟨rfl, rfl, rfl, rfl, rfl, rfl, rfl, trivial⟩)

theorem places_g (p : Post) (a1 : Option Addr) (n1 c1 : Nat) (a2 : Option Addr) (n2 c2 : Nat) (D : Imm) (w : World) (s1 : SlL D 3 (p.bathers.map bathC) a1 n1) (s2 : SlL D 3 (p.claims.map claimC) a2 n2) (hH : Holds D w) (m1 m2 : Nat) (hm1 : m1 ≤ 255) (hm2 : m2 ≤ 255) : Gives Try.prog 7 [.agg #[it p.post.lo, it p.post.hi, .slice a1 n1 c1, .slice a2 n2 c2], .int .u8 (m1 : Int), .int .u8 (m2 : Int)] w (.bool true) := by
  by_cases hl : max (n1 : Int) (n2 : Int) > 40
  · exact places_l _ _ a1 n1 c1 a2 n2 c2 m1 m2 D w hH hl
  · have hR : PostR D p a1 n1 a2 n2 := ⟨s1, s2, by omega, by omega⟩
    cases hv : postB p with
    | false => exact places_a p a1 n1 c1 a2 n2 c2 D w hR hH m1 m2 hl hv
    | true =>
      by_cases hm : 8 ≤ p.claims.length
      · exact places_m p a1 n1 c1 a2 n2 c2 D w hR hH m1 m2 hl hv hm
      · cases hok : okA p with
        | false => exact places_b p a1 n1 c1 a2 n2 c2 D w hR hH m1 m2 hm1 hm2 hl hv (by omega) hok
        | true => exact places_o p a1 n1 c1 a2 n2 c2 D w hR hH m1 m2 hm1 hm2 hl hv (by omega) hok

end Go.Proofs.Ytkhmmefgllbobaa
