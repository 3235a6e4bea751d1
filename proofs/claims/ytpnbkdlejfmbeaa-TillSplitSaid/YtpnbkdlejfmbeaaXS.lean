import Derived.Test.YtpnbkdlejfmbeaaXQ
set_option linter.unusedSimpArgs false
set_option linter.unusedVariables false
set_option linter.all false
namespace Go.Proofs.Ytpnbkdlejfmbeaa
open Go.W Go.Ti

theorem split_nat {m : Int} {ps : List Int} (hv : splitB m ps = true) : ∃ (M : Nat) (qs : List Nat), m = (M : Int) ∧ ps = qs.map (fun x : Nat => (x : Int)) ∧ M ≤ 5000 ∧ qs.length ≤ 6 ∧ ∀ i, i < qs.length → gt qs i ≤ 20 := by
  unfold splitB at hv
  rw [Bool.and_eq_true, Bool.and_eq_true] at hv
  have h1 := of_decide_eq_true hv.1.1
  have h2 := of_decide_eq_true hv.1.2
  have h3 := all_iff.1 hv.2
  have hg : ∀ i, i < ps.length → gt (ps.map Int.toNat) i = (gt ps i).toNat := fun i hi => by simp [gt, List.getD, hi]
  refine ⟨m.toNat, ps.map Int.toNat, by omega, ?_, by omega, by rw [List.length_map]; exact h2, fun i hi => ?_⟩
  · rw [List.map_map]
    apply List.ext_getElem
    · simp
    · intro i a b
      have h4 := of_decide_eq_true (h3 i a)
      have e : gt ps i = ps[i] := by simp [gt, List.getD, a]
      rw [e] at h4
      simp; omega
  · rw [List.length_map] at hi
    have h4 := of_decide_eq_true (h3 i hi)
    rw [hg i hi]; omega
theorem nat_sl {D : Imm} {qs : List Nat} {a : Option Addr} {n : Nat} (h : SlL D 1 ((qs.map fun x : Nat => (x : Int)).map intC) a n) : SlL D 1 (qs.map natC) a n := by
  rw [List.map_map] at h; exact h

set_option maxRecDepth 100000 in
set_option maxHeartbeats 1000000 in
theorem splits_a (m : Int) (ps : List Int) (ap : Option Addr) (np cp : Nat) (D : Imm) (w : World) (hS : SlL D 1 (ps.map intC) ap np) (hH : Holds D w) (h60 : 60 < np) : Gives Try.prog 3 [it m, .slice ap np cp] w (.bool true) := by
  unfold Gives
  refine enter Try.func3 rfl 36 Try.ntmps3 (Nat.le_of_ble_eq_true rfl) (Inv.start hH) ?_
  refine WC.seq ?_
  refine WC.ofFr [(0, _), (1, _)] ⟨rfl, rfl, trivial⟩ ?_
  refine WC.region ?_
  refine WL.yd (Yd.assign rfl) rfl ?_
  refine WL.nil ?_
  refine WP.thenC ?_
  refine WC.seq ?_
  refine WC.seq ?_
  refine WC.ofFr [(4, _), (0, _), (1, _)] ⟨rfl, rfl, rfl, trivial⟩ ?_
  refine WC.region ?_
  refine WL.yd (Yd.move rfl) rfl ?_
  refine WL.yd (Yd.lenS rfl Try.underlying22 rfl) rfl ?_
  refine WL.yd (Yd.gtr rfl rfl) rfl ?_
  refine WL.know 11 (.bool true) rfl (congrArg Value.bool (decide_eq_true (by omega))) ?_
  refine WL.nil ?_
  refine WP.thenC ?_
  refine WC.condT rfl ?_
  refine WC.seq ?_
  refine WC.ofFr [(4, _), (0, _), (1, _)] ⟨rfl, rfl, rfl, trivial⟩ ?_
  refine WC.region ?_
  refine WL.so (SO.callP Try.call8 rfl (fun w hI => alive_g _ _ hI.imm)) rfl ?_
  rintro _ _ _ ⟨rfl, rfl, rfl⟩
  refine WL.yd (Yd.assign rfl) rfl ?_
  refine WL.nil ?_
  refine WP.thenC ?_
  refine WC.ret ?_
  refine WP.thenRet ?_
  refine WP.ret1 rfl rfl Try.results3 (RV.tmp rfl) (fun w hI => ⟨rfl, hI.keep⟩)

set_option maxRecDepth 100000 in
set_option maxHeartbeats 1000000 in
theorem splits_e (m : Int) (ps : List Int) (ap : Option Addr) (np cp : Nat) (D : Imm) (w : World) (hS : SlL D 1 (ps.map intC) ap np) (hH : Holds D w) (h60 : np ≤ 60) (hv : splitB m ps = false) : Gives Try.prog 3 [it m, .slice ap np cp] w (.bool true) := by
  unfold Gives
  refine enter Try.func3 rfl 36 Try.ntmps3 (Nat.le_of_ble_eq_true rfl) (Inv.start hH) ?_
  refine WC.seq ?_
  refine WC.ofFr [(0, _), (1, _)] ⟨rfl, rfl, trivial⟩ ?_
  refine WC.region ?_
  refine WL.yd (Yd.assign rfl) rfl ?_
  refine WL.nil ?_
  refine WP.thenC ?_
  refine WC.seq ?_
  refine WC.seq ?_
  refine WC.ofFr [(4, _), (0, _), (1, _)] ⟨rfl, rfl, rfl, trivial⟩ ?_
  refine WC.region ?_
  refine WL.yd (Yd.move rfl) rfl ?_
  refine WL.yd (Yd.lenS rfl Try.underlying22 rfl) rfl ?_
  refine WL.yd (Yd.gtr rfl rfl) rfl ?_
  refine WL.know 11 (.bool false) rfl (congrArg Value.bool (decide_eq_false (by omega))) ?_
  refine WL.nil ?_
  refine WP.thenC ?_
  refine WC.condF rfl ?_
  refine WC.skip ?_
  refine WP.thenC ?_
  refine WC.seq ?_
  refine WC.ofFr [(4, _), (0, _), (1, _)] ⟨rfl, rfl, rfl, trivial⟩ ?_
  refine WC.region ?_
  refine WL.yd (Yd.move rfl) rfl ?_
  refine WL.yd (Yd.move rfl) rfl ?_
  refine WL.so (SO.callP Try.call9 rfl (fun w hI => Split_e m ps ap _ cp D _ hS (by omega) hI.imm hv)) rfl ?_
  rintro _ _ _ ⟨rfl, rfl, rfl⟩
  refine WL.yd (Yd.move rfl) rfl ?_
  refine WL.yd (Yd.extract rfl rfl) rfl ?_
  refine WL.yd (Yd.extract rfl rfl) rfl ?_
  refine WL.yd (Yd.assign rfl) rfl ?_
  refine WL.yd (Yd.assign rfl) rfl ?_
  refine WL.nil ?_
  refine WP.thenC ?_
  refine WC.seq ?_
  refine WC.ofFr [(6, _), (5, _), (4, _), (0, _), (1, _)] ⟨rfl, rfl, rfl, rfl, rfl, trivial⟩ ?_
  refine WC.region ?_
  refine WL.yd (Yd.move rfl) rfl ?_
  refine WL.yd (Yd.move rfl) rfl ?_
  refine WL.so (SO.callP Try.call10 rfl (fun w hI => refSplit_e m ps ap _ cp D _ hS (by omega) hI.imm hv)) rfl ?_
  rintro _ _ _ ⟨rfl, rfl, rfl⟩
  refine WL.yd (Yd.move rfl) rfl ?_
  refine WL.yd (Yd.extract rfl rfl) rfl ?_
  refine WL.yd (Yd.extract rfl rfl) rfl ?_
  refine WL.yd (Yd.assign rfl) rfl ?_
  refine WL.yd (Yd.assign rfl) rfl ?_
  refine WL.nil ?_
  refine WP.thenC ?_
  refine WC.seq ?_
  refine WC.ofFr [(8, _), (7, _), (6, _), (5, _), (4, _)] ⟨rfl, rfl, rfl, rfl, rfl, trivial⟩ ?_
  refine WC.region ?_
  refine WL.yd (Yd.move rfl) rfl ?_
  refine WL.yd (Yd.move rfl) rfl ?_
  refine WL.so (SO.callP Try.call11 rfl (fun w hI => Ints_g [] [] none none 0 0 0 0 D _ ⟨rfl, fun i r hr => by simp at hr⟩ ⟨rfl, fun i r hr => by simp at hr⟩ (by omega) (by omega) hI.imm)) rfl ?_
  rintro _ _ _ ⟨rfl, rfl, rfl⟩
  refine WL.know 27 (.bool true) rfl (congrArg Value.bool (by decide)) ?_
  refine WL.yd (Yd.move rfl) rfl ?_
  refine WL.ydg rfl (Yd.move rfl) rfl ?_
  refine WL.ydg rfl (Yd.move rfl) rfl ?_
  refine WL.ydg rfl (Yd.eql rfl rfl) rfl ?_
  refine WL.know 31 (.bool true) rfl (congrArg Value.bool (by decide)) ?_
  refine WL.yd (Yd.pickT rfl rfl) rfl ?_
  refine WL.yd (Yd.move rfl) rfl ?_
  refine WL.sog rfl (SO.callP Try.call8 rfl (fun w hI => alive_g _ _ hI.imm)) rfl ?_
  rintro _ _ _ ⟨rfl, rfl, rfl⟩
  refine WL.know 34 (.bool true) rfl rfl ?_
  refine WL.yd (Yd.pickT rfl rfl) rfl ?_
  refine WL.yd (Yd.assign rfl) rfl ?_
  refine WL.nil ?_
  refine WP.thenC ?_
  refine WC.ret ?_
  refine WP.ret1 rfl rfl Try.results3 (RV.tmp rfl) (fun w hI => ⟨rfl, hI.keep⟩)

set_option maxRecDepth 100000 in
set_option maxHeartbeats 1000000 in
theorem splits_ok (M : Nat) (hM : M ≤ 5000) (qs : List Nat) (h6 : qs.length ≤ 6) (hq : ∀ i, i < qs.length → gt qs i ≤ 20) (ap : Option Addr) (cp : Nat) (D : Imm) (w : World) (hS : SlL D 1 (qs.map natC) ap qs.length) (hH : Holds D w) : Gives Try.prog 3 [nt M, .slice ap qs.length cp] w (.bool true) := by
  unfold Gives
  refine enter Try.func3 rfl 36 Try.ntmps3 (Nat.le_of_ble_eq_true rfl) (Inv.start hH) ?_
  refine WC.seq ?_
  refine WC.ofFr [(0, _), (1, _)] ⟨rfl, rfl, trivial⟩ ?_
  refine WC.region ?_
  refine WL.yd (Yd.assign rfl) rfl ?_
  refine WL.nil ?_
  refine WP.thenC ?_
  refine WC.seq ?_
  refine WC.seq ?_
  refine WC.ofFr [(4, _), (0, _), (1, _)] ⟨rfl, rfl, rfl, trivial⟩ ?_
  refine WC.region ?_
  refine WL.yd (Yd.move rfl) rfl ?_
  refine WL.yd (Yd.lenS rfl Try.underlying22 rfl) rfl ?_
  refine WL.yd (Yd.gtr rfl rfl) rfl ?_
  refine WL.know 11 (.bool false) rfl (congrArg Value.bool (decide_eq_false (by omega))) ?_
  refine WL.nil ?_
  refine WP.thenC ?_
  refine WC.condF rfl ?_
  refine WC.skip ?_
  refine WP.thenC ?_
  refine WC.seq ?_
  refine WC.ofFr [(4, _), (0, _), (1, _)] ⟨rfl, rfl, rfl, trivial⟩ ?_
  refine WC.region ?_
  refine WL.yd (Yd.move rfl) rfl ?_
  refine WL.yd (Yd.move rfl) rfl ?_
  refine WL.so (SO.makes (Enters.func Try.call9 rfl) (fun w hI => Split_ok M hM qs h6 hq ap cp _ hS w hI.imm)) rfl ?_
  rintro _ D1 _ ⟨hX1, ⟨aS, cS, rfl, hSS⟩, rfl⟩
  replace hS := hS.ext hX1
  refine WL.yd (Yd.move rfl) rfl ?_
  refine WL.yd (Yd.extract rfl rfl) rfl ?_
  refine WL.yd (Yd.extract rfl rfl) rfl ?_
  refine WL.yd (Yd.assign rfl) rfl ?_
  refine WL.yd (Yd.assign rfl) rfl ?_
  refine WL.nil ?_
  refine WP.thenC ?_
  refine WC.seq ?_
  refine WC.ofFr [(6, _), (5, _), (4, _), (0, _), (1, _)] ⟨rfl, rfl, rfl, rfl, rfl, trivial⟩ ?_
  refine WC.region ?_
  refine WL.yd (Yd.move rfl) rfl ?_
  refine WL.yd (Yd.move rfl) rfl ?_
  refine WL.so (SO.makes (Enters.func Try.call10 rfl) (fun w hI => refSplit_ok M hM qs h6 hq ap cp _ hS w hI.imm)) rfl ?_
  rintro _ D2 _ ⟨hX2, ⟨aR, cR, rfl, hSR⟩, rfl⟩
  replace hSS := hSS.ext hX2
  refine WL.yd (Yd.move rfl) rfl ?_
  refine WL.yd (Yd.extract rfl rfl) rfl ?_
  refine WL.yd (Yd.extract rfl rfl) rfl ?_
  refine WL.yd (Yd.assign rfl) rfl ?_
  refine WL.yd (Yd.assign rfl) rfl ?_
  refine WL.nil ?_
  refine WP.thenC ?_
  refine WC.seq ?_
  refine WC.ofFr [(8, _), (7, _), (6, _), (5, _), (4, _)] ⟨rfl, rfl, rfl, rfl, rfl, trivial⟩ ?_
  refine WC.region ?_
  refine WL.yd (Yd.move rfl) rfl ?_
  refine WL.yd (Yd.move rfl) rfl ?_
  refine WL.so (SO.callP Try.call11 rfl (fun w hI => Ints_g _ _ aS aR _ _ cS cR D2 _ (nat_int hSS) (nat_int hSR) (by omega) (by omega) hI.imm)) rfl ?_
  rintro _ _ _ ⟨rfl, rfl, rfl⟩
  refine WL.know 27 (.bool true) rfl (congrArg Value.bool (decide_eq_true rfl)) ?_
  refine WL.yd (Yd.move rfl) rfl ?_
  refine WL.ydg rfl (Yd.move rfl) rfl ?_
  refine WL.ydg rfl (Yd.move rfl) rfl ?_
  refine WL.ydg rfl (Yd.eql rfl rfl) rfl ?_
  refine WL.know 31 (.bool true) rfl (congrArg Value.bool (by decide)) ?_
  refine WL.yd (Yd.pickT rfl rfl) rfl ?_
  refine WL.yd (Yd.move rfl) rfl ?_
  refine WL.sog rfl (SO.callP Try.call8 rfl (fun w hI => alive_g _ _ hI.imm)) rfl ?_
  rintro _ _ _ ⟨rfl, rfl, rfl⟩
  refine WL.know 34 (.bool true) rfl rfl ?_
  refine WL.yd (Yd.pickT rfl rfl) rfl ?_
  refine WL.yd (Yd.assign rfl) rfl ?_
  refine WL.nil ?_
  refine WP.thenC ?_
  refine WC.ret ?_
  refine WP.ret1 rfl rfl Try.results3 (RV.tmp rfl) (fun w hI => ⟨rfl, hI.keep⟩)

theorem splitsL_g (m : Int) (ps : List Int) (ap : Option Addr) (np cp : Nat) (D : Imm) (w : World) (hS : SlL D 1 (ps.map intC) ap np) (hH : Holds D w) : Gives Try.prog 3 [it m, .slice ap np cp] w (.bool true) := by
  rcases Nat.lt_or_ge 60 np with h | h
  · exact splits_a m ps ap np cp D w hS hH h
  · cases hv : splitB m ps with
    | false => exact splits_e m ps ap np cp D w hS hH h hv
    | true =>
      obtain ⟨M, qs, rfl, rfl, hM, h6, hq⟩ := split_nat hv
      obtain rfl : np = qs.length := by rw [hS.len']; simp
      exact splits_ok M hM qs h6 hq ap cp D w (nat_sl hS) hH

end Go.Proofs.Ytpnbkdlejfmbeaa
