import Derived.Test.YtpnbkdlejfmbeaaXS
set_option linter.unusedSimpArgs false
set_option linter.unusedVariables false
set_option linter.all false
namespace Go.Proofs.Ytpnbkdlejfmbeaa
open Go.W Go.Ti

def isK (m : Int) (ps : List Int) (k : Nat) : Bool := inB m 0 5000 && decide (ps.length ≤ 6) && (ps.take k).all fun p => inB p 0 20
def clamp (p : Int) : Int := max 0 (min p 20)
theorem isK_succ (m : Int) {ps : List Int} {k : Nat} (hk : k < ps.length) : isK m ps (k + 1) = (isK m ps k && inB (gt ps k) 0 20) := by
  have hg : gt ps k = ps[k] := by simp [gt, List.getD, hk]
  unfold isK
  rw [List.take_succ_eq_append_getElem hk, List.all_append, hg]
  simp [Bool.and_assoc]
theorem isK_all (m : Int) (ps : List Int) : isK m ps ps.length = splitB m ps := by unfold isK splitB; rw [List.take_length]
def allK (ps : List Int) (k : Nat) : Int := ((ps.take k).map clamp).sum
theorem allK_succ {ps : List Int} {k : Nat} (hk : k < ps.length) : allK ps (k + 1) = allK ps k + clamp (gt ps k) := by
  have hg : gt ps k = ps[k] := by simp [gt, List.getD, hk]
  unfold allK
  rw [List.take_succ_eq_append_getElem hk, List.map_append, List.sum_append, hg]
  simp
theorem allK_num (ps : List Int) : ∀ k, k ≤ ps.length → 0 ≤ allK ps k ∧ allK ps k ≤ 20 * (k : Int) := by
  intro k
  induction k with
  | zero => intro _; simp [allK]
  | succ k ih =>
    intro hk
    have h1 := ih (by omega)
    rw [allK_succ (by omega)]
    unfold clamp
    omega

set_option maxRecDepth 100000 in
set_option maxHeartbeats 1000000 in
theorem splitl_a (m : Int) (ps : List Int) (ap : Option Addr) (np cp : Nat) (D : Imm) (w : World) (hS : SlL D 1 (ps.map intC) ap np) (hH : Holds D w) (h60 : 60 < np) : Gives Try.prog 7 [it m, .slice ap np cp] w (.bool true) := by
  unfold Gives
  refine enter Try.func7 rfl 214 Try.ntmps7 (Nat.le_of_ble_eq_true rfl) (Inv.start hH) ?_
  refine WC.seq ?_
  refine WC.ofFr [(0, _), (1, _)] ⟨rfl, rfl, trivial⟩ ?_
  refine WC.region ?_
  refine WL.yd (Yd.assign rfl) rfl ?_
  refine WL.nil ?_
  refine WP.thenC ?_
  refine WC.seq ?_
  refine WC.seq ?_
  refine WC.ofFr [(4, _), (0, _), (1, _)] ⟨rfl, rfl, rfl, trivial⟩ ?_
  refine WC.region ?_
  refine WL.yd (Yd.move rfl) rfl ?_
  refine WL.yd (Yd.lenS rfl Try.underlying22 rfl) rfl ?_
  refine WL.yd (Yd.gtr rfl rfl) rfl ?_
  refine WL.know 20 (.bool true) rfl (congrArg Value.bool (decide_eq_true (by omega))) ?_
  refine WL.nil ?_
  refine WP.thenC ?_
  refine WC.condT rfl ?_
  refine WC.seq ?_
  refine WC.ofFr [(4, _), (0, _), (1, _)] ⟨rfl, rfl, rfl, trivial⟩ ?_
  refine WC.region ?_
  refine WL.so (SO.callP Try.call8 rfl (fun w hI => alive_g _ _ hI.imm)) rfl ?_
  rintro _ _ _ ⟨rfl, rfl, rfl⟩
  refine WL.yd (Yd.assign rfl) rfl ?_
  refine WL.nil ?_
  refine WP.thenC ?_
  refine WC.ret ?_
  refine WP.thenRet ?_
  refine WP.ret1 rfl rfl Try.results7 (RV.tmp rfl) (fun w hI => ⟨rfl, hI.keep⟩)

set_option maxRecDepth 100000 in
set_option maxHeartbeats 1000000 in
theorem splitl_e (m : Int) (ps : List Int) (ap : Option Addr) (np cp : Nat) (D : Imm) (w : World) (hS : SlL D 1 (ps.map intC) ap np) (hH : Holds D w) (h60 : np ≤ 60) (hv : splitB m ps = false) : Gives Try.prog 7 [it m, .slice ap np cp] w (.bool true) := by
  unfold Gives
  obtain rfl := hS.len'
  refine enter Try.func7 rfl 214 Try.ntmps7 (Nat.le_of_ble_eq_true rfl) (Inv.start hH) ?_
  refine WC.seq ?_
  refine WC.ofFr [(0, _), (1, _)] ⟨rfl, rfl, trivial⟩ ?_
  refine WC.region ?_
  refine WL.yd (Yd.assign rfl) rfl ?_
  refine WL.nil ?_
  refine WP.thenC ?_
  refine WC.seq ?_
  refine WC.seq ?_
  refine WC.ofFr [(4, _), (0, _), (1, _)] ⟨rfl, rfl, rfl, trivial⟩ ?_
  refine WC.region ?_
  refine WL.yd (Yd.move rfl) rfl ?_
  refine WL.yd (Yd.lenS rfl Try.underlying22 rfl) rfl ?_
  refine WL.yd (Yd.gtr rfl rfl) rfl ?_
  refine WL.know 20 (.bool false) rfl (congrArg Value.bool (decide_eq_false (by omega))) ?_
  refine WL.nil ?_
  refine WP.thenC ?_
  refine WC.condF rfl ?_
  refine WC.skip ?_
  refine WP.thenC ?_
  refine WC.seq ?_
  refine WC.ofFr [(4, _), (0, _), (1, _)] ⟨rfl, rfl, rfl, trivial⟩ ?_
  refine WC.region ?_
  refine WL.yd (Yd.move rfl) rfl ?_
  refine WL.yd (Yd.move rfl) rfl ?_
  refine WL.so (SO.callP Try.call9 rfl (fun w hI => Split_e m ps ap _ cp D _ hS (by omega) hI.imm hv)) rfl ?_
  rintro _ _ _ ⟨rfl, rfl, rfl⟩
  refine WL.yd (Yd.move rfl) rfl ?_
  refine WL.yd (Yd.extract rfl rfl) rfl ?_
  refine WL.yd (Yd.extract rfl rfl) rfl ?_
  refine WL.yd (Yd.assign rfl) rfl ?_
  refine WL.yd (Yd.assign rfl) rfl ?_
  refine WL.nil ?_
  refine WP.thenC ?_
  refine WC.seq ?_
  refine WC.ofFr [(6, _), (5, _), (4, _), (0, _), (1, _)] ⟨rfl, rfl, rfl, rfl, rfl, trivial⟩ ?_
  refine WC.region ?_
  refine WL.yd (Yd.move rfl) rfl ?_
  refine WL.yd (Yd.geq rfl rfl) rfl ?_
  refine WL.yd (Yd.move rfl) rfl ?_
  refine WL.part 30 rfl (fun g30 => ?_) (fun g30 => ?_)
  · try simp only [zq1, zq2, zq3, zq4, zq5, zq6, zq7, zq8] at g30
    refine WL.ydg rfl (Yd.move rfl) rfl ?_
    refine WL.ydg rfl (Yd.leq rfl rfl) rfl ?_
    refine WL.yd (Yd.pickT rfl rfl) rfl ?_
    refine WL.yd (Yd.move rfl) rfl ?_
    refine WL.part 34 rfl (fun g34 => ?_) (fun g34 => ?_)
    · try simp only [zq1, zq2, zq3, zq4, zq5, zq6, zq7, zq8] at g34
      refine WL.ydg rfl (Yd.move rfl) rfl ?_
      refine WL.ydg rfl (Yd.lenS rfl Try.underlying22 rfl) rfl ?_
      refine WL.ydg rfl (Yd.leq rfl rfl) rfl ?_
      refine WL.yd (Yd.pickT rfl rfl) rfl ?_
      refine WL.yd (Yd.assign rfl) rfl ?_
      refine WL.yd (Yd.assign rfl) rfl ?_
      refine WL.nil ?_
      refine WP.thenC ?_
      refine WC.seq ?_
      refine WC.seq ?_
      refine WC.ofFr [(8, _), (7, _), (6, _), (5, _), (4, _), (0, _), (1, _)] ⟨rfl, rfl, rfl, rfl, rfl, rfl, rfl, trivial⟩ ?_
      refine WC.region ?_
      refine WL.yd (Yd.move rfl) rfl ?_
      refine WL.yd (Yd.lenS rfl Try.underlying22 rfl) rfl ?_
      refine WL.yd (Yd.move rfl) rfl ?_
      refine WL.nil ?_
      refine WP.thenC ?_
      refine WC.block ?_
      refine WC.loopF (fun k : Nat => [(4, .bool false), (5, .slice none 0 0), (6, it 1), (7, .bool (isK m ps k)), (8, it (allK ps k)), (39, .slice ap ps.length cp), (40, nt ps.length), (41, nt k)]) (fun k => k ≤ ps.length) (fun k => ps.length - k) 0 (by omega) ⟨rfl, rfl, rfl, (congrArg (fun b => some (Value.bool b)) (by unfold isK inB; rw [Bool.eq_iff_iff]; simp; try omega)), rfl, rfl, rfl, rfl, trivial⟩ ?_
      intro k hk
      refine WC.seq ?_
      refine WC.ofFr [(4, _), (5, _), (6, _), (7, _), (8, _), (39, _), (40, _), (41, _)] ⟨rfl, rfl, rfl, rfl, rfl, rfl, rfl, rfl, trivial⟩ ?_
      refine WC.region ?_
      refine WL.yd (Yd.lss rfl rfl) rfl ?_
      refine WL.nil ?_
      refine WP.thenC ?_
      refine WC.seq ?_
      refine WC.cond rfl (fun c42 => ?_) (fun c42 => ?_)
      · try simp only [zq1, zq2, zq3, zq4, zq5, zq6, zq7, zq8] at c42
        have hkn : k < ps.length := by omega
        have han := allK_num ps k (by omega)
        refine WC.skip ?_
        refine WP.thenC ?_
        refine WC.seq ?_
        refine WC.block ?_
        refine WC.seq ?_
        refine WC.ofFr [(4, _), (5, _), (6, _), (7, _), (8, _), (39, _), (40, _), (41, _)] ⟨rfl, rfl, rfl, rfl, rfl, rfl, rfl, rfl, trivial⟩ ?_
        refine WC.region ?_
        refine WL.yd (Yd.indexS Try.underlying22 Try.sizeOf3 rfl rfl (by omega) (by omega) (by first | exact hS.addr k (by omega))) rfl ?_
        refine WL.yd (Yd.load1 Try.isAgg3 rfl (by first | exact ((hS.at k (by omega)).rd 0 rfl))) rfl ?_
        refine WL.yd (Yd.assign rfl) rfl ?_
        refine WL.nil ?_
        refine WP.thenC ?_
        refine WC.seq ?_
        refine WC.ofFr [(10, _), (4, _), (5, _), (6, _), (7, _), (8, _), (39, _), (40, _), (41, _)] ⟨rfl, rfl, rfl, rfl, rfl, rfl, rfl, rfl, rfl, trivial⟩ ?_
        refine WC.region ?_
        refine WL.yd (Yd.move rfl) rfl ?_
        refine WL.yd (Yd.move rfl) rfl ?_
        refine WL.part 46 rfl (fun g46 => ?_) (fun g46 => ?_)
        · try simp only [zq1, zq2, zq3, zq4, zq5, zq6, zq7, zq8] at g46
          refine WL.ydg rfl (Yd.move rfl) rfl ?_
          refine WL.ydg rfl (Yd.geq rfl rfl) rfl ?_
          refine WL.yd (Yd.pickT rfl rfl) rfl ?_
          refine WL.yd (Yd.move rfl) rfl ?_
          refine WL.part 50 rfl (fun g50 => ?_) (fun g50 => ?_)
          · try simp only [zq1, zq2, zq3, zq4, zq5, zq6, zq7, zq8] at g50
            refine WL.ydg rfl (Yd.move rfl) rfl ?_
            refine WL.ydg rfl (Yd.leq rfl rfl) rfl ?_
            refine WL.yd (Yd.pickT rfl rfl) rfl ?_
            refine WL.yd (Yd.assign rfl) rfl ?_
            refine WL.nil ?_
            refine WP.thenC ?_
            refine WC.ofFr [(7, _), (10, _), (4, _), (5, _), (6, _), (8, _), (39, _), (40, _), (41, _)] ⟨rfl, rfl, rfl, rfl, rfl, rfl, rfl, rfl, rfl, trivial⟩ ?_
            refine WC.region ?_
            refine WL.yd (Yd.move rfl) rfl ?_
            refine WL.yd (Yd.move rfl) rfl ?_
            refine WL.yd (Yd.min2 rfl rfl) rfl ?_
            refine WL.yd (Yd.max2 rfl rfl) rfl ?_
            refine WL.know 57 (it (clamp (gt ps k))) rfl rfl ?_
            have hcl : 0 ≤ clamp (gt ps k) ∧ clamp (gt ps k) ≤ 20 := by unfold clamp; omega
            refine WL.yd (Yd.add rfl rfl (wr64 ⟨by omega, by omega⟩)) rfl ?_
            refine WL.yd (Yd.assign rfl) rfl ?_
            refine WL.nil ?_
            refine WP.blkNormal ?_
            refine WP.thenC ?_
            refine WC.ofFr [(8, _), (7, _), (4, _), (5, _), (6, _), (39, _), (40, _), (41, _)] ⟨rfl, rfl, rfl, rfl, rfl, rfl, rfl, rfl, trivial⟩ ?_
            refine WC.region ?_
            refine WL.yd (Yd.add rfl rfl (wr64 ⟨by omega, by omega⟩)) rfl ?_
            refine WL.yd (Yd.move rfl) rfl ?_
            refine WL.nil ?_
            exact WP.againF (k + 1) (by omega) (by omega) ⟨rfl, rfl, rfl, (congrArg (fun b => some (Value.bool b)) (by rw [isK_succ m hkn]; unfold inB; rw [Bool.eq_iff_iff]; simp_all; try omega)), by rw [allK_succ hkn]; rfl, rfl, rfl, rfl, trivial⟩ (fun _ h => h) (fun h => h)
          · try simp only [zq1, zq2, zq3, zq4, zq5, zq6, zq7, zq8] at g50
            refine WL.skip rfl rfl ?_
            refine WL.skip rfl rfl ?_
            refine WL.yd (Yd.pickF rfl rfl) rfl ?_
            refine WL.yd (Yd.assign rfl) rfl ?_
            refine WL.nil ?_
            refine WP.thenC ?_
            refine WC.ofFr [(7, _), (10, _), (4, _), (5, _), (6, _), (8, _), (39, _), (40, _), (41, _)] ⟨rfl, rfl, rfl, rfl, rfl, rfl, rfl, rfl, rfl, trivial⟩ ?_
            refine WC.region ?_
            refine WL.yd (Yd.move rfl) rfl ?_
            refine WL.yd (Yd.move rfl) rfl ?_
            refine WL.yd (Yd.min2 rfl rfl) rfl ?_
            refine WL.yd (Yd.max2 rfl rfl) rfl ?_
            refine WL.know 57 (it (clamp (gt ps k))) rfl rfl ?_
            have hcl : 0 ≤ clamp (gt ps k) ∧ clamp (gt ps k) ≤ 20 := by unfold clamp; omega
            refine WL.yd (Yd.add rfl rfl (wr64 ⟨by omega, by omega⟩)) rfl ?_
            refine WL.yd (Yd.assign rfl) rfl ?_
            refine WL.nil ?_
            refine WP.blkNormal ?_
            refine WP.thenC ?_
            refine WC.ofFr [(8, _), (7, _), (4, _), (5, _), (6, _), (39, _), (40, _), (41, _)] ⟨rfl, rfl, rfl, rfl, rfl, rfl, rfl, rfl, trivial⟩ ?_
            refine WC.region ?_
            refine WL.yd (Yd.add rfl rfl (wr64 ⟨by omega, by omega⟩)) rfl ?_
            refine WL.yd (Yd.move rfl) rfl ?_
            refine WL.nil ?_
            exact WP.againF (k + 1) (by omega) (by omega) ⟨rfl, rfl, rfl, (congrArg (fun b => some (Value.bool b)) (by rw [isK_succ m hkn]; unfold inB; rw [Bool.eq_iff_iff]; simp_all; try omega)), by rw [allK_succ hkn]; rfl, rfl, rfl, rfl, trivial⟩ (fun _ h => h) (fun h => h)
        · try simp only [zq1, zq2, zq3, zq4, zq5, zq6, zq7, zq8] at g46
          refine WL.skip rfl rfl ?_
          refine WL.skip rfl rfl ?_
          refine WL.yd (Yd.pickF rfl rfl) rfl ?_
          refine WL.yd (Yd.move rfl) rfl ?_
          refine WL.skip rfl rfl ?_
          refine WL.skip rfl rfl ?_
          refine WL.yd (Yd.pickF rfl rfl) rfl ?_
          refine WL.yd (Yd.assign rfl) rfl ?_
          refine WL.nil ?_
          refine WP.thenC ?_
          refine WC.ofFr [(7, _), (10, _), (4, _), (5, _), (6, _), (8, _), (39, _), (40, _), (41, _)] ⟨rfl, rfl, rfl, rfl, rfl, rfl, rfl, rfl, rfl, trivial⟩ ?_
          refine WC.region ?_
          refine WL.yd (Yd.move rfl) rfl ?_
          refine WL.yd (Yd.move rfl) rfl ?_
          refine WL.yd (Yd.min2 rfl rfl) rfl ?_
          refine WL.yd (Yd.max2 rfl rfl) rfl ?_
          refine WL.know 57 (it (clamp (gt ps k))) rfl rfl ?_
          have hcl : 0 ≤ clamp (gt ps k) ∧ clamp (gt ps k) ≤ 20 := by unfold clamp; omega
          refine WL.yd (Yd.add rfl rfl (wr64 ⟨by omega, by omega⟩)) rfl ?_
          refine WL.yd (Yd.assign rfl) rfl ?_
          refine WL.nil ?_
          refine WP.blkNormal ?_
          refine WP.thenC ?_
          refine WC.ofFr [(8, _), (7, _), (4, _), (5, _), (6, _), (39, _), (40, _), (41, _)] ⟨rfl, rfl, rfl, rfl, rfl, rfl, rfl, rfl, trivial⟩ ?_
          refine WC.region ?_
          refine WL.yd (Yd.add rfl rfl (wr64 ⟨by omega, by omega⟩)) rfl ?_
          refine WL.yd (Yd.move rfl) rfl ?_
          refine WL.nil ?_
          exact WP.againF (k + 1) (by omega) (by omega) ⟨rfl, rfl, rfl, (congrArg (fun b => some (Value.bool b)) (by rw [isK_succ m hkn]; unfold inB; rw [Bool.eq_iff_iff]; simp_all; try omega)), by rw [allK_succ hkn]; rfl, rfl, rfl, rfl, trivial⟩ (fun _ h => h) (fun h => h)
      · try simp only [zq1, zq2, zq3, zq4, zq5, zq6, zq7, zq8] at c42
        refine WC.exit ?_
        refine WP.thenExit ?_
        refine WP.thenExit ?_
        refine WP.blkHit ?_
        refine WP.thenC ?_
        refine WC.seq ?_
        refine WC.seq ?_
        refine WC.ofFr [(4, _), (5, _), (6, _), (7, _), (8, _)] ⟨rfl, rfl, rfl, rfl, rfl, trivial⟩ ?_
        refine WC.region ?_
        refine WL.yd (Yd.move rfl) rfl ?_
        refine WL.yd (Yd.not rfl) rfl ?_
        refine WL.know 61 (.bool true) rfl (congrArg Value.bool (by rw [show k = ps.length by omega, isK_all, hv]; rfl)) ?_
        refine WL.nil ?_
        refine WP.thenC ?_
        refine WC.condT rfl ?_
        refine WC.seq ?_
        refine WC.ofFr [(4, _), (5, _), (6, _), (8, _)] ⟨rfl, rfl, rfl, rfl, trivial⟩ ?_
        refine WC.region ?_
        refine WL.yd (Yd.move rfl) rfl ?_
        refine WL.yd (Yd.eql rfl rfl) rfl ?_
        refine WL.know 63 (.bool true) rfl (congrArg Value.bool (by decide)) ?_
        refine WL.yd (Yd.move rfl) rfl ?_
        refine WL.ydg rfl (Yd.move rfl) rfl ?_
        refine WL.ydg rfl (Yd.lenS rfl Try.underlying22 rfl) rfl ?_
        refine WL.ydg rfl (Yd.eql rfl rfl) rfl ?_
        refine WL.know 67 (.bool true) rfl (congrArg Value.bool (by decide)) ?_
        refine WL.yd (Yd.pickT rfl rfl) rfl ?_
        refine WL.yd (Yd.move rfl) rfl ?_
        refine WL.sog rfl (SO.callP Try.call8 rfl (fun w hI => alive_g _ _ hI.imm)) rfl ?_
        rintro _ _ _ ⟨rfl, rfl, rfl⟩
        refine WL.know 70 (.bool true) rfl rfl ?_
        refine WL.yd (Yd.pickT rfl rfl) rfl ?_
        refine WL.yd (Yd.assign rfl) rfl ?_
        refine WL.nil ?_
        refine WP.thenC ?_
        refine WC.ret ?_
        refine WP.thenRet ?_
        refine WP.ret1 rfl rfl Try.results7 (RV.tmp rfl) (fun w hI => ⟨rfl, hI.keep⟩)
    · try simp only [zq1, zq2, zq3, zq4, zq5, zq6, zq7, zq8] at g34
      refine WL.skip rfl rfl ?_
      refine WL.skip rfl rfl ?_
      refine WL.skip rfl rfl ?_
      refine WL.yd (Yd.pickF rfl rfl) rfl ?_
      refine WL.yd (Yd.assign rfl) rfl ?_
      refine WL.yd (Yd.assign rfl) rfl ?_
      refine WL.nil ?_
      refine WP.thenC ?_
      refine WC.seq ?_
      refine WC.seq ?_
      refine WC.ofFr [(8, _), (7, _), (6, _), (5, _), (4, _), (0, _), (1, _)] ⟨rfl, rfl, rfl, rfl, rfl, rfl, rfl, trivial⟩ ?_
      refine WC.region ?_
      refine WL.yd (Yd.move rfl) rfl ?_
      refine WL.yd (Yd.lenS rfl Try.underlying22 rfl) rfl ?_
      refine WL.yd (Yd.move rfl) rfl ?_
      refine WL.nil ?_
      refine WP.thenC ?_
      refine WC.block ?_
      refine WC.loopF (fun k : Nat => [(4, .bool false), (5, .slice none 0 0), (6, it 1), (7, .bool (isK m ps k)), (8, it (allK ps k)), (39, .slice ap ps.length cp), (40, nt ps.length), (41, nt k)]) (fun k => k ≤ ps.length) (fun k => ps.length - k) 0 (by omega) ⟨rfl, rfl, rfl, (congrArg (fun b => some (Value.bool b)) (by unfold isK inB; rw [Bool.eq_iff_iff]; simp; try omega)), rfl, rfl, rfl, rfl, trivial⟩ ?_
      intro k hk
      refine WC.seq ?_
      refine WC.ofFr [(4, _), (5, _), (6, _), (7, _), (8, _), (39, _), (40, _), (41, _)] ⟨rfl, rfl, rfl, rfl, rfl, rfl, rfl, rfl, trivial⟩ ?_
      refine WC.region ?_
      refine WL.yd (Yd.lss rfl rfl) rfl ?_
      refine WL.nil ?_
      refine WP.thenC ?_
      refine WC.seq ?_
      refine WC.cond rfl (fun c42 => ?_) (fun c42 => ?_)
      · try simp only [zq1, zq2, zq3, zq4, zq5, zq6, zq7, zq8] at c42
        have hkn : k < ps.length := by omega
        have han := allK_num ps k (by omega)
        refine WC.skip ?_
        refine WP.thenC ?_
        refine WC.seq ?_
        refine WC.block ?_
        refine WC.seq ?_
        refine WC.ofFr [(4, _), (5, _), (6, _), (7, _), (8, _), (39, _), (40, _), (41, _)] ⟨rfl, rfl, rfl, rfl, rfl, rfl, rfl, rfl, trivial⟩ ?_
        refine WC.region ?_
        refine WL.yd (Yd.indexS Try.underlying22 Try.sizeOf3 rfl rfl (by omega) (by omega) (by first | exact hS.addr k (by omega))) rfl ?_
        refine WL.yd (Yd.load1 Try.isAgg3 rfl (by first | exact ((hS.at k (by omega)).rd 0 rfl))) rfl ?_
        refine WL.yd (Yd.assign rfl) rfl ?_
        refine WL.nil ?_
        refine WP.thenC ?_
        refine WC.seq ?_
        refine WC.ofFr [(10, _), (4, _), (5, _), (6, _), (7, _), (8, _), (39, _), (40, _), (41, _)] ⟨rfl, rfl, rfl, rfl, rfl, rfl, rfl, rfl, rfl, trivial⟩ ?_
        refine WC.region ?_
        refine WL.yd (Yd.move rfl) rfl ?_
        refine WL.yd (Yd.move rfl) rfl ?_
        refine WL.part 46 rfl (fun g46 => ?_) (fun g46 => ?_)
        · try simp only [zq1, zq2, zq3, zq4, zq5, zq6, zq7, zq8] at g46
          refine WL.ydg rfl (Yd.move rfl) rfl ?_
          refine WL.ydg rfl (Yd.geq rfl rfl) rfl ?_
          refine WL.yd (Yd.pickT rfl rfl) rfl ?_
          refine WL.yd (Yd.move rfl) rfl ?_
          refine WL.part 50 rfl (fun g50 => ?_) (fun g50 => ?_)
          · try simp only [zq1, zq2, zq3, zq4, zq5, zq6, zq7, zq8] at g50
            refine WL.ydg rfl (Yd.move rfl) rfl ?_
            refine WL.ydg rfl (Yd.leq rfl rfl) rfl ?_
            refine WL.yd (Yd.pickT rfl rfl) rfl ?_
            refine WL.yd (Yd.assign rfl) rfl ?_
            refine WL.nil ?_
            refine WP.thenC ?_
            refine WC.ofFr [(7, _), (10, _), (4, _), (5, _), (6, _), (8, _), (39, _), (40, _), (41, _)] ⟨rfl, rfl, rfl, rfl, rfl, rfl, rfl, rfl, rfl, trivial⟩ ?_
            refine WC.region ?_
            refine WL.yd (Yd.move rfl) rfl ?_
            refine WL.yd (Yd.move rfl) rfl ?_
            refine WL.yd (Yd.min2 rfl rfl) rfl ?_
            refine WL.yd (Yd.max2 rfl rfl) rfl ?_
            refine WL.know 57 (it (clamp (gt ps k))) rfl rfl ?_
            have hcl : 0 ≤ clamp (gt ps k) ∧ clamp (gt ps k) ≤ 20 := by unfold clamp; omega
            refine WL.yd (Yd.add rfl rfl (wr64 ⟨by omega, by omega⟩)) rfl ?_
            refine WL.yd (Yd.assign rfl) rfl ?_
            refine WL.nil ?_
            refine WP.blkNormal ?_
            refine WP.thenC ?_
            refine WC.ofFr [(8, _), (7, _), (4, _), (5, _), (6, _), (39, _), (40, _), (41, _)] ⟨rfl, rfl, rfl, rfl, rfl, rfl, rfl, rfl, trivial⟩ ?_
            refine WC.region ?_
            refine WL.yd (Yd.add rfl rfl (wr64 ⟨by omega, by omega⟩)) rfl ?_
            refine WL.yd (Yd.move rfl) rfl ?_
            refine WL.nil ?_
            exact WP.againF (k + 1) (by omega) (by omega) ⟨rfl, rfl, rfl, (congrArg (fun b => some (Value.bool b)) (by rw [isK_succ m hkn]; unfold inB; rw [Bool.eq_iff_iff]; simp_all; try omega)), by rw [allK_succ hkn]; rfl, rfl, rfl, rfl, trivial⟩ (fun _ h => h) (fun h => h)
          · try simp only [zq1, zq2, zq3, zq4, zq5, zq6, zq7, zq8] at g50
            refine WL.skip rfl rfl ?_
            refine WL.skip rfl rfl ?_
            refine WL.yd (Yd.pickF rfl rfl) rfl ?_
            refine WL.yd (Yd.assign rfl) rfl ?_
            refine WL.nil ?_
            refine WP.thenC ?_
            refine WC.ofFr [(7, _), (10, _), (4, _), (5, _), (6, _), (8, _), (39, _), (40, _), (41, _)] ⟨rfl, rfl, rfl, rfl, rfl, rfl, rfl, rfl, rfl, trivial⟩ ?_
            refine WC.region ?_
            refine WL.yd (Yd.move rfl) rfl ?_
            refine WL.yd (Yd.move rfl) rfl ?_
            refine WL.yd (Yd.min2 rfl rfl) rfl ?_
            refine WL.yd (Yd.max2 rfl rfl) rfl ?_
            refine WL.know 57 (it (clamp (gt ps k))) rfl rfl ?_
            have hcl : 0 ≤ clamp (gt ps k) ∧ clamp (gt ps k) ≤ 20 := by unfold clamp; omega
            refine WL.yd (Yd.add rfl rfl (wr64 ⟨by omega, by omega⟩)) rfl ?_
            refine WL.yd (Yd.assign rfl) rfl ?_
            refine WL.nil ?_
            refine WP.blkNormal ?_
            refine WP.thenC ?_
            refine WC.ofFr [(8, _), (7, _), (4, _), (5, _), (6, _), (39, _), (40, _), (41, _)] ⟨rfl, rfl, rfl, rfl, rfl, rfl, rfl, rfl, trivial⟩ ?_
            refine WC.region ?_
            refine WL.yd (Yd.add rfl rfl (wr64 ⟨by omega, by omega⟩)) rfl ?_
            refine WL.yd (Yd.move rfl) rfl ?_
            refine WL.nil ?_
            exact WP.againF (k + 1) (by omega) (by omega) ⟨rfl, rfl, rfl, (congrArg (fun b => some (Value.bool b)) (by rw [isK_succ m hkn]; unfold inB; rw [Bool.eq_iff_iff]; simp_all; try omega)), by rw [allK_succ hkn]; rfl, rfl, rfl, rfl, trivial⟩ (fun _ h => h) (fun h => h)
        · try simp only [zq1, zq2, zq3, zq4, zq5, zq6, zq7, zq8] at g46
          refine WL.skip rfl rfl ?_
          refine WL.skip rfl rfl ?_
          refine WL.yd (Yd.pickF rfl rfl) rfl ?_
          refine WL.yd (Yd.move rfl) rfl ?_
          refine WL.skip rfl rfl ?_
          refine WL.skip rfl rfl ?_
          refine WL.yd (Yd.pickF rfl rfl) rfl ?_
          refine WL.yd (Yd.assign rfl) rfl ?_
          refine WL.nil ?_
          refine WP.thenC ?_
          refine WC.ofFr [(7, _), (10, _), (4, _), (5, _), (6, _), (8, _), (39, _), (40, _), (41, _)] ⟨rfl, rfl, rfl, rfl, rfl, rfl, rfl, rfl, rfl, trivial⟩ ?_
          refine WC.region ?_
          refine WL.yd (Yd.move rfl) rfl ?_
          refine WL.yd (Yd.move rfl) rfl ?_
          refine WL.yd (Yd.min2 rfl rfl) rfl ?_
          refine WL.yd (Yd.max2 rfl rfl) rfl ?_
          refine WL.know 57 (it (clamp (gt ps k))) rfl rfl ?_
          have hcl : 0 ≤ clamp (gt ps k) ∧ clamp (gt ps k) ≤ 20 := by unfold clamp; omega
          refine WL.yd (Yd.add rfl rfl (wr64 ⟨by omega, by omega⟩)) rfl ?_
          refine WL.yd (Yd.assign rfl) rfl ?_
          refine WL.nil ?_
          refine WP.blkNormal ?_
          refine WP.thenC ?_
          refine WC.ofFr [(8, _), (7, _), (4, _), (5, _), (6, _), (39, _), (40, _), (41, _)] ⟨rfl, rfl, rfl, rfl, rfl, rfl, rfl, rfl, trivial⟩ ?_
          refine WC.region ?_
          refine WL.yd (Yd.add rfl rfl (wr64 ⟨by omega, by omega⟩)) rfl ?_
          refine WL.yd (Yd.move rfl) rfl ?_
          refine WL.nil ?_
          exact WP.againF (k + 1) (by omega) (by omega) ⟨rfl, rfl, rfl, (congrArg (fun b => some (Value.bool b)) (by rw [isK_succ m hkn]; unfold inB; rw [Bool.eq_iff_iff]; simp_all; try omega)), by rw [allK_succ hkn]; rfl, rfl, rfl, rfl, trivial⟩ (fun _ h => h) (fun h => h)
      · try simp only [zq1, zq2, zq3, zq4, zq5, zq6, zq7, zq8] at c42
        refine WC.exit ?_
        refine WP.thenExit ?_
        refine WP.thenExit ?_
        refine WP.blkHit ?_
        refine WP.thenC ?_
        refine WC.seq ?_
        refine WC.seq ?_
        refine WC.ofFr [(4, _), (5, _), (6, _), (7, _), (8, _)] ⟨rfl, rfl, rfl, rfl, rfl, trivial⟩ ?_
        refine WC.region ?_
        refine WL.yd (Yd.move rfl) rfl ?_
        refine WL.yd (Yd.not rfl) rfl ?_
        refine WL.know 61 (.bool true) rfl (congrArg Value.bool (by rw [show k = ps.length by omega, isK_all, hv]; rfl)) ?_
        refine WL.nil ?_
        refine WP.thenC ?_
        refine WC.condT rfl ?_
        refine WC.seq ?_
        refine WC.ofFr [(4, _), (5, _), (6, _), (8, _)] ⟨rfl, rfl, rfl, rfl, trivial⟩ ?_
        refine WC.region ?_
        refine WL.yd (Yd.move rfl) rfl ?_
        refine WL.yd (Yd.eql rfl rfl) rfl ?_
        refine WL.know 63 (.bool true) rfl (congrArg Value.bool (by decide)) ?_
        refine WL.yd (Yd.move rfl) rfl ?_
        refine WL.ydg rfl (Yd.move rfl) rfl ?_
        refine WL.ydg rfl (Yd.lenS rfl Try.underlying22 rfl) rfl ?_
        refine WL.ydg rfl (Yd.eql rfl rfl) rfl ?_
        refine WL.know 67 (.bool true) rfl (congrArg Value.bool (by decide)) ?_
        refine WL.yd (Yd.pickT rfl rfl) rfl ?_
        refine WL.yd (Yd.move rfl) rfl ?_
        refine WL.sog rfl (SO.callP Try.call8 rfl (fun w hI => alive_g _ _ hI.imm)) rfl ?_
        rintro _ _ _ ⟨rfl, rfl, rfl⟩
        refine WL.know 70 (.bool true) rfl rfl ?_
        refine WL.yd (Yd.pickT rfl rfl) rfl ?_
        refine WL.yd (Yd.assign rfl) rfl ?_
        refine WL.nil ?_
        refine WP.thenC ?_
        refine WC.ret ?_
        refine WP.thenRet ?_
        refine WP.ret1 rfl rfl Try.results7 (RV.tmp rfl) (fun w hI => ⟨rfl, hI.keep⟩)
  · try simp only [zq1, zq2, zq3, zq4, zq5, zq6, zq7, zq8] at g30
    refine WL.skip rfl rfl ?_
    refine WL.skip rfl rfl ?_
    refine WL.yd (Yd.pickF rfl rfl) rfl ?_
    refine WL.yd (Yd.move rfl) rfl ?_
    refine WL.skip rfl rfl ?_
    refine WL.skip rfl rfl ?_
    refine WL.skip rfl rfl ?_
    refine WL.yd (Yd.pickF rfl rfl) rfl ?_
    refine WL.yd (Yd.assign rfl) rfl ?_
    refine WL.yd (Yd.assign rfl) rfl ?_
    refine WL.nil ?_
    refine WP.thenC ?_
    refine WC.seq ?_
    refine WC.seq ?_
    refine WC.ofFr [(8, _), (7, _), (6, _), (5, _), (4, _), (0, _), (1, _)] ⟨rfl, rfl, rfl, rfl, rfl, rfl, rfl, trivial⟩ ?_
    refine WC.region ?_
    refine WL.yd (Yd.move rfl) rfl ?_
    refine WL.yd (Yd.lenS rfl Try.underlying22 rfl) rfl ?_
    refine WL.yd (Yd.move rfl) rfl ?_
    refine WL.nil ?_
    refine WP.thenC ?_
    refine WC.block ?_
    refine WC.loopF (fun k : Nat => [(4, .bool false), (5, .slice none 0 0), (6, it 1), (7, .bool (isK m ps k)), (8, it (allK ps k)), (39, .slice ap ps.length cp), (40, nt ps.length), (41, nt k)]) (fun k => k ≤ ps.length) (fun k => ps.length - k) 0 (by omega) ⟨rfl, rfl, rfl, (congrArg (fun b => some (Value.bool b)) (by unfold isK inB; rw [Bool.eq_iff_iff]; simp; try omega)), rfl, rfl, rfl, rfl, trivial⟩ ?_
    intro k hk
    refine WC.seq ?_
    refine WC.ofFr [(4, _), (5, _), (6, _), (7, _), (8, _), (39, _), (40, _), (41, _)] ⟨rfl, rfl, rfl, rfl, rfl, rfl, rfl, rfl, trivial⟩ ?_
    refine WC.region ?_
    refine WL.yd (Yd.lss rfl rfl) rfl ?_
    refine WL.nil ?_
    refine WP.thenC ?_
    refine WC.seq ?_
    refine WC.cond rfl (fun c42 => ?_) (fun c42 => ?_)
    · try simp only [zq1, zq2, zq3, zq4, zq5, zq6, zq7, zq8] at c42
      have hkn : k < ps.length := by omega
      have han := allK_num ps k (by omega)
      refine WC.skip ?_
      refine WP.thenC ?_
      refine WC.seq ?_
      refine WC.block ?_
      refine WC.seq ?_
      refine WC.ofFr [(4, _), (5, _), (6, _), (7, _), (8, _), (39, _), (40, _), (41, _)] ⟨rfl, rfl, rfl, rfl, rfl, rfl, rfl, rfl, trivial⟩ ?_
      refine WC.region ?_
      refine WL.yd (Yd.indexS Try.underlying22 Try.sizeOf3 rfl rfl (by omega) (by omega) (by first | exact hS.addr k (by omega))) rfl ?_
      refine WL.yd (Yd.load1 Try.isAgg3 rfl (by first | exact ((hS.at k (by omega)).rd 0 rfl))) rfl ?_
      refine WL.yd (Yd.assign rfl) rfl ?_
      refine WL.nil ?_
      refine WP.thenC ?_
      refine WC.seq ?_
      refine WC.ofFr [(10, _), (4, _), (5, _), (6, _), (7, _), (8, _), (39, _), (40, _), (41, _)] ⟨rfl, rfl, rfl, rfl, rfl, rfl, rfl, rfl, rfl, trivial⟩ ?_
      refine WC.region ?_
      refine WL.yd (Yd.move rfl) rfl ?_
      refine WL.yd (Yd.move rfl) rfl ?_
      refine WL.part 46 rfl (fun g46 => ?_) (fun g46 => ?_)
      · try simp only [zq1, zq2, zq3, zq4, zq5, zq6, zq7, zq8] at g46
        refine WL.ydg rfl (Yd.move rfl) rfl ?_
        refine WL.ydg rfl (Yd.geq rfl rfl) rfl ?_
        refine WL.yd (Yd.pickT rfl rfl) rfl ?_
        refine WL.yd (Yd.move rfl) rfl ?_
        refine WL.part 50 rfl (fun g50 => ?_) (fun g50 => ?_)
        · try simp only [zq1, zq2, zq3, zq4, zq5, zq6, zq7, zq8] at g50
          refine WL.ydg rfl (Yd.move rfl) rfl ?_
          refine WL.ydg rfl (Yd.leq rfl rfl) rfl ?_
          refine WL.yd (Yd.pickT rfl rfl) rfl ?_
          refine WL.yd (Yd.assign rfl) rfl ?_
          refine WL.nil ?_
          refine WP.thenC ?_
          refine WC.ofFr [(7, _), (10, _), (4, _), (5, _), (6, _), (8, _), (39, _), (40, _), (41, _)] ⟨rfl, rfl, rfl, rfl, rfl, rfl, rfl, rfl, rfl, trivial⟩ ?_
          refine WC.region ?_
          refine WL.yd (Yd.move rfl) rfl ?_
          refine WL.yd (Yd.move rfl) rfl ?_
          refine WL.yd (Yd.min2 rfl rfl) rfl ?_
          refine WL.yd (Yd.max2 rfl rfl) rfl ?_
          refine WL.know 57 (it (clamp (gt ps k))) rfl rfl ?_
          have hcl : 0 ≤ clamp (gt ps k) ∧ clamp (gt ps k) ≤ 20 := by unfold clamp; omega
          refine WL.yd (Yd.add rfl rfl (wr64 ⟨by omega, by omega⟩)) rfl ?_
          refine WL.yd (Yd.assign rfl) rfl ?_
          refine WL.nil ?_
          refine WP.blkNormal ?_
          refine WP.thenC ?_
          refine WC.ofFr [(8, _), (7, _), (4, _), (5, _), (6, _), (39, _), (40, _), (41, _)] ⟨rfl, rfl, rfl, rfl, rfl, rfl, rfl, rfl, trivial⟩ ?_
          refine WC.region ?_
          refine WL.yd (Yd.add rfl rfl (wr64 ⟨by omega, by omega⟩)) rfl ?_
          refine WL.yd (Yd.move rfl) rfl ?_
          refine WL.nil ?_
          exact WP.againF (k + 1) (by omega) (by omega) ⟨rfl, rfl, rfl, (congrArg (fun b => some (Value.bool b)) (by rw [isK_succ m hkn]; unfold inB; rw [Bool.eq_iff_iff]; simp_all; try omega)), by rw [allK_succ hkn]; rfl, rfl, rfl, rfl, trivial⟩ (fun _ h => h) (fun h => h)
        · try simp only [zq1, zq2, zq3, zq4, zq5, zq6, zq7, zq8] at g50
          refine WL.skip rfl rfl ?_
          refine WL.skip rfl rfl ?_
          refine WL.yd (Yd.pickF rfl rfl) rfl ?_
          refine WL.yd (Yd.assign rfl) rfl ?_
          refine WL.nil ?_
          refine WP.thenC ?_
          refine WC.ofFr [(7, _), (10, _), (4, _), (5, _), (6, _), (8, _), (39, _), (40, _), (41, _)] ⟨rfl, rfl, rfl, rfl, rfl, rfl, rfl, rfl, rfl, trivial⟩ ?_
          refine WC.region ?_
          refine WL.yd (Yd.move rfl) rfl ?_
          refine WL.yd (Yd.move rfl) rfl ?_
          refine WL.yd (Yd.min2 rfl rfl) rfl ?_
          refine WL.yd (Yd.max2 rfl rfl) rfl ?_
          refine WL.know 57 (it (clamp (gt ps k))) rfl rfl ?_
          have hcl : 0 ≤ clamp (gt ps k) ∧ clamp (gt ps k) ≤ 20 := by unfold clamp; omega
          refine WL.yd (Yd.add rfl rfl (wr64 ⟨by omega, by omega⟩)) rfl ?_
          refine WL.yd (Yd.assign rfl) rfl ?_
          refine WL.nil ?_
          refine WP.blkNormal ?_
          refine WP.thenC ?_
          refine WC.ofFr [(8, _), (7, _), (4, _), (5, _), (6, _), (39, _), (40, _), (41, _)] ⟨rfl, rfl, rfl, rfl, rfl, rfl, rfl, rfl, trivial⟩ ?_
          refine WC.region ?_
          refine WL.yd (Yd.add rfl rfl (wr64 ⟨by omega, by omega⟩)) rfl ?_
          refine WL.yd (Yd.move rfl) rfl ?_
          refine WL.nil ?_
          exact WP.againF (k + 1) (by omega) (by omega) ⟨rfl, rfl, rfl, (congrArg (fun b => some (Value.bool b)) (by rw [isK_succ m hkn]; unfold inB; rw [Bool.eq_iff_iff]; simp_all; try omega)), by rw [allK_succ hkn]; rfl, rfl, rfl, rfl, trivial⟩ (fun _ h => h) (fun h => h)
      · try simp only [zq1, zq2, zq3, zq4, zq5, zq6, zq7, zq8] at g46
        refine WL.skip rfl rfl ?_
        refine WL.skip rfl rfl ?_
        refine WL.yd (Yd.pickF rfl rfl) rfl ?_
        refine WL.yd (Yd.move rfl) rfl ?_
        refine WL.skip rfl rfl ?_
        refine WL.skip rfl rfl ?_
        refine WL.yd (Yd.pickF rfl rfl) rfl ?_
        refine WL.yd (Yd.assign rfl) rfl ?_
        refine WL.nil ?_
        refine WP.thenC ?_
        refine WC.ofFr [(7, _), (10, _), (4, _), (5, _), (6, _), (8, _), (39, _), (40, _), (41, _)] ⟨rfl, rfl, rfl, rfl, rfl, rfl, rfl, rfl, rfl, trivial⟩ ?_
        refine WC.region ?_
        refine WL.yd (Yd.move rfl) rfl ?_
        refine WL.yd (Yd.move rfl) rfl ?_
        refine WL.yd (Yd.min2 rfl rfl) rfl ?_
        refine WL.yd (Yd.max2 rfl rfl) rfl ?_
        refine WL.know 57 (it (clamp (gt ps k))) rfl rfl ?_
        have hcl : 0 ≤ clamp (gt ps k) ∧ clamp (gt ps k) ≤ 20 := by unfold clamp; omega
        refine WL.yd (Yd.add rfl rfl (wr64 ⟨by omega, by omega⟩)) rfl ?_
        refine WL.yd (Yd.assign rfl) rfl ?_
        refine WL.nil ?_
        refine WP.blkNormal ?_
        refine WP.thenC ?_
        refine WC.ofFr [(8, _), (7, _), (4, _), (5, _), (6, _), (39, _), (40, _), (41, _)] ⟨rfl, rfl, rfl, rfl, rfl, rfl, rfl, rfl, trivial⟩ ?_
        refine WC.region ?_
        refine WL.yd (Yd.add rfl rfl (wr64 ⟨by omega, by omega⟩)) rfl ?_
        refine WL.yd (Yd.move rfl) rfl ?_
        refine WL.nil ?_
        exact WP.againF (k + 1) (by omega) (by omega) ⟨rfl, rfl, rfl, (congrArg (fun b => some (Value.bool b)) (by rw [isK_succ m hkn]; unfold inB; rw [Bool.eq_iff_iff]; simp_all; try omega)), by rw [allK_succ hkn]; rfl, rfl, rfl, rfl, trivial⟩ (fun _ h => h) (fun h => h)
    · try simp only [zq1, zq2, zq3, zq4, zq5, zq6, zq7, zq8] at c42
      refine WC.exit ?_
      refine WP.thenExit ?_
      refine WP.thenExit ?_
      refine WP.blkHit ?_
      refine WP.thenC ?_
      refine WC.seq ?_
      refine WC.seq ?_
      refine WC.ofFr [(4, _), (5, _), (6, _), (7, _), (8, _)] ⟨rfl, rfl, rfl, rfl, rfl, trivial⟩ ?_
      refine WC.region ?_
      refine WL.yd (Yd.move rfl) rfl ?_
      refine WL.yd (Yd.not rfl) rfl ?_
      refine WL.know 61 (.bool true) rfl (congrArg Value.bool (by rw [show k = ps.length by omega, isK_all, hv]; rfl)) ?_
      refine WL.nil ?_
      refine WP.thenC ?_
      refine WC.condT rfl ?_
      refine WC.seq ?_
      refine WC.ofFr [(4, _), (5, _), (6, _), (8, _)] ⟨rfl, rfl, rfl, rfl, trivial⟩ ?_
      refine WC.region ?_
      refine WL.yd (Yd.move rfl) rfl ?_
      refine WL.yd (Yd.eql rfl rfl) rfl ?_
      refine WL.know 63 (.bool true) rfl (congrArg Value.bool (by decide)) ?_
      refine WL.yd (Yd.move rfl) rfl ?_
      refine WL.ydg rfl (Yd.move rfl) rfl ?_
      refine WL.ydg rfl (Yd.lenS rfl Try.underlying22 rfl) rfl ?_
      refine WL.ydg rfl (Yd.eql rfl rfl) rfl ?_
      refine WL.know 67 (.bool true) rfl (congrArg Value.bool (by decide)) ?_
      refine WL.yd (Yd.pickT rfl rfl) rfl ?_
      refine WL.yd (Yd.move rfl) rfl ?_
      refine WL.sog rfl (SO.callP Try.call8 rfl (fun w hI => alive_g _ _ hI.imm)) rfl ?_
      rintro _ _ _ ⟨rfl, rfl, rfl⟩
      refine WL.know 70 (.bool true) rfl rfl ?_
      refine WL.yd (Yd.pickT rfl rfl) rfl ?_
      refine WL.yd (Yd.assign rfl) rfl ?_
      refine WL.nil ?_
      refine WP.thenC ?_
      refine WC.ret ?_
      refine WP.thenRet ?_
      refine WP.ret1 rfl rfl Try.results7 (RV.tmp rfl) (fun w hI => ⟨rfl, hI.keep⟩)

set_option maxRecDepth 100000 in
set_option maxHeartbeats 1000000 in
theorem splitl_z (M : Nat) (hM : M ≤ 5000) (qs : List Nat) (h6 : qs.length ≤ 6) (hq : ∀ i, i < qs.length → gt qs i ≤ 20) (ap : Option Addr) (cp : Nat) (D : Imm) (w : World) (hS : SlL D 1 (qs.map natC) ap qs.length) (hH : Holds D w) (hA : qs.sum = 0) : Gives Try.prog 7 [nt M, .slice ap qs.length cp] w (.bool true) := by
  unfold Gives
  refine enter Try.func7 rfl 214 Try.ntmps7 (Nat.le_of_ble_eq_true rfl) (Inv.start hH) ?_
  refine WC.seq ?_
  refine WC.ofFr [(0, _), (1, _)] ⟨rfl, rfl, trivial⟩ ?_
  refine WC.region ?_
  refine WL.yd (Yd.assign rfl) rfl ?_
  refine WL.nil ?_
  refine WP.thenC ?_
  refine WC.seq ?_
  refine WC.seq ?_
  refine WC.ofFr [(4, _), (0, _), (1, _)] ⟨rfl, rfl, rfl, trivial⟩ ?_
  refine WC.region ?_
  refine WL.yd (Yd.move rfl) rfl ?_
  refine WL.yd (Yd.lenS rfl Try.underlying22 rfl) rfl ?_
  refine WL.yd (Yd.gtr rfl rfl) rfl ?_
  refine WL.know 20 (.bool false) rfl (congrArg Value.bool (decide_eq_false (by omega))) ?_
  refine WL.nil ?_
  refine WP.thenC ?_
  refine WC.condF rfl ?_
  refine WC.skip ?_
  refine WP.thenC ?_
  refine WC.seq ?_
  refine WC.ofFr [(4, _), (0, _), (1, _)] ⟨rfl, rfl, rfl, trivial⟩ ?_
  refine WC.region ?_
  refine WL.yd (Yd.move rfl) rfl ?_
  refine WL.yd (Yd.move rfl) rfl ?_
  refine WL.so (SO.makes (Enters.func Try.call9 rfl) (fun w hI => Split_ok M hM qs h6 hq ap cp _ hS w hI.imm)) rfl ?_
  rintro _ D1 _ ⟨hX1, ⟨aS, cS, rfl, hSS⟩, rfl⟩
  replace hS := hS.ext hX1
  refine WL.yd (Yd.move rfl) rfl ?_
  refine WL.yd (Yd.extract rfl rfl) rfl ?_
  refine WL.yd (Yd.extract rfl rfl) rfl ?_
  refine WL.yd (Yd.assign rfl) rfl ?_
  refine WL.yd (Yd.assign rfl) rfl ?_
  refine WL.nil ?_
  refine WP.thenC ?_
  refine WC.seq ?_
  refine WC.ofFr [(6, _), (5, _), (4, _), (0, _), (1, _)] ⟨rfl, rfl, rfl, rfl, rfl, trivial⟩ ?_
  refine WC.region ?_
  refine WL.yd (Yd.move rfl) rfl ?_
  refine WL.yd (Yd.geq rfl rfl) rfl ?_
  refine WL.know 29 (.bool true) rfl (congrArg Value.bool (decide_eq_true (by (try dsimp only); omega))) ?_
  refine WL.yd (Yd.move rfl) rfl ?_
  refine WL.ydg rfl (Yd.move rfl) rfl ?_
  refine WL.ydg rfl (Yd.leq rfl rfl) rfl ?_
  refine WL.know 32 (.bool true) rfl (congrArg Value.bool (decide_eq_true (by (try dsimp only); omega))) ?_
  refine WL.yd (Yd.pickT rfl rfl) rfl ?_
  refine WL.yd (Yd.move rfl) rfl ?_
  refine WL.ydg rfl (Yd.move rfl) rfl ?_
  refine WL.ydg rfl (Yd.lenS rfl Try.underlying22 rfl) rfl ?_
  refine WL.ydg rfl (Yd.leq rfl rfl) rfl ?_
  refine WL.know 37 (.bool true) rfl (congrArg Value.bool (decide_eq_true (by (try dsimp only); omega))) ?_
  refine WL.yd (Yd.pickT rfl rfl) rfl ?_
  refine WL.yd (Yd.assign rfl) rfl ?_
  refine WL.yd (Yd.assign rfl) rfl ?_
  refine WL.nil ?_
  refine WP.thenC ?_
  refine WC.seq ?_
  refine WC.seq ?_
  refine WC.ofFr [(8, _), (7, _), (6, _), (5, _), (4, _), (0, _), (1, _)] ⟨rfl, rfl, rfl, rfl, rfl, rfl, rfl, trivial⟩ ?_
  refine WC.region ?_
  refine WL.yd (Yd.move rfl) rfl ?_
  refine WL.yd (Yd.lenS rfl Try.underlying22 rfl) rfl ?_
  refine WL.yd (Yd.move rfl) rfl ?_
  refine WL.nil ?_
  refine WP.thenC ?_
  refine WC.block ?_
  refine WC.loopF (fun k : Nat => [(0, nt M), (1, .slice ap qs.length cp), (4, .bool false), (5, .slice aS qs.length cS), (6, it 0), (7, .bool true), (8, nt (qs.take k).sum), (39, .slice ap qs.length cp), (40, nt qs.length), (41, nt k)]) (fun k => k ≤ qs.length) (fun k => qs.length - k) 0 (by omega) ⟨rfl, rfl, rfl, rfl, rfl, rfl, rfl, rfl, rfl, rfl, trivial⟩ ?_
  intro k hk
  refine WC.seq ?_
  refine WC.ofFr [(0, _), (1, _), (4, _), (5, _), (6, _), (7, _), (8, _), (39, _), (40, _), (41, _)] ⟨rfl, rfl, rfl, rfl, rfl, rfl, rfl, rfl, rfl, rfl, trivial⟩ ?_
  refine WC.region ?_
  refine WL.yd (Yd.lss rfl rfl) rfl ?_
  refine WL.nil ?_
  refine WP.thenC ?_
  refine WC.seq ?_
  refine WC.cond rfl (fun c42 => ?_) (fun c42 => ?_)
  · try simp only [zq1, zq2, zq3, zq4, zq5, zq6, zq7, zq8] at c42
    have hkn : k < qs.length := by omega
    have hqk := hq k hkn
    have hsk := sumN_bound hq k (by omega)
    refine WC.skip ?_
    refine WP.thenC ?_
    refine WC.seq ?_
    refine WC.block ?_
    refine WC.seq ?_
    refine WC.ofFr [(0, _), (1, _), (4, _), (5, _), (6, _), (7, _), (8, _), (39, _), (40, _), (41, _)] ⟨rfl, rfl, rfl, rfl, rfl, rfl, rfl, rfl, rfl, rfl, trivial⟩ ?_
    refine WC.region ?_
    refine WL.yd (Yd.indexS Try.underlying22 Try.sizeOf3 rfl rfl (by (try dsimp only); omega) (by (try dsimp only); omega) (by first | exact hS.addr k (by omega))) rfl ?_
    refine WL.yd (Yd.load1 Try.isAgg3 rfl (by first | exact ((hS.at k (by omega)).rd 0 rfl))) rfl ?_
    refine WL.know 44 (nt (gt qs k)) rfl rfl ?_
    refine WL.yd (Yd.assign rfl) rfl ?_
    refine WL.nil ?_
    refine WP.thenC ?_
    refine WC.seq ?_
    refine WC.ofFr [(10, _), (0, _), (1, _), (4, _), (5, _), (6, _), (7, _), (8, _), (39, _), (40, _), (41, _)] ⟨rfl, rfl, rfl, rfl, rfl, rfl, rfl, rfl, rfl, rfl, rfl, trivial⟩ ?_
    refine WC.region ?_
    refine WL.yd (Yd.move rfl) rfl ?_
    refine WL.know 45 (.bool true) rfl rfl ?_
    refine WL.yd (Yd.move rfl) rfl ?_
    refine WL.ydg rfl (Yd.move rfl) rfl ?_
    refine WL.ydg rfl (Yd.geq rfl rfl) rfl ?_
    refine WL.know 48 (.bool true) rfl (congrArg Value.bool (decide_eq_true (by (try dsimp only); omega))) ?_
    refine WL.yd (Yd.pickT rfl rfl) rfl ?_
    refine WL.yd (Yd.move rfl) rfl ?_
    refine WL.ydg rfl (Yd.move rfl) rfl ?_
    refine WL.ydg rfl (Yd.leq rfl rfl) rfl ?_
    refine WL.know 52 (.bool true) rfl (congrArg Value.bool (decide_eq_true (by (try dsimp only); omega))) ?_
    refine WL.yd (Yd.pickT rfl rfl) rfl ?_
    refine WL.yd (Yd.assign rfl) rfl ?_
    refine WL.nil ?_
    refine WP.thenC ?_
    refine WC.ofFr [(7, _), (10, _), (0, _), (1, _), (4, _), (5, _), (6, _), (8, _), (39, _), (40, _), (41, _)] ⟨rfl, rfl, rfl, rfl, rfl, rfl, rfl, rfl, rfl, rfl, rfl, trivial⟩ ?_
    refine WC.region ?_
    refine WL.yd (Yd.move rfl) rfl ?_
    refine WL.yd (Yd.move rfl) rfl ?_
    refine WL.yd (Yd.min2 rfl rfl) rfl ?_
    refine WL.yd (Yd.max2 rfl rfl) rfl ?_
    refine WL.know 57 (nt (gt qs k)) rfl (congrArg it (by omega)) ?_
    refine WL.yd (Yd.addN rfl rfl (by (try dsimp only); omega)) rfl ?_
    refine WL.yd (Yd.assign rfl) rfl ?_
    refine WL.nil ?_
    refine WP.blkNormal ?_
    refine WP.thenC ?_
    refine WC.ofFr [(8, _), (7, _), (0, _), (1, _), (4, _), (5, _), (6, _), (39, _), (40, _), (41, _)] ⟨rfl, rfl, rfl, rfl, rfl, rfl, rfl, rfl, rfl, rfl, trivial⟩ ?_
    refine WC.region ?_
    refine WL.yd (Yd.addN rfl rfl (by (try dsimp only); omega)) rfl ?_
    refine WL.yd (Yd.move rfl) rfl ?_
    refine WL.nil ?_
    exact WP.againF (k + 1) (by omega) (by omega) ⟨rfl, rfl, rfl, rfl, rfl, rfl, by rw [sumN_take hkn]; rfl, rfl, rfl, rfl, trivial⟩ (fun _ h => h) (fun h => h)
  · try simp only [zq1, zq2, zq3, zq4, zq5, zq6, zq7, zq8] at c42
    refine WC.exit ?_
    refine WP.thenExit ?_
    refine WP.thenExit ?_
    refine WP.blkHit ?_
    refine WP.thenC ?_
    refine WC.seq ?_
    refine WC.seq ?_
    obtain rfl : k = qs.length := by omega
    rw [List.take_length]
    refine WC.ofFr [(0, _), (1, _), (4, _), (5, _), (6, _), (7, _), (8, _)] ⟨rfl, rfl, rfl, rfl, rfl, rfl, rfl, trivial⟩ ?_
    refine WC.region ?_
    refine WL.yd (Yd.move rfl) rfl ?_
    refine WL.yd (Yd.not rfl) rfl ?_
    refine WL.know 61 (.bool false) rfl rfl ?_
    refine WL.nil ?_
    refine WP.thenC ?_
    refine WC.condF rfl ?_
    refine WC.skip ?_
    refine WP.thenC ?_
    refine WC.seq ?_
    refine WC.seq ?_
    refine WC.ofFr [(0, _), (1, _), (4, _), (5, _), (6, _), (8, _)] ⟨rfl, rfl, rfl, rfl, rfl, rfl, trivial⟩ ?_
    refine WC.region ?_
    refine WL.yd (Yd.move rfl) rfl ?_
    refine WL.yd (Yd.neq rfl rfl) rfl ?_
    refine WL.know 73 (.bool false) rfl (congrArg Value.bool (by decide)) ?_
    refine WL.yd (Yd.move rfl) rfl ?_
    refine WL.ydg rfl (Yd.move rfl) rfl ?_
    refine WL.ydg rfl (Yd.lenS rfl Try.underlying22 rfl) rfl ?_
    refine WL.ydg rfl (Yd.move rfl) rfl ?_
    refine WL.ydg rfl (Yd.lenS rfl Try.underlying22 rfl) rfl ?_
    refine WL.ydg rfl (Yd.neq rfl rfl) rfl ?_
    refine WL.know 79 (.bool false) rfl (congrArg Value.bool (by simp)) ?_
    refine WL.yd (Yd.pickF rfl rfl) rfl ?_
    refine WL.nil ?_
    refine WP.thenC ?_
    refine WC.condF rfl ?_
    refine WC.skip ?_
    refine WP.thenC ?_
    refine WC.seq ?_
    refine WC.ofFr [(0, _), (1, _), (4, _), (5, _), (8, _)] ⟨rfl, rfl, rfl, rfl, rfl, trivial⟩ ?_
    refine WC.region ?_
    refine WL.yd (Yd.assign rfl) rfl ?_
    refine WL.nil ?_
    refine WP.thenC ?_
    refine WC.seq ?_
    refine WC.seq ?_
    refine WC.ofFr [(11, _), (0, _), (1, _), (4, _), (5, _), (8, _)] ⟨rfl, rfl, rfl, rfl, rfl, rfl, trivial⟩ ?_
    refine WC.region ?_
    refine WL.yd (Yd.move rfl) rfl ?_
    refine WL.yd (Yd.lenS rfl Try.underlying22 rfl) rfl ?_
    refine WL.yd (Yd.move rfl) rfl ?_
    refine WL.nil ?_
    refine WP.thenC ?_
    refine WC.block ?_
    refine WC.loopF (fun i : Nat => [(0, nt M), (1, .slice ap qs.length cp), (4, .bool false), (5, .slice aS qs.length cS), (8, nt qs.sum), (11, nt ((splitL M qs).take i).sum), (81, .slice aS qs.length cS), (82, nt qs.length), (83, nt i)]) (fun i => i ≤ qs.length) (fun i => qs.length - i) 0 (by omega) ⟨rfl, rfl, rfl, rfl, rfl, rfl, rfl, rfl, rfl, trivial⟩ ?_
    intro i hi
    refine WC.seq ?_
    refine WC.ofFr [(0, _), (1, _), (4, _), (5, _), (8, _), (11, _), (81, _), (82, _), (83, _)] ⟨rfl, rfl, rfl, rfl, rfl, rfl, rfl, rfl, rfl, trivial⟩ ?_
    refine WC.region ?_
    refine WL.yd (Yd.lss rfl rfl) rfl ?_
    refine WL.nil ?_
    refine WP.thenC ?_
    refine WC.seq ?_
    refine WC.cond rfl (fun c84 => ?_) (fun c84 => ?_)
    · try simp only [zq1, zq2, zq3, zq4, zq5, zq6, zq7, zq8] at c84
      have hin : i < qs.length := by omega
      have hsi : ((splitL M qs).take (i + 1)).sum = ((splitL M qs).take i).sum + gt (splitL M qs) i := sumN_take (by rw [split_len]; exact hin)
      have hsm := sumN_mono (splitL M qs) (i + 1)
      have hsl := split_sum_le M qs
      refine WC.skip ?_
      refine WP.thenC ?_
      refine WC.seq ?_
      refine WC.block ?_
      refine WC.seq ?_
      refine WC.ofFr [(0, _), (1, _), (4, _), (5, _), (8, _), (11, _), (81, _), (82, _), (83, _)] ⟨rfl, rfl, rfl, rfl, rfl, rfl, rfl, rfl, rfl, trivial⟩ ?_
      refine WC.region ?_
      refine WL.yd (Yd.move rfl) rfl ?_
      refine WL.yd (Yd.indexS Try.underlying22 Try.sizeOf3 rfl rfl (by (try dsimp only); omega) (by (try dsimp only); omega) (by first | exact hSS.addr i (by omega))) rfl ?_
      refine WL.yd (Yd.load1 Try.isAgg3 rfl (by first | exact ((hSS.at i (by omega)).rd 0 rfl))) rfl ?_
      refine WL.know 87 (nt (gt (splitL M qs) i)) rfl rfl ?_
      refine WL.yd (Yd.assign rfl) rfl ?_
      refine WL.yd (Yd.assign rfl) rfl ?_
      refine WL.nil ?_
      refine WP.thenC ?_
      refine WC.seq ?_
      refine WC.ofFr [(13, _), (12, _), (0, _), (1, _), (4, _), (5, _), (8, _), (11, _), (81, _), (82, _), (83, _)] ⟨rfl, rfl, rfl, rfl, rfl, rfl, rfl, rfl, rfl, rfl, rfl, trivial⟩ ?_
      refine WC.region ?_
      refine WL.yd (Yd.move rfl) rfl ?_
      refine WL.yd (Yd.move rfl) rfl ?_
      refine WL.yd (Yd.addN rfl rfl (by (try dsimp only); omega)) rfl ?_
      refine WL.yd (Yd.assign rfl) rfl ?_
      refine WL.nil ?_
      refine WP.thenC ?_
      refine WC.seq ?_
      refine WC.seq ?_
      refine WC.ofFr [(11, _), (13, _), (12, _), (0, _), (1, _), (4, _), (5, _), (8, _), (81, _), (82, _), (83, _)] ⟨rfl, rfl, rfl, rfl, rfl, rfl, rfl, rfl, rfl, rfl, rfl, trivial⟩ ?_
      refine WC.region ?_
      refine WL.yd (Yd.move rfl) rfl ?_
      refine WL.yd (Yd.eql rfl rfl) rfl ?_
      refine WL.know 92 (.bool true) rfl (congrArg Value.bool (decide_eq_true (by (try dsimp only); omega))) ?_
      refine WL.nil ?_
      refine WP.thenC ?_
      refine WC.condT rfl ?_
      refine WC.seq ?_
      refine WC.seq ?_
      refine WC.ofFr [(11, _), (13, _), (12, _), (0, _), (1, _), (4, _), (5, _), (8, _), (81, _), (82, _), (83, _)] ⟨rfl, rfl, rfl, rfl, rfl, rfl, rfl, rfl, rfl, rfl, rfl, trivial⟩ ?_
      refine WC.region ?_
      refine WL.yd (Yd.move rfl) rfl ?_
      refine WL.yd (Yd.neq rfl rfl) rfl ?_
      refine WL.know 94 (.bool false) rfl (congrArg Value.bool (decide_eq_false (by (try dsimp only); rw [split_zero hA]; simp))) ?_
      refine WL.nil ?_
      refine WP.thenC ?_
      refine WC.condF rfl ?_
      refine WC.skip ?_
      refine WP.thenC ?_
      refine WC.exit ?_
      refine WP.thenExit ?_
      refine WP.blkHit ?_
      refine WP.thenC ?_
      refine WC.ofFr [(11, _), (0, _), (1, _), (4, _), (5, _), (8, _), (81, _), (82, _), (83, _)] ⟨rfl, rfl, rfl, rfl, rfl, rfl, rfl, rfl, rfl, trivial⟩ ?_
      refine WC.region ?_
      refine WL.yd (Yd.addN rfl rfl (by (try dsimp only); omega)) rfl ?_
      refine WL.yd (Yd.move rfl) rfl ?_
      refine WL.nil ?_
      exact WP.againF (i + 1) (by omega) (by omega) ⟨rfl, rfl, rfl, rfl, rfl, by first | rfl | (rw [hsi]; rfl), rfl, rfl, rfl, trivial⟩ (fun _ h => h) (fun h => h)
    · try simp only [zq1, zq2, zq3, zq4, zq5, zq6, zq7, zq8] at c84
      refine WC.exit ?_
      refine WP.thenExit ?_
      refine WP.thenExit ?_
      refine WP.blkHit ?_
      refine WP.thenC ?_
      refine WC.seq ?_
      obtain rfl : i = qs.length := by omega
      have hLz : (splitL M qs).take qs.length = (splitL M qs) := List.take_of_length_le (by rw [split_len]; exact Nat.le_refl _)
      rw [hLz]
      have hzs : (splitL M qs).sum = 0 := by unfold splitL; rw [if_pos hA]; simp
      refine WC.ofFr [(0, _), (4, _), (8, _), (11, _)] ⟨rfl, rfl, rfl, rfl, trivial⟩ ?_
      refine WC.region ?_
      refine WL.yd (Yd.move rfl) rfl ?_
      refine WL.yd (Yd.move rfl) rfl ?_
      refine WL.yd (Yd.eql rfl rfl) rfl ?_
      refine WL.yd (Yd.move rfl) rfl ?_
      refine WL.part 203 rfl (fun g203 => ?_) (fun g203 => ?_)
      · try simp only [zq1, zq2, zq3, zq4, zq5, zq6, zq7, zq8] at g203
        refine WL.skip rfl rfl ?_
        refine WL.skip rfl rfl ?_
        refine WL.skip rfl rfl ?_
        refine WL.skipU rfl rfl ?_
        refine WL.skipU rfl rfl ?_
        refine WL.skip rfl rfl ?_
        refine WL.yd (Yd.pickT rfl rfl) rfl ?_
        refine WL.yd (Yd.move rfl) rfl ?_
        refine WL.sog rfl (SO.callP Try.call8 rfl (fun w hI => alive_g _ _ hI.imm)) rfl ?_
        rintro _ _ _ ⟨rfl, rfl, rfl⟩
        refine WL.know 212 (.bool true) rfl rfl ?_
        refine WL.yd (Yd.pickT rfl rfl) rfl ?_
        refine WL.yd (Yd.assign rfl) rfl ?_
        refine WL.nil ?_
        refine WP.thenC ?_
        refine WC.ret ?_
        refine WP.ret1 rfl rfl Try.results7 (RV.tmp rfl) (fun w hI => ⟨rfl, hI.keep⟩)
      · try simp only [zq1, zq2, zq3, zq4, zq5, zq6, zq7, zq8] at g203
        refine WL.ydg rfl (Yd.move rfl) rfl ?_
        refine WL.ydg rfl (Yd.eql rfl rfl) rfl ?_
        refine WL.know 205 (.bool true) rfl (congrArg Value.bool (decide_eq_true (by (try dsimp only); omega))) ?_
        refine WL.ydg rfl (Yd.move rfl) rfl ?_
        refine WL.ydg rfl (Yd.move rfl) rfl ?_
        refine WL.ydg rfl (Yd.eql rfl rfl) rfl ?_
        refine WL.know 208 (.bool true) rfl (congrArg Value.bool (decide_eq_true (by (try dsimp only); have := sumN_mono (splitL M qs) qs.length; rw [hLz] at *; omega))) ?_
        refine WL.ydg rfl (Yd.pickT rfl rfl) rfl ?_
        refine WL.yd (Yd.pickF rfl rfl) rfl ?_
        refine WL.yd (Yd.move rfl) rfl ?_
        refine WL.sog rfl (SO.callP Try.call8 rfl (fun w hI => alive_g _ _ hI.imm)) rfl ?_
        rintro _ _ _ ⟨rfl, rfl, rfl⟩
        refine WL.know 212 (.bool true) rfl rfl ?_
        refine WL.yd (Yd.pickT rfl rfl) rfl ?_
        refine WL.yd (Yd.assign rfl) rfl ?_
        refine WL.nil ?_
        refine WP.thenC ?_
        refine WC.ret ?_
        refine WP.ret1 rfl rfl Try.results7 (RV.tmp rfl) (fun w hI => ⟨rfl, hI.keep⟩)

set_option maxRecDepth 100000 in
set_option maxHeartbeats 1000000 in
theorem splitl_p (M : Nat) (hM : M ≤ 5000) (qs : List Nat) (h6 : qs.length ≤ 6) (hq : ∀ i, i < qs.length → gt qs i ≤ 20) (ap : Option Addr) (cp : Nat) (D : Imm) (w : World) (hS : SlL D 1 (qs.map natC) ap qs.length) (hH : Holds D w) (hA : 0 < qs.sum) : Gives Try.prog 7 [nt M, .slice ap qs.length cp] w (.bool true) := by
  unfold Gives
  refine enter Try.func7 rfl 214 Try.ntmps7 (Nat.le_of_ble_eq_true rfl) (Inv.start hH) ?_
  refine WC.seq ?_
  refine WC.ofFr [(0, _), (1, _)] ⟨rfl, rfl, trivial⟩ ?_
  refine WC.region ?_
  refine WL.yd (Yd.assign rfl) rfl ?_
  refine WL.nil ?_
  refine WP.thenC ?_
  refine WC.seq ?_
  refine WC.seq ?_
  refine WC.ofFr [(4, _), (0, _), (1, _)] ⟨rfl, rfl, rfl, trivial⟩ ?_
  refine WC.region ?_
  refine WL.yd (Yd.move rfl) rfl ?_
  refine WL.yd (Yd.lenS rfl Try.underlying22 rfl) rfl ?_
  refine WL.yd (Yd.gtr rfl rfl) rfl ?_
  refine WL.know 20 (.bool false) rfl (congrArg Value.bool (decide_eq_false (by omega))) ?_
  refine WL.nil ?_
  refine WP.thenC ?_
  refine WC.condF rfl ?_
  refine WC.skip ?_
  refine WP.thenC ?_
  refine WC.seq ?_
  refine WC.ofFr [(4, _), (0, _), (1, _)] ⟨rfl, rfl, rfl, trivial⟩ ?_
  refine WC.region ?_
  refine WL.yd (Yd.move rfl) rfl ?_
  refine WL.yd (Yd.move rfl) rfl ?_
  refine WL.so (SO.makes (Enters.func Try.call9 rfl) (fun w hI => Split_ok M hM qs h6 hq ap cp _ hS w hI.imm)) rfl ?_
  rintro _ D1 _ ⟨hX1, ⟨aS, cS, rfl, hSS⟩, rfl⟩
  replace hS := hS.ext hX1
  refine WL.yd (Yd.move rfl) rfl ?_
  refine WL.yd (Yd.extract rfl rfl) rfl ?_
  refine WL.yd (Yd.extract rfl rfl) rfl ?_
  refine WL.yd (Yd.assign rfl) rfl ?_
  refine WL.yd (Yd.assign rfl) rfl ?_
  refine WL.nil ?_
  refine WP.thenC ?_
  refine WC.seq ?_
  refine WC.ofFr [(6, _), (5, _), (4, _), (0, _), (1, _)] ⟨rfl, rfl, rfl, rfl, rfl, trivial⟩ ?_
  refine WC.region ?_
  refine WL.yd (Yd.move rfl) rfl ?_
  refine WL.yd (Yd.geq rfl rfl) rfl ?_
  refine WL.know 29 (.bool true) rfl (congrArg Value.bool (decide_eq_true (by (try dsimp only); omega))) ?_
  refine WL.yd (Yd.move rfl) rfl ?_
  refine WL.ydg rfl (Yd.move rfl) rfl ?_
  refine WL.ydg rfl (Yd.leq rfl rfl) rfl ?_
  refine WL.know 32 (.bool true) rfl (congrArg Value.bool (decide_eq_true (by (try dsimp only); omega))) ?_
  refine WL.yd (Yd.pickT rfl rfl) rfl ?_
  refine WL.yd (Yd.move rfl) rfl ?_
  refine WL.ydg rfl (Yd.move rfl) rfl ?_
  refine WL.ydg rfl (Yd.lenS rfl Try.underlying22 rfl) rfl ?_
  refine WL.ydg rfl (Yd.leq rfl rfl) rfl ?_
  refine WL.know 37 (.bool true) rfl (congrArg Value.bool (decide_eq_true (by (try dsimp only); omega))) ?_
  refine WL.yd (Yd.pickT rfl rfl) rfl ?_
  refine WL.yd (Yd.assign rfl) rfl ?_
  refine WL.yd (Yd.assign rfl) rfl ?_
  refine WL.nil ?_
  refine WP.thenC ?_
  refine WC.seq ?_
  refine WC.seq ?_
  refine WC.ofFr [(8, _), (7, _), (6, _), (5, _), (4, _), (0, _), (1, _)] ⟨rfl, rfl, rfl, rfl, rfl, rfl, rfl, trivial⟩ ?_
  refine WC.region ?_
  refine WL.yd (Yd.move rfl) rfl ?_
  refine WL.yd (Yd.lenS rfl Try.underlying22 rfl) rfl ?_
  refine WL.yd (Yd.move rfl) rfl ?_
  refine WL.nil ?_
  refine WP.thenC ?_
  refine WC.block ?_
  refine WC.loopF (fun k : Nat => [(0, nt M), (1, .slice ap qs.length cp), (4, .bool false), (5, .slice aS qs.length cS), (6, it 0), (7, .bool true), (8, nt (qs.take k).sum), (39, .slice ap qs.length cp), (40, nt qs.length), (41, nt k)]) (fun k => k ≤ qs.length) (fun k => qs.length - k) 0 (by omega) ⟨rfl, rfl, rfl, rfl, rfl, rfl, rfl, rfl, rfl, rfl, trivial⟩ ?_
  intro k hk
  refine WC.seq ?_
  refine WC.ofFr [(0, _), (1, _), (4, _), (5, _), (6, _), (7, _), (8, _), (39, _), (40, _), (41, _)] ⟨rfl, rfl, rfl, rfl, rfl, rfl, rfl, rfl, rfl, rfl, trivial⟩ ?_
  refine WC.region ?_
  refine WL.yd (Yd.lss rfl rfl) rfl ?_
  refine WL.nil ?_
  refine WP.thenC ?_
  refine WC.seq ?_
  refine WC.cond rfl (fun c42 => ?_) (fun c42 => ?_)
  · try simp only [zq1, zq2, zq3, zq4, zq5, zq6, zq7, zq8] at c42
    have hkn : k < qs.length := by omega
    have hqk := hq k hkn
    have hsk := sumN_bound hq k (by omega)
    refine WC.skip ?_
    refine WP.thenC ?_
    refine WC.seq ?_
    refine WC.block ?_
    refine WC.seq ?_
    refine WC.ofFr [(0, _), (1, _), (4, _), (5, _), (6, _), (7, _), (8, _), (39, _), (40, _), (41, _)] ⟨rfl, rfl, rfl, rfl, rfl, rfl, rfl, rfl, rfl, rfl, trivial⟩ ?_
    refine WC.region ?_
    refine WL.yd (Yd.indexS Try.underlying22 Try.sizeOf3 rfl rfl (by (try dsimp only); omega) (by (try dsimp only); omega) (by first | exact hS.addr k (by omega))) rfl ?_
    refine WL.yd (Yd.load1 Try.isAgg3 rfl (by first | exact ((hS.at k (by omega)).rd 0 rfl))) rfl ?_
    refine WL.know 44 (nt (gt qs k)) rfl rfl ?_
    refine WL.yd (Yd.assign rfl) rfl ?_
    refine WL.nil ?_
    refine WP.thenC ?_
    refine WC.seq ?_
    refine WC.ofFr [(10, _), (0, _), (1, _), (4, _), (5, _), (6, _), (7, _), (8, _), (39, _), (40, _), (41, _)] ⟨rfl, rfl, rfl, rfl, rfl, rfl, rfl, rfl, rfl, rfl, rfl, trivial⟩ ?_
    refine WC.region ?_
    refine WL.yd (Yd.move rfl) rfl ?_
    refine WL.know 45 (.bool true) rfl rfl ?_
    refine WL.yd (Yd.move rfl) rfl ?_
    refine WL.ydg rfl (Yd.move rfl) rfl ?_
    refine WL.ydg rfl (Yd.geq rfl rfl) rfl ?_
    refine WL.know 48 (.bool true) rfl (congrArg Value.bool (decide_eq_true (by (try dsimp only); omega))) ?_
    refine WL.yd (Yd.pickT rfl rfl) rfl ?_
    refine WL.yd (Yd.move rfl) rfl ?_
    refine WL.ydg rfl (Yd.move rfl) rfl ?_
    refine WL.ydg rfl (Yd.leq rfl rfl) rfl ?_
    refine WL.know 52 (.bool true) rfl (congrArg Value.bool (decide_eq_true (by (try dsimp only); omega))) ?_
    refine WL.yd (Yd.pickT rfl rfl) rfl ?_
    refine WL.yd (Yd.assign rfl) rfl ?_
    refine WL.nil ?_
    refine WP.thenC ?_
    refine WC.ofFr [(7, _), (10, _), (0, _), (1, _), (4, _), (5, _), (6, _), (8, _), (39, _), (40, _), (41, _)] ⟨rfl, rfl, rfl, rfl, rfl, rfl, rfl, rfl, rfl, rfl, rfl, trivial⟩ ?_
    refine WC.region ?_
    refine WL.yd (Yd.move rfl) rfl ?_
    refine WL.yd (Yd.move rfl) rfl ?_
    refine WL.yd (Yd.min2 rfl rfl) rfl ?_
    refine WL.yd (Yd.max2 rfl rfl) rfl ?_
    refine WL.know 57 (nt (gt qs k)) rfl (congrArg it (by omega)) ?_
    refine WL.yd (Yd.addN rfl rfl (by (try dsimp only); omega)) rfl ?_
    refine WL.yd (Yd.assign rfl) rfl ?_
    refine WL.nil ?_
    refine WP.blkNormal ?_
    refine WP.thenC ?_
    refine WC.ofFr [(8, _), (7, _), (0, _), (1, _), (4, _), (5, _), (6, _), (39, _), (40, _), (41, _)] ⟨rfl, rfl, rfl, rfl, rfl, rfl, rfl, rfl, rfl, rfl, trivial⟩ ?_
    refine WC.region ?_
    refine WL.yd (Yd.addN rfl rfl (by (try dsimp only); omega)) rfl ?_
    refine WL.yd (Yd.move rfl) rfl ?_
    refine WL.nil ?_
    exact WP.againF (k + 1) (by omega) (by omega) ⟨rfl, rfl, rfl, rfl, rfl, rfl, by rw [sumN_take hkn]; rfl, rfl, rfl, rfl, trivial⟩ (fun _ h => h) (fun h => h)
  · try simp only [zq1, zq2, zq3, zq4, zq5, zq6, zq7, zq8] at c42
    refine WC.exit ?_
    refine WP.thenExit ?_
    refine WP.thenExit ?_
    refine WP.blkHit ?_
    refine WP.thenC ?_
    refine WC.seq ?_
    refine WC.seq ?_
    obtain rfl : k = qs.length := by omega
    rw [List.take_length]
    refine WC.ofFr [(0, _), (1, _), (4, _), (5, _), (6, _), (7, _), (8, _)] ⟨rfl, rfl, rfl, rfl, rfl, rfl, rfl, trivial⟩ ?_
    refine WC.region ?_
    refine WL.yd (Yd.move rfl) rfl ?_
    refine WL.yd (Yd.not rfl) rfl ?_
    refine WL.know 61 (.bool false) rfl rfl ?_
    refine WL.nil ?_
    refine WP.thenC ?_
    refine WC.condF rfl ?_
    refine WC.skip ?_
    refine WP.thenC ?_
    refine WC.seq ?_
    refine WC.seq ?_
    refine WC.ofFr [(0, _), (1, _), (4, _), (5, _), (6, _), (8, _)] ⟨rfl, rfl, rfl, rfl, rfl, rfl, trivial⟩ ?_
    refine WC.region ?_
    refine WL.yd (Yd.move rfl) rfl ?_
    refine WL.yd (Yd.neq rfl rfl) rfl ?_
    refine WL.know 73 (.bool false) rfl (congrArg Value.bool (by decide)) ?_
    refine WL.yd (Yd.move rfl) rfl ?_
    refine WL.ydg rfl (Yd.move rfl) rfl ?_
    refine WL.ydg rfl (Yd.lenS rfl Try.underlying22 rfl) rfl ?_
    refine WL.ydg rfl (Yd.move rfl) rfl ?_
    refine WL.ydg rfl (Yd.lenS rfl Try.underlying22 rfl) rfl ?_
    refine WL.ydg rfl (Yd.neq rfl rfl) rfl ?_
    refine WL.know 79 (.bool false) rfl (congrArg Value.bool (by simp)) ?_
    refine WL.yd (Yd.pickF rfl rfl) rfl ?_
    refine WL.nil ?_
    refine WP.thenC ?_
    refine WC.condF rfl ?_
    refine WC.skip ?_
    refine WP.thenC ?_
    refine WC.seq ?_
    refine WC.ofFr [(0, _), (1, _), (4, _), (5, _), (8, _)] ⟨rfl, rfl, rfl, rfl, rfl, trivial⟩ ?_
    refine WC.region ?_
    refine WL.yd (Yd.assign rfl) rfl ?_
    refine WL.nil ?_
    refine WP.thenC ?_
    refine WC.seq ?_
    refine WC.seq ?_
    refine WC.ofFr [(11, _), (0, _), (1, _), (4, _), (5, _), (8, _)] ⟨rfl, rfl, rfl, rfl, rfl, rfl, trivial⟩ ?_
    refine WC.region ?_
    refine WL.yd (Yd.move rfl) rfl ?_
    refine WL.yd (Yd.lenS rfl Try.underlying22 rfl) rfl ?_
    refine WL.yd (Yd.move rfl) rfl ?_
    refine WL.nil ?_
    refine WP.thenC ?_
    refine WC.block ?_
    refine WC.loopF (fun i : Nat => [(0, nt M), (1, .slice ap qs.length cp), (4, .bool false), (5, .slice aS qs.length cS), (8, nt qs.sum), (11, nt ((splitL M qs).take i).sum), (81, .slice aS qs.length cS), (82, nt qs.length), (83, nt i)]) (fun i => i ≤ qs.length) (fun i => qs.length - i) 0 (by omega) ⟨rfl, rfl, rfl, rfl, rfl, rfl, rfl, rfl, rfl, trivial⟩ ?_
    intro i hi
    refine WC.seq ?_
    refine WC.ofFr [(0, _), (1, _), (4, _), (5, _), (8, _), (11, _), (81, _), (82, _), (83, _)] ⟨rfl, rfl, rfl, rfl, rfl, rfl, rfl, rfl, rfl, trivial⟩ ?_
    refine WC.region ?_
    refine WL.yd (Yd.lss rfl rfl) rfl ?_
    refine WL.nil ?_
    refine WP.thenC ?_
    refine WC.seq ?_
    refine WC.cond rfl (fun c84 => ?_) (fun c84 => ?_)
    · try simp only [zq1, zq2, zq3, zq4, zq5, zq6, zq7, zq8] at c84
      have hin : i < qs.length := by omega
      have hsi : ((splitL M qs).take (i + 1)).sum = ((splitL M qs).take i).sum + gt (splitL M qs) i := sumN_take (by rw [split_len]; exact hin)
      have hsm := sumN_mono (splitL M qs) (i + 1)
      have hsl := split_sum_le M qs
      have hnum := split_num (M := M) hA hin
      have hpi : 0 ≤ (M : Int) * ((gt qs i : Nat) : Int) ∧ (M : Int) * ((gt qs i : Nat) : Int) ≤ 100000 := by have h1 := (down_num (A := qs.sum) hM hq (i := i) (by omega)).1; rw [← Int.natCast_mul]; omega
      refine WC.skip ?_
      refine WP.thenC ?_
      refine WC.seq ?_
      refine WC.block ?_
      refine WC.seq ?_
      refine WC.ofFr [(0, _), (1, _), (4, _), (5, _), (8, _), (11, _), (81, _), (82, _), (83, _)] ⟨rfl, rfl, rfl, rfl, rfl, rfl, rfl, rfl, rfl, trivial⟩ ?_
      refine WC.region ?_
      refine WL.yd (Yd.move rfl) rfl ?_
      refine WL.yd (Yd.indexS Try.underlying22 Try.sizeOf3 rfl rfl (by (try dsimp only); omega) (by (try dsimp only); omega) (by first | exact hSS.addr i (by omega))) rfl ?_
      refine WL.yd (Yd.load1 Try.isAgg3 rfl (by first | exact ((hSS.at i (by omega)).rd 0 rfl))) rfl ?_
      refine WL.know 87 (nt (gt (splitL M qs) i)) rfl rfl ?_
      refine WL.yd (Yd.assign rfl) rfl ?_
      refine WL.yd (Yd.assign rfl) rfl ?_
      refine WL.nil ?_
      refine WP.thenC ?_
      refine WC.seq ?_
      refine WC.ofFr [(13, _), (12, _), (0, _), (1, _), (4, _), (5, _), (8, _), (11, _), (81, _), (82, _), (83, _)] ⟨rfl, rfl, rfl, rfl, rfl, rfl, rfl, rfl, rfl, rfl, rfl, trivial⟩ ?_
      refine WC.region ?_
      refine WL.yd (Yd.move rfl) rfl ?_
      refine WL.yd (Yd.move rfl) rfl ?_
      refine WL.yd (Yd.addN rfl rfl (by (try dsimp only); omega)) rfl ?_
      refine WL.yd (Yd.assign rfl) rfl ?_
      refine WL.nil ?_
      refine WP.thenC ?_
      refine WC.seq ?_
      refine WC.seq ?_
      refine WC.ofFr [(11, _), (13, _), (12, _), (0, _), (1, _), (4, _), (5, _), (8, _), (81, _), (82, _), (83, _)] ⟨rfl, rfl, rfl, rfl, rfl, rfl, rfl, rfl, rfl, rfl, rfl, trivial⟩ ?_
      refine WC.region ?_
      refine WL.yd (Yd.move rfl) rfl ?_
      refine WL.yd (Yd.eql rfl rfl) rfl ?_
      refine WL.know 92 (.bool false) rfl (congrArg Value.bool (decide_eq_false (by (try dsimp only); omega))) ?_
      refine WL.nil ?_
      refine WP.thenC ?_
      refine WC.condF rfl ?_
      refine WC.skip ?_
      refine WP.thenC ?_
      refine WC.seq ?_
      refine WC.ofFr [(11, _), (13, _), (12, _), (0, _), (1, _), (4, _), (5, _), (8, _), (81, _), (82, _), (83, _)] ⟨rfl, rfl, rfl, rfl, rfl, rfl, rfl, rfl, rfl, rfl, rfl, trivial⟩ ?_
      refine WC.tail 17 [0, 1, 2, 3, 4, 5, 6, 7, 8, 9, 10, 11, 12, 13, 14, 15, 16] rfl (by kernel_rfl) (by kernel_rfl)  ?_
      refine WQ.q rfl (Yd.qt (Yd.move rfl)) rfl ?_
      refine WQ.q rfl (Yd.qt (Yd.move rfl)) rfl ?_
      refine WQ.q rfl (Yd.qt (Yd.move rfl)) rfl ?_
      refine WQ.q rfl (Yd.qt (Yd.indexS Try.underlying22 Try.sizeOf3 rfl rfl (by (try dsimp only); omega) (by (try dsimp only); omega) (by first | exact hS.addr i (by omega)))) rfl ?_
      refine WQ.q rfl (Yd.qt (Yd.load1 Try.isAgg3 rfl (by first | exact ((hS.at i (by omega)).rd 0 rfl)))) rfl ?_
      refine WQ.q rfl (Yd.qt (Yd.mul rfl rfl (wr64 ⟨by omega, by omega⟩))) rfl ?_
      refine WQ.q rfl (Yd.qt (Yd.move rfl)) rfl ?_
      refine WQ.q rfl (Yd.qt (Yd.quoN (i := M * gt qs i) (j := qs.sum) rfl rfl hA (by have := (down_num (A := qs.sum) hM hq (i := i) (by omega)).1; omega))) rfl ?_
      refine WQ.q rfl (Yd.qt (Yd.move rfl)) rfl ?_
      refine WQ.q rfl (Yd.qt (Yd.move rfl)) rfl ?_
      refine WQ.q rfl (Yd.qt (Yd.move rfl)) rfl ?_
      refine WQ.q rfl (Yd.qt (Yd.indexS Try.underlying22 Try.sizeOf3 rfl rfl (by (try dsimp only); omega) (by (try dsimp only); omega) (by first | exact hS.addr i (by omega)))) rfl ?_
      refine WQ.q rfl (Yd.qt (Yd.load1 Try.isAgg3 rfl (by first | exact ((hS.at i (by omega)).rd 0 rfl)))) rfl ?_
      refine WQ.q rfl (Yd.qt (Yd.mul rfl rfl (wr64 ⟨by omega, by omega⟩))) rfl ?_
      refine WQ.q rfl (Yd.qt (Yd.move rfl)) rfl ?_
      refine WQ.q rfl (Yd.qt (Yd.remN (i := M * gt qs i) (j := qs.sum) rfl rfl hA)) rfl ?_
      refine WQ.q rfl (Yd.qt (Yd.assign rfl)) rfl ?_
      refine WQ.tail ?_
      refine WL.yd (Yd.assign rfl) rfl ?_
      refine WL.nil ?_
      refine WP.thenC ?_
      refine WC.seq ?_
      refine WC.seq ?_
      refine WC.ofFr [(15, _), (14, _), (11, _), (13, _), (12, _), (0, _), (1, _), (4, _), (5, _), (8, _), (81, _), (82, _), (83, _)] ⟨rfl, rfl, rfl, rfl, rfl, rfl, rfl, rfl, rfl, rfl, rfl, rfl, rfl, trivial⟩ ?_
      refine WC.region ?_
      refine WL.know 14 (nt (downN M qs.sum qs i)) rfl rfl ?_
      refine WL.know 15 (nt (remN M qs.sum qs i)) rfl rfl ?_
      refine WL.yd (Yd.move rfl) rfl ?_
      refine WL.yd (Yd.move rfl) rfl ?_
      refine WL.yd (Yd.lss rfl rfl) rfl ?_
      refine WL.know 113 (.bool false) rfl (congrArg Value.bool (decide_eq_false (by (try dsimp only); omega))) ?_
      refine WL.yd (Yd.move rfl) rfl ?_
      refine WL.ydg rfl (Yd.move rfl) rfl ?_
      refine WL.ydg rfl (Yd.move rfl) rfl ?_
      refine WL.ydg rfl (Yd.addN rfl rfl (by (try dsimp only); omega)) rfl ?_
      refine WL.ydg rfl (Yd.gtr rfl rfl) rfl ?_
      refine WL.know 118 (.bool false) rfl (congrArg Value.bool (decide_eq_false (by (try dsimp only); omega))) ?_
      refine WL.yd (Yd.pickF rfl rfl) rfl ?_
      refine WL.yd (Yd.move rfl) rfl ?_
      refine WL.ydg rfl (Yd.move rfl) rfl ?_
      refine WL.ydg rfl (Yd.move rfl) rfl ?_
      refine WL.ydg rfl (Yd.gtr rfl rfl) rfl ?_
      refine WL.ydg rfl (Yd.move rfl) rfl ?_
      refine WL.part 124 rfl (fun g124 => ?_) (fun g124 => ?_)
      · try simp only [zq1, zq2, zq3, zq4, zq5, zq6, zq7, zq8] at g124
        refine WL.ydg rfl (Yd.move rfl) rfl ?_
        refine WL.ydg rfl (Yd.eql rfl rfl) rfl ?_
        refine WL.know 126 (.bool false) rfl (congrArg Value.bool (decide_eq_false (by (try dsimp only); have := split_pos (M := M) hA hin (by omega); omega))) ?_
        refine WL.ydg rfl (Yd.pickT rfl rfl) rfl ?_
        refine WL.yd (Yd.pickF rfl rfl) rfl ?_
        refine WL.nil ?_
        refine WP.thenC ?_
        refine WC.condF rfl ?_
        refine WC.skip ?_
        refine WP.thenC ?_
        refine WC.seq ?_
        refine WC.ofFr [(15, _), (14, _), (11, _), (13, _), (12, _), (0, _), (1, _), (4, _), (5, _), (8, _), (81, _), (82, _), (83, _)] ⟨rfl, rfl, rfl, rfl, rfl, rfl, rfl, rfl, rfl, rfl, rfl, rfl, rfl, trivial⟩ ?_
        refine WC.region ?_
        refine WL.yd (Yd.move rfl) rfl ?_
        refine WL.yd (Yd.lenS rfl Try.underlying22 rfl) rfl ?_
        refine WL.yd (Yd.move rfl) rfl ?_
        refine WL.nil ?_
        refine WP.thenC ?_
        refine WC.block ?_
        refine WC.loopF (fun k : Nat => [(0, nt M), (1, .slice ap qs.length cp), (4, .bool false), (5, .slice aS qs.length cS), (8, nt qs.sum), (11, nt ((splitL M qs).take (i + 1)).sum), (12, nt i), (13, nt (gt (splitL M qs) i)), (14, nt (downN M qs.sum qs i)), (15, nt (remN M qs.sum qs i)), (81, .slice aS qs.length cS), (82, nt qs.length), (83, nt i), (129, .slice aS qs.length cS), (130, nt qs.length), (131, nt k)]) (fun k => k ≤ qs.length) (fun k => qs.length - k) 0 (by omega) ⟨rfl, rfl, rfl, rfl, rfl, by rw [hsi]; rfl, rfl, rfl, rfl, rfl, rfl, rfl, rfl, rfl, rfl, rfl, trivial⟩ ?_
        intro k hk
        refine WC.seq ?_
        refine WC.ofFr [(0, _), (1, _), (4, _), (5, _), (8, _), (11, _), (12, _), (13, _), (14, _), (15, _), (81, _), (82, _), (83, _), (129, _), (130, _), (131, _)] ⟨rfl, rfl, rfl, rfl, rfl, rfl, rfl, rfl, rfl, rfl, rfl, rfl, rfl, rfl, rfl, rfl, trivial⟩ ?_
        refine WC.region ?_
        refine WL.yd (Yd.lss rfl rfl) rfl ?_
        refine WL.nil ?_
        refine WP.thenC ?_
        refine WC.seq ?_
        refine WC.cond rfl (fun c132 => ?_) (fun c132 => ?_)
        · try simp only [zq1, zq2, zq3, zq4, zq5, zq6, zq7, zq8] at c132
          have hkn : k < qs.length := by omega
          have hpk : 0 ≤ (M : Int) * ((gt qs k : Nat) : Int) ∧ (M : Int) * ((gt qs k : Nat) : Int) ≤ 100000 := by have h1 := (down_num (A := qs.sum) hM hq (i := k) (by omega)).1; rw [← Int.natCast_mul]; omega
          refine WC.skip ?_
          refine WP.thenC ?_
          refine WC.seq ?_
          refine WC.block ?_
          refine WC.seq ?_
          refine WC.ofFr [(0, _), (1, _), (4, _), (5, _), (8, _), (11, _), (12, _), (13, _), (14, _), (15, _), (81, _), (82, _), (83, _), (129, _), (130, _), (131, _)] ⟨rfl, rfl, rfl, rfl, rfl, rfl, rfl, rfl, rfl, rfl, rfl, rfl, rfl, rfl, rfl, rfl, trivial⟩ ?_
          refine WC.region ?_
          refine WL.yd (Yd.move rfl) rfl ?_
          refine WL.yd (Yd.indexS Try.underlying22 Try.sizeOf3 rfl rfl (by (try dsimp only); omega) (by (try dsimp only); omega) (by first | exact hSS.addr k (by omega))) rfl ?_
          refine WL.yd (Yd.load1 Try.isAgg3 rfl (by first | exact ((hSS.at k (by omega)).rd 0 rfl))) rfl ?_
          refine WL.know 135 (nt (gt (splitL M qs) k)) rfl rfl ?_
          refine WL.yd (Yd.assign rfl) rfl ?_
          refine WL.yd (Yd.assign rfl) rfl ?_
          refine WL.nil ?_
          refine WP.thenC ?_
          refine WC.seq ?_
          refine WC.seq ?_
          refine WC.ofFr [(17, _), (16, _), (0, _), (1, _), (4, _), (5, _), (8, _), (11, _), (12, _), (13, _), (14, _), (15, _), (81, _), (82, _), (83, _), (129, _), (130, _), (131, _)] ⟨rfl, rfl, rfl, rfl, rfl, rfl, rfl, rfl, rfl, rfl, rfl, rfl, rfl, rfl, rfl, rfl, rfl, rfl, trivial⟩ ?_
          refine WC.tail 32 [0, 1, 2, 3, 4, 5, 6, 7, 8, 9, 10, 11, 12, 13, 14, 15, 16, 17, 18, 19, 20, 21, 22, 23, 24, 25, 26, 27, 28, 29, 30, 31] rfl (by kernel_rfl) (by kernel_rfl)  ?_
          refine WQ.q rfl (Yd.qt (Yd.move rfl)) rfl ?_
          refine WQ.q rfl (Yd.qt (Yd.move rfl)) rfl ?_
          refine WQ.q rfl (Yd.qt (Yd.indexS Try.underlying22 Try.sizeOf3 rfl rfl (by (try dsimp only); omega) (by (try dsimp only); omega) (by first | exact hS.addr k (by omega) | exact hS.addr i (by omega)))) rfl ?_
          refine WQ.q rfl (Yd.qt (Yd.load1 Try.isAgg3 rfl (by first | exact ((hS.at k (by omega)).rd 0 rfl) | exact ((hS.at i (by omega)).rd 0 rfl)))) rfl ?_
          refine WQ.q rfl (Yd.qt (Yd.move rfl)) rfl ?_
          refine WQ.q rfl (Yd.qt (Yd.move rfl)) rfl ?_
          refine WQ.q rfl (Yd.qt (Yd.indexS Try.underlying22 Try.sizeOf3 rfl rfl (by (try dsimp only); omega) (by (try dsimp only); omega) (by first | exact hS.addr k (by omega) | exact hS.addr i (by omega)))) rfl ?_
          refine WQ.q rfl (Yd.qt (Yd.load1 Try.isAgg3 rfl (by first | exact ((hS.at k (by omega)).rd 0 rfl) | exact ((hS.at i (by omega)).rd 0 rfl)))) rfl ?_
          refine WQ.know 139 (nt (gt qs k)) rfl rfl ?_
          refine WQ.know 143 (nt (gt qs i)) rfl rfl ?_
          refine WQ.q rfl (Yd.qt (Yd.lss rfl rfl)) rfl ?_
          refine WQ.q rfl (Yd.qt (Yd.move rfl)) rfl ?_
          refine WQ.part 145 rfl (fun g145 => ?_) (fun g145 => ?_)
          · try simp only [zq1, zq2, zq3, zq4, zq5, zq6, zq7, zq8] at g145
            refine WQ.qg rfl rfl (Yd.qt (Yd.move rfl)) rfl ?_
            refine WQ.qg rfl rfl (Yd.qt (Yd.move rfl)) rfl ?_
            refine WQ.qg rfl rfl (Yd.qt (Yd.gtr rfl rfl)) rfl ?_
            refine WQ.know 148 (.bool false) rfl (congrArg Value.bool (decide_eq_false (by (try dsimp only); have := split_mono (M := M) (i := i) (k := k) hA hin hkn (by omega); omega))) ?_
            refine WQ.q rfl (Yd.qt (Yd.pickT rfl rfl)) rfl ?_
            refine WQ.q rfl (Yd.qt (Yd.move rfl)) rfl ?_
            refine WQ.qg rfl rfl (Yd.qt (Yd.move rfl)) rfl ?_
            refine WQ.qg rfl rfl (Yd.qt (Yd.move rfl)) rfl ?_
            refine WQ.qg rfl rfl (Yd.qt (Yd.indexS Try.underlying22 Try.sizeOf3 rfl rfl (by (try dsimp only); omega) (by (try dsimp only); omega) (by first | exact hS.addr k (by omega) | exact hS.addr i (by omega)))) rfl ?_
            refine WQ.qg rfl rfl (Yd.qt (Yd.load1 Try.isAgg3 rfl (by first | exact ((hS.at k (by omega)).rd 0 rfl) | exact ((hS.at i (by omega)).rd 0 rfl)))) rfl ?_
            refine WQ.qg rfl rfl (Yd.qt (Yd.move rfl)) rfl ?_
            refine WQ.qg rfl rfl (Yd.qt (Yd.move rfl)) rfl ?_
            refine WQ.qg rfl rfl (Yd.qt (Yd.indexS Try.underlying22 Try.sizeOf3 rfl rfl (by (try dsimp only); omega) (by (try dsimp only); omega) (by first | exact hS.addr k (by omega) | exact hS.addr i (by omega)))) rfl ?_
            refine WQ.qg rfl rfl (Yd.qt (Yd.load1 Try.isAgg3 rfl (by first | exact ((hS.at k (by omega)).rd 0 rfl) | exact ((hS.at i (by omega)).rd 0 rfl)))) rfl ?_
            refine WQ.qg rfl rfl (Yd.qt (Yd.eql rfl rfl)) rfl ?_
            refine WQ.qg rfl rfl (Yd.qt (Yd.move rfl)) rfl ?_
            refine WQ.part 160 rfl (fun g160 => ?_) (fun g160 => ?_)
            · try simp only [zq1, zq2, zq3, zq4, zq5, zq6, zq7, zq8] at g160
              refine WQ.qg rfl rfl (Yd.qt (Yd.move rfl)) rfl ?_
              refine WQ.qg rfl rfl (Yd.qt (Yd.move rfl)) rfl ?_
              refine WQ.qg rfl rfl (Yd.qt (Yd.gtr rfl rfl)) rfl ?_
              refine WQ.qg rfl rfl (Yd.qt (Yd.pickT rfl rfl)) rfl ?_
              refine WQ.qg rfl rfl (Yd.qt (Yd.move rfl)) rfl ?_
              refine WQ.part 165 rfl (fun g165 => ?_) (fun g165 => ?_)
              · try simp only [zq1, zq2, zq3, zq4, zq5, zq6, zq7, zq8] at g165
                refine WQ.qg rfl rfl (Yd.qt (Yd.move rfl)) rfl ?_
                refine WQ.qg rfl rfl (Yd.qt (Yd.move rfl)) rfl ?_
                refine WQ.tail ?_
                refine WL.ydg rfl (Yd.gtr rfl rfl) rfl ?_
                refine WL.know 168 (.bool false) rfl (congrArg Value.bool (decide_eq_false (by (try dsimp only); have := split_same (M := M) (i := i) (k := k) hA hin hkn (by omega) (by omega); omega))) ?_
                refine WL.ydg rfl (Yd.pickT rfl rfl) rfl ?_
                refine WL.yd (Yd.pickF rfl rfl) rfl ?_
                refine WL.nil ?_
                refine WP.thenC ?_
                refine WC.condF rfl ?_
                refine WC.skip ?_
                refine WP.thenC ?_
                refine WC.seq ?_
                refine WC.ofFr [(17, _), (16, _), (0, _), (1, _), (4, _), (5, _), (8, _), (11, _), (12, _), (13, _), (14, _), (15, _), (81, _), (82, _), (83, _), (129, _), (130, _), (131, _)] ⟨rfl, rfl, rfl, rfl, rfl, rfl, rfl, rfl, rfl, rfl, rfl, rfl, rfl, rfl, rfl, rfl, rfl, rfl, trivial⟩ ?_
                refine WC.region ?_
                refine WL.yd (Yd.move rfl) rfl ?_
                refine WL.yd (Yd.move rfl) rfl ?_
                refine WL.yd (Yd.move rfl) rfl ?_
                refine WL.yd (Yd.indexS Try.underlying22 Try.sizeOf3 rfl rfl (by (try dsimp only); omega) (by (try dsimp only); omega) (by first | exact hS.addr k (by omega))) rfl ?_
                refine WL.yd (Yd.load1 Try.isAgg3 rfl (by first | exact ((hS.at k (by omega)).rd 0 rfl))) rfl ?_
                refine WL.yd (Yd.mul rfl rfl (wr64 ⟨by omega, by omega⟩)) rfl ?_
                refine WL.yd (Yd.move rfl) rfl ?_
                refine WL.yd (Yd.remN (i := M * gt qs k) (j := qs.sum) rfl rfl hA) rfl ?_
                refine WL.know 178 (nt (remN M qs.sum qs k)) rfl rfl ?_
                refine WL.yd (Yd.move rfl) rfl ?_
                refine WL.yd (Yd.lss rfl rfl) rfl ?_
                refine WL.yd (Yd.move rfl) rfl ?_
                refine WL.part 181 rfl (fun g181 => ?_) (fun g181 => ?_)
                · try simp only [zq1, zq2, zq3, zq4, zq5, zq6, zq7, zq8] at g181
                  refine WL.ydg rfl (Yd.move rfl) rfl ?_
                  refine WL.ydg rfl (Yd.move rfl) rfl ?_
                  refine WL.ydg rfl (Yd.move rfl) rfl ?_
                  refine WL.ydg rfl (Yd.move rfl) rfl ?_
                  refine WL.ydg rfl (Yd.indexS Try.underlying22 Try.sizeOf3 rfl rfl (by (try dsimp only); omega) (by (try dsimp only); omega) (by first | exact hS.addr k (by omega))) rfl ?_
                  refine WL.ydg rfl (Yd.load1 Try.isAgg3 rfl (by first | exact ((hS.at k (by omega)).rd 0 rfl))) rfl ?_
                  refine WL.ydg rfl (Yd.mul rfl rfl (wr64 ⟨by omega, by omega⟩)) rfl ?_
                  refine WL.ydg rfl (Yd.move rfl) rfl ?_
                  refine WL.ydg rfl (Yd.quoN (i := M * gt qs k) (j := qs.sum) rfl rfl hA (by have := (down_num (A := qs.sum) hM hq (i := k) (by omega)).1; omega)) rfl ?_
                  refine WL.ydg rfl (Yd.gtr rfl rfl) rfl ?_
                  refine WL.yd (Yd.pickT rfl rfl) rfl ?_
                  refine WL.yd (Yd.move rfl) rfl ?_
                  refine WL.part 193 rfl (fun g193 => ?_) (fun g193 => ?_)
                  · try simp only [zq1, zq2, zq3, zq4, zq5, zq6, zq7, zq8] at g193
                    have hdk : downN M qs.sum qs k < gt (splitL M qs) k := by unfold downN; omega
                    refine WL.ydg rfl (Yd.move rfl) rfl ?_
                    refine WL.ydg rfl (Yd.move rfl) rfl ?_
                    refine WL.ydg rfl (Yd.eql rfl rfl) rfl ?_
                    refine WL.know 196 (.bool false) rfl (congrArg Value.bool (decide_eq_false (by (try dsimp only); have := split_rem (M := M) (i := i) (k := k) hA hin hkn (by omega) (by omega); omega))) ?_
                    refine WL.yd (Yd.pickT rfl rfl) rfl ?_
                    refine WL.nil ?_
                    refine WP.thenC ?_
                    refine WC.condF rfl ?_
                    refine WC.skip ?_
                    refine WP.blkNormal ?_
                    refine WP.thenC ?_
                    refine WC.ofFr [(0, _), (1, _), (4, _), (5, _), (8, _), (11, _), (12, _), (13, _), (14, _), (15, _), (81, _), (82, _), (83, _), (129, _), (130, _), (131, _)] ⟨rfl, rfl, rfl, rfl, rfl, rfl, rfl, rfl, rfl, rfl, rfl, rfl, rfl, rfl, rfl, rfl, trivial⟩ ?_
                    refine WC.region ?_
                    refine WL.yd (Yd.addN rfl rfl (by (try dsimp only); omega)) rfl ?_
                    refine WL.yd (Yd.move rfl) rfl ?_
                    refine WL.nil ?_
                    exact WP.againF (k + 1) (by omega) (by omega) ⟨rfl, rfl, rfl, rfl, rfl, rfl, rfl, rfl, rfl, rfl, rfl, rfl, rfl, rfl, rfl, rfl, trivial⟩ (fun _ h => h) (fun h => h)
                  · try simp only [zq1, zq2, zq3, zq4, zq5, zq6, zq7, zq8] at g193
                    refine WL.skip rfl rfl ?_
                    refine WL.skip rfl rfl ?_
                    refine WL.skip rfl rfl ?_
                    refine WL.yd (Yd.pickF rfl rfl) rfl ?_
                    refine WL.nil ?_
                    refine WP.thenC ?_
                    refine WC.condF rfl ?_
                    refine WC.skip ?_
                    refine WP.blkNormal ?_
                    refine WP.thenC ?_
                    refine WC.ofFr [(0, _), (1, _), (4, _), (5, _), (8, _), (11, _), (12, _), (13, _), (14, _), (15, _), (81, _), (82, _), (83, _), (129, _), (130, _), (131, _)] ⟨rfl, rfl, rfl, rfl, rfl, rfl, rfl, rfl, rfl, rfl, rfl, rfl, rfl, rfl, rfl, rfl, trivial⟩ ?_
                    refine WC.region ?_
                    refine WL.yd (Yd.addN rfl rfl (by (try dsimp only); omega)) rfl ?_
                    refine WL.yd (Yd.move rfl) rfl ?_
                    refine WL.nil ?_
                    exact WP.againF (k + 1) (by omega) (by omega) ⟨rfl, rfl, rfl, rfl, rfl, rfl, rfl, rfl, rfl, rfl, rfl, rfl, rfl, rfl, rfl, rfl, trivial⟩ (fun _ h => h) (fun h => h)
                · try simp only [zq1, zq2, zq3, zq4, zq5, zq6, zq7, zq8] at g181
                  refine WL.skip rfl rfl ?_
                  refine WL.skip rfl rfl ?_
                  refine WL.skip rfl rfl ?_
                  refine WL.skip rfl rfl ?_
                  refine WL.skip rfl rfl ?_
                  refine WL.skip rfl rfl ?_
                  refine WL.skip rfl rfl ?_
                  refine WL.skip rfl rfl ?_
                  refine WL.skip rfl rfl ?_
                  refine WL.skip rfl rfl ?_
                  refine WL.yd (Yd.pickF rfl rfl) rfl ?_
                  refine WL.yd (Yd.move rfl) rfl ?_
                  refine WL.skip rfl rfl ?_
                  refine WL.skip rfl rfl ?_
                  refine WL.skip rfl rfl ?_
                  refine WL.yd (Yd.pickF rfl rfl) rfl ?_
                  refine WL.nil ?_
                  refine WP.thenC ?_
                  refine WC.condF rfl ?_
                  refine WC.skip ?_
                  refine WP.blkNormal ?_
                  refine WP.thenC ?_
                  refine WC.ofFr [(0, _), (1, _), (4, _), (5, _), (8, _), (11, _), (12, _), (13, _), (14, _), (15, _), (81, _), (82, _), (83, _), (129, _), (130, _), (131, _)] ⟨rfl, rfl, rfl, rfl, rfl, rfl, rfl, rfl, rfl, rfl, rfl, rfl, rfl, rfl, rfl, rfl, trivial⟩ ?_
                  refine WC.region ?_
                  refine WL.yd (Yd.addN rfl rfl (by (try dsimp only); omega)) rfl ?_
                  refine WL.yd (Yd.move rfl) rfl ?_
                  refine WL.nil ?_
                  exact WP.againF (k + 1) (by omega) (by omega) ⟨rfl, rfl, rfl, rfl, rfl, rfl, rfl, rfl, rfl, rfl, rfl, rfl, rfl, rfl, rfl, rfl, trivial⟩ (fun _ h => h) (fun h => h)
              · try simp only [zq1, zq2, zq3, zq4, zq5, zq6, zq7, zq8] at g165
                refine WQ.skip rfl rfl rfl ?_
                refine WQ.skip rfl rfl rfl ?_
                refine WQ.tail ?_
                refine WL.skip rfl rfl ?_
                refine WL.ydg rfl (Yd.pickF rfl rfl) rfl ?_
                refine WL.yd (Yd.pickF rfl rfl) rfl ?_
                refine WL.nil ?_
                refine WP.thenC ?_
                refine WC.condF rfl ?_
                refine WC.skip ?_
                refine WP.thenC ?_
                refine WC.seq ?_
                refine WC.ofFr [(17, _), (16, _), (0, _), (1, _), (4, _), (5, _), (8, _), (11, _), (12, _), (13, _), (14, _), (15, _), (81, _), (82, _), (83, _), (129, _), (130, _), (131, _)] ⟨rfl, rfl, rfl, rfl, rfl, rfl, rfl, rfl, rfl, rfl, rfl, rfl, rfl, rfl, rfl, rfl, rfl, rfl, trivial⟩ ?_
                refine WC.region ?_
                refine WL.yd (Yd.move rfl) rfl ?_
                refine WL.yd (Yd.move rfl) rfl ?_
                refine WL.yd (Yd.move rfl) rfl ?_
                refine WL.yd (Yd.indexS Try.underlying22 Try.sizeOf3 rfl rfl (by (try dsimp only); omega) (by (try dsimp only); omega) (by first | exact hS.addr k (by omega))) rfl ?_
                refine WL.yd (Yd.load1 Try.isAgg3 rfl (by first | exact ((hS.at k (by omega)).rd 0 rfl))) rfl ?_
                refine WL.yd (Yd.mul rfl rfl (wr64 ⟨by omega, by omega⟩)) rfl ?_
                refine WL.yd (Yd.move rfl) rfl ?_
                refine WL.yd (Yd.remN (i := M * gt qs k) (j := qs.sum) rfl rfl hA) rfl ?_
                refine WL.know 178 (nt (remN M qs.sum qs k)) rfl rfl ?_
                refine WL.yd (Yd.move rfl) rfl ?_
                refine WL.yd (Yd.lss rfl rfl) rfl ?_
                refine WL.yd (Yd.move rfl) rfl ?_
                refine WL.part 181 rfl (fun g181 => ?_) (fun g181 => ?_)
                · try simp only [zq1, zq2, zq3, zq4, zq5, zq6, zq7, zq8] at g181
                  refine WL.ydg rfl (Yd.move rfl) rfl ?_
                  refine WL.ydg rfl (Yd.move rfl) rfl ?_
                  refine WL.ydg rfl (Yd.move rfl) rfl ?_
                  refine WL.ydg rfl (Yd.move rfl) rfl ?_
                  refine WL.ydg rfl (Yd.indexS Try.underlying22 Try.sizeOf3 rfl rfl (by (try dsimp only); omega) (by (try dsimp only); omega) (by first | exact hS.addr k (by omega))) rfl ?_
                  refine WL.ydg rfl (Yd.load1 Try.isAgg3 rfl (by first | exact ((hS.at k (by omega)).rd 0 rfl))) rfl ?_
                  refine WL.ydg rfl (Yd.mul rfl rfl (wr64 ⟨by omega, by omega⟩)) rfl ?_
                  refine WL.ydg rfl (Yd.move rfl) rfl ?_
                  refine WL.ydg rfl (Yd.quoN (i := M * gt qs k) (j := qs.sum) rfl rfl hA (by have := (down_num (A := qs.sum) hM hq (i := k) (by omega)).1; omega)) rfl ?_
                  refine WL.ydg rfl (Yd.gtr rfl rfl) rfl ?_
                  refine WL.yd (Yd.pickT rfl rfl) rfl ?_
                  refine WL.yd (Yd.move rfl) rfl ?_
                  refine WL.part 193 rfl (fun g193 => ?_) (fun g193 => ?_)
                  · try simp only [zq1, zq2, zq3, zq4, zq5, zq6, zq7, zq8] at g193
                    have hdk : downN M qs.sum qs k < gt (splitL M qs) k := by unfold downN; omega
                    refine WL.ydg rfl (Yd.move rfl) rfl ?_
                    refine WL.ydg rfl (Yd.move rfl) rfl ?_
                    refine WL.ydg rfl (Yd.eql rfl rfl) rfl ?_
                    refine WL.know 196 (.bool false) rfl (congrArg Value.bool (decide_eq_false (by (try dsimp only); have := split_rem (M := M) (i := i) (k := k) hA hin hkn (by omega) (by omega); omega))) ?_
                    refine WL.yd (Yd.pickT rfl rfl) rfl ?_
                    refine WL.nil ?_
                    refine WP.thenC ?_
                    refine WC.condF rfl ?_
                    refine WC.skip ?_
                    refine WP.blkNormal ?_
                    refine WP.thenC ?_
                    refine WC.ofFr [(0, _), (1, _), (4, _), (5, _), (8, _), (11, _), (12, _), (13, _), (14, _), (15, _), (81, _), (82, _), (83, _), (129, _), (130, _), (131, _)] ⟨rfl, rfl, rfl, rfl, rfl, rfl, rfl, rfl, rfl, rfl, rfl, rfl, rfl, rfl, rfl, rfl, trivial⟩ ?_
                    refine WC.region ?_
                    refine WL.yd (Yd.addN rfl rfl (by (try dsimp only); omega)) rfl ?_
                    refine WL.yd (Yd.move rfl) rfl ?_
                    refine WL.nil ?_
                    exact WP.againF (k + 1) (by omega) (by omega) ⟨rfl, rfl, rfl, rfl, rfl, rfl, rfl, rfl, rfl, rfl, rfl, rfl, rfl, rfl, rfl, rfl, trivial⟩ (fun _ h => h) (fun h => h)
                  · try simp only [zq1, zq2, zq3, zq4, zq5, zq6, zq7, zq8] at g193
                    refine WL.skip rfl rfl ?_
                    refine WL.skip rfl rfl ?_
                    refine WL.skip rfl rfl ?_
                    refine WL.yd (Yd.pickF rfl rfl) rfl ?_
                    refine WL.nil ?_
                    refine WP.thenC ?_
                    refine WC.condF rfl ?_
                    refine WC.skip ?_
                    refine WP.blkNormal ?_
                    refine WP.thenC ?_
                    refine WC.ofFr [(0, _), (1, _), (4, _), (5, _), (8, _), (11, _), (12, _), (13, _), (14, _), (15, _), (81, _), (82, _), (83, _), (129, _), (130, _), (131, _)] ⟨rfl, rfl, rfl, rfl, rfl, rfl, rfl, rfl, rfl, rfl, rfl, rfl, rfl, rfl, rfl, rfl, trivial⟩ ?_
                    refine WC.region ?_
                    refine WL.yd (Yd.addN rfl rfl (by (try dsimp only); omega)) rfl ?_
                    refine WL.yd (Yd.move rfl) rfl ?_
                    refine WL.nil ?_
                    exact WP.againF (k + 1) (by omega) (by omega) ⟨rfl, rfl, rfl, rfl, rfl, rfl, rfl, rfl, rfl, rfl, rfl, rfl, rfl, rfl, rfl, rfl, trivial⟩ (fun _ h => h) (fun h => h)
                · try simp only [zq1, zq2, zq3, zq4, zq5, zq6, zq7, zq8] at g181
                  refine WL.skip rfl rfl ?_
                  refine WL.skip rfl rfl ?_
                  refine WL.skip rfl rfl ?_
                  refine WL.skip rfl rfl ?_
                  refine WL.skip rfl rfl ?_
                  refine WL.skip rfl rfl ?_
                  refine WL.skip rfl rfl ?_
                  refine WL.skip rfl rfl ?_
                  refine WL.skip rfl rfl ?_
                  refine WL.skip rfl rfl ?_
                  refine WL.yd (Yd.pickF rfl rfl) rfl ?_
                  refine WL.yd (Yd.move rfl) rfl ?_
                  refine WL.skip rfl rfl ?_
                  refine WL.skip rfl rfl ?_
                  refine WL.skip rfl rfl ?_
                  refine WL.yd (Yd.pickF rfl rfl) rfl ?_
                  refine WL.nil ?_
                  refine WP.thenC ?_
                  refine WC.condF rfl ?_
                  refine WC.skip ?_
                  refine WP.blkNormal ?_
                  refine WP.thenC ?_
                  refine WC.ofFr [(0, _), (1, _), (4, _), (5, _), (8, _), (11, _), (12, _), (13, _), (14, _), (15, _), (81, _), (82, _), (83, _), (129, _), (130, _), (131, _)] ⟨rfl, rfl, rfl, rfl, rfl, rfl, rfl, rfl, rfl, rfl, rfl, rfl, rfl, rfl, rfl, rfl, trivial⟩ ?_
                  refine WC.region ?_
                  refine WL.yd (Yd.addN rfl rfl (by (try dsimp only); omega)) rfl ?_
                  refine WL.yd (Yd.move rfl) rfl ?_
                  refine WL.nil ?_
                  exact WP.againF (k + 1) (by omega) (by omega) ⟨rfl, rfl, rfl, rfl, rfl, rfl, rfl, rfl, rfl, rfl, rfl, rfl, rfl, rfl, rfl, rfl, trivial⟩ (fun _ h => h) (fun h => h)
            · try simp only [zq1, zq2, zq3, zq4, zq5, zq6, zq7, zq8] at g160
              refine WQ.skip rfl rfl rfl ?_
              refine WQ.skip rfl rfl rfl ?_
              refine WQ.skip rfl rfl rfl ?_
              refine WQ.qg rfl rfl (Yd.qt (Yd.pickF rfl rfl)) rfl ?_
              refine WQ.qg rfl rfl (Yd.qt (Yd.move rfl)) rfl ?_
              refine WQ.skip rfl rfl rfl ?_
              refine WQ.skip rfl rfl rfl ?_
              refine WQ.tail ?_
              refine WL.skip rfl rfl ?_
              refine WL.ydg rfl (Yd.pickF rfl rfl) rfl ?_
              refine WL.yd (Yd.pickF rfl rfl) rfl ?_
              refine WL.nil ?_
              refine WP.thenC ?_
              refine WC.condF rfl ?_
              refine WC.skip ?_
              refine WP.thenC ?_
              refine WC.seq ?_
              refine WC.ofFr [(17, _), (16, _), (0, _), (1, _), (4, _), (5, _), (8, _), (11, _), (12, _), (13, _), (14, _), (15, _), (81, _), (82, _), (83, _), (129, _), (130, _), (131, _)] ⟨rfl, rfl, rfl, rfl, rfl, rfl, rfl, rfl, rfl, rfl, rfl, rfl, rfl, rfl, rfl, rfl, rfl, rfl, trivial⟩ ?_
              refine WC.region ?_
              refine WL.yd (Yd.move rfl) rfl ?_
              refine WL.yd (Yd.move rfl) rfl ?_
              refine WL.yd (Yd.move rfl) rfl ?_
              refine WL.yd (Yd.indexS Try.underlying22 Try.sizeOf3 rfl rfl (by (try dsimp only); omega) (by (try dsimp only); omega) (by first | exact hS.addr k (by omega))) rfl ?_
              refine WL.yd (Yd.load1 Try.isAgg3 rfl (by first | exact ((hS.at k (by omega)).rd 0 rfl))) rfl ?_
              refine WL.yd (Yd.mul rfl rfl (wr64 ⟨by omega, by omega⟩)) rfl ?_
              refine WL.yd (Yd.move rfl) rfl ?_
              refine WL.yd (Yd.remN (i := M * gt qs k) (j := qs.sum) rfl rfl hA) rfl ?_
              refine WL.know 178 (nt (remN M qs.sum qs k)) rfl rfl ?_
              refine WL.yd (Yd.move rfl) rfl ?_
              refine WL.yd (Yd.lss rfl rfl) rfl ?_
              refine WL.yd (Yd.move rfl) rfl ?_
              refine WL.part 181 rfl (fun g181 => ?_) (fun g181 => ?_)
              · try simp only [zq1, zq2, zq3, zq4, zq5, zq6, zq7, zq8] at g181
                refine WL.ydg rfl (Yd.move rfl) rfl ?_
                refine WL.ydg rfl (Yd.move rfl) rfl ?_
                refine WL.ydg rfl (Yd.move rfl) rfl ?_
                refine WL.ydg rfl (Yd.move rfl) rfl ?_
                refine WL.ydg rfl (Yd.indexS Try.underlying22 Try.sizeOf3 rfl rfl (by (try dsimp only); omega) (by (try dsimp only); omega) (by first | exact hS.addr k (by omega))) rfl ?_
                refine WL.ydg rfl (Yd.load1 Try.isAgg3 rfl (by first | exact ((hS.at k (by omega)).rd 0 rfl))) rfl ?_
                refine WL.ydg rfl (Yd.mul rfl rfl (wr64 ⟨by omega, by omega⟩)) rfl ?_
                refine WL.ydg rfl (Yd.move rfl) rfl ?_
                refine WL.ydg rfl (Yd.quoN (i := M * gt qs k) (j := qs.sum) rfl rfl hA (by have := (down_num (A := qs.sum) hM hq (i := k) (by omega)).1; omega)) rfl ?_
                refine WL.ydg rfl (Yd.gtr rfl rfl) rfl ?_
                refine WL.yd (Yd.pickT rfl rfl) rfl ?_
                refine WL.yd (Yd.move rfl) rfl ?_
                refine WL.part 193 rfl (fun g193 => ?_) (fun g193 => ?_)
                · try simp only [zq1, zq2, zq3, zq4, zq5, zq6, zq7, zq8] at g193
                  have hdk : downN M qs.sum qs k < gt (splitL M qs) k := by unfold downN; omega
                  refine WL.ydg rfl (Yd.move rfl) rfl ?_
                  refine WL.ydg rfl (Yd.move rfl) rfl ?_
                  refine WL.ydg rfl (Yd.eql rfl rfl) rfl ?_
                  refine WL.know 196 (.bool false) rfl (congrArg Value.bool (decide_eq_false (by (try dsimp only); have := split_rem (M := M) (i := i) (k := k) hA hin hkn (by omega) (by omega); omega))) ?_
                  refine WL.yd (Yd.pickT rfl rfl) rfl ?_
                  refine WL.nil ?_
                  refine WP.thenC ?_
                  refine WC.condF rfl ?_
                  refine WC.skip ?_
                  refine WP.blkNormal ?_
                  refine WP.thenC ?_
                  refine WC.ofFr [(0, _), (1, _), (4, _), (5, _), (8, _), (11, _), (12, _), (13, _), (14, _), (15, _), (81, _), (82, _), (83, _), (129, _), (130, _), (131, _)] ⟨rfl, rfl, rfl, rfl, rfl, rfl, rfl, rfl, rfl, rfl, rfl, rfl, rfl, rfl, rfl, rfl, trivial⟩ ?_
                  refine WC.region ?_
                  refine WL.yd (Yd.addN rfl rfl (by (try dsimp only); omega)) rfl ?_
                  refine WL.yd (Yd.move rfl) rfl ?_
                  refine WL.nil ?_
                  exact WP.againF (k + 1) (by omega) (by omega) ⟨rfl, rfl, rfl, rfl, rfl, rfl, rfl, rfl, rfl, rfl, rfl, rfl, rfl, rfl, rfl, rfl, trivial⟩ (fun _ h => h) (fun h => h)
                · try simp only [zq1, zq2, zq3, zq4, zq5, zq6, zq7, zq8] at g193
                  refine WL.skip rfl rfl ?_
                  refine WL.skip rfl rfl ?_
                  refine WL.skip rfl rfl ?_
                  refine WL.yd (Yd.pickF rfl rfl) rfl ?_
                  refine WL.nil ?_
                  refine WP.thenC ?_
                  refine WC.condF rfl ?_
                  refine WC.skip ?_
                  refine WP.blkNormal ?_
                  refine WP.thenC ?_
                  refine WC.ofFr [(0, _), (1, _), (4, _), (5, _), (8, _), (11, _), (12, _), (13, _), (14, _), (15, _), (81, _), (82, _), (83, _), (129, _), (130, _), (131, _)] ⟨rfl, rfl, rfl, rfl, rfl, rfl, rfl, rfl, rfl, rfl, rfl, rfl, rfl, rfl, rfl, rfl, trivial⟩ ?_
                  refine WC.region ?_
                  refine WL.yd (Yd.addN rfl rfl (by (try dsimp only); omega)) rfl ?_
                  refine WL.yd (Yd.move rfl) rfl ?_
                  refine WL.nil ?_
                  exact WP.againF (k + 1) (by omega) (by omega) ⟨rfl, rfl, rfl, rfl, rfl, rfl, rfl, rfl, rfl, rfl, rfl, rfl, rfl, rfl, rfl, rfl, trivial⟩ (fun _ h => h) (fun h => h)
              · try simp only [zq1, zq2, zq3, zq4, zq5, zq6, zq7, zq8] at g181
                refine WL.skip rfl rfl ?_
                refine WL.skip rfl rfl ?_
                refine WL.skip rfl rfl ?_
                refine WL.skip rfl rfl ?_
                refine WL.skip rfl rfl ?_
                refine WL.skip rfl rfl ?_
                refine WL.skip rfl rfl ?_
                refine WL.skip rfl rfl ?_
                refine WL.skip rfl rfl ?_
                refine WL.skip rfl rfl ?_
                refine WL.yd (Yd.pickF rfl rfl) rfl ?_
                refine WL.yd (Yd.move rfl) rfl ?_
                refine WL.skip rfl rfl ?_
                refine WL.skip rfl rfl ?_
                refine WL.skip rfl rfl ?_
                refine WL.yd (Yd.pickF rfl rfl) rfl ?_
                refine WL.nil ?_
                refine WP.thenC ?_
                refine WC.condF rfl ?_
                refine WC.skip ?_
                refine WP.blkNormal ?_
                refine WP.thenC ?_
                refine WC.ofFr [(0, _), (1, _), (4, _), (5, _), (8, _), (11, _), (12, _), (13, _), (14, _), (15, _), (81, _), (82, _), (83, _), (129, _), (130, _), (131, _)] ⟨rfl, rfl, rfl, rfl, rfl, rfl, rfl, rfl, rfl, rfl, rfl, rfl, rfl, rfl, rfl, rfl, trivial⟩ ?_
                refine WC.region ?_
                refine WL.yd (Yd.addN rfl rfl (by (try dsimp only); omega)) rfl ?_
                refine WL.yd (Yd.move rfl) rfl ?_
                refine WL.nil ?_
                exact WP.againF (k + 1) (by omega) (by omega) ⟨rfl, rfl, rfl, rfl, rfl, rfl, rfl, rfl, rfl, rfl, rfl, rfl, rfl, rfl, rfl, rfl, trivial⟩ (fun _ h => h) (fun h => h)
          · try simp only [zq1, zq2, zq3, zq4, zq5, zq6, zq7, zq8] at g145
            refine WQ.skip rfl rfl rfl ?_
            refine WQ.skip rfl rfl rfl ?_
            refine WQ.skip rfl rfl rfl ?_
            refine WQ.q rfl (Yd.qt (Yd.pickF rfl rfl)) rfl ?_
            refine WQ.q rfl (Yd.qt (Yd.move rfl)) rfl ?_
            refine WQ.qg rfl rfl (Yd.qt (Yd.move rfl)) rfl ?_
            refine WQ.qg rfl rfl (Yd.qt (Yd.move rfl)) rfl ?_
            refine WQ.qg rfl rfl (Yd.qt (Yd.indexS Try.underlying22 Try.sizeOf3 rfl rfl (by (try dsimp only); omega) (by (try dsimp only); omega) (by first | exact hS.addr k (by omega) | exact hS.addr i (by omega)))) rfl ?_
            refine WQ.qg rfl rfl (Yd.qt (Yd.load1 Try.isAgg3 rfl (by first | exact ((hS.at k (by omega)).rd 0 rfl) | exact ((hS.at i (by omega)).rd 0 rfl)))) rfl ?_
            refine WQ.qg rfl rfl (Yd.qt (Yd.move rfl)) rfl ?_
            refine WQ.qg rfl rfl (Yd.qt (Yd.move rfl)) rfl ?_
            refine WQ.qg rfl rfl (Yd.qt (Yd.indexS Try.underlying22 Try.sizeOf3 rfl rfl (by (try dsimp only); omega) (by (try dsimp only); omega) (by first | exact hS.addr k (by omega) | exact hS.addr i (by omega)))) rfl ?_
            refine WQ.qg rfl rfl (Yd.qt (Yd.load1 Try.isAgg3 rfl (by first | exact ((hS.at k (by omega)).rd 0 rfl) | exact ((hS.at i (by omega)).rd 0 rfl)))) rfl ?_
            refine WQ.qg rfl rfl (Yd.qt (Yd.eql rfl rfl)) rfl ?_
            refine WQ.qg rfl rfl (Yd.qt (Yd.move rfl)) rfl ?_
            refine WQ.part 160 rfl (fun g160 => ?_) (fun g160 => ?_)
            · try simp only [zq1, zq2, zq3, zq4, zq5, zq6, zq7, zq8] at g160
              refine WQ.qg rfl rfl (Yd.qt (Yd.move rfl)) rfl ?_
              refine WQ.qg rfl rfl (Yd.qt (Yd.move rfl)) rfl ?_
              refine WQ.qg rfl rfl (Yd.qt (Yd.gtr rfl rfl)) rfl ?_
              refine WQ.qg rfl rfl (Yd.qt (Yd.pickT rfl rfl)) rfl ?_
              refine WQ.qg rfl rfl (Yd.qt (Yd.move rfl)) rfl ?_
              refine WQ.part 165 rfl (fun g165 => ?_) (fun g165 => ?_)
              · try simp only [zq1, zq2, zq3, zq4, zq5, zq6, zq7, zq8] at g165
                refine WQ.qg rfl rfl (Yd.qt (Yd.move rfl)) rfl ?_
                refine WQ.qg rfl rfl (Yd.qt (Yd.move rfl)) rfl ?_
                refine WQ.tail ?_
                refine WL.ydg rfl (Yd.gtr rfl rfl) rfl ?_
                refine WL.know 168 (.bool false) rfl (congrArg Value.bool (decide_eq_false (by (try dsimp only); have := split_same (M := M) (i := i) (k := k) hA hin hkn (by omega) (by omega); omega))) ?_
                refine WL.ydg rfl (Yd.pickT rfl rfl) rfl ?_
                refine WL.yd (Yd.pickF rfl rfl) rfl ?_
                refine WL.nil ?_
                refine WP.thenC ?_
                refine WC.condF rfl ?_
                refine WC.skip ?_
                refine WP.thenC ?_
                refine WC.seq ?_
                refine WC.ofFr [(17, _), (16, _), (0, _), (1, _), (4, _), (5, _), (8, _), (11, _), (12, _), (13, _), (14, _), (15, _), (81, _), (82, _), (83, _), (129, _), (130, _), (131, _)] ⟨rfl, rfl, rfl, rfl, rfl, rfl, rfl, rfl, rfl, rfl, rfl, rfl, rfl, rfl, rfl, rfl, rfl, rfl, trivial⟩ ?_
                refine WC.region ?_
                refine WL.yd (Yd.move rfl) rfl ?_
                refine WL.yd (Yd.move rfl) rfl ?_
                refine WL.yd (Yd.move rfl) rfl ?_
                refine WL.yd (Yd.indexS Try.underlying22 Try.sizeOf3 rfl rfl (by (try dsimp only); omega) (by (try dsimp only); omega) (by first | exact hS.addr k (by omega))) rfl ?_
                refine WL.yd (Yd.load1 Try.isAgg3 rfl (by first | exact ((hS.at k (by omega)).rd 0 rfl))) rfl ?_
                refine WL.yd (Yd.mul rfl rfl (wr64 ⟨by omega, by omega⟩)) rfl ?_
                refine WL.yd (Yd.move rfl) rfl ?_
                refine WL.yd (Yd.remN (i := M * gt qs k) (j := qs.sum) rfl rfl hA) rfl ?_
                refine WL.know 178 (nt (remN M qs.sum qs k)) rfl rfl ?_
                refine WL.yd (Yd.move rfl) rfl ?_
                refine WL.yd (Yd.lss rfl rfl) rfl ?_
                refine WL.yd (Yd.move rfl) rfl ?_
                refine WL.part 181 rfl (fun g181 => ?_) (fun g181 => ?_)
                · try simp only [zq1, zq2, zq3, zq4, zq5, zq6, zq7, zq8] at g181
                  refine WL.ydg rfl (Yd.move rfl) rfl ?_
                  refine WL.ydg rfl (Yd.move rfl) rfl ?_
                  refine WL.ydg rfl (Yd.move rfl) rfl ?_
                  refine WL.ydg rfl (Yd.move rfl) rfl ?_
                  refine WL.ydg rfl (Yd.indexS Try.underlying22 Try.sizeOf3 rfl rfl (by (try dsimp only); omega) (by (try dsimp only); omega) (by first | exact hS.addr k (by omega))) rfl ?_
                  refine WL.ydg rfl (Yd.load1 Try.isAgg3 rfl (by first | exact ((hS.at k (by omega)).rd 0 rfl))) rfl ?_
                  refine WL.ydg rfl (Yd.mul rfl rfl (wr64 ⟨by omega, by omega⟩)) rfl ?_
                  refine WL.ydg rfl (Yd.move rfl) rfl ?_
                  refine WL.ydg rfl (Yd.quoN (i := M * gt qs k) (j := qs.sum) rfl rfl hA (by have := (down_num (A := qs.sum) hM hq (i := k) (by omega)).1; omega)) rfl ?_
                  refine WL.ydg rfl (Yd.gtr rfl rfl) rfl ?_
                  refine WL.yd (Yd.pickT rfl rfl) rfl ?_
                  refine WL.yd (Yd.move rfl) rfl ?_
                  refine WL.part 193 rfl (fun g193 => ?_) (fun g193 => ?_)
                  · try simp only [zq1, zq2, zq3, zq4, zq5, zq6, zq7, zq8] at g193
                    have hdk : downN M qs.sum qs k < gt (splitL M qs) k := by unfold downN; omega
                    refine WL.ydg rfl (Yd.move rfl) rfl ?_
                    refine WL.ydg rfl (Yd.move rfl) rfl ?_
                    refine WL.ydg rfl (Yd.eql rfl rfl) rfl ?_
                    refine WL.know 196 (.bool false) rfl (congrArg Value.bool (decide_eq_false (by (try dsimp only); have := split_rem (M := M) (i := i) (k := k) hA hin hkn (by omega) (by omega); omega))) ?_
                    refine WL.yd (Yd.pickT rfl rfl) rfl ?_
                    refine WL.nil ?_
                    refine WP.thenC ?_
                    refine WC.condF rfl ?_
                    refine WC.skip ?_
                    refine WP.blkNormal ?_
                    refine WP.thenC ?_
                    refine WC.ofFr [(0, _), (1, _), (4, _), (5, _), (8, _), (11, _), (12, _), (13, _), (14, _), (15, _), (81, _), (82, _), (83, _), (129, _), (130, _), (131, _)] ⟨rfl, rfl, rfl, rfl, rfl, rfl, rfl, rfl, rfl, rfl, rfl, rfl, rfl, rfl, rfl, rfl, trivial⟩ ?_
                    refine WC.region ?_
                    refine WL.yd (Yd.addN rfl rfl (by (try dsimp only); omega)) rfl ?_
                    refine WL.yd (Yd.move rfl) rfl ?_
                    refine WL.nil ?_
                    exact WP.againF (k + 1) (by omega) (by omega) ⟨rfl, rfl, rfl, rfl, rfl, rfl, rfl, rfl, rfl, rfl, rfl, rfl, rfl, rfl, rfl, rfl, trivial⟩ (fun _ h => h) (fun h => h)
                  · try simp only [zq1, zq2, zq3, zq4, zq5, zq6, zq7, zq8] at g193
                    refine WL.skip rfl rfl ?_
                    refine WL.skip rfl rfl ?_
                    refine WL.skip rfl rfl ?_
                    refine WL.yd (Yd.pickF rfl rfl) rfl ?_
                    refine WL.nil ?_
                    refine WP.thenC ?_
                    refine WC.condF rfl ?_
                    refine WC.skip ?_
                    refine WP.blkNormal ?_
                    refine WP.thenC ?_
                    refine WC.ofFr [(0, _), (1, _), (4, _), (5, _), (8, _), (11, _), (12, _), (13, _), (14, _), (15, _), (81, _), (82, _), (83, _), (129, _), (130, _), (131, _)] ⟨rfl, rfl, rfl, rfl, rfl, rfl, rfl, rfl, rfl, rfl, rfl, rfl, rfl, rfl, rfl, rfl, trivial⟩ ?_
                    refine WC.region ?_
                    refine WL.yd (Yd.addN rfl rfl (by (try dsimp only); omega)) rfl ?_
                    refine WL.yd (Yd.move rfl) rfl ?_
                    refine WL.nil ?_
                    exact WP.againF (k + 1) (by omega) (by omega) ⟨rfl, rfl, rfl, rfl, rfl, rfl, rfl, rfl, rfl, rfl, rfl, rfl, rfl, rfl, rfl, rfl, trivial⟩ (fun _ h => h) (fun h => h)
                · try simp only [zq1, zq2, zq3, zq4, zq5, zq6, zq7, zq8] at g181
                  refine WL.skip rfl rfl ?_
                  refine WL.skip rfl rfl ?_
                  refine WL.skip rfl rfl ?_
                  refine WL.skip rfl rfl ?_
                  refine WL.skip rfl rfl ?_
                  refine WL.skip rfl rfl ?_
                  refine WL.skip rfl rfl ?_
                  refine WL.skip rfl rfl ?_
                  refine WL.skip rfl rfl ?_
                  refine WL.skip rfl rfl ?_
                  refine WL.yd (Yd.pickF rfl rfl) rfl ?_
                  refine WL.yd (Yd.move rfl) rfl ?_
                  refine WL.skip rfl rfl ?_
                  refine WL.skip rfl rfl ?_
                  refine WL.skip rfl rfl ?_
                  refine WL.yd (Yd.pickF rfl rfl) rfl ?_
                  refine WL.nil ?_
                  refine WP.thenC ?_
                  refine WC.condF rfl ?_
                  refine WC.skip ?_
                  refine WP.blkNormal ?_
                  refine WP.thenC ?_
                  refine WC.ofFr [(0, _), (1, _), (4, _), (5, _), (8, _), (11, _), (12, _), (13, _), (14, _), (15, _), (81, _), (82, _), (83, _), (129, _), (130, _), (131, _)] ⟨rfl, rfl, rfl, rfl, rfl, rfl, rfl, rfl, rfl, rfl, rfl, rfl, rfl, rfl, rfl, rfl, trivial⟩ ?_
                  refine WC.region ?_
                  refine WL.yd (Yd.addN rfl rfl (by (try dsimp only); omega)) rfl ?_
                  refine WL.yd (Yd.move rfl) rfl ?_
                  refine WL.nil ?_
                  exact WP.againF (k + 1) (by omega) (by omega) ⟨rfl, rfl, rfl, rfl, rfl, rfl, rfl, rfl, rfl, rfl, rfl, rfl, rfl, rfl, rfl, rfl, trivial⟩ (fun _ h => h) (fun h => h)
              · try simp only [zq1, zq2, zq3, zq4, zq5, zq6, zq7, zq8] at g165
                refine WQ.skip rfl rfl rfl ?_
                refine WQ.skip rfl rfl rfl ?_
                refine WQ.tail ?_
                refine WL.skip rfl rfl ?_
                refine WL.ydg rfl (Yd.pickF rfl rfl) rfl ?_
                refine WL.yd (Yd.pickF rfl rfl) rfl ?_
                refine WL.nil ?_
                refine WP.thenC ?_
                refine WC.condF rfl ?_
                refine WC.skip ?_
                refine WP.thenC ?_
                refine WC.seq ?_
                refine WC.ofFr [(17, _), (16, _), (0, _), (1, _), (4, _), (5, _), (8, _), (11, _), (12, _), (13, _), (14, _), (15, _), (81, _), (82, _), (83, _), (129, _), (130, _), (131, _)] ⟨rfl, rfl, rfl, rfl, rfl, rfl, rfl, rfl, rfl, rfl, rfl, rfl, rfl, rfl, rfl, rfl, rfl, rfl, trivial⟩ ?_
                refine WC.region ?_
                refine WL.yd (Yd.move rfl) rfl ?_
                refine WL.yd (Yd.move rfl) rfl ?_
                refine WL.yd (Yd.move rfl) rfl ?_
                refine WL.yd (Yd.indexS Try.underlying22 Try.sizeOf3 rfl rfl (by (try dsimp only); omega) (by (try dsimp only); omega) (by first | exact hS.addr k (by omega))) rfl ?_
                refine WL.yd (Yd.load1 Try.isAgg3 rfl (by first | exact ((hS.at k (by omega)).rd 0 rfl))) rfl ?_
                refine WL.yd (Yd.mul rfl rfl (wr64 ⟨by omega, by omega⟩)) rfl ?_
                refine WL.yd (Yd.move rfl) rfl ?_
                refine WL.yd (Yd.remN (i := M * gt qs k) (j := qs.sum) rfl rfl hA) rfl ?_
                refine WL.know 178 (nt (remN M qs.sum qs k)) rfl rfl ?_
                refine WL.yd (Yd.move rfl) rfl ?_
                refine WL.yd (Yd.lss rfl rfl) rfl ?_
                refine WL.yd (Yd.move rfl) rfl ?_
                refine WL.part 181 rfl (fun g181 => ?_) (fun g181 => ?_)
                · try simp only [zq1, zq2, zq3, zq4, zq5, zq6, zq7, zq8] at g181
                  refine WL.ydg rfl (Yd.move rfl) rfl ?_
                  refine WL.ydg rfl (Yd.move rfl) rfl ?_
                  refine WL.ydg rfl (Yd.move rfl) rfl ?_
                  refine WL.ydg rfl (Yd.move rfl) rfl ?_
                  refine WL.ydg rfl (Yd.indexS Try.underlying22 Try.sizeOf3 rfl rfl (by (try dsimp only); omega) (by (try dsimp only); omega) (by first | exact hS.addr k (by omega))) rfl ?_
                  refine WL.ydg rfl (Yd.load1 Try.isAgg3 rfl (by first | exact ((hS.at k (by omega)).rd 0 rfl))) rfl ?_
                  refine WL.ydg rfl (Yd.mul rfl rfl (wr64 ⟨by omega, by omega⟩)) rfl ?_
                  refine WL.ydg rfl (Yd.move rfl) rfl ?_
                  refine WL.ydg rfl (Yd.quoN (i := M * gt qs k) (j := qs.sum) rfl rfl hA (by have := (down_num (A := qs.sum) hM hq (i := k) (by omega)).1; omega)) rfl ?_
                  refine WL.ydg rfl (Yd.gtr rfl rfl) rfl ?_
                  refine WL.yd (Yd.pickT rfl rfl) rfl ?_
                  refine WL.yd (Yd.move rfl) rfl ?_
                  refine WL.part 193 rfl (fun g193 => ?_) (fun g193 => ?_)
                  · try simp only [zq1, zq2, zq3, zq4, zq5, zq6, zq7, zq8] at g193
                    have hdk : downN M qs.sum qs k < gt (splitL M qs) k := by unfold downN; omega
                    refine WL.ydg rfl (Yd.move rfl) rfl ?_
                    refine WL.ydg rfl (Yd.move rfl) rfl ?_
                    refine WL.ydg rfl (Yd.eql rfl rfl) rfl ?_
                    refine WL.know 196 (.bool false) rfl (congrArg Value.bool (decide_eq_false (by (try dsimp only); have := split_rem (M := M) (i := i) (k := k) hA hin hkn (by omega) (by omega); omega))) ?_
                    refine WL.yd (Yd.pickT rfl rfl) rfl ?_
                    refine WL.nil ?_
                    refine WP.thenC ?_
                    refine WC.condF rfl ?_
                    refine WC.skip ?_
                    refine WP.blkNormal ?_
                    refine WP.thenC ?_
                    refine WC.ofFr [(0, _), (1, _), (4, _), (5, _), (8, _), (11, _), (12, _), (13, _), (14, _), (15, _), (81, _), (82, _), (83, _), (129, _), (130, _), (131, _)] ⟨rfl, rfl, rfl, rfl, rfl, rfl, rfl, rfl, rfl, rfl, rfl, rfl, rfl, rfl, rfl, rfl, trivial⟩ ?_
                    refine WC.region ?_
                    refine WL.yd (Yd.addN rfl rfl (by (try dsimp only); omega)) rfl ?_
                    refine WL.yd (Yd.move rfl) rfl ?_
                    refine WL.nil ?_
                    exact WP.againF (k + 1) (by omega) (by omega) ⟨rfl, rfl, rfl, rfl, rfl, rfl, rfl, rfl, rfl, rfl, rfl, rfl, rfl, rfl, rfl, rfl, trivial⟩ (fun _ h => h) (fun h => h)
                  · try simp only [zq1, zq2, zq3, zq4, zq5, zq6, zq7, zq8] at g193
                    refine WL.skip rfl rfl ?_
                    refine WL.skip rfl rfl ?_
                    refine WL.skip rfl rfl ?_
                    refine WL.yd (Yd.pickF rfl rfl) rfl ?_
                    refine WL.nil ?_
                    refine WP.thenC ?_
                    refine WC.condF rfl ?_
                    refine WC.skip ?_
                    refine WP.blkNormal ?_
                    refine WP.thenC ?_
                    refine WC.ofFr [(0, _), (1, _), (4, _), (5, _), (8, _), (11, _), (12, _), (13, _), (14, _), (15, _), (81, _), (82, _), (83, _), (129, _), (130, _), (131, _)] ⟨rfl, rfl, rfl, rfl, rfl, rfl, rfl, rfl, rfl, rfl, rfl, rfl, rfl, rfl, rfl, rfl, trivial⟩ ?_
                    refine WC.region ?_
                    refine WL.yd (Yd.addN rfl rfl (by (try dsimp only); omega)) rfl ?_
                    refine WL.yd (Yd.move rfl) rfl ?_
                    refine WL.nil ?_
                    exact WP.againF (k + 1) (by omega) (by omega) ⟨rfl, rfl, rfl, rfl, rfl, rfl, rfl, rfl, rfl, rfl, rfl, rfl, rfl, rfl, rfl, rfl, trivial⟩ (fun _ h => h) (fun h => h)
                · try simp only [zq1, zq2, zq3, zq4, zq5, zq6, zq7, zq8] at g181
                  refine WL.skip rfl rfl ?_
                  refine WL.skip rfl rfl ?_
                  refine WL.skip rfl rfl ?_
                  refine WL.skip rfl rfl ?_
                  refine WL.skip rfl rfl ?_
                  refine WL.skip rfl rfl ?_
                  refine WL.skip rfl rfl ?_
                  refine WL.skip rfl rfl ?_
                  refine WL.skip rfl rfl ?_
                  refine WL.skip rfl rfl ?_
                  refine WL.yd (Yd.pickF rfl rfl) rfl ?_
                  refine WL.yd (Yd.move rfl) rfl ?_
                  refine WL.skip rfl rfl ?_
                  refine WL.skip rfl rfl ?_
                  refine WL.skip rfl rfl ?_
                  refine WL.yd (Yd.pickF rfl rfl) rfl ?_
                  refine WL.nil ?_
                  refine WP.thenC ?_
                  refine WC.condF rfl ?_
                  refine WC.skip ?_
                  refine WP.blkNormal ?_
                  refine WP.thenC ?_
                  refine WC.ofFr [(0, _), (1, _), (4, _), (5, _), (8, _), (11, _), (12, _), (13, _), (14, _), (15, _), (81, _), (82, _), (83, _), (129, _), (130, _), (131, _)] ⟨rfl, rfl, rfl, rfl, rfl, rfl, rfl, rfl, rfl, rfl, rfl, rfl, rfl, rfl, rfl, rfl, trivial⟩ ?_
                  refine WC.region ?_
                  refine WL.yd (Yd.addN rfl rfl (by (try dsimp only); omega)) rfl ?_
                  refine WL.yd (Yd.move rfl) rfl ?_
                  refine WL.nil ?_
                  exact WP.againF (k + 1) (by omega) (by omega) ⟨rfl, rfl, rfl, rfl, rfl, rfl, rfl, rfl, rfl, rfl, rfl, rfl, rfl, rfl, rfl, rfl, trivial⟩ (fun _ h => h) (fun h => h)
            · try simp only [zq1, zq2, zq3, zq4, zq5, zq6, zq7, zq8] at g160
              refine WQ.skip rfl rfl rfl ?_
              refine WQ.skip rfl rfl rfl ?_
              refine WQ.skip rfl rfl rfl ?_
              refine WQ.qg rfl rfl (Yd.qt (Yd.pickF rfl rfl)) rfl ?_
              refine WQ.qg rfl rfl (Yd.qt (Yd.move rfl)) rfl ?_
              refine WQ.skip rfl rfl rfl ?_
              refine WQ.skip rfl rfl rfl ?_
              refine WQ.tail ?_
              refine WL.skip rfl rfl ?_
              refine WL.ydg rfl (Yd.pickF rfl rfl) rfl ?_
              refine WL.yd (Yd.pickF rfl rfl) rfl ?_
              refine WL.nil ?_
              refine WP.thenC ?_
              refine WC.condF rfl ?_
              refine WC.skip ?_
              refine WP.thenC ?_
              refine WC.seq ?_
              refine WC.ofFr [(17, _), (16, _), (0, _), (1, _), (4, _), (5, _), (8, _), (11, _), (12, _), (13, _), (14, _), (15, _), (81, _), (82, _), (83, _), (129, _), (130, _), (131, _)] ⟨rfl, rfl, rfl, rfl, rfl, rfl, rfl, rfl, rfl, rfl, rfl, rfl, rfl, rfl, rfl, rfl, rfl, rfl, trivial⟩ ?_
              refine WC.region ?_
              refine WL.yd (Yd.move rfl) rfl ?_
              refine WL.yd (Yd.move rfl) rfl ?_
              refine WL.yd (Yd.move rfl) rfl ?_
              refine WL.yd (Yd.indexS Try.underlying22 Try.sizeOf3 rfl rfl (by (try dsimp only); omega) (by (try dsimp only); omega) (by first | exact hS.addr k (by omega))) rfl ?_
              refine WL.yd (Yd.load1 Try.isAgg3 rfl (by first | exact ((hS.at k (by omega)).rd 0 rfl))) rfl ?_
              refine WL.yd (Yd.mul rfl rfl (wr64 ⟨by omega, by omega⟩)) rfl ?_
              refine WL.yd (Yd.move rfl) rfl ?_
              refine WL.yd (Yd.remN (i := M * gt qs k) (j := qs.sum) rfl rfl hA) rfl ?_
              refine WL.know 178 (nt (remN M qs.sum qs k)) rfl rfl ?_
              refine WL.yd (Yd.move rfl) rfl ?_
              refine WL.yd (Yd.lss rfl rfl) rfl ?_
              refine WL.yd (Yd.move rfl) rfl ?_
              refine WL.part 181 rfl (fun g181 => ?_) (fun g181 => ?_)
              · try simp only [zq1, zq2, zq3, zq4, zq5, zq6, zq7, zq8] at g181
                refine WL.ydg rfl (Yd.move rfl) rfl ?_
                refine WL.ydg rfl (Yd.move rfl) rfl ?_
                refine WL.ydg rfl (Yd.move rfl) rfl ?_
                refine WL.ydg rfl (Yd.move rfl) rfl ?_
                refine WL.ydg rfl (Yd.indexS Try.underlying22 Try.sizeOf3 rfl rfl (by (try dsimp only); omega) (by (try dsimp only); omega) (by first | exact hS.addr k (by omega))) rfl ?_
                refine WL.ydg rfl (Yd.load1 Try.isAgg3 rfl (by first | exact ((hS.at k (by omega)).rd 0 rfl))) rfl ?_
                refine WL.ydg rfl (Yd.mul rfl rfl (wr64 ⟨by omega, by omega⟩)) rfl ?_
                refine WL.ydg rfl (Yd.move rfl) rfl ?_
                refine WL.ydg rfl (Yd.quoN (i := M * gt qs k) (j := qs.sum) rfl rfl hA (by have := (down_num (A := qs.sum) hM hq (i := k) (by omega)).1; omega)) rfl ?_
                refine WL.ydg rfl (Yd.gtr rfl rfl) rfl ?_
                refine WL.yd (Yd.pickT rfl rfl) rfl ?_
                refine WL.yd (Yd.move rfl) rfl ?_
                refine WL.part 193 rfl (fun g193 => ?_) (fun g193 => ?_)
                · try simp only [zq1, zq2, zq3, zq4, zq5, zq6, zq7, zq8] at g193
                  have hdk : downN M qs.sum qs k < gt (splitL M qs) k := by unfold downN; omega
                  refine WL.ydg rfl (Yd.move rfl) rfl ?_
                  refine WL.ydg rfl (Yd.move rfl) rfl ?_
                  refine WL.ydg rfl (Yd.eql rfl rfl) rfl ?_
                  refine WL.know 196 (.bool false) rfl (congrArg Value.bool (decide_eq_false (by (try dsimp only); have := split_rem (M := M) (i := i) (k := k) hA hin hkn (by omega) (by omega); omega))) ?_
                  refine WL.yd (Yd.pickT rfl rfl) rfl ?_
                  refine WL.nil ?_
                  refine WP.thenC ?_
                  refine WC.condF rfl ?_
                  refine WC.skip ?_
                  refine WP.blkNormal ?_
                  refine WP.thenC ?_
                  refine WC.ofFr [(0, _), (1, _), (4, _), (5, _), (8, _), (11, _), (12, _), (13, _), (14, _), (15, _), (81, _), (82, _), (83, _), (129, _), (130, _), (131, _)] ⟨rfl, rfl, rfl, rfl, rfl, rfl, rfl, rfl, rfl, rfl, rfl, rfl, rfl, rfl, rfl, rfl, trivial⟩ ?_
                  refine WC.region ?_
                  refine WL.yd (Yd.addN rfl rfl (by (try dsimp only); omega)) rfl ?_
                  refine WL.yd (Yd.move rfl) rfl ?_
                  refine WL.nil ?_
                  exact WP.againF (k + 1) (by omega) (by omega) ⟨rfl, rfl, rfl, rfl, rfl, rfl, rfl, rfl, rfl, rfl, rfl, rfl, rfl, rfl, rfl, rfl, trivial⟩ (fun _ h => h) (fun h => h)
                · try simp only [zq1, zq2, zq3, zq4, zq5, zq6, zq7, zq8] at g193
                  refine WL.skip rfl rfl ?_
                  refine WL.skip rfl rfl ?_
                  refine WL.skip rfl rfl ?_
                  refine WL.yd (Yd.pickF rfl rfl) rfl ?_
                  refine WL.nil ?_
                  refine WP.thenC ?_
                  refine WC.condF rfl ?_
                  refine WC.skip ?_
                  refine WP.blkNormal ?_
                  refine WP.thenC ?_
                  refine WC.ofFr [(0, _), (1, _), (4, _), (5, _), (8, _), (11, _), (12, _), (13, _), (14, _), (15, _), (81, _), (82, _), (83, _), (129, _), (130, _), (131, _)] ⟨rfl, rfl, rfl, rfl, rfl, rfl, rfl, rfl, rfl, rfl, rfl, rfl, rfl, rfl, rfl, rfl, trivial⟩ ?_
                  refine WC.region ?_
                  refine WL.yd (Yd.addN rfl rfl (by (try dsimp only); omega)) rfl ?_
                  refine WL.yd (Yd.move rfl) rfl ?_
                  refine WL.nil ?_
                  exact WP.againF (k + 1) (by omega) (by omega) ⟨rfl, rfl, rfl, rfl, rfl, rfl, rfl, rfl, rfl, rfl, rfl, rfl, rfl, rfl, rfl, rfl, trivial⟩ (fun _ h => h) (fun h => h)
              · try simp only [zq1, zq2, zq3, zq4, zq5, zq6, zq7, zq8] at g181
                refine WL.skip rfl rfl ?_
                refine WL.skip rfl rfl ?_
                refine WL.skip rfl rfl ?_
                refine WL.skip rfl rfl ?_
                refine WL.skip rfl rfl ?_
                refine WL.skip rfl rfl ?_
                refine WL.skip rfl rfl ?_
                refine WL.skip rfl rfl ?_
                refine WL.skip rfl rfl ?_
                refine WL.skip rfl rfl ?_
                refine WL.yd (Yd.pickF rfl rfl) rfl ?_
                refine WL.yd (Yd.move rfl) rfl ?_
                refine WL.skip rfl rfl ?_
                refine WL.skip rfl rfl ?_
                refine WL.skip rfl rfl ?_
                refine WL.yd (Yd.pickF rfl rfl) rfl ?_
                refine WL.nil ?_
                refine WP.thenC ?_
                refine WC.condF rfl ?_
                refine WC.skip ?_
                refine WP.blkNormal ?_
                refine WP.thenC ?_
                refine WC.ofFr [(0, _), (1, _), (4, _), (5, _), (8, _), (11, _), (12, _), (13, _), (14, _), (15, _), (81, _), (82, _), (83, _), (129, _), (130, _), (131, _)] ⟨rfl, rfl, rfl, rfl, rfl, rfl, rfl, rfl, rfl, rfl, rfl, rfl, rfl, rfl, rfl, rfl, trivial⟩ ?_
                refine WC.region ?_
                refine WL.yd (Yd.addN rfl rfl (by (try dsimp only); omega)) rfl ?_
                refine WL.yd (Yd.move rfl) rfl ?_
                refine WL.nil ?_
                exact WP.againF (k + 1) (by omega) (by omega) ⟨rfl, rfl, rfl, rfl, rfl, rfl, rfl, rfl, rfl, rfl, rfl, rfl, rfl, rfl, rfl, rfl, trivial⟩ (fun _ h => h) (fun h => h)
        · try simp only [zq1, zq2, zq3, zq4, zq5, zq6, zq7, zq8] at c132
          refine WC.exit ?_
          refine WP.thenExit ?_
          refine WP.thenExit ?_
          refine WP.blkHit ?_
          refine WP.blkNormal ?_
          refine WP.thenC ?_
          refine WC.ofFr [(0, _), (1, _), (4, _), (5, _), (8, _), (11, _), (81, _), (82, _), (83, _)] ⟨rfl, rfl, rfl, rfl, rfl, rfl, rfl, rfl, rfl, trivial⟩ ?_
          refine WC.region ?_
          refine WL.yd (Yd.addN rfl rfl (by (try dsimp only); omega)) rfl ?_
          refine WL.yd (Yd.move rfl) rfl ?_
          refine WL.nil ?_
          exact WP.againF (i + 1) (by omega) (by omega) ⟨rfl, rfl, rfl, rfl, rfl, by first | rfl | (rw [hsi]; rfl), rfl, rfl, rfl, trivial⟩ (fun _ h => h) (fun h => h)
      · try simp only [zq1, zq2, zq3, zq4, zq5, zq6, zq7, zq8] at g124
        refine WL.skip rfl rfl ?_
        refine WL.skip rfl rfl ?_
        refine WL.ydg rfl (Yd.pickF rfl rfl) rfl ?_
        refine WL.yd (Yd.pickF rfl rfl) rfl ?_
        refine WL.nil ?_
        refine WP.thenC ?_
        refine WC.condF rfl ?_
        refine WC.skip ?_
        refine WP.thenC ?_
        refine WC.seq ?_
        refine WC.ofFr [(15, _), (14, _), (11, _), (13, _), (12, _), (0, _), (1, _), (4, _), (5, _), (8, _), (81, _), (82, _), (83, _)] ⟨rfl, rfl, rfl, rfl, rfl, rfl, rfl, rfl, rfl, rfl, rfl, rfl, rfl, trivial⟩ ?_
        refine WC.region ?_
        refine WL.yd (Yd.move rfl) rfl ?_
        refine WL.yd (Yd.lenS rfl Try.underlying22 rfl) rfl ?_
        refine WL.yd (Yd.move rfl) rfl ?_
        refine WL.nil ?_
        refine WP.thenC ?_
        refine WC.block ?_
        refine WC.loopF (fun k : Nat => [(0, nt M), (1, .slice ap qs.length cp), (4, .bool false), (5, .slice aS qs.length cS), (8, nt qs.sum), (11, nt ((splitL M qs).take (i + 1)).sum), (12, nt i), (13, nt (gt (splitL M qs) i)), (14, nt (downN M qs.sum qs i)), (15, nt (remN M qs.sum qs i)), (81, .slice aS qs.length cS), (82, nt qs.length), (83, nt i), (129, .slice aS qs.length cS), (130, nt qs.length), (131, nt k)]) (fun k => k ≤ qs.length) (fun k => qs.length - k) 0 (by omega) ⟨rfl, rfl, rfl, rfl, rfl, by rw [hsi]; rfl, rfl, rfl, rfl, rfl, rfl, rfl, rfl, rfl, rfl, rfl, trivial⟩ ?_
        intro k hk
        refine WC.seq ?_
        refine WC.ofFr [(0, _), (1, _), (4, _), (5, _), (8, _), (11, _), (12, _), (13, _), (14, _), (15, _), (81, _), (82, _), (83, _), (129, _), (130, _), (131, _)] ⟨rfl, rfl, rfl, rfl, rfl, rfl, rfl, rfl, rfl, rfl, rfl, rfl, rfl, rfl, rfl, rfl, trivial⟩ ?_
        refine WC.region ?_
        refine WL.yd (Yd.lss rfl rfl) rfl ?_
        refine WL.nil ?_
        refine WP.thenC ?_
        refine WC.seq ?_
        refine WC.cond rfl (fun c132 => ?_) (fun c132 => ?_)
        · try simp only [zq1, zq2, zq3, zq4, zq5, zq6, zq7, zq8] at c132
          have hkn : k < qs.length := by omega
          have hpk : 0 ≤ (M : Int) * ((gt qs k : Nat) : Int) ∧ (M : Int) * ((gt qs k : Nat) : Int) ≤ 100000 := by have h1 := (down_num (A := qs.sum) hM hq (i := k) (by omega)).1; rw [← Int.natCast_mul]; omega
          refine WC.skip ?_
          refine WP.thenC ?_
          refine WC.seq ?_
          refine WC.block ?_
          refine WC.seq ?_
          refine WC.ofFr [(0, _), (1, _), (4, _), (5, _), (8, _), (11, _), (12, _), (13, _), (14, _), (15, _), (81, _), (82, _), (83, _), (129, _), (130, _), (131, _)] ⟨rfl, rfl, rfl, rfl, rfl, rfl, rfl, rfl, rfl, rfl, rfl, rfl, rfl, rfl, rfl, rfl, trivial⟩ ?_
          refine WC.region ?_
          refine WL.yd (Yd.move rfl) rfl ?_
          refine WL.yd (Yd.indexS Try.underlying22 Try.sizeOf3 rfl rfl (by (try dsimp only); omega) (by (try dsimp only); omega) (by first | exact hSS.addr k (by omega))) rfl ?_
          refine WL.yd (Yd.load1 Try.isAgg3 rfl (by first | exact ((hSS.at k (by omega)).rd 0 rfl))) rfl ?_
          refine WL.know 135 (nt (gt (splitL M qs) k)) rfl rfl ?_
          refine WL.yd (Yd.assign rfl) rfl ?_
          refine WL.yd (Yd.assign rfl) rfl ?_
          refine WL.nil ?_
          refine WP.thenC ?_
          refine WC.seq ?_
          refine WC.seq ?_
          refine WC.ofFr [(17, _), (16, _), (0, _), (1, _), (4, _), (5, _), (8, _), (11, _), (12, _), (13, _), (14, _), (15, _), (81, _), (82, _), (83, _), (129, _), (130, _), (131, _)] ⟨rfl, rfl, rfl, rfl, rfl, rfl, rfl, rfl, rfl, rfl, rfl, rfl, rfl, rfl, rfl, rfl, rfl, rfl, trivial⟩ ?_
          refine WC.tail 32 [0, 1, 2, 3, 4, 5, 6, 7, 8, 9, 10, 11, 12, 13, 14, 15, 16, 17, 18, 19, 20, 21, 22, 23, 24, 25, 26, 27, 28, 29, 30, 31] rfl (by kernel_rfl) (by kernel_rfl)  ?_
          refine WQ.q rfl (Yd.qt (Yd.move rfl)) rfl ?_
          refine WQ.q rfl (Yd.qt (Yd.move rfl)) rfl ?_
          refine WQ.q rfl (Yd.qt (Yd.indexS Try.underlying22 Try.sizeOf3 rfl rfl (by (try dsimp only); omega) (by (try dsimp only); omega) (by first | exact hS.addr k (by omega) | exact hS.addr i (by omega)))) rfl ?_
          refine WQ.q rfl (Yd.qt (Yd.load1 Try.isAgg3 rfl (by first | exact ((hS.at k (by omega)).rd 0 rfl) | exact ((hS.at i (by omega)).rd 0 rfl)))) rfl ?_
          refine WQ.q rfl (Yd.qt (Yd.move rfl)) rfl ?_
          refine WQ.q rfl (Yd.qt (Yd.move rfl)) rfl ?_
          refine WQ.q rfl (Yd.qt (Yd.indexS Try.underlying22 Try.sizeOf3 rfl rfl (by (try dsimp only); omega) (by (try dsimp only); omega) (by first | exact hS.addr k (by omega) | exact hS.addr i (by omega)))) rfl ?_
          refine WQ.q rfl (Yd.qt (Yd.load1 Try.isAgg3 rfl (by first | exact ((hS.at k (by omega)).rd 0 rfl) | exact ((hS.at i (by omega)).rd 0 rfl)))) rfl ?_
          refine WQ.know 139 (nt (gt qs k)) rfl rfl ?_
          refine WQ.know 143 (nt (gt qs i)) rfl rfl ?_
          refine WQ.q rfl (Yd.qt (Yd.lss rfl rfl)) rfl ?_
          refine WQ.q rfl (Yd.qt (Yd.move rfl)) rfl ?_
          refine WQ.part 145 rfl (fun g145 => ?_) (fun g145 => ?_)
          · try simp only [zq1, zq2, zq3, zq4, zq5, zq6, zq7, zq8] at g145
            refine WQ.qg rfl rfl (Yd.qt (Yd.move rfl)) rfl ?_
            refine WQ.qg rfl rfl (Yd.qt (Yd.move rfl)) rfl ?_
            refine WQ.qg rfl rfl (Yd.qt (Yd.gtr rfl rfl)) rfl ?_
            refine WQ.know 148 (.bool false) rfl (congrArg Value.bool (decide_eq_false (by (try dsimp only); have := split_mono (M := M) (i := i) (k := k) hA hin hkn (by omega); omega))) ?_
            refine WQ.q rfl (Yd.qt (Yd.pickT rfl rfl)) rfl ?_
            refine WQ.q rfl (Yd.qt (Yd.move rfl)) rfl ?_
            refine WQ.qg rfl rfl (Yd.qt (Yd.move rfl)) rfl ?_
            refine WQ.qg rfl rfl (Yd.qt (Yd.move rfl)) rfl ?_
            refine WQ.qg rfl rfl (Yd.qt (Yd.indexS Try.underlying22 Try.sizeOf3 rfl rfl (by (try dsimp only); omega) (by (try dsimp only); omega) (by first | exact hS.addr k (by omega) | exact hS.addr i (by omega)))) rfl ?_
            refine WQ.qg rfl rfl (Yd.qt (Yd.load1 Try.isAgg3 rfl (by first | exact ((hS.at k (by omega)).rd 0 rfl) | exact ((hS.at i (by omega)).rd 0 rfl)))) rfl ?_
            refine WQ.qg rfl rfl (Yd.qt (Yd.move rfl)) rfl ?_
            refine WQ.qg rfl rfl (Yd.qt (Yd.move rfl)) rfl ?_
            refine WQ.qg rfl rfl (Yd.qt (Yd.indexS Try.underlying22 Try.sizeOf3 rfl rfl (by (try dsimp only); omega) (by (try dsimp only); omega) (by first | exact hS.addr k (by omega) | exact hS.addr i (by omega)))) rfl ?_
            refine WQ.qg rfl rfl (Yd.qt (Yd.load1 Try.isAgg3 rfl (by first | exact ((hS.at k (by omega)).rd 0 rfl) | exact ((hS.at i (by omega)).rd 0 rfl)))) rfl ?_
            refine WQ.qg rfl rfl (Yd.qt (Yd.eql rfl rfl)) rfl ?_
            refine WQ.qg rfl rfl (Yd.qt (Yd.move rfl)) rfl ?_
            refine WQ.part 160 rfl (fun g160 => ?_) (fun g160 => ?_)
            · try simp only [zq1, zq2, zq3, zq4, zq5, zq6, zq7, zq8] at g160
              refine WQ.qg rfl rfl (Yd.qt (Yd.move rfl)) rfl ?_
              refine WQ.qg rfl rfl (Yd.qt (Yd.move rfl)) rfl ?_
              refine WQ.qg rfl rfl (Yd.qt (Yd.gtr rfl rfl)) rfl ?_
              refine WQ.qg rfl rfl (Yd.qt (Yd.pickT rfl rfl)) rfl ?_
              refine WQ.qg rfl rfl (Yd.qt (Yd.move rfl)) rfl ?_
              refine WQ.part 165 rfl (fun g165 => ?_) (fun g165 => ?_)
              · try simp only [zq1, zq2, zq3, zq4, zq5, zq6, zq7, zq8] at g165
                refine WQ.qg rfl rfl (Yd.qt (Yd.move rfl)) rfl ?_
                refine WQ.qg rfl rfl (Yd.qt (Yd.move rfl)) rfl ?_
                refine WQ.tail ?_
                refine WL.ydg rfl (Yd.gtr rfl rfl) rfl ?_
                refine WL.know 168 (.bool false) rfl (congrArg Value.bool (decide_eq_false (by (try dsimp only); have := split_same (M := M) (i := i) (k := k) hA hin hkn (by omega) (by omega); omega))) ?_
                refine WL.ydg rfl (Yd.pickT rfl rfl) rfl ?_
                refine WL.yd (Yd.pickF rfl rfl) rfl ?_
                refine WL.nil ?_
                refine WP.thenC ?_
                refine WC.condF rfl ?_
                refine WC.skip ?_
                refine WP.thenC ?_
                refine WC.seq ?_
                refine WC.ofFr [(17, _), (16, _), (0, _), (1, _), (4, _), (5, _), (8, _), (11, _), (12, _), (13, _), (14, _), (15, _), (81, _), (82, _), (83, _), (129, _), (130, _), (131, _)] ⟨rfl, rfl, rfl, rfl, rfl, rfl, rfl, rfl, rfl, rfl, rfl, rfl, rfl, rfl, rfl, rfl, rfl, rfl, trivial⟩ ?_
                refine WC.region ?_
                refine WL.yd (Yd.move rfl) rfl ?_
                refine WL.yd (Yd.move rfl) rfl ?_
                refine WL.yd (Yd.move rfl) rfl ?_
                refine WL.yd (Yd.indexS Try.underlying22 Try.sizeOf3 rfl rfl (by (try dsimp only); omega) (by (try dsimp only); omega) (by first | exact hS.addr k (by omega))) rfl ?_
                refine WL.yd (Yd.load1 Try.isAgg3 rfl (by first | exact ((hS.at k (by omega)).rd 0 rfl))) rfl ?_
                refine WL.yd (Yd.mul rfl rfl (wr64 ⟨by omega, by omega⟩)) rfl ?_
                refine WL.yd (Yd.move rfl) rfl ?_
                refine WL.yd (Yd.remN (i := M * gt qs k) (j := qs.sum) rfl rfl hA) rfl ?_
                refine WL.know 178 (nt (remN M qs.sum qs k)) rfl rfl ?_
                refine WL.yd (Yd.move rfl) rfl ?_
                refine WL.yd (Yd.lss rfl rfl) rfl ?_
                refine WL.yd (Yd.move rfl) rfl ?_
                refine WL.part 181 rfl (fun g181 => ?_) (fun g181 => ?_)
                · try simp only [zq1, zq2, zq3, zq4, zq5, zq6, zq7, zq8] at g181
                  refine WL.ydg rfl (Yd.move rfl) rfl ?_
                  refine WL.ydg rfl (Yd.move rfl) rfl ?_
                  refine WL.ydg rfl (Yd.move rfl) rfl ?_
                  refine WL.ydg rfl (Yd.move rfl) rfl ?_
                  refine WL.ydg rfl (Yd.indexS Try.underlying22 Try.sizeOf3 rfl rfl (by (try dsimp only); omega) (by (try dsimp only); omega) (by first | exact hS.addr k (by omega))) rfl ?_
                  refine WL.ydg rfl (Yd.load1 Try.isAgg3 rfl (by first | exact ((hS.at k (by omega)).rd 0 rfl))) rfl ?_
                  refine WL.ydg rfl (Yd.mul rfl rfl (wr64 ⟨by omega, by omega⟩)) rfl ?_
                  refine WL.ydg rfl (Yd.move rfl) rfl ?_
                  refine WL.ydg rfl (Yd.quoN (i := M * gt qs k) (j := qs.sum) rfl rfl hA (by have := (down_num (A := qs.sum) hM hq (i := k) (by omega)).1; omega)) rfl ?_
                  refine WL.ydg rfl (Yd.gtr rfl rfl) rfl ?_
                  refine WL.yd (Yd.pickT rfl rfl) rfl ?_
                  refine WL.yd (Yd.move rfl) rfl ?_
                  refine WL.part 193 rfl (fun g193 => ?_) (fun g193 => ?_)
                  · try simp only [zq1, zq2, zq3, zq4, zq5, zq6, zq7, zq8] at g193
                    have hdk : downN M qs.sum qs k < gt (splitL M qs) k := by unfold downN; omega
                    refine WL.ydg rfl (Yd.move rfl) rfl ?_
                    refine WL.ydg rfl (Yd.move rfl) rfl ?_
                    refine WL.ydg rfl (Yd.eql rfl rfl) rfl ?_
                    refine WL.know 196 (.bool false) rfl (congrArg Value.bool (decide_eq_false (by (try dsimp only); have := split_rem (M := M) (i := i) (k := k) hA hin hkn (by omega) (by omega); omega))) ?_
                    refine WL.yd (Yd.pickT rfl rfl) rfl ?_
                    refine WL.nil ?_
                    refine WP.thenC ?_
                    refine WC.condF rfl ?_
                    refine WC.skip ?_
                    refine WP.blkNormal ?_
                    refine WP.thenC ?_
                    refine WC.ofFr [(0, _), (1, _), (4, _), (5, _), (8, _), (11, _), (12, _), (13, _), (14, _), (15, _), (81, _), (82, _), (83, _), (129, _), (130, _), (131, _)] ⟨rfl, rfl, rfl, rfl, rfl, rfl, rfl, rfl, rfl, rfl, rfl, rfl, rfl, rfl, rfl, rfl, trivial⟩ ?_
                    refine WC.region ?_
                    refine WL.yd (Yd.addN rfl rfl (by (try dsimp only); omega)) rfl ?_
                    refine WL.yd (Yd.move rfl) rfl ?_
                    refine WL.nil ?_
                    exact WP.againF (k + 1) (by omega) (by omega) ⟨rfl, rfl, rfl, rfl, rfl, rfl, rfl, rfl, rfl, rfl, rfl, rfl, rfl, rfl, rfl, rfl, trivial⟩ (fun _ h => h) (fun h => h)
                  · try simp only [zq1, zq2, zq3, zq4, zq5, zq6, zq7, zq8] at g193
                    refine WL.skip rfl rfl ?_
                    refine WL.skip rfl rfl ?_
                    refine WL.skip rfl rfl ?_
                    refine WL.yd (Yd.pickF rfl rfl) rfl ?_
                    refine WL.nil ?_
                    refine WP.thenC ?_
                    refine WC.condF rfl ?_
                    refine WC.skip ?_
                    refine WP.blkNormal ?_
                    refine WP.thenC ?_
                    refine WC.ofFr [(0, _), (1, _), (4, _), (5, _), (8, _), (11, _), (12, _), (13, _), (14, _), (15, _), (81, _), (82, _), (83, _), (129, _), (130, _), (131, _)] ⟨rfl, rfl, rfl, rfl, rfl, rfl, rfl, rfl, rfl, rfl, rfl, rfl, rfl, rfl, rfl, rfl, trivial⟩ ?_
                    refine WC.region ?_
                    refine WL.yd (Yd.addN rfl rfl (by (try dsimp only); omega)) rfl ?_
                    refine WL.yd (Yd.move rfl) rfl ?_
                    refine WL.nil ?_
                    exact WP.againF (k + 1) (by omega) (by omega) ⟨rfl, rfl, rfl, rfl, rfl, rfl, rfl, rfl, rfl, rfl, rfl, rfl, rfl, rfl, rfl, rfl, trivial⟩ (fun _ h => h) (fun h => h)
                · try simp only [zq1, zq2, zq3, zq4, zq5, zq6, zq7, zq8] at g181
                  refine WL.skip rfl rfl ?_
                  refine WL.skip rfl rfl ?_
                  refine WL.skip rfl rfl ?_
                  refine WL.skip rfl rfl ?_
                  refine WL.skip rfl rfl ?_
                  refine WL.skip rfl rfl ?_
                  refine WL.skip rfl rfl ?_
                  refine WL.skip rfl rfl ?_
                  refine WL.skip rfl rfl ?_
                  refine WL.skip rfl rfl ?_
                  refine WL.yd (Yd.pickF rfl rfl) rfl ?_
                  refine WL.yd (Yd.move rfl) rfl ?_
                  refine WL.skip rfl rfl ?_
                  refine WL.skip rfl rfl ?_
                  refine WL.skip rfl rfl ?_
                  refine WL.yd (Yd.pickF rfl rfl) rfl ?_
                  refine WL.nil ?_
                  refine WP.thenC ?_
                  refine WC.condF rfl ?_
                  refine WC.skip ?_
                  refine WP.blkNormal ?_
                  refine WP.thenC ?_
                  refine WC.ofFr [(0, _), (1, _), (4, _), (5, _), (8, _), (11, _), (12, _), (13, _), (14, _), (15, _), (81, _), (82, _), (83, _), (129, _), (130, _), (131, _)] ⟨rfl, rfl, rfl, rfl, rfl, rfl, rfl, rfl, rfl, rfl, rfl, rfl, rfl, rfl, rfl, rfl, trivial⟩ ?_
                  refine WC.region ?_
                  refine WL.yd (Yd.addN rfl rfl (by (try dsimp only); omega)) rfl ?_
                  refine WL.yd (Yd.move rfl) rfl ?_
                  refine WL.nil ?_
                  exact WP.againF (k + 1) (by omega) (by omega) ⟨rfl, rfl, rfl, rfl, rfl, rfl, rfl, rfl, rfl, rfl, rfl, rfl, rfl, rfl, rfl, rfl, trivial⟩ (fun _ h => h) (fun h => h)
              · try simp only [zq1, zq2, zq3, zq4, zq5, zq6, zq7, zq8] at g165
                refine WQ.skip rfl rfl rfl ?_
                refine WQ.skip rfl rfl rfl ?_
                refine WQ.tail ?_
                refine WL.skip rfl rfl ?_
                refine WL.ydg rfl (Yd.pickF rfl rfl) rfl ?_
                refine WL.yd (Yd.pickF rfl rfl) rfl ?_
                refine WL.nil ?_
                refine WP.thenC ?_
                refine WC.condF rfl ?_
                refine WC.skip ?_
                refine WP.thenC ?_
                refine WC.seq ?_
                refine WC.ofFr [(17, _), (16, _), (0, _), (1, _), (4, _), (5, _), (8, _), (11, _), (12, _), (13, _), (14, _), (15, _), (81, _), (82, _), (83, _), (129, _), (130, _), (131, _)] ⟨rfl, rfl, rfl, rfl, rfl, rfl, rfl, rfl, rfl, rfl, rfl, rfl, rfl, rfl, rfl, rfl, rfl, rfl, trivial⟩ ?_
                refine WC.region ?_
                refine WL.yd (Yd.move rfl) rfl ?_
                refine WL.yd (Yd.move rfl) rfl ?_
                refine WL.yd (Yd.move rfl) rfl ?_
                refine WL.yd (Yd.indexS Try.underlying22 Try.sizeOf3 rfl rfl (by (try dsimp only); omega) (by (try dsimp only); omega) (by first | exact hS.addr k (by omega))) rfl ?_
                refine WL.yd (Yd.load1 Try.isAgg3 rfl (by first | exact ((hS.at k (by omega)).rd 0 rfl))) rfl ?_
                refine WL.yd (Yd.mul rfl rfl (wr64 ⟨by omega, by omega⟩)) rfl ?_
                refine WL.yd (Yd.move rfl) rfl ?_
                refine WL.yd (Yd.remN (i := M * gt qs k) (j := qs.sum) rfl rfl hA) rfl ?_
                refine WL.know 178 (nt (remN M qs.sum qs k)) rfl rfl ?_
                refine WL.yd (Yd.move rfl) rfl ?_
                refine WL.yd (Yd.lss rfl rfl) rfl ?_
                refine WL.yd (Yd.move rfl) rfl ?_
                refine WL.part 181 rfl (fun g181 => ?_) (fun g181 => ?_)
                · try simp only [zq1, zq2, zq3, zq4, zq5, zq6, zq7, zq8] at g181
                  refine WL.ydg rfl (Yd.move rfl) rfl ?_
                  refine WL.ydg rfl (Yd.move rfl) rfl ?_
                  refine WL.ydg rfl (Yd.move rfl) rfl ?_
                  refine WL.ydg rfl (Yd.move rfl) rfl ?_
                  refine WL.ydg rfl (Yd.indexS Try.underlying22 Try.sizeOf3 rfl rfl (by (try dsimp only); omega) (by (try dsimp only); omega) (by first | exact hS.addr k (by omega))) rfl ?_
                  refine WL.ydg rfl (Yd.load1 Try.isAgg3 rfl (by first | exact ((hS.at k (by omega)).rd 0 rfl))) rfl ?_
                  refine WL.ydg rfl (Yd.mul rfl rfl (wr64 ⟨by omega, by omega⟩)) rfl ?_
                  refine WL.ydg rfl (Yd.move rfl) rfl ?_
                  refine WL.ydg rfl (Yd.quoN (i := M * gt qs k) (j := qs.sum) rfl rfl hA (by have := (down_num (A := qs.sum) hM hq (i := k) (by omega)).1; omega)) rfl ?_
                  refine WL.ydg rfl (Yd.gtr rfl rfl) rfl ?_
                  refine WL.yd (Yd.pickT rfl rfl) rfl ?_
                  refine WL.yd (Yd.move rfl) rfl ?_
                  refine WL.part 193 rfl (fun g193 => ?_) (fun g193 => ?_)
                  · try simp only [zq1, zq2, zq3, zq4, zq5, zq6, zq7, zq8] at g193
                    have hdk : downN M qs.sum qs k < gt (splitL M qs) k := by unfold downN; omega
                    refine WL.ydg rfl (Yd.move rfl) rfl ?_
                    refine WL.ydg rfl (Yd.move rfl) rfl ?_
                    refine WL.ydg rfl (Yd.eql rfl rfl) rfl ?_
                    refine WL.know 196 (.bool false) rfl (congrArg Value.bool (decide_eq_false (by (try dsimp only); have := split_rem (M := M) (i := i) (k := k) hA hin hkn (by omega) (by omega); omega))) ?_
                    refine WL.yd (Yd.pickT rfl rfl) rfl ?_
                    refine WL.nil ?_
                    refine WP.thenC ?_
                    refine WC.condF rfl ?_
                    refine WC.skip ?_
                    refine WP.blkNormal ?_
                    refine WP.thenC ?_
                    refine WC.ofFr [(0, _), (1, _), (4, _), (5, _), (8, _), (11, _), (12, _), (13, _), (14, _), (15, _), (81, _), (82, _), (83, _), (129, _), (130, _), (131, _)] ⟨rfl, rfl, rfl, rfl, rfl, rfl, rfl, rfl, rfl, rfl, rfl, rfl, rfl, rfl, rfl, rfl, trivial⟩ ?_
                    refine WC.region ?_
                    refine WL.yd (Yd.addN rfl rfl (by (try dsimp only); omega)) rfl ?_
                    refine WL.yd (Yd.move rfl) rfl ?_
                    refine WL.nil ?_
                    exact WP.againF (k + 1) (by omega) (by omega) ⟨rfl, rfl, rfl, rfl, rfl, rfl, rfl, rfl, rfl, rfl, rfl, rfl, rfl, rfl, rfl, rfl, trivial⟩ (fun _ h => h) (fun h => h)
                  · try simp only [zq1, zq2, zq3, zq4, zq5, zq6, zq7, zq8] at g193
                    refine WL.skip rfl rfl ?_
                    refine WL.skip rfl rfl ?_
                    refine WL.skip rfl rfl ?_
                    refine WL.yd (Yd.pickF rfl rfl) rfl ?_
                    refine WL.nil ?_
                    refine WP.thenC ?_
                    refine WC.condF rfl ?_
                    refine WC.skip ?_
                    refine WP.blkNormal ?_
                    refine WP.thenC ?_
                    refine WC.ofFr [(0, _), (1, _), (4, _), (5, _), (8, _), (11, _), (12, _), (13, _), (14, _), (15, _), (81, _), (82, _), (83, _), (129, _), (130, _), (131, _)] ⟨rfl, rfl, rfl, rfl, rfl, rfl, rfl, rfl, rfl, rfl, rfl, rfl, rfl, rfl, rfl, rfl, trivial⟩ ?_
                    refine WC.region ?_
                    refine WL.yd (Yd.addN rfl rfl (by (try dsimp only); omega)) rfl ?_
                    refine WL.yd (Yd.move rfl) rfl ?_
                    refine WL.nil ?_
                    exact WP.againF (k + 1) (by omega) (by omega) ⟨rfl, rfl, rfl, rfl, rfl, rfl, rfl, rfl, rfl, rfl, rfl, rfl, rfl, rfl, rfl, rfl, trivial⟩ (fun _ h => h) (fun h => h)
                · try simp only [zq1, zq2, zq3, zq4, zq5, zq6, zq7, zq8] at g181
                  refine WL.skip rfl rfl ?_
                  refine WL.skip rfl rfl ?_
                  refine WL.skip rfl rfl ?_
                  refine WL.skip rfl rfl ?_
                  refine WL.skip rfl rfl ?_
                  refine WL.skip rfl rfl ?_
                  refine WL.skip rfl rfl ?_
                  refine WL.skip rfl rfl ?_
                  refine WL.skip rfl rfl ?_
                  refine WL.skip rfl rfl ?_
                  refine WL.yd (Yd.pickF rfl rfl) rfl ?_
                  refine WL.yd (Yd.move rfl) rfl ?_
                  refine WL.skip rfl rfl ?_
                  refine WL.skip rfl rfl ?_
                  refine WL.skip rfl rfl ?_
                  refine WL.yd (Yd.pickF rfl rfl) rfl ?_
                  refine WL.nil ?_
                  refine WP.thenC ?_
                  refine WC.condF rfl ?_
                  refine WC.skip ?_
                  refine WP.blkNormal ?_
                  refine WP.thenC ?_
                  refine WC.ofFr [(0, _), (1, _), (4, _), (5, _), (8, _), (11, _), (12, _), (13, _), (14, _), (15, _), (81, _), (82, _), (83, _), (129, _), (130, _), (131, _)] ⟨rfl, rfl, rfl, rfl, rfl, rfl, rfl, rfl, rfl, rfl, rfl, rfl, rfl, rfl, rfl, rfl, trivial⟩ ?_
                  refine WC.region ?_
                  refine WL.yd (Yd.addN rfl rfl (by (try dsimp only); omega)) rfl ?_
                  refine WL.yd (Yd.move rfl) rfl ?_
                  refine WL.nil ?_
                  exact WP.againF (k + 1) (by omega) (by omega) ⟨rfl, rfl, rfl, rfl, rfl, rfl, rfl, rfl, rfl, rfl, rfl, rfl, rfl, rfl, rfl, rfl, trivial⟩ (fun _ h => h) (fun h => h)
            · try simp only [zq1, zq2, zq3, zq4, zq5, zq6, zq7, zq8] at g160
              refine WQ.skip rfl rfl rfl ?_
              refine WQ.skip rfl rfl rfl ?_
              refine WQ.skip rfl rfl rfl ?_
              refine WQ.qg rfl rfl (Yd.qt (Yd.pickF rfl rfl)) rfl ?_
              refine WQ.qg rfl rfl (Yd.qt (Yd.move rfl)) rfl ?_
              refine WQ.skip rfl rfl rfl ?_
              refine WQ.skip rfl rfl rfl ?_
              refine WQ.tail ?_
              refine WL.skip rfl rfl ?_
              refine WL.ydg rfl (Yd.pickF rfl rfl) rfl ?_
              refine WL.yd (Yd.pickF rfl rfl) rfl ?_
              refine WL.nil ?_
              refine WP.thenC ?_
              refine WC.condF rfl ?_
              refine WC.skip ?_
              refine WP.thenC ?_
              refine WC.seq ?_
              refine WC.ofFr [(17, _), (16, _), (0, _), (1, _), (4, _), (5, _), (8, _), (11, _), (12, _), (13, _), (14, _), (15, _), (81, _), (82, _), (83, _), (129, _), (130, _), (131, _)] ⟨rfl, rfl, rfl, rfl, rfl, rfl, rfl, rfl, rfl, rfl, rfl, rfl, rfl, rfl, rfl, rfl, rfl, rfl, trivial⟩ ?_
              refine WC.region ?_
              refine WL.yd (Yd.move rfl) rfl ?_
              refine WL.yd (Yd.move rfl) rfl ?_
              refine WL.yd (Yd.move rfl) rfl ?_
              refine WL.yd (Yd.indexS Try.underlying22 Try.sizeOf3 rfl rfl (by (try dsimp only); omega) (by (try dsimp only); omega) (by first | exact hS.addr k (by omega))) rfl ?_
              refine WL.yd (Yd.load1 Try.isAgg3 rfl (by first | exact ((hS.at k (by omega)).rd 0 rfl))) rfl ?_
              refine WL.yd (Yd.mul rfl rfl (wr64 ⟨by omega, by omega⟩)) rfl ?_
              refine WL.yd (Yd.move rfl) rfl ?_
              refine WL.yd (Yd.remN (i := M * gt qs k) (j := qs.sum) rfl rfl hA) rfl ?_
              refine WL.know 178 (nt (remN M qs.sum qs k)) rfl rfl ?_
              refine WL.yd (Yd.move rfl) rfl ?_
              refine WL.yd (Yd.lss rfl rfl) rfl ?_
              refine WL.yd (Yd.move rfl) rfl ?_
              refine WL.part 181 rfl (fun g181 => ?_) (fun g181 => ?_)
              · try simp only [zq1, zq2, zq3, zq4, zq5, zq6, zq7, zq8] at g181
                refine WL.ydg rfl (Yd.move rfl) rfl ?_
                refine WL.ydg rfl (Yd.move rfl) rfl ?_
                refine WL.ydg rfl (Yd.move rfl) rfl ?_
                refine WL.ydg rfl (Yd.move rfl) rfl ?_
                refine WL.ydg rfl (Yd.indexS Try.underlying22 Try.sizeOf3 rfl rfl (by (try dsimp only); omega) (by (try dsimp only); omega) (by first | exact hS.addr k (by omega))) rfl ?_
                refine WL.ydg rfl (Yd.load1 Try.isAgg3 rfl (by first | exact ((hS.at k (by omega)).rd 0 rfl))) rfl ?_
                refine WL.ydg rfl (Yd.mul rfl rfl (wr64 ⟨by omega, by omega⟩)) rfl ?_
                refine WL.ydg rfl (Yd.move rfl) rfl ?_
                refine WL.ydg rfl (Yd.quoN (i := M * gt qs k) (j := qs.sum) rfl rfl hA (by have := (down_num (A := qs.sum) hM hq (i := k) (by omega)).1; omega)) rfl ?_
                refine WL.ydg rfl (Yd.gtr rfl rfl) rfl ?_
                refine WL.yd (Yd.pickT rfl rfl) rfl ?_
                refine WL.yd (Yd.move rfl) rfl ?_
                refine WL.part 193 rfl (fun g193 => ?_) (fun g193 => ?_)
                · try simp only [zq1, zq2, zq3, zq4, zq5, zq6, zq7, zq8] at g193
                  have hdk : downN M qs.sum qs k < gt (splitL M qs) k := by unfold downN; omega
                  refine WL.ydg rfl (Yd.move rfl) rfl ?_
                  refine WL.ydg rfl (Yd.move rfl) rfl ?_
                  refine WL.ydg rfl (Yd.eql rfl rfl) rfl ?_
                  refine WL.know 196 (.bool false) rfl (congrArg Value.bool (decide_eq_false (by (try dsimp only); have := split_rem (M := M) (i := i) (k := k) hA hin hkn (by omega) (by omega); omega))) ?_
                  refine WL.yd (Yd.pickT rfl rfl) rfl ?_
                  refine WL.nil ?_
                  refine WP.thenC ?_
                  refine WC.condF rfl ?_
                  refine WC.skip ?_
                  refine WP.blkNormal ?_
                  refine WP.thenC ?_
                  refine WC.ofFr [(0, _), (1, _), (4, _), (5, _), (8, _), (11, _), (12, _), (13, _), (14, _), (15, _), (81, _), (82, _), (83, _), (129, _), (130, _), (131, _)] ⟨rfl, rfl, rfl, rfl, rfl, rfl, rfl, rfl, rfl, rfl, rfl, rfl, rfl, rfl, rfl, rfl, trivial⟩ ?_
                  refine WC.region ?_
                  refine WL.yd (Yd.addN rfl rfl (by (try dsimp only); omega)) rfl ?_
                  refine WL.yd (Yd.move rfl) rfl ?_
                  refine WL.nil ?_
                  exact WP.againF (k + 1) (by omega) (by omega) ⟨rfl, rfl, rfl, rfl, rfl, rfl, rfl, rfl, rfl, rfl, rfl, rfl, rfl, rfl, rfl, rfl, trivial⟩ (fun _ h => h) (fun h => h)
                · try simp only [zq1, zq2, zq3, zq4, zq5, zq6, zq7, zq8] at g193
                  refine WL.skip rfl rfl ?_
                  refine WL.skip rfl rfl ?_
                  refine WL.skip rfl rfl ?_
                  refine WL.yd (Yd.pickF rfl rfl) rfl ?_
                  refine WL.nil ?_
                  refine WP.thenC ?_
                  refine WC.condF rfl ?_
                  refine WC.skip ?_
                  refine WP.blkNormal ?_
                  refine WP.thenC ?_
                  refine WC.ofFr [(0, _), (1, _), (4, _), (5, _), (8, _), (11, _), (12, _), (13, _), (14, _), (15, _), (81, _), (82, _), (83, _), (129, _), (130, _), (131, _)] ⟨rfl, rfl, rfl, rfl, rfl, rfl, rfl, rfl, rfl, rfl, rfl, rfl, rfl, rfl, rfl, rfl, trivial⟩ ?_
                  refine WC.region ?_
                  refine WL.yd (Yd.addN rfl rfl (by (try dsimp only); omega)) rfl ?_
                  refine WL.yd (Yd.move rfl) rfl ?_
                  refine WL.nil ?_
                  exact WP.againF (k + 1) (by omega) (by omega) ⟨rfl, rfl, rfl, rfl, rfl, rfl, rfl, rfl, rfl, rfl, rfl, rfl, rfl, rfl, rfl, rfl, trivial⟩ (fun _ h => h) (fun h => h)
              · try simp only [zq1, zq2, zq3, zq4, zq5, zq6, zq7, zq8] at g181
                refine WL.skip rfl rfl ?_
                refine WL.skip rfl rfl ?_
                refine WL.skip rfl rfl ?_
                refine WL.skip rfl rfl ?_
                refine WL.skip rfl rfl ?_
                refine WL.skip rfl rfl ?_
                refine WL.skip rfl rfl ?_
                refine WL.skip rfl rfl ?_
                refine WL.skip rfl rfl ?_
                refine WL.skip rfl rfl ?_
                refine WL.yd (Yd.pickF rfl rfl) rfl ?_
                refine WL.yd (Yd.move rfl) rfl ?_
                refine WL.skip rfl rfl ?_
                refine WL.skip rfl rfl ?_
                refine WL.skip rfl rfl ?_
                refine WL.yd (Yd.pickF rfl rfl) rfl ?_
                refine WL.nil ?_
                refine WP.thenC ?_
                refine WC.condF rfl ?_
                refine WC.skip ?_
                refine WP.blkNormal ?_
                refine WP.thenC ?_
                refine WC.ofFr [(0, _), (1, _), (4, _), (5, _), (8, _), (11, _), (12, _), (13, _), (14, _), (15, _), (81, _), (82, _), (83, _), (129, _), (130, _), (131, _)] ⟨rfl, rfl, rfl, rfl, rfl, rfl, rfl, rfl, rfl, rfl, rfl, rfl, rfl, rfl, rfl, rfl, trivial⟩ ?_
                refine WC.region ?_
                refine WL.yd (Yd.addN rfl rfl (by (try dsimp only); omega)) rfl ?_
                refine WL.yd (Yd.move rfl) rfl ?_
                refine WL.nil ?_
                exact WP.againF (k + 1) (by omega) (by omega) ⟨rfl, rfl, rfl, rfl, rfl, rfl, rfl, rfl, rfl, rfl, rfl, rfl, rfl, rfl, rfl, rfl, trivial⟩ (fun _ h => h) (fun h => h)
          · try simp only [zq1, zq2, zq3, zq4, zq5, zq6, zq7, zq8] at g145
            refine WQ.skip rfl rfl rfl ?_
            refine WQ.skip rfl rfl rfl ?_
            refine WQ.skip rfl rfl rfl ?_
            refine WQ.q rfl (Yd.qt (Yd.pickF rfl rfl)) rfl ?_
            refine WQ.q rfl (Yd.qt (Yd.move rfl)) rfl ?_
            refine WQ.qg rfl rfl (Yd.qt (Yd.move rfl)) rfl ?_
            refine WQ.qg rfl rfl (Yd.qt (Yd.move rfl)) rfl ?_
            refine WQ.qg rfl rfl (Yd.qt (Yd.indexS Try.underlying22 Try.sizeOf3 rfl rfl (by (try dsimp only); omega) (by (try dsimp only); omega) (by first | exact hS.addr k (by omega) | exact hS.addr i (by omega)))) rfl ?_
            refine WQ.qg rfl rfl (Yd.qt (Yd.load1 Try.isAgg3 rfl (by first | exact ((hS.at k (by omega)).rd 0 rfl) | exact ((hS.at i (by omega)).rd 0 rfl)))) rfl ?_
            refine WQ.qg rfl rfl (Yd.qt (Yd.move rfl)) rfl ?_
            refine WQ.qg rfl rfl (Yd.qt (Yd.move rfl)) rfl ?_
            refine WQ.qg rfl rfl (Yd.qt (Yd.indexS Try.underlying22 Try.sizeOf3 rfl rfl (by (try dsimp only); omega) (by (try dsimp only); omega) (by first | exact hS.addr k (by omega) | exact hS.addr i (by omega)))) rfl ?_
            refine WQ.qg rfl rfl (Yd.qt (Yd.load1 Try.isAgg3 rfl (by first | exact ((hS.at k (by omega)).rd 0 rfl) | exact ((hS.at i (by omega)).rd 0 rfl)))) rfl ?_
            refine WQ.qg rfl rfl (Yd.qt (Yd.eql rfl rfl)) rfl ?_
            refine WQ.qg rfl rfl (Yd.qt (Yd.move rfl)) rfl ?_
            refine WQ.part 160 rfl (fun g160 => ?_) (fun g160 => ?_)
            · try simp only [zq1, zq2, zq3, zq4, zq5, zq6, zq7, zq8] at g160
              refine WQ.qg rfl rfl (Yd.qt (Yd.move rfl)) rfl ?_
              refine WQ.qg rfl rfl (Yd.qt (Yd.move rfl)) rfl ?_
              refine WQ.qg rfl rfl (Yd.qt (Yd.gtr rfl rfl)) rfl ?_
              refine WQ.qg rfl rfl (Yd.qt (Yd.pickT rfl rfl)) rfl ?_
              refine WQ.qg rfl rfl (Yd.qt (Yd.move rfl)) rfl ?_
              refine WQ.part 165 rfl (fun g165 => ?_) (fun g165 => ?_)
              · try simp only [zq1, zq2, zq3, zq4, zq5, zq6, zq7, zq8] at g165
                refine WQ.qg rfl rfl (Yd.qt (Yd.move rfl)) rfl ?_
                refine WQ.qg rfl rfl (Yd.qt (Yd.move rfl)) rfl ?_
                refine WQ.tail ?_
                refine WL.ydg rfl (Yd.gtr rfl rfl) rfl ?_
                refine WL.know 168 (.bool false) rfl (congrArg Value.bool (decide_eq_false (by (try dsimp only); have := split_same (M := M) (i := i) (k := k) hA hin hkn (by omega) (by omega); omega))) ?_
                refine WL.ydg rfl (Yd.pickT rfl rfl) rfl ?_
                refine WL.yd (Yd.pickF rfl rfl) rfl ?_
                refine WL.nil ?_
                refine WP.thenC ?_
                refine WC.condF rfl ?_
                refine WC.skip ?_
                refine WP.thenC ?_
                refine WC.seq ?_
                refine WC.ofFr [(17, _), (16, _), (0, _), (1, _), (4, _), (5, _), (8, _), (11, _), (12, _), (13, _), (14, _), (15, _), (81, _), (82, _), (83, _), (129, _), (130, _), (131, _)] ⟨rfl, rfl, rfl, rfl, rfl, rfl, rfl, rfl, rfl, rfl, rfl, rfl, rfl, rfl, rfl, rfl, rfl, rfl, trivial⟩ ?_
                refine WC.region ?_
                refine WL.yd (Yd.move rfl) rfl ?_
                refine WL.yd (Yd.move rfl) rfl ?_
                refine WL.yd (Yd.move rfl) rfl ?_
                refine WL.yd (Yd.indexS Try.underlying22 Try.sizeOf3 rfl rfl (by (try dsimp only); omega) (by (try dsimp only); omega) (by first | exact hS.addr k (by omega))) rfl ?_
                refine WL.yd (Yd.load1 Try.isAgg3 rfl (by first | exact ((hS.at k (by omega)).rd 0 rfl))) rfl ?_
                refine WL.yd (Yd.mul rfl rfl (wr64 ⟨by omega, by omega⟩)) rfl ?_
                refine WL.yd (Yd.move rfl) rfl ?_
                refine WL.yd (Yd.remN (i := M * gt qs k) (j := qs.sum) rfl rfl hA) rfl ?_
                refine WL.know 178 (nt (remN M qs.sum qs k)) rfl rfl ?_
                refine WL.yd (Yd.move rfl) rfl ?_
                refine WL.yd (Yd.lss rfl rfl) rfl ?_
                refine WL.yd (Yd.move rfl) rfl ?_
                refine WL.part 181 rfl (fun g181 => ?_) (fun g181 => ?_)
                · try simp only [zq1, zq2, zq3, zq4, zq5, zq6, zq7, zq8] at g181
                  refine WL.ydg rfl (Yd.move rfl) rfl ?_
                  refine WL.ydg rfl (Yd.move rfl) rfl ?_
                  refine WL.ydg rfl (Yd.move rfl) rfl ?_
                  refine WL.ydg rfl (Yd.move rfl) rfl ?_
                  refine WL.ydg rfl (Yd.indexS Try.underlying22 Try.sizeOf3 rfl rfl (by (try dsimp only); omega) (by (try dsimp only); omega) (by first | exact hS.addr k (by omega))) rfl ?_
                  refine WL.ydg rfl (Yd.load1 Try.isAgg3 rfl (by first | exact ((hS.at k (by omega)).rd 0 rfl))) rfl ?_
                  refine WL.ydg rfl (Yd.mul rfl rfl (wr64 ⟨by omega, by omega⟩)) rfl ?_
                  refine WL.ydg rfl (Yd.move rfl) rfl ?_
                  refine WL.ydg rfl (Yd.quoN (i := M * gt qs k) (j := qs.sum) rfl rfl hA (by have := (down_num (A := qs.sum) hM hq (i := k) (by omega)).1; omega)) rfl ?_
                  refine WL.ydg rfl (Yd.gtr rfl rfl) rfl ?_
                  refine WL.yd (Yd.pickT rfl rfl) rfl ?_
                  refine WL.yd (Yd.move rfl) rfl ?_
                  refine WL.part 193 rfl (fun g193 => ?_) (fun g193 => ?_)
                  · try simp only [zq1, zq2, zq3, zq4, zq5, zq6, zq7, zq8] at g193
                    have hdk : downN M qs.sum qs k < gt (splitL M qs) k := by unfold downN; omega
                    refine WL.ydg rfl (Yd.move rfl) rfl ?_
                    refine WL.ydg rfl (Yd.move rfl) rfl ?_
                    refine WL.ydg rfl (Yd.eql rfl rfl) rfl ?_
                    refine WL.know 196 (.bool false) rfl (congrArg Value.bool (decide_eq_false (by (try dsimp only); have := split_rem (M := M) (i := i) (k := k) hA hin hkn (by omega) (by omega); omega))) ?_
                    refine WL.yd (Yd.pickT rfl rfl) rfl ?_
                    refine WL.nil ?_
                    refine WP.thenC ?_
                    refine WC.condF rfl ?_
                    refine WC.skip ?_
                    refine WP.blkNormal ?_
                    refine WP.thenC ?_
                    refine WC.ofFr [(0, _), (1, _), (4, _), (5, _), (8, _), (11, _), (12, _), (13, _), (14, _), (15, _), (81, _), (82, _), (83, _), (129, _), (130, _), (131, _)] ⟨rfl, rfl, rfl, rfl, rfl, rfl, rfl, rfl, rfl, rfl, rfl, rfl, rfl, rfl, rfl, rfl, trivial⟩ ?_
                    refine WC.region ?_
                    refine WL.yd (Yd.addN rfl rfl (by (try dsimp only); omega)) rfl ?_
                    refine WL.yd (Yd.move rfl) rfl ?_
                    refine WL.nil ?_
                    exact WP.againF (k + 1) (by omega) (by omega) ⟨rfl, rfl, rfl, rfl, rfl, rfl, rfl, rfl, rfl, rfl, rfl, rfl, rfl, rfl, rfl, rfl, trivial⟩ (fun _ h => h) (fun h => h)
                  · try simp only [zq1, zq2, zq3, zq4, zq5, zq6, zq7, zq8] at g193
                    refine WL.skip rfl rfl ?_
                    refine WL.skip rfl rfl ?_
                    refine WL.skip rfl rfl ?_
                    refine WL.yd (Yd.pickF rfl rfl) rfl ?_
                    refine WL.nil ?_
                    refine WP.thenC ?_
                    refine WC.condF rfl ?_
                    refine WC.skip ?_
                    refine WP.blkNormal ?_
                    refine WP.thenC ?_
                    refine WC.ofFr [(0, _), (1, _), (4, _), (5, _), (8, _), (11, _), (12, _), (13, _), (14, _), (15, _), (81, _), (82, _), (83, _), (129, _), (130, _), (131, _)] ⟨rfl, rfl, rfl, rfl, rfl, rfl, rfl, rfl, rfl, rfl, rfl, rfl, rfl, rfl, rfl, rfl, trivial⟩ ?_
                    refine WC.region ?_
                    refine WL.yd (Yd.addN rfl rfl (by (try dsimp only); omega)) rfl ?_
                    refine WL.yd (Yd.move rfl) rfl ?_
                    refine WL.nil ?_
                    exact WP.againF (k + 1) (by omega) (by omega) ⟨rfl, rfl, rfl, rfl, rfl, rfl, rfl, rfl, rfl, rfl, rfl, rfl, rfl, rfl, rfl, rfl, trivial⟩ (fun _ h => h) (fun h => h)
                · try simp only [zq1, zq2, zq3, zq4, zq5, zq6, zq7, zq8] at g181
                  refine WL.skip rfl rfl ?_
                  refine WL.skip rfl rfl ?_
                  refine WL.skip rfl rfl ?_
                  refine WL.skip rfl rfl ?_
                  refine WL.skip rfl rfl ?_
                  refine WL.skip rfl rfl ?_
                  refine WL.skip rfl rfl ?_
                  refine WL.skip rfl rfl ?_
                  refine WL.skip rfl rfl ?_
                  refine WL.skip rfl rfl ?_
                  refine WL.yd (Yd.pickF rfl rfl) rfl ?_
                  refine WL.yd (Yd.move rfl) rfl ?_
                  refine WL.skip rfl rfl ?_
                  refine WL.skip rfl rfl ?_
                  refine WL.skip rfl rfl ?_
                  refine WL.yd (Yd.pickF rfl rfl) rfl ?_
                  refine WL.nil ?_
                  refine WP.thenC ?_
                  refine WC.condF rfl ?_
                  refine WC.skip ?_
                  refine WP.blkNormal ?_
                  refine WP.thenC ?_
                  refine WC.ofFr [(0, _), (1, _), (4, _), (5, _), (8, _), (11, _), (12, _), (13, _), (14, _), (15, _), (81, _), (82, _), (83, _), (129, _), (130, _), (131, _)] ⟨rfl, rfl, rfl, rfl, rfl, rfl, rfl, rfl, rfl, rfl, rfl, rfl, rfl, rfl, rfl, rfl, trivial⟩ ?_
                  refine WC.region ?_
                  refine WL.yd (Yd.addN rfl rfl (by (try dsimp only); omega)) rfl ?_
                  refine WL.yd (Yd.move rfl) rfl ?_
                  refine WL.nil ?_
                  exact WP.againF (k + 1) (by omega) (by omega) ⟨rfl, rfl, rfl, rfl, rfl, rfl, rfl, rfl, rfl, rfl, rfl, rfl, rfl, rfl, rfl, rfl, trivial⟩ (fun _ h => h) (fun h => h)
              · try simp only [zq1, zq2, zq3, zq4, zq5, zq6, zq7, zq8] at g165
                refine WQ.skip rfl rfl rfl ?_
                refine WQ.skip rfl rfl rfl ?_
                refine WQ.tail ?_
                refine WL.skip rfl rfl ?_
                refine WL.ydg rfl (Yd.pickF rfl rfl) rfl ?_
                refine WL.yd (Yd.pickF rfl rfl) rfl ?_
                refine WL.nil ?_
                refine WP.thenC ?_
                refine WC.condF rfl ?_
                refine WC.skip ?_
                refine WP.thenC ?_
                refine WC.seq ?_
                refine WC.ofFr [(17, _), (16, _), (0, _), (1, _), (4, _), (5, _), (8, _), (11, _), (12, _), (13, _), (14, _), (15, _), (81, _), (82, _), (83, _), (129, _), (130, _), (131, _)] ⟨rfl, rfl, rfl, rfl, rfl, rfl, rfl, rfl, rfl, rfl, rfl, rfl, rfl, rfl, rfl, rfl, rfl, rfl, trivial⟩ ?_
                refine WC.region ?_
                refine WL.yd (Yd.move rfl) rfl ?_
                refine WL.yd (Yd.move rfl) rfl ?_
                refine WL.yd (Yd.move rfl) rfl ?_
                refine WL.yd (Yd.indexS Try.underlying22 Try.sizeOf3 rfl rfl (by (try dsimp only); omega) (by (try dsimp only); omega) (by first | exact hS.addr k (by omega))) rfl ?_
                refine WL.yd (Yd.load1 Try.isAgg3 rfl (by first | exact ((hS.at k (by omega)).rd 0 rfl))) rfl ?_
                refine WL.yd (Yd.mul rfl rfl (wr64 ⟨by omega, by omega⟩)) rfl ?_
                refine WL.yd (Yd.move rfl) rfl ?_
                refine WL.yd (Yd.remN (i := M * gt qs k) (j := qs.sum) rfl rfl hA) rfl ?_
                refine WL.know 178 (nt (remN M qs.sum qs k)) rfl rfl ?_
                refine WL.yd (Yd.move rfl) rfl ?_
                refine WL.yd (Yd.lss rfl rfl) rfl ?_
                refine WL.yd (Yd.move rfl) rfl ?_
                refine WL.part 181 rfl (fun g181 => ?_) (fun g181 => ?_)
                · try simp only [zq1, zq2, zq3, zq4, zq5, zq6, zq7, zq8] at g181
                  refine WL.ydg rfl (Yd.move rfl) rfl ?_
                  refine WL.ydg rfl (Yd.move rfl) rfl ?_
                  refine WL.ydg rfl (Yd.move rfl) rfl ?_
                  refine WL.ydg rfl (Yd.move rfl) rfl ?_
                  refine WL.ydg rfl (Yd.indexS Try.underlying22 Try.sizeOf3 rfl rfl (by (try dsimp only); omega) (by (try dsimp only); omega) (by first | exact hS.addr k (by omega))) rfl ?_
                  refine WL.ydg rfl (Yd.load1 Try.isAgg3 rfl (by first | exact ((hS.at k (by omega)).rd 0 rfl))) rfl ?_
                  refine WL.ydg rfl (Yd.mul rfl rfl (wr64 ⟨by omega, by omega⟩)) rfl ?_
                  refine WL.ydg rfl (Yd.move rfl) rfl ?_
                  refine WL.ydg rfl (Yd.quoN (i := M * gt qs k) (j := qs.sum) rfl rfl hA (by have := (down_num (A := qs.sum) hM hq (i := k) (by omega)).1; omega)) rfl ?_
                  refine WL.ydg rfl (Yd.gtr rfl rfl) rfl ?_
                  refine WL.yd (Yd.pickT rfl rfl) rfl ?_
                  refine WL.yd (Yd.move rfl) rfl ?_
                  refine WL.part 193 rfl (fun g193 => ?_) (fun g193 => ?_)
                  · try simp only [zq1, zq2, zq3, zq4, zq5, zq6, zq7, zq8] at g193
                    have hdk : downN M qs.sum qs k < gt (splitL M qs) k := by unfold downN; omega
                    refine WL.ydg rfl (Yd.move rfl) rfl ?_
                    refine WL.ydg rfl (Yd.move rfl) rfl ?_
                    refine WL.ydg rfl (Yd.eql rfl rfl) rfl ?_
                    refine WL.know 196 (.bool false) rfl (congrArg Value.bool (decide_eq_false (by (try dsimp only); have := split_rem (M := M) (i := i) (k := k) hA hin hkn (by omega) (by omega); omega))) ?_
                    refine WL.yd (Yd.pickT rfl rfl) rfl ?_
                    refine WL.nil ?_
                    refine WP.thenC ?_
                    refine WC.condF rfl ?_
                    refine WC.skip ?_
                    refine WP.blkNormal ?_
                    refine WP.thenC ?_
                    refine WC.ofFr [(0, _), (1, _), (4, _), (5, _), (8, _), (11, _), (12, _), (13, _), (14, _), (15, _), (81, _), (82, _), (83, _), (129, _), (130, _), (131, _)] ⟨rfl, rfl, rfl, rfl, rfl, rfl, rfl, rfl, rfl, rfl, rfl, rfl, rfl, rfl, rfl, rfl, trivial⟩ ?_
                    refine WC.region ?_
                    refine WL.yd (Yd.addN rfl rfl (by (try dsimp only); omega)) rfl ?_
                    refine WL.yd (Yd.move rfl) rfl ?_
                    refine WL.nil ?_
                    exact WP.againF (k + 1) (by omega) (by omega) ⟨rfl, rfl, rfl, rfl, rfl, rfl, rfl, rfl, rfl, rfl, rfl, rfl, rfl, rfl, rfl, rfl, trivial⟩ (fun _ h => h) (fun h => h)
                  · try simp only [zq1, zq2, zq3, zq4, zq5, zq6, zq7, zq8] at g193
                    refine WL.skip rfl rfl ?_
                    refine WL.skip rfl rfl ?_
                    refine WL.skip rfl rfl ?_
                    refine WL.yd (Yd.pickF rfl rfl) rfl ?_
                    refine WL.nil ?_
                    refine WP.thenC ?_
                    refine WC.condF rfl ?_
                    refine WC.skip ?_
                    refine WP.blkNormal ?_
                    refine WP.thenC ?_
                    refine WC.ofFr [(0, _), (1, _), (4, _), (5, _), (8, _), (11, _), (12, _), (13, _), (14, _), (15, _), (81, _), (82, _), (83, _), (129, _), (130, _), (131, _)] ⟨rfl, rfl, rfl, rfl, rfl, rfl, rfl, rfl, rfl, rfl, rfl, rfl, rfl, rfl, rfl, rfl, trivial⟩ ?_
                    refine WC.region ?_
                    refine WL.yd (Yd.addN rfl rfl (by (try dsimp only); omega)) rfl ?_
                    refine WL.yd (Yd.move rfl) rfl ?_
                    refine WL.nil ?_
                    exact WP.againF (k + 1) (by omega) (by omega) ⟨rfl, rfl, rfl, rfl, rfl, rfl, rfl, rfl, rfl, rfl, rfl, rfl, rfl, rfl, rfl, rfl, trivial⟩ (fun _ h => h) (fun h => h)
                · try simp only [zq1, zq2, zq3, zq4, zq5, zq6, zq7, zq8] at g181
                  refine WL.skip rfl rfl ?_
                  refine WL.skip rfl rfl ?_
                  refine WL.skip rfl rfl ?_
                  refine WL.skip rfl rfl ?_
                  refine WL.skip rfl rfl ?_
                  refine WL.skip rfl rfl ?_
                  refine WL.skip rfl rfl ?_
                  refine WL.skip rfl rfl ?_
                  refine WL.skip rfl rfl ?_
                  refine WL.skip rfl rfl ?_
                  refine WL.yd (Yd.pickF rfl rfl) rfl ?_
                  refine WL.yd (Yd.move rfl) rfl ?_
                  refine WL.skip rfl rfl ?_
                  refine WL.skip rfl rfl ?_
                  refine WL.skip rfl rfl ?_
                  refine WL.yd (Yd.pickF rfl rfl) rfl ?_
                  refine WL.nil ?_
                  refine WP.thenC ?_
                  refine WC.condF rfl ?_
                  refine WC.skip ?_
                  refine WP.blkNormal ?_
                  refine WP.thenC ?_
                  refine WC.ofFr [(0, _), (1, _), (4, _), (5, _), (8, _), (11, _), (12, _), (13, _), (14, _), (15, _), (81, _), (82, _), (83, _), (129, _), (130, _), (131, _)] ⟨rfl, rfl, rfl, rfl, rfl, rfl, rfl, rfl, rfl, rfl, rfl, rfl, rfl, rfl, rfl, rfl, trivial⟩ ?_
                  refine WC.region ?_
                  refine WL.yd (Yd.addN rfl rfl (by (try dsimp only); omega)) rfl ?_
                  refine WL.yd (Yd.move rfl) rfl ?_
                  refine WL.nil ?_
                  exact WP.againF (k + 1) (by omega) (by omega) ⟨rfl, rfl, rfl, rfl, rfl, rfl, rfl, rfl, rfl, rfl, rfl, rfl, rfl, rfl, rfl, rfl, trivial⟩ (fun _ h => h) (fun h => h)
            · try simp only [zq1, zq2, zq3, zq4, zq5, zq6, zq7, zq8] at g160
              refine WQ.skip rfl rfl rfl ?_
              refine WQ.skip rfl rfl rfl ?_
              refine WQ.skip rfl rfl rfl ?_
              refine WQ.qg rfl rfl (Yd.qt (Yd.pickF rfl rfl)) rfl ?_
              refine WQ.qg rfl rfl (Yd.qt (Yd.move rfl)) rfl ?_
              refine WQ.skip rfl rfl rfl ?_
              refine WQ.skip rfl rfl rfl ?_
              refine WQ.tail ?_
              refine WL.skip rfl rfl ?_
              refine WL.ydg rfl (Yd.pickF rfl rfl) rfl ?_
              refine WL.yd (Yd.pickF rfl rfl) rfl ?_
              refine WL.nil ?_
              refine WP.thenC ?_
              refine WC.condF rfl ?_
              refine WC.skip ?_
              refine WP.thenC ?_
              refine WC.seq ?_
              refine WC.ofFr [(17, _), (16, _), (0, _), (1, _), (4, _), (5, _), (8, _), (11, _), (12, _), (13, _), (14, _), (15, _), (81, _), (82, _), (83, _), (129, _), (130, _), (131, _)] ⟨rfl, rfl, rfl, rfl, rfl, rfl, rfl, rfl, rfl, rfl, rfl, rfl, rfl, rfl, rfl, rfl, rfl, rfl, trivial⟩ ?_
              refine WC.region ?_
              refine WL.yd (Yd.move rfl) rfl ?_
              refine WL.yd (Yd.move rfl) rfl ?_
              refine WL.yd (Yd.move rfl) rfl ?_
              refine WL.yd (Yd.indexS Try.underlying22 Try.sizeOf3 rfl rfl (by (try dsimp only); omega) (by (try dsimp only); omega) (by first | exact hS.addr k (by omega))) rfl ?_
              refine WL.yd (Yd.load1 Try.isAgg3 rfl (by first | exact ((hS.at k (by omega)).rd 0 rfl))) rfl ?_
              refine WL.yd (Yd.mul rfl rfl (wr64 ⟨by omega, by omega⟩)) rfl ?_
              refine WL.yd (Yd.move rfl) rfl ?_
              refine WL.yd (Yd.remN (i := M * gt qs k) (j := qs.sum) rfl rfl hA) rfl ?_
              refine WL.know 178 (nt (remN M qs.sum qs k)) rfl rfl ?_
              refine WL.yd (Yd.move rfl) rfl ?_
              refine WL.yd (Yd.lss rfl rfl) rfl ?_
              refine WL.yd (Yd.move rfl) rfl ?_
              refine WL.part 181 rfl (fun g181 => ?_) (fun g181 => ?_)
              · try simp only [zq1, zq2, zq3, zq4, zq5, zq6, zq7, zq8] at g181
                refine WL.ydg rfl (Yd.move rfl) rfl ?_
                refine WL.ydg rfl (Yd.move rfl) rfl ?_
                refine WL.ydg rfl (Yd.move rfl) rfl ?_
                refine WL.ydg rfl (Yd.move rfl) rfl ?_
                refine WL.ydg rfl (Yd.indexS Try.underlying22 Try.sizeOf3 rfl rfl (by (try dsimp only); omega) (by (try dsimp only); omega) (by first | exact hS.addr k (by omega))) rfl ?_
                refine WL.ydg rfl (Yd.load1 Try.isAgg3 rfl (by first | exact ((hS.at k (by omega)).rd 0 rfl))) rfl ?_
                refine WL.ydg rfl (Yd.mul rfl rfl (wr64 ⟨by omega, by omega⟩)) rfl ?_
                refine WL.ydg rfl (Yd.move rfl) rfl ?_
                refine WL.ydg rfl (Yd.quoN (i := M * gt qs k) (j := qs.sum) rfl rfl hA (by have := (down_num (A := qs.sum) hM hq (i := k) (by omega)).1; omega)) rfl ?_
                refine WL.ydg rfl (Yd.gtr rfl rfl) rfl ?_
                refine WL.yd (Yd.pickT rfl rfl) rfl ?_
                refine WL.yd (Yd.move rfl) rfl ?_
                refine WL.part 193 rfl (fun g193 => ?_) (fun g193 => ?_)
                · try simp only [zq1, zq2, zq3, zq4, zq5, zq6, zq7, zq8] at g193
                  have hdk : downN M qs.sum qs k < gt (splitL M qs) k := by unfold downN; omega
                  refine WL.ydg rfl (Yd.move rfl) rfl ?_
                  refine WL.ydg rfl (Yd.move rfl) rfl ?_
                  refine WL.ydg rfl (Yd.eql rfl rfl) rfl ?_
                  refine WL.know 196 (.bool false) rfl (congrArg Value.bool (decide_eq_false (by (try dsimp only); have := split_rem (M := M) (i := i) (k := k) hA hin hkn (by omega) (by omega); omega))) ?_
                  refine WL.yd (Yd.pickT rfl rfl) rfl ?_
                  refine WL.nil ?_
                  refine WP.thenC ?_
                  refine WC.condF rfl ?_
                  refine WC.skip ?_
                  refine WP.blkNormal ?_
                  refine WP.thenC ?_
                  refine WC.ofFr [(0, _), (1, _), (4, _), (5, _), (8, _), (11, _), (12, _), (13, _), (14, _), (15, _), (81, _), (82, _), (83, _), (129, _), (130, _), (131, _)] ⟨rfl, rfl, rfl, rfl, rfl, rfl, rfl, rfl, rfl, rfl, rfl, rfl, rfl, rfl, rfl, rfl, trivial⟩ ?_
                  refine WC.region ?_
                  refine WL.yd (Yd.addN rfl rfl (by (try dsimp only); omega)) rfl ?_
                  refine WL.yd (Yd.move rfl) rfl ?_
                  refine WL.nil ?_
                  exact WP.againF (k + 1) (by omega) (by omega) ⟨rfl, rfl, rfl, rfl, rfl, rfl, rfl, rfl, rfl, rfl, rfl, rfl, rfl, rfl, rfl, rfl, trivial⟩ (fun _ h => h) (fun h => h)
                · try simp only [zq1, zq2, zq3, zq4, zq5, zq6, zq7, zq8] at g193
                  refine WL.skip rfl rfl ?_
                  refine WL.skip rfl rfl ?_
                  refine WL.skip rfl rfl ?_
                  refine WL.yd (Yd.pickF rfl rfl) rfl ?_
                  refine WL.nil ?_
                  refine WP.thenC ?_
                  refine WC.condF rfl ?_
                  refine WC.skip ?_
                  refine WP.blkNormal ?_
                  refine WP.thenC ?_
                  refine WC.ofFr [(0, _), (1, _), (4, _), (5, _), (8, _), (11, _), (12, _), (13, _), (14, _), (15, _), (81, _), (82, _), (83, _), (129, _), (130, _), (131, _)] ⟨rfl, rfl, rfl, rfl, rfl, rfl, rfl, rfl, rfl, rfl, rfl, rfl, rfl, rfl, rfl, rfl, trivial⟩ ?_
                  refine WC.region ?_
                  refine WL.yd (Yd.addN rfl rfl (by (try dsimp only); omega)) rfl ?_
                  refine WL.yd (Yd.move rfl) rfl ?_
                  refine WL.nil ?_
                  exact WP.againF (k + 1) (by omega) (by omega) ⟨rfl, rfl, rfl, rfl, rfl, rfl, rfl, rfl, rfl, rfl, rfl, rfl, rfl, rfl, rfl, rfl, trivial⟩ (fun _ h => h) (fun h => h)
              · try simp only [zq1, zq2, zq3, zq4, zq5, zq6, zq7, zq8] at g181
                refine WL.skip rfl rfl ?_
                refine WL.skip rfl rfl ?_
                refine WL.skip rfl rfl ?_
                refine WL.skip rfl rfl ?_
                refine WL.skip rfl rfl ?_
                refine WL.skip rfl rfl ?_
                refine WL.skip rfl rfl ?_
                refine WL.skip rfl rfl ?_
                refine WL.skip rfl rfl ?_
                refine WL.skip rfl rfl ?_
                refine WL.yd (Yd.pickF rfl rfl) rfl ?_
                refine WL.yd (Yd.move rfl) rfl ?_
                refine WL.skip rfl rfl ?_
                refine WL.skip rfl rfl ?_
                refine WL.skip rfl rfl ?_
                refine WL.yd (Yd.pickF rfl rfl) rfl ?_
                refine WL.nil ?_
                refine WP.thenC ?_
                refine WC.condF rfl ?_
                refine WC.skip ?_
                refine WP.blkNormal ?_
                refine WP.thenC ?_
                refine WC.ofFr [(0, _), (1, _), (4, _), (5, _), (8, _), (11, _), (12, _), (13, _), (14, _), (15, _), (81, _), (82, _), (83, _), (129, _), (130, _), (131, _)] ⟨rfl, rfl, rfl, rfl, rfl, rfl, rfl, rfl, rfl, rfl, rfl, rfl, rfl, rfl, rfl, rfl, trivial⟩ ?_
                refine WC.region ?_
                refine WL.yd (Yd.addN rfl rfl (by (try dsimp only); omega)) rfl ?_
                refine WL.yd (Yd.move rfl) rfl ?_
                refine WL.nil ?_
                exact WP.againF (k + 1) (by omega) (by omega) ⟨rfl, rfl, rfl, rfl, rfl, rfl, rfl, rfl, rfl, rfl, rfl, rfl, rfl, rfl, rfl, rfl, trivial⟩ (fun _ h => h) (fun h => h)
        · try simp only [zq1, zq2, zq3, zq4, zq5, zq6, zq7, zq8] at c132
          refine WC.exit ?_
          refine WP.thenExit ?_
          refine WP.thenExit ?_
          refine WP.blkHit ?_
          refine WP.blkNormal ?_
          refine WP.thenC ?_
          refine WC.ofFr [(0, _), (1, _), (4, _), (5, _), (8, _), (11, _), (81, _), (82, _), (83, _)] ⟨rfl, rfl, rfl, rfl, rfl, rfl, rfl, rfl, rfl, trivial⟩ ?_
          refine WC.region ?_
          refine WL.yd (Yd.addN rfl rfl (by (try dsimp only); omega)) rfl ?_
          refine WL.yd (Yd.move rfl) rfl ?_
          refine WL.nil ?_
          exact WP.againF (i + 1) (by omega) (by omega) ⟨rfl, rfl, rfl, rfl, rfl, by first | rfl | (rw [hsi]; rfl), rfl, rfl, rfl, trivial⟩ (fun _ h => h) (fun h => h)
    · try simp only [zq1, zq2, zq3, zq4, zq5, zq6, zq7, zq8] at c84
      refine WC.exit ?_
      refine WP.thenExit ?_
      refine WP.thenExit ?_
      refine WP.blkHit ?_
      refine WP.thenC ?_
      refine WC.seq ?_
      obtain rfl : i = qs.length := by omega
      have hLz : (splitL M qs).take qs.length = (splitL M qs) := List.take_of_length_le (by rw [split_len]; exact Nat.le_refl _)
      rw [hLz]
      refine WC.ofFr [(0, _), (4, _), (8, _), (11, _)] ⟨rfl, rfl, rfl, rfl, trivial⟩ ?_
      refine WC.region ?_
      refine WL.yd (Yd.move rfl) rfl ?_
      refine WL.yd (Yd.move rfl) rfl ?_
      refine WL.yd (Yd.eql rfl rfl) rfl ?_
      refine WL.know 202 (.bool true) rfl (congrArg Value.bool (decide_eq_true (by (try dsimp only); have := split_sum (M := M) (qs := qs) hA; omega))) ?_
      refine WL.yd (Yd.move rfl) rfl ?_
      refine WL.skip rfl rfl ?_
      refine WL.skip rfl rfl ?_
      refine WL.skip rfl rfl ?_
      refine WL.skipU rfl rfl ?_
      refine WL.skipU rfl rfl ?_
      refine WL.skip rfl rfl ?_
      refine WL.yd (Yd.pickT rfl rfl) rfl ?_
      refine WL.yd (Yd.move rfl) rfl ?_
      refine WL.sog rfl (SO.callP Try.call8 rfl (fun w hI => alive_g _ _ hI.imm)) rfl ?_
      rintro _ _ _ ⟨rfl, rfl, rfl⟩
      refine WL.know 212 (.bool true) rfl rfl ?_
      refine WL.yd (Yd.pickT rfl rfl) rfl ?_
      refine WL.yd (Yd.assign rfl) rfl ?_
      refine WL.nil ?_
      refine WP.thenC ?_
      refine WC.ret ?_
      refine WP.ret1 rfl rfl Try.results7 (RV.tmp rfl) (fun w hI => ⟨rfl, hI.keep⟩)

theorem splitlL_g (m : Int) (ps : List Int) (ap : Option Addr) (np cp : Nat) (D : Imm) (w : World) (hS : SlL D 1 (ps.map intC) ap np) (hH : Holds D w) : Gives Try.prog 7 [it m, .slice ap np cp] w (.bool true) := by
  rcases Nat.lt_or_ge 60 np with h | h
  · exact splitl_a m ps ap np cp D w hS hH h
  · cases hv : splitB m ps with
    | false => exact splitl_e m ps ap np cp D w hS hH h hv
    | true =>
      obtain ⟨M, qs, rfl, rfl, hM, h6, hq⟩ := split_nat hv
      obtain rfl : np = qs.length := by rw [hS.len']; simp
      rcases Nat.eq_zero_or_pos qs.sum with hA | hA
      · exact splitl_z M hM qs h6 hq ap cp D w (nat_sl hS) hH hA
      · exact splitl_p M hM qs h6 hq ap cp D w (nat_sl hS) hH hA

end Go.Proofs.Ytpnbkdlejfmbeaa
