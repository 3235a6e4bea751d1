import Derived.Test.YtaebnllfmkcpgaaGreatDoorYFG
import Derived.Test.YtaebnllfmkcpgaaGreatDoorYFM
set_option linter.unusedSimpArgs false
set_option linter.unusedVariables false
set_option linter.all false
set_option maxRecDepth 100000
set_option maxHeartbeats 1000000
namespace Go.Proofs.YtaebnllfmkcpgaaGreatDoor
open Go.W Go.Bk

theorem mend_long {b : Bs} (h : 250 < b.length) : mendP b = ([], 3) := by
  have h0 : openE b = 3 := if_pos h
  rw [mendP_no (by omega), h0]
theorem mend_bad {b : Bs} (h : b.length ≤ 250) (h2 : fineB b = false) : mendP b = ([], 8) := by
  have hn : openE b ≠ 0 := fun e => by rw [(fine_iff h).2 e] at h2; cases h2
  have h0 : openE b = 8 := by
    rcases openE_val b with h3 | ⟨_, h3⟩ | ⟨h3, _⟩
    · exact absurd h3 hn
    · omega
    · exact h3
  rw [mendP_no hn, h0]
theorem gt_setN {l : Bs} {i k : Nat} {x : UInt8} (h : k ≠ i) : gt (l.set i x) k = gt l k := by
  simp only [gt, List.getD]
  rw [List.getElem?_set_ne (fun e => h e.symm)]
theorem gt_setE {l : Bs} {i : Nat} {x : UInt8} (h : i < l.length) : gt (l.set i x) i = x := by
  simp [gt, List.getD, h]
def cntK (i k : Nat) : Nat := if i < k then 1 else 0
theorem cntK_le (i k : Nat) : cntK i k ≤ 1 := by unfold cntK; split <;> omega
theorem cntK_zero (i : Nat) : cntK i 0 = 0 := if_neg (Nat.not_lt_zero _)
theorem cntK_end {i n : Nat} (h : i < n) : cntK i n = 1 := if_pos h
theorem cnt_yes {l : Bs} {i k : Nat} {x : UInt8} (h : ((gt (l.set i x) k).toNat : Int) ≠ ((gt l k).toNat : Int)) : cntK i (k + 1) = cntK i k + 1 := by
  have e : k = i := Decidable.byContradiction fun e => h (by rw [gt_setN e])
  subst e; unfold cntK; rw [if_pos (by omega), if_neg (by omega)]
theorem cnt_no {l : Bs} {i k : Nat} {x : UInt8} (hk : k < l.length) (hne : x ≠ l.getD i 0) (h : ((gt (l.set i x) k).toNat : Int) = ((gt l k).toNat : Int)) : cntK i (k + 1) = cntK i k := by
  have e : k ≠ i := fun e => by
    subst e
    rw [gt_setE hk] at h
    exact hne (byte_eq (by exact_mod_cast h))
  unfold cntK
  by_cases h2 : i < k
  · rw [if_pos (by omega), if_pos h2]
  · rw [if_neg (by omega), if_neg h2]

set_option maxRecDepth 100000 in
set_option maxHeartbeats 8000000 in
theorem bookMend_g (l : Bs) (a : Option Addr) (n c : Nat) (D : Imm) (hL : LibD D) (hS : SlL D 1 (l.map btC) a n) (hc : n ≤ c) (wh : Nat) (hwh : wh < 65536) (by_ : UInt8) (w : World) (hH : Holds D w) : Gives Tryz.prog 7 [.slice a n c, .int .u16 (wh : Int), bt by_] w (.bool true) := by
  unfold Gives
  obtain rfl : n = l.length := hS.len'
  refine enter Tryz.func7 rfl 158 Tryz.ntmps7 (zqb rfl) (Inv.start hH) ?_
  refine WC.seq (WC.ofFr [(0, _), (1, _), (2, _)] ⟨rfl, rfl, rfl, trivial⟩ (WC.region ?_))
  refine zya rfl rfl ?_
  refine WL.nil (WP.thenC (WC.seq (WC.seq (WC.ofFr [(6, _), (0, _), (1, _), (2, _)] ⟨rfl, rfl, rfl, rfl, trivial⟩ (WC.region ?_)))))
  refine zym rfl rfl ?_
  refine WL.yd (Yd.lenS rfl Tryz.underlying43 rfl) rfl ?_
  refine WL.yd (Yd.gtr rfl rfl) rfl ?_
  refine WL.nil (WP.thenC ?_)
  refine WC.cond rfl (fun c21 => ?_) (fun c21 => ?_)
  · try simp only [zq1, zq2, zq3, zq4, zq5, zq6, zq7, zq8] at c21
    refine WC.seq (WC.ofFr [(6, _), (0, _), (1, _), (2, _)] ⟨rfl, rfl, rfl, rfl, trivial⟩ (WC.region ?_))
    refine WL.so (SO.callP Tryz.call13 rfl (fun w hI => awake_g D hL _ hI.imm)) rfl ?_
    rintro _ _ _ ⟨rfl, rfl, rfl⟩
    refine zya rfl rfl ?_
    refine WL.nil (WP.thenC (WC.ret (WP.thenRet ?_)))
    refine WP.ret1 rfl rfl Tryz.results7 (RV.tmp rfl) (fun w hI => ⟨rfl, hI.keep⟩)
  · try simp only [zq1, zq2, zq3, zq4, zq5, zq6, zq7, zq8] at c21
    have hl1 : l.length ≤ 300 := by omega
    refine WC.skip (WP.thenC (WC.seq (WC.ofFr [(6, _), (0, _), (1, _), (2, _)] ⟨rfl, rfl, rfl, rfl, trivial⟩ (WC.region ?_))))
    refine zym rfl rfl ?_
    refine WL.so (SO.makes (Enters.func Tryz.call25 rfl) (fun w1 hI => mendF_g l a l.length c D hS (by omega) hc w1 hI.imm)) rfl ?_
    rintro _ D1 _ ⟨hX1, ⟨a1, n1, c1, rfl, hS1, hc1⟩, rfl⟩
    refine zym rfl rfl ?_
    refine WL.yd (Yd.extract rfl rfl) rfl ?_
    refine WL.yd (Yd.extract rfl rfl) rfl ?_
    refine zya rfl rfl ?_
    refine zya rfl rfl ?_
    refine WL.nil (WP.thenC (WC.seq (WC.ofFr [(8, _), (7, _), (6, _), (0, _), (1, _), (2, _)] ⟨rfl, rfl, rfl, rfl, rfl, rfl, trivial⟩ (WC.region ?_))))
    refine zym rfl rfl ?_
    refine WL.yd (Yd.lenS rfl Tryz.underlying43 rfl) rfl ?_
    refine WL.yd (Yd.geq rfl rfl) rfl ?_
    refine WL.know 30 (.bool (fineK l 0)) rfl (congrArg Value.bool (by unfold fineK; rw [List.take_zero, List.all_nil, Bool.and_true]; exact decide_eq_decide.2 ⟨fun h => by omega, fun h => by omega⟩)) ?_
    refine zya rfl rfl ?_
    refine WL.nil (WP.thenC (WC.seq (WC.seq (WC.ofFr [(9, _), (8, _), (7, _), (6, _), (0, _), (1, _), (2, _)] ⟨rfl, rfl, rfl, rfl, rfl, rfl, rfl, trivial⟩ (WC.region ?_)))))
    refine zym rfl rfl ?_
    refine WL.yd (Yd.lenS rfl Tryz.underlying43 rfl) rfl ?_
    refine zym rfl rfl ?_
    refine WL.nil (WP.thenC (WC.block ?_))
    refine WC.loopF (fun k : Nat => [(0, .slice a l.length c), (1, .int .u16 (wh : Int)), (2, bt by_), (7, .slice a1 n1 c1), (8, it (mendP l).2), (9, .bool (fineK l k)), (31, .slice a l.length c), (32, nt l.length), (33, nt k)]) (fun k => k ≤ l.length) (fun k => l.length - k) 0 (Nat.zero_le _) ⟨rfl, rfl, rfl, rfl, rfl, rfl, rfl, rfl, rfl, trivial⟩ ?_
    intro k hk
    refine WC.seq (WC.ofFr [(0, _), (1, _), (2, _), (7, _), (8, _), (9, _), (31, _), (32, _), (33, _)] ⟨rfl, rfl, rfl, rfl, rfl, rfl, rfl, rfl, rfl, trivial⟩ (WC.region ?_))
    refine WL.yd (Yd.lss rfl rfl) rfl ?_
    refine WL.nil (WP.thenC (WC.seq ?_))
    refine WC.cond rfl (fun c34 => ?_) (fun c34 => ?_)
    · try simp only [zq1, zq2, zq3, zq4, zq5, zq6, zq7, zq8] at c34
      have hkl : k < l.length := by omega
      refine WC.skip (WP.thenC (WC.seq (WC.block (WC.seq (WC.ofFr [(0, _), (1, _), (2, _), (7, _), (8, _), (9, _), (31, _), (32, _), (33, _)] ⟨rfl, rfl, rfl, rfl, rfl, rfl, rfl, rfl, rfl, trivial⟩ (WC.region ?_))))))
      refine WL.yd (Yd.indexS Tryz.underlying43 Tryz.sizeOf5 rfl rfl (by omega) (by omega) (by first | exact (hS.ext hX1).addr k (by omega) | exact (hS1'.ext hX2).addr k (by omega) | exact (hS.ext (hX1.trans hX2 (Nat.le_refl _))).addr k (by omega))) rfl ?_
      refine WL.yd (Yd.load1 Tryz.isAgg5 rfl (((hS.ext hX1).at k (by omega)).rd 0 rfl)) rfl ?_
      refine zya rfl rfl ?_
      refine WL.nil (WP.thenC (WC.ofFr [(11, _), (0, _), (1, _), (2, _), (7, _), (8, _), (9, _), (31, _), (32, _), (33, _)] ⟨rfl, rfl, rfl, rfl, rfl, rfl, rfl, rfl, rfl, rfl, trivial⟩ (WC.region ?_)))
      refine zym rfl rfl ?_
      refine zym rfl rfl ?_
      refine WL.part 38 rfl (fun g38 => ?_) (fun g38 => ?_)
      · try simp only [zq1, zq2, zq3, zq4, zq5, zq6, zq7, zq8] at g38
        refine WL.ydg rfl (Yd.move rfl) rfl ?_
        refine WL.ydg rfl (Yd.lss rfl rfl) rfl ?_
        refine WL.yd (Yd.pickT rfl rfl) rfl ?_
        refine zya rfl rfl ?_
        refine WL.nil (WP.blkNormal (WP.thenC (WC.ofFr [(9, _), (0, _), (1, _), (2, _), (7, _), (8, _), (31, _), (32, _), (33, _)] ⟨rfl, rfl, rfl, rfl, rfl, rfl, rfl, rfl, rfl, trivial⟩ (WC.region ?_))))
        refine WL.yd (Yd.add rfl rfl (wr64 ⟨by omega, by omega⟩)) rfl ?_
        refine zym rfl rfl ?_
        refine WL.nil ?_
        exact WP.againF (k + 1) hkl (by omega) ⟨rfl, rfl, rfl, rfl, rfl, (by show some (Value.bool _) = some (Value.bool _); rw [fineK_succ hkl, g38, Bool.true_and]; first | rfl | (congr 2; exact decide_eq_decide.2 ⟨fun h => by omega, fun h => by omega⟩)), rfl, rfl, rfl, trivial⟩ (fun _ h => nomatch h) (fun _ => List.nodup_nil)
      · try simp only [zq1, zq2, zq3, zq4, zq5, zq6, zq7, zq8] at g38
        refine WL.skip rfl rfl ?_
        refine WL.skip rfl rfl ?_
        refine WL.yd (Yd.pickF rfl rfl) rfl ?_
        refine zya rfl rfl ?_
        refine WL.nil (WP.blkNormal (WP.thenC (WC.ofFr [(9, _), (0, _), (1, _), (2, _), (7, _), (8, _), (31, _), (32, _), (33, _)] ⟨rfl, rfl, rfl, rfl, rfl, rfl, rfl, rfl, rfl, trivial⟩ (WC.region ?_))))
        refine WL.yd (Yd.add rfl rfl (wr64 ⟨by omega, by omega⟩)) rfl ?_
        refine zym rfl rfl ?_
        refine WL.nil ?_
        exact WP.againF (k + 1) hkl (by omega) ⟨rfl, rfl, rfl, rfl, rfl, (by show some (Value.bool _) = some (Value.bool _); rw [fineK_succ hkl, g38]; rfl), rfl, rfl, rfl, trivial⟩ (fun _ h => nomatch h) (fun _ => List.nodup_nil)
    · try simp only [zq1, zq2, zq3, zq4, zq5, zq6, zq7, zq8] at c34
      obtain rfl : k = l.length := by omega
      refine WC.exit ?_
      refine WP.thenExit ?_
      refine WP.thenExit ?_
      refine WP.blkHit ?_
      refine WP.thenC (WC.seq (WC.block (WC.seq (WC.ofFr [(0, _), (1, _), (2, _), (7, _), (8, _), (9, _)] ⟨rfl, rfl, rfl, rfl, rfl, rfl, trivial⟩ (WC.region ?_)))))
      refine zym rfl rfl ?_
      refine WL.yd (Yd.lenS rfl Tryz.underlying43 rfl) rfl ?_
      refine WL.yd (Yd.gtr rfl rfl) rfl ?_
      refine zya rfl rfl ?_
      refine WL.nil (WP.thenC ?_)
      refine WC.cond rfl (fun c43 => ?_) (fun c43 => ?_)
      · try simp only [zq1, zq2, zq3, zq4, zq5, zq6, zq7, zq8] at c43
        refine WC.seq (WC.ofFr [(0, _), (1, _), (2, _), (7, _), (8, _)] ⟨rfl, rfl, rfl, rfl, rfl, trivial⟩ (WC.region ?_))
        refine zym rfl rfl ?_
        refine WL.yd (Yd.eql rfl rfl) rfl ?_
        refine WL.know 48 (.bool true) rfl (congrArg Value.bool (decide_eq_true (by rw [mend_long (by omega)]))) ?_
        refine zym rfl rfl ?_
        refine WL.ydg rfl (Yd.move rfl) rfl ?_
        refine WL.ydg rfl (Yd.lenS rfl Tryz.underlying43 rfl) rfl ?_
        refine WL.ydg rfl (Yd.eql rfl rfl) rfl ?_
        refine WL.know 52 (.bool true) rfl (congrArg Value.bool (decide_eq_true (by have h8 := hS1.len'; rw [mend_long (by omega)] at h8; simp at h8; omega))) ?_
        refine WL.yd (Yd.pickT rfl rfl) rfl ?_
        refine zym rfl rfl ?_
        refine WL.sog rfl (SO.callP Tryz.call13 rfl (fun w hI => awake_g D1 (hL.ext hX1) _ hI.imm)) rfl ?_
        rintro _ _ _ ⟨rfl, rfl, rfl⟩
        refine WL.yd (Yd.pickT rfl rfl) rfl ?_
        refine zya rfl rfl ?_
        refine WL.nil (WP.thenC (WC.ret (WP.blkRet (WP.thenRet ?_))))
        refine WP.ret1 rfl rfl Tryz.results7 (RV.tmp rfl) (fun w hI => ⟨rfl, hI.keep⟩)
      · try simp only [zq1, zq2, zq3, zq4, zq5, zq6, zq7, zq8] at c43
        have hl2 : l.length ≤ 250 := by omega
        refine WC.seq (WC.ofFr [(0, _), (1, _), (2, _), (7, _), (8, _), (9, _)] ⟨rfl, rfl, rfl, rfl, rfl, rfl, trivial⟩ (WC.region ?_))
        refine zym rfl rfl ?_
        refine WL.yd (Yd.not rfl) rfl ?_
        refine zya rfl rfl ?_
        refine WL.nil (WP.thenC ?_)
        refine WC.cond rfl (fun c57 => ?_) (fun c57 => ?_)
        · try simp only [zq1, zq2, zq3, zq4, zq5, zq6, zq7, zq8] at c57
          refine WC.seq (WC.ofFr [(0, _), (1, _), (2, _), (7, _), (8, _)] ⟨rfl, rfl, rfl, rfl, rfl, trivial⟩ (WC.region ?_))
          refine zym rfl rfl ?_
          refine WL.yd (Yd.eql rfl rfl) rfl ?_
          refine WL.know 61 (.bool true) rfl (congrArg Value.bool (decide_eq_true (by rw [mend_bad hl2 ((fineK_all l).symm.trans c57)]))) ?_
          refine zym rfl rfl ?_
          refine WL.ydg rfl (Yd.move rfl) rfl ?_
          refine WL.ydg rfl (Yd.lenS rfl Tryz.underlying43 rfl) rfl ?_
          refine WL.ydg rfl (Yd.eql rfl rfl) rfl ?_
          refine WL.know 65 (.bool true) rfl (congrArg Value.bool (decide_eq_true (by have h8 := hS1.len'; rw [mend_bad hl2 ((fineK_all l).symm.trans c57)] at h8; simp at h8; omega))) ?_
          refine WL.yd (Yd.pickT rfl rfl) rfl ?_
          refine zym rfl rfl ?_
          refine WL.sog rfl (SO.callP Tryz.call13 rfl (fun w hI => awake_g D1 (hL.ext hX1) _ hI.imm)) rfl ?_
          rintro _ _ _ ⟨rfl, rfl, rfl⟩
          refine WL.yd (Yd.pickT rfl rfl) rfl ?_
          refine zya rfl rfl ?_
          refine WL.nil (WP.thenC (WC.ret (WP.blkRet (WP.thenRet ?_))))
          refine WP.ret1 rfl rfl Tryz.results7 (RV.tmp rfl) (fun w hI => ⟨rfl, hI.keep⟩)
        · try simp only [zq1, zq2, zq3, zq4, zq5, zq6, zq7, zq8] at c57
          have hf : FormOk l := openE_iff.1 ((fine_iff hl2).1 ((fineK_all l).symm.trans c57))
          have hmt := mend4 hf
          have hmo := (mendE hf).1
          have hn0 : (mendP l).2 ≠ 0 → n1 = 0 := fun h => by have h8 := hS1.len'; rw [(mendE hf).2 h] at h8; exact h8
          refine WC.skip (WP.blkNormal (WP.thenC (WC.seq (WC.ofFr [(0, _), (1, _), (2, _), (7, _), (8, _)] ⟨rfl, rfl, rfl, rfl, rfl, trivial⟩ (WC.region ?_)))))
          refine zym rfl rfl ?_
          refine WL.so (SO.callP Tryz.call33 rfl (fun w hI => right_g l a l.length c D1 (hS.ext hX1) (by omega) hc hf.lo _ hI.imm)) rfl ?_
          rintro _ _ _ ⟨rfl, rfl, rfl⟩
          refine zya rfl rfl ?_
          refine WL.nil (WP.thenC (WC.seq (WC.seq (WC.ofFr [(12, _), (0, _), (1, _), (2, _), (7, _), (8, _)] ⟨rfl, rfl, rfl, rfl, rfl, rfl, trivial⟩ (WC.region ?_)))))
          refine WL.ofFr [(12, _), (0, _), (1, _), (2, _), (7, _), (8, _)] ⟨rfl, rfl, rfl, rfl, rfl, rfl, trivial⟩ ?_
          refine WL.cutD 21 0 92 (.bool false) ?_ ?_
          · skip
            refine zym rfl rfl ?_
            refine WL.yd (Yd.eql rfl rfl) rfl ?_
            refine zym rfl rfl ?_
            refine WL.yd (Yd.neB Tryz.underlying4 rfl rfl) rfl ?_
            refine WL.know 75 (.bool false) rfl (congrArg Value.bool (neSelf (decide_eq_decide.2 hmt.symm))) ?_
            refine zym rfl rfl ?_
            refine WL.ydg rfl (Yd.move rfl) rfl ?_
            refine WL.ydg rfl (Yd.neq rfl rfl) rfl ?_
            refine WL.ydg rfl (Yd.move rfl) rfl ?_
            refine WL.part 79 rfl (fun g79 => ?_) (fun g79 => ?_)
            · try simp only [zq1, zq2, zq3, zq4, zq5, zq6, zq7, zq8] at g79
              refine WL.ydg rfl (Yd.move rfl) rfl ?_
              refine WL.ydg rfl (Yd.neq rfl rfl) rfl ?_
              refine WL.ydg rfl (Yd.move rfl) rfl ?_
              refine WL.part 82 rfl (fun g82 => ?_) (fun g82 => ?_)
              · try simp only [zq1, zq2, zq3, zq4, zq5, zq6, zq7, zq8] at g82
                refine WL.ydg rfl (Yd.move rfl) rfl ?_
                refine WL.ydg rfl (Yd.neq rfl rfl) rfl ?_
                refine WL.know 84 (.bool false) rfl (congrArg Value.bool (decide_eq_false (fun h9 => h9 (by omega)))) ?_
                refine WL.ydg rfl (Yd.pickT rfl rfl) rfl ?_
                refine WL.ydg rfl (Yd.move rfl) rfl ?_
                refine WL.ydg rfl (Yd.move rfl) rfl ?_
                refine WL.ydg rfl (Yd.lenS rfl Tryz.underlying43 rfl) rfl ?_
                refine WL.ydg rfl (Yd.neq rfl rfl) rfl ?_
                refine WL.know 89 (.bool false) rfl (congrArg Value.bool (decide_eq_false (fun h9 => h9 (by have := hn0 (by omega); omega)))) ?_
                refine WL.ydg rfl (Yd.pickF rfl rfl) rfl ?_
                refine WL.ydg rfl (Yd.pickT rfl rfl) rfl ?_
                refine WL.yd (Yd.pickF rfl rfl) rfl ?_
                refine WL.nil ?_
                exact WP.cutEnd ⟨rfl, rfl, rfl, rfl, rfl, rfl, rfl, trivial⟩
              · try simp only [zq1, zq2, zq3, zq4, zq5, zq6, zq7, zq8] at g82
                refine WL.skip rfl rfl ?_
                refine WL.skip rfl rfl ?_
                refine WL.ydg rfl (Yd.pickF rfl rfl) rfl ?_
                refine WL.ydg rfl (Yd.move rfl) rfl ?_
                refine WL.ydg rfl (Yd.move rfl) rfl ?_
                refine WL.ydg rfl (Yd.lenS rfl Tryz.underlying43 rfl) rfl ?_
                refine WL.ydg rfl (Yd.neq rfl rfl) rfl ?_
                refine WL.know 89 (.bool false) rfl (congrArg Value.bool (decide_eq_false (fun h9 => h9 (by have := hn0 (by omega); omega)))) ?_
                refine WL.ydg rfl (Yd.pickF rfl rfl) rfl ?_
                refine WL.ydg rfl (Yd.pickT rfl rfl) rfl ?_
                refine WL.yd (Yd.pickF rfl rfl) rfl ?_
                refine WL.nil ?_
                exact WP.cutEnd ⟨rfl, rfl, rfl, rfl, rfl, rfl, rfl, trivial⟩
            · try simp only [zq1, zq2, zq3, zq4, zq5, zq6, zq7, zq8] at g79
              refine WL.skip rfl rfl ?_
              refine WL.skip rfl rfl ?_
              refine WL.skip rfl rfl ?_
              refine WL.skipU rfl rfl ?_
              refine WL.skipU rfl rfl ?_
              refine WL.skip rfl rfl ?_
              refine WL.skip rfl rfl ?_
              refine WL.skipU rfl rfl ?_
              refine WL.skipU rfl rfl ?_
              refine WL.skipU rfl rfl ?_
              refine WL.skip rfl rfl ?_
              refine WL.ydg rfl (Yd.pickF rfl rfl) rfl ?_
              refine WL.yd (Yd.pickF rfl rfl) rfl ?_
              refine WL.nil ?_
              exact WP.cutEnd ⟨rfl, rfl, rfl, rfl, rfl, rfl, rfl, trivial⟩
          · skip
            refine WL.nil (WP.thenC ?_)
            refine WC.condF rfl ?_
            refine WC.skip (WP.thenC (WC.seq (WC.ofFr [(12, _), (0, _), (1, _), (2, _), (7, _), (8, _)] ⟨rfl, rfl, rfl, rfl, rfl, rfl, trivial⟩ (WC.region ?_))))
            have hlo := hf.lo
            have hb8 := by_.toNat_lt
            refine zym rfl rfl ?_
            refine zym rfl rfl ?_
            refine WL.yd (Yd.conv Tryz.underlying56 Tryz.underlying3 rfl (wr64 ⟨by omega, by omega⟩)) rfl ?_
            refine zym rfl rfl ?_
            refine WL.yd (Yd.lenS rfl Tryz.underlying43 rfl) rfl ?_
            refine WL.yd (Yd.remN rfl rfl (by omega)) rfl ?_
            have hat : (wh % l.length) < l.length := Nat.mod_lt _ (by omega)
            refine zym rfl rfl ?_
            refine WL.yd (Yd.rem rfl rfl (by omega) (by omega)) rfl ?_
            refine WL.know 100 (bt (UInt8.ofNat (by_.toNat % 251))) rfl (by rw [btN (by omega)]; simp) ?_
            have hxl : (UInt8.ofNat (by_.toNat % 251)).toNat < 251 := by rw [ofNat_toNat (by omega)]; omega
            refine WL.so (SO.makes (Enters.func Tryz.call32 rfl) (fun w1 hI => put_g l a l.length c D1 (hS.ext hX1) (by omega) (wh % l.length) (UInt8.ofNat (by_.toNat % 251)) hat w1 hI.imm)) rfl ?_
            rintro _ D2 _ ⟨hX2, ⟨a2, n2, c2, rfl, hS2, hc2⟩, rfl⟩
            refine zya rfl rfl ?_
            refine WL.nil (WP.thenC (WC.seq (WC.seq (WC.ofFr [(13, _), (12, _), (0, _), (7, _), (8, _)] ⟨rfl, rfl, rfl, rfl, rfl, trivial⟩ (WC.region ?_)))))
            refine zym rfl rfl ?_
            refine WL.yd (Yd.neq rfl rfl) rfl ?_
            refine WL.nil (WP.thenC ?_)
            refine WC.cond rfl (fun c103 => ?_) (fun c103 => ?_)
            · try simp only [zq1, zq2, zq3, zq4, zq5, zq6, zq7, zq8] at c103
              refine WC.seq (WC.ofFr [(13, _), (12, _), (0, _), (7, _)] ⟨rfl, rfl, rfl, rfl, trivial⟩ (WC.region ?_))
              refine zym rfl rfl ?_
              refine zym rfl rfl ?_
              refine WL.part 105 rfl (fun g105 => ?_) (fun g105 => ?_)
              · try simp only [zq1, zq2, zq3, zq4, zq5, zq6, zq7, zq8] at g105
                refine WL.skip rfl rfl ?_
                refine WL.skip rfl rfl ?_
                refine WL.skip rfl rfl ?_
                refine WL.yd (Yd.pickT rfl rfl) rfl ?_
                refine zym rfl rfl ?_
                refine WL.sog rfl (SO.callP Tryz.call13 rfl (fun w hI => awake_g D2 (hL.ext (hX1.trans hX2 (Nat.le_refl _))) _ hI.imm)) rfl ?_
                rintro _ _ _ ⟨rfl, rfl, rfl⟩
                refine WL.yd (Yd.pickT rfl rfl) rfl ?_
                refine zya rfl rfl ?_
                refine WL.nil (WP.thenC (WC.ret (WP.thenRet ?_)))
                refine WP.ret1 rfl rfl Tryz.results7 (RV.tmp rfl) (fun w hI => ⟨rfl, hI.keep⟩)
              · try simp only [zq1, zq2, zq3, zq4, zq5, zq6, zq7, zq8] at g105
                refine WL.ydg rfl (Yd.move rfl) rfl ?_
                refine WL.sog rfl (SO.callP Tryz.call33 rfl (fun w hI => right_g (l.set (wh % l.length) (UInt8.ofNat (by_.toNat % 251))) a2 n2 c2 D2 hS2 (by have h8 := hS2.len'; rw [List.length_set] at h8; omega) hc2 (by rw [List.length_set]; exact hf.lo) _ hI.imm)) rfl ?_
                rintro _ _ _ ⟨rfl, rfl, rfl⟩
                refine WL.know 107 (.bool false) rfl (congrArg Value.bool (decide_eq_false (fun h9 => by have h8 := mendP_of hf g105 hat hxl h9; rw [h8] at c103; simp at c103))) ?_
                refine WL.ydg rfl (Yd.not rfl) rfl ?_
                refine WL.yd (Yd.pickF rfl rfl) rfl ?_
                refine zym rfl rfl ?_
                refine WL.sog rfl (SO.callP Tryz.call13 rfl (fun w hI => awake_g D2 (hL.ext (hX1.trans hX2 (Nat.le_refl _))) _ hI.imm)) rfl ?_
                rintro _ _ _ ⟨rfl, rfl, rfl⟩
                refine WL.yd (Yd.pickT rfl rfl) rfl ?_
                refine zya rfl rfl ?_
                refine WL.nil (WP.thenC (WC.ret (WP.thenRet ?_)))
                refine WP.ret1 rfl rfl Tryz.results7 (RV.tmp rfl) (fun w hI => ⟨rfl, hI.keep⟩)
            · try simp only [zq1, zq2, zq3, zq4, zq5, zq6, zq7, zq8] at c103
              obtain ⟨i0, x0, hi0, hx0, hne, hr0, hm0⟩ := mendZ hf (by omega)
              have hnr : ¬ Rt l := fun h => by have h8 := hmt.2 h; omega
              have hS1' : SlL D1 1 ((l.set i0 x0).map btC) a1 n1 := by rw [hm0] at hS1; exact hS1
              obtain rfl : n1 = l.length := by have h8 := hS1'.len'; rw [List.length_set] at h8; exact h8
              refine WC.skip (WP.thenC (WC.seq (WC.seq (WC.ofFr [(13, _), (0, _), (7, _)] ⟨rfl, rfl, rfl, trivial⟩ (WC.region ?_)))))
              refine zym rfl rfl ?_
              refine WL.yd (Yd.lenS rfl Tryz.underlying43 rfl) rfl ?_
              refine zym rfl rfl ?_
              refine WL.yd (Yd.lenS rfl Tryz.underlying43 rfl) rfl ?_
              refine WL.yd (Yd.neq rfl rfl) rfl ?_
              refine WL.know 117 (.bool false) rfl (congrArg Value.bool (decide_eq_false (fun h9 => h9 rfl))) ?_
              refine WL.nil (WP.thenC ?_)
              refine WC.condF rfl ?_
              refine WC.skip (WP.thenC (WC.seq (WC.ofFr [(13, _), (0, _), (7, _)] ⟨rfl, rfl, rfl, trivial⟩ (WC.region ?_))))
              refine zya rfl rfl ?_
              refine WL.nil (WP.thenC (WC.seq (WC.seq (WC.ofFr [(14, _), (13, _), (0, _), (7, _)] ⟨rfl, rfl, rfl, rfl, trivial⟩ (WC.region ?_)))))
              refine zym rfl rfl ?_
              refine WL.yd (Yd.lenS rfl Tryz.underlying43 rfl) rfl ?_
              refine zym rfl rfl ?_
              refine WL.nil (WP.thenC (WC.block ?_))
              refine WC.loopF (fun k : Nat => [(0, .slice a l.length c), (7, .slice a1 l.length c1), (13, .slice a2 n2 c2), (14, nt (cntK i0 k)), (118, .slice a1 l.length c1), (119, nt l.length), (120, nt k)]) (fun k => k ≤ l.length) (fun k => l.length - k) 0 (Nat.zero_le _) ⟨rfl, rfl, rfl, (by show some (it 0) = some (nt (cntK i0 0)); rw [cntK_zero]; rfl), rfl, rfl, rfl, trivial⟩ ?_
              intro k hk
              refine WC.seq (WC.ofFr [(0, _), (7, _), (13, _), (14, _), (118, _), (119, _), (120, _)] ⟨rfl, rfl, rfl, rfl, rfl, rfl, rfl, trivial⟩ (WC.region ?_))
              refine WL.yd (Yd.lss rfl rfl) rfl ?_
              refine WL.nil (WP.thenC (WC.seq ?_))
              refine WC.cond rfl (fun c121 => ?_) (fun c121 => ?_)
              · try simp only [zq1, zq2, zq3, zq4, zq5, zq6, zq7, zq8] at c121
                have hkl : k < l.length := by omega
                refine WC.skip (WP.thenC (WC.seq (WC.block (WC.seq (WC.ofFr [(0, _), (7, _), (13, _), (14, _), (118, _), (119, _), (120, _)] ⟨rfl, rfl, rfl, rfl, rfl, rfl, rfl, trivial⟩ (WC.region ?_))))))
                refine zym rfl rfl ?_
                refine WL.yd (Yd.indexS Tryz.underlying43 Tryz.sizeOf5 rfl rfl (by omega) (by omega) (by first | exact (hS.ext hX1).addr k (by omega) | exact (hS1'.ext hX2).addr k (by omega) | exact (hS.ext (hX1.trans hX2 (Nat.le_refl _))).addr k (by omega))) rfl ?_
                refine WL.yd (Yd.load1 Tryz.isAgg5 rfl ((((hS1'.ext hX2)).at k (by omega)).rd 0 rfl)) rfl ?_
                refine zya rfl rfl ?_
                refine zya rfl rfl ?_
                refine WL.nil (WP.thenC (WC.seq (WC.ofFr [(16, _), (15, _), (0, _), (7, _), (13, _), (14, _), (118, _), (119, _), (120, _)] ⟨rfl, rfl, rfl, rfl, rfl, rfl, rfl, rfl, rfl, trivial⟩ (WC.region ?_))))
                refine zym rfl rfl ?_
                refine zym rfl rfl ?_
                refine zym rfl rfl ?_
                refine WL.yd (Yd.indexS Tryz.underlying43 Tryz.sizeOf5 rfl rfl (by omega) (by omega) (by first | exact (hS.ext hX1).addr k (by omega) | exact (hS1'.ext hX2).addr k (by omega) | exact (hS.ext (hX1.trans hX2 (Nat.le_refl _))).addr k (by omega))) rfl ?_
                refine WL.yd (Yd.load1 Tryz.isAgg5 rfl (((hS.ext (hX1.trans hX2 (Nat.le_refl _))).at k (by omega)).rd 0 rfl)) rfl ?_
                refine WL.yd (Yd.neq rfl rfl) rfl ?_
                refine WL.nil (WP.thenC ?_)
                refine WC.cond rfl (fun c130 => ?_) (fun c130 => ?_)
                · try simp only [zq1, zq2, zq3, zq4, zq5, zq6, zq7, zq8] at c130
                  refine WC.ofFr [(0, _), (7, _), (13, _), (14, _), (118, _), (119, _), (120, _)] ⟨rfl, rfl, rfl, rfl, rfl, rfl, rfl, trivial⟩ (WC.region ?_)
                  refine zym rfl rfl ?_
                  have hcl := cntK_le i0 k
                  refine WL.yd (Yd.add rfl rfl (wr64 ⟨by omega, by omega⟩)) rfl ?_
                  refine zya rfl rfl ?_
                  refine WL.nil (WP.blkNormal (WP.thenC (WC.ofFr [(14, _), (0, _), (7, _), (13, _), (118, _), (119, _), (120, _)] ⟨rfl, rfl, rfl, rfl, rfl, rfl, rfl, trivial⟩ (WC.region ?_))))
                  refine WL.yd (Yd.add rfl rfl (wr64 ⟨by omega, by omega⟩)) rfl ?_
                  refine zym rfl rfl ?_
                  refine WL.nil ?_
                  exact WP.againF (k + 1) hkl (by omega) ⟨rfl, rfl, rfl, (by show some (it _) = some (nt _); rw [cnt_yes c130]; rfl), rfl, rfl, rfl, trivial⟩ (fun _ h => nomatch h) (fun _ => List.nodup_nil)
                · try simp only [zq1, zq2, zq3, zq4, zq5, zq6, zq7, zq8] at c130
                  refine WC.skip (WP.blkNormal (WP.thenC (WC.ofFr [(0, _), (7, _), (13, _), (14, _), (118, _), (119, _), (120, _)] ⟨rfl, rfl, rfl, rfl, rfl, rfl, rfl, trivial⟩ (WC.region ?_))))
                  refine WL.yd (Yd.add rfl rfl (wr64 ⟨by omega, by omega⟩)) rfl ?_
                  refine zym rfl rfl ?_
                  refine WL.nil ?_
                  exact WP.againF (k + 1) hkl (by omega) ⟨rfl, rfl, rfl, (by rw [cnt_no hkl hne (by omega)]; rfl), rfl, rfl, rfl, trivial⟩ (fun _ h => nomatch h) (fun _ => List.nodup_nil)
              · try simp only [zq1, zq2, zq3, zq4, zq5, zq6, zq7, zq8] at c121
                obtain rfl : k = l.length := by omega
                refine WC.exit ?_
                refine WP.thenExit ?_
                refine WP.thenExit ?_
                refine WP.blkHit ?_
                refine WP.thenC (WC.seq (WC.ofFr [(7, _), (13, _), (14, _)] ⟨rfl, rfl, rfl, trivial⟩ (WC.region ?_)))
                refine zym rfl rfl ?_
                refine WL.so (SO.makes (Enters.func Tryz.call25 rfl) (fun w1 hI => mendF_g (l.set i0 x0) a1 l.length c1 D2 (hS1'.ext hX2) (by omega) hc1 w1 hI.imm)) rfl ?_
                rintro _ D3 _ ⟨hX3, ⟨a3, n3, c3, rfl, hS3, hc3⟩, rfl⟩
                refine zym rfl rfl ?_
                refine WL.yd (Yd.extract rfl rfl) rfl ?_
                refine WL.yd (Yd.extract rfl rfl) rfl ?_
                refine zya rfl rfl ?_
                refine zya rfl rfl ?_
                refine WL.nil (WP.thenC (WC.seq (WC.ofFr [(18, _), (7, _), (13, _), (14, _)] ⟨rfl, rfl, rfl, rfl, trivial⟩ (WC.region ?_))))
                refine zym rfl rfl ?_
                refine WL.yd (Yd.eql rfl rfl) rfl ?_
                refine WL.know 140 (.bool true) rfl (congrArg Value.bool (decide_eq_true (by rw [cntK_end hi0]; rfl))) ?_
                refine zym rfl rfl ?_
                refine WL.ydg rfl (Yd.move rfl) rfl ?_
                refine WL.ydg rfl (Yd.eql rfl rfl) rfl ?_
                refine WL.know 143 (.bool true) rfl (congrArg Value.bool (decide_eq_true (by rw [mendP_right (hf.set i0 hx0) hr0]))) ?_
                refine WL.yd (Yd.pickT rfl rfl) rfl ?_
                refine zym rfl rfl ?_
                refine WL.ydg rfl (Yd.move rfl) rfl ?_
                refine WL.sog rfl (SO.callP Tryz.call33 rfl (fun w hI => right_g (l.set (wh % l.length) (UInt8.ofNat (by_.toNat % 251))) a2 n2 c2 D3 (hS2.ext hX3) (by have h8 := hS2.len'; rw [List.length_set] at h8; omega) hc2 (by rw [List.length_set]; exact hf.lo) _ hI.imm)) rfl ?_
                rintro _ _ _ ⟨rfl, rfl, rfl⟩
                refine WL.ydg rfl (Yd.not rfl) rfl ?_
                refine WL.ydg rfl (Yd.move rfl) rfl ?_
                refine WL.part 149 rfl (fun g149 => ?_) (fun g149 => ?_)
                · try simp only [zq1, zq2, zq3, zq4, zq5, zq6, zq7, zq8] at g149
                  refine WL.skip rfl rfl ?_
                  refine WL.skip rfl rfl ?_
                  refine WL.skip rfl rfl ?_
                  refine WL.ydg rfl (Yd.pickT rfl rfl) rfl ?_
                  refine WL.yd (Yd.pickT rfl rfl) rfl ?_
                  refine zym rfl rfl ?_
                  refine WL.sog rfl (SO.callP Tryz.call13 rfl (fun w hI => awake_g D3 (hL.ext ((hX1.trans hX2 (Nat.le_refl _)).trans hX3 (Nat.le_refl _))) _ hI.imm)) rfl ?_
                  rintro _ _ _ ⟨rfl, rfl, rfl⟩
                  refine WL.yd (Yd.pickT rfl rfl) rfl ?_
                  refine zya rfl rfl ?_
                  refine WL.nil (WP.thenC (WC.ret ?_))
                  refine WP.ret1 rfl rfl Tryz.results7 (RV.tmp rfl) (fun w hI => ⟨rfl, hI.keep⟩)
                · try simp only [zq1, zq2, zq3, zq4, zq5, zq6, zq7, zq8] at g149
                  refine WL.ydg rfl (Yd.move rfl) rfl ?_
                  refine WL.ydg rfl (Yd.move rfl) rfl ?_
                  refine WL.sog rfl (SO.callP Tryz.call22 rfl (fun w hI => bytes_g (l.set (wh % l.length) (UInt8.ofNat (by_.toNat % 251))) (l.set i0 x0) a2 a1 n2 l.length c2 c1 D3 (hS2.ext hX3) (hS1'.ext (hX2.trans hX3 (Nat.le_refl _))) _ hI.imm)) rfl ?_
                  rintro _ _ _ ⟨rfl, rfl, rfl⟩
                  refine WL.know 152 (.bool true) rfl (congrArg Value.bool (decide_eq_true (by have h8 := mendP_of hf hnr hat hxl g149; rw [hm0] at h8; exact (congrArg Prod.fst h8).symm))) ?_
                  refine WL.ydg rfl (Yd.pickF rfl rfl) rfl ?_
                  refine WL.yd (Yd.pickT rfl rfl) rfl ?_
                  refine zym rfl rfl ?_
                  refine WL.sog rfl (SO.callP Tryz.call13 rfl (fun w hI => awake_g D3 (hL.ext ((hX1.trans hX2 (Nat.le_refl _)).trans hX3 (Nat.le_refl _))) _ hI.imm)) rfl ?_
                  rintro _ _ _ ⟨rfl, rfl, rfl⟩
                  refine WL.yd (Yd.pickT rfl rfl) rfl ?_
                  refine zya rfl rfl ?_
                  refine WL.nil (WP.thenC (WC.ret ?_))
                  refine WP.ret1 rfl rfl Tryz.results7 (RV.tmp rfl) (fun w hI => ⟨rfl, hI.keep⟩)

end Go.Proofs.YtaebnllfmkcpgaaGreatDoor
