import Derived.Test.YtaebnllfmkcpgaaGreatDoorYFM
set_option linter.unusedSimpArgs false
set_option linter.unusedVariables false
set_option linter.all false
set_option maxRecDepth 100000
set_option maxHeartbeats 1000000
namespace Go.Proofs.YtaebnllfmkcpgaaGreatDoor
open Go.W Go.Bk

theorem numsR_dig {n : Nat} (hn : n ≤ 200) (out : List Nat) (r : Bs) : numsR 0 out (digL n ++ r) = numsR 0 (out ++ [n]) r := by
  unfold digL
  split
  · rw [List.singleton_append, numsR, ofNat_toNat (by omega), if_neg (by omega), show 125 * 0 + (n + 125) - 125 = n by omega]
  · show numsR 0 out (_ :: _ :: r) = _
    rw [numsR, ofNat_toNat (by omega), if_pos (by omega), numsR, ofNat_toNat (by omega), if_neg (by omega), show 125 * min 10000 (125 * 0 + n / 125) + (n % 125 + 125) - 125 = n by omega]
theorem numsR_all : ∀ (ns out : List Nat), (∀ n ∈ ns, n ≤ 200) → numsR 0 out (ns.flatMap digL) = out ++ ns
  | [], out, _ => by simp [numsR]
  | n :: ns, out, h => by
    rw [List.flatMap_cons, numsR_dig (h n (by simp)), numsR_all ns _ fun m hm => h m (by simp [hm])]
    simp
theorem horsR_back {h : Hors} (ok : HorsOk h) : horsR (numL h) = h := by
  have h1 := ok.pace
  obtain ⟨p, l⟩ := h
  show Hors.mk (if 1 < (numL ⟨p, l⟩).length then ((p.toNat : Nat) : Int) else -1) (movesN (l.flatMap moveN)) = _
  rw [movesN_back l ok.moves, if_pos (by rw [numL_len]; omega)]
  simp only at h1
  congr 1; omega
theorem horsR_nums {h : Hors} (hb : horsB h = true) : horsR (numsR 0 [] (contentL h)) = h := by
  have ok := horsB_iff.1 hb
  rw [← numL_content, numsR_all _ _ (numL_le ok), List.nil_append, horsR_back ok]
theorem readH_same (b : Bs) : readH b = readHR b := by
  rcases readH_cases b with ⟨h, e, h1, rfl⟩ | ⟨h0, e⟩ | ⟨h0, h1, e⟩ | ⟨h0, h1, e⟩
  · have ok := horsB_iff.1 h1
    have := readHR_ok (openE_iff.2 (book_form ok)) (b := bookL h) (decide_eq_true (book_right h)) (by rw [book_body, horsR_nums h1]; exact h1) (by rw [book_body, horsR_nums h1])
    rw [e, this, book_body, horsR_nums h1]
  · rw [e, readHR_open h0]
  · rw [e, readHR_clash h0 (decide_eq_false h1)]
  · rw [e, readHR_bad h0 (decide_eq_true h1) fun h2 h3 => ?_]
    rw [← h3, readH_put h2] at e
    have := congrArg Prod.snd e
    simp at this
theorem mend_spec {b : Bs} {r : Bs × Int} (h : MendSpec b r) : r = mendP b := by
  rcases h with ⟨h0, rfl⟩ | ⟨h0, h1, rfl⟩ | ⟨h0, h1, i, x, hi, hx, h2, rfl⟩ | ⟨h0, h1, h2, rfl⟩
  · rw [mendP_no h0]
  · rw [mendP_right (openE_iff.1 h0) (of_decide_eq_true h1)]
  · rw [mendP_of (openE_iff.1 h0) (of_decide_eq_false h1) hi (by rw [ofNat_toNat (by omega)]; exact hx) (of_decide_eq_true h2)]
  · rcases mendP_not (openE_iff.1 h0) (of_decide_eq_false h1) with ⟨i, x, hi, hx, _, h3, _⟩ | e
    · have := h2 i x.toNat hi hx
      rw [ofNat_of] at this
      exact absurd h3 (of_decide_eq_false this)
    · exact e.symm

set_option maxRecDepth 100000 in
set_option maxHeartbeats 4000000 in
theorem bookMends_g (l : Bs) (a : Option Addr) (n c : Nat) (D : Imm) (hL : LibD D) (hS : SlL D 1 (l.map btC) a n) (hc : n ≤ c) (w : World) (hH : Holds D w) : Gives Tryz.prog 4 [.slice a n c] w (.bool true) := by
  unfold Gives
  obtain rfl : n = l.length := hS.len'
  refine enter Tryz.func4 rfl 66 Tryz.ntmps4 (zqb rfl) (Inv.start hH) ?_
  refine WC.seq (WC.ofFr [(0, _)] ⟨rfl, trivial⟩ (WC.region ?_))
  refine zya rfl rfl ?_
  refine WL.nil (WP.thenC (WC.seq (WC.seq (WC.ofFr [(2, _), (0, _)] ⟨rfl, rfl, trivial⟩ (WC.region ?_)))))
  refine zym rfl rfl ?_
  refine WL.yd (Yd.lenS rfl Tryz.underlying43 rfl) rfl ?_
  refine WL.yd (Yd.gtr rfl rfl) rfl ?_
  refine zym rfl rfl ?_
  refine WL.part 14 rfl (fun g14 => ?_) (fun g14 => ?_)
  · try simp only [zq1, zq2, zq3, zq4, zq5, zq6, zq7, zq8] at g14
    refine WL.ydg rfl (Yd.move rfl) rfl ?_
    refine WL.ydg rfl (Yd.lenS rfl Tryz.underlying43 rfl) rfl ?_
    refine WL.ydg rfl (Yd.leq rfl rfl) rfl ?_
    refine WL.yd (Yd.pickT rfl rfl) rfl ?_
    refine zym rfl rfl ?_
    refine WL.part 19 rfl (fun g19 => ?_) (fun g19 => ?_)
    · try simp only [zq1, zq2, zq3, zq4, zq5, zq6, zq7, zq8] at g19
      refine WL.skip rfl rfl ?_
      refine WL.skip rfl rfl ?_
      refine WL.skip rfl rfl ?_
      refine WL.yd (Yd.pickT rfl rfl) rfl ?_
      refine WL.nil (WP.thenC ?_)
      refine WC.condT rfl ?_
      refine WC.seq (WC.ofFr [(2, _), (0, _)] ⟨rfl, rfl, trivial⟩ (WC.region ?_))
      refine WL.so (SO.callP Tryz.call13 rfl (fun w hI => awake_g D hL _ hI.imm)) rfl ?_
      rintro _ _ _ ⟨rfl, rfl, rfl⟩
      refine zya rfl rfl ?_
      refine WL.nil (WP.thenC (WC.ret (WP.thenRet ?_)))
      refine WP.ret1 rfl rfl Tryz.results4 (RV.tmp rfl) (fun w hI => ⟨rfl, hI.keep⟩)
    · try simp only [zq1, zq2, zq3, zq4, zq5, zq6, zq7, zq8] at g19
      refine WL.ydg rfl (Yd.move rfl) rfl ?_
      refine WL.ydg rfl (Yd.lenS rfl Tryz.underlying43 rfl) rfl ?_
      refine WL.ydg rfl (Yd.gtr rfl rfl) rfl ?_
      refine WL.yd (Yd.pickF rfl rfl) rfl ?_
      refine WL.nil (WP.thenC ?_)
      refine WC.cond rfl (fun c23 => ?_) (fun c23 => ?_)
      · try simp only [zq1, zq2, zq3, zq4, zq5, zq6, zq7, zq8] at c23
        refine WC.seq (WC.ofFr [(2, _), (0, _)] ⟨rfl, rfl, trivial⟩ (WC.region ?_))
        refine WL.so (SO.callP Tryz.call13 rfl (fun w hI => awake_g D hL _ hI.imm)) rfl ?_
        rintro _ _ _ ⟨rfl, rfl, rfl⟩
        refine zya rfl rfl ?_
        refine WL.nil (WP.thenC (WC.ret (WP.thenRet ?_)))
        refine WP.ret1 rfl rfl Tryz.results4 (RV.tmp rfl) (fun w hI => ⟨rfl, hI.keep⟩)
      · try simp only [zq1, zq2, zq3, zq4, zq5, zq6, zq7, zq8] at c23
        have hl9 : l.length ≤ 2000 := by omega
        refine WC.skip (WP.thenC (WC.seq (WC.ofFr [(2, _), (0, _)] ⟨rfl, rfl, trivial⟩ (WC.region ?_))))
        refine zym rfl rfl ?_
        refine WL.so (SO.makes (Enters.func Tryz.call23 rfl) (fun w1 hI => ReadHorses_g l a l.length c D hS (by omega) hc w1 hI.imm)) rfl ?_
        rintro _ D1 _ ⟨hX1, ⟨m1, rfl, hR1⟩, rfl⟩
        refine zym rfl rfl ?_
        refine WL.yd (Yd.extract rfl rfl) rfl ?_
        refine WL.yd (Yd.extract rfl rfl) rfl ?_
        refine WL.so (SO.alloc Tryz.zeroValue35 rfl) rfl ?_
        rintro _ _ _ ⟨b3, hb3, rfl, rfl, rfl⟩
        refine WL.so (SO.store 0 rfl Tryz.sizeOf35 rfl rfl rfl rfl (zqb rfl) (oneB_spec rfl)) rfl ?_
        rintro _ _ _ ⟨rfl, rfl, rfl⟩
        refine zya rfl rfl ?_
        refine WL.nil (WP.thenC (WC.seq (WC.ofFr [(4, _), (3, _), (2, _), (0, _)] ⟨rfl, rfl, rfl, rfl, trivial⟩ (WC.region ?_))))
        refine zym rfl rfl ?_
        refine WL.so (SO.makes (Enters.func Tryz.call24 rfl) (fun w1 hI => rReadHorses_g l a l.length c D1 (hS.ext hX1) (by omega) hc w1 hI.imm)) rfl ?_
        rintro _ D2 _ ⟨hX2, ⟨m2, rfl, hR2⟩, rfl⟩
        refine zym rfl rfl ?_
        refine WL.yd (Yd.extract rfl rfl) rfl ?_
        refine WL.yd (Yd.extract rfl rfl) rfl ?_
        refine WL.so (SO.alloc Tryz.zeroValue35 rfl) rfl ?_
        rintro _ _ _ ⟨b5, hb5, rfl, rfl, rfl⟩
        refine WL.so (SO.store 0 rfl Tryz.sizeOf35 rfl rfl rfl rfl (zqb rfl) (oneB_spec rfl)) rfl ?_
        rintro _ _ _ ⟨rfl, rfl, rfl⟩
        refine zya rfl rfl ?_
        refine WL.nil (WP.thenC (WC.seq (WC.ofFr [(6, _), (5, _), (4, _), (3, _), (2, _), (0, _)] ⟨rfl, rfl, rfl, rfl, rfl, rfl, trivial⟩ (WC.region ?_))))
        refine zym rfl rfl ?_
        refine WL.so (SO.makes (Enters.func Tryz.call25 rfl) (fun w1 hI => mendF_g l a l.length c D2 (hS.ext (hX1.trans hX2 (Nat.le_refl _))) (by omega) hc w1 hI.imm)) rfl ?_
        rintro _ D3 _ ⟨hX3, ⟨a3, n3, c3, rfl, hS3, hc3⟩, rfl⟩
        refine zym rfl rfl ?_
        refine WL.yd (Yd.extract rfl rfl) rfl ?_
        refine WL.yd (Yd.extract rfl rfl) rfl ?_
        refine zya rfl rfl ?_
        refine zya rfl rfl ?_
        refine WL.nil (WP.thenC (WC.seq (WC.ofFr [(8, _), (7, _), (6, _), (5, _), (4, _), (3, _), (2, _), (0, _)] ⟨rfl, rfl, rfl, rfl, rfl, rfl, rfl, rfl, trivial⟩ (WC.region ?_))))
        refine zym rfl rfl ?_
        refine WL.so (SO.makes (Enters.func Tryz.call26 rfl) (fun w1 hI => rMend_g l a l.length c D3 (hS.ext ((hX1.trans hX2 (Nat.le_refl _)).trans hX3 (Nat.le_refl _))) (by omega) hc w1 hI.imm)) rfl ?_
        rintro _ D4 _ ⟨hX4, ⟨r4, a4, n4, c4, hr4, rfl, hS4, hc4⟩, rfl⟩
        obtain rfl := mend_spec hr4
        refine zym rfl rfl ?_
        refine WL.yd (Yd.extract rfl rfl) rfl ?_
        refine WL.yd (Yd.extract rfl rfl) rfl ?_
        refine zya rfl rfl ?_
        refine zya rfl rfl ?_
        refine WL.nil (WP.thenC (WC.seq (WC.ofFr [(10, _), (9, _), (8, _), (7, _), (6, _), (5, _), (4, _), (3, _), (2, _)] ⟨rfl, rfl, rfl, rfl, rfl, rfl, rfl, rfl, rfl, trivial⟩ (WC.region ?_))))
        refine WL.yd (Yd.loadN Tryz.isAgg35 Tryz.sizeOf35 rfl (vs := [_, _]) rfl (RdN.own (k := 1) (n := 2) rfl rfl)) rfl ?_
        refine WL.yd (Yd.loadN Tryz.isAgg35 Tryz.sizeOf35 rfl (vs := [_, _]) rfl (RdN.own (k := 0) (n := 2) rfl rfl)) rfl ?_
        refine WL.so (SO.callP Tryz.call27 rfl (fun w hI => sameHors_g (readH l).1 (readHR l).1 m1 m2 D4 (hR1.ext ((hX2.trans hX3 (Nat.le_refl _)).trans hX4 (Nat.le_refl _))) (hR2.ext (hX3.trans hX4 (Nat.le_refl _))) _ hI.imm)) rfl ?_
        rintro _ _ _ ⟨rfl, rfl, rfl⟩
        refine WL.know 47 (.bool true) rfl (congrArg Value.bool (decide_eq_true (by rw [readH_same]))) ?_
        refine zym rfl rfl ?_
        refine WL.ydg rfl (Yd.move rfl) rfl ?_
        refine WL.ydg rfl (Yd.move rfl) rfl ?_
        refine WL.ydg rfl (Yd.eql rfl rfl) rfl ?_
        refine WL.know 51 (.bool true) rfl (congrArg Value.bool (decide_eq_true (by rw [readH_same]))) ?_
        refine WL.yd (Yd.pickT rfl rfl) rfl ?_
        refine zym rfl rfl ?_
        refine WL.ydg rfl (Yd.move rfl) rfl ?_
        refine WL.ydg rfl (Yd.move rfl) rfl ?_
        refine WL.sog rfl (SO.callP Tryz.call22 rfl (fun w hI => bytes_g (mendP l).1 (mendP l).1 a3 a4 n3 n4 c3 c4 D4 (hS3.ext hX4) hS4 _ hI.imm)) rfl ?_
        rintro _ _ _ ⟨rfl, rfl, rfl⟩
        refine WL.know 56 (.bool true) rfl (congrArg Value.bool (decide_eq_true rfl)) ?_
        refine WL.yd (Yd.pickT rfl rfl) rfl ?_
        refine zym rfl rfl ?_
        refine WL.ydg rfl (Yd.move rfl) rfl ?_
        refine WL.ydg rfl (Yd.move rfl) rfl ?_
        refine WL.ydg rfl (Yd.eql rfl rfl) rfl ?_
        refine WL.know 61 (.bool true) rfl (congrArg Value.bool (decide_eq_true rfl)) ?_
        refine WL.yd (Yd.pickT rfl rfl) rfl ?_
        refine zym rfl rfl ?_
        refine WL.sog rfl (SO.callP Tryz.call13 rfl (fun w hI => awake_g D4 (hL.ext (((hX1.trans hX2 (Nat.le_refl _)).trans hX3 (Nat.le_refl _)).trans hX4 (Nat.le_refl _))) _ hI.imm)) rfl ?_
        rintro _ _ _ ⟨rfl, rfl, rfl⟩
        refine WL.yd (Yd.pickT rfl rfl) rfl ?_
        refine zya rfl rfl ?_
        refine WL.nil (WP.thenC (WC.ret ?_))
        refine WP.ret1 rfl rfl Tryz.results4 (RV.tmp rfl) (fun w hI => ⟨rfl, hI.keep⟩)
  · try simp only [zq1, zq2, zq3, zq4, zq5, zq6, zq7, zq8] at g14
    refine WL.skip rfl rfl ?_
    refine WL.skip rfl rfl ?_
    refine WL.skip rfl rfl ?_
    refine WL.yd (Yd.pickF rfl rfl) rfl ?_
    refine zym rfl rfl ?_
    refine WL.ydg rfl (Yd.move rfl) rfl ?_
    refine WL.ydg rfl (Yd.lenS rfl Tryz.underlying43 rfl) rfl ?_
    refine WL.ydg rfl (Yd.gtr rfl rfl) rfl ?_
    refine WL.yd (Yd.pickF rfl rfl) rfl ?_
    refine WL.nil (WP.thenC ?_)
    refine WC.cond rfl (fun c23 => ?_) (fun c23 => ?_)
    · try simp only [zq1, zq2, zq3, zq4, zq5, zq6, zq7, zq8] at c23
      refine WC.seq (WC.ofFr [(2, _), (0, _)] ⟨rfl, rfl, trivial⟩ (WC.region ?_))
      refine WL.so (SO.callP Tryz.call13 rfl (fun w hI => awake_g D hL _ hI.imm)) rfl ?_
      rintro _ _ _ ⟨rfl, rfl, rfl⟩
      refine zya rfl rfl ?_
      refine WL.nil (WP.thenC (WC.ret (WP.thenRet ?_)))
      refine WP.ret1 rfl rfl Tryz.results4 (RV.tmp rfl) (fun w hI => ⟨rfl, hI.keep⟩)
    · try simp only [zq1, zq2, zq3, zq4, zq5, zq6, zq7, zq8] at c23
      have hl9 : l.length ≤ 2000 := by omega
      refine WC.skip (WP.thenC (WC.seq (WC.ofFr [(2, _), (0, _)] ⟨rfl, rfl, trivial⟩ (WC.region ?_))))
      refine zym rfl rfl ?_
      refine WL.so (SO.makes (Enters.func Tryz.call23 rfl) (fun w1 hI => ReadHorses_g l a l.length c D hS (by omega) hc w1 hI.imm)) rfl ?_
      rintro _ D1 _ ⟨hX1, ⟨m1, rfl, hR1⟩, rfl⟩
      refine zym rfl rfl ?_
      refine WL.yd (Yd.extract rfl rfl) rfl ?_
      refine WL.yd (Yd.extract rfl rfl) rfl ?_
      refine WL.so (SO.alloc Tryz.zeroValue35 rfl) rfl ?_
      rintro _ _ _ ⟨b3, hb3, rfl, rfl, rfl⟩
      refine WL.so (SO.store 0 rfl Tryz.sizeOf35 rfl rfl rfl rfl (zqb rfl) (oneB_spec rfl)) rfl ?_
      rintro _ _ _ ⟨rfl, rfl, rfl⟩
      refine zya rfl rfl ?_
      refine WL.nil (WP.thenC (WC.seq (WC.ofFr [(4, _), (3, _), (2, _), (0, _)] ⟨rfl, rfl, rfl, rfl, trivial⟩ (WC.region ?_))))
      refine zym rfl rfl ?_
      refine WL.so (SO.makes (Enters.func Tryz.call24 rfl) (fun w1 hI => rReadHorses_g l a l.length c D1 (hS.ext hX1) (by omega) hc w1 hI.imm)) rfl ?_
      rintro _ D2 _ ⟨hX2, ⟨m2, rfl, hR2⟩, rfl⟩
      refine zym rfl rfl ?_
      refine WL.yd (Yd.extract rfl rfl) rfl ?_
      refine WL.yd (Yd.extract rfl rfl) rfl ?_
      refine WL.so (SO.alloc Tryz.zeroValue35 rfl) rfl ?_
      rintro _ _ _ ⟨b5, hb5, rfl, rfl, rfl⟩
      refine WL.so (SO.store 0 rfl Tryz.sizeOf35 rfl rfl rfl rfl (zqb rfl) (oneB_spec rfl)) rfl ?_
      rintro _ _ _ ⟨rfl, rfl, rfl⟩
      refine zya rfl rfl ?_
      refine WL.nil (WP.thenC (WC.seq (WC.ofFr [(6, _), (5, _), (4, _), (3, _), (2, _), (0, _)] ⟨rfl, rfl, rfl, rfl, rfl, rfl, trivial⟩ (WC.region ?_))))
      refine zym rfl rfl ?_
      refine WL.so (SO.makes (Enters.func Tryz.call25 rfl) (fun w1 hI => mendF_g l a l.length c D2 (hS.ext (hX1.trans hX2 (Nat.le_refl _))) (by omega) hc w1 hI.imm)) rfl ?_
      rintro _ D3 _ ⟨hX3, ⟨a3, n3, c3, rfl, hS3, hc3⟩, rfl⟩
      refine zym rfl rfl ?_
      refine WL.yd (Yd.extract rfl rfl) rfl ?_
      refine WL.yd (Yd.extract rfl rfl) rfl ?_
      refine zya rfl rfl ?_
      refine zya rfl rfl ?_
      refine WL.nil (WP.thenC (WC.seq (WC.ofFr [(8, _), (7, _), (6, _), (5, _), (4, _), (3, _), (2, _), (0, _)] ⟨rfl, rfl, rfl, rfl, rfl, rfl, rfl, rfl, trivial⟩ (WC.region ?_))))
      refine zym rfl rfl ?_
      refine WL.so (SO.makes (Enters.func Tryz.call26 rfl) (fun w1 hI => rMend_g l a l.length c D3 (hS.ext ((hX1.trans hX2 (Nat.le_refl _)).trans hX3 (Nat.le_refl _))) (by omega) hc w1 hI.imm)) rfl ?_
      rintro _ D4 _ ⟨hX4, ⟨r4, a4, n4, c4, hr4, rfl, hS4, hc4⟩, rfl⟩
      obtain rfl := mend_spec hr4
      refine zym rfl rfl ?_
      refine WL.yd (Yd.extract rfl rfl) rfl ?_
      refine WL.yd (Yd.extract rfl rfl) rfl ?_
      refine zya rfl rfl ?_
      refine zya rfl rfl ?_
      refine WL.nil (WP.thenC (WC.seq (WC.ofFr [(10, _), (9, _), (8, _), (7, _), (6, _), (5, _), (4, _), (3, _), (2, _)] ⟨rfl, rfl, rfl, rfl, rfl, rfl, rfl, rfl, rfl, trivial⟩ (WC.region ?_))))
      refine WL.yd (Yd.loadN Tryz.isAgg35 Tryz.sizeOf35 rfl (vs := [_, _]) rfl (RdN.own (k := 1) (n := 2) rfl rfl)) rfl ?_
      refine WL.yd (Yd.loadN Tryz.isAgg35 Tryz.sizeOf35 rfl (vs := [_, _]) rfl (RdN.own (k := 0) (n := 2) rfl rfl)) rfl ?_
      refine WL.so (SO.callP Tryz.call27 rfl (fun w hI => sameHors_g (readH l).1 (readHR l).1 m1 m2 D4 (hR1.ext ((hX2.trans hX3 (Nat.le_refl _)).trans hX4 (Nat.le_refl _))) (hR2.ext (hX3.trans hX4 (Nat.le_refl _))) _ hI.imm)) rfl ?_
      rintro _ _ _ ⟨rfl, rfl, rfl⟩
      refine WL.know 47 (.bool true) rfl (congrArg Value.bool (decide_eq_true (by rw [readH_same]))) ?_
      refine zym rfl rfl ?_
      refine WL.ydg rfl (Yd.move rfl) rfl ?_
      refine WL.ydg rfl (Yd.move rfl) rfl ?_
      refine WL.ydg rfl (Yd.eql rfl rfl) rfl ?_
      refine WL.know 51 (.bool true) rfl (congrArg Value.bool (decide_eq_true (by rw [readH_same]))) ?_
      refine WL.yd (Yd.pickT rfl rfl) rfl ?_
      refine zym rfl rfl ?_
      refine WL.ydg rfl (Yd.move rfl) rfl ?_
      refine WL.ydg rfl (Yd.move rfl) rfl ?_
      refine WL.sog rfl (SO.callP Tryz.call22 rfl (fun w hI => bytes_g (mendP l).1 (mendP l).1 a3 a4 n3 n4 c3 c4 D4 (hS3.ext hX4) hS4 _ hI.imm)) rfl ?_
      rintro _ _ _ ⟨rfl, rfl, rfl⟩
      refine WL.know 56 (.bool true) rfl (congrArg Value.bool (decide_eq_true rfl)) ?_
      refine WL.yd (Yd.pickT rfl rfl) rfl ?_
      refine zym rfl rfl ?_
      refine WL.ydg rfl (Yd.move rfl) rfl ?_
      refine WL.ydg rfl (Yd.move rfl) rfl ?_
      refine WL.ydg rfl (Yd.eql rfl rfl) rfl ?_
      refine WL.know 61 (.bool true) rfl (congrArg Value.bool (decide_eq_true rfl)) ?_
      refine WL.yd (Yd.pickT rfl rfl) rfl ?_
      refine zym rfl rfl ?_
      refine WL.sog rfl (SO.callP Tryz.call13 rfl (fun w hI => awake_g D4 (hL.ext (((hX1.trans hX2 (Nat.le_refl _)).trans hX3 (Nat.le_refl _)).trans hX4 (Nat.le_refl _))) _ hI.imm)) rfl ?_
      rintro _ _ _ ⟨rfl, rfl, rfl⟩
      refine WL.yd (Yd.pickT rfl rfl) rfl ?_
      refine zya rfl rfl ?_
      refine WL.nil (WP.thenC (WC.ret ?_))
      refine WP.ret1 rfl rfl Tryz.results4 (RV.tmp rfl) (fun w hI => ⟨rfl, hI.keep⟩)

end Go.Proofs.YtaebnllfmkcpgaaGreatDoor
