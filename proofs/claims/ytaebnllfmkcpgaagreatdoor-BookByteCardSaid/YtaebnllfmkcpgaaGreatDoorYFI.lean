import Derived.Test.YtaebnllfmkcpgaaGreatDoorYFG
import Derived.Test.YtaebnllfmkcpgaaGreatDoorYFM
set_option linter.unusedSimpArgs false
set_option linter.unusedVariables false
set_option linter.all false
set_option maxRecDepth 100000
set_option maxHeartbeats 1000000
namespace Go.Proofs.YtaebnllfmkcpgaaGreatDoor
open Go.W Go.Bk

theorem readH_bad8 {b : Bs} (h : openE b = 8) : readH b = (horsZ, 8) := by
  unfold readH; rw [if_pos (by omega), h]
theorem mendP_bad8 {b : Bs} (h : openE b = 8) : mendP b = ([], 8) := by rw [mendP_no (by omega), h]
theorem readH_cl {b : Bs} (hf : FormOk b) (h : ¬ Rt b) : readH b = (horsZ, 10) := readH_clash (openE_iff.2 hf) fun e => h ((right_iff hf.lo).2 e)
theorem set_same {b : Bs} {i : Nat} (hi : i < b.length) : b.set i (gt b i) = b := by
  have : gt b i = b[i] := by simp only [gt, List.getD, List.getElem?_eq_getElem hi, Option.getD_some]
  rw [this, List.set_getElem_self]
theorem set_back {b : Bs} {i : Nat} {x : UInt8} (hi : i < b.length) : (b.set i x).set i (gt b i) = b := by
  rw [List.set_set, set_same hi]
theorem gt_form {b : Bs} (hf : FormOk b) {i : Nat} (hi : i < b.length) : (gt b i).toNat < 251 := hf.all _ (gtB_mem hi)
/-- one byte of a right file spoilt -/
theorem spoilt_cl {b : Bs} (hf : FormOk b) (hr : Rt b) {i : Nat} (hi : i < b.length) {x : UInt8} (hx : x.toNat < 251) (hne : x ≠ gt b i) : readH (b.set i x) = (horsZ, 10) ∧ mendP (b.set i x) = (b, 0) := by
  have hn : ¬ Rt (b.set i x) := fun h => hne (right_alone hf hr hi hx h)
  have hi2 : i < (b.set i x).length := by rw [List.length_set]; exact hi
  have h3 := mendP_of (hf.set i hx) hn hi2 (gt_form hf hi) (by rw [set_back hi]; exact hr)
  rw [set_back hi] at h3
  exact ⟨readH_cl (hf.set i hx) hn, h3⟩
theorem reads_other {b : Bs} {h : Hors} (e : (readH b).2 = 0) (hl : (bookL h).length ≠ b.length) : (readH b).1 ≠ h := fun e1 => by
  have e2 : readH b = (h, 0) := by rw [← e1, ← e]
  exact hl (by rw [(readH_of e2).2])

set_option maxRecDepth 100000 in
set_option maxHeartbeats 8000000 in
theorem bookByte_g (h : Hors) (m4 : Sl) (D : Imm) (hL : LibD D) (hR4 : HorsR D h m4) (wh : Nat) (hwh : wh < 65536) (by_ : UInt8) (w : World) (hH : Holds D w) : Gives Tryz.prog 6 [horsV h m4, .int .u16 (wh : Int), bt by_] w (.bool true) := by
  unfold Gives
  refine enter Tryz.func6 rfl 156 Tryz.ntmps6 (zqb rfl) (Inv.start hH) ?_
  refine WC.seq (WC.ofFr [(0, _), (1, _), (2, _)] ⟨rfl, rfl, rfl, trivial⟩ (WC.region ?_))
  refine WL.so (SO.box rfl rfl) rfl ?_
  rintro _ _ _ ⟨b3, hb3, rfl, rfl, rfl⟩
  refine zya rfl rfl ?_
  refine WL.nil (WP.thenC (WC.seq (WC.seq (WC.ofFr [(6, _), (3, _), (1, _), (2, _)] ⟨rfl, rfl, rfl, rfl, trivial⟩ (WC.region ?_)))))
  refine WL.yd (Yd.fieldAddr FA35_1 rfl) rfl ?_
  refine WL.yd (Yd.load1 Tryz.isAgg33 rfl (Rd.own (k := 0) rfl rfl)) rfl ?_
  refine WL.yd (Yd.lenS rfl Tryz.underlying33 rfl) rfl ?_
  refine WL.yd (Yd.gtr rfl rfl) rfl ?_
  refine WL.nil (WP.thenC ?_)
  refine WC.cond rfl (fun c24 => ?_) (fun c24 => ?_)
  · try simp only [zq1, zq2, zq3, zq4, zq5, zq6, zq7, zq8] at c24
    refine WC.seq (WC.ofFr [(6, _), (3, _), (1, _), (2, _)] ⟨rfl, rfl, rfl, rfl, trivial⟩ (WC.region ?_))
    refine WL.so (SO.callP Tryz.call13 rfl (fun w hI => awake_g D hL _ hI.imm)) rfl ?_
    rintro _ _ _ ⟨rfl, rfl, rfl⟩
    refine zya rfl rfl ?_
    refine WL.nil (WP.thenC (WC.ret (WP.thenRet ?_)))
    refine WP.ret1 rfl rfl Tryz.results6 (RV.tmp rfl) (fun w hI => ⟨rfl, hI.keep⟩)
  · try simp only [zq1, zq2, zq3, zq4, zq5, zq6, zq7, zq8] at c24
    skip
    refine WC.skip (WP.thenC (WC.seq (WC.ofFr [(6, _), (3, _), (1, _), (2, _)] ⟨rfl, rfl, rfl, rfl, trivial⟩ (WC.region ?_))))
    refine WL.yd (Yd.loadN Tryz.isAgg35 Tryz.sizeOf35 rfl (vs := [_, _]) rfl (RdN.own (k := 0) (n := 2) rfl rfl)) rfl ?_
    refine WL.so (SO.makes (Enters.func Tryz.call20 rfl) (fun w1 hI => WriteHorses_g h m4 D hR4 w1 hI.imm)) rfl ?_
    rintro _ D1 _ ⟨hX1, ⟨a1, n1, c1, rfl, hS1, hc1⟩, rfl⟩
    refine zym rfl rfl ?_
    refine WL.yd (Yd.extract rfl rfl) rfl ?_
    refine WL.yd (Yd.extract rfl rfl) rfl ?_
    refine zya rfl rfl ?_
    refine zya rfl rfl ?_
    refine WL.nil (WP.thenC (WC.seq (WC.seq (WC.ofFr [(8, _), (7, _), (6, _), (3, _), (1, _), (2, _)] ⟨rfl, rfl, rfl, rfl, rfl, rfl, trivial⟩ (WC.region ?_)))))
    refine zym rfl rfl ?_
    refine WL.yd (Yd.neq rfl rfl) rfl ?_
    refine WL.nil (WP.thenC ?_)
    refine WC.cond rfl (fun c32 => ?_) (fun c32 => ?_)
    · try simp only [zq1, zq2, zq3, zq4, zq5, zq6, zq7, zq8] at c32
      refine WC.seq (WC.ofFr [(8, _), (7, _), (6, _), (3, _), (1, _), (2, _)] ⟨rfl, rfl, rfl, rfl, rfl, rfl, trivial⟩ (WC.region ?_))
      refine zym rfl rfl ?_
      refine WL.yd (Yd.eql rfl rfl) rfl ?_
      refine WL.know 34 (.bool true) rfl (congrArg Value.bool (decide_eq_true (by have := wrh_e h; omega))) ?_
      refine zym rfl rfl ?_
      refine WL.ydg rfl (Yd.move rfl) rfl ?_
      refine WL.ydg rfl (Yd.lenS rfl Tryz.underlying43 rfl) rfl ?_
      refine WL.ydg rfl (Yd.eql rfl rfl) rfl ?_
      refine WL.know 38 (.bool true) rfl (congrArg Value.bool (decide_eq_true (by have h8 := hS1.len'; rw [wrh_off (by omega)] at h8; simp at h8; omega))) ?_
      refine WL.yd (Yd.pickT rfl rfl) rfl ?_
      refine zym rfl rfl ?_
      refine WL.ydg rfl (Yd.loadN Tryz.isAgg35 Tryz.sizeOf35 rfl (vs := [_, _]) rfl (RdN.own (k := 0) (n := 2) rfl rfl)) rfl ?_
      refine WL.sog rfl (SO.callP Tryz.call31 rfl (fun w hI => rvHors_g h m4 D1 (hR4.ext hX1) _ hI.imm)) rfl ?_
      rintro _ _ _ ⟨rfl, rfl, rfl⟩
      refine WL.ydg rfl (Yd.not rfl) rfl ?_
      refine WL.know 43 (.bool true) rfl (congrArg Value.bool (by rw [show horsB h = false by cases e9 : horsB h with | true => exact absurd (wrh_ok.2 e9) (by omega) | false => rfl]; rfl)) ?_
      refine WL.yd (Yd.pickT rfl rfl) rfl ?_
      refine zym rfl rfl ?_
      refine WL.sog rfl (SO.callP Tryz.call13 rfl (fun w hI => awake_g D1 (hL.ext hX1) _ hI.imm)) rfl ?_
      rintro _ _ _ ⟨rfl, rfl, rfl⟩
      refine WL.yd (Yd.pickT rfl rfl) rfl ?_
      refine zya rfl rfl ?_
      refine WL.nil (WP.thenC (WC.ret (WP.thenRet ?_)))
      refine WP.ret1 rfl rfl Tryz.results6 (RV.tmp rfl) (fun w hI => ⟨rfl, hI.keep⟩)
    · try simp only [zq1, zq2, zq3, zq4, zq5, zq6, zq7, zq8] at c32
      have hb : horsB h = true := wrh_ok.1 (by omega)
      have hbo := book_len (horsB_iff.1 hb)
      have hrd := readH_put hb
      rw [wrH_yes hb] at hS1
      have hS1' : SlL D1 1 ((bookL h).map btC) a1 n1 := hS1
      obtain rfl : n1 = (bookL h).length := hS1'.len'
      have hff := book_form (horsB_iff.1 hb)
      have hfr := book_right h
      generalize hF : bookL h = F at hS1' hbo hrd hff hfr hc1 ⊢
      clear hS1
      refine WC.skip (WP.thenC (WC.seq (WC.seq (WC.ofFr [(7, _), (6, _), (3, _), (1, _), (2, _)] ⟨rfl, rfl, rfl, rfl, rfl, trivial⟩ (WC.region ?_)))))
      refine zym rfl rfl ?_
      refine WL.yd (Yd.lenS rfl Tryz.underlying43 rfl) rfl ?_
      refine WL.yd (Yd.lss rfl rfl) rfl ?_
      refine WL.nil (WP.thenC ?_)
      refine WC.cond rfl (fun c50 => ?_) (fun c50 => ?_)
      · try simp only [zq1, zq2, zq3, zq4, zq5, zq6, zq7, zq8] at c50
        omega
      · try simp only [zq1, zq2, zq3, zq4, zq5, zq6, zq7, zq8] at c50
        refine WC.skip (WP.thenC (WC.seq (WC.ofFr [(7, _), (6, _), (3, _), (1, _), (2, _)] ⟨rfl, rfl, rfl, rfl, rfl, trivial⟩ (WC.region ?_))))
        refine zym rfl rfl ?_
        refine WL.so (SO.makes (Enters.func Tryz.call25 rfl) (fun w1 hI => mendF_g F a1 F.length c1 D1 hS1' (by omega) hc1 w1 hI.imm)) rfl ?_
        rintro _ D2 _ ⟨hX2, ⟨a2, n2, c2, rfl, hS2, hc2⟩, rfl⟩
        refine zym rfl rfl ?_
        refine WL.yd (Yd.extract rfl rfl) rfl ?_
        refine WL.yd (Yd.extract rfl rfl) rfl ?_
        refine zya rfl rfl ?_
        refine zya rfl rfl ?_
        refine WL.nil (WP.thenC (WC.seq (WC.ofFr [(10, _), (7, _), (6, _), (3, _), (1, _), (2, _)] ⟨rfl, rfl, rfl, rfl, rfl, rfl, trivial⟩ (WC.region ?_))))
        refine zym rfl rfl ?_
        refine WL.yd (Yd.conv Tryz.underlying56 Tryz.underlying3 rfl (wr64 ⟨by omega, by omega⟩)) rfl ?_
        refine zym rfl rfl ?_
        refine WL.yd (Yd.lenS rfl Tryz.underlying43 rfl) rfl ?_
        have hat : (wh % F.length) < F.length := Nat.mod_lt _ (by omega)
        refine WL.yd (Yd.remN rfl rfl (by omega)) rfl ?_
        refine zya rfl rfl ?_
        refine WL.nil (WP.thenC (WC.seq (WC.ofFr [(11, _), (10, _), (7, _), (6, _), (3, _), (2, _)] ⟨rfl, rfl, rfl, rfl, rfl, rfl, trivial⟩ (WC.region ?_))))
        refine zym rfl rfl ?_
        refine zym rfl rfl ?_
        refine zym rfl rfl ?_
        refine WL.so (SO.makes (Enters.func Tryz.call32 rfl) (fun w1 hI => put_g F a1 F.length c1 D2 (hS1'.ext hX2) (by omega) (wh % F.length) by_ hat w1 hI.imm)) rfl ?_
        rintro _ D3 _ ⟨hX3, ⟨a3, n3, c3, rfl, hS3, hc3⟩, rfl⟩
        have hn3 : n3 = F.length := by have h8 := hS3.len'; rw [List.length_set] at h8; exact h8
        refine zya rfl rfl ?_
        refine WL.nil (WP.thenC (WC.seq (WC.ofFr [(12, _), (11, _), (10, _), (7, _), (6, _), (3, _), (2, _)] ⟨rfl, rfl, rfl, rfl, rfl, rfl, rfl, trivial⟩ (WC.region ?_))))
        refine zym rfl rfl ?_
        refine WL.so (SO.makes (Enters.func Tryz.call23 rfl) (fun w1 hI => ReadHorses_g (F.set (wh % F.length) by_) a3 n3 c3 D3 hS3 (by omega) hc3 w1 hI.imm)) rfl ?_
        rintro _ D4 _ ⟨hX4, ⟨m5, rfl, hR5⟩, rfl⟩
        refine zym rfl rfl ?_
        refine WL.yd (Yd.extract rfl rfl) rfl ?_
        refine WL.yd (Yd.extract rfl rfl) rfl ?_
        refine WL.so (SO.alloc Tryz.zeroValue35 rfl) rfl ?_
        rintro _ _ _ ⟨b13, hb13, rfl, rfl, rfl⟩
        refine WL.so (SO.store 0 rfl Tryz.sizeOf35 rfl rfl rfl rfl (zqb rfl) (oneB_spec rfl)) rfl ?_
        rintro _ _ _ ⟨rfl, rfl, rfl⟩
        refine zya rfl rfl ?_
        refine WL.nil (WP.thenC (WC.seq (WC.ofFr [(14, _), (12, _), (11, _), (10, _), (7, _), (6, _), (3, _), (2, _)] ⟨rfl, rfl, rfl, rfl, rfl, rfl, rfl, rfl, trivial⟩ (WC.region ?_))))
        refine zym rfl rfl ?_
        refine WL.so (SO.makes (Enters.func Tryz.call25 rfl) (fun w1 hI => mendF_g (F.set (wh % F.length) by_) a3 n3 c3 D4 (hS3.ext hX4) (by omega) hc3 w1 hI.imm)) rfl ?_
        rintro _ D5 _ ⟨hX5, ⟨a5, n5, c5, rfl, hS5, hc5⟩, rfl⟩
        refine zym rfl rfl ?_
        refine WL.yd (Yd.extract rfl rfl) rfl ?_
        refine WL.yd (Yd.extract rfl rfl) rfl ?_
        refine zya rfl rfl ?_
        refine zya rfl rfl ?_
        refine WL.nil (WP.thenC ?_)
        refine WC.seqJ (fun _ : Unit => [(2, bt by_), (3, pt b3), (7, .slice a1 F.length c1)]) (fun _ => [(b3, .cells (List.toArray (horsCs h m4)) 35 (0, 0))]) (fun _ => D5) (fun _ => True) ?_ ?_
        · rintro ⟨⟩ -
          have hSF5 := hS1'.ext (((hX2.trans hX3 (Nat.le_refl _)).trans hX4 (Nat.le_refl _)).trans hX5 (Nat.le_refl _))
          refine WC.seq ?_
          refine WC.seqJ (fun y : Imm × Nat × Sl => [(3, pt b3), (136, .slice (some ⟨y.2.1, 0, none⟩) 3 3), (137, nt 3), (138, nt 0)]) (fun _ => [(b3, .cells (List.toArray (horsCs h m4)) 35 (0, 0))]) (fun y => y.1) (fun y => DExt w D5 y.1 ∧ SlL y.1 1 (([⟨y.2.2.a, y.2.2.n, y.2.2.c⟩, ⟨a1, F.length - 1, c1⟩, ⟨fromA a1 c1 1 1, F.length - 1, c1 - 1⟩] : List Sl).map slC) (some ⟨y.2.1, 0, none⟩) 3 ∧ SlL y.1 1 ((F ++ [by_]).map btC) y.2.2.a y.2.2.n ∧ y.2.2.n ≤ y.2.2.c ∧ y.2.2.n = F.length + 1) ?_ ?_
          · rintro ⟨D6, bb, ⟨ra, rn, rc⟩⟩ ⟨hX6, hSL, hSr, hrc, hrn⟩
            dsimp only at hX6 hSL hSr hrc hrn ⊢
            have hSF6 := hSF5.ext hX6
            have hall : ∀ k, k < 3 → SlL D6 1 ((gt [F ++ [by_], F.take (F.length - 1), F.drop 1] k).map btC) (gt ([⟨ra, rn, rc⟩, ⟨a1, F.length - 1, c1⟩, ⟨fromA a1 c1 1 1, F.length - 1, c1 - 1⟩] : List Sl) k).a (gt ([⟨ra, rn, rc⟩, ⟨a1, F.length - 1, c1⟩, ⟨fromA a1 c1 1 1, F.length - 1, c1 - 1⟩] : List Sl) k).n ∧ (gt ([⟨ra, rn, rc⟩, ⟨a1, F.length - 1, c1⟩, ⟨fromA a1 c1 1 1, F.length - 1, c1 - 1⟩] : List Sl) k).n ≤ (gt ([⟨ra, rn, rc⟩, ⟨a1, F.length - 1, c1⟩, ⟨fromA a1 c1 1 1, F.length - 1, c1 - 1⟩] : List Sl) k).c ∧ (bookL h).length ≠ (gt [F ++ [by_], F.take (F.length - 1), F.drop 1] k).length := by
              intro k hk
              rw [hF]
              match k, hk with
              | 0, _ => exact ⟨hSr, hrc, by show F.length ≠ (F ++ [by_]).length; simp⟩
              | 1, _ => exact ⟨by have h8 := hSF6.take (k := F.length - 1) (by omega); rw [← List.map_take] at h8; exact h8, by show F.length - 1 ≤ c1; omega, by show F.length ≠ (F.take (F.length - 1)).length; rw [List.length_take]; omega⟩
              | 2, _ => exact ⟨by have h8 := hSF6.drop (k := 1) (c := c1) (by omega) hc1; rw [← List.map_drop] at h8; exact h8, by show F.length - 1 ≤ c1 - 1; omega, by show F.length ≠ (F.drop 1).length; rw [List.length_drop]; omega⟩
            have hlen3 : ∀ k, k < 3 → (gt [F ++ [by_], F.take (F.length - 1), F.drop 1] k).length ≤ 63 := by
              intro k hk
              match k, hk with
              | 0, _ => show (F ++ [by_]).length ≤ 63; simp; omega
              | 1, _ => show (F.take (F.length - 1)).length ≤ 63; rw [List.length_take]; omega
              | 2, _ => show (F.drop 1).length ≤ 63; rw [List.length_drop]; omega
            generalize [F ++ [by_], F.take (F.length - 1), F.drop 1] = LL at hall hlen3
            generalize ([⟨ra, rn, rc⟩, ⟨a1, F.length - 1, c1⟩, ⟨fromA a1 c1 1 1, F.length - 1, c1 - 1⟩] : List Sl) = L3 at hall hSL
            refine WC.block ?_
            refine WC.loopF (fun k : Nat => [(3, pt b3), (136, .slice (some ⟨bb, 0, none⟩) 3 3), (137, nt 3), (138, nt k)]) (fun k => k ≤ 3) (fun k => 3 - k) 0 (Nat.zero_le _) ⟨rfl, rfl, rfl, rfl, trivial⟩ ?_
            intro k hk
            refine WC.seq (WC.ofFr [(3, _), (136, _), (137, _), (138, _)] ⟨rfl, rfl, rfl, rfl, trivial⟩ (WC.region ?_))
            refine WL.yd (Yd.lss rfl rfl) rfl ?_
            refine WL.nil (WP.thenC (WC.seq ?_))
            refine WC.cond rfl (fun c139 => ?_) (fun c139 => ?_)
            · try simp only [zq1, zq2, zq3, zq4, zq5, zq6, zq7, zq8] at c139
              have hkl : k < 3 := by omega
              refine WC.skip (WP.thenC (WC.seq (WC.block (WC.seq (WC.ofFr [(3, _), (136, _), (137, _), (138, _)] ⟨rfl, rfl, rfl, rfl, trivial⟩ (WC.region ?_))))))
              refine WL.yd (Yd.indexS Tryz.underlying59 Tryz.sizeOf43 rfl rfl (by omega) (by omega) (by first | exact (hS1'.ext (((hX2.trans hX3 (Nat.le_refl _)).trans hX4 (Nat.le_refl _)).trans hX5 (Nat.le_refl _))).addr (wh % F.length) hat | exact hSL.addr k (by omega))) rfl ?_
              refine WL.yd (Yd.load1 Tryz.isAgg43 rfl ((hSL.at k (by omega)).rd 0 rfl)) rfl ?_
              refine zya rfl rfl ?_
              refine WL.nil (WP.thenC (WC.seq (WC.ofFr [(18, _), (3, _), (136, _), (137, _), (138, _)] ⟨rfl, rfl, rfl, rfl, rfl, trivial⟩ (WC.region ?_))))
              refine zym rfl rfl ?_
              refine WL.so (SO.makes (Enters.func Tryz.call23 rfl) (fun w1 hI => ReadHorses_g (gt LL k) (gt L3 k).a (gt L3 k).n (gt L3 k).c D6 (hall k hkl).1 (by have h8 := (hall k hkl).1.len'; have h7 := hlen3 k hkl; omega) (hall k hkl).2.1 w1 hI.imm)) rfl ?_
              rintro _ D8 _ ⟨hX8, ⟨m7, rfl, hR7⟩, rfl⟩
              refine zym rfl rfl ?_
              refine WL.yd (Yd.extract rfl rfl) rfl ?_
              refine WL.yd (Yd.extract rfl rfl) rfl ?_
              refine WL.so (SO.alloc Tryz.zeroValue35 rfl) rfl ?_
              rintro _ _ _ ⟨b19, hb19, rfl, rfl, rfl⟩
              refine WL.so (SO.store 0 rfl Tryz.sizeOf35 rfl rfl rfl rfl (zqb rfl) (oneB_spec rfl)) rfl ?_
              rintro _ _ _ ⟨rfl, rfl, rfl⟩
              refine zya rfl rfl ?_
              refine WL.nil (WP.thenC (WC.seq (WC.ofFr [(20, _), (19, _), (3, _), (136, _), (137, _), (138, _)] ⟨rfl, rfl, rfl, rfl, rfl, rfl, trivial⟩ (WC.region ?_))))
              refine zym rfl rfl ?_
              refine WL.yd (Yd.eql rfl rfl) rfl ?_
              refine zym rfl rfl ?_
              refine WL.part 149 rfl (fun g149 => ?_) (fun g149 => ?_)
              · try simp only [zq1, zq2, zq3, zq4, zq5, zq6, zq7, zq8] at g149
                refine WL.ydg rfl (Yd.loadN Tryz.isAgg35 Tryz.sizeOf35 rfl (vs := [_, _]) rfl (RdN.own (k := 0) (n := 2) rfl rfl)) rfl ?_
                refine WL.ydg rfl (Yd.loadN Tryz.isAgg35 Tryz.sizeOf35 rfl (vs := [_, _]) rfl (RdN.own (k := 1) (n := 2) rfl rfl)) rfl ?_
                refine WL.sog rfl (SO.callP Tryz.call27 rfl (fun w hI => sameHors_g (readH (gt LL k)).1 h m7 m4 D8 hR7 ((hR4.ext ((((hX1.trans hX2 (Nat.le_refl _)).trans hX3 (Nat.le_refl _)).trans hX4 (Nat.le_refl _)).trans hX5 (Nat.le_refl _))).ext (hX6.trans hX8 (Nat.le_refl _))) _ hI.imm)) rfl ?_
                rintro _ _ _ ⟨rfl, rfl, rfl⟩
                refine WL.know 152 (.bool false) rfl (congrArg Value.bool (decide_eq_false (reads_other (by omega) (hall k hkl).2.2))) ?_
                refine WL.yd (Yd.pickT rfl rfl) rfl ?_
                refine WL.nil (WP.thenC ?_)
                refine WC.condF rfl ?_
                refine WC.skip (WP.blkNormal (WP.thenC (WC.ofFr [(3, _), (136, _), (137, _), (138, _)] ⟨rfl, rfl, rfl, rfl, trivial⟩ (WC.region ?_))))
                refine WL.yd (Yd.add rfl rfl (wr64 ⟨by omega, by omega⟩)) rfl ?_
                refine zym rfl rfl ?_
                refine WL.nil ?_
                exact WP.againS (k + 1) hkl (by omega) ⟨rfl, rfl, rfl, rfl, trivial⟩ (fun _ h => List.mem_cons_of_mem _ h) (fun h => (List.nodup_cons.1 h).2) hX8.old
              · try simp only [zq1, zq2, zq3, zq4, zq5, zq6, zq7, zq8] at g149
                refine WL.skip rfl rfl ?_
                refine WL.skip rfl rfl ?_
                refine WL.skip rfl rfl ?_
                refine WL.yd (Yd.pickF rfl rfl) rfl ?_
                refine WL.nil (WP.thenC ?_)
                refine WC.condF rfl ?_
                refine WC.skip (WP.blkNormal (WP.thenC (WC.ofFr [(3, _), (136, _), (137, _), (138, _)] ⟨rfl, rfl, rfl, rfl, trivial⟩ (WC.region ?_))))
                refine WL.yd (Yd.add rfl rfl (wr64 ⟨by omega, by omega⟩)) rfl ?_
                refine zym rfl rfl ?_
                refine WL.nil ?_
                exact WP.againS (k + 1) hkl (by omega) ⟨rfl, rfl, rfl, rfl, trivial⟩ (fun _ h => List.mem_cons_of_mem _ h) (fun h => (List.nodup_cons.1 h).2) hX8.old
            · try simp only [zq1, zq2, zq3, zq4, zq5, zq6, zq7, zq8] at c139
              obtain rfl : k = 3 := by omega
              refine WC.exit ?_
              refine WP.thenExit ?_
              refine WP.thenExit ?_
              refine WP.blkHit ?_
              refine WP.thenC (WC.seq (WC.ofFr [] trivial (WC.region ?_)))
              refine WL.so (SO.callP Tryz.call13 rfl (fun w hI => awake_g D6 ((hL.ext ((((hX1.trans hX2 (Nat.le_refl _)).trans hX3 (Nat.le_refl _)).trans hX4 (Nat.le_refl _)).trans hX5 (Nat.le_refl _))).ext hX6) _ hI.imm)) rfl ?_
              rintro _ _ _ ⟨rfl, rfl, rfl⟩
              refine zya rfl rfl ?_
              refine WL.nil (WP.thenC (WC.ret ?_))
              refine WP.ret1 rfl rfl Tryz.results6 (RV.tmp rfl) (fun w hI => ⟨rfl, hI.keep⟩)
          · skip
            refine WC.ofFr [(2, _), (3, _), (7, _)] ⟨rfl, rfl, rfl, trivial⟩ ?_
            refine WC.drawH [] (by kernel_rfl) (fun _ hI => Inv.nil hI) ?_
            refine WH.yd (i := 1) (by kernel_rfl) (fun _ o v c a w _ h => (QuietPanic.then (QuietPanic.then QuietPanic.body)) c o.dst v a w h) rfl (Yd.move rfl) rfl ?_
            refine WH.yd (i := 3) (by kernel_rfl) (fun _ o v c a w _ h => (QuietPanic.then (QuietPanic.then QuietPanic.body)) c o.dst v a w h) rfl (Yd.move rfl) rfl ?_
            refine WH.yd (i := 6) (by kernel_rfl) (fun _ o v c a w _ h => (QuietPanic.then (QuietPanic.then QuietPanic.body)) c o.dst v a w h) rfl (Yd.move rfl) rfl ?_
            refine WH.yd (i := 7) (by kernel_rfl) (fun _ o v c a w _ h => (QuietPanic.then (QuietPanic.then QuietPanic.body)) c o.dst v a w h) rfl (Yd.move rfl) rfl ?_
            refine WH.yd (i := 8) (by kernel_rfl) (fun _ o v c a w _ h => (QuietPanic.then (QuietPanic.then QuietPanic.body)) c o.dst v a w h) rfl (Yd.lenS rfl Tryz.underlying43 rfl) rfl ?_
            skip
            refine WH.yd (i := 9) (by kernel_rfl) (fun _ o v c a w _ h => (QuietPanic.then (QuietPanic.then QuietPanic.body)) c o.dst v a w h) rfl (Yd.sub rfl rfl (wr64 ⟨by omega, by omega⟩)) rfl ?_
            refine WH.know 132 (nt (F.length - 1)) rfl (by congr 1; omega) ?_
            refine WH.yd (i := 10) (by kernel_rfl) (fun _ o v c a w _ h => (QuietPanic.then (QuietPanic.then QuietPanic.body)) c o.dst v a w h) rfl (Yd.sliceTo Tryz.underlying43 Tryz.sizeOf5 rfl rfl (by omega)) rfl ?_
            refine WH.yd (i := 11) (by kernel_rfl) (fun _ o v c a w _ h => (QuietPanic.then (QuietPanic.then QuietPanic.body)) c o.dst v a w h) rfl (Yd.move rfl) rfl ?_
            refine WH.yd (i := 12) (by kernel_rfl) (fun _ o v c a w _ h => (QuietPanic.then (QuietPanic.then QuietPanic.body)) c o.dst v a w h) rfl (Yd.sliceFrom (k := 1) Tryz.underlying43 Tryz.sizeOf5 rfl rfl (by omega)) rfl ?_
            refine WH.yd (i := 15) (by kernel_rfl) (fun _ o v c a w _ h => (QuietPanic.then (QuietPanic.then QuietPanic.body)) c o.dst v a w h) rfl (Yd.move rfl) rfl ?_
            refine WH.two (i := 0) (j := 4) (by kernel_rfl) ?_ ?_
            · refine WHo.so rfl (SO.buildSlice0 Tryz.underlying43 Tryz.sizeOf5) rfl ?_
              rintro _ _ _ ⟨b123, hb123, rfl, rfl, rfl⟩
              refine ⟨(fun _ hI => Inv.nil hI), ?_⟩
              refine WH.two (i := 2) (j := 4) (by kernel_rfl) ?_ ?_
              · refine WHo.so rfl (SO.appendOw (o := some ⟨b123, 0, []⟩) (len := 0) (n := F.length) (xs := []) (size := 1) [] [] [_] rfl rfl Tryz.underlying43 Tryz.sizeOf5 Tryz.typeInfo5 Tryz.zeroValue5 rfl rfl rfl rfl (hSF5.rdS btC_len (fun e => by subst e; simp at hbo)) (btC_one _) ⟨hb123, Nat.le_refl _, rfl⟩ rfl (by omega) (by show (2 * (_ + _) + 1000) * 1 ≤ 2 ^ 48; omega) (by omega)) rfl ?_
                rintro _ _ _ ⟨u1, hu1, rfl, rfl, rfl⟩
                rw [Nat.zero_add] at hu1 ⊢
                rw [List.nil_append]
                refine ⟨(fun _ hI => Inv.nil hI), ?_⟩
                refine WH.one (i := 4) (by kernel_rfl) (WHo.so rfl (SO.buildSlice1 Tryz.underlying43 Tryz.sizeOf5 Tryz.zeroValue5 rfl rfl rfl (vs := [_]) rfl rfl rfl) rfl ?_)
                rintro _ _ _ ⟨b127, hb127, rfl, rfl, rfl⟩
                refine ⟨(fun _ hI => Inv.nil hI), ?_⟩
                refine WH.one (i := 5) (by kernel_rfl) (WHo.so rfl (SO.appendOw (o := some u1) (len := F.length) (n := 1) (xs := (F.flatMap btC)) (size := 1) [] [_] [_] rfl rfl Tryz.underlying43 Tryz.sizeOf5 Tryz.typeInfo5 Tryz.zeroValue5 rfl rfl rfl rfl ⟨rfl, .inr ⟨_, _, _, rfl, RdN.own (k := 0) (n := 1) rfl rfl⟩⟩ (oneB_spec rfl) hu1 (flat_len btC_len _) (by omega) (by show (2 * (_ + _) + 1000) * 1 ≤ 2 ^ 48; omega) (by omega)) rfl ?_)
                rintro _ _ _ ⟨u2, hu2, rfl, rfl, rfl⟩
                refine ⟨(fun _ hI => Inv.nil hI), ?_⟩
                refine WH.freezeOw (f := btC) (m := 1) btC_len [_] [_] (some u2) 5 (F ++ [by_]) rfl (by rw [List.length_append]; exact hu2) (by rw [List.flatMap_append]; rfl) (fun D6 hX6 hS6 => ?_)
                refine WH.one (i := 13) (by kernel_rfl) (WHo.so rfl (SO.buildSlice1 Tryz.underlying59 Tryz.sizeOf43 Tryz.zeroValue43 rfl rfl rfl (vs := [_, _, _]) rfl rfl rfl) rfl ?_)
                rintro _ _ _ ⟨b136, hb136, rfl, rfl, rfl⟩
                refine ⟨(fun _ hI => Inv.nil (hI.shrink hX6.old)), ?_⟩
                refine WH.yd (i := 14) (by kernel_rfl) (fun _ o v c a w _ h => (QuietPanic.then (QuietPanic.then QuietPanic.body)) c o.dst v a w h) rfl (Yd.lenS rfl Tryz.underlying59 rfl) rfl ?_
                refine WH.nil (by kernel_rfl) ?_
                refine WP.freezeK 0 rfl (fun hn136 => ?_)
                have hX7 := (DExt.refl w D6).add (o := (.cells (([⟨some ⟨u2.b, 0, none⟩, F.length + 1, u2.cap⟩, ⟨a1, F.length - 1, c1⟩, ⟨fromA a1 c1 1 1, F.length - 1, c1 - 1⟩] : List Sl).flatMap slC ++ []).toArray 43 (0, 0))) hn136 hb136
                have hSL : SlL (Imm.add D6 b136 (.cells (([⟨some ⟨u2.b, 0, none⟩, F.length + 1, u2.cap⟩, ⟨a1, F.length - 1, c1⟩, ⟨fromA a1 c1 1 1, F.length - 1, c1 - 1⟩] : List Sl).flatMap slC ++ []).toArray 43 (0, 0))) 1 (([⟨some ⟨u2.b, 0, none⟩, F.length + 1, u2.cap⟩, ⟨a1, F.length - 1, c1⟩, ⟨fromA a1 c1 1 1, F.length - 1, c1 - 1⟩] : List Sl).map slC) (some ⟨b136, 0, none⟩) 3 := SlL.ofBlock (f := slC) (m := 1) (rest := []) (fun _ => rfl) (Imm.add_self _ _ _)
                exact WP.join (Imm.add D6 b136 (.cells (([⟨some ⟨u2.b, 0, none⟩, F.length + 1, u2.cap⟩, ⟨a1, F.length - 1, c1⟩, ⟨fromA a1 c1 1 1, F.length - 1, c1 - 1⟩] : List Sl).flatMap slC ++ []).toArray 43 (0, 0)), b136, (⟨some ⟨u2.b, 0, none⟩, F.length + 1, u2.cap⟩ : Sl)) ⟨hX6.trans hX7 (Nat.le_refl _), hSL, by have h8 := hS6.ext hX7; rw [List.length_append] at h8; exact h8, hu2.2.1, rfl⟩ (fun aa ww h => at_fr ⟨h.f, h.i.pick 1 rfl⟩ ⟨rfl, rfl, rfl, rfl, trivial⟩)
              · refine WHo.so rfl (SO.buildSlice1 Tryz.underlying43 Tryz.sizeOf5 Tryz.zeroValue5 rfl rfl rfl (vs := [_]) rfl rfl rfl) rfl ?_
                rintro _ _ _ ⟨b127, hb127, rfl, rfl, rfl⟩
                refine ⟨(fun _ hI => Inv.nil hI), ?_⟩
                refine WH.one (i := 2) (by kernel_rfl) (WHo.so rfl (SO.appendOw (o := some ⟨b123, 0, []⟩) (len := 0) (n := F.length) (xs := []) (size := 1) [] [_] [_] rfl rfl Tryz.underlying43 Tryz.sizeOf5 Tryz.typeInfo5 Tryz.zeroValue5 rfl rfl rfl rfl (hSF5.rdS btC_len (fun e => by subst e; simp at hbo)) (btC_one _) ⟨hb123, Nat.le_refl _, rfl⟩ rfl (by omega) (by show (2 * (_ + _) + 1000) * 1 ≤ 2 ^ 48; omega) (by omega)) rfl ?_)
                rintro _ _ _ ⟨u1, hu1, rfl, rfl, rfl⟩
                rw [Nat.zero_add] at hu1 ⊢
                rw [List.nil_append]
                refine ⟨(fun _ hI => Inv.nil hI), ?_⟩
                refine WH.one (i := 5) (by kernel_rfl) (WHo.so rfl (SO.appendOw (o := some u1) (len := F.length) (n := 1) (xs := (F.flatMap btC)) (size := 1) [] [_] [_] rfl rfl Tryz.underlying43 Tryz.sizeOf5 Tryz.typeInfo5 Tryz.zeroValue5 rfl rfl rfl rfl ⟨rfl, .inr ⟨_, _, _, rfl, RdN.own (k := 0) (n := 1) rfl rfl⟩⟩ (oneB_spec rfl) hu1 (flat_len btC_len _) (by omega) (by show (2 * (_ + _) + 1000) * 1 ≤ 2 ^ 48; omega) (by omega)) rfl ?_)
                rintro _ _ _ ⟨u2, hu2, rfl, rfl, rfl⟩
                refine ⟨(fun _ hI => Inv.nil hI), ?_⟩
                refine WH.freezeOw (f := btC) (m := 1) btC_len [_] [_] (some u2) 5 (F ++ [by_]) rfl (by rw [List.length_append]; exact hu2) (by rw [List.flatMap_append]; rfl) (fun D6 hX6 hS6 => ?_)
                refine WH.one (i := 13) (by kernel_rfl) (WHo.so rfl (SO.buildSlice1 Tryz.underlying59 Tryz.sizeOf43 Tryz.zeroValue43 rfl rfl rfl (vs := [_, _, _]) rfl rfl rfl) rfl ?_)
                rintro _ _ _ ⟨b136, hb136, rfl, rfl, rfl⟩
                refine ⟨(fun _ hI => Inv.nil (hI.shrink hX6.old)), ?_⟩
                refine WH.yd (i := 14) (by kernel_rfl) (fun _ o v c a w _ h => (QuietPanic.then (QuietPanic.then QuietPanic.body)) c o.dst v a w h) rfl (Yd.lenS rfl Tryz.underlying59 rfl) rfl ?_
                refine WH.nil (by kernel_rfl) ?_
                refine WP.freezeK 0 rfl (fun hn136 => ?_)
                have hX7 := (DExt.refl w D6).add (o := (.cells (([⟨some ⟨u2.b, 0, none⟩, F.length + 1, u2.cap⟩, ⟨a1, F.length - 1, c1⟩, ⟨fromA a1 c1 1 1, F.length - 1, c1 - 1⟩] : List Sl).flatMap slC ++ []).toArray 43 (0, 0))) hn136 hb136
                have hSL : SlL (Imm.add D6 b136 (.cells (([⟨some ⟨u2.b, 0, none⟩, F.length + 1, u2.cap⟩, ⟨a1, F.length - 1, c1⟩, ⟨fromA a1 c1 1 1, F.length - 1, c1 - 1⟩] : List Sl).flatMap slC ++ []).toArray 43 (0, 0))) 1 (([⟨some ⟨u2.b, 0, none⟩, F.length + 1, u2.cap⟩, ⟨a1, F.length - 1, c1⟩, ⟨fromA a1 c1 1 1, F.length - 1, c1 - 1⟩] : List Sl).map slC) (some ⟨b136, 0, none⟩) 3 := SlL.ofBlock (f := slC) (m := 1) (rest := []) (fun _ => rfl) (Imm.add_self _ _ _)
                exact WP.join (Imm.add D6 b136 (.cells (([⟨some ⟨u2.b, 0, none⟩, F.length + 1, u2.cap⟩, ⟨a1, F.length - 1, c1⟩, ⟨fromA a1 c1 1 1, F.length - 1, c1 - 1⟩] : List Sl).flatMap slC ++ []).toArray 43 (0, 0)), b136, (⟨some ⟨u2.b, 0, none⟩, F.length + 1, u2.cap⟩ : Sl)) ⟨hX6.trans hX7 (Nat.le_refl _), hSL, by have h8 := hS6.ext hX7; rw [List.length_append] at h8; exact h8, hu2.2.1, rfl⟩ (fun aa ww h => at_fr ⟨h.f, h.i.pick 1 rfl⟩ ⟨rfl, rfl, rfl, rfl, trivial⟩)
            · refine WHo.so rfl (SO.buildSlice1 Tryz.underlying43 Tryz.sizeOf5 Tryz.zeroValue5 rfl rfl rfl (vs := [_]) rfl rfl rfl) rfl ?_
              rintro _ _ _ ⟨b127, hb127, rfl, rfl, rfl⟩
              refine ⟨(fun _ hI => Inv.nil hI), ?_⟩
              refine WH.one (i := 0) (by kernel_rfl) (WHo.so rfl (SO.buildSlice0 Tryz.underlying43 Tryz.sizeOf5) rfl ?_)
              rintro _ _ _ ⟨b123, hb123, rfl, rfl, rfl⟩
              refine ⟨(fun _ hI => Inv.nil hI), ?_⟩
              refine WH.one (i := 2) (by kernel_rfl) (WHo.so rfl (SO.appendOw (o := some ⟨b123, 0, []⟩) (len := 0) (n := F.length) (xs := []) (size := 1) [] [] [_, _] rfl rfl Tryz.underlying43 Tryz.sizeOf5 Tryz.typeInfo5 Tryz.zeroValue5 rfl rfl rfl rfl (hSF5.rdS btC_len (fun e => by subst e; simp at hbo)) (btC_one _) ⟨hb123, Nat.le_refl _, rfl⟩ rfl (by omega) (by show (2 * (_ + _) + 1000) * 1 ≤ 2 ^ 48; omega) (by omega)) rfl ?_)
              rintro _ _ _ ⟨u1, hu1, rfl, rfl, rfl⟩
              rw [Nat.zero_add] at hu1 ⊢
              rw [List.nil_append]
              refine ⟨(fun _ hI => Inv.nil hI), ?_⟩
              refine WH.one (i := 5) (by kernel_rfl) (WHo.so rfl (SO.appendOw (o := some u1) (len := F.length) (n := 1) (xs := (F.flatMap btC)) (size := 1) [] [] [_, _] rfl rfl Tryz.underlying43 Tryz.sizeOf5 Tryz.typeInfo5 Tryz.zeroValue5 rfl rfl rfl rfl ⟨rfl, .inr ⟨_, _, _, rfl, RdN.own (k := 1) (n := 1) rfl rfl⟩⟩ (oneB_spec rfl) hu1 (flat_len btC_len _) (by omega) (by show (2 * (_ + _) + 1000) * 1 ≤ 2 ^ 48; omega) (by omega)) rfl ?_)
              rintro _ _ _ ⟨u2, hu2, rfl, rfl, rfl⟩
              refine ⟨(fun _ hI => Inv.nil hI), ?_⟩
              refine WH.freezeOw (f := btC) (m := 1) btC_len [] [_, _] (some u2) 5 (F ++ [by_]) rfl (by rw [List.length_append]; exact hu2) (by rw [List.flatMap_append]; rfl) (fun D6 hX6 hS6 => ?_)
              refine WH.one (i := 13) (by kernel_rfl) (WHo.so rfl (SO.buildSlice1 Tryz.underlying59 Tryz.sizeOf43 Tryz.zeroValue43 rfl rfl rfl (vs := [_, _, _]) rfl rfl rfl) rfl ?_)
              rintro _ _ _ ⟨b136, hb136, rfl, rfl, rfl⟩
              refine ⟨(fun _ hI => Inv.nil (hI.shrink hX6.old)), ?_⟩
              refine WH.yd (i := 14) (by kernel_rfl) (fun _ o v c a w _ h => (QuietPanic.then (QuietPanic.then QuietPanic.body)) c o.dst v a w h) rfl (Yd.lenS rfl Tryz.underlying59 rfl) rfl ?_
              refine WH.nil (by kernel_rfl) ?_
              refine WP.freezeK 0 rfl (fun hn136 => ?_)
              have hX7 := (DExt.refl w D6).add (o := (.cells (([⟨some ⟨u2.b, 0, none⟩, F.length + 1, u2.cap⟩, ⟨a1, F.length - 1, c1⟩, ⟨fromA a1 c1 1 1, F.length - 1, c1 - 1⟩] : List Sl).flatMap slC ++ []).toArray 43 (0, 0))) hn136 hb136
              have hSL : SlL (Imm.add D6 b136 (.cells (([⟨some ⟨u2.b, 0, none⟩, F.length + 1, u2.cap⟩, ⟨a1, F.length - 1, c1⟩, ⟨fromA a1 c1 1 1, F.length - 1, c1 - 1⟩] : List Sl).flatMap slC ++ []).toArray 43 (0, 0))) 1 (([⟨some ⟨u2.b, 0, none⟩, F.length + 1, u2.cap⟩, ⟨a1, F.length - 1, c1⟩, ⟨fromA a1 c1 1 1, F.length - 1, c1 - 1⟩] : List Sl).map slC) (some ⟨b136, 0, none⟩) 3 := SlL.ofBlock (f := slC) (m := 1) (rest := []) (fun _ => rfl) (Imm.add_self _ _ _)
              exact WP.join (Imm.add D6 b136 (.cells (([⟨some ⟨u2.b, 0, none⟩, F.length + 1, u2.cap⟩, ⟨a1, F.length - 1, c1⟩, ⟨fromA a1 c1 1 1, F.length - 1, c1 - 1⟩] : List Sl).flatMap slC ++ []).toArray 43 (0, 0)), b136, (⟨some ⟨u2.b, 0, none⟩, F.length + 1, u2.cap⟩ : Sl)) ⟨hX6.trans hX7 (Nat.le_refl _), hSL, by have h8 := hS6.ext hX7; rw [List.length_append] at h8; exact h8, hu2.2.1, rfl⟩ (fun aa ww h => at_fr ⟨h.f, h.i.pick 1 rfl⟩ ⟨rfl, rfl, rfl, rfl, trivial⟩)
        · skip
          refine WC.block (WC.seq (WC.ofFr [(16, _), (15, _), (14, _), (11, _), (10, _), (7, _), (6, _), (3, _), (2, _)] ⟨rfl, rfl, rfl, rfl, rfl, rfl, rfl, rfl, rfl, trivial⟩ (WC.region ?_)))
          refine zym rfl rfl ?_
          refine WL.yd (Yd.neq rfl rfl) rfl ?_
          refine WL.know 77 (.bool false) rfl (congrArg Value.bool (decide_eq_false (fun h9 => h9 ((mend4 hff).2 hfr)))) ?_
          refine zya rfl rfl ?_
          refine WL.nil (WP.thenC ?_)
          refine WC.condF rfl ?_
          refine WC.seq (WC.ofFr [(16, _), (15, _), (14, _), (11, _), (7, _), (6, _), (3, _), (2, _)] ⟨rfl, rfl, rfl, rfl, rfl, rfl, rfl, rfl, trivial⟩ (WC.region ?_))
          refine zym rfl rfl ?_
          refine zym rfl rfl ?_
          refine zym rfl rfl ?_
          refine WL.yd (Yd.indexS Tryz.underlying43 Tryz.sizeOf5 rfl rfl (by omega) (by omega) (by first | exact (hS1'.ext (((hX2.trans hX3 (Nat.le_refl _)).trans hX4 (Nat.le_refl _)).trans hX5 (Nat.le_refl _))).addr (wh % F.length) hat | exact hSL.addr k (by omega))) rfl ?_
          refine WL.yd (Yd.load1 Tryz.isAgg5 rfl (((hS1'.ext (((hX2.trans hX3 (Nat.le_refl _)).trans hX4 (Nat.le_refl _)).trans hX5 (Nat.le_refl _))).at (wh % F.length) hat).rd 0 rfl)) rfl ?_
          refine WL.yd (Yd.eql rfl rfl) rfl ?_
          refine zya rfl rfl ?_
          refine WL.nil (WP.thenC ?_)
          refine WC.cond rfl (fun c78 => ?_) (fun c78 => ?_)
          · try simp only [zq1, zq2, zq3, zq4, zq5, zq6, zq7, zq8] at c78
            have hbe : by_ = gt F (wh % F.length) := byte_eq (by omega)
            have hsp : F.set (wh % F.length) by_ = F := by rw [hbe, set_same hat]
            refine WC.seq (WC.ofFr [(16, _), (15, _), (14, _), (7, _), (6, _), (3, _), (2, _)] ⟨rfl, rfl, rfl, rfl, rfl, rfl, rfl, trivial⟩ (WC.region ?_))
            refine zym rfl rfl ?_
            refine WL.yd (Yd.neq rfl rfl) rfl ?_
            refine WL.know 86 (.bool false) rfl (congrArg Value.bool (decide_eq_false (fun h9 => h9 (by rw [hsp, hrd])))) ?_
            refine zym rfl rfl ?_
            refine WL.ydg rfl (Yd.move rfl) rfl ?_
            refine WL.ydg rfl (Yd.neq rfl rfl) rfl ?_
            refine WL.know 89 (.bool false) rfl (congrArg Value.bool (decide_eq_false (fun h9 => h9 (by rw [hsp]; exact (mend4 hff).2 hfr)))) ?_
            refine WL.yd (Yd.pickF rfl rfl) rfl ?_
            refine zym rfl rfl ?_
            refine WL.ydg rfl (Yd.move rfl) rfl ?_
            refine WL.ydg rfl (Yd.lenS rfl Tryz.underlying43 rfl) rfl ?_
            refine WL.ydg rfl (Yd.neq rfl rfl) rfl ?_
            refine WL.know 94 (.bool false) rfl (congrArg Value.bool (decide_eq_false (fun h9 => h9 (by have h8 := hS5.len'; rw [hsp, mendP_right hff hfr] at h8; simp at h8; omega)))) ?_
            refine WL.yd (Yd.pickF rfl rfl) rfl ?_
            refine WL.nil (WP.thenC ?_)
            refine WC.condF rfl ?_
            refine WC.skip (WP.blkNormal ?_)
            exact WP.join () trivial (fun aa ww h => at_fr ⟨h.f, h.i.tail⟩ ⟨rfl, rfl, rfl, trivial⟩)
          · try simp only [zq1, zq2, zq3, zq4, zq5, zq6, zq7, zq8] at c78
            refine WC.seq (WC.ofFr [(16, _), (15, _), (14, _), (7, _), (6, _), (3, _), (2, _)] ⟨rfl, rfl, rfl, rfl, rfl, rfl, rfl, trivial⟩ (WC.region ?_))
            refine zym rfl rfl ?_
            refine WL.yd (Yd.geq rfl rfl) rfl ?_
            refine zya rfl rfl ?_
            refine WL.nil (WP.thenC ?_)
            refine WC.cond rfl (fun c96 => ?_) (fun c96 => ?_)
            · try simp only [zq1, zq2, zq3, zq4, zq5, zq6, zq7, zq8] at c96
              have h8s : openE (F.set (wh % F.length) by_) = 8 := openE_bad hff hat (by omega)
              refine WC.seq (WC.ofFr [(16, _), (15, _), (14, _), (7, _), (6, _), (3, _), (2, _)] ⟨rfl, rfl, rfl, rfl, rfl, rfl, rfl, trivial⟩ (WC.region ?_))
              refine zym rfl rfl ?_
              refine WL.yd (Yd.neq rfl rfl) rfl ?_
              refine WL.know 100 (.bool false) rfl (congrArg Value.bool (decide_eq_false (fun h9 => h9 (by rw [readH_bad8 h8s])))) ?_
              refine zym rfl rfl ?_
              refine WL.ydg rfl (Yd.move rfl) rfl ?_
              refine WL.ydg rfl (Yd.neq rfl rfl) rfl ?_
              refine WL.know 103 (.bool false) rfl (congrArg Value.bool (decide_eq_false (fun h9 => h9 (by rw [mendP_bad8 h8s])))) ?_
              refine WL.yd (Yd.pickF rfl rfl) rfl ?_
              refine zym rfl rfl ?_
              refine WL.ydg rfl (Yd.move rfl) rfl ?_
              refine WL.ydg rfl (Yd.lenS rfl Tryz.underlying43 rfl) rfl ?_
              refine WL.ydg rfl (Yd.neq rfl rfl) rfl ?_
              refine WL.know 108 (.bool false) rfl (congrArg Value.bool (decide_eq_false (fun h9 => h9 (by have h8 := hS5.len'; rw [mendP_bad8 h8s] at h8; simp at h8; omega)))) ?_
              refine WL.yd (Yd.pickF rfl rfl) rfl ?_
              refine WL.nil (WP.thenC ?_)
              refine WC.condF rfl ?_
              refine WC.skip (WP.blkNormal ?_)
              exact WP.join () trivial (fun aa ww h => at_fr ⟨h.f, h.i.tail⟩ ⟨rfl, rfl, rfl, trivial⟩)
            · try simp only [zq1, zq2, zq3, zq4, zq5, zq6, zq7, zq8] at c96
              have hsc := spoilt_cl hff hfr hat (x := by_) (by omega) (fun e => c78 (by rw [e]))
              refine WC.seq (WC.ofFr [(16, _), (15, _), (14, _), (7, _), (6, _), (3, _), (2, _)] ⟨rfl, rfl, rfl, rfl, rfl, rfl, rfl, trivial⟩ (WC.region ?_))
              refine zym rfl rfl ?_
              refine WL.yd (Yd.neq rfl rfl) rfl ?_
              refine WL.know 112 (.bool false) rfl (congrArg Value.bool (decide_eq_false (fun h9 => h9 (by rw [hsc.1])))) ?_
              refine zym rfl rfl ?_
              refine WL.ydg rfl (Yd.move rfl) rfl ?_
              refine WL.ydg rfl (Yd.neq rfl rfl) rfl ?_
              refine WL.know 115 (.bool false) rfl (congrArg Value.bool (decide_eq_false (fun h9 => h9 (by rw [hsc.2])))) ?_
              refine WL.yd (Yd.pickF rfl rfl) rfl ?_
              refine zym rfl rfl ?_
              refine WL.ydg rfl (Yd.move rfl) rfl ?_
              refine WL.ydg rfl (Yd.move rfl) rfl ?_
              refine WL.sog rfl (SO.callP Tryz.call22 rfl (fun w hI => bytes_g (mendP (F.set (wh % F.length) by_)).1 F a5 a1 n5 F.length c5 c1 D5 hS5 (hS1'.ext (((hX2.trans hX3 (Nat.le_refl _)).trans hX4 (Nat.le_refl _)).trans hX5 (Nat.le_refl _))) _ hI.imm)) rfl ?_
              rintro _ _ _ ⟨rfl, rfl, rfl⟩
              refine WL.ydg rfl (Yd.not rfl) rfl ?_
              refine WL.know 121 (.bool false) rfl (congrArg Value.bool (by rw [show decide ((mendP (F.set (wh % F.length) by_)).1 = F) = true from decide_eq_true (by rw [hsc.2])]; rfl)) ?_
              refine WL.yd (Yd.pickF rfl rfl) rfl ?_
              refine zya rfl rfl ?_
              refine WL.nil (WP.thenC ?_)
              refine WC.condF rfl ?_
              refine WC.skip (WP.blkNormal ?_)
              exact WP.join () trivial (fun aa ww h => at_fr ⟨h.f, h.i.tail⟩ ⟨rfl, rfl, rfl, trivial⟩)

end Go.Proofs.YtaebnllfmkcpgaaGreatDoor
