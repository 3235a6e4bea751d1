import Derived.Test.YtpnbkdlejfmbeaaGreatYZ10
set_option linter.unusedSimpArgs false
set_option linter.unusedVariables false
set_option linter.all false
set_option maxRecDepth 100000
set_option maxHeartbeats 1000000
namespace Go.Proofs.YtpnbkdlejfmbeaaGreat
open Go.W Go.Ti
theorem SA87 : StructAt Tryz.prog 87 [.slice none 0 0, .slice none 0 0] [(0, 1), (1, 1)] := ⟨⟨_, Tryz.zeroValue87, rfl⟩, _, Tryz.underlying87, fun w => by simp [Tryz.sizeOf52]⟩
theorem truths_0 (T : Tks) (hv : tksB T = true) (a1 : Option Addr) (n1 c1 : Nat) (D : Imm) (w : World) (hR : TksR D T a1 n1) (q : TrR) (rows : List TrR) (o : Option Ow) (hl : q.y.length + 0 = T.l.length) (hq : TrOk D q) (hy : ∀ i, i < q.y.length → 0 ≤ (gt q.y i).2 ∧ (gt q.y i).2 ≤ 240) (hO : ∀ r, r ∈ rows → TrOk D r) (ho : owL o rows.length 2) (hL : rows.length + 9 ^ 0 ≤ 59049) (hI0 : Inv D (owH o 87 ((rows).flatMap trC) []) (keys (owH o 87 ((rows).flatMap trC) [])) w w) : AltersN Tryz.prog 102 [.agg #[it T.huts, .slice a1 n1 c1], .agg #[.slice q.a q.y.length q.c, .slice q.d q.y.length q.e], owV o rows.length] w D (keys (owH o 87 ((rows).flatMap trC) [])) (TrK T 0 q.y rows) := by
  unfold AltersN
  obtain rfl := hR.tick.len'
  have hl1 := hR.len
  have hL' : rows.length + 1 ≤ 59049 := hL
  refine enter Tryz.func102 rfl 82 Tryz.ntmps102 (zqb rfl) hI0 ?_
  refine WC.seq (WC.ofFr [(0, _), (1, _), (2, _)] ⟨rfl, rfl, rfl, trivial⟩ (WC.region ?_))
  refine WL.so (SO.box rfl rfl) rfl ?_
  rintro _ _ _ ⟨b3, hb3, rfl, rfl, rfl⟩
  refine WL.so (SO.box rfl rfl) rfl ?_
  rintro _ _ _ ⟨b4, hb4, rfl, rfl, rfl⟩
  refine WL.yd (Yd.assign rfl) rfl ?_
  refine WL.nil (WP.thenC (WC.seq ?_))
  refine WC.freezeN 0 b4 (.cells (List.toArray [.slice q.a q.y.length q.c, .slice q.d q.y.length q.e]) 87 (0, 0)) rfl rfl hb4 (fun D4 hX4 h4 => ?_)
  refine WC.freezeN 0 b3 (.cells (List.toArray [it T.huts, .slice a1 T.l.length c1]) 24 (0, 0)) rfl rfl hb3 (fun D3 hX3 h3 => ?_)
  have hX : DExt w D D3 := hX4.trans hX3 (Nat.le_refl _)
  replace h4 := hX3.old _ _ h4
  replace hR := hR.ext hX
  replace hq := hq.ext hX
  replace hO := fun r hr => (hO r hr).ext hX
  refine WC.ofFr [(6, _), (4, _), (3, _), (2, _)] ⟨rfl, rfl, rfl, rfl, trivial⟩ (WC.region ?_)
  refine WL.yd (Yd.fieldAddr FA87_1 rfl) rfl ?_
  refine WL.yd (Yd.load1 Tryz.isAgg52 rfl (by first | exact ro0 rfl rfl | exact (Rd.imm h4 rfl) | exact (Rd.imm h3 rfl))) rfl ?_
  refine WL.yd (Yd.lenS rfl Tryz.underlying52 rfl) rfl ?_
  refine WL.yd (Yd.assign rfl) rfl ?_
  refine WL.nil (WP.thenC (WC.seq (WC.seq (WC.ofFr [(7, _), (6, _), (4, _), (3, _), (2, _)] ⟨rfl, rfl, rfl, rfl, rfl, trivial⟩ (WC.region ?_)))))
  refine WL.yd (Yd.move rfl) rfl ?_
  refine WL.yd (Yd.fieldAddr FA24_1 rfl) rfl ?_
  refine WL.yd (Yd.load1 Tryz.isAgg22 rfl (by first | exact ro0 rfl rfl | exact (Rd.imm h4 rfl) | exact (Rd.imm h3 rfl))) rfl ?_
  refine WL.yd (Yd.lenS rfl Tryz.underlying22 rfl) rfl ?_
  refine WL.yd (Yd.eql rfl rfl) rfl ?_
  refine WL.nil (WP.thenC ?_)
  refine WC.cond rfl (fun c18 => ?_) (fun c18 => ?_)
  · try simp only [zq1, zq2, zq3, zq4, zq5, zq6, zq7, zq8] at c18
    refine WC.seq (WC.ofFr [(7, _), (6, _), (4, _), (3, _), (2, _)] ⟨rfl, rfl, rfl, rfl, rfl, trivial⟩ (WC.region ?_))
    refine WL.yd (Yd.move rfl) rfl ?_
    refine WL.yd (Yd.loadN Tryz.isAgg87 Tryz.sizeOf87 rfl (vs := [_, _]) rfl (by first | exact rn0 (n := 2) rfl rfl | exact (RdN.imm (n := 2) h4 rfl))) rfl ?_
    refine WL.so (SO.buildSlice Tryz.underlying81 Tryz.sizeOf87 Tryz.zeroValue87 rfl rfl rfl rfl (cs := [_, _]) rfl) rfl ?_
    rintro _ _ _ ⟨b21, hb21, rfl, rfl, rfl⟩
    refine WL.so (SO.appendL (o := o) (len := rows.length) (n := 1) (xs := rows.flatMap trC) (size := 2) [_] [] [] rfl rfl Tryz.underlying81 Tryz.sizeOf87 Tryz.typeInfo87 Tryz.zeroValue87 rfl rfl rfl rfl ⟨rfl, .inr ⟨_, _, _, rfl, RdN.own (k := 0) (n := 2) rfl rfl⟩⟩ (oneB_spec rfl) ho (flat_len trC_len _) (by omega) (by show (2 * (_ + _) + 1000) * 48 ≤ 2 ^ 48; omega) (by omega)) rfl ?_
    rintro _ _ _ ⟨u1, hu1, rfl, rfl, rfl⟩
    refine WL.yd (Yd.assign rfl) rfl ?_
    refine WL.nil (WP.thenC (WC.ret (WP.thenRet ?_)))
    refine WP.ret1 rfl rfl Tryz.results102 (RV.tmp rfl) (fun w1 hI => ⟨_, _, _, rfl, hX, hI, rows ++ [q], some u1, by rw [List.length_append]; rfl, by rw [List.map_append]; rfl, fun r hr => (by rcases List.mem_append.1 hr with h | h; exact hO r h; rw [List.mem_singleton.1 h]; exact hq), by rw [List.length_append]; exact hu1, by rw [List.flatMap_append]; rfl⟩)
  · try simp only [zq1, zq2, zq3, zq4, zq5, zq6, zq7, zq8] at c18
    omega

theorem truths_s (T : Tks) (hv : tksB T = true) (a1 : Option Addr) (n1 c1 : Nat) (rem : Nat) (ih : ∀ (D : Imm) (w : World) (hR : TksR D T a1 n1) (q : TrR) (rows : List TrR) (o : Option Ow) (hl : q.y.length + rem = T.l.length) (hq : TrOk D q) (hy : ∀ i, i < q.y.length → 0 ≤ (gt q.y i).2 ∧ (gt q.y i).2 ≤ 240) (hO : ∀ r, r ∈ rows → TrOk D r) (ho : owL o rows.length 2) (hL : rows.length + 9 ^ rem ≤ 59049) (hI0 : Inv D (owH o 87 ((rows).flatMap trC) []) (keys (owH o 87 ((rows).flatMap trC) [])) w w), AltersN Tryz.prog 102 [.agg #[it T.huts, .slice a1 n1 c1], .agg #[.slice q.a q.y.length q.c, .slice q.d q.y.length q.e], owV o rows.length] w D (keys (owH o 87 ((rows).flatMap trC) [])) (TrK T rem q.y rows)) (D : Imm) (w : World) (hR : TksR D T a1 n1) (q : TrR) (rows : List TrR) (o : Option Ow) (hl : q.y.length + (rem + 1) = T.l.length) (hq : TrOk D q) (hy : ∀ i, i < q.y.length → 0 ≤ (gt q.y i).2 ∧ (gt q.y i).2 ≤ 240) (hO : ∀ r, r ∈ rows → TrOk D r) (ho : owL o rows.length 2) (hL : rows.length + 9 ^ (rem + 1) ≤ 59049) (hI0 : Inv D (owH o 87 ((rows).flatMap trC) []) (keys (owH o 87 ((rows).flatMap trC) [])) w w) : AltersN Tryz.prog 102 [.agg #[it T.huts, .slice a1 n1 c1], .agg #[.slice q.a q.y.length q.c, .slice q.d q.y.length q.e], owV o rows.length] w D (keys (owH o 87 ((rows).flatMap trC) [])) (TrK T (rem + 1) q.y rows) := by
  unfold AltersN
  obtain rfl := hR.tick.len'
  have hl1 := hR.len
  have hnn := (tks_num hv).2.2 q.y.length (by omega)
  refine enter Tryz.func102 rfl 82 Tryz.ntmps102 (zqb rfl) hI0 ?_
  refine WC.seq (WC.ofFr [(0, _), (1, _), (2, _)] ⟨rfl, rfl, rfl, trivial⟩ (WC.region ?_))
  refine WL.so (SO.box rfl rfl) rfl ?_
  rintro _ _ _ ⟨b3, hb3, rfl, rfl, rfl⟩
  refine WL.so (SO.box rfl rfl) rfl ?_
  rintro _ _ _ ⟨b4, hb4, rfl, rfl, rfl⟩
  refine WL.yd (Yd.assign rfl) rfl ?_
  refine WL.nil (WP.thenC (WC.seq ?_))
  refine WC.freezeN 0 b4 (.cells (List.toArray [.slice q.a q.y.length q.c, .slice q.d q.y.length q.e]) 87 (0, 0)) rfl rfl hb4 (fun D4 hX4 h4 => ?_)
  refine WC.freezeN 0 b3 (.cells (List.toArray [it T.huts, .slice a1 T.l.length c1]) 24 (0, 0)) rfl rfl hb3 (fun D3 hX3 h3 => ?_)
  have hX : DExt w D D3 := hX4.trans hX3 (Nat.le_refl _)
  replace h4 := hX3.old _ _ h4
  replace hR := hR.ext hX
  replace hq := hq.ext hX
  replace hO := fun r hr => (hO r hr).ext hX
  refine WC.ofFr [(6, _), (4, _), (3, _), (2, _)] ⟨rfl, rfl, rfl, rfl, trivial⟩ (WC.region ?_)
  refine WL.yd (Yd.fieldAddr FA87_1 rfl) rfl ?_
  refine WL.yd (Yd.load1 Tryz.isAgg52 rfl (by first | exact ro0 rfl rfl | exact (Rd.imm h4 rfl) | exact (Rd.imm h3 rfl) | exact ((hR.tick.at q.y.length (by omega)).rd 0 rfl))) rfl ?_
  refine WL.yd (Yd.lenS rfl Tryz.underlying52 rfl) rfl ?_
  refine WL.yd (Yd.assign rfl) rfl ?_
  refine WL.nil (WP.thenC (WC.seq (WC.seq (WC.ofFr [(7, _), (6, _), (4, _), (3, _), (2, _)] ⟨rfl, rfl, rfl, rfl, rfl, trivial⟩ (WC.region ?_)))))
  refine WL.yd (Yd.move rfl) rfl ?_
  refine WL.yd (Yd.fieldAddr FA24_1 rfl) rfl ?_
  refine WL.yd (Yd.load1 Tryz.isAgg22 rfl (by first | exact ro0 rfl rfl | exact (Rd.imm h4 rfl) | exact (Rd.imm h3 rfl) | exact ((hR.tick.at q.y.length (by omega)).rd 0 rfl))) rfl ?_
  refine WL.yd (Yd.lenS rfl Tryz.underlying22 rfl) rfl ?_
  refine WL.yd (Yd.eql rfl rfl) rfl ?_
  refine WL.nil (WP.thenC ?_)
  refine WC.cond rfl (fun c18 => ?_) (fun c18 => ?_)
  · try simp only [zq1, zq2, zq3, zq4, zq5, zq6, zq7, zq8] at c18
    omega
  · try simp only [zq1, zq2, zq3, zq4, zq5, zq6, zq7, zq8] at c18
    refine WC.skip (WP.thenC (WC.seq (WC.seq (WC.ofFr [(7, _), (6, _), (4, _), (3, _), (2, _)] ⟨rfl, rfl, rfl, rfl, rfl, trivial⟩ (WC.region ?_)))))
    refine WL.yd (Yd.fieldAddr FA24_1 rfl) rfl ?_
    refine WL.yd (Yd.load1 Tryz.isAgg22 rfl (by first | exact ro0 rfl rfl | exact (Rd.imm h4 rfl) | exact (Rd.imm h3 rfl) | exact ((hR.tick.at q.y.length (by omega)).rd 0 rfl))) rfl ?_
    refine WL.yd (Yd.move rfl) rfl ?_
    refine WL.yd (Yd.indexS Tryz.underlying22 Tryz.sizeOf57 rfl rfl (by (try dsimp only); omega) (by (try dsimp only); omega) (by first | exact hR.tick.addr q.y.length (by omega))) rfl ?_
    refine WL.yd (Yd.fieldAddr FA57_0 rfl) rfl ?_
    refine WL.yd (Yd.fieldAddr FA33_0 rfl) rfl ?_
    refine WL.yd (Yd.load1 Tryz.isAgg3 rfl (by first | exact ro0 rfl rfl | exact (Rd.imm h4 rfl) | exact (Rd.imm h3 rfl) | exact ((hR.tick.at q.y.length (by omega)).rd 0 rfl))) rfl ?_
    refine WL.yd (Yd.assign rfl) rfl ?_
    refine WL.nil (WP.thenC (WC.block ?_))
    refine WC.loop (fun y : Nat × List TrR × Option Ow × Imm => [(2, owV y.2.2.1 (y.2.1).length), (3, pt b3), (4, pt b4), (7, nt q.y.length), (8, it ((gt T.l q.y.length).bought.lo + (y.1 : Int)))]) (fun y => owH y.2.2.1 87 ((y.2.1).flatMap trC) []) (fun y => y.2.2.2) (fun y => y.1 ≤ nB T q.y.length ∧ DExt w D3 y.2.2.2 ∧ (∀ r, r ∈ y.2.1 → TrOk y.2.2.2 r) ∧ y.2.1.map TrR.y = rows.map TrR.y ++ goA T (refT T rem) q.y y.1 ∧ owL y.2.2.1 y.2.1.length 2) (fun y => nB T q.y.length - y.1) (0, rows, o, D3) ⟨by omega, DExt.refl _ _, hO, (List.append_nil _).symm, ho⟩ (fun a w h => by rw [show it ((gt T.l q.y.length).bought.lo + ((0 : Nat) : Int)) = it (gt T.l q.y.length).bought.lo from congrArg (Value.int .i64) (Int.add_zero _)]; exact at_fr h ⟨rfl, rfl, rfl, rfl, rfl, trivial⟩) ?_
    rintro ⟨k, rows1, o1, D1⟩ ⟨hk, hX1, hO1, hM1, ho1⟩
    dsimp only at hk hX1 hO1 hM1 ho1
    have h31 := hX1.old _ _ h3
    have h41 := hX1.old _ _ h4
    have hR1 := hR.ext hX1
    refine WC.seq (WC.seq (WC.ofFr [(2, _), (3, _), (4, _), (7, _), (8, _)] ⟨rfl, rfl, rfl, rfl, rfl, trivial⟩ (WC.region ?_)))
    refine WL.yd (Yd.move rfl) rfl ?_
    refine WL.yd (Yd.fieldAddr FA24_1 rfl) rfl ?_
    refine WL.yd (Yd.load1 Tryz.isAgg22 rfl (by first | exact ro0 rfl rfl | exact (Rd.imm h31 rfl) | exact ((hR1.tick.at q.y.length (by omega)).rd 1 rfl) | exact ((hR1.tick.at q.y.length (by omega)).rd 3 rfl))) rfl ?_
    refine WL.yd (Yd.move rfl) rfl ?_
    refine WL.yd (Yd.indexS Tryz.underlying22 Tryz.sizeOf57 rfl rfl (by (try dsimp only); omega) (by (try dsimp only); omega) (by first | exact hR1.tick.addr q.y.length (by omega))) rfl ?_
    refine WL.yd (Yd.fieldAddr FA57_0 rfl) rfl ?_
    refine WL.yd (Yd.fieldAddr FA33_1 rfl) rfl ?_
    refine WL.yd (Yd.load1 Tryz.isAgg3 rfl (by first | exact ro0 rfl rfl | exact (Rd.imm h31 rfl) | exact ((hR1.tick.at q.y.length (by omega)).rd 1 rfl) | exact ((hR1.tick.at q.y.length (by omega)).rd 3 rfl))) rfl ?_
    refine WL.yd (Yd.leq rfl rfl) rfl ?_
    refine WL.nil (WP.thenC ?_)
    refine WC.cond rfl (fun c38 => ?_) (fun c38 => ?_)
    · try simp only [zq1, zq2, zq3, zq4, zq5, zq6, zq7, zq8] at c38
      have hkB : k < nB T q.y.length := by unfold nB; omega
      refine WC.skip (WP.thenC (WC.seq (WC.block (WC.seq (WC.ofFr [(2, _), (3, _), (4, _), (7, _), (8, _)] ⟨rfl, rfl, rfl, rfl, rfl, trivial⟩ (WC.region ?_))))))
      refine WL.yd (Yd.fieldAddr FA24_1 rfl) rfl ?_
      refine WL.yd (Yd.load1 Tryz.isAgg22 rfl (by first | exact ro0 rfl rfl | exact (Rd.imm h31 rfl) | exact ((hR1.tick.at q.y.length (by omega)).rd 1 rfl) | exact ((hR1.tick.at q.y.length (by omega)).rd 3 rfl))) rfl ?_
      refine WL.yd (Yd.move rfl) rfl ?_
      refine WL.yd (Yd.indexS Tryz.underlying22 Tryz.sizeOf57 rfl rfl (by (try dsimp only); omega) (by (try dsimp only); omega) (by first | exact hR1.tick.addr q.y.length (by omega))) rfl ?_
      refine WL.yd (Yd.fieldAddr FA57_2 rfl) rfl ?_
      refine WL.yd (Yd.fieldAddr FA33_0 rfl) rfl ?_
      refine WL.yd (Yd.load1 Tryz.isAgg3 rfl (by first | exact ro0 rfl rfl | exact (Rd.imm h31 rfl) | exact ((hR1.tick.at q.y.length (by omega)).rd 1 rfl) | exact ((hR1.tick.at q.y.length (by omega)).rd 3 rfl))) rfl ?_
      refine WL.yd (Yd.assign rfl) rfl ?_
      refine WL.nil (WP.thenC (WC.block ?_))
      refine WC.loop (fun y : Nat × List TrR × Option Ow × Imm => [(2, owV y.2.2.1 (y.2.1).length), (3, pt b3), (4, pt b4), (7, nt q.y.length), (8, it ((gt T.l q.y.length).bought.lo + (k : Int))), (9, it ((gt T.l q.y.length).door.lo + (y.1 : Int)))]) (fun y => owH y.2.2.1 87 ((y.2.1).flatMap trC) []) (fun y => y.2.2.2) (fun y => y.1 ≤ nD T q.y.length ∧ DExt w D1 y.2.2.2 ∧ (∀ r, r ∈ y.2.1 → TrOk y.2.2.2 r) ∧ y.2.1.map TrR.y = rows.map TrR.y ++ (goA T (refT T rem) q.y k ++ goB T (refT T rem) q.y ((gt T.l q.y.length).bought.lo + (k : Int)) y.1) ∧ owL y.2.2.1 y.2.1.length 2) (fun y => nD T q.y.length - y.1) (0, rows1, o1, D1) ⟨by omega, DExt.refl _ _, hO1, by rw [hM1]; exact congrArg _ (List.append_nil _).symm, ho1⟩ (fun a w h => by rw [show it ((gt T.l q.y.length).door.lo + ((0 : Nat) : Int)) = it (gt T.l q.y.length).door.lo from congrArg (Value.int .i64) (Int.add_zero _)]; exact at_fr h ⟨rfl, rfl, rfl, rfl, rfl, rfl, trivial⟩) ?_
      rintro ⟨j, rows2, o2, D2⟩ ⟨hj, hX2, hO2, hM2, ho2⟩
      dsimp only at hj hX2 hO2 hM2 ho2
      have h32 := hX2.old _ _ h31
      have h42 := hX2.old _ _ h41
      have hR2 := hR1.ext hX2
      have hq2 := (hq.ext hX1).ext hX2
      refine WC.seq (WC.seq (WC.ofFr [(2, _), (3, _), (4, _), (7, _), (8, _), (9, _)] ⟨rfl, rfl, rfl, rfl, rfl, rfl, trivial⟩ (WC.region ?_)))
      refine WL.yd (Yd.move rfl) rfl ?_
      refine WL.yd (Yd.fieldAddr FA24_1 rfl) rfl ?_
      refine WL.yd (Yd.load1 Tryz.isAgg22 rfl (by first | exact ro0 rfl rfl | exact (Rd.imm h32 rfl) | exact (Rd.imm h42 rfl) | exact ((hR2.tick.at q.y.length (by omega)).rd 4 rfl))) rfl ?_
      refine WL.yd (Yd.move rfl) rfl ?_
      refine WL.yd (Yd.indexS Tryz.underlying22 Tryz.sizeOf57 rfl rfl (by (try dsimp only); omega) (by (try dsimp only); omega) (by first | exact hR2.tick.addr q.y.length (by omega))) rfl ?_
      refine WL.yd (Yd.fieldAddr FA57_2 rfl) rfl ?_
      refine WL.yd (Yd.fieldAddr FA33_1 rfl) rfl ?_
      refine WL.yd (Yd.load1 Tryz.isAgg3 rfl (by first | exact ro0 rfl rfl | exact (Rd.imm h32 rfl) | exact (Rd.imm h42 rfl) | exact ((hR2.tick.at q.y.length (by omega)).rd 4 rfl))) rfl ?_
      refine WL.yd (Yd.leq rfl rfl) rfl ?_
      refine WL.nil (WP.thenC ?_)
      refine WC.cond rfl (fun c56 => ?_) (fun c56 => ?_)
      · try simp only [zq1, zq2, zq3, zq4, zq5, zq6, zq7, zq8] at c56
        have hjD : j < nD T q.y.length := by unfold nD; omega
        refine WC.skip (WP.thenC (WC.seq (WC.block (WC.seq (WC.ofFr [(2, _), (3, _), (4, _), (7, _), (8, _), (9, _)] ⟨rfl, rfl, rfl, rfl, rfl, rfl, trivial⟩ ?_)))))
        refine WC.drawH [] (by kernel_rfl) (fun _ hI => hI.none) ?_
        refine WH.yd (i := 1) (by kernel_rfl) (fun _ o v c a w _ h => (QuietPanic.then (QuietPanic.blk (QuietPanic.then (QuietPanic.then (QuietPanic.blk (QuietPanic.blk (QuietPanic.then (QuietPanic.then (QuietPanic.blk (QuietPanic.then QuietPanic.body)))))))))) c o.dst v a w h) rfl (Yd.fieldAddr FA87_0 rfl) rfl ?_
        refine WH.yd (i := 2) (by kernel_rfl) (fun _ o v c a w _ h => (QuietPanic.then (QuietPanic.blk (QuietPanic.then (QuietPanic.then (QuietPanic.blk (QuietPanic.blk (QuietPanic.then (QuietPanic.then (QuietPanic.blk (QuietPanic.then QuietPanic.body)))))))))) c o.dst v a w h) rfl (Yd.load1 Tryz.isAgg52 rfl (by first | exact ro0 rfl rfl | exact (Rd.imm h32 rfl) | exact (Rd.imm h42 rfl) | exact ((hR2.tick.at q.y.length (by omega)).rd 4 rfl))) rfl ?_
        refine WH.yd (i := 4) (by kernel_rfl) (fun _ o v c a w _ h => (QuietPanic.then (QuietPanic.blk (QuietPanic.then (QuietPanic.then (QuietPanic.blk (QuietPanic.blk (QuietPanic.then (QuietPanic.then (QuietPanic.blk (QuietPanic.then QuietPanic.body)))))))))) c o.dst v a w h) rfl (Yd.move rfl) rfl ?_
        refine WH.yd (i := 8) (by kernel_rfl) (fun _ o v c a w _ h => (QuietPanic.then (QuietPanic.blk (QuietPanic.then (QuietPanic.then (QuietPanic.blk (QuietPanic.blk (QuietPanic.then (QuietPanic.then (QuietPanic.blk (QuietPanic.then QuietPanic.body)))))))))) c o.dst v a w h) rfl (Yd.fieldAddr FA87_1 rfl) rfl ?_
        refine WH.yd (i := 9) (by kernel_rfl) (fun _ o v c a w _ h => (QuietPanic.then (QuietPanic.blk (QuietPanic.then (QuietPanic.then (QuietPanic.blk (QuietPanic.blk (QuietPanic.then (QuietPanic.then (QuietPanic.blk (QuietPanic.then QuietPanic.body)))))))))) c o.dst v a w h) rfl (Yd.load1 Tryz.isAgg52 rfl (by first | exact ro0 rfl rfl | exact (Rd.imm h32 rfl) | exact (Rd.imm h42 rfl) | exact ((hR2.tick.at q.y.length (by omega)).rd 4 rfl))) rfl ?_
        refine WH.yd (i := 11) (by kernel_rfl) (fun _ o v c a w _ h => (QuietPanic.then (QuietPanic.blk (QuietPanic.then (QuietPanic.then (QuietPanic.blk (QuietPanic.blk (QuietPanic.then (QuietPanic.then (QuietPanic.blk (QuietPanic.then QuietPanic.body)))))))))) c o.dst v a w h) rfl (Yd.move rfl) rfl ?_
        refine WH.share (fun G hG gH => ?_)
        have s16 : ∀ d fr, St10 [(2, owV o2 rows2.length), (3, pt b3), (4, pt b4), (7, nt q.y.length), (8, it ((gt T.l q.y.length).bought.lo + (k : Int))), (9, it ((gt T.l q.y.length).door.lo + (j : Int))), (61, .slice q.a q.y.length q.c), (68, .slice q.d q.y.length q.e), (63, it ((gt T.l q.y.length).bought.lo + (k : Int))), (70, it ((gt T.l q.y.length).door.lo + (j : Int)))] w q.y.length .c5 true true true true d fr → G (cnt10 .c5 true true true true) (lst10 .c5 true true true true) fr (hp10 q.y ((gt T.l q.y.length).bought.lo + (k : Int)) ((gt T.l q.y.length).door.lo + (j : Int)) (owH o2 87 ((rows2).flatMap trC) []) .c5 true true true true d) := by
          rintro ⟨b59, b64, b66, b71, b10, u61, u65, u69, u72⟩ fr h
          refine hG _ _ _ _ ?_
          have hu65 := h.a.1
          have hu72 := h.cc.1
          have hb10 := (h.e15 rfl).1
          have hb64 := (h.e5 rfl).1
          have hb71 := (h.e12 rfl).1
          dsimp only at hu65 hu72 hb10 hb64 hb71
          obtain ⟨g2, g3, g4, g7, g8, g9, g61, g68, g63, g70, -⟩ := h.base
          refine WH.ofFr [(73, .agg #[owV (some u65) (q.y.length + 1), owV (some u72) (q.y.length + 1)]), (10, pt b10), (2, owV o2 rows2.length), (3, pt b3), (4, pt b4), (7, nt q.y.length), (8, it ((gt T.l q.y.length).bought.lo + (k : Int))), (9, it ((gt T.l q.y.length).door.lo + (j : Int)))] ⟨h.cc.2, (h.e15 rfl).2, g2, g3, g4, g7, g8, g9, trivial⟩ ?_
          refine WH.perm (hp' := (u65.b, .cells (q.y.flatMap fstC ++ [it ((gt T.l q.y.length).bought.lo + (k : Int))] ++ u65.rest).toArray 3 (0, 0)) :: (b64, .cells (List.toArray [it ((gt T.l q.y.length).bought.lo + (k : Int))]) 3 (0, 0)) :: (u72.b, .cells (q.y.flatMap sndC ++ [it ((gt T.l q.y.length).door.lo + (j : Int))] ++ u72.rest).toArray 3 (0, 0)) :: (b71, .cells (List.toArray [it ((gt T.l q.y.length).door.lo + (j : Int))]) 3 (0, 0)) :: (b10, .cells (List.toArray [.slice none 0 0, .slice none 0 0]) 87 (0, 0)) :: (owH o2 87 ((rows2).flatMap trC) [])) (List.Perm.refl _) ?_
          refine WH.one (i := 16) (by kernel_rfl) (WHo.so rfl (SO.store 4 rfl Tryz.sizeOf87 rfl rfl rfl rfl (zqb rfl) (oneB_spec rfl)) rfl ?_)
          rintro _ _ _ ⟨rfl, rfl, rfl⟩
          refine ⟨(fun _ hI => hI.none), ?_⟩
          refine WH.nil (by kernel_rfl) ?_
          refine WP.thenC (WC.seq ?_)
          refine WC.freezeN 0 u65.b (.cells (q.y.flatMap fstC ++ [it ((gt T.l q.y.length).bought.lo + (k : Int))] ++ u65.rest).toArray 3 (0, 0)) rfl rfl hu65.1 (fun D5 hX5 h65 => ?_)
          refine WC.freezeN 1 u72.b (.cells (q.y.flatMap sndC ++ [it ((gt T.l q.y.length).door.lo + (j : Int))] ++ u72.rest).toArray 3 (0, 0)) rfl rfl hu72.1 (fun D7 hX7 h72 => ?_)
          refine WC.freezeN 2 b10 (.cells (List.toArray [.slice (some ⟨u65.b, 0, none⟩) (q.y.length + 1) u65.cap, .slice (some ⟨u72.b, 0, none⟩) (q.y.length + 1) u72.cap]) 87 (0, 0)) rfl rfl hb10 (fun D6 hX6 h10 => ?_)
          replace h65 := hX6.old _ _ (hX7.old _ _ h65)
          replace h72 := hX6.old _ _ h72
          have hXn : DExt w D2 D6 := (hX5.trans hX7 (Nat.le_refl _)).trans hX6 (Nat.le_refl _)
          have h36 := hXn.old _ _ h32
          have hR6 := hR2.ext hXn
          have hO6 : ∀ r, r ∈ rows2 → TrOk D6 r := fun r hr => (hO2 r hr).ext hXn
          have hyl : (q.y ++ [(((gt T.l q.y.length).bought.lo + (k : Int)), ((gt T.l q.y.length).door.lo + (j : Int)))]).length = q.y.length + 1 := by rw [List.length_append]; rfl
          have hq6 : TrOk D6 (⟨some ⟨u65.b, 0, none⟩, u65.cap, some ⟨u72.b, 0, none⟩, u72.cap, q.y ++ [(((gt T.l q.y.length).bought.lo + (k : Int)), ((gt T.l q.y.length).door.lo + (j : Int)))]⟩ : TrR) := ⟨SlL.ofBlock (f := fstC) (l := q.y ++ [(((gt T.l q.y.length).bought.lo + (k : Int)), ((gt T.l q.y.length).door.lo + (j : Int)))]) (rest := u65.rest) fstC_len (by rw [List.flatMap_append]; exact h65), SlL.ofBlock (f := sndC) (l := q.y ++ [(((gt T.l q.y.length).bought.lo + (k : Int)), ((gt T.l q.y.length).door.lo + (j : Int)))]) (rest := u72.rest) sndC_len (by rw [List.flatMap_append]; exact h72)⟩
          have hy6 : ∀ i, i < (q.y ++ [(((gt T.l q.y.length).bought.lo + (k : Int)), ((gt T.l q.y.length).door.lo + (j : Int)))]).length → 0 ≤ (gt (q.y ++ [(((gt T.l q.y.length).bought.lo + (k : Int)), ((gt T.l q.y.length).door.lo + (j : Int)))]) i).2 ∧ (gt (q.y ++ [(((gt T.l q.y.length).bought.lo + (k : Int)), ((gt T.l q.y.length).door.lo + (j : Int)))]) i).2 ≤ 240 := fun i hi => by
            by_cases e : i < q.y.length
            · rw [gt_app_left e]; exact hy i e
            · rw [show i = q.y.length by omega, gt_last]; simp only; omega
          refine WC.ofFr [(10, _), (2, _), (3, _), (4, _), (7, _), (8, _), (9, _)] ⟨rfl, rfl, rfl, rfl, rfl, rfl, rfl, trivial⟩ (WC.region ?_)
          refine WL.yd (Yd.loadN Tryz.isAgg24 Tryz.sizeOf24 rfl (vs := [_, _]) rfl (by first | exact rn0 (n := 2) rfl rfl | exact rn1 (n := 2) rfl rfl | exact rn2 (n := 2) rfl rfl | exact (RdN.imm (n := 2) h36 rfl) | exact (RdN.imm (n := 2) h10 rfl))) rfl ?_
          refine WL.yd (Yd.loadN Tryz.isAgg87 Tryz.sizeOf87 rfl (vs := [_, _]) rfl (by first | exact rn0 (n := 2) rfl rfl | exact rn1 (n := 2) rfl rfl | exact rn2 (n := 2) rfl rfl | exact (RdN.imm (n := 2) h36 rfl) | exact (RdN.imm (n := 2) h10 rfl))) rfl ?_
          refine WL.know 75 (.agg #[.slice (⟨some ⟨u65.b, 0, none⟩, u65.cap, some ⟨u72.b, 0, none⟩, u72.cap, q.y ++ [(((gt T.l q.y.length).bought.lo + (k : Int)), ((gt T.l q.y.length).door.lo + (j : Int)))]⟩ : TrR).a (⟨some ⟨u65.b, 0, none⟩, u65.cap, some ⟨u72.b, 0, none⟩, u72.cap, q.y ++ [(((gt T.l q.y.length).bought.lo + (k : Int)), ((gt T.l q.y.length).door.lo + (j : Int)))]⟩ : TrR).y.length (⟨some ⟨u65.b, 0, none⟩, u65.cap, some ⟨u72.b, 0, none⟩, u72.cap, q.y ++ [(((gt T.l q.y.length).bought.lo + (k : Int)), ((gt T.l q.y.length).door.lo + (j : Int)))]⟩ : TrR).c, .slice (⟨some ⟨u65.b, 0, none⟩, u65.cap, some ⟨u72.b, 0, none⟩, u72.cap, q.y ++ [(((gt T.l q.y.length).bought.lo + (k : Int)), ((gt T.l q.y.length).door.lo + (j : Int)))]⟩ : TrR).d (⟨some ⟨u65.b, 0, none⟩, u65.cap, some ⟨u72.b, 0, none⟩, u72.cap, q.y ++ [(((gt T.l q.y.length).bought.lo + (k : Int)), ((gt T.l q.y.length).door.lo + (j : Int)))]⟩ : TrR).y.length (⟨some ⟨u65.b, 0, none⟩, u65.cap, some ⟨u72.b, 0, none⟩, u72.cap, q.y ++ [(((gt T.l q.y.length).bought.lo + (k : Int)), ((gt T.l q.y.length).door.lo + (j : Int)))]⟩ : TrR).e]) rfl (by show _ = Value.agg #[.slice (some ⟨u65.b, 0, none⟩) (q.y ++ [(((gt T.l q.y.length).bought.lo + (k : Int)), ((gt T.l q.y.length).door.lo + (j : Int)))]).length u65.cap, .slice (some ⟨u72.b, 0, none⟩) (q.y ++ [(((gt T.l q.y.length).bought.lo + (k : Int)), ((gt T.l q.y.length).door.lo + (j : Int)))]).length u72.cap]; rw [hyl]) ?_
          refine WL.so (SO.callP Tryz.call110 rfl (fun w hI => fits_g T a1 _ c1 _ _ hR6 hI.imm (⟨some ⟨u65.b, 0, none⟩, u65.cap, some ⟨u72.b, 0, none⟩, u72.cap, q.y ++ [(((gt T.l q.y.length).bought.lo + (k : Int)), ((gt T.l q.y.length).door.lo + (j : Int)))]⟩ : TrR) hq6 (by show 0 < (q.y ++ [(((gt T.l q.y.length).bought.lo + (k : Int)), ((gt T.l q.y.length).door.lo + (j : Int)))]).length; omega) (by show (q.y ++ [(((gt T.l q.y.length).bought.lo + (k : Int)), ((gt T.l q.y.length).door.lo + (j : Int)))]).length ≤ _; omega) hy6)) rfl ?_
          rintro _ _ _ ⟨rfl, rfl, rfl⟩
          refine WL.nil (WP.thenC ?_)
          refine WC.cond rfl (fun c76 => ?_) (fun c76 => ?_)
          · try simp only [zq1, zq2, zq3, zq4, zq5, zq6, zq7, zq8] at c76
            refine WC.ofFr [(10, _), (2, _), (3, _), (4, _), (7, _), (8, _), (9, _)] ⟨rfl, rfl, rfl, rfl, rfl, rfl, rfl, trivial⟩ (WC.region ?_)
            refine WL.yd (Yd.loadN Tryz.isAgg24 Tryz.sizeOf24 rfl (vs := [_, _]) rfl (by first | exact rn0 (n := 2) rfl rfl | exact rn1 (n := 2) rfl rfl | exact rn2 (n := 2) rfl rfl | exact (RdN.imm (n := 2) h36 rfl) | exact (RdN.imm (n := 2) h10 rfl))) rfl ?_
            refine WL.yd (Yd.loadN Tryz.isAgg87 Tryz.sizeOf87 rfl (vs := [_, _]) rfl (by first | exact rn0 (n := 2) rfl rfl | exact rn1 (n := 2) rfl rfl | exact rn2 (n := 2) rfl rfl | exact (RdN.imm (n := 2) h36 rfl) | exact (RdN.imm (n := 2) h10 rfl))) rfl ?_
            refine WL.know 78 (.agg #[.slice (⟨some ⟨u65.b, 0, none⟩, u65.cap, some ⟨u72.b, 0, none⟩, u72.cap, q.y ++ [(((gt T.l q.y.length).bought.lo + (k : Int)), ((gt T.l q.y.length).door.lo + (j : Int)))]⟩ : TrR).a (⟨some ⟨u65.b, 0, none⟩, u65.cap, some ⟨u72.b, 0, none⟩, u72.cap, q.y ++ [(((gt T.l q.y.length).bought.lo + (k : Int)), ((gt T.l q.y.length).door.lo + (j : Int)))]⟩ : TrR).y.length (⟨some ⟨u65.b, 0, none⟩, u65.cap, some ⟨u72.b, 0, none⟩, u72.cap, q.y ++ [(((gt T.l q.y.length).bought.lo + (k : Int)), ((gt T.l q.y.length).door.lo + (j : Int)))]⟩ : TrR).c, .slice (⟨some ⟨u65.b, 0, none⟩, u65.cap, some ⟨u72.b, 0, none⟩, u72.cap, q.y ++ [(((gt T.l q.y.length).bought.lo + (k : Int)), ((gt T.l q.y.length).door.lo + (j : Int)))]⟩ : TrR).d (⟨some ⟨u65.b, 0, none⟩, u65.cap, some ⟨u72.b, 0, none⟩, u72.cap, q.y ++ [(((gt T.l q.y.length).bought.lo + (k : Int)), ((gt T.l q.y.length).door.lo + (j : Int)))]⟩ : TrR).y.length (⟨some ⟨u65.b, 0, none⟩, u65.cap, some ⟨u72.b, 0, none⟩, u72.cap, q.y ++ [(((gt T.l q.y.length).bought.lo + (k : Int)), ((gt T.l q.y.length).door.lo + (j : Int)))]⟩ : TrR).e]) rfl (by show _ = Value.agg #[.slice (some ⟨u65.b, 0, none⟩) (q.y ++ [(((gt T.l q.y.length).bought.lo + (k : Int)), ((gt T.l q.y.length).door.lo + (j : Int)))]).length u65.cap, .slice (some ⟨u72.b, 0, none⟩) (q.y ++ [(((gt T.l q.y.length).bought.lo + (k : Int)), ((gt T.l q.y.length).door.lo + (j : Int)))]).length u72.cap]; rw [hyl]) ?_
            refine WL.yd (Yd.move rfl) rfl ?_
            refine WL.so (SO.altersN (own := [_, _]) (hpc := owH o2 87 ((rows2).flatMap trC) []) (S1 := keys (owH o2 87 ((rows2).flatMap trC) [])) (fun e he => he) (fun h => h) (fun _ h => h) (fun _ h => h) (Enters.func Tryz.call102 rfl) (fun w1 hI => ih _ w1 hR6 (⟨some ⟨u65.b, 0, none⟩, u65.cap, some ⟨u72.b, 0, none⟩, u72.cap, q.y ++ [(((gt T.l q.y.length).bought.lo + (k : Int)), ((gt T.l q.y.length).door.lo + (j : Int)))]⟩ : TrR) rows2 o2 (by show (q.y ++ [(((gt T.l q.y.length).bought.lo + (k : Int)), ((gt T.l q.y.length).door.lo + (j : Int)))]).length + rem = _; omega) hq6 hy6 hO6 ho2 (by have h9 := go_len hv (a := ((gt T.l q.y.length).bought.lo + (k : Int))) (R := rows.length) hl hkB hjD hL; have h8 := rowY_len hM2; rw [List.length_append, ← Nat.add_assoc] at h8; omega) hI)) rfl ?_
            rintro _ D8 _ ⟨_, hX8, ⟨rows8, o8, rfl, hM8, hO8, ho8, rfl⟩, rfl⟩
            refine WL.yd (Yd.assign rfl) rfl ?_
            refine WL.nil (WP.blkNormal (WP.thenC (WC.ofFr [(2, _), (3, _), (4, _), (7, _), (8, _), (9, _)] ⟨rfl, rfl, rfl, rfl, rfl, rfl, trivial⟩ (WC.region ?_))))
            refine WL.yd (Yd.move rfl) rfl ?_
            refine WL.yd (Yd.add rfl rfl (wr64 ⟨by (try dsimp only); omega, by (try dsimp only); omega⟩)) rfl ?_
            refine WL.yd (Yd.assign rfl) rfl ?_
            refine WL.nil ?_
            first
              | (refine WP.again (⟨j + 1, rows8, o8, D8⟩ : Nat × List TrR × Option Ow × Imm) ⟨by simp only; omega, (hX2.trans hXn (Nat.le_refl _)).trans hX8 (Nat.le_refl _), hO8, by show _ = rows.map TrR.y ++ (goA T (refT T rem) q.y k ++ goB T (refT T rem) q.y ((gt T.l q.y.length).bought.lo + (k : Int)) (j + 1)); rw [goB_succ, if_pos c76, hM8, hM2, List.append_assoc, List.append_assoc], ho8⟩ (by simp only; omega) (fun aa ww h => ?_)
                 show At _ [(2, owV o8 (rows8).length), (3, pt b3), (4, pt b4), (7, nt q.y.length), (8, it ((gt T.l q.y.length).bought.lo + (k : Int))), (9, it ((gt T.l q.y.length).door.lo + (((j + 1 : Nat) : Int) : Int)))] D8 (owH o8 87 ((rows8).flatMap trC) []) aa ww
                 rw [show (gt T.l q.y.length).door.lo + (((j + 1 : Nat) : Int) : Int) = (gt T.l q.y.length).door.lo + (j : Int) + 1 by omega]
                 exact at_less h ⟨rfl, rfl, rfl, rfl, rfl, rfl, trivial⟩ (fun _ h => .tail _ (.tail _ h)) (fun h => (List.nodup_cons.1 (List.nodup_cons.1 h).2).2))
              | (refine WP.again (⟨j + 1, rows2, o2, D6⟩ : Nat × List TrR × Option Ow × Imm) ⟨by simp only; omega, hX2.trans hXn (Nat.le_refl _), hO6, by show _ = rows.map TrR.y ++ (goA T (refT T rem) q.y k ++ goB T (refT T rem) q.y ((gt T.l q.y.length).bought.lo + (k : Int)) (j + 1)); rw [goB_succ, if_neg (by rw [c76]; simp), List.append_nil, hM2], ho2⟩ (by simp only; omega) (fun aa ww h => ?_)
                 show At _ [(2, owV o2 (rows2).length), (3, pt b3), (4, pt b4), (7, nt q.y.length), (8, it ((gt T.l q.y.length).bought.lo + (k : Int))), (9, it ((gt T.l q.y.length).door.lo + (((j + 1 : Nat) : Int) : Int)))] D6 (owH o2 87 ((rows2).flatMap trC) []) aa ww
                 rw [show (gt T.l q.y.length).door.lo + (((j + 1 : Nat) : Int) : Int) = (gt T.l q.y.length).door.lo + (j : Int) + 1 by omega]
                 exact at_less h ⟨rfl, rfl, rfl, rfl, rfl, rfl, trivial⟩ (fun _ h => .tail _ (.tail _ h)) (fun h => (List.nodup_cons.1 (List.nodup_cons.1 h).2).2))
          · try simp only [zq1, zq2, zq3, zq4, zq5, zq6, zq7, zq8] at c76
            refine WC.skip (WP.blkNormal (WP.thenC (WC.ofFr [(2, _), (3, _), (4, _), (7, _), (8, _), (9, _)] ⟨rfl, rfl, rfl, rfl, rfl, rfl, trivial⟩ (WC.region ?_))))
            refine WL.yd (Yd.move rfl) rfl ?_
            refine WL.yd (Yd.add rfl rfl (wr64 ⟨by (try dsimp only); omega, by (try dsimp only); omega⟩)) rfl ?_
            refine WL.yd (Yd.assign rfl) rfl ?_
            refine WL.nil ?_
            first
              | (refine WP.again (⟨j + 1, rows8, o8, D8⟩ : Nat × List TrR × Option Ow × Imm) ⟨by simp only; omega, (hX2.trans hXn (Nat.le_refl _)).trans hX8 (Nat.le_refl _), hO8, by show _ = rows.map TrR.y ++ (goA T (refT T rem) q.y k ++ goB T (refT T rem) q.y ((gt T.l q.y.length).bought.lo + (k : Int)) (j + 1)); rw [goB_succ, if_pos c76, hM8, hM2, List.append_assoc, List.append_assoc], ho8⟩ (by simp only; omega) (fun aa ww h => ?_)
                 show At _ [(2, owV o8 (rows8).length), (3, pt b3), (4, pt b4), (7, nt q.y.length), (8, it ((gt T.l q.y.length).bought.lo + (k : Int))), (9, it ((gt T.l q.y.length).door.lo + (((j + 1 : Nat) : Int) : Int)))] D8 (owH o8 87 ((rows8).flatMap trC) []) aa ww
                 rw [show (gt T.l q.y.length).door.lo + (((j + 1 : Nat) : Int) : Int) = (gt T.l q.y.length).door.lo + (j : Int) + 1 by omega]
                 exact at_less h ⟨rfl, rfl, rfl, rfl, rfl, rfl, trivial⟩ (fun _ h => .tail _ (.tail _ h)) (fun h => (List.nodup_cons.1 (List.nodup_cons.1 h).2).2))
              | (refine WP.again (⟨j + 1, rows2, o2, D6⟩ : Nat × List TrR × Option Ow × Imm) ⟨by simp only; omega, hX2.trans hXn (Nat.le_refl _), hO6, by show _ = rows.map TrR.y ++ (goA T (refT T rem) q.y k ++ goB T (refT T rem) q.y ((gt T.l q.y.length).bought.lo + (k : Int)) (j + 1)); rw [goB_succ, if_neg (by rw [c76]; simp), List.append_nil, hM2], ho2⟩ (by simp only; omega) (fun aa ww h => ?_)
                 show At _ [(2, owV o2 (rows2).length), (3, pt b3), (4, pt b4), (7, nt q.y.length), (8, it ((gt T.l q.y.length).bought.lo + (k : Int))), (9, it ((gt T.l q.y.length).door.lo + (((j + 1 : Nat) : Int) : Int)))] D6 (owH o2 87 ((rows2).flatMap trC) []) aa ww
                 rw [show (gt T.l q.y.length).door.lo + (((j + 1 : Nat) : Int) : Int) = (gt T.l q.y.length).door.lo + (j : Int) + 1 by omega]
                 exact at_less h ⟨rfl, rfl, rfl, rfl, rfl, rfl, trivial⟩ (fun _ h => .tail _ (.tail _ h)) (fun h => (List.nodup_cons.1 (List.nodup_cons.1 h).2).2))
        have key : ∀ (m : Nat) (c : Ch10) (f5 f7 f12 f15 : Bool) (d : D10) (fr : Fr) (hp : Hp), cnt10 c f5 f7 f12 f15 = m → val10 c f5 f7 f12 = true → St10 [(2, owV o2 rows2.length), (3, pt b3), (4, pt b4), (7, nt q.y.length), (8, it ((gt T.l q.y.length).bought.lo + (k : Int))), (9, it ((gt T.l q.y.length).door.lo + (j : Int))), (61, .slice q.a q.y.length q.c), (68, .slice q.d q.y.length q.e), (63, it ((gt T.l q.y.length).bought.lo + (k : Int))), (70, it ((gt T.l q.y.length).door.lo + (j : Int)))] w q.y.length c f5 f7 f12 f15 d fr → hp.Perm (hp10 q.y ((gt T.l q.y.length).bought.lo + (k : Int)) ((gt T.l q.y.length).door.lo + (j : Int)) (owH o2 87 ((rows2).flatMap trC) []) c f5 f7 f12 f15 d) → G m (lst10 c f5 f7 f12 f15) fr hp := by
          intro m
          induction m using Nat.strongRecOn with
          | ind m ih =>
            intro c f5 f7 f12 f15 d fr hp hm hvl h hk
            refine hG _ _ _ _ (WH.perm hk ?_)
            obtain ⟨g2, g3, g4, g7, g8, g9, g61, g68, g63, g70, -⟩ := h.base
            rcases fin10 c f5 f7 f12 f15 with ⟨rfl, rfl, rfl, rfl, rfl⟩ | hn
            · subst hm; exact gH _ _ _ _ (s16 d fr h)
            cases m with
            | zero => exact absurd hm (by cases c <;> cases f5 <;> cases f7 <;> cases f12 <;> cases f15 <;> first | decide)
            | succ m =>
              refine WH.allM (rdy10 c f5 f7 f12 f15) ?_ ?_ ?_
              · cases c <;> cases f5 <;> cases f7 <;> cases f12 <;> cases f15 <;> first
                  | exact absurd hvl (by decide)
                  | exact absurd hn (by decide)
                  | kernel_rfl
              · cases c <;> cases f5 <;> cases f7 <;> cases f12 <;> cases f15 <;> first
                  | exact absurd hvl (by decide)
                  | exact absurd hn (by decide)
                  | decide
              · intro i hi
                rcases rdy_cases hvl i hi with ⟨rfl, rfl⟩ | ⟨rfl, rfl⟩ | ⟨rfl, rfl⟩ | ⟨rfl, rfl, rfl⟩ | ⟨rfl, rfl, hc4⟩ | ⟨rfl, rfl, rfl, rfl⟩ | ⟨rfl, rfl⟩ | ⟨rfl, rfl, rfl, rfl, rfl⟩ | ⟨rfl, rfl⟩ | ⟨rfl, q1, rfl, rfl, rfl, rfl⟩
                · refine WHo.so rfl (SO.buildSlice0 Tryz.underlying52 Tryz.sizeOf3) rfl ?_
                  rintro _ _ _ ⟨b, hb, rfl, rfl, rfl⟩
                  have z := go0 (y := q.y) (A := ((gt T.l q.y.length).bought.lo + (k : Int))) (B := ((gt T.l q.y.length).door.lo + (j : Int))) (T := (owH o2 87 ((rows2).flatMap trC) [])) h h.base hb
                  exact ⟨fun _ hI => hI.none, WH.perm z.2 (gH _ _ _ _ (ih m (Nat.lt_succ_self m) _ _ _ _ _ _ _ _ (by have h9 := (cnt_c (f5 := f5) (f7 := f7) (f12 := f12) (f15 := f15)).1; omega) (by revert hvl; cases f5 <;> cases f7 <;> cases f12 <;> decide) z.1 (List.Perm.refl _)))⟩
                · refine WHo.so rfl (SO.appendAll fstC_len fstC_ones (l := q.y) [] _ rfl rfl Tryz.underlying52 Tryz.sizeOf3 Tryz.typeInfo3 Tryz.zeroValue3 rfl h.a.2 g61 rfl h.a.1 hq2.b (by show (2 * (_ + _) + 1000) * 8 ≤ 2 ^ 48; omega) (by omega)) rfl ?_
                  rintro _ _ _ ⟨u, hb, rfl, rfl, rfl⟩
                  have z := go3 (y := q.y) (A := ((gt T.l q.y.length).bought.lo + (k : Int))) (B := ((gt T.l q.y.length).door.lo + (j : Int))) (T := (owH o2 87 ((rows2).flatMap trC) [])) h h.base hb
                  exact ⟨fun _ hI => hI.none, WH.perm z.2 (gH _ _ _ _ (ih m (Nat.lt_succ_self m) _ _ _ _ _ _ _ _ (by have h9 := (cnt_c (f5 := f5) (f7 := f7) (f12 := f12) (f15 := f15)).2.1; omega) (by revert hvl; cases f5 <;> cases f7 <;> cases f12 <;> decide) z.1 (List.Perm.refl _)))⟩
                · refine WHo.so rfl (SO.buildSlice Tryz.underlying52 Tryz.sizeOf3 Tryz.zeroValue3 rfl rfl rfl (opps1 g63) (cs := [_]) rfl) rfl ?_
                  rintro _ _ _ ⟨b, hb, rfl, rfl, rfl⟩
                  have z := go5 (y := q.y) (A := ((gt T.l q.y.length).bought.lo + (k : Int))) (B := ((gt T.l q.y.length).door.lo + (j : Int))) (T := (owH o2 87 ((rows2).flatMap trC) [])) h h.base hb
                  exact ⟨fun _ hI => hI.none, WH.perm z.2 (gH _ _ _ _ (ih m (Nat.lt_succ_self m) _ _ _ _ _ _ _ _ (by have h9 := cnt_5 (c := c) (f7 := f7) (f12 := f12) (f15 := f15); omega) (val_5 hvl) z.1 (List.Perm.refl _)))⟩
                · refine WHo.so rfl (SO.appendSome (o := d.u61) (len := q.y.length) (n := 1) (xs := q.y.flatMap fstC) (ys := [it ((gt T.l q.y.length).bought.lo + (k : Int))]) (size := 1) [] _ rfl rfl Tryz.underlying52 Tryz.sizeOf3 Tryz.typeInfo3 Tryz.zeroValue3 rfl h.a.2 (h.e5 rfl).2 rfl ⟨rfl, .inr ⟨_, _, _, rfl, RdN.own (k := 1) (n := 1) rfl rfl⟩⟩ (oneB_spec rfl) h.a.1 (flat_len fstC_len _) (by show (2 * (_ + _) + 1000) * 8 ≤ 2 ^ 48; omega) (by omega)) rfl ?_
                  rintro _ _ _ ⟨u, hb, rfl, rfl, rfl⟩
                  have z := go6 (y := q.y) (A := ((gt T.l q.y.length).bought.lo + (k : Int))) (B := ((gt T.l q.y.length).door.lo + (j : Int))) (T := (owH o2 87 ((rows2).flatMap trC) [])) h h.base hb
                  exact ⟨fun _ hI => hI.none, WH.perm z.2 (gH _ _ _ _ (ih m (Nat.lt_succ_self m) _ _ _ _ _ _ _ _ (by have h9 := (cnt_c (f5 := true) (f7 := f7) (f12 := f12) (f15 := f15)).2.2.1; omega) (by revert hvl; cases f7 <;> cases f12 <;> decide) z.1 (List.Perm.refl _)))⟩
                · refine WHo.so rfl (SO.buildSlice0 Tryz.underlying52 Tryz.sizeOf3) rfl ?_
                  rintro _ _ _ ⟨b, hb, rfl, rfl, rfl⟩
                  have z := go7 (y := q.y) (A := ((gt T.l q.y.length).bought.lo + (k : Int))) (B := ((gt T.l q.y.length).door.lo + (j : Int))) (T := (owH o2 87 ((rows2).flatMap trC) [])) h hc4 h.base hb
                  exact ⟨fun _ hI => hI.none, WH.perm z.2 (gH _ _ _ _ (ih m (Nat.lt_succ_self m) _ _ _ _ _ _ _ _ (by have h9 := cnt_7 (c := c) (f5 := f5) (f12 := f12) (f15 := f15); omega) (val_7 hvl) z.1 (List.Perm.refl _)))⟩
                · refine WHo.so rfl (SO.appendAll sndC_len sndC_ones (l := q.y) [_, _] _ rfl rfl Tryz.underlying52 Tryz.sizeOf3 Tryz.typeInfo3 Tryz.zeroValue3 rfl h.cc.2 g68 rfl h.cc.1 hq2.d (by show (2 * (_ + _) + 1000) * 8 ≤ 2 ^ 48; omega) (by omega)) rfl ?_
                  rintro _ _ _ ⟨u, hb, rfl, rfl, rfl⟩
                  have z := go10 (y := q.y) (A := ((gt T.l q.y.length).bought.lo + (k : Int))) (B := ((gt T.l q.y.length).door.lo + (j : Int))) (T := (owH o2 87 ((rows2).flatMap trC) [])) h h.base hb
                  exact ⟨fun _ hI => hI.none, WH.perm z.2 (gH _ _ _ _ (ih m (Nat.lt_succ_self m) _ _ _ _ _ _ _ _ (by have h9 := (cnt_c (f5 := true) (f7 := true) (f12 := f12) (f15 := f15)).2.2.2.1; omega) (by revert hvl; cases f12 <;> decide) z.1 (List.Perm.refl _)))⟩
                · refine WHo.so rfl (SO.buildSlice Tryz.underlying52 Tryz.sizeOf3 Tryz.zeroValue3 rfl rfl rfl (opps1 g70) (cs := [_]) rfl) rfl ?_
                  rintro _ _ _ ⟨b, hb, rfl, rfl, rfl⟩
                  have z := go12 (y := q.y) (A := ((gt T.l q.y.length).bought.lo + (k : Int))) (B := ((gt T.l q.y.length).door.lo + (j : Int))) (T := (owH o2 87 ((rows2).flatMap trC) [])) h h.base hb
                  exact ⟨fun _ hI => hI.none, WH.perm z.2 (gH _ _ _ _ (ih m (Nat.lt_succ_self m) _ _ _ _ _ _ _ _ (by have h9 := cnt_12 (c := c) (f5 := f5) (f7 := f7) (f15 := f15); omega) (val_12 hvl) z.1 (List.Perm.refl _)))⟩
                · refine WHo.so rfl (SO.appendSome (o := d.u69) (len := q.y.length) (n := 1) (xs := q.y.flatMap sndC) (ys := [it ((gt T.l q.y.length).door.lo + (j : Int))]) (size := 1) [_, _] _ rfl rfl Tryz.underlying52 Tryz.sizeOf3 Tryz.typeInfo3 Tryz.zeroValue3 rfl h.cc.2 (h.e12 rfl).2 rfl ⟨rfl, .inr ⟨_, _, _, rfl, RdN.own (k := 3) (n := 1) rfl rfl⟩⟩ (oneB_spec rfl) h.cc.1 (flat_len sndC_len _) (by show (2 * (_ + _) + 1000) * 8 ≤ 2 ^ 48; omega) (by omega)) rfl ?_
                  rintro _ _ _ ⟨u, hb, rfl, rfl, rfl⟩
                  refine ⟨fun _ hI => hI.none, ?_⟩
                  obtain ⟨m, rfl⟩ : ∃ m1, m = m1 + 1 := ⟨m - 1, by have h9 := (cnt_c (f5 := true) (f7 := true) (f12 := true) (f15 := f15)).2.2.2.2; omega⟩
                  refine WH.yd (i := 14) (by cases f15 <;> kernel_rfl) (fun _ o v c a w _ h => (QuietPanic.then (QuietPanic.blk (QuietPanic.then (QuietPanic.then (QuietPanic.blk (QuietPanic.blk (QuietPanic.then (QuietPanic.then (QuietPanic.blk (QuietPanic.then QuietPanic.body)))))))))) c o.dst v a w h) rfl (Yd.build SA87 (opps2 h.a.2 rfl) (cs := [_, _]) rfl) rfl ?_
                  have z := go13 (y := q.y) (A := ((gt T.l q.y.length).bought.lo + (k : Int))) (B := ((gt T.l q.y.length).door.lo + (j : Int))) (T := (owH o2 87 ((rows2).flatMap trC) [])) h h.base hb
                  exact WH.perm z.2 (gH _ _ _ _ (ih m (by omega) _ _ _ _ _ _ _ _ (by have h9 := (cnt_c (f5 := true) (f7 := true) (f12 := true) (f15 := f15)).2.2.2.2; omega) rfl z.1 (List.Perm.refl _)))
                · refine WHo.so rfl (SO.alloc Tryz.zeroValue87 rfl) rfl ?_
                  rintro _ _ _ ⟨b, hb, rfl, rfl, rfl⟩
                  have z := go15 (y := q.y) (A := ((gt T.l q.y.length).bought.lo + (k : Int))) (B := ((gt T.l q.y.length).door.lo + (j : Int))) (T := (owH o2 87 ((rows2).flatMap trC) [])) h h.base hb
                  exact ⟨fun _ hI => hI.none, WH.perm z.2 (gH _ _ _ _ (ih m (Nat.lt_succ_self m) _ _ _ _ _ _ _ _ (by have h9 := cnt_15 (c := c) (f5 := f5) (f7 := f7) (f12 := f12); omega) hvl z.1 (List.Perm.refl _)))⟩
                · rw [q1] at hn; cases hn
        exact key _ .c0 false false false false ⟨0, 0, 0, 0, 0, ⟨0, 0, []⟩, ⟨0, 0, []⟩, ⟨0, 0, []⟩, ⟨0, 0, []⟩⟩ _ _ rfl rfl ⟨⟨rfl, rfl, rfl, rfl, rfl, rfl, rfl, rfl, rfl, rfl, trivial⟩, trivial, (fun h => nomatch h), trivial, (fun h => nomatch h), (fun h => nomatch h)⟩ (List.Perm.refl _)
      · try simp only [zq1, zq2, zq3, zq4, zq5, zq6, zq7, zq8] at c56
        obtain rfl : j = nD T q.y.length := by unfold nD at hj ⊢; omega
        refine WC.exit ?_
        refine WP.thenExit ?_
        refine WP.thenExit ?_
        refine WP.blkHit ?_
        refine WP.blkNormal (WP.thenC (WC.ofFr [(2, _), (3, _), (4, _), (7, _), (8, _)] ⟨rfl, rfl, rfl, rfl, rfl, trivial⟩ (WC.region ?_)))
        refine WL.yd (Yd.move rfl) rfl ?_
        refine WL.yd (Yd.add rfl rfl (wr64 ⟨by (try dsimp only); omega, by (try dsimp only); omega⟩)) rfl ?_
        refine WL.yd (Yd.assign rfl) rfl ?_
        refine WL.nil ?_
        refine WP.again (⟨k + 1, rows2, o2, D2⟩ : Nat × List TrR × Option Ow × Imm) ⟨by simp only; omega, hX1.trans hX2 (Nat.le_refl _), hO2, by show _ = rows.map TrR.y ++ goA T (refT T rem) q.y (k + 1); rw [goA_succ, hM2], ho2⟩ (by simp only; omega) (fun aa ww h => ?_)
        show At _ [(2, owV o2 (rows2).length), (3, pt b3), (4, pt b4), (7, nt q.y.length), (8, it ((gt T.l q.y.length).bought.lo + (((k + 1 : Nat) : Int) : Int)))] D2 (owH o2 87 ((rows2).flatMap trC) []) aa ww
        rw [show (gt T.l q.y.length).bought.lo + (((k + 1 : Nat) : Int) : Int) = (gt T.l q.y.length).bought.lo + (k : Int) + 1 by omega]
        exact at_fr h ⟨rfl, rfl, rfl, rfl, rfl, trivial⟩
    · try simp only [zq1, zq2, zq3, zq4, zq5, zq6, zq7, zq8] at c38
      obtain rfl : k = nB T q.y.length := by unfold nB at hk ⊢; omega
      refine WC.exit ?_
      refine WP.thenExit ?_
      refine WP.thenExit ?_
      refine WP.blkHit ?_
      refine WP.thenC (WC.seq (WC.ofFr [(2, _)] ⟨rfl, trivial⟩ (WC.region ?_)))
      refine WL.yd (Yd.move rfl) rfl ?_
      refine WL.yd (Yd.assign rfl) rfl ?_
      refine WL.nil (WP.thenC (WC.ret ?_))
      refine WP.ret1 rfl rfl Tryz.results102 (RV.tmp rfl) (fun w1 hI => ⟨_, _, _, rfl, hX.trans hX1 (Nat.le_refl _), hI, rows1, o1, rfl, hM1, hO1, ho1, rfl⟩)

end Go.Proofs.YtpnbkdlejfmbeaaGreat
