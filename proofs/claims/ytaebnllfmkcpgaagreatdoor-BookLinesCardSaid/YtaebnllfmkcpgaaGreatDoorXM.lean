import Derived.Test.YtaebnllfmkcpgaaGreatDoorXJ
set_option linter.unusedSimpArgs false
set_option linter.unusedVariables false
set_option linter.all false
set_option maxRecDepth 100000
set_option maxHeartbeats 1000000
namespace Go.Proofs.YtaebnllfmkcpgaaGreatDoor
open Go.W Go.Bk
theorem SA35 : StructAt Tryz.prog 35 [.int .i64 0, .slice none 0 0] [(0, 1), (1, 1)] := ⟨⟨_, Tryz.zeroValue35, rfl⟩, _, Tryz.underlying35, fun w => by simp [Tryz.sizeOf3, Tryz.sizeOf33]⟩
theorem SA116 : StructAt Tryz.prog 116 [.int .i64 0, .int .i64 0, .int .i64 0, .int .i64 0] [(0, 1), (1, 1), (2, 2)] := ⟨⟨_, Tryz.zeroValue116, rfl⟩, _, Tryz.underlying116, fun w => by simp [Tryz.sizeOf3, Tryz.sizeOf114]⟩
theorem numsP_le : ∀ (l : Bs) (n many : Nat) (out r : List Nat), (many = 0 → n = 0) → (many ≤ 1 → n ≤ 124) → (many ≤ 2 → n ≤ 15624) → (∀ x ∈ out, x ≤ 1953124) → numsP n many out l = some r → ∀ x ∈ r, x ≤ 1953124
  | [], n, many, out, r, _, _, _, ho, h => by
    rw [numsP] at h
    split at h
    · cases h; exact ho
    · cases h
  | x :: l, n, many, out, r, h0, h1, h2, ho, h => by
    rw [numsP] at h
    split at h
    · have hx := Nat.mod_lt x.toNat (show 125 > 0 by omega)
      split at h
      · refine numsP_le l 0 0 _ r (fun _ => rfl) (fun _ => Nat.zero_le _) (fun _ => Nat.zero_le _) (fun y hy => ?_) h
        rcases List.mem_append.1 hy with hy | hy
        · exact ho y hy
        · rw [List.mem_singleton] at hy; omega
      · exact numsP_le l _ _ out r (fun e => by omega) (fun e => by omega) (fun e => by omega) ho h
    · cases h
theorem movesN_len : ∀ (N : Nat) (l : List Nat), l.length = 4 * N → (movesN l).length = N
  | 0, [], _ => rfl
  | N + 1, a :: b :: c :: d :: l, h => by rw [movesN, List.length_cons, movesN_len N l (by simp at h; omega)]
  | N + 1, [], h => by simp at h
  | N + 1, [_], h => by simp at h; omega
  | N + 1, [_, _], h => by simp at h; omega
  | N + 1, [_, _, _], h => by simp at h; omega
theorem movesN_gt : ∀ (k : Nat) (l : List Nat), 4 * k + 3 < l.length → gt (movesN l) k = ⟨(gt l (4 * k) : Nat), (gt l (4 * k + 1) : Nat), ⟨(gt l (4 * k + 2) : Nat), ((gt l (4 * k + 2) : Nat) : Int) + (gt l (4 * k + 3) : Nat)⟩⟩
  | 0, a :: b :: c :: d :: l, _ => rfl
  | k + 1, a :: b :: c :: d :: l, h => by
    have ih := movesN_gt k l (by simp at h; omega)
    have e : ∀ j, gt (a :: b :: c :: d :: l) (4 * (k + 1) + j) = gt l (4 * k + j) := fun j => by
      rw [show 4 * (k + 1) + j = (4 * k + j) + 1 + 1 + 1 + 1 by omega]; rfl
    have e0 := e 0; simp only [Nat.add_zero] at e0
    rw [e 1, e 2, e 3, e0, ← ih]
    rfl
  | k, [], h => by simp at h
  | k, [_], h => by simp at h
  | k, [_, _], h => by simp at h; omega
  | k, [_, _, _], h => by simp at h; omega
theorem gt_drop {α : Type} [Inhabited α] (l : List α) (i j : Nat) : gt (l.drop j) i = gt l (j + i) := by simp [gt, List.getD]
theorem readH_open {b : Bs} (h : openE b ≠ 0) : readH b = (horsZ, openE b) := if_pos h
theorem readH_clash {b : Bs} (h : openE b = 0) (h2 : tailN b ≠ sumsL (bodyL b)) : readH b = (horsZ, 10) := by unfold readH; rw [if_neg (by omega), if_pos h2]
theorem readH_none {b : Bs} (h : openE b = 0) (h2 : tailN b = sumsL (bodyL b)) (h3 : numsP 0 0 [] (bodyL b) = none) : readH b = (horsZ, 8) := by
  unfold readH; rw [if_neg (by omega), if_neg (by simp [h2]), h3]
theorem readH_form {b : Bs} {l : List Nat} (h : openE b = 0) (h2 : tailN b = sumsL (bodyL b)) (h3 : numsP 0 0 [] (bodyL b) = some l) (h4 : ¬ (2 ≤ l.length ∧ l.length % 4 = 2)) : readH b = (horsZ, 8) := by
  unfold readH; rw [if_neg (by omega), if_neg (by simp [h2]), h3]; simp only; rw [if_neg h4]
theorem readH_bad {b : Bs} {l : List Nat} (h : openE b = 0) (h2 : tailN b = sumsL (bodyL b)) (h3 : numsP 0 0 [] (bodyL b) = some l) (h4 : 2 ≤ l.length ∧ l.length % 4 = 2) (h5 : horsB (horsN l) = true → bookL (horsN l) ≠ b) : readH b = (horsZ, 8) := by
  unfold readH; rw [if_neg (by omega), if_neg (by simp [h2]), h3]; simp only; rw [if_pos h4, if_neg (fun h => h5 h.1 h.2)]
theorem readH_ok {b : Bs} {l : List Nat} (h : openE b = 0) (h2 : tailN b = sumsL (bodyL b)) (h3 : numsP 0 0 [] (bodyL b) = some l) (h4 : 2 ≤ l.length ∧ l.length % 4 = 2) (h5 : horsB (horsN l) = true) (h6 : bookL (horsN l) = b) : readH b = (horsN l, 0) := by
  unfold readH; rw [if_neg (by omega), if_neg (by simp [h2]), h3]; simp only; rw [if_pos h4, if_pos ⟨h5, h6⟩]
theorem take_gt {α : Type} [Inhabited α] {l : List α} {k : Nat} (h : k < l.length) : l.take (k + 1) = l.take k ++ [gt l k] := by
  have e : gt l k = l[k] := by simp [gt, List.getD, h]
  rw [List.take_succ_eq_append_getElem h, e]
theorem contentL_len {h : Hors} (ok : HorsOk h) : (contentL h).length ≤ 60 := hC_fin h ▸ hC_len ok _
theorem tail_lt {b : Bs} (h : openE b = 0) : (tailN b).1 < 251 ∧ (tailN b).2 < 251 := by
  obtain ⟨h1, h2, h3⟩ := openE_zero h
  have key : ∀ i, i < b.length → (gt b i).toNat < 251 := fun i hi => by
    have := List.any_eq_false.1 h3 _ (gtB_mem hi)
    unfold big at this; rw [decide_eq_true_eq] at this; omega
  exact ⟨key (b.length - 2) (by omega), key (b.length - 1) (by omega)⟩
theorem body_len {b : Bs} (h : openE b = 0) : (bodyL b).length = b.length - 2 := by unfold bodyL; simp

theorem ReadHorses_g (l : Bs) (a : Option Addr) (n c : Nat) (D : Imm) (hS : SlL D 1 (l.map btC) a n) (hn : n ≤ 2 ^ 19) (hc : n ≤ c) (w : World) (hH : Holds D w) : Makes Tryz.prog 23 [.slice a n c] w D (fun v D' => ∃ m, v = .tuple #[horsV (readH l).1 m, it (readH l).2] ∧ HorsR D' (readH l).1 m) := by
  unfold Makes
  obtain rfl : n = l.length := hS.len'
  refine enterD Tryz.func23 rfl 83 Tryz.ntmps23 (zqb rfl) (Inv.start hH) ?_
  refine WC.seq (WC.ofFr [(0, _)] ⟨rfl, trivial⟩ (WC.region ?_))
  refine WL.so (SO.alloc Tryz.zeroValue35 rfl) rfl ?_
  rintro _ _ _ ⟨b2, hb2, rfl, rfl, rfl⟩
  refine WL.so (SO.alloc Tryz.zeroValue38 rfl) rfl ?_
  rintro _ _ _ ⟨b3, hb3, rfl, rfl, rfl⟩
  refine WL.nil (WP.thenC (WC.seq (WC.ofFr [(3, _), (2, _), (0, _)] ⟨rfl, rfl, rfl, trivial⟩ (WC.region ?_))))
  refine WL.deferA rfl ?_
  refine WL.nil (WP.thenC (WC.seq (WC.ofFr [(3, _), (2, _), (0, _)] ⟨rfl, rfl, rfl, trivial⟩ (WC.region ?_))))
  refine zym rfl rfl ?_
  rcases h0 : decide (openE l = 0) with _ | _
  · refine WL.no (SO.fail (Enters.func Tryz.call65 rfl) (fun w hI => open_no l a l.length c D hS (by omega) hc (by simpa using h0) _ hI.imm) ?_)
    refine WP.thenPanic ?_
    refine WP.panicDA (k := 0) [_, _] [_, _] rfl Tryz.call51 rfl (fun w hI => answer_catch b3 _ 0 _ w (hI.own _ _ (List.mem_of_getElem? (i := 0) rfl))) Tryz.results23 ⟨(RV.cellN Tryz.isAgg35 Tryz.sizeOf35 rfl (vs := [_, _]) rfl (by first | exact rn0 (n := 2) rfl rfl | exact rn1 (n := 2) rfl rfl)), (RV.cell1 Tryz.isAgg38 rfl (by first | exact ro0 rfl rfl | exact ro1 rfl rfl)), trivial⟩ (fun w hI => by first | exact ⟨_, D, rfl, hI.keep, hI.imm, DExt.refl _ _, ⟨none, 0, 0⟩, by rw [readH_open (by simpa using h0)]; rfl, by rw [readH_open (by simpa using h0)]; exact ⟨SlL.nil _ _, Nat.zero_le _⟩⟩ | exact ⟨_, D, rfl, hI.keep, hI.imm, DExt.refl _ _, ⟨none, 0, 0⟩, by rw [readH_none h0' hts h20]; rfl, by rw [readH_none h0' hts h20]; exact ⟨SlL.nil _ _, Nat.zero_le _⟩⟩)
  · skip
    refine WL.so (SO.callP Tryz.call65 rfl (fun w hI => open_ok l a l.length c D hS (by omega) hc (by simpa using h0) _ hI.imm)) rfl ?_
    rintro _ _ _ ⟨rfl, rfl, rfl⟩
    refine zym rfl rfl ?_
    refine WL.yd (Yd.extract rfl rfl) rfl ?_
    refine WL.yd (Yd.extract rfl rfl) rfl ?_
    refine WL.so (SO.alloc Tryz.zeroValue107 rfl) rfl ?_
    rintro _ _ _ ⟨b5, hb5, rfl, rfl, rfl⟩
    refine zya rfl rfl ?_
    refine WL.so (SO.store 0 rfl Tryz.sizeOf107 rfl rfl rfl rfl (zqb rfl) (oneB_spec rfl)) rfl ?_
    rintro _ _ _ ⟨rfl, rfl, rfl⟩
    refine WL.nil (WP.thenC (WC.seq (WC.ofFr [(4, _), (5, _), (3, _), (2, _), (0, _)] ⟨rfl, rfl, rfl, rfl, rfl, trivial⟩ ?_)))
    refine WC.drawD _ [(0, true), (1, true), (2, false), (3, true), (4, false)] (by kernel_rfl) (by kernel_rfl) (QuietOn.then (QuietOn.bodyD (by kernel_rfl))) (fun _ hI => hI) ?_
    have h0' : openE l = 0 := by simpa using h0
    have ho2 := openE_zero h0'
    have hbl := body_len h0'
    refine WA.yd rfl (Yd.loadN Tryz.isAgg107 Tryz.sizeOf107 rfl (vs := [_, _]) rfl (by first | exact rn0 (n := 2) rfl rfl | exact rn1 (n := 2) rfl rfl | exact rn2 (n := 2) rfl rfl)) rfl ?_
    refine WA.yd rfl (Yd.move rfl) rfl ?_
    refine WA.so rfl (SO.callP Tryz.call66 rfl (fun w hI => sumsOf_g (bodyL l) a (l.length - 2) c _ (body_sl hS) (by omega) _ hI.imm)) rfl ?_
    rintro _ _ _ ⟨rfl, rfl, rfl⟩
    refine ⟨fun _ hI => hI, ?_⟩
    refine WA.yd rfl (Yd.eqS Tryz.eqGuardType107 (eqSums _ _ _ _) rfl rfl) rfl ?_
    refine WA.part 17 rfl (fun g17 => ?_) (fun g17 => ?_)
    · try simp only [zq1, zq2, zq3, zq4, zq5, zq6, zq7, zq8] at g17
      refine WA.so rfl (SO.call (Enters.func Tryz.call61 rfl) (fun w hI => must_ok _ _)) rfl ?_
      rintro _ _ _ ⟨rfl, rfl, rfl⟩
      refine ⟨fun _ hI => hI, ?_⟩
      refine WA.nil (WP.thenC (WC.seq (WC.ofFr [(4, _), (3, _), (2, _), (0, _)] ⟨rfl, rfl, rfl, rfl, trivial⟩ (WC.region ?_))))
      have hts : tailN l = sumsL (bodyL l) := g17
      refine zym rfl rfl ?_
      rcases h20 : numsP 0 0 [] (bodyL l) with _ | out
      · refine WL.no (SO.fail (Enters.func Tryz.call67 rfl) (fun w hI => (numbers_g (bodyL l) a (l.length - 2) c D (body_sl hS) (by omega) _ hI.imm).no h20) ?_)
        refine WP.thenPanic ?_
        refine WP.panicDA (k := 1) [_, _] [_, _] rfl Tryz.call51 rfl (fun w hI => answer_catch b3 _ 0 _ w (hI.own _ _ (List.mem_of_getElem? (i := 1) rfl))) Tryz.results23 ⟨(RV.cellN Tryz.isAgg35 Tryz.sizeOf35 rfl (vs := [_, _]) rfl (by first | exact rn0 (n := 2) rfl rfl | exact rn1 (n := 2) rfl rfl | exact rn2 (n := 2) rfl rfl)), (RV.cell1 Tryz.isAgg38 rfl (by first | exact ro0 rfl rfl | exact ro1 rfl rfl | exact ro2 rfl rfl)), trivial⟩ (fun w hI => by first | exact ⟨_, D, rfl, hI.keep, hI.imm, DExt.refl _ _, ⟨none, 0, 0⟩, by rw [readH_open (by simpa using h0)]; rfl, by rw [readH_open (by simpa using h0)]; exact ⟨SlL.nil _ _, Nat.zero_le _⟩⟩ | exact ⟨_, D, rfl, hI.keep, hI.imm, DExt.refl _ _, ⟨none, 0, 0⟩, by rw [readH_none h0' hts h20]; rfl, by rw [readH_none h0' hts h20]; exact ⟨SlL.nil _ _, Nat.zero_le _⟩⟩)
      · skip
        refine WL.so (SO.makes (Enters.func Tryz.call67 rfl) (fun w hI => (numbers_g (bodyL l) a (l.length - 2) c D (body_sl hS) (by omega) _ hI.imm).ok h20)) rfl ?_
        rintro _ D1 _ ⟨hX1, ⟨a1, n1, c1, rfl, hS1, hol⟩, rfl⟩
        refine zya rfl rfl ?_
        refine WL.nil (WP.thenC (WC.seq (WC.ofFr [(6, _), (3, _), (2, _), (0, _)] ⟨rfl, rfl, rfl, rfl, trivial⟩ (WC.region ?_))))
        obtain rfl : n1 = out.length := hS1.len'
        refine zym rfl rfl ?_
        refine WL.yd (Yd.lenS rfl Tryz.underlying111 rfl) rfl ?_
        refine WL.yd (Yd.geq rfl rfl) rfl ?_
        refine zym rfl rfl ?_
        refine WL.part 24 rfl (fun g24 => ?_) (fun g24 => ?_)
        · try simp only [zq1, zq2, zq3, zq4, zq5, zq6, zq7, zq8] at g24
          refine WL.ydg rfl (Yd.move rfl) rfl ?_
          refine WL.ydg rfl (Yd.lenS rfl Tryz.underlying111 rfl) rfl ?_
          refine WL.ydg rfl (Yd.rem rfl rfl (by (try dsimp only); omega) (by (try dsimp only); omega)) rfl ?_
          refine WL.ydg rfl (Yd.eql rfl rfl) rfl ?_
          refine WL.yd (Yd.pickT rfl rfl) rfl ?_
          refine WL.part 29 rfl (fun g29 => ?_) (fun g29 => ?_)
          · try simp only [zq1, zq2, zq3, zq4, zq5, zq6, zq7, zq8] at g29
            refine WL.so (SO.call (Enters.func Tryz.call61 rfl) (fun w hI => must_ok _ _)) rfl ?_
            rintro _ _ _ ⟨rfl, rfl, rfl⟩
            refine WL.nil (WP.thenC (WC.seq (WC.ofFr [(6, _), (3, _), (2, _), (0, _)] ⟨rfl, rfl, rfl, rfl, trivial⟩ (WC.region ?_))))
            have h4 : 2 ≤ out.length ∧ out.length % 4 = 2 := by omega
            obtain ⟨N, hN⟩ : ∃ N, out.length = 2 + 4 * N := ⟨(out.length - 2) / 4, by omega⟩
            have hML := movesN_len N (out.drop 2) (by simp; omega)
            have hnl : ∀ i, i < out.length → gt out i ≤ 1953124 := fun i hi => numsP_le _ _ _ _ _ (fun _ => rfl) (fun _ => Nat.zero_le _) (fun _ => Nat.zero_le _) (by simp) h20 _ (gtB_mem hi)
            refine zym rfl rfl ?_
            refine WL.yd (Yd.indexS Tryz.underlying111 Tryz.sizeOf3 rfl rfl (by (try dsimp only); omega) (by (try dsimp only); omega) (by first | exact hS1.addr 0 (by omega))) rfl ?_
            refine WL.yd (Yd.load1 Tryz.isAgg3 rfl (by first | exact ro0 rfl rfl | exact ro1 rfl rfl | exact ro2 rfl rfl | exact (hS1.at (0) (by omega)).rd 0 rfl)) rfl ?_
            refine WL.yd (Yd.build SA35 rfl (cs := [_, _]) rfl) rfl ?_
            refine WL.so (SO.alloc Tryz.zeroValue35 rfl) rfl ?_
            rintro _ _ _ ⟨b7, hb7, rfl, rfl, rfl⟩
            refine WL.so (SO.store 0 rfl Tryz.sizeOf35 rfl rfl rfl rfl (zqb rfl) (oneB_spec rfl)) rfl ?_
            rintro _ _ _ ⟨rfl, rfl, rfl⟩
            refine WL.nil (WP.thenC (WC.seq (WC.seq (WC.ofFr [(7, _), (6, _), (3, _), (2, _), (0, _)] ⟨rfl, rfl, rfl, rfl, rfl, trivial⟩ (WC.region ?_)))))
            refine zya rfl rfl ?_
            refine WL.nil (WP.thenC (WC.block ?_))
            refine WC.loopT [] (fun y : Nat × Option Ow => [(0, .slice a l.length c), (2, pt b2), (3, pt b3), (6, .slice a1 out.length c1), (7, pt b7), (8, nt (2 + 4 * y.1))]) (fun y => (b7, .cells (List.toArray [nt (gt out 0), owV y.2 y.1]) 35 (0, 0)) :: owH y.2 116 (((movesN (out.drop 2)).take y.1).flatMap mvC) [(b5, .cells (List.toArray [nt (tailN l).1, nt (tailN l).2]) 107 (0, 0)), (b3, .cells (List.toArray [it 0]) 38 (0, 0)), (b2, .cells (List.toArray [it 0, .slice none 0 0]) 35 (0, 0))]) (fun y => y.1 ≤ N ∧ owP w y.2 y.1 4) (fun y => N - y.1) (0, none) ⟨Nat.zero_le _, rfl⟩ rfl ⟨rfl, rfl, rfl, rfl, rfl, rfl, trivial⟩ ?_
            rintro ⟨k, o⟩ ⟨hk, ho⟩
            dsimp only at hk ho
            refine WC.seq (WC.seq (WC.ofFr [(0, _), (2, _), (3, _), (6, _), (7, _), (8, _)] ⟨rfl, rfl, rfl, rfl, rfl, rfl, trivial⟩ (WC.region ?_)))
            refine zym rfl rfl ?_
            refine zym rfl rfl ?_
            refine WL.yd (Yd.lenS rfl Tryz.underlying111 rfl) rfl ?_
            refine WL.yd (Yd.lss rfl rfl) rfl ?_
            refine WL.nil (WP.thenC ?_)
            refine WC.cond rfl (fun c38 => ?_) (fun c38 => ?_)
            · try simp only [zq1, zq2, zq3, zq4, zq5, zq6, zq7, zq8] at c38
              have hkN : k < N := by omega
              have hgm := movesN_gt k (out.drop 2) (by simp; omega)
              simp only [gt_drop] at hgm
              refine WC.skip (WP.thenC (WC.seq (WC.block (WC.ofFr [(0, _), (2, _), (3, _), (6, _), (7, _), (8, _)] ⟨rfl, rfl, rfl, rfl, rfl, rfl, trivial⟩ ?_))))
              refine WC.drawH [] (by kernel_rfl) (fun _ hI => Inv.nil hI) ?_
              refine WH.yd (i := 0) (by kernel_rfl) (QuietOn.blk (QuietOn.then (QuietOn.then (QuietOn.blk (QuietOn.then (QuietOn.bodyD (by kernel_rfl))))))) rfl (Yd.fieldAddr FA35_1 rfl) rfl ?_
              refine WH.yd (i := 2) (by kernel_rfl) (QuietOn.blk (QuietOn.then (QuietOn.then (QuietOn.blk (QuietOn.then (QuietOn.bodyD (by kernel_rfl))))))) rfl (Yd.move rfl) rfl ?_
              refine WH.yd (i := 3) (by kernel_rfl) (QuietOn.blk (QuietOn.then (QuietOn.then (QuietOn.blk (QuietOn.then (QuietOn.bodyD (by kernel_rfl))))))) rfl (Yd.move rfl) rfl ?_
              refine WH.yd (i := 4) (by kernel_rfl) (QuietOn.blk (QuietOn.then (QuietOn.then (QuietOn.blk (QuietOn.then (QuietOn.bodyD (by kernel_rfl))))))) rfl (Yd.indexS Tryz.underlying111 Tryz.sizeOf3 rfl rfl (by (try dsimp only); omega) (by (try dsimp only); omega) (by first | exact hS1.addr 0 (by omega))) rfl ?_
              refine WH.yd (i := 5) (by kernel_rfl) (QuietOn.blk (QuietOn.then (QuietOn.then (QuietOn.blk (QuietOn.then (QuietOn.bodyD (by kernel_rfl))))))) rfl (Yd.load1 Tryz.isAgg3 rfl (by first | exact ro0 rfl rfl | exact ro1 rfl rfl | exact ro2 rfl rfl | exact ro3 rfl rfl | exact ro4 rfl rfl | exact (hS1.at (2 + 4 * k) (by omega)).rd 0 rfl | exact (hS1.at (2 + 4 * k + 1) (by omega)).rd 0 rfl | exact (hS1.at (2 + 4 * k + 2) (by omega)).rd 0 rfl | exact (hS1.at (2 + 4 * k + 3) (by omega)).rd 0 rfl)) rfl ?_
              refine WH.yd (i := 6) (by kernel_rfl) (QuietOn.blk (QuietOn.then (QuietOn.then (QuietOn.blk (QuietOn.then (QuietOn.bodyD (by kernel_rfl))))))) rfl (Yd.move rfl) rfl ?_
              refine WH.yd (i := 7) (by kernel_rfl) (QuietOn.blk (QuietOn.then (QuietOn.then (QuietOn.blk (QuietOn.then (QuietOn.bodyD (by kernel_rfl))))))) rfl (Yd.move rfl) rfl ?_
              refine WH.yd (i := 8) (by kernel_rfl) (QuietOn.blk (QuietOn.then (QuietOn.then (QuietOn.blk (QuietOn.then (QuietOn.bodyD (by kernel_rfl))))))) rfl (Yd.add rfl rfl (wr64 ⟨by (try dsimp only); omega, by (try dsimp only); omega⟩)) rfl ?_
              refine WH.know 49 (nt (2 + 4 * k + 1)) rfl (by congr 1) ?_
              refine WH.yd (i := 9) (by kernel_rfl) (QuietOn.blk (QuietOn.then (QuietOn.then (QuietOn.blk (QuietOn.then (QuietOn.bodyD (by kernel_rfl))))))) rfl (Yd.indexS Tryz.underlying111 Tryz.sizeOf3 rfl rfl (by (try dsimp only); omega) (by (try dsimp only); omega) (by first | exact hS1.addr 0 (by omega))) rfl ?_
              refine WH.yd (i := 10) (by kernel_rfl) (QuietOn.blk (QuietOn.then (QuietOn.then (QuietOn.blk (QuietOn.then (QuietOn.bodyD (by kernel_rfl))))))) rfl (Yd.load1 Tryz.isAgg3 rfl (by first | exact ro0 rfl rfl | exact ro1 rfl rfl | exact ro2 rfl rfl | exact ro3 rfl rfl | exact ro4 rfl rfl | exact (hS1.at (2 + 4 * k) (by omega)).rd 0 rfl | exact (hS1.at (2 + 4 * k + 1) (by omega)).rd 0 rfl | exact (hS1.at (2 + 4 * k + 2) (by omega)).rd 0 rfl | exact (hS1.at (2 + 4 * k + 3) (by omega)).rd 0 rfl)) rfl ?_
              refine WH.yd (i := 11) (by kernel_rfl) (QuietOn.blk (QuietOn.then (QuietOn.then (QuietOn.blk (QuietOn.then (QuietOn.bodyD (by kernel_rfl))))))) rfl (Yd.move rfl) rfl ?_
              refine WH.yd (i := 12) (by kernel_rfl) (QuietOn.blk (QuietOn.then (QuietOn.then (QuietOn.blk (QuietOn.then (QuietOn.bodyD (by kernel_rfl))))))) rfl (Yd.move rfl) rfl ?_
              refine WH.yd (i := 13) (by kernel_rfl) (QuietOn.blk (QuietOn.then (QuietOn.then (QuietOn.blk (QuietOn.then (QuietOn.bodyD (by kernel_rfl))))))) rfl (Yd.add rfl rfl (wr64 ⟨by (try dsimp only); omega, by (try dsimp only); omega⟩)) rfl ?_
              refine WH.know 54 (nt (2 + 4 * k + 2)) rfl (by congr 1) ?_
              refine WH.yd (i := 14) (by kernel_rfl) (QuietOn.blk (QuietOn.then (QuietOn.then (QuietOn.blk (QuietOn.then (QuietOn.bodyD (by kernel_rfl))))))) rfl (Yd.indexS Tryz.underlying111 Tryz.sizeOf3 rfl rfl (by (try dsimp only); omega) (by (try dsimp only); omega) (by first | exact hS1.addr 0 (by omega))) rfl ?_
              refine WH.yd (i := 15) (by kernel_rfl) (QuietOn.blk (QuietOn.then (QuietOn.then (QuietOn.blk (QuietOn.then (QuietOn.bodyD (by kernel_rfl))))))) rfl (Yd.load1 Tryz.isAgg3 rfl (by first | exact ro0 rfl rfl | exact ro1 rfl rfl | exact ro2 rfl rfl | exact ro3 rfl rfl | exact ro4 rfl rfl | exact (hS1.at (2 + 4 * k) (by omega)).rd 0 rfl | exact (hS1.at (2 + 4 * k + 1) (by omega)).rd 0 rfl | exact (hS1.at (2 + 4 * k + 2) (by omega)).rd 0 rfl | exact (hS1.at (2 + 4 * k + 3) (by omega)).rd 0 rfl)) rfl ?_
              refine WH.yd (i := 16) (by kernel_rfl) (QuietOn.blk (QuietOn.then (QuietOn.then (QuietOn.blk (QuietOn.then (QuietOn.bodyD (by kernel_rfl))))))) rfl (Yd.move rfl) rfl ?_
              refine WH.yd (i := 17) (by kernel_rfl) (QuietOn.blk (QuietOn.then (QuietOn.then (QuietOn.blk (QuietOn.then (QuietOn.bodyD (by kernel_rfl))))))) rfl (Yd.move rfl) rfl ?_
              refine WH.yd (i := 18) (by kernel_rfl) (QuietOn.blk (QuietOn.then (QuietOn.then (QuietOn.blk (QuietOn.then (QuietOn.bodyD (by kernel_rfl))))))) rfl (Yd.add rfl rfl (wr64 ⟨by (try dsimp only); omega, by (try dsimp only); omega⟩)) rfl ?_
              refine WH.know 59 (nt (2 + 4 * k + 2)) rfl (by congr 1) ?_
              refine WH.yd (i := 19) (by kernel_rfl) (QuietOn.blk (QuietOn.then (QuietOn.then (QuietOn.blk (QuietOn.then (QuietOn.bodyD (by kernel_rfl))))))) rfl (Yd.indexS Tryz.underlying111 Tryz.sizeOf3 rfl rfl (by (try dsimp only); omega) (by (try dsimp only); omega) (by first | exact hS1.addr 0 (by omega))) rfl ?_
              refine WH.yd (i := 20) (by kernel_rfl) (QuietOn.blk (QuietOn.then (QuietOn.then (QuietOn.blk (QuietOn.then (QuietOn.bodyD (by kernel_rfl))))))) rfl (Yd.load1 Tryz.isAgg3 rfl (by first | exact ro0 rfl rfl | exact ro1 rfl rfl | exact ro2 rfl rfl | exact ro3 rfl rfl | exact ro4 rfl rfl | exact (hS1.at (2 + 4 * k) (by omega)).rd 0 rfl | exact (hS1.at (2 + 4 * k + 1) (by omega)).rd 0 rfl | exact (hS1.at (2 + 4 * k + 2) (by omega)).rd 0 rfl | exact (hS1.at (2 + 4 * k + 3) (by omega)).rd 0 rfl)) rfl ?_
              refine WH.yd (i := 21) (by kernel_rfl) (QuietOn.blk (QuietOn.then (QuietOn.then (QuietOn.blk (QuietOn.then (QuietOn.bodyD (by kernel_rfl))))))) rfl (Yd.move rfl) rfl ?_
              refine WH.yd (i := 22) (by kernel_rfl) (QuietOn.blk (QuietOn.then (QuietOn.then (QuietOn.blk (QuietOn.then (QuietOn.bodyD (by kernel_rfl))))))) rfl (Yd.move rfl) rfl ?_
              refine WH.yd (i := 23) (by kernel_rfl) (QuietOn.blk (QuietOn.then (QuietOn.then (QuietOn.blk (QuietOn.then (QuietOn.bodyD (by kernel_rfl))))))) rfl (Yd.add rfl rfl (wr64 ⟨by (try dsimp only); omega, by (try dsimp only); omega⟩)) rfl ?_
              refine WH.know 64 (nt (2 + 4 * k + 3)) rfl (by congr 1) ?_
              refine WH.yd (i := 24) (by kernel_rfl) (QuietOn.blk (QuietOn.then (QuietOn.then (QuietOn.blk (QuietOn.then (QuietOn.bodyD (by kernel_rfl))))))) rfl (Yd.indexS Tryz.underlying111 Tryz.sizeOf3 rfl rfl (by (try dsimp only); omega) (by (try dsimp only); omega) (by first | exact hS1.addr 0 (by omega))) rfl ?_
              refine WH.yd (i := 25) (by kernel_rfl) (QuietOn.blk (QuietOn.then (QuietOn.then (QuietOn.blk (QuietOn.then (QuietOn.bodyD (by kernel_rfl))))))) rfl (Yd.load1 Tryz.isAgg3 rfl (by first | exact ro0 rfl rfl | exact ro1 rfl rfl | exact ro2 rfl rfl | exact ro3 rfl rfl | exact ro4 rfl rfl | exact (hS1.at (2 + 4 * k) (by omega)).rd 0 rfl | exact (hS1.at (2 + 4 * k + 1) (by omega)).rd 0 rfl | exact (hS1.at (2 + 4 * k + 2) (by omega)).rd 0 rfl | exact (hS1.at (2 + 4 * k + 3) (by omega)).rd 0 rfl)) rfl ?_
              have hq2 := hnl (2 + 4 * k + 2) (by omega)
              have hq3 := hnl (2 + 4 * k + 3) (by omega)
              refine WH.yd (i := 26) (by kernel_rfl) (QuietOn.blk (QuietOn.then (QuietOn.then (QuietOn.blk (QuietOn.then (QuietOn.bodyD (by kernel_rfl))))))) rfl (Yd.add rfl rfl (wr64 ⟨by (try dsimp only); omega, by (try dsimp only); omega⟩)) rfl ?_
              refine WH.yd (i := 27) (by kernel_rfl) (QuietOn.blk (QuietOn.then (QuietOn.then (QuietOn.blk (QuietOn.then (QuietOn.bodyD (by kernel_rfl))))))) rfl (Yd.build SA114 rfl (cs := [_, _]) rfl) rfl ?_
              refine WH.yd (i := 28) (by kernel_rfl) (QuietOn.blk (QuietOn.then (QuietOn.then (QuietOn.blk (QuietOn.then (QuietOn.bodyD (by kernel_rfl))))))) rfl (Yd.build SA116 rfl (cs := [_, _, _, _]) rfl) rfl ?_
              refine WH.two (i := 1) (j := 29) (by kernel_rfl) ?_ ?_
              · refine WHo.yd rfl (Yd.load1 Tryz.isAgg33 rfl (by first | exact ro0 rfl rfl | exact ro1 rfl rfl | exact ro2 rfl rfl | exact ro3 rfl rfl | exact ro4 rfl rfl | exact (hS1.at (2 + 4 * k) (by omega)).rd 0 rfl | exact (hS1.at (2 + 4 * k + 1) (by omega)).rd 0 rfl | exact (hS1.at (2 + 4 * k + 2) (by omega)).rd 0 rfl | exact (hS1.at (2 + 4 * k + 3) (by omega)).rd 0 rfl)) rfl ?_
                refine WH.one (i := 29) (by kernel_rfl) (WHo.so rfl (SO.buildSlice Tryz.underlying33 Tryz.sizeOf116 Tryz.zeroValue116 rfl rfl rfl rfl (cs := [_, _, _, _]) rfl) rfl ?_)
                rintro _ _ _ ⟨b70, hb70, rfl, rfl, rfl⟩
                refine ⟨(fun _ hI => Inv.nil hI), ?_⟩
                refine WH.one (i := 30) (by kernel_rfl) (WHo.so rfl (SO.appendOw (o := o) (len := k) (n := 1) (xs := (((movesN (out.drop 2)).take k).flatMap mvC)) (size := 4) [_] [_] [_, _, _] rfl rfl Tryz.underlying33 Tryz.sizeOf116 Tryz.typeInfo116 Tryz.zeroValue116 rfl rfl rfl rfl ⟨rfl, .inr ⟨_, _, _, rfl, RdN.own (k := 0) (n := 4) rfl rfl⟩⟩ (oneB_spec rfl) ho (by rw [flat_len mvC_len, List.length_take]; omega) (by omega) (by show (2 * (_ + _) + 1000) * 32 ≤ 2 ^ 48; omega) (by omega)) rfl ?_)
                rintro _ _ _ ⟨u1, hu1, rfl, rfl, rfl⟩
                refine ⟨(fun _ hI => Inv.nil hI), ?_⟩
                refine WH.yd (i := 31) (by kernel_rfl) (QuietOn.blk (QuietOn.then (QuietOn.then (QuietOn.blk (QuietOn.then (QuietOn.bodyD (by kernel_rfl))))))) rfl (Yd.fieldAddr FA35_1 rfl) rfl ?_
                refine WH.one (i := 32) (by kernel_rfl) (WHo.so rfl (SO.store 0 rfl Tryz.sizeOf33 rfl rfl rfl rfl (zqb rfl) (oneB_spec rfl)) rfl ?_)
                rintro _ _ _ ⟨rfl, rfl, rfl⟩
                refine ⟨(fun _ hI => Inv.nil hI), ?_⟩
                refine WH.nil (by kernel_rfl) ?_
                refine WP.blkNormal (WP.thenC (WC.ofFr [(0, _), (2, _), (3, _), (6, _), (7, _), (8, _)] ⟨rfl, rfl, rfl, rfl, rfl, rfl, trivial⟩ (WC.region ?_)))
                refine zym rfl rfl ?_
                refine WL.yd (Yd.add rfl rfl (wr64 ⟨by (try dsimp only); omega, by (try dsimp only); omega⟩)) rfl ?_
                refine zya rfl rfl ?_
                refine WL.nil ?_
                exact WP.againT (k + 1, some u1) ⟨hkN, by simpa using hu1⟩ (by dsimp only; omega) [] _ rfl (by show _ = (b7, .cells (List.toArray [nt (gt out 0), owV (some u1) (k + 1)]) 35 (0, 0)) :: owH (some u1) _ (((movesN (out.drop 2)).take (k + 1)).flatMap mvC) _; rw [take_gt (show k < (movesN (out.drop 2)).length by omega), List.flatMap_append, hgm] <;> rfl) ⟨rfl, rfl, rfl, rfl, rfl, by show some (it _) = some (nt (2 + 4 * (k + 1))); first | rfl | (congr 2; omega), trivial⟩
              · refine WHo.so rfl (SO.buildSlice Tryz.underlying33 Tryz.sizeOf116 Tryz.zeroValue116 rfl rfl rfl rfl (cs := [_, _, _, _]) rfl) rfl ?_
                rintro _ _ _ ⟨b70, hb70, rfl, rfl, rfl⟩
                refine ⟨(fun _ hI => Inv.nil hI), ?_⟩
                refine WH.one (i := 1) (by kernel_rfl) (WHo.yd rfl (Yd.load1 Tryz.isAgg33 rfl (by first | exact ro0 rfl rfl | exact ro1 rfl rfl | exact ro2 rfl rfl | exact ro3 rfl rfl | exact ro4 rfl rfl | exact ro5 rfl rfl | exact (hS1.at (2 + 4 * k) (by omega)).rd 0 rfl | exact (hS1.at (2 + 4 * k + 1) (by omega)).rd 0 rfl | exact (hS1.at (2 + 4 * k + 2) (by omega)).rd 0 rfl | exact (hS1.at (2 + 4 * k + 3) (by omega)).rd 0 rfl)) rfl ?_)
                refine WH.one (i := 30) (by kernel_rfl) (WHo.so rfl (SO.appendOw (o := o) (len := k) (n := 1) (xs := (((movesN (out.drop 2)).take k).flatMap mvC)) (size := 4) [_] [_] [_, _, _] rfl rfl Tryz.underlying33 Tryz.sizeOf116 Tryz.typeInfo116 Tryz.zeroValue116 rfl rfl rfl rfl ⟨rfl, .inr ⟨_, _, _, rfl, RdN.own (k := 0) (n := 4) rfl rfl⟩⟩ (oneB_spec rfl) ho (by rw [flat_len mvC_len, List.length_take]; omega) (by omega) (by show (2 * (_ + _) + 1000) * 32 ≤ 2 ^ 48; omega) (by omega)) rfl ?_)
                rintro _ _ _ ⟨u1, hu1, rfl, rfl, rfl⟩
                refine ⟨(fun _ hI => Inv.nil hI), ?_⟩
                refine WH.yd (i := 31) (by kernel_rfl) (QuietOn.blk (QuietOn.then (QuietOn.then (QuietOn.blk (QuietOn.then (QuietOn.bodyD (by kernel_rfl))))))) rfl (Yd.fieldAddr FA35_1 rfl) rfl ?_
                refine WH.one (i := 32) (by kernel_rfl) (WHo.so rfl (SO.store 0 rfl Tryz.sizeOf33 rfl rfl rfl rfl (zqb rfl) (oneB_spec rfl)) rfl ?_)
                rintro _ _ _ ⟨rfl, rfl, rfl⟩
                refine ⟨(fun _ hI => Inv.nil hI), ?_⟩
                refine WH.nil (by kernel_rfl) ?_
                refine WP.blkNormal (WP.thenC (WC.ofFr [(0, _), (2, _), (3, _), (6, _), (7, _), (8, _)] ⟨rfl, rfl, rfl, rfl, rfl, rfl, trivial⟩ (WC.region ?_)))
                refine zym rfl rfl ?_
                refine WL.yd (Yd.add rfl rfl (wr64 ⟨by (try dsimp only); omega, by (try dsimp only); omega⟩)) rfl ?_
                refine zya rfl rfl ?_
                refine WL.nil ?_
                exact WP.againT (k + 1, some u1) ⟨hkN, by simpa using hu1⟩ (by dsimp only; omega) [] _ rfl (by show _ = (b7, .cells (List.toArray [nt (gt out 0), owV (some u1) (k + 1)]) 35 (0, 0)) :: owH (some u1) _ (((movesN (out.drop 2)).take (k + 1)).flatMap mvC) _; rw [take_gt (show k < (movesN (out.drop 2)).length by omega), List.flatMap_append, hgm] <;> rfl) ⟨rfl, rfl, rfl, rfl, rfl, by show some (it _) = some (nt (2 + 4 * (k + 1))); first | rfl | (congr 2; omega), trivial⟩
            · try simp only [zq1, zq2, zq3, zq4, zq5, zq6, zq7, zq8] at c38
              refine WC.exit ?_
              refine WP.thenExit ?_
              refine WP.thenExit ?_
              refine WP.blkHit ?_
              refine WP.thenC (WC.seq (WC.ofFr [(0, _), (2, _), (3, _), (7, _)] ⟨rfl, rfl, rfl, rfl, trivial⟩ (WC.region ?_)))
              obtain rfl : k = N := by omega
              rw [List.take_of_length_le (by omega)]
              refine WL.freezeOw (f := mvC) (m := 4) mvC_len [_] [_, _, _] o 116 (movesN (out.drop 2)) rfl (hML.symm ▸ ho) rfl (fun D3 hX3 hS3 => ?_)
              rw [owV_owL (owL_of ho), show nt (gt out 0) = it (horsN out).pace from rfl]
              have hR : HorsR D3 (horsN out) ⟨owAt o, k, owCp o k⟩ := ⟨hML ▸ hS3, by show k ≤ _; omega⟩
              refine WL.yd (Yd.loadN Tryz.isAgg35 Tryz.sizeOf35 rfl (vs := [_, _]) rfl (by first | exact rn0 (n := 2) rfl rfl | exact rn1 (n := 2) rfl rfl | exact rn2 (n := 2) rfl rfl | exact rn3 (n := 2) rfl rfl)) rfl ?_
              refine WL.so (SO.callP Tryz.call62 rfl (fun w hI => isHors_g (horsN out) ⟨owAt o, k, owCp o k⟩ D3 w hR hI.imm)) rfl ?_
              rintro _ _ _ ⟨rfl, rfl, rfl⟩
              refine zym rfl rfl ?_
              refine WL.part 75 rfl (fun g75 => ?_) (fun g75 => ?_)
              · try simp only [zq1, zq2, zq3, zq4, zq5, zq6, zq7, zq8] at g75
                refine WL.ydg rfl (Yd.loadN Tryz.isAgg35 Tryz.sizeOf35 rfl (vs := [_, _]) rfl (by first | exact rn0 (n := 2) rfl rfl | exact rn1 (n := 2) rfl rfl | exact rn2 (n := 2) rfl rfl | exact rn3 (n := 2) rfl rfl)) rfl ?_
                refine WL.sog rfl (SO.makes (Enters.func Tryz.call63 rfl) (fun w hI => book_g (horsN out) ⟨owAt o, k, owCp o k⟩ (horsB_iff.1 g75) D3 hR w hI.imm)) rfl ?_
                rintro _ D4 _ ⟨hX4, ⟨a4, n4, c4, rfl, hS4, hc4⟩, rfl⟩
                refine WL.ydg rfl (Yd.move rfl) rfl ?_
                refine WL.sog rfl (SO.callP Tryz.call68 rfl (fun w hI => equal_g (bookL (horsN out)) l a4 a n4 l.length c4 c D4 hS4 (hS.ext ((hX1.trans hX3 (Nat.le_refl _)).trans hX4 (Nat.le_refl _))) (by have := hS4.len'; have := contentL_len (horsB_iff.1 g75); have := bookL_len (horsN out); omega) _ hI.imm)) rfl ?_
                rintro _ _ _ ⟨rfl, rfl, rfl⟩
                refine WL.yd (Yd.pickT rfl rfl) rfl ?_
                refine WL.part 80 rfl (fun g80 => ?_) (fun g80 => ?_)
                · try simp only [zq1, zq2, zq3, zq4, zq5, zq6, zq7, zq8] at g80
                  refine WL.so (SO.call (Enters.func Tryz.call61 rfl) (fun w hI => must_ok _ _)) rfl ?_
                  rintro _ _ _ ⟨rfl, rfl, rfl⟩
                  refine WL.nil (WP.thenC (WC.seq (WC.ofFr [(2, _), (3, _), (7, _)] ⟨rfl, rfl, rfl, trivial⟩ (WC.region ?_))))
                  refine WL.yd (Yd.loadN Tryz.isAgg35 Tryz.sizeOf35 rfl (vs := [_, _]) rfl (by first | exact rn0 (n := 2) rfl rfl | exact rn1 (n := 2) rfl rfl | exact rn2 (n := 2) rfl rfl | exact rn3 (n := 2) rfl rfl)) rfl ?_
                  refine WL.so (SO.store 3 rfl Tryz.sizeOf35 rfl rfl rfl rfl (zqb rfl) (oneB_spec rfl)) rfl ?_
                  rintro _ _ _ ⟨rfl, rfl, rfl⟩
                  refine WL.so (SO.store 2 rfl Tryz.sizeOf38 rfl rfl rfl rfl (zqb rfl) (oneB_spec rfl)) rfl ?_
                  rintro _ _ _ ⟨rfl, rfl, rfl⟩
                  refine WL.nil (WP.thenC (WC.ret ?_))
                  refine WP.endDA [_, _] [_, _] rfl rfl Tryz.call51 (fun w hI => answer_idle b3 w) Tryz.results23 ⟨(RV.cellN Tryz.isAgg35 Tryz.sizeOf35 rfl (vs := [_, _]) rfl (by first | exact rn0 (n := 2) rfl rfl | exact rn1 (n := 2) rfl rfl | exact rn2 (n := 2) rfl rfl | exact rn3 (n := 2) rfl rfl)), (RV.cell1 Tryz.isAgg38 rfl (by first | exact ro0 rfl rfl | exact ro1 rfl rfl | exact ro2 rfl rfl | exact ro3 rfl rfl)), trivial⟩ (fun w hI => ⟨_, D4, rfl, hI.keep, hI.imm, (hX1.trans hX3 (Nat.le_refl _)).trans hX4 (Nat.le_refl _), ⟨owAt o, k, owCp o k⟩, by rw [readH_ok h0' hts h20 h4 g75 (by simpa using g80)]; rfl, by rw [readH_ok h0' hts h20 h4 g75 (by simpa using g80)]; exact hR.ext hX4⟩)
                · try simp only [zq1, zq2, zq3, zq4, zq5, zq6, zq7, zq8] at g80
                  refine WL.no (SO.fail (Enters.func Tryz.call61 rfl) (fun w hI => must_no _ _) ?_)
                  refine WP.thenPanic ?_
                  refine WP.panicDA (k := 2) [_, _] [_, _] rfl Tryz.call51 rfl (fun w hI => answer_catch b3 _ 0 _ w (hI.own _ _ (List.mem_of_getElem? (i := 2) rfl))) Tryz.results23 ⟨(RV.cellN Tryz.isAgg35 Tryz.sizeOf35 rfl (vs := [_, _]) rfl (by first | exact rn0 (n := 2) rfl rfl | exact rn1 (n := 2) rfl rfl | exact rn2 (n := 2) rfl rfl | exact rn3 (n := 2) rfl rfl)), (RV.cell1 Tryz.isAgg38 rfl (by first | exact ro0 rfl rfl | exact ro1 rfl rfl | exact ro2 rfl rfl | exact ro3 rfl rfl)), trivial⟩ (fun w hI => ⟨_, _, rfl, hI.keep, hI.imm, (by first | exact DExt.refl _ _ | exact hX1 | exact hX1.trans hX3 (Nat.le_refl _) | exact (hX1.trans hX3 (Nat.le_refl _)).trans hX4 (Nat.le_refl _)), ⟨none, 0, 0⟩, by rw [readH_bad h0' hts h20 h4 (fun _ => by simpa using g80)]; rfl, by rw [readH_bad h0' hts h20 h4 (fun _ => by simpa using g80)]; exact ⟨SlL.nil _ _, Nat.zero_le _⟩⟩)
              · try simp only [zq1, zq2, zq3, zq4, zq5, zq6, zq7, zq8] at g75
                refine WL.skip rfl rfl ?_
                refine WL.skip rfl rfl ?_
                refine WL.skip rfl rfl ?_
                refine WL.skip rfl rfl ?_
                refine WL.yd (Yd.pickF rfl rfl) rfl ?_
                refine WL.no (SO.fail (Enters.func Tryz.call61 rfl) (fun w hI => must_no _ _) ?_)
                refine WP.thenPanic ?_
                refine WP.panicDA (k := 2) [_, _] [_, _] rfl Tryz.call51 rfl (fun w hI => answer_catch b3 _ 0 _ w (hI.own _ _ (List.mem_of_getElem? (i := 2) rfl))) Tryz.results23 ⟨(RV.cellN Tryz.isAgg35 Tryz.sizeOf35 rfl (vs := [_, _]) rfl (by first | exact rn0 (n := 2) rfl rfl | exact rn1 (n := 2) rfl rfl | exact rn2 (n := 2) rfl rfl | exact rn3 (n := 2) rfl rfl)), (RV.cell1 Tryz.isAgg38 rfl (by first | exact ro0 rfl rfl | exact ro1 rfl rfl | exact ro2 rfl rfl | exact ro3 rfl rfl)), trivial⟩ (fun w hI => ⟨_, _, rfl, hI.keep, hI.imm, (by first | exact DExt.refl _ _ | exact hX1 | exact hX1.trans hX3 (Nat.le_refl _) | exact (hX1.trans hX3 (Nat.le_refl _)).trans hX4 (Nat.le_refl _)), ⟨none, 0, 0⟩, by rw [readH_bad h0' hts h20 h4 (fun e => by rw [g75] at e; cases e)]; rfl, by rw [readH_bad h0' hts h20 h4 (fun e => by rw [g75] at e; cases e)]; exact ⟨SlL.nil _ _, Nat.zero_le _⟩⟩)
          · try simp only [zq1, zq2, zq3, zq4, zq5, zq6, zq7, zq8] at g29
            refine WL.no (SO.fail (Enters.func Tryz.call61 rfl) (fun w hI => must_no _ _) ?_)
            refine WP.thenPanic ?_
            refine WP.panicDA (k := 1) [_, _] [_, _] rfl Tryz.call51 rfl (fun w hI => answer_catch b3 _ 0 _ w (hI.own _ _ (List.mem_of_getElem? (i := 1) rfl))) Tryz.results23 ⟨(RV.cellN Tryz.isAgg35 Tryz.sizeOf35 rfl (vs := [_, _]) rfl (by first | exact rn0 (n := 2) rfl rfl | exact rn1 (n := 2) rfl rfl | exact rn2 (n := 2) rfl rfl)), (RV.cell1 Tryz.isAgg38 rfl (by first | exact ro0 rfl rfl | exact ro1 rfl rfl | exact ro2 rfl rfl)), trivial⟩ (fun w hI => ⟨_, _, rfl, hI.keep, hI.imm, (by first | exact DExt.refl _ _ | exact hX1 | exact hX1.trans hX3 (Nat.le_refl _) | exact (hX1.trans hX3 (Nat.le_refl _)).trans hX4 (Nat.le_refl _)), ⟨none, 0, 0⟩, by rw [readH_form h0' hts h20 (fun e => by omega)]; rfl, by rw [readH_form h0' hts h20 (fun e => by omega)]; exact ⟨SlL.nil _ _, Nat.zero_le _⟩⟩)
        · try simp only [zq1, zq2, zq3, zq4, zq5, zq6, zq7, zq8] at g24
          refine WL.skip rfl rfl ?_
          refine WL.skip rfl rfl ?_
          refine WL.skip rfl rfl ?_
          refine WL.skip rfl rfl ?_
          refine WL.yd (Yd.pickF rfl rfl) rfl ?_
          refine WL.no (SO.fail (Enters.func Tryz.call61 rfl) (fun w hI => must_no _ _) ?_)
          refine WP.thenPanic ?_
          refine WP.panicDA (k := 1) [_, _] [_, _] rfl Tryz.call51 rfl (fun w hI => answer_catch b3 _ 0 _ w (hI.own _ _ (List.mem_of_getElem? (i := 1) rfl))) Tryz.results23 ⟨(RV.cellN Tryz.isAgg35 Tryz.sizeOf35 rfl (vs := [_, _]) rfl (by first | exact rn0 (n := 2) rfl rfl | exact rn1 (n := 2) rfl rfl | exact rn2 (n := 2) rfl rfl)), (RV.cell1 Tryz.isAgg38 rfl (by first | exact ro0 rfl rfl | exact ro1 rfl rfl | exact ro2 rfl rfl)), trivial⟩ (fun w hI => ⟨_, _, rfl, hI.keep, hI.imm, (by first | exact DExt.refl _ _ | exact hX1 | exact hX1.trans hX3 (Nat.le_refl _) | exact (hX1.trans hX3 (Nat.le_refl _)).trans hX4 (Nat.le_refl _)), ⟨none, 0, 0⟩, by rw [readH_form h0' hts h20 (fun e => by omega)]; rfl, by rw [readH_form h0' hts h20 (fun e => by omega)]; exact ⟨SlL.nil _ _, Nat.zero_le _⟩⟩)
    · try simp only [zq1, zq2, zq3, zq4, zq5, zq6, zq7, zq8] at g17
      refine WA.no rfl (SO.fail (Enters.func Tryz.call61 rfl) (fun w hI => must_no _ _) ?_)
      refine WP.thenPanic ?_
      refine WP.panicDA (k := 1) [_, _] [_, _] rfl Tryz.call51 rfl (fun w hI => answer_catch b3 _ 0 _ w (hI.own _ _ (List.mem_of_getElem? (i := 1) rfl))) Tryz.results23 ⟨(RV.cellN Tryz.isAgg35 Tryz.sizeOf35 rfl (vs := [_, _]) rfl (by first | exact rn0 (n := 2) rfl rfl | exact rn1 (n := 2) rfl rfl | exact rn2 (n := 2) rfl rfl)), (RV.cell1 Tryz.isAgg38 rfl (by first | exact ro0 rfl rfl | exact ro1 rfl rfl | exact ro2 rfl rfl)), trivial⟩ (fun w hI => ⟨_, _, rfl, hI.keep, hI.imm, (by first | exact DExt.refl _ _ | exact hX1 | exact hX1.trans hX3 (Nat.le_refl _) | exact (hX1.trans hX3 (Nat.le_refl _)).trans hX4 (Nat.le_refl _)), ⟨none, 0, 0⟩, by rw [readH_clash h0' g17]; rfl, by rw [readH_clash h0' g17]; exact ⟨SlL.nil _ _, Nat.zero_le _⟩⟩)

end Go.Proofs.YtaebnllfmkcpgaaGreatDoor
namespace Go.Proofs.YtaebnllfmkcpgaaGreatDoor
open Go.W Go.Bk
theorem SA120 : StructAt Tryz.prog 120 [.int .i64 0, .int .i64 0] [(0, 2)] := ⟨⟨_, Tryz.zeroValue120, rfl⟩, _, Tryz.underlying120, fun w => by simp [Tryz.sizeOf107]⟩
theorem SA122 : StructAt Tryz.prog 122 [.int .i64 0, .int .i64 0] [(0, 2)] := ⟨⟨_, Tryz.zeroValue122, rfl⟩, _, Tryz.underlying122, fun w => by simp [Tryz.sizeOf120]⟩
theorem splice_whole (cs vs : List Value) (h : vs.length = cs.length) : splice cs 0 vs = vs ++ [] := by simp [splice, h]
theorem mendP_open {b : Bs} (h : openE b ≠ 0) : mendP b = ([], openE b) := if_pos h
theorem mendP_same {b : Bs} (h : openE b = 0) (h2 : tailN b = sumsL (bodyL b)) : mendP b = ([], 4) := by unfold mendP; rw [if_neg (by omega), if_pos h2]
theorem mendP_one {b : Bs} (h : openE b = 0) (h2 : tailN b ≠ sumsL (bodyL b)) (h3 : (lackN b).2 = 0) : mendP b = (b.set (b.length - 2) (UInt8.ofNat (sumsL (bodyL b)).1), 0) := by
  unfold mendP; rw [if_neg (by omega), if_neg h2, if_pos h3]
theorem mendP_two {b : Bs} (h : openE b = 0) (h2 : tailN b ≠ sumsL (bodyL b)) (h3 : (lackN b).2 ≠ 0) (h4 : (lackN b).1 = 0) : mendP b = (b.set (b.length - 1) (UInt8.ofNat (sumsL (bodyL b)).2), 0) := by
  unfold mendP; rw [if_neg (by omega), if_neg h2, if_neg h3, if_pos h4]
theorem mendP_byte {b : Bs} (h : openE b = 0) (h2 : tailN b ≠ sumsL (bodyL b)) (h3 : (lackN b).2 ≠ 0) (h4 : (lackN b).1 ≠ 0) (h5 : 1 ≤ quoN (lackN b).2 (lackN b).1 ∧ quoN (lackN b).2 (lackN b).1 ≤ b.length - 2) :
    mendP b = (b.set (quoN (lackN b).2 (lackN b).1 - 1) (UInt8.ofNat (((b.getD (quoN (lackN b).2 (lackN b).1 - 1) 0).toNat + (lackN b).1) % 251)), 0) := by
  unfold mendP; rw [if_neg (by omega), if_neg h2, if_neg h3, if_neg h4, if_pos h5]
theorem mendP_ref {b : Bs} (h : openE b = 0) (h2 : tailN b ≠ sumsL (bodyL b)) (h3 : (lackN b).2 ≠ 0) (h4 : (lackN b).1 ≠ 0) (h5 : ¬ (1 ≤ quoN (lackN b).2 (lackN b).1 ∧ quoN (lackN b).2 (lackN b).1 ≤ b.length - 2)) : mendP b = ([], 11) := by
  unfold mendP; rw [if_neg (by omega), if_neg h2, if_neg h3, if_neg h4, if_neg h5]
theorem lack_lt {b : Bs} (h : openE b = 0) : (lackN b).1 < 251 ∧ (lackN b).2 < 251 := takF_lt _ _ _ _ (tail_lt h).1 (tail_lt h).2

theorem Mend_g (l : Bs) (a : Option Addr) (n c : Nat) (D : Imm) (hS : SlL D 1 (l.map btC) a n) (hn : n ≤ 2 ^ 19) (hc : n ≤ c) (w : World) (hH : Holds D w) : News Tryz.prog 25 [.slice a n c] w D (fun v D' h' => D = D' ∧ (((mendP l).2 = 0 ∧ ∃ b, v = .tuple #[.slice (some ⟨b, 0, none⟩) (mendP l).1.length (mendP l).1.length, it 0] ∧ h' = [(b, .cells ((mendP l).1.flatMap btC ++ []).toArray 5 (0, 0))] ∧ w.heap.size ≤ b) ∨ ((mendP l).2 ≠ 0 ∧ (mendP l).1 = [] ∧ v = .tuple #[.slice none 0 0, it (mendP l).2] ∧ h' = []))) := by
  unfold News
  obtain rfl : n = l.length := hS.len'
  refine enterD Tryz.func25 rfl 90 Tryz.ntmps25 (zqb rfl) (Inv.start hH) ?_
  refine WC.seq (WC.ofFr [(0, _)] ⟨rfl, trivial⟩ (WC.region ?_))
  refine zya rfl rfl ?_
  refine WL.so (SO.alloc Tryz.zeroValue38 rfl) rfl ?_
  rintro _ _ _ ⟨b3, hb3, rfl, rfl, rfl⟩
  refine WL.nil (WP.thenC (WC.seq (WC.ofFr [(3, _), (2, _), (0, _)] ⟨rfl, rfl, rfl, trivial⟩ (WC.region ?_))))
  refine WL.deferA rfl ?_
  refine WL.nil (WP.thenC (WC.seq (WC.ofFr [(3, _), (2, _), (0, _)] ⟨rfl, rfl, rfl, trivial⟩ (WC.region ?_))))
  refine zym rfl rfl ?_
  rcases h0 : decide (openE l = 0) with _ | _
  · refine WL.no (SO.fail (Enters.func Tryz.call65 rfl) (fun w hI => open_no l a l.length c D hS (by omega) hc (by simpa using h0) _ hI.imm) ?_)
    refine WP.thenPanic ?_
    refine WP.panicDA (k := 0) [_, _] [_, _] rfl Tryz.call51 rfl (fun w hI => answer_catch b3 _ 0 _ w (hI.own _ _ (List.mem_of_getElem? (i := 0) rfl))) Tryz.results25 ⟨(RV.tmp rfl), (RV.cell1 Tryz.isAgg38 rfl (by first | exact ro0 rfl rfl)), trivial⟩ (fun w hI => ⟨_, _, [], rfl, DExt.refl _ _, Inv.nil hI, rfl, .inr ⟨by rw [mendP_open (by simpa using h0)]; first | decide | (simpa using h0), by rw [mendP_open (by simpa using h0)], by rw [mendP_open (by simpa using h0)]; rfl, rfl⟩⟩)
  · skip
    refine WL.so (SO.callP Tryz.call65 rfl (fun w hI => open_ok l a l.length c D hS (by omega) hc (by simpa using h0) _ hI.imm)) rfl ?_
    rintro _ _ _ ⟨rfl, rfl, rfl⟩
    refine zym rfl rfl ?_
    refine WL.yd (Yd.extract rfl rfl) rfl ?_
    refine WL.yd (Yd.extract rfl rfl) rfl ?_
    refine WL.so (SO.alloc Tryz.zeroValue107 rfl) rfl ?_
    rintro _ _ _ ⟨b5, hb5, rfl, rfl, rfl⟩
    refine zya rfl rfl ?_
    refine WL.so (SO.store 0 rfl Tryz.sizeOf107 rfl rfl rfl rfl (zqb rfl) (oneB_spec rfl)) rfl ?_
    rintro _ _ _ ⟨rfl, rfl, rfl⟩
    refine WL.nil (WP.thenC (WC.seq (WC.ofFr [(4, _), (5, _), (3, _), (2, _), (0, _)] ⟨rfl, rfl, rfl, rfl, rfl, trivial⟩ ?_)))
    refine WC.drawD _ [(0, true), (1, true), (2, false), (3, true), (4, false)] (by kernel_rfl) (by kernel_rfl) (QuietOn.then (QuietOn.bodyD (by kernel_rfl))) (fun _ hI => hI) ?_
    have h0' : openE l = 0 := by simpa using h0
    have ho2 := openE_zero h0'
    have hbl := body_len h0'
    have htl := tail_lt h0'
    have hlk := lack_lt h0'
    have hsl := sumF_lt (bodyL l) 0 0 0 (by decide) (by decide)
    have hs1 : (sumsL (bodyL l)).1 < 251 := hsl.1
    have hs2 : (sumsL (bodyL l)).2 < 251 := hsl.2
    refine WA.yd rfl (Yd.loadN Tryz.isAgg107 Tryz.sizeOf107 rfl (vs := [_, _]) rfl (by first | exact rn0 (n := 2) rfl rfl | exact rn1 (n := 2) rfl rfl)) rfl ?_
    refine WA.yd rfl (Yd.move rfl) rfl ?_
    refine WA.so rfl (SO.callP Tryz.call66 rfl (fun w hI => sumsOf_g (bodyL l) a (l.length - 2) c _ (body_sl hS) (by omega) _ hI.imm)) rfl ?_
    rintro _ _ _ ⟨rfl, rfl, rfl⟩
    refine ⟨fun _ hI => hI, ?_⟩
    refine WA.yd rfl (Yd.neS Tryz.eqGuardType107 (eqSums _ _ _ _) rfl rfl) rfl ?_
    refine WA.part 19 rfl (fun g19 => ?_) (fun g19 => ?_)
    · try simp only [zq1, zq2, zq3, zq4, zq5, zq6, zq7, zq8] at g19
      refine WA.so rfl (SO.call (Enters.func Tryz.call61 rfl) (fun w hI => must_ok _ _)) rfl ?_
      rintro _ _ _ ⟨rfl, rfl, rfl⟩
      refine ⟨fun _ hI => hI, ?_⟩
      refine WA.nil (WP.thenC (WC.seq (WC.ofFr [(4, _), (5, _), (3, _), (2, _), (0, _)] ⟨rfl, rfl, rfl, rfl, rfl, trivial⟩ (WC.region ?_))))
      have hts : tailN l ≠ sumsL (bodyL l) := g19
      refine WL.yd (Yd.loadN Tryz.isAgg107 Tryz.sizeOf107 rfl (vs := [_, _]) rfl (by first | exact rn0 (n := 2) rfl rfl | exact rn1 (n := 2) rfl rfl)) rfl ?_
      refine WL.yd (Yd.build SA120 rfl (cs := [_, _]) rfl) rfl ?_
      refine WL.yd (Yd.build SA122 rfl (cs := [_, _]) rfl) rfl ?_
      refine WL.so (SO.alloc Tryz.zeroValue122 rfl) rfl ?_
      rintro _ _ _ ⟨b6, hb6, rfl, rfl, rfl⟩
      refine WL.so (SO.store 0 rfl Tryz.sizeOf122 rfl rfl rfl rfl (zqb rfl) (oneB_spec rfl)) rfl ?_
      rintro _ _ _ ⟨rfl, rfl, rfl⟩
      refine WL.nil (WP.thenC (WC.seq (WC.ofFr [(6, _), (4, _), (3, _), (2, _), (0, _)] ⟨rfl, rfl, rfl, rfl, rfl, trivial⟩ (WC.region ?_))))
      refine WL.yd (Yd.iface Tryz.underlying124 (by intro _ h; cases h) rfl) rfl ?_
      refine zym rfl rfl ?_
      refine WL.so (SO.altersF (own := [_, _]) (hpc := [_]) (S1 := [b6]) rfl (fun _ h => h) (fun _ h => h) (Enters.func Tryz.call71 rfl) (fun w1 hI => feedT_g (bodyL l) a (l.length - 2) c D (body_sl hS) (by omega) b6 _ _ htl.1 htl.2 w1 hI)) rfl ?_
      rintro _ _ _ ⟨_, hX9, ⟨rfl, rfl⟩, rfl⟩
      rw [show takF 0 (tailN l).1 (tailN l).2 (bodyL l) = lackN l from rfl]
      refine WL.nil (WP.thenC (WC.seq (WC.ofFr [(6, _), (4, _), (3, _), (2, _), (0, _)] ⟨rfl, rfl, rfl, rfl, rfl, trivial⟩ (WC.region ?_))))
      refine WL.yd (Yd.fieldAddr FA122_0 rfl) rfl ?_
      refine WL.yd (Yd.fieldAddr FA120_0 rfl) rfl ?_
      refine WL.yd (Yd.loadN Tryz.isAgg107 Tryz.sizeOf107 rfl (vs := [_, _]) rfl (by first | exact rn0 (n := 2) rfl rfl | exact rn1 (n := 2) rfl rfl | exact rn2 (n := 2) rfl rfl)) rfl ?_
      refine WL.so (SO.alloc Tryz.zeroValue107 rfl) rfl ?_
      rintro _ _ _ ⟨b7, hb7, rfl, rfl, rfl⟩
      refine WL.so (SO.store 0 rfl Tryz.sizeOf107 rfl rfl rfl rfl (zqb rfl) (oneB_spec rfl)) rfl ?_
      rintro _ _ _ ⟨rfl, rfl, rfl⟩
      refine WL.nil (WP.thenC (WC.seq (WC.ofFr [(7, _), (4, _), (3, _), (2, _), (0, _)] ⟨rfl, rfl, rfl, rfl, rfl, trivial⟩ (WC.region ?_))))
      refine zym rfl rfl ?_
      refine WL.yd (Yd.lenS rfl Tryz.underlying43 rfl) rfl ?_
      refine WL.so (SO.makeSlice Tryz.underlying43 Tryz.sizeOf5 Tryz.typeInfo5 Tryz.zeroValue5 rfl rfl rfl (by omega) (by show (1 : Int) * _ ≤ _; omega)) rfl ?_
      rintro _ _ _ ⟨b32, hb32, rfl, rfl, rfl⟩
      refine zya rfl rfl ?_
      refine WL.nil (WP.thenC (WC.seq (WC.ofFr [(8, _), (7, _), (4, _), (3, _), (2, _), (0, _)] ⟨rfl, rfl, rfl, rfl, rfl, rfl, trivial⟩ (WC.region ?_))))
      refine zym rfl rfl ?_
      refine zym rfl rfl ?_
      refine WL.so (SO.copy (k := 0) (cs := zeroL [.int .u8 0] (l.length * 1)) rfl Tryz.underlying43 Tryz.sizeOf5 rfl rfl rfl (ys := l.flatMap btC) (hS.rdS btC_len (fun e => by subst e; simp at ho2)) (btC_one _) (by rw [zeroL_len, flat_len btC_len]; exact Nat.le_refl _)) rfl ?_
      rintro _ _ _ ⟨rfl, rfl⟩
      rw [splice_whole (zeroL [.int .u8 0] (l.length * 1)) (l.flatMap btC) (by rw [zeroL_len, flat_len btC_len])]
      refine WL.nil (WP.thenC (WC.seq (WC.ofFr [(8, _), (7, _), (4, _), (3, _), (2, _)] ⟨rfl, rfl, rfl, rfl, rfl, trivial⟩ (WC.region ?_))))
      refine zym rfl rfl ?_
      refine WL.yd (Yd.lenS rfl Tryz.underlying43 rfl) rfl ?_
      refine zya rfl rfl ?_
      refine WL.nil (WP.thenC (WC.seq (WC.block (WC.seq (WC.ofFr [(9, _), (8, _), (7, _), (4, _), (3, _), (2, _)] ⟨rfl, rfl, rfl, rfl, rfl, rfl, trivial⟩ (WC.region ?_))))))
      refine WL.yd (Yd.fieldAddr FA107_1 rfl) rfl ?_
      refine WL.yd (Yd.load1 Tryz.isAgg3 rfl (by first | exact ro0 rfl rfl | exact ro1 rfl rfl | exact ro2 rfl rfl | exact ro3 rfl rfl | exact ro4 rfl rfl)) rfl ?_
      refine WL.yd (Yd.eql rfl rfl) rfl ?_
      refine zya rfl rfl ?_
      refine WL.nil (WP.thenC ?_)
      refine WC.cond rfl (fun c66 => ?_) (fun c66 => ?_)
      · try simp only [zq1, zq2, zq3, zq4, zq5, zq6, zq7, zq8] at c66
        have hl2 : (lackN l).2 = 0 := by omega
        refine WC.ofFr [(9, _), (8, _), (4, _), (3, _), (2, _)] ⟨rfl, rfl, rfl, rfl, rfl, trivial⟩ (WC.region ?_)
        refine zym rfl rfl ?_
        refine zym rfl rfl ?_
        refine zym rfl rfl ?_
        refine WL.so (SO.callP Tryz.call66 rfl (fun w hI => sumsOf_g (bodyL l) a (l.length - 2) c _ (body_sl hS) (by omega) _ hI.imm)) rfl ?_
        rintro _ _ _ ⟨rfl, rfl, rfl⟩
        refine WL.yd (Yd.field (cs := [nt (sumsL (bodyL l)).1, nt (sumsL (bodyL l)).2]) Tryz.underlying107 rfl Tryz.isAgg3 rfl rfl) rfl ?_
        refine WL.yd (Yd.conv Tryz.underlying3 Tryz.underlying5 rfl (wr8 ⟨by (try dsimp only); omega, by (try dsimp only); omega⟩)) rfl ?_
        refine WL.know 75 (bt (UInt8.ofNat (sumsL (bodyL l)).1)) rfl (btN (by omega)).symm ?_
        refine WL.yd (Yd.indexS Tryz.underlying43 Tryz.sizeOf5 rfl rfl (by (try dsimp only); omega) (by (try dsimp only); omega) (by first | exact rfl)) rfl ?_
        refine WL.so (SO.storeRow (f := btC) (m := 1) btC_len (l := l) (i := l.length - 2) (y := UInt8.ofNat (sumsL (bodyL l)).1) (rest := []) 0 rfl Tryz.sizeOf5 rfl rfl rfl (by omega) (oneB_spec rfl)) rfl ?_
        rintro _ _ _ ⟨rfl, rfl, rfl⟩
        refine WL.nil (WP.blkNormal (WP.thenC (WC.seq (WC.ofFr [(8, _), (3, _), (2, _)] ⟨rfl, rfl, rfl, trivial⟩ (WC.region ?_)))))
        refine zym rfl rfl ?_
        refine zya rfl rfl ?_
        refine WL.so (SO.store 4 rfl Tryz.sizeOf38 rfl rfl rfl rfl (zqb rfl) (oneB_spec rfl)) rfl ?_
        rintro _ _ _ ⟨rfl, rfl, rfl⟩
        refine WL.nil (WP.thenC (WC.ret ?_))
        refine WP.endDA [_, _] [_, _] rfl rfl Tryz.call51 (fun w hI => answer_idle b3 w) Tryz.results25 ⟨(RV.tmp rfl), (RV.cell1 Tryz.isAgg38 rfl (by first | exact ro0 rfl rfl | exact ro1 rfl rfl | exact ro2 rfl rfl | exact ro3 rfl rfl | exact ro4 rfl rfl)), trivial⟩ (fun w hI => ⟨_, _, _, rfl, DExt.refl _ _, Inv.left (l1 := [_]) hI, rfl, .inl ⟨by rw [mendP_one h0' hts hl2], b32, by rw [mendP_one h0' hts hl2, List.length_set]; rfl, by rw [mendP_one h0' hts hl2] <;> rfl, hb32⟩⟩)
      · try simp only [zq1, zq2, zq3, zq4, zq5, zq6, zq7, zq8] at c66
        have hl2 : (lackN l).2 ≠ 0 := by omega
        refine WC.seq (WC.ofFr [(9, _), (8, _), (7, _), (4, _), (3, _), (2, _)] ⟨rfl, rfl, rfl, rfl, rfl, rfl, trivial⟩ (WC.region ?_))
        refine WL.yd (Yd.fieldAddr FA107_0 rfl) rfl ?_
        refine WL.yd (Yd.load1 Tryz.isAgg3 rfl (by first | exact ro0 rfl rfl | exact ro1 rfl rfl | exact ro2 rfl rfl | exact ro3 rfl rfl | exact ro4 rfl rfl)) rfl ?_
        refine WL.yd (Yd.eql rfl rfl) rfl ?_
        refine zya rfl rfl ?_
        refine WL.nil (WP.thenC ?_)
        refine WC.cond rfl (fun c77 => ?_) (fun c77 => ?_)
        · try simp only [zq1, zq2, zq3, zq4, zq5, zq6, zq7, zq8] at c77
          have hl1 : (lackN l).1 = 0 := by omega
          refine WC.ofFr [(9, _), (8, _), (4, _), (3, _), (2, _)] ⟨rfl, rfl, rfl, rfl, rfl, trivial⟩ (WC.region ?_)
          refine zym rfl rfl ?_
          refine zym rfl rfl ?_
          refine WL.yd (Yd.add rfl rfl (wr64 ⟨by (try dsimp only); omega, by (try dsimp only); omega⟩)) rfl ?_
          refine WL.know 83 (nt (l.length - 1)) rfl (by congr 1; omega) ?_
          refine zym rfl rfl ?_
          refine WL.so (SO.callP Tryz.call66 rfl (fun w hI => sumsOf_g (bodyL l) a (l.length - 2) c _ (body_sl hS) (by omega) _ hI.imm)) rfl ?_
          rintro _ _ _ ⟨rfl, rfl, rfl⟩
          refine WL.yd (Yd.field (cs := [nt (sumsL (bodyL l)).1, nt (sumsL (bodyL l)).2]) Tryz.underlying107 rfl Tryz.isAgg3 rfl rfl) rfl ?_
          refine WL.yd (Yd.conv Tryz.underlying3 Tryz.underlying5 rfl (wr8 ⟨by (try dsimp only); omega, by (try dsimp only); omega⟩)) rfl ?_
          refine WL.know 87 (bt (UInt8.ofNat (sumsL (bodyL l)).2)) rfl (btN (by omega)).symm ?_
          refine WL.yd (Yd.indexS Tryz.underlying43 Tryz.sizeOf5 rfl rfl (by (try dsimp only); omega) (by (try dsimp only); omega) (by first | exact rfl)) rfl ?_
          refine WL.so (SO.storeRow (f := btC) (m := 1) btC_len (l := l) (i := l.length - 1) (y := UInt8.ofNat (sumsL (bodyL l)).2) (rest := []) 0 rfl Tryz.sizeOf5 rfl rfl rfl (by omega) (oneB_spec rfl)) rfl ?_
          rintro _ _ _ ⟨rfl, rfl, rfl⟩
          refine WL.nil (WP.blkNormal (WP.thenC (WC.seq (WC.ofFr [(8, _), (3, _), (2, _)] ⟨rfl, rfl, rfl, trivial⟩ (WC.region ?_)))))
          refine zym rfl rfl ?_
          refine zya rfl rfl ?_
          refine WL.so (SO.store 4 rfl Tryz.sizeOf38 rfl rfl rfl rfl (zqb rfl) (oneB_spec rfl)) rfl ?_
          rintro _ _ _ ⟨rfl, rfl, rfl⟩
          refine WL.nil (WP.thenC (WC.ret ?_))
          refine WP.endDA [_, _] [_, _] rfl rfl Tryz.call51 (fun w hI => answer_idle b3 w) Tryz.results25 ⟨(RV.tmp rfl), (RV.cell1 Tryz.isAgg38 rfl (by first | exact ro0 rfl rfl | exact ro1 rfl rfl | exact ro2 rfl rfl | exact ro3 rfl rfl | exact ro4 rfl rfl)), trivial⟩ (fun w hI => ⟨_, _, _, rfl, DExt.refl _ _, Inv.left (l1 := [_]) hI, rfl, .inl ⟨by rw [mendP_two h0' hts hl2 hl1], b32, by rw [mendP_two h0' hts hl2 hl1, List.length_set]; rfl, by rw [mendP_two h0' hts hl2 hl1] <;> rfl, hb32⟩⟩)
        · try simp only [zq1, zq2, zq3, zq4, zq5, zq6, zq7, zq8] at c77
          have hl1 : (lackN l).1 ≠ 0 := by omega
          refine WC.seq (WC.ofFr [(9, _), (8, _), (7, _), (3, _), (2, _)] ⟨rfl, rfl, rfl, rfl, rfl, trivial⟩ (WC.region ?_))
          refine WL.yd (Yd.fieldAddr FA107_1 rfl) rfl ?_
          refine WL.yd (Yd.load1 Tryz.isAgg3 rfl (by first | exact ro0 rfl rfl | exact ro1 rfl rfl | exact ro2 rfl rfl | exact ro3 rfl rfl | exact ro4 rfl rfl)) rfl ?_
          refine WL.yd (Yd.fieldAddr FA107_0 rfl) rfl ?_
          refine WL.yd (Yd.load1 Tryz.isAgg3 rfl (by first | exact ro0 rfl rfl | exact ro1 rfl rfl | exact ro2 rfl rfl | exact ro3 rfl rfl | exact ro4 rfl rfl)) rfl ?_
          refine WL.so (SO.callP Tryz.call72 rfl (fun w hI => quo_g (lackN l).2 (lackN l).1 hlk.2 hlk.1 _)) rfl ?_
          rintro _ _ _ ⟨rfl, rfl, rfl⟩
          refine zya rfl rfl ?_
          refine WL.nil (WP.thenC (WC.seq (WC.ofFr [(10, _), (9, _), (8, _), (7, _), (3, _), (2, _)] ⟨rfl, rfl, rfl, rfl, rfl, rfl, trivial⟩ (WC.region ?_))))
          refine zym rfl rfl ?_
          refine WL.yd (Yd.leq rfl rfl) rfl ?_
          refine zym rfl rfl ?_
          refine WL.part 45 rfl (fun g45 => ?_) (fun g45 => ?_)
          · try simp only [zq1, zq2, zq3, zq4, zq5, zq6, zq7, zq8] at g45
            refine WL.ydg rfl (Yd.move rfl) rfl ?_
            refine WL.ydg rfl (Yd.move rfl) rfl ?_
            refine WL.ydg rfl (Yd.leq rfl rfl) rfl ?_
            refine WL.yd (Yd.pickT rfl rfl) rfl ?_
            refine WL.part 49 rfl (fun g49 => ?_) (fun g49 => ?_)
            · try simp only [zq1, zq2, zq3, zq4, zq5, zq6, zq7, zq8] at g49
              refine WL.so (SO.call (Enters.func Tryz.call61 rfl) (fun w hI => must_ok _ _)) rfl ?_
              rintro _ _ _ ⟨rfl, rfl, rfl⟩
              refine WL.nil (WP.thenC (WC.ofFr [(10, _), (8, _), (7, _), (3, _), (2, _)] ⟨rfl, rfl, rfl, rfl, rfl, trivial⟩ ?_))
              refine WC.drawD [_, _, _, _] [(0, true), (1, true), (2, true), (3, true), (4, true), (5, true), (6, true), (9, true), (10, true), (7, false), (8, true), (11, true), (12, true), (13, true), (14, true), (15, false)] (by kernel_rfl) (by kernel_rfl) (QuietOn.blk (QuietOn.then (QuietOn.bodyD (by kernel_rfl)))) (fun _ hI => hI.tail) ?_
              refine WA.yd rfl (Yd.move rfl) rfl ?_
              refine WA.yd rfl (Yd.move rfl) rfl ?_
              refine WA.yd rfl (Yd.sub rfl rfl (wr64 ⟨by (try dsimp only); omega, by (try dsimp only); omega⟩)) rfl ?_
              refine WA.know 53 (nt ((quoN (lackN l).2 (lackN l).1) - 1)) rfl (by congr 1; omega) ?_
              refine WA.yd rfl (Yd.move rfl) rfl ?_
              refine WA.yd rfl (Yd.move rfl) rfl ?_
              refine WA.yd rfl (Yd.sub rfl rfl (wr64 ⟨by (try dsimp only); omega, by (try dsimp only); omega⟩)) rfl ?_
              refine WA.know 56 (nt ((quoN (lackN l).2 (lackN l).1) - 1)) rfl (by congr 1; omega) ?_
              have hb8 := (gt l ((quoN (lackN l).2 (lackN l).1) - 1)).toNat_lt
              refine WA.yd rfl (Yd.indexS Tryz.underlying43 Tryz.sizeOf5 rfl rfl (by (try dsimp only); omega) (by (try dsimp only); omega) (by first | exact rfl)) rfl ?_
              refine WA.yd rfl (Yd.fieldAddr FA107_0 rfl) rfl ?_
              refine WA.yd rfl (Yd.load1 Tryz.isAgg3 rfl (by first | exact ro0 rfl rfl | exact ro1 rfl rfl | exact ro2 rfl rfl | exact ro3 rfl rfl | exact ro4 rfl rfl)) rfl ?_
              refine WA.so rfl (SO.ofYd (Yd.load1 Tryz.isAgg5 rfl (Rd.flat btC_len (k := 0) (i := (quoN (lackN l).2 (lackN l).1) - 1) (j := 0) (l := l) (rest := []) rfl (by omega) (by decide) rfl))) rfl ?_
              rintro _ _ _ ⟨rfl, rfl, rfl⟩
              refine ⟨fun _ hI => hI.tail, ?_⟩
              refine WA.yd rfl (Yd.conv Tryz.underlying5 Tryz.underlying3 rfl (wr64 ⟨by omega, by omega⟩)) rfl ?_
              refine WA.yd rfl (Yd.add rfl rfl (wr64 ⟨by (try dsimp only); omega, by (try dsimp only); omega⟩)) rfl ?_
              refine WA.yd rfl (Yd.rem rfl rfl (by (try dsimp only); omega) (by (try dsimp only); omega)) rfl ?_
              refine WA.yd rfl (Yd.conv Tryz.underlying3 Tryz.underlying5 rfl (wr8 ⟨by (try dsimp only); omega, by (try dsimp only); omega⟩)) rfl ?_
              refine WA.yd rfl (Yd.indexS Tryz.underlying43 Tryz.sizeOf5 rfl rfl (by (try dsimp only); omega) (by (try dsimp only); omega) (by first | exact rfl)) rfl ?_
              refine WA.know 64 (bt (UInt8.ofNat (((gt l ((quoN (lackN l).2 (lackN l).1) - 1)).toNat + (lackN l).1) % 251))) rfl ((btN (by omega)).trans (by simp)).symm ?_
              refine WA.so rfl (SO.storeRow (f := btC) (m := 1) btC_len (l := l) (i := (quoN (lackN l).2 (lackN l).1) - 1) (y := UInt8.ofNat (((gt l ((quoN (lackN l).2 (lackN l).1) - 1)).toNat + (lackN l).1) % 251)) (rest := []) 0 rfl Tryz.sizeOf5 rfl rfl rfl (by omega) (oneB_spec rfl)) rfl ?_
              rintro _ _ _ ⟨rfl, rfl, rfl⟩
              refine ⟨fun _ hI => hI.tail, ?_⟩
              refine WA.nil (WP.blkNormal (WP.thenC (WC.seq (WC.ofFr [(8, _), (3, _), (2, _)] ⟨rfl, rfl, rfl, trivial⟩ (WC.region ?_)))))
              refine zym rfl rfl ?_
              refine zya rfl rfl ?_
              refine WL.so (SO.store 4 rfl Tryz.sizeOf38 rfl rfl rfl rfl (zqb rfl) (oneB_spec rfl)) rfl ?_
              rintro _ _ _ ⟨rfl, rfl, rfl⟩
              refine WL.nil (WP.thenC (WC.ret ?_))
              refine WP.endDA [_, _] [_, _] rfl rfl Tryz.call51 (fun w hI => answer_idle b3 w) Tryz.results25 ⟨(RV.tmp rfl), (RV.cell1 Tryz.isAgg38 rfl (by first | exact ro0 rfl rfl | exact ro1 rfl rfl | exact ro2 rfl rfl | exact ro3 rfl rfl | exact ro4 rfl rfl)), trivial⟩ (fun w hI => ⟨_, _, _, rfl, DExt.refl _ _, Inv.left (l1 := [_]) hI, rfl, .inl ⟨by rw [mendP_byte h0' hts hl2 hl1 (by omega)], b32, by rw [mendP_byte h0' hts hl2 hl1 (by omega), List.length_set]; rfl, by rw [mendP_byte h0' hts hl2 hl1 (by omega)] <;> rfl, hb32⟩⟩)
            · try simp only [zq1, zq2, zq3, zq4, zq5, zq6, zq7, zq8] at g49
              refine WL.no (SO.fail (Enters.func Tryz.call61 rfl) (fun w hI => must_no _ _) ?_)
              refine WP.thenPanic ?_
              refine WP.blkPanic ?_
              refine WP.thenPanic ?_
              refine WP.panicDA (k := 4) [_, _] [_, _] rfl Tryz.call51 rfl (fun w hI => answer_catch b3 _ 0 _ w (hI.own _ _ (List.mem_of_getElem? (i := 4) rfl))) Tryz.results25 ⟨(RV.tmp rfl), (RV.cell1 Tryz.isAgg38 rfl (by first | exact ro0 rfl rfl | exact ro1 rfl rfl | exact ro2 rfl rfl | exact ro3 rfl rfl | exact ro4 rfl rfl)), trivial⟩ (fun w hI => ⟨_, _, [], rfl, DExt.refl _ _, Inv.nil hI, rfl, .inr ⟨by rw [mendP_ref h0' hts hl2 hl1 (by omega)]; first | decide | (simpa using h0), by rw [mendP_ref h0' hts hl2 hl1 (by omega)], by rw [mendP_ref h0' hts hl2 hl1 (by omega)]; rfl, rfl⟩⟩)
          · try simp only [zq1, zq2, zq3, zq4, zq5, zq6, zq7, zq8] at g45
            refine WL.skip rfl rfl ?_
            refine WL.skip rfl rfl ?_
            refine WL.skip rfl rfl ?_
            refine WL.yd (Yd.pickF rfl rfl) rfl ?_
            refine WL.no (SO.fail (Enters.func Tryz.call61 rfl) (fun w hI => must_no _ _) ?_)
            refine WP.thenPanic ?_
            refine WP.blkPanic ?_
            refine WP.thenPanic ?_
            refine WP.panicDA (k := 4) [_, _] [_, _] rfl Tryz.call51 rfl (fun w hI => answer_catch b3 _ 0 _ w (hI.own _ _ (List.mem_of_getElem? (i := 4) rfl))) Tryz.results25 ⟨(RV.tmp rfl), (RV.cell1 Tryz.isAgg38 rfl (by first | exact ro0 rfl rfl | exact ro1 rfl rfl | exact ro2 rfl rfl | exact ro3 rfl rfl | exact ro4 rfl rfl)), trivial⟩ (fun w hI => ⟨_, _, [], rfl, DExt.refl _ _, Inv.nil hI, rfl, .inr ⟨by rw [mendP_ref h0' hts hl2 hl1 (by omega)]; first | decide | (simpa using h0), by rw [mendP_ref h0' hts hl2 hl1 (by omega)], by rw [mendP_ref h0' hts hl2 hl1 (by omega)]; rfl, rfl⟩⟩)
    · try simp only [zq1, zq2, zq3, zq4, zq5, zq6, zq7, zq8] at g19
      refine WA.no rfl (SO.fail (Enters.func Tryz.call61 rfl) (fun w hI => must_no _ _) ?_)
      refine WP.thenPanic ?_
      refine WP.panicDA (k := 1) [_, _] [_, _] rfl Tryz.call51 rfl (fun w hI => answer_catch b3 _ 0 _ w (hI.own _ _ (List.mem_of_getElem? (i := 1) rfl))) Tryz.results25 ⟨(RV.tmp rfl), (RV.cell1 Tryz.isAgg38 rfl (by first | exact ro0 rfl rfl | exact ro1 rfl rfl)), trivial⟩ (fun w hI => ⟨_, _, [], rfl, DExt.refl _ _, Inv.nil hI, rfl, .inr ⟨by rw [mendP_same h0' g19]; first | decide | (simpa using h0), by rw [mendP_same h0' g19], by rw [mendP_same h0' g19]; rfl, rfl⟩⟩)

end Go.Proofs.YtaebnllfmkcpgaaGreatDoor
