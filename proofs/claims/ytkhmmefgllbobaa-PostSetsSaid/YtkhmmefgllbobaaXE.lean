import Derived.Test.YtkhmmefgllbobaaXD
set_option linter.unusedSimpArgs false
set_option linter.unusedVariables false
set_option linter.all false
namespace Go.Proofs.Ytkhmmefgllbobaa
open Go.W Go.Po

theorem nd_of (i j : Nat) (hi : i < 7) (hj : j < 7) : ∃ y : Nd2, y.1.val = i ∧ y.2.val = j ∧ Value.agg #[it ((i : Int) - 2), it ((j : Int) - 2)] = ndV y := ⟨(⟨i, hi⟩, ⟨j, hj⟩), rfl, rfl, rfl⟩
theorem mid_none {n : Nat} {F : FM} {y k : Nat} (h : midTo n F y k k y = none) : midTo n F y (k + 1) = midTo n F y k := by simp only [midTo]; rw [h]
theorem mid_some {n : Nat} {F : FM} {y k : Nat} {s : Int} (h : midTo n F y k k y = some s) : midTo n F y (k + 1) = innerTo (midTo n F y k) y k s n := by simp only [midTo]; rw [h]
theorem inner_none {F : FM} {y f k : Nat} {s : Int} (h : innerTo F y f s k y k = none) : innerTo F y f s (k + 1) = innerTo F y f s k := by simp only [innerTo]; rw [h]
theorem inner_some {F : FM} {y f k : Nat} {s t : Int} (h : innerTo F y f s k y k = some t) : innerTo F y f s (k + 1) = setN (innerTo F y f s k) f k (s + t) := by simp only [innerTo]; rw [h]

set_option maxRecDepth 100000 in
set_option maxHeartbeats 1000000 in
theorem bounds_g (p : Post) (a1 : Option Addr) (n1 c1 : Nat) (a2 : Option Addr) (n2 c2 : Nat) (q : Nat) (D : Imm) (w : World) (hB : BeachAt D q p (.slice a1 n1 c1) (.slice a2 n2 c2)) (hR : PostR D p a1 n1 a2 n2) (hH : Holds D w) (hv : postB p = true) (l : List Rule) (a3 : Option Addr) (n3 c3 : Nat) (hS : SlL D 1 (l.map ruleC) a3 n3) (hl3 : n3 ≤ 1000) (hl : RulesP p l) : Makes Try.prog 62 [pt q, .slice a3 n3 c3] w D (fun v D' => ∃ es clock bm, v = .tuple #[if farOk p l then .map (some bm) else .map none, .bool (farOk p l)] ∧ D' bm = some (.map es clock) ∧ MapF es clock (farOf p l)) := by
  unfold Makes
  obtain rfl := hR.bath.len'
  obtain rfl := hR.claim.len'
  have hl1 := hR.len1
  have hl2 := hR.len2
  obtain rfl := hS.len'
  have h5 := (post_num hv).2.1
  have hn7 := nodes_le hv
  refine enterM Try.func62 rfl 103 Try.ntmps62 (Nat.le_of_ble_eq_true rfl) (Inv.start hH) ?_
  refine WC.seq ?_
  refine WC.ofFr [(0, _), (1, _)] ⟨rfl, rfl, trivial⟩ ?_
  refine WC.region ?_
  refine WL.so (SO.box rfl rfl) rfl ?_
  rintro _ _ _ ⟨b2, hb2, rfl, rfl, rfl⟩ -- NEW
  refine WL.so (SO.alloc Try.zeroValue73 rfl) rfl ?_
  rintro _ _ _ ⟨b4, hb4, rfl, rfl, rfl⟩ -- NEW
  refine WL.so (SO.alloc Try.zeroValue4 rfl) rfl ?_
  rintro _ _ _ ⟨b5, hb5, rfl, rfl, rfl⟩ -- NEW
  refine WL.nil ?_
  refine WP.thenC ?_
  refine WC.seq ?_
  refine WC.ofFr [(5, _), (4, _), (2, _), (1, _)] ⟨rfl, rfl, rfl, rfl, trivial⟩ ?_
  refine WC.region ?_
  refine WL.so SO.makeMap rfl ?_
  rintro _ _ _ ⟨b20, hb20, rfl, rfl, rfl⟩ -- NEW
  refine WL.so (SO.alloc Try.zeroValue73 rfl) rfl ?_
  rintro _ _ _ ⟨b6, hb6, rfl, rfl, rfl⟩ -- NEW
  refine WL.so (SO.store 0 rfl Try.sizeOf73 rfl rfl rfl rfl (Nat.le_of_ble_eq_true rfl) (oneB_spec rfl)) rfl ?_
  rintro _ _ _ ⟨rfl, rfl, rfl⟩
  refine WL.nil ?_
  refine WP.thenC ?_
  refine WC.seq ?_
  refine WC.ofFr [(6, _), (5, _), (4, _), (2, _), (1, _)] ⟨rfl, rfl, rfl, rfl, rfl, trivial⟩ ?_
  refine WC.region ?_
  refine WL.yd (Yd.load1 Try.isAgg73 rfl (by first | exact Rd.own (k := 0) rfl rfl | exact Rd.own (k := 1) rfl rfl | exact Rd.own (k := 2) rfl rfl | exact Rd.own (k := 3) rfl rfl | exact Rd.own (k := 4) rfl rfl | exact (Rd.imm h2 rfl) | exact (Rd.imm h6 rfl) | exact (Rd.imm h7 rfl) | exact (Rd.imm h12 rfl) | exact (Rd.imm h13 rfl) | exact (Rd.imm h14 rfl) | exact ((hS.at k (by omega)).rd 0 rfl))) rfl ?_
  refine WL.yd (Yd.func rfl rfl) rfl ?_
  refine WL.so (SO.alloc Try.zeroValue133 rfl) rfl ?_
  rintro _ _ _ ⟨b7, hb7, rfl, rfl, rfl⟩ -- NEW
  refine WL.so (SO.store 0 rfl Try.sizeOf133 rfl rfl rfl rfl (Nat.le_of_ble_eq_true rfl) (oneB_spec rfl)) rfl ?_
  rintro _ _ _ ⟨rfl, rfl, rfl⟩
  refine WL.nil ?_
  refine WP.thenC ?_
  refine WC.seq ?_
  refine WC.seq ?_
  refine WC.freezeK 0 rfl (fun hn7 => ?_)
  refine WC.freezeK 0 rfl (fun hn6 => ?_)
  refine WC.freezeK 3 rfl (fun hn2 => ?_)
  have hXt : DExt w D (((D.add b7 (.cells (List.toArray [.func (.func 97) #[.map (some b20)] #[]]) 133 (0, 0))).add b6 (.cells (List.toArray [.map (some b20)]) 73 (0, 0))).add b2 (.cells (List.toArray [pt q]) 74 (0, 0))) := (((DExt.refl w D).add hn7 hb7).add hn6 hb6).add hn2 hb2
  have h2 : (((D.add b7 (.cells (List.toArray [.func (.func 97) #[.map (some b20)] #[]]) 133 (0, 0))).add b6 (.cells (List.toArray [.map (some b20)]) 73 (0, 0))).add b2 (.cells (List.toArray [pt q]) 74 (0, 0))) b2 = some (.cells (List.toArray [pt q]) 74 (0, 0)) := Imm.add_self _ _ _
  have h6 : (((D.add b7 (.cells (List.toArray [.func (.func 97) #[.map (some b20)] #[]]) 133 (0, 0))).add b6 (.cells (List.toArray [.map (some b20)]) 73 (0, 0))).add b2 (.cells (List.toArray [pt q]) 74 (0, 0))) b6 = some (.cells (List.toArray [.map (some b20)]) 73 (0, 0)) := ((DExt.refl w _).add hn2 hb2).old _ _ (Imm.add_self _ _ _)
  have h7 : (((D.add b7 (.cells (List.toArray [.func (.func 97) #[.map (some b20)] #[]]) 133 (0, 0))).add b6 (.cells (List.toArray [.map (some b20)]) 73 (0, 0))).add b2 (.cells (List.toArray [pt q]) 74 (0, 0))) b7 = some (.cells (List.toArray [.func (.func 97) #[.map (some b20)] #[]]) 133 (0, 0)) := (((DExt.refl w _).add hn6 hb6).add hn2 hb2).old _ _ (Imm.add_self _ _ _)
  replace hB := hB.ext hXt
  replace hR := hR.ext hXt
  refine (?_ : WC Try.prog _ _ (((D.add b7 (.cells (List.toArray [.func (.func 97) #[.map (some b20)] #[]]) 133 (0, 0))).add b6 (.cells (List.toArray [.map (some b20)]) 73 (0, 0))).add b2 (.cells (List.toArray [pt q]) 74 (0, 0))) [(b20, .map #[] 0), (b5, .cells (List.toArray [.bool false]) 4 (0, 0)), (b4, .cells (List.toArray [.map none]) 73 (0, 0))] _ _)
  generalize (((D.add b7 (.cells (List.toArray [.func (.func 97) #[.map (some b20)] #[]]) 133 (0, 0))).add b6 (.cells (List.toArray [.map (some b20)]) 73 (0, 0))).add b2 (.cells (List.toArray [pt q]) 74 (0, 0))) = D1 at hXt h2 h6 h7 hB hR ⊢
  refine WC.hpPerm [(b5, .cells (List.toArray [.bool false]) 4 (0, 0)), (b4, .cells (List.toArray [.map none]) 73 (0, 0)), (b20, .map #[] 0)] (List.perm_append_comm (l₁ := [_]) (l₂ := [_, _])) ?_
  refine WC.ofFr [(7, _), (6, _), (5, _), (4, _), (2, _), (1, _)] ⟨rfl, rfl, rfl, rfl, rfl, rfl, trivial⟩ ?_
  refine WC.region ?_
  refine WL.yd (Yd.load1 Try.isAgg74 rfl (by first | exact Rd.own (k := 0) rfl rfl | exact Rd.own (k := 1) rfl rfl | exact Rd.own (k := 2) rfl rfl | exact (Rd.imm h2 rfl) | exact (Rd.imm h6 rfl) | exact (Rd.imm h7 rfl) | exact (Rd.imm h12 rfl) | exact (Rd.imm h13 rfl) | exact (Rd.imm h14 rfl) | exact ((hS.at k (by omega)).rd 0 rfl))) rfl ?_
  refine WL.so (SO.makes (Enters.func Try.call98 rfl) (fun w hI => all_g q _ w hI.imm)) rfl ?_
  rintro _ D2 _ ⟨hX2, ⟨b24, rfl, hb24⟩, rfl⟩
  have hB := hB.ext hX2
  have hR := hR.ext hX2
  have h7 := hX2.old _ _ h7
  have h6 := hX2.old _ _ h6
  have h2 := hX2.old _ _ h2
  have hXt := hXt.trans hX2 (Nat.le_refl _)
  refine WL.nil ?_
  refine WP.thenC ?_
  refine WC.block ?_
  refine WC.ofFr [(1, _), (2, _), (4, _), (5, _), (6, _), (7, _), (24, _)] ⟨rfl, rfl, rfl, rfl, rfl, rfl, rfl, trivial⟩ ?_
  refine WC.rangeIter (fun w1 => all1_iter p a1 _ c1 _ q b24 D2 hB hb24 rfl hl1 w1) rfl Try.call111 rfl (fun k _ h => ∃ es clock, h = [(b5, .cells (List.toArray [.bool false]) 4 (0, 0)), (b4, .cells (List.toArray [.map none]) 73 (0, 0)), (b20, .map es clock)] ∧ MapF es clock (initN p k)) (fun c _ h => False) (by rintro k D' h ⟨es, clock, rfl, _⟩; rfl) (fun _ _ _ h => h.elim) (fun _ _ _ _ _ h => h) ⟨#[], 0, rfl, MapF.empty⟩ ?_ ?_ ?_
  · rintro rec1 l1 Dn0 k D3 _ w1 hrec hk ⟨es, clock, rfl, hM⟩ hX3 hsz
    unfold RoundG
    have hB := hB.ext hX3
    have hR := hR.ext hX3
    have h7 := hX3.old _ _ h7
    have h6 := hX3.old _ _ h6
    have h2 := hX3.old _ _ h2
    have hpn := place_num hv hk
    obtain ⟨y1, hy11, hy12, hy1v⟩ := nd_of 0 k (by omega) (by omega)
    obtain ⟨y2, hy21, hy22, hy2v⟩ := nd_of k 0 (by omega) (by omega)
    obtain ⟨y3, hy31, hy32, hy3v⟩ := nd_of k k (by omega) (by omega)
    refine WCF.ofFr [(25, _), (2, _), (4, _), (5, _), (7, _)] ⟨rfl, rfl, rfl, rfl, rfl, trivial⟩ ?_
    refine WCF.region ?_
    refine WLF.yd (by intro _ h; cases h) (Yd.assign rfl) rfl ?_
    refine WLF.nil ?_
    refine WP.iterBegin 0 rfl hrec ?_
    refine WCF.block ?_
    refine WCF.seq ?_
    refine WCF.ofFr [(8, _), (2, _), (4, _), (5, _), (7, _)] ⟨rfl, rfl, rfl, rfl, rfl, trivial⟩ ?_
    refine WCF.region ?_
    refine WLF.yd (by intro _ h; cases h) (Yd.load1 Try.isAgg74 rfl (by first | exact Rd.own (k := 0) rfl rfl | exact Rd.own (k := 1) rfl rfl | exact Rd.own (k := 2) rfl rfl | exact Rd.own (k := 3) rfl rfl | exact Rd.own (k := 4) rfl rfl | exact (Rd.imm h2 rfl) | exact (Rd.imm h6 rfl) | exact (Rd.imm h7 rfl) | exact (Rd.imm h12 rfl) | exact (Rd.imm h13 rfl) | exact (Rd.imm h14 rfl) | exact ((hS.at k (by omega)).rd 0 rfl))) rfl ?_
    refine WLF.yd (by intro _ h; cases h) (Yd.move rfl) rfl ?_
    refine WLF.so (by intro _ h; cases h) (SO.callP Try.call99 rfl (fun w hI => place_g p a1 _ c1 a2 _ c2 q D3 _ hB hR hI.imm hv k hk)) rfl ?_
    rintro _ _ _ ⟨rfl, rfl, rfl⟩
    refine WLF.so (by intro _ h; cases h) (SO.alloc Try.zeroValue23 rfl) rfl ?_
    rintro _ _ _ ⟨b9, hb9, rfl, rfl, rfl⟩ -- NEW
    refine WLF.so (by intro _ h; cases h) (SO.store 0 rfl Try.sizeOf23 rfl rfl rfl rfl (Nat.le_of_ble_eq_true rfl) (oneB_spec rfl)) rfl ?_
    rintro _ _ _ ⟨rfl, rfl, rfl⟩
    refine WLF.nil ?_
    refine WP.thenCF ?_
    refine WCF.seq ?_
    refine WCF.ofFr [(9, _), (8, _), (4, _), (5, _), (7, _)] ⟨rfl, rfl, rfl, rfl, rfl, trivial⟩ ?_
    refine WCF.region ?_
    refine WLF.yd (by intro _ h; cases h) (Yd.load1 Try.isAgg133 rfl (by first | exact Rd.own (k := 0) rfl rfl | exact Rd.own (k := 1) rfl rfl | exact Rd.own (k := 2) rfl rfl | exact Rd.own (k := 3) rfl rfl | exact Rd.own (k := 4) rfl rfl | exact Rd.own (k := 5) rfl rfl | exact (Rd.imm h2 rfl) | exact (Rd.imm h6 rfl) | exact (Rd.imm h7 rfl) | exact (Rd.imm h12 rfl) | exact (Rd.imm h13 rfl) | exact (Rd.imm h14 rfl) | exact ((hS.at k (by omega)).rd 0 rfl))) rfl ?_
    refine WLF.yd (by intro _ h; cases h) (Yd.move rfl) rfl ?_
    refine WLF.yd (by intro _ h; cases h) (Yd.build SA79 rfl (cs := [_, _]) rfl) rfl ?_
    refine WLF.yd (by intro _ h; cases h) (Yd.fieldAddr FA23_1 rfl) rfl ?_
    refine WLF.yd (by intro _ h; cases h) (Yd.load1 Try.isAgg3 rfl (by first | exact Rd.own (k := 0) rfl rfl | exact Rd.own (k := 1) rfl rfl | exact Rd.own (k := 2) rfl rfl | exact Rd.own (k := 3) rfl rfl | exact Rd.own (k := 4) rfl rfl | exact Rd.own (k := 5) rfl rfl | exact (Rd.imm h2 rfl) | exact (Rd.imm h6 rfl) | exact (Rd.imm h7 rfl) | exact (Rd.imm h12 rfl) | exact (Rd.imm h13 rfl) | exact (Rd.imm h14 rfl) | exact ((hS.at k (by omega)).rd 0 rfl))) rfl ?_
    refine WLF.know 31 (ndV y1) rfl hy1v ?_
    refine WLF.so (by intro _ h; cases h) (SO.alters (own := [_, _, _, _, _]) (hpc := [_]) (S1 := [b20]) (fun _ h => h) (fun h => h) (fun _ h => h) (fun _ h => h) (Enters.val Try.call97 rfl rfl) (fun w1 hI => set_g (initN p k) es clock b20 y1 (placeN p k).hi D3 w1 hM hI)) rfl ?_
    rintro _ _ _ ⟨_, hXs1, ⟨rfl, es1, clock1, rfl, hM1⟩, rfl⟩
    refine WLF.nil ?_
    refine WP.thenCF ?_
    refine WCF.seq ?_
    refine WCF.ofFr [(9, _), (8, _), (4, _), (5, _), (7, _)] ⟨rfl, rfl, rfl, rfl, rfl, trivial⟩ ?_
    refine WCF.region ?_
    rw [hy11, hy12] at hM1
    refine WLF.yd (by intro _ h; cases h) (Yd.load1 Try.isAgg133 rfl (by first | exact Rd.own (k := 0) rfl rfl | exact Rd.own (k := 1) rfl rfl | exact Rd.own (k := 2) rfl rfl | exact Rd.own (k := 3) rfl rfl | exact Rd.own (k := 4) rfl rfl | exact Rd.own (k := 5) rfl rfl | exact (Rd.imm h2 rfl) | exact (Rd.imm h6 rfl) | exact (Rd.imm h7 rfl) | exact (Rd.imm h12 rfl) | exact (Rd.imm h13 rfl) | exact (Rd.imm h14 rfl) | exact ((hS.at k (by omega)).rd 0 rfl))) rfl ?_
    refine WLF.yd (by intro _ h; cases h) (Yd.move rfl) rfl ?_
    refine WLF.yd (by intro _ h; cases h) (Yd.build SA79 rfl (cs := [_, _]) rfl) rfl ?_
    refine WLF.yd (by intro _ h; cases h) (Yd.fieldAddr FA23_0 rfl) rfl ?_
    refine WLF.yd (by intro _ h; cases h) (Yd.load1 Try.isAgg3 rfl (by first | exact Rd.own (k := 0) rfl rfl | exact Rd.own (k := 1) rfl rfl | exact Rd.own (k := 2) rfl rfl | exact Rd.own (k := 3) rfl rfl | exact Rd.own (k := 4) rfl rfl | exact Rd.own (k := 5) rfl rfl | exact (Rd.imm h2 rfl) | exact (Rd.imm h6 rfl) | exact (Rd.imm h7 rfl) | exact (Rd.imm h12 rfl) | exact (Rd.imm h13 rfl) | exact (Rd.imm h14 rfl) | exact ((hS.at k (by omega)).rd 0 rfl))) rfl ?_
    refine WLF.yd (by intro _ h; cases h) (Yd.neg rfl (wr64 ⟨by omega, by omega⟩)) rfl ?_
    refine WLF.know 37 (ndV y2) rfl hy2v ?_
    refine WLF.so (by intro _ h; cases h) (SO.alters (own := [_, _, _, _, _]) (hpc := [_]) (S1 := [b20]) (fun _ h => h) (fun h => h) (fun _ h => h) (fun _ h => h) (Enters.val Try.call97 rfl rfl) (fun w1 hI => set_g (setN (initN p k) 0 k (placeN p k).hi) es1 clock1 b20 y2 (-(placeN p k).lo) D3 w1 hM1 hI)) rfl ?_
    rintro _ _ _ ⟨_, hXs2, ⟨rfl, es2, clock2, rfl, hM2⟩, rfl⟩
    refine WLF.nil ?_
    refine WP.thenCF ?_
    refine WCF.ofFr [(8, _), (4, _), (5, _), (7, _)] ⟨rfl, rfl, rfl, rfl, trivial⟩ ?_
    refine WCF.region ?_
    rw [hy21, hy22] at hM2
    refine WLF.yd (by intro _ h; cases h) (Yd.load1 Try.isAgg133 rfl (by first | exact Rd.own (k := 0) rfl rfl | exact Rd.own (k := 1) rfl rfl | exact Rd.own (k := 2) rfl rfl | exact Rd.own (k := 3) rfl rfl | exact Rd.own (k := 4) rfl rfl | exact Rd.own (k := 5) rfl rfl | exact (Rd.imm h2 rfl) | exact (Rd.imm h6 rfl) | exact (Rd.imm h7 rfl) | exact (Rd.imm h12 rfl) | exact (Rd.imm h13 rfl) | exact (Rd.imm h14 rfl) | exact ((hS.at k (by omega)).rd 0 rfl))) rfl ?_
    refine WLF.yd (by intro _ h; cases h) (Yd.move rfl) rfl ?_
    refine WLF.yd (by intro _ h; cases h) (Yd.move rfl) rfl ?_
    refine WLF.yd (by intro _ h; cases h) (Yd.build SA79 rfl (cs := [_, _]) rfl) rfl ?_
    refine WLF.know 45 (ndV y3) rfl hy3v ?_
    refine WLF.so (by intro _ h; cases h) (SO.alters (own := [_, _, _, _, _]) (hpc := [_]) (S1 := [b20]) (fun _ h => h) (fun h => h) (fun _ h => h) (fun _ h => h) (Enters.val Try.call97 rfl rfl) (fun w1 hI => set_g (setN (setN (initN p k) 0 k (placeN p k).hi) k 0 (-(placeN p k).lo)) es2 clock2 b20 y3 0 D3 w1 hM2 hI)) rfl ?_
    rintro _ _ _ ⟨_, hXs3, ⟨rfl, es3, clock3, rfl, hM3⟩, rfl⟩
    refine WLF.nil ?_
    refine WP.blkNormal ?_
    rw [hy31, hy32] at hM3
    exact WP.iterOn hrec (h1 := [(b5, .cells (List.toArray [.bool false]) 4 (0, 0)), (b4, .cells (List.toArray [.map none]) 73 (0, 0)), (b20, .map es3 clock3)]) (fun _ h => List.mem_cons_of_mem _ h) (fun h => (List.nodup_cons.1 h).2) (DExt.refl _ _) (fun _ h => h) ⟨es3, clock3, rfl, hM3⟩
  · rintro Dn1 D4 _ hDn1 hX4 ⟨es, clock, rfl, hM⟩
    have hB := hB.ext hX4
    have hR := hR.ext hX4
    have h7 := hX4.old _ _ h7
    have h6 := hX4.old _ _ h6
    have h2 := hX4.old _ _ h2
    have hXt := hXt.trans hX4 (Nat.le_refl _)
    refine WP.blkNormal ?_
    refine WP.thenC ?_
    refine WC.seq ?_
    refine WC.seq ?_
    have hS := hS.ext hXt
    refine WC.ofFr [(1, _), (2, _), (4, _), (5, _), (6, _), (7, _)] ⟨rfl, rfl, rfl, rfl, rfl, rfl, trivial⟩ ?_
    refine WC.region ?_
    refine WL.yd (Yd.move rfl) rfl ?_
    refine WL.yd (Yd.lenS rfl Try.underlying97 rfl) rfl ?_
    refine WL.yd (Yd.move rfl) rfl ?_
    refine WL.nil ?_
    refine WP.thenC ?_
    refine WC.block ?_
    refine WC.loop (fun y : Nat × Array MapEntry × Nat => [(2, pt b2), (4, pt b4), (5, pt b5), (6, pt b6), (7, pt b7), (47, .slice a3 l.length c3), (48, nt l.length), (49, nt y.1)]) (fun y => [(Dn1, .deferred (some [])), (b5, .cells (List.toArray [.bool false]) 4 (0, 0)), (b4, .cells (List.toArray [.map none]) 73 (0, 0)), (b20, .map y.2.1 y.2.2)]) (fun _ => D4) (fun y => y.1 ≤ l.length ∧ MapF y.2.1 y.2.2 (rulesTo (initN p (nodes p)) l y.1)) (fun y => l.length - y.1) (0, es, clock) ⟨by omega, hM⟩ (fun a w h => at_fr h ⟨rfl, rfl, rfl, rfl, rfl, rfl, rfl, rfl, trivial⟩) ?_
    clear hM es clock
    rintro ⟨k, es, clock⟩ ⟨hk, hM⟩
    dsimp only at hk hM
    refine WC.seq ?_
    refine WC.ofFr [(2, _), (4, _), (5, _), (6, _), (7, _), (47, _), (48, _), (49, _)] ⟨rfl, rfl, rfl, rfl, rfl, rfl, rfl, rfl, trivial⟩ ?_
    refine WC.region ?_
    refine WL.yd (Yd.lss rfl rfl) rfl ?_
    refine WL.nil ?_
    refine WP.thenC ?_
    refine WC.seq ?_
    refine WC.cond rfl (fun c50 => ?_) (fun c50 => ?_)
    · try simp only [zq1, zq2, zq3, zq4, zq5, zq6, zq7, zq8] at c50
      refine WC.skip ?_
      refine WP.thenC ?_
      refine WC.seq ?_
      refine WC.block ?_
      refine WC.seq ?_
      refine WC.ofFr [(2, _), (4, _), (5, _), (6, _), (7, _), (47, _), (48, _), (49, _)] ⟨rfl, rfl, rfl, rfl, rfl, rfl, rfl, rfl, trivial⟩ ?_
      refine WC.region ?_
      refine WL.yd (Yd.indexS Try.underlying97 Try.sizeOf88 rfl rfl (by omega) (by omega) (by first | exact hS.addr k (by omega))) rfl ?_
      refine WL.yd (Yd.load1 Try.isAgg88 rfl (by first | exact Rd.own (k := 0) rfl rfl | exact Rd.own (k := 1) rfl rfl | exact Rd.own (k := 2) rfl rfl | exact Rd.own (k := 3) rfl rfl | exact (Rd.imm h2 rfl) | exact (Rd.imm h6 rfl) | exact (Rd.imm h7 rfl) | exact (Rd.imm h12 rfl) | exact (Rd.imm h13 rfl) | exact (Rd.imm h14 rfl) | exact ((hS.at k (by omega)).rd 0 rfl))) rfl ?_
      refine WL.yd (Yd.assign rfl) rfl ?_
      refine WL.nil ?_
      refine WP.thenC ?_
      refine WC.ofFr [(11, _), (2, _), (4, _), (5, _), (6, _), (7, _), (47, _), (48, _), (49, _)] ⟨rfl, rfl, rfl, rfl, rfl, rfl, rfl, rfl, rfl, trivial⟩ ?_
      refine WC.region ?_
      refine WL.yd (Yd.move rfl) rfl ?_
      refine WL.yd (Yd.load1 Try.isAgg73 rfl (by first | exact Rd.own (k := 0) rfl rfl | exact Rd.own (k := 1) rfl rfl | exact Rd.own (k := 2) rfl rfl | exact Rd.own (k := 3) rfl rfl | exact (Rd.imm h2 rfl) | exact (Rd.imm h6 rfl) | exact (Rd.imm h7 rfl) | exact (Rd.imm h12 rfl) | exact (Rd.imm h13 rfl) | exact (Rd.imm h14 rfl) | exact ((hS.at k (by omega)).rd 0 rfl))) rfl ?_
      refine WL.so (put_so (rulesTo (initN p (nodes p)) l k) es clock b20 p (gt l k) (hl k (by omega)) h5 [_, _, _] rfl hM rfl rfl) rfl ?_
      rintro _ _ _ ⟨_, hXs1, ⟨rfl, es1, clock1, rfl, hM1⟩, rfl⟩
      refine WL.nil ?_
      refine WP.blkNormal ?_
      refine WP.thenC ?_
      refine WC.ofFr [(2, _), (4, _), (5, _), (6, _), (7, _), (47, _), (48, _), (49, _)] ⟨rfl, rfl, rfl, rfl, rfl, rfl, rfl, rfl, trivial⟩ ?_
      refine WC.region ?_
      refine WL.yd (Yd.add rfl rfl (wr64 ⟨by omega, by omega⟩)) rfl ?_
      refine WL.yd (Yd.move rfl) rfl ?_
      refine WL.nil ?_
      exact WP.again (⟨k + 1, es1, clock1⟩ : Nat × Array MapEntry × Nat) ⟨by simp only; omega, hM1⟩ (by simp only; omega) (fun aa ww h => at_fr h ⟨rfl, rfl, rfl, rfl, rfl, rfl, rfl, rfl, trivial⟩)
    · try simp only [zq1, zq2, zq3, zq4, zq5, zq6, zq7, zq8] at c50
      refine WC.exit ?_
      refine WP.thenExit ?_
      refine WP.thenExit ?_
      refine WP.blkHit ?_
      refine WP.thenC ?_
      refine WC.seq ?_
      refine WC.seq ?_
      obtain rfl : k = l.length := by omega
      refine WC.ofFr [(2, _), (4, _), (5, _), (6, _), (7, _)] ⟨rfl, rfl, rfl, rfl, rfl, trivial⟩ ?_
      refine WC.region ?_
      refine WL.yd (Yd.load1 Try.isAgg74 rfl (by first | exact Rd.own (k := 0) rfl rfl | exact Rd.own (k := 1) rfl rfl | exact Rd.own (k := 2) rfl rfl | exact Rd.own (k := 3) rfl rfl | exact (Rd.imm h2 rfl) | exact (Rd.imm h6 rfl) | exact (Rd.imm h7 rfl) | exact (Rd.imm h12 rfl) | exact (Rd.imm h13 rfl) | exact (Rd.imm h14 rfl) | exact ((hS.at k (by omega)).rd 0 rfl))) rfl ?_
      refine WL.so (SO.makes (Enters.func Try.call98 rfl) (fun w hI => all_g q _ w hI.imm)) rfl ?_
      rintro _ D5 _ ⟨hX5, ⟨b58, rfl, hb58⟩, rfl⟩
      have hB := hB.ext hX5
      have hR := hR.ext hX5
      have h7 := hX5.old _ _ h7
      have h6 := hX5.old _ _ h6
      have h2 := hX5.old _ _ h2
      have hXt := hXt.trans hX5 (Nat.le_refl _)
      refine WL.nil ?_
      refine WP.thenC ?_
      refine WC.block ?_
      refine WC.ofFr [(2, _), (4, _), (5, _), (6, _), (7, _), (58, _)] ⟨rfl, rfl, rfl, rfl, rfl, rfl, trivial⟩ ?_
      refine WC.rangeIter (fun w1 => all1_iter p a1 _ c1 _ q b58 D5 hB hb58 rfl hl1 w1) rfl Try.call111 rfl (fun k _ h => ∃ es clock, h = [(Dn1, .deferred (some [])), (b5, .cells (List.toArray [.bool false]) 4 (0, 0)), (b4, .cells (List.toArray [.map none]) 73 (0, 0)), (b20, .map es clock)] ∧ MapF es clock (outTo (nodes p) (rulesTo (initN p (nodes p)) l l.length) k)) (fun c _ h => False) (by rintro k D' h ⟨es, clock, rfl, _⟩; rfl) (fun _ _ _ h => h.elim) (fun _ _ _ _ _ h => h) ⟨_, _, rfl, hM⟩ ?_ ?_ ?_
      · rintro rec1 l1 Dn2 k D6 _ w1 hrec hk ⟨es, clock, rfl, hM⟩ hX6 hsz
        unfold RoundG
        have hB := hB.ext hX6
        have hR := hR.ext hX6
        have h7 := hX6.old _ _ h7
        have h6 := hX6.old _ _ h6
        have h2 := hX6.old _ _ h2
        refine WCF.ofFr [(59, _), (2, _), (4, _), (5, _), (6, _), (7, _)] ⟨rfl, rfl, rfl, rfl, rfl, rfl, trivial⟩ ?_
        refine WCF.region ?_
        refine WLF.so (by intro _ h; cases h) (SO.alloc Try.zeroValue3 rfl) rfl ?_
        rintro _ _ _ ⟨b12, hb12, rfl, rfl, rfl⟩ -- NEW
        refine WLF.so (by intro _ h; cases h) (SO.store 0 rfl Try.sizeOf3 rfl rfl rfl rfl (Nat.le_of_ble_eq_true rfl) (oneB_spec rfl)) rfl ?_
        rintro _ _ _ ⟨rfl, rfl, rfl⟩
        refine WLF.nil ?_
        refine WP.iterBegin 1 rfl hrec ?_
        refine WCF.block ?_
        refine WCF.scope ?_
        refine WCF.seq ?_
        refine WCF.label ?_
        refine WP.thenCF ?_
        refine WCF.seq ?_
        refine WCF.freezeK 0 rfl (fun hn12 => ?_)
        have hXo := (DExt.refl w1 D6).add (o := .cells (List.toArray [it ((k : Int) - 2)]) 3 (0, 0)) hn12 hb12
        have h12 : (D6.add b12 (.cells (List.toArray [it ((k : Int) - 2)]) 3 (0, 0))) b12 = some (.cells (List.toArray [it ((k : Int) - 2)]) 3 (0, 0)) := Imm.add_self _ _ _
        have hB := hB.ext hXo
        have hR := hR.ext hXo
        have h7 := hXo.old _ _ h7
        have h6 := hXo.old _ _ h6
        have h2 := hXo.old _ _ h2
        refine (?_ : WCF Try.prog _ _ _ (D6.add b12 (.cells (List.toArray [it ((k : Int) - 2)]) 3 (0, 0))) [(l1, .loop (busyR rec1)), (Dn2, .deferred (some [])), (Dn1, .deferred (some [])), (b5, .cells (List.toArray [.bool false]) 4 (0, 0)), (b4, .cells (List.toArray [.map none]) 73 (0, 0)), (b20, .map es clock)] _ _)
        generalize D6.add b12 _ = D7 at hXo h12 hB hR h2 h6 h7 ⊢
        refine WCF.ofFr [(12, _), (2, _), (4, _), (5, _), (6, _), (7, _)] ⟨rfl, rfl, rfl, rfl, rfl, rfl, trivial⟩ ?_
        refine WCF.region ?_
        refine WLF.yd (by intro _ h; cases h) (Yd.load1 Try.isAgg74 rfl (by first | exact Rd.own (k := 0) rfl rfl | exact Rd.own (k := 1) rfl rfl | exact Rd.own (k := 2) rfl rfl | exact Rd.own (k := 3) rfl rfl | exact Rd.own (k := 4) rfl rfl | exact Rd.own (k := 5) rfl rfl | exact (Rd.imm h2 rfl) | exact (Rd.imm h6 rfl) | exact (Rd.imm h7 rfl) | exact (Rd.imm h12 rfl) | exact (Rd.imm h13 rfl) | exact (Rd.imm h14 rfl) | exact ((hS.at k (by omega)).rd 0 rfl))) rfl ?_
        refine WLF.so (by intro _ h; cases h) (SO.makes (Enters.func Try.call98 rfl) (fun w hI => all_g q _ w hI.imm)) rfl ?_
        rintro _ D8 _ ⟨hX8, ⟨b61, rfl, hb61⟩, rfl⟩
        have hB := hB.ext hX8
        have hR := hR.ext hX8
        have h7 := hX8.old _ _ h7
        have h6 := hX8.old _ _ h6
        have h2 := hX8.old _ _ h2
        have h12 := hX8.old _ _ h12
        have hXo := hXo.trans hX8 (Nat.le_refl _)
        refine WLF.nil ?_
        refine WP.thenCF ?_
        refine WCF.block ?_
        refine WCF.ofFr [(2, _), (6, _), (7, _), (12, _), (61, _)] ⟨rfl, rfl, rfl, rfl, rfl, trivial⟩ ?_
        refine WCF.rangeIter 0 rfl (fun w1 => all1_iter p a1 _ c1 _ q b61 D8 hB hb61 rfl hl1 w1) rfl rfl Try.call111 rfl (fun k0 _ h => ∃ es clock, h = [(l1, .loop (busyR rec1)), (Dn2, .deferred (some [])), (Dn1, .deferred (some [])), (b5, .cells (List.toArray [.bool false]) 4 (0, 0)), (b4, .cells (List.toArray [.map none]) 73 (0, 0)), (b20, .map es clock)] ∧ MapF es clock (midTo (nodes p) (outTo (nodes p) (rulesTo (initN p (nodes p)) l l.length) k) k k0)) (fun c _ h => False) (by rintro k D' h ⟨es, clock, rfl, _⟩; rfl) (fun _ _ _ h => h.elim) (fun _ _ _ _ _ h => h) ⟨_, _, rfl, hM⟩ ?_ ?_ ?_
        · rintro rec2 l2 j D9 _ w2 hrec2 hj ⟨es, clock, rfl, hM⟩ hX9 hsz2
          unfold RoundG
          have hB := hB.ext hX9
          have hR := hR.ext hX9
          have h7 := hX9.old _ _ h7
          have h6 := hX9.old _ _ h6
          have h2 := hX9.old _ _ h2
          have h12 := hX9.old _ _ h12
          refine WCF.ofFr [(62, _), (2, _), (6, _), (7, _), (12, _)] ⟨rfl, rfl, rfl, rfl, rfl, trivial⟩ ?_
          refine WCF.region ?_
          refine WLF.so (by intro _ h; cases h) (SO.alloc Try.zeroValue3 rfl) rfl ?_
          rintro _ _ _ ⟨b13, hb13, rfl, rfl, rfl⟩ -- NEW
          refine WLF.so (by intro _ h; cases h) (SO.store 0 rfl Try.sizeOf3 rfl rfl rfl rfl (Nat.le_of_ble_eq_true rfl) (oneB_spec rfl)) rfl ?_
          rintro _ _ _ ⟨rfl, rfl, rfl⟩
          refine WLF.nil ?_
          refine WP.iterBegin 1 rfl hrec2 ?_
          refine WCF.block ?_
          refine WCF.seq ?_
          refine WCF.freezeK 0 rfl (fun hn13 => ?_)
          have hXm := (DExt.refl w2 D9).add (o := .cells (List.toArray [it ((j : Int) - 2)]) 3 (0, 0)) hn13 hb13
          have h13 : (D9.add b13 (.cells (List.toArray [it ((j : Int) - 2)]) 3 (0, 0))) b13 = some (.cells (List.toArray [it ((j : Int) - 2)]) 3 (0, 0)) := Imm.add_self _ _ _
          have hB := hB.ext hXm
          have hR := hR.ext hXm
          have h7 := hXm.old _ _ h7
          have h6 := hXm.old _ _ h6
          have h2 := hXm.old _ _ h2
          have h12 := hXm.old _ _ h12
          refine (?_ : WCF Try.prog _ _ _ (D9.add b13 (.cells (List.toArray [it ((j : Int) - 2)]) 3 (0, 0))) [(l2, .loop (busyR rec2)), (l1, .loop (busyR rec1)), (Dn2, .deferred (some [])), (Dn1, .deferred (some [])), (b5, .cells (List.toArray [.bool false]) 4 (0, 0)), (b4, .cells (List.toArray [.map none]) 73 (0, 0)), (b20, .map es clock)] _ _)
          generalize D9.add b13 _ = D10 at hXm h12 h13 hB hR h2 h6 h7 ⊢
          obtain ⟨y1, hy11, hy12, hy1v⟩ := nd_of j k (by omega) (by omega)
          refine WCF.ofFr [(13, _), (2, _), (6, _), (7, _), (12, _)] ⟨rfl, rfl, rfl, rfl, rfl, trivial⟩ ?_
          refine WCF.region ?_
          refine WLF.yd (by intro _ h; cases h) (Yd.load1 Try.isAgg73 rfl (by first | exact Rd.own (k := 0) rfl rfl | exact Rd.own (k := 1) rfl rfl | exact Rd.own (k := 2) rfl rfl | exact Rd.own (k := 3) rfl rfl | exact Rd.own (k := 4) rfl rfl | exact Rd.own (k := 5) rfl rfl | exact Rd.own (k := 6) rfl rfl | exact (Rd.imm h2 rfl) | exact (Rd.imm h6 rfl) | exact (Rd.imm h7 rfl) | exact (Rd.imm h12 rfl) | exact (Rd.imm h13 rfl) | exact (Rd.imm h14 rfl) | exact ((hS.at k (by omega)).rd 0 rfl))) rfl ?_
          refine WLF.yd (by intro _ h; cases h) (Yd.load1 Try.isAgg3 rfl (by first | exact Rd.own (k := 0) rfl rfl | exact Rd.own (k := 1) rfl rfl | exact Rd.own (k := 2) rfl rfl | exact Rd.own (k := 3) rfl rfl | exact Rd.own (k := 4) rfl rfl | exact Rd.own (k := 5) rfl rfl | exact Rd.own (k := 6) rfl rfl | exact (Rd.imm h2 rfl) | exact (Rd.imm h6 rfl) | exact (Rd.imm h7 rfl) | exact (Rd.imm h12 rfl) | exact (Rd.imm h13 rfl) | exact (Rd.imm h14 rfl) | exact ((hS.at k (by omega)).rd 0 rfl))) rfl ?_
          refine WLF.yd (by intro _ h; cases h) (Yd.load1 Try.isAgg3 rfl (by first | exact Rd.own (k := 0) rfl rfl | exact Rd.own (k := 1) rfl rfl | exact Rd.own (k := 2) rfl rfl | exact Rd.own (k := 3) rfl rfl | exact Rd.own (k := 4) rfl rfl | exact Rd.own (k := 5) rfl rfl | exact Rd.own (k := 6) rfl rfl | exact (Rd.imm h2 rfl) | exact (Rd.imm h6 rfl) | exact (Rd.imm h7 rfl) | exact (Rd.imm h12 rfl) | exact (Rd.imm h13 rfl) | exact (Rd.imm h14 rfl) | exact ((hS.at k (by omega)).rd 0 rfl))) rfl ?_
          refine WLF.yd (by intro _ h; cases h) (Yd.build SA79 rfl (cs := [_, _]) rfl) rfl ?_
          refine WLF.know 67 (ndV y1) rfl hy1v ?_
          refine WLF.yd (by intro _ h; cases h) (Yd.lookOk (kv := ndV) (y := y1) (j := 6) ndV_inj law79 key_nd Try.underlying73 Try.zeroValue3 rfl rfl rfl hM) rfl ?_
          refine WLF.yd (by intro _ h; cases h) (Yd.move rfl) rfl ?_
          refine WLF.yd (by intro _ h; cases h) (Yd.extract rfl rfl) rfl ?_
          refine WLF.yd (by intro _ h; cases h) (Yd.extract rfl rfl) rfl ?_
          refine WLF.so (by intro _ h; cases h) (SO.alloc Try.zeroValue3 rfl) rfl ?_
          rintro _ _ _ ⟨b14, hb14, rfl, rfl, rfl⟩ -- NEW
          refine WLF.so (by intro _ h; cases h) (SO.store 0 rfl Try.sizeOf3 rfl rfl rfl rfl (Nat.le_of_ble_eq_true rfl) (oneB_spec rfl)) rfl ?_
          rintro _ _ _ ⟨rfl, rfl, rfl⟩
          refine WLF.yd (by intro _ h; cases h) (Yd.assign rfl) rfl ?_
          refine WLF.nil ?_
          refine WP.thenCF ?_
          refine WCF.seq ?_
          refine WCF.seq ?_
          refine WCF.ofFr [(15, _), (14, _), (13, _), (2, _), (6, _), (7, _), (12, _)] ⟨rfl, rfl, rfl, rfl, rfl, rfl, rfl, trivial⟩ ?_
          refine WCF.region ?_
          refine WLF.yd (by intro _ h; cases h) (Yd.move rfl) rfl ?_
          refine WLF.yd (by intro _ h; cases h) (Yd.not rfl) rfl ?_
          refine WLF.nil ?_
          refine WP.thenCF ?_
          refine WCF.cond rfl (fun c72 => ?_) (fun c72 => ?_)
          · try simp only [zq1, zq2, zq3, zq4, zq5, zq6, zq7, zq8] at c72
            have hnone : (midTo (nodes p) (outTo (nodes p) (rulesTo (initN p (nodes p)) l l.length) k) k j) j k = none := by
              have h9 : ((midTo (nodes p) (outTo (nodes p) (rulesTo (initN p (nodes p)) l l.length) k) k j) y1.1.val y1.2.val).isSome = false := c72
              rw [hy11, hy12] at h9
              exact Option.not_isSome_iff_eq_none.1 (by rw [h9]; simp)
            refine WCF.exit ?_
            refine WP.thenExit ?_
            refine WP.blkHit ?_
            first
              | exact WP.iterOn hrec2 (h1 := [(l1, .loop (busyR rec1)), (Dn2, .deferred (some [])), (Dn1, .deferred (some [])), (b5, .cells (List.toArray [.bool false]) 4 (0, 0)), (b4, .cells (List.toArray [.map none]) 73 (0, 0)), (b20, .map es clock)]) (fun _ h => List.mem_cons_of_mem _ h) (fun h => (List.nodup_cons.1 h).2) hXm (fun _ h => h) ⟨es, clock, rfl, by rw [mid_none hnone]; exact hM⟩
              | exact WP.iterOn hrec2 (h1 := [(l1, .loop (busyR rec1)), (Dn2, .deferred (some [])), (Dn1, .deferred (some [])), (b5, .cells (List.toArray [.bool false]) 4 (0, 0)), (b4, .cells (List.toArray [.map none]) 73 (0, 0)), (b20, .map es clock)]) (fun _ h => h) (fun h => h) hXm (fun _ h => h) ⟨es, clock, rfl, by rw [mid_some hs]; exact hM⟩
          · try simp only [zq1, zq2, zq3, zq4, zq5, zq6, zq7, zq8] at c72
            refine WCF.skip ?_
            refine WP.thenCF ?_
            refine WCF.seq ?_
            obtain ⟨s, hs⟩ := Option.isSome_iff_exists.1 (show ((midTo (nodes p) (outTo (nodes p) (rulesTo (initN p (nodes p)) l l.length) k) k j) y1.1.val y1.2.val).isSome = true from c72)
            refine WCF.freezeK 0 rfl (fun hn14 => ?_)
            have hX11 := (DExt.refl w2 D10).add (o := .cells (List.toArray [it (((midTo (nodes p) (outTo (nodes p) (rulesTo (initN p (nodes p)) l l.length) k) k j) y1.1.val y1.2.val).getD 0)]) 3 (0, 0)) hn14 hb14
            have h14 : (D10.add b14 (.cells (List.toArray [it (((midTo (nodes p) (outTo (nodes p) (rulesTo (initN p (nodes p)) l l.length) k) k j) y1.1.val y1.2.val).getD 0)]) 3 (0, 0))) b14 = some (.cells (List.toArray [it (((midTo (nodes p) (outTo (nodes p) (rulesTo (initN p (nodes p)) l l.length) k) k j) y1.1.val y1.2.val).getD 0)]) 3 (0, 0)) := Imm.add_self _ _ _
            have hB := hB.ext hX11
            have hR := hR.ext hX11
            have h7 := hX11.old _ _ h7
            have h6 := hX11.old _ _ h6
            have h2 := hX11.old _ _ h2
            have h12 := hX11.old _ _ h12
            have h13 := hX11.old _ _ h13
            have hXm := hXm.trans hX11 (Nat.le_refl _)
            refine (?_ : WCF Try.prog _ _ _ (D10.add b14 (.cells (List.toArray [it (((midTo (nodes p) (outTo (nodes p) (rulesTo (initN p (nodes p)) l l.length) k) k j) y1.1.val y1.2.val).getD 0)]) 3 (0, 0))) [(l2, .loop (busyR rec2)), (l1, .loop (busyR rec1)), (Dn2, .deferred (some [])), (Dn1, .deferred (some [])), (b5, .cells (List.toArray [.bool false]) 4 (0, 0)), (b4, .cells (List.toArray [.map none]) 73 (0, 0)), (b20, .map es clock)] _ _)
            generalize D10.add b14 _ = D11 at hXm h12 h13 h14 hB hR h2 h6 h7 ⊢
            rw [hs] at h14
            rw [hy11, hy12] at hs
            have h14 : D11 b14 = some (.cells (List.toArray [it s]) 3 (0, 0)) := h14
            refine WCF.ofFr [(14, _), (13, _), (2, _), (6, _), (7, _), (12, _)] ⟨rfl, rfl, rfl, rfl, rfl, rfl, trivial⟩ ?_
            refine WCF.region ?_
            refine WLF.yd (by intro _ h; cases h) (Yd.load1 Try.isAgg74 rfl (by first | exact Rd.own (k := 0) rfl rfl | exact Rd.own (k := 1) rfl rfl | exact Rd.own (k := 2) rfl rfl | exact Rd.own (k := 3) rfl rfl | exact Rd.own (k := 4) rfl rfl | exact Rd.own (k := 5) rfl rfl | exact Rd.own (k := 6) rfl rfl | exact (Rd.imm h2 rfl) | exact (Rd.imm h6 rfl) | exact (Rd.imm h7 rfl) | exact (Rd.imm h12 rfl) | exact (Rd.imm h13 rfl) | exact (Rd.imm h14 rfl) | exact ((hS.at k (by omega)).rd 0 rfl))) rfl ?_
            refine WLF.so (by intro _ h; cases h) (SO.makes (Enters.func Try.call98 rfl) (fun w hI => all_g q _ w hI.imm)) rfl ?_
            rintro _ D12 _ ⟨hX12, ⟨b74, rfl, hb74⟩, rfl⟩
            have hB := hB.ext hX12
            have hR := hR.ext hX12
            have h7 := hX12.old _ _ h7
            have h6 := hX12.old _ _ h6
            have h2 := hX12.old _ _ h2
            have h12 := hX12.old _ _ h12
            have h13 := hX12.old _ _ h13
            have h14 := hX12.old _ _ h14
            have hXm := hXm.trans hX12 (Nat.le_refl _)
            refine WLF.nil ?_
            refine WP.thenCF ?_
            refine WCF.block ?_
            refine WCF.ofFr [(6, _), (7, _), (12, _), (13, _), (14, _), (74, _)] ⟨rfl, rfl, rfl, rfl, rfl, rfl, trivial⟩ ?_
            refine WCF.rangeIter 0 rfl (fun w1 => all1_iter p a1 _ c1 _ q b74 D12 hB hb74 rfl hl1 w1) rfl rfl Try.call111 rfl (fun k0 _ h => ∃ es clock, h = [(l2, .loop (busyR rec2)), (l1, .loop (busyR rec1)), (Dn2, .deferred (some [])), (Dn1, .deferred (some [])), (b5, .cells (List.toArray [.bool false]) 4 (0, 0)), (b4, .cells (List.toArray [.map none]) 73 (0, 0)), (b20, .map es clock)] ∧ MapF es clock (innerTo (midTo (nodes p) (outTo (nodes p) (rulesTo (initN p (nodes p)) l l.length) k) k j) k j s k0)) (fun c _ h => False) (by rintro k D' h ⟨es, clock, rfl, _⟩; rfl) (fun _ _ _ h => h.elim) (fun _ _ _ _ _ h => h) ⟨_, _, rfl, hM⟩ ?_ ?_ ?_
            · rintro rec3 l3 i D13 _ w3 hrec3 hi ⟨es, clock, rfl, hM⟩ hX13 hsz3
              unfold RoundG
              have hB := hB.ext hX13
              have hR := hR.ext hX13
              have h7 := hX13.old _ _ h7
              have h6 := hX13.old _ _ h6
              have h2 := hX13.old _ _ h2
              have h12 := hX13.old _ _ h12
              have h13 := hX13.old _ _ h13
              have h14 := hX13.old _ _ h14
              refine WCF.ofFr [(75, _), (6, _), (7, _), (12, _), (13, _), (14, _)] ⟨rfl, rfl, rfl, rfl, rfl, rfl, trivial⟩ ?_
              refine WCF.region ?_
              refine WLF.yd (by intro _ h; cases h) (Yd.assign rfl) rfl ?_
              refine WLF.nil ?_
              refine WP.iterBegin 0 rfl hrec3 ?_
              refine WCF.block ?_
              refine WCF.seq ?_
              refine WCF.ofFr [(16, _), (6, _), (7, _), (12, _), (13, _), (14, _)] ⟨rfl, rfl, rfl, rfl, rfl, rfl, trivial⟩ ?_
              refine WCF.region ?_
              obtain ⟨y2, hy21, hy22, hy2v⟩ := nd_of k i (by omega) (by omega)
              refine WLF.yd (by intro _ h; cases h) (Yd.load1 Try.isAgg73 rfl (by first | exact Rd.own (k := 0) rfl rfl | exact Rd.own (k := 1) rfl rfl | exact Rd.own (k := 2) rfl rfl | exact Rd.own (k := 3) rfl rfl | exact Rd.own (k := 4) rfl rfl | exact Rd.own (k := 5) rfl rfl | exact Rd.own (k := 6) rfl rfl | exact Rd.own (k := 7) rfl rfl | exact (Rd.imm h2 rfl) | exact (Rd.imm h6 rfl) | exact (Rd.imm h7 rfl) | exact (Rd.imm h12 rfl) | exact (Rd.imm h13 rfl) | exact (Rd.imm h14 rfl) | exact ((hS.at k (by omega)).rd 0 rfl))) rfl ?_
              refine WLF.yd (by intro _ h; cases h) (Yd.load1 Try.isAgg3 rfl (by first | exact Rd.own (k := 0) rfl rfl | exact Rd.own (k := 1) rfl rfl | exact Rd.own (k := 2) rfl rfl | exact Rd.own (k := 3) rfl rfl | exact Rd.own (k := 4) rfl rfl | exact Rd.own (k := 5) rfl rfl | exact Rd.own (k := 6) rfl rfl | exact Rd.own (k := 7) rfl rfl | exact (Rd.imm h2 rfl) | exact (Rd.imm h6 rfl) | exact (Rd.imm h7 rfl) | exact (Rd.imm h12 rfl) | exact (Rd.imm h13 rfl) | exact (Rd.imm h14 rfl) | exact ((hS.at k (by omega)).rd 0 rfl))) rfl ?_
              refine WLF.yd (by intro _ h; cases h) (Yd.move rfl) rfl ?_
              refine WLF.yd (by intro _ h; cases h) (Yd.build SA79 rfl (cs := [_, _]) rfl) rfl ?_
              refine WLF.know 80 (ndV y2) rfl hy2v ?_
              refine WLF.yd (by intro _ h; cases h) (Yd.lookOk (kv := ndV) (y := y2) (j := 7) ndV_inj law79 key_nd Try.underlying73 Try.zeroValue3 rfl rfl rfl hM) rfl ?_
              refine WLF.yd (by intro _ h; cases h) (Yd.move rfl) rfl ?_
              refine WLF.yd (by intro _ h; cases h) (Yd.extract rfl rfl) rfl ?_
              refine WLF.yd (by intro _ h; cases h) (Yd.extract rfl rfl) rfl ?_
              refine WLF.yd (by intro _ h; cases h) (Yd.assign rfl) rfl ?_
              refine WLF.yd (by intro _ h; cases h) (Yd.assign rfl) rfl ?_
              refine WLF.nil ?_
              refine WP.thenCF ?_
              refine WCF.seq ?_
              refine WCF.ofFr [(18, _), (17, _), (16, _), (7, _), (13, _), (14, _)] ⟨rfl, rfl, rfl, rfl, rfl, rfl, trivial⟩ ?_
              refine WCF.region ?_
              refine WLF.yd (by intro _ h; cases h) (Yd.move rfl) rfl ?_
              refine WLF.nil ?_
              refine WP.thenCF ?_
              refine WCF.cond rfl (fun c84 => ?_) (fun c84 => ?_)
              · try simp only [zq1, zq2, zq3, zq4, zq5, zq6, zq7, zq8] at c84
                refine WCF.ofFr [(17, _), (16, _), (7, _), (13, _), (14, _)] ⟨rfl, rfl, rfl, rfl, rfl, trivial⟩ ?_
                refine WCF.region ?_
                obtain ⟨t, ht⟩ := Option.isSome_iff_exists.1 (show ((innerTo (midTo (nodes p) (outTo (nodes p) (rulesTo (initN p (nodes p)) l l.length) k) k j) k j s i) y2.1.val y2.2.val).isSome = true from c84)
                have htv : it (((innerTo (midTo (nodes p) (outTo (nodes p) (rulesTo (initN p (nodes p)) l l.length) k) k j) k j s i) y2.1.val y2.2.val).getD 0) = it t := by rw [ht]; rfl
                refine WLF.know 17 (it t) rfl htv ?_
                rw [hy21, hy22] at ht
                have haf := add_fits hv hk hj hs ht
                obtain ⟨y3, hy31, hy32, hy3v⟩ := nd_of j i (by omega) (by omega)
                refine WLF.yd (by intro _ h; cases h) (Yd.load1 Try.isAgg133 rfl (by first | exact Rd.own (k := 0) rfl rfl | exact Rd.own (k := 1) rfl rfl | exact Rd.own (k := 2) rfl rfl | exact Rd.own (k := 3) rfl rfl | exact Rd.own (k := 4) rfl rfl | exact Rd.own (k := 5) rfl rfl | exact Rd.own (k := 6) rfl rfl | exact Rd.own (k := 7) rfl rfl | exact (Rd.imm h2 rfl) | exact (Rd.imm h6 rfl) | exact (Rd.imm h7 rfl) | exact (Rd.imm h12 rfl) | exact (Rd.imm h13 rfl) | exact (Rd.imm h14 rfl) | exact ((hS.at k (by omega)).rd 0 rfl))) rfl ?_
                refine WLF.yd (by intro _ h; cases h) (Yd.load1 Try.isAgg3 rfl (by first | exact Rd.own (k := 0) rfl rfl | exact Rd.own (k := 1) rfl rfl | exact Rd.own (k := 2) rfl rfl | exact Rd.own (k := 3) rfl rfl | exact Rd.own (k := 4) rfl rfl | exact Rd.own (k := 5) rfl rfl | exact Rd.own (k := 6) rfl rfl | exact Rd.own (k := 7) rfl rfl | exact (Rd.imm h2 rfl) | exact (Rd.imm h6 rfl) | exact (Rd.imm h7 rfl) | exact (Rd.imm h12 rfl) | exact (Rd.imm h13 rfl) | exact (Rd.imm h14 rfl) | exact ((hS.at k (by omega)).rd 0 rfl))) rfl ?_
                refine WLF.yd (by intro _ h; cases h) (Yd.move rfl) rfl ?_
                refine WLF.yd (by intro _ h; cases h) (Yd.build SA79 rfl (cs := [_, _]) rfl) rfl ?_
                refine WLF.yd (by intro _ h; cases h) (Yd.load1 Try.isAgg3 rfl (by first | exact Rd.own (k := 0) rfl rfl | exact Rd.own (k := 1) rfl rfl | exact Rd.own (k := 2) rfl rfl | exact Rd.own (k := 3) rfl rfl | exact Rd.own (k := 4) rfl rfl | exact Rd.own (k := 5) rfl rfl | exact Rd.own (k := 6) rfl rfl | exact Rd.own (k := 7) rfl rfl | exact (Rd.imm h2 rfl) | exact (Rd.imm h6 rfl) | exact (Rd.imm h7 rfl) | exact (Rd.imm h12 rfl) | exact (Rd.imm h13 rfl) | exact (Rd.imm h14 rfl) | exact ((hS.at k (by omega)).rd 0 rfl))) rfl ?_
                refine WLF.yd (by intro _ h; cases h) (Yd.move rfl) rfl ?_
                refine WLF.yd (by intro _ h; cases h) (Yd.add rfl rfl (wr64 haf)) rfl ?_
                refine WLF.know 88 (ndV y3) rfl hy3v ?_
                refine WLF.so (by intro _ h; cases h) (SO.alters (own := [_, _, _, _, _, _, _]) (hpc := [_]) (S1 := [b20]) (fun _ h => h) (fun h => h) (fun _ h => h) (fun _ h => h) (Enters.val Try.call97 rfl rfl) (fun w1 hI => set_g (innerTo (midTo (nodes p) (outTo (nodes p) (rulesTo (initN p (nodes p)) l l.length) k) k j) k j s i) es clock b20 y3 (s + t) D13 w1 hM hI)) rfl ?_
                rintro _ _ _ ⟨_, hXs1, ⟨rfl, es1, clock1, rfl, hM1⟩, rfl⟩
                refine WLF.nil ?_
                refine WP.blkNormal ?_
                first
                  | exact WP.iterOn hrec3 (h1 := [(l2, .loop (busyR rec2)), (l1, .loop (busyR rec1)), (Dn2, .deferred (some [])), (Dn1, .deferred (some [])), (b5, .cells (List.toArray [.bool false]) 4 (0, 0)), (b4, .cells (List.toArray [.map none]) 73 (0, 0)), (b20, .map es1 clock1)]) (fun _ h => h) (fun h => h) (DExt.refl _ _) (fun _ h => h) ⟨es1, clock1, rfl, by rw [inner_some ht]; rw [hy31, hy32] at hM1; exact hM1⟩
                  | exact WP.iterOn hrec3 (h1 := [(l2, .loop (busyR rec2)), (l1, .loop (busyR rec1)), (Dn2, .deferred (some [])), (Dn1, .deferred (some [])), (b5, .cells (List.toArray [.bool false]) 4 (0, 0)), (b4, .cells (List.toArray [.map none]) 73 (0, 0)), (b20, .map es clock)]) (fun _ h => h) (fun h => h) (DExt.refl _ _) (fun _ h => h) ⟨es, clock, rfl, by rw [inner_none hnone]; exact hM⟩
              · try simp only [zq1, zq2, zq3, zq4, zq5, zq6, zq7, zq8] at c84
                have hnone : (innerTo (midTo (nodes p) (outTo (nodes p) (rulesTo (initN p (nodes p)) l l.length) k) k j) k j s i) k i = none := by
                  have h9 : ((innerTo (midTo (nodes p) (outTo (nodes p) (rulesTo (initN p (nodes p)) l l.length) k) k j) k j s i) y2.1.val y2.2.val).isSome = false := c84
                  rw [hy21, hy22] at h9
                  exact Option.not_isSome_iff_eq_none.1 (by rw [h9]; simp)
                refine WCF.skip ?_
                refine WP.blkNormal ?_
                first
                  | exact WP.iterOn hrec3 (h1 := [(l2, .loop (busyR rec2)), (l1, .loop (busyR rec1)), (Dn2, .deferred (some [])), (Dn1, .deferred (some [])), (b5, .cells (List.toArray [.bool false]) 4 (0, 0)), (b4, .cells (List.toArray [.map none]) 73 (0, 0)), (b20, .map es1 clock1)]) (fun _ h => h) (fun h => h) (DExt.refl _ _) (fun _ h => h) ⟨es1, clock1, rfl, by rw [inner_some ht]; rw [hy31, hy32] at hM1; exact hM1⟩
                  | exact WP.iterOn hrec3 (h1 := [(l2, .loop (busyR rec2)), (l1, .loop (busyR rec1)), (Dn2, .deferred (some [])), (Dn1, .deferred (some [])), (b5, .cells (List.toArray [.bool false]) 4 (0, 0)), (b4, .cells (List.toArray [.map none]) 73 (0, 0)), (b20, .map es clock)]) (fun _ h => h) (fun h => h) (DExt.refl _ _) (fun _ h => h) ⟨es, clock, rfl, by rw [inner_none hnone]; exact hM⟩
            · rintro D17 _ hX17 ⟨es, clock, rfl, hM⟩
              have hXm := hXm.trans hX17 (Nat.le_refl _)
              refine WP.blkNormal ?_
              refine WP.blkNormal ?_
              first
                | exact WP.iterOn hrec2 (h1 := [(l1, .loop (busyR rec1)), (Dn2, .deferred (some [])), (Dn1, .deferred (some [])), (b5, .cells (List.toArray [.bool false]) 4 (0, 0)), (b4, .cells (List.toArray [.map none]) 73 (0, 0)), (b20, .map es clock)]) (fun _ h => List.mem_cons_of_mem _ h) (fun h => (List.nodup_cons.1 h).2) hXm (fun _ h => h) ⟨es, clock, rfl, by rw [mid_none hnone]; exact hM⟩
                | exact WP.iterOn hrec2 (h1 := [(l1, .loop (busyR rec1)), (Dn2, .deferred (some [])), (Dn1, .deferred (some [])), (b5, .cells (List.toArray [.bool false]) 4 (0, 0)), (b4, .cells (List.toArray [.map none]) 73 (0, 0)), (b20, .map es clock)]) (fun _ h => h) (fun h => h) hXm (fun _ h => h) ⟨es, clock, rfl, by rw [mid_some hs]; exact hM⟩
            · exact fun _ _ _ _ h => h.elim
        · rintro D16 _ hX16 ⟨es, clock, rfl, hM⟩
          have hXo := hXo.trans hX16 (Nat.le_refl _)
          refine WP.blkNormal ?_
          refine WP.scNormal ?_
          refine WP.blkNormal ?_
          exact WP.iterOn hrec (h1 := [(Dn1, .deferred (some [])), (b5, .cells (List.toArray [.bool false]) 4 (0, 0)), (b4, .cells (List.toArray [.map none]) 73 (0, 0)), (b20, .map es clock)]) (fun _ h => h) (fun h => h) hXo (fun _ h => h) ⟨es, clock, rfl, hM⟩
        · exact fun _ _ _ _ h => h.elim
      · rintro Dn2 D14 _ hDn2 hX14 ⟨es, clock, rfl, hM⟩
        have hB := hB.ext hX14
        have hR := hR.ext hX14
        have h7 := hX14.old _ _ h7
        have h6 := hX14.old _ _ h6
        have h2 := hX14.old _ _ h2
        have hXt := hXt.trans hX14 (Nat.le_refl _)
        refine WP.blkNormal ?_
        refine WP.thenC ?_
        refine WC.seq ?_
        refine WC.seq ?_
        refine WC.ofFr [(2, _), (4, _), (5, _), (6, _)] ⟨rfl, rfl, rfl, rfl, trivial⟩ ?_
        refine WC.region ?_
        refine WL.yd (Yd.load1 Try.isAgg74 rfl (by first | exact Rd.own (k := 0) rfl rfl | exact Rd.own (k := 1) rfl rfl | exact Rd.own (k := 2) rfl rfl | exact Rd.own (k := 3) rfl rfl | exact Rd.own (k := 4) rfl rfl | exact (Rd.imm h2 rfl) | exact (Rd.imm h6 rfl) | exact (Rd.imm h7 rfl) | exact (Rd.imm h12 rfl) | exact (Rd.imm h13 rfl) | exact (Rd.imm h14 rfl) | exact ((hS.at k (by omega)).rd 0 rfl))) rfl ?_
        refine WL.so (SO.makes (Enters.func Try.call98 rfl) (fun w hI => all_g q _ w hI.imm)) rfl ?_
        rintro _ D15 _ ⟨hX15, ⟨b94, rfl, hb94⟩, rfl⟩
        have hB := hB.ext hX15
        have hR := hR.ext hX15
        have h7 := hX15.old _ _ h7
        have h6 := hX15.old _ _ h6
        have h2 := hX15.old _ _ h2
        have hXt := hXt.trans hX15 (Nat.le_refl _)
        refine WL.nil ?_
        refine WP.thenC ?_
        refine WC.block ?_
        refine WC.ofFr [(4, _), (5, _), (6, _), (94, _)] ⟨rfl, rfl, rfl, rfl, trivial⟩ ?_
        refine WC.rangeIter (fun w1 => all1_iter p a1 _ c1 _ q b94 D15 hB hb94 rfl hl1 w1) rfl Try.call111 rfl (fun k _ h => ∃ es clock, h = [(Dn2, .deferred (some [])), (Dn1, .deferred (some [])), (b5, .cells (List.toArray [.bool false]) 4 (0, 0)), (b4, .cells (List.toArray [.map none]) 73 (0, 0)), (b20, .map es clock)] ∧ MapF es clock (farOf p l) ∧ okTo (farOf p l) k = true) (fun c _ h => c = .ret ∧ ∃ es clock, h = [(Dn2, .deferred (some [])), (Dn1, .deferred (some [])), (b5, .cells (List.toArray [.bool false]) 4 (0, 0)), (b4, .cells (List.toArray [.map none]) 73 (0, 0)), (b20, .map es clock)] ∧ MapF es clock (farOf p l) ∧ farOk p l = false) (by rintro k D' h ⟨es, clock, rfl, _⟩; rfl) (by rintro c D' h ⟨rfl, es, clock, rfl, _⟩; rfl) (fun _ _ _ _ _ h => h) ⟨_, _, rfl, hM, rfl⟩ ?_ ?_ ?_
        · rintro rec1 l1 Dn3 k D18 _ w1 hrec hk ⟨es, clock, rfl, hM, hok⟩ hX18 hsz
          unfold RoundG
          have hB := hB.ext hX18
          have hR := hR.ext hX18
          have h7 := hX18.old _ _ h7
          have h6 := hX18.old _ _ h6
          have h2 := hX18.old _ _ h2
          refine WCF.ofFr [(95, _), (4, _), (5, _), (6, _)] ⟨rfl, rfl, rfl, rfl, trivial⟩ ?_
          refine WCF.region ?_
          refine WLF.yd (by intro _ h; cases h) (Yd.assign rfl) rfl ?_
          refine WLF.nil ?_
          refine WP.iterBegin 0 rfl hrec ?_
          refine WCF.block ?_
          refine WCF.seq ?_
          refine WCF.ofFr [(19, _), (4, _), (5, _), (6, _)] ⟨rfl, rfl, rfl, rfl, trivial⟩ ?_
          refine WCF.region ?_
          obtain ⟨y1, hy11, hy12, hy1v⟩ := nd_of k k (by omega) (by omega)
          refine WLF.yd (by intro _ h; cases h) (Yd.load1 Try.isAgg73 rfl (by first | exact Rd.own (k := 0) rfl rfl | exact Rd.own (k := 1) rfl rfl | exact Rd.own (k := 2) rfl rfl | exact Rd.own (k := 3) rfl rfl | exact Rd.own (k := 4) rfl rfl | exact Rd.own (k := 5) rfl rfl | exact Rd.own (k := 6) rfl rfl | exact (Rd.imm h2 rfl) | exact (Rd.imm h6 rfl) | exact (Rd.imm h7 rfl) | exact (Rd.imm h12 rfl) | exact (Rd.imm h13 rfl) | exact (Rd.imm h14 rfl) | exact ((hS.at k (by omega)).rd 0 rfl))) rfl ?_
          refine WLF.yd (by intro _ h; cases h) (Yd.move rfl) rfl ?_
          refine WLF.yd (by intro _ h; cases h) (Yd.move rfl) rfl ?_
          refine WLF.yd (by intro _ h; cases h) (Yd.build SA79 rfl (cs := [_, _]) rfl) rfl ?_
          refine WLF.know 99 (ndV y1) rfl hy1v ?_
          refine WLF.yd (by intro _ h; cases h) (Yd.look0 (kv := ndV) (y := y1) (j := 6) ndV_inj law79 key_nd Try.underlying73 Try.zeroValue3 rfl rfl rfl hM) rfl ?_
          refine WLF.yd (by intro _ h; cases h) (Yd.lss rfl rfl) rfl ?_
          refine WLF.nil ?_
          refine WP.thenCF ?_
          refine WCF.cond rfl (fun c101 => ?_) (fun c101 => ?_)
          · try simp only [zq1, zq2, zq3, zq4, zq5, zq6, zq7, zq8] at c101
            have hneg : ((farOf p l) k k).getD 0 < 0 := by
              have h9 : ((farOf p l) y1.1.val y1.2.val).getD 0 < 0 := c101
              rwa [hy11, hy12] at h9
            refine WCF.seq ?_
            refine WCF.ofFr [(4, _), (5, _)] ⟨rfl, rfl, trivial⟩ ?_
            refine WCF.region ?_
            refine WLF.so (by intro _ h; cases h) (SO.store 5 rfl Try.sizeOf73 rfl rfl rfl rfl (Nat.le_of_ble_eq_true rfl) (oneB_spec rfl)) rfl ?_
            rintro _ _ _ ⟨rfl, rfl, rfl⟩
            refine WLF.so (by intro _ h; cases h) (SO.store 4 rfl Try.sizeOf4 rfl rfl rfl rfl (Nat.le_of_ble_eq_true rfl) (oneB_spec rfl)) rfl ?_
            rintro _ _ _ ⟨rfl, rfl, rfl⟩
            refine WLF.nil ?_
            refine WP.thenCF ?_
            refine WCF.ret ?_
            refine WP.blkRet ?_
            exact WP.iterRet (h1 := [(Dn2, .deferred (some [])), (Dn1, .deferred (some [])), (b5, .cells (List.toArray [.bool false]) 4 (0, 0)), (b4, .cells (List.toArray [.map none]) 73 (0, 0)), (b20, .map es clock)]) (fun _ h => h) (fun h => h) (DExt.refl _ _) (fun _ h => h) ⟨rfl, es, clock, rfl, hM, by
              cases hc : farOk p l with
              | false => rfl
              | true => have := (okTo_iff _ _).1 hc k hk; omega⟩
          · try simp only [zq1, zq2, zq3, zq4, zq5, zq6, zq7, zq8] at c101
            have hpos : 0 ≤ ((farOf p l) k k).getD 0 := by
              have h9 : 0 ≤ ((farOf p l) y1.1.val y1.2.val).getD 0 := by first | exact c101 | exact Int.not_lt.1 c101
              rwa [hy11, hy12] at h9
            refine WCF.skip ?_
            refine WP.blkNormal ?_
            exact WP.iterOn hrec (h1 := [(Dn2, .deferred (some [])), (Dn1, .deferred (some [])), (b5, .cells (List.toArray [.bool false]) 4 (0, 0)), (b4, .cells (List.toArray [.map none]) 73 (0, 0)), (b20, .map es clock)]) (fun _ h => h) (fun h => h) (DExt.refl _ _) (fun _ h => h) ⟨es, clock, rfl, hM, by simp only [okTo, hok, Bool.true_and, decide_eq_true_eq]; exact hpos⟩
        · rintro Dn3 D19 _ hDn3 hX19 ⟨es, clock, rfl, hM, hok⟩
          have hB := hB.ext hX19
          have hR := hR.ext hX19
          have h7 := hX19.old _ _ h7
          have h6 := hX19.old _ _ h6
          have h2 := hX19.old _ _ h2
          have hXt := hXt.trans hX19 (Nat.le_refl _)
          have hok : farOk p l = true := hok
          refine WP.blkNormal ?_
          refine WP.thenC ?_
          refine WC.seq ?_
          refine WC.ofFr [(4, _), (5, _), (6, _)] ⟨rfl, rfl, rfl, trivial⟩ ?_
          refine WC.region ?_
          refine WL.yd (Yd.load1 Try.isAgg73 rfl (by first | exact Rd.own (k := 0) rfl rfl | exact Rd.own (k := 1) rfl rfl | exact Rd.own (k := 2) rfl rfl | exact Rd.own (k := 3) rfl rfl | exact Rd.own (k := 4) rfl rfl | exact Rd.own (k := 5) rfl rfl | exact (Rd.imm h2 rfl) | exact (Rd.imm h6 rfl) | exact (Rd.imm h7 rfl) | exact (Rd.imm h12 rfl) | exact (Rd.imm h13 rfl) | exact (Rd.imm h14 rfl) | exact ((hS.at k (by omega)).rd 0 rfl))) rfl ?_
          refine WL.so (SO.store 4 rfl Try.sizeOf73 rfl rfl rfl rfl (Nat.le_of_ble_eq_true rfl) (oneB_spec rfl)) rfl ?_
          rintro _ _ _ ⟨rfl, rfl, rfl⟩
          refine WL.so (SO.store 3 rfl Try.sizeOf4 rfl rfl rfl rfl (Nat.le_of_ble_eq_true rfl) (oneB_spec rfl)) rfl ?_
          rintro _ _ _ ⟨rfl, rfl, rfl⟩
          refine WL.nil ?_
          refine WP.thenC ?_
          refine WC.ret ?_
          refine WP.retMs [Dn3, Dn2, Dn1] [(b5, .cells (List.toArray [.bool true]) 4 (0, 0)), (b4, .cells (List.toArray [.map (some b20)]) 73 (0, 0)), (b20, .map es clock)] [_, _] [_, _] rfl rfl (fun _ h => h) (fun h => h) Try.results62 ⟨(RV.cell1 Try.isAgg73 rfl (by first | exact Rd.own (k := 0) rfl rfl | exact Rd.own (k := 1) rfl rfl | exact Rd.own (k := 2) rfl rfl | exact Rd.own (k := 3) rfl rfl | exact Rd.own (k := 4) rfl rfl | exact Rd.own (k := 5) rfl rfl | exact (Rd.imm h2 rfl) | exact (Rd.imm h6 rfl) | exact (Rd.imm h7 rfl) | exact (Rd.imm h12 rfl) | exact (Rd.imm h13 rfl) | exact (Rd.imm h14 rfl) | exact ((hS.at k (by omega)).rd 0 rfl))), (RV.cell1 Try.isAgg4 rfl (by first | exact Rd.own (k := 0) rfl rfl | exact Rd.own (k := 1) rfl rfl | exact Rd.own (k := 2) rfl rfl | exact Rd.own (k := 3) rfl rfl | exact Rd.own (k := 4) rfl rfl | exact Rd.own (k := 5) rfl rfl | exact (Rd.imm h2 rfl) | exact (Rd.imm h6 rfl) | exact (Rd.imm h7 rfl) | exact (Rd.imm h12 rfl) | exact (Rd.imm h13 rfl) | exact (Rd.imm h14 rfl) | exact ((hS.at k (by omega)).rd 0 rfl))), trivial⟩ (fun w2 hI => ⟨_, D19.add b20 (.map es clock), rfl, hI.keep, (hI.freezeK 2 rfl).2.imm, hXt.add (hI.apart _ _ (List.mem_of_getElem? (i := 2) rfl)) hb20, es, clock, b20, by rw [hok]; rfl, Imm.add_self _ _ _, hM⟩)
        · rintro Dn3 c D19 _ hDn3 hX19 ⟨rfl, es, clock, rfl, hM, hok⟩
          have hXt := hXt.trans hX19 (Nat.le_refl _)
          refine WC.ret ?_
          refine WP.blkRet ?_
          refine WP.thenRet ?_
          refine WP.retMs [Dn3, Dn2, Dn1] [(b5, .cells (List.toArray [.bool false]) 4 (0, 0)), (b4, .cells (List.toArray [.map none]) 73 (0, 0)), (b20, .map es clock)] [_, _] [_, _] rfl rfl (fun _ h => h) (fun h => h) Try.results62 ⟨(RV.cell1 Try.isAgg73 rfl (by first | exact Rd.own (k := 0) rfl rfl | exact Rd.own (k := 1) rfl rfl | exact Rd.own (k := 2) rfl rfl | exact Rd.own (k := 3) rfl rfl | exact Rd.own (k := 4) rfl rfl | exact Rd.own (k := 5) rfl rfl | exact (Rd.imm h2 rfl) | exact (Rd.imm h6 rfl) | exact (Rd.imm h7 rfl) | exact (Rd.imm h12 rfl) | exact (Rd.imm h13 rfl) | exact (Rd.imm h14 rfl) | exact ((hS.at k (by omega)).rd 0 rfl))), (RV.cell1 Try.isAgg4 rfl (by first | exact Rd.own (k := 0) rfl rfl | exact Rd.own (k := 1) rfl rfl | exact Rd.own (k := 2) rfl rfl | exact Rd.own (k := 3) rfl rfl | exact Rd.own (k := 4) rfl rfl | exact Rd.own (k := 5) rfl rfl | exact (Rd.imm h2 rfl) | exact (Rd.imm h6 rfl) | exact (Rd.imm h7 rfl) | exact (Rd.imm h12 rfl) | exact (Rd.imm h13 rfl) | exact (Rd.imm h14 rfl) | exact ((hS.at k (by omega)).rd 0 rfl))), trivial⟩ (fun w2 hI => ⟨_, D19.add b20 (.map es clock), rfl, hI.keep, (hI.freezeK 2 rfl).2.imm, hXt.add (hI.apart _ _ (List.mem_of_getElem? (i := 2) rfl)) hb20, es, clock, b20, by rw [hok]; rfl, Imm.add_self _ _ _, hM⟩)
      · exact fun _ _ _ _ _ _ h => h.elim
  · exact fun _ _ _ _ _ _ h => h.elim

end Go.Proofs.Ytkhmmefgllbobaa
