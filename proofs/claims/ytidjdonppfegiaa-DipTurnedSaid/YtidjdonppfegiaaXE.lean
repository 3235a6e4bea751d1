import Derived.Test.YtidjdonppfegiaaXD
import Derived.Test.YtidjdonppfegiaaXM
import Derived.Test.YtidjdonppfegiaaXB
set_option linter.unusedSimpArgs false
set_option linter.unusedVariables false
set_option linter.all false
namespace Go.Proofs.Ytidjdonppfegiaa
open Go.W Go.Dp
theorem FA128_0 : FieldAt Try.prog 128 0 0 := FieldAt.mk (t := 3) (off := 0) Try.underlying128 rfl Try.sizeOf3 (by decide)
theorem FA128_1 : FieldAt Try.prog 128 1 1 := FieldAt.mk (t := 120) (off := 1) Try.underlying128 rfl Try.sizeOf120 (by decide)
theorem SA61 : StructAt Try.prog 61 [.int .i64 0, .int .i64 0] [(0, 1), (1, 1)] := ⟨⟨_, Try.zeroValue61, rfl⟩, _, Try.underlying61, fun w => by simp [Try.sizeOf3]⟩
theorem SA128 : StructAt Try.prog 128 [.int .i64 0, .int .i64 0, .int .i64 0, .int .i64 0, .int .i64 0, .int .i64 0, .int .i64 0, .int .i64 0, .int .i64 0, .int .i64 0, .int .i64 0, .int .i64 0, .int .i64 0] [(0, 1), (1, 12)] := ⟨⟨_, Try.zeroValue128, rfl⟩, _, Try.underlying128, fun w => by simp [Try.sizeOf3, Try.sizeOf120]⟩
theorem left_n (h : HM) (x y : Nat) (w : World) (hx : x < 4) (hy : y < 3) : Gives Try.prog 96 [.agg (handsC h).toArray, .agg #[nt x, nt y]] w (it (h x y)) := by
  have := left_g h x y w ⟨by omega, by omega⟩ ⟨by omega, by omega⟩
  simpa only [Int.toNat_natCast] using this
theorem without_n (h : HM) (x y : Nat) (many : Int) (w : World) (hx : x < 4) (hy : y < 3) (hn : NumH h) (hm : -1000 ≤ many ∧ many ≤ 1000) : Gives Try.prog 95 [.agg (handsC h).toArray, .agg #[nt x, nt y], it many] w (.agg (handsC (upd h x y (h x y - many))).toArray) := by
  have := without_g h x y many w ⟨by omega, by omega⟩ ⟨by omega, by omega⟩ (by simpa only [Int.toNat_natCast] using hn.w x y) hm
  simpa only [Int.toNat_natCast] using this
theorem build128 (j : Int) (h : HM) : Instr.fill ([(0, 1), (1, 12)].toArray[·]?) (List.toArray [.int .i64 0, .int .i64 0, .int .i64 0, .int .i64 0, .int .i64 0, .int .i64 0, .int .i64 0, .int .i64 0, .int .i64 0, .int .i64 0, .int .i64 0, .int .i64 0, .int .i64 0]) [(0, it j), (1, .agg (handsC h).toArray)] = some (it j :: handsC h).toArray := by
  rw [handsC_eq]; kernel_rfl
theorem hands_rd {D : Imm} {b j : Nat} {h : HM} {t : TypeId} (hX : D b = some (.cells (List.toArray (nt j :: handsC h)) t (0, 0))) : RdD D b 1 (handsC h) := ⟨_, _, _, hX, fun i v hv => by rw [Nat.add_comm]; exact hv⟩

set_option maxRecDepth 100000 in
set_option maxHeartbeats 1000000 in
theorem places_g (v0 : Nat) (h : HM) (j : Nat) (D : Imm) (w : World) (hH : Holds D w) : Makes Try.prog 98 [pt v0, markV j h] w D (fun v D' => ∃ b2 b3, v = .func (.func 105) #[] #[pt b2, pt b3] ∧ D' b2 = some (.cells (List.toArray [pt v0]) 72 (0, 0)) ∧ D' b3 = some (.cells (List.toArray (nt j :: handsC h)) 128 (0, 0))) := by
  unfold Makes
  refine enter Try.func98 rfl 6 Try.ntmps98 (Nat.le_of_ble_eq_true rfl) (Inv.start hH) ?_
  refine WC.seq ?_
  refine WC.ofFr [(0, _), (1, _)] ⟨rfl, rfl, trivial⟩ ?_
  refine WC.region ?_
  refine WL.so (SO.box rfl rfl) rfl ?_
  rintro _ _ _ ⟨b2, hb2, rfl, rfl, rfl⟩ -- NEW
  refine WL.so (SO.box rfl rfl) rfl ?_
  rintro _ _ _ ⟨b3, hb3, rfl, rfl, rfl⟩ -- NEW
  refine WL.yd (Yd.assign rfl) rfl ?_
  refine WL.nil ?_
  refine WP.thenC ?_
  refine WC.seq ?_
  refine WC.ofFr [(4, _), (3, _), (2, _)] ⟨rfl, rfl, rfl, trivial⟩ ?_
  refine WC.region ?_
  refine WL.freezeK 0 rfl (fun hn3 => ?_)
  refine WL.freezeK 0 rfl (fun hn2 => ?_)
  have hX := fun o => ((DExt.refl w D).add hn3 hb3).add (o := o) hn2 hb2
  refine WL.yd (Yd.func rfl rfl) rfl ?_
  refine WL.yd (Yd.assign rfl) rfl ?_
  refine WL.nil ?_
  refine WP.thenC ?_
  refine WC.ret ?_
  refine WP.ret1 rfl rfl Try.results98 (RV.tmp rfl) (fun w' hI => ⟨_, _, rfl, hI.keep, hI.imm, hX _, b2, b3, rfl, Imm.add_self _ _ _, ((DExt.refl w (D.add b3 _)).add hn2 hb2).old _ _ (Imm.add_self _ _ _)⟩)

set_option maxRecDepth 100000 in
set_option maxHeartbeats 1000000 in
theorem places1_true (d : Dips) (a1 : Option Addr) (n1 c1 : Nat) (a2 : Option Addr) (n2 c2 : Nat) (q b1 b2 : Nat) (D : Imm) (w : World) (hB0 : BeachAt D q d (.slice a1 n1 c1) (.slice a2 n2 c2) (truthV true)) (hR0 : DipsR D d a1 n1 a2 n2) (hX10 : D b1 = some (.cells (List.toArray [pt q]) 72 (0, 0)))
    (j : Nat) (hj : j < d.bathers.length) (h : HM) (hX20 : D b2 = some (.cells (List.toArray (nt j :: handsC h)) 128 (0, 0))) (hv : dipsB d = true) (hc : Can d true h) (hn : NumH h) (l : Nat) (S : List Nat) (St : List (Plc × HM) → Imm → Hp → Prop) (Sp : Imm → Hp → Prop)
    (hSt : ∀ pre D' hpc, St pre D' hpc → (∀ b, b ∈ S → b ∈ keys hpc) ∧ (∀ b, b ∈ keys hpc → b ∈ S)) (hSp : ∀ D' hpc, Sp D' hpc → (∀ b, b ∈ keys hpc → b ∈ S)) (hSm : ∀ pre D1 D2 hpc, DExt w D1 D2 → St pre D1 hpc → St pre D2 hpc)
    (hround : ∀ pre p D' hpc w', pre ++ [p] <+: placesL d true j h → w.heap.size ≤ w'.heap.size → DExt w D D' → St pre D' hpc → Inv D' hpc S w' w' → YieldAt Fence.wide 0 Try.prog l #[.agg #[it p.1.hour, it p.1.dipper], markV (j + 1) p.2] w' (RoundR w' D' S (fun b D'' hpc' => (b = true ∧ St (pre ++ [p]) D'' hpc') ∨ (b = false ∧ Sp D'' hpc'))))
    (hpc0 : Hp) (h0 : St [] D hpc0) (hI0 : Inv D hpc0 S w w) : Alters Try.prog 105 [.func (.yield l) #[] #[], pt b1, pt b2] w D S (fun _ D' hpc' => St (placesL d true j h) D' hpc' ∨ Sp D' hpc') := by
  unfold Alters
  obtain rfl := hR0.dip.len'
  obtain rfl := hR0.bath.len'
  have hl1 := hR0.len1
  have hl2 := hR0.len2
  obtain ⟨hh, hd1, hd2, hdn, hbn⟩ := dips_num hv
  have hbj := hbn j hj
  have hnw := need_num hv true hj
  simp only [need0, if_true, Bool.false_eq_true, if_false] at hnw
  refine enter Try.func105 rfl 79 Try.ntmps105 (Nat.le_of_ble_eq_true rfl) hI0 ?_
  refine WC.scope ?_
  refine WC.seq ?_
  refine WC.ofFr [(0, _), (1, _), (2, _)] ⟨rfl, rfl, rfl, trivial⟩ ?_
  refine WC.drawO hpc0 [(0, true), (1, true), (2, true), (3, true), (4, true), (5, true), (6, true), (7, true), (8, true), (9, false), (10, false)] (by kernel_rfl) (by kernel_rfl) (QuietPanic.then (QuietPanic.sc QuietPanic.body)) (fun w hI => hI) ?_
  refine WA.yd rfl (Yd.load1 Try.isAgg72 rfl (by first | exact (Rd.imm hX10 rfl) | exact (Rd.imm hX20 rfl) | exact (Rd.imm hB0 rfl) | exact (Rd.imm hX4 rfl) | exact (Rd.imm hX1 rfl) | exact (Rd.imm hX2 rfl) | exact (Rd.imm hB rfl) | exact (Rd.imm hY1 rfl) | exact (Rd.imm hY2 rfl) | exact (Rd.imm hYB rfl) | exact (Rd.imm hY4 rfl))) rfl ?_
  refine WA.yd rfl (Yd.nilCheck rfl) rfl ?_
  refine WA.yd rfl (Yd.fieldAddr FA89_0 rfl) rfl ?_
  refine WA.yd rfl (Yd.fieldAddr FA25_2 rfl) rfl ?_
  refine WA.yd rfl (Yd.load1 Try.isAgg23 rfl (by first | exact (Rd.imm hX10 rfl) | exact (Rd.imm hX20 rfl) | exact (Rd.imm hB0 rfl) | exact (Rd.imm hX4 rfl) | exact (Rd.imm hX1 rfl) | exact (Rd.imm hX2 rfl) | exact (Rd.imm hB rfl) | exact (Rd.imm hY1 rfl) | exact (Rd.imm hY2 rfl) | exact (Rd.imm hYB rfl) | exact (Rd.imm hY4 rfl))) rfl ?_
  refine WA.yd rfl (Yd.fieldAddr FA128_0 rfl) rfl ?_
  refine WA.yd rfl (Yd.load1 Try.isAgg3 rfl (by first | exact (Rd.imm hX10 rfl) | exact (Rd.imm hX20 rfl) | exact (Rd.imm hB0 rfl) | exact (Rd.imm hX4 rfl) | exact (Rd.imm hX1 rfl) | exact (Rd.imm hX2 rfl) | exact (Rd.imm hB rfl) | exact (Rd.imm hY1 rfl) | exact (Rd.imm hY2 rfl) | exact (Rd.imm hYB rfl) | exact (Rd.imm hY4 rfl))) rfl ?_
  refine WA.yd rfl (Yd.indexS Try.underlying23 Try.sizeOf55 rfl rfl (by omega) (by omega) (by first | exact hR0.bath.addr j (by omega))) rfl ?_
  refine WA.yd rfl (Yd.loadN Try.isAgg55 Try.sizeOf55 rfl (vs := [_, _, _]) rfl (by first | exact (hR0.bath.at j (by omega)).rdn 0 3 rfl | exact (RdN.imm hX4 rfl) | exact (RdD.rdn ⟨_, _, _, hX4, fun _ _ h => by rw [Nat.zero_add]; exact h⟩ 0 2 rfl))) rfl ?_
  refine WA.so rfl (SO.alloc Try.zeroValue55 rfl) rfl ?_
  rintro _ _ _ ⟨b4, hb4, rfl, rfl, rfl⟩ -- NEW
  refine ⟨fun _ hI => hI.tail, ?_⟩
  refine WA.so rfl (SO.store 0 rfl Try.sizeOf55 rfl rfl rfl rfl (Nat.le_of_ble_eq_true rfl) (oneB_spec rfl)) rfl ?_
  rintro _ _ _ ⟨rfl, rfl, rfl⟩
  refine ⟨fun _ hI => hI.tail, ?_⟩
  refine WA.nil ?_
  refine WP.thenC ?_
  refine WC.seq ?_
  refine WC.ofFr [(4, _), (0, _), (1, _), (2, _)] ⟨rfl, rfl, rfl, rfl, trivial⟩ ?_
  refine WC.region ?_
  refine WL.freezeK 0 rfl (fun hn4 => ?_)
  have hF4 : ∀ o, DExt w D (D.add b4 o) := fun o => (DExt.refl w D).add (o := o) hn4 hb4
  obtain ⟨D4, hD4⟩ : ∃ D4, D.add b4 (.cells (List.toArray (batherC (gt d.bathers j))) 55 (0, 0)) = D4 := ⟨_, rfl⟩
  have hX04 : DExt w D D4 := hD4 ▸ hF4 _
  have hX4 : D4 b4 = some (.cells (List.toArray (batherC (gt d.bathers j))) 55 (0, 0)) := hD4 ▸ Imm.add_self _ _ _
  have hX2 := hX04.old _ _ hX20
  have hX1 := hX04.old _ _ hX10
  have hB := hB0.ext hX04
  have hR := hR0.ext hX04
  have hS0 := hSm _ _ _ _ hX04 h0
  have e4 : (D.add b4 (.cells (List.toArray (splice [it 0, it 0, it 0] 0 (batherC (gt d.bathers j)))) 55 (0, 0))) = D4 := hD4
  clear hD4
  first | (change WL _ _ _ _ (D.add b4 (.cells (List.toArray (splice [it 0, it 0, it 0] 0 (batherC (gt d.bathers j)))) 55 (0, 0))) hpc0 _ _; rw [e4]) | skip
  refine WL.yd (Yd.fieldAddr FA128_1 rfl) rfl ?_
  refine WL.yd (Yd.loadN Try.isAgg120 Try.sizeOf120 rfl (vs := handsC h) rfl ((hands_rd hX2).rdn 0 12 rfl)) rfl ?_
  refine WL.yd (Yd.func rfl rfl) rfl ?_
  refine WL.yd (Yd.assign rfl) rfl ?_
  refine WL.nil ?_
  refine WP.thenC ?_
  refine WC.seq ?_
  refine WC.label ?_
  refine WP.thenC ?_
  refine WC.seq ?_
  refine WC.ofFr [(5, _), (4, _), (0, _), (1, _), (2, _)] ⟨rfl, rfl, rfl, rfl, rfl, trivial⟩ ?_
  refine WC.region ?_
  refine WL.yd (Yd.load1 Try.isAgg72 rfl (by first | exact Rd.own (k := 0) rfl rfl | exact (Rd.imm hX10 rfl) | exact (Rd.imm hX20 rfl) | exact (Rd.imm hB0 rfl) | exact (Rd.imm hX4 rfl) | exact (Rd.imm hX1 rfl) | exact (Rd.imm hX2 rfl) | exact (Rd.imm hB rfl) | exact (Rd.imm hY1 rfl) | exact (Rd.imm hY2 rfl) | exact (Rd.imm hYB rfl) | exact (Rd.imm hY4 rfl))) rfl ?_
  refine WL.yd (Yd.nilCheck rfl) rfl ?_
  refine WL.yd (Yd.fieldAddr FA89_0 rfl) rfl ?_
  refine WL.yd (Yd.fieldAddr FA25_0 rfl) rfl ?_
  refine WL.yd (Yd.load1 Try.isAgg3 rfl (by first | exact Rd.own (k := 0) rfl rfl | exact (Rd.imm hX10 rfl) | exact (Rd.imm hX20 rfl) | exact (Rd.imm hB0 rfl) | exact (Rd.imm hX4 rfl) | exact (Rd.imm hX1 rfl) | exact (Rd.imm hX2 rfl) | exact (Rd.imm hB rfl) | exact (Rd.imm hY1 rfl) | exact (Rd.imm hY2 rfl) | exact (Rd.imm hYB rfl) | exact (Rd.imm hY4 rfl))) rfl ?_
  refine WL.yd (Yd.move rfl) rfl ?_
  refine WL.nil ?_
  refine WP.thenC ?_
  refine WC.block ?_
  refine WC.loop (fun y : Nat × Imm × Hp => [(0, .func (.yield l) #[] #[]), (1, pt b1), (2, pt b2), (4, pt b4), (5, .func (.func 96) #[.agg (handsC h).toArray] #[]), (25, it d.hours), (26, nt y.1)]) (fun y => y.2.2) (fun y => y.2.1) (fun y => y.1 ≤ d.hours.toNat ∧ DExt w D4 y.2.1 ∧ St (placesTo d true j h y.1) y.2.1 y.2.2) (fun y => d.hours.toNat - y.1) ⟨0, D4, hpc0⟩ ⟨by simp only; omega, DExt.refl _ _, hS0⟩ (fun a w h => at_fr h ⟨rfl, rfl, rfl, rfl, rfl, rfl, rfl, trivial⟩) ?_
  rintro ⟨hr, D1, hpc⟩ ⟨hk, hX, hS⟩
  simp only at hk hX hS
  have hY4 := hX.old _ _ hX4
  have hY2 := hX.old _ _ hX2
  have hY1 := hX.old _ _ hX1
  have hYB := hB.ext hX
  refine WC.seq ?_
  refine WC.ofFr [(0, _), (1, _), (2, _), (4, _), (5, _), (25, _), (26, _)] ⟨rfl, rfl, rfl, rfl, rfl, rfl, rfl, trivial⟩ ?_
  refine WC.region ?_
  refine WL.yd (Yd.lss rfl rfl) rfl ?_
  refine WL.nil ?_
  refine WP.thenC ?_
  refine WC.seq ?_
  refine WC.cond rfl (fun c27 => ?_) (fun c27 => ?_)
  · try simp only [zq1, zq2, zq3, zq4, zq5, zq6, zq7, zq8] at c27
    have hr4 : hr < 4 := by omega
    refine WC.skip ?_
    refine WP.thenC ?_
    refine WC.seq ?_
    refine WC.block ?_
    refine WC.seq ?_
    refine WC.ofFr [(0, _), (1, _), (2, _), (4, _), (5, _), (25, _), (26, _)] ⟨rfl, rfl, rfl, rfl, rfl, rfl, rfl, trivial⟩ ?_
    refine WC.region ?_
    refine WL.yd (Yd.move rfl) rfl ?_
    refine WL.yd (Yd.assign rfl) rfl ?_
    refine WL.nil ?_
    refine WP.thenC ?_
    refine WC.seq ?_
    refine WC.seq ?_
    refine WC.ofFr [(6, _), (0, _), (1, _), (2, _), (4, _), (5, _), (25, _), (26, _)] ⟨rfl, rfl, rfl, rfl, rfl, rfl, rfl, rfl, trivial⟩ ?_
    refine WC.region ?_
    refine WL.yd (Yd.fieldAddr FA55_1 rfl) rfl ?_
    refine WL.yd (Yd.load1 Try.isAgg3 rfl (by first | exact (Rd.imm hX10 rfl) | exact (Rd.imm hX20 rfl) | exact (Rd.imm hB0 rfl) | exact (Rd.imm hX4 rfl) | exact (Rd.imm hX1 rfl) | exact (Rd.imm hX2 rfl) | exact (Rd.imm hB rfl) | exact (Rd.imm hY1 rfl) | exact (Rd.imm hY2 rfl) | exact (Rd.imm hYB rfl) | exact (Rd.imm hY4 rfl))) rfl ?_
    refine WL.yd (Yd.move rfl) rfl ?_
    refine WL.yd (Yd.shr rfl rfl (by omega)) rfl ?_
    refine WL.yd (Yd.and1 rfl rfl) rfl ?_
    refine WL.yd (Yd.eql rfl rfl) rfl ?_
    refine WL.nil ?_
    refine WP.thenC ?_
    refine WC.cond rfl (fun c34 => ?_) (fun c34 => ?_)
    · try simp only [zq1, zq2, zq3, zq4, zq5, zq6, zq7, zq8] at c34
      have hbit : bitN (gt d.bathers j).hours (hr : Int) = 0 := c34
      refine WC.exit ?_
      refine WP.thenExit ?_
      refine WP.blkHit ?_
      refine WP.thenC ?_
      refine WC.ofFr [(0, _), (1, _), (2, _), (4, _), (5, _), (25, _), (26, _)] ⟨rfl, rfl, rfl, rfl, rfl, rfl, rfl, trivial⟩ ?_
      refine WC.region ?_
      refine WL.yd (Yd.add rfl rfl (wr64 ⟨by omega, by omega⟩)) rfl ?_
      refine WL.yd (Yd.move rfl) rfl ?_
      refine WL.nil ?_
      first
        | (refine WP.again (⟨hr + 1, D1, hpc⟩ : Nat × Imm × Hp) ⟨by simp only; omega, hX, ?_⟩ (by simp only; omega) (fun a w h => at_fr h ⟨rfl, rfl, rfl, rfl, rfl, rfl, rfl, trivial⟩)
           have e : placesTo d true j h (hr + 1) = placesTo d true j h hr := by rw [placesTo_succ, hourAt, if_pos hbit, List.append_nil]
           simp only [e]; exact hS)
        | (obtain rfl : k = d.dippers.length := by omega
           refine WP.again (⟨hr + 1, D3, hpc3⟩ : Nat × Imm × Hp) ⟨by simp only; omega, hX3, ?_⟩ (by simp only; omega) (fun a w h => at_fr h ⟨rfl, rfl, rfl, rfl, rfl, rfl, rfl, trivial⟩)
           have e : placesTo d true j h (hr + 1) = placesTo d true j h hr ++ rowTo d true j h hr d.dippers.length := by rw [placesTo_succ, hourAt, if_neg hbit]
           simp only [e]; exact hS3)
    · try simp only [zq1, zq2, zq3, zq4, zq5, zq6, zq7, zq8] at c34
      have hbit : ¬ bitN (gt d.bathers j).hours (hr : Int) = 0 := c34
      refine WC.skip ?_
      refine WP.thenC ?_
      refine WC.seq ?_
      refine WC.ofFr [(6, _), (0, _), (1, _), (2, _), (4, _), (5, _), (25, _), (26, _)] ⟨rfl, rfl, rfl, rfl, rfl, rfl, rfl, rfl, trivial⟩ ?_
      refine WC.region ?_
      refine WL.yd (Yd.load1 Try.isAgg72 rfl (by first | exact (Rd.imm hX10 rfl) | exact (Rd.imm hX20 rfl) | exact (Rd.imm hB0 rfl) | exact (Rd.imm hX4 rfl) | exact (Rd.imm hX1 rfl) | exact (Rd.imm hX2 rfl) | exact (Rd.imm hB rfl) | exact (Rd.imm hY1 rfl) | exact (Rd.imm hY2 rfl) | exact (Rd.imm hYB rfl) | exact (Rd.imm hY4 rfl))) rfl ?_
      refine WL.yd (Yd.nilCheck rfl) rfl ?_
      refine WL.yd (Yd.fieldAddr FA89_0 rfl) rfl ?_
      refine WL.yd (Yd.fieldAddr FA25_1 rfl) rfl ?_
      refine WL.yd (Yd.load1 Try.isAgg22 rfl (by first | exact (Rd.imm hX10 rfl) | exact (Rd.imm hX20 rfl) | exact (Rd.imm hB0 rfl) | exact (Rd.imm hX4 rfl) | exact (Rd.imm hX1 rfl) | exact (Rd.imm hX2 rfl) | exact (Rd.imm hB rfl) | exact (Rd.imm hY1 rfl) | exact (Rd.imm hY2 rfl) | exact (Rd.imm hYB rfl) | exact (Rd.imm hY4 rfl))) rfl ?_
      refine WL.yd (Yd.lenS rfl Try.underlying22 rfl) rfl ?_
      refine WL.yd (Yd.move rfl) rfl ?_
      refine WL.nil ?_
      refine WP.thenC ?_
      refine WC.block ?_
      refine WC.loop (fun y : Nat × Imm × Hp => [(0, .func (.yield l) #[] #[]), (1, pt b1), (2, pt b2), (4, pt b4), (5, .func (.func 96) #[.agg (handsC h).toArray] #[]), (25, it d.hours), (26, nt hr), (6, nt hr), (40, nt d.dippers.length), (41, nt y.1)]) (fun y => y.2.2) (fun y => y.2.1) (fun y => y.1 ≤ d.dippers.length ∧ DExt w D4 y.2.1 ∧ St (placesTo d true j h hr ++ rowTo d true j h hr y.1) y.2.1 y.2.2) (fun y => d.dippers.length - y.1) ⟨0, D1, hpc⟩ ⟨by simp only; omega, hX, by simp only [rowTo, List.range_zero, List.flatMap_nil, List.append_nil]; exact hS⟩ (fun a w h => at_fr h ⟨rfl, rfl, rfl, rfl, rfl, rfl, rfl, rfl, rfl, rfl, trivial⟩) ?_
      rintro ⟨k, D3, hpc3⟩ ⟨hk2, hX3, hS3⟩
      simp only at hk2 hX3 hS3
      have hX4 := hX3.old _ _ hX4
      have hX2 := hX3.old _ _ hX2
      have hX1 := hX3.old _ _ hX1
      have hB := hB.ext hX3
      have hR := hR.ext hX3
      refine WC.seq ?_
      refine WC.ofFr [(0, _), (1, _), (2, _), (4, _), (5, _), (25, _), (26, _), (6, _), (40, _), (41, _)] ⟨rfl, rfl, rfl, rfl, rfl, rfl, rfl, rfl, rfl, rfl, trivial⟩ ?_
      refine WC.region ?_
      refine WL.yd (Yd.lss rfl rfl) rfl ?_
      refine WL.nil ?_
      refine WP.thenC ?_
      refine WC.seq ?_
      refine WC.cond rfl (fun c42 => ?_) (fun c42 => ?_)
      · try simp only [zq1, zq2, zq3, zq4, zq5, zq6, zq7, zq8] at c42
        have hk3 : k < 3 := by omega
        refine WC.skip ?_
        refine WP.thenC ?_
        refine WC.seq ?_
        refine WC.block ?_
        refine WC.seq ?_
        refine WC.ofFr [(0, _), (1, _), (2, _), (4, _), (5, _), (25, _), (26, _), (6, _), (40, _), (41, _)] ⟨rfl, rfl, rfl, rfl, rfl, rfl, rfl, rfl, rfl, rfl, trivial⟩ ?_
        refine WC.region ?_
        refine WL.yd (Yd.move rfl) rfl ?_
        refine WL.yd (Yd.assign rfl) rfl ?_
        refine WL.nil ?_
        refine WP.thenC ?_
        refine WC.seq ?_
        refine WC.ofFr [(7, _), (0, _), (1, _), (2, _), (4, _), (5, _), (25, _), (26, _), (6, _), (40, _), (41, _)] ⟨rfl, rfl, rfl, rfl, rfl, rfl, rfl, rfl, rfl, rfl, rfl, trivial⟩ ?_
        refine WC.region ?_
        refine WL.yd (Yd.move rfl) rfl ?_
        refine WL.yd (Yd.move rfl) rfl ?_
        refine WL.yd (Yd.build SA61 rfl (cs := [_, _]) rfl) rfl ?_
        refine WL.so (SO.alloc Try.zeroValue61 rfl) rfl ?_
        rintro _ _ _ ⟨b8, hb8, rfl, rfl, rfl⟩ -- NEW
        refine WL.so (SO.store 0 rfl Try.sizeOf61 rfl rfl rfl rfl (Nat.le_of_ble_eq_true rfl) (oneB_spec rfl)) rfl ?_
        rintro _ _ _ ⟨rfl, rfl, rfl⟩
        refine WL.nil ?_
        refine WP.thenC ?_
        refine WC.seq ?_
        refine WC.seq ?_
        refine WC.ofFr [(8, _), (0, _), (1, _), (2, _), (4, _), (5, _), (25, _), (26, _), (6, _), (40, _), (41, _)] ⟨rfl, rfl, rfl, rfl, rfl, rfl, rfl, rfl, rfl, rfl, rfl, trivial⟩ ?_
        refine WC.tail 9 [0, 1, 2, 3, 4, 5, 6, 7, 8] rfl (by kernel_rfl) (by kernel_rfl)  ?_
        refine WQ.q rfl (Yd.qt (Yd.move rfl)) rfl ?_
        refine WQ.q rfl (Yd.qt (Yd.loadN Try.isAgg61 Try.sizeOf61 rfl (vs := [_, _]) rfl (by first | exact RdN.own (k := 0) (n := 2) rfl rfl | exact (hR0.bath.at j (by omega)).rdn 0 3 rfl | exact (RdN.imm hX4 rfl) | exact (RdD.rdn ⟨_, _, _, hX4, fun _ _ h => by rw [Nat.zero_add]; exact h⟩ 0 2 rfl)))) rfl ?_
        refine WQ.q rfl (Qt.call (Enters.val Try.call96 rfl rfl) (fun w hI => left_n h hr k _ hr4 hk3)) rfl ?_
        refine WQ.q rfl (Yd.qt (Yd.load1 Try.isAgg72 rfl (by first | exact Rd.own (k := 0) rfl rfl | exact (Rd.imm hX10 rfl) | exact (Rd.imm hX20 rfl) | exact (Rd.imm hB0 rfl) | exact (Rd.imm hX4 rfl) | exact (Rd.imm hX1 rfl) | exact (Rd.imm hX2 rfl) | exact (Rd.imm hB rfl) | exact (Rd.imm hY1 rfl) | exact (Rd.imm hY2 rfl) | exact (Rd.imm hYB rfl) | exact (Rd.imm hY4 rfl)))) rfl ?_
        refine WQ.q rfl (Yd.qt (Yd.nilCheck rfl)) rfl ?_
        refine WQ.q rfl (Yd.qt (Yd.fieldAddr FA89_1 rfl)) rfl ?_
        refine WQ.q rfl (Yd.qt (Yd.load1 Try.isAgg87 rfl (by first | exact Rd.own (k := 0) rfl rfl | exact (Rd.imm hX10 rfl) | exact (Rd.imm hX20 rfl) | exact (Rd.imm hB0 rfl) | exact (Rd.imm hX4 rfl) | exact (Rd.imm hX1 rfl) | exact (Rd.imm hX2 rfl) | exact (Rd.imm hB rfl) | exact (Rd.imm hY1 rfl) | exact (Rd.imm hY2 rfl) | exact (Rd.imm hYB rfl) | exact (Rd.imm hY4 rfl)))) rfl ?_
        refine WQ.q rfl (Yd.qt (Yd.fieldAddr FA55_0 rfl)) rfl ?_
        refine WQ.q rfl (Yd.qt (Yd.loadN Try.isAgg35 Try.sizeOf35 rfl (vs := [_, _]) rfl (by first | exact RdN.own (k := 0) (n := 2) rfl rfl | exact (hR0.bath.at j (by omega)).rdn 0 3 rfl | exact (RdN.imm hX4 rfl) | exact (RdD.rdn ⟨_, _, _, hX4, fun _ _ h => by rw [Nat.zero_add]; exact h⟩ 0 2 rfl)))) rfl ?_
        refine WQ.tail ?_
        refine WL.so (SO.call (Enters.meth Try.call127 (fun w => by kernel_rfl) rfl rfl) (fun w hI => bestNeeds_g (gt d.bathers j).needs _)) rfl ?_
        rintro _ _ _ ⟨rfl, rfl, rfl⟩
        refine WL.yd (Yd.lss rfl rfl) rfl ?_
        refine WL.nil ?_
        refine WP.thenC ?_
        refine WC.cond rfl (fun c57 => ?_) (fun c57 => ?_)
        · try simp only [zq1, zq2, zq3, zq4, zq5, zq6, zq7, zq8] at c57
          have hlow : h hr k < need0 true (gt d.bathers j) := c57
          refine WC.exit ?_
          refine WP.thenExit ?_
          refine WP.blkHit ?_
          refine WP.thenC ?_
          refine WC.ofFr [(0, _), (1, _), (2, _), (4, _), (5, _), (25, _), (26, _), (6, _), (40, _), (41, _)] ⟨rfl, rfl, rfl, rfl, rfl, rfl, rfl, rfl, rfl, rfl, trivial⟩ ?_
          refine WC.region ?_
          refine WL.yd (Yd.add rfl rfl (wr64 ⟨by omega, by omega⟩)) rfl ?_
          refine WL.yd (Yd.move rfl) rfl ?_
          refine WL.nil ?_
          first
            | (refine WP.again (⟨k + 1, D3, hpc3⟩ : Nat × Imm × Hp) ⟨by simp only; omega, hX3, ?_⟩ (by simp only; omega) (fun a w h => at_less h ⟨rfl, rfl, rfl, rfl, rfl, rfl, rfl, rfl, rfl, rfl, trivial⟩ (fun _ h => List.mem_cons_of_mem _ h) (fun h => (List.nodup_cons.1 h).2))
               have e : rowTo d true j h hr (k + 1) = rowTo d true j h hr k := by rw [rowTo_succ, cellAt, if_pos hlow, List.append_nil]
               simp only [e]; exact hS3)
            | (obtain ⟨_, hK5⟩ | ⟨hff, _⟩ := hK5
               · refine WP.again (⟨k + 1, D5, hpc5⟩ : Nat × Imm × Hp) ⟨by simp only; omega, hX3.trans hX5 (Nat.le_refl _), ?_⟩ (by simp only; omega) (fun a w h => at_less h ⟨rfl, rfl, rfl, rfl, rfl, rfl, rfl, rfl, rfl, rfl, trivial⟩ (fun _ h => List.mem_cons_of_mem _ h) (fun h => (List.nodup_cons.1 h).2))
                 have e : rowTo d true j h hr (k + 1) = rowTo d true j h hr k ++ [(⟨(hr : Int), (k : Int)⟩, upd h hr k (h hr k - need0 true (gt d.bathers j)))] := by rw [rowTo_succ, cellAt, if_neg hlow]
                 simp only [e]; rw [← List.append_assoc]; exact hK5
               · simp_all)
        · try simp only [zq1, zq2, zq3, zq4, zq5, zq6, zq7, zq8] at c57
          have hlow : ¬ h hr k < need0 true (gt d.bathers j) := Int.not_lt.2 c57
          have hpre := next_pre d true j h (hr := hr) (k := k) (by omega) (by omega) hbit hlow
          refine WC.skip ?_
          refine WP.thenC ?_
          refine WC.seq ?_
          refine WC.ofFr [(8, _), (0, _), (1, _), (2, _), (4, _), (5, _), (25, _), (26, _), (6, _), (40, _), (41, _)] ⟨rfl, rfl, rfl, rfl, rfl, rfl, rfl, rfl, rfl, rfl, rfl, trivial⟩ ?_
          refine WC.tailF 17 [0, 1, 2, 3, 4, 5, 6, 7, 8, 9, 10, 11, 12, 13, 14, 15, 16] rfl (by kernel_rfl) (by kernel_rfl) (noLets.then (noLets.blk (noLets.then (noLets.then (noLets.blk (noLets.blk (noLets.then (noLets.then (noLets.blk (noLets.sc (noLets.body (fun w h => by obtain ⟨_, _, _, h, _⟩ := h; cases h)))))))))))) ?_
          refine WQ.q rfl (Yd.qt (Yd.move rfl)) rfl ?_
          refine WQ.q rfl (Yd.qt (Yd.loadN Try.isAgg61 Try.sizeOf61 rfl (vs := [_, _]) rfl (by first | exact RdN.own (k := 0) (n := 2) rfl rfl | exact (hR0.bath.at j (by omega)).rdn 0 3 rfl | exact (RdN.imm hX4 rfl) | exact (RdD.rdn ⟨_, _, _, hX4, fun _ _ h => by rw [Nat.zero_add]; exact h⟩ 0 2 rfl)))) rfl ?_
          refine WQ.q rfl (Yd.qt (Yd.fieldAddr FA128_0 rfl)) rfl ?_
          refine WQ.q rfl (Yd.qt (Yd.load1 Try.isAgg3 rfl (by first | exact Rd.own (k := 0) rfl rfl | exact (Rd.imm hX10 rfl) | exact (Rd.imm hX20 rfl) | exact (Rd.imm hB0 rfl) | exact (Rd.imm hX4 rfl) | exact (Rd.imm hX1 rfl) | exact (Rd.imm hX2 rfl) | exact (Rd.imm hB rfl) | exact (Rd.imm hY1 rfl) | exact (Rd.imm hY2 rfl) | exact (Rd.imm hYB rfl) | exact (Rd.imm hY4 rfl)))) rfl ?_
          refine WQ.q rfl (Yd.qt (Yd.add rfl rfl (wr64 ⟨by omega, by omega⟩))) rfl ?_
          refine WQ.q rfl (Yd.qt (Yd.fieldAddr FA128_1 rfl)) rfl ?_
          refine WQ.q rfl (Yd.qt (Yd.loadN Try.isAgg120 Try.sizeOf120 rfl (vs := handsC h) rfl ((hands_rd hX2).rdn 0 12 rfl))) rfl ?_
          refine WQ.q rfl (Yd.qt (Yd.loadN Try.isAgg61 Try.sizeOf61 rfl (vs := [_, _]) rfl (by first | exact RdN.own (k := 0) (n := 2) rfl rfl | exact (hR0.bath.at j (by omega)).rdn 0 3 rfl | exact (RdN.imm hX4 rfl) | exact (RdD.rdn ⟨_, _, _, hX4, fun _ _ h => by rw [Nat.zero_add]; exact h⟩ 0 2 rfl)))) rfl ?_
          refine WQ.q rfl (Yd.qt (Yd.load1 Try.isAgg72 rfl (by first | exact Rd.own (k := 0) rfl rfl | exact (Rd.imm hX10 rfl) | exact (Rd.imm hX20 rfl) | exact (Rd.imm hB0 rfl) | exact (Rd.imm hX4 rfl) | exact (Rd.imm hX1 rfl) | exact (Rd.imm hX2 rfl) | exact (Rd.imm hB rfl) | exact (Rd.imm hY1 rfl) | exact (Rd.imm hY2 rfl) | exact (Rd.imm hYB rfl) | exact (Rd.imm hY4 rfl)))) rfl ?_
          refine WQ.q rfl (Yd.qt (Yd.nilCheck rfl)) rfl ?_
          refine WQ.q rfl (Yd.qt (Yd.fieldAddr FA89_1 rfl)) rfl ?_
          refine WQ.q rfl (Yd.qt (Yd.load1 Try.isAgg87 rfl (by first | exact Rd.own (k := 0) rfl rfl | exact (Rd.imm hX10 rfl) | exact (Rd.imm hX20 rfl) | exact (Rd.imm hB0 rfl) | exact (Rd.imm hX4 rfl) | exact (Rd.imm hX1 rfl) | exact (Rd.imm hX2 rfl) | exact (Rd.imm hB rfl) | exact (Rd.imm hY1 rfl) | exact (Rd.imm hY2 rfl) | exact (Rd.imm hYB rfl) | exact (Rd.imm hY4 rfl)))) rfl ?_
          refine WQ.q rfl (Yd.qt (Yd.fieldAddr FA55_0 rfl)) rfl ?_
          refine WQ.q rfl (Yd.qt (Yd.loadN Try.isAgg35 Try.sizeOf35 rfl (vs := [_, _]) rfl (by first | exact RdN.own (k := 0) (n := 2) rfl rfl | exact (hR0.bath.at j (by omega)).rdn 0 3 rfl | exact (RdN.imm hX4 rfl) | exact (RdD.rdn ⟨_, _, _, hX4, fun _ _ h => by rw [Nat.zero_add]; exact h⟩ 0 2 rfl)))) rfl ?_
          refine WQ.q rfl (Qt.call (Enters.meth Try.call127 (fun w => by kernel_rfl) rfl rfl) (fun w hI => bestNeeds_g (gt d.bathers j).needs _)) rfl ?_
          refine WQ.q rfl (Qt.callP Try.call95 rfl (fun w hI => without_n h hr k _ _ hr4 hk3 hn ⟨by omega, by omega⟩)) rfl ?_
          refine WQ.q rfl (Yd.qt (Yd.build SA128 rfl (build128 _ _))) rfl ?_
          refine WQ.tailF ?_
          refine WLF.yield (l := l) (vals := [.agg #[it (hr : Int), it (k : Int)], markV (j + 1) (upd h hr k (h hr k - need0 true (gt d.bathers j)))]) (S1 := S) [_] hpc3 (fun _ h => h) (fun h => h) (hSt _ _ _ hS3).1 (hSt _ _ _ hS3).2 rfl rfl rfl (fun w' hsz hI => hround (placesTo d true j h hr ++ rowTo d true j h hr k) (⟨(hr : Int), (k : Int)⟩, upd h hr k (h hr k - need0 true (gt d.bathers j))) D3 hpc3 w' hpre hsz (hX04.trans hX3 (Nat.le_refl _)) hS3 hI) ?_
          rintro b75 D5 hpc5 hK5 hX5
          refine WLF.yd (by intro _ h; cases h) (Yd.not rfl) rfl ?_
          refine WLF.nil ?_
          refine WP.thenC ?_
          refine WC.cond rfl (fun c76 => ?_) (fun c76 => ?_)
          · try simp only [zq1, zq2, zq3, zq4, zq5, zq6, zq7, zq8] at c76
            refine WC.ret ?_
            refine WP.blkRet ?_
            refine WP.thenRet ?_
            refine WP.thenRet ?_
            refine WP.blkRet ?_
            refine WP.blkRet ?_
            refine WP.thenRet ?_
            refine WP.thenRet ?_
            refine WP.blkRet ?_
            refine WP.scRet ?_
            refine WP.ret0 rfl rfl Try.results105  (fun w hI => by
              obtain ⟨htt, _⟩ | ⟨_, hK5⟩ := hK5
              · simp_all
              · exact ⟨_, D5, hpc5, rfl, (hX04.trans hX3 (Nat.le_refl _)).trans hX5 (Nat.le_refl _), hI.tail, hSp _ _ hK5, .inr hK5⟩)
          · try simp only [zq1, zq2, zq3, zq4, zq5, zq6, zq7, zq8] at c76
            refine WC.skip ?_
            refine WP.blkNormal ?_
            refine WP.thenC ?_
            refine WC.ofFr [(0, _), (1, _), (2, _), (4, _), (5, _), (25, _), (26, _), (6, _), (40, _), (41, _)] ⟨rfl, rfl, rfl, rfl, rfl, rfl, rfl, rfl, rfl, rfl, trivial⟩ ?_
            refine WC.region ?_
            refine WL.yd (Yd.add rfl rfl (wr64 ⟨by omega, by omega⟩)) rfl ?_
            refine WL.yd (Yd.move rfl) rfl ?_
            refine WL.nil ?_
            first
              | (refine WP.again (⟨k + 1, D3, hpc3⟩ : Nat × Imm × Hp) ⟨by simp only; omega, hX3, ?_⟩ (by simp only; omega) (fun a w h => at_less h ⟨rfl, rfl, rfl, rfl, rfl, rfl, rfl, rfl, rfl, rfl, trivial⟩ (fun _ h => List.mem_cons_of_mem _ h) (fun h => (List.nodup_cons.1 h).2))
                 have e : rowTo d true j h hr (k + 1) = rowTo d true j h hr k := by rw [rowTo_succ, cellAt, if_pos hlow, List.append_nil]
                 simp only [e]; exact hS3)
              | (obtain ⟨_, hK5⟩ | ⟨hff, _⟩ := hK5
                 · refine WP.again (⟨k + 1, D5, hpc5⟩ : Nat × Imm × Hp) ⟨by simp only; omega, hX3.trans hX5 (Nat.le_refl _), ?_⟩ (by simp only; omega) (fun a w h => at_less h ⟨rfl, rfl, rfl, rfl, rfl, rfl, rfl, rfl, rfl, rfl, trivial⟩ (fun _ h => List.mem_cons_of_mem _ h) (fun h => (List.nodup_cons.1 h).2))
                   have e : rowTo d true j h hr (k + 1) = rowTo d true j h hr k ++ [(⟨(hr : Int), (k : Int)⟩, upd h hr k (h hr k - need0 true (gt d.bathers j)))] := by rw [rowTo_succ, cellAt, if_neg hlow]
                   simp only [e]; rw [← List.append_assoc]; exact hK5
                 · simp_all)
      · try simp only [zq1, zq2, zq3, zq4, zq5, zq6, zq7, zq8] at c42
        refine WC.exit ?_
        refine WP.thenExit ?_
        refine WP.thenExit ?_
        refine WP.blkHit ?_
        refine WP.blkNormal ?_
        refine WP.thenC ?_
        refine WC.ofFr [(0, _), (1, _), (2, _), (4, _), (5, _), (25, _), (26, _)] ⟨rfl, rfl, rfl, rfl, rfl, rfl, rfl, trivial⟩ ?_
        refine WC.region ?_
        refine WL.yd (Yd.add rfl rfl (wr64 ⟨by omega, by omega⟩)) rfl ?_
        refine WL.yd (Yd.move rfl) rfl ?_
        refine WL.nil ?_
        first
          | (refine WP.again (⟨hr + 1, D1, hpc⟩ : Nat × Imm × Hp) ⟨by simp only; omega, hX, ?_⟩ (by simp only; omega) (fun a w h => at_fr h ⟨rfl, rfl, rfl, rfl, rfl, rfl, rfl, trivial⟩)
             have e : placesTo d true j h (hr + 1) = placesTo d true j h hr := by rw [placesTo_succ, hourAt, if_pos hbit, List.append_nil]
             simp only [e]; exact hS)
          | (obtain rfl : k = d.dippers.length := by omega
             refine WP.again (⟨hr + 1, D3, hpc3⟩ : Nat × Imm × Hp) ⟨by simp only; omega, hX3, ?_⟩ (by simp only; omega) (fun a w h => at_fr h ⟨rfl, rfl, rfl, rfl, rfl, rfl, rfl, trivial⟩)
             have e : placesTo d true j h (hr + 1) = placesTo d true j h hr ++ rowTo d true j h hr d.dippers.length := by rw [placesTo_succ, hourAt, if_neg hbit]
             simp only [e]; exact hS3)
  · try simp only [zq1, zq2, zq3, zq4, zq5, zq6, zq7, zq8] at c27
    refine WC.exit ?_
    refine WP.thenExit ?_
    refine WP.thenExit ?_
    refine WP.blkHit ?_
    refine WP.scNormal ?_
    refine WP.ret0 rfl rfl Try.results105  (fun w hI => by
      obtain rfl : hr = d.hours.toNat := by omega
      exact ⟨_, D1, hpc, rfl, hX04.trans hX (Nat.le_refl _), hI, (hSt _ _ _ hS).2, .inl hS⟩)

set_option maxRecDepth 100000 in
set_option maxHeartbeats 1000000 in
theorem places1_false (d : Dips) (a1 : Option Addr) (n1 c1 : Nat) (a2 : Option Addr) (n2 c2 : Nat) (q b1 b2 : Nat) (D : Imm) (w : World) (hB0 : BeachAt D q d (.slice a1 n1 c1) (.slice a2 n2 c2) (truthV false)) (hR0 : DipsR D d a1 n1 a2 n2) (hX10 : D b1 = some (.cells (List.toArray [pt q]) 72 (0, 0)))
    (j : Nat) (hj : j < d.bathers.length) (h : HM) (hX20 : D b2 = some (.cells (List.toArray (nt j :: handsC h)) 128 (0, 0))) (hv : dipsB d = true) (hc : Can d false h) (hn : NumH h) (l : Nat) (S : List Nat) (St : List (Plc × HM) → Imm → Hp → Prop) (Sp : Imm → Hp → Prop)
    (hSt : ∀ pre D' hpc, St pre D' hpc → (∀ b, b ∈ S → b ∈ keys hpc) ∧ (∀ b, b ∈ keys hpc → b ∈ S)) (hSp : ∀ D' hpc, Sp D' hpc → (∀ b, b ∈ keys hpc → b ∈ S)) (hSm : ∀ pre D1 D2 hpc, DExt w D1 D2 → St pre D1 hpc → St pre D2 hpc)
    (hround : ∀ pre p D' hpc w', pre ++ [p] <+: placesL d false j h → w.heap.size ≤ w'.heap.size → DExt w D D' → St pre D' hpc → Inv D' hpc S w' w' → YieldAt Fence.wide 0 Try.prog l #[.agg #[it p.1.hour, it p.1.dipper], markV (j + 1) p.2] w' (RoundR w' D' S (fun b D'' hpc' => (b = true ∧ St (pre ++ [p]) D'' hpc') ∨ (b = false ∧ Sp D'' hpc'))))
    (hpc0 : Hp) (h0 : St [] D hpc0) (hI0 : Inv D hpc0 S w w) : Alters Try.prog 105 [.func (.yield l) #[] #[], pt b1, pt b2] w D S (fun _ D' hpc' => St (placesL d false j h) D' hpc' ∨ Sp D' hpc') := by
  unfold Alters
  obtain rfl := hR0.dip.len'
  obtain rfl := hR0.bath.len'
  have hl1 := hR0.len1
  have hl2 := hR0.len2
  obtain ⟨hh, hd1, hd2, hdn, hbn⟩ := dips_num hv
  have hbj := hbn j hj
  have hnw := need_num hv false hj
  simp only [need0, if_true, Bool.false_eq_true, if_false] at hnw
  refine enter Try.func105 rfl 79 Try.ntmps105 (Nat.le_of_ble_eq_true rfl) hI0 ?_
  refine WC.scope ?_
  refine WC.seq ?_
  refine WC.ofFr [(0, _), (1, _), (2, _)] ⟨rfl, rfl, rfl, trivial⟩ ?_
  refine WC.drawO hpc0 [(0, true), (1, true), (2, true), (3, true), (4, true), (5, true), (6, true), (7, true), (8, true), (9, false), (10, false)] (by kernel_rfl) (by kernel_rfl) (QuietPanic.then (QuietPanic.sc QuietPanic.body)) (fun w hI => hI) ?_
  refine WA.yd rfl (Yd.load1 Try.isAgg72 rfl (by first | exact (Rd.imm hX10 rfl) | exact (Rd.imm hX20 rfl) | exact (Rd.imm hB0 rfl) | exact (Rd.imm hX4 rfl) | exact (Rd.imm hX1 rfl) | exact (Rd.imm hX2 rfl) | exact (Rd.imm hB rfl) | exact (Rd.imm hY1 rfl) | exact (Rd.imm hY2 rfl) | exact (Rd.imm hYB rfl) | exact (Rd.imm hY4 rfl))) rfl ?_
  refine WA.yd rfl (Yd.nilCheck rfl) rfl ?_
  refine WA.yd rfl (Yd.fieldAddr FA89_0 rfl) rfl ?_
  refine WA.yd rfl (Yd.fieldAddr FA25_2 rfl) rfl ?_
  refine WA.yd rfl (Yd.load1 Try.isAgg23 rfl (by first | exact (Rd.imm hX10 rfl) | exact (Rd.imm hX20 rfl) | exact (Rd.imm hB0 rfl) | exact (Rd.imm hX4 rfl) | exact (Rd.imm hX1 rfl) | exact (Rd.imm hX2 rfl) | exact (Rd.imm hB rfl) | exact (Rd.imm hY1 rfl) | exact (Rd.imm hY2 rfl) | exact (Rd.imm hYB rfl) | exact (Rd.imm hY4 rfl))) rfl ?_
  refine WA.yd rfl (Yd.fieldAddr FA128_0 rfl) rfl ?_
  refine WA.yd rfl (Yd.load1 Try.isAgg3 rfl (by first | exact (Rd.imm hX10 rfl) | exact (Rd.imm hX20 rfl) | exact (Rd.imm hB0 rfl) | exact (Rd.imm hX4 rfl) | exact (Rd.imm hX1 rfl) | exact (Rd.imm hX2 rfl) | exact (Rd.imm hB rfl) | exact (Rd.imm hY1 rfl) | exact (Rd.imm hY2 rfl) | exact (Rd.imm hYB rfl) | exact (Rd.imm hY4 rfl))) rfl ?_
  refine WA.yd rfl (Yd.indexS Try.underlying23 Try.sizeOf55 rfl rfl (by omega) (by omega) (by first | exact hR0.bath.addr j (by omega))) rfl ?_
  refine WA.yd rfl (Yd.loadN Try.isAgg55 Try.sizeOf55 rfl (vs := [_, _, _]) rfl (by first | exact (hR0.bath.at j (by omega)).rdn 0 3 rfl | exact (RdN.imm hX4 rfl) | exact (RdD.rdn ⟨_, _, _, hX4, fun _ _ h => by rw [Nat.zero_add]; exact h⟩ 0 2 rfl))) rfl ?_
  refine WA.so rfl (SO.alloc Try.zeroValue55 rfl) rfl ?_
  rintro _ _ _ ⟨b4, hb4, rfl, rfl, rfl⟩ -- NEW
  refine ⟨fun _ hI => hI.tail, ?_⟩
  refine WA.so rfl (SO.store 0 rfl Try.sizeOf55 rfl rfl rfl rfl (Nat.le_of_ble_eq_true rfl) (oneB_spec rfl)) rfl ?_
  rintro _ _ _ ⟨rfl, rfl, rfl⟩
  refine ⟨fun _ hI => hI.tail, ?_⟩
  refine WA.nil ?_
  refine WP.thenC ?_
  refine WC.seq ?_
  refine WC.ofFr [(4, _), (0, _), (1, _), (2, _)] ⟨rfl, rfl, rfl, rfl, trivial⟩ ?_
  refine WC.region ?_
  refine WL.freezeK 0 rfl (fun hn4 => ?_)
  have hF4 : ∀ o, DExt w D (D.add b4 o) := fun o => (DExt.refl w D).add (o := o) hn4 hb4
  obtain ⟨D4, hD4⟩ : ∃ D4, D.add b4 (.cells (List.toArray (batherC (gt d.bathers j))) 55 (0, 0)) = D4 := ⟨_, rfl⟩
  have hX04 : DExt w D D4 := hD4 ▸ hF4 _
  have hX4 : D4 b4 = some (.cells (List.toArray (batherC (gt d.bathers j))) 55 (0, 0)) := hD4 ▸ Imm.add_self _ _ _
  have hX2 := hX04.old _ _ hX20
  have hX1 := hX04.old _ _ hX10
  have hB := hB0.ext hX04
  have hR := hR0.ext hX04
  have hS0 := hSm _ _ _ _ hX04 h0
  have e4 : (D.add b4 (.cells (List.toArray (splice [it 0, it 0, it 0] 0 (batherC (gt d.bathers j)))) 55 (0, 0))) = D4 := hD4
  clear hD4
  first | (change WL _ _ _ _ (D.add b4 (.cells (List.toArray (splice [it 0, it 0, it 0] 0 (batherC (gt d.bathers j)))) 55 (0, 0))) hpc0 _ _; rw [e4]) | skip
  refine WL.yd (Yd.fieldAddr FA128_1 rfl) rfl ?_
  refine WL.yd (Yd.loadN Try.isAgg120 Try.sizeOf120 rfl (vs := handsC h) rfl ((hands_rd hX2).rdn 0 12 rfl)) rfl ?_
  refine WL.yd (Yd.func rfl rfl) rfl ?_
  refine WL.yd (Yd.assign rfl) rfl ?_
  refine WL.nil ?_
  refine WP.thenC ?_
  refine WC.seq ?_
  refine WC.label ?_
  refine WP.thenC ?_
  refine WC.seq ?_
  refine WC.ofFr [(5, _), (4, _), (0, _), (1, _), (2, _)] ⟨rfl, rfl, rfl, rfl, rfl, trivial⟩ ?_
  refine WC.region ?_
  refine WL.yd (Yd.load1 Try.isAgg72 rfl (by first | exact Rd.own (k := 0) rfl rfl | exact (Rd.imm hX10 rfl) | exact (Rd.imm hX20 rfl) | exact (Rd.imm hB0 rfl) | exact (Rd.imm hX4 rfl) | exact (Rd.imm hX1 rfl) | exact (Rd.imm hX2 rfl) | exact (Rd.imm hB rfl) | exact (Rd.imm hY1 rfl) | exact (Rd.imm hY2 rfl) | exact (Rd.imm hYB rfl) | exact (Rd.imm hY4 rfl))) rfl ?_
  refine WL.yd (Yd.nilCheck rfl) rfl ?_
  refine WL.yd (Yd.fieldAddr FA89_0 rfl) rfl ?_
  refine WL.yd (Yd.fieldAddr FA25_0 rfl) rfl ?_
  refine WL.yd (Yd.load1 Try.isAgg3 rfl (by first | exact Rd.own (k := 0) rfl rfl | exact (Rd.imm hX10 rfl) | exact (Rd.imm hX20 rfl) | exact (Rd.imm hB0 rfl) | exact (Rd.imm hX4 rfl) | exact (Rd.imm hX1 rfl) | exact (Rd.imm hX2 rfl) | exact (Rd.imm hB rfl) | exact (Rd.imm hY1 rfl) | exact (Rd.imm hY2 rfl) | exact (Rd.imm hYB rfl) | exact (Rd.imm hY4 rfl))) rfl ?_
  refine WL.yd (Yd.move rfl) rfl ?_
  refine WL.nil ?_
  refine WP.thenC ?_
  refine WC.block ?_
  refine WC.loop (fun y : Nat × Imm × Hp => [(0, .func (.yield l) #[] #[]), (1, pt b1), (2, pt b2), (4, pt b4), (5, .func (.func 96) #[.agg (handsC h).toArray] #[]), (25, it d.hours), (26, nt y.1)]) (fun y => y.2.2) (fun y => y.2.1) (fun y => y.1 ≤ d.hours.toNat ∧ DExt w D4 y.2.1 ∧ St (placesTo d false j h y.1) y.2.1 y.2.2) (fun y => d.hours.toNat - y.1) ⟨0, D4, hpc0⟩ ⟨by simp only; omega, DExt.refl _ _, hS0⟩ (fun a w h => at_fr h ⟨rfl, rfl, rfl, rfl, rfl, rfl, rfl, trivial⟩) ?_
  rintro ⟨hr, D1, hpc⟩ ⟨hk, hX, hS⟩
  simp only at hk hX hS
  have hY4 := hX.old _ _ hX4
  have hY2 := hX.old _ _ hX2
  have hY1 := hX.old _ _ hX1
  have hYB := hB.ext hX
  refine WC.seq ?_
  refine WC.ofFr [(0, _), (1, _), (2, _), (4, _), (5, _), (25, _), (26, _)] ⟨rfl, rfl, rfl, rfl, rfl, rfl, rfl, trivial⟩ ?_
  refine WC.region ?_
  refine WL.yd (Yd.lss rfl rfl) rfl ?_
  refine WL.nil ?_
  refine WP.thenC ?_
  refine WC.seq ?_
  refine WC.cond rfl (fun c27 => ?_) (fun c27 => ?_)
  · try simp only [zq1, zq2, zq3, zq4, zq5, zq6, zq7, zq8] at c27
    have hr4 : hr < 4 := by omega
    refine WC.skip ?_
    refine WP.thenC ?_
    refine WC.seq ?_
    refine WC.block ?_
    refine WC.seq ?_
    refine WC.ofFr [(0, _), (1, _), (2, _), (4, _), (5, _), (25, _), (26, _)] ⟨rfl, rfl, rfl, rfl, rfl, rfl, rfl, trivial⟩ ?_
    refine WC.region ?_
    refine WL.yd (Yd.move rfl) rfl ?_
    refine WL.yd (Yd.assign rfl) rfl ?_
    refine WL.nil ?_
    refine WP.thenC ?_
    refine WC.seq ?_
    refine WC.seq ?_
    refine WC.ofFr [(6, _), (0, _), (1, _), (2, _), (4, _), (5, _), (25, _), (26, _)] ⟨rfl, rfl, rfl, rfl, rfl, rfl, rfl, rfl, trivial⟩ ?_
    refine WC.region ?_
    refine WL.yd (Yd.fieldAddr FA55_1 rfl) rfl ?_
    refine WL.yd (Yd.load1 Try.isAgg3 rfl (by first | exact (Rd.imm hX10 rfl) | exact (Rd.imm hX20 rfl) | exact (Rd.imm hB0 rfl) | exact (Rd.imm hX4 rfl) | exact (Rd.imm hX1 rfl) | exact (Rd.imm hX2 rfl) | exact (Rd.imm hB rfl) | exact (Rd.imm hY1 rfl) | exact (Rd.imm hY2 rfl) | exact (Rd.imm hYB rfl) | exact (Rd.imm hY4 rfl))) rfl ?_
    refine WL.yd (Yd.move rfl) rfl ?_
    refine WL.yd (Yd.shr rfl rfl (by omega)) rfl ?_
    refine WL.yd (Yd.and1 rfl rfl) rfl ?_
    refine WL.yd (Yd.eql rfl rfl) rfl ?_
    refine WL.nil ?_
    refine WP.thenC ?_
    refine WC.cond rfl (fun c34 => ?_) (fun c34 => ?_)
    · try simp only [zq1, zq2, zq3, zq4, zq5, zq6, zq7, zq8] at c34
      have hbit : bitN (gt d.bathers j).hours (hr : Int) = 0 := c34
      refine WC.exit ?_
      refine WP.thenExit ?_
      refine WP.blkHit ?_
      refine WP.thenC ?_
      refine WC.ofFr [(0, _), (1, _), (2, _), (4, _), (5, _), (25, _), (26, _)] ⟨rfl, rfl, rfl, rfl, rfl, rfl, rfl, trivial⟩ ?_
      refine WC.region ?_
      refine WL.yd (Yd.add rfl rfl (wr64 ⟨by omega, by omega⟩)) rfl ?_
      refine WL.yd (Yd.move rfl) rfl ?_
      refine WL.nil ?_
      first
        | (refine WP.again (⟨hr + 1, D1, hpc⟩ : Nat × Imm × Hp) ⟨by simp only; omega, hX, ?_⟩ (by simp only; omega) (fun a w h => at_fr h ⟨rfl, rfl, rfl, rfl, rfl, rfl, rfl, trivial⟩)
           have e : placesTo d false j h (hr + 1) = placesTo d false j h hr := by rw [placesTo_succ, hourAt, if_pos hbit, List.append_nil]
           simp only [e]; exact hS)
        | (obtain rfl : k = d.dippers.length := by omega
           refine WP.again (⟨hr + 1, D3, hpc3⟩ : Nat × Imm × Hp) ⟨by simp only; omega, hX3, ?_⟩ (by simp only; omega) (fun a w h => at_fr h ⟨rfl, rfl, rfl, rfl, rfl, rfl, rfl, trivial⟩)
           have e : placesTo d false j h (hr + 1) = placesTo d false j h hr ++ rowTo d false j h hr d.dippers.length := by rw [placesTo_succ, hourAt, if_neg hbit]
           simp only [e]; exact hS3)
    · try simp only [zq1, zq2, zq3, zq4, zq5, zq6, zq7, zq8] at c34
      have hbit : ¬ bitN (gt d.bathers j).hours (hr : Int) = 0 := c34
      refine WC.skip ?_
      refine WP.thenC ?_
      refine WC.seq ?_
      refine WC.ofFr [(6, _), (0, _), (1, _), (2, _), (4, _), (5, _), (25, _), (26, _)] ⟨rfl, rfl, rfl, rfl, rfl, rfl, rfl, rfl, trivial⟩ ?_
      refine WC.region ?_
      refine WL.yd (Yd.load1 Try.isAgg72 rfl (by first | exact (Rd.imm hX10 rfl) | exact (Rd.imm hX20 rfl) | exact (Rd.imm hB0 rfl) | exact (Rd.imm hX4 rfl) | exact (Rd.imm hX1 rfl) | exact (Rd.imm hX2 rfl) | exact (Rd.imm hB rfl) | exact (Rd.imm hY1 rfl) | exact (Rd.imm hY2 rfl) | exact (Rd.imm hYB rfl) | exact (Rd.imm hY4 rfl))) rfl ?_
      refine WL.yd (Yd.nilCheck rfl) rfl ?_
      refine WL.yd (Yd.fieldAddr FA89_0 rfl) rfl ?_
      refine WL.yd (Yd.fieldAddr FA25_1 rfl) rfl ?_
      refine WL.yd (Yd.load1 Try.isAgg22 rfl (by first | exact (Rd.imm hX10 rfl) | exact (Rd.imm hX20 rfl) | exact (Rd.imm hB0 rfl) | exact (Rd.imm hX4 rfl) | exact (Rd.imm hX1 rfl) | exact (Rd.imm hX2 rfl) | exact (Rd.imm hB rfl) | exact (Rd.imm hY1 rfl) | exact (Rd.imm hY2 rfl) | exact (Rd.imm hYB rfl) | exact (Rd.imm hY4 rfl))) rfl ?_
      refine WL.yd (Yd.lenS rfl Try.underlying22 rfl) rfl ?_
      refine WL.yd (Yd.move rfl) rfl ?_
      refine WL.nil ?_
      refine WP.thenC ?_
      refine WC.block ?_
      refine WC.loop (fun y : Nat × Imm × Hp => [(0, .func (.yield l) #[] #[]), (1, pt b1), (2, pt b2), (4, pt b4), (5, .func (.func 96) #[.agg (handsC h).toArray] #[]), (25, it d.hours), (26, nt hr), (6, nt hr), (40, nt d.dippers.length), (41, nt y.1)]) (fun y => y.2.2) (fun y => y.2.1) (fun y => y.1 ≤ d.dippers.length ∧ DExt w D4 y.2.1 ∧ St (placesTo d false j h hr ++ rowTo d false j h hr y.1) y.2.1 y.2.2) (fun y => d.dippers.length - y.1) ⟨0, D1, hpc⟩ ⟨by simp only; omega, hX, by simp only [rowTo, List.range_zero, List.flatMap_nil, List.append_nil]; exact hS⟩ (fun a w h => at_fr h ⟨rfl, rfl, rfl, rfl, rfl, rfl, rfl, rfl, rfl, rfl, trivial⟩) ?_
      rintro ⟨k, D3, hpc3⟩ ⟨hk2, hX3, hS3⟩
      simp only at hk2 hX3 hS3
      have hX4 := hX3.old _ _ hX4
      have hX2 := hX3.old _ _ hX2
      have hX1 := hX3.old _ _ hX1
      have hB := hB.ext hX3
      have hR := hR.ext hX3
      refine WC.seq ?_
      refine WC.ofFr [(0, _), (1, _), (2, _), (4, _), (5, _), (25, _), (26, _), (6, _), (40, _), (41, _)] ⟨rfl, rfl, rfl, rfl, rfl, rfl, rfl, rfl, rfl, rfl, trivial⟩ ?_
      refine WC.region ?_
      refine WL.yd (Yd.lss rfl rfl) rfl ?_
      refine WL.nil ?_
      refine WP.thenC ?_
      refine WC.seq ?_
      refine WC.cond rfl (fun c42 => ?_) (fun c42 => ?_)
      · try simp only [zq1, zq2, zq3, zq4, zq5, zq6, zq7, zq8] at c42
        have hk3 : k < 3 := by omega
        refine WC.skip ?_
        refine WP.thenC ?_
        refine WC.seq ?_
        refine WC.block ?_
        refine WC.seq ?_
        refine WC.ofFr [(0, _), (1, _), (2, _), (4, _), (5, _), (25, _), (26, _), (6, _), (40, _), (41, _)] ⟨rfl, rfl, rfl, rfl, rfl, rfl, rfl, rfl, rfl, rfl, trivial⟩ ?_
        refine WC.region ?_
        refine WL.yd (Yd.move rfl) rfl ?_
        refine WL.yd (Yd.assign rfl) rfl ?_
        refine WL.nil ?_
        refine WP.thenC ?_
        refine WC.seq ?_
        refine WC.ofFr [(7, _), (0, _), (1, _), (2, _), (4, _), (5, _), (25, _), (26, _), (6, _), (40, _), (41, _)] ⟨rfl, rfl, rfl, rfl, rfl, rfl, rfl, rfl, rfl, rfl, rfl, trivial⟩ ?_
        refine WC.region ?_
        refine WL.yd (Yd.move rfl) rfl ?_
        refine WL.yd (Yd.move rfl) rfl ?_
        refine WL.yd (Yd.build SA61 rfl (cs := [_, _]) rfl) rfl ?_
        refine WL.so (SO.alloc Try.zeroValue61 rfl) rfl ?_
        rintro _ _ _ ⟨b8, hb8, rfl, rfl, rfl⟩ -- NEW
        refine WL.so (SO.store 0 rfl Try.sizeOf61 rfl rfl rfl rfl (Nat.le_of_ble_eq_true rfl) (oneB_spec rfl)) rfl ?_
        rintro _ _ _ ⟨rfl, rfl, rfl⟩
        refine WL.nil ?_
        refine WP.thenC ?_
        refine WC.seq ?_
        refine WC.seq ?_
        refine WC.ofFr [(8, _), (0, _), (1, _), (2, _), (4, _), (5, _), (25, _), (26, _), (6, _), (40, _), (41, _)] ⟨rfl, rfl, rfl, rfl, rfl, rfl, rfl, rfl, rfl, rfl, rfl, trivial⟩ ?_
        refine WC.tail 9 [0, 1, 2, 3, 4, 5, 6, 7, 8] rfl (by kernel_rfl) (by kernel_rfl)  ?_
        refine WQ.q rfl (Yd.qt (Yd.move rfl)) rfl ?_
        refine WQ.q rfl (Yd.qt (Yd.loadN Try.isAgg61 Try.sizeOf61 rfl (vs := [_, _]) rfl (by first | exact RdN.own (k := 0) (n := 2) rfl rfl | exact (hR0.bath.at j (by omega)).rdn 0 3 rfl | exact (RdN.imm hX4 rfl) | exact (RdD.rdn ⟨_, _, _, hX4, fun _ _ h => by rw [Nat.zero_add]; exact h⟩ 0 2 rfl)))) rfl ?_
        refine WQ.q rfl (Qt.call (Enters.val Try.call96 rfl rfl) (fun w hI => left_n h hr k _ hr4 hk3)) rfl ?_
        refine WQ.q rfl (Yd.qt (Yd.load1 Try.isAgg72 rfl (by first | exact Rd.own (k := 0) rfl rfl | exact (Rd.imm hX10 rfl) | exact (Rd.imm hX20 rfl) | exact (Rd.imm hB0 rfl) | exact (Rd.imm hX4 rfl) | exact (Rd.imm hX1 rfl) | exact (Rd.imm hX2 rfl) | exact (Rd.imm hB rfl) | exact (Rd.imm hY1 rfl) | exact (Rd.imm hY2 rfl) | exact (Rd.imm hYB rfl) | exact (Rd.imm hY4 rfl)))) rfl ?_
        refine WQ.q rfl (Yd.qt (Yd.nilCheck rfl)) rfl ?_
        refine WQ.q rfl (Yd.qt (Yd.fieldAddr FA89_1 rfl)) rfl ?_
        refine WQ.q rfl (Yd.qt (Yd.load1 Try.isAgg87 rfl (by first | exact Rd.own (k := 0) rfl rfl | exact (Rd.imm hX10 rfl) | exact (Rd.imm hX20 rfl) | exact (Rd.imm hB0 rfl) | exact (Rd.imm hX4 rfl) | exact (Rd.imm hX1 rfl) | exact (Rd.imm hX2 rfl) | exact (Rd.imm hB rfl) | exact (Rd.imm hY1 rfl) | exact (Rd.imm hY2 rfl) | exact (Rd.imm hYB rfl) | exact (Rd.imm hY4 rfl)))) rfl ?_
        refine WQ.q rfl (Yd.qt (Yd.fieldAddr FA55_0 rfl)) rfl ?_
        refine WQ.q rfl (Yd.qt (Yd.loadN Try.isAgg35 Try.sizeOf35 rfl (vs := [_, _]) rfl (by first | exact RdN.own (k := 0) (n := 2) rfl rfl | exact (hR0.bath.at j (by omega)).rdn 0 3 rfl | exact (RdN.imm hX4 rfl) | exact (RdD.rdn ⟨_, _, _, hX4, fun _ _ h => by rw [Nat.zero_add]; exact h⟩ 0 2 rfl)))) rfl ?_
        refine WQ.tail ?_
        refine WL.so (SO.call (Enters.meth Try.call126 (fun w => by kernel_rfl) rfl rfl) (fun w hI => worstNeeds_g (gt d.bathers j).needs _)) rfl ?_
        rintro _ _ _ ⟨rfl, rfl, rfl⟩
        refine WL.yd (Yd.lss rfl rfl) rfl ?_
        refine WL.nil ?_
        refine WP.thenC ?_
        refine WC.cond rfl (fun c57 => ?_) (fun c57 => ?_)
        · try simp only [zq1, zq2, zq3, zq4, zq5, zq6, zq7, zq8] at c57
          have hlow : h hr k < need0 false (gt d.bathers j) := c57
          refine WC.exit ?_
          refine WP.thenExit ?_
          refine WP.blkHit ?_
          refine WP.thenC ?_
          refine WC.ofFr [(0, _), (1, _), (2, _), (4, _), (5, _), (25, _), (26, _), (6, _), (40, _), (41, _)] ⟨rfl, rfl, rfl, rfl, rfl, rfl, rfl, rfl, rfl, rfl, trivial⟩ ?_
          refine WC.region ?_
          refine WL.yd (Yd.add rfl rfl (wr64 ⟨by omega, by omega⟩)) rfl ?_
          refine WL.yd (Yd.move rfl) rfl ?_
          refine WL.nil ?_
          first
            | (refine WP.again (⟨k + 1, D3, hpc3⟩ : Nat × Imm × Hp) ⟨by simp only; omega, hX3, ?_⟩ (by simp only; omega) (fun a w h => at_less h ⟨rfl, rfl, rfl, rfl, rfl, rfl, rfl, rfl, rfl, rfl, trivial⟩ (fun _ h => List.mem_cons_of_mem _ h) (fun h => (List.nodup_cons.1 h).2))
               have e : rowTo d false j h hr (k + 1) = rowTo d false j h hr k := by rw [rowTo_succ, cellAt, if_pos hlow, List.append_nil]
               simp only [e]; exact hS3)
            | (obtain ⟨_, hK5⟩ | ⟨hff, _⟩ := hK5
               · refine WP.again (⟨k + 1, D5, hpc5⟩ : Nat × Imm × Hp) ⟨by simp only; omega, hX3.trans hX5 (Nat.le_refl _), ?_⟩ (by simp only; omega) (fun a w h => at_less h ⟨rfl, rfl, rfl, rfl, rfl, rfl, rfl, rfl, rfl, rfl, trivial⟩ (fun _ h => List.mem_cons_of_mem _ h) (fun h => (List.nodup_cons.1 h).2))
                 have e : rowTo d false j h hr (k + 1) = rowTo d false j h hr k ++ [(⟨(hr : Int), (k : Int)⟩, upd h hr k (h hr k - need0 false (gt d.bathers j)))] := by rw [rowTo_succ, cellAt, if_neg hlow]
                 simp only [e]; rw [← List.append_assoc]; exact hK5
               · simp_all)
        · try simp only [zq1, zq2, zq3, zq4, zq5, zq6, zq7, zq8] at c57
          have hlow : ¬ h hr k < need0 false (gt d.bathers j) := Int.not_lt.2 c57
          have hpre := next_pre d false j h (hr := hr) (k := k) (by omega) (by omega) hbit hlow
          refine WC.skip ?_
          refine WP.thenC ?_
          refine WC.seq ?_
          refine WC.ofFr [(8, _), (0, _), (1, _), (2, _), (4, _), (5, _), (25, _), (26, _), (6, _), (40, _), (41, _)] ⟨rfl, rfl, rfl, rfl, rfl, rfl, rfl, rfl, rfl, rfl, rfl, trivial⟩ ?_
          refine WC.tailF 17 [0, 1, 2, 3, 4, 5, 6, 7, 8, 9, 10, 11, 12, 13, 14, 15, 16] rfl (by kernel_rfl) (by kernel_rfl) (noLets.then (noLets.blk (noLets.then (noLets.then (noLets.blk (noLets.blk (noLets.then (noLets.then (noLets.blk (noLets.sc (noLets.body (fun w h => by obtain ⟨_, _, _, h, _⟩ := h; cases h)))))))))))) ?_
          refine WQ.q rfl (Yd.qt (Yd.move rfl)) rfl ?_
          refine WQ.q rfl (Yd.qt (Yd.loadN Try.isAgg61 Try.sizeOf61 rfl (vs := [_, _]) rfl (by first | exact RdN.own (k := 0) (n := 2) rfl rfl | exact (hR0.bath.at j (by omega)).rdn 0 3 rfl | exact (RdN.imm hX4 rfl) | exact (RdD.rdn ⟨_, _, _, hX4, fun _ _ h => by rw [Nat.zero_add]; exact h⟩ 0 2 rfl)))) rfl ?_
          refine WQ.q rfl (Yd.qt (Yd.fieldAddr FA128_0 rfl)) rfl ?_
          refine WQ.q rfl (Yd.qt (Yd.load1 Try.isAgg3 rfl (by first | exact Rd.own (k := 0) rfl rfl | exact (Rd.imm hX10 rfl) | exact (Rd.imm hX20 rfl) | exact (Rd.imm hB0 rfl) | exact (Rd.imm hX4 rfl) | exact (Rd.imm hX1 rfl) | exact (Rd.imm hX2 rfl) | exact (Rd.imm hB rfl) | exact (Rd.imm hY1 rfl) | exact (Rd.imm hY2 rfl) | exact (Rd.imm hYB rfl) | exact (Rd.imm hY4 rfl)))) rfl ?_
          refine WQ.q rfl (Yd.qt (Yd.add rfl rfl (wr64 ⟨by omega, by omega⟩))) rfl ?_
          refine WQ.q rfl (Yd.qt (Yd.fieldAddr FA128_1 rfl)) rfl ?_
          refine WQ.q rfl (Yd.qt (Yd.loadN Try.isAgg120 Try.sizeOf120 rfl (vs := handsC h) rfl ((hands_rd hX2).rdn 0 12 rfl))) rfl ?_
          refine WQ.q rfl (Yd.qt (Yd.loadN Try.isAgg61 Try.sizeOf61 rfl (vs := [_, _]) rfl (by first | exact RdN.own (k := 0) (n := 2) rfl rfl | exact (hR0.bath.at j (by omega)).rdn 0 3 rfl | exact (RdN.imm hX4 rfl) | exact (RdD.rdn ⟨_, _, _, hX4, fun _ _ h => by rw [Nat.zero_add]; exact h⟩ 0 2 rfl)))) rfl ?_
          refine WQ.q rfl (Yd.qt (Yd.load1 Try.isAgg72 rfl (by first | exact Rd.own (k := 0) rfl rfl | exact (Rd.imm hX10 rfl) | exact (Rd.imm hX20 rfl) | exact (Rd.imm hB0 rfl) | exact (Rd.imm hX4 rfl) | exact (Rd.imm hX1 rfl) | exact (Rd.imm hX2 rfl) | exact (Rd.imm hB rfl) | exact (Rd.imm hY1 rfl) | exact (Rd.imm hY2 rfl) | exact (Rd.imm hYB rfl) | exact (Rd.imm hY4 rfl)))) rfl ?_
          refine WQ.q rfl (Yd.qt (Yd.nilCheck rfl)) rfl ?_
          refine WQ.q rfl (Yd.qt (Yd.fieldAddr FA89_1 rfl)) rfl ?_
          refine WQ.q rfl (Yd.qt (Yd.load1 Try.isAgg87 rfl (by first | exact Rd.own (k := 0) rfl rfl | exact (Rd.imm hX10 rfl) | exact (Rd.imm hX20 rfl) | exact (Rd.imm hB0 rfl) | exact (Rd.imm hX4 rfl) | exact (Rd.imm hX1 rfl) | exact (Rd.imm hX2 rfl) | exact (Rd.imm hB rfl) | exact (Rd.imm hY1 rfl) | exact (Rd.imm hY2 rfl) | exact (Rd.imm hYB rfl) | exact (Rd.imm hY4 rfl)))) rfl ?_
          refine WQ.q rfl (Yd.qt (Yd.fieldAddr FA55_0 rfl)) rfl ?_
          refine WQ.q rfl (Yd.qt (Yd.loadN Try.isAgg35 Try.sizeOf35 rfl (vs := [_, _]) rfl (by first | exact RdN.own (k := 0) (n := 2) rfl rfl | exact (hR0.bath.at j (by omega)).rdn 0 3 rfl | exact (RdN.imm hX4 rfl) | exact (RdD.rdn ⟨_, _, _, hX4, fun _ _ h => by rw [Nat.zero_add]; exact h⟩ 0 2 rfl)))) rfl ?_
          refine WQ.q rfl (Qt.call (Enters.meth Try.call126 (fun w => by kernel_rfl) rfl rfl) (fun w hI => worstNeeds_g (gt d.bathers j).needs _)) rfl ?_
          refine WQ.q rfl (Qt.callP Try.call95 rfl (fun w hI => without_n h hr k _ _ hr4 hk3 hn ⟨by omega, by omega⟩)) rfl ?_
          refine WQ.q rfl (Yd.qt (Yd.build SA128 rfl (build128 _ _))) rfl ?_
          refine WQ.tailF ?_
          refine WLF.yield (l := l) (vals := [.agg #[it (hr : Int), it (k : Int)], markV (j + 1) (upd h hr k (h hr k - need0 false (gt d.bathers j)))]) (S1 := S) [_] hpc3 (fun _ h => h) (fun h => h) (hSt _ _ _ hS3).1 (hSt _ _ _ hS3).2 rfl rfl rfl (fun w' hsz hI => hround (placesTo d false j h hr ++ rowTo d false j h hr k) (⟨(hr : Int), (k : Int)⟩, upd h hr k (h hr k - need0 false (gt d.bathers j))) D3 hpc3 w' hpre hsz (hX04.trans hX3 (Nat.le_refl _)) hS3 hI) ?_
          rintro b75 D5 hpc5 hK5 hX5
          refine WLF.yd (by intro _ h; cases h) (Yd.not rfl) rfl ?_
          refine WLF.nil ?_
          refine WP.thenC ?_
          refine WC.cond rfl (fun c76 => ?_) (fun c76 => ?_)
          · try simp only [zq1, zq2, zq3, zq4, zq5, zq6, zq7, zq8] at c76
            refine WC.ret ?_
            refine WP.blkRet ?_
            refine WP.thenRet ?_
            refine WP.thenRet ?_
            refine WP.blkRet ?_
            refine WP.blkRet ?_
            refine WP.thenRet ?_
            refine WP.thenRet ?_
            refine WP.blkRet ?_
            refine WP.scRet ?_
            refine WP.ret0 rfl rfl Try.results105  (fun w hI => by
              obtain ⟨htt, _⟩ | ⟨_, hK5⟩ := hK5
              · simp_all
              · exact ⟨_, D5, hpc5, rfl, (hX04.trans hX3 (Nat.le_refl _)).trans hX5 (Nat.le_refl _), hI.tail, hSp _ _ hK5, .inr hK5⟩)
          · try simp only [zq1, zq2, zq3, zq4, zq5, zq6, zq7, zq8] at c76
            refine WC.skip ?_
            refine WP.blkNormal ?_
            refine WP.thenC ?_
            refine WC.ofFr [(0, _), (1, _), (2, _), (4, _), (5, _), (25, _), (26, _), (6, _), (40, _), (41, _)] ⟨rfl, rfl, rfl, rfl, rfl, rfl, rfl, rfl, rfl, rfl, trivial⟩ ?_
            refine WC.region ?_
            refine WL.yd (Yd.add rfl rfl (wr64 ⟨by omega, by omega⟩)) rfl ?_
            refine WL.yd (Yd.move rfl) rfl ?_
            refine WL.nil ?_
            first
              | (refine WP.again (⟨k + 1, D3, hpc3⟩ : Nat × Imm × Hp) ⟨by simp only; omega, hX3, ?_⟩ (by simp only; omega) (fun a w h => at_less h ⟨rfl, rfl, rfl, rfl, rfl, rfl, rfl, rfl, rfl, rfl, trivial⟩ (fun _ h => List.mem_cons_of_mem _ h) (fun h => (List.nodup_cons.1 h).2))
                 have e : rowTo d false j h hr (k + 1) = rowTo d false j h hr k := by rw [rowTo_succ, cellAt, if_pos hlow, List.append_nil]
                 simp only [e]; exact hS3)
              | (obtain ⟨_, hK5⟩ | ⟨hff, _⟩ := hK5
                 · refine WP.again (⟨k + 1, D5, hpc5⟩ : Nat × Imm × Hp) ⟨by simp only; omega, hX3.trans hX5 (Nat.le_refl _), ?_⟩ (by simp only; omega) (fun a w h => at_less h ⟨rfl, rfl, rfl, rfl, rfl, rfl, rfl, rfl, rfl, rfl, trivial⟩ (fun _ h => List.mem_cons_of_mem _ h) (fun h => (List.nodup_cons.1 h).2))
                   have e : rowTo d false j h hr (k + 1) = rowTo d false j h hr k ++ [(⟨(hr : Int), (k : Int)⟩, upd h hr k (h hr k - need0 false (gt d.bathers j)))] := by rw [rowTo_succ, cellAt, if_neg hlow]
                   simp only [e]; rw [← List.append_assoc]; exact hK5
                 · simp_all)
      · try simp only [zq1, zq2, zq3, zq4, zq5, zq6, zq7, zq8] at c42
        refine WC.exit ?_
        refine WP.thenExit ?_
        refine WP.thenExit ?_
        refine WP.blkHit ?_
        refine WP.blkNormal ?_
        refine WP.thenC ?_
        refine WC.ofFr [(0, _), (1, _), (2, _), (4, _), (5, _), (25, _), (26, _)] ⟨rfl, rfl, rfl, rfl, rfl, rfl, rfl, trivial⟩ ?_
        refine WC.region ?_
        refine WL.yd (Yd.add rfl rfl (wr64 ⟨by omega, by omega⟩)) rfl ?_
        refine WL.yd (Yd.move rfl) rfl ?_
        refine WL.nil ?_
        first
          | (refine WP.again (⟨hr + 1, D1, hpc⟩ : Nat × Imm × Hp) ⟨by simp only; omega, hX, ?_⟩ (by simp only; omega) (fun a w h => at_fr h ⟨rfl, rfl, rfl, rfl, rfl, rfl, rfl, trivial⟩)
             have e : placesTo d false j h (hr + 1) = placesTo d false j h hr := by rw [placesTo_succ, hourAt, if_pos hbit, List.append_nil]
             simp only [e]; exact hS)
          | (obtain rfl : k = d.dippers.length := by omega
             refine WP.again (⟨hr + 1, D3, hpc3⟩ : Nat × Imm × Hp) ⟨by simp only; omega, hX3, ?_⟩ (by simp only; omega) (fun a w h => at_fr h ⟨rfl, rfl, rfl, rfl, rfl, rfl, rfl, trivial⟩)
             have e : placesTo d false j h (hr + 1) = placesTo d false j h hr ++ rowTo d false j h hr d.dippers.length := by rw [placesTo_succ, hourAt, if_neg hbit]
             simp only [e]; exact hS3)
  · try simp only [zq1, zq2, zq3, zq4, zq5, zq6, zq7, zq8] at c27
    refine WC.exit ?_
    refine WP.thenExit ?_
    refine WP.thenExit ?_
    refine WP.blkHit ?_
    refine WP.scNormal ?_
    refine WP.ret0 rfl rfl Try.results105  (fun w hI => by
      obtain rfl : hr = d.hours.toNat := by omega
      exact ⟨_, D1, hpc, rfl, hX04.trans hX (Nat.le_refl _), hI, (hSt _ _ _ hS).2, .inl hS⟩)

end Go.Proofs.Ytidjdonppfegiaa
namespace Go.Proofs.Ytidjdonppfegiaa
open Go.W Go.Dp
theorem FA130_0 : FieldAt Try.prog 130 0 0 := FieldAt.mk (t := 26) (off := 0) Try.underlying130 rfl Try.sizeOf26 (by decide)
theorem FA130_1 : FieldAt Try.prog 130 1 1 := FieldAt.mk (t := 4) (off := 1) Try.underlying130 rfl Try.sizeOf4 (by decide)
theorem SA130 : StructAt Try.prog 130 [.slice none 0 0, .bool false] [(0, 1), (1, 1)] := ⟨⟨_, Try.zeroValue130, rfl⟩, _, Try.underlying130, fun w => by simp [Try.sizeOf4, Try.sizeOf26]⟩
theorem places1_g (best : Bool) (d : Dips) (a1 : Option Addr) (n1 c1 : Nat) (a2 : Option Addr) (n2 c2 : Nat) (q b1 b2 : Nat) (D : Imm) (w : World) (hB0 : BeachAt D q d (.slice a1 n1 c1) (.slice a2 n2 c2) (truthV best)) (hR0 : DipsR D d a1 n1 a2 n2) (hX10 : D b1 = some (.cells (List.toArray [pt q]) 72 (0, 0)))
    (j : Nat) (hj : j < d.bathers.length) (h : HM) (hX20 : D b2 = some (.cells (List.toArray (nt j :: handsC h)) 128 (0, 0))) (hv : dipsB d = true) (hc : Can d best h) (hn : NumH h) (l : Nat) (S : List Nat) (St : List (Plc × HM) → Imm → Hp → Prop) (Sp : Imm → Hp → Prop)
    (hSt : ∀ pre D' hpc, St pre D' hpc → (∀ b, b ∈ S → b ∈ keys hpc) ∧ (∀ b, b ∈ keys hpc → b ∈ S)) (hSp : ∀ D' hpc, Sp D' hpc → (∀ b, b ∈ keys hpc → b ∈ S)) (hSm : ∀ pre D1 D2 hpc, DExt w D1 D2 → St pre D1 hpc → St pre D2 hpc)
    (hround : ∀ pre p D' hpc w', pre ++ [p] <+: placesL d best j h → w.heap.size ≤ w'.heap.size → DExt w D D' → St pre D' hpc → Inv D' hpc S w' w' → YieldAt Fence.wide 0 Try.prog l #[.agg #[it p.1.hour, it p.1.dipper], markV (j + 1) p.2] w' (RoundR w' D' S (fun b D'' hpc' => (b = true ∧ St (pre ++ [p]) D'' hpc') ∨ (b = false ∧ Sp D'' hpc'))))
    (hpc0 : Hp) (h0 : St [] D hpc0) (hI0 : Inv D hpc0 S w w) : Alters Try.prog 105 [.func (.yield l) #[] #[], pt b1, pt b2] w D S (fun _ D' hpc' => St (placesL d best j h) D' hpc' ∨ Sp D' hpc')  := by
  cases best with
  | false => exact places1_false d a1 n1 c1 a2 n2 c2 q b1 b2 D w hB0 hR0 hX10 j hj h hX20 hv hc hn l S St Sp hSt hSp hSm hround hpc0 h0 hI0
  | true => exact places1_true d a1 n1 c1 a2 n2 c2 q b1 b2 D w hB0 hR0 hX10 j hj h hX20 hv hc hn l S St Sp hSt hSp hSm hround hpc0 h0 hI0

set_option maxRecDepth 100000 in
set_option maxHeartbeats 1000000 in
theorem on_step (d : Dips) (best : Bool) (a1 : Option Addr) (n1 c1 : Nat) (a2 : Option Addr) (n2 c2 : Nat) (q q1 q4 q5 bm : Nat) (hv : dipsB d = true) (rem0 : Nat) (hrem0 : rem0 ≤ d.bathers.length)
    (ih : ∀ rem, rem0 = rem + 1 → ∀ h D es clock w, Can d best h → NumH h → OnIn d best D a1 n1 c1 a2 n2 c2 q q1 q4 q5 bm → MemoOK d best D es → Inv D [(bm, .map es clock)] [bm] w w → Alters Try.prog 97 [markV (d.bathers.length - rem) h, pt q1, pt q4, pt q5] w D [bm] (OnK d best bm rem h))
    (h : HM) (D : Imm) (es : Array MapEntry) (clock : Nat) (w : World) (hc : Can d best h) (hn : NumH h) (hO : OnIn d best D a1 n1 c1 a2 n2 c2 q q1 q4 q5 bm) (hM : MemoOK d best D es) (hI0 : Inv D [(bm, .map es clock)] [bm] w w) :
    Alters Try.prog 97 [markV (d.bathers.length - rem0) h, pt q1, pt q4, pt q5] w D [bm] (OnK d best bm rem0 h) := by
  unfold Alters
  obtain rfl := hO.dips.dip.len'
  obtain rfl := hO.dips.bath.len'
  have hl2 := hO.dips.len2
  have hd5 := (dips_num hv).2.2.1
  refine enterM Try.func97 rfl 50 Try.ntmps97 (Nat.le_of_ble_eq_true rfl) hI0 ?_
  refine WC.seq ?_
  refine WC.ofFr [(0, _), (1, _), (2, _), (3, _)] ⟨rfl, rfl, rfl, rfl, trivial⟩ ?_
  refine WC.region ?_
  refine WL.so (SO.box rfl rfl) rfl ?_
  rintro _ _ _ ⟨b4, hb4, rfl, rfl, rfl⟩ -- NEW
  refine WL.so (SO.alloc Try.zeroValue130 rfl) rfl ?_
  rintro _ _ _ ⟨b5, hb5, rfl, rfl, rfl⟩ -- NEW
  refine WL.nil ?_
  refine WP.thenC ?_
  refine WC.seq ?_
  refine WC.seq ?_
  refine WC.ofFr [(5, _), (4, _), (1, _), (2, _), (3, _)] ⟨rfl, rfl, rfl, rfl, rfl, trivial⟩ ?_
  refine WC.tail 8 [0, 1, 2, 3, 4, 5, 6, 7] rfl (by kernel_rfl) (by kernel_rfl)  ?_
  refine WQ.q rfl (Yd.qt (Yd.fieldAddr FA128_0 rfl)) rfl ?_
  refine WQ.q rfl (Yd.qt (Yd.load1 Try.isAgg3 rfl (by first | exact Rd.own (k := 0) rfl rfl | exact Rd.own (k := 1) rfl rfl | exact Rd.own (k := 2) rfl rfl | exact (Rd.imm hO.c1 rfl) | exact (Rd.imm hO.beach rfl) | exact (Rd.imm hO.c4 rfl) | exact (Rd.imm hO1.c5 rfl) | exact (Rd.imm hO3.c4 rfl) | exact (Rd.imm hO1.c1 rfl)))) rfl ?_
  refine WQ.q rfl (Yd.qt (Yd.load1 Try.isAgg72 rfl (by first | exact Rd.own (k := 0) rfl rfl | exact Rd.own (k := 1) rfl rfl | exact Rd.own (k := 2) rfl rfl | exact (Rd.imm hO.c1 rfl) | exact (Rd.imm hO.beach rfl) | exact (Rd.imm hO.c4 rfl) | exact (Rd.imm hO1.c5 rfl) | exact (Rd.imm hO3.c4 rfl) | exact (Rd.imm hO1.c1 rfl)))) rfl ?_
  refine WQ.q rfl (Yd.qt (Yd.nilCheck rfl)) rfl ?_
  refine WQ.q rfl (Yd.qt (Yd.fieldAddr FA89_0 rfl)) rfl ?_
  refine WQ.q rfl (Yd.qt (Yd.fieldAddr FA25_2 rfl)) rfl ?_
  refine WQ.q rfl (Yd.qt (Yd.load1 Try.isAgg23 rfl (by first | exact Rd.own (k := 0) rfl rfl | exact Rd.own (k := 1) rfl rfl | exact Rd.own (k := 2) rfl rfl | exact (Rd.imm hO.c1 rfl) | exact (Rd.imm hO.beach rfl) | exact (Rd.imm hO.c4 rfl) | exact (Rd.imm hO1.c5 rfl) | exact (Rd.imm hO3.c4 rfl) | exact (Rd.imm hO1.c1 rfl)))) rfl ?_
  refine WQ.q rfl (Yd.qt (Yd.lenS rfl Try.underlying23 rfl)) rfl ?_
  refine WQ.tail ?_
  refine WL.yd (Yd.eql rfl rfl) rfl ?_
  refine WL.nil ?_
  refine WP.thenC ?_
  refine WC.cond rfl (fun c20 => ?_) (fun c20 => ?_)
  · try simp only [zq1, zq2, zq3, zq4, zq5, zq6, zq7, zq8] at c20
    have hz : rem0 = 0 := by omega
    subst hz
    refine WC.seq ?_
    refine WC.ofFr [(5, _), (4, _), (1, _), (2, _), (3, _)] ⟨rfl, rfl, rfl, rfl, rfl, trivial⟩ ?_
    refine WC.region ?_
    refine WL.yd (Yd.build SA130 rfl (cs := [_, _]) rfl) rfl ?_
    refine WL.so (SO.store 0 rfl Try.sizeOf130 rfl rfl rfl rfl (Nat.le_of_ble_eq_true rfl) (oneB_spec rfl)) rfl ?_
    rintro _ _ _ ⟨rfl, rfl, rfl⟩
    refine WL.nil ?_
    refine WP.thenC ?_
    refine WC.ret ?_
    refine WP.thenRet ?_
    refine WP.retM0 [_] [_] rfl rfl Try.results97 ⟨(RV.cellN Try.isAgg130 Try.sizeOf130 rfl (vs := [_, _]) rfl (by first | exact RdN.own (k := 0) (n := 2) rfl rfl | exact RdN.own (k := 1) (n := 2) rfl rfl | exact RdN.own (k := 2) (n := 2) rfl rfl)), trivial⟩ (fun w1 hI => ⟨_, D, [_], rfl, DExt.refl _ _, hI.drop 2, fun _ h => h, es, clock, rfl, hM, ⟨none, 0, 0, rfl, ⟨⟨rfl, fun i r hr => by simp at hr⟩, by omega⟩, fun _ => rfl⟩⟩)
  · try simp only [zq1, zq2, zq3, zq4, zq5, zq6, zq7, zq8] at c20
    obtain ⟨rem, rfl⟩ : ∃ rem, rem0 = rem + 1 := ⟨rem0 - 1, by omega⟩
    have ih := ih rem rfl
    refine WC.skip ?_
    refine WP.thenC ?_
    refine WC.seq ?_
    refine WC.seq ?_
    refine WC.ofFr [(5, _), (4, _), (1, _), (2, _), (3, _)] ⟨rfl, rfl, rfl, rfl, rfl, trivial⟩ ?_
    refine WC.region ?_
    obtain ⟨kl, hkl⟩ := keyM (j := ((d.bathers.length - (rem + 1) : Nat) : Int)) (h := h) (by omega) hn.w
    refine WL.yd (Yd.load1 Try.isAgg125 rfl (by first | exact Rd.own (k := 0) rfl rfl | exact Rd.own (k := 1) rfl rfl | exact Rd.own (k := 2) rfl rfl | exact (Rd.imm hO.c1 rfl) | exact (Rd.imm hO.beach rfl) | exact (Rd.imm hO.c4 rfl) | exact (Rd.imm hO1.c5 rfl) | exact (Rd.imm hO3.c4 rfl) | exact (Rd.imm hO1.c1 rfl))) rfl ?_
    refine WL.yd (Yd.loadN Try.isAgg128 Try.sizeOf128 rfl (vs := nt (d.bathers.length - (rem + 1)) :: handsC h) rfl (RdN.own (k := 1) (n := 13) rfl rfl)) rfl ?_
    refine WL.so (SO.lookup law128 Try.underlying125 Try.zeroValue130 rfl rfl (j := 2) rfl hkl (hM.keys (by omega))) rfl ?_
    intro v25 D25 hp25 hL25
    obtain ⟨rfl, rfl, a25, n25, c25, f25, b25, rfl, hr25⟩ := look_split hrem0 hM hc hL25
    refine WL.yd (Yd.move rfl) rfl ?_
    refine WL.yd (Yd.extract rfl rfl) rfl ?_
    refine WL.yd (Yd.extract rfl rfl) rfl ?_
    refine WL.so (SO.alloc Try.zeroValue130 rfl) rfl ?_
    rintro _ _ _ ⟨b6, hb6, rfl, rfl, rfl⟩ -- NEW
    refine WL.so (SO.store 0 rfl Try.sizeOf130 rfl rfl rfl rfl (Nat.le_of_ble_eq_true rfl) (oneB_spec rfl)) rfl ?_
    rintro _ _ _ ⟨rfl, rfl, rfl⟩
    refine WL.yd (Yd.assign rfl) rfl ?_
    refine WL.nil ?_
    refine WP.thenC ?_
    refine WC.seq ?_
    refine WC.ofFr [(7, _), (6, _), (5, _), (4, _), (1, _), (2, _), (3, _)] ⟨rfl, rfl, rfl, rfl, rfl, rfl, rfl, trivial⟩ ?_
    refine WC.region ?_
    refine WL.yd (Yd.move rfl) rfl ?_
    refine WL.nil ?_
    refine WP.thenC ?_
    refine WC.cond rfl (fun c28 => ?_) (fun c28 => ?_)
    · try simp only [zq1, zq2, zq3, zq4, zq5, zq6, zq7, zq8] at c28
      refine WC.seq ?_
      refine WC.ofFr [(6, _), (5, _), (4, _), (1, _), (2, _), (3, _)] ⟨rfl, rfl, rfl, rfl, rfl, rfl, trivial⟩ ?_
      refine WC.region ?_
      refine WL.yd (Yd.loadN Try.isAgg130 Try.sizeOf130 rfl (vs := [_, _]) rfl (by first | exact RdN.own (k := 0) (n := 2) rfl rfl | exact RdN.own (k := 1) (n := 2) rfl rfl | exact RdN.own (k := 2) (n := 2) rfl rfl | exact RdN.own (k := 3) (n := 2) rfl rfl)) rfl ?_
      refine WL.so (SO.store 1 rfl Try.sizeOf130 rfl rfl rfl rfl (Nat.le_of_ble_eq_true rfl) (oneB_spec rfl)) rfl ?_
      rintro _ _ _ ⟨rfl, rfl, rfl⟩
      refine WL.nil ?_
      refine WP.thenC ?_
      refine WC.ret ?_
      refine WP.thenRet ?_
      refine WP.retM0 [_] [_] rfl rfl Try.results97 ⟨(RV.cellN Try.isAgg130 Try.sizeOf130 rfl (vs := [_, _]) rfl (by first | exact RdN.own (k := 0) (n := 2) rfl rfl | exact RdN.own (k := 1) (n := 2) rfl rfl | exact RdN.own (k := 2) (n := 2) rfl rfl | exact RdN.own (k := 3) (n := 2) rfl rfl)), trivial⟩ (fun w1 hI => ⟨_, D, [_], rfl, DExt.refl _ _, hI.drop 3, fun _ h => h, es, clock, rfl, hM, hr25 c28⟩)
    · try simp only [zq1, zq2, zq3, zq4, zq5, zq6, zq7, zq8] at c28
      refine WC.skip ?_
      refine WP.thenC ?_
      refine WC.seq ?_
      refine WC.ofFr [(5, _), (4, _), (1, _), (2, _), (3, _)] ⟨rfl, rfl, rfl, rfl, rfl, trivial⟩ ?_
      refine WC.region ?_
      refine WL.so (SO.alloc Try.zeroValue130 rfl) rfl ?_
      rintro _ _ _ ⟨b8, hb8, rfl, rfl, rfl⟩ -- NEW
      refine WL.nil ?_
      refine WP.thenC ?_
      refine WC.seq ?_
      refine WC.seq ?_
      refine WC.ofFr [(8, _), (5, _), (4, _), (1, _), (2, _), (3, _)] ⟨rfl, rfl, rfl, rfl, rfl, rfl, trivial⟩ ?_
      refine WC.region ?_
      refine WL.yd (Yd.load1 Try.isAgg72 rfl (by first | exact Rd.own (k := 0) rfl rfl | exact Rd.own (k := 1) rfl rfl | exact Rd.own (k := 2) rfl rfl | exact Rd.own (k := 3) rfl rfl | exact Rd.own (k := 4) rfl rfl | exact (Rd.imm hO.c1 rfl) | exact (Rd.imm hO.beach rfl) | exact (Rd.imm hO.c4 rfl) | exact (Rd.imm hO1.c5 rfl) | exact (Rd.imm hO3.c4 rfl) | exact (Rd.imm hO1.c1 rfl))) rfl ?_
      refine WL.yd (Yd.loadN Try.isAgg128 Try.sizeOf128 rfl (vs := nt (d.bathers.length - (rem + 1)) :: handsC h) rfl (RdN.own (k := 3) (n := 13) rfl rfl)) rfl ?_
      refine WL.so (SO.makes (Enters.func Try.call98 rfl) (fun w hI => places_g q h _ _ w hI.imm)) rfl ?_
      rintro _ D2 _ ⟨hX2, ⟨p2, p3, rfl, hp2, hp3⟩, rfl⟩
      refine WL.nil ?_
      refine WP.thenC ?_
      refine WC.block ?_
      refine WC.ofFr [(1, pt q1), (2, pt q4), (3, pt q5), (4, pt b4), (5, pt b5), (8, pt b8), (32, .func (.func 105) #[] #[pt p2, pt p3])] ⟨rfl, rfl, rfl, rfl, rfl, rfl, rfl, trivial⟩ ?_
      refine WC.erase 1 ?_
      refine WC.freezeK 2 rfl (fun hn4 => ?_)
      have hX24 : DExt w D2 (D2.add b4 (.cells (List.toArray (nt (d.bathers.length - (rem + 1)) :: handsC h)) 128 (0, 0))) := (DExt.refl _ _).add hn4 hb4
      have h4D : (D2.add b4 (.cells (List.toArray (nt (d.bathers.length - (rem + 1)) :: handsC h)) 128 (0, 0))) b4 = some (.cells (List.toArray (nt (d.bathers.length - (rem + 1)) :: handsC h)) 128 (0, 0)) := Imm.add_self _ _ _
      refine (?_ : WC Try.prog _ _ (D2.add b4 (.cells (List.toArray (nt (d.bathers.length - (rem + 1)) :: handsC h)) 128 (0, 0))) [(b8, .cells (List.toArray [.slice none 0 0, .bool false]) 130 (0, 0)), (b5, .cells (List.toArray [.slice none 0 0, .bool false]) 130 (0, 0)), (bm, .map es clock)] _ _)
      generalize (D2.add b4 (.cells (List.toArray (nt (d.bathers.length - (rem + 1)) :: handsC h)) 128 (0, 0))) = D4 at hX24 h4D ⊢
      have hX4 : DExt w D D4 := hX2.trans hX24 (Nat.le_refl _)
      have hO4 := hO.ext hX4
      have hM4 := hM.ext hX4
      have hp2 := hX24.old _ _ hp2
      have hp3 := hX24.old _ _ hp3
      refine WC.rangeFunc (gf := 105) (lb := [pt p2, pt p3]) (K := (fun D' hp' pend => (pend = none ∨ pend = some (.exit 0)) ∧ DExt w D D' ∧ DExt w D4 D' ∧ ∃ aa nn cc bb es1 clock1, hp' = [(b8, .cells (List.toArray [.slice aa nn cc, .bool bb]) 130 (0, 0)), (b5, .cells (List.toArray [.slice none 0 0, .bool false]) 130 (0, 0)), (bm, .map es1 clock1)] ∧ MemoOK d best D' es1 ∧ RestV D' (onP d best (rem + 1) h) (.agg #[.slice aa nn cc, .bool bb]))) rfl rfl Try.call105 (fun rec l Dn w1 hst hpe hps has hbo hT hDn hl hI => ?_) (fun Dn D3 hp3 pend hDn hK => ?_)
      · have hrec := rec_eta hst hpe
        have hsz1 := hI.keep.size
        have hI1 : Inv D4 [(l, .loop rec), (Dn, .deferred (some [])), (b8, .cells (List.toArray [.slice none 0 0, .bool false]) 130 (0, 0)), (b5, .cells (List.toArray [.slice none 0 0, .bool false]) 130 (0, 0)), (bm, .map es clock)] [l, Dn, b8, b5, bm] w1 w1 := Inv.frame (own := []) hI (fun _ h => h)
        refine Calls.mono (places1_g best d a1 d.dippers.length c1 a2 d.bathers.length c2 q p2 p3 D4 w1 hO4.beach hO4.dips hp2 (d.bathers.length - (rem + 1)) (by omega) h hp3 hv hc hn l [l, Dn, b8, b5, bm] (fun pre D1 hpc => DExt w D D1 ∧ DExt w D4 D1 ∧ (∀ p ∈ pre, onP d best rem p.2 = none) ∧ ∃ es1 clock1, hpc = [(l, .loop { rec with state := .ready, pending := none }), (Dn, .deferred (some [])), (b8, .cells (List.toArray [.slice none 0 0, .bool false]) 130 (0, 0)), (b5, .cells (List.toArray [.slice none 0 0, .bool false]) 130 (0, 0)), (bm, .map es1 clock1)] ∧ MemoOK d best D1 es1) (fun D1 hpc => DExt w D D1 ∧ DExt w D4 D1 ∧ ∃ aa nn cc bb es1 clock1, hpc = [(l, .loop { rec with state := .done, pending := some (.exit 0) }), (Dn, .deferred (some [])), (b8, .cells (List.toArray [.slice aa nn cc, .bool bb]) 130 (0, 0)), (b5, .cells (List.toArray [.slice none 0 0, .bool false]) 130 (0, 0)), (bm, .map es1 clock1)] ∧ MemoOK d best D1 es1 ∧ RestV D1 (onP d best (rem + 1) h) (.agg #[.slice aa nn cc, .bool bb])) ?hSt ?hSp ?hSm ?hround _ ?h0 hI1) ?hend
        case hSt =>
          rintro pre D' hpc ⟨_, _, _, es1, clock1, rfl, _⟩
          exact ⟨fun _ h => h, fun _ h => h⟩
        case hSp =>
          rintro D' hpc ⟨_, _, aa, nn, cc, bb, es1, clock1, rfl, _⟩
          exact fun _ h => h
        case hSm =>
          rintro pre D1 D5 hpc hx ⟨hx1, hx2, hno, es1, clock1, rfl, hm⟩
          exact ⟨hx1.trans hx hsz1, hx2.trans hx hsz1, hno, es1, clock1, rfl, hm.ext hx⟩
        case h0 =>
          refine ⟨hX4, DExt.refl _ _, fun p hp => (by cases hp), es, clock, ?_, hM4⟩
          rw [← hrec]
        case hend =>
          rintro e w' ⟨v, D', hpc', rfl, hXe, hIe, hke, hK⟩
          have hIu := Inv.unframe (own := []) hI (fun _ h => h) hke hXe hIe
          rcases hK with ⟨hx1, hx2, hno, es1, clock1, rfl, hM1⟩ | ⟨hx1, hx2, aa, nn, cc, bb, es1, clock1, rfl, hM1, hr1⟩
          · exact ⟨v, D', [_, _, _], .ready, none, rfl, (by decide), hIu, .inl rfl, hx1, hx2, none, 0, 0, false, es1, clock1, rfl, hM1, by rw [onP_none hno]; rfl⟩
          · exact ⟨v, D', [_, _, _], .done, some (.exit 0), rfl, (by decide), hIu, .inr rfl, hx1, hx2, aa, nn, cc, bb, es1, clock1, rfl, hM1, hr1⟩
        rintro pre p D1 hpc w2 hpre hsz2 hXX ⟨hX1, hX21, hno, es1, clock1, rfl, hM1⟩ hI2
        have hpm := mem_places hv (by omega) hc hn (hpre.subset (List.mem_append_right _ (List.mem_singleton.2 rfl)))
        have hcan := hpm.1
        have hnum := hpm.2.1
        have hO1 := hO.ext hX1
        have hszw : w.heap.size ≤ w2.heap.size := Nat.le_trans hsz1 hsz2
        rw [show (d.bathers.length - (rem + 1)) + 1 = d.bathers.length - rem from by omega]
        refine roundAt (rec := { rec with state := .ready, pending := none }) (k := 0) (n := 50) (fr := (34, markV (d.bathers.length - rem) p.2) :: (33, .agg #[it p.1.hour, it p.1.dipper]) :: [(1, pt q1), (2, pt q4), (3, pt q5), (4, pt b4), (5, pt b5), (8, pt b8), (32, .func (.func 105) #[] #[pt p2, pt p3])]) has hbo hI2 rfl (by show 2 = rec.params.size; rw [hps]; rfl) (by show AtF 50 _ [] ⟨(rec.params.zip _).foldl _ rec.tmps, []⟩; rw [hps]; exact hT.round2 rfl rfl) ?_
        refine WCF.seq ?_
        refine WCF.ofFr [(34, _), (33, _), (3, _), (5, _), (8, _)] ⟨rfl, rfl, rfl, rfl, rfl, trivial⟩ ?_
        refine WCF.region ?_
        refine WLF.so (by intro _ h; cases h) (SO.alloc Try.zeroValue61 rfl) rfl ?_
        rintro _ _ _ ⟨b9, hb9, rfl, rfl, rfl⟩ -- NEW
        refine WLF.so (by intro _ h; cases h) (SO.store 0 rfl Try.sizeOf61 rfl rfl rfl rfl (Nat.le_of_ble_eq_true rfl) (oneB_spec rfl)) rfl ?_
        rintro _ _ _ ⟨rfl, rfl, rfl⟩
        refine WLF.nil ?_
        refine WP.thenCF ?_
        refine WCF.ofFr [(9, _), (34, _), (3, _), (5, _), (8, _)] ⟨rfl, rfl, rfl, rfl, rfl, trivial⟩ ?_
        refine WCF.region ?_
        refine WLF.so (by intro _ h; cases h) (SO.alloc Try.zeroValue128 rfl) rfl ?_
        rintro _ _ _ ⟨b10, hb10, rfl, rfl, rfl⟩ -- NEW
        refine WLF.so (by intro _ h; cases h) (SO.store 0 rfl Try.sizeOf128 rfl rfl rfl rfl (Nat.le_of_ble_eq_true rfl) (oneB_spec rfl)) rfl ?_
        rintro _ _ _ ⟨rfl, rfl, rfl⟩
        refine WLF.nil ?_
        refine WP.begin (k := 2) rfl rfl ?_
        refine WCF.block ?_
        refine WCF.seq ?_
        refine WCF.ofFr [(3, _), (5, _), (8, _), (9, _), (10, _)] ⟨rfl, rfl, rfl, rfl, rfl, trivial⟩ ?_
        refine WCF.region ?_
        refine WLF.yd (by intro _ h; cases h) (Yd.load1 Try.isAgg126 rfl (by first | exact Rd.own (k := 0) rfl rfl | exact Rd.own (k := 1) rfl rfl | exact Rd.own (k := 2) rfl rfl | exact Rd.own (k := 3) rfl rfl | exact Rd.own (k := 4) rfl rfl | exact Rd.own (k := 5) rfl rfl | exact Rd.own (k := 6) rfl rfl | exact (Rd.imm hO.c1 rfl) | exact (Rd.imm hO.beach rfl) | exact (Rd.imm hO.c4 rfl) | exact (Rd.imm hO1.c5 rfl) | exact (Rd.imm hO3.c4 rfl) | exact (Rd.imm hO1.c1 rfl))) rfl ?_
        refine WLF.yd (by intro _ h; cases h) (Yd.loadN Try.isAgg128 Try.sizeOf128 rfl (vs := nt (d.bathers.length - rem) :: handsC p.2) rfl (RdN.own (k := 0) (n := 13) rfl rfl)) rfl ?_
        refine WLF.so (by intro _ h; cases h) (SO.alters (own := [_, _, _, _, _, _]) (hpc := [_]) (S1 := [bm]) (fun _ h => h) (fun h => h) (by simp) (by simp) (Enters.val Try.call97 rfl rfl) (fun w3 hI => ih p.2 D1 es1 clock1 w3 hcan hnum hO1 hM1 hI)) rfl ?_
        rintro v37 D3 _ ⟨_, hX3, ⟨es3, clock3, rfl, hM3, hr3⟩, rfl⟩
        obtain ⟨a37, n37, c37, b37, rfl, hf37, ht37⟩ := hr3.split
        refine WLF.so (by intro _ h; cases h) (SO.alloc Try.zeroValue130 rfl) rfl ?_
        rintro _ _ _ ⟨b11, hb11, rfl, rfl, rfl⟩ -- NEW
        refine WLF.so (by intro _ h; cases h) (SO.store 0 rfl Try.sizeOf130 rfl rfl rfl rfl (Nat.le_of_ble_eq_true rfl) (oneB_spec rfl)) rfl ?_
        rintro _ _ _ ⟨rfl, rfl, rfl⟩
        refine WLF.nil ?_
        refine WP.thenCF ?_
        refine WCF.seq ?_
        refine WCF.ofFr [(11, _), (5, _), (8, _), (9, _)] ⟨rfl, rfl, rfl, rfl, trivial⟩ ?_
        refine WCF.region ?_
        refine WLF.yd (by intro _ h; cases h) (Yd.fieldAddr FA130_1 rfl) rfl ?_
        refine WLF.yd (by intro _ h; cases h) (Yd.load1 Try.isAgg4 rfl (by first | exact Rd.own (k := 0) rfl rfl | exact Rd.own (k := 1) rfl rfl | exact Rd.own (k := 2) rfl rfl | exact Rd.own (k := 3) rfl rfl | exact Rd.own (k := 4) rfl rfl | exact Rd.own (k := 5) rfl rfl | exact Rd.own (k := 6) rfl rfl | exact Rd.own (k := 7) rfl rfl | exact (Rd.imm hO.c1 rfl) | exact (Rd.imm hO.beach rfl) | exact (Rd.imm hO.c4 rfl) | exact (Rd.imm hO1.c5 rfl) | exact (Rd.imm hO3.c4 rfl) | exact (Rd.imm hO1.c1 rfl))) rfl ?_
        refine WLF.nil ?_
        refine WP.thenCF ?_
        refine WCF.cond rfl (fun c39 => ?_) (fun c39 => ?_)
        · try simp only [zq1, zq2, zq3, zq4, zq5, zq6, zq7, zq8] at c39
          obtain ⟨l37, hl37, hP37, h037⟩ := ht37 c39
          have hn37 := hP37.pl.len'
          have hl37b := hP37.len
          refine WCF.seq ?_
          refine WCF.ofFr [(11, _), (5, _), (8, _), (9, _)] ⟨rfl, rfl, rfl, rfl, trivial⟩ ?_
          refine WCF.region ?_
          refine WLF.yd (by intro _ h; cases h) (Yd.loadN Try.isAgg61 Try.sizeOf61 rfl (vs := [_, _]) rfl (by first | exact RdN.own (k := 0) (n := 2) rfl rfl | exact RdN.own (k := 1) (n := 2) rfl rfl | exact RdN.own (k := 2) (n := 2) rfl rfl | exact RdN.own (k := 3) (n := 2) rfl rfl | exact RdN.own (k := 4) (n := 2) rfl rfl | exact RdN.own (k := 5) (n := 2) rfl rfl | exact RdN.own (k := 6) (n := 2) rfl rfl | exact RdN.own (k := 7) (n := 2) rfl rfl)) rfl ?_
          refine WLF.so (by intro _ h; cases h) (SO.buildSlice Try.underlying26 Try.sizeOf61 Try.zeroValue61 rfl rfl rfl rfl (cs := [_, _]) rfl) rfl ?_
          rintro _ _ _ ⟨b41, hb41, rfl, rfl, rfl⟩ -- NEW
          refine WLF.yd (by intro _ h; cases h) (Yd.fieldAddr FA130_0 rfl) rfl ?_
          refine WLF.yd (by intro _ h; cases h) (Yd.load1 Try.isAgg26 rfl (by first | exact Rd.own (k := 0) rfl rfl | exact Rd.own (k := 1) rfl rfl | exact Rd.own (k := 2) rfl rfl | exact Rd.own (k := 3) rfl rfl | exact Rd.own (k := 4) rfl rfl | exact Rd.own (k := 5) rfl rfl | exact Rd.own (k := 6) rfl rfl | exact Rd.own (k := 7) rfl rfl | exact Rd.own (k := 8) rfl rfl | exact (Rd.imm hO.c1 rfl) | exact (Rd.imm hO.beach rfl) | exact (Rd.imm hO.c4 rfl) | exact (Rd.imm hO1.c5 rfl) | exact (Rd.imm hO3.c4 rfl) | exact (Rd.imm hO1.c1 rfl))) rfl ?_
          refine WLF.so (by intro _ h; cases h) (SO.appendSome (o := ⟨b41, 1, []⟩) (len := 1) (n := n37) (xs := placeC p.1) (ys := l37.flatMap placeC) (size := 2) [] _ rfl rfl Try.underlying26 Try.sizeOf61 Try.typeInfo61 Try.zeroValue61 rfl rfl rfl rfl (hP37.pl.rdS placeC_len h037) (placeC_one _) ⟨hb41, Nat.le_refl _, rfl⟩ rfl (by show (2 * (_ + _) + 1000) * 16 ≤ 2 ^ 48; omega) (by omega)) rfl ?_
          rintro _ _ _ ⟨u44, hu44, rfl, rfl, rfl⟩
          refine WLF.yd (by intro _ h; cases h) (Yd.build SA130 rfl (cs := [_, _]) rfl) rfl ?_
          refine WLF.so (by intro _ h; cases h) (SO.store 6 rfl Try.sizeOf130 rfl rfl rfl rfl (Nat.le_of_ble_eq_true rfl) (oneB_spec rfl)) rfl ?_
          rintro _ _ _ ⟨rfl, rfl, rfl⟩
          refine WLF.nil ?_
          refine WP.thenCF ?_
          refine WCF.exit ?_
          refine WP.blkMiss rfl ?_
          refine WP.freezeK 0 rfl (fun hn44 => ?_)
          refine WP.drop 3 ?_
          have hX44 := fun o => hX3.add (o := o) hn44 hu44.1
          refine WP.goOut (k := 0) rfl (hX44 _) (fun _ h => h) (.inr ⟨rfl, hX1.trans (hX44 _) hszw, hX21.trans (hX44 _) hszw, _, _, _, _, es3, clock3, rfl, hM3.ext ((DExt.refl w2 D3).add hn44 hu44.1), ?_⟩)
          rw [onP_hit hpre hno hl37]
          have hlen37 := onP_len _ _ _ _ _ hl37
          exact RestV.cons hn37 (by omega) (Imm.add_self _ _ _)
        · try simp only [zq1, zq2, zq3, zq4, zq5, zq6, zq7, zq8] at c39
          have hf37 := hf37 c39
          refine WCF.skip ?_
          refine WP.blkNormal ?_
          refine WP.drop 3 ?_
          refine WP.goOn (k := 0) rfl hX3 (fun _ h => h) (.inl ⟨rfl, hX1.trans hX3 hszw, hX21.trans hX3 hszw, fun p' hp' => ?_, es3, clock3, rfl, hM3⟩)
          rcases List.mem_append.1 hp' with h1 | h1
          · exact hno p' h1
          · rw [List.mem_singleton.1 h1]; exact hf37
      · obtain ⟨hpend, hX3, hX43, a9, n9, c9, f9, es3, clock3, rfl, hM3, hr3⟩ := hK
        have hO3 := hO.ext hX3
        have h4D3 := hX43.old _ _ h4D
        rcases hpend with rfl | rfl
        · skip
          refine WP.blkNormal ?_
          refine WP.thenC ?_
          refine WC.seq ?_
          refine WC.ofFr [(2, _), (4, _), (5, _), (8, _)] ⟨rfl, rfl, rfl, rfl, trivial⟩ ?_
          refine WC.region ?_
          refine WL.yd (Yd.load1 Try.isAgg125 rfl (by first | exact Rd.own (k := 0) rfl rfl | exact Rd.own (k := 1) rfl rfl | exact Rd.own (k := 2) rfl rfl | exact Rd.own (k := 3) rfl rfl | exact (Rd.imm hO.c1 rfl) | exact (Rd.imm hO.beach rfl) | exact (Rd.imm hO.c4 rfl) | exact (Rd.imm hO1.c5 rfl) | exact (Rd.imm hO3.c4 rfl) | exact (Rd.imm hO1.c1 rfl))) rfl ?_
          refine WL.yd (Yd.loadN Try.isAgg128 Try.sizeOf128 rfl (vs := nt (d.bathers.length - (rem + 1)) :: handsC h) rfl (RdN.imm (n := 13) h4D3 rfl)) rfl ?_
          refine WL.yd (Yd.loadN Try.isAgg130 Try.sizeOf130 rfl (vs := [_, _]) rfl (by first | exact RdN.own (k := 0) (n := 2) rfl rfl | exact RdN.own (k := 1) (n := 2) rfl rfl | exact RdN.own (k := 2) (n := 2) rfl rfl | exact RdN.own (k := 3) (n := 2) rfl rfl)) rfl ?_
          refine WL.so (SO.mapUpdate law128 Try.underlying125 rfl rfl rfl (j := 3) rfl hkl (hM3.keys (by omega))) rfl ?_
          rintro _ _ _ ⟨rfl, es5, clock5, rfl, hes5⟩
          refine WL.nil ?_
          refine WP.thenC ?_
          refine WC.seq ?_
          refine WC.ofFr [(5, _), (8, _)] ⟨rfl, rfl, trivial⟩ ?_
          refine WC.region ?_
          refine WL.yd (Yd.loadN Try.isAgg130 Try.sizeOf130 rfl (vs := [_, _]) rfl (by first | exact RdN.own (k := 0) (n := 2) rfl rfl | exact RdN.own (k := 1) (n := 2) rfl rfl | exact RdN.own (k := 2) (n := 2) rfl rfl | exact RdN.own (k := 3) (n := 2) rfl rfl)) rfl ?_
          refine WL.so (SO.store 2 rfl Try.sizeOf130 rfl rfl rfl rfl (Nat.le_of_ble_eq_true rfl) (oneB_spec rfl)) rfl ?_
          rintro _ _ _ ⟨rfl, rfl, rfl⟩
          refine WL.nil ?_
          refine WP.thenC ?_
          refine WC.ret ?_
          refine WP.retM (k := 0) [_] [_] rfl rfl rfl Try.results97 ⟨(RV.cellN Try.isAgg130 Try.sizeOf130 rfl (vs := [_, _]) rfl (by first | exact RdN.own (k := 0) (n := 2) rfl rfl | exact RdN.own (k := 1) (n := 2) rfl rfl | exact RdN.own (k := 2) (n := 2) rfl rfl | exact RdN.own (k := 3) (n := 2) rfl rfl)), trivial⟩ (fun w1 hI => ⟨_, D3, [_], rfl, hX3, hI.drop 3, fun _ h => h, es5, clock5, rfl, memo_put hrem0 hM3 hc hn hr3 hes5, hr3⟩)
        · skip
          refine WC.exit ?_
          refine WP.blkHit ?_
          refine WP.thenC ?_
          refine WC.seq ?_
          refine WC.ofFr [(2, _), (4, _), (5, _), (8, _)] ⟨rfl, rfl, rfl, rfl, trivial⟩ ?_
          refine WC.region ?_
          refine WL.yd (Yd.load1 Try.isAgg125 rfl (by first | exact Rd.own (k := 0) rfl rfl | exact Rd.own (k := 1) rfl rfl | exact Rd.own (k := 2) rfl rfl | exact Rd.own (k := 3) rfl rfl | exact (Rd.imm hO.c1 rfl) | exact (Rd.imm hO.beach rfl) | exact (Rd.imm hO.c4 rfl) | exact (Rd.imm hO1.c5 rfl) | exact (Rd.imm hO3.c4 rfl) | exact (Rd.imm hO1.c1 rfl))) rfl ?_
          refine WL.yd (Yd.loadN Try.isAgg128 Try.sizeOf128 rfl (vs := nt (d.bathers.length - (rem + 1)) :: handsC h) rfl (RdN.imm (n := 13) h4D3 rfl)) rfl ?_
          refine WL.yd (Yd.loadN Try.isAgg130 Try.sizeOf130 rfl (vs := [_, _]) rfl (by first | exact RdN.own (k := 0) (n := 2) rfl rfl | exact RdN.own (k := 1) (n := 2) rfl rfl | exact RdN.own (k := 2) (n := 2) rfl rfl | exact RdN.own (k := 3) (n := 2) rfl rfl)) rfl ?_
          refine WL.so (SO.mapUpdate law128 Try.underlying125 rfl rfl rfl (j := 3) rfl hkl (hM3.keys (by omega))) rfl ?_
          rintro _ _ _ ⟨rfl, es5, clock5, rfl, hes5⟩
          refine WL.nil ?_
          refine WP.thenC ?_
          refine WC.seq ?_
          refine WC.ofFr [(5, _), (8, _)] ⟨rfl, rfl, trivial⟩ ?_
          refine WC.region ?_
          refine WL.yd (Yd.loadN Try.isAgg130 Try.sizeOf130 rfl (vs := [_, _]) rfl (by first | exact RdN.own (k := 0) (n := 2) rfl rfl | exact RdN.own (k := 1) (n := 2) rfl rfl | exact RdN.own (k := 2) (n := 2) rfl rfl | exact RdN.own (k := 3) (n := 2) rfl rfl)) rfl ?_
          refine WL.so (SO.store 2 rfl Try.sizeOf130 rfl rfl rfl rfl (Nat.le_of_ble_eq_true rfl) (oneB_spec rfl)) rfl ?_
          rintro _ _ _ ⟨rfl, rfl, rfl⟩
          refine WL.nil ?_
          refine WP.thenC ?_
          refine WC.ret ?_
          refine WP.retM (k := 0) [_] [_] rfl rfl rfl Try.results97 ⟨(RV.cellN Try.isAgg130 Try.sizeOf130 rfl (vs := [_, _]) rfl (by first | exact RdN.own (k := 0) (n := 2) rfl rfl | exact RdN.own (k := 1) (n := 2) rfl rfl | exact RdN.own (k := 2) (n := 2) rfl rfl | exact RdN.own (k := 3) (n := 2) rfl rfl)), trivial⟩ (fun w1 hI => ⟨_, D3, [_], rfl, hX3, hI.drop 3, fun _ h => h, es5, clock5, rfl, memo_put hrem0 hM3 hc hn hr3 hes5, hr3⟩)

end Go.Proofs.Ytidjdonppfegiaa
namespace Go.Proofs.Ytidjdonppfegiaa
open Go.W Go.Dp

theorem on_g (d : Dips) (best : Bool) (a1 : Option Addr) (n1 c1 : Nat) (a2 : Option Addr) (n2 c2 : Nat) (q q1 q4 q5 bm : Nat) (hv : dipsB d = true) : ∀ rem, rem ≤ d.bathers.length → ∀ h D es clock w, Can d best h → NumH h → OnIn d best D a1 n1 c1 a2 n2 c2 q q1 q4 q5 bm → MemoOK d best D es → Inv D [(bm, .map es clock)] [bm] w w → Alters Try.prog 97 [markV (d.bathers.length - rem) h, pt q1, pt q4, pt q5] w D [bm] (OnK d best bm rem h) := by
  intro rem
  induction rem with
  | zero => intro hr h D es clock w hc hn hO hM hI; exact on_step d best a1 n1 c1 a2 n2 c2 q q1 q4 q5 bm hv 0 hr (fun _ e => by cases e) h D es clock w hc hn hO hM hI
  | succ rem ih => intro hr h D es clock w hc hn hO hM hI; exact on_step d best a1 n1 c1 a2 n2 c2 q q1 q4 q5 bm hv (rem + 1) hr (fun r e => by cases e; exact ih (by omega)) h D es clock w hc hn hO hM hI
def planP (d : Dips) (best : Bool) : Option (List Plc) := onP d best d.bathers.length (beginH d best)
theorem on_top (d : Dips) (best : Bool) (a1 : Option Addr) (n1 c1 : Nat) (a2 : Option Addr) (n2 c2 : Nat) (q q1 q4 q5 bm : Nat) (hv : dipsB d = true) (D : Imm) (w : World) (hO : OnIn d best D a1 n1 c1 a2 n2 c2 q q1 q4 q5 bm) (hI : Inv D [(bm, .map #[] 0)] [bm] w w) : Alters Try.prog 97 [markV 0 (beginH d best), pt q1, pt q4, pt q5] w D [bm] (OnK d best bm d.bathers.length (beginH d best)) := by
  have := on_g d best a1 n1 c1 a2 n2 c2 q q1 q4 q5 bm hv d.bathers.length (Nat.le_refl _) (beginH d best) D #[] 0 w (fun _ _ _ => rfl) (fun a b => beginH_num hv best a b) hO (fun e he => by simp at he) hI
  rwa [Nat.sub_self] at this
theorem begin_g (d : Dips) (best : Bool) (a1 : Option Addr) (n1 c1 : Nat) (a2 : Option Addr) (n2 c2 : Nat) (b : Nat) (D : Imm) (w : World) (hB : BeachAt D b d (.slice a1 n1 c1) (.slice a2 n2 c2) (truthV best)) (hR : DipsR D d a1 n1 a2 n2) (hH : Holds D w) (hv : dipsB d = true) : Gives Try.prog 94 [pt b] w (.agg (handsC (beginH d best)).toArray) := by
  cases best with
  | false => exact begin_false d a1 n1 c1 a2 n2 c2 b D w hB hR hH hv
  | true => exact begin_true d a1 n1 c1 a2 n2 c2 b D w hB hR hH hv
theorem build128b (h : HM) : Instr.fill ([(0, 1), (1, 12)].toArray[·]?) (List.toArray [.int .i64 0, .int .i64 0, .int .i64 0, .int .i64 0, .int .i64 0, .int .i64 0, .int .i64 0, .int .i64 0, .int .i64 0, .int .i64 0, .int .i64 0, .int .i64 0, .int .i64 0]) [(1, .agg (handsC h).toArray)] = some (it 0 :: handsC h).toArray := by
  rw [handsC_eq]; kernel_rfl

set_option maxRecDepth 100000 in
set_option maxHeartbeats 1000000 in
theorem plan_g (d : Dips) (best : Bool) (a1 : Option Addr) (n1 c1 : Nat) (a2 : Option Addr) (n2 c2 : Nat) (q : Nat) (D : Imm) (w : World) (hB : BeachAt D q d (.slice a1 n1 c1) (.slice a2 n2 c2) (truthV best)) (hR : DipsR D d a1 n1 a2 n2) (hH : Holds D w) (hv : dipsB d = true) : Makes Try.prog 68 [pt q] w D (fun v D' => ∃ a n c f, v = .tuple #[.slice a n c, .bool f] ∧ RestV D' (planP d best) (.agg #[.slice a n c, .bool f])) := by
  unfold Makes
  refine enter Try.func68 rfl 18 Try.ntmps68 (Nat.le_of_ble_eq_true rfl) (Inv.start hH) ?_
  refine WC.seq ?_
  refine WC.ofFr [(0, _)] ⟨rfl, trivial⟩ ?_
  refine WC.region ?_
  refine WL.so (SO.box rfl rfl) rfl ?_
  rintro _ _ _ ⟨b1, hb1, rfl, rfl, rfl⟩ -- NEW
  refine WL.yd (Yd.assign rfl) rfl ?_
  refine WL.yd (Yd.assign rfl) rfl ?_
  refine WL.nil ?_
  refine WP.thenC ?_
  refine WC.seq ?_
  refine WC.ofFr [(3, _), (2, _), (1, _)] ⟨rfl, rfl, rfl, trivial⟩ ?_
  refine WC.region ?_
  refine WL.so SO.makeMap rfl ?_
  rintro _ _ _ ⟨b7, hb7, rfl, rfl, rfl⟩ -- NEW
  refine WL.so (SO.alloc Try.zeroValue125 rfl) rfl ?_
  rintro _ _ _ ⟨b4, hb4, rfl, rfl, rfl⟩ -- NEW
  refine WL.so (SO.store 0 rfl Try.sizeOf125 rfl rfl rfl rfl (Nat.le_of_ble_eq_true rfl) (oneB_spec rfl)) rfl ?_
  rintro _ _ _ ⟨rfl, rfl, rfl⟩
  refine WL.nil ?_
  refine WP.thenC ?_
  refine WC.seq ?_
  refine WC.ofFr [(4, _), (3, _), (2, _), (1, _)] ⟨rfl, rfl, rfl, rfl, trivial⟩ ?_
  refine WC.region ?_
  refine WL.so (SO.alloc Try.zeroValue126 rfl) rfl ?_
  rintro _ _ _ ⟨b5, hb5, rfl, rfl, rfl⟩ -- NEW
  refine WL.nil ?_
  refine WP.thenC ?_
  refine WC.seq ?_
  refine WC.ofFr [(5, _), (4, _), (3, _), (2, _), (1, _)] ⟨rfl, rfl, rfl, rfl, rfl, trivial⟩ ?_
  refine WC.region ?_
  refine WL.yd (Yd.func rfl rfl) rfl ?_
  refine WL.so (SO.store 0 rfl Try.sizeOf126 rfl rfl rfl rfl (Nat.le_of_ble_eq_true rfl) (oneB_spec rfl)) rfl ?_
  rintro _ _ _ ⟨rfl, rfl, rfl⟩
  refine WL.nil ?_
  refine WP.thenC ?_
  refine WC.seq ?_
  refine WC.freezeK 0 rfl (fun hn5 => ?_)
  refine WC.freezeK 0 rfl (fun hn4 => ?_)
  refine WC.freezeK 1 rfl (fun hn1 => ?_)
  refine (?_ : WC Try.prog _ _ (((D.add b5 (.cells (List.toArray [.func (.func 97) #[] #[pt b1, pt b4, pt b5]]) 126 (0, 0))).add b4 (.cells (List.toArray [.map (some b7)]) 125 (0, 0))).add b1 (.cells (List.toArray [pt q]) 72 (0, 0))) [(b7, .map #[] 0)] _ _)
  have hXa : DExt w D (((D.add b5 (.cells (List.toArray [.func (.func 97) #[] #[pt b1, pt b4, pt b5]]) 126 (0, 0))).add b4 (.cells (List.toArray [.map (some b7)]) 125 (0, 0))).add b1 (.cells (List.toArray [pt q]) 72 (0, 0))) := (((DExt.refl w D).add hn5 hb5).add hn4 hb4).add hn1 hb1
  have hO : OnIn d best (((D.add b5 (.cells (List.toArray [.func (.func 97) #[] #[pt b1, pt b4, pt b5]]) 126 (0, 0))).add b4 (.cells (List.toArray [.map (some b7)]) 125 (0, 0))).add b1 (.cells (List.toArray [pt q]) 72 (0, 0))) a1 n1 c1 a2 n2 c2 q b1 b4 b5 b7 := ⟨hXa.old _ _ hB, ⟨hR.dip.ext hXa, hR.bath.ext hXa, hR.len1, hR.len2⟩, Imm.add_self _ _ _, ((DExt.refl w _).add hn1 hb1).old _ _ (Imm.add_self _ _ _), (((DExt.refl w _).add hn4 hb4).add hn1 hb1).old _ _ (Imm.add_self _ _ _)⟩
  generalize (((D.add b5 (.cells (List.toArray [.func (.func 97) #[] #[pt b1, pt b4, pt b5]]) 126 (0, 0))).add b4 (.cells (List.toArray [.map (some b7)]) 125 (0, 0))).add b1 (.cells (List.toArray [pt q]) 72 (0, 0))) = D1 at hXa hO ⊢
  refine WC.ofFr [(5, _), (3, _), (2, _), (1, _)] ⟨rfl, rfl, rfl, rfl, trivial⟩ ?_
  refine WC.drawH [] (by kernel_rfl) (fun _ hI => hI.drop 99) ?_
  refine WH.yd (i := 0) (by kernel_rfl) (fun _ o v c a w _ h => (QuietPanic.then QuietPanic.body) c o.dst v a w h) rfl (Yd.load1 Try.isAgg126 rfl (by first | exact Rd.own (k := 0) rfl rfl | exact (Rd.imm hO.c1 rfl) | exact (Rd.imm hO.c5 rfl))) rfl ?_
  refine WH.yd (i := 1) (by kernel_rfl) (fun _ o v c a w _ h => (QuietPanic.then QuietPanic.body) c o.dst v a w h) rfl (Yd.load1 Try.isAgg72 rfl (by first | exact Rd.own (k := 0) rfl rfl | exact (Rd.imm hO.c1 rfl) | exact (Rd.imm hO.c5 rfl))) rfl ?_
  refine WH.two (i := 2) (j := 5) (by kernel_rfl) ?_ ?_
  · refine WHo.so rfl (SO.callP Try.call94 rfl (fun w hI => begin_g d best a1 n1 c1 a2 n2 c2 q D1 _ hO.beach hO.dips hI.imm hv)) rfl ?_
    rintro _ _ _ ⟨rfl, rfl, rfl⟩
    refine ⟨(by first | exact fun _ hI => hI.drop 99 | exact fun _ hI => (hI.drop 99).shrink hX5.old), ?_⟩
    refine WH.yd (i := 3) (by kernel_rfl) (fun _ o v c a w _ h => (QuietPanic.then QuietPanic.body) c o.dst v a w h) rfl (Yd.build SA128 rfl (build128b _)) rfl ?_
    refine WH.two (i := 4) (j := 5) (by kernel_rfl) ?_ ?_
    · refine WHo.so rfl (SO.alters (own := []) (hpc := [_]) (S1 := [b7]) (fun _ h => h) (fun h => h) (by simp) (by simp) (Enters.val Try.call97 rfl rfl) (fun w3 hI => on_top d best a1 n1 c1 a2 n2 c2 q b1 b4 b5 b7 hv D1 w3 hO hI)) rfl ?_
      rintro v13 D5 _ ⟨_, hX5, ⟨es5, clock5, rfl, _, hr5⟩, rfl⟩
      obtain ⟨a5, n5, k5, f5, rfl, _, _⟩ := hr5.split
      refine ⟨(by first | exact fun _ hI => hI.drop 99 | exact fun _ hI => (hI.drop 99).shrink hX5.old), ?_⟩
      refine WH.one (i := 5) (by kernel_rfl) (WHo.so rfl (SO.alloc Try.zeroValue130 rfl) rfl ?_)
      rintro _ _ _ ⟨b6, hb6, rfl, rfl, rfl⟩ -- NEW
      refine ⟨(by first | exact fun _ hI => hI.drop 99 | exact fun _ hI => (hI.drop 99).shrink hX5.old), ?_⟩
      refine WH.one (i := 6) (by kernel_rfl) (WHo.so rfl (SO.store 0 rfl Try.sizeOf130 rfl rfl rfl rfl (Nat.le_of_ble_eq_true rfl) (oneB_spec rfl)) rfl ?_)
      rintro _ _ _ ⟨rfl, rfl, rfl⟩
      refine ⟨(by first | exact fun _ hI => hI.drop 99 | exact fun _ hI => (hI.drop 99).shrink hX5.old), ?_⟩
      refine WH.nil (by kernel_rfl) ?_
      refine WP.thenC ?_
      refine WC.seq ?_
      refine WC.ofFr [(6, _), (3, _), (2, _)] ⟨rfl, rfl, rfl, trivial⟩ ?_
      refine WC.tail 5 [0, 1, 2, 3, 4] rfl (by kernel_rfl) (by kernel_rfl)  ?_
      refine WQ.q rfl (Yd.qt (Yd.fieldAddr FA130_0 rfl)) rfl ?_
      refine WQ.q rfl (Yd.qt (Yd.load1 Try.isAgg26 rfl (by first | exact Rd.own (k := 0) rfl rfl | exact Rd.own (k := 1) rfl rfl | exact (Rd.imm hO.c1 rfl) | exact (Rd.imm hO.c5 rfl)))) rfl ?_
      refine WQ.q rfl (Yd.qt (Yd.fieldAddr FA130_1 rfl)) rfl ?_
      refine WQ.q rfl (Yd.qt (Yd.load1 Try.isAgg4 rfl (by first | exact Rd.own (k := 0) rfl rfl | exact Rd.own (k := 1) rfl rfl | exact (Rd.imm hO.c1 rfl) | exact (Rd.imm hO.c5 rfl)))) rfl ?_
      refine WQ.q rfl (Yd.qt (Yd.assign rfl)) rfl ?_
      refine WQ.tail ?_
      refine WL.yd (Yd.assign rfl) rfl ?_
      refine WL.nil ?_
      refine WP.thenC ?_
      refine WC.ret ?_
      refine WP.ret2 rfl rfl Try.results68 (RV.tmp rfl) (RV.tmp rfl) (fun w1 hI => ⟨_, D5, rfl, hI.keep, hI.imm, hXa.trans hX5 (Nat.le_refl _), a5, n5, k5, f5, rfl, hr5⟩)
    · refine WHo.so rfl (SO.alloc Try.zeroValue130 rfl) rfl ?_
      rintro _ _ _ ⟨b6, hb6, rfl, rfl, rfl⟩ -- NEW
      refine ⟨(by first | exact fun _ hI => hI.drop 99 | exact fun _ hI => (hI.drop 99).shrink hX5.old), ?_⟩
      refine WH.one (i := 4) (by kernel_rfl) (WHo.so rfl (SO.alters (own := [_]) (hpc := [_]) (S1 := [b7]) (fun _ h => h) (fun h => h) (by simp) (by simp) (Enters.val Try.call97 rfl rfl) (fun w3 hI => on_top d best a1 n1 c1 a2 n2 c2 q b1 b4 b5 b7 hv D1 w3 hO hI)) rfl ?_)
      rintro v13 D5 _ ⟨_, hX5, ⟨es5, clock5, rfl, _, hr5⟩, rfl⟩
      obtain ⟨a5, n5, k5, f5, rfl, _, _⟩ := hr5.split
      refine ⟨(by first | exact fun _ hI => hI.drop 99 | exact fun _ hI => (hI.drop 99).shrink hX5.old), ?_⟩
      refine WH.one (i := 6) (by kernel_rfl) (WHo.so rfl (SO.store 0 rfl Try.sizeOf130 rfl rfl rfl rfl (Nat.le_of_ble_eq_true rfl) (oneB_spec rfl)) rfl ?_)
      rintro _ _ _ ⟨rfl, rfl, rfl⟩
      refine ⟨(by first | exact fun _ hI => hI.drop 99 | exact fun _ hI => (hI.drop 99).shrink hX5.old), ?_⟩
      refine WH.nil (by kernel_rfl) ?_
      refine WP.thenC ?_
      refine WC.seq ?_
      refine WC.ofFr [(6, _), (3, _), (2, _)] ⟨rfl, rfl, rfl, trivial⟩ ?_
      refine WC.tail 5 [0, 1, 2, 3, 4] rfl (by kernel_rfl) (by kernel_rfl)  ?_
      refine WQ.q rfl (Yd.qt (Yd.fieldAddr FA130_0 rfl)) rfl ?_
      refine WQ.q rfl (Yd.qt (Yd.load1 Try.isAgg26 rfl (by first | exact Rd.own (k := 0) rfl rfl | exact Rd.own (k := 1) rfl rfl | exact (Rd.imm hO.c1 rfl) | exact (Rd.imm hO.c5 rfl)))) rfl ?_
      refine WQ.q rfl (Yd.qt (Yd.fieldAddr FA130_1 rfl)) rfl ?_
      refine WQ.q rfl (Yd.qt (Yd.load1 Try.isAgg4 rfl (by first | exact Rd.own (k := 0) rfl rfl | exact Rd.own (k := 1) rfl rfl | exact (Rd.imm hO.c1 rfl) | exact (Rd.imm hO.c5 rfl)))) rfl ?_
      refine WQ.q rfl (Yd.qt (Yd.assign rfl)) rfl ?_
      refine WQ.tail ?_
      refine WL.yd (Yd.assign rfl) rfl ?_
      refine WL.nil ?_
      refine WP.thenC ?_
      refine WC.ret ?_
      refine WP.ret2 rfl rfl Try.results68 (RV.tmp rfl) (RV.tmp rfl) (fun w1 hI => ⟨_, D5, rfl, hI.keep, hI.imm, hXa.trans hX5 (Nat.le_refl _), a5, n5, k5, f5, rfl, hr5⟩)
  · refine WHo.so rfl (SO.alloc Try.zeroValue130 rfl) rfl ?_
    rintro _ _ _ ⟨b6, hb6, rfl, rfl, rfl⟩ -- NEW
    refine ⟨(by first | exact fun _ hI => hI.drop 99 | exact fun _ hI => (hI.drop 99).shrink hX5.old), ?_⟩
    refine WH.one (i := 2) (by kernel_rfl) (WHo.so rfl (SO.callP Try.call94 rfl (fun w hI => begin_g d best a1 n1 c1 a2 n2 c2 q D1 _ hO.beach hO.dips hI.imm hv)) rfl ?_)
    rintro _ _ _ ⟨rfl, rfl, rfl⟩
    refine ⟨(by first | exact fun _ hI => hI.drop 99 | exact fun _ hI => (hI.drop 99).shrink hX5.old), ?_⟩
    refine WH.yd (i := 3) (by kernel_rfl) (fun _ o v c a w _ h => (QuietPanic.then QuietPanic.body) c o.dst v a w h) rfl (Yd.build SA128 rfl (build128b _)) rfl ?_
    refine WH.one (i := 4) (by kernel_rfl) (WHo.so rfl (SO.alters (own := [_]) (hpc := [_]) (S1 := [b7]) (fun _ h => h) (fun h => h) (by simp) (by simp) (Enters.val Try.call97 rfl rfl) (fun w3 hI => on_top d best a1 n1 c1 a2 n2 c2 q b1 b4 b5 b7 hv D1 w3 hO hI)) rfl ?_)
    rintro v13 D5 _ ⟨_, hX5, ⟨es5, clock5, rfl, _, hr5⟩, rfl⟩
    obtain ⟨a5, n5, k5, f5, rfl, _, _⟩ := hr5.split
    refine ⟨(by first | exact fun _ hI => hI.drop 99 | exact fun _ hI => (hI.drop 99).shrink hX5.old), ?_⟩
    refine WH.one (i := 6) (by kernel_rfl) (WHo.so rfl (SO.store 0 rfl Try.sizeOf130 rfl rfl rfl rfl (Nat.le_of_ble_eq_true rfl) (oneB_spec rfl)) rfl ?_)
    rintro _ _ _ ⟨rfl, rfl, rfl⟩
    refine ⟨(by first | exact fun _ hI => hI.drop 99 | exact fun _ hI => (hI.drop 99).shrink hX5.old), ?_⟩
    refine WH.nil (by kernel_rfl) ?_
    refine WP.thenC ?_
    refine WC.seq ?_
    refine WC.ofFr [(6, _), (3, _), (2, _)] ⟨rfl, rfl, rfl, trivial⟩ ?_
    refine WC.tail 5 [0, 1, 2, 3, 4] rfl (by kernel_rfl) (by kernel_rfl)  ?_
    refine WQ.q rfl (Yd.qt (Yd.fieldAddr FA130_0 rfl)) rfl ?_
    refine WQ.q rfl (Yd.qt (Yd.load1 Try.isAgg26 rfl (by first | exact Rd.own (k := 0) rfl rfl | exact Rd.own (k := 1) rfl rfl | exact (Rd.imm hO.c1 rfl) | exact (Rd.imm hO.c5 rfl)))) rfl ?_
    refine WQ.q rfl (Yd.qt (Yd.fieldAddr FA130_1 rfl)) rfl ?_
    refine WQ.q rfl (Yd.qt (Yd.load1 Try.isAgg4 rfl (by first | exact Rd.own (k := 0) rfl rfl | exact Rd.own (k := 1) rfl rfl | exact (Rd.imm hO.c1 rfl) | exact (Rd.imm hO.c5 rfl)))) rfl ?_
    refine WQ.q rfl (Yd.qt (Yd.assign rfl)) rfl ?_
    refine WQ.tail ?_
    refine WL.yd (Yd.assign rfl) rfl ?_
    refine WL.nil ?_
    refine WP.thenC ?_
    refine WC.ret ?_
    refine WP.ret2 rfl rfl Try.results68 (RV.tmp rfl) (RV.tmp rfl) (fun w1 hI => ⟨_, D5, rfl, hI.keep, hI.imm, hXa.trans hX5 (Nat.le_refl _), a5, n5, k5, f5, rfl, hr5⟩)

set_option maxRecDepth 100000 in
set_option maxHeartbeats 1000000 in
theorem always_g (v : Value) (w : World) : Gives Try.prog 67 [v] w (.bool true) := by
  unfold Gives
  refine enter Try.func67 rfl 3 Try.ntmps67 (Nat.le_of_ble_eq_true rfl) (Inv.start (D := fun _ => none) (by intro _ _ h; cases h)) ?_
  refine WC.seq ?_
  refine WC.ofFr [] trivial ?_
  refine WC.region ?_
  refine WL.yd (Yd.assign rfl) rfl ?_
  refine WL.nil ?_
  refine WP.thenC ?_
  refine WC.seq ?_
  refine WC.ofFr [(2, _)] ⟨rfl, trivial⟩ ?_
  refine WC.region ?_
  refine WL.yd (Yd.assign rfl) rfl ?_
  refine WL.nil ?_
  refine WP.thenC ?_
  refine WC.ret ?_
  refine WP.ret1 rfl rfl Try.results67 (RV.tmp rfl) (fun w hI => ⟨rfl, hI.keep⟩)

set_option maxRecDepth 100000 in
set_option maxHeartbeats 1000000 in
theorem can_g (d : Dips) (best : Bool) (a1 : Option Addr) (n1 c1 : Nat) (a2 : Option Addr) (n2 c2 : Nat) (q : Nat) (D : Imm) (w : World) (hB : BeachAt D q d (.slice a1 n1 c1) (.slice a2 n2 c2) (truthV best)) (hR : DipsR D d a1 n1 a2 n2) (hH : Holds D w) (hv : dipsB d = true) : Gives Try.prog 71 [pt q] w (.bool (planP d best).isSome) := by
  unfold Gives
  refine enter Try.func71 rfl 11 Try.ntmps71 (Nat.le_of_ble_eq_true rfl) (Inv.start hH) ?_
  refine WC.seq ?_
  refine WC.ofFr [(0, _)] ⟨rfl, trivial⟩ ?_
  refine WC.region ?_
  refine WL.yd (Yd.assign rfl) rfl ?_
  refine WL.nil ?_
  refine WP.thenC ?_
  refine WC.seq ?_
  refine WC.ofFr [(2, _), (0, _)] ⟨rfl, rfl, trivial⟩ ?_
  refine WC.region ?_
  refine WL.yd (Yd.move rfl) rfl ?_
  refine WL.so (SO.makes (Enters.func Try.call68 rfl) (fun w hI => plan_g d best a1 n1 c1 a2 n2 c2 q D w hB hR hI.imm hv)) rfl ?_
  rintro _ D2 _ ⟨hX2, ⟨a5, n5, k5, f5, rfl, hr5⟩, rfl⟩
  have hf5 := hr5.isSome
  refine WL.yd (Yd.move rfl) rfl ?_
  refine WL.yd (Yd.extract rfl rfl) rfl ?_
  refine WL.yd (Yd.extract rfl rfl) rfl ?_
  refine WL.yd (Yd.assign rfl) rfl ?_
  refine WL.yd (Yd.assign rfl) rfl ?_
  refine WL.nil ?_
  refine WP.thenC ?_
  refine WC.seq ?_
  refine WC.ofFr [(4, _), (2, _)] ⟨rfl, rfl, trivial⟩ ?_
  refine WC.region ?_
  refine WL.yd (Yd.move rfl) rfl ?_
  refine WL.yd (Yd.assign rfl) rfl ?_
  refine WL.nil ?_
  refine WP.thenC ?_
  refine WC.ret ?_
  refine WP.ret1 rfl rfl Try.results71 (RV.tmp rfl) (fun w hI => ⟨by rw [hf5]; rfl, hI.keep⟩)

end Go.Proofs.Ytidjdonppfegiaa
namespace Go.Proofs.Ytidjdonppfegiaa
open Go.W Go.Dp

def PlanOut (d : Dips) : List Plc × Int := if dipsB d = false then ([], 1) else match planP d false with | none => ([], 4) | some l => (l, 0)
def HopeOut (d : Dips) : Int × Int := if dipsB d = false then (0, 1) else if (planP d false).isSome then (2, 0) else if (planP d true).isSome then (1, 0) else (0, 0)
theorem PlanR.ofBlock {D : Imm} {b : Nat} {t : TypeId} {fz : Nat × Nat} {l : List Plc} {rest : List Value} (hD : D b = some (.cells (l.flatMap placeC ++ rest).toArray t fz)) (n : Nat) (hn : n = l.length) (hl : n ≤ 1000) : PlanR D l (some ⟨b, 0, none⟩) n := by
  subst hn; exact ⟨SlL.ofBlock placeC_len hD, hl⟩
theorem PlanR.nil (D : Imm) : PlanR D [] none 0 := ⟨⟨rfl, fun i r hr => by simp at hr⟩, by omega⟩

set_option maxRecDepth 100000 in
set_option maxHeartbeats 1000000 in
theorem Plan_1 (d : Dips) (a1 : Option Addr) (n1 c1 : Nat) (a2 : Option Addr) (n2 c2 : Nat) (D : Imm) (w : World) (hR : DipsR D d a1 n1 a2 n2) (hH : Holds D w) (hv : dipsB d = false) : Makes Try.prog 22 [.agg #[it d.hours, .slice a1 n1 c1, .slice a2 n2 c2]] w D (fun v D' => ∃ a n c, v = .tuple #[.slice a n c, it (PlanOut d).2] ∧ PlanR D' (PlanOut d).1 a n) := by
  unfold Makes
  obtain rfl := hR.dip.len'
  obtain rfl := hR.bath.len'
  have hl1 := hR.len1
  have hl2 := hR.len2
  refine enterD Try.func22 rfl 23 Try.ntmps22 (Nat.le_of_ble_eq_true rfl) (Inv.start hH) ?_
  refine WC.seq ?_
  refine WC.ofFr [(0, _)] ⟨rfl, trivial⟩ ?_
  refine WC.region ?_
  refine WL.so (SO.box rfl rfl) rfl ?_
  rintro _ _ _ ⟨b1, hb1, rfl, rfl, rfl⟩ -- NEW
  refine WL.yd (Yd.assign rfl) rfl ?_
  refine WL.so (SO.alloc Try.zeroValue29 rfl) rfl ?_
  rintro _ _ _ ⟨b3, hb3, rfl, rfl, rfl⟩ -- NEW
  refine WL.nil ?_
  refine WP.thenC ?_
  refine WC.seq ?_
  refine WC.ofFr [(3, _), (2, _), (1, _)] ⟨rfl, rfl, rfl, trivial⟩ ?_
  refine WC.region ?_
  refine WL.yd (Yd.func rfl rfl) rfl ?_
  refine WL.defer rfl ?_
  refine WL.nil ?_
  refine WP.thenC ?_
  refine WC.seq ?_
  refine WC.ofFr [(3, _), (2, _), (1, _)] ⟨rfl, rfl, rfl, trivial⟩ ?_
  refine WC.region ?_
  refine WL.yd (Yd.loadN Try.isAgg25 Try.sizeOf25 rfl (vs := [_, _, _]) rfl (by first | exact RdN.own (k := 0) (n := 3) rfl rfl | exact RdN.own (k := 1) (n := 3) rfl rfl)) rfl ?_
  refine WL.no (SO.fail (Enters.func Try.call49 rfl) (fun w hI => open_1 d a1 _ c1 a2 _ c2 _ _ hR hI.imm 67 [] Try.call67 hv) ?_)
  refine WP.thenPanic ?_
  refine WP.panicD (k := 0) [_, _] [_, _] rfl Try.call66 rfl (fun w hI => catch66 _ _ _ _ _ (hI.own _ _ (List.mem_of_getElem? (i := 0) rfl))) Try.results22 ⟨(RV.tmp rfl), (RV.cell1 Try.isAgg29 rfl (by first | exact Rd.own (k := 0) rfl rfl | exact Rd.own (k := 1) rfl rfl)), trivial⟩ (fun w1 hI => ⟨_, D, rfl, hI.keep, hI.imm, DExt.refl _ _, none, 0, 0, by simp [PlanOut, hv, retV], by rw [show (PlanOut d).1 = [] by simp [PlanOut, hv]]; exact PlanR.nil _⟩)

set_option maxRecDepth 100000 in
set_option maxHeartbeats 1000000 in
theorem Plan_ok (d : Dips) (a1 : Option Addr) (n1 c1 : Nat) (a2 : Option Addr) (n2 c2 : Nat) (D : Imm) (w : World) (hR : DipsR D d a1 n1 a2 n2) (hH : Holds D w) (hv : dipsB d = true) : Makes Try.prog 22 [.agg #[it d.hours, .slice a1 n1 c1, .slice a2 n2 c2]] w D (fun v D' => ∃ a n c, v = .tuple #[.slice a n c, it (PlanOut d).2] ∧ PlanR D' (PlanOut d).1 a n) := by
  unfold Makes
  obtain rfl := hR.dip.len'
  obtain rfl := hR.bath.len'
  have hl1 := hR.len1
  have hl2 := hR.len2
  refine enterD Try.func22 rfl 23 Try.ntmps22 (Nat.le_of_ble_eq_true rfl) (Inv.start hH) ?_
  refine WC.seq ?_
  refine WC.ofFr [(0, _)] ⟨rfl, trivial⟩ ?_
  refine WC.region ?_
  refine WL.so (SO.box rfl rfl) rfl ?_
  rintro _ _ _ ⟨b1, hb1, rfl, rfl, rfl⟩ -- NEW
  refine WL.yd (Yd.assign rfl) rfl ?_
  refine WL.so (SO.alloc Try.zeroValue29 rfl) rfl ?_
  rintro _ _ _ ⟨b3, hb3, rfl, rfl, rfl⟩ -- NEW
  refine WL.nil ?_
  refine WP.thenC ?_
  refine WC.seq ?_
  refine WC.ofFr [(3, _), (2, _), (1, _)] ⟨rfl, rfl, rfl, trivial⟩ ?_
  refine WC.region ?_
  refine WL.yd (Yd.func rfl rfl) rfl ?_
  refine WL.defer rfl ?_
  refine WL.nil ?_
  refine WP.thenC ?_
  refine WC.seq ?_
  refine WC.ofFr [(3, _), (2, _), (1, _)] ⟨rfl, rfl, rfl, trivial⟩ ?_
  refine WC.region ?_
  refine WL.yd (Yd.loadN Try.isAgg25 Try.sizeOf25 rfl (vs := [_, _, _]) rfl (by first | exact RdN.own (k := 0) (n := 3) rfl rfl | exact RdN.own (k := 1) (n := 3) rfl rfl)) rfl ?_
  refine WL.so (SO.makes (Enters.func Try.call49 rfl) (fun w hI => open_ok d a1 _ c1 a2 _ c2 _ _ hR hI.imm 67 [] Try.call67 hv rfl (fun D1 w1 b hx hh hb => always_g _ _))) rfl ?_
  rintro _ D2 _ ⟨hX2, ⟨bq, rfl, hB⟩, rfl⟩
  have hR2 := hR.ext hX2
  refine WL.so (SO.makes (Enters.func Try.call68 rfl) (fun w hI => plan_g d false a1 _ c1 a2 _ c2 bq D2 w hB hR2 hI.imm hv)) rfl ?_
  rintro _ D5 _ ⟨hX5, ⟨a5, n5, k5, f5, rfl, hr5⟩, rfl⟩
  have hX25 := hX2.trans hX5 (Nat.le_refl _)
  refine WL.yd (Yd.move rfl) rfl ?_
  refine WL.yd (Yd.extract rfl rfl) rfl ?_
  refine WL.yd (Yd.extract rfl rfl) rfl ?_
  refine WL.yd (Yd.assign rfl) rfl ?_
  refine WL.yd (Yd.assign rfl) rfl ?_
  refine WL.nil ?_
  refine WP.thenC ?_
  refine WC.seq ?_
  refine WC.ofFr [(5, _), (4, _), (3, _), (2, _)] ⟨rfl, rfl, rfl, rfl, trivial⟩ ?_
  refine WC.region ?_
  refine WL.yd (Yd.move rfl) rfl ?_
  refine WL.part 14 rfl (fun g14 => ?_) (fun g14 => ?_)
  · try simp only [zq1, zq2, zq3, zq4, zq5, zq6, zq7, zq8] at g14
    obtain ⟨l5, hl5, hP5, h05⟩ := RestV.yes (f := f5) hr5 g14
    have hn5 := hP5.pl.len'
    have hn5b := hP5.len
    have hO : PlanOut d = (l5, 0) := by simp [PlanOut, hv, hl5]
    refine WL.so (SO.call (Enters.func Try.call52 rfl) (fun w hI => must_ok _ _)) rfl ?_
    rintro _ _ _ ⟨rfl, rfl, rfl⟩
    refine WL.nil ?_
    refine WP.thenC ?_
    refine WC.seq ?_
    refine WC.ofFr [(4, _), (3, _), (2, _)] ⟨rfl, rfl, rfl, trivial⟩ ?_
    refine WC.region ?_
    refine WL.yd (Yd.move rfl) rfl ?_
    refine WL.yd (Yd.lenS rfl Try.underlying26 rfl) rfl ?_
    refine WL.so (SO.makeSlice Try.underlying26 Try.sizeOf61 Try.typeInfo61 Try.zeroValue61 rfl rfl rfl (by omega) (by show (16 : Int) * _ ≤ _; omega)) rfl ?_
    rintro _ _ _ ⟨b18, hb18, rfl, rfl, rfl⟩ -- NEW
    refine WL.yd (Yd.assign rfl) rfl ?_
    refine WL.nil ?_
    refine WP.thenC ?_
    refine WC.seq ?_
    refine WC.ofFr [(6, _), (4, _), (3, _), (2, _)] ⟨rfl, rfl, rfl, rfl, trivial⟩ ?_
    refine WC.region ?_
    refine WL.yd (Yd.move rfl) rfl ?_
    refine WL.yd (Yd.move rfl) rfl ?_
    refine WL.so (SO.copy (k := 0) rfl Try.underlying26 Try.sizeOf61 rfl rfl rfl (hP5.pl.rdS placeC_len h05) (placeC_one _) (by rw [zeroL_len, flat_len placeC_len, hn5]; exact Nat.le_refl _)) rfl ?_
    rintro _ _ _ ⟨rfl, rfl⟩
    refine WL.nil ?_
    refine WP.thenC ?_
    refine WC.seq ?_
    refine WC.ofFr [(6, _), (3, _), (2, _)] ⟨rfl, rfl, rfl, trivial⟩ ?_
    refine WC.region ?_
    refine WL.yd (Yd.move rfl) rfl ?_
    refine WL.yd (Yd.assign rfl) rfl ?_
    refine WL.so (SO.store 1 rfl Try.sizeOf29 rfl rfl rfl rfl (Nat.le_of_ble_eq_true rfl) (oneB_spec rfl)) rfl ?_
    rintro _ _ _ ⟨rfl, rfl, rfl⟩
    refine WL.nil ?_
    refine WP.thenC ?_
    refine WC.ret ?_
    refine WP.endD [_, _] [_, _] rfl rfl Try.call66 (fun w hI => idle66 _ _) Try.results22 ⟨(RV.tmp rfl), (RV.cell1 Try.isAgg29 rfl (by first | exact Rd.own (k := 0) rfl rfl | exact Rd.own (k := 1) rfl rfl | exact Rd.own (k := 2) rfl rfl)), trivial⟩ (fun w1 hI => ⟨_, _, rfl, hI.keep, hI.freeze.imm, hX25.add (hI.apart _ _ (List.mem_of_getElem? (i := 0) rfl)) hb18, _, _, _, by rw [hO]; rfl, by rw [hO]; exact PlanR.ofBlock (Imm.add_self _ _ _) _ hn5 (by omega)⟩)
  · try simp only [zq1, zq2, zq3, zq4, zq5, zq6, zq7, zq8] at g14
    have hO : PlanOut d = ([], 4) := by simp [PlanOut, hv, RestV.no (f := f5) hr5 g14]
    refine WL.no (SO.fail (Enters.func Try.call52 rfl) (fun w hI => must_no _ _) ?_)
    refine WP.thenPanic ?_
    refine WP.panicD (k := 0) [_, _] [_, _] rfl Try.call66 rfl (fun w hI => catch66 _ _ _ _ _ (hI.own _ _ (List.mem_of_getElem? (i := 0) rfl))) Try.results22 ⟨(RV.tmp rfl), (RV.cell1 Try.isAgg29 rfl (by first | exact Rd.own (k := 0) rfl rfl | exact Rd.own (k := 1) rfl rfl)), trivial⟩ (fun w1 hI => ⟨_, D5, rfl, hI.keep, hI.imm, hX25, none, 0, 0, by rw [hO]; rfl, by rw [hO]; exact PlanR.nil _⟩)

set_option maxRecDepth 100000 in
set_option maxHeartbeats 1000000 in
theorem Hope_1 (d : Dips) (a1 : Option Addr) (n1 c1 : Nat) (a2 : Option Addr) (n2 c2 : Nat) (D : Imm) (w : World) (hR : DipsR D d a1 n1 a2 n2) (hH : Holds D w) (hv : dipsB d = false) : Gives Try.prog 24 [.agg #[it d.hours, .slice a1 n1 c1, .slice a2 n2 c2]] w (.tuple #[it (HopeOut d).1, it (HopeOut d).2]) := by
  unfold Gives
  obtain rfl := hR.dip.len'
  obtain rfl := hR.bath.len'
  have hl1 := hR.len1
  have hl2 := hR.len2
  refine enterD Try.func24 rfl 19 Try.ntmps24 (Nat.le_of_ble_eq_true rfl) (Inv.start hH) ?_
  refine WC.seq ?_
  refine WC.ofFr [(0, _)] ⟨rfl, trivial⟩ ?_
  refine WC.region ?_
  refine WL.so (SO.box rfl rfl) rfl ?_
  rintro _ _ _ ⟨b1, hb1, rfl, rfl, rfl⟩ -- NEW
  refine WL.yd (Yd.assign rfl) rfl ?_
  refine WL.so (SO.alloc Try.zeroValue29 rfl) rfl ?_
  rintro _ _ _ ⟨b3, hb3, rfl, rfl, rfl⟩ -- NEW
  refine WL.nil ?_
  refine WP.thenC ?_
  refine WC.seq ?_
  refine WC.ofFr [(3, _), (2, _), (1, _)] ⟨rfl, rfl, rfl, trivial⟩ ?_
  refine WC.region ?_
  refine WL.yd (Yd.func rfl rfl) rfl ?_
  refine WL.defer rfl ?_
  refine WL.nil ?_
  refine WP.thenC ?_
  refine WC.seq ?_
  refine WC.ofFr [(3, _), (2, _), (1, _)] ⟨rfl, rfl, rfl, trivial⟩ ?_
  refine WC.region ?_
  refine WL.yd (Yd.loadN Try.isAgg25 Try.sizeOf25 rfl (vs := [_, _, _]) rfl (by first | exact RdN.own (k := 0) (n := 3) rfl rfl | exact RdN.own (k := 1) (n := 3) rfl rfl | exact (RdN.imm (n := 4) hB rfl))) rfl ?_
  refine WL.no (SO.fail (Enters.func Try.call49 rfl) (fun w hI => open_1 d a1 _ c1 a2 _ c2 _ _ hR hI.imm 67 [] Try.call67 hv) ?_)
  refine WP.thenPanic ?_
  refine WP.panicD (k := 0) [_, _] [_, _] rfl Try.call70 rfl (fun w hI => catch70 _ _ _ _ _ (hI.own _ _ (List.mem_of_getElem? (i := 0) rfl))) Try.results24 ⟨(RV.tmp rfl), (RV.cell1 Try.isAgg29 rfl (by first | exact Rd.own (k := 0) rfl rfl | exact Rd.own (k := 1) rfl rfl)), trivial⟩ (fun w hI => ⟨congrArg Ending.returned (by simp [HopeOut, hv, retV]), hI.keep⟩)

set_option maxRecDepth 100000 in
set_option maxHeartbeats 1000000 in
theorem Hope_ok (d : Dips) (a1 : Option Addr) (n1 c1 : Nat) (a2 : Option Addr) (n2 c2 : Nat) (D : Imm) (w : World) (hR : DipsR D d a1 n1 a2 n2) (hH : Holds D w) (hv : dipsB d = true) : Gives Try.prog 24 [.agg #[it d.hours, .slice a1 n1 c1, .slice a2 n2 c2]] w (.tuple #[it (HopeOut d).1, it (HopeOut d).2]) := by
  unfold Gives
  obtain rfl := hR.dip.len'
  obtain rfl := hR.bath.len'
  have hl1 := hR.len1
  have hl2 := hR.len2
  refine enterD Try.func24 rfl 19 Try.ntmps24 (Nat.le_of_ble_eq_true rfl) (Inv.start hH) ?_
  refine WC.seq ?_
  refine WC.ofFr [(0, _)] ⟨rfl, trivial⟩ ?_
  refine WC.region ?_
  refine WL.so (SO.box rfl rfl) rfl ?_
  rintro _ _ _ ⟨b1, hb1, rfl, rfl, rfl⟩ -- NEW
  refine WL.yd (Yd.assign rfl) rfl ?_
  refine WL.so (SO.alloc Try.zeroValue29 rfl) rfl ?_
  rintro _ _ _ ⟨b3, hb3, rfl, rfl, rfl⟩ -- NEW
  refine WL.nil ?_
  refine WP.thenC ?_
  refine WC.seq ?_
  refine WC.ofFr [(3, _), (2, _), (1, _)] ⟨rfl, rfl, rfl, trivial⟩ ?_
  refine WC.region ?_
  refine WL.yd (Yd.func rfl rfl) rfl ?_
  refine WL.defer rfl ?_
  refine WL.nil ?_
  refine WP.thenC ?_
  refine WC.seq ?_
  refine WC.ofFr [(3, _), (2, _), (1, _)] ⟨rfl, rfl, rfl, trivial⟩ ?_
  refine WC.region ?_
  refine WL.yd (Yd.loadN Try.isAgg25 Try.sizeOf25 rfl (vs := [_, _, _]) rfl (by first | exact RdN.own (k := 0) (n := 3) rfl rfl | exact RdN.own (k := 1) (n := 3) rfl rfl | exact (RdN.imm (n := 4) hB rfl))) rfl ?_
  refine WL.so (SO.makes (Enters.func Try.call49 rfl) (fun w hI => open_ok d a1 _ c1 a2 _ c2 _ _ hR hI.imm 67 [] Try.call67 hv rfl (fun D1 w1 b hx hh hb => always_g _ _))) rfl ?_
  rintro _ D2 _ ⟨hX2, ⟨bq, rfl, hB⟩, rfl⟩
  have hR2 := hR.ext hX2
  refine WL.yd (Yd.assign rfl) rfl ?_
  refine WL.nil ?_
  refine WP.thenC ?_
  refine WC.seq ?_
  refine WC.block ?_
  refine WC.seq ?_
  refine WC.ofFr [(4, _), (3, _), (2, _)] ⟨rfl, rfl, rfl, trivial⟩ ?_
  refine WC.region ?_
  refine WL.yd (Yd.move rfl) rfl ?_
  refine WL.so (SO.callP Try.call71 rfl (fun w hI => can_g d false a1 _ c1 a2 _ c2 bq D2 w hB hR2 hI.imm hv)) rfl ?_
  rintro _ _ _ ⟨rfl, rfl, rfl⟩
  refine WL.yd (Yd.assign rfl) rfl ?_
  refine WL.nil ?_
  refine WP.thenC ?_
  refine WC.cond rfl (fun c8 => ?_) (fun c8 => ?_)
  · try simp only [zq1, zq2, zq3, zq4, zq5, zq6, zq7, zq8] at c8
    refine WC.seq ?_
    refine WC.ofFr [(3, _), (2, _)] ⟨rfl, rfl, trivial⟩ ?_
    refine WC.region ?_
    refine WL.yd (Yd.assign rfl) rfl ?_
    refine WL.so (SO.store 0 rfl Try.sizeOf29 rfl rfl rfl rfl (Nat.le_of_ble_eq_true rfl) (oneB_spec rfl)) rfl ?_
    rintro _ _ _ ⟨rfl, rfl, rfl⟩
    refine WL.nil ?_
    refine WP.thenC ?_
    refine WC.ret ?_
    refine WP.blkRet ?_
    refine WP.thenRet ?_
    refine WP.endD [_, _] [_, _] rfl rfl Try.call70 (fun w hI => idle70 _ _) Try.results24 ⟨(RV.tmp rfl), (RV.cell1 Try.isAgg29 rfl (by first | exact Rd.own (k := 0) rfl rfl | exact Rd.own (k := 1) rfl rfl)), trivial⟩ (fun w hI => ⟨congrArg Ending.returned (by simp_all [HopeOut, retV]), hI.keep⟩)
  · try simp only [zq1, zq2, zq3, zq4, zq5, zq6, zq7, zq8] at c8
    refine WC.seq ?_
    refine WC.ofFr [(4, _), (3, _), (2, _)] ⟨rfl, rfl, rfl, trivial⟩ ?_
    refine WC.region ?_
    refine WL.yd (Yd.move rfl) rfl ?_
    refine WL.yd (Yd.nilCheck rfl) rfl ?_
    refine WL.yd (Yd.loadN Try.isAgg89 Try.sizeOf89 rfl (vs := [_, _, _, _]) rfl (by first | exact RdN.own (k := 0) (n := 4) rfl rfl | exact RdN.own (k := 1) (n := 4) rfl rfl | exact (RdN.imm (n := 4) hB rfl))) rfl ?_
    refine WL.yd (Yd.build SA84 rfl (cs := []) rfl) rfl ?_
    refine WL.yd (Yd.iface Try.underlying84 (by intro _ h; cases h) rfl) rfl ?_
    refine WL.so (SO.makes (Enters.func Try.call56 rfl) (fun w hI => in_g2 _ _ _ _ _ _ _ _ hI.imm)) rfl ?_
    rintro _ D3 _ ⟨hX3, ⟨bq2, rfl, hB2⟩, rfl⟩
    have hR3 := hR2.ext hX3
    refine WL.so (SO.callP Try.call71 rfl (fun w hI => can_g d true a1 _ c1 a2 _ c2 bq2 D3 w hB2 hR3 hI.imm hv)) rfl ?_
    rintro _ _ _ ⟨rfl, rfl, rfl⟩
    refine WL.yd (Yd.assign rfl) rfl ?_
    refine WL.nil ?_
    refine WP.thenC ?_
    refine WC.cond rfl (fun c11 => ?_) (fun c11 => ?_)
    · try simp only [zq1, zq2, zq3, zq4, zq5, zq6, zq7, zq8] at c11
      refine WC.seq ?_
      refine WC.ofFr [(3, _), (2, _)] ⟨rfl, rfl, trivial⟩ ?_
      refine WC.region ?_
      refine WL.yd (Yd.assign rfl) rfl ?_
      refine WL.so (SO.store 0 rfl Try.sizeOf29 rfl rfl rfl rfl (Nat.le_of_ble_eq_true rfl) (oneB_spec rfl)) rfl ?_
      rintro _ _ _ ⟨rfl, rfl, rfl⟩
      refine WL.nil ?_
      refine WP.thenC ?_
      refine WC.ret ?_
      refine WP.blkRet ?_
      refine WP.thenRet ?_
      refine WP.endD [_, _] [_, _] rfl rfl Try.call70 (fun w hI => idle70 _ _) Try.results24 ⟨(RV.tmp rfl), (RV.cell1 Try.isAgg29 rfl (by first | exact Rd.own (k := 0) rfl rfl | exact Rd.own (k := 1) rfl rfl)), trivial⟩ (fun w hI => ⟨congrArg Ending.returned (by simp_all [HopeOut, retV]), hI.keep⟩)
    · try simp only [zq1, zq2, zq3, zq4, zq5, zq6, zq7, zq8] at c11
      refine WC.skip ?_
      refine WP.blkNormal ?_
      refine WP.thenC ?_
      refine WC.seq ?_
      refine WC.ofFr [(3, _), (2, _)] ⟨rfl, rfl, trivial⟩ ?_
      refine WC.region ?_
      refine WL.yd (Yd.assign rfl) rfl ?_
      refine WL.so (SO.store 0 rfl Try.sizeOf29 rfl rfl rfl rfl (Nat.le_of_ble_eq_true rfl) (oneB_spec rfl)) rfl ?_
      rintro _ _ _ ⟨rfl, rfl, rfl⟩
      refine WL.nil ?_
      refine WP.thenC ?_
      refine WC.ret ?_
      refine WP.endD [_, _] [_, _] rfl rfl Try.call70 (fun w hI => idle70 _ _) Try.results24 ⟨(RV.tmp rfl), (RV.cell1 Try.isAgg29 rfl (by first | exact Rd.own (k := 0) rfl rfl | exact Rd.own (k := 1) rfl rfl)), trivial⟩ (fun w hI => ⟨congrArg Ending.returned (by simp_all [HopeOut, retV]), hI.keep⟩)

end Go.Proofs.Ytidjdonppfegiaa
