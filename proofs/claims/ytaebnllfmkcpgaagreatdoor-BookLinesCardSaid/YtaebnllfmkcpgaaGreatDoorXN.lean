import Derived.Test.YtaebnllfmkcpgaaGreatDoorXM
set_option linter.unusedSimpArgs false
set_option linter.unusedVariables false
set_option linter.all false
set_option maxRecDepth 100000
set_option maxHeartbeats 1000000
namespace Go.Proofs.YtaebnllfmkcpgaaGreatDoor
open Go.W Go.Bk

def Sp64 (x : Sp) : Prop := i64B x.lo ∧ i64B x.hi
theorem sp64 {x : Sp} (h : Sp100 x) : Sp64 x := ⟨i100 h.1, i100 h.2⟩
theorem spanT_le {x : Sp} (h : Sp64 x) : (spanT x).length ≤ 42 := by
  have := num_le h.1; have := num_le h.2
  unfold spanT; split <;> simp <;> omega
structure SurfN (s : Surf) : Prop where
  rows : i64B s.rows
  step : i64B s.step
  nw : s.water.length ≤ 50
  nv : s.waves.length ≤ 50
  nh : s.huts.length ≤ 50
  w : ∀ x ∈ s.water, Sp64 x
  v : ∀ x ∈ s.waves, Sp64 x
  h : ∀ x ∈ s.huts, i64B x.floor ∧ i64B x.brake ∧ i64B x.row
theorem SurfN.of {s : Surf} (h : SurfOk s) : SurfN s :=
  ⟨by have := h.rows; exact ⟨by omega, by omega⟩, by have := h.step; exact ⟨by omega, by omega⟩, by have := h.nwater; omega, by have := h.nwater; have := h.same; omega, by have := h.nhuts; omega,
    fun x hx => sp64 (h.w100 x hx), fun x hx => sp64 (h.v100 x hx), fun x hx => ⟨i100 (h.h100 x hx).1, i100 (h.h100 x hx).2.1, i100 (h.h100 x hx).2.2⟩⟩
theorem SurfN.zero : SurfN surfZ := ⟨⟨by decide, by decide⟩, ⟨by decide, by decide⟩, by decide, by decide, by decide, by simp [surfZ], by simp [surfZ], by simp [surfZ]⟩
theorem rnum_g (n : Int) (hn : i64B n) (D : Imm) (hL : LibD D) (w : World) (hH : Holds D w) : Gives Tryz.prog 96 [it n] w (st (num n)) := by
  unfold Gives
  refine enter Tryz.func96 rfl 5 Tryz.ntmps96 (zqb rfl) (Inv.start hH) ?_
  refine WC.seq (WC.ofFr [(0, _)] ⟨rfl, trivial⟩ (WC.region ?_))
  refine zya rfl rfl ?_
  refine WL.nil (WP.thenC (WC.seq (WC.ofFr [(2, _), (0, _)] ⟨rfl, rfl, trivial⟩ (WC.region ?_))))
  refine zym rfl rfl ?_
  refine WL.so (SO.callP Tryz.call140 rfl (fun w hI => itoa_g n hn D hL _ hI.imm)) rfl ?_
  rintro _ _ _ ⟨rfl, rfl, rfl⟩
  refine zya rfl rfl ?_
  refine WL.nil (WP.thenC (WC.ret ?_))
  refine WP.ret1 rfl rfl Tryz.results96 (RV.tmp rfl) (fun w hI => ⟨rfl, hI.keep⟩)

theorem rspan_g (x : Sp) (hx : Sp64 x) (D : Imm) (hL : LibD D) (w : World) (hH : Holds D w) : Gives Tryz.prog 112 [.agg #[it x.lo, it x.hi]] w (st (spanT x)) := by
  unfold Gives
  refine enter Tryz.func112 rfl 19 Tryz.ntmps112 (zqb rfl) (Inv.start hH) ?_
  refine WC.seq (WC.ofFr [(0, _)] ⟨rfl, trivial⟩ (WC.region ?_))
  refine WL.so (SO.box rfl rfl) rfl ?_
  rintro _ _ _ ⟨b1, hb1, rfl, rfl, rfl⟩
  refine zya rfl rfl ?_
  refine WL.nil (WP.thenC (WC.seq (WC.seq (WC.ofFr [(2, _), (1, _)] ⟨rfl, rfl, trivial⟩ (WC.region ?_)))))
  refine WL.yd (Yd.fieldAddr FA114_0 rfl) rfl ?_
  refine WL.yd (Yd.load1 Tryz.isAgg3 rfl (by first | exact ro0 rfl rfl)) rfl ?_
  refine WL.yd (Yd.fieldAddr FA114_1 rfl) rfl ?_
  refine WL.yd (Yd.load1 Tryz.isAgg3 rfl (by first | exact ro0 rfl rfl)) rfl ?_
  refine WL.yd (Yd.eql rfl rfl) rfl ?_
  refine WL.nil (WP.thenC ?_)
  refine WC.cond rfl (fun c7 => ?_) (fun c7 => ?_)
  · try simp only [zq1, zq2, zq3, zq4, zq5, zq6, zq7, zq8] at c7
    refine WC.seq (WC.ofFr [(2, _), (1, _)] ⟨rfl, rfl, trivial⟩ (WC.region ?_))
    refine WL.yd (Yd.fieldAddr FA114_0 rfl) rfl ?_
    refine WL.yd (Yd.load1 Tryz.isAgg3 rfl (by first | exact ro0 rfl rfl)) rfl ?_
    refine WL.so (SO.callP Tryz.call96 rfl (fun w hI => rnum_g x.lo hx.1 D hL _ hI.imm)) rfl ?_
    rintro _ _ _ ⟨rfl, rfl, rfl⟩
    refine zya rfl rfl ?_
    refine WL.nil (WP.thenC (WC.ret (WP.thenRet ?_)))
    refine WP.ret1 rfl rfl Tryz.results112 (RV.tmp rfl) (fun w hI => ⟨by unfold spanT; rw [if_pos c7], hI.keep⟩)
  · try simp only [zq1, zq2, zq3, zq4, zq5, zq6, zq7, zq8] at c7
    refine WC.skip (WP.thenC (WC.seq (WC.ofFr [(2, _), (1, _)] ⟨rfl, rfl, trivial⟩ ?_)))
    refine WC.tail 7 [0, 1, 2, 3, 4, 5, 6] rfl (by kernel_rfl) (by kernel_rfl)  ?_
    refine WQ.q rfl (Yd.qt (Yd.fieldAddr FA114_0 rfl)) rfl ?_
    refine WQ.q rfl (Yd.qt (Yd.load1 Tryz.isAgg3 rfl (by first | exact ro0 rfl rfl))) rfl ?_
    refine WQ.q rfl (Qt.callP Tryz.call96 rfl (fun w hI => rnum_g x.lo hx.1 D hL _ hI.imm)) rfl ?_
    refine WQ.q rfl (Yd.qt (Yd.addS rfl rfl (by have := num_le hx.1; have := num_le hx.2; simp; omega))) rfl ?_
    refine WQ.q rfl (Yd.qt (Yd.fieldAddr FA114_1 rfl)) rfl ?_
    refine WQ.q rfl (Yd.qt (Yd.load1 Tryz.isAgg3 rfl (by first | exact ro0 rfl rfl))) rfl ?_
    refine WQ.q rfl (Qt.callP Tryz.call96 rfl (fun w hI => rnum_g x.hi hx.2 D hL _ hI.imm)) rfl ?_
    refine WQ.tail ?_
    refine WL.yd (Yd.addS rfl rfl (by have := num_le hx.1; have := num_le hx.2; simp; omega)) rfl ?_
    refine zya rfl rfl ?_
    refine WL.nil (WP.thenC (WC.ret ?_))
    refine WP.ret1 rfl rfl Tryz.results112 (RV.tmp rfl) (fun w hI => ⟨by unfold spanT; rw [if_neg c7]; simp, hI.keep⟩)

end Go.Proofs.YtaebnllfmkcpgaaGreatDoor
namespace Go.Proofs.YtaebnllfmkcpgaaGreatDoor
open Go.W Go.Bk

structure FlagN (f : Flag) : Prop where
  low : i64B f.low
  high : i64B f.high
  quiet : i64B f.quiet
  nh : f.hours.length ≤ 50
  ns : f.seen.length ≤ 50
  h : ∀ x ∈ f.hours, Sp64 x.wind
  s : ∀ x ∈ f.seen, i64B x.hour
theorem FlagN.of {f : Flag} (h : FlagOk f) : FlagN f :=
  ⟨i100 h.n100.1, i100 h.n100.2.1, i100 h.n100.2.2, by have := h.nhours; omega, by have := h.nseen; omega, fun x hx => sp64 (h.h100 x hx), fun x hx => i100 (h.s100 x hx)⟩
theorem FlagN.zero : FlagN flagZ := ⟨⟨by decide, by decide⟩, ⟨by decide, by decide⟩, ⟨by decide, by decide⟩, by decide, by decide, by simp [flagZ], by simp [flagZ]⟩
structure BoatsN (b : Boats) : Prop where
  wide : i64B b.wide
  deep : i64B b.deep
  speed : i64B b.speed
  last : i64B b.last
  n : b.seen.length ≤ 50
  nr : ∀ l ∈ b.seen, l.length ≤ 50
  s : ∀ l ∈ b.seen, ∀ s ∈ l, i64B s.minute ∧ Sp64 s.cols ∧ Sp64 s.rows
theorem BoatsN.of {b : Boats} (h : BoatsOk b) : BoatsN b :=
  ⟨i100 h.n100.1, i100 h.n100.2.1, i100 h.n100.2.2.1, i100 h.n100.2.2.2, by have := h.n; omega, fun l hl => by have := (h.rows l hl).1; omega, fun l hl s hs => ⟨i100 (h.s100 l hl s hs).1, sp64 (h.s100 l hl s hs).2.1, sp64 (h.s100 l hl s hs).2.2⟩⟩
theorem BoatsN.zero : BoatsN boatsZ := ⟨⟨by decide, by decide⟩, ⟨by decide, by decide⟩, ⟨by decide, by decide⟩, ⟨by decide, by decide⟩, by decide, by simp [boatsZ], by simp [boatsZ]⟩
theorem bseenT_le {s : BSeen} (h : i64B s.minute ∧ Sp64 s.cols ∧ Sp64 s.rows) : (32 :: bseenT s).length ≤ 110 := by
  have := num_le h.1; have := spanT_le h.2.1; have := spanT_le h.2.2
  simp [bseenT]; omega
theorem rowN_len {b : Boats} (h : BoatsN b) : ∀ l ∈ b.seen, (behind boatW bseenT l ++ [10]).length ≤ 5600 := fun l hl => by
  have h1 := fm_len (l := l) (f := fun s => 32 :: bseenT s) (c := 110) fun s hs => bseenT_le (h.s l hl s hs)
  have h2 : l.length * 110 ≤ 50 * 110 := Nat.mul_le_mul_right 110 (h.nr l hl)
  simp only [behind, boatW, List.length_append, List.length_cons, List.length_nil]; omega
theorem bN1_len {b : Boats} (h : BoatsN b) (k : Nat) : (bT1 b k).length ≤ 300000 := by
  have h1 := fm_le (f := fun l => behind boatW bseenT l ++ [10]) (c := 5600) (rowN_len h) h.n k
  have := num_le h.wide; have := num_le h.deep; have := num_le h.speed; have := num_le h.last
  simp only [bT1, boats0, boatsW, List.length_append, List.length_cons, List.length_nil]; omega
theorem bN2_len {b : Boats} (h : BoatsN b) {k : Nat} (hk : k < b.seen.length) (j : Nat) : (bT2 b k j).length ≤ 320000 := by
  have h1 := fm_le (f := fun s => 32 :: bseenT s) (c := 110) (fun s hs => bseenT_le (h.s _ (gtB_mem hk) s hs)) (h.nr _ (gtB_mem hk)) j
  have := bN1_len h k
  simp only [bT2, boatW, List.length_append, List.length_cons, List.length_nil]; omega
theorem bN2_succ {b : Boats} {k j : Nat} (h : j < (gt b.seen k).length) : (((((bT2 b k j ++ [32]) ++ num (gt (gt b.seen k) j).minute) ++ [64]) ++ spanT (gt (gt b.seen k) j).cols) ++ [44]) ++ spanT (gt (gt b.seen k) j).rows = bT2 b k (j + 1) := by
  unfold bT2; rw [fm_succ h]; simp [bseenT]

theorem rBoats_g (b : Boats) (m : BoatsM) (hok : BoatsN b) (D : Imm) (hL : LibD D) (hR : BoatsR D b m) (w : World) (hH : Holds D w) : Gives Tryz.prog 60 [boatsV b m] w (st (putBoats b)) := by
  unfold Gives
  obtain ⟨⟨ba, bn, bc⟩, ml⟩ := m
  have hml : ml.length = b.seen.length := hR.len
  have hRs0 : SlL D 1 (ml.map slC) ba bn := hR.sl
  obtain rfl : bn = b.seen.length := by have := hRs0.len'; omega
  have hRr : ∀ i, i < b.seen.length → SlL D 5 ((gt b.seen i).map bsC) (gt ml i).a (gt ml i).n := hR.row
  have hRn : ∀ i, i < b.seen.length → (gt ml i).n ≤ 9223372036854775807 := hR.nr
  have nb : b.seen.length ≤ 9223372036854775807 := hR.n
  refine enter Tryz.func60 rfl 73 Tryz.ntmps60 (zqb rfl) (Inv.start hH) ?_
  refine WC.seq (WC.ofFr [(0, _)] ⟨rfl, trivial⟩ (WC.region ?_))
  refine WL.so (SO.box rfl rfl) rfl ?_
  rintro _ _ _ ⟨b1, hb1, rfl, rfl, rfl⟩
  refine zya rfl rfl ?_
  refine WL.nil (WP.thenC (WC.seq (WC.ofFr [(2, _), (1, _)] ⟨rfl, rfl, trivial⟩ ?_)))
  refine WC.tail 18 [0, 1, 2, 3, 4, 5, 6, 7, 8, 9, 10, 11, 12, 13, 14, 15, 16, 17] rfl (by kernel_rfl) (by kernel_rfl)  ?_
  have hr1 := num_le hok.wide
  have hr2 := num_le hok.deep
  have hr3 := num_le hok.speed
  have hr4 := num_le hok.last
  refine WQ.q rfl (Yd.qt (Yd.fieldAddr FA32_0 rfl)) rfl ?_
  refine WQ.q rfl (Yd.qt (Yd.load1 Tryz.isAgg3 rfl (by first | exact ro0 rfl rfl | exact ((hRs0.at k (by omega)).rd 0 rfl)))) rfl ?_
  refine WQ.q rfl (Qt.callP Tryz.call96 rfl (fun w hI => rnum_g b.wide hok.wide D hL _ hI.imm)) rfl ?_
  refine WQ.q rfl (Yd.qt (Yd.addS rfl rfl (by first | omega | ((try simp only [List.length_append, List.length_cons, List.length_nil]); omega)))) rfl ?_
  refine WQ.q rfl (Yd.qt (Yd.addS rfl rfl (by first | omega | ((try simp only [List.length_append, List.length_cons, List.length_nil]); omega)))) rfl ?_
  refine WQ.q rfl (Yd.qt (Yd.fieldAddr FA32_1 rfl)) rfl ?_
  refine WQ.q rfl (Yd.qt (Yd.load1 Tryz.isAgg3 rfl (by first | exact ro0 rfl rfl | exact ((hRs0.at k (by omega)).rd 0 rfl)))) rfl ?_
  refine WQ.q rfl (Qt.callP Tryz.call96 rfl (fun w hI => rnum_g b.deep hok.deep D hL _ hI.imm)) rfl ?_
  refine WQ.q rfl (Yd.qt (Yd.addS rfl rfl (by first | omega | ((try simp only [List.length_append, List.length_cons, List.length_nil]); omega)))) rfl ?_
  refine WQ.q rfl (Yd.qt (Yd.addS rfl rfl (by first | omega | ((try simp only [List.length_append, List.length_cons, List.length_nil]); omega)))) rfl ?_
  refine WQ.q rfl (Yd.qt (Yd.fieldAddr FA32_2 rfl)) rfl ?_
  refine WQ.q rfl (Yd.qt (Yd.load1 Tryz.isAgg3 rfl (by first | exact ro0 rfl rfl | exact ((hRs0.at k (by omega)).rd 0 rfl)))) rfl ?_
  refine WQ.q rfl (Qt.callP Tryz.call96 rfl (fun w hI => rnum_g b.speed hok.speed D hL _ hI.imm)) rfl ?_
  refine WQ.q rfl (Yd.qt (Yd.addS rfl rfl (by first | omega | ((try simp only [List.length_append, List.length_cons, List.length_nil]); omega)))) rfl ?_
  refine WQ.q rfl (Yd.qt (Yd.addS rfl rfl (by first | omega | ((try simp only [List.length_append, List.length_cons, List.length_nil]); omega)))) rfl ?_
  refine WQ.q rfl (Yd.qt (Yd.fieldAddr FA32_3 rfl)) rfl ?_
  refine WQ.q rfl (Yd.qt (Yd.load1 Tryz.isAgg3 rfl (by first | exact ro0 rfl rfl | exact ((hRs0.at k (by omega)).rd 0 rfl)))) rfl ?_
  refine WQ.q rfl (Qt.callP Tryz.call96 rfl (fun w hI => rnum_g b.last hok.last D hL _ hI.imm)) rfl ?_
  refine WQ.tail ?_
  refine WL.yd (Yd.addS rfl rfl (by first | omega | ((try simp only [List.length_append, List.length_cons, List.length_nil]); omega))) rfl ?_
  refine WL.yd (Yd.addS rfl rfl (by first | omega | ((try simp only [List.length_append, List.length_cons, List.length_nil]); omega))) rfl ?_
  refine zya rfl rfl ?_
  refine WL.nil (WP.thenC (WC.seq (WC.seq (WC.ofFr [(3, _), (2, _), (1, _)] ⟨rfl, rfl, rfl, trivial⟩ (WC.region ?_)))))
  refine zya rfl rfl ?_
  refine WL.nil (WP.thenC (WC.block ?_))
  refine WC.loopT [] (fun k : Nat => [(1, pt b1), (3, st (bT1 b k)), (4, nt k)]) (fun _ => [(b1, .cells (List.toArray [it b.wide, it b.deep, it b.speed, it b.last, .slice ba b.seen.length bc]) 32 (0, 0))]) (fun k => k ≤ b.seen.length) (fun k => b.seen.length - k) 0 (Nat.zero_le _) rfl ⟨rfl, st_eq (by simp [bT1, boats0, boatsW]), rfl, trivial⟩ ?_
  intro k hk
  have hlk := bN1_len hok k
  refine WC.seq (WC.seq (WC.ofFr [(1, _), (3, _), (4, _)] ⟨rfl, rfl, rfl, trivial⟩ (WC.region ?_)))
  refine zym rfl rfl ?_
  refine WL.yd (Yd.fieldAddr FA32_4 rfl) rfl ?_
  refine WL.yd (Yd.load1 Tryz.isAgg30 rfl (by first | exact ro0 rfl rfl | exact ((hRs0.at k (by omega)).rd 0 rfl))) rfl ?_
  refine WL.yd (Yd.lenS rfl Tryz.underlying30 rfl) rfl ?_
  refine WL.yd (Yd.lss rfl rfl) rfl ?_
  refine WL.nil (WP.thenC ?_)
  refine WC.cond rfl (fun c31 => ?_) (fun c31 => ?_)
  · try simp only [zq1, zq2, zq3, zq4, zq5, zq6, zq7, zq8] at c31
    have hkl : k < b.seen.length := by omega
    have hrow := hRr k hkl
    have hrl := hrow.len'
    have hrn := hRn k hkl
    refine WC.skip (WP.thenC (WC.seq (WC.block (WC.seq (WC.ofFr [(1, _), (3, _), (4, _)] ⟨rfl, rfl, rfl, trivial⟩ (WC.region ?_))))))
    have hq4 : boatW.length = 4 := rfl
    refine zym rfl rfl ?_
    refine WL.yd (Yd.addS rfl rfl (by first | omega | ((try simp only [List.length_append, List.length_cons, List.length_nil]); omega))) rfl ?_
    refine zya rfl rfl ?_
    refine WL.nil (WP.thenC (WC.seq (WC.seq (WC.ofFr [(3, _), (1, _), (4, _)] ⟨rfl, rfl, rfl, trivial⟩ (WC.region ?_)))))
    refine zya rfl rfl ?_
    refine WL.nil (WP.thenC (WC.block ?_))
    refine WC.loopT [] (fun j : Nat => [(1, pt b1), (3, st (bT2 b k j)), (4, nt k), (5, nt j)]) (fun _ => [(b1, .cells (List.toArray [it b.wide, it b.deep, it b.speed, it b.last, .slice ba b.seen.length bc]) 32 (0, 0))]) (fun j => j ≤ (gt b.seen k).length) (fun j => (gt b.seen k).length - j) 0 (Nat.zero_le _) rfl ⟨rfl, st_eq (bT2_zero b k), rfl, rfl, trivial⟩ ?_
    intro j hj
    have hlj := bN2_len hok hkl j
    refine WC.seq (WC.seq (WC.ofFr [(1, _), (3, _), (4, _), (5, _)] ⟨rfl, rfl, rfl, rfl, trivial⟩ (WC.region ?_)))
    refine zym rfl rfl ?_
    refine WL.yd (Yd.fieldAddr FA32_4 rfl) rfl ?_
    refine WL.yd (Yd.load1 Tryz.isAgg30 rfl (by first | exact ro0 rfl rfl | exact ((hRs0.at k (by omega)).rd 0 rfl))) rfl ?_
    refine zym rfl rfl ?_
    refine WL.yd (Yd.indexS Tryz.underlying30 Tryz.sizeOf79 rfl rfl (by omega) (by omega) (by first | exact hRs0.addr k (by omega) | exact hrow.addr j (by omega))) rfl ?_
    refine WL.yd (Yd.load1 Tryz.isAgg79 rfl (by first | exact ro0 rfl rfl | exact ((hRs0.at k (by omega)).rd 0 rfl))) rfl ?_
    refine WL.yd (Yd.lenS rfl Tryz.underlying79 rfl) rfl ?_
    refine WL.yd (Yd.lss rfl rfl) rfl ?_
    refine WL.nil (WP.thenC ?_)
    refine WC.cond rfl (fun c43 => ?_) (fun c43 => ?_)
    · try simp only [zq1, zq2, zq3, zq4, zq5, zq6, zq7, zq8] at c43
      have hjl : j < (gt b.seen k).length := by omega
      have hx := hok.s _ (gtB_mem hkl) _ (gtB_mem hjl)
      have hq1 := num_le hx.1
      have hq2 := spanT_le hx.2.1
      have hq3 := spanT_le hx.2.2
      refine WC.skip (WP.thenC (WC.seq (WC.block (WC.seq (WC.ofFr [(1, _), (3, _), (4, _), (5, _)] ⟨rfl, rfl, rfl, rfl, trivial⟩ (WC.region ?_))))))
      refine WL.yd (Yd.fieldAddr FA32_4 rfl) rfl ?_
      refine WL.yd (Yd.load1 Tryz.isAgg30 rfl (by first | exact ro0 rfl rfl | exact ((hRs0.at k (by omega)).rd 0 rfl))) rfl ?_
      refine zym rfl rfl ?_
      refine WL.yd (Yd.indexS Tryz.underlying30 Tryz.sizeOf79 rfl rfl (by omega) (by omega) (by first | exact hRs0.addr k (by omega) | exact hrow.addr j (by omega))) rfl ?_
      refine WL.yd (Yd.load1 Tryz.isAgg79 rfl (by first | exact ro0 rfl rfl | exact ((hRs0.at k (by omega)).rd 0 rfl))) rfl ?_
      refine zym rfl rfl ?_
      refine WL.yd (Yd.indexS Tryz.underlying79 Tryz.sizeOf143 rfl rfl (by omega) (by omega) (by first | exact hRs0.addr k (by omega) | exact hrow.addr j (by omega))) rfl ?_
      refine WL.yd (Yd.loadN Tryz.isAgg143 Tryz.sizeOf143 rfl (vs := [_, _, _, _, _]) rfl (by first | exact rn0 (n := 5) rfl rfl | exact ((hrow.at j (by omega)).rdn 0 5 rfl))) rfl ?_
      refine WL.so (SO.alloc Tryz.zeroValue143 rfl) rfl ?_
      rintro _ _ _ ⟨b6, hb6, rfl, rfl, rfl⟩
      refine WL.so (SO.store 0 rfl Tryz.sizeOf143 rfl rfl rfl rfl (zqb rfl) (oneB_spec rfl)) rfl ?_
      rintro _ _ _ ⟨rfl, rfl, rfl⟩
      refine WL.nil (WP.thenC (WC.ofFr [(6, _), (1, _), (3, _), (4, _), (5, _)] ⟨rfl, rfl, rfl, rfl, rfl, trivial⟩ ?_))
      refine WC.tail 15 [0, 1, 2, 3, 4, 5, 6, 7, 8, 9, 10, 11, 12, 13, 14] rfl (by kernel_rfl) (by kernel_rfl)  ?_
      refine WQ.q rfl (Yd.qt (Yd.move rfl)) rfl ?_
      refine WQ.q rfl (Yd.qt (Yd.addS rfl rfl (by first | omega | ((try simp only [List.length_append, List.length_cons, List.length_nil]); omega)))) rfl ?_
      refine WQ.q rfl (Yd.qt (Yd.fieldAddr FA143_0 rfl)) rfl ?_
      refine WQ.q rfl (Yd.qt (Yd.load1 Tryz.isAgg3 rfl (by first | exact ro0 rfl rfl | exact ro1 rfl rfl | exact ((hRs0.at k (by omega)).rd 0 rfl)))) rfl ?_
      refine WQ.q rfl (Qt.callP Tryz.call96 rfl (fun w hI => rnum_g (gt (gt b.seen k) j).minute hx.1 D hL _ hI.imm)) rfl ?_
      refine WQ.q rfl (Yd.qt (Yd.addS rfl rfl (by first | omega | ((try simp only [List.length_append, List.length_cons, List.length_nil]); omega)))) rfl ?_
      refine WQ.q rfl (Yd.qt (Yd.addS rfl rfl (by first | omega | ((try simp only [List.length_append, List.length_cons, List.length_nil]); omega)))) rfl ?_
      refine WQ.q rfl (Yd.qt (Yd.fieldAddr FA143_1 rfl)) rfl ?_
      refine WQ.q rfl (Yd.qt (Yd.loadN Tryz.isAgg114 Tryz.sizeOf114 rfl (vs := [_, _]) rfl (by first | exact rn0 (n := 2) rfl rfl | exact rn1 (n := 2) rfl rfl | exact ((hrow.at j (by omega)).rdn 0 5 rfl)))) rfl ?_
      refine WQ.q rfl (Qt.callP Tryz.call112 rfl (fun w hI => rspan_g (gt (gt b.seen k) j).cols hx.2.1 D hL _ hI.imm)) rfl ?_
      refine WQ.q rfl (Yd.qt (Yd.addS rfl rfl (by first | omega | ((try simp only [List.length_append, List.length_cons, List.length_nil]); omega)))) rfl ?_
      refine WQ.q rfl (Yd.qt (Yd.addS rfl rfl (by first | omega | ((try simp only [List.length_append, List.length_cons, List.length_nil]); omega)))) rfl ?_
      refine WQ.q rfl (Yd.qt (Yd.fieldAddr FA143_2 rfl)) rfl ?_
      refine WQ.q rfl (Yd.qt (Yd.loadN Tryz.isAgg114 Tryz.sizeOf114 rfl (vs := [_, _]) rfl (by first | exact rn0 (n := 2) rfl rfl | exact rn1 (n := 2) rfl rfl | exact ((hrow.at j (by omega)).rdn 0 5 rfl)))) rfl ?_
      refine WQ.q rfl (Qt.callP Tryz.call112 rfl (fun w hI => rspan_g (gt (gt b.seen k) j).rows hx.2.2 D hL _ hI.imm)) rfl ?_
      refine WQ.tail ?_
      refine WL.yd (Yd.addS rfl rfl (by first | omega | ((try simp only [List.length_append, List.length_cons, List.length_nil]); omega))) rfl ?_
      refine zya rfl rfl ?_
      refine WL.nil (WP.blkNormal (WP.thenC (WC.ofFr [(3, _), (1, _), (4, _), (5, _)] ⟨rfl, rfl, rfl, rfl, trivial⟩ (WC.region ?_))))
      refine zym rfl rfl ?_
      refine WL.yd (Yd.add rfl rfl (wr64 ⟨by omega, by omega⟩)) rfl ?_
      refine zya rfl rfl ?_
      refine WL.nil ?_
      exact WP.againT (j + 1) hjl (by omega) [_] _ rfl rfl ⟨rfl, st_eq (bN2_succ hjl), rfl, rfl, trivial⟩
    · try simp only [zq1, zq2, zq3, zq4, zq5, zq6, zq7, zq8] at c43
      obtain rfl : j = (gt b.seen k).length := by omega
      refine WC.exit ?_
      refine WP.thenExit ?_
      refine WP.thenExit ?_
      refine WP.blkHit ?_
      refine WP.thenC (WC.ofFr [(1, _), (3, _), (4, _)] ⟨rfl, rfl, rfl, trivial⟩ (WC.region ?_))
      have hlj := bN2_len hok hkl (gt b.seen k).length
      refine zym rfl rfl ?_
      refine WL.yd (Yd.addS rfl rfl (by first | omega | ((try simp only [List.length_append, List.length_cons, List.length_nil]); omega))) rfl ?_
      refine zya rfl rfl ?_
      refine WL.nil (WP.blkNormal (WP.thenC (WC.ofFr [(3, _), (1, _), (4, _)] ⟨rfl, rfl, rfl, trivial⟩ (WC.region ?_))))
      refine zym rfl rfl ?_
      refine WL.yd (Yd.add rfl rfl (wr64 ⟨by omega, by omega⟩)) rfl ?_
      refine zya rfl rfl ?_
      refine WL.nil ?_
      exact WP.againT (k + 1) hkl (by omega) [] _ rfl rfl ⟨rfl, st_eq (bT1_succ hkl), rfl, trivial⟩
  · try simp only [zq1, zq2, zq3, zq4, zq5, zq6, zq7, zq8] at c31
    obtain rfl : k = b.seen.length := by omega
    refine WC.exit ?_
    refine WP.thenExit ?_
    refine WP.thenExit ?_
    refine WP.blkHit ?_
    refine WP.thenC (WC.seq (WC.ofFr [(3, _)] ⟨rfl, trivial⟩ (WC.region ?_)))
    refine zym rfl rfl ?_
    refine zya rfl rfl ?_
    refine WL.nil (WP.thenC (WC.ret ?_))
    refine WP.ret1 rfl rfl Tryz.results60 (RV.tmp rfl) (fun w hI => ⟨by rw [bT1_fin], hI.keep⟩)

end Go.Proofs.YtaebnllfmkcpgaaGreatDoor
