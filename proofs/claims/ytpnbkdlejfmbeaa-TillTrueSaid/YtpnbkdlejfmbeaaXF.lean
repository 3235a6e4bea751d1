import Derived.Test.YtpnbkdlejfmbeaaXE
set_option linter.unusedSimpArgs false
set_option linter.unusedVariables false
set_option linter.all false
namespace Go.Proofs.Ytpnbkdlejfmbeaa
open Go.W Go.Ti

set_option maxRecDepth 100000 in
set_option maxHeartbeats 1000000 in
theorem truths1_iter (T : Tks) (a1 : Option Addr) (n1 c1 : Nat) (q b1 : Nat) (D : Imm) (w : World) (hO : OffAt D q T (.slice a1 n1 c1)) (hR : TksR D T a1 n1) (h1 : D b1 = some (.cells (List.toArray [pt q]) 107 (0, 0))) (hv : tksB T = true) (hH : Holds D w) : IterN Try.prog 93 [pt b1] (allT T).length (fun k => truV (gt (allT T) k)) D w := by
  unfold IterN
  intro l St Sp hSm hround h0 hS0 hI0
  unfold AltersN
  refine enter Try.func93 rfl 8 Try.ntmps93 (Nat.le_of_ble_eq_true rfl) hI0 ?_
  refine WC.seq ?_
  refine WC.ofFr [(0, _), (1, _)] ⟨rfl, rfl, trivial⟩ ?_
  refine WC.region ?_
  refine WL.so (SO.box rfl rfl) rfl ?_
  rintro _ _ _ ⟨b2, hb2, rfl, rfl, rfl⟩ -- NEW
  refine WL.nil ?_
  refine WP.thenC ?_
  refine WC.seq ?_
  refine WC.ofFr [(2, _), (1, _)] ⟨rfl, rfl, trivial⟩ ?_
  refine WC.region ?_
  refine WL.so (SO.alloc Try.zeroValue159 rfl) rfl ?_
  rintro _ _ _ ⟨b3, hb3, rfl, rfl, rfl⟩ -- NEW
  refine WL.nil ?_
  refine WP.thenC ?_
  refine WC.seq ?_
  refine WC.ofFr [(3, _), (2, _), (1, _)] ⟨rfl, rfl, rfl, trivial⟩ ?_
  refine WC.region ?_
  refine WL.yd (Yd.func rfl rfl) rfl ?_
  refine WL.so (SO.store 0 rfl Try.sizeOf159 rfl rfl rfl rfl (Nat.le_of_ble_eq_true rfl) (oneB_spec rfl)) rfl ?_
  rintro _ _ _ ⟨rfl, rfl, rfl⟩
  refine WL.nil ?_
  refine WP.thenC ?_
  refine WC.freezeK 0 rfl (fun hn3 => ?_)
  refine WC.freezeK 0 rfl (fun hn2 => ?_)
  have hX3 : DExt w D ((D.add b3 (.cells (List.toArray [.func (.func 94) #[] #[pt b1, pt b2, pt b3]]) 159 (0, 0))).add b2 (.cells (List.toArray [.func (.yield l) #[] #[]]) 158 (0, 0))) := ((DExt.refl w D).add hn3 hb3).add hn2 hb2
  have h2 : ((D.add b3 (.cells (List.toArray [.func (.func 94) #[] #[pt b1, pt b2, pt b3]]) 159 (0, 0))).add b2 (.cells (List.toArray [.func (.yield l) #[] #[]]) 158 (0, 0))) b2 = some (.cells (List.toArray [.func (.yield l) #[] #[]]) 158 (0, 0)) := Imm.add_self _ _ _
  have h3 : ((D.add b3 (.cells (List.toArray [.func (.func 94) #[] #[pt b1, pt b2, pt b3]]) 159 (0, 0))).add b2 (.cells (List.toArray [.func (.yield l) #[] #[]]) 158 (0, 0))) b3 = some (.cells (List.toArray [.func (.func 94) #[] #[pt b1, pt b2, pt b3]]) 159 (0, 0)) := ((DExt.refl w _).add hn2 hb2).old _ _ (Imm.add_self _ _ _)
  replace h1 := hX3.old _ _ h1
  replace hO := hO.ext hX3
  replace hR := hR.ext hX3
  refine (?_ : WC Try.prog _ _ ((D.add b3 (.cells (List.toArray [.func (.func 94) #[] #[pt b1, pt b2, pt b3]]) 159 (0, 0))).add b2 (.cells (List.toArray [.func (.yield l) #[] #[]]) 158 (0, 0))) h0 _ _)
  generalize ((D.add b3 (.cells (List.toArray [.func (.func 94) #[] #[pt b1, pt b2, pt b3]]) 159 (0, 0))).add b2 (.cells (List.toArray [.func (.yield l) #[] #[]]) 158 (0, 0))) = D3 at hX3 h1 h2 h3 hO hR ⊢
  refine WC.ofFr [(3, _)] ⟨rfl, trivial⟩ ?_
  refine WC.region ?_
  refine WL.yd (Yd.load1 Try.isAgg159 rfl (by first | exact Rd.own (k := 0) rfl rfl | exact (Rd.imm h1 rfl) | exact (Rd.imm h3 rfl))) rfl ?_
  refine WL.yd (Yd.buildA (zs := [.int .i64 0, .int .i64 0, .int .i64 0, .int .i64 0, .int .i64 0, .int .i64 0, .int .i64 0, .int .i64 0, .int .i64 0, .int .i64 0]) ⟨_, Try.zeroValue114, rfl⟩ Try.underlying114 Try.sizeOf112 rfl (cs := [_, _, _, _, _, _, _, _, _, _]) rfl) rfl ?_
  refine WL.know 6 (truV zeroT) rfl rfl ?_
  refine WL.so (SO.altersNS (own := []) (hpc := h0) (fun _ h => h) (fun h => h) (Enters.val Try.call94 rfl rfl) (fun w3 hsz hI => on_g T a1 n1 c1 q b1 b2 b3 l St Sp w (allT T) hv hSm D hround T.l.length zeroT 0 0 D3 w3 h0 (by omega) ⟨[], [], by simp [allT], rfl⟩ okTr_zero hsz hX3 hO hR h1 h2 h3 (hSm _ _ _ _ hX3 hS0) hI)) rfl ?_
  rintro _ D8 hp8 ⟨_, hX8, ⟨b7, rfl, hK8⟩, rfl⟩
  refine WL.nil ?_
  refine WP.ret0 rfl rfl Try.results93  (fun w1 hI => by
    rcases hK8 with ⟨rfl, hK8⟩ | ⟨rfl, hK8⟩
    · exact ⟨_, D8, hp8, rfl, hX3.trans hX8 (Nat.le_refl _), hI, .inl (by rw [Nat.zero_add] at hK8; exact hK8)⟩
    · exact ⟨_, D8, hp8, rfl, hX3.trans hX8 (Nat.le_refl _), hI, .inr hK8⟩)

end Go.Proofs.Ytpnbkdlejfmbeaa
namespace Go.Proofs.Ytpnbkdlejfmbeaa
open Go.W Go.Ti
theorem FA112_0 : FieldAt Try.prog 112 0 0 := FieldAt.mk (t := 3) (off := 0) Try.underlying112 rfl Try.sizeOf3 (by decide)
theorem FA116_0 : FieldAt Try.prog 116 0 0 := FieldAt.mk (t := 3) (off := 0) Try.underlying116 rfl Try.sizeOf3 (by decide)
theorem FA116_1 : FieldAt Try.prog 116 1 1 := FieldAt.mk (t := 3) (off := 1) Try.underlying116 rfl Try.sizeOf3 (by decide)
theorem FA118_0 : FieldAt Try.prog 118 0 0 := FieldAt.mk (t := 116) (off := 0) Try.underlying118 rfl Try.sizeOf116 (by decide)
set_option maxRecDepth 100000 in
set_option maxHeartbeats 1000000 in
theorem before_g (t : Tru) (a b : Nat) (ha : a < 5) (hb5 : b < 5) (w : World) : Gives Try.prog 116 [truV t, nt a, nt b] w (.bool (befT t a b)) := by
  unfold Gives
  refine enter Try.func116 rfl 32 Try.ntmps116 (Nat.le_of_ble_eq_true rfl) (Inv.start (D := fun _ => none) (by intro _ _ h; cases h)) ?_
  refine WC.seq ?_
  refine WC.ofFr [(0, _), (1, _), (2, _)] ⟨rfl, rfl, rfl, trivial⟩ ?_
  refine WC.region ?_
  refine WL.so (SO.box rfl rfl) rfl ?_
  rintro _ _ _ ⟨b3, hb3, rfl, rfl, rfl⟩ -- NEW
  refine WL.yd (Yd.assign rfl) rfl ?_
  refine WL.nil ?_
  refine WP.thenC ?_
  refine WC.seq ?_
  refine WC.ofFr [(6, _), (3, _), (1, _), (2, _)] ⟨rfl, rfl, rfl, rfl, trivial⟩ ?_
  refine WC.tail 22 [0, 1, 2, 3, 4, 5, 6, 7, 8, 9, 10, 11, 12, 13, 14, 15, 16, 17, 18, 19, 20, 21] rfl (by kernel_rfl) (by kernel_rfl)  ?_
  refine WQ.q rfl (Yd.qt (Yd.move rfl)) rfl ?_
  refine WQ.q rfl (Yd.qt (Yd.indexA Try.underlying114 Try.sizeOf112 rfl rfl (by omega) (by omega))) rfl ?_
  refine WQ.q rfl (Yd.qt (Yd.fieldAddr FA112_0 rfl)) rfl ?_
  refine WQ.q rfl (Yd.qt (Yd.load1 Try.isAgg3 rfl (by first | exact (Rd.own (k := 0) rfl (tru_rd t (i := a) (by omega)).1) | exact (Rd.own (k := 0) rfl (tru_rd t (i := a) (by omega)).2) | exact (Rd.own (k := 0) rfl (tru_rd t (i := b) (by omega)).1) | exact (Rd.own (k := 0) rfl (tru_rd t (i := b) (by omega)).2)))) rfl ?_
  refine WQ.q rfl (Yd.qt (Yd.move rfl)) rfl ?_
  refine WQ.q rfl (Yd.qt (Yd.indexA Try.underlying114 Try.sizeOf112 rfl rfl (by omega) (by omega))) rfl ?_
  refine WQ.q rfl (Yd.qt (Yd.fieldAddr FA112_0 rfl)) rfl ?_
  refine WQ.q rfl (Yd.qt (Yd.load1 Try.isAgg3 rfl (by first | exact (Rd.own (k := 0) rfl (tru_rd t (i := a) (by omega)).1) | exact (Rd.own (k := 0) rfl (tru_rd t (i := a) (by omega)).2) | exact (Rd.own (k := 0) rfl (tru_rd t (i := b) (by omega)).1) | exact (Rd.own (k := 0) rfl (tru_rd t (i := b) (by omega)).2)))) rfl ?_
  refine WQ.q rfl (Yd.qt (Yd.lss rfl rfl)) rfl ?_
  refine WQ.q rfl (Yd.qt (Yd.move rfl)) rfl ?_
  refine WQ.part 16 rfl (fun g16 => ?_) (fun g16 => ?_)
  · try simp only [zq1, zq2, zq3, zq4, zq5, zq6, zq7, zq8] at g16
    refine WQ.skip rfl rfl rfl ?_
    refine WQ.skip rfl rfl rfl ?_
    refine WQ.skip rfl rfl rfl ?_
    refine WQ.skip rfl rfl rfl ?_
    refine WQ.skip rfl rfl rfl ?_
    refine WQ.skip rfl rfl rfl ?_
    refine WQ.skip rfl rfl rfl ?_
    refine WQ.skip rfl rfl rfl ?_
    refine WQ.skip rfl rfl rfl ?_
    refine WQ.skip rfl rfl rfl ?_
    refine WQ.skipU rfl rfl rfl ?_
    refine WQ.skipU rfl rfl rfl ?_
    refine WQ.tail ?_
    refine WL.skipU rfl rfl ?_
    refine WL.skip rfl rfl ?_
    refine WL.yd (Yd.pickT rfl rfl) rfl ?_
    refine WL.yd (Yd.assign rfl) rfl ?_
    refine WL.nil ?_
    refine WP.thenC ?_
    refine WC.ret ?_
    refine WP.ret1 rfl rfl Try.results116 (RV.tmp rfl) (fun w hI => ⟨ret_bool (by rw [Bool.eq_iff_iff]; simp_all [befT]; try omega), hI.keep⟩)
  · try simp only [zq1, zq2, zq3, zq4, zq5, zq6, zq7, zq8] at g16
    refine WQ.qg rfl rfl (Yd.qt (Yd.move rfl)) rfl ?_
    refine WQ.qg rfl rfl (Yd.qt (Yd.indexA Try.underlying114 Try.sizeOf112 rfl rfl (by omega) (by omega))) rfl ?_
    refine WQ.qg rfl rfl (Yd.qt (Yd.fieldAddr FA112_0 rfl)) rfl ?_
    refine WQ.qg rfl rfl (Yd.qt (Yd.load1 Try.isAgg3 rfl (by first | exact (Rd.own (k := 0) rfl (tru_rd t (i := a) (by omega)).1) | exact (Rd.own (k := 0) rfl (tru_rd t (i := a) (by omega)).2) | exact (Rd.own (k := 0) rfl (tru_rd t (i := b) (by omega)).1) | exact (Rd.own (k := 0) rfl (tru_rd t (i := b) (by omega)).2)))) rfl ?_
    refine WQ.qg rfl rfl (Yd.qt (Yd.move rfl)) rfl ?_
    refine WQ.qg rfl rfl (Yd.qt (Yd.indexA Try.underlying114 Try.sizeOf112 rfl rfl (by omega) (by omega))) rfl ?_
    refine WQ.qg rfl rfl (Yd.qt (Yd.fieldAddr FA112_0 rfl)) rfl ?_
    refine WQ.qg rfl rfl (Yd.qt (Yd.load1 Try.isAgg3 rfl (by first | exact (Rd.own (k := 0) rfl (tru_rd t (i := a) (by omega)).1) | exact (Rd.own (k := 0) rfl (tru_rd t (i := a) (by omega)).2) | exact (Rd.own (k := 0) rfl (tru_rd t (i := b) (by omega)).1) | exact (Rd.own (k := 0) rfl (tru_rd t (i := b) (by omega)).2)))) rfl ?_
    refine WQ.qg rfl rfl (Yd.qt (Yd.eql rfl rfl)) rfl ?_
    refine WQ.qg rfl rfl (Yd.qt (Yd.move rfl)) rfl ?_
    refine WQ.part 26 rfl (fun g26 => ?_) (fun g26 => ?_)
    · try simp only [zq1, zq2, zq3, zq4, zq5, zq6, zq7, zq8] at g26
      refine WQ.qg rfl rfl (Yd.qt (Yd.move rfl)) rfl ?_
      refine WQ.qg rfl rfl (Yd.qt (Yd.move rfl)) rfl ?_
      refine WQ.tail ?_
      refine WL.ydg rfl (Yd.lss rfl rfl) rfl ?_
      refine WL.ydg rfl (Yd.pickT rfl rfl) rfl ?_
      refine WL.yd (Yd.pickF rfl rfl) rfl ?_
      refine WL.yd (Yd.assign rfl) rfl ?_
      refine WL.nil ?_
      refine WP.thenC ?_
      refine WC.ret ?_
      refine WP.ret1 rfl rfl Try.results116 (RV.tmp rfl) (fun w hI => ⟨ret_bool (by rw [Bool.eq_iff_iff]; simp_all [befT]; try omega), hI.keep⟩)
    · try simp only [zq1, zq2, zq3, zq4, zq5, zq6, zq7, zq8] at g26
      refine WQ.skip rfl rfl rfl ?_
      refine WQ.skip rfl rfl rfl ?_
      refine WQ.tail ?_
      refine WL.skip rfl rfl ?_
      refine WL.ydg rfl (Yd.pickF rfl rfl) rfl ?_
      refine WL.yd (Yd.pickF rfl rfl) rfl ?_
      refine WL.yd (Yd.assign rfl) rfl ?_
      refine WL.nil ?_
      refine WP.thenC ?_
      refine WC.ret ?_
      refine WP.ret1 rfl rfl Try.results116 (RV.tmp rfl) (fun w hI => ⟨ret_bool (by rw [Bool.eq_iff_iff]; simp_all [befT]; try omega), hI.keep⟩)

set_option maxRecDepth 100000 in
set_option maxHeartbeats 1000000 in
theorem overis_g (t : Tru) (a b : Nat) (v : Value) (ha : a < 5) (hbb : b < 5) (w : World) : Gives Try.prog 118 [.agg #[nt a, nt b], v, truV t] w (.bool (overT t a b)) := by
  unfold Gives
  refine enter Try.func118 rfl 28 Try.ntmps118 (Nat.le_of_ble_eq_true rfl) (Inv.start (D := fun _ => none) (by intro _ _ h; cases h)) ?_
  refine WC.seq ?_
  refine WC.ofFr [(0, _), (2, _)] ⟨rfl, rfl, trivial⟩ ?_
  refine WC.region ?_
  refine WL.so (SO.box rfl rfl) rfl ?_
  rintro _ _ _ ⟨b3, hb3, rfl, rfl, rfl⟩ -- NEW
  refine WL.so (SO.box rfl rfl) rfl ?_
  rintro _ _ _ ⟨b5, hb5, rfl, rfl, rfl⟩ -- NEW
  refine WL.yd (Yd.assign rfl) rfl ?_
  refine WL.nil ?_
  refine WP.thenC ?_
  refine WC.seq ?_
  refine WC.ofFr [(6, _), (5, _), (3, _)] ⟨rfl, rfl, rfl, trivial⟩ ?_
  refine WC.region ?_
  refine WL.yd (Yd.assign rfl) rfl ?_
  refine WL.nil ?_
  refine WP.thenC ?_
  refine WC.seq ?_
  refine WC.ofFr [(7, _), (6, _), (5, _), (3, _)] ⟨rfl, rfl, rfl, rfl, trivial⟩ ?_
  refine WC.tail 18 [0, 1, 2, 3, 4, 5, 6, 7, 8, 9, 10, 11, 12, 13, 14, 15, 16, 17] rfl (by kernel_rfl) (by kernel_rfl)  ?_
  refine WQ.q rfl (Yd.qt (Yd.move rfl)) rfl ?_
  refine WQ.q rfl (Yd.qt (Yd.loadN Try.isAgg114 Try.sizeOf114 rfl (vs := [_, _, _, _, _, _, _, _, _, _]) rfl (by first | exact RdN.own (k := 0) (n := 10) rfl rfl | exact RdN.own (k := 1) (n := 10) rfl rfl))) rfl ?_
  refine WQ.q rfl (Yd.qt (Yd.fieldAddr FA116_1 rfl)) rfl ?_
  refine WQ.q rfl (Yd.qt (Yd.load1 Try.isAgg3 rfl (by first | exact Rd.own (k := 0) rfl rfl | exact Rd.own (k := 1) rfl rfl | exact (Rd.own (k := 0) rfl (tru_rd t (i := a) (by omega)).1) | exact (Rd.own (k := 0) rfl (tru_rd t (i := a) (by omega)).2) | exact (Rd.own (k := 0) rfl (tru_rd t (i := b) (by omega)).1) | exact (Rd.own (k := 0) rfl (tru_rd t (i := b) (by omega)).2)))) rfl ?_
  refine WQ.q rfl (Yd.qt (Yd.fieldAddr FA116_0 rfl)) rfl ?_
  refine WQ.q rfl (Yd.qt (Yd.load1 Try.isAgg3 rfl (by first | exact Rd.own (k := 0) rfl rfl | exact Rd.own (k := 1) rfl rfl | exact (Rd.own (k := 0) rfl (tru_rd t (i := a) (by omega)).1) | exact (Rd.own (k := 0) rfl (tru_rd t (i := a) (by omega)).2) | exact (Rd.own (k := 0) rfl (tru_rd t (i := b) (by omega)).1) | exact (Rd.own (k := 0) rfl (tru_rd t (i := b) (by omega)).2)))) rfl ?_
  refine WQ.q rfl (Qt.call (Enters.val Try.call116 rfl rfl) (fun w hI => before_g t b a hbb ha _)) rfl ?_
  refine WQ.q rfl (Yd.qt (Yd.move rfl)) rfl ?_
  refine WQ.part 15 rfl (fun g15 => ?_) (fun g15 => ?_)
  · try simp only [zq1, zq2, zq3, zq4, zq5, zq6, zq7, zq8] at g15
    refine WQ.qg rfl rfl (Yd.qt (Yd.fieldAddr FA116_1 rfl)) rfl ?_
    refine WQ.qg rfl rfl (Yd.qt (Yd.load1 Try.isAgg3 rfl (by first | exact Rd.own (k := 0) rfl rfl | exact Rd.own (k := 1) rfl rfl | exact (Rd.own (k := 0) rfl (tru_rd t (i := a) (by omega)).1) | exact (Rd.own (k := 0) rfl (tru_rd t (i := a) (by omega)).2) | exact (Rd.own (k := 0) rfl (tru_rd t (i := b) (by omega)).1) | exact (Rd.own (k := 0) rfl (tru_rd t (i := b) (by omega)).2)))) rfl ?_
    refine WQ.qg rfl rfl (Yd.qt (Yd.indexA Try.underlying114 Try.sizeOf112 rfl rfl (by omega) (by omega))) rfl ?_
    refine WQ.qg rfl rfl (Yd.qt (Yd.fieldAddr FA112_1 rfl)) rfl ?_
    refine WQ.qg rfl rfl (Yd.qt (Yd.load1 Try.isAgg3 rfl (by first | exact Rd.own (k := 0) rfl rfl | exact Rd.own (k := 1) rfl rfl | exact (Rd.own (k := 0) rfl (tru_rd t (i := a) (by omega)).1) | exact (Rd.own (k := 0) rfl (tru_rd t (i := a) (by omega)).2) | exact (Rd.own (k := 0) rfl (tru_rd t (i := b) (by omega)).1) | exact (Rd.own (k := 0) rfl (tru_rd t (i := b) (by omega)).2)))) rfl ?_
    refine WQ.qg rfl rfl (Yd.qt (Yd.fieldAddr FA116_0 rfl)) rfl ?_
    refine WQ.qg rfl rfl (Yd.qt (Yd.load1 Try.isAgg3 rfl (by first | exact Rd.own (k := 0) rfl rfl | exact Rd.own (k := 1) rfl rfl | exact (Rd.own (k := 0) rfl (tru_rd t (i := a) (by omega)).1) | exact (Rd.own (k := 0) rfl (tru_rd t (i := a) (by omega)).2) | exact (Rd.own (k := 0) rfl (tru_rd t (i := b) (by omega)).1) | exact (Rd.own (k := 0) rfl (tru_rd t (i := b) (by omega)).2)))) rfl ?_
    refine WQ.qg rfl rfl (Yd.qt (Yd.indexA Try.underlying114 Try.sizeOf112 rfl rfl (by omega) (by omega))) rfl ?_
    refine WQ.qg rfl rfl (Yd.qt (Yd.fieldAddr FA112_1 rfl)) rfl ?_
    refine WQ.qg rfl rfl (Yd.qt (Yd.load1 Try.isAgg3 rfl (by first | exact Rd.own (k := 0) rfl rfl | exact Rd.own (k := 1) rfl rfl | exact (Rd.own (k := 0) rfl (tru_rd t (i := a) (by omega)).1) | exact (Rd.own (k := 0) rfl (tru_rd t (i := a) (by omega)).2) | exact (Rd.own (k := 0) rfl (tru_rd t (i := b) (by omega)).1) | exact (Rd.own (k := 0) rfl (tru_rd t (i := b) (by omega)).2)))) rfl ?_
    refine WQ.tail ?_
    refine WL.ydg rfl (Yd.gtr rfl rfl) rfl ?_
    refine WL.yd (Yd.pickT rfl rfl) rfl ?_
    refine WL.yd (Yd.assign rfl) rfl ?_
    refine WL.nil ?_
    refine WP.thenC ?_
    refine WC.ret ?_
    refine WP.ret1 rfl rfl Try.results118 (RV.tmp rfl) (fun w hI => ⟨ret_bool (by rw [Bool.eq_iff_iff]; simp_all [overT]), hI.keep⟩)
  · try simp only [zq1, zq2, zq3, zq4, zq5, zq6, zq7, zq8] at g15
    refine WQ.skip rfl rfl rfl ?_
    refine WQ.skip rfl rfl rfl ?_
    refine WQ.skip rfl rfl rfl ?_
    refine WQ.skip rfl rfl rfl ?_
    refine WQ.skip rfl rfl rfl ?_
    refine WQ.skip rfl rfl rfl ?_
    refine WQ.skip rfl rfl rfl ?_
    refine WQ.skip rfl rfl rfl ?_
    refine WQ.skip rfl rfl rfl ?_
    refine WQ.skip rfl rfl rfl ?_
    refine WQ.tail ?_
    refine WL.skip rfl rfl ?_
    refine WL.yd (Yd.pickF rfl rfl) rfl ?_
    refine WL.yd (Yd.assign rfl) rfl ?_
    refine WL.nil ?_
    refine WP.thenC ?_
    refine WC.ret ?_
    refine WP.ret1 rfl rfl Try.results118 (RV.tmp rfl) (fun w hI => ⟨ret_bool (by rw [Bool.eq_iff_iff]; simp_all [overT]), hI.keep⟩)

set_option maxRecDepth 100000 in
set_option maxHeartbeats 1000000 in
theorem overall_g (T : Tks) (a1 : Option Addr) (n1 c1 : Nat) (q : Nat) (D : Imm) (w : World) (hO : OffAt D q T (.slice a1 n1 c1)) (hR : TksR D T a1 n1) (hH : Holds D w) (hv : tksB T = true) (t : Tru) (a : Nat) (o : Int) (ha : a < 5) : Gives Try.prog 117 [.agg #[nt a, it o], pt q, truV t] w (.bool ((List.range T.l.length).any (overT t a))) := by
  unfold Gives
  obtain rfl := hR.tick.len'
  have hl1 := hR.len
  have h5 := (tks_num hv).2.1
  obtain ⟨a3, c3, hq, hS3, hc3⟩ := hO
  refine enter Try.func117 rfl 22 Try.ntmps117 (Nat.le_of_ble_eq_true rfl) (Inv.start hH) ?_
  refine WC.seq ?_
  refine WC.ofFr [(0, _), (1, _), (2, _)] ⟨rfl, rfl, rfl, trivial⟩ ?_
  refine WC.region ?_
  refine WL.so (SO.box rfl rfl) rfl ?_
  rintro _ _ _ ⟨b3, hb3, rfl, rfl, rfl⟩ -- NEW
  refine WL.so (SO.box rfl rfl) rfl ?_
  rintro _ _ _ ⟨b5, hb5, rfl, rfl, rfl⟩ -- NEW
  refine WL.yd (Yd.assign rfl) rfl ?_
  refine WL.nil ?_
  refine WP.thenC ?_
  refine WC.seq ?_
  refine WC.seq ?_
  refine WC.ofFr [(6, _), (5, _), (3, _), (1, _)] ⟨rfl, rfl, rfl, rfl, trivial⟩ ?_
  refine WC.region ?_
  refine WL.yd (Yd.move rfl) rfl ?_
  refine WL.yd (Yd.nilCheck rfl) rfl ?_
  refine WL.yd (Yd.fieldAddr FA146_0 rfl) rfl ?_
  refine WL.yd (Yd.fieldAddr FA35_1 rfl) rfl ?_
  refine WL.yd (Yd.load1 Try.isAgg33 rfl (by first | exact Rd.own (k := 0) rfl rfl | exact Rd.own (k := 1) rfl rfl | exact (Rd.imm hq rfl))) rfl ?_
  refine WL.yd (Yd.lenS rfl Try.underlying33 rfl) rfl ?_
  refine WL.yd (Yd.move rfl) rfl ?_
  refine WL.nil ?_
  refine WP.thenC ?_
  refine WC.block ?_
  refine WC.loop (fun y : Nat × Int => [(1, pt q), (3, pt b3), (5, pt b5), (12, nt T.l.length), (13, nt y.1)]) (fun y => [(b5, .cells (List.toArray (truC t)) 114 (0, 0)), (b3, .cells (List.toArray [nt a, it y.2]) 116 (0, 0))]) (fun _ => D) (fun y => y.1 ≤ T.l.length ∧ ∀ i, i < y.1 → overT t a i = false) (fun y => T.l.length - y.1) (0, o) ⟨by omega, by intro i hi; omega⟩ (fun a w h => at_fr h ⟨rfl, rfl, rfl, rfl, rfl, trivial⟩) ?_
  rintro ⟨k, o⟩ ⟨hk, hd⟩
  dsimp only at hk hd
  refine WC.seq ?_
  refine WC.ofFr [(1, _), (3, _), (5, _), (12, _), (13, _)] ⟨rfl, rfl, rfl, rfl, rfl, trivial⟩ ?_
  refine WC.region ?_
  refine WL.yd (Yd.lss rfl rfl) rfl ?_
  refine WL.nil ?_
  refine WP.thenC ?_
  refine WC.seq ?_
  refine WC.cond rfl (fun c14 => ?_) (fun c14 => ?_)
  · try simp only [zq1, zq2, zq3, zq4, zq5, zq6, zq7, zq8] at c14
    refine WC.skip ?_
    refine WP.thenC ?_
    refine WC.seq ?_
    refine WC.block ?_
    refine WC.seq ?_
    refine WC.ofFr [(1, _), (3, _), (5, _), (12, _), (13, _)] ⟨rfl, rfl, rfl, rfl, rfl, trivial⟩ ?_
    refine WC.region ?_
    refine WL.yd (Yd.move rfl) rfl ?_
    refine WL.yd (Yd.fieldAddr FA116_1 rfl) rfl ?_
    refine WL.so (SO.store 1 rfl Try.sizeOf3 rfl rfl rfl rfl (Nat.le_of_ble_eq_true rfl) (oneB_spec rfl)) rfl ?_
    rintro _ _ _ ⟨rfl, rfl, rfl⟩
    refine WL.nil ?_
    refine WP.thenC ?_
    refine WC.seq ?_
    refine WC.ofFr [(1, _), (3, _), (5, _), (12, _), (13, _)] ⟨rfl, rfl, rfl, rfl, rfl, trivial⟩ ?_
    refine WC.region ?_
    refine WL.yd (Yd.loadN Try.isAgg116 Try.sizeOf116 rfl (vs := [_, _]) rfl (by first | exact RdN.own (k := 0) (n := 2) rfl rfl | exact RdN.own (k := 1) (n := 2) rfl rfl)) rfl ?_
    refine WL.yd (Yd.move rfl) rfl ?_
    refine WL.yd (Yd.loadN Try.isAgg114 Try.sizeOf114 rfl (vs := [_, _, _, _, _, _, _, _, _, _]) rfl (by first | exact RdN.own (k := 0) (n := 10) rfl rfl | exact RdN.own (k := 1) (n := 10) rfl rfl)) rfl ?_
    refine WL.so (SO.callP Try.call118 rfl (fun w hI => (overis_g t a k (pt q) ha (by omega) _))) rfl ?_
    rintro _ _ _ ⟨rfl, rfl, rfl⟩
    refine WL.nil ?_
    refine WP.thenC ?_
    refine WC.cond rfl (fun c20 => ?_) (fun c20 => ?_)
    · try simp only [zq1, zq2, zq3, zq4, zq5, zq6, zq7, zq8] at c20
      refine WC.seq ?_
      refine WC.ofFr [(1, _), (3, _), (5, _), (12, _), (13, _)] ⟨rfl, rfl, rfl, rfl, rfl, trivial⟩ ?_
      refine WC.region ?_
      refine WL.yd (Yd.assign rfl) rfl ?_
      refine WL.nil ?_
      refine WP.thenC ?_
      refine WC.ret ?_
      refine WP.blkRet ?_
      refine WP.thenRet ?_
      refine WP.thenRet ?_
      refine WP.blkRet ?_
      refine WP.thenRet ?_
      refine WP.ret1 rfl rfl Try.results117 (RV.tmp rfl) (fun w hI => ⟨ret_bool (Eq.symm (List.any_eq_true.2 ⟨k, List.mem_range.2 (by omega), c20⟩)), hI.keep⟩)
    · try simp only [zq1, zq2, zq3, zq4, zq5, zq6, zq7, zq8] at c20
      refine WC.skip ?_
      refine WP.blkNormal ?_
      refine WP.thenC ?_
      refine WC.ofFr [(1, _), (3, _), (5, _), (12, _), (13, _)] ⟨rfl, rfl, rfl, rfl, rfl, trivial⟩ ?_
      refine WC.region ?_
      refine WL.yd (Yd.add rfl rfl (wr64 ⟨by omega, by omega⟩)) rfl ?_
      refine WL.yd (Yd.move rfl) rfl ?_
      refine WL.nil ?_
      exact WP.again (⟨k + 1, (k : Int)⟩ : Nat × Int) ⟨by simp only; omega, ext_round hd c20⟩ (by simp only; omega) (fun aa ww h => at_fr h ⟨rfl, rfl, rfl, rfl, rfl, trivial⟩)
  · try simp only [zq1, zq2, zq3, zq4, zq5, zq6, zq7, zq8] at c14
    refine WC.exit ?_
    refine WP.thenExit ?_
    refine WP.thenExit ?_
    refine WP.blkHit ?_
    refine WP.thenC ?_
    refine WC.seq ?_
    refine WC.ofFr [] trivial ?_
    refine WC.region ?_
    refine WL.yd (Yd.assign rfl) rfl ?_
    refine WL.nil ?_
    refine WP.thenC ?_
    refine WC.ret ?_
    refine WP.ret1 rfl rfl Try.results117 (RV.tmp rfl) (fun w hI => ⟨ret_bool (Eq.symm (by rw [List.any_eq_false]; intro i hi; rw [hd i (by have := List.mem_range.1 hi; omega)]; simp)), hI.keep⟩)

set_option maxRecDepth 100000 in
set_option maxHeartbeats 1000000 in
theorem turnis_g (T : Tks) (a1 : Option Addr) (n1 c1 : Nat) (q : Nat) (D : Imm) (w : World) (hO : OffAt D q T (.slice a1 n1 c1)) (hR : TksR D T a1 n1) (hH : Holds D w) (hv : tksB T = true) (t : Tru) (a : Nat) (ha : a < 5) : Gives Try.prog 119 [.agg #[nt a, it 0], pt q, truV t] w (.bool (turnT T.l.length t a)) := by
  unfold Gives
  refine enter Try.func119 rfl 13 Try.ntmps119 (Nat.le_of_ble_eq_true rfl) (Inv.start hH) ?_
  refine WC.seq ?_
  refine WC.ofFr [(0, _), (1, _), (2, _)] ⟨rfl, rfl, rfl, trivial⟩ ?_
  refine WC.region ?_
  refine WL.so (SO.box rfl rfl) rfl ?_
  rintro _ _ _ ⟨b3, hb3, rfl, rfl, rfl⟩ -- NEW
  refine WL.so (SO.box rfl rfl) rfl ?_
  rintro _ _ _ ⟨b5, hb5, rfl, rfl, rfl⟩ -- NEW
  refine WL.yd (Yd.assign rfl) rfl ?_
  refine WL.nil ?_
  refine WP.thenC ?_
  refine WC.seq ?_
  refine WC.ofFr [(6, _), (5, _), (3, _), (1, _)] ⟨rfl, rfl, rfl, rfl, trivial⟩ ?_
  refine WC.region ?_
  refine WL.yd (Yd.fieldAddr FA118_0 rfl) rfl ?_
  refine WL.yd (Yd.loadN Try.isAgg116 Try.sizeOf116 rfl (vs := [_, _]) rfl (by first | exact RdN.own (k := 0) (n := 2) rfl rfl | exact RdN.own (k := 1) (n := 2) rfl rfl)) rfl ?_
  refine WL.yd (Yd.move rfl) rfl ?_
  refine WL.yd (Yd.loadN Try.isAgg114 Try.sizeOf114 rfl (vs := [_, _, _, _, _, _, _, _, _, _]) rfl (by first | exact RdN.own (k := 0) (n := 10) rfl rfl | exact RdN.own (k := 1) (n := 10) rfl rfl)) rfl ?_
  refine WL.so (SO.callP Try.call117 rfl (fun w hI => (overall_g T a1 n1 c1 q D _ hO hR hI.imm hv t a 0 ha))) rfl ?_
  rintro _ _ _ ⟨rfl, rfl, rfl⟩
  refine WL.yd (Yd.not rfl) rfl ?_
  refine WL.yd (Yd.assign rfl) rfl ?_
  refine WL.nil ?_
  refine WP.thenC ?_
  refine WC.ret ?_
  refine WP.ret1 rfl rfl Try.results119 (RV.tmp rfl) (fun w hI => ⟨rfl, hI.keep⟩)

end Go.Proofs.Ytpnbkdlejfmbeaa
namespace Go.Proofs.Ytpnbkdlejfmbeaa
open Go.W Go.Ti
theorem FA124_0 : FieldAt Try.prog 124 0 0 := FieldAt.mk (t := 4) (off := 0) Try.underlying124 rfl Try.sizeOf4 (by decide)
theorem FA124_1 : FieldAt Try.prog 124 1 1 := FieldAt.mk (t := 4) (off := 1) Try.underlying124 rfl Try.sizeOf4 (by decide)
theorem SA124 : StructAt Try.prog 124 [.bool false, .bool false] [(0, 1), (1, 1)] := ⟨⟨_, Try.zeroValue124, rfl⟩, _, Try.underlying124, fun w => by simp [Try.sizeOf4]⟩
theorem any_take {α : Type} [Inhabited α] {f : α → Bool} {l : List α} {k : Nat} (hk : k < l.length) : (l.take (k + 1)).any f = ((l.take k).any f || f (gt l k)) := by
  have hg : gt l k = l[k] := by simp [gt, List.getD, hk]
  rw [List.take_succ_eq_append_getElem hk, List.any_append, hg]
  simp
theorem any_of_take {α : Type} {f : α → Bool} {l : List α} {k : Nat} (h : (l.take k).any f = true) : l.any f = true := by
  obtain ⟨x, hx, hf⟩ := List.any_eq_true.1 h
  exact List.any_eq_true.2 ⟨x, List.mem_of_mem_take hx, hf⟩
theorem any_split {α : Type} {f : α → Bool} {l : List α} (hne : l ≠ []) (h1 : l.any f = false) (h2 : (l.any fun x => !f x) = false) : False := by
  cases l with
  | nil => exact hne rfl
  | cons x l =>
    rw [List.any_cons] at h1 h2
    cases hf : f x <;> simp [hf] at h1 h2
theorem eqVd (a b c d : Bool) : ∀ w, (Op.equalIn 10000 124 (.agg #[.bool a, .bool b]) (.agg #[.bool c, .bool d])).run Try.prog w = .ok (a == c && b == d) w := by
  intro w
  cases a <;> cases b <;> cases c <;> cases d <;> simp [go_sem, Op.eqFields]

set_option maxRecDepth 100000 in
set_option maxHeartbeats 1000000 in
theorem toldv_g (a b : Bool) (w : World) : Gives Try.prog 70 [.agg #[.bool a, .bool b]] w (it (gradeI a b)) := by
  unfold Gives
  refine enter Try.func70 rfl 10 Try.ntmps70 (Nat.le_of_ble_eq_true rfl) (Inv.start (D := fun _ => none) (by intro _ _ h; cases h)) ?_
  refine WC.seq ?_
  refine WC.ofFr [(0, _)] ⟨rfl, trivial⟩ ?_
  refine WC.region ?_
  refine WL.so (SO.box rfl rfl) rfl ?_
  rintro _ _ _ ⟨b1, hb1, rfl, rfl, rfl⟩ -- NEW
  refine WL.yd (Yd.assign rfl) rfl ?_
  refine WL.nil ?_
  refine WP.thenC ?_
  refine WC.seq ?_
  refine WC.seq ?_
  refine WC.ofFr [(2, _), (1, _)] ⟨rfl, rfl, trivial⟩ ?_
  refine WC.region ?_
  refine WL.yd (Yd.loadN Try.isAgg124 Try.sizeOf124 rfl (vs := [_, _]) rfl (by first | exact RdN.own (k := 0) (n := 2) rfl rfl)) rfl ?_
  refine WL.nil ?_
  refine WP.thenC ?_
  refine WC.block ?_
  refine WC.seq ?_
  refine WC.ofFr [(3, _), (2, _)] ⟨rfl, rfl, trivial⟩ ?_
  refine WC.region ?_
  refine WL.yd (Yd.build SA124 rfl (cs := [_, _]) rfl) rfl ?_
  refine WL.yd (Yd.eqS Try.eqGuardType124 (eqVd _ _ _ _) rfl rfl) rfl ?_
  refine WL.yd (Yd.assign rfl) rfl ?_
  refine WL.nil ?_
  refine WP.thenC ?_
  refine WC.cond rfl (fun c4 => ?_) (fun c4 => ?_)
  · try simp only [zq1, zq2, zq3, zq4, zq5, zq6, zq7, zq8] at c4
    refine WC.seq ?_
    refine WC.ofFr [(2, _)] ⟨rfl, trivial⟩ ?_
    refine WC.region ?_
    refine WL.yd (Yd.assign rfl) rfl ?_
    refine WL.nil ?_
    refine WP.thenC ?_
    refine WC.ret ?_
    refine WP.blkRet ?_
    refine WP.thenRet ?_
    refine WP.ret1 rfl rfl Try.results70 (RV.tmp rfl) (fun w hI => ⟨ret_int (by unfold gradeI; cases a <;> cases b <;> simp_all), hI.keep⟩)
  · try simp only [zq1, zq2, zq3, zq4, zq5, zq6, zq7, zq8] at c4
    refine WC.seq ?_
    refine WC.ofFr [(3, _), (2, _)] ⟨rfl, rfl, trivial⟩ ?_
    refine WC.region ?_
    refine WL.yd (Yd.build SA124 rfl (cs := [_, _]) rfl) rfl ?_
    refine WL.yd (Yd.eqS Try.eqGuardType124 (eqVd _ _ _ _) rfl rfl) rfl ?_
    refine WL.yd (Yd.assign rfl) rfl ?_
    refine WL.nil ?_
    refine WP.thenC ?_
    refine WC.cond rfl (fun c7 => ?_) (fun c7 => ?_)
    · try simp only [zq1, zq2, zq3, zq4, zq5, zq6, zq7, zq8] at c7
      refine WC.seq ?_
      refine WC.ofFr [(2, _)] ⟨rfl, trivial⟩ ?_
      refine WC.region ?_
      refine WL.yd (Yd.assign rfl) rfl ?_
      refine WL.nil ?_
      refine WP.thenC ?_
      refine WC.ret ?_
      refine WP.blkRet ?_
      refine WP.thenRet ?_
      refine WP.ret1 rfl rfl Try.results70 (RV.tmp rfl) (fun w hI => ⟨ret_int (by unfold gradeI; cases a <;> cases b <;> simp_all), hI.keep⟩)
    · try simp only [zq1, zq2, zq3, zq4, zq5, zq6, zq7, zq8] at c7
      refine WC.skip ?_
      refine WP.blkNormal ?_
      refine WP.thenC ?_
      refine WC.seq ?_
      refine WC.ofFr [(2, _)] ⟨rfl, trivial⟩ ?_
      refine WC.region ?_
      refine WL.yd (Yd.assign rfl) rfl ?_
      refine WL.nil ?_
      refine WP.thenC ?_
      refine WC.ret ?_
      refine WP.ret1 rfl rfl Try.results70 (RV.tmp rfl) (fun w hI => ⟨ret_int (by unfold gradeI; cases a <;> cases b <;> simp_all), hI.keep⟩)

set_option maxRecDepth 100000 in
set_option maxHeartbeats 1000000 in
theorem ask_ok (T : Tks) (a1 : Option Addr) (n1 c1 : Nat) (q : Nat) (D : Imm) (w : World) (hO : OffAt D q T (.slice a1 n1 c1)) (hR : TksR D T a1 n1) (hH : Holds D w) (hv : tksB T = true) (a : Nat) (ha : a < 5) (hne : allT T ≠ []) : Gives Try.prog 69 [pt q, .iface 118 (.agg #[nt a, it 0])] w (.agg #[.bool ((allT T).any (fun t => turnT T.l.length t a)), .bool ((allT T).any (fun t => !turnT T.l.length t a))]) := by
  unfold Gives
  obtain rfl := hR.tick.len'
  have hl1 := hR.len
  refine enterM Try.func69 rfl 38 Try.ntmps69 (Nat.le_of_ble_eq_true rfl) (Inv.start hH) ?_
  refine WC.seq ?_
  refine WC.ofFr [(0, _), (1, _)] ⟨rfl, rfl, trivial⟩ ?_
  refine WC.region ?_
  refine WL.so (SO.box rfl rfl) rfl ?_
  rintro _ _ _ ⟨b2, hb2, rfl, rfl, rfl⟩ -- NEW
  refine WL.so (SO.box rfl rfl) rfl ?_
  rintro _ _ _ ⟨b3, hb3, rfl, rfl, rfl⟩ -- NEW
  refine WL.so (SO.alloc Try.zeroValue124 rfl) rfl ?_
  rintro _ _ _ ⟨b4, hb4, rfl, rfl, rfl⟩ -- NEW
  refine WL.nil ?_
  refine WP.thenC ?_
  refine WC.seq ?_
  refine WC.seq ?_
  refine WC.ofFr [(4, _), (3, _), (2, _)] ⟨rfl, rfl, rfl, trivial⟩ ?_
  refine WC.region ?_
  refine WL.yd (Yd.load1 Try.isAgg107 rfl (by first | exact Rd.own (k := 0) rfl rfl | exact Rd.own (k := 1) rfl rfl | exact Rd.own (k := 2) rfl rfl)) rfl ?_
  refine WL.so (SO.makes (Enters.func Try.call87 rfl) (fun w hI => truths_g q D _ hI.imm)) rfl ?_
  rintro _ D1 _ ⟨hX1, ⟨bt, rfl, hbt⟩, rfl⟩
  replace hO := hO.ext hX1
  replace hR := hR.ext hX1
  refine WL.nil ?_
  refine WP.thenC ?_
  refine WC.block ?_
  refine WC.ofFr [(2, _), (3, _), (4, _), (8, _)] ⟨rfl, rfl, rfl, rfl, trivial⟩ ?_
  refine WC.rangeIterN (N := (allT T).length) (arg := fun k => truV (gt (allT T) k)) (fun w1 _ hD1 => truths1_iter T a1 _ c1 q bt D1 w1 hO hR hbt hv hD1) rfl Try.call93 rfl (fun k _ h => h = [(b4, .cells (List.toArray [.bool (((allT T).take k).any (fun t => turnT T.l.length t a)), .bool (((allT T).take k).any (fun t => !turnT T.l.length t a))]) 124 (0, 0)), (b3, .cells (List.toArray [.iface 118 (.agg #[nt a, it 0])]) 120 (0, 0)), (b2, .cells (List.toArray [pt q]) 107 (0, 0))]) (fun c _ h => c = .ret ∧ h = [(b4, .cells (List.toArray [.bool ((allT T).any (fun t => turnT T.l.length t a)), .bool ((allT T).any (fun t => !turnT T.l.length t a))]) 124 (0, 0)), (b3, .cells (List.toArray [.iface 118 (.agg #[nt a, it 0])]) 120 (0, 0)), (b2, .cells (List.toArray [pt q]) 107 (0, 0))] ∧ allT T ≠ []) (fun _ _ _ _ _ h => h) rfl ?_ ?_ ?_
  · rintro rec1 l1 Dn0 k D5 _ w1 hrec hk rfl hX5 hsz
    unfold RoundGN
    replace hO := hO.ext hX5
    replace hR := hR.ext hX5
    refine WCF.ofFr [(9, _), (2, _), (3, _), (4, _)] ⟨rfl, rfl, rfl, rfl, trivial⟩ ?_
    refine WCF.region ?_
    refine WLF.so (by intro _ h; cases h) (SO.alloc Try.zeroValue114 rfl) rfl ?_
    rintro _ _ _ ⟨b5, hb5, rfl, rfl, rfl⟩ -- NEW
    refine WLF.so (by intro _ h; cases h) (SO.store 0 rfl Try.sizeOf114 rfl rfl rfl rfl (Nat.le_of_ble_eq_true rfl) (oneB_spec rfl)) rfl ?_
    rintro _ _ _ ⟨rfl, rfl, rfl⟩
    refine WLF.nil ?_
    refine WP.iterBegin 1 rfl hrec ?_
    refine WCF.block ?_
    refine WCF.seq ?_
    refine WCF.ofFr [(5, _), (2, _), (3, _), (4, _)] ⟨rfl, rfl, rfl, rfl, trivial⟩ ?_
    refine WCF.region ?_
    refine WLF.yd (by intro _ h; cases h) (Yd.load1 Try.isAgg120 rfl (by first | exact Rd.own (k := 0) rfl rfl | exact Rd.own (k := 1) rfl rfl | exact Rd.own (k := 2) rfl rfl | exact Rd.own (k := 3) rfl rfl | exact Rd.own (k := 4) rfl rfl | exact Rd.own (k := 5) rfl rfl)) rfl ?_
    refine WLF.yd (by intro _ h; cases h) (Yd.load1 Try.isAgg107 rfl (by first | exact Rd.own (k := 0) rfl rfl | exact Rd.own (k := 1) rfl rfl | exact Rd.own (k := 2) rfl rfl | exact Rd.own (k := 3) rfl rfl | exact Rd.own (k := 4) rfl rfl | exact Rd.own (k := 5) rfl rfl)) rfl ?_
    refine WLF.yd (by intro _ h; cases h) (Yd.loadN Try.isAgg114 Try.sizeOf114 rfl (vs := [_, _, _, _, _, _, _, _, _, _]) rfl (by first | exact RdN.own (k := 0) (n := 10) rfl rfl | exact RdN.own (k := 1) (n := 10) rfl rfl | exact RdN.own (k := 2) (n := 10) rfl rfl | exact RdN.own (k := 3) (n := 10) rfl rfl | exact RdN.own (k := 4) (n := 10) rfl rfl | exact RdN.own (k := 5) (n := 10) rfl rfl)) rfl ?_
    refine WLF.so (by intro _ h; cases h) (SO.call (Enters.meth Try.call119 (fun w => by kernel_rfl) rfl rfl) (fun w hI => turnis_g T a1 _ c1 q D5 _ hO hR hI.imm hv (gt (allT T) k) a ha)) rfl ?_
    rintro _ _ _ ⟨rfl, rfl, rfl⟩
    refine WLF.yd (by intro _ h; cases h) (Yd.assign rfl) rfl ?_
    refine WLF.nil ?_
    refine WP.thenCF ?_
    refine WCF.seq ?_
    refine WCF.ofFr [(6, _), (4, _)] ⟨rfl, rfl, trivial⟩ ?_
    refine WCF.region ?_
    refine WLF.yd (by intro _ h; cases h) (Yd.fieldAddr FA124_0 rfl) rfl ?_
    refine WLF.yd (by intro _ h; cases h) (Yd.load1 Try.isAgg4 rfl (by first | exact Rd.own (k := 0) rfl rfl | exact Rd.own (k := 1) rfl rfl | exact Rd.own (k := 2) rfl rfl | exact Rd.own (k := 3) rfl rfl | exact Rd.own (k := 4) rfl rfl | exact Rd.own (k := 5) rfl rfl)) rfl ?_
    refine WLF.yd (by intro _ h; cases h) (Yd.move rfl) rfl ?_
    refine WLF.part 16 rfl (fun g16 => ?_) (fun g16 => ?_)
    · try simp only [zq1, zq2, zq3, zq4, zq5, zq6, zq7, zq8] at g16
      refine WLF.skip (by intro _ h; cases h) rfl rfl ?_
      refine WLF.yd (by intro _ h; cases h) (Yd.pickT rfl rfl) rfl ?_
      refine WLF.yd (by intro _ h; cases h) (Yd.fieldAddr FA124_1 rfl) rfl ?_
      refine WLF.yd (by intro _ h; cases h) (Yd.load1 Try.isAgg4 rfl (by first | exact Rd.own (k := 0) rfl rfl | exact Rd.own (k := 1) rfl rfl | exact Rd.own (k := 2) rfl rfl | exact Rd.own (k := 3) rfl rfl | exact Rd.own (k := 4) rfl rfl | exact Rd.own (k := 5) rfl rfl)) rfl ?_
      refine WLF.yd (by intro _ h; cases h) (Yd.move rfl) rfl ?_
      refine WLF.part 21 rfl (fun g21 => ?_) (fun g21 => ?_)
      · try simp only [zq1, zq2, zq3, zq4, zq5, zq6, zq7, zq8] at g21
        refine WLF.skip (by intro _ h; cases h) rfl rfl ?_
        refine WLF.skip (by intro _ h; cases h) rfl rfl ?_
        refine WLF.yd (by intro _ h; cases h) (Yd.pickT rfl rfl) rfl ?_
        refine WLF.yd (by intro _ h; cases h) (Yd.build SA124 rfl (cs := [_, _]) rfl) rfl ?_
        refine WLF.so (by intro _ h; cases h) (SO.store 3 rfl Try.sizeOf124 rfl rfl rfl rfl (Nat.le_of_ble_eq_true rfl) (oneB_spec rfl)) rfl ?_
        rintro _ _ _ ⟨rfl, rfl, rfl⟩
        refine WLF.nil ?_
        refine WP.thenCF ?_
        refine WCF.seq ?_
        refine WCF.ofFr [(4, _)] ⟨rfl, trivial⟩ ?_
        refine WCF.region ?_
        refine WLF.yd (by intro _ h; cases h) (Yd.loadN Try.isAgg124 Try.sizeOf124 rfl (vs := [_, _]) rfl (by first | exact RdN.own (k := 0) (n := 2) rfl rfl | exact RdN.own (k := 1) (n := 2) rfl rfl | exact RdN.own (k := 2) (n := 2) rfl rfl | exact RdN.own (k := 3) (n := 2) rfl rfl | exact RdN.own (k := 4) (n := 2) rfl rfl | exact RdN.own (k := 5) (n := 2) rfl rfl)) rfl ?_
        refine WLF.yd (by intro _ h; cases h) (Yd.build SA124 rfl (cs := [_, _]) rfl) rfl ?_
        refine WLF.yd (by intro _ h; cases h) (Yd.eqS Try.eqGuardType124 (eqVd _ _ _ _) rfl rfl) rfl ?_
        refine WLF.nil ?_
        refine WP.thenCF ?_
        refine WCF.cond rfl (fun c28 => ?_) (fun c28 => ?_)
        · try simp only [zq1, zq2, zq3, zq4, zq5, zq6, zq7, zq8] at c28
          refine WCF.seq ?_
          refine WCF.ofFr [(4, _)] ⟨rfl, trivial⟩ ?_
          refine WCF.region ?_
          refine WLF.yd (by intro _ h; cases h) (Yd.loadN Try.isAgg124 Try.sizeOf124 rfl (vs := [_, _]) rfl (by first | exact RdN.own (k := 0) (n := 2) rfl rfl | exact RdN.own (k := 1) (n := 2) rfl rfl | exact RdN.own (k := 2) (n := 2) rfl rfl | exact RdN.own (k := 3) (n := 2) rfl rfl | exact RdN.own (k := 4) (n := 2) rfl rfl | exact RdN.own (k := 5) (n := 2) rfl rfl)) rfl ?_
          refine WLF.so (by intro _ h; cases h) (SO.store 3 rfl Try.sizeOf124 rfl rfl rfl rfl (Nat.le_of_ble_eq_true rfl) (oneB_spec rfl)) rfl ?_
          rintro _ _ _ ⟨rfl, rfl, rfl⟩
          refine WLF.nil ?_
          refine WP.thenCF ?_
          refine WCF.ret ?_
          refine WP.blkRet ?_
          have hA : (allT T).any (fun t => turnT T.l.length t a) = true := any_of_take (k := k + 1) (by rw [any_take hk]; simp_all)
          have hN : (allT T).any (fun t => !turnT T.l.length t a) = true := any_of_take (k := k + 1) (by rw [any_take hk]; simp_all)
          refine WP.iterRetN (h1 := [_, _, _]) (fun _ h => List.mem_cons_of_mem _ h) (fun h => (List.nodup_cons.1 h).2) (DExt.refl _ _) ⟨rfl, ?_, List.ne_nil_of_length_pos (by omega)⟩
          rw [hA, hN]
          first
            | rfl
            | (exfalso; revert c28; cases turnT T.l.length (gt (allT T) k) a <;> simp; done)
            | (have e : turnT T.l.length (gt (allT T) k) a = true := by simp_all
               rw [e]; rfl)
            | (have e : turnT T.l.length (gt (allT T) k) a = false := by simp_all
               rw [e]; rfl)
        · try simp only [zq1, zq2, zq3, zq4, zq5, zq6, zq7, zq8] at c28
          refine WCF.skip ?_
          refine WP.blkNormal ?_
          refine WP.iterOnN hrec (h1 := [_, _, _]) (fun _ h => List.mem_cons_of_mem _ h) (fun h => (List.nodup_cons.1 h).2) (DExt.refl _ _) ?_
          rw [any_take hk, any_take hk, g16, g21]
          rfl
      · try simp only [zq1, zq2, zq3, zq4, zq5, zq6, zq7, zq8] at g21
        refine WLF.ydg (by intro _ h; cases h) rfl (Yd.move rfl) rfl ?_
        refine WLF.ydg (by intro _ h; cases h) rfl (Yd.not rfl) rfl ?_
        refine WLF.yd (by intro _ h; cases h) (Yd.pickF rfl rfl) rfl ?_
        refine WLF.yd (by intro _ h; cases h) (Yd.build SA124 rfl (cs := [_, _]) rfl) rfl ?_
        refine WLF.so (by intro _ h; cases h) (SO.store 3 rfl Try.sizeOf124 rfl rfl rfl rfl (Nat.le_of_ble_eq_true rfl) (oneB_spec rfl)) rfl ?_
        rintro _ _ _ ⟨rfl, rfl, rfl⟩
        refine WLF.nil ?_
        refine WP.thenCF ?_
        refine WCF.seq ?_
        refine WCF.ofFr [(4, _)] ⟨rfl, trivial⟩ ?_
        refine WCF.region ?_
        refine WLF.yd (by intro _ h; cases h) (Yd.loadN Try.isAgg124 Try.sizeOf124 rfl (vs := [_, _]) rfl (by first | exact RdN.own (k := 0) (n := 2) rfl rfl | exact RdN.own (k := 1) (n := 2) rfl rfl | exact RdN.own (k := 2) (n := 2) rfl rfl | exact RdN.own (k := 3) (n := 2) rfl rfl | exact RdN.own (k := 4) (n := 2) rfl rfl | exact RdN.own (k := 5) (n := 2) rfl rfl)) rfl ?_
        refine WLF.yd (by intro _ h; cases h) (Yd.build SA124 rfl (cs := [_, _]) rfl) rfl ?_
        refine WLF.yd (by intro _ h; cases h) (Yd.eqS Try.eqGuardType124 (eqVd _ _ _ _) rfl rfl) rfl ?_
        refine WLF.nil ?_
        refine WP.thenCF ?_
        refine WCF.cond rfl (fun c28 => ?_) (fun c28 => ?_)
        · try simp only [zq1, zq2, zq3, zq4, zq5, zq6, zq7, zq8] at c28
          refine WCF.seq ?_
          refine WCF.ofFr [(4, _)] ⟨rfl, trivial⟩ ?_
          refine WCF.region ?_
          refine WLF.yd (by intro _ h; cases h) (Yd.loadN Try.isAgg124 Try.sizeOf124 rfl (vs := [_, _]) rfl (by first | exact RdN.own (k := 0) (n := 2) rfl rfl | exact RdN.own (k := 1) (n := 2) rfl rfl | exact RdN.own (k := 2) (n := 2) rfl rfl | exact RdN.own (k := 3) (n := 2) rfl rfl | exact RdN.own (k := 4) (n := 2) rfl rfl | exact RdN.own (k := 5) (n := 2) rfl rfl)) rfl ?_
          refine WLF.so (by intro _ h; cases h) (SO.store 3 rfl Try.sizeOf124 rfl rfl rfl rfl (Nat.le_of_ble_eq_true rfl) (oneB_spec rfl)) rfl ?_
          rintro _ _ _ ⟨rfl, rfl, rfl⟩
          refine WLF.nil ?_
          refine WP.thenCF ?_
          refine WCF.ret ?_
          refine WP.blkRet ?_
          have hA : (allT T).any (fun t => turnT T.l.length t a) = true := any_of_take (k := k + 1) (by rw [any_take hk]; simp_all)
          have hN : (allT T).any (fun t => !turnT T.l.length t a) = true := any_of_take (k := k + 1) (by rw [any_take hk]; simp_all)
          refine WP.iterRetN (h1 := [_, _, _]) (fun _ h => List.mem_cons_of_mem _ h) (fun h => (List.nodup_cons.1 h).2) (DExt.refl _ _) ⟨rfl, ?_, List.ne_nil_of_length_pos (by omega)⟩
          rw [hA, hN]
          first
            | rfl
            | (exfalso; revert c28; cases turnT T.l.length (gt (allT T) k) a <;> simp; done)
            | (have e : turnT T.l.length (gt (allT T) k) a = true := by simp_all
               rw [e]; rfl)
            | (have e : turnT T.l.length (gt (allT T) k) a = false := by simp_all
               rw [e]; rfl)
        · try simp only [zq1, zq2, zq3, zq4, zq5, zq6, zq7, zq8] at c28
          refine WCF.skip ?_
          refine WP.blkNormal ?_
          refine WP.iterOnN hrec (h1 := [_, _, _]) (fun _ h => List.mem_cons_of_mem _ h) (fun h => (List.nodup_cons.1 h).2) (DExt.refl _ _) ?_
          rw [any_take hk, any_take hk, g16, g21]
          rfl
    · try simp only [zq1, zq2, zq3, zq4, zq5, zq6, zq7, zq8] at g16
      refine WLF.ydg (by intro _ h; cases h) rfl (Yd.move rfl) rfl ?_
      refine WLF.yd (by intro _ h; cases h) (Yd.pickF rfl rfl) rfl ?_
      refine WLF.yd (by intro _ h; cases h) (Yd.fieldAddr FA124_1 rfl) rfl ?_
      refine WLF.yd (by intro _ h; cases h) (Yd.load1 Try.isAgg4 rfl (by first | exact Rd.own (k := 0) rfl rfl | exact Rd.own (k := 1) rfl rfl | exact Rd.own (k := 2) rfl rfl | exact Rd.own (k := 3) rfl rfl | exact Rd.own (k := 4) rfl rfl | exact Rd.own (k := 5) rfl rfl)) rfl ?_
      refine WLF.yd (by intro _ h; cases h) (Yd.move rfl) rfl ?_
      refine WLF.part 21 rfl (fun g21 => ?_) (fun g21 => ?_)
      · try simp only [zq1, zq2, zq3, zq4, zq5, zq6, zq7, zq8] at g21
        refine WLF.skip (by intro _ h; cases h) rfl rfl ?_
        refine WLF.skip (by intro _ h; cases h) rfl rfl ?_
        refine WLF.yd (by intro _ h; cases h) (Yd.pickT rfl rfl) rfl ?_
        refine WLF.yd (by intro _ h; cases h) (Yd.build SA124 rfl (cs := [_, _]) rfl) rfl ?_
        refine WLF.so (by intro _ h; cases h) (SO.store 3 rfl Try.sizeOf124 rfl rfl rfl rfl (Nat.le_of_ble_eq_true rfl) (oneB_spec rfl)) rfl ?_
        rintro _ _ _ ⟨rfl, rfl, rfl⟩
        refine WLF.nil ?_
        refine WP.thenCF ?_
        refine WCF.seq ?_
        refine WCF.ofFr [(4, _)] ⟨rfl, trivial⟩ ?_
        refine WCF.region ?_
        refine WLF.yd (by intro _ h; cases h) (Yd.loadN Try.isAgg124 Try.sizeOf124 rfl (vs := [_, _]) rfl (by first | exact RdN.own (k := 0) (n := 2) rfl rfl | exact RdN.own (k := 1) (n := 2) rfl rfl | exact RdN.own (k := 2) (n := 2) rfl rfl | exact RdN.own (k := 3) (n := 2) rfl rfl | exact RdN.own (k := 4) (n := 2) rfl rfl | exact RdN.own (k := 5) (n := 2) rfl rfl)) rfl ?_
        refine WLF.yd (by intro _ h; cases h) (Yd.build SA124 rfl (cs := [_, _]) rfl) rfl ?_
        refine WLF.yd (by intro _ h; cases h) (Yd.eqS Try.eqGuardType124 (eqVd _ _ _ _) rfl rfl) rfl ?_
        refine WLF.nil ?_
        refine WP.thenCF ?_
        refine WCF.cond rfl (fun c28 => ?_) (fun c28 => ?_)
        · try simp only [zq1, zq2, zq3, zq4, zq5, zq6, zq7, zq8] at c28
          refine WCF.seq ?_
          refine WCF.ofFr [(4, _)] ⟨rfl, trivial⟩ ?_
          refine WCF.region ?_
          refine WLF.yd (by intro _ h; cases h) (Yd.loadN Try.isAgg124 Try.sizeOf124 rfl (vs := [_, _]) rfl (by first | exact RdN.own (k := 0) (n := 2) rfl rfl | exact RdN.own (k := 1) (n := 2) rfl rfl | exact RdN.own (k := 2) (n := 2) rfl rfl | exact RdN.own (k := 3) (n := 2) rfl rfl | exact RdN.own (k := 4) (n := 2) rfl rfl | exact RdN.own (k := 5) (n := 2) rfl rfl)) rfl ?_
          refine WLF.so (by intro _ h; cases h) (SO.store 3 rfl Try.sizeOf124 rfl rfl rfl rfl (Nat.le_of_ble_eq_true rfl) (oneB_spec rfl)) rfl ?_
          rintro _ _ _ ⟨rfl, rfl, rfl⟩
          refine WLF.nil ?_
          refine WP.thenCF ?_
          refine WCF.ret ?_
          refine WP.blkRet ?_
          have hA : (allT T).any (fun t => turnT T.l.length t a) = true := any_of_take (k := k + 1) (by rw [any_take hk]; simp_all)
          have hN : (allT T).any (fun t => !turnT T.l.length t a) = true := any_of_take (k := k + 1) (by rw [any_take hk]; simp_all)
          refine WP.iterRetN (h1 := [_, _, _]) (fun _ h => List.mem_cons_of_mem _ h) (fun h => (List.nodup_cons.1 h).2) (DExt.refl _ _) ⟨rfl, ?_, List.ne_nil_of_length_pos (by omega)⟩
          rw [hA, hN]
          first
            | rfl
            | (exfalso; revert c28; cases turnT T.l.length (gt (allT T) k) a <;> simp; done)
            | (have e : turnT T.l.length (gt (allT T) k) a = true := by simp_all
               rw [e]; rfl)
            | (have e : turnT T.l.length (gt (allT T) k) a = false := by simp_all
               rw [e]; rfl)
        · try simp only [zq1, zq2, zq3, zq4, zq5, zq6, zq7, zq8] at c28
          refine WCF.skip ?_
          refine WP.blkNormal ?_
          refine WP.iterOnN hrec (h1 := [_, _, _]) (fun _ h => List.mem_cons_of_mem _ h) (fun h => (List.nodup_cons.1 h).2) (DExt.refl _ _) ?_
          rw [any_take hk, any_take hk, g16, g21]
          rfl
      · try simp only [zq1, zq2, zq3, zq4, zq5, zq6, zq7, zq8] at g21
        refine WLF.ydg (by intro _ h; cases h) rfl (Yd.move rfl) rfl ?_
        refine WLF.ydg (by intro _ h; cases h) rfl (Yd.not rfl) rfl ?_
        refine WLF.yd (by intro _ h; cases h) (Yd.pickF rfl rfl) rfl ?_
        refine WLF.yd (by intro _ h; cases h) (Yd.build SA124 rfl (cs := [_, _]) rfl) rfl ?_
        refine WLF.so (by intro _ h; cases h) (SO.store 3 rfl Try.sizeOf124 rfl rfl rfl rfl (Nat.le_of_ble_eq_true rfl) (oneB_spec rfl)) rfl ?_
        rintro _ _ _ ⟨rfl, rfl, rfl⟩
        refine WLF.nil ?_
        refine WP.thenCF ?_
        refine WCF.seq ?_
        refine WCF.ofFr [(4, _)] ⟨rfl, trivial⟩ ?_
        refine WCF.region ?_
        refine WLF.yd (by intro _ h; cases h) (Yd.loadN Try.isAgg124 Try.sizeOf124 rfl (vs := [_, _]) rfl (by first | exact RdN.own (k := 0) (n := 2) rfl rfl | exact RdN.own (k := 1) (n := 2) rfl rfl | exact RdN.own (k := 2) (n := 2) rfl rfl | exact RdN.own (k := 3) (n := 2) rfl rfl | exact RdN.own (k := 4) (n := 2) rfl rfl | exact RdN.own (k := 5) (n := 2) rfl rfl)) rfl ?_
        refine WLF.yd (by intro _ h; cases h) (Yd.build SA124 rfl (cs := [_, _]) rfl) rfl ?_
        refine WLF.yd (by intro _ h; cases h) (Yd.eqS Try.eqGuardType124 (eqVd _ _ _ _) rfl rfl) rfl ?_
        refine WLF.nil ?_
        refine WP.thenCF ?_
        refine WCF.cond rfl (fun c28 => ?_) (fun c28 => ?_)
        · try simp only [zq1, zq2, zq3, zq4, zq5, zq6, zq7, zq8] at c28
          refine WCF.seq ?_
          refine WCF.ofFr [(4, _)] ⟨rfl, trivial⟩ ?_
          refine WCF.region ?_
          refine WLF.yd (by intro _ h; cases h) (Yd.loadN Try.isAgg124 Try.sizeOf124 rfl (vs := [_, _]) rfl (by first | exact RdN.own (k := 0) (n := 2) rfl rfl | exact RdN.own (k := 1) (n := 2) rfl rfl | exact RdN.own (k := 2) (n := 2) rfl rfl | exact RdN.own (k := 3) (n := 2) rfl rfl | exact RdN.own (k := 4) (n := 2) rfl rfl | exact RdN.own (k := 5) (n := 2) rfl rfl)) rfl ?_
          refine WLF.so (by intro _ h; cases h) (SO.store 3 rfl Try.sizeOf124 rfl rfl rfl rfl (Nat.le_of_ble_eq_true rfl) (oneB_spec rfl)) rfl ?_
          rintro _ _ _ ⟨rfl, rfl, rfl⟩
          refine WLF.nil ?_
          refine WP.thenCF ?_
          refine WCF.ret ?_
          refine WP.blkRet ?_
          have hA : (allT T).any (fun t => turnT T.l.length t a) = true := any_of_take (k := k + 1) (by rw [any_take hk]; simp_all)
          have hN : (allT T).any (fun t => !turnT T.l.length t a) = true := any_of_take (k := k + 1) (by rw [any_take hk]; simp_all)
          refine WP.iterRetN (h1 := [_, _, _]) (fun _ h => List.mem_cons_of_mem _ h) (fun h => (List.nodup_cons.1 h).2) (DExt.refl _ _) ⟨rfl, ?_, List.ne_nil_of_length_pos (by omega)⟩
          rw [hA, hN]
          first
            | rfl
            | (exfalso; revert c28; cases turnT T.l.length (gt (allT T) k) a <;> simp; done)
            | (have e : turnT T.l.length (gt (allT T) k) a = true := by simp_all
               rw [e]; rfl)
            | (have e : turnT T.l.length (gt (allT T) k) a = false := by simp_all
               rw [e]; rfl)
        · try simp only [zq1, zq2, zq3, zq4, zq5, zq6, zq7, zq8] at c28
          refine WCF.skip ?_
          refine WP.blkNormal ?_
          refine WP.iterOnN hrec (h1 := [_, _, _]) (fun _ h => List.mem_cons_of_mem _ h) (fun h => (List.nodup_cons.1 h).2) (DExt.refl _ _) ?_
          rw [any_take hk, any_take hk, g16, g21]
          rfl
  · rintro Dn1 D6 _ hDn1 hX6 rfl
    rw [List.take_length]
    refine WP.blkNormal ?_
    refine WP.thenC ?_
    refine WC.seq ?_
    refine WC.ofFr [(4, _)] ⟨rfl, trivial⟩ ?_
    refine WC.region ?_
    refine WL.yd (Yd.fieldAddr FA124_0 rfl) rfl ?_
    refine WL.yd (Yd.load1 Try.isAgg4 rfl (by first | exact Rd.own (k := 0) rfl rfl | exact Rd.own (k := 1) rfl rfl | exact Rd.own (k := 2) rfl rfl | exact Rd.own (k := 3) rfl rfl)) rfl ?_
    refine WL.yd (Yd.move rfl) rfl ?_
    refine WL.part 32 rfl (fun g32 => ?_) (fun g32 => ?_)
    · try simp only [zq1, zq2, zq3, zq4, zq5, zq6, zq7, zq8] at g32
      refine WL.skip rfl rfl ?_
      refine WL.skip rfl rfl ?_
      refine WL.yd (Yd.pickT rfl rfl) rfl ?_
      refine WL.so (SO.call (Enters.func Try.call83 rfl) (fun w hI => mustK_ok _ _)) rfl ?_
      rintro _ _ _ ⟨rfl, rfl, rfl⟩
      refine WL.nil ?_
      refine WP.thenC ?_
      refine WC.seq ?_
      refine WC.ofFr [(4, _)] ⟨rfl, trivial⟩ ?_
      refine WC.region ?_
      refine WL.yd (Yd.loadN Try.isAgg124 Try.sizeOf124 rfl (vs := [_, _]) rfl (by first | exact RdN.own (k := 0) (n := 2) rfl rfl | exact RdN.own (k := 1) (n := 2) rfl rfl | exact RdN.own (k := 2) (n := 2) rfl rfl | exact RdN.own (k := 3) (n := 2) rfl rfl)) rfl ?_
      refine WL.so (SO.store 1 rfl Try.sizeOf124 rfl rfl rfl rfl (Nat.le_of_ble_eq_true rfl) (oneB_spec rfl)) rfl ?_
      rintro _ _ _ ⟨rfl, rfl, rfl⟩
      refine WL.nil ?_
      refine WP.thenC ?_
      refine WC.ret ?_
      refine WP.retMs [Dn1] [_, _, _] [_] [_] rfl rfl (fun _ h => h) (fun h => h) Try.results69 ⟨(RV.cellN Try.isAgg124 Try.sizeOf124 rfl (vs := [_, _]) rfl (by first | exact RdN.own (k := 0) (n := 2) rfl rfl | exact RdN.own (k := 1) (n := 2) rfl rfl | exact RdN.own (k := 2) (n := 2) rfl rfl | exact RdN.own (k := 3) (n := 2) rfl rfl)), trivial⟩ (fun w hI => ⟨rfl, hI.keep⟩)
    · try simp only [zq1, zq2, zq3, zq4, zq5, zq6, zq7, zq8] at g32
      refine WL.ydg rfl (Yd.fieldAddr FA124_1 rfl) rfl ?_
      refine WL.ydg rfl (Yd.load1 Try.isAgg4 rfl (by first | exact Rd.own (k := 0) rfl rfl | exact Rd.own (k := 1) rfl rfl | exact Rd.own (k := 2) rfl rfl | exact Rd.own (k := 3) rfl rfl)) rfl ?_
      refine WL.yd (Yd.pickF rfl rfl) rfl ?_
      refine WL.part 35 rfl (fun g35 => ?_) (fun g35 => ?_)
      · try simp only [zq1, zq2, zq3, zq4, zq5, zq6, zq7, zq8] at g35
        refine WL.so (SO.call (Enters.func Try.call83 rfl) (fun w hI => mustK_ok _ _)) rfl ?_
        rintro _ _ _ ⟨rfl, rfl, rfl⟩
        refine WL.nil ?_
        refine WP.thenC ?_
        refine WC.seq ?_
        refine WC.ofFr [(4, _)] ⟨rfl, trivial⟩ ?_
        refine WC.region ?_
        refine WL.yd (Yd.loadN Try.isAgg124 Try.sizeOf124 rfl (vs := [_, _]) rfl (by first | exact RdN.own (k := 0) (n := 2) rfl rfl | exact RdN.own (k := 1) (n := 2) rfl rfl | exact RdN.own (k := 2) (n := 2) rfl rfl | exact RdN.own (k := 3) (n := 2) rfl rfl)) rfl ?_
        refine WL.so (SO.store 1 rfl Try.sizeOf124 rfl rfl rfl rfl (Nat.le_of_ble_eq_true rfl) (oneB_spec rfl)) rfl ?_
        rintro _ _ _ ⟨rfl, rfl, rfl⟩
        refine WL.nil ?_
        refine WP.thenC ?_
        refine WC.ret ?_
        refine WP.retMs [Dn1] [_, _, _] [_] [_] rfl rfl (fun _ h => h) (fun h => h) Try.results69 ⟨(RV.cellN Try.isAgg124 Try.sizeOf124 rfl (vs := [_, _]) rfl (by first | exact RdN.own (k := 0) (n := 2) rfl rfl | exact RdN.own (k := 1) (n := 2) rfl rfl | exact RdN.own (k := 2) (n := 2) rfl rfl | exact RdN.own (k := 3) (n := 2) rfl rfl)), trivial⟩ (fun w hI => ⟨rfl, hI.keep⟩)
      · try simp only [zq1, zq2, zq3, zq4, zq5, zq6, zq7, zq8] at g35
        exact (any_split hne g32 g35).elim
  · rintro Dn1 c D6 _ hDn1 hX6 ⟨rfl, rfl, hne2⟩
    refine WC.ret ?_
    refine WP.blkRet ?_
    refine WP.thenRet ?_
    refine WP.retMs [Dn1] [_, _, _] [_] [_] rfl rfl (fun _ h => h) (fun h => h) Try.results69 ⟨(RV.cellN Try.isAgg124 Try.sizeOf124 rfl (vs := [_, _]) rfl (by first | exact RdN.own (k := 0) (n := 2) rfl rfl | exact RdN.own (k := 1) (n := 2) rfl rfl | exact RdN.own (k := 2) (n := 2) rfl rfl | exact RdN.own (k := 3) (n := 2) rfl rfl)), trivial⟩ (fun w hI => ⟨rfl, hI.keep⟩)

set_option maxRecDepth 100000 in
set_option maxHeartbeats 1000000 in
theorem ask_no (T : Tks) (a1 : Option Addr) (n1 c1 : Nat) (q : Nat) (D : Imm) (w : World) (hO : OffAt D q T (.slice a1 n1 c1)) (hR : TksR D T a1 n1) (hH : Holds D w) (hv : tksB T = true) (a : Nat) (ha : a < 5) (hne : allT T = []) : Fails Try.prog 69 [pt q, .iface 118 (.agg #[nt a, it 0])] w (stopK 10) := by
  unfold Fails
  obtain rfl := hR.tick.len'
  have hl1 := hR.len
  refine enterM Try.func69 rfl 38 Try.ntmps69 (Nat.le_of_ble_eq_true rfl) (Inv.start hH) ?_
  refine WC.seq ?_
  refine WC.ofFr [(0, _), (1, _)] ⟨rfl, rfl, trivial⟩ ?_
  refine WC.region ?_
  refine WL.so (SO.box rfl rfl) rfl ?_
  rintro _ _ _ ⟨b2, hb2, rfl, rfl, rfl⟩ -- NEW
  refine WL.so (SO.box rfl rfl) rfl ?_
  rintro _ _ _ ⟨b3, hb3, rfl, rfl, rfl⟩ -- NEW
  refine WL.so (SO.alloc Try.zeroValue124 rfl) rfl ?_
  rintro _ _ _ ⟨b4, hb4, rfl, rfl, rfl⟩ -- NEW
  refine WL.nil ?_
  refine WP.thenC ?_
  refine WC.seq ?_
  refine WC.seq ?_
  refine WC.ofFr [(4, _), (3, _), (2, _)] ⟨rfl, rfl, rfl, trivial⟩ ?_
  refine WC.region ?_
  refine WL.yd (Yd.load1 Try.isAgg107 rfl (by first | exact Rd.own (k := 0) rfl rfl | exact Rd.own (k := 1) rfl rfl | exact Rd.own (k := 2) rfl rfl)) rfl ?_
  refine WL.so (SO.makes (Enters.func Try.call87 rfl) (fun w hI => truths_g q D _ hI.imm)) rfl ?_
  rintro _ D1 _ ⟨hX1, ⟨bt, rfl, hbt⟩, rfl⟩
  replace hO := hO.ext hX1
  replace hR := hR.ext hX1
  refine WL.nil ?_
  refine WP.thenC ?_
  refine WC.block ?_
  refine WC.ofFr [(2, _), (3, _), (4, _), (8, _)] ⟨rfl, rfl, rfl, rfl, trivial⟩ ?_
  refine WC.rangeIterN (N := (allT T).length) (arg := fun k => truV (gt (allT T) k)) (fun w1 _ hD1 => truths1_iter T a1 _ c1 q bt D1 w1 hO hR hbt hv hD1) rfl Try.call93 rfl (fun k _ h => h = [(b4, .cells (List.toArray [.bool (((allT T).take k).any (fun t => turnT T.l.length t a)), .bool (((allT T).take k).any (fun t => !turnT T.l.length t a))]) 124 (0, 0)), (b3, .cells (List.toArray [.iface 118 (.agg #[nt a, it 0])]) 120 (0, 0)), (b2, .cells (List.toArray [pt q]) 107 (0, 0))]) (fun c _ h => c = .ret ∧ h = [(b4, .cells (List.toArray [.bool ((allT T).any (fun t => turnT T.l.length t a)), .bool ((allT T).any (fun t => !turnT T.l.length t a))]) 124 (0, 0)), (b3, .cells (List.toArray [.iface 118 (.agg #[nt a, it 0])]) 120 (0, 0)), (b2, .cells (List.toArray [pt q]) 107 (0, 0))] ∧ allT T ≠ []) (fun _ _ _ _ _ h => h) rfl ?_ ?_ ?_
  · rintro rec1 l1 Dn0 k D5 _ w1 hrec hk rfl hX5 hsz
    unfold RoundGN
    replace hO := hO.ext hX5
    replace hR := hR.ext hX5
    refine WCF.ofFr [(9, _), (2, _), (3, _), (4, _)] ⟨rfl, rfl, rfl, rfl, trivial⟩ ?_
    refine WCF.region ?_
    refine WLF.so (by intro _ h; cases h) (SO.alloc Try.zeroValue114 rfl) rfl ?_
    rintro _ _ _ ⟨b5, hb5, rfl, rfl, rfl⟩ -- NEW
    refine WLF.so (by intro _ h; cases h) (SO.store 0 rfl Try.sizeOf114 rfl rfl rfl rfl (Nat.le_of_ble_eq_true rfl) (oneB_spec rfl)) rfl ?_
    rintro _ _ _ ⟨rfl, rfl, rfl⟩
    refine WLF.nil ?_
    refine WP.iterBegin 1 rfl hrec ?_
    refine WCF.block ?_
    refine WCF.seq ?_
    refine WCF.ofFr [(5, _), (2, _), (3, _), (4, _)] ⟨rfl, rfl, rfl, rfl, trivial⟩ ?_
    refine WCF.region ?_
    refine WLF.yd (by intro _ h; cases h) (Yd.load1 Try.isAgg120 rfl (by first | exact Rd.own (k := 0) rfl rfl | exact Rd.own (k := 1) rfl rfl | exact Rd.own (k := 2) rfl rfl | exact Rd.own (k := 3) rfl rfl | exact Rd.own (k := 4) rfl rfl | exact Rd.own (k := 5) rfl rfl)) rfl ?_
    refine WLF.yd (by intro _ h; cases h) (Yd.load1 Try.isAgg107 rfl (by first | exact Rd.own (k := 0) rfl rfl | exact Rd.own (k := 1) rfl rfl | exact Rd.own (k := 2) rfl rfl | exact Rd.own (k := 3) rfl rfl | exact Rd.own (k := 4) rfl rfl | exact Rd.own (k := 5) rfl rfl)) rfl ?_
    refine WLF.yd (by intro _ h; cases h) (Yd.loadN Try.isAgg114 Try.sizeOf114 rfl (vs := [_, _, _, _, _, _, _, _, _, _]) rfl (by first | exact RdN.own (k := 0) (n := 10) rfl rfl | exact RdN.own (k := 1) (n := 10) rfl rfl | exact RdN.own (k := 2) (n := 10) rfl rfl | exact RdN.own (k := 3) (n := 10) rfl rfl | exact RdN.own (k := 4) (n := 10) rfl rfl | exact RdN.own (k := 5) (n := 10) rfl rfl)) rfl ?_
    refine WLF.so (by intro _ h; cases h) (SO.call (Enters.meth Try.call119 (fun w => by kernel_rfl) rfl rfl) (fun w hI => turnis_g T a1 _ c1 q D5 _ hO hR hI.imm hv (gt (allT T) k) a ha)) rfl ?_
    rintro _ _ _ ⟨rfl, rfl, rfl⟩
    refine WLF.yd (by intro _ h; cases h) (Yd.assign rfl) rfl ?_
    refine WLF.nil ?_
    refine WP.thenCF ?_
    refine WCF.seq ?_
    refine WCF.ofFr [(6, _), (4, _)] ⟨rfl, rfl, trivial⟩ ?_
    refine WCF.region ?_
    refine WLF.yd (by intro _ h; cases h) (Yd.fieldAddr FA124_0 rfl) rfl ?_
    refine WLF.yd (by intro _ h; cases h) (Yd.load1 Try.isAgg4 rfl (by first | exact Rd.own (k := 0) rfl rfl | exact Rd.own (k := 1) rfl rfl | exact Rd.own (k := 2) rfl rfl | exact Rd.own (k := 3) rfl rfl | exact Rd.own (k := 4) rfl rfl | exact Rd.own (k := 5) rfl rfl)) rfl ?_
    refine WLF.yd (by intro _ h; cases h) (Yd.move rfl) rfl ?_
    refine WLF.part 16 rfl (fun g16 => ?_) (fun g16 => ?_)
    · try simp only [zq1, zq2, zq3, zq4, zq5, zq6, zq7, zq8] at g16
      refine WLF.skip (by intro _ h; cases h) rfl rfl ?_
      refine WLF.yd (by intro _ h; cases h) (Yd.pickT rfl rfl) rfl ?_
      refine WLF.yd (by intro _ h; cases h) (Yd.fieldAddr FA124_1 rfl) rfl ?_
      refine WLF.yd (by intro _ h; cases h) (Yd.load1 Try.isAgg4 rfl (by first | exact Rd.own (k := 0) rfl rfl | exact Rd.own (k := 1) rfl rfl | exact Rd.own (k := 2) rfl rfl | exact Rd.own (k := 3) rfl rfl | exact Rd.own (k := 4) rfl rfl | exact Rd.own (k := 5) rfl rfl)) rfl ?_
      refine WLF.yd (by intro _ h; cases h) (Yd.move rfl) rfl ?_
      refine WLF.part 21 rfl (fun g21 => ?_) (fun g21 => ?_)
      · try simp only [zq1, zq2, zq3, zq4, zq5, zq6, zq7, zq8] at g21
        refine WLF.skip (by intro _ h; cases h) rfl rfl ?_
        refine WLF.skip (by intro _ h; cases h) rfl rfl ?_
        refine WLF.yd (by intro _ h; cases h) (Yd.pickT rfl rfl) rfl ?_
        refine WLF.yd (by intro _ h; cases h) (Yd.build SA124 rfl (cs := [_, _]) rfl) rfl ?_
        refine WLF.so (by intro _ h; cases h) (SO.store 3 rfl Try.sizeOf124 rfl rfl rfl rfl (Nat.le_of_ble_eq_true rfl) (oneB_spec rfl)) rfl ?_
        rintro _ _ _ ⟨rfl, rfl, rfl⟩
        refine WLF.nil ?_
        refine WP.thenCF ?_
        refine WCF.seq ?_
        refine WCF.ofFr [(4, _)] ⟨rfl, trivial⟩ ?_
        refine WCF.region ?_
        refine WLF.yd (by intro _ h; cases h) (Yd.loadN Try.isAgg124 Try.sizeOf124 rfl (vs := [_, _]) rfl (by first | exact RdN.own (k := 0) (n := 2) rfl rfl | exact RdN.own (k := 1) (n := 2) rfl rfl | exact RdN.own (k := 2) (n := 2) rfl rfl | exact RdN.own (k := 3) (n := 2) rfl rfl | exact RdN.own (k := 4) (n := 2) rfl rfl | exact RdN.own (k := 5) (n := 2) rfl rfl)) rfl ?_
        refine WLF.yd (by intro _ h; cases h) (Yd.build SA124 rfl (cs := [_, _]) rfl) rfl ?_
        refine WLF.yd (by intro _ h; cases h) (Yd.eqS Try.eqGuardType124 (eqVd _ _ _ _) rfl rfl) rfl ?_
        refine WLF.nil ?_
        refine WP.thenCF ?_
        refine WCF.cond rfl (fun c28 => ?_) (fun c28 => ?_)
        · try simp only [zq1, zq2, zq3, zq4, zq5, zq6, zq7, zq8] at c28
          refine WCF.seq ?_
          refine WCF.ofFr [(4, _)] ⟨rfl, trivial⟩ ?_
          refine WCF.region ?_
          refine WLF.yd (by intro _ h; cases h) (Yd.loadN Try.isAgg124 Try.sizeOf124 rfl (vs := [_, _]) rfl (by first | exact RdN.own (k := 0) (n := 2) rfl rfl | exact RdN.own (k := 1) (n := 2) rfl rfl | exact RdN.own (k := 2) (n := 2) rfl rfl | exact RdN.own (k := 3) (n := 2) rfl rfl | exact RdN.own (k := 4) (n := 2) rfl rfl | exact RdN.own (k := 5) (n := 2) rfl rfl)) rfl ?_
          refine WLF.so (by intro _ h; cases h) (SO.store 3 rfl Try.sizeOf124 rfl rfl rfl rfl (Nat.le_of_ble_eq_true rfl) (oneB_spec rfl)) rfl ?_
          rintro _ _ _ ⟨rfl, rfl, rfl⟩
          refine WLF.nil ?_
          refine WP.thenCF ?_
          refine WCF.ret ?_
          refine WP.blkRet ?_
          have hA : (allT T).any (fun t => turnT T.l.length t a) = true := any_of_take (k := k + 1) (by rw [any_take hk]; simp_all)
          have hN : (allT T).any (fun t => !turnT T.l.length t a) = true := any_of_take (k := k + 1) (by rw [any_take hk]; simp_all)
          refine WP.iterRetN (h1 := [_, _, _]) (fun _ h => List.mem_cons_of_mem _ h) (fun h => (List.nodup_cons.1 h).2) (DExt.refl _ _) ⟨rfl, ?_, List.ne_nil_of_length_pos (by omega)⟩
          rw [hA, hN]
          first
            | rfl
            | (exfalso; revert c28; cases turnT T.l.length (gt (allT T) k) a <;> simp; done)
            | (have e : turnT T.l.length (gt (allT T) k) a = true := by simp_all
               rw [e]; rfl)
            | (have e : turnT T.l.length (gt (allT T) k) a = false := by simp_all
               rw [e]; rfl)
        · try simp only [zq1, zq2, zq3, zq4, zq5, zq6, zq7, zq8] at c28
          refine WCF.skip ?_
          refine WP.blkNormal ?_
          refine WP.iterOnN hrec (h1 := [_, _, _]) (fun _ h => List.mem_cons_of_mem _ h) (fun h => (List.nodup_cons.1 h).2) (DExt.refl _ _) ?_
          rw [any_take hk, any_take hk, g16, g21]
          rfl
      · try simp only [zq1, zq2, zq3, zq4, zq5, zq6, zq7, zq8] at g21
        refine WLF.ydg (by intro _ h; cases h) rfl (Yd.move rfl) rfl ?_
        refine WLF.ydg (by intro _ h; cases h) rfl (Yd.not rfl) rfl ?_
        refine WLF.yd (by intro _ h; cases h) (Yd.pickF rfl rfl) rfl ?_
        refine WLF.yd (by intro _ h; cases h) (Yd.build SA124 rfl (cs := [_, _]) rfl) rfl ?_
        refine WLF.so (by intro _ h; cases h) (SO.store 3 rfl Try.sizeOf124 rfl rfl rfl rfl (Nat.le_of_ble_eq_true rfl) (oneB_spec rfl)) rfl ?_
        rintro _ _ _ ⟨rfl, rfl, rfl⟩
        refine WLF.nil ?_
        refine WP.thenCF ?_
        refine WCF.seq ?_
        refine WCF.ofFr [(4, _)] ⟨rfl, trivial⟩ ?_
        refine WCF.region ?_
        refine WLF.yd (by intro _ h; cases h) (Yd.loadN Try.isAgg124 Try.sizeOf124 rfl (vs := [_, _]) rfl (by first | exact RdN.own (k := 0) (n := 2) rfl rfl | exact RdN.own (k := 1) (n := 2) rfl rfl | exact RdN.own (k := 2) (n := 2) rfl rfl | exact RdN.own (k := 3) (n := 2) rfl rfl | exact RdN.own (k := 4) (n := 2) rfl rfl | exact RdN.own (k := 5) (n := 2) rfl rfl)) rfl ?_
        refine WLF.yd (by intro _ h; cases h) (Yd.build SA124 rfl (cs := [_, _]) rfl) rfl ?_
        refine WLF.yd (by intro _ h; cases h) (Yd.eqS Try.eqGuardType124 (eqVd _ _ _ _) rfl rfl) rfl ?_
        refine WLF.nil ?_
        refine WP.thenCF ?_
        refine WCF.cond rfl (fun c28 => ?_) (fun c28 => ?_)
        · try simp only [zq1, zq2, zq3, zq4, zq5, zq6, zq7, zq8] at c28
          refine WCF.seq ?_
          refine WCF.ofFr [(4, _)] ⟨rfl, trivial⟩ ?_
          refine WCF.region ?_
          refine WLF.yd (by intro _ h; cases h) (Yd.loadN Try.isAgg124 Try.sizeOf124 rfl (vs := [_, _]) rfl (by first | exact RdN.own (k := 0) (n := 2) rfl rfl | exact RdN.own (k := 1) (n := 2) rfl rfl | exact RdN.own (k := 2) (n := 2) rfl rfl | exact RdN.own (k := 3) (n := 2) rfl rfl | exact RdN.own (k := 4) (n := 2) rfl rfl | exact RdN.own (k := 5) (n := 2) rfl rfl)) rfl ?_
          refine WLF.so (by intro _ h; cases h) (SO.store 3 rfl Try.sizeOf124 rfl rfl rfl rfl (Nat.le_of_ble_eq_true rfl) (oneB_spec rfl)) rfl ?_
          rintro _ _ _ ⟨rfl, rfl, rfl⟩
          refine WLF.nil ?_
          refine WP.thenCF ?_
          refine WCF.ret ?_
          refine WP.blkRet ?_
          have hA : (allT T).any (fun t => turnT T.l.length t a) = true := any_of_take (k := k + 1) (by rw [any_take hk]; simp_all)
          have hN : (allT T).any (fun t => !turnT T.l.length t a) = true := any_of_take (k := k + 1) (by rw [any_take hk]; simp_all)
          refine WP.iterRetN (h1 := [_, _, _]) (fun _ h => List.mem_cons_of_mem _ h) (fun h => (List.nodup_cons.1 h).2) (DExt.refl _ _) ⟨rfl, ?_, List.ne_nil_of_length_pos (by omega)⟩
          rw [hA, hN]
          first
            | rfl
            | (exfalso; revert c28; cases turnT T.l.length (gt (allT T) k) a <;> simp; done)
            | (have e : turnT T.l.length (gt (allT T) k) a = true := by simp_all
               rw [e]; rfl)
            | (have e : turnT T.l.length (gt (allT T) k) a = false := by simp_all
               rw [e]; rfl)
        · try simp only [zq1, zq2, zq3, zq4, zq5, zq6, zq7, zq8] at c28
          refine WCF.skip ?_
          refine WP.blkNormal ?_
          refine WP.iterOnN hrec (h1 := [_, _, _]) (fun _ h => List.mem_cons_of_mem _ h) (fun h => (List.nodup_cons.1 h).2) (DExt.refl _ _) ?_
          rw [any_take hk, any_take hk, g16, g21]
          rfl
    · try simp only [zq1, zq2, zq3, zq4, zq5, zq6, zq7, zq8] at g16
      refine WLF.ydg (by intro _ h; cases h) rfl (Yd.move rfl) rfl ?_
      refine WLF.yd (by intro _ h; cases h) (Yd.pickF rfl rfl) rfl ?_
      refine WLF.yd (by intro _ h; cases h) (Yd.fieldAddr FA124_1 rfl) rfl ?_
      refine WLF.yd (by intro _ h; cases h) (Yd.load1 Try.isAgg4 rfl (by first | exact Rd.own (k := 0) rfl rfl | exact Rd.own (k := 1) rfl rfl | exact Rd.own (k := 2) rfl rfl | exact Rd.own (k := 3) rfl rfl | exact Rd.own (k := 4) rfl rfl | exact Rd.own (k := 5) rfl rfl)) rfl ?_
      refine WLF.yd (by intro _ h; cases h) (Yd.move rfl) rfl ?_
      refine WLF.part 21 rfl (fun g21 => ?_) (fun g21 => ?_)
      · try simp only [zq1, zq2, zq3, zq4, zq5, zq6, zq7, zq8] at g21
        refine WLF.skip (by intro _ h; cases h) rfl rfl ?_
        refine WLF.skip (by intro _ h; cases h) rfl rfl ?_
        refine WLF.yd (by intro _ h; cases h) (Yd.pickT rfl rfl) rfl ?_
        refine WLF.yd (by intro _ h; cases h) (Yd.build SA124 rfl (cs := [_, _]) rfl) rfl ?_
        refine WLF.so (by intro _ h; cases h) (SO.store 3 rfl Try.sizeOf124 rfl rfl rfl rfl (Nat.le_of_ble_eq_true rfl) (oneB_spec rfl)) rfl ?_
        rintro _ _ _ ⟨rfl, rfl, rfl⟩
        refine WLF.nil ?_
        refine WP.thenCF ?_
        refine WCF.seq ?_
        refine WCF.ofFr [(4, _)] ⟨rfl, trivial⟩ ?_
        refine WCF.region ?_
        refine WLF.yd (by intro _ h; cases h) (Yd.loadN Try.isAgg124 Try.sizeOf124 rfl (vs := [_, _]) rfl (by first | exact RdN.own (k := 0) (n := 2) rfl rfl | exact RdN.own (k := 1) (n := 2) rfl rfl | exact RdN.own (k := 2) (n := 2) rfl rfl | exact RdN.own (k := 3) (n := 2) rfl rfl | exact RdN.own (k := 4) (n := 2) rfl rfl | exact RdN.own (k := 5) (n := 2) rfl rfl)) rfl ?_
        refine WLF.yd (by intro _ h; cases h) (Yd.build SA124 rfl (cs := [_, _]) rfl) rfl ?_
        refine WLF.yd (by intro _ h; cases h) (Yd.eqS Try.eqGuardType124 (eqVd _ _ _ _) rfl rfl) rfl ?_
        refine WLF.nil ?_
        refine WP.thenCF ?_
        refine WCF.cond rfl (fun c28 => ?_) (fun c28 => ?_)
        · try simp only [zq1, zq2, zq3, zq4, zq5, zq6, zq7, zq8] at c28
          refine WCF.seq ?_
          refine WCF.ofFr [(4, _)] ⟨rfl, trivial⟩ ?_
          refine WCF.region ?_
          refine WLF.yd (by intro _ h; cases h) (Yd.loadN Try.isAgg124 Try.sizeOf124 rfl (vs := [_, _]) rfl (by first | exact RdN.own (k := 0) (n := 2) rfl rfl | exact RdN.own (k := 1) (n := 2) rfl rfl | exact RdN.own (k := 2) (n := 2) rfl rfl | exact RdN.own (k := 3) (n := 2) rfl rfl | exact RdN.own (k := 4) (n := 2) rfl rfl | exact RdN.own (k := 5) (n := 2) rfl rfl)) rfl ?_
          refine WLF.so (by intro _ h; cases h) (SO.store 3 rfl Try.sizeOf124 rfl rfl rfl rfl (Nat.le_of_ble_eq_true rfl) (oneB_spec rfl)) rfl ?_
          rintro _ _ _ ⟨rfl, rfl, rfl⟩
          refine WLF.nil ?_
          refine WP.thenCF ?_
          refine WCF.ret ?_
          refine WP.blkRet ?_
          have hA : (allT T).any (fun t => turnT T.l.length t a) = true := any_of_take (k := k + 1) (by rw [any_take hk]; simp_all)
          have hN : (allT T).any (fun t => !turnT T.l.length t a) = true := any_of_take (k := k + 1) (by rw [any_take hk]; simp_all)
          refine WP.iterRetN (h1 := [_, _, _]) (fun _ h => List.mem_cons_of_mem _ h) (fun h => (List.nodup_cons.1 h).2) (DExt.refl _ _) ⟨rfl, ?_, List.ne_nil_of_length_pos (by omega)⟩
          rw [hA, hN]
          first
            | rfl
            | (exfalso; revert c28; cases turnT T.l.length (gt (allT T) k) a <;> simp; done)
            | (have e : turnT T.l.length (gt (allT T) k) a = true := by simp_all
               rw [e]; rfl)
            | (have e : turnT T.l.length (gt (allT T) k) a = false := by simp_all
               rw [e]; rfl)
        · try simp only [zq1, zq2, zq3, zq4, zq5, zq6, zq7, zq8] at c28
          refine WCF.skip ?_
          refine WP.blkNormal ?_
          refine WP.iterOnN hrec (h1 := [_, _, _]) (fun _ h => List.mem_cons_of_mem _ h) (fun h => (List.nodup_cons.1 h).2) (DExt.refl _ _) ?_
          rw [any_take hk, any_take hk, g16, g21]
          rfl
      · try simp only [zq1, zq2, zq3, zq4, zq5, zq6, zq7, zq8] at g21
        refine WLF.ydg (by intro _ h; cases h) rfl (Yd.move rfl) rfl ?_
        refine WLF.ydg (by intro _ h; cases h) rfl (Yd.not rfl) rfl ?_
        refine WLF.yd (by intro _ h; cases h) (Yd.pickF rfl rfl) rfl ?_
        refine WLF.yd (by intro _ h; cases h) (Yd.build SA124 rfl (cs := [_, _]) rfl) rfl ?_
        refine WLF.so (by intro _ h; cases h) (SO.store 3 rfl Try.sizeOf124 rfl rfl rfl rfl (Nat.le_of_ble_eq_true rfl) (oneB_spec rfl)) rfl ?_
        rintro _ _ _ ⟨rfl, rfl, rfl⟩
        refine WLF.nil ?_
        refine WP.thenCF ?_
        refine WCF.seq ?_
        refine WCF.ofFr [(4, _)] ⟨rfl, trivial⟩ ?_
        refine WCF.region ?_
        refine WLF.yd (by intro _ h; cases h) (Yd.loadN Try.isAgg124 Try.sizeOf124 rfl (vs := [_, _]) rfl (by first | exact RdN.own (k := 0) (n := 2) rfl rfl | exact RdN.own (k := 1) (n := 2) rfl rfl | exact RdN.own (k := 2) (n := 2) rfl rfl | exact RdN.own (k := 3) (n := 2) rfl rfl | exact RdN.own (k := 4) (n := 2) rfl rfl | exact RdN.own (k := 5) (n := 2) rfl rfl)) rfl ?_
        refine WLF.yd (by intro _ h; cases h) (Yd.build SA124 rfl (cs := [_, _]) rfl) rfl ?_
        refine WLF.yd (by intro _ h; cases h) (Yd.eqS Try.eqGuardType124 (eqVd _ _ _ _) rfl rfl) rfl ?_
        refine WLF.nil ?_
        refine WP.thenCF ?_
        refine WCF.cond rfl (fun c28 => ?_) (fun c28 => ?_)
        · try simp only [zq1, zq2, zq3, zq4, zq5, zq6, zq7, zq8] at c28
          refine WCF.seq ?_
          refine WCF.ofFr [(4, _)] ⟨rfl, trivial⟩ ?_
          refine WCF.region ?_
          refine WLF.yd (by intro _ h; cases h) (Yd.loadN Try.isAgg124 Try.sizeOf124 rfl (vs := [_, _]) rfl (by first | exact RdN.own (k := 0) (n := 2) rfl rfl | exact RdN.own (k := 1) (n := 2) rfl rfl | exact RdN.own (k := 2) (n := 2) rfl rfl | exact RdN.own (k := 3) (n := 2) rfl rfl | exact RdN.own (k := 4) (n := 2) rfl rfl | exact RdN.own (k := 5) (n := 2) rfl rfl)) rfl ?_
          refine WLF.so (by intro _ h; cases h) (SO.store 3 rfl Try.sizeOf124 rfl rfl rfl rfl (Nat.le_of_ble_eq_true rfl) (oneB_spec rfl)) rfl ?_
          rintro _ _ _ ⟨rfl, rfl, rfl⟩
          refine WLF.nil ?_
          refine WP.thenCF ?_
          refine WCF.ret ?_
          refine WP.blkRet ?_
          have hA : (allT T).any (fun t => turnT T.l.length t a) = true := any_of_take (k := k + 1) (by rw [any_take hk]; simp_all)
          have hN : (allT T).any (fun t => !turnT T.l.length t a) = true := any_of_take (k := k + 1) (by rw [any_take hk]; simp_all)
          refine WP.iterRetN (h1 := [_, _, _]) (fun _ h => List.mem_cons_of_mem _ h) (fun h => (List.nodup_cons.1 h).2) (DExt.refl _ _) ⟨rfl, ?_, List.ne_nil_of_length_pos (by omega)⟩
          rw [hA, hN]
          first
            | rfl
            | (exfalso; revert c28; cases turnT T.l.length (gt (allT T) k) a <;> simp; done)
            | (have e : turnT T.l.length (gt (allT T) k) a = true := by simp_all
               rw [e]; rfl)
            | (have e : turnT T.l.length (gt (allT T) k) a = false := by simp_all
               rw [e]; rfl)
        · try simp only [zq1, zq2, zq3, zq4, zq5, zq6, zq7, zq8] at c28
          refine WCF.skip ?_
          refine WP.blkNormal ?_
          refine WP.iterOnN hrec (h1 := [_, _, _]) (fun _ h => List.mem_cons_of_mem _ h) (fun h => (List.nodup_cons.1 h).2) (DExt.refl _ _) ?_
          rw [any_take hk, any_take hk, g16, g21]
          rfl
  · rintro Dn1 D6 _ hDn1 hX6 rfl
    rw [List.take_length]
    refine WP.blkNormal ?_
    refine WP.thenC ?_
    refine WC.seq ?_
    refine WC.ofFr [(4, _)] ⟨rfl, trivial⟩ ?_
    refine WC.region ?_
    refine WL.yd (Yd.fieldAddr FA124_0 rfl) rfl ?_
    refine WL.yd (Yd.load1 Try.isAgg4 rfl (by first | exact Rd.own (k := 0) rfl rfl | exact Rd.own (k := 1) rfl rfl | exact Rd.own (k := 2) rfl rfl | exact Rd.own (k := 3) rfl rfl)) rfl ?_
    refine WL.yd (Yd.move rfl) rfl ?_
    refine WL.part 32 rfl (fun g32 => ?_) (fun g32 => ?_)
    · try simp only [zq1, zq2, zq3, zq4, zq5, zq6, zq7, zq8] at g32
      rw [hne] at g32; cases g32
    · try simp only [zq1, zq2, zq3, zq4, zq5, zq6, zq7, zq8] at g32
      refine WL.ydg rfl (Yd.fieldAddr FA124_1 rfl) rfl ?_
      refine WL.ydg rfl (Yd.load1 Try.isAgg4 rfl (by first | exact Rd.own (k := 0) rfl rfl | exact Rd.own (k := 1) rfl rfl | exact Rd.own (k := 2) rfl rfl | exact Rd.own (k := 3) rfl rfl)) rfl ?_
      refine WL.yd (Yd.pickF rfl rfl) rfl ?_
      refine WL.part 35 rfl (fun g35 => ?_) (fun g35 => ?_)
      · try simp only [zq1, zq2, zq3, zq4, zq5, zq6, zq7, zq8] at g35
        rw [hne] at g35; cases g35
      · try simp only [zq1, zq2, zq3, zq4, zq5, zq6, zq7, zq8] at g35
        refine WL.no (SO.fail (Enters.func Try.call83 rfl) (fun w hI => mustK_no _ _) ?_)
        refine WP.thenPanic ?_
        exact WP.panicMs [Dn1] [_, _, _] rfl (fun _ h => h) (fun h => h) (fun w hI => ⟨rfl, hI.keep⟩)
  · rintro Dn1 c D6 _ hDn1 hX6 ⟨rfl, rfl, hne2⟩
    exact absurd hne hne2

end Go.Proofs.Ytpnbkdlejfmbeaa
