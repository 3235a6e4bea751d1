import Derived.Test.YtaebnllfmkcpgaaGreatDoorXF
import Derived.Test.YtaebnllfmkcpgaaGreatDoorXK
import Derived.Test.YtaebnllfmkcpgaaGreatDoorXU
set_option linter.unusedSimpArgs false
set_option linter.unusedVariables false
set_option linter.all false
set_option maxRecDepth 100000
set_option maxHeartbeats 1000000
namespace Go.Proofs.YtaebnllfmkcpgaaGreatDoor
open Go.W Go.Bk
theorem FA90_0 : FieldAt Tryz.prog 90 0 0 := FieldAt.mk (t := 87) (off := 0) Tryz.underlying90 rfl Tryz.sizeOf87 (by decide)
theorem FA90_1 : FieldAt Tryz.prog 90 1 1 := FieldAt.mk (t := 69) (off := 1) Tryz.underlying90 rfl Tryz.sizeOf69 (by decide)
theorem FA96_0 : FieldAt Tryz.prog 96 0 0 := FieldAt.mk (t := 93) (off := 0) Tryz.underlying96 rfl Tryz.sizeOf93 (by decide)
theorem FA96_1 : FieldAt Tryz.prog 96 1 1 := FieldAt.mk (t := 70) (off := 1) Tryz.underlying96 rfl Tryz.sizeOf70 (by decide)
theorem FA102_0 : FieldAt Tryz.prog 102 0 0 := FieldAt.mk (t := 99) (off := 0) Tryz.underlying102 rfl Tryz.sizeOf99 (by decide)
theorem FA102_1 : FieldAt Tryz.prog 102 1 1 := FieldAt.mk (t := 71) (off := 1) Tryz.underlying102 rfl Tryz.sizeOf71 (by decide)
theorem readSurf_g (s : Bs) (hs : s.length ≤ 2 ^ 20) (D : Imm) (hL : LibD D) (w : World) (hH : Holds D w) : TryE 75 [.agg #[.func (.func 88) #[] #[], .func (.func 90) #[] #[], .func (.func 91) #[] #[]], st s] w D (readX surfZ surfP surfB putSurf s) (fun x v D' => ∃ m, v = surfV x m ∧ SurfR D' x m) := by
  unfold TryE
  refine enterMn Tryz.func75 rfl 33 Tryz.ntmps75 (zqb rfl) (Inv.start hH) ?_
  refine WCn.seq ?_
  refine WCn.of ?_
  refine WC.ofFr [(0, _), (1, _)] ⟨rfl, rfl, trivial⟩ (WC.region ?_)
  refine WL.so (SO.box rfl rfl) rfl ?_
  rintro _ _ _ ⟨b2, hb2, rfl, rfl, rfl⟩
  refine WL.so (SO.alloc Tryz.zeroValue25 rfl) rfl ?_
  rintro _ _ _ ⟨b4, hb4, rfl, rfl, rfl⟩
  refine WL.nil ?_
  refine WP.thenCn ?_
  refine WCn.seq ?_
  refine WCn.of ?_
  refine WC.ofFr [(4, _), (2, _), (1, _)] ⟨rfl, rfl, rfl, trivial⟩ (WC.region ?_)
  refine zym rfl rfl ?_
  refine WL.yd (Yd.lenStr rfl Tryz.underlying9 rfl) rfl ?_
  refine WL.yd (Yd.leq rfl rfl) rfl ?_
  refine WL.part 10 rfl (fun g10 => ?_) (fun g10 => ?_)
  · try simp only [zq1, zq2, zq3, zq4, zq5, zq6, zq7, zq8] at g10
    have hlen : s.length ≤ 1200 := by omega
    refine WL.so (SO.call (Enters.func Tryz.call61 rfl) (fun w hI => must_ok _ _)) rfl ?_
    rintro _ _ _ ⟨rfl, rfl, rfl⟩
    refine WL.nil ?_
    refine WP.thenCn ?_
    refine WCn.seq ?_
    refine WCn.of ?_
    refine WC.ofFr [(4, _), (2, _), (1, _)] ⟨rfl, rfl, rfl, trivial⟩ (WC.region ?_)
    refine WL.so (SO.alloc Tryz.zeroValue3 rfl) rfl ?_
    rintro _ _ _ ⟨b5, hb5, rfl, rfl, rfl⟩
    refine WL.so (SO.store 0 rfl Tryz.sizeOf3 rfl rfl rfl rfl (zqb rfl) (oneB_spec rfl)) rfl ?_
    rintro _ _ _ ⟨rfl, rfl, rfl⟩
    refine WL.nil ?_
    refine WP.thenCn ?_
    refine WCn.seq ?_
    refine WCn.of ?_
    refine WC.ofFr [(5, _), (4, _), (2, _), (1, _)] ⟨rfl, rfl, rfl, rfl, trivial⟩ (WC.region ?_)
    refine WL.freezeK 2 rfl (fun hn2 => ?_)
    have hF2 := fun o => (DExt.refl w D).add (o := o) hn2 hb2
    have hL1 := hL.ext (hF2 (.cells (List.toArray [.func (.func 88) #[] #[], .func (.func 90) #[] #[], .func (.func 91) #[] #[]]) 90 (0, 0)))
    refine WL.yd (Yd.func rfl rfl) rfl ?_
    refine WL.so (SO.alloc Tryz.zeroValue196 rfl) rfl ?_
    rintro _ _ _ ⟨b6, hb6, rfl, rfl, rfl⟩
    refine WL.so (SO.store 0 rfl Tryz.sizeOf196 rfl rfl rfl rfl (zqb rfl) (oneB_spec rfl)) rfl ?_
    rintro _ _ _ ⟨rfl, rfl, rfl⟩
    refine WL.nil ?_
    refine WP.thenCn ?_
    refine WCn.seq ?_
    refine WCn.seq ?_
    refine WCn.of ?_
    refine WC.ofFr [(6, _), (4, _), (2, _), (1, _)] ⟨rfl, rfl, rfl, rfl, trivial⟩ (WC.region ?_)
    refine zym rfl rfl ?_
    refine WL.so (SO.newsF (Enters.func Tryz.call131 rfl) (fun w hI => lines_g s _ w hI.imm)) rfl ?_
    rintro _ _ _ ⟨_, hX0, ⟨rfl, bl, rfl, rfl⟩, rfl⟩
    refine WL.nil ?_
    refine WP.thenCn ?_
    refine WCn.block ?_
    refine WCn.ofFr [(14, _), (2, _), (4, _), (6, _), (1, _)] ⟨rfl, rfl, rfl, rfl, rfl, trivial⟩ ?_
    refine WCn.rangeIterP (gf := 158) (lb := [pt bl]) (N := (lns s).length) (arg := fun k => st (gt (lns s) k)) [(bl, .cells (List.toArray [st s]) 9 (0, 0))] ((b6, .cells (List.toArray [.func (.func 130) #[] #[pt b2, pt b4, pt b5]]) 196 (0, 0)) :: (b5, .cells (List.toArray [nt 0]) 3 (0, 0)) :: [_]) rfl Tryz.func75 (fun w' _ _ => lines_iter s hs bl _ w') rfl Tryz.call158 rfl (fun k D' h => ∃ x h1, h = (b6, .cells (List.toArray [.func (.func 130) #[] #[pt b2, pt b4, pt b5]]) 196 (0, 0)) :: (b5, .cells (List.toArray [nt k]) 3 (0, 0)) :: h1 ∧ surfT w b4 k x D' h1 ∧ foldT surfP surfZ 0 ((lns s).take k) = some x) (fun ch _ h => ch = stopB 8 ∧ foldT surfP surfZ 0 (lns s) = none ∧ h = []) (fun k D1 D2 h hX ⟨x, h1, e, hS, hx⟩ => ⟨x, h1, e, hS.ext hX, hx⟩) ⟨surfZ, _, rfl, ⟨⟨none, 0, 0⟩, ⟨none, 0, 0⟩, none, ⟨SlL.nil _ _, SlL.nil _ _, rfl, Nat.zero_le _, Nat.zero_le _, Nat.zero_le _, rfl⟩⟩, rfl⟩ ?_ ?_ ?_
    · rintro rec l2 Dn k D1 _ w1 hrec hkN ⟨x, h1, rfl, hS, hx⟩ hX hsz
      unfold RoundGP
      refine WCF.ofFr [(15, _), (4, _), (6, _)] ⟨rfl, rfl, rfl, trivial⟩ (WCF.region ?_)
      refine WLF.yd (by intro _ h; cases h) (Yd.assign rfl) rfl ?_
      refine WLF.nil ?_
      refine WP.iterBegin 0 rfl hrec ?_
      refine WCF.block (WCF.ofFr [(7, _), (4, _), (6, _)] ⟨rfl, rfl, rfl, trivial⟩ (WCF.region ?_))
      refine WLF.yd (by intro _ h; cases h) (Yd.load1 Tryz.isAgg196 rfl (Rd.own (k := 2) rfl rfl)) rfl ?_
      refine WLF.yd (by intro _ h; cases h) (Yd.move rfl) rfl ?_
      refine WLF.so (by intro _ h; cases h) (SO.altersP [(l2, _), (Dn, _), (b6, _)] ((b5, .cells (List.toArray [nt k]) 3 (0, 0)) :: h1) (fun _ h => h) (fun h => h) (fun _ h => h) (fun _ h => h) (Enters.val Tryz.call130 rfl rfl) (fun w' hsz' hI' => nextSurf_g w b4 b5 b2 x k (by have := lns_cnt s; omega) (gt (lns s) k) (by have := lns_le (gtB_mem hkN); omega) D1 (hL1.ext hX) (hX.old _ _ (Imm.add_self _ _ _)) w' (Nat.le_trans hsz hsz') h1 hS hI') ?_) rfl ?_
      · rintro ch D2 _ ⟨rfl, hno, rfl⟩ hX2
        refine WP.blkPanic ?_
        exact WP.iterPanic (pre := [(Dn, _)]) (h1 := []) rfl (subS (by repeat first | exact List.nil_sublist _ | exact List.Sublist.refl _ | apply List.Sublist.cons_cons | apply List.Sublist.cons)).1 (subS (by repeat first | exact List.nil_sublist _ | exact List.Sublist.refl _ | apply List.Sublist.cons_cons | apply List.Sublist.cons)).2 hX2 ⟨rfl, foldT_fail hkN hx hno, rfl⟩
      · rintro _ D2 _ ⟨_, hX2, ⟨x2, h2, hx2, rfl, hS2⟩, rfl⟩
        refine WLF.nil (WP.blkNormal ?_)
        exact WP.iterOnP hrec (pre := [(Dn, _)]) (h1 := (b6, _) :: (b5, _) :: h2) (fun _ h => h) (fun h => h) hX2 ⟨x2, h2, rfl, hS2, foldT_step hkN hx hx2⟩
    · rintro Dn D2 _ hszn hX2 ⟨x, h1, rfl, hS2, hx⟩
      rw [List.take_length] at hx
      have hcn := lns_cnt s
      refine WP.blkNormal ?_
      refine WP.thenCn ?_
      refine WCn.seq ?_
      refine WCn.of ?_
      refine WC.ofFr [(2, _), (4, _), (1, _)] ⟨rfl, rfl, rfl, trivial⟩ (WC.region ?_)
      obtain ⟨W, V, o, ⟨hW, hV, ho, hWn, hVn, hxn, rfl⟩⟩ := hS2
      refine WL.freezeOw (f := hutC) (m := 3) hutC_len [_, _, _, _] [] o 136 x.huts rfl ho rfl (fun D3 hX3 hS3 => ?_)
      rw [surfTV_eq ho]
      have hR : SurfR D3 x ⟨W, V, ⟨owAt o, x.huts.length, owCp o x.huts.length⟩⟩ := ⟨hW.ext hX3, hV.ext hX3, hS3, by show W.n ≤ _; omega, by show V.n ≤ _; omega, by show x.huts.length ≤ _; omega⟩
      have hXX := hX2.trans hX3 (Nat.le_refl _)
      have hTT := hXX.old _ _ (Imm.add_self _ _ _)
      refine WL.yd (Yd.fieldAddr FA90_1 rfl) rfl ?_
      refine WL.yd (Yd.load1 Tryz.isAgg69 rfl (Rd.imm hTT rfl)) rfl ?_
      refine WL.yd (Yd.loadN Tryz.isAgg25 Tryz.sizeOf25 rfl (vs := [_, _, _, _, _]) rfl (RdN.own (k := 3) (n := 5) rfl rfl)) rfl ?_
      refine WL.so (SO.call (Enters.val Tryz.call90 rfl rfl) (fun w hI => isSurf_g x _ D3 _ hR hI.imm)) rfl ?_
      rintro _ _ _ ⟨rfl, rfl, rfl⟩
      refine zym rfl rfl ?_
      refine WL.part 23 rfl (fun g23 => ?_) (fun g23 => ?_)
      · try simp only [zq1, zq2, zq3, zq4, zq5, zq6, zq7, zq8] at g23
        have hxok := surfB_iff.1 g23
        refine WL.ydg rfl (Yd.fieldAddr FA90_0 rfl) rfl ?_
        refine WL.ydg rfl (Yd.load1 Tryz.isAgg87 rfl (Rd.imm hTT rfl)) rfl ?_
        refine WL.ydg rfl (Yd.loadN Tryz.isAgg25 Tryz.sizeOf25 rfl (vs := [_, _, _, _, _]) rfl (RdN.own (k := 3) (n := 5) rfl rfl)) rfl ?_
        refine WL.sog rfl (SO.call (Enters.val Tryz.call88 rfl rfl) (fun w hI => putSurf_g x _ hxok D3 (hL1.ext hXX) hR _ hI.imm)) rfl ?_
        rintro _ _ _ ⟨rfl, rfl, rfl⟩
        refine WL.ydg rfl (Yd.move rfl) rfl ?_
        refine WL.ydg rfl (Yd.eqS' rfl rfl) rfl ?_
        refine WL.yd (Yd.pickT rfl rfl) rfl ?_
        refine WL.part 30 rfl (fun g30 => ?_) (fun g30 => ?_)
        · try simp only [zq1, zq2, zq3, zq4, zq5, zq6, zq7, zq8] at g30
          refine WL.so (SO.call (Enters.func Tryz.call61 rfl) (fun w hI => must_ok _ _)) rfl ?_
          rintro _ _ _ ⟨rfl, rfl, rfl⟩
          refine WL.nil ?_
          refine WP.thenCn ?_
          refine WCn.seq ?_
          refine WCn.of ?_
          refine WC.ofFr [(4, _)] ⟨rfl, trivial⟩ (WC.region ?_)
          refine WL.yd (Yd.loadN Tryz.isAgg25 Tryz.sizeOf25 rfl (vs := [_, _, _, _, _]) rfl (RdN.own (k := 3) (n := 5) rfl rfl)) rfl ?_
          refine WL.so (SO.store 3 rfl Tryz.sizeOf25 rfl rfl rfl rfl (zqb rfl) (oneB_spec rfl)) rfl ?_
          rintro _ _ _ ⟨rfl, rfl, rfl⟩
          refine WL.nil ?_
          refine WP.thenCn ?_
          refine WCn.of ?_
          refine WC.ret ?_
          refine WP.retMs [Dn] [(b4, _)] [_] [_] rfl rfl (subS (by repeat first | exact List.nil_sublist _ | exact List.Sublist.refl _ | apply List.Sublist.cons_cons | apply List.Sublist.cons)).1 (subS (by repeat first | exact List.nil_sublist _ | exact List.Sublist.refl _ | apply List.Sublist.cons_cons | apply List.Sublist.cons)).2 Tryz.results75 ⟨(RV.cellN Tryz.isAgg25 Tryz.sizeOf25 rfl (vs := [_, _, _, _, _]) rfl (RdN.own (k := 0) (n := 5) rfl rfl)), trivial⟩ (fun w' hI => .inl ⟨x, _, D3, readX_yes hlen hx g23 (by simpa using g30), rfl, hI.keep, hI.imm, (hF2 _).trans (hX2.trans hX3 (Nat.le_refl _)) (Nat.le_refl _), _, rfl, hR⟩)
        · try simp only [zq1, zq2, zq3, zq4, zq5, zq6, zq7, zq8] at g30
          refine WL.no (SO.fail (Enters.func Tryz.call61 rfl) (fun w hI => must_no _ _) ?_)
          refine WP.thenPanic ?_
          refine WP.panicMs [Dn] [] rfl (subS (by repeat first | exact List.nil_sublist _ | exact List.Sublist.refl _ | apply List.Sublist.cons_cons | apply List.Sublist.cons)).1 (subS (by repeat first | exact List.nil_sublist _ | exact List.Sublist.refl _ | apply List.Sublist.cons_cons | apply List.Sublist.cons)).2 (fun w' hI => .inr ⟨surfZ, 8, readX_bad hlen hx (fun _ => by simpa using g30), by decide, rfl, hI.keep⟩)
      · try simp only [zq1, zq2, zq3, zq4, zq5, zq6, zq7, zq8] at g23
        refine WL.skip rfl rfl ?_
        refine WL.skip rfl rfl ?_
        refine WL.skip rfl rfl ?_
        refine WL.skip rfl rfl ?_
        refine WL.skip rfl rfl ?_
        refine WL.skip rfl rfl ?_
        refine WL.yd (Yd.pickF rfl rfl) rfl ?_
        refine WL.no (SO.fail (Enters.func Tryz.call61 rfl) (fun w hI => must_no _ _) ?_)
        refine WP.thenPanic ?_
        refine WP.panicMs [Dn] [] rfl (subS (by repeat first | exact List.nil_sublist _ | exact List.Sublist.refl _ | apply List.Sublist.cons_cons | apply List.Sublist.cons)).1 (subS (by repeat first | exact List.nil_sublist _ | exact List.Sublist.refl _ | apply List.Sublist.cons_cons | apply List.Sublist.cons)).2 (fun w' hI => .inr ⟨surfZ, 8, readX_bad hlen hx (fun h => by rw [g23] at h; cases h), by decide, rfl, hI.keep⟩)
    · rintro Dn ch D2 _ hszn hX2 ⟨rfl, hno, rfl⟩
      refine WP.blkPanic ?_
      refine WP.thenPanic ?_
      refine WP.panicMs [Dn] [] rfl (subS (by repeat first | exact List.nil_sublist _ | exact List.Sublist.refl _ | apply List.Sublist.cons_cons | apply List.Sublist.cons)).1 (subS (by repeat first | exact List.nil_sublist _ | exact List.Sublist.refl _ | apply List.Sublist.cons_cons | apply List.Sublist.cons)).2 (fun w' hI => .inr ⟨surfZ, 8, readX_none hlen hno, by decide, rfl, hI.keep⟩)
  · try simp only [zq1, zq2, zq3, zq4, zq5, zq6, zq7, zq8] at g10
    refine WL.no (SO.fail (Enters.func Tryz.call61 rfl) (fun w hI => must_no _ _) ?_)
    refine WP.thenPanic ?_
    refine WP.panicMs [] [] rfl (subS (by repeat first | exact List.nil_sublist _ | exact List.Sublist.refl _ | apply List.Sublist.cons_cons | apply List.Sublist.cons)).1 (subS (by repeat first | exact List.nil_sublist _ | exact List.Sublist.refl _ | apply List.Sublist.cons_cons | apply List.Sublist.cons)).2 (fun w' hI => .inr ⟨surfZ, 3, readX_long (by omega), by decide, rfl, hI.keep⟩)

theorem readFlag_g (s : Bs) (hs : s.length ≤ 2 ^ 20) (D : Imm) (hL : LibD D) (w : World) (hH : Holds D w) : TryE 77 [.agg #[.func (.func 99) #[] #[], .func (.func 100) #[] #[], .func (.func 101) #[] #[]], st s] w D (readX flagZ flagP flagB putFlag s) (fun x v D' => ∃ m, v = flagV x m ∧ FlagR D' x m) := by
  unfold TryE
  refine enterMn Tryz.func77 rfl 33 Tryz.ntmps77 (zqb rfl) (Inv.start hH) ?_
  refine WCn.seq ?_
  refine WCn.of ?_
  refine WC.ofFr [(0, _), (1, _)] ⟨rfl, rfl, trivial⟩ (WC.region ?_)
  refine WL.so (SO.box rfl rfl) rfl ?_
  rintro _ _ _ ⟨b2, hb2, rfl, rfl, rfl⟩
  refine WL.so (SO.alloc Tryz.zeroValue29 rfl) rfl ?_
  rintro _ _ _ ⟨b4, hb4, rfl, rfl, rfl⟩
  refine WL.nil ?_
  refine WP.thenCn ?_
  refine WCn.seq ?_
  refine WCn.of ?_
  refine WC.ofFr [(4, _), (2, _), (1, _)] ⟨rfl, rfl, rfl, trivial⟩ (WC.region ?_)
  refine zym rfl rfl ?_
  refine WL.yd (Yd.lenStr rfl Tryz.underlying9 rfl) rfl ?_
  refine WL.yd (Yd.leq rfl rfl) rfl ?_
  refine WL.part 10 rfl (fun g10 => ?_) (fun g10 => ?_)
  · try simp only [zq1, zq2, zq3, zq4, zq5, zq6, zq7, zq8] at g10
    have hlen : s.length ≤ 1200 := by omega
    refine WL.so (SO.call (Enters.func Tryz.call61 rfl) (fun w hI => must_ok _ _)) rfl ?_
    rintro _ _ _ ⟨rfl, rfl, rfl⟩
    refine WL.nil ?_
    refine WP.thenCn ?_
    refine WCn.seq ?_
    refine WCn.of ?_
    refine WC.ofFr [(4, _), (2, _), (1, _)] ⟨rfl, rfl, rfl, trivial⟩ (WC.region ?_)
    refine WL.so (SO.alloc Tryz.zeroValue3 rfl) rfl ?_
    rintro _ _ _ ⟨b5, hb5, rfl, rfl, rfl⟩
    refine WL.so (SO.store 0 rfl Tryz.sizeOf3 rfl rfl rfl rfl (zqb rfl) (oneB_spec rfl)) rfl ?_
    rintro _ _ _ ⟨rfl, rfl, rfl⟩
    refine WL.nil ?_
    refine WP.thenCn ?_
    refine WCn.seq ?_
    refine WCn.of ?_
    refine WC.ofFr [(5, _), (4, _), (2, _), (1, _)] ⟨rfl, rfl, rfl, rfl, trivial⟩ (WC.region ?_)
    refine WL.freezeK 2 rfl (fun hn2 => ?_)
    have hF2 := fun o => (DExt.refl w D).add (o := o) hn2 hb2
    have hL1 := hL.ext (hF2 (.cells (List.toArray [.func (.func 99) #[] #[], .func (.func 100) #[] #[], .func (.func 101) #[] #[]]) 96 (0, 0)))
    refine WL.yd (Yd.func rfl rfl) rfl ?_
    refine WL.so (SO.alloc Tryz.zeroValue196 rfl) rfl ?_
    rintro _ _ _ ⟨b6, hb6, rfl, rfl, rfl⟩
    refine WL.so (SO.store 0 rfl Tryz.sizeOf196 rfl rfl rfl rfl (zqb rfl) (oneB_spec rfl)) rfl ?_
    rintro _ _ _ ⟨rfl, rfl, rfl⟩
    refine WL.nil ?_
    refine WP.thenCn ?_
    refine WCn.seq ?_
    refine WCn.seq ?_
    refine WCn.of ?_
    refine WC.ofFr [(6, _), (4, _), (2, _), (1, _)] ⟨rfl, rfl, rfl, rfl, trivial⟩ (WC.region ?_)
    refine zym rfl rfl ?_
    refine WL.so (SO.newsF (Enters.func Tryz.call131 rfl) (fun w hI => lines_g s _ w hI.imm)) rfl ?_
    rintro _ _ _ ⟨_, hX0, ⟨rfl, bl, rfl, rfl⟩, rfl⟩
    refine WL.nil ?_
    refine WP.thenCn ?_
    refine WCn.block ?_
    refine WCn.ofFr [(14, _), (2, _), (4, _), (6, _), (1, _)] ⟨rfl, rfl, rfl, rfl, rfl, trivial⟩ ?_
    refine WCn.rangeIterP (gf := 158) (lb := [pt bl]) (N := (lns s).length) (arg := fun k => st (gt (lns s) k)) [(bl, .cells (List.toArray [st s]) 9 (0, 0))] ((b6, .cells (List.toArray [.func (.func 136) #[] #[pt b2, pt b4, pt b5]]) 196 (0, 0)) :: (b5, .cells (List.toArray [nt 0]) 3 (0, 0)) :: [_]) rfl Tryz.func77 (fun w' _ _ => lines_iter s hs bl _ w') rfl Tryz.call158 rfl (fun k D' h => ∃ x h1, h = (b6, .cells (List.toArray [.func (.func 136) #[] #[pt b2, pt b4, pt b5]]) 196 (0, 0)) :: (b5, .cells (List.toArray [nt k]) 3 (0, 0)) :: h1 ∧ flagT w b4 k x D' h1 ∧ foldT flagP flagZ 0 ((lns s).take k) = some x) (fun ch _ h => ch = stopB 8 ∧ foldT flagP flagZ 0 (lns s) = none ∧ h = []) (fun k D1 D2 h hX ⟨x, h1, e, hS, hx⟩ => ⟨x, h1, e, hS.ext hX, hx⟩) ⟨flagZ, _, rfl, ⟨⟨none, 0, 0⟩, ⟨none, 0, 0⟩, ⟨SlL.nil _ _, SlL.nil _ _, Nat.zero_le _, Nat.zero_le _, rfl⟩⟩, rfl⟩ ?_ ?_ ?_
    · rintro rec l2 Dn k D1 _ w1 hrec hkN ⟨x, h1, rfl, hS, hx⟩ hX hsz
      unfold RoundGP
      refine WCF.ofFr [(15, _), (4, _), (6, _)] ⟨rfl, rfl, rfl, trivial⟩ (WCF.region ?_)
      refine WLF.yd (by intro _ h; cases h) (Yd.assign rfl) rfl ?_
      refine WLF.nil ?_
      refine WP.iterBegin 0 rfl hrec ?_
      refine WCF.block (WCF.ofFr [(7, _), (4, _), (6, _)] ⟨rfl, rfl, rfl, trivial⟩ (WCF.region ?_))
      refine WLF.yd (by intro _ h; cases h) (Yd.load1 Tryz.isAgg196 rfl (Rd.own (k := 2) rfl rfl)) rfl ?_
      refine WLF.yd (by intro _ h; cases h) (Yd.move rfl) rfl ?_
      refine WLF.so (by intro _ h; cases h) (SO.altersP [(l2, _), (Dn, _), (b6, _)] ((b5, .cells (List.toArray [nt k]) 3 (0, 0)) :: h1) (fun _ h => h) (fun h => h) (fun _ h => h) (fun _ h => h) (Enters.val Tryz.call136 rfl rfl) (fun w' hsz' hI' => nextFlag_g w b4 b5 b2 x k (by have := lns_cnt s; omega) (gt (lns s) k) (by have := lns_le (gtB_mem hkN); omega) D1 (hL1.ext hX) (hX.old _ _ (Imm.add_self _ _ _)) w' (Nat.le_trans hsz hsz') h1 hS hI') ?_) rfl ?_
      · rintro ch D2 _ ⟨rfl, hno, rfl⟩ hX2
        refine WP.blkPanic ?_
        exact WP.iterPanic (pre := [(Dn, _)]) (h1 := []) rfl (subS (by repeat first | exact List.nil_sublist _ | exact List.Sublist.refl _ | apply List.Sublist.cons_cons | apply List.Sublist.cons)).1 (subS (by repeat first | exact List.nil_sublist _ | exact List.Sublist.refl _ | apply List.Sublist.cons_cons | apply List.Sublist.cons)).2 hX2 ⟨rfl, foldT_fail hkN hx hno, rfl⟩
      · rintro _ D2 _ ⟨_, hX2, ⟨x2, h2, hx2, rfl, hS2⟩, rfl⟩
        refine WLF.nil (WP.blkNormal ?_)
        exact WP.iterOnP hrec (pre := [(Dn, _)]) (h1 := (b6, _) :: (b5, _) :: h2) (fun _ h => h) (fun h => h) hX2 ⟨x2, h2, rfl, hS2, foldT_step hkN hx hx2⟩
    · rintro Dn D2 _ hszn hX2 ⟨x, h1, rfl, hS2, hx⟩
      rw [List.take_length] at hx
      have hcn := lns_cnt s
      refine WP.blkNormal ?_
      refine WP.thenCn ?_
      refine WCn.seq ?_
      refine WCn.of ?_
      refine WC.ofFr [(2, _), (4, _), (1, _)] ⟨rfl, rfl, rfl, trivial⟩ (WC.region ?_)
      obtain ⟨H, S, ⟨hH1, hS1, hHn, hSn, rfl⟩⟩ := hS2
      rw [show flagTV x H S = flagCs x ⟨H, S⟩ from rfl]
      have hX3 := DExt.refl w D2
      have hR : FlagR D2 x ⟨H, S⟩ := ⟨hH1, hS1, by show H.n ≤ _; omega, by show S.n ≤ _; omega⟩
      have hXX := hX2.trans hX3 (Nat.le_refl _)
      have hTT := hXX.old _ _ (Imm.add_self _ _ _)
      refine WL.yd (Yd.fieldAddr FA96_1 rfl) rfl ?_
      refine WL.yd (Yd.load1 Tryz.isAgg70 rfl (Rd.imm hTT rfl)) rfl ?_
      refine WL.yd (Yd.loadN Tryz.isAgg29 Tryz.sizeOf29 rfl (vs := [_, _, _, _, _]) rfl (RdN.own (k := 3) (n := 5) rfl rfl)) rfl ?_
      refine WL.so (SO.call (Enters.val Tryz.call100 rfl rfl) (fun w hI => isFlag_g x _ D2 _ hR hI.imm)) rfl ?_
      rintro _ _ _ ⟨rfl, rfl, rfl⟩
      refine zym rfl rfl ?_
      refine WL.part 23 rfl (fun g23 => ?_) (fun g23 => ?_)
      · try simp only [zq1, zq2, zq3, zq4, zq5, zq6, zq7, zq8] at g23
        have hxok := flagB_iff.1 g23
        refine WL.ydg rfl (Yd.fieldAddr FA96_0 rfl) rfl ?_
        refine WL.ydg rfl (Yd.load1 Tryz.isAgg93 rfl (Rd.imm hTT rfl)) rfl ?_
        refine WL.ydg rfl (Yd.loadN Tryz.isAgg29 Tryz.sizeOf29 rfl (vs := [_, _, _, _, _]) rfl (RdN.own (k := 3) (n := 5) rfl rfl)) rfl ?_
        refine WL.sog rfl (SO.call (Enters.val Tryz.call99 rfl rfl) (fun w hI => putFlag_g x _ hxok D2 (hL1.ext hXX) hR _ hI.imm)) rfl ?_
        rintro _ _ _ ⟨rfl, rfl, rfl⟩
        refine WL.ydg rfl (Yd.move rfl) rfl ?_
        refine WL.ydg rfl (Yd.eqS' rfl rfl) rfl ?_
        refine WL.yd (Yd.pickT rfl rfl) rfl ?_
        refine WL.part 30 rfl (fun g30 => ?_) (fun g30 => ?_)
        · try simp only [zq1, zq2, zq3, zq4, zq5, zq6, zq7, zq8] at g30
          refine WL.so (SO.call (Enters.func Tryz.call61 rfl) (fun w hI => must_ok _ _)) rfl ?_
          rintro _ _ _ ⟨rfl, rfl, rfl⟩
          refine WL.nil ?_
          refine WP.thenCn ?_
          refine WCn.seq ?_
          refine WCn.of ?_
          refine WC.ofFr [(4, _)] ⟨rfl, trivial⟩ (WC.region ?_)
          refine WL.yd (Yd.loadN Tryz.isAgg29 Tryz.sizeOf29 rfl (vs := [_, _, _, _, _]) rfl (RdN.own (k := 3) (n := 5) rfl rfl)) rfl ?_
          refine WL.so (SO.store 3 rfl Tryz.sizeOf29 rfl rfl rfl rfl (zqb rfl) (oneB_spec rfl)) rfl ?_
          rintro _ _ _ ⟨rfl, rfl, rfl⟩
          refine WL.nil ?_
          refine WP.thenCn ?_
          refine WCn.of ?_
          refine WC.ret ?_
          refine WP.retMs [Dn] [(b4, _)] [_] [_] rfl rfl (subS (by repeat first | exact List.nil_sublist _ | exact List.Sublist.refl _ | apply List.Sublist.cons_cons | apply List.Sublist.cons)).1 (subS (by repeat first | exact List.nil_sublist _ | exact List.Sublist.refl _ | apply List.Sublist.cons_cons | apply List.Sublist.cons)).2 Tryz.results77 ⟨(RV.cellN Tryz.isAgg29 Tryz.sizeOf29 rfl (vs := [_, _, _, _, _]) rfl (RdN.own (k := 0) (n := 5) rfl rfl)), trivial⟩ (fun w' hI => .inl ⟨x, _, D2, readX_yes hlen hx g23 (by simpa using g30), rfl, hI.keep, hI.imm, (hF2 _).trans (hX2.trans hX3 (Nat.le_refl _)) (Nat.le_refl _), _, rfl, hR⟩)
        · try simp only [zq1, zq2, zq3, zq4, zq5, zq6, zq7, zq8] at g30
          refine WL.no (SO.fail (Enters.func Tryz.call61 rfl) (fun w hI => must_no _ _) ?_)
          refine WP.thenPanic ?_
          refine WP.panicMs [Dn] [] rfl (subS (by repeat first | exact List.nil_sublist _ | exact List.Sublist.refl _ | apply List.Sublist.cons_cons | apply List.Sublist.cons)).1 (subS (by repeat first | exact List.nil_sublist _ | exact List.Sublist.refl _ | apply List.Sublist.cons_cons | apply List.Sublist.cons)).2 (fun w' hI => .inr ⟨flagZ, 8, readX_bad hlen hx (fun _ => by simpa using g30), by decide, rfl, hI.keep⟩)
      · try simp only [zq1, zq2, zq3, zq4, zq5, zq6, zq7, zq8] at g23
        refine WL.skip rfl rfl ?_
        refine WL.skip rfl rfl ?_
        refine WL.skip rfl rfl ?_
        refine WL.skip rfl rfl ?_
        refine WL.skip rfl rfl ?_
        refine WL.skip rfl rfl ?_
        refine WL.yd (Yd.pickF rfl rfl) rfl ?_
        refine WL.no (SO.fail (Enters.func Tryz.call61 rfl) (fun w hI => must_no _ _) ?_)
        refine WP.thenPanic ?_
        refine WP.panicMs [Dn] [] rfl (subS (by repeat first | exact List.nil_sublist _ | exact List.Sublist.refl _ | apply List.Sublist.cons_cons | apply List.Sublist.cons)).1 (subS (by repeat first | exact List.nil_sublist _ | exact List.Sublist.refl _ | apply List.Sublist.cons_cons | apply List.Sublist.cons)).2 (fun w' hI => .inr ⟨flagZ, 8, readX_bad hlen hx (fun h => by rw [g23] at h; cases h), by decide, rfl, hI.keep⟩)
    · rintro Dn ch D2 _ hszn hX2 ⟨rfl, hno, rfl⟩
      refine WP.blkPanic ?_
      refine WP.thenPanic ?_
      refine WP.panicMs [Dn] [] rfl (subS (by repeat first | exact List.nil_sublist _ | exact List.Sublist.refl _ | apply List.Sublist.cons_cons | apply List.Sublist.cons)).1 (subS (by repeat first | exact List.nil_sublist _ | exact List.Sublist.refl _ | apply List.Sublist.cons_cons | apply List.Sublist.cons)).2 (fun w' hI => .inr ⟨flagZ, 8, readX_none hlen hno, by decide, rfl, hI.keep⟩)
  · try simp only [zq1, zq2, zq3, zq4, zq5, zq6, zq7, zq8] at g10
    refine WL.no (SO.fail (Enters.func Tryz.call61 rfl) (fun w hI => must_no _ _) ?_)
    refine WP.thenPanic ?_
    refine WP.panicMs [] [] rfl (subS (by repeat first | exact List.nil_sublist _ | exact List.Sublist.refl _ | apply List.Sublist.cons_cons | apply List.Sublist.cons)).1 (subS (by repeat first | exact List.nil_sublist _ | exact List.Sublist.refl _ | apply List.Sublist.cons_cons | apply List.Sublist.cons)).2 (fun w' hI => .inr ⟨flagZ, 3, readX_long (by omega), by decide, rfl, hI.keep⟩)

theorem readBoats_g (s : Bs) (hs : s.length ≤ 2 ^ 20) (D : Imm) (hL : LibD D) (w : World) (hH : Holds D w) : TryE 79 [.agg #[.func (.func 114) #[] #[], .func (.func 115) #[] #[], .func (.func 116) #[] #[]], st s] w D (readX boatsZ boatsP boatsB putBoats s) (fun x v D' => ∃ m, v = boatsV x m ∧ BoatsR D' x m) := by
  unfold TryE
  refine enterMn Tryz.func79 rfl 33 Tryz.ntmps79 (zqb rfl) (Inv.start hH) ?_
  refine WCn.seq ?_
  refine WCn.of ?_
  refine WC.ofFr [(0, _), (1, _)] ⟨rfl, rfl, trivial⟩ (WC.region ?_)
  refine WL.so (SO.box rfl rfl) rfl ?_
  rintro _ _ _ ⟨b2, hb2, rfl, rfl, rfl⟩
  refine WL.so (SO.alloc Tryz.zeroValue32 rfl) rfl ?_
  rintro _ _ _ ⟨b4, hb4, rfl, rfl, rfl⟩
  refine WL.nil ?_
  refine WP.thenCn ?_
  refine WCn.seq ?_
  refine WCn.of ?_
  refine WC.ofFr [(4, _), (2, _), (1, _)] ⟨rfl, rfl, rfl, trivial⟩ (WC.region ?_)
  refine zym rfl rfl ?_
  refine WL.yd (Yd.lenStr rfl Tryz.underlying9 rfl) rfl ?_
  refine WL.yd (Yd.leq rfl rfl) rfl ?_
  refine WL.part 10 rfl (fun g10 => ?_) (fun g10 => ?_)
  · try simp only [zq1, zq2, zq3, zq4, zq5, zq6, zq7, zq8] at g10
    have hlen : s.length ≤ 1200 := by omega
    refine WL.so (SO.call (Enters.func Tryz.call61 rfl) (fun w hI => must_ok _ _)) rfl ?_
    rintro _ _ _ ⟨rfl, rfl, rfl⟩
    refine WL.nil ?_
    refine WP.thenCn ?_
    refine WCn.seq ?_
    refine WCn.of ?_
    refine WC.ofFr [(4, _), (2, _), (1, _)] ⟨rfl, rfl, rfl, trivial⟩ (WC.region ?_)
    refine WL.so (SO.alloc Tryz.zeroValue3 rfl) rfl ?_
    rintro _ _ _ ⟨b5, hb5, rfl, rfl, rfl⟩
    refine WL.so (SO.store 0 rfl Tryz.sizeOf3 rfl rfl rfl rfl (zqb rfl) (oneB_spec rfl)) rfl ?_
    rintro _ _ _ ⟨rfl, rfl, rfl⟩
    refine WL.nil ?_
    refine WP.thenCn ?_
    refine WCn.seq ?_
    refine WCn.of ?_
    refine WC.ofFr [(5, _), (4, _), (2, _), (1, _)] ⟨rfl, rfl, rfl, rfl, trivial⟩ (WC.region ?_)
    refine WL.freezeK 2 rfl (fun hn2 => ?_)
    have hF2 := fun o => (DExt.refl w D).add (o := o) hn2 hb2
    have hL1 := hL.ext (hF2 (.cells (List.toArray [.func (.func 114) #[] #[], .func (.func 115) #[] #[], .func (.func 116) #[] #[]]) 102 (0, 0)))
    refine WL.yd (Yd.func rfl rfl) rfl ?_
    refine WL.so (SO.alloc Tryz.zeroValue196 rfl) rfl ?_
    rintro _ _ _ ⟨b6, hb6, rfl, rfl, rfl⟩
    refine WL.so (SO.store 0 rfl Tryz.sizeOf196 rfl rfl rfl rfl (zqb rfl) (oneB_spec rfl)) rfl ?_
    rintro _ _ _ ⟨rfl, rfl, rfl⟩
    refine WL.nil ?_
    refine WP.thenCn ?_
    refine WCn.seq ?_
    refine WCn.seq ?_
    refine WCn.of ?_
    refine WC.ofFr [(6, _), (4, _), (2, _), (1, _)] ⟨rfl, rfl, rfl, rfl, trivial⟩ (WC.region ?_)
    refine zym rfl rfl ?_
    refine WL.so (SO.newsF (Enters.func Tryz.call131 rfl) (fun w hI => lines_g s _ w hI.imm)) rfl ?_
    rintro _ _ _ ⟨_, hX0, ⟨rfl, bl, rfl, rfl⟩, rfl⟩
    refine WL.nil ?_
    refine WP.thenCn ?_
    refine WCn.block ?_
    refine WCn.ofFr [(14, _), (2, _), (4, _), (6, _), (1, _)] ⟨rfl, rfl, rfl, rfl, rfl, trivial⟩ ?_
    refine WCn.rangeIterP (gf := 158) (lb := [pt bl]) (N := (lns s).length) (arg := fun k => st (gt (lns s) k)) [(bl, .cells (List.toArray [st s]) 9 (0, 0))] ((b6, .cells (List.toArray [.func (.func 139) #[] #[pt b2, pt b4, pt b5]]) 196 (0, 0)) :: (b5, .cells (List.toArray [nt 0]) 3 (0, 0)) :: [_]) rfl Tryz.func79 (fun w' _ _ => lines_iter s hs bl _ w') rfl Tryz.call158 rfl (fun k D' h => ∃ x h1, h = (b6, .cells (List.toArray [.func (.func 139) #[] #[pt b2, pt b4, pt b5]]) 196 (0, 0)) :: (b5, .cells (List.toArray [nt k]) 3 (0, 0)) :: h1 ∧ boatsT w b4 k x D' h1 ∧ foldT boatsP boatsZ 0 ((lns s).take k) = some x) (fun ch _ h => ch = stopB 8 ∧ foldT boatsP boatsZ 0 (lns s) = none ∧ h = []) (fun k D1 D2 h hX ⟨x, h1, e, hS, hx⟩ => ⟨x, h1, e, hS.ext hX, hx⟩) ⟨boatsZ, _, rfl, ⟨[], none, ⟨rfl, fun i hi => absurd hi (Nat.not_lt_zero i), rfl, Nat.zero_le _, rfl⟩⟩, rfl⟩ ?_ ?_ ?_
    · rintro rec l2 Dn k D1 _ w1 hrec hkN ⟨x, h1, rfl, hS, hx⟩ hX hsz
      unfold RoundGP
      refine WCF.ofFr [(15, _), (4, _), (6, _)] ⟨rfl, rfl, rfl, trivial⟩ (WCF.region ?_)
      refine WLF.yd (by intro _ h; cases h) (Yd.assign rfl) rfl ?_
      refine WLF.nil ?_
      refine WP.iterBegin 0 rfl hrec ?_
      refine WCF.block (WCF.ofFr [(7, _), (4, _), (6, _)] ⟨rfl, rfl, rfl, trivial⟩ (WCF.region ?_))
      refine WLF.yd (by intro _ h; cases h) (Yd.load1 Tryz.isAgg196 rfl (Rd.own (k := 2) rfl rfl)) rfl ?_
      refine WLF.yd (by intro _ h; cases h) (Yd.move rfl) rfl ?_
      refine WLF.so (by intro _ h; cases h) (SO.altersP [(l2, _), (Dn, _), (b6, _)] ((b5, .cells (List.toArray [nt k]) 3 (0, 0)) :: h1) (fun _ h => h) (fun h => h) (fun _ h => h) (fun _ h => h) (Enters.val Tryz.call139 rfl rfl) (fun w' hsz' hI' => nextBoats_g w b4 b5 b2 x k (by have := lns_cnt s; omega) (gt (lns s) k) (by have := lns_le (gtB_mem hkN); omega) D1 (hL1.ext hX) (hX.old _ _ (Imm.add_self _ _ _)) w' (Nat.le_trans hsz hsz') h1 hS hI') ?_) rfl ?_
      · rintro ch D2 _ ⟨rfl, hno, rfl⟩ hX2
        refine WP.blkPanic ?_
        exact WP.iterPanic (pre := [(Dn, _)]) (h1 := []) rfl (subS (by repeat first | exact List.nil_sublist _ | exact List.Sublist.refl _ | apply List.Sublist.cons_cons | apply List.Sublist.cons)).1 (subS (by repeat first | exact List.nil_sublist _ | exact List.Sublist.refl _ | apply List.Sublist.cons_cons | apply List.Sublist.cons)).2 hX2 ⟨rfl, foldT_fail hkN hx hno, rfl⟩
      · rintro _ D2 _ ⟨_, hX2, ⟨x2, h2, hx2, rfl, hS2⟩, rfl⟩
        refine WLF.nil (WP.blkNormal ?_)
        exact WP.iterOnP hrec (pre := [(Dn, _)]) (h1 := (b6, _) :: (b5, _) :: h2) (fun _ h => h) (fun h => h) hX2 ⟨x2, h2, rfl, hS2, foldT_step hkN hx hx2⟩
    · rintro Dn D2 _ hszn hX2 ⟨x, h1, rfl, hS2, hx⟩
      rw [List.take_length] at hx
      have hcn := lns_cnt s
      refine WP.blkNormal ?_
      refine WP.thenCn ?_
      refine WCn.seq ?_
      refine WCn.of ?_
      refine WC.ofFr [(2, _), (4, _), (1, _)] ⟨rfl, rfl, rfl, trivial⟩ (WC.region ?_)
      obtain ⟨M, o, ⟨hM, hr, ho, hxn, rfl⟩⟩ := hS2
      refine WL.freezeOw (f := slC) (m := 1) slC_len [_, _, _, _] [] o 79 M rfl (hM.symm ▸ ho) rfl (fun D3 hX3 hS3 => ?_)
      rw [boatsTV_eq ho]
      rw [hM] at hS3
      have hR : BoatsR D3 x ⟨⟨owAt o, x.seen.length, owCp o x.seen.length⟩, M⟩ := ⟨hS3, hM, fun i hi => (hr i hi).1.ext hX3, by show x.seen.length ≤ _; omega, fun i hi => Nat.le_trans (hr i hi).2 (zqb rfl)⟩
      have hXX := hX2.trans hX3 (Nat.le_refl _)
      have hTT := hXX.old _ _ (Imm.add_self _ _ _)
      refine WL.yd (Yd.fieldAddr FA102_1 rfl) rfl ?_
      refine WL.yd (Yd.load1 Tryz.isAgg71 rfl (Rd.imm hTT rfl)) rfl ?_
      refine WL.yd (Yd.loadN Tryz.isAgg32 Tryz.sizeOf32 rfl (vs := [_, _, _, _, _]) rfl (RdN.own (k := 3) (n := 5) rfl rfl)) rfl ?_
      refine WL.so (SO.call (Enters.val Tryz.call115 rfl rfl) (fun w hI => isBoats_g x _ D3 _ hR hI.imm)) rfl ?_
      rintro _ _ _ ⟨rfl, rfl, rfl⟩
      refine zym rfl rfl ?_
      refine WL.part 23 rfl (fun g23 => ?_) (fun g23 => ?_)
      · try simp only [zq1, zq2, zq3, zq4, zq5, zq6, zq7, zq8] at g23
        have hxok := boatsB_iff.1 g23
        refine WL.ydg rfl (Yd.fieldAddr FA102_0 rfl) rfl ?_
        refine WL.ydg rfl (Yd.load1 Tryz.isAgg99 rfl (Rd.imm hTT rfl)) rfl ?_
        refine WL.ydg rfl (Yd.loadN Tryz.isAgg32 Tryz.sizeOf32 rfl (vs := [_, _, _, _, _]) rfl (RdN.own (k := 3) (n := 5) rfl rfl)) rfl ?_
        refine WL.sog rfl (SO.call (Enters.val Tryz.call114 rfl rfl) (fun w hI => putBoats_g x _ hxok D3 (hL1.ext hXX) hR _ hI.imm)) rfl ?_
        rintro _ _ _ ⟨rfl, rfl, rfl⟩
        refine WL.ydg rfl (Yd.move rfl) rfl ?_
        refine WL.ydg rfl (Yd.eqS' rfl rfl) rfl ?_
        refine WL.yd (Yd.pickT rfl rfl) rfl ?_
        refine WL.part 30 rfl (fun g30 => ?_) (fun g30 => ?_)
        · try simp only [zq1, zq2, zq3, zq4, zq5, zq6, zq7, zq8] at g30
          refine WL.so (SO.call (Enters.func Tryz.call61 rfl) (fun w hI => must_ok _ _)) rfl ?_
          rintro _ _ _ ⟨rfl, rfl, rfl⟩
          refine WL.nil ?_
          refine WP.thenCn ?_
          refine WCn.seq ?_
          refine WCn.of ?_
          refine WC.ofFr [(4, _)] ⟨rfl, trivial⟩ (WC.region ?_)
          refine WL.yd (Yd.loadN Tryz.isAgg32 Tryz.sizeOf32 rfl (vs := [_, _, _, _, _]) rfl (RdN.own (k := 3) (n := 5) rfl rfl)) rfl ?_
          refine WL.so (SO.store 3 rfl Tryz.sizeOf32 rfl rfl rfl rfl (zqb rfl) (oneB_spec rfl)) rfl ?_
          rintro _ _ _ ⟨rfl, rfl, rfl⟩
          refine WL.nil ?_
          refine WP.thenCn ?_
          refine WCn.of ?_
          refine WC.ret ?_
          refine WP.retMs [Dn] [(b4, _)] [_] [_] rfl rfl (subS (by repeat first | exact List.nil_sublist _ | exact List.Sublist.refl _ | apply List.Sublist.cons_cons | apply List.Sublist.cons)).1 (subS (by repeat first | exact List.nil_sublist _ | exact List.Sublist.refl _ | apply List.Sublist.cons_cons | apply List.Sublist.cons)).2 Tryz.results79 ⟨(RV.cellN Tryz.isAgg32 Tryz.sizeOf32 rfl (vs := [_, _, _, _, _]) rfl (RdN.own (k := 0) (n := 5) rfl rfl)), trivial⟩ (fun w' hI => .inl ⟨x, _, D3, readX_yes hlen hx g23 (by simpa using g30), rfl, hI.keep, hI.imm, (hF2 _).trans (hX2.trans hX3 (Nat.le_refl _)) (Nat.le_refl _), _, rfl, hR⟩)
        · try simp only [zq1, zq2, zq3, zq4, zq5, zq6, zq7, zq8] at g30
          refine WL.no (SO.fail (Enters.func Tryz.call61 rfl) (fun w hI => must_no _ _) ?_)
          refine WP.thenPanic ?_
          refine WP.panicMs [Dn] [] rfl (subS (by repeat first | exact List.nil_sublist _ | exact List.Sublist.refl _ | apply List.Sublist.cons_cons | apply List.Sublist.cons)).1 (subS (by repeat first | exact List.nil_sublist _ | exact List.Sublist.refl _ | apply List.Sublist.cons_cons | apply List.Sublist.cons)).2 (fun w' hI => .inr ⟨boatsZ, 8, readX_bad hlen hx (fun _ => by simpa using g30), by decide, rfl, hI.keep⟩)
      · try simp only [zq1, zq2, zq3, zq4, zq5, zq6, zq7, zq8] at g23
        refine WL.skip rfl rfl ?_
        refine WL.skip rfl rfl ?_
        refine WL.skip rfl rfl ?_
        refine WL.skip rfl rfl ?_
        refine WL.skip rfl rfl ?_
        refine WL.skip rfl rfl ?_
        refine WL.yd (Yd.pickF rfl rfl) rfl ?_
        refine WL.no (SO.fail (Enters.func Tryz.call61 rfl) (fun w hI => must_no _ _) ?_)
        refine WP.thenPanic ?_
        refine WP.panicMs [Dn] [] rfl (subS (by repeat first | exact List.nil_sublist _ | exact List.Sublist.refl _ | apply List.Sublist.cons_cons | apply List.Sublist.cons)).1 (subS (by repeat first | exact List.nil_sublist _ | exact List.Sublist.refl _ | apply List.Sublist.cons_cons | apply List.Sublist.cons)).2 (fun w' hI => .inr ⟨boatsZ, 8, readX_bad hlen hx (fun h => by rw [g23] at h; cases h), by decide, rfl, hI.keep⟩)
    · rintro Dn ch D2 _ hszn hX2 ⟨rfl, hno, rfl⟩
      refine WP.blkPanic ?_
      refine WP.thenPanic ?_
      refine WP.panicMs [Dn] [] rfl (subS (by repeat first | exact List.nil_sublist _ | exact List.Sublist.refl _ | apply List.Sublist.cons_cons | apply List.Sublist.cons)).1 (subS (by repeat first | exact List.nil_sublist _ | exact List.Sublist.refl _ | apply List.Sublist.cons_cons | apply List.Sublist.cons)).2 (fun w' hI => .inr ⟨boatsZ, 8, readX_none hlen hno, by decide, rfl, hI.keep⟩)
  · try simp only [zq1, zq2, zq3, zq4, zq5, zq6, zq7, zq8] at g10
    refine WL.no (SO.fail (Enters.func Tryz.call61 rfl) (fun w hI => must_no _ _) ?_)
    refine WP.thenPanic ?_
    refine WP.panicMs [] [] rfl (subS (by repeat first | exact List.nil_sublist _ | exact List.Sublist.refl _ | apply List.Sublist.cons_cons | apply List.Sublist.cons)).1 (subS (by repeat first | exact List.nil_sublist _ | exact List.Sublist.refl _ | apply List.Sublist.cons_cons | apply List.Sublist.cons)).2 (fun w' hI => .inr ⟨boatsZ, 3, readX_long (by omega), by decide, rfl, hI.keep⟩)

end Go.Proofs.YtaebnllfmkcpgaaGreatDoor
namespace Go.Proofs.YtaebnllfmkcpgaaGreatDoor
open Go.W Go.Bk
theorem SA90 : StructAt Tryz.prog 90 [.nilFunc, .nilFunc, .nilFunc] [(0, 1), (1, 1), (2, 1)] := ⟨⟨_, Tryz.zeroValue90, rfl⟩, _, Tryz.underlying90, fun w => by simp [Tryz.sizeOf69, Tryz.sizeOf87, Tryz.sizeOf88]⟩
theorem SA96 : StructAt Tryz.prog 96 [.nilFunc, .nilFunc, .nilFunc] [(0, 1), (1, 1), (2, 1)] := ⟨⟨_, Tryz.zeroValue96, rfl⟩, _, Tryz.underlying96, fun w => by simp [Tryz.sizeOf70, Tryz.sizeOf93, Tryz.sizeOf94]⟩
theorem SA102 : StructAt Tryz.prog 102 [.nilFunc, .nilFunc, .nilFunc] [(0, 1), (1, 1), (2, 1)] := ⟨⟨_, Tryz.zeroValue102, rfl⟩, _, Tryz.underlying102, fun w => by simp [Tryz.sizeOf71, Tryz.sizeOf99, Tryz.sizeOf100]⟩
/-- what is written: the text and its error -/
def wrO {X : Type} (is : X → Bool) (put : X → Bs) (x : X) : Bs × Int := if is x = true then (put x, 0) else ([], 1)
theorem wrO_yes {X : Type} {is : X → Bool} {put : X → Bs} {x : X} (h : is x = true) : wrO is put x = (put x, 0) := if_pos h
theorem wrO_no {X : Type} {is : X → Bool} {put : X → Bs} {x : X} (h : is x = false) : wrO is put x = ([], 1) := if_neg (by simp [h])
theorem SO.tryE {x : Cx} {fr : Fr} {D : Imm} {hp : Hp} {ty : TypeId} {Q : Exit → Act → World → Prop} {α : Type} {c : Call} {f : FuncId} {vals : List Value} {r : α × Int} {φ : α → Value → Imm → Prop} (he : W.Enters Tryz.prog x fr D hp c ty f vals) (hk : ∀ w, Inv D hp x.S x.w0 w → TryE f vals w D r φ)
    (hpan : ∀ z c, r = (z, c) → c ≠ 0 → WP x fr D hp (.panic (stopB c)) Q) : SO Tryz.prog x fr D hp (.call c) ty Q (fun v D' hp' => ∃ y, r = (y, 0) ∧ DExt x.w0 D D' ∧ φ y v D' ∧ hp' = hp) := fun a w dst pos af g next hA hn => by
  unfold Oper.wp
  rw [he a w dst pos af g hA.f hA.i, Oper.upon_enter]
  refine (hk w hA.i).mono fun e w' h => ?_
  rcases h with ⟨y, v, D', h1, rfl, h3, h4, h5, h6⟩ | ⟨z, c, h1, h2, rfl, h4⟩
  · exact hn _ _ _ _ ⟨y, h1, ⟨h5.old, fun b hb => h5.new b (Nat.lt_of_lt_of_le hb hA.i.keep.size)⟩, h6, rfl⟩ (hA.i.grow h3 h4 h5)
  · exact hpan z c h1 h2 a w' ⟨hA.f, hA.i.call h4⟩

theorem conSurf_g (w : World) : Gives Tryz.prog 53 [] w (.agg #[.func (.func 88) #[] #[], .func (.func 90) #[] #[], .func (.func 91) #[] #[]]) := by
  unfold Gives
  refine enter Tryz.func53 rfl 2 Tryz.ntmps53 (zqb rfl) (Inv.start (D := fun _ => none) (by intro _ _ h; cases h)) ?_
  refine WC.seq (WC.ofFr [] trivial (WC.region ?_))
  refine WL.so (SO.alloc Tryz.zeroValue90 rfl) rfl ?_
  rintro _ _ _ ⟨b0, hb0, rfl, rfl, rfl⟩
  refine WL.nil (WP.thenC (WC.seq (WC.ofFr [(0, _)] ⟨rfl, trivial⟩ (WC.region ?_))))
  refine WL.yd (Yd.build SA90 rfl (cs := [_, _, _]) rfl) rfl ?_
  refine WL.so (SO.store 0 rfl Tryz.sizeOf90 rfl rfl rfl rfl (zqb rfl) (oneB_spec rfl)) rfl ?_
  rintro _ _ _ ⟨rfl, rfl, rfl⟩
  refine WL.nil (WP.thenC (WC.ret ?_))
  refine WP.ret1 rfl rfl Tryz.results53 (RV.cellN Tryz.isAgg90 Tryz.sizeOf90 rfl (vs := [_, _, _]) rfl (by first | exact rn0 (n := 3) rfl rfl)) (fun w hI => ⟨rfl, hI.keep⟩)

theorem writeSurf_ok (x : Surf) (m : SurfM) (h : surfB x = true) (D : Imm) (hL : LibD D) (hR : SurfR D x m) (w : World) (hH : Holds D w) : Gives Tryz.prog 52 [.agg #[.func (.func 88) #[] #[], .func (.func 90) #[] #[], .func (.func 91) #[] #[]], surfV x m] w (st (putSurf x)) := by
  unfold Gives
  refine enter Tryz.func52 rfl 14 Tryz.ntmps52 (zqb rfl) (Inv.start hH) ?_
  refine WC.seq (WC.ofFr [(0, _), (1, _)] ⟨rfl, rfl, trivial⟩ (WC.region ?_))
  refine WL.so (SO.box rfl rfl) rfl ?_
  rintro _ _ _ ⟨b2, hb2, rfl, rfl, rfl⟩
  refine WL.so (SO.box rfl rfl) rfl ?_
  rintro _ _ _ ⟨b3, hb3, rfl, rfl, rfl⟩
  refine zya rfl rfl ?_
  refine WL.nil (WP.thenC (WC.seq (WC.ofFr [(4, _), (3, _), (2, _)] ⟨rfl, rfl, rfl, trivial⟩ (WC.region ?_))))
  refine WL.yd (Yd.fieldAddr FA90_1 rfl) rfl ?_
  refine WL.yd (Yd.load1 Tryz.isAgg69 rfl (by first | exact ro0 rfl rfl | exact ro1 rfl rfl)) rfl ?_
  refine WL.yd (Yd.loadN Tryz.isAgg25 Tryz.sizeOf25 rfl (vs := [_, _, _, _, _]) rfl (by first | exact rn0 (n := 5) rfl rfl | exact rn1 (n := 5) rfl rfl)) rfl ?_
  refine WL.so (SO.call (Enters.val Tryz.call90 rfl rfl) (fun w hI => isSurf_g x m D _ hR hI.imm)) rfl ?_
  rintro _ _ _ ⟨rfl, rfl, rfl⟩
  refine WL.know 8 (.bool true) rfl (congrArg Value.bool h) ?_
  refine WL.so (SO.call (Enters.func Tryz.call61 rfl) (fun w hI => must_ok _ _)) rfl ?_
  rintro _ _ _ ⟨rfl, rfl, rfl⟩
  refine WL.nil (WP.thenC (WC.seq (WC.ofFr [(4, _), (3, _), (2, _)] ⟨rfl, rfl, rfl, trivial⟩ (WC.region ?_))))
  refine WL.yd (Yd.fieldAddr FA90_0 rfl) rfl ?_
  refine WL.yd (Yd.load1 Tryz.isAgg87 rfl (by first | exact ro0 rfl rfl | exact ro1 rfl rfl)) rfl ?_
  refine WL.yd (Yd.loadN Tryz.isAgg25 Tryz.sizeOf25 rfl (vs := [_, _, _, _, _]) rfl (by first | exact rn0 (n := 5) rfl rfl | exact rn1 (n := 5) rfl rfl)) rfl ?_
  refine WL.so (SO.call (Enters.val Tryz.call88 rfl rfl) (fun w hI => putSurf_g x m (surfB_iff.1 h) D hL hR _ hI.imm)) rfl ?_
  rintro _ _ _ ⟨rfl, rfl, rfl⟩
  refine zya rfl rfl ?_
  refine WL.nil (WP.thenC (WC.ret ?_))
  refine WP.ret1 rfl rfl Tryz.results52 (RV.tmp rfl) (fun w hI => ⟨rfl, hI.keep⟩)

theorem writeSurf_no (x : Surf) (m : SurfM) (h : surfB x = false) (D : Imm) (hL : LibD D) (hR : SurfR D x m) (w : World) (hH : Holds D w) : Fails Tryz.prog 52 [.agg #[.func (.func 88) #[] #[], .func (.func 90) #[] #[], .func (.func 91) #[] #[]], surfV x m] w (stopB 1) := by
  unfold Fails
  refine enter Tryz.func52 rfl 14 Tryz.ntmps52 (zqb rfl) (Inv.start hH) ?_
  refine WC.seq (WC.ofFr [(0, _), (1, _)] ⟨rfl, rfl, trivial⟩ (WC.region ?_))
  refine WL.so (SO.box rfl rfl) rfl ?_
  rintro _ _ _ ⟨b2, hb2, rfl, rfl, rfl⟩
  refine WL.so (SO.box rfl rfl) rfl ?_
  rintro _ _ _ ⟨b3, hb3, rfl, rfl, rfl⟩
  refine zya rfl rfl ?_
  refine WL.nil (WP.thenC (WC.seq (WC.ofFr [(4, _), (3, _), (2, _)] ⟨rfl, rfl, rfl, trivial⟩ (WC.region ?_))))
  refine WL.yd (Yd.fieldAddr FA90_1 rfl) rfl ?_
  refine WL.yd (Yd.load1 Tryz.isAgg69 rfl (by first | exact ro0 rfl rfl | exact ro1 rfl rfl)) rfl ?_
  refine WL.yd (Yd.loadN Tryz.isAgg25 Tryz.sizeOf25 rfl (vs := [_, _, _, _, _]) rfl (by first | exact rn0 (n := 5) rfl rfl | exact rn1 (n := 5) rfl rfl)) rfl ?_
  refine WL.so (SO.call (Enters.val Tryz.call90 rfl rfl) (fun w hI => isSurf_g x m D _ hR hI.imm)) rfl ?_
  rintro _ _ _ ⟨rfl, rfl, rfl⟩
  refine WL.know 8 (.bool false) rfl (congrArg Value.bool h) ?_
  refine WL.no (SO.fail (Enters.func Tryz.call61 rfl) (fun w hI => must_no _ _) ?_)
  refine WP.thenPanic ?_
  refine WP.panicBody rfl (fun w hI => ⟨rfl, hI.keep⟩)

theorem WriteSurf_g (x : Surf) (m : SurfM) (D : Imm) (hL : LibD D) (hR : SurfR D x m) (w : World) (hH : Holds D w) : Gives Tryz.prog 14 [surfV x m] w (.tuple #[st (wrO surfB putSurf x).1, it (wrO surfB putSurf x).2]) := by
  unfold Gives
  refine enterD Tryz.func14 rfl 7 Tryz.ntmps14 (zqb rfl) (Inv.start hH) ?_
  refine WC.seq (WC.ofFr [(0, _)] ⟨rfl, trivial⟩ (WC.region ?_))
  refine WL.so (SO.box rfl rfl) rfl ?_
  rintro _ _ _ ⟨b1, hb1, rfl, rfl, rfl⟩
  refine zya rfl rfl ?_
  refine WL.so (SO.alloc Tryz.zeroValue38 rfl) rfl ?_
  rintro _ _ _ ⟨b3, hb3, rfl, rfl, rfl⟩
  refine WL.nil (WP.thenC (WC.seq (WC.ofFr [(3, _), (2, _), (1, _)] ⟨rfl, rfl, rfl, trivial⟩ (WC.region ?_))))
  refine WL.deferA rfl ?_
  refine WL.nil (WP.thenC (WC.seq (WC.ofFr [(3, _), (2, _), (1, _)] ⟨rfl, rfl, rfl, trivial⟩ ?_)))
  refine WC.drawH [(b1, _)] (by kernel_rfl) (fun _ hI => hI.tail) ?_
  refine WH.two (i := 0) (j := 1) (by kernel_rfl) ?_ ?_
  · refine WHo.so rfl (SO.callP Tryz.call53 rfl (fun w hI => conSurf_g _)) rfl ?_
    rintro _ _ _ ⟨rfl, rfl, rfl⟩
    refine ⟨(fun _ hI => hI.tail), ?_⟩
    refine WH.one (i := 1) (by kernel_rfl) (WHo.yd rfl (Yd.loadN Tryz.isAgg25 Tryz.sizeOf25 rfl (vs := [_, _, _, _, _]) rfl (by first | exact rn0 (n := 5) rfl rfl | exact rn1 (n := 5) rfl rfl)) rfl ?_)
    rcases h6 : surfB x with _ | _
    · refine WH.one (i := 2) (by kernel_rfl) (WHo.no rfl (SO.fail (Enters.func Tryz.call52 rfl) (fun w hI => writeSurf_no x m h6 D hL hR _ hI.imm) ?_))
      refine WP.thenPanic ?_
      refine WP.panicDA (k := 0) [_, _] [_, _] rfl Tryz.call51 rfl (fun w hI => answer_catch b3 1 0 _ w (hI.own _ _ (List.mem_of_getElem? (i := 0) rfl))) Tryz.results14 ⟨(RV.tmp rfl), (RV.cell1 Tryz.isAgg38 rfl (by first | exact ro0 rfl rfl | exact ro1 rfl rfl)), trivial⟩ (fun w hI => ⟨congrArg Ending.returned (by rw [wrO_no h6]; rfl), hI.keep⟩)
    · skip
      refine WH.one (i := 2) (by kernel_rfl) (WHo.so rfl (SO.callP Tryz.call52 rfl (fun w hI => writeSurf_ok x m h6 D hL hR _ hI.imm)) rfl ?_)
      rintro _ _ _ ⟨rfl, rfl, rfl⟩
      refine ⟨(fun _ hI => hI.tail), ?_⟩
      refine WH.one (i := 3) (by kernel_rfl) (WHo.yd rfl (Yd.assign rfl) rfl ?_)
      refine WH.one (i := 4) (by kernel_rfl) (WHo.so rfl (SO.store 0 rfl Tryz.sizeOf38 rfl rfl rfl rfl (zqb rfl) (oneB_spec rfl)) rfl ?_)
      rintro _ _ _ ⟨rfl, rfl, rfl⟩
      refine ⟨(fun _ hI => hI.tail), ?_⟩
      refine WH.nil (by kernel_rfl) ?_
      refine WP.thenC (WC.ret ?_)
      refine WP.endDA [_, _] [_, _] rfl rfl Tryz.call51 (fun w hI => answer_idle b3 w) Tryz.results14 ⟨(RV.tmp rfl), (RV.cell1 Tryz.isAgg38 rfl (by first | exact ro0 rfl rfl | exact ro1 rfl rfl)), trivial⟩ (fun w hI => ⟨congrArg Ending.returned (by rw [wrO_yes h6]; rfl), hI.keep⟩)
  · refine WHo.yd rfl (Yd.loadN Tryz.isAgg25 Tryz.sizeOf25 rfl (vs := [_, _, _, _, _]) rfl (by first | exact rn0 (n := 5) rfl rfl | exact rn1 (n := 5) rfl rfl)) rfl ?_
    refine WH.one (i := 0) (by kernel_rfl) (WHo.so rfl (SO.callP Tryz.call53 rfl (fun w hI => conSurf_g _)) rfl ?_)
    rintro _ _ _ ⟨rfl, rfl, rfl⟩
    refine ⟨(fun _ hI => hI.tail), ?_⟩
    rcases h6 : surfB x with _ | _
    · refine WH.one (i := 2) (by kernel_rfl) (WHo.no rfl (SO.fail (Enters.func Tryz.call52 rfl) (fun w hI => writeSurf_no x m h6 D hL hR _ hI.imm) ?_))
      refine WP.thenPanic ?_
      refine WP.panicDA (k := 0) [_, _] [_, _] rfl Tryz.call51 rfl (fun w hI => answer_catch b3 1 0 _ w (hI.own _ _ (List.mem_of_getElem? (i := 0) rfl))) Tryz.results14 ⟨(RV.tmp rfl), (RV.cell1 Tryz.isAgg38 rfl (by first | exact ro0 rfl rfl | exact ro1 rfl rfl)), trivial⟩ (fun w hI => ⟨congrArg Ending.returned (by rw [wrO_no h6]; rfl), hI.keep⟩)
    · skip
      refine WH.one (i := 2) (by kernel_rfl) (WHo.so rfl (SO.callP Tryz.call52 rfl (fun w hI => writeSurf_ok x m h6 D hL hR _ hI.imm)) rfl ?_)
      rintro _ _ _ ⟨rfl, rfl, rfl⟩
      refine ⟨(fun _ hI => hI.tail), ?_⟩
      refine WH.one (i := 3) (by kernel_rfl) (WHo.yd rfl (Yd.assign rfl) rfl ?_)
      refine WH.one (i := 4) (by kernel_rfl) (WHo.so rfl (SO.store 0 rfl Tryz.sizeOf38 rfl rfl rfl rfl (zqb rfl) (oneB_spec rfl)) rfl ?_)
      rintro _ _ _ ⟨rfl, rfl, rfl⟩
      refine ⟨(fun _ hI => hI.tail), ?_⟩
      refine WH.nil (by kernel_rfl) ?_
      refine WP.thenC (WC.ret ?_)
      refine WP.endDA [_, _] [_, _] rfl rfl Tryz.call51 (fun w hI => answer_idle b3 w) Tryz.results14 ⟨(RV.tmp rfl), (RV.cell1 Tryz.isAgg38 rfl (by first | exact ro0 rfl rfl | exact ro1 rfl rfl)), trivial⟩ (fun w hI => ⟨congrArg Ending.returned (by rw [wrO_yes h6]; rfl), hI.keep⟩)

theorem readSurf_zero {s : Bs} {z : Surf} {c : Int} (h : readX surfZ surfP surfB putSurf s = (z, c)) (hc : c ≠ 0) : z = surfZ := by
  unfold readX at h
  split at h
  · cases h; rfl
  · split at h
    · cases h; rfl
    · split at h
      · cases h; exact absurd rfl hc
      · cases h; rfl

theorem ReadSurf_g (s : Bs) (hs : s.length ≤ 2 ^ 20) (D : Imm) (hL : LibD D) (w : World) (hH : Holds D w) : Makes Tryz.prog 34 [st s] w D (fun v D' => ∃ x m c, readSurf s = (x, c) ∧ v = .tuple #[surfV x m, it c] ∧ SurfR D' x m) := by
  unfold Makes
  refine enterD Tryz.func34 rfl 7 Tryz.ntmps34 (zqb rfl) (Inv.start hH) ?_
  refine WC.seq (WC.ofFr [(0, _)] ⟨rfl, trivial⟩ (WC.region ?_))
  refine WL.so (SO.alloc Tryz.zeroValue25 rfl) rfl ?_
  rintro _ _ _ ⟨b2, hb2, rfl, rfl, rfl⟩
  refine WL.so (SO.alloc Tryz.zeroValue38 rfl) rfl ?_
  rintro _ _ _ ⟨b3, hb3, rfl, rfl, rfl⟩
  refine WL.nil (WP.thenC (WC.seq (WC.ofFr [(3, _), (2, _), (0, _)] ⟨rfl, rfl, rfl, trivial⟩ (WC.region ?_))))
  refine WL.deferA rfl ?_
  refine WL.nil (WP.thenC (WC.seq (WC.ofFr [(3, _), (2, _), (0, _)] ⟨rfl, rfl, rfl, trivial⟩ (WC.region ?_))))
  refine WL.so (SO.callP Tryz.call53 rfl (fun w hI => conSurf_g _)) rfl ?_
  rintro _ _ _ ⟨rfl, rfl, rfl⟩
  refine zym rfl rfl ?_
  refine WL.so (SO.tryE (Enters.func Tryz.call75 rfl) (fun w hI => readSurf_g s hs D hL w hI.imm) ?_) rfl ?_
  · rintro z c hz hc
    refine WP.thenPanic ?_
    refine WP.panicDA (k := 0) [_, _] [_, _] rfl Tryz.call51 rfl (fun w hI => answer_catch b3 c 0 _ w (hI.own _ _ (List.mem_of_getElem? (i := 0) rfl))) Tryz.results34 ⟨(RV.cellN Tryz.isAgg25 Tryz.sizeOf25 rfl (vs := [_, _, _, _, _]) rfl (by first | exact rn0 (n := 5) rfl rfl | exact rn1 (n := 5) rfl rfl)), (RV.cell1 Tryz.isAgg38 rfl (by first | exact ro0 rfl rfl | exact ro1 rfl rfl)), trivial⟩ (fun w hI => ⟨_, D, rfl, hI.keep, hI.imm, DExt.refl _ _, surfZ, ⟨⟨none, 0, 0⟩, ⟨none, 0, 0⟩, ⟨none, 0, 0⟩⟩, c, readSurf_zero hz hc ▸ hz, rfl, ⟨SlL.nil _ _, SlL.nil _ _, SlL.nil _ _, Nat.zero_le _, Nat.zero_le _, Nat.zero_le _⟩⟩)
  · rintro _ D2 _ ⟨y, hy, hX2, ⟨m, rfl, hR⟩, rfl⟩
    refine WL.so (SO.store 1 rfl Tryz.sizeOf25 rfl rfl rfl rfl (zqb rfl) (oneB_spec rfl)) rfl ?_
    rintro _ _ _ ⟨rfl, rfl, rfl⟩
    refine WL.so (SO.store 0 rfl Tryz.sizeOf38 rfl rfl rfl rfl (zqb rfl) (oneB_spec rfl)) rfl ?_
    rintro _ _ _ ⟨rfl, rfl, rfl⟩
    refine WL.nil (WP.thenC (WC.ret ?_))
    refine WP.endDA [_, _] [_, _] rfl rfl Tryz.call51 (fun w hI => answer_idle b3 w) Tryz.results34 ⟨(RV.cellN Tryz.isAgg25 Tryz.sizeOf25 rfl (vs := [_, _, _, _, _]) rfl (by first | exact rn0 (n := 5) rfl rfl | exact rn1 (n := 5) rfl rfl)), (RV.cell1 Tryz.isAgg38 rfl (by first | exact ro0 rfl rfl | exact ro1 rfl rfl)), trivial⟩ (fun w hI => ⟨_, D2, rfl, hI.keep, hI.imm, hX2, y, m, 0, hy, rfl, hR⟩)

theorem conFlag_g (w : World) : Gives Tryz.prog 56 [] w (.agg #[.func (.func 99) #[] #[], .func (.func 100) #[] #[], .func (.func 101) #[] #[]]) := by
  unfold Gives
  refine enter Tryz.func56 rfl 2 Tryz.ntmps56 (zqb rfl) (Inv.start (D := fun _ => none) (by intro _ _ h; cases h)) ?_
  refine WC.seq (WC.ofFr [] trivial (WC.region ?_))
  refine WL.so (SO.alloc Tryz.zeroValue96 rfl) rfl ?_
  rintro _ _ _ ⟨b0, hb0, rfl, rfl, rfl⟩
  refine WL.nil (WP.thenC (WC.seq (WC.ofFr [(0, _)] ⟨rfl, trivial⟩ (WC.region ?_))))
  refine WL.yd (Yd.build SA96 rfl (cs := [_, _, _]) rfl) rfl ?_
  refine WL.so (SO.store 0 rfl Tryz.sizeOf96 rfl rfl rfl rfl (zqb rfl) (oneB_spec rfl)) rfl ?_
  rintro _ _ _ ⟨rfl, rfl, rfl⟩
  refine WL.nil (WP.thenC (WC.ret ?_))
  refine WP.ret1 rfl rfl Tryz.results56 (RV.cellN Tryz.isAgg96 Tryz.sizeOf96 rfl (vs := [_, _, _]) rfl (by first | exact rn0 (n := 3) rfl rfl)) (fun w hI => ⟨rfl, hI.keep⟩)

theorem writeFlag_ok (x : Flag) (m : FlagM) (h : flagB x = true) (D : Imm) (hL : LibD D) (hR : FlagR D x m) (w : World) (hH : Holds D w) : Gives Tryz.prog 55 [.agg #[.func (.func 99) #[] #[], .func (.func 100) #[] #[], .func (.func 101) #[] #[]], flagV x m] w (st (putFlag x)) := by
  unfold Gives
  refine enter Tryz.func55 rfl 14 Tryz.ntmps55 (zqb rfl) (Inv.start hH) ?_
  refine WC.seq (WC.ofFr [(0, _), (1, _)] ⟨rfl, rfl, trivial⟩ (WC.region ?_))
  refine WL.so (SO.box rfl rfl) rfl ?_
  rintro _ _ _ ⟨b2, hb2, rfl, rfl, rfl⟩
  refine WL.so (SO.box rfl rfl) rfl ?_
  rintro _ _ _ ⟨b3, hb3, rfl, rfl, rfl⟩
  refine zya rfl rfl ?_
  refine WL.nil (WP.thenC (WC.seq (WC.ofFr [(4, _), (3, _), (2, _)] ⟨rfl, rfl, rfl, trivial⟩ (WC.region ?_))))
  refine WL.yd (Yd.fieldAddr FA96_1 rfl) rfl ?_
  refine WL.yd (Yd.load1 Tryz.isAgg70 rfl (by first | exact ro0 rfl rfl | exact ro1 rfl rfl)) rfl ?_
  refine WL.yd (Yd.loadN Tryz.isAgg29 Tryz.sizeOf29 rfl (vs := [_, _, _, _, _]) rfl (by first | exact rn0 (n := 5) rfl rfl | exact rn1 (n := 5) rfl rfl)) rfl ?_
  refine WL.so (SO.call (Enters.val Tryz.call100 rfl rfl) (fun w hI => isFlag_g x m D _ hR hI.imm)) rfl ?_
  rintro _ _ _ ⟨rfl, rfl, rfl⟩
  refine WL.know 8 (.bool true) rfl (congrArg Value.bool h) ?_
  refine WL.so (SO.call (Enters.func Tryz.call61 rfl) (fun w hI => must_ok _ _)) rfl ?_
  rintro _ _ _ ⟨rfl, rfl, rfl⟩
  refine WL.nil (WP.thenC (WC.seq (WC.ofFr [(4, _), (3, _), (2, _)] ⟨rfl, rfl, rfl, trivial⟩ (WC.region ?_))))
  refine WL.yd (Yd.fieldAddr FA96_0 rfl) rfl ?_
  refine WL.yd (Yd.load1 Tryz.isAgg93 rfl (by first | exact ro0 rfl rfl | exact ro1 rfl rfl)) rfl ?_
  refine WL.yd (Yd.loadN Tryz.isAgg29 Tryz.sizeOf29 rfl (vs := [_, _, _, _, _]) rfl (by first | exact rn0 (n := 5) rfl rfl | exact rn1 (n := 5) rfl rfl)) rfl ?_
  refine WL.so (SO.call (Enters.val Tryz.call99 rfl rfl) (fun w hI => putFlag_g x m (flagB_iff.1 h) D hL hR _ hI.imm)) rfl ?_
  rintro _ _ _ ⟨rfl, rfl, rfl⟩
  refine zya rfl rfl ?_
  refine WL.nil (WP.thenC (WC.ret ?_))
  refine WP.ret1 rfl rfl Tryz.results55 (RV.tmp rfl) (fun w hI => ⟨rfl, hI.keep⟩)

theorem writeFlag_no (x : Flag) (m : FlagM) (h : flagB x = false) (D : Imm) (hL : LibD D) (hR : FlagR D x m) (w : World) (hH : Holds D w) : Fails Tryz.prog 55 [.agg #[.func (.func 99) #[] #[], .func (.func 100) #[] #[], .func (.func 101) #[] #[]], flagV x m] w (stopB 1) := by
  unfold Fails
  refine enter Tryz.func55 rfl 14 Tryz.ntmps55 (zqb rfl) (Inv.start hH) ?_
  refine WC.seq (WC.ofFr [(0, _), (1, _)] ⟨rfl, rfl, trivial⟩ (WC.region ?_))
  refine WL.so (SO.box rfl rfl) rfl ?_
  rintro _ _ _ ⟨b2, hb2, rfl, rfl, rfl⟩
  refine WL.so (SO.box rfl rfl) rfl ?_
  rintro _ _ _ ⟨b3, hb3, rfl, rfl, rfl⟩
  refine zya rfl rfl ?_
  refine WL.nil (WP.thenC (WC.seq (WC.ofFr [(4, _), (3, _), (2, _)] ⟨rfl, rfl, rfl, trivial⟩ (WC.region ?_))))
  refine WL.yd (Yd.fieldAddr FA96_1 rfl) rfl ?_
  refine WL.yd (Yd.load1 Tryz.isAgg70 rfl (by first | exact ro0 rfl rfl | exact ro1 rfl rfl)) rfl ?_
  refine WL.yd (Yd.loadN Tryz.isAgg29 Tryz.sizeOf29 rfl (vs := [_, _, _, _, _]) rfl (by first | exact rn0 (n := 5) rfl rfl | exact rn1 (n := 5) rfl rfl)) rfl ?_
  refine WL.so (SO.call (Enters.val Tryz.call100 rfl rfl) (fun w hI => isFlag_g x m D _ hR hI.imm)) rfl ?_
  rintro _ _ _ ⟨rfl, rfl, rfl⟩
  refine WL.know 8 (.bool false) rfl (congrArg Value.bool h) ?_
  refine WL.no (SO.fail (Enters.func Tryz.call61 rfl) (fun w hI => must_no _ _) ?_)
  refine WP.thenPanic ?_
  refine WP.panicBody rfl (fun w hI => ⟨rfl, hI.keep⟩)

theorem WriteFlag_g (x : Flag) (m : FlagM) (D : Imm) (hL : LibD D) (hR : FlagR D x m) (w : World) (hH : Holds D w) : Gives Tryz.prog 16 [flagV x m] w (.tuple #[st (wrO flagB putFlag x).1, it (wrO flagB putFlag x).2]) := by
  unfold Gives
  refine enterD Tryz.func16 rfl 7 Tryz.ntmps16 (zqb rfl) (Inv.start hH) ?_
  refine WC.seq (WC.ofFr [(0, _)] ⟨rfl, trivial⟩ (WC.region ?_))
  refine WL.so (SO.box rfl rfl) rfl ?_
  rintro _ _ _ ⟨b1, hb1, rfl, rfl, rfl⟩
  refine zya rfl rfl ?_
  refine WL.so (SO.alloc Tryz.zeroValue38 rfl) rfl ?_
  rintro _ _ _ ⟨b3, hb3, rfl, rfl, rfl⟩
  refine WL.nil (WP.thenC (WC.seq (WC.ofFr [(3, _), (2, _), (1, _)] ⟨rfl, rfl, rfl, trivial⟩ (WC.region ?_))))
  refine WL.deferA rfl ?_
  refine WL.nil (WP.thenC (WC.seq (WC.ofFr [(3, _), (2, _), (1, _)] ⟨rfl, rfl, rfl, trivial⟩ ?_)))
  refine WC.drawH [(b1, _)] (by kernel_rfl) (fun _ hI => hI.tail) ?_
  refine WH.two (i := 0) (j := 1) (by kernel_rfl) ?_ ?_
  · refine WHo.so rfl (SO.callP Tryz.call56 rfl (fun w hI => conFlag_g _)) rfl ?_
    rintro _ _ _ ⟨rfl, rfl, rfl⟩
    refine ⟨(fun _ hI => hI.tail), ?_⟩
    refine WH.one (i := 1) (by kernel_rfl) (WHo.yd rfl (Yd.loadN Tryz.isAgg29 Tryz.sizeOf29 rfl (vs := [_, _, _, _, _]) rfl (by first | exact rn0 (n := 5) rfl rfl | exact rn1 (n := 5) rfl rfl)) rfl ?_)
    rcases h6 : flagB x with _ | _
    · refine WH.one (i := 2) (by kernel_rfl) (WHo.no rfl (SO.fail (Enters.func Tryz.call55 rfl) (fun w hI => writeFlag_no x m h6 D hL hR _ hI.imm) ?_))
      refine WP.thenPanic ?_
      refine WP.panicDA (k := 0) [_, _] [_, _] rfl Tryz.call51 rfl (fun w hI => answer_catch b3 1 0 _ w (hI.own _ _ (List.mem_of_getElem? (i := 0) rfl))) Tryz.results16 ⟨(RV.tmp rfl), (RV.cell1 Tryz.isAgg38 rfl (by first | exact ro0 rfl rfl | exact ro1 rfl rfl)), trivial⟩ (fun w hI => ⟨congrArg Ending.returned (by rw [wrO_no h6]; rfl), hI.keep⟩)
    · skip
      refine WH.one (i := 2) (by kernel_rfl) (WHo.so rfl (SO.callP Tryz.call55 rfl (fun w hI => writeFlag_ok x m h6 D hL hR _ hI.imm)) rfl ?_)
      rintro _ _ _ ⟨rfl, rfl, rfl⟩
      refine ⟨(fun _ hI => hI.tail), ?_⟩
      refine WH.one (i := 3) (by kernel_rfl) (WHo.yd rfl (Yd.assign rfl) rfl ?_)
      refine WH.one (i := 4) (by kernel_rfl) (WHo.so rfl (SO.store 0 rfl Tryz.sizeOf38 rfl rfl rfl rfl (zqb rfl) (oneB_spec rfl)) rfl ?_)
      rintro _ _ _ ⟨rfl, rfl, rfl⟩
      refine ⟨(fun _ hI => hI.tail), ?_⟩
      refine WH.nil (by kernel_rfl) ?_
      refine WP.thenC (WC.ret ?_)
      refine WP.endDA [_, _] [_, _] rfl rfl Tryz.call51 (fun w hI => answer_idle b3 w) Tryz.results16 ⟨(RV.tmp rfl), (RV.cell1 Tryz.isAgg38 rfl (by first | exact ro0 rfl rfl | exact ro1 rfl rfl)), trivial⟩ (fun w hI => ⟨congrArg Ending.returned (by rw [wrO_yes h6]; rfl), hI.keep⟩)
  · refine WHo.yd rfl (Yd.loadN Tryz.isAgg29 Tryz.sizeOf29 rfl (vs := [_, _, _, _, _]) rfl (by first | exact rn0 (n := 5) rfl rfl | exact rn1 (n := 5) rfl rfl)) rfl ?_
    refine WH.one (i := 0) (by kernel_rfl) (WHo.so rfl (SO.callP Tryz.call56 rfl (fun w hI => conFlag_g _)) rfl ?_)
    rintro _ _ _ ⟨rfl, rfl, rfl⟩
    refine ⟨(fun _ hI => hI.tail), ?_⟩
    rcases h6 : flagB x with _ | _
    · refine WH.one (i := 2) (by kernel_rfl) (WHo.no rfl (SO.fail (Enters.func Tryz.call55 rfl) (fun w hI => writeFlag_no x m h6 D hL hR _ hI.imm) ?_))
      refine WP.thenPanic ?_
      refine WP.panicDA (k := 0) [_, _] [_, _] rfl Tryz.call51 rfl (fun w hI => answer_catch b3 1 0 _ w (hI.own _ _ (List.mem_of_getElem? (i := 0) rfl))) Tryz.results16 ⟨(RV.tmp rfl), (RV.cell1 Tryz.isAgg38 rfl (by first | exact ro0 rfl rfl | exact ro1 rfl rfl)), trivial⟩ (fun w hI => ⟨congrArg Ending.returned (by rw [wrO_no h6]; rfl), hI.keep⟩)
    · skip
      refine WH.one (i := 2) (by kernel_rfl) (WHo.so rfl (SO.callP Tryz.call55 rfl (fun w hI => writeFlag_ok x m h6 D hL hR _ hI.imm)) rfl ?_)
      rintro _ _ _ ⟨rfl, rfl, rfl⟩
      refine ⟨(fun _ hI => hI.tail), ?_⟩
      refine WH.one (i := 3) (by kernel_rfl) (WHo.yd rfl (Yd.assign rfl) rfl ?_)
      refine WH.one (i := 4) (by kernel_rfl) (WHo.so rfl (SO.store 0 rfl Tryz.sizeOf38 rfl rfl rfl rfl (zqb rfl) (oneB_spec rfl)) rfl ?_)
      rintro _ _ _ ⟨rfl, rfl, rfl⟩
      refine ⟨(fun _ hI => hI.tail), ?_⟩
      refine WH.nil (by kernel_rfl) ?_
      refine WP.thenC (WC.ret ?_)
      refine WP.endDA [_, _] [_, _] rfl rfl Tryz.call51 (fun w hI => answer_idle b3 w) Tryz.results16 ⟨(RV.tmp rfl), (RV.cell1 Tryz.isAgg38 rfl (by first | exact ro0 rfl rfl | exact ro1 rfl rfl)), trivial⟩ (fun w hI => ⟨congrArg Ending.returned (by rw [wrO_yes h6]; rfl), hI.keep⟩)

theorem readFlag_zero {s : Bs} {z : Flag} {c : Int} (h : readX flagZ flagP flagB putFlag s = (z, c)) (hc : c ≠ 0) : z = flagZ := by
  unfold readX at h
  split at h
  · cases h; rfl
  · split at h
    · cases h; rfl
    · split at h
      · cases h; exact absurd rfl hc
      · cases h; rfl

theorem ReadFlag_g (s : Bs) (hs : s.length ≤ 2 ^ 20) (D : Imm) (hL : LibD D) (w : World) (hH : Holds D w) : Makes Tryz.prog 36 [st s] w D (fun v D' => ∃ x m c, readFlag s = (x, c) ∧ v = .tuple #[flagV x m, it c] ∧ FlagR D' x m) := by
  unfold Makes
  refine enterD Tryz.func36 rfl 7 Tryz.ntmps36 (zqb rfl) (Inv.start hH) ?_
  refine WC.seq (WC.ofFr [(0, _)] ⟨rfl, trivial⟩ (WC.region ?_))
  refine WL.so (SO.alloc Tryz.zeroValue29 rfl) rfl ?_
  rintro _ _ _ ⟨b2, hb2, rfl, rfl, rfl⟩
  refine WL.so (SO.alloc Tryz.zeroValue38 rfl) rfl ?_
  rintro _ _ _ ⟨b3, hb3, rfl, rfl, rfl⟩
  refine WL.nil (WP.thenC (WC.seq (WC.ofFr [(3, _), (2, _), (0, _)] ⟨rfl, rfl, rfl, trivial⟩ (WC.region ?_))))
  refine WL.deferA rfl ?_
  refine WL.nil (WP.thenC (WC.seq (WC.ofFr [(3, _), (2, _), (0, _)] ⟨rfl, rfl, rfl, trivial⟩ (WC.region ?_))))
  refine WL.so (SO.callP Tryz.call56 rfl (fun w hI => conFlag_g _)) rfl ?_
  rintro _ _ _ ⟨rfl, rfl, rfl⟩
  refine zym rfl rfl ?_
  refine WL.so (SO.tryE (Enters.func Tryz.call77 rfl) (fun w hI => readFlag_g s hs D hL w hI.imm) ?_) rfl ?_
  · rintro z c hz hc
    refine WP.thenPanic ?_
    refine WP.panicDA (k := 0) [_, _] [_, _] rfl Tryz.call51 rfl (fun w hI => answer_catch b3 c 0 _ w (hI.own _ _ (List.mem_of_getElem? (i := 0) rfl))) Tryz.results36 ⟨(RV.cellN Tryz.isAgg29 Tryz.sizeOf29 rfl (vs := [_, _, _, _, _]) rfl (by first | exact rn0 (n := 5) rfl rfl | exact rn1 (n := 5) rfl rfl)), (RV.cell1 Tryz.isAgg38 rfl (by first | exact ro0 rfl rfl | exact ro1 rfl rfl)), trivial⟩ (fun w hI => ⟨_, D, rfl, hI.keep, hI.imm, DExt.refl _ _, flagZ, ⟨⟨none, 0, 0⟩, ⟨none, 0, 0⟩⟩, c, readFlag_zero hz hc ▸ hz, rfl, ⟨SlL.nil _ _, SlL.nil _ _, Nat.zero_le _, Nat.zero_le _⟩⟩)
  · rintro _ D2 _ ⟨y, hy, hX2, ⟨m, rfl, hR⟩, rfl⟩
    refine WL.so (SO.store 1 rfl Tryz.sizeOf29 rfl rfl rfl rfl (zqb rfl) (oneB_spec rfl)) rfl ?_
    rintro _ _ _ ⟨rfl, rfl, rfl⟩
    refine WL.so (SO.store 0 rfl Tryz.sizeOf38 rfl rfl rfl rfl (zqb rfl) (oneB_spec rfl)) rfl ?_
    rintro _ _ _ ⟨rfl, rfl, rfl⟩
    refine WL.nil (WP.thenC (WC.ret ?_))
    refine WP.endDA [_, _] [_, _] rfl rfl Tryz.call51 (fun w hI => answer_idle b3 w) Tryz.results36 ⟨(RV.cellN Tryz.isAgg29 Tryz.sizeOf29 rfl (vs := [_, _, _, _, _]) rfl (by first | exact rn0 (n := 5) rfl rfl | exact rn1 (n := 5) rfl rfl)), (RV.cell1 Tryz.isAgg38 rfl (by first | exact ro0 rfl rfl | exact ro1 rfl rfl)), trivial⟩ (fun w hI => ⟨_, D2, rfl, hI.keep, hI.imm, hX2, y, m, 0, hy, rfl, hR⟩)

theorem conBoats_g (w : World) : Gives Tryz.prog 59 [] w (.agg #[.func (.func 114) #[] #[], .func (.func 115) #[] #[], .func (.func 116) #[] #[]]) := by
  unfold Gives
  refine enter Tryz.func59 rfl 2 Tryz.ntmps59 (zqb rfl) (Inv.start (D := fun _ => none) (by intro _ _ h; cases h)) ?_
  refine WC.seq (WC.ofFr [] trivial (WC.region ?_))
  refine WL.so (SO.alloc Tryz.zeroValue102 rfl) rfl ?_
  rintro _ _ _ ⟨b0, hb0, rfl, rfl, rfl⟩
  refine WL.nil (WP.thenC (WC.seq (WC.ofFr [(0, _)] ⟨rfl, trivial⟩ (WC.region ?_))))
  refine WL.yd (Yd.build SA102 rfl (cs := [_, _, _]) rfl) rfl ?_
  refine WL.so (SO.store 0 rfl Tryz.sizeOf102 rfl rfl rfl rfl (zqb rfl) (oneB_spec rfl)) rfl ?_
  rintro _ _ _ ⟨rfl, rfl, rfl⟩
  refine WL.nil (WP.thenC (WC.ret ?_))
  refine WP.ret1 rfl rfl Tryz.results59 (RV.cellN Tryz.isAgg102 Tryz.sizeOf102 rfl (vs := [_, _, _]) rfl (by first | exact rn0 (n := 3) rfl rfl)) (fun w hI => ⟨rfl, hI.keep⟩)

theorem writeBoats_ok (x : Boats) (m : BoatsM) (h : boatsB x = true) (D : Imm) (hL : LibD D) (hR : BoatsR D x m) (w : World) (hH : Holds D w) : Gives Tryz.prog 58 [.agg #[.func (.func 114) #[] #[], .func (.func 115) #[] #[], .func (.func 116) #[] #[]], boatsV x m] w (st (putBoats x)) := by
  unfold Gives
  refine enter Tryz.func58 rfl 14 Tryz.ntmps58 (zqb rfl) (Inv.start hH) ?_
  refine WC.seq (WC.ofFr [(0, _), (1, _)] ⟨rfl, rfl, trivial⟩ (WC.region ?_))
  refine WL.so (SO.box rfl rfl) rfl ?_
  rintro _ _ _ ⟨b2, hb2, rfl, rfl, rfl⟩
  refine WL.so (SO.box rfl rfl) rfl ?_
  rintro _ _ _ ⟨b3, hb3, rfl, rfl, rfl⟩
  refine zya rfl rfl ?_
  refine WL.nil (WP.thenC (WC.seq (WC.ofFr [(4, _), (3, _), (2, _)] ⟨rfl, rfl, rfl, trivial⟩ (WC.region ?_))))
  refine WL.yd (Yd.fieldAddr FA102_1 rfl) rfl ?_
  refine WL.yd (Yd.load1 Tryz.isAgg71 rfl (by first | exact ro0 rfl rfl | exact ro1 rfl rfl)) rfl ?_
  refine WL.yd (Yd.loadN Tryz.isAgg32 Tryz.sizeOf32 rfl (vs := [_, _, _, _, _]) rfl (by first | exact rn0 (n := 5) rfl rfl | exact rn1 (n := 5) rfl rfl)) rfl ?_
  refine WL.so (SO.call (Enters.val Tryz.call115 rfl rfl) (fun w hI => isBoats_g x m D _ hR hI.imm)) rfl ?_
  rintro _ _ _ ⟨rfl, rfl, rfl⟩
  refine WL.know 8 (.bool true) rfl (congrArg Value.bool h) ?_
  refine WL.so (SO.call (Enters.func Tryz.call61 rfl) (fun w hI => must_ok _ _)) rfl ?_
  rintro _ _ _ ⟨rfl, rfl, rfl⟩
  refine WL.nil (WP.thenC (WC.seq (WC.ofFr [(4, _), (3, _), (2, _)] ⟨rfl, rfl, rfl, trivial⟩ (WC.region ?_))))
  refine WL.yd (Yd.fieldAddr FA102_0 rfl) rfl ?_
  refine WL.yd (Yd.load1 Tryz.isAgg99 rfl (by first | exact ro0 rfl rfl | exact ro1 rfl rfl)) rfl ?_
  refine WL.yd (Yd.loadN Tryz.isAgg32 Tryz.sizeOf32 rfl (vs := [_, _, _, _, _]) rfl (by first | exact rn0 (n := 5) rfl rfl | exact rn1 (n := 5) rfl rfl)) rfl ?_
  refine WL.so (SO.call (Enters.val Tryz.call114 rfl rfl) (fun w hI => putBoats_g x m (boatsB_iff.1 h) D hL hR _ hI.imm)) rfl ?_
  rintro _ _ _ ⟨rfl, rfl, rfl⟩
  refine zya rfl rfl ?_
  refine WL.nil (WP.thenC (WC.ret ?_))
  refine WP.ret1 rfl rfl Tryz.results58 (RV.tmp rfl) (fun w hI => ⟨rfl, hI.keep⟩)

theorem writeBoats_no (x : Boats) (m : BoatsM) (h : boatsB x = false) (D : Imm) (hL : LibD D) (hR : BoatsR D x m) (w : World) (hH : Holds D w) : Fails Tryz.prog 58 [.agg #[.func (.func 114) #[] #[], .func (.func 115) #[] #[], .func (.func 116) #[] #[]], boatsV x m] w (stopB 1) := by
  unfold Fails
  refine enter Tryz.func58 rfl 14 Tryz.ntmps58 (zqb rfl) (Inv.start hH) ?_
  refine WC.seq (WC.ofFr [(0, _), (1, _)] ⟨rfl, rfl, trivial⟩ (WC.region ?_))
  refine WL.so (SO.box rfl rfl) rfl ?_
  rintro _ _ _ ⟨b2, hb2, rfl, rfl, rfl⟩
  refine WL.so (SO.box rfl rfl) rfl ?_
  rintro _ _ _ ⟨b3, hb3, rfl, rfl, rfl⟩
  refine zya rfl rfl ?_
  refine WL.nil (WP.thenC (WC.seq (WC.ofFr [(4, _), (3, _), (2, _)] ⟨rfl, rfl, rfl, trivial⟩ (WC.region ?_))))
  refine WL.yd (Yd.fieldAddr FA102_1 rfl) rfl ?_
  refine WL.yd (Yd.load1 Tryz.isAgg71 rfl (by first | exact ro0 rfl rfl | exact ro1 rfl rfl)) rfl ?_
  refine WL.yd (Yd.loadN Tryz.isAgg32 Tryz.sizeOf32 rfl (vs := [_, _, _, _, _]) rfl (by first | exact rn0 (n := 5) rfl rfl | exact rn1 (n := 5) rfl rfl)) rfl ?_
  refine WL.so (SO.call (Enters.val Tryz.call115 rfl rfl) (fun w hI => isBoats_g x m D _ hR hI.imm)) rfl ?_
  rintro _ _ _ ⟨rfl, rfl, rfl⟩
  refine WL.know 8 (.bool false) rfl (congrArg Value.bool h) ?_
  refine WL.no (SO.fail (Enters.func Tryz.call61 rfl) (fun w hI => must_no _ _) ?_)
  refine WP.thenPanic ?_
  refine WP.panicBody rfl (fun w hI => ⟨rfl, hI.keep⟩)

theorem WriteBoats_g (x : Boats) (m : BoatsM) (D : Imm) (hL : LibD D) (hR : BoatsR D x m) (w : World) (hH : Holds D w) : Gives Tryz.prog 18 [boatsV x m] w (.tuple #[st (wrO boatsB putBoats x).1, it (wrO boatsB putBoats x).2]) := by
  unfold Gives
  refine enterD Tryz.func18 rfl 7 Tryz.ntmps18 (zqb rfl) (Inv.start hH) ?_
  refine WC.seq (WC.ofFr [(0, _)] ⟨rfl, trivial⟩ (WC.region ?_))
  refine WL.so (SO.box rfl rfl) rfl ?_
  rintro _ _ _ ⟨b1, hb1, rfl, rfl, rfl⟩
  refine zya rfl rfl ?_
  refine WL.so (SO.alloc Tryz.zeroValue38 rfl) rfl ?_
  rintro _ _ _ ⟨b3, hb3, rfl, rfl, rfl⟩
  refine WL.nil (WP.thenC (WC.seq (WC.ofFr [(3, _), (2, _), (1, _)] ⟨rfl, rfl, rfl, trivial⟩ (WC.region ?_))))
  refine WL.deferA rfl ?_
  refine WL.nil (WP.thenC (WC.seq (WC.ofFr [(3, _), (2, _), (1, _)] ⟨rfl, rfl, rfl, trivial⟩ ?_)))
  refine WC.drawH [(b1, _)] (by kernel_rfl) (fun _ hI => hI.tail) ?_
  refine WH.two (i := 0) (j := 1) (by kernel_rfl) ?_ ?_
  · refine WHo.so rfl (SO.callP Tryz.call59 rfl (fun w hI => conBoats_g _)) rfl ?_
    rintro _ _ _ ⟨rfl, rfl, rfl⟩
    refine ⟨(fun _ hI => hI.tail), ?_⟩
    refine WH.one (i := 1) (by kernel_rfl) (WHo.yd rfl (Yd.loadN Tryz.isAgg32 Tryz.sizeOf32 rfl (vs := [_, _, _, _, _]) rfl (by first | exact rn0 (n := 5) rfl rfl | exact rn1 (n := 5) rfl rfl)) rfl ?_)
    rcases h6 : boatsB x with _ | _
    · refine WH.one (i := 2) (by kernel_rfl) (WHo.no rfl (SO.fail (Enters.func Tryz.call58 rfl) (fun w hI => writeBoats_no x m h6 D hL hR _ hI.imm) ?_))
      refine WP.thenPanic ?_
      refine WP.panicDA (k := 0) [_, _] [_, _] rfl Tryz.call51 rfl (fun w hI => answer_catch b3 1 0 _ w (hI.own _ _ (List.mem_of_getElem? (i := 0) rfl))) Tryz.results18 ⟨(RV.tmp rfl), (RV.cell1 Tryz.isAgg38 rfl (by first | exact ro0 rfl rfl | exact ro1 rfl rfl)), trivial⟩ (fun w hI => ⟨congrArg Ending.returned (by rw [wrO_no h6]; rfl), hI.keep⟩)
    · skip
      refine WH.one (i := 2) (by kernel_rfl) (WHo.so rfl (SO.callP Tryz.call58 rfl (fun w hI => writeBoats_ok x m h6 D hL hR _ hI.imm)) rfl ?_)
      rintro _ _ _ ⟨rfl, rfl, rfl⟩
      refine ⟨(fun _ hI => hI.tail), ?_⟩
      refine WH.one (i := 3) (by kernel_rfl) (WHo.yd rfl (Yd.assign rfl) rfl ?_)
      refine WH.one (i := 4) (by kernel_rfl) (WHo.so rfl (SO.store 0 rfl Tryz.sizeOf38 rfl rfl rfl rfl (zqb rfl) (oneB_spec rfl)) rfl ?_)
      rintro _ _ _ ⟨rfl, rfl, rfl⟩
      refine ⟨(fun _ hI => hI.tail), ?_⟩
      refine WH.nil (by kernel_rfl) ?_
      refine WP.thenC (WC.ret ?_)
      refine WP.endDA [_, _] [_, _] rfl rfl Tryz.call51 (fun w hI => answer_idle b3 w) Tryz.results18 ⟨(RV.tmp rfl), (RV.cell1 Tryz.isAgg38 rfl (by first | exact ro0 rfl rfl | exact ro1 rfl rfl)), trivial⟩ (fun w hI => ⟨congrArg Ending.returned (by rw [wrO_yes h6]; rfl), hI.keep⟩)
  · refine WHo.yd rfl (Yd.loadN Tryz.isAgg32 Tryz.sizeOf32 rfl (vs := [_, _, _, _, _]) rfl (by first | exact rn0 (n := 5) rfl rfl | exact rn1 (n := 5) rfl rfl)) rfl ?_
    refine WH.one (i := 0) (by kernel_rfl) (WHo.so rfl (SO.callP Tryz.call59 rfl (fun w hI => conBoats_g _)) rfl ?_)
    rintro _ _ _ ⟨rfl, rfl, rfl⟩
    refine ⟨(fun _ hI => hI.tail), ?_⟩
    rcases h6 : boatsB x with _ | _
    · refine WH.one (i := 2) (by kernel_rfl) (WHo.no rfl (SO.fail (Enters.func Tryz.call58 rfl) (fun w hI => writeBoats_no x m h6 D hL hR _ hI.imm) ?_))
      refine WP.thenPanic ?_
      refine WP.panicDA (k := 0) [_, _] [_, _] rfl Tryz.call51 rfl (fun w hI => answer_catch b3 1 0 _ w (hI.own _ _ (List.mem_of_getElem? (i := 0) rfl))) Tryz.results18 ⟨(RV.tmp rfl), (RV.cell1 Tryz.isAgg38 rfl (by first | exact ro0 rfl rfl | exact ro1 rfl rfl)), trivial⟩ (fun w hI => ⟨congrArg Ending.returned (by rw [wrO_no h6]; rfl), hI.keep⟩)
    · skip
      refine WH.one (i := 2) (by kernel_rfl) (WHo.so rfl (SO.callP Tryz.call58 rfl (fun w hI => writeBoats_ok x m h6 D hL hR _ hI.imm)) rfl ?_)
      rintro _ _ _ ⟨rfl, rfl, rfl⟩
      refine ⟨(fun _ hI => hI.tail), ?_⟩
      refine WH.one (i := 3) (by kernel_rfl) (WHo.yd rfl (Yd.assign rfl) rfl ?_)
      refine WH.one (i := 4) (by kernel_rfl) (WHo.so rfl (SO.store 0 rfl Tryz.sizeOf38 rfl rfl rfl rfl (zqb rfl) (oneB_spec rfl)) rfl ?_)
      rintro _ _ _ ⟨rfl, rfl, rfl⟩
      refine ⟨(fun _ hI => hI.tail), ?_⟩
      refine WH.nil (by kernel_rfl) ?_
      refine WP.thenC (WC.ret ?_)
      refine WP.endDA [_, _] [_, _] rfl rfl Tryz.call51 (fun w hI => answer_idle b3 w) Tryz.results18 ⟨(RV.tmp rfl), (RV.cell1 Tryz.isAgg38 rfl (by first | exact ro0 rfl rfl | exact ro1 rfl rfl)), trivial⟩ (fun w hI => ⟨congrArg Ending.returned (by rw [wrO_yes h6]; rfl), hI.keep⟩)

theorem readBoats_zero {s : Bs} {z : Boats} {c : Int} (h : readX boatsZ boatsP boatsB putBoats s = (z, c)) (hc : c ≠ 0) : z = boatsZ := by
  unfold readX at h
  split at h
  · cases h; rfl
  · split at h
    · cases h; rfl
    · split at h
      · cases h; exact absurd rfl hc
      · cases h; rfl

theorem ReadBoats_g (s : Bs) (hs : s.length ≤ 2 ^ 20) (D : Imm) (hL : LibD D) (w : World) (hH : Holds D w) : Makes Tryz.prog 38 [st s] w D (fun v D' => ∃ x m c, readBoats s = (x, c) ∧ v = .tuple #[boatsV x m, it c] ∧ BoatsR D' x m) := by
  unfold Makes
  refine enterD Tryz.func38 rfl 7 Tryz.ntmps38 (zqb rfl) (Inv.start hH) ?_
  refine WC.seq (WC.ofFr [(0, _)] ⟨rfl, trivial⟩ (WC.region ?_))
  refine WL.so (SO.alloc Tryz.zeroValue32 rfl) rfl ?_
  rintro _ _ _ ⟨b2, hb2, rfl, rfl, rfl⟩
  refine WL.so (SO.alloc Tryz.zeroValue38 rfl) rfl ?_
  rintro _ _ _ ⟨b3, hb3, rfl, rfl, rfl⟩
  refine WL.nil (WP.thenC (WC.seq (WC.ofFr [(3, _), (2, _), (0, _)] ⟨rfl, rfl, rfl, trivial⟩ (WC.region ?_))))
  refine WL.deferA rfl ?_
  refine WL.nil (WP.thenC (WC.seq (WC.ofFr [(3, _), (2, _), (0, _)] ⟨rfl, rfl, rfl, trivial⟩ (WC.region ?_))))
  refine WL.so (SO.callP Tryz.call59 rfl (fun w hI => conBoats_g _)) rfl ?_
  rintro _ _ _ ⟨rfl, rfl, rfl⟩
  refine zym rfl rfl ?_
  refine WL.so (SO.tryE (Enters.func Tryz.call79 rfl) (fun w hI => readBoats_g s hs D hL w hI.imm) ?_) rfl ?_
  · rintro z c hz hc
    refine WP.thenPanic ?_
    refine WP.panicDA (k := 0) [_, _] [_, _] rfl Tryz.call51 rfl (fun w hI => answer_catch b3 c 0 _ w (hI.own _ _ (List.mem_of_getElem? (i := 0) rfl))) Tryz.results38 ⟨(RV.cellN Tryz.isAgg32 Tryz.sizeOf32 rfl (vs := [_, _, _, _, _]) rfl (by first | exact rn0 (n := 5) rfl rfl | exact rn1 (n := 5) rfl rfl)), (RV.cell1 Tryz.isAgg38 rfl (by first | exact ro0 rfl rfl | exact ro1 rfl rfl)), trivial⟩ (fun w hI => ⟨_, D, rfl, hI.keep, hI.imm, DExt.refl _ _, boatsZ, ⟨⟨none, 0, 0⟩, []⟩, c, readBoats_zero hz hc ▸ hz, rfl, ⟨SlL.nil _ _, rfl, fun i hi => absurd hi (Nat.not_lt_zero i), Nat.zero_le _, fun i hi => absurd hi (Nat.not_lt_zero i)⟩⟩)
  · rintro _ D2 _ ⟨y, hy, hX2, ⟨m, rfl, hR⟩, rfl⟩
    refine WL.so (SO.store 1 rfl Tryz.sizeOf32 rfl rfl rfl rfl (zqb rfl) (oneB_spec rfl)) rfl ?_
    rintro _ _ _ ⟨rfl, rfl, rfl⟩
    refine WL.so (SO.store 0 rfl Tryz.sizeOf38 rfl rfl rfl rfl (zqb rfl) (oneB_spec rfl)) rfl ?_
    rintro _ _ _ ⟨rfl, rfl, rfl⟩
    refine WL.nil (WP.thenC (WC.ret ?_))
    refine WP.endDA [_, _] [_, _] rfl rfl Tryz.call51 (fun w hI => answer_idle b3 w) Tryz.results38 ⟨(RV.cellN Tryz.isAgg32 Tryz.sizeOf32 rfl (vs := [_, _, _, _, _]) rfl (by first | exact rn0 (n := 5) rfl rfl | exact rn1 (n := 5) rfl rfl)), (RV.cell1 Tryz.isAgg38 rfl (by first | exact ro0 rfl rfl | exact ro1 rfl rfl)), trivial⟩ (fun w hI => ⟨_, D2, rfl, hI.keep, hI.imm, hX2, y, m, 0, hy, rfl, hR⟩)

end Go.Proofs.YtaebnllfmkcpgaaGreatDoor
namespace Go.Proofs.YtaebnllfmkcpgaaGreatDoor
open Go.W Go.Bk
theorem FA35_0 : FieldAt Tryz.prog 35 0 0 := FieldAt.mk (t := 3) (off := 0) Tryz.underlying35 rfl Tryz.sizeOf3 (by decide)
theorem FA35_1 : FieldAt Tryz.prog 35 1 1 := FieldAt.mk (t := 33) (off := 1) Tryz.underlying35 rfl Tryz.sizeOf33 (by decide)
theorem FA116_0 : FieldAt Tryz.prog 116 0 0 := FieldAt.mk (t := 3) (off := 0) Tryz.underlying116 rfl Tryz.sizeOf3 (by decide)
theorem FA116_1 : FieldAt Tryz.prog 116 1 1 := FieldAt.mk (t := 3) (off := 1) Tryz.underlying116 rfl Tryz.sizeOf3 (by decide)
theorem FA116_2 : FieldAt Tryz.prog 116 2 2 := FieldAt.mk (t := 114) (off := 2) Tryz.underlying116 rfl Tryz.sizeOf114 (by decide)
def mvC (m : Mv) : List Value := [it m.at_, it m.place, it m.long.lo, it m.long.hi]
theorem mvC_len : ∀ s, (mvC s).length = 4 := fun _ => rfl
abbrev horsV (h : Hors) (m : Sl) : Value := .agg #[it h.pace, slV m]
structure HorsR (D : Imm) (h : Hors) (m : Sl) : Prop where
  r : SlL D 4 (h.moves.map mvC) m.a m.n
  n : m.n ≤ 9223372036854775807
theorem HorsR.ext {w : World} {D D' : Imm} (hD : DExt w D D') {h : Hors} {m : Sl} (hR : HorsR D h m) : HorsR D' h m := ⟨hR.r.ext hD, hR.n⟩
def btC (b : UInt8) : List Value := [bt b]
theorem btC_len : ∀ s, (btC s).length = 1 := fun _ => rfl
def ntC (n : Nat) : List Value := [nt n]
theorem ntC_len : ∀ s, (ntC s).length = 1 := fun _ => rfl

theorem isHors_g (h : Hors) (m : Sl) (D : Imm) (w : World) (hR : HorsR D h m) (hH : Holds D w) : Gives Tryz.prog 62 [horsV h m] w (.bool (horsB h)) := by
  unfold Gives
  obtain ⟨ma, mn, mc⟩ := m
  obtain rfl : mn = h.moves.length := hR.r.len'
  have hRm : SlL D 4 (h.moves.map mvC) ma h.moves.length := hR.r
  have nm : h.moves.length ≤ 9223372036854775807 := hR.n
  refine enter Tryz.func62 rfl 40 Tryz.ntmps62 (zqb rfl) (Inv.start hH) ?_
  refine WC.seq (WC.ofFr [(0, _)] ⟨rfl, trivial⟩ (WC.region ?_))
  refine WL.so (SO.box rfl rfl) rfl ?_
  rintro _ _ _ ⟨b1, hb1, rfl, rfl, rfl⟩
  refine zya rfl rfl ?_
  refine WL.nil (WP.thenC ?_)
  refine WC.seqJ (α := Unit) (fun _ => [(1, pt b1), (3, .bool (inB h.pace 0 3 && decide (h.moves.length ≤ 7)))]) (fun _ => [(b1, .cells (List.toArray [it h.pace, .slice ma h.moves.length mc]) 35 (0, 0))]) (fun _ => D) (fun _ => True) ?_ ?_
  · rintro _ -
    refine WC.seq (WC.seq (WC.ofFr [(1, _), (3, _)] ⟨rfl, rfl, trivial⟩ (WC.region ?_)))
    refine WL.yd (Yd.fieldAddr FA35_1 rfl) rfl ?_
    refine WL.yd (Yd.load1 Tryz.isAgg33 rfl (Rd.own (k := 0) rfl rfl)) rfl ?_
    refine WL.yd (Yd.lenS rfl Tryz.underlying33 rfl) rfl ?_
    refine zym rfl rfl ?_
    refine WL.nil (WP.thenC (WC.block ?_))
    refine WC.loopF (fun k : Nat => [(1, pt b1), (3, .bool ((inB h.pace 0 3 && decide (h.moves.length ≤ 7)) && (h.moves.take k).all moveB)), (16, .slice ma h.moves.length mc), (17, nt h.moves.length), (18, nt k)]) (fun k => k ≤ h.moves.length) (fun k => h.moves.length - k) 0 (Nat.zero_le _) ⟨rfl, some_bool (by simp), rfl, rfl, rfl, trivial⟩ ?_
    intro k hk
    refine WC.seq (WC.ofFr [(1, _), (3, _), (16, _), (17, _), (18, _)] ⟨rfl, rfl, rfl, rfl, rfl, trivial⟩ (WC.region ?_))
    refine WL.yd (Yd.lss rfl rfl) rfl ?_
    refine WL.nil (WP.thenC (WC.seq ?_))
    refine WC.cond rfl (fun c19 => ?_) (fun c19 => ?_)
    · try simp only [zq1, zq2, zq3, zq4, zq5, zq6, zq7, zq8] at c19
      have hkl : k < h.moves.length := by omega
      refine WC.skip (WP.thenC (WC.seq (WC.block (WC.seq (WC.ofFr [(1, _), (3, _), (16, _), (17, _), (18, _)] ⟨rfl, rfl, rfl, rfl, rfl, trivial⟩ (WC.region ?_))))))
      refine WL.yd (Yd.indexS Tryz.underlying33 Tryz.sizeOf116 rfl rfl (by omega) (by omega) (by first | exact hRm.addr k (by omega))) rfl ?_
      refine WL.yd (Yd.loadN Tryz.isAgg116 Tryz.sizeOf116 rfl (vs := [_, _, _, _]) rfl ((hRm.at k (by omega)).rdn 0 4 rfl)) rfl ?_
      refine WL.so (SO.alloc Tryz.zeroValue116 rfl) rfl ?_
      rintro _ _ _ ⟨b5, hb5, rfl, rfl, rfl⟩
      refine WL.so (SO.store 0 rfl Tryz.sizeOf116 rfl rfl rfl rfl (zqb rfl) (oneB_spec rfl)) rfl ?_
      rintro _ _ _ ⟨rfl, rfl, rfl⟩
      refine WL.nil (WP.thenC (WC.ofFr [(5, _), (1, _), (3, _), (16, _), (17, _), (18, _)] ⟨rfl, rfl, rfl, rfl, rfl, rfl, trivial⟩ (WC.region ?_)))
      refine zym rfl rfl ?_
      refine zym rfl rfl ?_
      refine WL.part 23 rfl (fun g23 => ?_) (fun g23 => ?_)
      · try simp only [zq1, zq2, zq3, zq4, zq5, zq6, zq7, zq8] at g23
        refine WL.ydg rfl (Yd.fieldAddr FA116_0 rfl) rfl ?_
        refine WL.ydg rfl (Yd.load1 Tryz.isAgg3 rfl (Rd.own (k := 0) rfl rfl)) rfl ?_
        refine WL.sog rfl (SO.callP Tryz.call120 rfl (fun w hI => within_g _ _ _ _)) rfl ?_
        rintro _ _ _ ⟨rfl, rfl, rfl⟩
        refine WL.yd (Yd.pickT rfl rfl) rfl ?_
        refine zym rfl rfl ?_
        refine WL.part 28 rfl (fun g28 => ?_) (fun g28 => ?_)
        · try simp only [zq1, zq2, zq3, zq4, zq5, zq6, zq7, zq8] at g28
          refine WL.ydg rfl (Yd.fieldAddr FA116_1 rfl) rfl ?_
          refine WL.ydg rfl (Yd.load1 Tryz.isAgg3 rfl (Rd.own (k := 0) rfl rfl)) rfl ?_
          refine WL.sog rfl (SO.callP Tryz.call120 rfl (fun w hI => within_g _ _ _ _)) rfl ?_
          rintro _ _ _ ⟨rfl, rfl, rfl⟩
          refine WL.yd (Yd.pickT rfl rfl) rfl ?_
          refine zym rfl rfl ?_
          refine WL.part 33 rfl (fun g33 => ?_) (fun g33 => ?_)
          · try simp only [zq1, zq2, zq3, zq4, zq5, zq6, zq7, zq8] at g33
            refine WL.ydg rfl (Yd.fieldAddr FA116_2 rfl) rfl ?_
            refine WL.ydg rfl (Yd.loadN Tryz.isAgg114 Tryz.sizeOf114 rfl (vs := [_, _]) rfl (RdN.own (k := 0) (n := 2) rfl rfl)) rfl ?_
            refine WL.sog rfl (SO.callP Tryz.call121 rfl (fun w hI => isSpan_g (gt h.moves k).long 1 20 _)) rfl ?_
            rintro _ _ _ ⟨rfl, rfl, rfl⟩
            refine WL.yd (Yd.pickT rfl rfl) rfl ?_
            refine zya rfl rfl ?_
            refine WL.nil (WP.blkNormal (WP.thenC (WC.ofFr [(3, _), (1, _), (16, _), (17, _), (18, _)] ⟨rfl, rfl, rfl, rfl, rfl, trivial⟩ (WC.region ?_))))
            refine WL.yd (Yd.add rfl rfl (wr64 ⟨by omega, by omega⟩)) rfl ?_
            refine zym rfl rfl ?_
            refine WL.nil ?_
            exact WP.againF (k + 1) hkl (by omega) ⟨rfl, some_bool (by rw [all_succ hkl]; exact bs3 (fun a b c => by first | rfl | assumption | (exact bnc a (by assumption)) | (exact bnc (by assumption) a) | (exact bnc b (by assumption)) | (exact bnc (by assumption) b) | (exact bnc c (by assumption)) | (exact bnc (by assumption) c)) (fun a b c => by first | rfl | assumption | (exact bnc a (by assumption)) | (exact bnc (by assumption) a) | (exact bnc b (by assumption)) | (exact bnc (by assumption) b) | (exact bnc c (by assumption)) | (exact bnc (by assumption) c)) (fun a b => by first | rfl | assumption | (exact bnc a (by assumption)) | (exact bnc (by assumption) a) | (exact bnc b (by assumption)) | (exact bnc (by assumption) b) | (exact bnc c (by assumption)) | (exact bnc (by assumption) c)) (fun a => by first | rfl | assumption | (exact bnc a (by assumption)) | (exact bnc (by assumption) a) | (exact bnc b (by assumption)) | (exact bnc (by assumption) b) | (exact bnc c (by assumption)) | (exact bnc (by assumption) c))), rfl, rfl, rfl, trivial⟩ (fun _ h => List.mem_cons_of_mem _ h) (fun h => (List.nodup_cons.1 h).2)
          · try simp only [zq1, zq2, zq3, zq4, zq5, zq6, zq7, zq8] at g33
            refine WL.skip rfl rfl ?_
            refine WL.skip rfl rfl ?_
            refine WL.skip rfl rfl ?_
            refine WL.yd (Yd.pickF rfl rfl) rfl ?_
            refine zya rfl rfl ?_
            refine WL.nil (WP.blkNormal (WP.thenC (WC.ofFr [(3, _), (1, _), (16, _), (17, _), (18, _)] ⟨rfl, rfl, rfl, rfl, rfl, trivial⟩ (WC.region ?_))))
            refine WL.yd (Yd.add rfl rfl (wr64 ⟨by omega, by omega⟩)) rfl ?_
            refine zym rfl rfl ?_
            refine WL.nil ?_
            exact WP.againF (k + 1) hkl (by omega) ⟨rfl, some_bool (by rw [all_succ hkl]; exact bs3 (fun a b c => by first | rfl | assumption | (exact bnc a (by assumption)) | (exact bnc (by assumption) a) | (exact bnc b (by assumption)) | (exact bnc (by assumption) b) | (exact bnc c (by assumption)) | (exact bnc (by assumption) c)) (fun a b c => by first | rfl | assumption | (exact bnc a (by assumption)) | (exact bnc (by assumption) a) | (exact bnc b (by assumption)) | (exact bnc (by assumption) b) | (exact bnc c (by assumption)) | (exact bnc (by assumption) c)) (fun a b => by first | rfl | assumption | (exact bnc a (by assumption)) | (exact bnc (by assumption) a) | (exact bnc b (by assumption)) | (exact bnc (by assumption) b) | (exact bnc c (by assumption)) | (exact bnc (by assumption) c)) (fun a => by first | rfl | assumption | (exact bnc a (by assumption)) | (exact bnc (by assumption) a) | (exact bnc b (by assumption)) | (exact bnc (by assumption) b) | (exact bnc c (by assumption)) | (exact bnc (by assumption) c))), rfl, rfl, rfl, trivial⟩ (fun _ h => List.mem_cons_of_mem _ h) (fun h => (List.nodup_cons.1 h).2)
        · try simp only [zq1, zq2, zq3, zq4, zq5, zq6, zq7, zq8] at g28
          refine WL.skip rfl rfl ?_
          refine WL.skip rfl rfl ?_
          refine WL.skip rfl rfl ?_
          refine WL.yd (Yd.pickF rfl rfl) rfl ?_
          refine zym rfl rfl ?_
          refine WL.skip rfl rfl ?_
          refine WL.skip rfl rfl ?_
          refine WL.skip rfl rfl ?_
          refine WL.yd (Yd.pickF rfl rfl) rfl ?_
          refine zya rfl rfl ?_
          refine WL.nil (WP.blkNormal (WP.thenC (WC.ofFr [(3, _), (1, _), (16, _), (17, _), (18, _)] ⟨rfl, rfl, rfl, rfl, rfl, trivial⟩ (WC.region ?_))))
          refine WL.yd (Yd.add rfl rfl (wr64 ⟨by omega, by omega⟩)) rfl ?_
          refine zym rfl rfl ?_
          refine WL.nil ?_
          exact WP.againF (k + 1) hkl (by omega) ⟨rfl, some_bool (by rw [all_succ hkl]; exact bs3 (fun a b c => by first | rfl | assumption | (exact bnc a (by assumption)) | (exact bnc (by assumption) a) | (exact bnc b (by assumption)) | (exact bnc (by assumption) b) | (exact bnc c (by assumption)) | (exact bnc (by assumption) c)) (fun a b c => by first | rfl | assumption | (exact bnc a (by assumption)) | (exact bnc (by assumption) a) | (exact bnc b (by assumption)) | (exact bnc (by assumption) b) | (exact bnc c (by assumption)) | (exact bnc (by assumption) c)) (fun a b => by first | rfl | assumption | (exact bnc a (by assumption)) | (exact bnc (by assumption) a) | (exact bnc b (by assumption)) | (exact bnc (by assumption) b) | (exact bnc c (by assumption)) | (exact bnc (by assumption) c)) (fun a => by first | rfl | assumption | (exact bnc a (by assumption)) | (exact bnc (by assumption) a) | (exact bnc b (by assumption)) | (exact bnc (by assumption) b) | (exact bnc c (by assumption)) | (exact bnc (by assumption) c))), rfl, rfl, rfl, trivial⟩ (fun _ h => List.mem_cons_of_mem _ h) (fun h => (List.nodup_cons.1 h).2)
      · try simp only [zq1, zq2, zq3, zq4, zq5, zq6, zq7, zq8] at g23
        refine WL.skip rfl rfl ?_
        refine WL.skip rfl rfl ?_
        refine WL.skip rfl rfl ?_
        refine WL.yd (Yd.pickF rfl rfl) rfl ?_
        refine zym rfl rfl ?_
        refine WL.skip rfl rfl ?_
        refine WL.skip rfl rfl ?_
        refine WL.skip rfl rfl ?_
        refine WL.yd (Yd.pickF rfl rfl) rfl ?_
        refine zym rfl rfl ?_
        refine WL.skip rfl rfl ?_
        refine WL.skip rfl rfl ?_
        refine WL.skip rfl rfl ?_
        refine WL.yd (Yd.pickF rfl rfl) rfl ?_
        refine zya rfl rfl ?_
        refine WL.nil (WP.blkNormal (WP.thenC (WC.ofFr [(3, _), (1, _), (16, _), (17, _), (18, _)] ⟨rfl, rfl, rfl, rfl, rfl, trivial⟩ (WC.region ?_))))
        refine WL.yd (Yd.add rfl rfl (wr64 ⟨by omega, by omega⟩)) rfl ?_
        refine zym rfl rfl ?_
        refine WL.nil ?_
        exact WP.againF (k + 1) hkl (by omega) ⟨rfl, some_bool (by rw [all_succ hkl]; exact bs3 (fun a b c => by first | rfl | assumption | (exact bnc a (by assumption)) | (exact bnc (by assumption) a) | (exact bnc b (by assumption)) | (exact bnc (by assumption) b) | (exact bnc c (by assumption)) | (exact bnc (by assumption) c)) (fun a b c => by first | rfl | assumption | (exact bnc a (by assumption)) | (exact bnc (by assumption) a) | (exact bnc b (by assumption)) | (exact bnc (by assumption) b) | (exact bnc c (by assumption)) | (exact bnc (by assumption) c)) (fun a b => by first | rfl | assumption | (exact bnc a (by assumption)) | (exact bnc (by assumption) a) | (exact bnc b (by assumption)) | (exact bnc (by assumption) b) | (exact bnc c (by assumption)) | (exact bnc (by assumption) c)) (fun a => by first | rfl | assumption | (exact bnc a (by assumption)) | (exact bnc (by assumption) a) | (exact bnc b (by assumption)) | (exact bnc (by assumption) b) | (exact bnc c (by assumption)) | (exact bnc (by assumption) c))), rfl, rfl, rfl, trivial⟩ (fun _ h => List.mem_cons_of_mem _ h) (fun h => (List.nodup_cons.1 h).2)
    · try simp only [zq1, zq2, zq3, zq4, zq5, zq6, zq7, zq8] at c19
      obtain rfl : k = h.moves.length := by omega
      refine WC.exit ?_
      refine WP.thenExit ?_
      refine WP.thenExit ?_
      refine WP.blkHit ?_
      refine WP.thenC (WC.seq (WC.ofFr [(3, _)] ⟨rfl, trivial⟩ (WC.region ?_)))
      refine zym rfl rfl ?_
      refine zya rfl rfl ?_
      refine WL.nil (WP.thenC (WC.ret ?_))
      refine WP.ret1 rfl rfl Tryz.results62 (RV.tmp rfl) (fun w hI => ⟨ret_bool (by rw [List.take_length]; rfl), hI.keep⟩)
  · skip
    refine WC.ofFr [(2, _), (1, _)] ⟨rfl, rfl, trivial⟩ (WC.region ?_)
    refine WL.yd (Yd.fieldAddr FA35_0 rfl) rfl ?_
    refine WL.yd (Yd.load1 Tryz.isAgg3 rfl (Rd.own (k := 0) rfl rfl)) rfl ?_
    refine WL.so (SO.callP Tryz.call120 rfl (fun w hI => within_g _ _ _ _)) rfl ?_
    rintro _ _ _ ⟨rfl, rfl, rfl⟩
    refine zym rfl rfl ?_
    refine WL.part 9 rfl (fun g9 => ?_) (fun g9 => ?_)
    · try simp only [zq1, zq2, zq3, zq4, zq5, zq6, zq7, zq8] at g9
      refine WL.ydg rfl (Yd.fieldAddr FA35_1 rfl) rfl ?_
      refine WL.ydg rfl (Yd.load1 Tryz.isAgg33 rfl (Rd.own (k := 0) rfl rfl)) rfl ?_
      refine WL.ydg rfl (Yd.lenS rfl Tryz.underlying33 rfl) rfl ?_
      refine WL.ydg rfl (Yd.leq rfl rfl) rfl ?_
      refine WL.yd (Yd.pickT rfl rfl) rfl ?_
      refine zya rfl rfl ?_
      refine WL.nil ?_
      exact WP.join () trivial (fun a w h => at_less h ⟨rfl, some_bool (by first | (simp_all; done) | (rw [Bool.eq_iff_iff]; simp_all; done) | (rw [Bool.eq_iff_iff]; simp_all; omega)), trivial⟩ (fun _ h => h) (fun h => h))
    · try simp only [zq1, zq2, zq3, zq4, zq5, zq6, zq7, zq8] at g9
      refine WL.skip rfl rfl ?_
      refine WL.skip rfl rfl ?_
      refine WL.skip rfl rfl ?_
      refine WL.skip rfl rfl ?_
      refine WL.yd (Yd.pickF rfl rfl) rfl ?_
      refine zya rfl rfl ?_
      refine WL.nil ?_
      exact WP.join () trivial (fun a w h => at_less h ⟨rfl, some_bool (by first | (simp_all; done) | (rw [Bool.eq_iff_iff]; simp_all; done) | (rw [Bool.eq_iff_iff]; simp_all; omega)), trivial⟩ (fun _ h => h) (fun h => h))

theorem rev1_g (b c : Nat) (u : UInt8) (rest : List Value) (D : Imm) (w : World) (hI : Inv D [(b, .cells ([bt u] ++ rest).toArray 5 (0, 0))] [b] w w) : Alters Tryz.prog 155 [.slice (some ⟨b, 0, none⟩) 1 c] w D [b] (fun _ D' h' => D = D' ∧ h' = [(b, .cells ([bt u] ++ rest).toArray 5 (0, 0))]) := by
  unfold Alters
  refine enter Tryz.func155 rfl 28 Tryz.ntmps155 (zqb rfl) hI ?_
  refine WC.seq (WC.ofFr [(0, _)] ⟨rfl, trivial⟩ (WC.region ?_))
  refine zym rfl rfl ?_
  refine WL.yd (Yd.lenS rfl Tryz.underlying43 rfl) rfl ?_
  refine WL.yd (Yd.sub rfl rfl (wr64 ⟨by (try dsimp only); omega, by (try dsimp only); omega⟩)) rfl ?_
  refine zya rfl rfl ?_
  refine zya rfl rfl ?_
  refine WL.nil (WP.thenC (WC.block ?_))
  refine WC.loopT [] (fun y : Nat × List Value => [(0, .slice (some ⟨b, 0, none⟩) 1 c), (2, nt y.1), (3, it (0 - (y.1 : Int)))]) (fun y => [(b, .cells (y.2 ++ rest).toArray 5 (0, 0))]) (fun y => (y.1 = 0 ∧ y.2 = [bt u]) ∨ (y.1 = 1 ∧ y.2 = [bt u] ∧ 1 = 2)) (fun y => 1 - y.1) (0, [bt u]) (.inl ⟨rfl, rfl⟩) rfl ⟨rfl, rfl, rfl, trivial⟩ ?_
  rintro ⟨k, cs⟩ hk
  dsimp only at hk
  refine WC.seq (WC.seq (WC.ofFr [(0, _), (2, _), (3, _)] ⟨rfl, rfl, rfl, trivial⟩ (WC.region ?_)))
  refine zym rfl rfl ?_
  refine zym rfl rfl ?_
  refine WL.yd (Yd.lss rfl rfl) rfl ?_
  refine WL.nil (WP.thenC ?_)
  refine WC.cond rfl (fun c9 => ?_) (fun c9 => ?_)
  · try simp only [zq1, zq2, zq3, zq4, zq5, zq6, zq7, zq8] at c9
    exfalso; rcases hk with h | h <;> omega
    skip
  · try simp only [zq1, zq2, zq3, zq4, zq5, zq6, zq7, zq8] at c9
    obtain ⟨rfl, rfl⟩ : k = 0 ∧ cs = [bt u] := by rcases hk with h | h; exact h; omega
    refine WC.exit ?_
    refine WP.thenExit ?_
    refine WP.thenExit ?_
    refine WP.blkHit ?_
    refine WP.ret0 rfl rfl Tryz.results155  (fun w hI => ⟨_, D, _, rfl, DExt.refl _ _, hI, (fun _ h => h), rfl, rfl⟩)

theorem rev2_g (b c : Nat) (u v : UInt8) (rest : List Value) (D : Imm) (w : World) (hI : Inv D [(b, .cells ([bt u, bt v] ++ rest).toArray 5 (0, 0))] [b] w w) : Alters Tryz.prog 155 [.slice (some ⟨b, 0, none⟩) 2 c] w D [b] (fun _ D' h' => D = D' ∧ h' = [(b, .cells ([bt v, bt u] ++ rest).toArray 5 (0, 0))]) := by
  unfold Alters
  refine enter Tryz.func155 rfl 28 Tryz.ntmps155 (zqb rfl) hI ?_
  refine WC.seq (WC.ofFr [(0, _)] ⟨rfl, trivial⟩ (WC.region ?_))
  refine zym rfl rfl ?_
  refine WL.yd (Yd.lenS rfl Tryz.underlying43 rfl) rfl ?_
  refine WL.yd (Yd.sub rfl rfl (wr64 ⟨by (try dsimp only); omega, by (try dsimp only); omega⟩)) rfl ?_
  refine zya rfl rfl ?_
  refine zya rfl rfl ?_
  refine WL.nil (WP.thenC (WC.block ?_))
  refine WC.loopT [] (fun y : Nat × List Value => [(0, .slice (some ⟨b, 0, none⟩) 2 c), (2, nt y.1), (3, it (1 - (y.1 : Int)))]) (fun y => [(b, .cells (y.2 ++ rest).toArray 5 (0, 0))]) (fun y => (y.1 = 0 ∧ y.2 = [bt u, bt v]) ∨ (y.1 = 1 ∧ y.2 = [bt v, bt u] ∧ 2 = 2)) (fun y => 1 - y.1) (0, [bt u, bt v]) (.inl ⟨rfl, rfl⟩) rfl ⟨rfl, rfl, rfl, trivial⟩ ?_
  rintro ⟨k, cs⟩ hk
  dsimp only at hk
  refine WC.seq (WC.seq (WC.ofFr [(0, _), (2, _), (3, _)] ⟨rfl, rfl, rfl, trivial⟩ (WC.region ?_)))
  refine zym rfl rfl ?_
  refine zym rfl rfl ?_
  refine WL.yd (Yd.lss rfl rfl) rfl ?_
  refine WL.nil (WP.thenC ?_)
  refine WC.cond rfl (fun c9 => ?_) (fun c9 => ?_)
  · try simp only [zq1, zq2, zq3, zq4, zq5, zq6, zq7, zq8] at c9
    obtain ⟨rfl, rfl⟩ : k = 0 ∧ cs = [bt u, bt v] := by rcases hk with h | h; exact h; omega
    refine WC.skip (WP.thenC (WC.seq (WC.block (WC.ofFr [(0, _), (2, _), (3, _)] ⟨rfl, rfl, rfl, trivial⟩ ?_))))
    refine WC.drawH [] (by kernel_rfl) (fun _ hI => Inv.nil hI) ?_
    refine WH.yd (i := 0) (by kernel_rfl) (fun _ o v c a w _ h => (QuietPanic.blk (QuietPanic.then (QuietPanic.then (QuietPanic.blk QuietPanic.body)))) c o.dst v a w h) rfl (Yd.move rfl) rfl ?_
    refine WH.yd (i := 1) (by kernel_rfl) (fun _ o v c a w _ h => (QuietPanic.blk (QuietPanic.then (QuietPanic.then (QuietPanic.blk QuietPanic.body)))) c o.dst v a w h) rfl (Yd.move rfl) rfl ?_
    refine WH.yd (i := 2) (by kernel_rfl) (fun _ o v c a w _ h => (QuietPanic.blk (QuietPanic.then (QuietPanic.then (QuietPanic.blk QuietPanic.body)))) c o.dst v a w h) rfl (Yd.move rfl) rfl ?_
    refine WH.yd (i := 3) (by kernel_rfl) (fun _ o v c a w _ h => (QuietPanic.blk (QuietPanic.then (QuietPanic.then (QuietPanic.blk QuietPanic.body)))) c o.dst v a w h) rfl (Yd.move rfl) rfl ?_
    refine WH.yd (i := 4) (by kernel_rfl) (fun _ o v c a w _ h => (QuietPanic.blk (QuietPanic.then (QuietPanic.then (QuietPanic.blk QuietPanic.body)))) c o.dst v a w h) rfl (Yd.move rfl) rfl ?_
    refine WH.yd (i := 5) (by kernel_rfl) (fun _ o v c a w _ h => (QuietPanic.blk (QuietPanic.then (QuietPanic.then (QuietPanic.blk QuietPanic.body)))) c o.dst v a w h) rfl (Yd.move rfl) rfl ?_
    refine WH.yd (i := 6) (by kernel_rfl) (fun _ o v c a w _ h => (QuietPanic.blk (QuietPanic.then (QuietPanic.then (QuietPanic.blk QuietPanic.body)))) c o.dst v a w h) rfl (Yd.indexS Tryz.underlying43 Tryz.sizeOf5 rfl rfl (by (try dsimp only); omega) (by (try dsimp only); omega) (by first | exact rfl)) rfl ?_
    refine WH.yd (i := 8) (by kernel_rfl) (fun _ o v c a w _ h => (QuietPanic.blk (QuietPanic.then (QuietPanic.then (QuietPanic.blk QuietPanic.body)))) c o.dst v a w h) rfl (Yd.move rfl) rfl ?_
    refine WH.yd (i := 9) (by kernel_rfl) (fun _ o v c a w _ h => (QuietPanic.blk (QuietPanic.then (QuietPanic.then (QuietPanic.blk QuietPanic.body)))) c o.dst v a w h) rfl (Yd.move rfl) rfl ?_
    refine WH.yd (i := 10) (by kernel_rfl) (fun _ o v c a w _ h => (QuietPanic.blk (QuietPanic.then (QuietPanic.then (QuietPanic.blk QuietPanic.body)))) c o.dst v a w h) rfl (Yd.indexS Tryz.underlying43 Tryz.sizeOf5 rfl rfl (by (try dsimp only); omega) (by (try dsimp only); omega) (by first | exact rfl)) rfl ?_
    refine WH.two (i := 7) (j := 11) (by kernel_rfl) ?_ ?_
    · refine WHo.yd rfl (Yd.load1 Tryz.isAgg5 rfl (by first | exact ro0 rfl rfl)) rfl ?_
      refine WH.one (i := 11) (by kernel_rfl) (WHo.yd rfl (Yd.load1 Tryz.isAgg5 rfl (by first | exact ro0 rfl rfl)) rfl ?_)
      refine WH.yd (i := 12) (by kernel_rfl) (fun _ o v c a w _ h => (QuietPanic.blk (QuietPanic.then (QuietPanic.then (QuietPanic.blk QuietPanic.body)))) c o.dst v a w h) rfl (Yd.indexS Tryz.underlying43 Tryz.sizeOf5 rfl rfl (by (try dsimp only); omega) (by (try dsimp only); omega) (by first | exact rfl)) rfl ?_
      refine WH.one (i := 13) (by kernel_rfl) (WHo.so rfl (SO.store 0 rfl Tryz.sizeOf5 rfl rfl rfl rfl (zqb rfl) (oneB_spec rfl)) rfl ?_)
      rintro _ _ _ ⟨rfl, rfl, rfl⟩
      refine ⟨(fun _ hI => Inv.nil hI), ?_⟩
      refine WH.yd (i := 14) (by kernel_rfl) (fun _ o v c a w _ h => (QuietPanic.blk (QuietPanic.then (QuietPanic.then (QuietPanic.blk QuietPanic.body)))) c o.dst v a w h) rfl (Yd.indexS Tryz.underlying43 Tryz.sizeOf5 rfl rfl (by (try dsimp only); omega) (by (try dsimp only); omega) (by first | exact rfl)) rfl ?_
      refine WH.one (i := 15) (by kernel_rfl) (WHo.so rfl (SO.store 0 rfl Tryz.sizeOf5 rfl rfl rfl rfl (zqb rfl) (oneB_spec rfl)) rfl ?_)
      rintro _ _ _ ⟨rfl, rfl, rfl⟩
      refine ⟨(fun _ hI => Inv.nil hI), ?_⟩
      refine WH.nil (by kernel_rfl) ?_
      refine WP.blkNormal (WP.thenC (WC.ofFr [(0, _), (2, _), (3, _)] ⟨rfl, rfl, rfl, trivial⟩ (WC.region ?_)))
      refine zym rfl rfl ?_
      refine WL.yd (Yd.add rfl rfl (wr64 ⟨by (try dsimp only); omega, by (try dsimp only); omega⟩)) rfl ?_
      refine zym rfl rfl ?_
      refine WL.yd (Yd.sub rfl rfl (wr64 ⟨by (try dsimp only); omega, by (try dsimp only); omega⟩)) rfl ?_
      refine zya rfl rfl ?_
      refine zya rfl rfl ?_
      refine WL.nil ?_
      exact WP.againT (1, [bt v, bt u]) (.inr ⟨rfl, rfl, rfl⟩) (by dsimp only; omega) [] _ rfl rfl ⟨rfl, rfl, rfl, trivial⟩
    · refine WHo.yd rfl (Yd.load1 Tryz.isAgg5 rfl (by first | exact ro0 rfl rfl)) rfl ?_
      refine WH.one (i := 7) (by kernel_rfl) (WHo.yd rfl (Yd.load1 Tryz.isAgg5 rfl (by first | exact ro0 rfl rfl)) rfl ?_)
      refine WH.yd (i := 12) (by kernel_rfl) (fun _ o v c a w _ h => (QuietPanic.blk (QuietPanic.then (QuietPanic.then (QuietPanic.blk QuietPanic.body)))) c o.dst v a w h) rfl (Yd.indexS Tryz.underlying43 Tryz.sizeOf5 rfl rfl (by (try dsimp only); omega) (by (try dsimp only); omega) (by first | exact rfl)) rfl ?_
      refine WH.one (i := 13) (by kernel_rfl) (WHo.so rfl (SO.store 0 rfl Tryz.sizeOf5 rfl rfl rfl rfl (zqb rfl) (oneB_spec rfl)) rfl ?_)
      rintro _ _ _ ⟨rfl, rfl, rfl⟩
      refine ⟨(fun _ hI => Inv.nil hI), ?_⟩
      refine WH.yd (i := 14) (by kernel_rfl) (fun _ o v c a w _ h => (QuietPanic.blk (QuietPanic.then (QuietPanic.then (QuietPanic.blk QuietPanic.body)))) c o.dst v a w h) rfl (Yd.indexS Tryz.underlying43 Tryz.sizeOf5 rfl rfl (by (try dsimp only); omega) (by (try dsimp only); omega) (by first | exact rfl)) rfl ?_
      refine WH.one (i := 15) (by kernel_rfl) (WHo.so rfl (SO.store 0 rfl Tryz.sizeOf5 rfl rfl rfl rfl (zqb rfl) (oneB_spec rfl)) rfl ?_)
      rintro _ _ _ ⟨rfl, rfl, rfl⟩
      refine ⟨(fun _ hI => Inv.nil hI), ?_⟩
      refine WH.nil (by kernel_rfl) ?_
      refine WP.blkNormal (WP.thenC (WC.ofFr [(0, _), (2, _), (3, _)] ⟨rfl, rfl, rfl, trivial⟩ (WC.region ?_)))
      refine zym rfl rfl ?_
      refine WL.yd (Yd.add rfl rfl (wr64 ⟨by (try dsimp only); omega, by (try dsimp only); omega⟩)) rfl ?_
      refine zym rfl rfl ?_
      refine WL.yd (Yd.sub rfl rfl (wr64 ⟨by (try dsimp only); omega, by (try dsimp only); omega⟩)) rfl ?_
      refine zya rfl rfl ?_
      refine zya rfl rfl ?_
      refine WL.nil ?_
      exact WP.againT (1, [bt v, bt u]) (.inr ⟨rfl, rfl, rfl⟩) (by dsimp only; omega) [] _ rfl rfl ⟨rfl, rfl, rfl, trivial⟩
  · try simp only [zq1, zq2, zq3, zq4, zq5, zq6, zq7, zq8] at c9
    obtain ⟨rfl, rfl, _⟩ : k = 1 ∧ cs = [bt v, bt u] ∧ 2 = 2 := by rcases hk with h | h; omega; exact h
    refine WC.exit ?_
    refine WP.thenExit ?_
    refine WP.thenExit ?_
    refine WP.blkHit ?_
    refine WP.ret0 rfl rfl Tryz.results155  (fun w hI => ⟨_, D, _, rfl, DExt.refl _ _, hI, (fun _ h => h), rfl, rfl⟩)

end Go.Proofs.YtaebnllfmkcpgaaGreatDoor
