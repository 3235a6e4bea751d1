import Derived.Test.YtejgofaeafphjaaGreatDoorXG14
import Derived.Test.YtejgofaeafphjaaGreatDoorXG5
import Derived.Lib.ItoaNum
import Derived.Lib.AtoiAll
import Derived.Test.YtejgofaeafphjaaGreatDoorXG7
set_option linter.unusedSimpArgs false
set_option linter.unusedVariables false
set_option linter.all false
set_option maxRecDepth 100000
set_option maxHeartbeats 4000000
attribute [local irreducible] Go.W.WL Go.W.WLF Go.W.WC Go.W.WCF Go.W.WP Go.W.WA Go.W.WQ Go.W.WH Go.W.WHo Go.W.WCn Go.W.Yd Go.W.Qt Go.W.SO Go.Code.wp Go.Code.wpIn
namespace Go.Proofs.YtejgofaeafphjaaGreatDoor
open Go.W Go.Ti
theorem SA229 : StructAt Tryz.prog 229 [.slice none 0 0, .slice none 0 0, .slice none 0 0, .map none] [(0, 3), (3, 1)] := ⟨⟨_, Tryz.zeroValue229, rfl⟩, _, Tryz.underlying229, fun w => by simp [Tryz.sizeOf31, Tryz.sizeOf227]⟩
@[reducible, instance] def ISA229 := SaF.mk SA229
def OpenD (T : Tide) (is : Bool) (s1 s2 s3 : Value) (D : Imm) (w : World) (e : Ending) (w' : World) : Prop :=
  (tideB T = false → e = .panicked (stopD 1) ∧ Keep [] w w') ∧ (tideB T = true → is = false → e = .panicked (stopD 2) ∧ Keep [] w w') ∧
  (tideB T = true → is = true → ∃ q mb D', e = .returned (pt q) ∧ DExt w D D' ∧ D' q = some (shoO s1 s2 s3 mb) ∧ Inv D' [(mb, .map #[] 0)] [] w w')
theorem mark_ok {T : Tide} {k : Nat} (h1 : inB (gt T.marks k).minute 0 240 = true) (h2 : narrowB (gt T.marks k).high = true) (h3 : k = 0 ∨ (gt T.marks (k - 1)).minute + 6 ≤ (gt T.marks k).minute) : markB T k = true :=
  markB_iff.2 ⟨⟨by simpa [inB] using h1, h2⟩, h3⟩
theorem mark_no {T : Tide} {k : Nat} (hT : TideOk T) (hk : k < T.marks.length) : inB (gt T.marks k).minute 0 240 = true ∧ narrowB (gt T.marks k).high = true ∧ (k = 0 ∨ (gt T.marks (k - 1)).minute + 6 ≤ (gt T.marks k).minute) := by
  refine ⟨by have := (hT.mark k hk).1; simpa [inB] using this, (hT.mark k hk).2, ?_⟩
  cases k with
  | zero => exact .inl rfl
  | succ k => exact .inr (hT.apart k hk)
theorem tide_yes {T : Tide} (h1 : inB (T.marks.length : Int) 2 4 = true) (h2 : inB (T.sand.length : Int) 1 4 = true) (h3 : (T.looks.length : Int) ≤ 6) (hm : ∀ i, i < T.marks.length → markB T i = true) (hs : ∀ i, i < T.sand.length → narrowB (gt T.sand i) = true) (hl : ∀ i, i < T.looks.length → lookB T (gt T.looks i) = true) : tideB T = true := by
  simp only [inB, decide_eq_true_eq] at h1 h2
  simp only [tideB, Bool.and_eq_true, decide_eq_true_eq]
  refine ⟨⟨⟨⟨⟨by omega, by omega⟩, by omega⟩, List.all_eq_true.2 fun i hi => hm i (List.mem_range.1 hi)⟩, all_iff.2 hs⟩, all_iff.2 hl⟩
theorem tide_no {T : Tide} (h : ∀ hT : TideOk T, False) : tideB T = false := by
  cases hb : tideB T with
  | false => rfl
  | true => exact (h (tideB_iff.1 hb)).elim
theorem openD_g (T : Tide) (a1 a2 a3 : Option Addr) (n1 n2 n3 c1 c2 c3 : Nat) (D : Imm) (w : World) (hR : TideR D T a1 n1 a2 n2 a3 n3) (hH : Holds D w) (fi : FuncId) (cp : List Value) (is : Bool) (hfi : ∀ args w, (callFunc fi args).run Tryz.prog w = .ok (.enter fi args) w) (hIs : tideB T = true → ∀ q mb D' w', DExt w D D' → D' q = some (shoO (.slice a1 n1 c1) (.slice a2 n2 c2) (.slice a3 n3 c3) mb) → Holds D' w' → Gives Tryz.prog fi (pt q :: cp) w' (.bool is)) : Calls Tryz.prog 80 (List.toArray [.agg #[.slice a1 n1 c1, .slice a2 n2 c2, .slice a3 n3 c3], .func (.func fi) #[] cp.toArray]) w fun e w' => OpenD T is (.slice a1 n1 c1) (.slice a2 n2 c2) (.slice a3 n3 c3) D w e w' := by
  obtain rfl := hR.mark.len'
  obtain rfl := hR.sand.len'
  obtain rfl := hR.look.len'
  obtain ⟨hl1, hl2, hl3⟩ := hR.len
  refine en Tryz.func80 rfl Tryz.ntmps80 (Inv.start hH) (g [[1],[1,0,1]] ?_)
  refine WL.so (SO.box rfl rfl) rfl (zw fun b2 hb2 => ?_)
  refine g [[4],[4,4,2,1]] ?_
  refine WL.cl rfl (fun w hI => withinD_g _ _ _ _) (g [[1]] ?_)
  refine WL.part 17 rfl (fun g17 => ?_) (fun g17 => ?_)
  · try simp only [zq] at g17
    refine g [[3]] ?_
    refine WL.sog rfl (SO.callP CaF.h rfl (fun w hI => withinD_g _ _ _ _)) rfl (zs (g [[2]] ?_))
    refine WL.part 23 rfl (fun g23 => ?_) (fun g23 => ?_)
    · try simp only [zq] at g23
      refine g [[5]] ?_
      refine WL.part 28 rfl (fun g28 => ?_) (fun g28 => ?_)
      · try simp only [zq] at g28
        refine WL.cl rfl (fun w hI => mustD_ok _ _) (g [[3],[6,4,2,1],[8,5,4,2,1]] ?_)
        refine WC.loopF (fun k : Nat => [(1, .func (.func fi) #[] cp.toArray), (2, pt b2), (5, .func (.func 164) #[] #[]), (31, .slice a1 T.marks.length c1), (32, nt T.marks.length), (33, nt k)]) (fun k => k ≤ T.marks.length ∧ ∀ i, i < k → markB T i = true) (fun k => T.marks.length - k) 0 ⟨by omega, by intro i hi; omega⟩ (by exact ⟨rfl, rfl, rfl, rfl, rfl, rfl, trivial⟩) ?_
        intro k ⟨hk, hd⟩
        refine g [[1],[5,1,2,5,31,32,33]] ?_
        refine WC.cond rfl (fun c34 => ?_) (fun c34 => ?_)
        · try simp only [zq] at c34
          refine g [[5],[2,1,2,5,31,32,33]] ?_
          refine WL.yd (Yd.ix rfl rfl (hR.mark.addr k (by omega))) rfl (WL.yd (Yd.lV [_, _, _] rfl ((hR.mark.at k (by omega)).rdn 0 3 rfl)) rfl ?_)
          refine WL.so (SO.alloc ZvF.h rfl) rfl (zw fun b7 hb7 => ?_)
          refine g [[4],[0,6,7,1,2,5,31,32,33],[3023],[2]] ?_
          refine WQ.q rfl (Qt.callP CaF.h rfl (fun w hI => withinD_g _ _ _ _)) rfl (g [[1]] ?_)
          refine WQ.part 41 rfl (fun g41 => ?_) (fun g41 => ?_)
          · try simp only [zq] at g41
            refine g [[3]] ?_
            refine WQ.qg rfl rfl (Qt.call (Enters.val CaF.h rfl rfl) (fun w hI => narrow_g ⟨_, _⟩ _)) rfl (g [[2]] ?_)
            refine WQ.part 47 rfl (fun g47 => ?_) (fun g47 => ?_)
            · try simp only [zq] at g47
              refine g [[3]] ?_
              refine WQ.part 50 rfl (fun g50 => ?_) (fun g50 => ?_)
              · try simp only [zq] at g50
                refine g [[14]] ?_
                refine WL.cl rfl (fun w hI => mustD_ok _ _) (g [[3],[4,1,2,5,31,32,33]] ?_)
                exact WP.againF (k + 1) ⟨by omega, ext_round hd (mark_ok (by assumption) (by assumption) (by first | (left; omega) | (right; omega)))⟩ (by omega) ⟨rfl, rfl, rfl, rfl, rfl, rfl, trivial⟩ (fun _ h => List.mem_cons_of_mem _ h) (fun h => (List.nodup_cons.1 h).2)
              try simp only [zq] at g50
              have hrk : ∀ hp, Rd D hp ⟨sb a1, so a1 + ((k : Int) - 1).toNat * 3 + 0, none⟩ (it (gt T.marks (k - 1)).minute) := fun hp => by
                rw [show ((k : Int) - 1).toNat = k - 1 by omega]; exact (hR.mark.at (k - 1) (by omega)).rd 0 rfl
              have hmp := (markB_iff.1 (hd (k - 1) (by omega))).1.1
              refine g [[6]] ?_
              refine WQ.qg rfl rfl (Yd.qt (Yd.ix rfl rfl (hR.mark.addr k (by omega)))) rfl (g [[1]] ?_)
              refine WQ.qg rfl rfl (Yd.qt (Yd.l1 rfl (hrk _))) rfl (g [[5]] ?_)
              refine WL.part 63 rfl (fun g63 => ?_) (fun g63 => ?_)
              · try simp only [zq] at g63
                refine WL.cl rfl (fun w hI => mustD_ok _ _) (g [[3],[4,1,2,5,31,32,33]] ?_)
                exact WP.againF (k + 1) ⟨by omega, ext_round hd (mark_ok (by assumption) (by assumption) (by first | (left; omega) | (right; omega)))⟩ (by omega) ⟨rfl, rfl, rfl, rfl, rfl, rfl, trivial⟩ (fun _ h => List.mem_cons_of_mem _ h) (fun h => (List.nodup_cons.1 h).2)
              try simp only [zq] at g63
              refine WL.nf rfl (fun w hI => mustD_no _ _) (g [[5]] ?_)
              first
                | exact WP.panicBody rfl (fun w hI => ⟨fun h => absurd (hok.symm.trans h) (by decide), fun _ _ => ⟨rfl, hI.keep⟩, fun _ h => by rw [g108] at h; cases h⟩)
                | (refine WP.panicBody rfl (fun w hI => ?_)
                   have hno : tideB T = false := tide_no fun hT => by
                     first
                       | (have h1 := hT.nm; have h2 := hT.ns; have h3 := hT.nl; simp_all [inB]; done)
                       | (have h1 := hT.nm; have h2 := hT.ns; have h3 := hT.nl; simp_all [inB]; omega)
                       | (have h1 := mark_no hT (k := k) (by omega); simp_all; done)
                       | (have h1 := mark_no hT (k := k) (by omega); simp_all; omega)
                       | (have h1 := hT.sand k (by omega); simp_all; done)
                       | (have h1 := hT.look k (by omega); simp_all [lookB]; done)
                   exact ⟨fun _ => ⟨rfl, hI.keep⟩, fun h => absurd (hno.symm.trans h) (by decide), fun h => absurd (hno.symm.trans h) (by decide)⟩)
            try simp only [zq] at g47
            refine g [[17]] ?_
            refine WL.nf rfl (fun w hI => mustD_no _ _) (g [[5]] ?_)
            first
              | exact WP.panicBody rfl (fun w hI => ⟨fun h => absurd (hok.symm.trans h) (by decide), fun _ _ => ⟨rfl, hI.keep⟩, fun _ h => by rw [g108] at h; cases h⟩)
              | (refine WP.panicBody rfl (fun w hI => ?_)
                 have hno : tideB T = false := tide_no fun hT => by
                   first
                     | (have h1 := hT.nm; have h2 := hT.ns; have h3 := hT.nl; simp_all [inB]; done)
                     | (have h1 := hT.nm; have h2 := hT.ns; have h3 := hT.nl; simp_all [inB]; omega)
                     | (have h1 := mark_no hT (k := k) (by omega); simp_all; done)
                     | (have h1 := mark_no hT (k := k) (by omega); simp_all; omega)
                     | (have h1 := hT.sand k (by omega); simp_all; done)
                     | (have h1 := hT.look k (by omega); simp_all [lookB]; done)
                 exact ⟨fun _ => ⟨rfl, hI.keep⟩, fun h => absurd (hno.symm.trans h) (by decide), fun h => absurd (hno.symm.trans h) (by decide)⟩)
          try simp only [zq] at g41
          refine g [[23]] ?_
          refine WL.nf rfl (fun w hI => mustD_no _ _) (g [[5]] ?_)
          first
            | exact WP.panicBody rfl (fun w hI => ⟨fun h => absurd (hok.symm.trans h) (by decide), fun _ _ => ⟨rfl, hI.keep⟩, fun _ h => by rw [g108] at h; cases h⟩)
            | (refine WP.panicBody rfl (fun w hI => ?_)
               have hno : tideB T = false := tide_no fun hT => by
                 first
                   | (have h1 := hT.nm; have h2 := hT.ns; have h3 := hT.nl; simp_all [inB]; done)
                   | (have h1 := hT.nm; have h2 := hT.ns; have h3 := hT.nl; simp_all [inB]; omega)
                   | (have h1 := mark_no hT (k := k) (by omega); simp_all; done)
                   | (have h1 := mark_no hT (k := k) (by omega); simp_all; omega)
                   | (have h1 := hT.sand k (by omega); simp_all; done)
                   | (have h1 := hT.look k (by omega); simp_all [lookB]; done)
               exact ⟨fun _ => ⟨rfl, hI.keep⟩, fun h => absurd (hno.symm.trans h) (by decide), fun h => absurd (hno.symm.trans h) (by decide)⟩)
        try simp only [zq] at c34
        refine g [[6],[2,1,2,5]] ?_
        refine WL.so SO.makeMap rfl ?_
        rintro _ _ _ ⟨b67, hb67, rfl, rfl, rfl⟩
        refine g [[1]] ?_
        refine WL.so (SO.box rfl rfl) rfl (zw fun b69 hb69 => ?_)
        refine g [[5],[8,8,1,2,5]] ?_
        have hmk : ∀ i, i < T.marks.length → markB T i = true := fun i hi => hd i (by omega)
        clear hd hk c34 k
        refine WC.loopF (fun k : Nat => [(1, .func (.func fi) #[] cp.toArray), (2, pt b2), (5, .func (.func 164) #[] #[]), (8, pt b69), (71, .slice a2 T.sand.length c2), (72, nt T.sand.length), (73, nt k)]) (fun k => k ≤ T.sand.length ∧ ∀ i, i < k → narrowB (gt T.sand i) = true) (fun k => T.sand.length - k) 0 ⟨by omega, by intro i hi; omega⟩ (by exact ⟨rfl, rfl, rfl, rfl, rfl, rfl, rfl, trivial⟩) ?_
        intro k ⟨hk, hd⟩
        refine g [[1],[5,1,2,5,8,71,72,73]] ?_
        refine WC.cond rfl (fun c74 => ?_) (fun c74 => ?_)
        · try simp only [zq] at c74
          refine g [[5],[1,1,2,5,8,71,72,73]] ?_
          refine WL.yd (Yd.ix rfl rfl (hR.sand.addr k (by omega))) rfl (WL.yd (Yd.lV [_, _] rfl ((hR.sand.at k (by omega)).rdn 0 2 rfl)) rfl ?_)
          refine WL.so (SO.alloc ZvF.h rfl) rfl (zw fun b10 hb10 => ?_)
          refine g [[3],[3,10,1,2,5,8,71,72,73]] ?_
          refine WL.so (SO.call (Enters.val CaF.h rfl rfl) (fun w hI => narrow_g ⟨_, _⟩ _)) rfl (zs ?_)
          refine WL.part 79 rfl (fun g79 => ?_) (fun g79 => ?_)
          · try simp only [zq] at g79
            refine WL.cl rfl (fun w hI => mustD_ok _ _) (g [[3],[4,1,2,5,8,71,72,73]] ?_)
            exact WP.againF (k + 1) ⟨by omega, ext_round hd (by assumption)⟩ (by omega) ⟨rfl, rfl, rfl, rfl, rfl, rfl, rfl, trivial⟩ (fun _ h => List.mem_cons_of_mem _ h) (fun h => (List.nodup_cons.1 h).2)
          try simp only [zq] at g79
          refine WL.nf rfl (fun w hI => mustD_no _ _) (g [[5]] ?_)
          first
            | exact WP.panicBody rfl (fun w hI => ⟨fun h => absurd (hok.symm.trans h) (by decide), fun _ _ => ⟨rfl, hI.keep⟩, fun _ h => by rw [g108] at h; cases h⟩)
            | (refine WP.panicBody rfl (fun w hI => ?_)
               have hno : tideB T = false := tide_no fun hT => by
                 first
                   | (have h1 := hT.nm; have h2 := hT.ns; have h3 := hT.nl; simp_all [inB]; done)
                   | (have h1 := hT.nm; have h2 := hT.ns; have h3 := hT.nl; simp_all [inB]; omega)
                   | (have h1 := mark_no hT (k := k) (by omega); simp_all; done)
                   | (have h1 := mark_no hT (k := k) (by omega); simp_all; omega)
                   | (have h1 := hT.sand k (by omega); simp_all; done)
                   | (have h1 := hT.look k (by omega); simp_all [lookB]; done)
               exact ⟨fun _ => ⟨rfl, hI.keep⟩, fun h => absurd (hno.symm.trans h) (by decide), fun h => absurd (hno.symm.trans h) (by decide)⟩)
        try simp only [zq] at c74
        refine g [[7]] ?_
        have hsd : ∀ i, i < T.sand.length → narrowB (gt T.sand i) = true := fun i hi => hd i (by omega)
        refine WC.freezeK 0 rfl (fun hn69 => ?_)
        have hX1 : DExt w D (D.add b69 (shoO (.slice a1 T.marks.length c1) (.slice a2 T.sand.length c2) (.slice a3 T.looks.length c3) b67)) := (DExt.refl w D).add hn69 hb69
        have hq1 : (D.add b69 (shoO (.slice a1 T.marks.length c1) (.slice a2 T.sand.length c2) (.slice a3 T.looks.length c3) b67)) b69 = some (shoO (.slice a1 T.marks.length c1) (.slice a2 T.sand.length c2) (.slice a3 T.looks.length c3) b67) := Imm.add_self _ _ _
        have hR1 := hR.ext hX1
        refine (?_ : WC Tryz.prog _ _ (D.add b69 (shoO (.slice a1 T.marks.length c1) (.slice a2 T.sand.length c2) (.slice a3 T.looks.length c3) b67)) [(b67, .map #[] 0), (b2, .cells (List.toArray [.slice a1 T.marks.length c1, .slice a2 T.sand.length c2, .slice a3 T.looks.length c3]) 31 (0, 0))] _ _)
        generalize (D.add b69 (shoO (.slice a1 T.marks.length c1) (.slice a2 T.sand.length c2) (.slice a3 T.looks.length c3) b67)) = D1 at hX1 hq1 hR1 ⊢
        refine g [[8,1,2,8]] ?_
        refine WC.loopF (fun k : Nat => [(1, .func (.func fi) #[] cp.toArray), (8, pt b69), (83, .slice a3 T.looks.length c3), (84, nt T.looks.length), (85, nt k)]) (fun k => k ≤ T.looks.length ∧ ∀ i, i < k → lookB T (gt T.looks i) = true) (fun k => T.looks.length - k) 0 ⟨by omega, by intro i hi; omega⟩ (by exact ⟨rfl, rfl, rfl, rfl, rfl, trivial⟩) ?_
        intro k ⟨hk, hd⟩
        refine g [[1],[5,1,8,83,84,85]] ?_
        refine WC.cond rfl (fun c86 => ?_) (fun c86 => ?_)
        · try simp only [zq] at c86
          refine g [[5],[1,1,8,83,84,85]] ?_
          refine WL.yd (Yd.ix rfl rfl (hR.look.addr k (by omega))) rfl (WL.yd (Yd.lV [_, _, _, _] rfl ((hR1.look.at k (by omega)).rdn 0 4 rfl)) rfl ?_)
          refine WL.so (SO.alloc ZvF.h rfl) rfl (zw fun b12 hb12 => ?_)
          refine g [[3],[4,12,1,8,83,84,85]] ?_
          refine WL.cl rfl (fun w hI => isPlace_g T a1 a2 a3 _ _ _ c1 c2 c3 _ _ hR1 b69 b67 hq1 hI.imm _) (g [[1]] ?_)
          refine WL.part 93 rfl (fun g93 => ?_) (fun g93 => ?_)
          · try simp only [zq] at g93
            refine g [[3]] ?_
            refine WL.sog rfl (SO.callP CaF.h rfl (fun w hI => isMinute_g T a1 a2 a3 _ _ _ c1 c2 c3 _ _ hR1 b69 b67 hq1 hI.imm (by simp_all [inB]; omega) _)) rfl (zs (g [[2]] ?_))
            refine WL.part 99 rfl (fun g99 => ?_) (fun g99 => ?_)
            · try simp only [zq] at g99
              refine g [[2]] ?_
              refine WL.sog rfl (SO.callP CaF.h rfl (fun w hI => isHigh_g ⟨_, _⟩ _)) rfl (zs (g [[1]] ?_))
              refine WL.part 103 rfl (fun g103 => ?_) (fun g103 => ?_)
              · try simp only [zq] at g103
                refine WL.cl rfl (fun w hI => mustD_ok _ _) (g [[3],[4,1,8,83,84,85]] ?_)
                exact WP.againF (k + 1) ⟨by omega, ext_round hd (by simp_all [lookB])⟩ (by omega) ⟨rfl, rfl, rfl, rfl, rfl, trivial⟩ (fun _ h => List.mem_cons_of_mem _ h) (fun h => (List.nodup_cons.1 h).2)
              try simp only [zq] at g103
              refine WL.nf rfl (fun w hI => mustD_no _ _) (g [[5]] ?_)
              first
                | exact WP.panicBody rfl (fun w hI => ⟨fun h => absurd (hok.symm.trans h) (by decide), fun _ _ => ⟨rfl, hI.keep⟩, fun _ h => by rw [g108] at h; cases h⟩)
                | (refine WP.panicBody rfl (fun w hI => ?_)
                   have hno : tideB T = false := tide_no fun hT => by
                     first
                       | (have h1 := hT.nm; have h2 := hT.ns; have h3 := hT.nl; simp_all [inB]; done)
                       | (have h1 := hT.nm; have h2 := hT.ns; have h3 := hT.nl; simp_all [inB]; omega)
                       | (have h1 := mark_no hT (k := k) (by omega); simp_all; done)
                       | (have h1 := mark_no hT (k := k) (by omega); simp_all; omega)
                       | (have h1 := hT.sand k (by omega); simp_all; done)
                       | (have h1 := hT.look k (by omega); simp_all [lookB]; done)
                   exact ⟨fun _ => ⟨rfl, hI.keep⟩, fun h => absurd (hno.symm.trans h) (by decide), fun h => absurd (hno.symm.trans h) (by decide)⟩)
            try simp only [zq] at g99
            refine g [[4]] ?_
            refine WL.nf rfl (fun w hI => mustD_no _ _) (g [[5]] ?_)
            first
              | exact WP.panicBody rfl (fun w hI => ⟨fun h => absurd (hok.symm.trans h) (by decide), fun _ _ => ⟨rfl, hI.keep⟩, fun _ h => by rw [g108] at h; cases h⟩)
              | (refine WP.panicBody rfl (fun w hI => ?_)
                 have hno : tideB T = false := tide_no fun hT => by
                   first
                     | (have h1 := hT.nm; have h2 := hT.ns; have h3 := hT.nl; simp_all [inB]; done)
                     | (have h1 := hT.nm; have h2 := hT.ns; have h3 := hT.nl; simp_all [inB]; omega)
                     | (have h1 := mark_no hT (k := k) (by omega); simp_all; done)
                     | (have h1 := mark_no hT (k := k) (by omega); simp_all; omega)
                     | (have h1 := hT.sand k (by omega); simp_all; done)
                     | (have h1 := hT.look k (by omega); simp_all [lookB]; done)
                 exact ⟨fun _ => ⟨rfl, hI.keep⟩, fun h => absurd (hno.symm.trans h) (by decide), fun h => absurd (hno.symm.trans h) (by decide)⟩)
          try simp only [zq] at g93
          refine g [[10]] ?_
          refine WL.nf rfl (fun w hI => mustD_no _ _) (g [[5]] ?_)
          first
            | exact WP.panicBody rfl (fun w hI => ⟨fun h => absurd (hok.symm.trans h) (by decide), fun _ _ => ⟨rfl, hI.keep⟩, fun _ h => by rw [g108] at h; cases h⟩)
            | (refine WP.panicBody rfl (fun w hI => ?_)
               have hno : tideB T = false := tide_no fun hT => by
                 first
                   | (have h1 := hT.nm; have h2 := hT.ns; have h3 := hT.nl; simp_all [inB]; done)
                   | (have h1 := hT.nm; have h2 := hT.ns; have h3 := hT.nl; simp_all [inB]; omega)
                   | (have h1 := mark_no hT (k := k) (by omega); simp_all; done)
                   | (have h1 := mark_no hT (k := k) (by omega); simp_all; omega)
                   | (have h1 := hT.sand k (by omega); simp_all; done)
                   | (have h1 := hT.look k (by omega); simp_all [lookB]; done)
               exact ⟨fun _ => ⟨rfl, hI.keep⟩, fun h => absurd (hno.symm.trans h) (by decide), fun h => absurd (hno.symm.trans h) (by decide)⟩)
        try simp only [zq] at c86
        refine g [[6]] ?_
        have hok : tideB T = true := tide_yes g17 g23 g28 hmk hsd (fun i hi => hd i (by omega))
        refine g [[3,1,8]] ?_
        refine WL.so (SO.call (Enters.val hfi rfl rfl) (fun w hI => hIs hok _ b67 _ _ hX1 hq1 hI.imm)) rfl (zs ?_)
        refine WL.part 108 rfl (fun g108 => ?_) (fun g108 => ?_)
        · try simp only [zq] at g108
          refine WL.cl rfl (fun w hI => mustD_ok _ _) (g [[3],[6,8]] ?_)
          refine WP.ret1 rfl rfl rfl (RV.tmp rfl) (fun w1 hI => ⟨fun h => absurd (hok.symm.trans h) (by decide), fun _ h => (by rw [g108] at h; cases h), fun _ _ => ⟨_, b67, D1, rfl, hX1, hq1, hI.sub (fun e he => by simp only [List.mem_singleton] at he; subst he; simp) (by simp [keys])⟩⟩)
        try simp only [zq] at g108
        refine WL.nf rfl (fun w hI => mustD_no _ _) (g [[1]] ?_)
        first
          | exact WP.panicBody rfl (fun w hI => ⟨fun h => absurd (hok.symm.trans h) (by decide), fun _ _ => ⟨rfl, hI.keep⟩, fun _ h => by rw [g108] at h; cases h⟩)
          | (refine WP.panicBody rfl (fun w hI => ?_)
             have hno : tideB T = false := tide_no fun hT => by
               first
                 | (have h1 := hT.nm; have h2 := hT.ns; have h3 := hT.nl; simp_all [inB]; done)
                 | (have h1 := hT.nm; have h2 := hT.ns; have h3 := hT.nl; simp_all [inB]; omega)
                 | (have h1 := mark_no hT (k := k) (by omega); simp_all; done)
                 | (have h1 := mark_no hT (k := k) (by omega); simp_all; omega)
                 | (have h1 := hT.sand k (by omega); simp_all; done)
                 | (have h1 := hT.look k (by omega); simp_all [lookB]; done)
             exact ⟨fun _ => ⟨rfl, hI.keep⟩, fun h => absurd (hno.symm.trans h) (by decide), fun h => absurd (hno.symm.trans h) (by decide)⟩)
      try simp only [zq] at g28
      refine WL.nf rfl (fun w hI => mustD_no _ _) (g [[1]] ?_)
      first
        | exact WP.panicBody rfl (fun w hI => ⟨fun h => absurd (hok.symm.trans h) (by decide), fun _ _ => ⟨rfl, hI.keep⟩, fun _ h => by rw [g108] at h; cases h⟩)
        | (refine WP.panicBody rfl (fun w hI => ?_)
           have hno : tideB T = false := tide_no fun hT => by
             first
               | (have h1 := hT.nm; have h2 := hT.ns; have h3 := hT.nl; simp_all [inB]; done)
               | (have h1 := hT.nm; have h2 := hT.ns; have h3 := hT.nl; simp_all [inB]; omega)
               | (have h1 := mark_no hT (k := k) (by omega); simp_all; done)
               | (have h1 := mark_no hT (k := k) (by omega); simp_all; omega)
               | (have h1 := hT.sand k (by omega); simp_all; done)
               | (have h1 := hT.look k (by omega); simp_all [lookB]; done)
           exact ⟨fun _ => ⟨rfl, hI.keep⟩, fun h => absurd (hno.symm.trans h) (by decide), fun h => absurd (hno.symm.trans h) (by decide)⟩)
    try simp only [zq] at g23
    refine g [[5]] ?_
    refine WL.nf rfl (fun w hI => mustD_no _ _) (g [[1]] ?_)
    first
      | exact WP.panicBody rfl (fun w hI => ⟨fun h => absurd (hok.symm.trans h) (by decide), fun _ _ => ⟨rfl, hI.keep⟩, fun _ h => by rw [g108] at h; cases h⟩)
      | (refine WP.panicBody rfl (fun w hI => ?_)
         have hno : tideB T = false := tide_no fun hT => by
           first
             | (have h1 := hT.nm; have h2 := hT.ns; have h3 := hT.nl; simp_all [inB]; done)
             | (have h1 := hT.nm; have h2 := hT.ns; have h3 := hT.nl; simp_all [inB]; omega)
             | (have h1 := mark_no hT (k := k) (by omega); simp_all; done)
             | (have h1 := mark_no hT (k := k) (by omega); simp_all; omega)
             | (have h1 := hT.sand k (by omega); simp_all; done)
             | (have h1 := hT.look k (by omega); simp_all [lookB]; done)
         exact ⟨fun _ => ⟨rfl, hI.keep⟩, fun h => absurd (hno.symm.trans h) (by decide), fun h => absurd (hno.symm.trans h) (by decide)⟩)
  try simp only [zq] at g17
  refine g [[11]] ?_
  refine WL.nf rfl (fun w hI => mustD_no _ _) (g [[1]] ?_)
  first
    | exact WP.panicBody rfl (fun w hI => ⟨fun h => absurd (hok.symm.trans h) (by decide), fun _ _ => ⟨rfl, hI.keep⟩, fun _ h => by rw [g108] at h; cases h⟩)
    | (refine WP.panicBody rfl (fun w hI => ?_)
       have hno : tideB T = false := tide_no fun hT => by
         first
           | (have h1 := hT.nm; have h2 := hT.ns; have h3 := hT.nl; simp_all [inB]; done)
           | (have h1 := hT.nm; have h2 := hT.ns; have h3 := hT.nl; simp_all [inB]; omega)
           | (have h1 := mark_no hT (k := k) (by omega); simp_all; done)
           | (have h1 := mark_no hT (k := k) (by omega); simp_all; omega)
           | (have h1 := hT.sand k (by omega); simp_all; done)
           | (have h1 := hT.look k (by omega); simp_all [lookB]; done)
       exact ⟨fun _ => ⟨rfl, hI.keep⟩, fun h => absurd (hno.symm.trans h) (by decide), fun h => absurd (hno.symm.trans h) (by decide)⟩)
end Go.Proofs.YtejgofaeafphjaaGreatDoor
namespace Go.Proofs.YtejgofaeafphjaaGreatDoor
open Go.W Go.Ti
theorem inv_weak {w1 w0 w : World} {D D' : Imm} {hp : Hp} {S : List Nat} (h : Inv D' hp S w0 w) (hx : DExt w1 D D') : Inv D hp S w0 w :=
  ⟨fun b o hb => h.imm b o (hx.old b o hb), h.own, h.nodup, (fun b o hb => by
    cases hd : D b with
    | none => rfl
    | some o' => have := h.apart b o hb; rw [hx.old b o' hd] at this; cases this), h.keep, h.may⟩
abbrev K5 : Type := Fin 61 × Fin 61 × Fin 61 × Fin 61 × Fin 241
def htC (h : Hts) : List Value := [it (h 0), it (h 1), it (h 2), it (h 3)]
def htV (h : Hts) : Value := .agg (htC h).toArray
def moV (h : Hts) (m : Int) : Value := .agg #[it (h 0), it (h 1), it (h 2), it (h 3), it m]
def kv5 (y : K5) : Value := .agg #[nt y.1.val, nt y.2.1.val, nt y.2.2.1.val, nt y.2.2.2.1.val, nt y.2.2.2.2.val]
def f61 (x : Int) : Fin 61 := ⟨x.toNat % 61, Nat.mod_lt _ (by decide)⟩
def f241 (x : Int) : Fin 241 := ⟨x.toNat % 241, Nat.mod_lt _ (by decide)⟩
theorem f61_val {x : Int} (h : 0 ≤ x ∧ x ≤ 60) : ((f61 x).val : Int) = x := by
  show ((x.toNat % 61 : Nat) : Int) = x
  rw [Nat.mod_eq_of_lt (by omega)]; omega
theorem f241_val {x : Int} (h : 0 ≤ x ∧ x ≤ 240) : ((f241 x).val : Int) = x := by
  show ((x.toNat % 241 : Nat) : Int) = x
  rw [Nat.mod_eq_of_lt (by omega)]; omega
def k5 (h : Hts) (m : Int) : K5 := (f61 (h 0), f61 (h 1), f61 (h 2), f61 (h 3), f241 m)
def HtB (h : Hts) : Prop := ∀ i, 0 ≤ h i ∧ h i ≤ 60
theorem kv5_at {h : Hts} {m : Int} (hh : HtB h) (hm : 0 ≤ m ∧ m ≤ 240) : moV h m = kv5 (k5 h m) := by
  have g : ∀ x : Int, 0 ≤ x ∧ x ≤ 60 → it x = nt (f61 x).val := fun x hx => by show it x = it ((f61 x).val : Int); rw [f61_val hx]
  have g2 : it m = nt (f241 m).val := by show it m = it ((f241 m).val : Int); rw [f241_val hm]
  unfold moV kv5
  rw [g _ (hh 0), g _ (hh 1), g _ (hh 2), g _ (hh 3), g2]; rfl
theorem kv5_inj : ∀ x y, kv5 x = kv5 y → x = y := by
  rintro ⟨⟨a, ha⟩, ⟨b, hb⟩, ⟨c, hc⟩, ⟨d, hd⟩, ⟨e, he⟩⟩ ⟨⟨a', ha'⟩, ⟨b', hb'⟩, ⟨c', hc'⟩, ⟨d', hd'⟩, ⟨e', he'⟩⟩ h
  simp only [kv5, Value.agg.injEq, it] at h
  simp at h
  obtain ⟨h1, h2, h3, h4, h5⟩ := h
  have e1 : a = a' := by omega
  have e2 : b = b' := by omega
  have e3 : c = c' := by omega
  have e4 : d = d' := by omega
  have e5 : e = e' := by omega
  subst e1; subst e2; subst e3; subst e4; subst e5; rfl
theorem k5_inj {h h' : Hts} {m m' : Int} (hh : HtB h) (hh' : HtB h') (hm : 0 ≤ m ∧ m ≤ 240) (hm' : 0 ≤ m' ∧ m' ≤ 240) (e : k5 h m = k5 h' m') : (∀ i, i < 4 → h i = h' i) ∧ m = m' := by
  simp only [k5, Prod.mk.injEq] at e
  obtain ⟨e0, e1, e2, e3, e4⟩ := e
  have g : ∀ {x y : Int}, 0 ≤ x ∧ x ≤ 60 → 0 ≤ y ∧ y ≤ 60 → f61 x = f61 y → x = y := fun hx hy e => by rw [← f61_val hx, ← f61_val hy, e]
  refine ⟨fun i hi => ?_, by rw [← f241_val hm, ← f241_val hm', e4]⟩
  rcases (show i = 0 ∨ i = 1 ∨ i = 2 ∨ i = 3 by omega) with rfl | rfl | rfl | rfl
  · exact g (hh _) (hh' _) e0
  · exact g (hh _) (hh' _) e1
  · exact g (hh _) (hh' _) e2
  exact g (hh _) (hh' _) e3
theorem keyM : Tryz.prog.keyType 305 = true := by kernel_rfl
theorem laidOutB_ : laidOutB Tryz.prog = true := by kernel_rfl
theorem keyLawM : Go.Maps.Keyed Tryz.prog 305 := Go.Maps.Keyed.of_law (deep_law_gate laidOutB_ (Nat.le_of_ble_eq_true zk) (Nat.le_of_ble_eq_true zk) keyM zk)
theorem wf_nat {n : Nat} (h : n ≤ 1000) : (Lit.int .i64 (n : Int)).wf = true := by
  simp only [Lit.wf, Bool.and_eq_true, decide_eq_true_eq]
  exact ⟨Int.le_trans (by decide) (Int.natCast_nonneg n), Int.le_trans (show (n : Int) ≤ 1000 by omega) (by decide)⟩
theorem lits_int (d : Nat) (n : Nat) (h : n ≤ 1000) : Tryz.prog.keyLits (d + 1) 3 [nt n] = some [.int .i64 (n : Int)] := by
  have hw := wf_nat h
  simp only [Program.keyLits, Tryz.underlying3]
  simp [hw]
theorem lits_heights (d : Nat) (a b c e : Nat) (ha : a ≤ 1000) (hb : b ≤ 1000) (hc : c ≤ 1000) (he : e ≤ 1000) : Tryz.prog.keyLits (d + 2) 232 [nt a, nt b, nt c, nt e] = some [.int .i64 (a : Int), .int .i64 (b : Int), .int .i64 (c : Int), .int .i64 (e : Int)] := by
  have h4 : Tryz.prog.cellsOf 232 = 4 := by kernel_rfl
  have h1 : Tryz.prog.cellsOf 3 = 1 := by kernel_rfl
  simp only [Program.keyLits, Tryz.underlying232, Tryz.underlying3, h4, h1]
  simp [List.range, List.range.loop, wf_nat ha, wf_nat hb, wf_nat hc, wf_nat he]
theorem key_k5 (y : K5) : ∃ l, keyOf Tryz.prog 305 (kv5 y) = some l := by
  obtain ⟨⟨a, ha⟩, ⟨b, hb⟩, ⟨c, hc⟩, ⟨d, hd⟩, ⟨e, he⟩⟩ := y
  have h5 : Tryz.prog.cellsOf 305 = 5 := by kernel_rfl
  have h4 : Tryz.prog.cellsOf 232 = 4 := by kernel_rfl
  have h1 : Tryz.prog.cellsOf 3 = 1 := by kernel_rfl
  have hs : Tryz.prog.types.size + 1 = 433 + 3 := by kernel_rfl
  unfold keyOf
  rw [Tryz.underlying305]
  have hf : (kv5 (⟨a, ha⟩, ⟨b, hb⟩, ⟨c, hc⟩, ⟨d, hd⟩, ⟨e, he⟩)).formed Tryz.prog 305 = true := by
    simp [kv5, Value.formed, Tryz.underlying305, h5]
  simp only [keyM, hf, Bool.and_self, if_true, hs]
  have hl : Tryz.prog.keyLits (433 + 3) 305 [nt a, nt b, nt c, nt d, nt e] = some [.int .i64 (a : Int), .int .i64 (b : Int), .int .i64 (c : Int), .int .i64 (d : Int), .int .i64 (e : Int)] := by
    unfold Program.keyLits
    simp only [Tryz.underlying305, h5]
    simp [h4, h1, lits_int, lits_heights 433 a b c d (by omega) (by omega) (by omega) (by omega), show e ≤ 1000 by omega]
  show ∃ l, (Tryz.prog.keyLits (433 + 3) 305 [nt a, nt b, nt c, nt d, nt e]).map _ = some l
  rw [hl]
  exact ⟨_, rfl⟩
def KnownOK (T : Tide) (F : K5 → Option Int) : Prop := ∀ h m v, HtB h → minuteB T m = true → F (k5 h m) = some v → v = standsI T h m
def MapK (T : Tide) (mb : Nat) (hp : Hp) : Prop := ∃ es clock F, hp = [(mb, .map es clock)] ∧ MapR kv5 es clock F ∧ KnownOK T F
theorem mapK_nil (T : Tide) (mb : Nat) : MapK T mb [(mb, .map #[] 0)] := ⟨_, _, _, rfl, MapR.empty kv5, fun h m v _ _ e => by cases e⟩
theorem minute_num {T : Tide} (hT : TideOk T) {m : Int} (h : minuteB T m = true) : 0 ≤ m ∧ m ≤ 240 := by
  have h1 := (hT.mark 0 (by have := hT.nm; omega)).1
  have h2 := (hT.mark (T.marks.length - 1) (by have := hT.nm; omega)).1.2
  have h' : firstM T ≤ m ∧ m ≤ lastM T := by simpa only [minuteB, decide_eq_true_eq] using h
  exact ⟨Int.le_trans h1.1 h'.1, Int.le_trans h'.2 h2⟩
theorem stands_congr {T : Tide} (hT : TideOk T) {h h' : Hts} {m : Int} (hm : minuteB T m = true) (e : ∀ i, i < 4 → h i = h' i) : standsI T h m = standsI T h' m := by
  obtain ⟨_, h2, _⟩ := next_spec hT hm
  have := hT.nm
  unfold standsI standI
  rw [e _ (by omega), e _ (by omega)]
theorem known_put {T : Tide} (hT : TideOk T) {F : K5 → Option Int} (hF : KnownOK T F) {h : Hts} {m : Int} (hh : HtB h) (hm : minuteB T m = true) : KnownOK T (putF F (k5 h m) (standsI T h m)) := fun h' m' v hh' hm' e => by
  unfold putF at e
  split at e
  · rename_i e2
    obtain ⟨h1, h2⟩ := k5_inj hh' hh (minute_num hT hm') (minute_num hT hm) e2
    subst h2
    simp only [Option.some.injEq] at e
    rw [← e]; exact (stands_congr hT hm h1).symm
  exact hF h' m' v hh' hm' e
theorem late_g (x : Go.Ti.Mark) (b5 : Nat) (m : Int) (D : Imm) (h5 : D b5 = some (.cells (List.toArray [it m]) 3 (0, 0))) (w : World) (hH : Holds D w) : Gives Tryz.prog 231 [.agg #[it x.minute, it x.high.lo, it x.high.hi], pt b5] w (.bool (decide (m ≤ x.minute))) := by
  unfold Gives
  refine en Tryz.func231 rfl Tryz.ntmps231 (Inv.start hH) (g [[1],[1,0,1]] ?_)
  refine WL.so (SO.box rfl rfl) rfl (zw fun b2 hb2 => ?_)
  refine g [[4],[9,3,2,1]] ?_
  refine WP.ret1 rfl rfl rfl (RV.tmp rfl) (fun w hI => ⟨ret_bool rfl, hI.keep⟩)
theorem indexM_g (T : Tide) (a1 a2 a3 : Option Addr) (n1 n2 n3 c1 c2 c3 : Nat) (D : Imm) (w : World) (hR : TideR D T a1 n1 a2 n2 a3 n3) (hH : Holds D w) (b5 : Nat) (m : Int) (h5 : D b5 = some (.cells (List.toArray [it m]) 3 (0, 0))) (hfd : findM T m T.marks.length 0 < T.marks.length) : Gives Tryz.prog 230 [.slice a1 n1 c1, .func (.func 231) #[] #[pt b5]] w (nt (findM T m T.marks.length 0)) := by
  unfold Gives
  obtain rfl := hR.mark.len'
  obtain rfl := hR.sand.len'
  obtain rfl := hR.look.len'
  obtain ⟨hl1, hl2, hl3⟩ := hR.len
  refine en Tryz.func230 rfl Tryz.ntmps230 (Inv.start hH) (g [[1],[6,0,1],[7,4,0,1]] ?_)
  refine WC.loopF (fun k : Nat => [(0, .slice a1 T.marks.length c1), (1, .func (.func 231) #[] #[pt b5]), (7, nt T.marks.length), (8, nt k)]) (fun k => k ≤ T.marks.length ∧ findM T m T.marks.length 0 = findM T m (T.marks.length - k) k) (fun k => T.marks.length - k) 0 ⟨by omega, rfl⟩ (by exact ⟨rfl, rfl, rfl, rfl, trivial⟩) ?_
  intro k ⟨hk, hd⟩
  refine g [[1],[5,0,1,7,8]] ?_
  refine WC.cond rfl (fun c9 => ?_) (fun c9 => ?_)
  · try simp only [zq] at c9
    refine g [[5],[6,0,1,7,8],[4,5,0,1,7,8]] ?_
    refine WL.yd (Yd.ix rfl rfl (hR.mark.addr k (by omega))) rfl (WL.yd (Yd.lV [_, _, _] rfl ((hR.mark.at k (by omega)).rdn 0 3 rfl)) rfl ?_)
    refine WL.so (SO.call (Enters.val CaF.h rfl rfl) (fun w hI => late_g (gt T.marks k) b5 m D h5 _ hI.imm)) rfl (zs (g [[2]] ?_))
    refine WC.cond rfl (fun c16 => ?_) (fun c16 => ?_)
    · try simp only [zq] at c16
      refine g [[1],[11,5,0,1,7,8]] ?_
      refine WP.ret1 rfl rfl rfl (RV.tmp rfl) (fun w hI => ⟨ret_int (by
              first
                | (rw [hd, show T.marks.length - k = (T.marks.length - (k + 1)) + 1 by omega, findM, if_pos (by omega)]; done)
                | (exfalso; rw [hd, show T.marks.length - k = 0 by omega, findM] at hfd; omega)), hI.keep⟩)
    try simp only [zq] at c16
    refine g [[3],[4,0,1,7,8]] ?_
    exact WP.againF (k + 1) ⟨by omega, by rw [hd, show T.marks.length - k = (T.marks.length - (k + 1)) + 1 by omega, findM, if_neg (by omega)]⟩ (by omega) ⟨rfl, rfl, rfl, rfl, trivial⟩ (fun _ h => h) (fun h => h)
  try simp only [zq] at c9
  refine g [[6]] ?_
  refine WC.ofFr [] trivial (g [[5]] ?_)
  refine WP.ret1 rfl rfl rfl (RV.tmp rfl) (fun w hI => ⟨ret_int (by
          first
            | (rw [hd, show T.marks.length - k = (T.marks.length - (k + 1)) + 1 by omega, findM, if_pos (by omega)]; done)
            | (exfalso; rw [hd, show T.marks.length - k = 0 by omega, findM] at hfd; omega)), hI.keep⟩)
end Go.Proofs.YtejgofaeafphjaaGreatDoor
namespace Go.Proofs.YtejgofaeafphjaaGreatDoor
open Go.W Go.Ti
theorem SA305 : StructAt Tryz.prog 305 [.int .i64 0, .int .i64 0, .int .i64 0, .int .i64 0, .int .i64 0] [(0, 4), (4, 1)] := ⟨⟨_, Tryz.zeroValue305, rfl⟩, _, Tryz.underlying305, fun w => by simp [Tryz.sizeOf3, Tryz.sizeOf232]⟩
@[reducible, instance] def ISA305 := SaF.mk SA305
def DoneD (D : Imm) : Prop := ∃ t fz, D 2 = some (.cells (List.toArray (donL.map it)) t fz)
theorem DoneD.ext {w : World} {D D' : Imm} (hD : DExt w D D') (h : DoneD D) : DoneD D' := let ⟨t, fz, e⟩ := h; ⟨t, fz, hD.old _ _ e⟩
theorem done_rd {D : Imm} (h : DoneD D) (hp : Hp) {k : Nat} (hk : k < 7) : Rd D hp ⟨2, 0 + k * 1, none⟩ (it (doneN k)) := by
  obtain ⟨t, fz, e⟩ := h
  rcases (show k = 0 ∨ k = 1 ∨ k = 2 ∨ k = 3 ∨ k = 4 ∨ k = 5 ∨ k = 6 by omega) with rfl | rfl | rfl | rfl | rfl | rfl | rfl <;> exact Rd.imm e rfl
theorem mul_12 {a r : Int} (ha : 0 ≤ a ∧ a ≤ 12) (hr : 0 ≤ r ∧ r ≤ 240) : 0 ≤ a * r ∧ a * r ≤ 2880 :=
  ⟨Int.mul_nonneg ha.1 hr.1, Int.le_trans (Int.mul_le_mul ha.2 hr.2 hr.1 (by decide)) (by decide)⟩
theorem mul_3 {a r : Int} (ha : 0 ≤ a ∧ a ≤ 3) (hr : 0 ≤ r ∧ r ≤ 240) : 0 ≤ a * r ∧ a * r ≤ 720 :=
  ⟨Int.mul_nonneg ha.1 hr.1, Int.le_trans (Int.mul_le_mul ha.2 hr.2 hr.1 (by decide)) (by decide)⟩
theorem ht_rd (h : Hts) {i : Nat} (hi : i < 4) : (htC h)[0 + i * 1]? = some (it (h i)) := by
  rcases (show i = 0 ∨ i = 1 ∨ i = 2 ∨ i = 3 by omega) with rfl | rfl | rfl | rfl <;> rfl
theorem stands_g (T : Tide) (a1 a2 a3 : Option Addr) (n1 n2 n3 c1 c2 c3 : Nat) (D : Imm) (w : World) (hR : TideR D T a1 n1 a2 n2 a3 n3) (qb mb : Nat) (hq : D qb = some (shoO (.slice a1 n1 c1) (.slice a2 n2 c2) (.slice a3 n3 c3) mb)) (hH : Holds D w) (hT : TideOk T) (hdn : DoneD D) (h : Hts) (m : Int) (hh : HtB h) (hm : minuteB T m = true) (es : Array MapEntry) (clock : Nat) (F : K5 → Option Int) (hM : MapR kv5 es clock F) (hF : KnownOK T F) (hI0 : Inv D [(mb, .map es clock)] [mb] w w) : AltersN Tryz.prog 168 [pt qb, htV h, it m] w D [mb] (fun v D' hp' => v = it (standsI T h m) ∧ D' = D ∧ MapK T mb hp') := by
  unfold AltersN
  obtain rfl := hR.mark.len'
  obtain rfl := hR.sand.len'
  obtain rfl := hR.look.len'
  obtain ⟨hl1, hl2, hl3⟩ := hR.len
  have hmn := minute_num hT hm
  obtain ⟨hk1, hk2, hk3, hk4, hk5⟩ := next_spec hT hm
  have hfd := findM_last hT (m := m) (by have h' : firstM T ≤ m ∧ m ≤ lastM T := by simpa only [minuteB, decide_eq_true_eq] using hm
                                         exact h'.2)
  have hst : standsI T h m = standI T h m (nextN T m) := rfl
  generalize hkn : nextN T m = k at hk1 hk2 hk3 hk4 hk5 hst
  have hnm := hT.nm
  have hma := (hT.mark (k - 1) (by omega)).1
  have hmb := (hT.mark k hk2).1
  have hgap := hT.less (i := k - 1) (j := k) (by omega) hk2
  have hh1 := hh (k - 1)
  have hh2 := hh k
  unfold standI at hst
  obtain ⟨L, hLd⟩ : ∃ L, (gt T.marks k).minute - (gt T.marks (k - 1)).minute = L := ⟨_, rfl⟩
  obtain ⟨x, hxd⟩ : ∃ x, m - (gt T.marks (k - 1)).minute = x := ⟨_, rfl⟩
  rw [hLd, hxd] at hst
  have hLn : 6 ≤ L ∧ L ≤ 240 := by omega
  have hxn : 0 ≤ x ∧ x ≤ L := by omega
  obtain ⟨mv1, mv2, mv3, mv4, mv5, mv6, mv7⟩ := move_num (L := L) (x := x) (by omega) hxn.1 hxn.2
  have hmv : moveI L x = doneN (6 * x / L).toNat * L + if 0 < 6 * x % L then (doneN ((6 * x / L).toNat + 1) - doneN (6 * x / L).toNat) * (6 * x % L) else 0 := rfl
  obtain ⟨qn, hqn⟩ : ∃ qn : Nat, 6 * x / L = (qn : Int) := ⟨(6 * x / L).toNat, by omega⟩
  obtain ⟨r, hrd⟩ : ∃ r, 6 * x % L = r := ⟨_, rfl⟩
  obtain ⟨f, hf⟩ : ∃ f, moveI L x = f := ⟨_, rfl⟩
  have hqw := hqn
  have hrw := hrd
  rw [hf] at mv5 mv6 hmv hst
  rw [hqn, hrd, Int.toNat_natCast] at hmv
  rw [hqn] at mv1 mv2 mv7
  rw [hrd] at mv3 mv4 mv7
  have hfv : (0 < r → doneN qn * L + (doneN (qn + 1) - doneN qn) * r = f) ∧ (r ≤ 0 → doneN qn * L = f) := ⟨fun h => by rw [hmv, if_pos h], fun h => by rw [hmv, if_neg (by omega)]; omega⟩
  have hdq := done_num qn
  have hdr := done_rise qn
  have hpl := mul_12 (a := doneN qn) (r := L) hdq (by omega)
  obtain ⟨sn1, sn2, sn3, sn4, sn5, sn6, sn7⟩ := stand_num (L := L) (f := f) (by omega) hh1 hh2 ⟨mv5, mv6⟩
  refine en Tryz.func168 rfl Tryz.ntmps168 hI0 (g [[1],[1,0,1,2]] ?_)
  refine WL.so (SO.box rfl rfl) rfl (zw fun b4 hb4 => ?_)
  refine WL.so (SO.box rfl rfl) rfl (zw fun b5 hb5 => ?_)
  refine g [[4],[1,6,5,4,0]] ?_
  refine WL.yd (Yd.loadN  AgF.h SzF.h rfl (vs := [_, _, _, _]) rfl (RdN.own (k := 1) (n := 4) rfl rfl)) rfl (g [[2]] ?_)
  refine WL.so (SO.alloc ZvF.h rfl) rfl (zw fun b7 hb7 => ?_)
  refine g [[5],[0,7,6,5,4,0],[3010],[5]] ?_
  refine WQ.know 24 (kv5 (k5 h m)) rfl (kv5_at hh hmn) (WQ.q rfl (Yd.qt (Yd.lookKOk (y := k5 h m) kv5_inj keyLawM key_k5 UnF.h ZvF.h (j := 3) rfl rfl rfl hM)) rfl (g [[9],[4,9,8,7,6,5,4,0]] ?_))
  refine WC.cond rfl (fun c28 => ?_) (fun c28 => ?_)
  · try simp only [zq] at c28
    refine g [[1],[7,8,7,6,5,4,0]] ?_
    refine WP.ret1 rfl rfl rfl (RV.tmp rfl) (fun w1 hI => ⟨_, D, [(mb, .map es clock)], rfl, DExt.refl _ _, hI.drop 3, (by cases hFk : F (k5 h m) with
      | none => rw [hFk] at c28; cases c28
      | some v => exact congrArg it (hF h m v hh hm hFk)), rfl, es, clock, F, rfl, hM, hF⟩)
  try simp only [zq] at c28
  refine g [[3],[7,7,6,5,4,0]] ?_
  refine WL.freezeK 1 rfl (fun hn5 => ?_)
  have hF5 := fun o => (DExt.refl w D).add (o := o) hn5 hb5
  have hX1 := hF5 (.cells (List.toArray [it m]) 3 (0, 0))
  have hq1 := hX1.old _ _ hq
  have hR1 := hR.ext hX1
  have hdn1 := hdn.ext hX1
  have h51 : (D.add b5 (.cells (List.toArray [it m]) 3 (0, 0))) b5 = _ := Imm.add_self _ _ _
  refine WL.cl rfl (fun w hI => indexM_g T a1 a2 a3 _ _ _ c1 c2 c3 _ _ hR1 hI.imm b5 m h51 hfd) (WL.yd (Yd.max2 rfl rfl) rfl ?_)
  refine WL.know 37 (nt k) rfl (by show it (max 1 _) = it (k : Int); congr 1; rw [← hkn]; unfold nextN; omega) (g [[4],[0,10,7,6,5,4,0],[3031],[7]] ?_)
  refine WQ.know 44 (nt (k - 1)) rfl (by show it ((k : Int) - 1) = it ((k - 1 : Nat) : Int); congr 1; omega) ?_
  refine WQ.q rfl (Yd.qt (Yd.ix rfl rfl (hR1.mark.addr (k - 1) (by omega)))) rfl (g [[1]] ?_)
  refine WQ.q rfl (Yd.qt (Yd.l1 rfl ((hR1.mark.at (k - 1) (by omega)).rd 0 rfl))) rfl (g [[6]] ?_)
  refine WQ.q rfl (Yd.qt (Yd.ix rfl rfl (hR1.mark.addr (k - 1) (by omega)))) rfl (g [[1]] ?_)
  refine WQ.q rfl (Yd.qt (Yd.l1 rfl ((hR1.mark.at k (by omega)).rd 0 rfl))) rfl (g [[7]] ?_)
  refine WQ.know 63 (nt (k - 1)) rfl (by show it ((k : Int) - 1) = it ((k - 1 : Nat) : Int); congr 1; omega) ?_
  refine WQ.q rfl (Yd.qt (Yd.ix rfl rfl (hR1.mark.addr (k - 1) (by omega)))) rfl (g [[1]] ?_)
  refine WQ.q rfl (Yd.qt (Yd.l1 rfl ((hR1.mark.at (k - 1) (by omega)).rd 0 rfl))) rfl (g [[1]] ?_)
  refine WQ.know 67 (it L) rfl (congrArg it hLd) (g [[6],[0,12,11,10,7,6,5,4,0],[3013],[3]] ?_)
  refine WQ.know 70 (it x) rfl (congrArg it hxd) (g [[2]] ?_)
  refine WQ.q rfl (Yd.qt (Yd.quo rfl rfl (by omega) (by omega) (wr64 ⟨by omega, by omega⟩))) rfl (g [[3]] ?_)
  refine WQ.know 76 (it x) rfl (congrArg it hxd) (g [[2]] ?_)
  refine WQ.q rfl (Yd.qt (Yd.rem rfl rfl (by omega) (by omega))) rfl (WQ.know 73 (nt qn) rfl (congrArg it hqn) ?_)
  refine WQ.know 79 (it r) rfl (congrArg it hrd) (g [[6],[2,14,13,12,10,7,6,4,0]] ?_)
  refine WL.yd (Yd.indexA UnF.h SzF.h rfl rfl (by omega) (by omega)) rfl (WL.yd (Yd.l1 rfl (done_rd hdn1 _ (k := qn) (by omega))) rfl (g [[7],[5,15,14,13,12,10,7,6,4,0]] ?_))
  refine WC.cond rfl (fun c86 => ?_) (fun c86 => ?_)
  · try simp only [zq] at c86
    have hq5 : qn ≤ 5 := by omega
    have hpr := mul_3 (a := doneN (qn + 1) - doneN qn) (r := r) (by omega) (by omega)
    refine g [[0,15,14,13,12,10,7,6,4,0],[3011],[2]] ?_
    refine WQ.q rfl (Yd.qt (Yd.addN (i := qn) (j := 1) rfl rfl (by omega))) rfl (WQ.q rfl (Yd.qt (Yd.indexA UnF.h SzF.h rfl rfl (by omega) (by omega))) rfl ?_)
    refine WQ.q rfl (Yd.qt (Yd.l1 rfl (done_rd hdn1 _ (k := qn + 1) (by omega)))) rfl (g [[1]] ?_)
    refine WQ.q rfl (Yd.qt (Yd.indexA UnF.h SzF.h rfl rfl (by omega) (by omega))) rfl (WQ.q rfl (Yd.qt (Yd.l1 rfl (done_rd hdn1 _ (k := qn) (by omega)))) rfl (g [[9],[0,15,12,10,7,6,4,0],[3023],[7]] ?_))
    refine WQ.know 105 (nt (k - 1)) rfl (by show it ((k : Int) - 1) = it ((k - 1 : Nat) : Int); congr 1; omega) ?_
    refine WQ.q rfl (Yd.qt (Yd.indexA UnF.h SzF.h rfl rfl (by omega) (by omega))) rfl (WQ.q rfl (Yd.qt (Yd.l1 rfl (Rd.own (k := 1) rfl (ht_rd h (i := k - 1) (by omega))))) rfl (g [[3]] ?_))
    refine WQ.know 110 (it f) rfl (congrArg it (hfv.1 c86)) (g [[3]] ?_)
    refine WQ.q rfl (Yd.qt (Yd.indexA UnF.h SzF.h rfl rfl (by omega) (by omega))) rfl (WQ.q rfl (Yd.qt (Yd.l1 rfl (Rd.own (k := 1) rfl (ht_rd h (i := k) (by omega))))) rfl (g [[1]] ?_))
    refine WQ.know 116 (it f) rfl (congrArg it (hfv.1 c86)) (g [[4]] ?_)
    refine WQ.q rfl (Yd.qt (Yd.quo rfl rfl (by omega) (by omega) (wr64 ⟨by omega, by omega⟩))) rfl (g [[1]] ?_)
    refine WL.know 103 (kv5 (k5 h m)) rfl (kv5_at hh hmn) (WL.know 121 (it (standsI T h m)) rfl (congrArg it hst.symm) ?_)
    refine WL.so (SO.putK (u := standsI T h m) (y := k5 h m) kv5_inj keyLawM key_k5 UnF.h rfl rfl rfl (j := 2) rfl hM) rfl ?_
    rintro _ _ _ ⟨rfl, es1, clock1, rfl, hM1⟩
    refine g [[3],[0,7,6,0],[3005],[6]] ?_
    refine WL.know 126 (kv5 (k5 h m)) rfl (kv5_at hh hmn) (WL.yd (Yd.lookK (y := k5 h m) kv5_inj keyLawM key_k5 UnF.h ZvF.h (j := 2) rfl rfl rfl hM1) rfl (g [[4]] ?_))
    refine WP.ret1 rfl rfl rfl (RV.tmp rfl) (fun w1 hI => ⟨_, D, [(mb, .map es1 clock1)], rfl, DExt.refl _ _, inv_weak (hI.drop 2) hX1, (by rw [show (putF F (k5 h m) (standsI T h m)) (k5 h m) = some (standsI T h m) from if_pos rfl]; rfl), rfl, es1, clock1, _, rfl, hM1, known_put hT hF hh hm⟩)
  try simp only [zq] at c86
  refine g [[3],[0,15,12,10,7,6,4,0],[3023],[7]] ?_
  refine WQ.know 105 (nt (k - 1)) rfl (by show it ((k : Int) - 1) = it ((k - 1 : Nat) : Int); congr 1; omega) ?_
  refine WQ.q rfl (Yd.qt (Yd.indexA UnF.h SzF.h rfl rfl (by omega) (by omega))) rfl (WQ.q rfl (Yd.qt (Yd.l1 rfl (Rd.own (k := 1) rfl (ht_rd h (i := k - 1) (by omega))))) rfl (g [[3]] ?_))
  refine WQ.know 110 (it f) rfl (congrArg it (hfv.2 c86)) (g [[3]] ?_)
  refine WQ.q rfl (Yd.qt (Yd.indexA UnF.h SzF.h rfl rfl (by omega) (by omega))) rfl (WQ.q rfl (Yd.qt (Yd.l1 rfl (Rd.own (k := 1) rfl (ht_rd h (i := k) (by omega))))) rfl (g [[1]] ?_))
  refine WQ.know 116 (it f) rfl (congrArg it (hfv.2 c86)) (g [[4]] ?_)
  refine WQ.q rfl (Yd.qt (Yd.quo rfl rfl (by omega) (by omega) (wr64 ⟨by omega, by omega⟩))) rfl (g [[1]] ?_)
  refine WL.know 103 (kv5 (k5 h m)) rfl (kv5_at hh hmn) (WL.know 121 (it (standsI T h m)) rfl (congrArg it hst.symm) ?_)
  refine WL.so (SO.putK (u := standsI T h m) (y := k5 h m) kv5_inj keyLawM key_k5 UnF.h rfl rfl rfl (j := 2) rfl hM) rfl ?_
  rintro _ _ _ ⟨rfl, es1, clock1, rfl, hM1⟩
  refine g [[3],[0,7,6,0],[3005],[6]] ?_
  refine WL.know 126 (kv5 (k5 h m)) rfl (kv5_at hh hmn) (WL.yd (Yd.lookK (y := k5 h m) kv5_inj keyLawM key_k5 UnF.h ZvF.h (j := 2) rfl rfl rfl hM1) rfl (g [[4]] ?_))
  refine WP.ret1 rfl rfl rfl (RV.tmp rfl) (fun w1 hI => ⟨_, D, [(mb, .map es1 clock1)], rfl, DExt.refl _ _, inv_weak (hI.drop 2) hX1, (by rw [show (putF F (k5 h m) (standsI T h m)) (k5 h m) = some (standsI T h m) from if_pos rfl]; rfl), rfl, es1, clock1, _, rfl, hM1, known_put hT hF hh hm⟩)
end Go.Proofs.YtejgofaeafphjaaGreatDoor
namespace Go.Proofs.YtejgofaeafphjaaGreatDoor
open Go.W Go.Ti
theorem spl_ht (h : Hts) {i : Nat} (hi : i < 4) (n : Int) : splice (htC h) (0 + i * 1) [it n] = htC (updH h i n) := by
  rcases (show i = 0 ∨ i = 1 ∨ i = 2 ∨ i = 3 by omega) with rfl | rfl | rfl | rfl <;> simp [htC, updH, splice]
theorem withH_g (h : Hts) (i : Nat) (n : Int) (hi : i < 4) (w : World) : Gives Tryz.prog 237 [htV h, nt i, it n] w (htV (updH h i n)) := by
  unfold Gives
  refine en Tryz.func237 rfl Tryz.ntmps237 zI (g [[1],[1,0,1,2]] ?_)
  refine WL.so (SO.box rfl rfl) rfl (zw fun b3 hb3 => ?_)
  refine WL.so (SO.alloc ZvF.h rfl) rfl (zw fun b6 hb6 => ?_)
  refine g [[3],[3,6,3,1,2]] ?_
  refine WL.yd (Yd.indexA UnF.h SzF.h rfl rfl (by omega) (by omega)) rfl ?_
  refine WL.so (SO.store 1 rfl SzF.h rfl rfl rfl rfl (by show 0 + i * 1 + 1 ≤ 4; omega) (oneB_spec rfl)) rfl (zt (g [[3],[1,6,3]] ?_))
  rw [show splice (htC h) (0 + (i : Int).toNat * 1) [it n] = htC (updH h i n) from spl_ht h hi n]
  refine g [[5]] ?_
  refine WP.ret1 rfl rfl rfl (RV.cellN AgF.h SzF.h rfl (vs := [_, _, _, _]) rfl (RdN.own (k := 0) (n := 4) rfl rfl)) (fun w hI => ⟨rfl, hI.keep⟩)
theorem fits0_g (a b : Int) (w : World) : Gives Tryz.prog 354 [.agg #[], it a, it b] w (.bool true) := by
  unfold Gives
  refine en Tryz.func354 rfl Tryz.ntmps354 zI (g [[1],[1,0]] ?_)
  refine WL.so (SO.box rfl rfl) rfl (zw fun b3 hb3 => ?_)
  refine g [[4],[5,6]] ?_
  refine WP.ret1 rfl rfl rfl (RV.tmp rfl) (fun w hI => ⟨rfl, hI.keep⟩)
theorem fits1_g (l : Go.Ti.Look) (a b : Int) (ha : 0 ≤ a ∧ a ≤ 60) (hb : 0 ≤ b ∧ b ≤ 60) (w : World) : Gives Tryz.prog 355 [.agg #[it l.depth.lo, it l.depth.hi], it a, it b] w (.bool (fitB l a b)) := by
  unfold Gives
  refine en Tryz.func355 rfl Tryz.ntmps355 zI (g [[1],[1,0,1,2]] ?_)
  refine WL.so (SO.box rfl rfl) rfl (zw fun b3 hb3 => ?_)
  refine g [[4],[1,6,3,1,2]] ?_
  refine WL.yd (Yd.fieldAddrZ (c := 1) (k := 0) Tryz.underlying366 rfl Tryz.sizeOf362 rfl rfl zk zk rfl rfl) rfl (g [[3]] ?_)
  refine WL.cl rfl (fun w hI => fits0_g a b _) (g [[1]] ?_)
  refine WL.part 12 rfl (fun g12 => ?_) (fun g12 => ?_)
  · try simp only [zq] at g12
    refine g [[3]] ?_
    refine WL.ydg rfl (Yd.max2 rfl rfl) rfl (g [[6]] ?_)
    refine WL.sog rfl (SO.callP CaF.h rfl (fun w hI => withinD_g _ _ _ _)) rfl (zs (g [[5]] ?_))
    refine WP.ret1 rfl rfl rfl (RV.tmp rfl) (fun w hI => ⟨ret_bool (by simp [fitB, inB]), hI.keep⟩)
  try simp only [zq] at g12
  cases g12
end Go.Proofs.YtejgofaeafphjaaGreatDoor
namespace Go.Ti
abbrev Bs := List UInt8
def digB (c : UInt8) : Bool := decide (48 ≤ c.toNat ∧ c.toNat ≤ 57)
def valN (acc : Nat) (s : Bs) : Nat := s.foldl (fun a c => 10 * a + (c.toNat - 48)) acc
theorem valN_cons (acc : Nat) (c : UInt8) (r : Bs) : valN acc (c :: r) = valN (10 * acc + (c.toNat - 48)) r := by simp only [valN, List.foldl_cons]
def numR (s : Bs) : Option Int := if (1 ≤ s.length ∧ s.length ≤ 6) ∧ ¬ (1 < s.length ∧ s.head? = some 48) ∧ s.all digB = true then some ((valN 0 s : Nat) : Int) else none
def numP (s : Bs) : Option Int := match Lib.atoiAll s with
  | .ok v => if 0 ≤ v ∧ s.length ≤ 6 ∧ Lib.itoa v = s then some v else none
  | _ => none
theorem valN_app (a b : Bs) (acc : Nat) : valN acc (a ++ b) = valN (valN acc a) b := List.foldl_append
theorem digB_iff {c : UInt8} : digB c = true ↔ 48 ≤ c.toNat ∧ c.toNat ≤ 57 := by simp [digB]
theorem parse_dig : ∀ (s : Bs) (acc k : Nat), s.all digB = true → acc < 10 ^ k → k + s.length ≤ 12 → Lib.parseUint10 acc s = .ok (valN acc s) ∧ valN acc s < 10 ^ (k + s.length)
  | [], acc, k, _, h, _ => ⟨rfl, h⟩
  | c :: s, acc, k, hd, h, hk => by
    simp only [List.all_cons, Bool.and_eq_true] at hd
    have hc := digB_iff.1 hd.1
    have h1 : (10 : Nat) ^ k ≤ 10 ^ 12 := Nat.pow_le_pow_right (by omega) (by simp at hk; omega)
    have h2 : (10 : Nat) ^ 12 = 1000000000000 := by decide
    have h3 : 10 * acc + (c.toNat - 48) < 10 ^ (k + 1) := by rw [Nat.pow_succ]; omega
    have ih := parse_dig s (10 * acc + (c.toNat - 48)) (k + 1) hd.2 h3 (by simp at hk; omega)
    rw [Lib.parseUint10, if_pos hc, if_neg (by omega), if_neg (by omega), valN_cons, show acc * 10 + (c.toNat - 48) = 10 * acc + (c.toNat - 48) by omega]
    exact ⟨ih.1, by rw [List.length_cons, show k + (s.length + 1) = k + 1 + s.length by omega]; exact ih.2⟩
theorem ofNat_dig {n : Nat} (h : n < 10) : (UInt8.ofNat (48 + n)).toNat = 48 + n := UInt8.toNat_ofNat_of_lt' (show 48 + n < 256 by omega)
theorem dec_dig (n : Nat) : (Lib.decDigits n).all digB = true ∧ valN 0 (Lib.decDigits n) = n ∧ Lib.decDigits n ≠ [] ∧ (10 ≤ n → (Lib.decDigits n).head? ≠ some 48) ∧ (n < 10 → (Lib.decDigits n).length = 1) ∧ (0 < n → (Lib.decDigits n).head? ≠ some 48) := by
  induction n using Nat.strongRecOn with
  | _ n ih =>
    by_cases h : n < 10
    · have e : Lib.decDigits n = [UInt8.ofNat (48 + n)] := by rw [Lib.decDigits, dif_pos h]
      have e2 := ofNat_dig h
      rw [e]
      refine ⟨by rw [List.all_cons, digB, e2]; simp; omega, by show 10 * 0 + ((UInt8.ofNat (48 + n)).toNat - 48) = n; rw [e2]; omega, by simp, fun h2 => by omega, fun _ => rfl, fun h2 e3 => ?_⟩
      simp only [List.head?_cons, Option.some.injEq] at e3
      rw [e3] at e2
      have : (48 : UInt8).toNat = 48 := rfl
      omega
    · have e : Lib.decDigits n = Lib.decDigits (n / 10) ++ [UInt8.ofNat (48 + n % 10)] := by rw [Lib.decDigits, dif_neg h]
      obtain ⟨h1, h2, h3, h4, h5, h6⟩ := ih (n / 10) (by omega)
      have e2 := ofNat_dig (n := n % 10) (by omega)
      have hh : (Lib.decDigits n).head? = (Lib.decDigits (n / 10)).head? := by
        rw [e]
        cases hd : Lib.decDigits (n / 10) with
        | nil => exact absurd hd h3
        | cons x l => rfl
      refine ⟨by rw [e, List.all_append, h1, List.all_cons, digB, e2]; simp; omega, ?_, by rw [e]; simp, fun _ => by rw [hh]; exact h6 (by omega), fun h7 => absurd h7 h, fun _ => by rw [hh]; exact h6 (by omega)⟩
      rw [e, valN_app, h2]
      show 10 * (n / 10) + ((UInt8.ofNat (48 + n % 10)).toNat - 48) = n
      rw [e2]; omega
theorem val_pos : ∀ (s : Bs) (acc : Nat), 0 < acc → 0 < valN acc s
  | [], _, h => h
  | c :: s, acc, h => by rw [valN_cons]; exact val_pos s _ (by omega)
theorem dec_back : ∀ (k : Nat) (s : Bs), s.length = k + 1 → s.all digB = true → (1 < s.length → s.head? ≠ some 48) → Lib.decDigits (valN 0 s) = s
  | 0, s, hl, hd, _ => by
    match s, hl with
    | [c], _ =>
      have hc := digB_iff.1 (by simpa using hd : digB c = true)
      have e : valN 0 [c] = c.toNat - 48 := by show 10 * 0 + (c.toNat - 48) = _; omega
      rw [e, Lib.decDigits, dif_pos (by omega), show 48 + (c.toNat - 48) = c.toNat by omega]
      simp
  | k + 1, s, hl, hd, hz => by
    have hne : s ≠ [] := fun e => by rw [e] at hl; simp at hl
    obtain ⟨t, c, rfl⟩ : ∃ t c, s = t ++ [c] := ⟨s.dropLast, s.getLast hne, (List.dropLast_concat_getLast hne).symm⟩
    have htl : t.length = k + 1 := by simpa using hl
    rw [List.all_append, Bool.and_eq_true] at hd
    have hc := digB_iff.1 (by simpa using hd.2 : digB c = true)
    have hhead : (t ++ [c]).head? = t.head? := by
      cases t with
      | nil => simp at htl
      | cons x t => rfl
    have hz' : t.head? ≠ some 48 := by rw [← hhead]; exact hz (by simp; omega)
    have ih := dec_back k t htl hd.1 (fun _ => hz')
    have hp : 0 < valN 0 t := by
      cases t with
      | nil => simp at htl
      | cons x t =>
        simp only [List.all_cons, Bool.and_eq_true] at hd
        have hx := digB_iff.1 hd.1.1
        rw [valN_cons]
        refine val_pos t _ ?_
        rcases Nat.lt_or_ge 48 x.toNat with h1 | h1
        · omega
        · exfalso
          apply hz'
          have : x.toNat = (48 : UInt8).toNat := by have : (48 : UInt8).toNat = 48 := rfl; omega
          rw [UInt8.toNat_inj.1 this]; rfl
    have e : valN 0 (t ++ [c]) = 10 * valN 0 t + (c.toNat - 48) := by rw [valN_app]; rfl
    rw [e, Lib.decDigits, dif_neg (by omega), show (10 * valN 0 t + (c.toNat - 48)) / 10 = valN 0 t by omega, ih, show 48 + (10 * valN 0 t + (c.toNat - 48)) % 10 = c.toNat by omega]
    simp
theorem itoa_nat (n : Nat) : Lib.itoa (n : Int) = Lib.decDigits n := by
  unfold Lib.itoa
  rw [if_neg (by omega), Int.toNat_natCast]
theorem atoi_dig {s : Bs} (h1 : 1 ≤ s.length) (h2 : s.length ≤ 6) (hd : s.all digB = true) : Lib.atoiAll s = .ok ((valN 0 s : Nat) : Int) := by
  have hp := parse_dig s 0 0 hd (by simp) (by omega)
  match s, h1 with
  | c :: r, _ =>
    have hc := digB_iff.1 (by simp only [List.all_cons, Bool.and_eq_true] at hd; exact hd.1 : digB c = true)
    have hlt : valN 0 (c :: r) < 1000000 := by
      have h3 : (10 : Nat) ^ (0 + (c :: r).length) ≤ 10 ^ 6 := Nat.pow_le_pow_right (by omega) (by omega)
      have h4 : (10 : Nat) ^ 6 = 1000000 := by decide
      omega
    unfold Lib.atoiAll
    simp only
    rw [if_neg (by omega), Lib.parseMag, if_neg (by simp), hp.1]
    simp only
    rw [if_neg (by omega), if_neg (by omega), if_neg (by omega)]
theorem num_same (s : Bs) : numP s = numR s := by
  by_cases h : (1 ≤ s.length ∧ s.length ≤ 6) ∧ ¬ (1 < s.length ∧ s.head? = some 48) ∧ s.all digB = true
  · have hb := dec_back (s.length - 1) s (by omega) h.2.2 (fun h1 e => h.2.1 ⟨h1, e⟩)
    unfold numP numR
    rw [if_pos h, atoi_dig h.1.1 h.1.2 h.2.2]
    simp only
    rw [if_pos ⟨by omega, h.1.2, by rw [itoa_nat, hb]⟩]
  · unfold numR
    rw [if_neg h]
    unfold numP
    split
    · rename_i v e
      rw [if_neg]
      rintro ⟨h0, hl, hi⟩
      obtain ⟨n, rfl⟩ := Int.eq_ofNat_of_zero_le h0
      rw [itoa_nat] at hi
      have hd := dec_dig n
      rw [hi] at hd
      refine h ⟨⟨?_, hl⟩, fun h1 => ?_, hd.1⟩
      · have := List.length_pos_iff.2 hd.2.2.1; omega
      · rcases Nat.lt_or_ge n 10 with h2 | h2
        · have := hd.2.2.2.2.1 h2; omega
        · exact hd.2.2.2.1 h2 h1.2
    · rfl
theorem num_num {s : Bs} {v : Int} (h : numP s = some v) : 0 ≤ v ∧ v < 1000000 := by
  rw [num_same] at h
  unfold numR at h
  split at h
  · rename_i h1
    cases h
    have hp := (parse_dig s 0 0 h1.2.2 (by simp) (by omega)).2
    have h3 : (10 : Nat) ^ (0 + s.length) ≤ 10 ^ 6 := Nat.pow_le_pow_right (by omega) (by omega)
    have h4 : (10 : Nat) ^ 6 = 1000000 := by decide
    omega
  · cases h
end Go.Ti
