import Derived.Test.YtaebnllfmkcpgaaGreatDoorYFC
import Derived.Test.YtaebnllfmkcpgaaGreatDoorXH
set_option linter.unusedSimpArgs false
set_option linter.unusedVariables false
set_option linter.all false
set_option maxRecDepth 100000
set_option maxHeartbeats 1000000
namespace Go.Proofs.YtaebnllfmkcpgaaGreatDoor
open Go.W Go.Bk

def eC (x : Int) : List Value := [it x]
theorem wr_ok {X : Type} {is : X → Bool} {put : X → Bs} {x : X} : (wrO is put x).2 = 0 ↔ is x = true := by
  unfold wrO; split <;> simp_all
theorem wr_e {X : Type} (is : X → Bool) (put : X → Bs) (x : X) : (wrO is put x).2 = 0 ∨ (wrO is put x).2 = 1 := by
  unfold wrO; split <;> simp
theorem wr_off {X : Type} {is : X → Bool} {put : X → Bs} {x : X} (h : ¬ (wrO is put x).2 = 0) : wrO is put x = ([], 1) := wrO_no (by
  cases e : is x with
  | true => exact absurd (wr_ok.2 e) h
  | false => rfl)
theorem wrh_ok {h : Hors} : (wrH h).2 = 0 ↔ horsB h = true := by
  unfold wrH; split <;> simp_all
theorem wrh_e (h : Hors) : (wrH h).2 = 0 ∨ (wrH h).2 = 1 := by
  unfold wrH; split <;> simp
theorem wrh_off {h : Hors} (h0 : ¬ (wrH h).2 = 0) : wrH h = ([], 1) := wrH_no (by
  cases e : horsB h with
  | true => exact absurd (wrh_ok.2 e) h0
  | false => rfl)
theorem surf_lim (s : Surf) : (wrO surfB putSurf s).1.length ≤ 1200 := by
  cases e : surfB s with
  | true => rw [wrO_yes e]; exact surf_len (surfB_iff.1 e)
  | false => rw [wrO_no e]; simp
theorem flag_lim (s : Flag) : (wrO flagB putFlag s).1.length ≤ 1200 := by
  cases e : flagB s with
  | true => rw [wrO_yes e]; exact flag_len (flagB_iff.1 e)
  | false => rw [wrO_no e]; simp
theorem boats_lim (s : Boats) : (wrO boatsB putBoats s).1.length ≤ 1200 := by
  cases e : boatsB s with
  | true => rw [wrO_yes e]; exact boats_len (boatsB_iff.1 e)
  | false => rw [wrO_no e]; simp
theorem hors_lim (h : Hors) : (wrH h).1.length ≤ 62 := by
  cases e : horsB h with
  | true => rw [wrH_yes e]; exact (book_len (horsB_iff.1 e)).2
  | false => rw [wrH_no e]; simp
theorem read_nil : readSurf [] = (surfZ, 8) ∧ readFlag [] = (flagZ, 8) ∧ readBoats [] = (boatsZ, 8) ∧ readH [] = (horsZ, 8) := ⟨by kernel_rfl, by kernel_rfl, by kernel_rfl, by kernel_rfl⟩
theorem backSurf {s x : Surf} {c : Int} (h : readSurf (wrO surfB putSurf s).1 = (x, c)) : ((wrO surfB putSurf s).2 = 0 → x = s ∧ c = 0) ∧ (¬ (wrO surfB putSurf s).2 = 0 → c = 8) := by
  constructor
  · intro e
    have hb := wr_ok.1 e
    rw [wrO_yes hb] at h
    have h9 := h.symm.trans (readSurf_wr hb); cases h9; exact ⟨rfl, rfl⟩
  · intro e
    rw [wr_off e] at h
    have h9 := h.symm.trans read_nil.1; cases h9; rfl
theorem backFlag {s x : Flag} {c : Int} (h : readFlag (wrO flagB putFlag s).1 = (x, c)) : ((wrO flagB putFlag s).2 = 0 → x = s ∧ c = 0) ∧ (¬ (wrO flagB putFlag s).2 = 0 → c = 8) := by
  constructor
  · intro e
    have hb := wr_ok.1 e
    rw [wrO_yes hb] at h
    have h9 := h.symm.trans (readFlag_wr hb); cases h9; exact ⟨rfl, rfl⟩
  · intro e
    rw [wr_off e] at h
    have h9 := h.symm.trans read_nil.2.1; cases h9; rfl
theorem backBoats {s x : Boats} {c : Int} (h : readBoats (wrO boatsB putBoats s).1 = (x, c)) : ((wrO boatsB putBoats s).2 = 0 → x = s ∧ c = 0) ∧ (¬ (wrO boatsB putBoats s).2 = 0 → c = 8) := by
  constructor
  · intro e
    have hb := wr_ok.1 e
    rw [wrO_yes hb] at h
    have h9 := h.symm.trans (readBoats_wr hb); cases h9; exact ⟨rfl, rfl⟩
  · intro e
    rw [wr_off e] at h
    have h9 := h.symm.trans read_nil.2.2.1; cases h9; rfl
theorem backHors (h : Hors) : ((wrH h).2 = 0 → (readH (wrH h).1).1 = h ∧ (readH (wrH h).1).2 = 0) ∧ (¬ (wrH h).2 = 0 → (readH (wrH h).1).2 = 8) := by
  constructor
  · intro e
    have hb := wrh_ok.1 e
    rw [wrH_yes hb]
    have h9 := readH_put hb
    exact ⟨congrArg Prod.fst h9, congrArg Prod.snd h9⟩
  · intro e
    rw [wrh_off e]
    exact congrArg Prod.snd read_nil.2.2.2

set_option maxRecDepth 100000 in
set_option maxHeartbeats 8000000 in
theorem bookBack_g (s : Surf) (f : Flag) (b : Boats) (h : Hors) (m1 : SurfM) (m2 : FlagM) (m3 : BoatsM) (m4 : Sl) (D : Imm) (hL : LibD D) (hR1 : SurfR D s m1) (hR2 : FlagR D f m2) (hR3 : BoatsR D b m3) (hR4 : HorsR D h m4) (w : World) (hH : Holds D w) : Gives Tryz.prog 9 [surfV s m1, flagV f m2, boatsV b m3, horsV h m4] w (.bool true) := by
  unfold Gives
  refine enter Tryz.func9 rfl 229 Tryz.ntmps9 (zqb rfl) (Inv.start hH) ?_
  refine WC.seq (WC.ofFr [(0, _), (1, _), (2, _), (3, _)] ⟨rfl, rfl, rfl, rfl, trivial⟩ (WC.region ?_))
  refine WL.so (SO.box rfl rfl) rfl ?_
  rintro _ _ _ ⟨b4, hb4, rfl, rfl, rfl⟩
  refine WL.so (SO.box rfl rfl) rfl ?_
  rintro _ _ _ ⟨b5, hb5, rfl, rfl, rfl⟩
  refine WL.so (SO.box rfl rfl) rfl ?_
  rintro _ _ _ ⟨b6, hb6, rfl, rfl, rfl⟩
  refine WL.so (SO.box rfl rfl) rfl ?_
  rintro _ _ _ ⟨b7, hb7, rfl, rfl, rfl⟩
  refine zya rfl rfl ?_
  refine WL.nil (WP.thenC (WC.seq (WC.seq (WC.ofFr [(8, _), (7, _), (6, _), (5, _), (4, _)] ⟨rfl, rfl, rfl, rfl, rfl, trivial⟩ (WC.region ?_)))))
  refine WL.yd (Yd.loadN Tryz.isAgg25 Tryz.sizeOf25 rfl (vs := [_, _, _, _, _]) rfl (RdN.own (k := 3) (n := 5) rfl rfl)) rfl ?_
  refine WL.yd (Yd.loadN Tryz.isAgg29 Tryz.sizeOf29 rfl (vs := [_, _, _, _, _]) rfl (RdN.own (k := 2) (n := 5) rfl rfl)) rfl ?_
  refine WL.yd (Yd.loadN Tryz.isAgg32 Tryz.sizeOf32 rfl (vs := [_, _, _, _, _]) rfl (RdN.own (k := 1) (n := 5) rfl rfl)) rfl ?_
  refine WL.yd (Yd.loadN Tryz.isAgg35 Tryz.sizeOf35 rfl (vs := [_, _]) rfl (RdN.own (k := 0) (n := 2) rfl rfl)) rfl ?_
  refine WL.so (SO.callP Tryz.call12 rfl (fun w hI => far_g s f b h m1 m2 m3 m4 D hR1 hR2 hR3 hR4 _ hI.imm)) rfl ?_
  rintro _ _ _ ⟨rfl, rfl, rfl⟩
  refine WL.nil (WP.thenC ?_)
  refine WC.cond rfl (fun c31 => ?_) (fun c31 => ?_)
  · try simp only [zq1, zq2, zq3, zq4, zq5, zq6, zq7, zq8] at c31
    refine WC.seq (WC.ofFr [(8, _), (7, _), (6, _), (5, _), (4, _)] ⟨rfl, rfl, rfl, rfl, rfl, trivial⟩ (WC.region ?_))
    refine WL.so (SO.callP Tryz.call13 rfl (fun w hI => awake_g D hL _ hI.imm)) rfl ?_
    rintro _ _ _ ⟨rfl, rfl, rfl⟩
    refine zya rfl rfl ?_
    refine WL.nil (WP.thenC (WC.ret (WP.thenRet ?_)))
    refine WP.ret1 rfl rfl Tryz.results9 (RV.tmp rfl) (fun w hI => ⟨rfl, hI.keep⟩)
  · try simp only [zq1, zq2, zq3, zq4, zq5, zq6, zq7, zq8] at c31
    refine WC.skip (WP.thenC (WC.seq (WC.ofFr [(8, _), (7, _), (6, _), (5, _), (4, _)] ⟨rfl, rfl, rfl, rfl, rfl, trivial⟩ (WC.region ?_))))
    refine WL.yd (Yd.loadN Tryz.isAgg25 Tryz.sizeOf25 rfl (vs := [_, _, _, _, _]) rfl (RdN.own (k := 3) (n := 5) rfl rfl)) rfl ?_
    refine WL.so (SO.callP Tryz.call14 rfl (fun w hI => WriteSurf_g s m1 D hL hR1 _ hI.imm)) rfl ?_
    rintro _ _ _ ⟨rfl, rfl, rfl⟩
    refine zym rfl rfl ?_
    refine WL.yd (Yd.extract rfl rfl) rfl ?_
    refine WL.yd (Yd.extract rfl rfl) rfl ?_
    refine zya rfl rfl ?_
    refine zya rfl rfl ?_
    refine WL.nil (WP.thenC (WC.seq (WC.ofFr [(10, _), (9, _), (8, _), (7, _), (6, _), (5, _), (4, _)] ⟨rfl, rfl, rfl, rfl, rfl, rfl, rfl, trivial⟩ (WC.region ?_))))
    refine WL.yd (Yd.loadN Tryz.isAgg29 Tryz.sizeOf29 rfl (vs := [_, _, _, _, _]) rfl (RdN.own (k := 2) (n := 5) rfl rfl)) rfl ?_
    refine WL.so (SO.callP Tryz.call16 rfl (fun w hI => WriteFlag_g f m2 D hL hR2 _ hI.imm)) rfl ?_
    rintro _ _ _ ⟨rfl, rfl, rfl⟩
    refine zym rfl rfl ?_
    refine WL.yd (Yd.extract rfl rfl) rfl ?_
    refine WL.yd (Yd.extract rfl rfl) rfl ?_
    refine zya rfl rfl ?_
    refine zya rfl rfl ?_
    refine WL.nil (WP.thenC (WC.seq (WC.ofFr [(12, _), (11, _), (10, _), (9, _), (8, _), (7, _), (6, _), (5, _), (4, _)] ⟨rfl, rfl, rfl, rfl, rfl, rfl, rfl, rfl, rfl, trivial⟩ (WC.region ?_))))
    refine WL.yd (Yd.loadN Tryz.isAgg32 Tryz.sizeOf32 rfl (vs := [_, _, _, _, _]) rfl (RdN.own (k := 1) (n := 5) rfl rfl)) rfl ?_
    refine WL.so (SO.callP Tryz.call18 rfl (fun w hI => WriteBoats_g b m3 D hL hR3 _ hI.imm)) rfl ?_
    rintro _ _ _ ⟨rfl, rfl, rfl⟩
    refine zym rfl rfl ?_
    refine WL.yd (Yd.extract rfl rfl) rfl ?_
    refine WL.yd (Yd.extract rfl rfl) rfl ?_
    refine zya rfl rfl ?_
    refine zya rfl rfl ?_
    refine WL.nil (WP.thenC (WC.seq (WC.ofFr [(14, _), (13, _), (12, _), (11, _), (10, _), (9, _), (8, _), (7, _), (6, _), (5, _), (4, _)] ⟨rfl, rfl, rfl, rfl, rfl, rfl, rfl, rfl, rfl, rfl, rfl, trivial⟩ (WC.region ?_))))
    refine WL.yd (Yd.loadN Tryz.isAgg35 Tryz.sizeOf35 rfl (vs := [_, _]) rfl (RdN.own (k := 0) (n := 2) rfl rfl)) rfl ?_
    refine WL.so (SO.makes (Enters.func Tryz.call20 rfl) (fun w1 hI => WriteHorses_g h m4 D hR4 w1 hI.imm)) rfl ?_
    rintro _ D0 _ ⟨hX0, ⟨a2, n2, c2, rfl, hS2, hc2⟩, rfl⟩
    have hL0 := hL.ext hX0
    have hlen2 := hS2.len'
    refine zym rfl rfl ?_
    refine WL.yd (Yd.extract rfl rfl) rfl ?_
    refine WL.yd (Yd.extract rfl rfl) rfl ?_
    refine zya rfl rfl ?_
    refine zya rfl rfl ?_
    refine WL.nil (WP.thenC (WC.seq (WC.seq (WC.ofFr [(16, _), (15, _), (14, _), (13, _), (12, _), (11, _), (10, _), (9, _), (8, _), (7, _), (6, _), (5, _), (4, _)] ⟨rfl, rfl, rfl, rfl, rfl, rfl, rfl, rfl, rfl, rfl, rfl, rfl, rfl, trivial⟩ (WC.region ?_)))))
    refine WL.ofFr [(16, _), (15, _), (14, _), (13, _), (12, _), (11, _), (10, _), (9, _), (8, _), (7, _), (6, _), (5, _), (4, _)] ⟨rfl, rfl, rfl, rfl, rfl, rfl, rfl, rfl, rfl, rfl, rfl, rfl, rfl, trivial⟩ ?_
    refine WL.cutD 26 0 78 (.bool false) ?_ ?_
    · skip
      refine zym rfl rfl ?_
      refine WL.yd (Yd.eql rfl rfl) rfl ?_
      refine WL.yd (Yd.loadN Tryz.isAgg25 Tryz.sizeOf25 rfl (vs := [_, _, _, _, _]) rfl (RdN.own (k := 3) (n := 5) rfl rfl)) rfl ?_
      refine WL.so (SO.callP Tryz.call40 rfl (fun w hI => rvSurf_g s m1 D0 (hR1.ext hX0) _ hI.imm)) rfl ?_
      rintro _ _ _ ⟨rfl, rfl, rfl⟩
      refine WL.yd (Yd.neB Tryz.underlying4 rfl rfl) rfl ?_
      refine WL.know 57 (.bool false) rfl (congrArg Value.bool (by rw [show decide ((wrO surfB putSurf s).2 = 0) = surfB s by cases e9 : surfB s with | true => exact decide_eq_true (wr_ok.2 e9) | false => exact decide_eq_false (fun h9 => by rw [wr_ok.1 h9] at e9; cases e9)]; cases surfB s <;> rfl)) ?_
      refine zym rfl rfl ?_
      refine WL.ydg rfl (Yd.move rfl) rfl ?_
      refine WL.ydg rfl (Yd.eql rfl rfl) rfl ?_
      refine WL.ydg rfl (Yd.loadN Tryz.isAgg29 Tryz.sizeOf29 rfl (vs := [_, _, _, _, _]) rfl (RdN.own (k := 2) (n := 5) rfl rfl)) rfl ?_
      refine WL.sog rfl (SO.callP Tryz.call41 rfl (fun w hI => rvFlag_g f m2 D0 (hR2.ext hX0) _ hI.imm)) rfl ?_
      rintro _ _ _ ⟨rfl, rfl, rfl⟩
      refine WL.ydg rfl (Yd.neB Tryz.underlying4 rfl rfl) rfl ?_
      refine WL.know 63 (.bool false) rfl (congrArg Value.bool (by rw [show decide ((wrO flagB putFlag f).2 = 0) = flagB f by cases e9 : flagB f with | true => exact decide_eq_true (wr_ok.2 e9) | false => exact decide_eq_false (fun h9 => by rw [wr_ok.1 h9] at e9; cases e9)]; cases flagB f <;> rfl)) ?_
      refine WL.yd (Yd.pickF rfl rfl) rfl ?_
      refine zym rfl rfl ?_
      refine WL.ydg rfl (Yd.move rfl) rfl ?_
      refine WL.ydg rfl (Yd.eql rfl rfl) rfl ?_
      refine WL.ydg rfl (Yd.loadN Tryz.isAgg32 Tryz.sizeOf32 rfl (vs := [_, _, _, _, _]) rfl (RdN.own (k := 1) (n := 5) rfl rfl)) rfl ?_
      refine WL.sog rfl (SO.callP Tryz.call42 rfl (fun w hI => rvBoats_g b m3 D0 (hR3.ext hX0) _ hI.imm)) rfl ?_
      rintro _ _ _ ⟨rfl, rfl, rfl⟩
      refine WL.ydg rfl (Yd.neB Tryz.underlying4 rfl rfl) rfl ?_
      refine WL.know 70 (.bool false) rfl (congrArg Value.bool (by rw [show decide ((wrO boatsB putBoats b).2 = 0) = boatsB b by cases e9 : boatsB b with | true => exact decide_eq_true (wr_ok.2 e9) | false => exact decide_eq_false (fun h9 => by rw [wr_ok.1 h9] at e9; cases e9)]; cases boatsB b <;> rfl)) ?_
      refine WL.yd (Yd.pickF rfl rfl) rfl ?_
      refine zym rfl rfl ?_
      refine WL.ydg rfl (Yd.move rfl) rfl ?_
      refine WL.ydg rfl (Yd.eql rfl rfl) rfl ?_
      refine WL.ydg rfl (Yd.loadN Tryz.isAgg35 Tryz.sizeOf35 rfl (vs := [_, _]) rfl (RdN.own (k := 0) (n := 2) rfl rfl)) rfl ?_
      refine WL.sog rfl (SO.callP Tryz.call31 rfl (fun w hI => rvHors_g h m4 D0 (hR4.ext hX0) _ hI.imm)) rfl ?_
      rintro _ _ _ ⟨rfl, rfl, rfl⟩
      refine WL.ydg rfl (Yd.neB Tryz.underlying4 rfl rfl) rfl ?_
      refine WL.know 77 (.bool false) rfl (congrArg Value.bool (by rw [show decide ((wrH h).2 = 0) = horsB h by cases e9 : horsB h with | true => exact decide_eq_true (wrh_ok.2 e9) | false => exact decide_eq_false (fun h9 => by rw [wrh_ok.1 h9] at e9; cases e9)]; cases horsB h <;> rfl)) ?_
      refine WL.yd (Yd.pickF rfl rfl) rfl ?_
      refine WL.nil ?_
      exact WP.cutEnd ⟨rfl, rfl, rfl, rfl, rfl, rfl, rfl, rfl, rfl, rfl, rfl, rfl, rfl, rfl, trivial⟩
    · skip
      refine WL.nil (WP.thenC ?_)
      refine WC.condF rfl ?_
      refine WC.skip (WP.thenC (WC.seq (WC.seq (WC.ofFr [(16, _), (15, _), (14, _), (13, _), (12, _), (11, _), (10, _), (9, _), (8, _), (7, _), (6, _), (5, _), (4, _)] ⟨rfl, rfl, rfl, rfl, rfl, rfl, rfl, rfl, rfl, rfl, rfl, rfl, rfl, trivial⟩ (WC.region ?_)))))
      refine zym rfl rfl ?_
      refine zym rfl rfl ?_
      refine zym rfl rfl ?_
      refine zym rfl rfl ?_
      refine WL.so (SO.buildSlice1 Tryz.underlying72 Tryz.sizeOf38 Tryz.zeroValue38 rfl rfl rfl (vs := [_, _, _, _]) rfl rfl rfl) rfl ?_
      rintro _ _ _ ⟨b83, hb83, rfl, rfl, rfl⟩
      refine WL.freezeK 0 rfl (fun hn83 => ?_)
      have hX1 := (DExt.refl w D0).add (o := .cells (([(wrO surfB putSurf s).2, (wrO flagB putFlag f).2, (wrO boatsB putBoats b).2, (wrH h).2]).flatMap eC ++ []).toArray 38 (0, 0)) hn83 hb83
      have hSE : SlL (Imm.add D0 b83 (.cells (([(wrO surfB putSurf s).2, (wrO flagB putFlag f).2, (wrO boatsB putBoats b).2, (wrH h).2]).flatMap eC ++ []).toArray 38 (0, 0))) 1 (([(wrO surfB putSurf s).2, (wrO flagB putFlag f).2, (wrO boatsB putBoats b).2, (wrH h).2]).map eC) (some ⟨b83, 0, none⟩) 4 := SlL.ofBlock (f := eC) (m := 1) (rest := []) (fun _ => rfl) (Imm.add_self _ _ _)
      change WL _ _ _ _ (Imm.add D0 b83 (.cells (([(wrO surfB putSurf s).2, (wrO flagB putFlag f).2, (wrO boatsB putBoats b).2, (wrH h).2]).flatMap eC ++ []).toArray 38 (0, 0))) _ _ _
      generalize Imm.add D0 b83 (.cells (([(wrO surfB putSurf s).2, (wrO flagB putFlag f).2, (wrO boatsB putBoats b).2, (wrH h).2]).flatMap eC ++ []).toArray 38 (0, 0)) = D1 at hX1 hSE ⊢
      generalize hes : [(wrO surfB putSurf s).2, (wrO flagB putFlag f).2, (wrO boatsB putBoats b).2, (wrH h).2] = es at hSE
      refine WL.yd (Yd.lenS rfl Tryz.underlying72 rfl) rfl ?_
      refine zym rfl rfl ?_
      refine WL.nil (WP.thenC (WC.block ?_))
      have hes4 : ∀ k, k < 4 → gt es k = 0 ∨ gt es k = 1 := by
        subst hes
        intro k hk
        match k, hk with
        | 0, _ => exact wr_e _ _ _
        | 1, _ => exact wr_e _ _ _
        | 2, _ => exact wr_e _ _ _
        | 3, _ => exact wrh_e _
      refine WC.loopT [] (fun k : Nat => [(4, pt b4), (5, pt b5), (6, pt b6), (7, pt b7), (9, st (wrO surfB putSurf s).1), (10, it (wrO surfB putSurf s).2), (11, st (wrO flagB putFlag f).1), (12, it (wrO flagB putFlag f).2), (13, st (wrO boatsB putBoats b).1), (14, it (wrO boatsB putBoats b).2), (15, .slice a2 n2 c2), (16, it (wrH h).2), (83, .slice (some ⟨b83, 0, none⟩) 4 4), (84, nt 4), (85, nt k)]) (fun _ => [(b7, .cells (List.toArray (horsCs h m4)) 35 (0, 0)), (b6, .cells (List.toArray (boatsCs b m3)) 32 (0, 0)), (b5, .cells (List.toArray (flagCs f m2)) 29 (0, 0)), (b4, .cells (List.toArray (surfCs s m1)) 25 (0, 0))]) (fun k => k ≤ 4) (fun k => 4 - k) 0 (Nat.zero_le _) rfl ⟨rfl, rfl, rfl, rfl, rfl, rfl, rfl, rfl, rfl, rfl, rfl, rfl, rfl, rfl, rfl, trivial⟩ ?_
      intro k hk
      refine WC.seq (WC.ofFr [(4, _), (5, _), (6, _), (7, _), (9, _), (10, _), (11, _), (12, _), (13, _), (14, _), (15, _), (16, _), (83, _), (84, _), (85, _)] ⟨rfl, rfl, rfl, rfl, rfl, rfl, rfl, rfl, rfl, rfl, rfl, rfl, rfl, rfl, rfl, trivial⟩ (WC.region ?_))
      refine WL.yd (Yd.lss rfl rfl) rfl ?_
      refine WL.nil (WP.thenC (WC.seq ?_))
      refine WC.cond rfl (fun c86 => ?_) (fun c86 => ?_)
      · try simp only [zq1, zq2, zq3, zq4, zq5, zq6, zq7, zq8] at c86
        have hkl : k < 4 := by omega
        refine WC.skip (WP.thenC (WC.seq (WC.block (WC.seq (WC.ofFr [(4, _), (5, _), (6, _), (7, _), (9, _), (10, _), (11, _), (12, _), (13, _), (14, _), (15, _), (16, _), (83, _), (84, _), (85, _)] ⟨rfl, rfl, rfl, rfl, rfl, rfl, rfl, rfl, rfl, rfl, rfl, rfl, rfl, rfl, rfl, trivial⟩ (WC.region ?_))))))
        refine WL.yd (Yd.indexS Tryz.underlying72 Tryz.sizeOf38 rfl rfl (by omega) (by omega) (by first | exact hSE.addr k (by omega))) rfl ?_
        refine WL.yd (Yd.load1 Tryz.isAgg38 rfl ((hSE.at k (by omega)).rd 0 rfl)) rfl ?_
        refine zya rfl rfl ?_
        refine WL.nil (WP.thenC (WC.seq (WC.ofFr [(18, _), (4, _), (5, _), (6, _), (7, _), (9, _), (10, _), (11, _), (12, _), (13, _), (14, _), (15, _), (16, _), (83, _), (84, _), (85, _)] ⟨rfl, rfl, rfl, rfl, rfl, rfl, rfl, rfl, rfl, rfl, rfl, rfl, rfl, rfl, rfl, rfl, trivial⟩ (WC.region ?_))))
        refine WL.ofFr [(18, _), (4, _), (5, _), (6, _), (7, _), (9, _), (10, _), (11, _), (12, _), (13, _), (14, _), (15, _), (16, _), (83, _), (84, _), (85, _)] ⟨rfl, rfl, rfl, rfl, rfl, rfl, rfl, rfl, rfl, rfl, rfl, rfl, rfl, rfl, rfl, rfl, trivial⟩ ?_
        refine WL.cutD 6 1 94 (.bool false) ?_ ?_
        · skip
          refine zym rfl rfl ?_
          refine WL.yd (Yd.neq rfl rfl) rfl ?_
          refine zym rfl rfl ?_
          refine WL.part 91 rfl (fun g91 => ?_) (fun g91 => ?_)
          · try simp only [zq1, zq2, zq3, zq4, zq5, zq6, zq7, zq8] at g91
            refine WL.ydg rfl (Yd.move rfl) rfl ?_
            refine WL.ydg rfl (Yd.neq rfl rfl) rfl ?_
            refine WL.know 93 (.bool false) rfl (congrArg Value.bool (decide_eq_false (fun h9 => by have := hes4 k hkl; omega))) ?_
            refine WL.yd (Yd.pickT rfl rfl) rfl ?_
            refine WL.nil ?_
            exact WP.cutEnd ⟨rfl, rfl, rfl, rfl, rfl, rfl, rfl, rfl, rfl, rfl, rfl, rfl, rfl, rfl, rfl, rfl, trivial⟩
          · try simp only [zq1, zq2, zq3, zq4, zq5, zq6, zq7, zq8] at g91
            refine WL.skip rfl rfl ?_
            refine WL.skip rfl rfl ?_
            refine WL.yd (Yd.pickF rfl rfl) rfl ?_
            refine WL.nil ?_
            exact WP.cutEnd ⟨rfl, rfl, rfl, rfl, rfl, rfl, rfl, rfl, rfl, rfl, rfl, rfl, rfl, rfl, rfl, rfl, trivial⟩
        · skip
          refine WL.nil (WP.thenC ?_)
          refine WC.condF rfl ?_
          refine WC.skip (WP.blkNormal (WP.thenC (WC.ofFr [(4, _), (5, _), (6, _), (7, _), (9, _), (10, _), (11, _), (12, _), (13, _), (14, _), (15, _), (16, _), (83, _), (84, _), (85, _)] ⟨rfl, rfl, rfl, rfl, rfl, rfl, rfl, rfl, rfl, rfl, rfl, rfl, rfl, rfl, rfl, trivial⟩ (WC.region ?_))))
          refine WL.yd (Yd.add rfl rfl (wr64 ⟨by omega, by omega⟩)) rfl ?_
          refine zym rfl rfl ?_
          refine WL.nil ?_
          exact WP.againT (k + 1) (by omega) (by omega) [] _ rfl rfl ⟨rfl, rfl, rfl, rfl, rfl, rfl, rfl, rfl, rfl, rfl, rfl, rfl, rfl, rfl, rfl, trivial⟩
      · try simp only [zq1, zq2, zq3, zq4, zq5, zq6, zq7, zq8] at c86
        obtain rfl : k = 4 := by omega
        refine WC.exit ?_
        refine WP.thenExit ?_
        refine WP.thenExit ?_
        refine WP.blkHit ?_
        refine WP.thenC (WC.seq (WC.ofFr [(4, _), (5, _), (6, _), (7, _), (9, _), (10, _), (11, _), (12, _), (13, _), (14, _), (15, _), (16, _)] ⟨rfl, rfl, rfl, rfl, rfl, rfl, rfl, rfl, rfl, rfl, rfl, rfl, trivial⟩ (WC.region ?_)))
        refine zym rfl rfl ?_
        refine WL.so (SO.makes (Enters.func Tryz.call34 rfl) (fun w1 hI => ReadSurf_g (wrO surfB putSurf s).1 (by have := surf_lim s; omega) D1 (hL0.ext hX1) w1 hI.imm)) rfl ?_
        rintro _ D2 _ ⟨hX2, ⟨x2, m12, e2, hx2, rfl, hR12⟩, rfl⟩
        have hL2 := (hL0.ext hX1).ext hX2
        refine zym rfl rfl ?_
        refine WL.yd (Yd.extract rfl rfl) rfl ?_
        refine WL.yd (Yd.extract rfl rfl) rfl ?_
        refine WL.so (SO.alloc Tryz.zeroValue25 rfl) rfl ?_
        rintro _ _ _ ⟨b19, hb19, rfl, rfl, rfl⟩
        refine WL.so (SO.store 0 rfl Tryz.sizeOf25 rfl rfl rfl rfl (zqb rfl) (oneB_spec rfl)) rfl ?_
        rintro _ _ _ ⟨rfl, rfl, rfl⟩
        refine zya rfl rfl ?_
        refine WL.nil (WP.thenC (WC.seq (WC.ofFr [(20, _), (19, _), (4, _), (5, _), (6, _), (7, _), (9, _), (10, _), (11, _), (12, _), (13, _), (14, _), (15, _), (16, _)] ⟨rfl, rfl, rfl, rfl, rfl, rfl, rfl, rfl, rfl, rfl, rfl, rfl, rfl, rfl, trivial⟩ (WC.region ?_))))
        refine zym rfl rfl ?_
        refine WL.so (SO.makes (Enters.func Tryz.call36 rfl) (fun w1 hI => ReadFlag_g (wrO flagB putFlag f).1 (by have := flag_lim f; omega) D2 hL2 w1 hI.imm)) rfl ?_
        rintro _ D3 _ ⟨hX3, ⟨x3, m13, e3, hx3, rfl, hR13⟩, rfl⟩
        have hL3 := hL2.ext hX3
        refine zym rfl rfl ?_
        refine WL.yd (Yd.extract rfl rfl) rfl ?_
        refine WL.yd (Yd.extract rfl rfl) rfl ?_
        refine WL.so (SO.alloc Tryz.zeroValue29 rfl) rfl ?_
        rintro _ _ _ ⟨b21, hb21, rfl, rfl, rfl⟩
        refine WL.so (SO.store 0 rfl Tryz.sizeOf29 rfl rfl rfl rfl (zqb rfl) (oneB_spec rfl)) rfl ?_
        rintro _ _ _ ⟨rfl, rfl, rfl⟩
        refine zya rfl rfl ?_
        refine WL.nil (WP.thenC (WC.seq (WC.ofFr [(22, _), (21, _), (20, _), (19, _), (4, _), (5, _), (6, _), (7, _), (9, _), (10, _), (11, _), (12, _), (13, _), (14, _), (15, _), (16, _)] ⟨rfl, rfl, rfl, rfl, rfl, rfl, rfl, rfl, rfl, rfl, rfl, rfl, rfl, rfl, rfl, rfl, trivial⟩ (WC.region ?_))))
        refine zym rfl rfl ?_
        refine WL.so (SO.makes (Enters.func Tryz.call38 rfl) (fun w1 hI => ReadBoats_g (wrO boatsB putBoats b).1 (by have := boats_lim b; omega) D3 hL3 w1 hI.imm)) rfl ?_
        rintro _ D4 _ ⟨hX4, ⟨x4, m14, e4, hx4, rfl, hR14⟩, rfl⟩
        have hL4 := hL3.ext hX4
        refine zym rfl rfl ?_
        refine WL.yd (Yd.extract rfl rfl) rfl ?_
        refine WL.yd (Yd.extract rfl rfl) rfl ?_
        refine WL.so (SO.alloc Tryz.zeroValue32 rfl) rfl ?_
        rintro _ _ _ ⟨b23, hb23, rfl, rfl, rfl⟩
        refine WL.so (SO.store 0 rfl Tryz.sizeOf32 rfl rfl rfl rfl (zqb rfl) (oneB_spec rfl)) rfl ?_
        rintro _ _ _ ⟨rfl, rfl, rfl⟩
        refine zya rfl rfl ?_
        refine WL.nil (WP.thenC (WC.seq (WC.ofFr [(24, _), (23, _), (22, _), (21, _), (20, _), (19, _), (4, _), (5, _), (6, _), (7, _), (9, _), (10, _), (11, _), (12, _), (13, _), (14, _), (15, _), (16, _)] ⟨rfl, rfl, rfl, rfl, rfl, rfl, rfl, rfl, rfl, rfl, rfl, rfl, rfl, rfl, rfl, rfl, rfl, rfl, trivial⟩ (WC.region ?_))))
        refine zym rfl rfl ?_
        refine WL.so (SO.makes (Enters.func Tryz.call23 rfl) (fun w1 hI => ReadHorses_g (wrH h).1 a2 n2 c2 D4 (hS2.ext (((hX1.trans hX2 (Nat.le_refl _)).trans hX3 (Nat.le_refl _)).trans hX4 (Nat.le_refl _))) (by have := hors_lim h; omega) hc2 w1 hI.imm)) rfl ?_
        rintro _ D5 _ ⟨hX5, ⟨m15, rfl, hR15⟩, rfl⟩
        have hL5 := hL4.ext hX5
        refine zym rfl rfl ?_
        refine WL.yd (Yd.extract rfl rfl) rfl ?_
        refine WL.yd (Yd.extract rfl rfl) rfl ?_
        refine WL.so (SO.alloc Tryz.zeroValue35 rfl) rfl ?_
        rintro _ _ _ ⟨b25, hb25, rfl, rfl, rfl⟩
        refine WL.so (SO.store 0 rfl Tryz.sizeOf35 rfl rfl rfl rfl (zqb rfl) (oneB_spec rfl)) rfl ?_
        rintro _ _ _ ⟨rfl, rfl, rfl⟩
        refine zya rfl rfl ?_
        refine WL.nil (WP.thenC (WC.seq (WC.seq (WC.ofFr [(26, _), (25, _), (24, _), (23, _), (22, _), (21, _), (20, _), (19, _), (4, _), (5, _), (6, _), (7, _), (9, _), (10, _), (11, _), (12, _), (13, _), (14, _), (15, _), (16, _)] ⟨rfl, rfl, rfl, rfl, rfl, rfl, rfl, rfl, rfl, rfl, rfl, rfl, rfl, rfl, rfl, rfl, rfl, rfl, rfl, rfl, trivial⟩ (WC.region ?_)))))
        refine WL.ofFr [(20, _), (19, _), (4, _), (10, _), (26, _), (25, _), (24, _), (23, _), (22, _), (21, _), (5, _), (6, _), (7, _), (9, _), (11, _), (12, _), (13, _), (14, _), (15, _), (16, _)] ⟨rfl, rfl, rfl, rfl, rfl, rfl, rfl, rfl, rfl, rfl, rfl, rfl, rfl, rfl, rfl, rfl, rfl, rfl, rfl, rfl, trivial⟩ ?_
        refine WL.cutD 24 4 139 (.bool false) ?_ ?_
        · skip
          refine zym rfl rfl ?_
          refine WL.yd (Yd.eql rfl rfl) rfl ?_
          refine zym rfl rfl ?_
          refine WL.part 118 rfl (fun g118 => ?_) (fun g118 => ?_)
          · try simp only [zq1, zq2, zq3, zq4, zq5, zq6, zq7, zq8] at g118
            refine WL.ydg rfl (Yd.move rfl) rfl ?_
            refine WL.ydg rfl (Yd.neq rfl rfl) rfl ?_
            refine WL.know 120 (.bool false) rfl (congrArg Value.bool (decide_eq_false (fun h9 => h9 ((backSurf hx2).1 (by omega)).2))) ?_
            refine WL.ydg rfl (Yd.move rfl) rfl ?_
            refine WL.ydg rfl (Yd.loadN Tryz.isAgg25 Tryz.sizeOf25 rfl (vs := [_, _, _, _, _]) rfl (RdN.own (k := 3) (n := 5) rfl rfl)) rfl ?_
            refine WL.ydg rfl (Yd.loadN Tryz.isAgg25 Tryz.sizeOf25 rfl (vs := [_, _, _, _, _]) rfl (RdN.own (k := 7) (n := 5) rfl rfl)) rfl ?_
            refine WL.sog rfl (SO.callP Tryz.call28 rfl (fun w hI => sameSurf_g x2 s m12 m1 (readSurf_N _ hx2) (SurfN.of (surfB_iff.1 (wr_ok.1 (by omega)))) D5 hL5 (hR12.ext ((hX3.trans hX4 (Nat.le_refl _)).trans hX5 (Nat.le_refl _))) (hR1.ext (((((hX0.trans hX1 (Nat.le_refl _)).trans hX2 (Nat.le_refl _)).trans hX3 (Nat.le_refl _)).trans hX4 (Nat.le_refl _)).trans hX5 (Nat.le_refl _))) _ hI.imm)) rfl ?_
            rintro _ _ _ ⟨rfl, rfl, rfl⟩
            refine WL.know 124 (.bool true) rfl (congrArg Value.bool ((by rw [((backSurf hx2).1 (by omega)).1]; exact sameSurf_refl _))) ?_
            refine WL.ydg rfl (Yd.not rfl) rfl ?_
            refine WL.ydg rfl (Yd.pickF rfl rfl) rfl ?_
            refine WL.yd (Yd.pickT rfl rfl) rfl ?_
            refine zym rfl rfl ?_
            refine WL.ydg rfl (Yd.move rfl) rfl ?_
            refine WL.ydg rfl (Yd.neq rfl rfl) rfl ?_
            refine WL.know 130 (.bool false) rfl (congrArg Value.bool (decide_eq_false (by omega))) ?_
            refine WL.ydg rfl (Yd.move rfl) rfl ?_
            refine WL.skip rfl rfl ?_
            refine WL.skip rfl rfl ?_
            refine WL.skip rfl rfl ?_
            refine WL.skipU rfl rfl ?_
            refine WL.skipU rfl rfl ?_
            refine WL.skip rfl rfl ?_
            refine WL.ydg rfl (Yd.pickF rfl rfl) rfl ?_
            refine WL.yd (Yd.pickF rfl rfl) rfl ?_
            refine WL.nil ?_
            exact WP.cutEnd ⟨rfl, rfl, rfl, rfl, rfl, rfl, rfl, rfl, rfl, rfl, rfl, rfl, rfl, rfl, rfl, rfl, rfl, trivial⟩
          · try simp only [zq1, zq2, zq3, zq4, zq5, zq6, zq7, zq8] at g118
            refine WL.skip rfl rfl ?_
            refine WL.skip rfl rfl ?_
            refine WL.skip rfl rfl ?_
            refine WL.skipU rfl rfl ?_
            refine WL.skipU rfl rfl ?_
            refine WL.skipU rfl rfl ?_
            refine WL.skipU rfl rfl ?_
            refine WL.skip rfl rfl ?_
            refine WL.yd (Yd.pickF rfl rfl) rfl ?_
            refine zym rfl rfl ?_
            refine WL.ydg rfl (Yd.move rfl) rfl ?_
            refine WL.ydg rfl (Yd.neq rfl rfl) rfl ?_
            refine WL.know 130 (.bool true) rfl (congrArg Value.bool (decide_eq_true (by omega))) ?_
            refine WL.ydg rfl (Yd.move rfl) rfl ?_
            refine WL.ydg rfl (Yd.move rfl) rfl ?_
            refine WL.ydg rfl (Yd.neS' rfl rfl) rfl ?_
            refine WL.know 133 (.bool false) rfl (congrArg Value.bool (decide_eq_false (fun h9 => h9 (by rw [wr_off (by omega)])))) ?_
            refine WL.ydg rfl (Yd.move rfl) rfl ?_
            refine WL.ydg rfl (Yd.move rfl) rfl ?_
            refine WL.ydg rfl (Yd.neq rfl rfl) rfl ?_
            refine WL.know 136 (.bool false) rfl (congrArg Value.bool (decide_eq_false (fun h9 => h9 ((backSurf hx2).2 (by omega))))) ?_
            refine WL.ydg rfl (Yd.pickF rfl rfl) rfl ?_
            refine WL.ydg rfl (Yd.pickT rfl rfl) rfl ?_
            refine WL.yd (Yd.pickF rfl rfl) rfl ?_
            refine WL.nil ?_
            exact WP.cutEnd ⟨rfl, rfl, rfl, rfl, rfl, rfl, rfl, rfl, rfl, rfl, rfl, rfl, rfl, rfl, rfl, rfl, rfl, trivial⟩
        · skip
          refine WL.nil (WP.thenC ?_)
          refine WC.condF rfl ?_
          refine WC.skip (WP.thenC (WC.seq (WC.seq (WC.ofFr [(26, _), (25, _), (24, _), (23, _), (22, _), (21, _), (5, _), (6, _), (7, _), (9, _), (11, _), (12, _), (13, _), (14, _), (15, _), (16, _)] ⟨rfl, rfl, rfl, rfl, rfl, rfl, rfl, rfl, rfl, rfl, rfl, rfl, rfl, rfl, rfl, rfl, trivial⟩ (WC.region ?_)))))
          refine WL.ofFr [(22, _), (21, _), (5, _), (12, _), (26, _), (25, _), (24, _), (23, _), (6, _), (7, _), (9, _), (11, _), (13, _), (14, _), (15, _), (16, _)] ⟨rfl, rfl, rfl, rfl, rfl, rfl, rfl, rfl, rfl, rfl, rfl, rfl, rfl, rfl, rfl, rfl, trivial⟩ ?_
          refine WL.cutD 24 4 163 (.bool false) ?_ ?_
          · skip
            refine zym rfl rfl ?_
            refine WL.yd (Yd.eql rfl rfl) rfl ?_
            refine zym rfl rfl ?_
            refine WL.part 142 rfl (fun g142 => ?_) (fun g142 => ?_)
            · try simp only [zq1, zq2, zq3, zq4, zq5, zq6, zq7, zq8] at g142
              refine WL.ydg rfl (Yd.move rfl) rfl ?_
              refine WL.ydg rfl (Yd.neq rfl rfl) rfl ?_
              refine WL.know 144 (.bool false) rfl (congrArg Value.bool (decide_eq_false (fun h9 => h9 ((backFlag hx3).1 (by omega)).2))) ?_
              refine WL.ydg rfl (Yd.move rfl) rfl ?_
              refine WL.ydg rfl (Yd.loadN Tryz.isAgg29 Tryz.sizeOf29 rfl (vs := [_, _, _, _, _]) rfl (RdN.own (k := 2) (n := 5) rfl rfl)) rfl ?_
              refine WL.ydg rfl (Yd.loadN Tryz.isAgg29 Tryz.sizeOf29 rfl (vs := [_, _, _, _, _]) rfl (RdN.own (k := 6) (n := 5) rfl rfl)) rfl ?_
              refine WL.sog rfl (SO.callP Tryz.call29 rfl (fun w hI => sameFlag_g x3 f m13 m2 (readFlag_N _ hx3) (FlagN.of (flagB_iff.1 (wr_ok.1 (by omega)))) D5 hL5 (hR13.ext (hX4.trans hX5 (Nat.le_refl _))) (hR2.ext (((((hX0.trans hX1 (Nat.le_refl _)).trans hX2 (Nat.le_refl _)).trans hX3 (Nat.le_refl _)).trans hX4 (Nat.le_refl _)).trans hX5 (Nat.le_refl _))) _ hI.imm)) rfl ?_
              rintro _ _ _ ⟨rfl, rfl, rfl⟩
              refine WL.know 148 (.bool true) rfl (congrArg Value.bool (decide_eq_true (by rw [((backFlag hx3).1 (by omega)).1]))) ?_
              refine WL.ydg rfl (Yd.not rfl) rfl ?_
              refine WL.ydg rfl (Yd.pickF rfl rfl) rfl ?_
              refine WL.yd (Yd.pickT rfl rfl) rfl ?_
              refine zym rfl rfl ?_
              refine WL.ydg rfl (Yd.move rfl) rfl ?_
              refine WL.ydg rfl (Yd.neq rfl rfl) rfl ?_
              refine WL.know 154 (.bool false) rfl (congrArg Value.bool (decide_eq_false (by omega))) ?_
              refine WL.ydg rfl (Yd.move rfl) rfl ?_
              refine WL.skip rfl rfl ?_
              refine WL.skip rfl rfl ?_
              refine WL.skip rfl rfl ?_
              refine WL.skipU rfl rfl ?_
              refine WL.skipU rfl rfl ?_
              refine WL.skip rfl rfl ?_
              refine WL.ydg rfl (Yd.pickF rfl rfl) rfl ?_
              refine WL.yd (Yd.pickF rfl rfl) rfl ?_
              refine WL.nil ?_
              exact WP.cutEnd ⟨rfl, rfl, rfl, rfl, rfl, rfl, rfl, rfl, rfl, rfl, rfl, rfl, rfl, trivial⟩
            · try simp only [zq1, zq2, zq3, zq4, zq5, zq6, zq7, zq8] at g142
              refine WL.skip rfl rfl ?_
              refine WL.skip rfl rfl ?_
              refine WL.skip rfl rfl ?_
              refine WL.skipU rfl rfl ?_
              refine WL.skipU rfl rfl ?_
              refine WL.skipU rfl rfl ?_
              refine WL.skipU rfl rfl ?_
              refine WL.skip rfl rfl ?_
              refine WL.yd (Yd.pickF rfl rfl) rfl ?_
              refine zym rfl rfl ?_
              refine WL.ydg rfl (Yd.move rfl) rfl ?_
              refine WL.ydg rfl (Yd.neq rfl rfl) rfl ?_
              refine WL.know 154 (.bool true) rfl (congrArg Value.bool (decide_eq_true (by omega))) ?_
              refine WL.ydg rfl (Yd.move rfl) rfl ?_
              refine WL.ydg rfl (Yd.move rfl) rfl ?_
              refine WL.ydg rfl (Yd.neS' rfl rfl) rfl ?_
              refine WL.know 157 (.bool false) rfl (congrArg Value.bool (decide_eq_false (fun h9 => h9 (by rw [wr_off (by omega)])))) ?_
              refine WL.ydg rfl (Yd.move rfl) rfl ?_
              refine WL.ydg rfl (Yd.move rfl) rfl ?_
              refine WL.ydg rfl (Yd.neq rfl rfl) rfl ?_
              refine WL.know 160 (.bool false) rfl (congrArg Value.bool (decide_eq_false (fun h9 => h9 ((backFlag hx3).2 (by omega))))) ?_
              refine WL.ydg rfl (Yd.pickF rfl rfl) rfl ?_
              refine WL.ydg rfl (Yd.pickT rfl rfl) rfl ?_
              refine WL.yd (Yd.pickF rfl rfl) rfl ?_
              refine WL.nil ?_
              exact WP.cutEnd ⟨rfl, rfl, rfl, rfl, rfl, rfl, rfl, rfl, rfl, rfl, rfl, rfl, rfl, trivial⟩
          · skip
            refine WL.nil (WP.thenC ?_)
            refine WC.condF rfl ?_
            refine WC.skip (WP.thenC (WC.seq (WC.seq (WC.ofFr [(26, _), (25, _), (24, _), (23, _), (6, _), (7, _), (9, _), (11, _), (13, _), (14, _), (15, _), (16, _)] ⟨rfl, rfl, rfl, rfl, rfl, rfl, rfl, rfl, rfl, rfl, rfl, rfl, trivial⟩ (WC.region ?_)))))
            refine WL.ofFr [(24, _), (23, _), (6, _), (14, _), (26, _), (25, _), (7, _), (9, _), (11, _), (13, _), (15, _), (16, _)] ⟨rfl, rfl, rfl, rfl, rfl, rfl, rfl, rfl, rfl, rfl, rfl, rfl, trivial⟩ ?_
            refine WL.cutD 24 4 187 (.bool false) ?_ ?_
            · skip
              refine zym rfl rfl ?_
              refine WL.yd (Yd.eql rfl rfl) rfl ?_
              refine zym rfl rfl ?_
              refine WL.part 166 rfl (fun g166 => ?_) (fun g166 => ?_)
              · try simp only [zq1, zq2, zq3, zq4, zq5, zq6, zq7, zq8] at g166
                refine WL.ydg rfl (Yd.move rfl) rfl ?_
                refine WL.ydg rfl (Yd.neq rfl rfl) rfl ?_
                refine WL.know 168 (.bool false) rfl (congrArg Value.bool (decide_eq_false (fun h9 => h9 ((backBoats hx4).1 (by omega)).2))) ?_
                refine WL.ydg rfl (Yd.move rfl) rfl ?_
                refine WL.ydg rfl (Yd.loadN Tryz.isAgg32 Tryz.sizeOf32 rfl (vs := [_, _, _, _, _]) rfl (RdN.own (k := 1) (n := 5) rfl rfl)) rfl ?_
                refine WL.ydg rfl (Yd.loadN Tryz.isAgg32 Tryz.sizeOf32 rfl (vs := [_, _, _, _, _]) rfl (RdN.own (k := 5) (n := 5) rfl rfl)) rfl ?_
                refine WL.sog rfl (SO.callP Tryz.call30 rfl (fun w hI => sameBoats_g x4 b m14 m3 (readBoats_N _ hx4) (BoatsN.of (boatsB_iff.1 (wr_ok.1 (by omega)))) D5 hL5 (hR14.ext hX5) (hR3.ext (((((hX0.trans hX1 (Nat.le_refl _)).trans hX2 (Nat.le_refl _)).trans hX3 (Nat.le_refl _)).trans hX4 (Nat.le_refl _)).trans hX5 (Nat.le_refl _))) _ hI.imm)) rfl ?_
                rintro _ _ _ ⟨rfl, rfl, rfl⟩
                refine WL.know 172 (.bool true) rfl (congrArg Value.bool (decide_eq_true (by rw [((backBoats hx4).1 (by omega)).1]))) ?_
                refine WL.ydg rfl (Yd.not rfl) rfl ?_
                refine WL.ydg rfl (Yd.pickF rfl rfl) rfl ?_
                refine WL.yd (Yd.pickT rfl rfl) rfl ?_
                refine zym rfl rfl ?_
                refine WL.ydg rfl (Yd.move rfl) rfl ?_
                refine WL.ydg rfl (Yd.neq rfl rfl) rfl ?_
                refine WL.know 178 (.bool false) rfl (congrArg Value.bool (decide_eq_false (by omega))) ?_
                refine WL.ydg rfl (Yd.move rfl) rfl ?_
                refine WL.skip rfl rfl ?_
                refine WL.skip rfl rfl ?_
                refine WL.skip rfl rfl ?_
                refine WL.skipU rfl rfl ?_
                refine WL.skipU rfl rfl ?_
                refine WL.skip rfl rfl ?_
                refine WL.ydg rfl (Yd.pickF rfl rfl) rfl ?_
                refine WL.yd (Yd.pickF rfl rfl) rfl ?_
                refine WL.nil ?_
                exact WP.cutEnd ⟨rfl, rfl, rfl, rfl, rfl, rfl, rfl, rfl, rfl, trivial⟩
              · try simp only [zq1, zq2, zq3, zq4, zq5, zq6, zq7, zq8] at g166
                refine WL.skip rfl rfl ?_
                refine WL.skip rfl rfl ?_
                refine WL.skip rfl rfl ?_
                refine WL.skipU rfl rfl ?_
                refine WL.skipU rfl rfl ?_
                refine WL.skipU rfl rfl ?_
                refine WL.skipU rfl rfl ?_
                refine WL.skip rfl rfl ?_
                refine WL.yd (Yd.pickF rfl rfl) rfl ?_
                refine zym rfl rfl ?_
                refine WL.ydg rfl (Yd.move rfl) rfl ?_
                refine WL.ydg rfl (Yd.neq rfl rfl) rfl ?_
                refine WL.know 178 (.bool true) rfl (congrArg Value.bool (decide_eq_true (by omega))) ?_
                refine WL.ydg rfl (Yd.move rfl) rfl ?_
                refine WL.ydg rfl (Yd.move rfl) rfl ?_
                refine WL.ydg rfl (Yd.neS' rfl rfl) rfl ?_
                refine WL.know 181 (.bool false) rfl (congrArg Value.bool (decide_eq_false (fun h9 => h9 (by rw [wr_off (by omega)])))) ?_
                refine WL.ydg rfl (Yd.move rfl) rfl ?_
                refine WL.ydg rfl (Yd.move rfl) rfl ?_
                refine WL.ydg rfl (Yd.neq rfl rfl) rfl ?_
                refine WL.know 184 (.bool false) rfl (congrArg Value.bool (decide_eq_false (fun h9 => h9 ((backBoats hx4).2 (by omega))))) ?_
                refine WL.ydg rfl (Yd.pickF rfl rfl) rfl ?_
                refine WL.ydg rfl (Yd.pickT rfl rfl) rfl ?_
                refine WL.yd (Yd.pickF rfl rfl) rfl ?_
                refine WL.nil ?_
                exact WP.cutEnd ⟨rfl, rfl, rfl, rfl, rfl, rfl, rfl, rfl, rfl, trivial⟩
            · skip
              refine WL.nil (WP.thenC ?_)
              refine WC.condF rfl ?_
              refine WC.skip (WP.thenC (WC.seq (WC.seq (WC.ofFr [(26, _), (25, _), (7, _), (9, _), (11, _), (13, _), (15, _), (16, _)] ⟨rfl, rfl, rfl, rfl, rfl, rfl, rfl, rfl, trivial⟩ (WC.region ?_)))))
              refine WL.ofFr [(26, _), (25, _), (7, _), (16, _), (9, _), (11, _), (13, _), (15, _)] ⟨rfl, rfl, rfl, rfl, rfl, rfl, rfl, rfl, trivial⟩ ?_
              refine WL.cutD 25 4 212 (.bool false) ?_ ?_
              · skip
                refine zym rfl rfl ?_
                refine WL.yd (Yd.eql rfl rfl) rfl ?_
                refine zym rfl rfl ?_
                refine WL.part 190 rfl (fun g190 => ?_) (fun g190 => ?_)
                · try simp only [zq1, zq2, zq3, zq4, zq5, zq6, zq7, zq8] at g190
                  refine WL.ydg rfl (Yd.move rfl) rfl ?_
                  refine WL.ydg rfl (Yd.neq rfl rfl) rfl ?_
                  refine WL.know 192 (.bool false) rfl (congrArg Value.bool (decide_eq_false (fun h9 => h9 ((backHors h).1 (by omega)).2))) ?_
                  refine WL.ydg rfl (Yd.move rfl) rfl ?_
                  refine WL.ydg rfl (Yd.loadN Tryz.isAgg35 Tryz.sizeOf35 rfl (vs := [_, _]) rfl (RdN.own (k := 0) (n := 2) rfl rfl)) rfl ?_
                  refine WL.ydg rfl (Yd.loadN Tryz.isAgg35 Tryz.sizeOf35 rfl (vs := [_, _]) rfl (RdN.own (k := 4) (n := 2) rfl rfl)) rfl ?_
                  refine WL.sog rfl (SO.callP Tryz.call27 rfl (fun w hI => sameHors_g _ h m15 m4 D5 hR15 (hR4.ext (((((hX0.trans hX1 (Nat.le_refl _)).trans hX2 (Nat.le_refl _)).trans hX3 (Nat.le_refl _)).trans hX4 (Nat.le_refl _)).trans hX5 (Nat.le_refl _))) _ hI.imm)) rfl ?_
                  rintro _ _ _ ⟨rfl, rfl, rfl⟩
                  refine WL.know 196 (.bool true) rfl (congrArg Value.bool (decide_eq_true ((backHors h).1 (by omega)).1)) ?_
                  refine WL.ydg rfl (Yd.not rfl) rfl ?_
                  refine WL.ydg rfl (Yd.pickF rfl rfl) rfl ?_
                  refine WL.yd (Yd.pickT rfl rfl) rfl ?_
                  refine zym rfl rfl ?_
                  refine WL.ydg rfl (Yd.move rfl) rfl ?_
                  refine WL.ydg rfl (Yd.neq rfl rfl) rfl ?_
                  refine WL.know 202 (.bool false) rfl (congrArg Value.bool (decide_eq_false (by omega))) ?_
                  refine WL.ydg rfl (Yd.move rfl) rfl ?_
                  refine WL.skip rfl rfl ?_
                  refine WL.skip rfl rfl ?_
                  refine WL.skip rfl rfl ?_
                  refine WL.skip rfl rfl ?_
                  refine WL.skipU rfl rfl ?_
                  refine WL.skipU rfl rfl ?_
                  refine WL.skip rfl rfl ?_
                  refine WL.ydg rfl (Yd.pickF rfl rfl) rfl ?_
                  refine WL.yd (Yd.pickF rfl rfl) rfl ?_
                  refine WL.nil ?_
                  exact WP.cutEnd ⟨rfl, rfl, rfl, rfl, rfl, trivial⟩
                · try simp only [zq1, zq2, zq3, zq4, zq5, zq6, zq7, zq8] at g190
                  refine WL.skip rfl rfl ?_
                  refine WL.skip rfl rfl ?_
                  refine WL.skip rfl rfl ?_
                  refine WL.skipU rfl rfl ?_
                  refine WL.skipU rfl rfl ?_
                  refine WL.skipU rfl rfl ?_
                  refine WL.skipU rfl rfl ?_
                  refine WL.skip rfl rfl ?_
                  refine WL.yd (Yd.pickF rfl rfl) rfl ?_
                  refine zym rfl rfl ?_
                  refine WL.ydg rfl (Yd.move rfl) rfl ?_
                  refine WL.ydg rfl (Yd.neq rfl rfl) rfl ?_
                  refine WL.know 202 (.bool true) rfl (congrArg Value.bool (decide_eq_true (by omega))) ?_
                  refine WL.ydg rfl (Yd.move rfl) rfl ?_
                  refine WL.ydg rfl (Yd.move rfl) rfl ?_
                  refine WL.ydg rfl (Yd.lenS rfl Tryz.underlying43 rfl) rfl ?_
                  refine WL.ydg rfl (Yd.neq rfl rfl) rfl ?_
                  refine WL.know 206 (.bool false) rfl (congrArg Value.bool (decide_eq_false (fun h9 => h9 (by rw [show (wrH h).1 = [] by rw [wrh_off (by omega)]] at hlen2; simp at hlen2; omega)))) ?_
                  refine WL.ydg rfl (Yd.move rfl) rfl ?_
                  refine WL.ydg rfl (Yd.move rfl) rfl ?_
                  refine WL.ydg rfl (Yd.neq rfl rfl) rfl ?_
                  refine WL.know 209 (.bool false) rfl (congrArg Value.bool (decide_eq_false (fun h9 => h9 ((backHors h).2 (by omega))))) ?_
                  refine WL.ydg rfl (Yd.pickF rfl rfl) rfl ?_
                  refine WL.ydg rfl (Yd.pickT rfl rfl) rfl ?_
                  refine WL.yd (Yd.pickF rfl rfl) rfl ?_
                  refine WL.nil ?_
                  exact WP.cutEnd ⟨rfl, rfl, rfl, rfl, rfl, trivial⟩
              · skip
                refine WL.nil (WP.thenC ?_)
                refine WC.condF rfl ?_
                refine WC.skip (WP.thenC (WC.seq (WC.ofFr [(9, _), (11, _), (13, _), (15, _)] ⟨rfl, rfl, rfl, rfl, trivial⟩ (WC.region ?_))))
                refine zym rfl rfl ?_
                refine WL.yd (Yd.lenStr rfl Tryz.underlying9 rfl) rfl ?_
                refine zym rfl rfl ?_
                refine WL.yd (Yd.lenStr rfl Tryz.underlying9 rfl) rfl ?_
                refine zym rfl rfl ?_
                refine WL.yd (Yd.lenStr rfl Tryz.underlying9 rfl) rfl ?_
                refine WL.yd (Yd.max3 rfl rfl rfl) rfl ?_
                refine WL.yd (Yd.leq rfl rfl) rfl ?_
                refine WL.know 220 (.bool true) rfl (congrArg Value.bool (decide_eq_true (by have := surf_lim s; have := flag_lim f; have := boats_lim b; omega))) ?_
                refine zym rfl rfl ?_
                refine WL.ydg rfl (Yd.move rfl) rfl ?_
                refine WL.ydg rfl (Yd.lenS rfl Tryz.underlying43 rfl) rfl ?_
                refine WL.ydg rfl (Yd.leq rfl rfl) rfl ?_
                refine WL.know 224 (.bool true) rfl (congrArg Value.bool (decide_eq_true (by have := hors_lim h; omega))) ?_
                refine WL.yd (Yd.pickT rfl rfl) rfl ?_
                refine zym rfl rfl ?_
                refine WL.sog rfl (SO.callP Tryz.call13 rfl (fun w hI => awake_g D5 hL5 _ hI.imm)) rfl ?_
                rintro _ _ _ ⟨rfl, rfl, rfl⟩
                refine WL.yd (Yd.pickT rfl rfl) rfl ?_
                refine zya rfl rfl ?_
                refine WL.nil (WP.thenC (WC.ret ?_))
                refine WP.ret1 rfl rfl Tryz.results9 (RV.tmp rfl) (fun w hI => ⟨rfl, hI.keep⟩)

end Go.Proofs.YtaebnllfmkcpgaaGreatDoor
