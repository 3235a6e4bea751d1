/- TopSeason returns true. No condition of its own; the listed variables are tied to the program's text (a tied card). -/
import Derived.Test.YtejgofaeafphjaaGreatDoorTie
import Derived.Test.YtejgofaeafphjaaGreatDoorCards
import Derived.Test.YtejgofaeafphjaaGreatDoorXG8
import Derived.Test.YtejgofaeafphjaaGreatDoorXG9
import Derived.Test.YtejgofaeafphjaaGreatDoorXG2
set_option linter.all false
set_option maxRecDepth 100000
set_option maxHeartbeats 4000000
attribute [local irreducible] Go.W.WL Go.W.WLF Go.W.WC Go.W.WCF Go.W.WP Go.W.WA Go.W.WQ Go.W.WH Go.W.WHo Go.W.WCn Go.W.Yd Go.W.Qt Go.W.SO Go.Code.wp Go.Code.wpIn
namespace Go.Proofs.YtejgofaeafphjaaGreatDoor
open Go.W Go.Ti Go.ChangeShapes Go.WideShapes Go.ChangeAt Go.RowKit
set_option maxRecDepth 100000 in
theorem topSeason_lifted (os : Os) (started : os.Started) (H : Type) (enc : TypeId × Value → H) :
    ReturnsInHanded {} Tryz.checked os 3 .any (fun w args => (Rows.topSeasonSpec.pre enc Tryz.prog Tryz.f3 Rows.topSeasonRow.domain false w args ∧ laidMetH Tryz.prog Rows.topSeasonRow.laid w) ∧ sizedMet enc Tryz.prog Tryz.f3 (OpenSpec.ofChange Rows.topSeasonSpec) false w args) (Rows.topSeasonSpec.post enc Tryz.prog Tryz.f3 false true false false) := by
  refine wy (C := Tryz.checked) (X := fun w _ => laidMetH Tryz.prog vG w) (fun _ _ _ hh h => h.of_heap hh) qv started (by kernel_rfl) Tryz.func3
    (ChangeSpec.witness_shaped (enc := enc) (C := Tryz.checked) (os := os) (X := fun w _ => laidMetH Tryz.prog vG w) false (World.laidAll Tryz.prog os vG) #[.agg #[it 0, .slice none 0 0, it 0, it 0, it 0], .agg #[.slice none 0 0, .slice none 0 0, .slice none 0 0], .slice none 0 0, .int .u8 0, .int .u8 0] 8 (World.laidAll_os _ _ _)
      (wA os _) (by kernel_rfl) (by kernel_rfl) (by kernel_rfl) (qo os _)) ?_
  intro W base args ds gs before hval0 hW hS hL;have hval : ∀ (j : Nat) t v, Tryz.f3.params[j]? = some t → args[j]? = some v → Value.okWide Tryz.prog W .any base t v := hval0;have hW' := hW;obtain ⟨p, q, hA0, hV, rfl, hfz, hnd⟩ := hW;have hA : DataW.TrodAll enc Tryz.prog W 0 (fun _ => true) true Tryz.f3.params.toList args.toList ds p := hA0;rw [Tryz.params3] at hA hval;obtain ⟨rfl, rfl⟩ := trodVars_none hV;obtain ⟨v0, v1, v2, v3, v4, d0, d1, d2, d3, d4, p0, p1, p2, p3, p4, rfl, rfl, rfl, h0, h1, h2, h3, h4⟩ := Y5 hA;obtain ⟨X0, t0, rfl, r0, n0, c0⟩ := zmT (hval 0 26 v0 rfl rfl) h0;obtain ⟨T1, m1, s1, l1, rfl, r1, q1, u1, x1, y1, z1, c1⟩ := zmS (hval 1 31 v1 rfl rfl) h1;obtain ⟨k2, b2, rfl, r2, n2⟩ := zmR (hval 2 32 v2 rfl rfl) h2;obtain ⟨b3, rfl, z3⟩ := x5 (hval 3 5 v3 rfl rfl) h3;obtain ⟨b4, rfl, z4⟩ := x5 (hval 4 5 v4 rfl rfl) h4;refine (zni X0 T1 k2 t0 m1 s1 l1 b2 (wY W) (kA hS hL) W r0 r1 q1 u1 r2 ⟨n0, x1, y1, z1, n2⟩ ⟨c0, c1⟩ (heapI_holds W) b3 z3 b4 z4).mono fun e W' ⟨he, hk⟩ => ?_;exact ⟨_, he, qq qp hW' rfl rfl rfl rfl rfl Tryz.underlying4 (by kernel_rfl) hk⟩
theorem zand {a b : Bool} (h : a = true) (k : b = true) : (a && b) = true := by rw [h, k]; rfl
set_option maxHeartbeats 20000000 in
theorem topSeason_closed : joinedFacts Tryz.prog 3 Tryz.f3 Rows.topSeasonSpec Rows.topSeasonRow = true := by
  unfold joinedFacts
  repeat' with_reducible refine zand ?_ ?_
  all_goals as_aux_lemma => kernel_rfl
set_option maxHeartbeats 20000000 in
theorem topSeason_row : Rows.TopSeasonSaid :=
  OpenClaim.holds_of_wide 3 Tryz.f3 rfl rfl rfl rfl rfl rfl rfl ⟨rfl, rfl, rfl, rfl, rfl⟩ rfl rfl rfl rfl rfl (by kernel_rfl) Tryz.func3 topSeason_closed
    (of_decide_eq_true (by kernel_rfl)) (by unfold Func.isWrapper; first | (rw [if_pos (by decide +kernel)]; kernel_rfl) | (rw [if_neg (by decide +kernel)]; exact ⟨rfl, rfl⟩))
    (fun os started H enc _ => topSeason_lifted os started H enc)
set_option maxHeartbeats 20000000 in
theorem topSeason_holds : Rows.TopSeasonCardSaid :=
  Claim7.holds_tied_plain_at .later [] [.data, .data, .data, .data, .data, .sentinel, .sentinel, .data, .pinned] true (true, "87aa966b43e40a09a979d285ef6680c333f30403940709867cc227071fdc79bf") true topSeason_row (fun _ h => by cases h) (by as_aux_lemma => kernel_rfl) (fun _ h => by cases h) topSeason_row_tie rfl ⟨rfl, rfl⟩ (by as_aux_lemma => kernel_rfl) rfl
    (fun f fn hf hfn => by
      obtain rfl : f = 3 := Option.some.inj ((show Tryz.prog.funcNamed "dipworks/dipworkstop.TopSeason" = some 3 by as_aux_lemma => kernel_rfl).symm.trans hf) |>.symm;obtain rfl : fn = Tryz.f3 := (Option.some.inj (Tryz.func3.symm.trans hfn)).symm
      exact ⟨by kernel_rfl, fun j t ht => by
        rw [Tryz.params3] at ht;have hm : t ∈ ([26, 31, 32, 5, 5] : List TypeId) := by simpa using Array.mem_of_getElem? ht
        have hall : (([26, 31, 32, 5, 5] : List TypeId).all fun u => !Tryz.prog.wantsStandIn u) = true := by kernel_rfl
        exact (show Tryz.prog.wantsStandIn t = false by simpa using List.all_eq_true.1 hall t hm)⟩)
    (by as_aux_lemma => kernel_rfl)
end Go.Proofs.YtejgofaeafphjaaGreatDoor
