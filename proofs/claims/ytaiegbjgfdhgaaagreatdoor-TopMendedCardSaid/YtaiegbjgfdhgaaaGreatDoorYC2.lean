/- TopMended returns true. No condition of its own; the listed variables are tied to the program's text (a tied card). -/
import Derived.Test.YtaiegbjgfdhgaaaGreatDoorTie
import Derived.Test.YtaiegbjgfdhgaaaGreatDoorCards
import Derived.Test.YtaiegbjgfdhgaaaGreatDoorXG8
import Derived.Test.YtaiegbjgfdhgaaaGreatDoorXG9
import Derived.Test.YtaiegbjgfdhgaaaGreatDoorXG2
set_option linter.all false
set_option maxRecDepth 100000
set_option maxHeartbeats 4000000
attribute [local irreducible] Go.W.WL Go.W.WLF Go.W.WC Go.W.WCF Go.W.WP Go.W.WA Go.W.WQ Go.W.WH Go.W.WHo Go.W.WCn Go.W.Yd Go.W.Qt Go.W.SO Go.Code.wp Go.Code.wpIn
namespace Go.Proofs.YtaiegbjgfdhgaaaGreatDoor
open Go.W Go.Bk Go.ChangeShapes Go.WideShapes Go.ChangeAt Go.RowKit
set_option maxRecDepth 100000 in
theorem topMended_lifted (os : Os) (started : os.Started) (H : Type) (enc : TypeId × Value → H) :
    ReturnsInHanded {} Tryz.checked os 3 .any (fun w args => (Rows.topMendedSpec.pre enc Tryz.prog Tryz.f3 Rows.topMendedRow.domain false w args ∧ laidMetH Tryz.prog Rows.topMendedRow.laid w) ∧ sizedMet enc Tryz.prog Tryz.f3 (OpenSpec.ofChange Rows.topMendedSpec) false w args) (Rows.topMendedSpec.post enc Tryz.prog Tryz.f3 false true false false) := by
  refine wy (C := Tryz.checked) (X := fun w _ => laidMetH Tryz.prog zpW w) (fun _ _ _ hh h => h.of_heap hh) qv started (by kernel_rfl) Tryz.func3
    (ChangeSpec.witness_shaped (enc := enc) (C := Tryz.checked) (os := os) (X := fun w _ => laidMetH Tryz.prog zpW w) false (World.laidAll Tryz.prog os zpW) #[.agg #[it 0, .slice none 0 0], .int .u16 0, .int .u8 0, .int .u8 0, .bool false] 8 (World.laidAll_os _ _ _)
      (zpu os _) (by kernel_rfl) (by kernel_rfl) (by kernel_rfl) (zrN os _)) ?_
  intro W base args ds gs before hval0 hW hS hL;have hval : ∀ (j : Nat) t v, Tryz.f3.params[j]? = some t → args[j]? = some v → Value.okWide Tryz.prog W .any base t v := hval0;have hW' := hW;obtain ⟨p, q, hA0, hV, rfl, hfz, hnd⟩ := hW;have hA : DataW.TrodAll enc Tryz.prog W 0 (fun _ => true) true Tryz.f3.params.toList args.toList ds p := hA0;rw [Tryz.params3] at hA hval;obtain ⟨rfl, rfl⟩ := trodVars_none hV;obtain ⟨v0, v1, v2, v3, v4, d0, d1, d2, d3, d4, p0, p1, p2, p3, p4, rfl, rfl, rfl, h0, h1, h2, h3, h4⟩ := Y5 hA;obtain ⟨s0, m0, rfl, r0⟩ := zq2 (hval 0 24 v0 rfl rfl) h0;obtain ⟨z1, y1, rfl⟩ := ztN (hval 1 25 v1 rfl rfl) h1;obtain ⟨b2, rfl⟩ := x5 (hval 2 5 v2 rfl rfl) h2;obtain ⟨b3, rfl⟩ := x5 (hval 3 5 v3 rfl rfl) h3;obtain ⟨b4, rfl⟩ := zvV (hval 4 4 v4 rfl rfl) h4;refine (zq9 s0 m0 z1 y1 b2 b3 b4 (wY W) (zrP hS hL).1 (zrP hS hL).2 r0 W (heapI_holds W)).mono fun e W' ⟨he, hk⟩ => ?_;exact ⟨_, he, qq qp hW' rfl rfl rfl rfl rfl Tryz.underlying4 (by kernel_rfl) hk⟩
theorem zand {a b : Bool} (h : a = true) (k : b = true) : (a && b) = true := by rw [h, k]; rfl
set_option maxHeartbeats 20000000 in
theorem topMended_closed : joinedFacts Tryz.prog 3 Tryz.f3 Rows.topMendedSpec Rows.topMendedRow = true := by
  unfold joinedFacts
  repeat' with_reducible refine zand ?_ ?_
  all_goals as_aux_lemma => kernel_rfl
set_option maxHeartbeats 20000000 in
theorem topMended_row : Rows.TopMendedSaid :=
  OpenClaim.holds_of_wide 3 Tryz.f3 rfl rfl rfl rfl rfl rfl rfl ⟨rfl, rfl, rfl, rfl, rfl⟩ rfl rfl rfl rfl rfl (by kernel_rfl) Tryz.func3 topMended_closed
    (of_decide_eq_true (by kernel_rfl)) (by unfold Func.isWrapper; first | (rw [if_pos (by decide +kernel)]; kernel_rfl) | (rw [if_neg (by decide +kernel)]; exact ⟨rfl, rfl⟩))
    (fun os started H enc _ => topMended_lifted os started H enc)
set_option maxHeartbeats 20000000 in
theorem topMended_holds : Rows.TopMendedCardSaid :=
  Claim7.holds_tied_plain_at .later [] [.data, .data, .data, .data, .sentinel, .sentinel, .pinned] true (true, "691c931bc55745fca5b0103f10ea5a323c1aa8d2105a2305f728c08ecf62ad89") true topMended_row (fun _ h => by cases h) (by as_aux_lemma => kernel_rfl) (fun _ h => by cases h) topMended_row_tie rfl ⟨rfl, rfl⟩ (by as_aux_lemma => kernel_rfl) rfl
    (fun f fn hf hfn => by
      obtain rfl : f = 3 := Option.some.inj ((show Tryz.prog.funcNamed "dipworks/dipworkstop.TopMended" = some 3 by as_aux_lemma => kernel_rfl).symm.trans hf) |>.symm;obtain rfl : fn = Tryz.f3 := (Option.some.inj (Tryz.func3.symm.trans hfn)).symm
      exact ⟨by kernel_rfl, fun j t ht => by
        rw [Tryz.params3] at ht;have hm : t ∈ ([24, 25, 5, 5, 4] : List TypeId) := by simpa using Array.mem_of_getElem? ht
        have hall : (([24, 25, 5, 5, 4] : List TypeId).all fun u => !Tryz.prog.wantsStandIn u) = true := by kernel_rfl
        exact (show Tryz.prog.wantsStandIn t = false by simpa using List.all_eq_true.1 hall t hm)⟩)
    (by as_aux_lemma => kernel_rfl)
end Go.Proofs.YtaiegbjgfdhgaaaGreatDoor
