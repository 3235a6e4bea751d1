/- WicketStill returns true. No condition of its own; the listed variables are tied to the program's text (a tied card). -/
import Derived.Test.YtejgofaeafphjaaGreatDoorTie
import Derived.Test.YtejgofaeafphjaaGreatDoorCards
import Derived.Test.YtejgofaeafphjaaGreatDoorXG32
import Derived.Test.YtejgofaeafphjaaGreatDoorXG34
import Derived.Test.YtejgofaeafphjaaGreatDoorXG35
import Derived.Test.YtejgofaeafphjaaGreatDoorXG7
set_option linter.all false
set_option maxRecDepth 100000
set_option maxHeartbeats 4000000
attribute [local irreducible] Go.W.WL Go.W.WLF Go.W.WC Go.W.WCF Go.W.WP Go.W.WA Go.W.WQ Go.W.WH Go.W.WHo Go.W.WCn Go.W.Yd Go.W.Qt Go.W.SO Go.Code.wp Go.Code.wpIn
namespace Go.Proofs.YtejgofaeafphjaaGreatDoor
open Go.W Go.Ti Go.ChangeShapes Go.WideShapes Go.ChangeAt Go.RowKit
set_option maxRecDepth 100000 in
theorem wicketStill_lifted (os : Os) (started : os.Started) (H : Type) (enc : TypeId × Value → H) :
    ReturnsInHanded {} Tryz.checked os 11 .any (fun w args => (Rows.wicketStillSpec.pre enc Tryz.prog Tryz.f11 Rows.wicketStillRow.domain false w args ∧ laidMetH Tryz.prog Rows.wicketStillRow.laid w) ∧ sizedMet enc Tryz.prog Tryz.f11 (OpenSpec.ofChange Rows.wicketStillSpec) false w args) (Rows.wicketStillSpec.post enc Tryz.prog Tryz.f11 false true false false) := by
  refine wy (C := Tryz.checked) (X := fun w _ => laidMetH Tryz.prog vG w) (fun _ _ _ hh h => h.of_heap hh) qv started (by kernel_rfl) Tryz.func11
    (ChangeSpec.witness_shaped (enc := enc) (C := Tryz.checked) (os := os) (X := fun w _ => laidMetH Tryz.prog vG w) false (World.laidAll Tryz.prog os vG) #[.agg #[it 0, it 0, it 0, it 0, .slice none 0 0, .slice none 0 0], .slice none 0 0, .int .u8 0] 8 (World.laidAll_os _ _ _)
      (wA os _) (by kernel_rfl) (by kernel_rfl) (by kernel_rfl) (qo os _)) ?_
  intro W base args ds gs before hval0 hW hS hL;have hval : ∀ (j : Nat) t v, Tryz.f11.params[j]? = some t → args[j]? = some v → Value.okWide Tryz.prog W .any base t v := hval0;have hW' := hW;obtain ⟨p, q, hA0, hV, rfl, hfz, hnd⟩ := hW;have hA : DataW.TrodAll enc Tryz.prog W 0 (fun _ => true) true Tryz.f11.params.toList args.toList ds p := hA0;rw [Tryz.params11] at hA hval;obtain ⟨rfl, rfl⟩ := trodVars_none hV;obtain ⟨v0, v1, v2, d0, d1, d2, p0, p1, p2, rfl, rfl, rfl, h0, h1, h2⟩ := trodAll_three hA;obtain ⟨x0, m0, s0, rfl, r0⟩ := uf (hval 0 49 v0 rfl rfl) h0;obtain ⟨l1, a1, n1, c1, rfl, r1, q1, k1⟩ := zlH (hval 1 37 v1 rfl rfl) h1;obtain ⟨b2, rfl, z2⟩ := x5 (hval 2 5 v2 rfl rfl) h2;refine (zmg x0 m0 s0 l1 a1 n1 c1 (wY W) (kA hS hL) W r0 r1 q1 (heapI_holds W) k1 b2 z2).mono fun e W' ⟨he, hk⟩ => ?_;exact ⟨_, he, qq qp hW' rfl rfl rfl rfl rfl Tryz.underlying4 (by kernel_rfl) hk⟩
theorem zand {a b : Bool} (h : a = true) (k : b = true) : (a && b) = true := by rw [h, k]; rfl
set_option maxHeartbeats 20000000 in
theorem wicketStill_closed : joinedFacts Tryz.prog 11 Tryz.f11 Rows.wicketStillSpec Rows.wicketStillRow = true := by
  unfold joinedFacts
  repeat' with_reducible refine zand ?_ ?_
  all_goals as_aux_lemma => kernel_rfl
set_option maxHeartbeats 20000000 in
theorem wicketStill_row : Rows.WicketStillSaid :=
  OpenClaim.holds_of_wide 11 Tryz.f11 rfl rfl rfl rfl rfl rfl rfl ⟨rfl, rfl, rfl, rfl, rfl⟩ rfl rfl rfl rfl rfl (by kernel_rfl) Tryz.func11 wicketStill_closed
    (of_decide_eq_true (by kernel_rfl)) (by unfold Func.isWrapper; first | (rw [if_pos (by decide +kernel)]; kernel_rfl) | (rw [if_neg (by decide +kernel)]; exact ⟨rfl, rfl⟩))
    (fun os started H enc _ => wicketStill_lifted os started H enc)
set_option maxHeartbeats 20000000 in
theorem wicketStill_holds : Rows.WicketStillCardSaid :=
  Claim7.holds_tied_plain_at .later [] [.data, .data, .data, .data, .data, .sentinel, .sentinel, .data, .pinned] true (true, "87aa966b43e40a09a979d285ef6680c333f30403940709867cc227071fdc79bf") true wicketStill_row (fun _ h => by cases h) (by as_aux_lemma => kernel_rfl) (fun _ h => by cases h) wicketStill_row_tie rfl ⟨rfl, rfl⟩ (by as_aux_lemma => kernel_rfl) rfl
    (fun f fn hf hfn => by
      obtain rfl : f = 11 := Option.some.inj ((show Tryz.prog.funcNamed "dipworks/dipworkslaw15.WicketStill" = some 11 by as_aux_lemma => kernel_rfl).symm.trans hf) |>.symm;obtain rfl : fn = Tryz.f11 := (Option.some.inj (Tryz.func11.symm.trans hfn)).symm
      exact ⟨by kernel_rfl, fun j t ht => by
        rw [Tryz.params11] at ht;have hm : t ∈ ([49, 37, 5] : List TypeId) := by simpa using Array.mem_of_getElem? ht
        have hall : (([49, 37, 5] : List TypeId).all fun u => !Tryz.prog.wantsStandIn u) = true := by kernel_rfl
        exact (show Tryz.prog.wantsStandIn t = false by simpa using List.all_eq_true.1 hall t hm)⟩)
    (by as_aux_lemma => kernel_rfl)
end Go.Proofs.YtejgofaeafphjaaGreatDoor
