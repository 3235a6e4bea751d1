/- WicketTickets returns true. No condition of its own; the listed variables are tied to the program's text (a tied card). -/
import Derived.Test.YtejgofaeafphjaaGreatDoorTie
import Derived.Test.YtejgofaeafphjaaGreatDoorCards
import Derived.Test.YtejgofaeafphjaaGreatDoorXG45
import Derived.Test.YtejgofaeafphjaaGreatDoorXG38
import Derived.Test.YtejgofaeafphjaaGreatDoorXG34
import Derived.Test.YtejgofaeafphjaaGreatDoorXG7
set_option linter.all false
set_option maxRecDepth 100000
set_option maxHeartbeats 4000000
attribute [local irreducible] Go.W.WL Go.W.WLF Go.W.WC Go.W.WCF Go.W.WP Go.W.WA Go.W.WQ Go.W.WH Go.W.WHo Go.W.WCn Go.W.Yd Go.W.Qt Go.W.SO Go.Code.wp Go.Code.wpIn
namespace Go.Proofs.YtejgofaeafphjaaGreatDoor
open Go.W Go.Ti Go.ChangeShapes Go.WideShapes Go.ChangeAt Go.RowKit
set_option maxRecDepth 100000 in
theorem wicketTickets_lifted (os : Os) (started : os.Started) (H : Type) (enc : TypeId × Value → H) :
    ReturnsInHanded {} Tryz.checked os 8 .any (fun w args => (Rows.wicketTicketsSpec.pre enc Tryz.prog Tryz.f8 Rows.wicketTicketsRow.domain false w args ∧ laidMetH Tryz.prog Rows.wicketTicketsRow.laid w) ∧ sizedMet enc Tryz.prog Tryz.f8 (OpenSpec.ofChange Rows.wicketTicketsSpec) false w args) (Rows.wicketTicketsSpec.post enc Tryz.prog Tryz.f8 false true false false) := by
  refine wy (C := Tryz.checked) (X := fun w _ => laidMetH Tryz.prog vG w) (fun _ _ _ hh h => h.of_heap hh) qv started (by kernel_rfl) Tryz.func8
    (ChangeSpec.witness_shaped (enc := enc) (C := Tryz.checked) (os := os) (X := fun w _ => laidMetH Tryz.prog vG w) false (World.laidAll Tryz.prog os vG) #[.agg #[it 0, it 0, it 0, it 0, .slice none 0 0, .slice none 0 0], .slice none 0 0, .int .u8 0, .int .u8 0, .int .u8 0, .int .u8 0, .int .u8 0, .int .u8 0] 8 (World.laidAll_os _ _ _)
      (wA os _) (by kernel_rfl) (by kernel_rfl) (by kernel_rfl) (qo os _)) ?_
  intro W base args ds gs before hval0 hW hS hL;have hval : ∀ (j : Nat) t v, Tryz.f8.params[j]? = some t → args[j]? = some v → Value.okWide Tryz.prog W .any base t v := hval0;have hW' := hW;obtain ⟨p, q, hA0, hV, rfl, hfz, hnd⟩ := hW;have hA : DataW.TrodAll enc Tryz.prog W 0 (fun _ => true) true Tryz.f8.params.toList args.toList ds p := hA0;rw [Tryz.params8] at hA hval;obtain ⟨rfl, rfl⟩ := trodVars_none hV;obtain ⟨v0, v1, v2, v3, v4, v5, v6, v7, d0, d1, d2, d3, d4, d5, d6, d7, p0, p1, p2, p3, p4, p5, p6, p7, rfl, rfl, rfl, h0, h1, h2, h3, h4, h5, h6, h7⟩ := Z4 hA;obtain ⟨x0, m0, s0, rfl, r0⟩ := uf (hval 0 49 v0 rfl rfl) h0;obtain ⟨l1, a1, n1, c1, rfl, r1, q1⟩ := open_strs (hval 1 37 v1 rfl rfl) h1;obtain ⟨b2, rfl, z2⟩ := x5 (hval 2 5 v2 rfl rfl) h2;obtain ⟨b3, rfl, z3⟩ := x5 (hval 3 5 v3 rfl rfl) h3;obtain ⟨b4, rfl, z4⟩ := x5 (hval 4 5 v4 rfl rfl) h4;obtain ⟨b5, rfl, z5⟩ := x5 (hval 5 5 v5 rfl rfl) h5;obtain ⟨b6, rfl, z6⟩ := x5 (hval 6 5 v6 rfl rfl) h6;obtain ⟨b7, rfl, z7⟩ := x5 (hval 7 5 v7 rfl rfl) h7;refine (Q1 x0 m0 s0 l1 a1 n1 c1 (wY W) (kA hS hL) W r0 r1 q1 (heapI_holds W) b2 z2 b3 z3 b4 z4 b5 z5 b6 z6 b7 z7).mono fun e W' ⟨he, hk⟩ => ?_;exact ⟨_, he, qq qp hW' rfl rfl rfl rfl rfl Tryz.underlying4 (by kernel_rfl) hk⟩
theorem zand {a b : Bool} (h : a = true) (k : b = true) : (a && b) = true := by rw [h, k]; rfl
set_option maxHeartbeats 20000000 in
theorem wicketTickets_closed : joinedFacts Tryz.prog 8 Tryz.f8 Rows.wicketTicketsSpec Rows.wicketTicketsRow = true := by
  unfold joinedFacts
  repeat' with_reducible refine zand ?_ ?_
  all_goals as_aux_lemma => kernel_rfl
set_option maxHeartbeats 20000000 in
theorem wicketTickets_row : Rows.WicketTicketsSaid :=
  OpenClaim.holds_of_wide 8 Tryz.f8 rfl rfl rfl rfl rfl rfl rfl ⟨rfl, rfl, rfl, rfl, rfl⟩ rfl rfl rfl rfl rfl (by kernel_rfl) Tryz.func8 wicketTickets_closed
    (of_decide_eq_true (by kernel_rfl)) (by unfold Func.isWrapper; first | (rw [if_pos (by decide +kernel)]; kernel_rfl) | (rw [if_neg (by decide +kernel)]; exact ⟨rfl, rfl⟩))
    (fun os started H enc _ => wicketTickets_lifted os started H enc)
set_option maxHeartbeats 20000000 in
theorem wicketTickets_holds : Rows.WicketTicketsCardSaid :=
  Claim7.holds_tied_plain_at .later [] [.data, .data, .data, .data, .data, .sentinel, .sentinel, .data, .pinned] true (true, "87aa966b43e40a09a979d285ef6680c333f30403940709867cc227071fdc79bf") true wicketTickets_row (fun _ h => by cases h) (by as_aux_lemma => kernel_rfl) (fun _ h => by cases h) wicketTickets_row_tie rfl ⟨rfl, rfl⟩ (by as_aux_lemma => kernel_rfl) rfl
    (fun f fn hf hfn => by
      obtain rfl : f = 8 := Option.some.inj ((show Tryz.prog.funcNamed "dipworks/dipworkslaw15.WicketTickets" = some 8 by as_aux_lemma => kernel_rfl).symm.trans hf) |>.symm;obtain rfl : fn = Tryz.f8 := (Option.some.inj (Tryz.func8.symm.trans hfn)).symm
      exact ⟨by kernel_rfl, fun j t ht => by
        rw [Tryz.params8] at ht;have hm : t ∈ ([49, 37, 5, 5, 5, 5, 5, 5] : List TypeId) := by simpa using Array.mem_of_getElem? ht
        have hall : (([49, 37, 5, 5, 5, 5, 5, 5] : List TypeId).all fun u => !Tryz.prog.wantsStandIn u) = true := by kernel_rfl
        exact (show Tryz.prog.wantsStandIn t = false by simpa using List.all_eq_true.1 hall t hm)⟩)
    (by as_aux_lemma => kernel_rfl)
end Go.Proofs.YtejgofaeafphjaaGreatDoor
