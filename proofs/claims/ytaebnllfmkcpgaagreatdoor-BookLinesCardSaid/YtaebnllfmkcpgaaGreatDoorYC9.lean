/- BookLines returns true. No condition of its own; the listed variables are tied to the program's text (a tied card). -/
import Derived.Test.YtaebnllfmkcpgaaGreatDoorTie
import Derived.Test.YtaebnllfmkcpgaaGreatDoorCards
import Derived.Test.YtaebnllfmkcpgaaGreatDoorYFK
import Derived.Test.YtaebnllfmkcpgaaGreatDoorXX
set_option linter.unusedSimpArgs false
set_option linter.unusedVariables false
set_option linter.all false
set_option maxRecDepth 100000
set_option maxHeartbeats 1000000
namespace Go.Proofs.YtaebnllfmkcpgaaGreatDoor
open Go.W Go.Bk Go.ChangeShapes Go.WideShapes Go.ChangeAt Go.RowKit
set_option maxRecDepth 100000 in
theorem bookLines_lifted (os : Os) (started : os.Started) (H : Type) (enc : TypeId × Value → H) :
    ReturnsInHanded {} Tryz.checked os 11 .any (fun w args => (Rows.bookLinesSpec.pre enc Tryz.prog Tryz.f11 Rows.bookLinesRow.domain false w args ∧ laidMetH Tryz.prog Rows.bookLinesRow.laid w) ∧ sizedMet enc Tryz.prog Tryz.f11 (OpenSpec.ofChange Rows.bookLinesSpec) false w args) (Rows.bookLinesSpec.post enc Tryz.prog Tryz.f11 false true false false) := by
  refine handed_laid (C := Tryz.checked) (X := fun w _ => laidMetH Tryz.prog laidL w) (fun _ _ _ hh h => h.of_heap hh) own_knob started (by kernel_rfl) Tryz.func11
    (ChangeSpec.witness_shaped (enc := enc) (C := Tryz.checked) (os := os) (X := fun w _ => laidMetH Tryz.prog laidL w) false (World.laidAll Tryz.prog os laidL) #[.agg #[it 0, it 0, .slice none 0 0, .slice none 0 0, .slice none 0 0], .agg #[it 0, it 0, it 0, .slice none 0 0, .slice none 0 0], .agg #[it 0, it 0, it 0, it 0, .slice none 0 0], .int .u8 0] 8 (World.laidAll_os _ _ _)
      (laid_shaped os _) (by kernel_rfl) (by kernel_rfl) (by kernel_rfl) (laid_met os _)) ?_
  intro W base args ds gs before hval0 hW hS hL
  have hval : ∀ (j : Nat) t v, Tryz.f11.params[j]? = some t → args[j]? = some v → Value.okWide Tryz.prog W .any base t v := hval0
  have hW' := hW
  obtain ⟨p, q, hA0, hV, rfl, hfz, hnd⟩ := hW
  have hA : DataW.TrodAll enc Tryz.prog W 0 (fun _ => true) true Tryz.f11.params.toList args.toList ds p := hA0
  rw [Tryz.params11] at hA hval
  obtain ⟨rfl, rfl⟩ := trodVars_none hV
  obtain ⟨v0, v1, v2, v3, d0, d1, d2, d3, p0, p1, p2, p3, rfl, rfl, rfl, h0, h1, h2, h3⟩ := trodAll_four hA
  obtain ⟨s0, m0, rfl, r0⟩ := open_surf (hval 0 25 v0 rfl rfl) h0
  obtain ⟨s1, m1, rfl, r1⟩ := open_flag (hval 1 29 v1 rfl rfl) h1
  obtain ⟨s2, m2, rfl, r2⟩ := open_boats (hval 2 32 v2 rfl rfl) h2
  obtain ⟨b3, rfl⟩ := open_u8 (hval 3 5 v3 rfl rfl) h3
  refine (bookLines_g s0 s1 s2 m0 m1 m2 (heapI W) (libD_of hS hL) r0 r1 r2 b3 W (heapI_holds W)).mono fun e W' ⟨he, hk⟩ => ?_
  exact ⟨_, he, law_post laid_out hW' rfl rfl rfl rfl rfl Tryz.underlying4 (by kernel_rfl) hk⟩
theorem bookLines_row : Rows.BookLinesSaid :=
  OpenClaim.holds_of_wide 11 Tryz.f11 rfl rfl rfl rfl rfl rfl rfl ⟨rfl, rfl, rfl, rfl, rfl⟩ rfl rfl rfl rfl rfl (by kernel_rfl) Tryz.func11 (by kernel_rfl)
    (of_decide_eq_true (by kernel_rfl)) (by unfold Func.isWrapper; first | (rw [if_pos (by decide +kernel)]; kernel_rfl) | (rw [if_neg (by decide +kernel)]; exact ⟨rfl, rfl⟩))
    (fun os started H enc _ => bookLines_lifted os started H enc)
theorem bookLines_holds : Rows.BookLinesCardSaid :=
  Claim7.holds_tied_plain_at .later [] [.data, .data, .data, .data, .sentinel, .sentinel, .data, .pinned] true (true, "897d6e52f0714186e3149b9adc998af31876b18dc80bc7b7c554682996da192d") true bookLines_row (fun _ h => by cases h) (by kernel_rfl) (fun _ h => by cases h) bookLines_row_tie rfl ⟨rfl, rfl⟩ (by kernel_rfl) rfl
    (fun f fn hf hfn => by
      obtain rfl : f = 11 := Option.some.inj ((show Tryz.prog.funcNamed "dipworks/dipworkslaw14.BookLines" = some 11 by kernel_rfl).symm.trans hf) |>.symm
      obtain rfl : fn = Tryz.f11 := (Option.some.inj (Tryz.func11.symm.trans hfn)).symm
      exact ⟨by kernel_rfl, fun j t ht => by
        rw [Tryz.params11] at ht
        have hm : t ∈ [25, 29, 32, 5] := by simpa using Array.mem_of_getElem? ht
        have hall : ([25, 29, 32, 5].all fun u => !Tryz.prog.wantsStandIn u) = true := by kernel_rfl
        exact (show Tryz.prog.wantsStandIn t = false by simpa using List.all_eq_true.1 hall t hm)⟩)
    (by kernel_rfl)
end Go.Proofs.YtaebnllfmkcpgaaGreatDoor
