/- BookMend returns true. No condition of its own; the listed variables are tied to the program's text (a tied card). -/
import Derived.Test.YtaebnllfmkcpgaaGreatDoorTie
import Derived.Test.YtaebnllfmkcpgaaGreatDoorCards
import Derived.Test.YtaebnllfmkcpgaaGreatDoorYFH
import Derived.Test.YtaebnllfmkcpgaaGreatDoorXX
set_option linter.unusedSimpArgs false
set_option linter.unusedVariables false
set_option linter.all false
set_option maxRecDepth 100000
set_option maxHeartbeats 1000000
namespace Go.Proofs.YtaebnllfmkcpgaaGreatDoor
open Go.W Go.Bk Go.ChangeShapes Go.WideShapes Go.ChangeAt Go.RowKit
set_option maxRecDepth 100000 in
theorem bookMend_lifted (os : Os) (started : os.Started) (H : Type) (enc : TypeId × Value → H) :
    ReturnsInHanded {} Tryz.checked os 7 .any (fun w args => (Rows.bookMendSpec.pre enc Tryz.prog Tryz.f7 Rows.bookMendRow.domain false w args ∧ laidMetH Tryz.prog Rows.bookMendRow.laid w) ∧ sizedMet enc Tryz.prog Tryz.f7 (OpenSpec.ofChange Rows.bookMendSpec) false w args) (Rows.bookMendSpec.post enc Tryz.prog Tryz.f7 false true false false) := by
  refine handed_laid (C := Tryz.checked) (X := fun w _ => laidMetH Tryz.prog laidL w) (fun _ _ _ hh h => h.of_heap hh) own_knob started (by kernel_rfl) Tryz.func7
    (ChangeSpec.witness_shaped (enc := enc) (C := Tryz.checked) (os := os) (X := fun w _ => laidMetH Tryz.prog laidL w) false (World.laidAll Tryz.prog os laidL) #[.slice none 0 0, .int .u16 0, .int .u8 0] 8 (World.laidAll_os _ _ _)
      (laid_shaped os _) (by kernel_rfl) (by kernel_rfl) (by kernel_rfl) (laid_met os _)) ?_
  intro W base args ds gs before hval0 hW hS hL
  have hval : ∀ (j : Nat) t v, Tryz.f7.params[j]? = some t → args[j]? = some v → Value.okWide Tryz.prog W .any base t v := hval0
  have hW' := hW
  obtain ⟨p, q, hA0, hV, rfl, hfz, hnd⟩ := hW
  have hA : DataW.TrodAll enc Tryz.prog W 0 (fun _ => true) true Tryz.f7.params.toList args.toList ds p := hA0
  rw [Tryz.params7] at hA hval
  obtain ⟨rfl, rfl⟩ := trodVars_none hV
  obtain ⟨v0, v1, v2, d0, d1, d2, p0, p1, p2, rfl, rfl, rfl, h0, h1, h2⟩ := trodAll_three hA
  obtain ⟨l0, a0, n0, c0, rfl, r0, g0⟩ := open_bytes (hval 0 43 v0 rfl rfl) h0
  obtain ⟨z1, y1, rfl⟩ := open_u16 (hval 1 56 v1 rfl rfl) h1
  obtain ⟨b2, rfl⟩ := open_u8 (hval 2 5 v2 rfl rfl) h2
  refine (bookMend_g l0 a0 n0 c0 (heapI W) (libD_of hS hL) r0 g0 z1 y1 b2 W (heapI_holds W)).mono fun e W' ⟨he, hk⟩ => ?_
  exact ⟨_, he, law_post laid_out hW' rfl rfl rfl rfl rfl Tryz.underlying4 (by kernel_rfl) hk⟩
theorem bookMend_row : Rows.BookMendSaid :=
  OpenClaim.holds_of_wide 7 Tryz.f7 rfl rfl rfl rfl rfl rfl rfl ⟨rfl, rfl, rfl, rfl, rfl⟩ rfl rfl rfl rfl rfl (by kernel_rfl) Tryz.func7 (by kernel_rfl)
    (of_decide_eq_true (by kernel_rfl)) (by unfold Func.isWrapper; first | (rw [if_pos (by decide +kernel)]; kernel_rfl) | (rw [if_neg (by decide +kernel)]; exact ⟨rfl, rfl⟩))
    (fun os started H enc _ => bookMend_lifted os started H enc)
theorem bookMend_holds : Rows.BookMendCardSaid :=
  Claim7.holds_tied_plain_at .later [] [.data, .data, .data, .data, .sentinel, .sentinel, .data, .pinned] true (true, "897d6e52f0714186e3149b9adc998af31876b18dc80bc7b7c554682996da192d") true bookMend_row (fun _ h => by cases h) (by kernel_rfl) (fun _ h => by cases h) bookMend_row_tie rfl ⟨rfl, rfl⟩ (by kernel_rfl) rfl
    (fun f fn hf hfn => by
      obtain rfl : f = 7 := Option.some.inj ((show Tryz.prog.funcNamed "dipworks/dipworkslaw14.BookMend" = some 7 by kernel_rfl).symm.trans hf) |>.symm
      obtain rfl : fn = Tryz.f7 := (Option.some.inj (Tryz.func7.symm.trans hfn)).symm
      exact ⟨by kernel_rfl, fun j t ht => by
        rw [Tryz.params7] at ht
        have hm : t ∈ [43, 56, 5] := by simpa using Array.mem_of_getElem? ht
        have hall : ([43, 56, 5].all fun u => !Tryz.prog.wantsStandIn u) = true := by kernel_rfl
        exact (show Tryz.prog.wantsStandIn t = false by simpa using List.all_eq_true.1 hall t hm)⟩)
    (by kernel_rfl)
end Go.Proofs.YtaebnllfmkcpgaaGreatDoor
