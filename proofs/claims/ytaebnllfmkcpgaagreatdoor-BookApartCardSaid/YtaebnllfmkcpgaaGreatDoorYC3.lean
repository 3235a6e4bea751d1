/- BookApart returns true. No condition of its own; the listed variables are tied to the program's text (a tied card). -/
import Derived.Test.YtaebnllfmkcpgaaGreatDoorTie
import Derived.Test.YtaebnllfmkcpgaaGreatDoorCards
import Derived.Test.YtaebnllfmkcpgaaGreatDoorYFF
import Derived.Test.YtaebnllfmkcpgaaGreatDoorXX
set_option linter.unusedSimpArgs false
set_option linter.unusedVariables false
set_option linter.all false
set_option maxRecDepth 100000
set_option maxHeartbeats 1000000
namespace Go.Proofs.YtaebnllfmkcpgaaGreatDoor
open Go.W Go.Bk Go.ChangeShapes Go.WideShapes Go.ChangeAt Go.RowKit
set_option maxRecDepth 100000 in
theorem bookApart_lifted (os : Os) (started : os.Started) (H : Type) (enc : TypeId × Value → H) :
    ReturnsInHanded {} Tryz.checked os 5 .any (fun w args => (Rows.bookApartSpec.pre enc Tryz.prog Tryz.f5 Rows.bookApartRow.domain false w args ∧ laidMetH Tryz.prog Rows.bookApartRow.laid w) ∧ sizedMet enc Tryz.prog Tryz.f5 (OpenSpec.ofChange Rows.bookApartSpec) false w args) (Rows.bookApartSpec.post enc Tryz.prog Tryz.f5 false true false false) := by
  refine handed_laid (C := Tryz.checked) (X := fun w _ => laidMetH Tryz.prog laidL w) (fun _ _ _ hh h => h.of_heap hh) own_knob started (by kernel_rfl) Tryz.func5
    (ChangeSpec.witness_shaped (enc := enc) (C := Tryz.checked) (os := os) (X := fun w _ => laidMetH Tryz.prog laidL w) false (World.laidAll Tryz.prog os laidL) #[.agg #[it 0, it 0, .slice none 0 0, .slice none 0 0, .slice none 0 0], .agg #[it 0, it 0, .slice none 0 0, .slice none 0 0, .slice none 0 0], .agg #[it 0, it 0, it 0, .slice none 0 0, .slice none 0 0], .agg #[it 0, it 0, it 0, .slice none 0 0, .slice none 0 0], .agg #[it 0, it 0, it 0, it 0, .slice none 0 0], .agg #[it 0, it 0, it 0, it 0, .slice none 0 0], .agg #[it 0, .slice none 0 0], .agg #[it 0, .slice none 0 0]] 8 (World.laidAll_os _ _ _)
      (laid_shaped os _) (by kernel_rfl) (by kernel_rfl) (by kernel_rfl) (laid_met os _)) ?_
  intro W base args ds gs before hval0 hW hS hL
  have hval : ∀ (j : Nat) t v, Tryz.f5.params[j]? = some t → args[j]? = some v → Value.okWide Tryz.prog W .any base t v := hval0
  have hW' := hW
  obtain ⟨p, q, hA0, hV, rfl, hfz, hnd⟩ := hW
  have hA : DataW.TrodAll enc Tryz.prog W 0 (fun _ => true) true Tryz.f5.params.toList args.toList ds p := hA0
  rw [Tryz.params5] at hA hval
  obtain ⟨rfl, rfl⟩ := trodVars_none hV
  obtain ⟨v0, v1, v2, v3, v4, v5, v6, v7, d0, d1, d2, d3, d4, d5, d6, d7, p0, p1, p2, p3, p4, p5, p6, p7, rfl, rfl, rfl, h0, h1, h2, h3, h4, h5, h6, h7⟩ := trodAll_eight hA
  obtain ⟨s0, m0, rfl, r0⟩ := open_surf (hval 0 25 v0 rfl rfl) h0
  obtain ⟨s1, m1, rfl, r1⟩ := open_surf (hval 1 25 v1 rfl rfl) h1
  obtain ⟨s2, m2, rfl, r2⟩ := open_flag (hval 2 29 v2 rfl rfl) h2
  obtain ⟨s3, m3, rfl, r3⟩ := open_flag (hval 3 29 v3 rfl rfl) h3
  obtain ⟨s4, m4, rfl, r4⟩ := open_boats (hval 4 32 v4 rfl rfl) h4
  obtain ⟨s5, m5, rfl, r5⟩ := open_boats (hval 5 32 v5 rfl rfl) h5
  obtain ⟨s6, m6, rfl, r6⟩ := open_horses (hval 6 35 v6 rfl rfl) h6
  obtain ⟨s7, m7, rfl, r7⟩ := open_horses (hval 7 35 v7 rfl rfl) h7
  refine (bookApart_g s0 s1 s2 s3 s4 s5 s6 s7 m0 m1 m2 m3 m4 m5 m6 m7 (heapI W) (libD_of hS hL) r0 r1 r2 r3 r4 r5 r6 r7 W (heapI_holds W)).mono fun e W' ⟨he, hk⟩ => ?_
  exact ⟨_, he, law_post laid_out hW' rfl rfl rfl rfl rfl Tryz.underlying4 (by kernel_rfl) hk⟩
theorem bookApart_row : Rows.BookApartSaid :=
  OpenClaim.holds_of_wide 5 Tryz.f5 rfl rfl rfl rfl rfl rfl rfl ⟨rfl, rfl, rfl, rfl, rfl⟩ rfl rfl rfl rfl rfl (by kernel_rfl) Tryz.func5 (by kernel_rfl)
    (of_decide_eq_true (by kernel_rfl)) (by unfold Func.isWrapper; first | (rw [if_pos (by decide +kernel)]; kernel_rfl) | (rw [if_neg (by decide +kernel)]; exact ⟨rfl, rfl⟩))
    (fun os started H enc _ => bookApart_lifted os started H enc)
theorem bookApart_holds : Rows.BookApartCardSaid :=
  Claim7.holds_tied_plain_at .later [] [.data, .data, .data, .data, .sentinel, .sentinel, .data, .pinned] true (true, "897d6e52f0714186e3149b9adc998af31876b18dc80bc7b7c554682996da192d") true bookApart_row (fun _ h => by cases h) (by kernel_rfl) (fun _ h => by cases h) bookApart_row_tie rfl ⟨rfl, rfl⟩ (by kernel_rfl) rfl
    (fun f fn hf hfn => by
      obtain rfl : f = 5 := Option.some.inj ((show Tryz.prog.funcNamed "dipworks/dipworkslaw14.BookApart" = some 5 by kernel_rfl).symm.trans hf) |>.symm
      obtain rfl : fn = Tryz.f5 := (Option.some.inj (Tryz.func5.symm.trans hfn)).symm
      exact ⟨by kernel_rfl, fun j t ht => by
        rw [Tryz.params5] at ht
        have hm : t ∈ [25, 25, 29, 29, 32, 32, 35, 35] := by simpa using Array.mem_of_getElem? ht
        have hall : ([25, 25, 29, 29, 32, 32, 35, 35].all fun u => !Tryz.prog.wantsStandIn u) = true := by kernel_rfl
        exact (show Tryz.prog.wantsStandIn t = false by simpa using List.all_eq_true.1 hall t hm)⟩)
    (by kernel_rfl)
end Go.Proofs.YtaebnllfmkcpgaaGreatDoor
