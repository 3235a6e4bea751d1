/- TillMissing returns true. No condition. -/
import Derived.Test.YtpnbkdlejfmbeaaGreatYZ8
import Derived.Test.YtpnbkdlejfmbeaaGreatXR
import Derived.Test.YtpnbkdlejfmbeaaGreatXL
set_option linter.unusedSimpArgs false
set_option linter.unusedVariables false
set_option linter.all false
set_option maxRecDepth 100000
set_option maxHeartbeats 1000000
namespace Go.Proofs.YtpnbkdlejfmbeaaGreat
open Go.W Go.Ti Go.ChangeShapes Go.WideShapes Go.ChangeAt Go.RowKit
theorem own_knob : ownKnob Tryz.prog.godebug = none := by kernel_rfl
set_option maxRecDepth 100000 in
theorem tillMissing_lifted (os : Os) (started : os.Started) (H : Type) (enc : TypeId × Value → H) :
    ReturnsInHanded {} Tryz.checked os 6 .any (Rows.tillMissingSpec.pre6 enc Tryz.prog Tryz.f6 Rows.tillMissingRow.domain false) (Rows.tillMissingSpec.post enc Tryz.prog Tryz.f6 false true false false) := by
  refine returnsInHanded_of_change (C := Tryz.checked) own_knob started (by kernel_rfl) Tryz.func6
    (ChangeSpec.witness6 (enc := enc) (C := Tryz.checked) false ⟨#[], #[.agg #[.int .i64 0, .slice none 0 0, .int .i64 0, .int .i64 0, .int .i64 0], .slice none 0 0, .int .u8 0, .int .u8 0], []⟩ 8 (by kernel_rfl) (by kernel_rfl) (by kernel_rfl) (by kernel_rfl)) ?_
  intro W base args ds gs before hval0 hW hcnd _
  have hval : ∀ (j : Nat) t v, Tryz.f6.params[j]? = some t → args[j]? = some v → Value.okWide Tryz.prog W .any base t v := hval0
  have hW' := hW
  obtain ⟨p, q, hA0, hV, rfl, hfz, hnd⟩ := hW
  have hA : DataW.TrodAll enc Tryz.prog W 0 (fun _ => true) true Tryz.f6.params.toList args.toList ds p := hA0
  rw [Tryz.params6] at hA hval
  obtain ⟨rfl, rfl⟩ := trodVars_none hV
  obtain ⟨v0, v1, v2, v3, d0, d1, d2, d3, p0, p1, p2, p3, rfl, rfl, rfl, h0, h1, h2, h3⟩ := trodAll_four hA
  obtain ⟨X, a1, n1, c1, rfl, s1, _⟩ := open_till (hval 0 26 v0 rfl rfl) h0
  obtain ⟨l1, ab1, nb1, cb1, rfl, t1, _⟩ := open_ents (hval 1 38 v1 rfl rfl) h1
  obtain ⟨b2, rfl, rfl, rfl, wb2⟩ := open_int Tryz.underlying5 (hval 2 5 v2 rfl rfl) h2
  have hu2 := wf_u8 wb2
  obtain ⟨m2, rfl⟩ := Int.eq_ofNat_of_zero_le hu2.1
  obtain ⟨b3, rfl, rfl, rfl, wb3⟩ := open_int Tryz.underlying5 (hval 3 5 v3 rfl rfl) h3
  have hu3 := wf_u8 wb3
  obtain ⟨m3, rfl⟩ := Int.eq_ofNat_of_zero_le hu3.1
  refine (missL_g X a1 n1 c1 (heapI W) W s1 (heapI_holds W) l1 ab1 nb1 cb1 t1 m2 m3 (by omega) (by omega)).mono fun e W' ⟨he, hk⟩ => ?_
  exact ⟨_, he, law_post laidOut hW' rfl rfl rfl rfl rfl Tryz.underlying4 (by kernel_rfl) hk⟩
theorem tillMissing_holds : Rows.TillMissingSaid :=
  OpenClaim.holds_of_wide 6 Tryz.f6 rfl rfl rfl rfl rfl rfl rfl ⟨rfl, rfl, rfl, rfl, rfl⟩ rfl rfl rfl rfl rfl (by kernel_rfl) Tryz.func6 (by kernel_rfl)
    (of_decide_eq_true (by kernel_rfl)) (by unfold Func.isWrapper; first | (rw [if_pos (by decide +kernel)]; kernel_rfl) | (rw [if_neg (by decide +kernel)]; exact ⟨rfl, rfl⟩))
    (fun os started H enc _ => tillMissing_lifted os started H enc)
end Go.Proofs.YtpnbkdlejfmbeaaGreat
