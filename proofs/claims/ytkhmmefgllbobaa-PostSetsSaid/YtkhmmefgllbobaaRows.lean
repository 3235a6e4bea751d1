/-
  No cell of these rows narrows 'for every input' (looked for: loops, veiled, ifaces, maps, wideKeys, modest, calm, conditions, laid).
  DERIVED. THE GIVEN ROWS OF THIS SEAT. 10 by the template 'for every input the law returns true; each argument reads behind the call as it read before'; 0 by the template 'total and deterministic' (their statements: YtkhmmefgllbobaaTotals.lean).
  GIVEN WITH THE SEED: the statements are not yours to turn. If you find one false, say at which input.
  Laid BY PROGRAM, IN A SANDBOX (cutbox-rows.mjs): the forced cells as the released guide's own fill.sh prints them over the translation d12e13abc797b10d… (all of the seat's roots in one cut). By AI agents, Wed Nov 11 2026. No macro, syntax, notation, axiom, sorry.
-/
import Derived.Test.YtkhmmefgllbobaaChecked
import GoSem.Claim
import GoSem.ClaimJoined
import GoSem.ClaimMapViews
import Derived.JoinedTies
import Derived.KernelRfl
namespace Go.Proofs.Ytkhmmefgllbobaa
/- THE CELL 'sum', in the pinned program and in every row, IS THE sha256 OF THE DUMP (.gsa) THAT YtkhmmefgllbobaaProg.lean LOADS. Nothing in Lean hashes anything: it is a label: what it is worth is what the hold of that sum in a sandbox is worth. -/
noncomputable def Try.pinned : Pinned := { name := "ytkhmmefgllbobaa", sum := "d12e13abc797b10d3c3f50773fc972436be3602ecaf0b1c317f4f2b02451d956", checked := Try.checked }
namespace Rows
def none {H : Type} : Left H := { results := [], args := [] }

/-- 'dipworkslaw05.PostTells': WHATEVER THE INPUT: true; the input reads as it did. -/
def postTellsSpec : ChangeSpec := { name := "postTells", fn := fun _ => fun
  | [d1, d2, d3] => { results := [.lit (.bool true)], args := [d1, d2, d3] }
  | _ => none }
def postTellsRow : OpenClaim := { program := "ytkhmmefgllbobaa", sum := "d12e13abc797b10d3c3f50773fc972436be3602ecaf0b1c317f4f2b02451d956", func := "dipworks/dipworkslaw05.PostTells", spec := "postTells", unfollowed := true, recurses := true, plainKeys := false, apart := false }
def PostTellsSaid : Prop := postTellsRow.holds Try.pinned (OpenSpec.ofChange postTellsSpec)

/-- ITS FALSE NEIGHBOUR: 'it returns false'. Refute it at one input. -/
def postTellsWrong : ChangeSpec := { name := "postTells", fn := fun _ => fun
  | [d1, d2, d3] => { results := [.lit (.bool false)], args := [d1, d2, d3] }
  | _ => none }
def PostTellsWrongFalsely : Prop := postTellsRow.holds Try.pinned (OpenSpec.ofChange postTellsWrong)

/-- 'dipworkslaw05.PostSets': WHATEVER THE INPUT: true; the input reads as it did. -/
def postSetsSpec : ChangeSpec := { name := "postSets", fn := fun _ => fun
  | [d] => { results := [.lit (.bool true)], args := [d] }
  | _ => none }
def postSetsRow : OpenClaim := { program := "ytkhmmefgllbobaa", sum := "d12e13abc797b10d3c3f50773fc972436be3602ecaf0b1c317f4f2b02451d956", func := "dipworks/dipworkslaw05.PostSets", spec := "postSets", unfollowed := true, recurses := true, plainKeys := false, apart := false }
def PostSetsSaid : Prop := postSetsRow.holds Try.pinned (OpenSpec.ofChange postSetsSpec)

/-- ITS FALSE NEIGHBOUR: 'it returns false'. Refute it at one input. -/
def postSetsWrong : ChangeSpec := { name := "postSets", fn := fun _ => fun
  | [d] => { results := [.lit (.bool false)], args := [d] }
  | _ => none }
def PostSetsWrongFalsely : Prop := postSetsRow.holds Try.pinned (OpenSpec.ofChange postSetsWrong)

/-- 'dipworkslaw05.PostNames': WHATEVER THE INPUT: true; the input reads as it did. -/
def postNamesSpec : ChangeSpec := { name := "postNames", fn := fun _ => fun
  | [] => { results := [.lit (.bool true)], args := [] }
  | _ => none }
def postNamesRow : OpenClaim := { program := "ytkhmmefgllbobaa", sum := "d12e13abc797b10d3c3f50773fc972436be3602ecaf0b1c317f4f2b02451d956", func := "dipworks/dipworkslaw05.PostNames", spec := "postNames", unfollowed := true, recurses := true, plainKeys := false, apart := false }
def PostNamesSaid : Prop := postNamesRow.holds Try.pinned (OpenSpec.ofChange postNamesSpec)

/-- ITS FALSE NEIGHBOUR: 'it returns false'. Refute it at one input. -/
def postNamesWrong : ChangeSpec := { name := "postNames", fn := fun _ => fun
  | [] => { results := [.lit (.bool false)], args := [] }
  | _ => none }
def PostNamesWrongFalsely : Prop := postNamesRow.holds Try.pinned (OpenSpec.ofChange postNamesWrong)

/-- 'dipworkslaw05.PostTrue': WHATEVER THE INPUT: true; the input reads as it did. -/
def postTrueSpec : ChangeSpec := { name := "postTrue", fn := fun _ => fun
  | [d] => { results := [.lit (.bool true)], args := [d] }
  | _ => none }
def postTrueRow : OpenClaim := { program := "ytkhmmefgllbobaa", sum := "d12e13abc797b10d3c3f50773fc972436be3602ecaf0b1c317f4f2b02451d956", func := "dipworks/dipworkslaw05.PostTrue", spec := "postTrue", unfollowed := true, recurses := true, plainKeys := false, apart := false }
def PostTrueSaid : Prop := postTrueRow.holds Try.pinned (OpenSpec.ofChange postTrueSpec)

/-- ITS FALSE NEIGHBOUR: 'it returns false'. Refute it at one input. -/
def postTrueWrong : ChangeSpec := { name := "postTrue", fn := fun _ => fun
  | [d] => { results := [.lit (.bool false)], args := [d] }
  | _ => none }
def PostTrueWrongFalsely : Prop := postTrueRow.holds Try.pinned (OpenSpec.ofChange postTrueWrong)

/-- 'dipworkslaw05.PostPlaces': WHATEVER THE INPUT: true; the input reads as it did. -/
def postPlacesSpec : ChangeSpec := { name := "postPlaces", fn := fun _ => fun
  | [d1, d2, d3] => { results := [.lit (.bool true)], args := [d1, d2, d3] }
  | _ => none }
def postPlacesRow : OpenClaim := { program := "ytkhmmefgllbobaa", sum := "d12e13abc797b10d3c3f50773fc972436be3602ecaf0b1c317f4f2b02451d956", func := "dipworks/dipworkslaw05.PostPlaces", spec := "postPlaces", unfollowed := true, recurses := true, plainKeys := false, apart := false }
def PostPlacesSaid : Prop := postPlacesRow.holds Try.pinned (OpenSpec.ofChange postPlacesSpec)

/-- ITS FALSE NEIGHBOUR: 'it returns false'. Refute it at one input. -/
def postPlacesWrong : ChangeSpec := { name := "postPlaces", fn := fun _ => fun
  | [d1, d2, d3] => { results := [.lit (.bool false)], args := [d1, d2, d3] }
  | _ => none }
def PostPlacesWrongFalsely : Prop := postPlacesRow.holds Try.pinned (OpenSpec.ofChange postPlacesWrong)

/-- 'dipworkslaw05.PostNear': WHATEVER THE INPUT: true; the input reads as it did. -/
def postNearSpec : ChangeSpec := { name := "postNear", fn := fun _ => fun
  | [d1, d2, d3] => { results := [.lit (.bool true)], args := [d1, d2, d3] }
  | _ => none }
def postNearRow : OpenClaim := { program := "ytkhmmefgllbobaa", sum := "d12e13abc797b10d3c3f50773fc972436be3602ecaf0b1c317f4f2b02451d956", func := "dipworks/dipworkslaw05.PostNear", spec := "postNear", unfollowed := true, recurses := true, plainKeys := false, apart := false }
def PostNearSaid : Prop := postNearRow.holds Try.pinned (OpenSpec.ofChange postNearSpec)

/-- ITS FALSE NEIGHBOUR: 'it returns false'. Refute it at one input. -/
def postNearWrong : ChangeSpec := { name := "postNear", fn := fun _ => fun
  | [d1, d2, d3] => { results := [.lit (.bool false)], args := [d1, d2, d3] }
  | _ => none }
def PostNearWrongFalsely : Prop := postNearRow.holds Try.pinned (OpenSpec.ofChange postNearWrong)

/-- 'dipworkslaw05.PostBreaks': WHATEVER THE INPUT: true; the input reads as it did. -/
def postBreaksSpec : ChangeSpec := { name := "postBreaks", fn := fun _ => fun
  | [d] => { results := [.lit (.bool true)], args := [d] }
  | _ => none }
def postBreaksRow : OpenClaim := { program := "ytkhmmefgllbobaa", sum := "d12e13abc797b10d3c3f50773fc972436be3602ecaf0b1c317f4f2b02451d956", func := "dipworks/dipworkslaw05.PostBreaks", spec := "postBreaks", unfollowed := true, recurses := true, plainKeys := false, apart := false }
def PostBreaksSaid : Prop := postBreaksRow.holds Try.pinned (OpenSpec.ofChange postBreaksSpec)

/-- ITS FALSE NEIGHBOUR: 'it returns false'. Refute it at one input. -/
def postBreaksWrong : ChangeSpec := { name := "postBreaks", fn := fun _ => fun
  | [d] => { results := [.lit (.bool false)], args := [d] }
  | _ => none }
def PostBreaksWrongFalsely : Prop := postBreaksRow.holds Try.pinned (OpenSpec.ofChange postBreaksWrong)

/-- 'dipworkslaw05.PostClash': WHATEVER THE INPUT: true; the input reads as it did. -/
def postClashSpec : ChangeSpec := { name := "postClash", fn := fun _ => fun
  | [d1, d2] => { results := [.lit (.bool true)], args := [d1, d2] }
  | _ => none }
def postClashRow : OpenClaim := { program := "ytkhmmefgllbobaa", sum := "d12e13abc797b10d3c3f50773fc972436be3602ecaf0b1c317f4f2b02451d956", func := "dipworks/dipworkslaw05.PostClash", spec := "postClash", unfollowed := true, recurses := true, plainKeys := false, apart := false }
def PostClashSaid : Prop := postClashRow.holds Try.pinned (OpenSpec.ofChange postClashSpec)

/-- ITS FALSE NEIGHBOUR: 'it returns false'. Refute it at one input. -/
def postClashWrong : ChangeSpec := { name := "postClash", fn := fun _ => fun
  | [d1, d2] => { results := [.lit (.bool false)], args := [d1, d2] }
  | _ => none }
def PostClashWrongFalsely : Prop := postClashRow.holds Try.pinned (OpenSpec.ofChange postClashWrong)

/-- 'dipworkslaw05.PostMore': WHATEVER THE INPUT: true; the input reads as it did. -/
def postMoreSpec : ChangeSpec := { name := "postMore", fn := fun _ => fun
  | [d1, d2, d3, d4, d5] => { results := [.lit (.bool true)], args := [d1, d2, d3, d4, d5] }
  | _ => none }
def postMoreRow : OpenClaim := { program := "ytkhmmefgllbobaa", sum := "d12e13abc797b10d3c3f50773fc972436be3602ecaf0b1c317f4f2b02451d956", func := "dipworks/dipworkslaw05.PostMore", spec := "postMore", unfollowed := true, recurses := true, plainKeys := false, apart := false }
def PostMoreSaid : Prop := postMoreRow.holds Try.pinned (OpenSpec.ofChange postMoreSpec)

/-- ITS FALSE NEIGHBOUR: 'it returns false'. Refute it at one input. -/
def postMoreWrong : ChangeSpec := { name := "postMore", fn := fun _ => fun
  | [d1, d2, d3, d4, d5] => { results := [.lit (.bool false)], args := [d1, d2, d3, d4, d5] }
  | _ => none }
def PostMoreWrongFalsely : Prop := postMoreRow.holds Try.pinned (OpenSpec.ofChange postMoreWrong)

/-- 'dipworkslaw05.PostTurned': WHATEVER THE INPUT: true; the input reads as it did. -/
def postTurnedSpec : ChangeSpec := { name := "postTurned", fn := fun _ => fun
  | [d1, d2, d3, d4] => { results := [.lit (.bool true)], args := [d1, d2, d3, d4] }
  | _ => none }
def postTurnedRow : OpenClaim := { program := "ytkhmmefgllbobaa", sum := "d12e13abc797b10d3c3f50773fc972436be3602ecaf0b1c317f4f2b02451d956", func := "dipworks/dipworkslaw05.PostTurned", spec := "postTurned", unfollowed := true, recurses := true, plainKeys := false, apart := false }
def PostTurnedSaid : Prop := postTurnedRow.holds Try.pinned (OpenSpec.ofChange postTurnedSpec)

/-- ITS FALSE NEIGHBOUR: 'it returns false'. Refute it at one input. -/
def postTurnedWrong : ChangeSpec := { name := "postTurned", fn := fun _ => fun
  | [d1, d2, d3, d4] => { results := [.lit (.bool false)], args := [d1, d2, d3, d4] }
  | _ => none }
def PostTurnedWrongFalsely : Prop := postTurnedRow.holds Try.pinned (OpenSpec.ofChange postTurnedWrong)

/- THE SECOND FORM. 'bulk': how many values and letters a reading holds, each counted each time it is reached (what is shared counts as often as it is met; a slice's spare places count too). A statement '..UptoSaid' is the law's where the arguments, and the package variables that the reading takes, are together of bulk at most 1048576: NARROWER than '..Said'. Prove '..Said' where nothing that the law and all that it calls make is longer than what came in: it says more and counts as full. Else prove '..UptoSaid'. A law counts once. -/
mutual
def uptoBulk {H : Type} : DataW H → Nat
  | .lit (.string bytes) => bytes.length + 1
  | .lit _ => 1
  | .nil => 1
  | .ptr d => uptoBulk d + 1
  | .slice elems spare => uptoBulkAll elems + uptoBulkAll spare + 1
  | .agg parts => uptoBulkAll parts + 1
  | .iface _ d => uptoBulk d + 1
  | .map entries => uptoBulkEntries entries + 1
  | .held _ => 1
def uptoBulkAll {H : Type} : List (DataW H) → Nat
  | [] => 0
  | d :: r => uptoBulk d + uptoBulkAll r
def uptoBulkEntries {H : Type} : List (Lit × DataW H) → Nat
  | [] => 0
  | x :: r => uptoBulkEntry x + uptoBulkEntries r
def uptoBulkEntry {H : Type} : Lit × DataW H → Nat
  | (.string bytes, d) => bytes.length + uptoBulk d + 1
  | (_, d) => uptoBulk d + 1
 end
def uptoSmall : (H : Type) → List (DataW H) → Bool := fun _ ds => decide (uptoBulkAll ds ≤ 1048576)
def OpenSpec.upto (s : _root_.Go.ChangeSpec) : _root_.Go.OpenSpec := { _root_.Go.OpenSpec.ofChange s with cond := some uptoSmall }

/-- 'dipworkslaw05.PostTells', WHERE WHAT IT READS IS OF BULK AT MOST 1048576: true; the input reads as it did. -/
def postTellsUptoRow : OpenClaim := { program := "ytkhmmefgllbobaa", sum := "d12e13abc797b10d3c3f50773fc972436be3602ecaf0b1c317f4f2b02451d956", func := "dipworks/dipworkslaw05.PostTells", spec := "postTells", unfollowed := true, recurses := true, plainKeys := false, apart := false, narrowed := true }
def PostTellsUptoSaid : Prop := postTellsUptoRow.holds Try.pinned (OpenSpec.upto postTellsSpec)

/-- 'dipworkslaw05.PostSets', WHERE WHAT IT READS IS OF BULK AT MOST 1048576: true; the input reads as it did. -/
def postSetsUptoRow : OpenClaim := { program := "ytkhmmefgllbobaa", sum := "d12e13abc797b10d3c3f50773fc972436be3602ecaf0b1c317f4f2b02451d956", func := "dipworks/dipworkslaw05.PostSets", spec := "postSets", unfollowed := true, recurses := true, plainKeys := false, apart := false, narrowed := true }
def PostSetsUptoSaid : Prop := postSetsUptoRow.holds Try.pinned (OpenSpec.upto postSetsSpec)

/-- 'dipworkslaw05.PostNames', WHERE WHAT IT READS IS OF BULK AT MOST 1048576: true; the input reads as it did. -/
def postNamesUptoRow : OpenClaim := { program := "ytkhmmefgllbobaa", sum := "d12e13abc797b10d3c3f50773fc972436be3602ecaf0b1c317f4f2b02451d956", func := "dipworks/dipworkslaw05.PostNames", spec := "postNames", unfollowed := true, recurses := true, plainKeys := false, apart := false, narrowed := true }
def PostNamesUptoSaid : Prop := postNamesUptoRow.holds Try.pinned (OpenSpec.upto postNamesSpec)

/-- 'dipworkslaw05.PostTrue', WHERE WHAT IT READS IS OF BULK AT MOST 1048576: true; the input reads as it did. -/
def postTrueUptoRow : OpenClaim := { program := "ytkhmmefgllbobaa", sum := "d12e13abc797b10d3c3f50773fc972436be3602ecaf0b1c317f4f2b02451d956", func := "dipworks/dipworkslaw05.PostTrue", spec := "postTrue", unfollowed := true, recurses := true, plainKeys := false, apart := false, narrowed := true }
def PostTrueUptoSaid : Prop := postTrueUptoRow.holds Try.pinned (OpenSpec.upto postTrueSpec)

/-- 'dipworkslaw05.PostPlaces', WHERE WHAT IT READS IS OF BULK AT MOST 1048576: true; the input reads as it did. -/
def postPlacesUptoRow : OpenClaim := { program := "ytkhmmefgllbobaa", sum := "d12e13abc797b10d3c3f50773fc972436be3602ecaf0b1c317f4f2b02451d956", func := "dipworks/dipworkslaw05.PostPlaces", spec := "postPlaces", unfollowed := true, recurses := true, plainKeys := false, apart := false, narrowed := true }
def PostPlacesUptoSaid : Prop := postPlacesUptoRow.holds Try.pinned (OpenSpec.upto postPlacesSpec)

/-- 'dipworkslaw05.PostNear', WHERE WHAT IT READS IS OF BULK AT MOST 1048576: true; the input reads as it did. -/
def postNearUptoRow : OpenClaim := { program := "ytkhmmefgllbobaa", sum := "d12e13abc797b10d3c3f50773fc972436be3602ecaf0b1c317f4f2b02451d956", func := "dipworks/dipworkslaw05.PostNear", spec := "postNear", unfollowed := true, recurses := true, plainKeys := false, apart := false, narrowed := true }
def PostNearUptoSaid : Prop := postNearUptoRow.holds Try.pinned (OpenSpec.upto postNearSpec)

/-- 'dipworkslaw05.PostBreaks', WHERE WHAT IT READS IS OF BULK AT MOST 1048576: true; the input reads as it did. -/
def postBreaksUptoRow : OpenClaim := { program := "ytkhmmefgllbobaa", sum := "d12e13abc797b10d3c3f50773fc972436be3602ecaf0b1c317f4f2b02451d956", func := "dipworks/dipworkslaw05.PostBreaks", spec := "postBreaks", unfollowed := true, recurses := true, plainKeys := false, apart := false, narrowed := true }
def PostBreaksUptoSaid : Prop := postBreaksUptoRow.holds Try.pinned (OpenSpec.upto postBreaksSpec)

/-- 'dipworkslaw05.PostClash', WHERE WHAT IT READS IS OF BULK AT MOST 1048576: true; the input reads as it did. -/
def postClashUptoRow : OpenClaim := { program := "ytkhmmefgllbobaa", sum := "d12e13abc797b10d3c3f50773fc972436be3602ecaf0b1c317f4f2b02451d956", func := "dipworks/dipworkslaw05.PostClash", spec := "postClash", unfollowed := true, recurses := true, plainKeys := false, apart := false, narrowed := true }
def PostClashUptoSaid : Prop := postClashUptoRow.holds Try.pinned (OpenSpec.upto postClashSpec)

/-- 'dipworkslaw05.PostMore', WHERE WHAT IT READS IS OF BULK AT MOST 1048576: true; the input reads as it did. -/
def postMoreUptoRow : OpenClaim := { program := "ytkhmmefgllbobaa", sum := "d12e13abc797b10d3c3f50773fc972436be3602ecaf0b1c317f4f2b02451d956", func := "dipworks/dipworkslaw05.PostMore", spec := "postMore", unfollowed := true, recurses := true, plainKeys := false, apart := false, narrowed := true }
def PostMoreUptoSaid : Prop := postMoreUptoRow.holds Try.pinned (OpenSpec.upto postMoreSpec)

/-- 'dipworkslaw05.PostTurned', WHERE WHAT IT READS IS OF BULK AT MOST 1048576: true; the input reads as it did. -/
def postTurnedUptoRow : OpenClaim := { program := "ytkhmmefgllbobaa", sum := "d12e13abc797b10d3c3f50773fc972436be3602ecaf0b1c317f4f2b02451d956", func := "dipworks/dipworkslaw05.PostTurned", spec := "postTurned", unfollowed := true, recurses := true, plainKeys := false, apart := false, narrowed := true }
def PostTurnedUptoSaid : Prop := postTurnedUptoRow.holds Try.pinned (OpenSpec.upto postTurnedSpec)

end Rows
end Go.Proofs.Ytkhmmefgllbobaa
