/-
  No cell of these rows narrows 'for every input' (looked for: loops, veiled, ifaces, maps, wideKeys, modest, calm, conditions, laid).
  DERIVED. THE GIVEN ROWS OF THIS SEAT. 5 by the template 'for every input the law returns true; each argument reads behind the call as it read before'; 0 by the template 'total and deterministic' (their statements: YtpnbkdlejfmbeaaTotals.lean).
  GIVEN WITH THE SEED: the statements are not yours to turn. If you find one false, say at which input.
  Laid BY PROGRAM, IN A SANDBOX (cutbox-rows.mjs): the forced cells as the released guide's own fill.sh prints them over the translation 16f46a96521bd39c… (all of the seat's roots in one cut). By AI agents, Wed Nov 11 2026. No macro, syntax, notation, axiom, sorry.
-/
import Derived.Test.YtpnbkdlejfmbeaaChecked
import GoSem.Claim
import GoSem.ClaimJoined
import GoSem.ClaimMapViews
import Derived.JoinedTies
import Derived.KernelRfl
namespace Go.Proofs.Ytpnbkdlejfmbeaa
/- THE CELL 'sum', in the pinned program and in every row, IS THE sha256 OF THE DUMP (.gsa) THAT YtpnbkdlejfmbeaaProg.lean LOADS. Nothing in Lean hashes anything: it is a label: what it is worth is what the hold of that sum in a sandbox is worth. -/
noncomputable def Try.pinned : Pinned := { name := "ytpnbkdlejfmbeaa", sum := "16f46a96521bd39c8cfeb2d95acf8547e15957d7f7a22a3f0643baa98c25f612", checked := Try.checked }
namespace Rows
def none {H : Type} : Left H := { results := [], args := [] }

/-- 'dipworkslaw13.TillSplits': WHATEVER THE INPUT: true; the input reads as it did. -/
def tillSplitsSpec : ChangeSpec := { name := "tillSplits", fn := fun _ => fun
  | [d1, d2] => { results := [.lit (.bool true)], args := [d1, d2] }
  | _ => none }
def tillSplitsRow : OpenClaim := { program := "ytpnbkdlejfmbeaa", sum := "16f46a96521bd39c8cfeb2d95acf8547e15957d7f7a22a3f0643baa98c25f612", func := "dipworks/dipworkslaw13.TillSplits", spec := "tillSplits", unfollowed := true, recurses := true, plainKeys := false, apart := false }
def TillSplitsSaid : Prop := tillSplitsRow.holds Try.pinned (OpenSpec.ofChange tillSplitsSpec)

/-- ITS FALSE NEIGHBOUR: 'it returns false'. Refute it at one input. -/
def tillSplitsWrong : ChangeSpec := { name := "tillSplits", fn := fun _ => fun
  | [d1, d2] => { results := [.lit (.bool false)], args := [d1, d2] }
  | _ => none }
def TillSplitsWrongFalsely : Prop := tillSplitsRow.holds Try.pinned (OpenSpec.ofChange tillSplitsWrong)

/-- 'dipworkslaw13.TillNames': WHATEVER THE INPUT: true; the input reads as it did. -/
def tillNamesSpec : ChangeSpec := { name := "tillNames", fn := fun _ => fun
  | [] => { results := [.lit (.bool true)], args := [] }
  | _ => none }
def tillNamesRow : OpenClaim := { program := "ytpnbkdlejfmbeaa", sum := "16f46a96521bd39c8cfeb2d95acf8547e15957d7f7a22a3f0643baa98c25f612", func := "dipworks/dipworkslaw13.TillNames", spec := "tillNames", unfollowed := true, recurses := true, plainKeys := false, apart := false }
def TillNamesSaid : Prop := tillNamesRow.holds Try.pinned (OpenSpec.ofChange tillNamesSpec)

/-- ITS FALSE NEIGHBOUR: 'it returns false'. Refute it at one input. -/
def tillNamesWrong : ChangeSpec := { name := "tillNames", fn := fun _ => fun
  | [] => { results := [.lit (.bool false)], args := [] }
  | _ => none }
def TillNamesWrongFalsely : Prop := tillNamesRow.holds Try.pinned (OpenSpec.ofChange tillNamesWrong)

/-- 'dipworkslaw13.TillTrue': WHATEVER THE INPUT: true; the input reads as it did. -/
def tillTrueSpec : ChangeSpec := { name := "tillTrue", fn := fun _ => fun
  | [d] => { results := [.lit (.bool true)], args := [d] }
  | _ => none }
def tillTrueRow : OpenClaim := { program := "ytpnbkdlejfmbeaa", sum := "16f46a96521bd39c8cfeb2d95acf8547e15957d7f7a22a3f0643baa98c25f612", func := "dipworks/dipworkslaw13.TillTrue", spec := "tillTrue", unfollowed := true, recurses := true, plainKeys := false, apart := false }
def TillTrueSaid : Prop := tillTrueRow.holds Try.pinned (OpenSpec.ofChange tillTrueSpec)

/-- ITS FALSE NEIGHBOUR: 'it returns false'. Refute it at one input. -/
def tillTrueWrong : ChangeSpec := { name := "tillTrue", fn := fun _ => fun
  | [d] => { results := [.lit (.bool false)], args := [d] }
  | _ => none }
def TillTrueWrongFalsely : Prop := tillTrueRow.holds Try.pinned (OpenSpec.ofChange tillTrueWrong)

/-- 'dipworkslaw13.TillSpans': WHATEVER THE INPUT: true; the input reads as it did. -/
def tillSpansSpec : ChangeSpec := { name := "tillSpans", fn := fun _ => fun
  | [d1, d2] => { results := [.lit (.bool true)], args := [d1, d2] }
  | _ => none }
def tillSpansRow : OpenClaim := { program := "ytpnbkdlejfmbeaa", sum := "16f46a96521bd39c8cfeb2d95acf8547e15957d7f7a22a3f0643baa98c25f612", func := "dipworks/dipworkslaw13.TillSpans", spec := "tillSpans", unfollowed := true, recurses := true, plainKeys := false, apart := false }
def TillSpansSaid : Prop := tillSpansRow.holds Try.pinned (OpenSpec.ofChange tillSpansSpec)

/-- ITS FALSE NEIGHBOUR: 'it returns false'. Refute it at one input. -/
def tillSpansWrong : ChangeSpec := { name := "tillSpans", fn := fun _ => fun
  | [d1, d2] => { results := [.lit (.bool false)], args := [d1, d2] }
  | _ => none }
def TillSpansWrongFalsely : Prop := tillSpansRow.holds Try.pinned (OpenSpec.ofChange tillSpansWrong)

/-- 'dipworkslaw13.TillSplit': WHATEVER THE INPUT: true; the input reads as it did. -/
def tillSplitSpec : ChangeSpec := { name := "tillSplit", fn := fun _ => fun
  | [d1, d2] => { results := [.lit (.bool true)], args := [d1, d2] }
  | _ => none }
def tillSplitRow : OpenClaim := { program := "ytpnbkdlejfmbeaa", sum := "16f46a96521bd39c8cfeb2d95acf8547e15957d7f7a22a3f0643baa98c25f612", func := "dipworks/dipworkslaw13.TillSplit", spec := "tillSplit", unfollowed := true, recurses := true, plainKeys := false, apart := false }
def TillSplitSaid : Prop := tillSplitRow.holds Try.pinned (OpenSpec.ofChange tillSplitSpec)

/-- ITS FALSE NEIGHBOUR: 'it returns false'. Refute it at one input. -/
def tillSplitWrong : ChangeSpec := { name := "tillSplit", fn := fun _ => fun
  | [d1, d2] => { results := [.lit (.bool false)], args := [d1, d2] }
  | _ => none }
def TillSplitWrongFalsely : Prop := tillSplitRow.holds Try.pinned (OpenSpec.ofChange tillSplitWrong)

/- THE SECOND FORM. 'bulk': how many values and letters a reading holds, each counted each time it is reached (what is shared counts as often as it is met; a slice's spare places count too). A statement '..UptoSaid' is the law's where the arguments, and the package variables that the reading takes, are together of bulk at most 1048576: NARROWER than '..Said'. Prove '..Said' where nothing that the law and all that it calls make is longer than what came in: it says more and counts as full. Else prove '..UptoSaid'. A law counts once. -/
mutual
def uptoBulk {H : Type} : DataW H → Nat
  | .lit (.string bytes) => bytes.length + 1
  | .lit _ => 1
  | .nil => 1
  | .ptr d => uptoBulk d + 1
  | .slice elems spare => uptoBulkAll elems + uptoBulkAll spare + 1
  | .agg parts => uptoBulkAll parts + 1
  | .iface _ d => uptoBulk d + 1
  | .map entries => uptoBulkEntries entries + 1
  | .held _ => 1
def uptoBulkAll {H : Type} : List (DataW H) → Nat
  | [] => 0
  | d :: r => uptoBulk d + uptoBulkAll r
def uptoBulkEntries {H : Type} : List (Lit × DataW H) → Nat
  | [] => 0
  | x :: r => uptoBulkEntry x + uptoBulkEntries r
def uptoBulkEntry {H : Type} : Lit × DataW H → Nat
  | (.string bytes, d) => bytes.length + uptoBulk d + 1
  | (_, d) => uptoBulk d + 1
 end
def uptoSmall : (H : Type) → List (DataW H) → Bool := fun _ ds => decide (uptoBulkAll ds ≤ 1048576)
def OpenSpec.upto (s : _root_.Go.ChangeSpec) : _root_.Go.OpenSpec := { _root_.Go.OpenSpec.ofChange s with cond := some uptoSmall }

/-- 'dipworkslaw13.TillSplits', WHERE WHAT IT READS IS OF BULK AT MOST 1048576: true; the input reads as it did. -/
def tillSplitsUptoRow : OpenClaim := { program := "ytpnbkdlejfmbeaa", sum := "16f46a96521bd39c8cfeb2d95acf8547e15957d7f7a22a3f0643baa98c25f612", func := "dipworks/dipworkslaw13.TillSplits", spec := "tillSplits", unfollowed := true, recurses := true, plainKeys := false, apart := false, narrowed := true }
def TillSplitsUptoSaid : Prop := tillSplitsUptoRow.holds Try.pinned (OpenSpec.upto tillSplitsSpec)

/-- 'dipworkslaw13.TillNames', WHERE WHAT IT READS IS OF BULK AT MOST 1048576: true; the input reads as it did. -/
def tillNamesUptoRow : OpenClaim := { program := "ytpnbkdlejfmbeaa", sum := "16f46a96521bd39c8cfeb2d95acf8547e15957d7f7a22a3f0643baa98c25f612", func := "dipworks/dipworkslaw13.TillNames", spec := "tillNames", unfollowed := true, recurses := true, plainKeys := false, apart := false, narrowed := true }
def TillNamesUptoSaid : Prop := tillNamesUptoRow.holds Try.pinned (OpenSpec.upto tillNamesSpec)

/-- 'dipworkslaw13.TillTrue', WHERE WHAT IT READS IS OF BULK AT MOST 1048576: true; the input reads as it did. -/
def tillTrueUptoRow : OpenClaim := { program := "ytpnbkdlejfmbeaa", sum := "16f46a96521bd39c8cfeb2d95acf8547e15957d7f7a22a3f0643baa98c25f612", func := "dipworks/dipworkslaw13.TillTrue", spec := "tillTrue", unfollowed := true, recurses := true, plainKeys := false, apart := false, narrowed := true }
def TillTrueUptoSaid : Prop := tillTrueUptoRow.holds Try.pinned (OpenSpec.upto tillTrueSpec)

/-- 'dipworkslaw13.TillSpans', WHERE WHAT IT READS IS OF BULK AT MOST 1048576: true; the input reads as it did. -/
def tillSpansUptoRow : OpenClaim := { program := "ytpnbkdlejfmbeaa", sum := "16f46a96521bd39c8cfeb2d95acf8547e15957d7f7a22a3f0643baa98c25f612", func := "dipworks/dipworkslaw13.TillSpans", spec := "tillSpans", unfollowed := true, recurses := true, plainKeys := false, apart := false, narrowed := true }
def TillSpansUptoSaid : Prop := tillSpansUptoRow.holds Try.pinned (OpenSpec.upto tillSpansSpec)

/-- 'dipworkslaw13.TillSplit', WHERE WHAT IT READS IS OF BULK AT MOST 1048576: true; the input reads as it did. -/
def tillSplitUptoRow : OpenClaim := { program := "ytpnbkdlejfmbeaa", sum := "16f46a96521bd39c8cfeb2d95acf8547e15957d7f7a22a3f0643baa98c25f612", func := "dipworks/dipworkslaw13.TillSplit", spec := "tillSplit", unfollowed := true, recurses := true, plainKeys := false, apart := false, narrowed := true }
def TillSplitUptoSaid : Prop := tillSplitUptoRow.holds Try.pinned (OpenSpec.upto tillSplitSpec)

end Rows
end Go.Proofs.Ytpnbkdlejfmbeaa
