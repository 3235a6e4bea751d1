/-
  No cell of these rows narrows 'for every input' (looked for: loops, veiled, ifaces, maps, wideKeys, modest, calm, conditions, laid).
  DERIVED. THE GIVEN ROWS OF THIS SEAT. 5 by the template 'for every input the law returns true; each argument reads behind the call as it read before'; 0 by the template 'total and deterministic' (their statements: YtpnbkdlejfmbeaaGreatTotals.lean).
  GIVEN WITH THE SEED: the statements are not yours to turn. If you find one false, say at which input.
  Laid BY PROGRAM, IN A SANDBOX (cutbox-rows.mjs): the forced cells as the released guide's own fill.sh prints them over the translation 23b5859a4b1721cf… (all of the seat's roots in one cut). By AI agents, Wed Nov 11 2026. No macro, syntax, notation, axiom, sorry.
-/
import Derived.Test.YtpnbkdlejfmbeaaGreatChecked
import GoSem.Claim
import GoSem.ClaimJoined
import GoSem.ClaimMapViews
import Derived.JoinedTies
import Derived.KernelRfl
namespace Go.Proofs.YtpnbkdlejfmbeaaGreat
/- THE CELL 'sum', in the pinned program and in every row, IS THE sha256 OF THE DUMP (.gsa) THAT YtpnbkdlejfmbeaaGreatProg.lean LOADS. Nothing in Lean hashes anything: it is a label: what it is worth is what the hold of that sum in a sandbox is worth. -/
noncomputable def Tryz.pinned : Pinned := { name := "ytpnbkdlejfmbeaagreat", sum := "23b5859a4b1721cf1ea32268d3e6ffed0eb0a72f2a5d2879c398217c3c6c16ac", checked := Tryz.checked }
namespace Rows
def none {H : Type} : Left H := { results := [], args := [] }

/-- 'dipworkslaw13.TillTells': WHATEVER THE INPUT: true; the input reads as it did. -/
def tillTellsSpec : ChangeSpec := { name := "tillTells", fn := fun _ => fun
  | [d1, d2] => { results := [.lit (.bool true)], args := [d1, d2] }
  | _ => none }
def tillTellsRow : OpenClaim := { program := "ytpnbkdlejfmbeaagreat", sum := "23b5859a4b1721cf1ea32268d3e6ffed0eb0a72f2a5d2879c398217c3c6c16ac", func := "dipworks/dipworkslaw13.TillTells", spec := "tillTells", unfollowed := true, recurses := true, plainKeys := false, apart := false }
def TillTellsSaid : Prop := tillTellsRow.holds Tryz.pinned (OpenSpec.ofChange tillTellsSpec)

/-- ITS FALSE NEIGHBOUR: 'it returns false'. Refute it at one input. -/
def tillTellsWrong : ChangeSpec := { name := "tillTells", fn := fun _ => fun
  | [d1, d2] => { results := [.lit (.bool false)], args := [d1, d2] }
  | _ => none }
def TillTellsWrongFalsely : Prop := tillTellsRow.holds Tryz.pinned (OpenSpec.ofChange tillTellsWrong)

/-- 'dipworkslaw13.TillBooks': WHATEVER THE INPUT: true; the input reads as it did. -/
def tillBooksSpec : ChangeSpec := { name := "tillBooks", fn := fun _ => fun
  | [d1, d2] => { results := [.lit (.bool true)], args := [d1, d2] }
  | _ => none }
def tillBooksRow : OpenClaim := { program := "ytpnbkdlejfmbeaagreat", sum := "23b5859a4b1721cf1ea32268d3e6ffed0eb0a72f2a5d2879c398217c3c6c16ac", func := "dipworks/dipworkslaw13.TillBooks", spec := "tillBooks", unfollowed := true, recurses := true, plainKeys := false, apart := false }
def TillBooksSaid : Prop := tillBooksRow.holds Tryz.pinned (OpenSpec.ofChange tillBooksSpec)

/-- ITS FALSE NEIGHBOUR: 'it returns false'. Refute it at one input. -/
def tillBooksWrong : ChangeSpec := { name := "tillBooks", fn := fun _ => fun
  | [d1, d2] => { results := [.lit (.bool false)], args := [d1, d2] }
  | _ => none }
def TillBooksWrongFalsely : Prop := tillBooksRow.holds Tryz.pinned (OpenSpec.ofChange tillBooksWrong)

/-- 'dipworkslaw13.TillCheck': WHATEVER THE INPUT: true; the input reads as it did. -/
def tillCheckSpec : ChangeSpec := { name := "tillCheck", fn := fun _ => fun
  | [d1, d2, d3] => { results := [.lit (.bool true)], args := [d1, d2, d3] }
  | _ => none }
def tillCheckRow : OpenClaim := { program := "ytpnbkdlejfmbeaagreat", sum := "23b5859a4b1721cf1ea32268d3e6ffed0eb0a72f2a5d2879c398217c3c6c16ac", func := "dipworks/dipworkslaw13.TillCheck", spec := "tillCheck", unfollowed := true, recurses := true, plainKeys := false, apart := false }
def TillCheckSaid : Prop := tillCheckRow.holds Tryz.pinned (OpenSpec.ofChange tillCheckSpec)

/-- ITS FALSE NEIGHBOUR: 'it returns false'. Refute it at one input. -/
def tillCheckWrong : ChangeSpec := { name := "tillCheck", fn := fun _ => fun
  | [d1, d2, d3] => { results := [.lit (.bool false)], args := [d1, d2, d3] }
  | _ => none }
def TillCheckWrongFalsely : Prop := tillCheckRow.holds Tryz.pinned (OpenSpec.ofChange tillCheckWrong)

/-- 'dipworkslaw13.TillMissing': WHATEVER THE INPUT: true; the input reads as it did. -/
def tillMissingSpec : ChangeSpec := { name := "tillMissing", fn := fun _ => fun
  | [d1, d2, d3, d4] => { results := [.lit (.bool true)], args := [d1, d2, d3, d4] }
  | _ => none }
def tillMissingRow : OpenClaim := { program := "ytpnbkdlejfmbeaagreat", sum := "23b5859a4b1721cf1ea32268d3e6ffed0eb0a72f2a5d2879c398217c3c6c16ac", func := "dipworks/dipworkslaw13.TillMissing", spec := "tillMissing", unfollowed := true, recurses := true, plainKeys := false, apart := false }
def TillMissingSaid : Prop := tillMissingRow.holds Tryz.pinned (OpenSpec.ofChange tillMissingSpec)

/-- ITS FALSE NEIGHBOUR: 'it returns false'. Refute it at one input. -/
def tillMissingWrong : ChangeSpec := { name := "tillMissing", fn := fun _ => fun
  | [d1, d2, d3, d4] => { results := [.lit (.bool false)], args := [d1, d2, d3, d4] }
  | _ => none }
def TillMissingWrongFalsely : Prop := tillMissingRow.holds Tryz.pinned (OpenSpec.ofChange tillMissingWrong)

/-- 'dipworkslaw13.TillMore': WHATEVER THE INPUT: true; the input reads as it did. -/
def tillMoreSpec : ChangeSpec := { name := "tillMore", fn := fun _ => fun
  | [d1, d2, d3, d4] => { results := [.lit (.bool true)], args := [d1, d2, d3, d4] }
  | _ => none }
def tillMoreRow : OpenClaim := { program := "ytpnbkdlejfmbeaagreat", sum := "23b5859a4b1721cf1ea32268d3e6ffed0eb0a72f2a5d2879c398217c3c6c16ac", func := "dipworks/dipworkslaw13.TillMore", spec := "tillMore", unfollowed := true, recurses := true, plainKeys := false, apart := false }
def TillMoreSaid : Prop := tillMoreRow.holds Tryz.pinned (OpenSpec.ofChange tillMoreSpec)

/-- ITS FALSE NEIGHBOUR: 'it returns false'. Refute it at one input. -/
def tillMoreWrong : ChangeSpec := { name := "tillMore", fn := fun _ => fun
  | [d1, d2, d3, d4] => { results := [.lit (.bool false)], args := [d1, d2, d3, d4] }
  | _ => none }
def TillMoreWrongFalsely : Prop := tillMoreRow.holds Tryz.pinned (OpenSpec.ofChange tillMoreWrong)

/- THE SECOND FORM. 'bulk': how many values and letters a reading holds, each counted each time it is reached (what is shared counts as often as it is met; a slice's spare places count too). A statement '..UptoSaid' is the law's where the arguments, and the package variables that the reading takes, are together of bulk at most 1048576: NARROWER than '..Said'. Prove '..Said' where nothing that the law and all that it calls make is longer than what came in: it says more and counts as full. Else prove '..UptoSaid'. A law counts once. -/
mutual
def uptoBulk {H : Type} : DataW H → Nat
  | .lit (.string bytes) => bytes.length + 1
  | .lit _ => 1
  | .nil => 1
  | .ptr d => uptoBulk d + 1
  | .slice elems spare => uptoBulkAll elems + uptoBulkAll spare + 1
  | .agg parts => uptoBulkAll parts + 1
  | .iface _ d => uptoBulk d + 1
  | .map entries => uptoBulkEntries entries + 1
  | .held _ => 1
def uptoBulkAll {H : Type} : List (DataW H) → Nat
  | [] => 0
  | d :: r => uptoBulk d + uptoBulkAll r
def uptoBulkEntries {H : Type} : List (Lit × DataW H) → Nat
  | [] => 0
  | x :: r => uptoBulkEntry x + uptoBulkEntries r
def uptoBulkEntry {H : Type} : Lit × DataW H → Nat
  | (.string bytes, d) => bytes.length + uptoBulk d + 1
  | (_, d) => uptoBulk d + 1
 end
def uptoSmall : (H : Type) → List (DataW H) → Bool := fun _ ds => decide (uptoBulkAll ds ≤ 1048576)
def OpenSpec.upto (s : _root_.Go.ChangeSpec) : _root_.Go.OpenSpec := { _root_.Go.OpenSpec.ofChange s with cond := some uptoSmall }

/-- 'dipworkslaw13.TillTells', WHERE WHAT IT READS IS OF BULK AT MOST 1048576: true; the input reads as it did. -/
def tillTellsUptoRow : OpenClaim := { program := "ytpnbkdlejfmbeaagreat", sum := "23b5859a4b1721cf1ea32268d3e6ffed0eb0a72f2a5d2879c398217c3c6c16ac", func := "dipworks/dipworkslaw13.TillTells", spec := "tillTells", unfollowed := true, recurses := true, plainKeys := false, apart := false, narrowed := true }
def TillTellsUptoSaid : Prop := tillTellsUptoRow.holds Tryz.pinned (OpenSpec.upto tillTellsSpec)

/-- 'dipworkslaw13.TillBooks', WHERE WHAT IT READS IS OF BULK AT MOST 1048576: true; the input reads as it did. -/
def tillBooksUptoRow : OpenClaim := { program := "ytpnbkdlejfmbeaagreat", sum := "23b5859a4b1721cf1ea32268d3e6ffed0eb0a72f2a5d2879c398217c3c6c16ac", func := "dipworks/dipworkslaw13.TillBooks", spec := "tillBooks", unfollowed := true, recurses := true, plainKeys := false, apart := false, narrowed := true }
def TillBooksUptoSaid : Prop := tillBooksUptoRow.holds Tryz.pinned (OpenSpec.upto tillBooksSpec)

/-- 'dipworkslaw13.TillCheck', WHERE WHAT IT READS IS OF BULK AT MOST 1048576: true; the input reads as it did. -/
def tillCheckUptoRow : OpenClaim := { program := "ytpnbkdlejfmbeaagreat", sum := "23b5859a4b1721cf1ea32268d3e6ffed0eb0a72f2a5d2879c398217c3c6c16ac", func := "dipworks/dipworkslaw13.TillCheck", spec := "tillCheck", unfollowed := true, recurses := true, plainKeys := false, apart := false, narrowed := true }
def TillCheckUptoSaid : Prop := tillCheckUptoRow.holds Tryz.pinned (OpenSpec.upto tillCheckSpec)

/-- 'dipworkslaw13.TillMissing', WHERE WHAT IT READS IS OF BULK AT MOST 1048576: true; the input reads as it did. -/
def tillMissingUptoRow : OpenClaim := { program := "ytpnbkdlejfmbeaagreat", sum := "23b5859a4b1721cf1ea32268d3e6ffed0eb0a72f2a5d2879c398217c3c6c16ac", func := "dipworks/dipworkslaw13.TillMissing", spec := "tillMissing", unfollowed := true, recurses := true, plainKeys := false, apart := false, narrowed := true }
def TillMissingUptoSaid : Prop := tillMissingUptoRow.holds Tryz.pinned (OpenSpec.upto tillMissingSpec)

/-- 'dipworkslaw13.TillMore', WHERE WHAT IT READS IS OF BULK AT MOST 1048576: true; the input reads as it did. -/
def tillMoreUptoRow : OpenClaim := { program := "ytpnbkdlejfmbeaagreat", sum := "23b5859a4b1721cf1ea32268d3e6ffed0eb0a72f2a5d2879c398217c3c6c16ac", func := "dipworks/dipworkslaw13.TillMore", spec := "tillMore", unfollowed := true, recurses := true, plainKeys := false, apart := false, narrowed := true }
def TillMoreUptoSaid : Prop := tillMoreUptoRow.holds Tryz.pinned (OpenSpec.upto tillMoreSpec)

end Rows
end Go.Proofs.YtpnbkdlejfmbeaaGreat
