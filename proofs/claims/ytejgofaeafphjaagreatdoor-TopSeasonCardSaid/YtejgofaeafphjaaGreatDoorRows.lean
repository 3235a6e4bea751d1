/-
  NARROWER THAN 'FOR EVERY INPUT', by the rows' own cells (each row's printed sentence says how): TopSeason: laid · WicketPlays: laid · WicketNames: laid · WicketRuns: laid · WicketRight: laid · WicketTickets: laid · WicketTides: laid · WicketBooks: laid · WicketStill: laid · WicketForm: laid.
  DERIVED. THE GIVEN ROWS OF THIS SEAT. 10 by the template 'for every input the law returns true; each argument reads behind the call as it read before'; 0 by the template 'total and deterministic' (their statements: YtejgofaeafphjaaGreatDoorTotals.lean).
  GIVEN WITH THE SEED: the statements are not yours to turn. If you find one false, say at which input.
  Laid BY PROGRAM, IN A SANDBOX (cutbox-rows.mjs): the forced cells as the released guide's own fill.sh prints them over the translation 9a76046f55958812… (all of the seat's roots in one cut). By AI agents, Wed Nov 11 2026. No macro, syntax, notation, axiom, sorry.
-/
import Derived.Test.YtejgofaeafphjaaGreatDoorChecked
import GoSem.PinnedTables
import GoSem.Claim
import GoSem.ClaimJoined
import GoSem.ClaimMapViews
import Derived.JoinedTies
import Derived.KernelRfl
namespace Go.Proofs.YtejgofaeafphjaaGreatDoor
/- THE CELL 'sum', in the pinned program and in every row, IS THE sha256 OF THE DUMP (.gsa) THAT YtejgofaeafphjaaGreatDoorProg.lean LOADS. Nothing in Lean hashes anything: it is a label: what it is worth is what the hold of that sum in a sandbox is worth. -/
noncomputable def Tryz.pinned : Pinned := { name := "ytejgofaeafphjaagreatdoor", sum := "9a76046f55958812eee3d3adbeb1c56187b9736a0b4984a35aa7318520f7c49d", checked := Tryz.checked }
namespace Rows
def none {H : Type} : Left H := { results := [], args := [] }

/- WHAT THE LISTED PACKAGE-LEVEL VARIABLES READ AS WHEN THE CALL BEGINS. Each datum BY PROGRAM (the guide's laid-datum.mjs) off the statement by which the dump's own 'gosem.cut.vars' lays the variable. In a bare row this is a premise. The card (YtejgofaeafphjaaGreatDoorCards.lean) ties it to the program's text. -/
def laid_math_bits_deBruijn32tab {H : Type} : DataW H := .agg [.lit (.int .u8 0), .lit (.int .u8 1), .lit (.int .u8 28), .lit (.int .u8 2), .lit (.int .u8 29), .lit (.int .u8 14), .lit (.int .u8 24), .lit (.int .u8 3), .lit (.int .u8 30), .lit (.int .u8 22), .lit (.int .u8 20), .lit (.int .u8 15), .lit (.int .u8 25), .lit (.int .u8 17), .lit (.int .u8 4), .lit (.int .u8 8), .lit (.int .u8 31), .lit (.int .u8 27), .lit (.int .u8 13), .lit (.int .u8 23), .lit (.int .u8 21), .lit (.int .u8 19), .lit (.int .u8 16), .lit (.int .u8 7), .lit (.int .u8 26), .lit (.int .u8 12), .lit (.int .u8 18), .lit (.int .u8 6), .lit (.int .u8 11), .lit (.int .u8 5), .lit (.int .u8 10), .lit (.int .u8 9)]
def laid_math_bits_deBruijn64tab {H : Type} : DataW H := .agg [.lit (.int .u8 0), .lit (.int .u8 1), .lit (.int .u8 56), .lit (.int .u8 2), .lit (.int .u8 57), .lit (.int .u8 49), .lit (.int .u8 28), .lit (.int .u8 3), .lit (.int .u8 61), .lit (.int .u8 58), .lit (.int .u8 42), .lit (.int .u8 50), .lit (.int .u8 38), .lit (.int .u8 29), .lit (.int .u8 17), .lit (.int .u8 4), .lit (.int .u8 62), .lit (.int .u8 47), .lit (.int .u8 59), .lit (.int .u8 36), .lit (.int .u8 45), .lit (.int .u8 43), .lit (.int .u8 51), .lit (.int .u8 22), .lit (.int .u8 53), .lit (.int .u8 39), .lit (.int .u8 33), .lit (.int .u8 30), .lit (.int .u8 24), .lit (.int .u8 18), .lit (.int .u8 12), .lit (.int .u8 5), .lit (.int .u8 63), .lit (.int .u8 55), .lit (.int .u8 48), .lit (.int .u8 27), .lit (.int .u8 60), .lit (.int .u8 41), .lit (.int .u8 37), .lit (.int .u8 16), .lit (.int .u8 46), .lit (.int .u8 35), .lit (.int .u8 44), .lit (.int .u8 21), .lit (.int .u8 52), .lit (.int .u8 32), .lit (.int .u8 23), .lit (.int .u8 11), .lit (.int .u8 54), .lit (.int .u8 26), .lit (.int .u8 40), .lit (.int .u8 15), .lit (.int .u8 34), .lit (.int .u8 20), .lit (.int .u8 31), .lit (.int .u8 10), .lit (.int .u8 25), .lit (.int .u8 14), .lit (.int .u8 19), .lit (.int .u8 9), .lit (.int .u8 13), .lit (.int .u8 8), .lit (.int .u8 7), .lit (.int .u8 6)]
def laid_internal_strconv_uint64pow10 {H : Type} : DataW H := .agg [.lit (.int .u64 1), .lit (.int .u64 10), .lit (.int .u64 100), .lit (.int .u64 1000), .lit (.int .u64 10000), .lit (.int .u64 100000), .lit (.int .u64 1000000), .lit (.int .u64 10000000), .lit (.int .u64 100000000), .lit (.int .u64 1000000000), .lit (.int .u64 10000000000), .lit (.int .u64 100000000000), .lit (.int .u64 1000000000000), .lit (.int .u64 10000000000000), .lit (.int .u64 100000000000000), .lit (.int .u64 1000000000000000), .lit (.int .u64 10000000000000000), .lit (.int .u64 100000000000000000), .lit (.int .u64 1000000000000000000), .lit (.int .u64 10000000000000000000)]
def laid_unicode_utf8_acceptRanges {H : Type} : DataW H := .agg [.agg [.lit (.int .u8 128), .lit (.int .u8 191)], .agg [.lit (.int .u8 160), .lit (.int .u8 191)], .agg [.lit (.int .u8 128), .lit (.int .u8 159)], .agg [.lit (.int .u8 144), .lit (.int .u8 191)], .agg [.lit (.int .u8 128), .lit (.int .u8 143)], .agg [.lit (.int .u8 0), .lit (.int .u8 0)], .agg [.lit (.int .u8 0), .lit (.int .u8 0)], .agg [.lit (.int .u8 0), .lit (.int .u8 0)], .agg [.lit (.int .u8 0), .lit (.int .u8 0)], .agg [.lit (.int .u8 0), .lit (.int .u8 0)], .agg [.lit (.int .u8 0), .lit (.int .u8 0)], .agg [.lit (.int .u8 0), .lit (.int .u8 0)], .agg [.lit (.int .u8 0), .lit (.int .u8 0)], .agg [.lit (.int .u8 0), .lit (.int .u8 0)], .agg [.lit (.int .u8 0), .lit (.int .u8 0)], .agg [.lit (.int .u8 0), .lit (.int .u8 0)]]
def laid_dipworks_tide_done {H : Type} : DataW H := .agg [.lit (.int .i64 0), .lit (.int .i64 1), .lit (.int .i64 3), .lit (.int .i64 6), .lit (.int .i64 9), .lit (.int .i64 11), .lit (.int .i64 12)]
def laid_strconv_ErrRange {H : Type} : DataW H := .iface "*errors.errorString" (.ptr (.agg [.lit (.string [118, 97, 108, 117, 101, 32, 111, 117, 116, 32, 111, 102, 32, 114, 97, 110, 103, 101])]))
def laid_strconv_ErrSyntax {H : Type} : DataW H := .iface "*errors.errorString" (.ptr (.agg [.lit (.string [105, 110, 118, 97, 108, 105, 100, 32, 115, 121, 110, 116, 97, 120])]))
def laid_dipworks_wicket_entries {H : Type} : DataW H := .agg [.lit (.string []), .lit (.string [112, 97, 121]), .lit (.string [102, 105, 110, 101]), .lit (.string [98, 97, 99, 107])]
/-- One of Go's own tables, pinned by name: the form's constant. -/
def laid_unicode_utf8_first : DataW Unit := Go.Pinned.utf8First
/-- One of Go's own tables, pinned by name: the form's constant. -/
def laid_unicode_CaseRanges : DataW Unit := Go.Pinned.caseRanges

/-- 'dipworkstop.TopSeason': WHATEVER THE INPUT: true; the input reads as it did. -/
def topSeasonSpec : ChangeSpec := { name := "topSeason", fn := fun _ => fun
  | [d1, d2, d3, d4, d5] => { results := [.lit (.bool true)], args := [d1, d2, d3, d4, d5] }
  | _ => none }
def topSeasonRow : OpenClaim := { program := "ytejgofaeafphjaagreatdoor", sum := "9a76046f55958812eee3d3adbeb1c56187b9736a0b4984a35aa7318520f7c49d", func := "dipworks/dipworkstop.TopSeason", spec := "topSeason", inPlace := ["internal/bytealg.CountString", "internal/bytealg.IndexByteString", "internal/bytealg.IndexString", "internal/abi.NoEscape", "internal/bytealg.MakeNoZero"], unfollowed := true, recurses := true, named := ["dipworks/tide.done", "unicode/utf8.first", "unicode/utf8.acceptRanges", "internal/bytealg.MaxLen", "dipworks/wicket.entries", "internal/strconv.uint64pow10", "math/bits.deBruijn32tab", "math/bits.deBruijn64tab", "strconv.ErrSyntax", "strconv.ErrRange"], plainKeys := false, apart := false, laid := [("math/bits.deBruijn32tab", laid_math_bits_deBruijn32tab), ("math/bits.deBruijn64tab", laid_math_bits_deBruijn64tab), ("internal/strconv.uint64pow10", laid_internal_strconv_uint64pow10), ("unicode/utf8.acceptRanges", laid_unicode_utf8_acceptRanges), ("dipworks/tide.done", laid_dipworks_tide_done), ("strconv.ErrRange", laid_strconv_ErrRange), ("strconv.ErrSyntax", laid_strconv_ErrSyntax), ("dipworks/wicket.entries", laid_dipworks_wicket_entries), ("unicode/utf8.first", laid_unicode_utf8_first)] }
def TopSeasonSaid : Prop := topSeasonRow.holds Tryz.pinned (OpenSpec.ofChange topSeasonSpec)

/-- ITS FALSE NEIGHBOUR: 'it returns false'. Refute it at one input. -/
def topSeasonWrong : ChangeSpec := { name := "topSeason", fn := fun _ => fun
  | [d1, d2, d3, d4, d5] => { results := [.lit (.bool false)], args := [d1, d2, d3, d4, d5] }
  | _ => none }
def TopSeasonWrongFalsely : Prop := topSeasonRow.holds Tryz.pinned (OpenSpec.ofChange topSeasonWrong)

/-- 'dipworkslaw15.WicketPlays': WHATEVER THE INPUT: true; the input reads as it did. -/
def wicketPlaysSpec : ChangeSpec := { name := "wicketPlays", fn := fun _ => fun
  | [d1, d2] => { results := [.lit (.bool true)], args := [d1, d2] }
  | _ => none }
def wicketPlaysRow : OpenClaim := { program := "ytejgofaeafphjaagreatdoor", sum := "9a76046f55958812eee3d3adbeb1c56187b9736a0b4984a35aa7318520f7c49d", func := "dipworks/dipworkslaw15.WicketPlays", spec := "wicketPlays", inPlace := ["internal/bytealg.CountString", "internal/bytealg.IndexByteString", "internal/bytealg.IndexString", "internal/abi.NoEscape", "internal/bytealg.MakeNoZero"], unfollowed := true, recurses := true, named := ["dipworks/tide.done", "unicode/utf8.first", "unicode/utf8.acceptRanges", "internal/bytealg.MaxLen", "dipworks/wicket.entries", "internal/strconv.uint64pow10", "math/bits.deBruijn32tab", "math/bits.deBruijn64tab", "strconv.ErrSyntax", "strconv.ErrRange"], plainKeys := false, apart := false, laid := [("math/bits.deBruijn32tab", laid_math_bits_deBruijn32tab), ("math/bits.deBruijn64tab", laid_math_bits_deBruijn64tab), ("internal/strconv.uint64pow10", laid_internal_strconv_uint64pow10), ("unicode/utf8.acceptRanges", laid_unicode_utf8_acceptRanges), ("dipworks/tide.done", laid_dipworks_tide_done), ("strconv.ErrRange", laid_strconv_ErrRange), ("strconv.ErrSyntax", laid_strconv_ErrSyntax), ("dipworks/wicket.entries", laid_dipworks_wicket_entries), ("unicode/utf8.first", laid_unicode_utf8_first)] }
def WicketPlaysSaid : Prop := wicketPlaysRow.holds Tryz.pinned (OpenSpec.ofChange wicketPlaysSpec)

/-- ITS FALSE NEIGHBOUR: 'it returns false'. Refute it at one input. -/
def wicketPlaysWrong : ChangeSpec := { name := "wicketPlays", fn := fun _ => fun
  | [d1, d2] => { results := [.lit (.bool false)], args := [d1, d2] }
  | _ => none }
def WicketPlaysWrongFalsely : Prop := wicketPlaysRow.holds Tryz.pinned (OpenSpec.ofChange wicketPlaysWrong)

/-- 'dipworkslaw15.WicketNames': WHATEVER THE INPUT: true; the input reads as it did. -/
def wicketNamesSpec : ChangeSpec := { name := "wicketNames", fn := fun _ => fun
  | [] => { results := [.lit (.bool true)], args := [] }
  | _ => none }
def wicketNamesRow : OpenClaim := { program := "ytejgofaeafphjaagreatdoor", sum := "9a76046f55958812eee3d3adbeb1c56187b9736a0b4984a35aa7318520f7c49d", func := "dipworks/dipworkslaw15.WicketNames", spec := "wicketNames", inPlace := ["internal/bytealg.CountString", "internal/bytealg.IndexByteString", "internal/bytealg.IndexString", "internal/abi.NoEscape", "internal/bytealg.MakeNoZero"], unfollowed := true, recurses := true, named := ["dipworks/tide.done", "unicode/utf8.first", "unicode/utf8.acceptRanges", "internal/bytealg.MaxLen", "dipworks/wicket.entries", "internal/strconv.uint64pow10", "math/bits.deBruijn32tab", "math/bits.deBruijn64tab", "strconv.ErrSyntax", "strconv.ErrRange"], plainKeys := false, apart := false, laid := [("math/bits.deBruijn32tab", laid_math_bits_deBruijn32tab), ("math/bits.deBruijn64tab", laid_math_bits_deBruijn64tab), ("internal/strconv.uint64pow10", laid_internal_strconv_uint64pow10), ("unicode/utf8.acceptRanges", laid_unicode_utf8_acceptRanges), ("dipworks/tide.done", laid_dipworks_tide_done), ("strconv.ErrRange", laid_strconv_ErrRange), ("strconv.ErrSyntax", laid_strconv_ErrSyntax), ("dipworks/wicket.entries", laid_dipworks_wicket_entries), ("unicode/utf8.first", laid_unicode_utf8_first)] }
def WicketNamesSaid : Prop := wicketNamesRow.holds Tryz.pinned (OpenSpec.ofChange wicketNamesSpec)

/-- ITS FALSE NEIGHBOUR: 'it returns false'. Refute it at one input. -/
def wicketNamesWrong : ChangeSpec := { name := "wicketNames", fn := fun _ => fun
  | [] => { results := [.lit (.bool false)], args := [] }
  | _ => none }
def WicketNamesWrongFalsely : Prop := wicketNamesRow.holds Tryz.pinned (OpenSpec.ofChange wicketNamesWrong)

/-- 'dipworkslaw15.WicketRuns': WHATEVER THE INPUT: true; the input reads as it did. -/
def wicketRunsSpec : ChangeSpec := { name := "wicketRuns", fn := fun _ => fun
  | [d1, d2] => { results := [.lit (.bool true)], args := [d1, d2] }
  | _ => none }
def wicketRunsRow : OpenClaim := { program := "ytejgofaeafphjaagreatdoor", sum := "9a76046f55958812eee3d3adbeb1c56187b9736a0b4984a35aa7318520f7c49d", func := "dipworks/dipworkslaw15.WicketRuns", spec := "wicketRuns", inPlace := ["internal/bytealg.CountString", "internal/bytealg.IndexByteString", "internal/bytealg.IndexString", "internal/abi.NoEscape", "internal/bytealg.MakeNoZero"], unfollowed := true, recurses := true, named := ["dipworks/tide.done", "unicode/utf8.first", "unicode/utf8.acceptRanges", "internal/bytealg.MaxLen", "dipworks/wicket.entries", "internal/strconv.uint64pow10", "math/bits.deBruijn32tab", "math/bits.deBruijn64tab", "strconv.ErrSyntax", "strconv.ErrRange"], plainKeys := false, apart := false, laid := [("math/bits.deBruijn32tab", laid_math_bits_deBruijn32tab), ("math/bits.deBruijn64tab", laid_math_bits_deBruijn64tab), ("internal/strconv.uint64pow10", laid_internal_strconv_uint64pow10), ("unicode/utf8.acceptRanges", laid_unicode_utf8_acceptRanges), ("dipworks/tide.done", laid_dipworks_tide_done), ("strconv.ErrRange", laid_strconv_ErrRange), ("strconv.ErrSyntax", laid_strconv_ErrSyntax), ("dipworks/wicket.entries", laid_dipworks_wicket_entries), ("unicode/utf8.first", laid_unicode_utf8_first)] }
def WicketRunsSaid : Prop := wicketRunsRow.holds Tryz.pinned (OpenSpec.ofChange wicketRunsSpec)

/-- ITS FALSE NEIGHBOUR: 'it returns false'. Refute it at one input. -/
def wicketRunsWrong : ChangeSpec := { name := "wicketRuns", fn := fun _ => fun
  | [d1, d2] => { results := [.lit (.bool false)], args := [d1, d2] }
  | _ => none }
def WicketRunsWrongFalsely : Prop := wicketRunsRow.holds Tryz.pinned (OpenSpec.ofChange wicketRunsWrong)

/-- 'dipworkslaw15.WicketRight': WHATEVER THE INPUT: true; the input reads as it did. -/
def wicketRightSpec : ChangeSpec := { name := "wicketRight", fn := fun _ => fun
  | [d1, d2] => { results := [.lit (.bool true)], args := [d1, d2] }
  | _ => none }
def wicketRightRow : OpenClaim := { program := "ytejgofaeafphjaagreatdoor", sum := "9a76046f55958812eee3d3adbeb1c56187b9736a0b4984a35aa7318520f7c49d", func := "dipworks/dipworkslaw15.WicketRight", spec := "wicketRight", inPlace := ["internal/bytealg.CountString", "internal/bytealg.IndexByteString", "internal/bytealg.IndexString", "internal/abi.NoEscape", "internal/bytealg.MakeNoZero"], unfollowed := true, recurses := true, named := ["dipworks/tide.done", "unicode/utf8.first", "unicode/utf8.acceptRanges", "internal/bytealg.MaxLen", "dipworks/wicket.entries", "internal/strconv.uint64pow10", "math/bits.deBruijn32tab", "math/bits.deBruijn64tab", "strconv.ErrSyntax", "strconv.ErrRange"], plainKeys := false, apart := false, laid := [("math/bits.deBruijn32tab", laid_math_bits_deBruijn32tab), ("math/bits.deBruijn64tab", laid_math_bits_deBruijn64tab), ("internal/strconv.uint64pow10", laid_internal_strconv_uint64pow10), ("unicode/utf8.acceptRanges", laid_unicode_utf8_acceptRanges), ("dipworks/tide.done", laid_dipworks_tide_done), ("strconv.ErrRange", laid_strconv_ErrRange), ("strconv.ErrSyntax", laid_strconv_ErrSyntax), ("dipworks/wicket.entries", laid_dipworks_wicket_entries), ("unicode/utf8.first", laid_unicode_utf8_first)] }
def WicketRightSaid : Prop := wicketRightRow.holds Tryz.pinned (OpenSpec.ofChange wicketRightSpec)

/-- ITS FALSE NEIGHBOUR: 'it returns false'. Refute it at one input. -/
def wicketRightWrong : ChangeSpec := { name := "wicketRight", fn := fun _ => fun
  | [d1, d2] => { results := [.lit (.bool false)], args := [d1, d2] }
  | _ => none }
def WicketRightWrongFalsely : Prop := wicketRightRow.holds Tryz.pinned (OpenSpec.ofChange wicketRightWrong)

/-- 'dipworkslaw15.WicketTickets': WHATEVER THE INPUT: true; the input reads as it did. -/
def wicketTicketsSpec : ChangeSpec := { name := "wicketTickets", fn := fun _ => fun
  | [d1, d2, d3, d4, d5, d6, d7, d8] => { results := [.lit (.bool true)], args := [d1, d2, d3, d4, d5, d6, d7, d8] }
  | _ => none }
def wicketTicketsRow : OpenClaim := { program := "ytejgofaeafphjaagreatdoor", sum := "9a76046f55958812eee3d3adbeb1c56187b9736a0b4984a35aa7318520f7c49d", func := "dipworks/dipworkslaw15.WicketTickets", spec := "wicketTickets", inPlace := ["internal/bytealg.CountString", "internal/bytealg.IndexByteString", "internal/bytealg.IndexString", "internal/abi.NoEscape", "internal/bytealg.MakeNoZero"], unfollowed := true, recurses := true, named := ["dipworks/tide.done", "unicode/utf8.first", "unicode/utf8.acceptRanges", "internal/bytealg.MaxLen", "dipworks/wicket.entries", "internal/strconv.uint64pow10", "math/bits.deBruijn32tab", "math/bits.deBruijn64tab", "strconv.ErrSyntax", "strconv.ErrRange"], plainKeys := false, apart := false, laid := [("math/bits.deBruijn32tab", laid_math_bits_deBruijn32tab), ("math/bits.deBruijn64tab", laid_math_bits_deBruijn64tab), ("internal/strconv.uint64pow10", laid_internal_strconv_uint64pow10), ("unicode/utf8.acceptRanges", laid_unicode_utf8_acceptRanges), ("dipworks/tide.done", laid_dipworks_tide_done), ("strconv.ErrRange", laid_strconv_ErrRange), ("strconv.ErrSyntax", laid_strconv_ErrSyntax), ("dipworks/wicket.entries", laid_dipworks_wicket_entries), ("unicode/utf8.first", laid_unicode_utf8_first)] }
def WicketTicketsSaid : Prop := wicketTicketsRow.holds Tryz.pinned (OpenSpec.ofChange wicketTicketsSpec)

/-- ITS FALSE NEIGHBOUR: 'it returns false'. Refute it at one input. -/
def wicketTicketsWrong : ChangeSpec := { name := "wicketTickets", fn := fun _ => fun
  | [d1, d2, d3, d4, d5, d6, d7, d8] => { results := [.lit (.bool false)], args := [d1, d2, d3, d4, d5, d6, d7, d8] }
  | _ => none }
def WicketTicketsWrongFalsely : Prop := wicketTicketsRow.holds Tryz.pinned (OpenSpec.ofChange wicketTicketsWrong)

/-- 'dipworkslaw15.WicketTides': WHATEVER THE INPUT: true; the input reads as it did. -/
def wicketTidesSpec : ChangeSpec := { name := "wicketTides", fn := fun _ => fun
  | [d1, d2, d3, d4, d5, d6, d7] => { results := [.lit (.bool true)], args := [d1, d2, d3, d4, d5, d6, d7] }
  | _ => none }
def wicketTidesRow : OpenClaim := { program := "ytejgofaeafphjaagreatdoor", sum := "9a76046f55958812eee3d3adbeb1c56187b9736a0b4984a35aa7318520f7c49d", func := "dipworks/dipworkslaw15.WicketTides", spec := "wicketTides", inPlace := ["internal/bytealg.CountString", "internal/bytealg.IndexByteString", "internal/bytealg.IndexString", "internal/abi.NoEscape", "internal/bytealg.MakeNoZero"], unfollowed := true, recurses := true, named := ["dipworks/tide.done", "unicode/utf8.first", "unicode/utf8.acceptRanges", "internal/bytealg.MaxLen", "dipworks/wicket.entries", "internal/strconv.uint64pow10", "math/bits.deBruijn32tab", "math/bits.deBruijn64tab", "strconv.ErrSyntax", "strconv.ErrRange"], plainKeys := false, apart := false, laid := [("math/bits.deBruijn32tab", laid_math_bits_deBruijn32tab), ("math/bits.deBruijn64tab", laid_math_bits_deBruijn64tab), ("internal/strconv.uint64pow10", laid_internal_strconv_uint64pow10), ("unicode/utf8.acceptRanges", laid_unicode_utf8_acceptRanges), ("dipworks/tide.done", laid_dipworks_tide_done), ("strconv.ErrRange", laid_strconv_ErrRange), ("strconv.ErrSyntax", laid_strconv_ErrSyntax), ("dipworks/wicket.entries", laid_dipworks_wicket_entries), ("unicode/utf8.first", laid_unicode_utf8_first)] }
def WicketTidesSaid : Prop := wicketTidesRow.holds Tryz.pinned (OpenSpec.ofChange wicketTidesSpec)

/-- ITS FALSE NEIGHBOUR: 'it returns false'. Refute it at one input. -/
def wicketTidesWrong : ChangeSpec := { name := "wicketTides", fn := fun _ => fun
  | [d1, d2, d3, d4, d5, d6, d7] => { results := [.lit (.bool false)], args := [d1, d2, d3, d4, d5, d6, d7] }
  | _ => none }
def WicketTidesWrongFalsely : Prop := wicketTidesRow.holds Tryz.pinned (OpenSpec.ofChange wicketTidesWrong)

/-- 'dipworkslaw15.WicketBooks': WHATEVER THE INPUT: true; the input reads as it did. -/
def wicketBooksSpec : ChangeSpec := { name := "wicketBooks", fn := fun _ => fun
  | [d1, d2, d3, d4, d5] => { results := [.lit (.bool true)], args := [d1, d2, d3, d4, d5] }
  | _ => none }
def wicketBooksRow : OpenClaim := { program := "ytejgofaeafphjaagreatdoor", sum := "9a76046f55958812eee3d3adbeb1c56187b9736a0b4984a35aa7318520f7c49d", func := "dipworks/dipworkslaw15.WicketBooks", spec := "wicketBooks", inPlace := ["internal/bytealg.CountString", "internal/bytealg.IndexByteString", "internal/bytealg.IndexString", "internal/abi.NoEscape", "internal/bytealg.MakeNoZero"], unfollowed := true, recurses := true, named := ["dipworks/tide.done", "unicode/utf8.first", "unicode/utf8.acceptRanges", "internal/bytealg.MaxLen", "dipworks/wicket.entries", "internal/strconv.uint64pow10", "math/bits.deBruijn32tab", "math/bits.deBruijn64tab", "strconv.ErrSyntax", "strconv.ErrRange"], plainKeys := false, apart := false, laid := [("math/bits.deBruijn32tab", laid_math_bits_deBruijn32tab), ("math/bits.deBruijn64tab", laid_math_bits_deBruijn64tab), ("internal/strconv.uint64pow10", laid_internal_strconv_uint64pow10), ("unicode/utf8.acceptRanges", laid_unicode_utf8_acceptRanges), ("dipworks/tide.done", laid_dipworks_tide_done), ("strconv.ErrRange", laid_strconv_ErrRange), ("strconv.ErrSyntax", laid_strconv_ErrSyntax), ("dipworks/wicket.entries", laid_dipworks_wicket_entries), ("unicode/utf8.first", laid_unicode_utf8_first)] }
def WicketBooksSaid : Prop := wicketBooksRow.holds Tryz.pinned (OpenSpec.ofChange wicketBooksSpec)

/-- ITS FALSE NEIGHBOUR: 'it returns false'. Refute it at one input. -/
def wicketBooksWrong : ChangeSpec := { name := "wicketBooks", fn := fun _ => fun
  | [d1, d2, d3, d4, d5] => { results := [.lit (.bool false)], args := [d1, d2, d3, d4, d5] }
  | _ => none }
def WicketBooksWrongFalsely : Prop := wicketBooksRow.holds Tryz.pinned (OpenSpec.ofChange wicketBooksWrong)

/-- 'dipworkslaw15.WicketStill': WHATEVER THE INPUT: true; the input reads as it did. -/
def wicketStillSpec : ChangeSpec := { name := "wicketStill", fn := fun _ => fun
  | [d1, d2, d3] => { results := [.lit (.bool true)], args := [d1, d2, d3] }
  | _ => none }
def wicketStillRow : OpenClaim := { program := "ytejgofaeafphjaagreatdoor", sum := "9a76046f55958812eee3d3adbeb1c56187b9736a0b4984a35aa7318520f7c49d", func := "dipworks/dipworkslaw15.WicketStill", spec := "wicketStill", inPlace := ["internal/bytealg.CountString", "internal/bytealg.IndexByteString", "internal/bytealg.IndexString", "internal/abi.NoEscape", "internal/bytealg.MakeNoZero"], unfollowed := true, recurses := true, named := ["dipworks/tide.done", "unicode/utf8.first", "unicode/utf8.acceptRanges", "internal/bytealg.MaxLen", "dipworks/wicket.entries", "internal/strconv.uint64pow10", "math/bits.deBruijn32tab", "math/bits.deBruijn64tab", "strconv.ErrSyntax", "strconv.ErrRange"], plainKeys := false, apart := false, laid := [("math/bits.deBruijn32tab", laid_math_bits_deBruijn32tab), ("math/bits.deBruijn64tab", laid_math_bits_deBruijn64tab), ("internal/strconv.uint64pow10", laid_internal_strconv_uint64pow10), ("unicode/utf8.acceptRanges", laid_unicode_utf8_acceptRanges), ("dipworks/tide.done", laid_dipworks_tide_done), ("strconv.ErrRange", laid_strconv_ErrRange), ("strconv.ErrSyntax", laid_strconv_ErrSyntax), ("dipworks/wicket.entries", laid_dipworks_wicket_entries), ("unicode/utf8.first", laid_unicode_utf8_first)] }
def WicketStillSaid : Prop := wicketStillRow.holds Tryz.pinned (OpenSpec.ofChange wicketStillSpec)

/-- ITS FALSE NEIGHBOUR: 'it returns false'. Refute it at one input. -/
def wicketStillWrong : ChangeSpec := { name := "wicketStill", fn := fun _ => fun
  | [d1, d2, d3] => { results := [.lit (.bool false)], args := [d1, d2, d3] }
  | _ => none }
def WicketStillWrongFalsely : Prop := wicketStillRow.holds Tryz.pinned (OpenSpec.ofChange wicketStillWrong)

/-- 'dipworkslaw15.WicketForm': WHATEVER THE INPUT: true; the input reads as it did. -/
def wicketFormSpec : ChangeSpec := { name := "wicketForm", fn := fun _ => fun
  | [d1, d2, d3, d4] => { results := [.lit (.bool true)], args := [d1, d2, d3, d4] }
  | _ => none }
def wicketFormRow : OpenClaim := { program := "ytejgofaeafphjaagreatdoor", sum := "9a76046f55958812eee3d3adbeb1c56187b9736a0b4984a35aa7318520f7c49d", func := "dipworks/dipworkslaw15.WicketForm", spec := "wicketForm", inPlace := ["internal/bytealg.CountString", "internal/bytealg.IndexByteString", "internal/bytealg.IndexString", "internal/abi.NoEscape", "internal/bytealg.MakeNoZero"], unfollowed := true, recurses := true, named := ["dipworks/tide.done", "unicode/utf8.first", "unicode/utf8.acceptRanges", "internal/bytealg.MaxLen", "dipworks/wicket.entries", "internal/strconv.uint64pow10", "math/bits.deBruijn32tab", "math/bits.deBruijn64tab", "strconv.ErrSyntax", "strconv.ErrRange", "unicode.CaseRanges"], plainKeys := false, apart := false, laid := [("math/bits.deBruijn32tab", laid_math_bits_deBruijn32tab), ("math/bits.deBruijn64tab", laid_math_bits_deBruijn64tab), ("internal/strconv.uint64pow10", laid_internal_strconv_uint64pow10), ("unicode/utf8.acceptRanges", laid_unicode_utf8_acceptRanges), ("dipworks/tide.done", laid_dipworks_tide_done), ("strconv.ErrRange", laid_strconv_ErrRange), ("strconv.ErrSyntax", laid_strconv_ErrSyntax), ("dipworks/wicket.entries", laid_dipworks_wicket_entries), ("unicode.CaseRanges", laid_unicode_CaseRanges), ("unicode/utf8.first", laid_unicode_utf8_first)] }
def WicketFormSaid : Prop := wicketFormRow.holds Tryz.pinned (OpenSpec.ofChange wicketFormSpec)

/-- ITS FALSE NEIGHBOUR: 'it returns false'. Refute it at one input. -/
def wicketFormWrong : ChangeSpec := { name := "wicketForm", fn := fun _ => fun
  | [d1, d2, d3, d4] => { results := [.lit (.bool false)], args := [d1, d2, d3, d4] }
  | _ => none }
def WicketFormWrongFalsely : Prop := wicketFormRow.holds Tryz.pinned (OpenSpec.ofChange wicketFormWrong)

/- THE SECOND FORM. 'bulk': how many values and letters a reading holds, each counted each time it is reached (what is shared counts as often as it is met; a slice's spare places count too). A statement '..UptoSaid' is the law's where the arguments, and the package variables that the reading takes, are together of bulk at most 1048576: NARROWER than '..Said'. Prove '..Said' where nothing that the law and all that it calls make is longer than what came in: it says more and counts as full. Else prove '..UptoSaid'. A law counts once. -/
mutual
def uptoBulk {H : Type} : DataW H → Nat
  | .lit (.string bytes) => bytes.length + 1
  | .lit _ => 1
  | .nil => 1
  | .ptr d => uptoBulk d + 1
  | .slice elems spare => uptoBulkAll elems + uptoBulkAll spare + 1
  | .agg parts => uptoBulkAll parts + 1
  | .iface _ d => uptoBulk d + 1
  | .map entries => uptoBulkEntries entries + 1
  | .held _ => 1
def uptoBulkAll {H : Type} : List (DataW H) → Nat
  | [] => 0
  | d :: r => uptoBulk d + uptoBulkAll r
def uptoBulkEntries {H : Type} : List (Lit × DataW H) → Nat
  | [] => 0
  | x :: r => uptoBulkEntry x + uptoBulkEntries r
def uptoBulkEntry {H : Type} : Lit × DataW H → Nat
  | (.string bytes, d) => bytes.length + uptoBulk d + 1
  | (_, d) => uptoBulk d + 1
 end
def uptoSmall : (H : Type) → List (DataW H) → Bool := fun _ ds => decide (uptoBulkAll ds ≤ 1048576)
def OpenSpec.upto (s : _root_.Go.ChangeSpec) : _root_.Go.OpenSpec := { _root_.Go.OpenSpec.ofChange s with cond := some uptoSmall }

/-- 'dipworkstop.TopSeason', WHERE WHAT IT READS IS OF BULK AT MOST 1048576: true; the input reads as it did. -/
def topSeasonUptoRow : OpenClaim := { program := "ytejgofaeafphjaagreatdoor", sum := "9a76046f55958812eee3d3adbeb1c56187b9736a0b4984a35aa7318520f7c49d", func := "dipworks/dipworkstop.TopSeason", spec := "topSeason", inPlace := ["internal/bytealg.CountString", "internal/bytealg.IndexByteString", "internal/bytealg.IndexString", "internal/abi.NoEscape", "internal/bytealg.MakeNoZero"], unfollowed := true, recurses := true, named := ["dipworks/tide.done", "unicode/utf8.first", "unicode/utf8.acceptRanges", "internal/bytealg.MaxLen", "dipworks/wicket.entries", "internal/strconv.uint64pow10", "math/bits.deBruijn32tab", "math/bits.deBruijn64tab", "strconv.ErrSyntax", "strconv.ErrRange"], plainKeys := false, apart := false, laid := [("math/bits.deBruijn32tab", laid_math_bits_deBruijn32tab), ("math/bits.deBruijn64tab", laid_math_bits_deBruijn64tab), ("internal/strconv.uint64pow10", laid_internal_strconv_uint64pow10), ("unicode/utf8.acceptRanges", laid_unicode_utf8_acceptRanges), ("dipworks/tide.done", laid_dipworks_tide_done), ("strconv.ErrRange", laid_strconv_ErrRange), ("strconv.ErrSyntax", laid_strconv_ErrSyntax), ("dipworks/wicket.entries", laid_dipworks_wicket_entries), ("unicode/utf8.first", laid_unicode_utf8_first)], narrowed := true }
def TopSeasonUptoSaid : Prop := topSeasonUptoRow.holds Tryz.pinned (OpenSpec.upto topSeasonSpec)

/-- 'dipworkslaw15.WicketPlays', WHERE WHAT IT READS IS OF BULK AT MOST 1048576: true; the input reads as it did. -/
def wicketPlaysUptoRow : OpenClaim := { program := "ytejgofaeafphjaagreatdoor", sum := "9a76046f55958812eee3d3adbeb1c56187b9736a0b4984a35aa7318520f7c49d", func := "dipworks/dipworkslaw15.WicketPlays", spec := "wicketPlays", inPlace := ["internal/bytealg.CountString", "internal/bytealg.IndexByteString", "internal/bytealg.IndexString", "internal/abi.NoEscape", "internal/bytealg.MakeNoZero"], unfollowed := true, recurses := true, named := ["dipworks/tide.done", "unicode/utf8.first", "unicode/utf8.acceptRanges", "internal/bytealg.MaxLen", "dipworks/wicket.entries", "internal/strconv.uint64pow10", "math/bits.deBruijn32tab", "math/bits.deBruijn64tab", "strconv.ErrSyntax", "strconv.ErrRange"], plainKeys := false, apart := false, laid := [("math/bits.deBruijn32tab", laid_math_bits_deBruijn32tab), ("math/bits.deBruijn64tab", laid_math_bits_deBruijn64tab), ("internal/strconv.uint64pow10", laid_internal_strconv_uint64pow10), ("unicode/utf8.acceptRanges", laid_unicode_utf8_acceptRanges), ("dipworks/tide.done", laid_dipworks_tide_done), ("strconv.ErrRange", laid_strconv_ErrRange), ("strconv.ErrSyntax", laid_strconv_ErrSyntax), ("dipworks/wicket.entries", laid_dipworks_wicket_entries), ("unicode/utf8.first", laid_unicode_utf8_first)], narrowed := true }
def WicketPlaysUptoSaid : Prop := wicketPlaysUptoRow.holds Tryz.pinned (OpenSpec.upto wicketPlaysSpec)

/-- 'dipworkslaw15.WicketNames', WHERE WHAT IT READS IS OF BULK AT MOST 1048576: true; the input reads as it did. -/
def wicketNamesUptoRow : OpenClaim := { program := "ytejgofaeafphjaagreatdoor", sum := "9a76046f55958812eee3d3adbeb1c56187b9736a0b4984a35aa7318520f7c49d", func := "dipworks/dipworkslaw15.WicketNames", spec := "wicketNames", inPlace := ["internal/bytealg.CountString", "internal/bytealg.IndexByteString", "internal/bytealg.IndexString", "internal/abi.NoEscape", "internal/bytealg.MakeNoZero"], unfollowed := true, recurses := true, named := ["dipworks/tide.done", "unicode/utf8.first", "unicode/utf8.acceptRanges", "internal/bytealg.MaxLen", "dipworks/wicket.entries", "internal/strconv.uint64pow10", "math/bits.deBruijn32tab", "math/bits.deBruijn64tab", "strconv.ErrSyntax", "strconv.ErrRange"], plainKeys := false, apart := false, laid := [("math/bits.deBruijn32tab", laid_math_bits_deBruijn32tab), ("math/bits.deBruijn64tab", laid_math_bits_deBruijn64tab), ("internal/strconv.uint64pow10", laid_internal_strconv_uint64pow10), ("unicode/utf8.acceptRanges", laid_unicode_utf8_acceptRanges), ("dipworks/tide.done", laid_dipworks_tide_done), ("strconv.ErrRange", laid_strconv_ErrRange), ("strconv.ErrSyntax", laid_strconv_ErrSyntax), ("dipworks/wicket.entries", laid_dipworks_wicket_entries), ("unicode/utf8.first", laid_unicode_utf8_first)], narrowed := true }
def WicketNamesUptoSaid : Prop := wicketNamesUptoRow.holds Tryz.pinned (OpenSpec.upto wicketNamesSpec)

/-- 'dipworkslaw15.WicketRuns', WHERE WHAT IT READS IS OF BULK AT MOST 1048576: true; the input reads as it did. -/
def wicketRunsUptoRow : OpenClaim := { program := "ytejgofaeafphjaagreatdoor", sum := "9a76046f55958812eee3d3adbeb1c56187b9736a0b4984a35aa7318520f7c49d", func := "dipworks/dipworkslaw15.WicketRuns", spec := "wicketRuns", inPlace := ["internal/bytealg.CountString", "internal/bytealg.IndexByteString", "internal/bytealg.IndexString", "internal/abi.NoEscape", "internal/bytealg.MakeNoZero"], unfollowed := true, recurses := true, named := ["dipworks/tide.done", "unicode/utf8.first", "unicode/utf8.acceptRanges", "internal/bytealg.MaxLen", "dipworks/wicket.entries", "internal/strconv.uint64pow10", "math/bits.deBruijn32tab", "math/bits.deBruijn64tab", "strconv.ErrSyntax", "strconv.ErrRange"], plainKeys := false, apart := false, laid := [("math/bits.deBruijn32tab", laid_math_bits_deBruijn32tab), ("math/bits.deBruijn64tab", laid_math_bits_deBruijn64tab), ("internal/strconv.uint64pow10", laid_internal_strconv_uint64pow10), ("unicode/utf8.acceptRanges", laid_unicode_utf8_acceptRanges), ("dipworks/tide.done", laid_dipworks_tide_done), ("strconv.ErrRange", laid_strconv_ErrRange), ("strconv.ErrSyntax", laid_strconv_ErrSyntax), ("dipworks/wicket.entries", laid_dipworks_wicket_entries), ("unicode/utf8.first", laid_unicode_utf8_first)], narrowed := true }
def WicketRunsUptoSaid : Prop := wicketRunsUptoRow.holds Tryz.pinned (OpenSpec.upto wicketRunsSpec)

/-- 'dipworkslaw15.WicketRight', WHERE WHAT IT READS IS OF BULK AT MOST 1048576: true; the input reads as it did. -/
def wicketRightUptoRow : OpenClaim := { program := "ytejgofaeafphjaagreatdoor", sum := "9a76046f55958812eee3d3adbeb1c56187b9736a0b4984a35aa7318520f7c49d", func := "dipworks/dipworkslaw15.WicketRight", spec := "wicketRight", inPlace := ["internal/bytealg.CountString", "internal/bytealg.IndexByteString", "internal/bytealg.IndexString", "internal/abi.NoEscape", "internal/bytealg.MakeNoZero"], unfollowed := true, recurses := true, named := ["dipworks/tide.done", "unicode/utf8.first", "unicode/utf8.acceptRanges", "internal/bytealg.MaxLen", "dipworks/wicket.entries", "internal/strconv.uint64pow10", "math/bits.deBruijn32tab", "math/bits.deBruijn64tab", "strconv.ErrSyntax", "strconv.ErrRange"], plainKeys := false, apart := false, laid := [("math/bits.deBruijn32tab", laid_math_bits_deBruijn32tab), ("math/bits.deBruijn64tab", laid_math_bits_deBruijn64tab), ("internal/strconv.uint64pow10", laid_internal_strconv_uint64pow10), ("unicode/utf8.acceptRanges", laid_unicode_utf8_acceptRanges), ("dipworks/tide.done", laid_dipworks_tide_done), ("strconv.ErrRange", laid_strconv_ErrRange), ("strconv.ErrSyntax", laid_strconv_ErrSyntax), ("dipworks/wicket.entries", laid_dipworks_wicket_entries), ("unicode/utf8.first", laid_unicode_utf8_first)], narrowed := true }
def WicketRightUptoSaid : Prop := wicketRightUptoRow.holds Tryz.pinned (OpenSpec.upto wicketRightSpec)

/-- 'dipworkslaw15.WicketTickets', WHERE WHAT IT READS IS OF BULK AT MOST 1048576: true; the input reads as it did. -/
def wicketTicketsUptoRow : OpenClaim := { program := "ytejgofaeafphjaagreatdoor", sum := "9a76046f55958812eee3d3adbeb1c56187b9736a0b4984a35aa7318520f7c49d", func := "dipworks/dipworkslaw15.WicketTickets", spec := "wicketTickets", inPlace := ["internal/bytealg.CountString", "internal/bytealg.IndexByteString", "internal/bytealg.IndexString", "internal/abi.NoEscape", "internal/bytealg.MakeNoZero"], unfollowed := true, recurses := true, named := ["dipworks/tide.done", "unicode/utf8.first", "unicode/utf8.acceptRanges", "internal/bytealg.MaxLen", "dipworks/wicket.entries", "internal/strconv.uint64pow10", "math/bits.deBruijn32tab", "math/bits.deBruijn64tab", "strconv.ErrSyntax", "strconv.ErrRange"], plainKeys := false, apart := false, laid := [("math/bits.deBruijn32tab", laid_math_bits_deBruijn32tab), ("math/bits.deBruijn64tab", laid_math_bits_deBruijn64tab), ("internal/strconv.uint64pow10", laid_internal_strconv_uint64pow10), ("unicode/utf8.acceptRanges", laid_unicode_utf8_acceptRanges), ("dipworks/tide.done", laid_dipworks_tide_done), ("strconv.ErrRange", laid_strconv_ErrRange), ("strconv.ErrSyntax", laid_strconv_ErrSyntax), ("dipworks/wicket.entries", laid_dipworks_wicket_entries), ("unicode/utf8.first", laid_unicode_utf8_first)], narrowed := true }
def WicketTicketsUptoSaid : Prop := wicketTicketsUptoRow.holds Tryz.pinned (OpenSpec.upto wicketTicketsSpec)

/-- 'dipworkslaw15.WicketTides', WHERE WHAT IT READS IS OF BULK AT MOST 1048576: true; the input reads as it did. -/
def wicketTidesUptoRow : OpenClaim := { program := "ytejgofaeafphjaagreatdoor", sum := "9a76046f55958812eee3d3adbeb1c56187b9736a0b4984a35aa7318520f7c49d", func := "dipworks/dipworkslaw15.WicketTides", spec := "wicketTides", inPlace := ["internal/bytealg.CountString", "internal/bytealg.IndexByteString", "internal/bytealg.IndexString", "internal/abi.NoEscape", "internal/bytealg.MakeNoZero"], unfollowed := true, recurses := true, named := ["dipworks/tide.done", "unicode/utf8.first", "unicode/utf8.acceptRanges", "internal/bytealg.MaxLen", "dipworks/wicket.entries", "internal/strconv.uint64pow10", "math/bits.deBruijn32tab", "math/bits.deBruijn64tab", "strconv.ErrSyntax", "strconv.ErrRange"], plainKeys := false, apart := false, laid := [("math/bits.deBruijn32tab", laid_math_bits_deBruijn32tab), ("math/bits.deBruijn64tab", laid_math_bits_deBruijn64tab), ("internal/strconv.uint64pow10", laid_internal_strconv_uint64pow10), ("unicode/utf8.acceptRanges", laid_unicode_utf8_acceptRanges), ("dipworks/tide.done", laid_dipworks_tide_done), ("strconv.ErrRange", laid_strconv_ErrRange), ("strconv.ErrSyntax", laid_strconv_ErrSyntax), ("dipworks/wicket.entries", laid_dipworks_wicket_entries), ("unicode/utf8.first", laid_unicode_utf8_first)], narrowed := true }
def WicketTidesUptoSaid : Prop := wicketTidesUptoRow.holds Tryz.pinned (OpenSpec.upto wicketTidesSpec)

/-- 'dipworkslaw15.WicketBooks', WHERE WHAT IT READS IS OF BULK AT MOST 1048576: true; the input reads as it did. -/
def wicketBooksUptoRow : OpenClaim := { program := "ytejgofaeafphjaagreatdoor", sum := "9a76046f55958812eee3d3adbeb1c56187b9736a0b4984a35aa7318520f7c49d", func := "dipworks/dipworkslaw15.WicketBooks", spec := "wicketBooks", inPlace := ["internal/bytealg.CountString", "internal/bytealg.IndexByteString", "internal/bytealg.IndexString", "internal/abi.NoEscape", "internal/bytealg.MakeNoZero"], unfollowed := true, recurses := true, named := ["dipworks/tide.done", "unicode/utf8.first", "unicode/utf8.acceptRanges", "internal/bytealg.MaxLen", "dipworks/wicket.entries", "internal/strconv.uint64pow10", "math/bits.deBruijn32tab", "math/bits.deBruijn64tab", "strconv.ErrSyntax", "strconv.ErrRange"], plainKeys := false, apart := false, laid := [("math/bits.deBruijn32tab", laid_math_bits_deBruijn32tab), ("math/bits.deBruijn64tab", laid_math_bits_deBruijn64tab), ("internal/strconv.uint64pow10", laid_internal_strconv_uint64pow10), ("unicode/utf8.acceptRanges", laid_unicode_utf8_acceptRanges), ("dipworks/tide.done", laid_dipworks_tide_done), ("strconv.ErrRange", laid_strconv_ErrRange), ("strconv.ErrSyntax", laid_strconv_ErrSyntax), ("dipworks/wicket.entries", laid_dipworks_wicket_entries), ("unicode/utf8.first", laid_unicode_utf8_first)], narrowed := true }
def WicketBooksUptoSaid : Prop := wicketBooksUptoRow.holds Tryz.pinned (OpenSpec.upto wicketBooksSpec)

/-- 'dipworkslaw15.WicketStill', WHERE WHAT IT READS IS OF BULK AT MOST 1048576: true; the input reads as it did. -/
def wicketStillUptoRow : OpenClaim := { program := "ytejgofaeafphjaagreatdoor", sum := "9a76046f55958812eee3d3adbeb1c56187b9736a0b4984a35aa7318520f7c49d", func := "dipworks/dipworkslaw15.WicketStill", spec := "wicketStill", inPlace := ["internal/bytealg.CountString", "internal/bytealg.IndexByteString", "internal/bytealg.IndexString", "internal/abi.NoEscape", "internal/bytealg.MakeNoZero"], unfollowed := true, recurses := true, named := ["dipworks/tide.done", "unicode/utf8.first", "unicode/utf8.acceptRanges", "internal/bytealg.MaxLen", "dipworks/wicket.entries", "internal/strconv.uint64pow10", "math/bits.deBruijn32tab", "math/bits.deBruijn64tab", "strconv.ErrSyntax", "strconv.ErrRange"], plainKeys := false, apart := false, laid := [("math/bits.deBruijn32tab", laid_math_bits_deBruijn32tab), ("math/bits.deBruijn64tab", laid_math_bits_deBruijn64tab), ("internal/strconv.uint64pow10", laid_internal_strconv_uint64pow10), ("unicode/utf8.acceptRanges", laid_unicode_utf8_acceptRanges), ("dipworks/tide.done", laid_dipworks_tide_done), ("strconv.ErrRange", laid_strconv_ErrRange), ("strconv.ErrSyntax", laid_strconv_ErrSyntax), ("dipworks/wicket.entries", laid_dipworks_wicket_entries), ("unicode/utf8.first", laid_unicode_utf8_first)], narrowed := true }
def WicketStillUptoSaid : Prop := wicketStillUptoRow.holds Tryz.pinned (OpenSpec.upto wicketStillSpec)

/-- 'dipworkslaw15.WicketForm', WHERE WHAT IT READS IS OF BULK AT MOST 1048576: true; the input reads as it did. -/
def wicketFormUptoRow : OpenClaim := { program := "ytejgofaeafphjaagreatdoor", sum := "9a76046f55958812eee3d3adbeb1c56187b9736a0b4984a35aa7318520f7c49d", func := "dipworks/dipworkslaw15.WicketForm", spec := "wicketForm", inPlace := ["internal/bytealg.CountString", "internal/bytealg.IndexByteString", "internal/bytealg.IndexString", "internal/abi.NoEscape", "internal/bytealg.MakeNoZero"], unfollowed := true, recurses := true, named := ["dipworks/tide.done", "unicode/utf8.first", "unicode/utf8.acceptRanges", "internal/bytealg.MaxLen", "dipworks/wicket.entries", "internal/strconv.uint64pow10", "math/bits.deBruijn32tab", "math/bits.deBruijn64tab", "strconv.ErrSyntax", "strconv.ErrRange", "unicode.CaseRanges"], plainKeys := false, apart := false, laid := [("math/bits.deBruijn32tab", laid_math_bits_deBruijn32tab), ("math/bits.deBruijn64tab", laid_math_bits_deBruijn64tab), ("internal/strconv.uint64pow10", laid_internal_strconv_uint64pow10), ("unicode/utf8.acceptRanges", laid_unicode_utf8_acceptRanges), ("dipworks/tide.done", laid_dipworks_tide_done), ("strconv.ErrRange", laid_strconv_ErrRange), ("strconv.ErrSyntax", laid_strconv_ErrSyntax), ("dipworks/wicket.entries", laid_dipworks_wicket_entries), ("unicode.CaseRanges", laid_unicode_CaseRanges), ("unicode/utf8.first", laid_unicode_utf8_first)], narrowed := true }
def WicketFormUptoSaid : Prop := wicketFormUptoRow.holds Tryz.pinned (OpenSpec.upto wicketFormSpec)

end Rows
end Go.Proofs.YtejgofaeafphjaaGreatDoor
