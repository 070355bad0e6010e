/-
  NARROWER THAN 'FOR EVERY INPUT', by the rows' own cells (each row's printed sentence says how): HunksValid: laid · HunksBuild: laid · HunksOwn: laid · HunksNarrow: laid · HunksScript: laid · HunksWide: laid · HunksLess: laid · HunksMore: laid.
  DERIVED. THE GIVEN ROWS OF THIS SEAT. 8 by the template 'for every input the law returns true; each argument reads behind the call as it read before'; 0 by the template 'total and deterministic' (their statements: YtecjoofjiockkaaGreatDoorTotals.lean).
  GIVEN WITH THE SEED: the statements are not yours to turn. If you find one false, say at which input.
  Laid BY PROGRAM, IN A SANDBOX (cutbox-rows.mjs): the forced cells as the released guide's own fill.sh prints them over the translation 52012a314a7d98ad… (all of the seat's roots in one cut). By AI agents, Wed Nov 11 2026. No macro, syntax, notation, axiom, sorry.
-/
import Derived.Test.YtecjoofjiockkaaGreatDoorChecked
import GoSem.PinnedTables
import GoSem.Claim
import GoSem.ClaimJoined
import GoSem.ClaimMapViews
import Derived.JoinedTies
import Derived.KernelRfl
namespace Go.Proofs.YtecjoofjiockkaaGreatDoor
/- THE CELL 'sum', in the pinned program and in every row, IS THE sha256 OF THE DUMP (.gsa) THAT YtecjoofjiockkaaGreatDoorProg.lean LOADS. Nothing in Lean hashes anything: it is a label: what it is worth is what the hold of that sum in a sandbox is worth. -/
noncomputable def Tryz.pinned : Pinned := { name := "ytecjoofjiockkaagreatdoor", sum := "52012a314a7d98ad74d790cc0ec51b03c8b84078284c54c2219622889ae225e8", checked := Tryz.checked }
namespace Rows
def none {H : Type} : Left H := { results := [], args := [] }

/- WHAT THE LISTED PACKAGE-LEVEL VARIABLES READ AS WHEN THE CALL BEGINS. Each datum BY PROGRAM (the guide's laid-datum.mjs) off the statement by which the dump's own 'gosem.cut.vars' lays the variable. In a bare row this is a premise. The card (YtecjoofjiockkaaGreatDoorCards.lean) ties it to the program's text. -/
def laid_unicode_utf8_acceptRanges {H : Type} : DataW H := .agg [.agg [.lit (.int .u8 128), .lit (.int .u8 191)], .agg [.lit (.int .u8 160), .lit (.int .u8 191)], .agg [.lit (.int .u8 128), .lit (.int .u8 159)], .agg [.lit (.int .u8 144), .lit (.int .u8 191)], .agg [.lit (.int .u8 128), .lit (.int .u8 143)], .agg [.lit (.int .u8 0), .lit (.int .u8 0)], .agg [.lit (.int .u8 0), .lit (.int .u8 0)], .agg [.lit (.int .u8 0), .lit (.int .u8 0)], .agg [.lit (.int .u8 0), .lit (.int .u8 0)], .agg [.lit (.int .u8 0), .lit (.int .u8 0)], .agg [.lit (.int .u8 0), .lit (.int .u8 0)], .agg [.lit (.int .u8 0), .lit (.int .u8 0)], .agg [.lit (.int .u8 0), .lit (.int .u8 0)], .agg [.lit (.int .u8 0), .lit (.int .u8 0)], .agg [.lit (.int .u8 0), .lit (.int .u8 0)], .agg [.lit (.int .u8 0), .lit (.int .u8 0)]]
def laid_errors_errorType {H : Type} : DataW H := .iface "internal/reflectlite.rtype" (.agg [.ptr (.lit (.string [101, 114, 114, 111, 114]))])
/-- One of Go's own tables, pinned by name: the form's constant. -/
def laid_unicode_utf8_first : DataW Unit := Go.Pinned.utf8First

/-- 'selvagelaw10.HunksValid': WHATEVER THE INPUT: true; the input reads as it did. -/
def hunksValidSpec : ChangeSpec := { name := "hunksValid", fn := fun _ => fun
  | [d] => { results := [.lit (.bool true)], args := [d] }
  | _ => none }
def hunksValidRow : OpenClaim := { program := "ytecjoofjiockkaagreatdoor", sum := "52012a314a7d98ad74d790cc0ec51b03c8b84078284c54c2219622889ae225e8", func := "selvage/selvagelaw10.HunksValid", spec := "hunksValid", inPlace := ["internal/bytealg.IndexByteString", "internal/bytealg.IndexString", "internal/reflectlite.ValueOf", "(internal/reflectlite.Value).Type", "(internal/reflectlite.Value).IsNil", "internal/reflectlite.TypeOf", "(internal/reflectlite.Value).Elem", "(internal/reflectlite.Value).Set", "internal/bytealg.CountString", "internal/abi.NoEscape", "internal/bytealg.MakeNoZero"], unfollowed := true, recurses := true, named := ["internal/bytealg.MaxLen", "errors.errorType", "unicode/utf8.first", "unicode/utf8.acceptRanges"], apart := false, laid := [("unicode/utf8.acceptRanges", laid_unicode_utf8_acceptRanges), ("errors.errorType", laid_errors_errorType), ("unicode/utf8.first", laid_unicode_utf8_first)] }
def HunksValidSaid : Prop := hunksValidRow.holds Tryz.pinned (OpenSpec.ofChange hunksValidSpec)

/-- ITS FALSE NEIGHBOUR: 'it returns false'. Refute it at one input. -/
def hunksValidWrong : ChangeSpec := { name := "hunksValid", fn := fun _ => fun
  | [d] => { results := [.lit (.bool false)], args := [d] }
  | _ => none }
def HunksValidWrongFalsely : Prop := hunksValidRow.holds Tryz.pinned (OpenSpec.ofChange hunksValidWrong)

/-- 'selvagelaw10.HunksBuild': WHATEVER THE INPUT: true; the input reads as it did. -/
def hunksBuildSpec : ChangeSpec := { name := "hunksBuild", fn := fun _ => fun
  | [d] => { results := [.lit (.bool true)], args := [d] }
  | _ => none }
def hunksBuildRow : OpenClaim := { program := "ytecjoofjiockkaagreatdoor", sum := "52012a314a7d98ad74d790cc0ec51b03c8b84078284c54c2219622889ae225e8", func := "selvage/selvagelaw10.HunksBuild", spec := "hunksBuild", inPlace := ["internal/bytealg.IndexByteString", "internal/reflectlite.ValueOf", "(internal/reflectlite.Value).Type", "(internal/reflectlite.Value).IsNil", "internal/reflectlite.TypeOf", "(internal/reflectlite.Value).Elem", "(internal/reflectlite.Value).Set", "internal/bytealg.IndexString", "internal/bytealg.CountString", "internal/abi.NoEscape", "internal/bytealg.MakeNoZero"], unfollowed := true, recurses := true, named := ["errors.errorType", "internal/bytealg.MaxLen", "unicode/utf8.first", "unicode/utf8.acceptRanges"], apart := false, laid := [("unicode/utf8.acceptRanges", laid_unicode_utf8_acceptRanges), ("errors.errorType", laid_errors_errorType), ("unicode/utf8.first", laid_unicode_utf8_first)] }
def HunksBuildSaid : Prop := hunksBuildRow.holds Tryz.pinned (OpenSpec.ofChange hunksBuildSpec)

/-- ITS FALSE NEIGHBOUR: 'it returns false'. Refute it at one input. -/
def hunksBuildWrong : ChangeSpec := { name := "hunksBuild", fn := fun _ => fun
  | [d] => { results := [.lit (.bool false)], args := [d] }
  | _ => none }
def HunksBuildWrongFalsely : Prop := hunksBuildRow.holds Tryz.pinned (OpenSpec.ofChange hunksBuildWrong)

/-- 'selvagelaw10.HunksOwn': WHATEVER THE INPUT: true; the input reads as it did. -/
def hunksOwnSpec : ChangeSpec := { name := "hunksOwn", fn := fun _ => fun
  | [d] => { results := [.lit (.bool true)], args := [d] }
  | _ => none }
def hunksOwnRow : OpenClaim := { program := "ytecjoofjiockkaagreatdoor", sum := "52012a314a7d98ad74d790cc0ec51b03c8b84078284c54c2219622889ae225e8", func := "selvage/selvagelaw10.HunksOwn", spec := "hunksOwn", inPlace := ["internal/bytealg.IndexByteString", "internal/bytealg.CountString", "internal/bytealg.IndexString", "internal/abi.NoEscape", "internal/bytealg.MakeNoZero", "internal/reflectlite.ValueOf", "(internal/reflectlite.Value).Type", "(internal/reflectlite.Value).IsNil", "internal/reflectlite.TypeOf", "(internal/reflectlite.Value).Elem", "(internal/reflectlite.Value).Set"], unfollowed := true, recurses := true, named := ["internal/bytealg.MaxLen", "unicode/utf8.first", "unicode/utf8.acceptRanges", "errors.errorType"], apart := false, laid := [("unicode/utf8.acceptRanges", laid_unicode_utf8_acceptRanges), ("errors.errorType", laid_errors_errorType), ("unicode/utf8.first", laid_unicode_utf8_first)] }
def HunksOwnSaid : Prop := hunksOwnRow.holds Tryz.pinned (OpenSpec.ofChange hunksOwnSpec)

/-- ITS FALSE NEIGHBOUR: 'it returns false'. Refute it at one input. -/
def hunksOwnWrong : ChangeSpec := { name := "hunksOwn", fn := fun _ => fun
  | [d] => { results := [.lit (.bool false)], args := [d] }
  | _ => none }
def HunksOwnWrongFalsely : Prop := hunksOwnRow.holds Tryz.pinned (OpenSpec.ofChange hunksOwnWrong)

/-- 'selvagelaw10.HunksNarrow': WHATEVER THE INPUT: true; the input reads as it did. -/
def hunksNarrowSpec : ChangeSpec := { name := "hunksNarrow", fn := fun _ => fun
  | [d1, d2] => { results := [.lit (.bool true)], args := [d1, d2] }
  | _ => none }
def hunksNarrowRow : OpenClaim := { program := "ytecjoofjiockkaagreatdoor", sum := "52012a314a7d98ad74d790cc0ec51b03c8b84078284c54c2219622889ae225e8", func := "selvage/selvagelaw10.HunksNarrow", spec := "hunksNarrow", inPlace := ["internal/bytealg.IndexByteString", "internal/bytealg.IndexString", "internal/reflectlite.ValueOf", "(internal/reflectlite.Value).Type", "(internal/reflectlite.Value).IsNil", "internal/reflectlite.TypeOf", "(internal/reflectlite.Value).Elem", "(internal/reflectlite.Value).Set", "internal/bytealg.CountString", "internal/abi.NoEscape", "internal/bytealg.MakeNoZero"], unfollowed := true, recurses := true, named := ["internal/bytealg.MaxLen", "errors.errorType", "unicode/utf8.first", "unicode/utf8.acceptRanges"], apart := false, laid := [("unicode/utf8.acceptRanges", laid_unicode_utf8_acceptRanges), ("errors.errorType", laid_errors_errorType), ("unicode/utf8.first", laid_unicode_utf8_first)] }
def HunksNarrowSaid : Prop := hunksNarrowRow.holds Tryz.pinned (OpenSpec.ofChange hunksNarrowSpec)

/-- ITS FALSE NEIGHBOUR: 'it returns false'. Refute it at one input. -/
def hunksNarrowWrong : ChangeSpec := { name := "hunksNarrow", fn := fun _ => fun
  | [d1, d2] => { results := [.lit (.bool false)], args := [d1, d2] }
  | _ => none }
def HunksNarrowWrongFalsely : Prop := hunksNarrowRow.holds Tryz.pinned (OpenSpec.ofChange hunksNarrowWrong)

/-- 'selvagelaw10.HunksScript': WHATEVER THE INPUT: true; the input reads as it did. -/
def hunksScriptSpec : ChangeSpec := { name := "hunksScript", fn := fun _ => fun
  | [d1, d2, d3] => { results := [.lit (.bool true)], args := [d1, d2, d3] }
  | _ => none }
def hunksScriptRow : OpenClaim := { program := "ytecjoofjiockkaagreatdoor", sum := "52012a314a7d98ad74d790cc0ec51b03c8b84078284c54c2219622889ae225e8", func := "selvage/selvagelaw10.HunksScript", spec := "hunksScript", inPlace := ["internal/bytealg.IndexByteString", "internal/bytealg.IndexString", "internal/reflectlite.TypeOf", "internal/reflectlite.ValueOf", "(internal/reflectlite.Value).Type", "(internal/reflectlite.Value).IsNil", "(internal/reflectlite.Value).Elem", "(internal/reflectlite.Value).Set", "internal/bytealg.CountString", "internal/abi.NoEscape", "internal/bytealg.MakeNoZero"], unfollowed := true, recurses := true, named := ["internal/bytealg.MaxLen", "errors.errorType", "unicode/utf8.first", "unicode/utf8.acceptRanges"], apart := false, laid := [("unicode/utf8.acceptRanges", laid_unicode_utf8_acceptRanges), ("errors.errorType", laid_errors_errorType), ("unicode/utf8.first", laid_unicode_utf8_first)] }
def HunksScriptSaid : Prop := hunksScriptRow.holds Tryz.pinned (OpenSpec.ofChange hunksScriptSpec)

/-- ITS FALSE NEIGHBOUR: 'it returns false'. Refute it at one input. -/
def hunksScriptWrong : ChangeSpec := { name := "hunksScript", fn := fun _ => fun
  | [d1, d2, d3] => { results := [.lit (.bool false)], args := [d1, d2, d3] }
  | _ => none }
def HunksScriptWrongFalsely : Prop := hunksScriptRow.holds Tryz.pinned (OpenSpec.ofChange hunksScriptWrong)

/-- 'selvagelaw10.HunksWide': WHATEVER THE INPUT: true; the input reads as it did. -/
def hunksWideSpec : ChangeSpec := { name := "hunksWide", fn := fun _ => fun
  | [d1, d2, d3] => { results := [.lit (.bool true)], args := [d1, d2, d3] }
  | _ => none }
def hunksWideRow : OpenClaim := { program := "ytecjoofjiockkaagreatdoor", sum := "52012a314a7d98ad74d790cc0ec51b03c8b84078284c54c2219622889ae225e8", func := "selvage/selvagelaw10.HunksWide", spec := "hunksWide", inPlace := ["internal/bytealg.IndexByteString", "internal/bytealg.IndexString", "internal/reflectlite.ValueOf", "(internal/reflectlite.Value).Type", "(internal/reflectlite.Value).IsNil", "internal/reflectlite.TypeOf", "(internal/reflectlite.Value).Elem", "(internal/reflectlite.Value).Set", "internal/bytealg.CountString", "internal/abi.NoEscape", "internal/bytealg.MakeNoZero"], unfollowed := true, recurses := true, named := ["internal/bytealg.MaxLen", "errors.errorType", "unicode/utf8.first", "unicode/utf8.acceptRanges"], apart := false, laid := [("unicode/utf8.acceptRanges", laid_unicode_utf8_acceptRanges), ("errors.errorType", laid_errors_errorType), ("unicode/utf8.first", laid_unicode_utf8_first)] }
def HunksWideSaid : Prop := hunksWideRow.holds Tryz.pinned (OpenSpec.ofChange hunksWideSpec)

/-- ITS FALSE NEIGHBOUR: 'it returns false'. Refute it at one input. -/
def hunksWideWrong : ChangeSpec := { name := "hunksWide", fn := fun _ => fun
  | [d1, d2, d3] => { results := [.lit (.bool false)], args := [d1, d2, d3] }
  | _ => none }
def HunksWideWrongFalsely : Prop := hunksWideRow.holds Tryz.pinned (OpenSpec.ofChange hunksWideWrong)

/-- 'selvagelaw10.HunksLess': WHATEVER THE INPUT: true; the input reads as it did. -/
def hunksLessSpec : ChangeSpec := { name := "hunksLess", fn := fun _ => fun
  | [d1, d2] => { results := [.lit (.bool true)], args := [d1, d2] }
  | _ => none }
def hunksLessRow : OpenClaim := { program := "ytecjoofjiockkaagreatdoor", sum := "52012a314a7d98ad74d790cc0ec51b03c8b84078284c54c2219622889ae225e8", func := "selvage/selvagelaw10.HunksLess", spec := "hunksLess", inPlace := ["internal/bytealg.IndexByteString", "internal/bytealg.IndexString", "internal/reflectlite.ValueOf", "(internal/reflectlite.Value).Type", "(internal/reflectlite.Value).IsNil", "internal/reflectlite.TypeOf", "(internal/reflectlite.Value).Elem", "(internal/reflectlite.Value).Set", "internal/bytealg.CountString", "internal/abi.NoEscape", "internal/bytealg.MakeNoZero"], unfollowed := true, recurses := true, named := ["internal/bytealg.MaxLen", "errors.errorType", "unicode/utf8.first", "unicode/utf8.acceptRanges"], apart := false, laid := [("unicode/utf8.acceptRanges", laid_unicode_utf8_acceptRanges), ("errors.errorType", laid_errors_errorType), ("unicode/utf8.first", laid_unicode_utf8_first)] }
def HunksLessSaid : Prop := hunksLessRow.holds Tryz.pinned (OpenSpec.ofChange hunksLessSpec)

/-- ITS FALSE NEIGHBOUR: 'it returns false'. Refute it at one input. -/
def hunksLessWrong : ChangeSpec := { name := "hunksLess", fn := fun _ => fun
  | [d1, d2] => { results := [.lit (.bool false)], args := [d1, d2] }
  | _ => none }
def HunksLessWrongFalsely : Prop := hunksLessRow.holds Tryz.pinned (OpenSpec.ofChange hunksLessWrong)

/-- 'selvagelaw10.HunksMore': WHATEVER THE INPUT: true; the input reads as it did. -/
def hunksMoreSpec : ChangeSpec := { name := "hunksMore", fn := fun _ => fun
  | [d1, d2, d3] => { results := [.lit (.bool true)], args := [d1, d2, d3] }
  | _ => none }
def hunksMoreRow : OpenClaim := { program := "ytecjoofjiockkaagreatdoor", sum := "52012a314a7d98ad74d790cc0ec51b03c8b84078284c54c2219622889ae225e8", func := "selvage/selvagelaw10.HunksMore", spec := "hunksMore", inPlace := ["internal/bytealg.IndexByteString", "internal/bytealg.IndexString", "internal/reflectlite.ValueOf", "(internal/reflectlite.Value).Type", "(internal/reflectlite.Value).IsNil", "internal/reflectlite.TypeOf", "(internal/reflectlite.Value).Elem", "(internal/reflectlite.Value).Set", "internal/bytealg.CountString", "internal/abi.NoEscape", "internal/bytealg.MakeNoZero"], unfollowed := true, recurses := true, named := ["internal/bytealg.MaxLen", "errors.errorType", "unicode/utf8.first", "unicode/utf8.acceptRanges"], apart := false, laid := [("unicode/utf8.acceptRanges", laid_unicode_utf8_acceptRanges), ("errors.errorType", laid_errors_errorType), ("unicode/utf8.first", laid_unicode_utf8_first)] }
def HunksMoreSaid : Prop := hunksMoreRow.holds Tryz.pinned (OpenSpec.ofChange hunksMoreSpec)

/-- ITS FALSE NEIGHBOUR: 'it returns false'. Refute it at one input. -/
def hunksMoreWrong : ChangeSpec := { name := "hunksMore", fn := fun _ => fun
  | [d1, d2, d3] => { results := [.lit (.bool false)], args := [d1, d2, d3] }
  | _ => none }
def HunksMoreWrongFalsely : Prop := hunksMoreRow.holds Tryz.pinned (OpenSpec.ofChange hunksMoreWrong)

/- THE SECOND FORM. 'bulk': how many values and letters a reading holds, each counted each time it is reached (what is shared counts as often as it is met; a slice's spare places count too). A statement '..UptoSaid' is the law's where the arguments, and the package variables that the reading takes, are together of bulk at most 1048576: NARROWER than '..Said'. Prove '..Said' where nothing that the law and all that it calls make is longer than what came in: it says more and counts as full. Else prove '..UptoSaid'. A law counts once. -/
mutual
def uptoBulk {H : Type} : DataW H → Nat
  | .lit (.string bytes) => bytes.length + 1
  | .lit _ => 1
  | .nil => 1
  | .ptr d => uptoBulk d + 1
  | .slice elems spare => uptoBulkAll elems + uptoBulkAll spare + 1
  | .agg parts => uptoBulkAll parts + 1
  | .iface _ d => uptoBulk d + 1
  | .map entries => uptoBulkEntries entries + 1
  | .held _ => 1
def uptoBulkAll {H : Type} : List (DataW H) → Nat
  | [] => 0
  | d :: r => uptoBulk d + uptoBulkAll r
def uptoBulkEntries {H : Type} : List (Lit × DataW H) → Nat
  | [] => 0
  | x :: r => uptoBulkEntry x + uptoBulkEntries r
def uptoBulkEntry {H : Type} : Lit × DataW H → Nat
  | (.string bytes, d) => bytes.length + uptoBulk d + 1
  | (_, d) => uptoBulk d + 1
 end
def uptoSmall : (H : Type) → List (DataW H) → Bool := fun _ ds => decide (uptoBulkAll ds ≤ 1048576)
def OpenSpec.upto (s : _root_.Go.ChangeSpec) : _root_.Go.OpenSpec := { _root_.Go.OpenSpec.ofChange s with cond := some uptoSmall }

/-- 'selvagelaw10.HunksValid', WHERE WHAT IT READS IS OF BULK AT MOST 1048576: true; the input reads as it did. -/
def hunksValidUptoRow : OpenClaim := { program := "ytecjoofjiockkaagreatdoor", sum := "52012a314a7d98ad74d790cc0ec51b03c8b84078284c54c2219622889ae225e8", func := "selvage/selvagelaw10.HunksValid", spec := "hunksValid", inPlace := ["internal/bytealg.IndexByteString", "internal/bytealg.IndexString", "internal/reflectlite.ValueOf", "(internal/reflectlite.Value).Type", "(internal/reflectlite.Value).IsNil", "internal/reflectlite.TypeOf", "(internal/reflectlite.Value).Elem", "(internal/reflectlite.Value).Set", "internal/bytealg.CountString", "internal/abi.NoEscape", "internal/bytealg.MakeNoZero"], unfollowed := true, recurses := true, named := ["internal/bytealg.MaxLen", "errors.errorType", "unicode/utf8.first", "unicode/utf8.acceptRanges"], apart := false, laid := [("unicode/utf8.acceptRanges", laid_unicode_utf8_acceptRanges), ("errors.errorType", laid_errors_errorType), ("unicode/utf8.first", laid_unicode_utf8_first)], narrowed := true }
def HunksValidUptoSaid : Prop := hunksValidUptoRow.holds Tryz.pinned (OpenSpec.upto hunksValidSpec)

/-- 'selvagelaw10.HunksBuild', WHERE WHAT IT READS IS OF BULK AT MOST 1048576: true; the input reads as it did. -/
def hunksBuildUptoRow : OpenClaim := { program := "ytecjoofjiockkaagreatdoor", sum := "52012a314a7d98ad74d790cc0ec51b03c8b84078284c54c2219622889ae225e8", func := "selvage/selvagelaw10.HunksBuild", spec := "hunksBuild", inPlace := ["internal/bytealg.IndexByteString", "internal/reflectlite.ValueOf", "(internal/reflectlite.Value).Type", "(internal/reflectlite.Value).IsNil", "internal/reflectlite.TypeOf", "(internal/reflectlite.Value).Elem", "(internal/reflectlite.Value).Set", "internal/bytealg.IndexString", "internal/bytealg.CountString", "internal/abi.NoEscape", "internal/bytealg.MakeNoZero"], unfollowed := true, recurses := true, named := ["errors.errorType", "internal/bytealg.MaxLen", "unicode/utf8.first", "unicode/utf8.acceptRanges"], apart := false, laid := [("unicode/utf8.acceptRanges", laid_unicode_utf8_acceptRanges), ("errors.errorType", laid_errors_errorType), ("unicode/utf8.first", laid_unicode_utf8_first)], narrowed := true }
def HunksBuildUptoSaid : Prop := hunksBuildUptoRow.holds Tryz.pinned (OpenSpec.upto hunksBuildSpec)

/-- 'selvagelaw10.HunksOwn', WHERE WHAT IT READS IS OF BULK AT MOST 1048576: true; the input reads as it did. -/
def hunksOwnUptoRow : OpenClaim := { program := "ytecjoofjiockkaagreatdoor", sum := "52012a314a7d98ad74d790cc0ec51b03c8b84078284c54c2219622889ae225e8", func := "selvage/selvagelaw10.HunksOwn", spec := "hunksOwn", inPlace := ["internal/bytealg.IndexByteString", "internal/bytealg.CountString", "internal/bytealg.IndexString", "internal/abi.NoEscape", "internal/bytealg.MakeNoZero", "internal/reflectlite.ValueOf", "(internal/reflectlite.Value).Type", "(internal/reflectlite.Value).IsNil", "internal/reflectlite.TypeOf", "(internal/reflectlite.Value).Elem", "(internal/reflectlite.Value).Set"], unfollowed := true, recurses := true, named := ["internal/bytealg.MaxLen", "unicode/utf8.first", "unicode/utf8.acceptRanges", "errors.errorType"], apart := false, laid := [("unicode/utf8.acceptRanges", laid_unicode_utf8_acceptRanges), ("errors.errorType", laid_errors_errorType), ("unicode/utf8.first", laid_unicode_utf8_first)], narrowed := true }
def HunksOwnUptoSaid : Prop := hunksOwnUptoRow.holds Tryz.pinned (OpenSpec.upto hunksOwnSpec)

/-- 'selvagelaw10.HunksNarrow', WHERE WHAT IT READS IS OF BULK AT MOST 1048576: true; the input reads as it did. -/
def hunksNarrowUptoRow : OpenClaim := { program := "ytecjoofjiockkaagreatdoor", sum := "52012a314a7d98ad74d790cc0ec51b03c8b84078284c54c2219622889ae225e8", func := "selvage/selvagelaw10.HunksNarrow", spec := "hunksNarrow", inPlace := ["internal/bytealg.IndexByteString", "internal/bytealg.IndexString", "internal/reflectlite.ValueOf", "(internal/reflectlite.Value).Type", "(internal/reflectlite.Value).IsNil", "internal/reflectlite.TypeOf", "(internal/reflectlite.Value).Elem", "(internal/reflectlite.Value).Set", "internal/bytealg.CountString", "internal/abi.NoEscape", "internal/bytealg.MakeNoZero"], unfollowed := true, recurses := true, named := ["internal/bytealg.MaxLen", "errors.errorType", "unicode/utf8.first", "unicode/utf8.acceptRanges"], apart := false, laid := [("unicode/utf8.acceptRanges", laid_unicode_utf8_acceptRanges), ("errors.errorType", laid_errors_errorType), ("unicode/utf8.first", laid_unicode_utf8_first)], narrowed := true }
def HunksNarrowUptoSaid : Prop := hunksNarrowUptoRow.holds Tryz.pinned (OpenSpec.upto hunksNarrowSpec)

/-- 'selvagelaw10.HunksScript', WHERE WHAT IT READS IS OF BULK AT MOST 1048576: true; the input reads as it did. -/
def hunksScriptUptoRow : OpenClaim := { program := "ytecjoofjiockkaagreatdoor", sum := "52012a314a7d98ad74d790cc0ec51b03c8b84078284c54c2219622889ae225e8", func := "selvage/selvagelaw10.HunksScript", spec := "hunksScript", inPlace := ["internal/bytealg.IndexByteString", "internal/bytealg.IndexString", "internal/reflectlite.TypeOf", "internal/reflectlite.ValueOf", "(internal/reflectlite.Value).Type", "(internal/reflectlite.Value).IsNil", "(internal/reflectlite.Value).Elem", "(internal/reflectlite.Value).Set", "internal/bytealg.CountString", "internal/abi.NoEscape", "internal/bytealg.MakeNoZero"], unfollowed := true, recurses := true, named := ["internal/bytealg.MaxLen", "errors.errorType", "unicode/utf8.first", "unicode/utf8.acceptRanges"], apart := false, laid := [("unicode/utf8.acceptRanges", laid_unicode_utf8_acceptRanges), ("errors.errorType", laid_errors_errorType), ("unicode/utf8.first", laid_unicode_utf8_first)], narrowed := true }
def HunksScriptUptoSaid : Prop := hunksScriptUptoRow.holds Tryz.pinned (OpenSpec.upto hunksScriptSpec)

/-- 'selvagelaw10.HunksWide', WHERE WHAT IT READS IS OF BULK AT MOST 1048576: true; the input reads as it did. -/
def hunksWideUptoRow : OpenClaim := { program := "ytecjoofjiockkaagreatdoor", sum := "52012a314a7d98ad74d790cc0ec51b03c8b84078284c54c2219622889ae225e8", func := "selvage/selvagelaw10.HunksWide", spec := "hunksWide", inPlace := ["internal/bytealg.IndexByteString", "internal/bytealg.IndexString", "internal/reflectlite.ValueOf", "(internal/reflectlite.Value).Type", "(internal/reflectlite.Value).IsNil", "internal/reflectlite.TypeOf", "(internal/reflectlite.Value).Elem", "(internal/reflectlite.Value).Set", "internal/bytealg.CountString", "internal/abi.NoEscape", "internal/bytealg.MakeNoZero"], unfollowed := true, recurses := true, named := ["internal/bytealg.MaxLen", "errors.errorType", "unicode/utf8.first", "unicode/utf8.acceptRanges"], apart := false, laid := [("unicode/utf8.acceptRanges", laid_unicode_utf8_acceptRanges), ("errors.errorType", laid_errors_errorType), ("unicode/utf8.first", laid_unicode_utf8_first)], narrowed := true }
def HunksWideUptoSaid : Prop := hunksWideUptoRow.holds Tryz.pinned (OpenSpec.upto hunksWideSpec)

/-- 'selvagelaw10.HunksLess', WHERE WHAT IT READS IS OF BULK AT MOST 1048576: true; the input reads as it did. -/
def hunksLessUptoRow : OpenClaim := { program := "ytecjoofjiockkaagreatdoor", sum := "52012a314a7d98ad74d790cc0ec51b03c8b84078284c54c2219622889ae225e8", func := "selvage/selvagelaw10.HunksLess", spec := "hunksLess", inPlace := ["internal/bytealg.IndexByteString", "internal/bytealg.IndexString", "internal/reflectlite.ValueOf", "(internal/reflectlite.Value).Type", "(internal/reflectlite.Value).IsNil", "internal/reflectlite.TypeOf", "(internal/reflectlite.Value).Elem", "(internal/reflectlite.Value).Set", "internal/bytealg.CountString", "internal/abi.NoEscape", "internal/bytealg.MakeNoZero"], unfollowed := true, recurses := true, named := ["internal/bytealg.MaxLen", "errors.errorType", "unicode/utf8.first", "unicode/utf8.acceptRanges"], apart := false, laid := [("unicode/utf8.acceptRanges", laid_unicode_utf8_acceptRanges), ("errors.errorType", laid_errors_errorType), ("unicode/utf8.first", laid_unicode_utf8_first)], narrowed := true }
def HunksLessUptoSaid : Prop := hunksLessUptoRow.holds Tryz.pinned (OpenSpec.upto hunksLessSpec)

/-- 'selvagelaw10.HunksMore', WHERE WHAT IT READS IS OF BULK AT MOST 1048576: true; the input reads as it did. -/
def hunksMoreUptoRow : OpenClaim := { program := "ytecjoofjiockkaagreatdoor", sum := "52012a314a7d98ad74d790cc0ec51b03c8b84078284c54c2219622889ae225e8", func := "selvage/selvagelaw10.HunksMore", spec := "hunksMore", inPlace := ["internal/bytealg.IndexByteString", "internal/bytealg.IndexString", "internal/reflectlite.ValueOf", "(internal/reflectlite.Value).Type", "(internal/reflectlite.Value).IsNil", "internal/reflectlite.TypeOf", "(internal/reflectlite.Value).Elem", "(internal/reflectlite.Value).Set", "internal/bytealg.CountString", "internal/abi.NoEscape", "internal/bytealg.MakeNoZero"], unfollowed := true, recurses := true, named := ["internal/bytealg.MaxLen", "errors.errorType", "unicode/utf8.first", "unicode/utf8.acceptRanges"], apart := false, laid := [("unicode/utf8.acceptRanges", laid_unicode_utf8_acceptRanges), ("errors.errorType", laid_errors_errorType), ("unicode/utf8.first", laid_unicode_utf8_first)], narrowed := true }
def HunksMoreUptoSaid : Prop := hunksMoreUptoRow.holds Tryz.pinned (OpenSpec.upto hunksMoreSpec)

end Rows
end Go.Proofs.YtecjoofjiockkaaGreatDoor
