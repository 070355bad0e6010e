/-
  NARROWER THAN 'FOR EVERY INPUT', by the rows' own cells (each row's printed sentence says how): InternKeys: laid · InternTells: laid · InternWays: laid · InternOwn: laid · InternIds: laid.
  DERIVED. THE GIVEN ROWS OF THIS SEAT. 5 by the template 'for every input the law returns true; each argument reads behind the call as it read before'; 0 by the template 'total and deterministic' (their statements: YtpfhgaaphaalgaaDoorTotals.lean).
  GIVEN WITH THE SEED: the statements are not yours to turn. If you find one false, say at which input.
  Laid BY PROGRAM, IN A SANDBOX (cutbox-rows.mjs): the forced cells as the released guide's own fill.sh prints them over the translation e58f74bd9f92fad5… (all of the seat's roots in one cut). By AI agents, Wed Nov 11 2026. No macro, syntax, notation, axiom, sorry.
-/
import Derived.Test.YtpfhgaaphaalgaaDoorChecked
import GoSem.PinnedTables
import GoSem.Claim
import GoSem.ClaimJoined
import GoSem.ClaimMapViews
import Derived.JoinedTies
import Derived.KernelRfl
namespace Go.Proofs.YtpfhgaaphaalgaaDoor
/- THE CELL 'sum', in the pinned program and in every row, IS THE sha256 OF THE DUMP (.gsa) THAT YtpfhgaaphaalgaaDoorProg.lean LOADS. Nothing in Lean hashes anything: it is a label: what it is worth is what the hold of that sum in a sandbox is worth. -/
noncomputable def Tryd.pinned : Pinned := { name := "ytpfhgaaphaalgaadoor", sum := "e58f74bd9f92fad5bbd525639d3760b361d24b51b00b8db079236223c3f6ae7c", checked := Tryd.checked }
namespace Rows
def none {H : Type} : Left H := { results := [], args := [] }

/- WHAT THE LISTED PACKAGE-LEVEL VARIABLES READ AS WHEN THE CALL BEGINS. Each datum BY PROGRAM (the guide's laid-datum.mjs) off the statement by which the dump's own 'gosem.cut.vars' lays the variable. In a bare row this is a premise. The card (YtpfhgaaphaalgaaDoorCards.lean) ties it to the program's text. -/
def laid_unicode_utf8_acceptRanges {H : Type} : DataW H := .agg [.agg [.lit (.int .u8 128), .lit (.int .u8 191)], .agg [.lit (.int .u8 160), .lit (.int .u8 191)], .agg [.lit (.int .u8 128), .lit (.int .u8 159)], .agg [.lit (.int .u8 144), .lit (.int .u8 191)], .agg [.lit (.int .u8 128), .lit (.int .u8 143)], .agg [.lit (.int .u8 0), .lit (.int .u8 0)], .agg [.lit (.int .u8 0), .lit (.int .u8 0)], .agg [.lit (.int .u8 0), .lit (.int .u8 0)], .agg [.lit (.int .u8 0), .lit (.int .u8 0)], .agg [.lit (.int .u8 0), .lit (.int .u8 0)], .agg [.lit (.int .u8 0), .lit (.int .u8 0)], .agg [.lit (.int .u8 0), .lit (.int .u8 0)], .agg [.lit (.int .u8 0), .lit (.int .u8 0)], .agg [.lit (.int .u8 0), .lit (.int .u8 0)], .agg [.lit (.int .u8 0), .lit (.int .u8 0)], .agg [.lit (.int .u8 0), .lit (.int .u8 0)]]
/-- One of Go's own tables, pinned by name: the form's constant. -/
def laid_unicode_utf8_first : DataW Unit := Go.Pinned.utf8First
def laid_errors_errorType {H : Type} : DataW H := .iface "internal/reflectlite.rtype" (.agg [.ptr (.lit (.string [101, 114, 114, 111, 114]))])

/-- 'selvagelaw05.InternKeys': WHATEVER THE INPUT: true; the input reads as it did. -/
def internKeysSpec : ChangeSpec := { name := "internKeys", fn := fun _ => fun
  | [d1, d2] => { results := [.lit (.bool true)], args := [d1, d2] }
  | _ => none }
def internKeysRow : OpenClaim := { program := "ytpfhgaaphaalgaadoor", sum := "e58f74bd9f92fad5bbd525639d3760b361d24b51b00b8db079236223c3f6ae7c", func := "selvage/selvagelaw05.InternKeys", spec := "internKeys", inPlace := ["internal/bytealg.IndexByteString", "internal/bytealg.IndexString"], unfollowed := true, recurses := true, named := ["unicode/utf8.first", "unicode/utf8.acceptRanges", "internal/bytealg.MaxLen"], apart := false, laid := [("unicode/utf8.acceptRanges", laid_unicode_utf8_acceptRanges), ("unicode/utf8.first", laid_unicode_utf8_first)] }
def InternKeysSaid : Prop := internKeysRow.holds Tryd.pinned (OpenSpec.ofChange internKeysSpec)

/-- ITS FALSE NEIGHBOUR: 'it returns false'. Refute it at one input. -/
def internKeysWrong : ChangeSpec := { name := "internKeys", fn := fun _ => fun
  | [d1, d2] => { results := [.lit (.bool false)], args := [d1, d2] }
  | _ => none }
def InternKeysWrongFalsely : Prop := internKeysRow.holds Tryd.pinned (OpenSpec.ofChange internKeysWrong)

/-- 'selvagelaw05.InternTells': WHATEVER THE INPUT: true; the input reads as it did. -/
def internTellsSpec : ChangeSpec := { name := "internTells", fn := fun _ => fun
  | [d1, d2, d3] => { results := [.lit (.bool true)], args := [d1, d2, d3] }
  | _ => none }
def internTellsRow : OpenClaim := { program := "ytpfhgaaphaalgaadoor", sum := "e58f74bd9f92fad5bbd525639d3760b361d24b51b00b8db079236223c3f6ae7c", func := "selvage/selvagelaw05.InternTells", spec := "internTells", inPlace := ["internal/bytealg.IndexByteString", "internal/bytealg.IndexString"], unfollowed := true, recurses := true, named := ["unicode/utf8.first", "unicode/utf8.acceptRanges", "internal/bytealg.MaxLen"], apart := false, laid := [("unicode/utf8.acceptRanges", laid_unicode_utf8_acceptRanges), ("unicode/utf8.first", laid_unicode_utf8_first)] }
def InternTellsSaid : Prop := internTellsRow.holds Tryd.pinned (OpenSpec.ofChange internTellsSpec)

/-- ITS FALSE NEIGHBOUR: 'it returns false'. Refute it at one input. -/
def internTellsWrong : ChangeSpec := { name := "internTells", fn := fun _ => fun
  | [d1, d2, d3] => { results := [.lit (.bool false)], args := [d1, d2, d3] }
  | _ => none }
def InternTellsWrongFalsely : Prop := internTellsRow.holds Tryd.pinned (OpenSpec.ofChange internTellsWrong)

/-- 'selvagelaw05.InternWays': WHATEVER THE INPUT: true; the input reads as it did. -/
def internWaysSpec : ChangeSpec := { name := "internWays", fn := fun _ => fun
  | [d1, d2, d3] => { results := [.lit (.bool true)], args := [d1, d2, d3] }
  | _ => none }
def internWaysRow : OpenClaim := { program := "ytpfhgaaphaalgaadoor", sum := "e58f74bd9f92fad5bbd525639d3760b361d24b51b00b8db079236223c3f6ae7c", func := "selvage/selvagelaw05.InternWays", spec := "internWays", inPlace := ["internal/bytealg.IndexByteString", "internal/bytealg.IndexString"], unfollowed := true, recurses := true, named := ["unicode/utf8.first", "unicode/utf8.acceptRanges", "internal/bytealg.MaxLen"], apart := false, laid := [("unicode/utf8.acceptRanges", laid_unicode_utf8_acceptRanges), ("unicode/utf8.first", laid_unicode_utf8_first)] }
def InternWaysSaid : Prop := internWaysRow.holds Tryd.pinned (OpenSpec.ofChange internWaysSpec)

/-- ITS FALSE NEIGHBOUR: 'it returns false'. Refute it at one input. -/
def internWaysWrong : ChangeSpec := { name := "internWays", fn := fun _ => fun
  | [d1, d2, d3] => { results := [.lit (.bool false)], args := [d1, d2, d3] }
  | _ => none }
def InternWaysWrongFalsely : Prop := internWaysRow.holds Tryd.pinned (OpenSpec.ofChange internWaysWrong)

/-- 'selvagelaw05.InternOwn': WHATEVER THE INPUT: true; the input reads as it did. -/
def internOwnSpec : ChangeSpec := { name := "internOwn", fn := fun _ => fun
  | [d1, d2, d3] => { results := [.lit (.bool true)], args := [d1, d2, d3] }
  | _ => none }
def internOwnRow : OpenClaim := { program := "ytpfhgaaphaalgaadoor", sum := "e58f74bd9f92fad5bbd525639d3760b361d24b51b00b8db079236223c3f6ae7c", func := "selvage/selvagelaw05.InternOwn", spec := "internOwn", inPlace := ["internal/bytealg.IndexByteString", "internal/bytealg.IndexString"], unfollowed := true, recurses := true, named := ["unicode/utf8.first", "unicode/utf8.acceptRanges", "internal/bytealg.MaxLen"], apart := false, laid := [("unicode/utf8.acceptRanges", laid_unicode_utf8_acceptRanges), ("unicode/utf8.first", laid_unicode_utf8_first)] }
def InternOwnSaid : Prop := internOwnRow.holds Tryd.pinned (OpenSpec.ofChange internOwnSpec)

/-- ITS FALSE NEIGHBOUR: 'it returns false'. Refute it at one input. -/
def internOwnWrong : ChangeSpec := { name := "internOwn", fn := fun _ => fun
  | [d1, d2, d3] => { results := [.lit (.bool false)], args := [d1, d2, d3] }
  | _ => none }
def InternOwnWrongFalsely : Prop := internOwnRow.holds Tryd.pinned (OpenSpec.ofChange internOwnWrong)

/-- 'selvagelaw05.InternIds': WHATEVER THE INPUT: true; the input reads as it did. -/
def internIdsSpec : ChangeSpec := { name := "internIds", fn := fun _ => fun
  | [d1, d2, d3] => { results := [.lit (.bool true)], args := [d1, d2, d3] }
  | _ => none }
def internIdsRow : OpenClaim := { program := "ytpfhgaaphaalgaadoor", sum := "e58f74bd9f92fad5bbd525639d3760b361d24b51b00b8db079236223c3f6ae7c", func := "selvage/selvagelaw05.InternIds", spec := "internIds", inPlace := ["internal/bytealg.IndexByteString", "internal/bytealg.IndexString", "internal/reflectlite.ValueOf", "(internal/reflectlite.Value).Type", "(internal/reflectlite.Value).IsNil", "internal/reflectlite.TypeOf", "(internal/reflectlite.Value).Elem", "(internal/reflectlite.Value).Set"], unfollowed := true, recurses := true, named := ["unicode/utf8.first", "unicode/utf8.acceptRanges", "errors.errorType", "internal/bytealg.MaxLen"], apart := false, laid := [("unicode/utf8.acceptRanges", laid_unicode_utf8_acceptRanges), ("errors.errorType", laid_errors_errorType), ("unicode/utf8.first", laid_unicode_utf8_first)] }
def InternIdsSaid : Prop := internIdsRow.holds Tryd.pinned (OpenSpec.ofChange internIdsSpec)

/-- ITS FALSE NEIGHBOUR: 'it returns false'. Refute it at one input. -/
def internIdsWrong : ChangeSpec := { name := "internIds", fn := fun _ => fun
  | [d1, d2, d3] => { results := [.lit (.bool false)], args := [d1, d2, d3] }
  | _ => none }
def InternIdsWrongFalsely : Prop := internIdsRow.holds Tryd.pinned (OpenSpec.ofChange internIdsWrong)

/- THE SECOND FORM. 'bulk': how many values and letters a reading holds, each counted each time it is reached (what is shared counts as often as it is met; a slice's spare places count too). A statement '..UptoSaid' is the law's where the arguments, and the package variables that the reading takes, are together of bulk at most 1048576: NARROWER than '..Said'. Prove '..Said' where nothing that the law and all that it calls make is longer than what came in: it says more and counts as full. Else prove '..UptoSaid'. A law counts once. -/
mutual
def uptoBulk {H : Type} : DataW H → Nat
  | .lit (.string bytes) => bytes.length + 1
  | .lit _ => 1
  | .nil => 1
  | .ptr d => uptoBulk d + 1
  | .slice elems spare => uptoBulkAll elems + uptoBulkAll spare + 1
  | .agg parts => uptoBulkAll parts + 1
  | .iface _ d => uptoBulk d + 1
  | .map entries => uptoBulkEntries entries + 1
  | .held _ => 1
def uptoBulkAll {H : Type} : List (DataW H) → Nat
  | [] => 0
  | d :: r => uptoBulk d + uptoBulkAll r
def uptoBulkEntries {H : Type} : List (Lit × DataW H) → Nat
  | [] => 0
  | x :: r => uptoBulkEntry x + uptoBulkEntries r
def uptoBulkEntry {H : Type} : Lit × DataW H → Nat
  | (.string bytes, d) => bytes.length + uptoBulk d + 1
  | (_, d) => uptoBulk d + 1
 end
def uptoSmall : (H : Type) → List (DataW H) → Bool := fun _ ds => decide (uptoBulkAll ds ≤ 1048576)
def OpenSpec.upto (s : _root_.Go.ChangeSpec) : _root_.Go.OpenSpec := { _root_.Go.OpenSpec.ofChange s with cond := some uptoSmall }

/-- 'selvagelaw05.InternKeys', WHERE WHAT IT READS IS OF BULK AT MOST 1048576: true; the input reads as it did. -/
def internKeysUptoRow : OpenClaim := { program := "ytpfhgaaphaalgaadoor", sum := "e58f74bd9f92fad5bbd525639d3760b361d24b51b00b8db079236223c3f6ae7c", func := "selvage/selvagelaw05.InternKeys", spec := "internKeys", inPlace := ["internal/bytealg.IndexByteString", "internal/bytealg.IndexString"], unfollowed := true, recurses := true, named := ["unicode/utf8.first", "unicode/utf8.acceptRanges", "internal/bytealg.MaxLen"], apart := false, laid := [("unicode/utf8.acceptRanges", laid_unicode_utf8_acceptRanges), ("unicode/utf8.first", laid_unicode_utf8_first)], narrowed := true }
def InternKeysUptoSaid : Prop := internKeysUptoRow.holds Tryd.pinned (OpenSpec.upto internKeysSpec)

/-- 'selvagelaw05.InternTells', WHERE WHAT IT READS IS OF BULK AT MOST 1048576: true; the input reads as it did. -/
def internTellsUptoRow : OpenClaim := { program := "ytpfhgaaphaalgaadoor", sum := "e58f74bd9f92fad5bbd525639d3760b361d24b51b00b8db079236223c3f6ae7c", func := "selvage/selvagelaw05.InternTells", spec := "internTells", inPlace := ["internal/bytealg.IndexByteString", "internal/bytealg.IndexString"], unfollowed := true, recurses := true, named := ["unicode/utf8.first", "unicode/utf8.acceptRanges", "internal/bytealg.MaxLen"], apart := false, laid := [("unicode/utf8.acceptRanges", laid_unicode_utf8_acceptRanges), ("unicode/utf8.first", laid_unicode_utf8_first)], narrowed := true }
def InternTellsUptoSaid : Prop := internTellsUptoRow.holds Tryd.pinned (OpenSpec.upto internTellsSpec)

/-- 'selvagelaw05.InternWays', WHERE WHAT IT READS IS OF BULK AT MOST 1048576: true; the input reads as it did. -/
def internWaysUptoRow : OpenClaim := { program := "ytpfhgaaphaalgaadoor", sum := "e58f74bd9f92fad5bbd525639d3760b361d24b51b00b8db079236223c3f6ae7c", func := "selvage/selvagelaw05.InternWays", spec := "internWays", inPlace := ["internal/bytealg.IndexByteString", "internal/bytealg.IndexString"], unfollowed := true, recurses := true, named := ["unicode/utf8.first", "unicode/utf8.acceptRanges", "internal/bytealg.MaxLen"], apart := false, laid := [("unicode/utf8.acceptRanges", laid_unicode_utf8_acceptRanges), ("unicode/utf8.first", laid_unicode_utf8_first)], narrowed := true }
def InternWaysUptoSaid : Prop := internWaysUptoRow.holds Tryd.pinned (OpenSpec.upto internWaysSpec)

/-- 'selvagelaw05.InternOwn', WHERE WHAT IT READS IS OF BULK AT MOST 1048576: true; the input reads as it did. -/
def internOwnUptoRow : OpenClaim := { program := "ytpfhgaaphaalgaadoor", sum := "e58f74bd9f92fad5bbd525639d3760b361d24b51b00b8db079236223c3f6ae7c", func := "selvage/selvagelaw05.InternOwn", spec := "internOwn", inPlace := ["internal/bytealg.IndexByteString", "internal/bytealg.IndexString"], unfollowed := true, recurses := true, named := ["unicode/utf8.first", "unicode/utf8.acceptRanges", "internal/bytealg.MaxLen"], apart := false, laid := [("unicode/utf8.acceptRanges", laid_unicode_utf8_acceptRanges), ("unicode/utf8.first", laid_unicode_utf8_first)], narrowed := true }
def InternOwnUptoSaid : Prop := internOwnUptoRow.holds Tryd.pinned (OpenSpec.upto internOwnSpec)

/-- 'selvagelaw05.InternIds', WHERE WHAT IT READS IS OF BULK AT MOST 1048576: true; the input reads as it did. -/
def internIdsUptoRow : OpenClaim := { program := "ytpfhgaaphaalgaadoor", sum := "e58f74bd9f92fad5bbd525639d3760b361d24b51b00b8db079236223c3f6ae7c", func := "selvage/selvagelaw05.InternIds", spec := "internIds", inPlace := ["internal/bytealg.IndexByteString", "internal/bytealg.IndexString", "internal/reflectlite.ValueOf", "(internal/reflectlite.Value).Type", "(internal/reflectlite.Value).IsNil", "internal/reflectlite.TypeOf", "(internal/reflectlite.Value).Elem", "(internal/reflectlite.Value).Set"], unfollowed := true, recurses := true, named := ["unicode/utf8.first", "unicode/utf8.acceptRanges", "errors.errorType", "internal/bytealg.MaxLen"], apart := false, laid := [("unicode/utf8.acceptRanges", laid_unicode_utf8_acceptRanges), ("errors.errorType", laid_errors_errorType), ("unicode/utf8.first", laid_unicode_utf8_first)], narrowed := true }
def InternIdsUptoSaid : Prop := internIdsUptoRow.holds Tryd.pinned (OpenSpec.upto internIdsSpec)

end Rows
end Go.Proofs.YtpfhgaaphaalgaaDoor
