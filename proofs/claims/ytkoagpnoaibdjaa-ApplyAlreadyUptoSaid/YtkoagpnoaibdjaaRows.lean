/-
  No cell of these rows narrows 'for every input' (looked for: loops, veiled, ifaces, maps, wideKeys, modest, calm, conditions, laid).
  DERIVED. THE GIVEN ROWS OF THIS SEAT. 3 by the template 'for every input the law returns true; each argument reads behind the call as it read before'; 0 by the template 'total and deterministic' (their statements: YtkoagpnoaibdjaaTotals.lean).
  GIVEN WITH THE SEED: the statements are not yours to turn. If you find one false, say at which input.
  Laid BY PROGRAM, IN A SANDBOX (cutbox-rows.mjs): the forced cells as the released guide's own fill.sh prints them over the translation 3b1c007d4d35bae9… (all of the seat's roots in one cut). By AI agents, Wed Nov 11 2026. No macro, syntax, notation, axiom, sorry.
-/
import Derived.Test.YtkoagpnoaibdjaaChecked
import GoSem.Claim
import GoSem.ClaimJoined
import GoSem.ClaimMapViews
import Derived.JoinedTies
import Derived.KernelRfl
namespace Go.Proofs.Ytkoagpnoaibdjaa
/- THE CELL 'sum', in the pinned program and in every row, IS THE sha256 OF THE DUMP (.gsa) THAT YtkoagpnoaibdjaaProg.lean LOADS. Nothing in Lean hashes anything: it is a label: what it is worth is what the hold of that sum in a sandbox is worth. -/
noncomputable def Try.pinned : Pinned := { name := "ytkoagpnoaibdjaa", sum := "3b1c007d4d35bae926bf8dbd5e22fd1d013d4d24bd9b257ca193af485559d1ca", checked := Try.checked }
namespace Rows
def none {H : Type} : Left H := { results := [], args := [] }

/-- 'selvagelaw17.ApplyBuilt': WHATEVER THE INPUT: true; the input reads as it did. -/
def applyBuiltSpec : ChangeSpec := { name := "applyBuilt", fn := fun _ => fun
  | [d] => { results := [.lit (.bool true)], args := [d] }
  | _ => none }
def applyBuiltRow : OpenClaim := { program := "ytkoagpnoaibdjaa", sum := "3b1c007d4d35bae926bf8dbd5e22fd1d013d4d24bd9b257ca193af485559d1ca", func := "selvage/selvagelaw17.ApplyBuilt", spec := "applyBuilt", inPlace := ["internal/bytealg.IndexByteString", "internal/bytealg.IndexString"], unfollowed := true, recurses := true, named := ["internal/bytealg.MaxLen"], apart := false }
def ApplyBuiltSaid : Prop := applyBuiltRow.holds Try.pinned (OpenSpec.ofChange applyBuiltSpec)

/-- ITS FALSE NEIGHBOUR: 'it returns false'. Refute it at one input. -/
def applyBuiltWrong : ChangeSpec := { name := "applyBuilt", fn := fun _ => fun
  | [d] => { results := [.lit (.bool false)], args := [d] }
  | _ => none }
def ApplyBuiltWrongFalsely : Prop := applyBuiltRow.holds Try.pinned (OpenSpec.ofChange applyBuiltWrong)

/-- 'selvagelaw17.ApplyMoved': WHATEVER THE INPUT: true; the input reads as it did. -/
def applyMovedSpec : ChangeSpec := { name := "applyMoved", fn := fun _ => fun
  | [d1, d2] => { results := [.lit (.bool true)], args := [d1, d2] }
  | _ => none }
def applyMovedRow : OpenClaim := { program := "ytkoagpnoaibdjaa", sum := "3b1c007d4d35bae926bf8dbd5e22fd1d013d4d24bd9b257ca193af485559d1ca", func := "selvage/selvagelaw17.ApplyMoved", spec := "applyMoved", inPlace := ["internal/bytealg.IndexByteString", "internal/bytealg.IndexString"], unfollowed := true, recurses := true, named := ["internal/bytealg.MaxLen"], apart := false }
def ApplyMovedSaid : Prop := applyMovedRow.holds Try.pinned (OpenSpec.ofChange applyMovedSpec)

/-- ITS FALSE NEIGHBOUR: 'it returns false'. Refute it at one input. -/
def applyMovedWrong : ChangeSpec := { name := "applyMoved", fn := fun _ => fun
  | [d1, d2] => { results := [.lit (.bool false)], args := [d1, d2] }
  | _ => none }
def ApplyMovedWrongFalsely : Prop := applyMovedRow.holds Try.pinned (OpenSpec.ofChange applyMovedWrong)

/-- 'selvagelaw17.ApplyAlready': WHATEVER THE INPUT: true; the input reads as it did. -/
def applyAlreadySpec : ChangeSpec := { name := "applyAlready", fn := fun _ => fun
  | [d1, d2, d3] => { results := [.lit (.bool true)], args := [d1, d2, d3] }
  | _ => none }
def applyAlreadyRow : OpenClaim := { program := "ytkoagpnoaibdjaa", sum := "3b1c007d4d35bae926bf8dbd5e22fd1d013d4d24bd9b257ca193af485559d1ca", func := "selvage/selvagelaw17.ApplyAlready", spec := "applyAlready", inPlace := ["internal/bytealg.IndexByteString", "internal/bytealg.IndexString"], unfollowed := true, recurses := true, named := ["internal/bytealg.MaxLen"], apart := false }
def ApplyAlreadySaid : Prop := applyAlreadyRow.holds Try.pinned (OpenSpec.ofChange applyAlreadySpec)

/-- ITS FALSE NEIGHBOUR: 'it returns false'. Refute it at one input. -/
def applyAlreadyWrong : ChangeSpec := { name := "applyAlready", fn := fun _ => fun
  | [d1, d2, d3] => { results := [.lit (.bool false)], args := [d1, d2, d3] }
  | _ => none }
def ApplyAlreadyWrongFalsely : Prop := applyAlreadyRow.holds Try.pinned (OpenSpec.ofChange applyAlreadyWrong)

/- THE SECOND FORM. 'bulk': how many values and letters a reading holds, each counted each time it is reached (what is shared counts as often as it is met; a slice's spare places count too). A statement '..UptoSaid' is the law's where the arguments, and the package variables that the reading takes, are together of bulk at most 1048576: NARROWER than '..Said'. Prove '..Said' where nothing that the law and all that it calls make is longer than what came in: it says more and counts as full. Else prove '..UptoSaid'. A law counts once. -/
mutual
def uptoBulk {H : Type} : DataW H → Nat
  | .lit (.string bytes) => bytes.length + 1
  | .lit _ => 1
  | .nil => 1
  | .ptr d => uptoBulk d + 1
  | .slice elems spare => uptoBulkAll elems + uptoBulkAll spare + 1
  | .agg parts => uptoBulkAll parts + 1
  | .iface _ d => uptoBulk d + 1
  | .map entries => uptoBulkEntries entries + 1
  | .held _ => 1
def uptoBulkAll {H : Type} : List (DataW H) → Nat
  | [] => 0
  | d :: r => uptoBulk d + uptoBulkAll r
def uptoBulkEntries {H : Type} : List (Lit × DataW H) → Nat
  | [] => 0
  | x :: r => uptoBulkEntry x + uptoBulkEntries r
def uptoBulkEntry {H : Type} : Lit × DataW H → Nat
  | (.string bytes, d) => bytes.length + uptoBulk d + 1
  | (_, d) => uptoBulk d + 1
 end
def uptoSmall : (H : Type) → List (DataW H) → Bool := fun _ ds => decide (uptoBulkAll ds ≤ 1048576)
def OpenSpec.upto (s : _root_.Go.ChangeSpec) : _root_.Go.OpenSpec := { _root_.Go.OpenSpec.ofChange s with cond := some uptoSmall }

/-- 'selvagelaw17.ApplyBuilt', WHERE WHAT IT READS IS OF BULK AT MOST 1048576: true; the input reads as it did. -/
def applyBuiltUptoRow : OpenClaim := { program := "ytkoagpnoaibdjaa", sum := "3b1c007d4d35bae926bf8dbd5e22fd1d013d4d24bd9b257ca193af485559d1ca", func := "selvage/selvagelaw17.ApplyBuilt", spec := "applyBuilt", inPlace := ["internal/bytealg.IndexByteString", "internal/bytealg.IndexString"], unfollowed := true, recurses := true, named := ["internal/bytealg.MaxLen"], apart := false, narrowed := true }
def ApplyBuiltUptoSaid : Prop := applyBuiltUptoRow.holds Try.pinned (OpenSpec.upto applyBuiltSpec)

/-- 'selvagelaw17.ApplyMoved', WHERE WHAT IT READS IS OF BULK AT MOST 1048576: true; the input reads as it did. -/
def applyMovedUptoRow : OpenClaim := { program := "ytkoagpnoaibdjaa", sum := "3b1c007d4d35bae926bf8dbd5e22fd1d013d4d24bd9b257ca193af485559d1ca", func := "selvage/selvagelaw17.ApplyMoved", spec := "applyMoved", inPlace := ["internal/bytealg.IndexByteString", "internal/bytealg.IndexString"], unfollowed := true, recurses := true, named := ["internal/bytealg.MaxLen"], apart := false, narrowed := true }
def ApplyMovedUptoSaid : Prop := applyMovedUptoRow.holds Try.pinned (OpenSpec.upto applyMovedSpec)

/-- 'selvagelaw17.ApplyAlready', WHERE WHAT IT READS IS OF BULK AT MOST 1048576: true; the input reads as it did. -/
def applyAlreadyUptoRow : OpenClaim := { program := "ytkoagpnoaibdjaa", sum := "3b1c007d4d35bae926bf8dbd5e22fd1d013d4d24bd9b257ca193af485559d1ca", func := "selvage/selvagelaw17.ApplyAlready", spec := "applyAlready", inPlace := ["internal/bytealg.IndexByteString", "internal/bytealg.IndexString"], unfollowed := true, recurses := true, named := ["internal/bytealg.MaxLen"], apart := false, narrowed := true }
def ApplyAlreadyUptoSaid : Prop := applyAlreadyUptoRow.holds Try.pinned (OpenSpec.upto applyAlreadySpec)

end Rows
end Go.Proofs.Ytkoagpnoaibdjaa
