/-
  DERIVED. GIVEN WITH THE SEED: THE CARDS: each row of YtecjoofjiockkaaDoorRows.lean that lists a variable, with what it lists TIED to the program's text (the seventh form; the later family's looks); each row that meets fmt, with fmt's text TOLD by the authors' own Lean function (tested against real Go, not proved from fmt's source: count such statements apart). THE CARD IS WHAT COUNTS. Prove the row's statement (the work); the ties are given (YtecjoofjiockkaaDoorTie.lean); close each card by the builder's one call (the guide's Derived/Test/ToyasCard.lean, 'card_holds'). Laid BY PROGRAM, IN A SANDBOX (cutbox-door.mjs). By AI agents, Wed Nov 11 2026. No macro, syntax, notation, axiom, sorry.
-/
import Derived.Test.YtecjoofjiockkaaDoorRows
import GoSem.ClaimSeven
namespace Go.Proofs.YtecjoofjiockkaaDoor
namespace Rows

/-- THE TIED CARD OF 'selvagelaw10.HunksTurned'. -/
def hunksTurnedCard : Claim7 := { stood := { row := hunksTurnedRow, standIns := [], harness := (true, "6dbaa17ba78916d907ce486ef3f794e9636c0e6864cef36b0f6ff2332b997374"), looks := true }, kinds := [], alts := [], laidByText := true, laidKinds := [.data, .handle, .pinned], laidTests := true, laidLooks := .later }
def HunksTurnedCardSaid : Prop := Claim7.holds Tryd.pinned (.plain (OpenSpec.ofChange hunksTurnedSpec)) hunksTurnedCard

/-- THE TIED CARD OF 'selvagelaw10.HunksAround'. -/
def hunksAroundCard : Claim7 := { stood := { row := hunksAroundRow, standIns := [], harness := (true, "6dbaa17ba78916d907ce486ef3f794e9636c0e6864cef36b0f6ff2332b997374"), looks := true }, kinds := [], alts := [], laidByText := true, laidKinds := [.data, .handle, .pinned], laidTests := true, laidLooks := .later }
def HunksAroundCardSaid : Prop := Claim7.holds Tryd.pinned (.plain (OpenSpec.ofChange hunksAroundSpec)) hunksAroundCard

/-- THE SECOND FORM's CARD OF 'selvagelaw10.HunksTurned'. -/
def hunksTurnedUptoCard : Claim7 := { stood := { row := hunksTurnedUptoRow, standIns := [], harness := (true, "6dbaa17ba78916d907ce486ef3f794e9636c0e6864cef36b0f6ff2332b997374"), looks := true }, kinds := [], alts := [], laidByText := true, laidKinds := [.data, .handle, .pinned], laidTests := true, laidLooks := .later }
def HunksTurnedUptoCardSaid : Prop := Claim7.holds Tryd.pinned (.plain (OpenSpec.upto hunksTurnedSpec)) hunksTurnedUptoCard

/-- THE SECOND FORM's CARD OF 'selvagelaw10.HunksAround'. -/
def hunksAroundUptoCard : Claim7 := { stood := { row := hunksAroundUptoRow, standIns := [], harness := (true, "6dbaa17ba78916d907ce486ef3f794e9636c0e6864cef36b0f6ff2332b997374"), looks := true }, kinds := [], alts := [], laidByText := true, laidKinds := [.data, .handle, .pinned], laidTests := true, laidLooks := .later }
def HunksAroundUptoCardSaid : Prop := Claim7.holds Tryd.pinned (.plain (OpenSpec.upto hunksAroundSpec)) hunksAroundUptoCard
end Rows
end Go.Proofs.YtecjoofjiockkaaDoor
