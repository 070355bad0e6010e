/-
  DERIVED. GIVEN WITH THE SEED: THE CARDS: each row of YtpfhgaaphaalgaaDoorRows.lean that lists a variable, with what it lists TIED to the program's text (the seventh form; the later family's looks); each row that meets fmt, with fmt's text TOLD by the authors' own Lean function (tested against real Go, not proved from fmt's source: count such statements apart). THE CARD IS WHAT COUNTS. Prove the row's statement (the work); the ties are given (YtpfhgaaphaalgaaDoorTie.lean); close each card by the builder's one call (the guide's Derived/Test/ToyasCard.lean, 'card_holds'). Laid BY PROGRAM, IN A SANDBOX (cutbox-door.mjs). By AI agents, Wed Nov 11 2026. No macro, syntax, notation, axiom, sorry.
-/
import Derived.Test.YtpfhgaaphaalgaaDoorRows
import GoSem.ClaimSeven
namespace Go.Proofs.YtpfhgaaphaalgaaDoor
namespace Rows

/-- THE TIED CARD OF 'selvagelaw05.InternKeys'. -/
def internKeysCard : Claim7 := { stood := { row := internKeysRow, standIns := [], harness := (true, "550f0d99dca43c5b3663caf0f2d5194dbd892c41430c9cdcba5a6093041014dc"), looks := true }, kinds := [], alts := [], laidByText := true, laidKinds := [.data, .pinned], laidTests := true, laidLooks := .later }
def InternKeysCardSaid : Prop := Claim7.holds Tryd.pinned (.plain (OpenSpec.ofChange internKeysSpec)) internKeysCard

/-- THE TIED CARD OF 'selvagelaw05.InternTells'. -/
def internTellsCard : Claim7 := { stood := { row := internTellsRow, standIns := [], harness := (true, "550f0d99dca43c5b3663caf0f2d5194dbd892c41430c9cdcba5a6093041014dc"), looks := true }, kinds := [], alts := [], laidByText := true, laidKinds := [.data, .pinned], laidTests := true, laidLooks := .later }
def InternTellsCardSaid : Prop := Claim7.holds Tryd.pinned (.plain (OpenSpec.ofChange internTellsSpec)) internTellsCard

/-- THE TIED CARD OF 'selvagelaw05.InternWays'. -/
def internWaysCard : Claim7 := { stood := { row := internWaysRow, standIns := [], harness := (true, "550f0d99dca43c5b3663caf0f2d5194dbd892c41430c9cdcba5a6093041014dc"), looks := true }, kinds := [], alts := [], laidByText := true, laidKinds := [.data, .pinned], laidTests := true, laidLooks := .later }
def InternWaysCardSaid : Prop := Claim7.holds Tryd.pinned (.plain (OpenSpec.ofChange internWaysSpec)) internWaysCard

/-- THE TIED CARD OF 'selvagelaw05.InternOwn'. -/
def internOwnCard : Claim7 := { stood := { row := internOwnRow, standIns := [], harness := (true, "550f0d99dca43c5b3663caf0f2d5194dbd892c41430c9cdcba5a6093041014dc"), looks := true }, kinds := [], alts := [], laidByText := true, laidKinds := [.data, .pinned], laidTests := true, laidLooks := .later }
def InternOwnCardSaid : Prop := Claim7.holds Tryd.pinned (.plain (OpenSpec.ofChange internOwnSpec)) internOwnCard

/-- THE TIED CARD OF 'selvagelaw05.InternIds'. -/
def internIdsCard : Claim7 := { stood := { row := internIdsRow, standIns := [], harness := (true, "550f0d99dca43c5b3663caf0f2d5194dbd892c41430c9cdcba5a6093041014dc"), looks := true }, kinds := [], alts := [], laidByText := true, laidKinds := [.data, .handle, .pinned], laidTests := true, laidLooks := .later }
def InternIdsCardSaid : Prop := Claim7.holds Tryd.pinned (.plain (OpenSpec.ofChange internIdsSpec)) internIdsCard

/-- THE SECOND FORM's CARD OF 'selvagelaw05.InternKeys'. -/
def internKeysUptoCard : Claim7 := { stood := { row := internKeysUptoRow, standIns := [], harness := (true, "550f0d99dca43c5b3663caf0f2d5194dbd892c41430c9cdcba5a6093041014dc"), looks := true }, kinds := [], alts := [], laidByText := true, laidKinds := [.data, .pinned], laidTests := true, laidLooks := .later }
def InternKeysUptoCardSaid : Prop := Claim7.holds Tryd.pinned (.plain (OpenSpec.upto internKeysSpec)) internKeysUptoCard

/-- THE SECOND FORM's CARD OF 'selvagelaw05.InternTells'. -/
def internTellsUptoCard : Claim7 := { stood := { row := internTellsUptoRow, standIns := [], harness := (true, "550f0d99dca43c5b3663caf0f2d5194dbd892c41430c9cdcba5a6093041014dc"), looks := true }, kinds := [], alts := [], laidByText := true, laidKinds := [.data, .pinned], laidTests := true, laidLooks := .later }
def InternTellsUptoCardSaid : Prop := Claim7.holds Tryd.pinned (.plain (OpenSpec.upto internTellsSpec)) internTellsUptoCard

/-- THE SECOND FORM's CARD OF 'selvagelaw05.InternWays'. -/
def internWaysUptoCard : Claim7 := { stood := { row := internWaysUptoRow, standIns := [], harness := (true, "550f0d99dca43c5b3663caf0f2d5194dbd892c41430c9cdcba5a6093041014dc"), looks := true }, kinds := [], alts := [], laidByText := true, laidKinds := [.data, .pinned], laidTests := true, laidLooks := .later }
def InternWaysUptoCardSaid : Prop := Claim7.holds Tryd.pinned (.plain (OpenSpec.upto internWaysSpec)) internWaysUptoCard

/-- THE SECOND FORM's CARD OF 'selvagelaw05.InternOwn'. -/
def internOwnUptoCard : Claim7 := { stood := { row := internOwnUptoRow, standIns := [], harness := (true, "550f0d99dca43c5b3663caf0f2d5194dbd892c41430c9cdcba5a6093041014dc"), looks := true }, kinds := [], alts := [], laidByText := true, laidKinds := [.data, .pinned], laidTests := true, laidLooks := .later }
def InternOwnUptoCardSaid : Prop := Claim7.holds Tryd.pinned (.plain (OpenSpec.upto internOwnSpec)) internOwnUptoCard

/-- THE SECOND FORM's CARD OF 'selvagelaw05.InternIds'. -/
def internIdsUptoCard : Claim7 := { stood := { row := internIdsUptoRow, standIns := [], harness := (true, "550f0d99dca43c5b3663caf0f2d5194dbd892c41430c9cdcba5a6093041014dc"), looks := true }, kinds := [], alts := [], laidByText := true, laidKinds := [.data, .handle, .pinned], laidTests := true, laidLooks := .later }
def InternIdsUptoCardSaid : Prop := Claim7.holds Tryd.pinned (.plain (OpenSpec.upto internIdsSpec)) internIdsUptoCard
end Rows
end Go.Proofs.YtpfhgaaphaalgaaDoor
