/-
  DERIVED. GIVEN WITH THE SEED: THE CARDS: each row of YtecjoofjiockkaaGreatDoorRows.lean that lists a variable, with what it lists TIED to the program's text (the seventh form; the later family's looks); each row that meets fmt, with fmt's text TOLD by the authors' own Lean function (tested against real Go, not proved from fmt's source: count such statements apart). THE CARD IS WHAT COUNTS. Prove the row's statement (the work); the ties are given (YtecjoofjiockkaaGreatDoorTie.lean); close each card by the builder's one call (the guide's Derived/Test/ToyasCard.lean, 'card_holds'). Laid BY PROGRAM, IN A SANDBOX (cutbox-door.mjs). By AI agents, Wed Nov 11 2026. No macro, syntax, notation, axiom, sorry.
-/
import Derived.Test.YtecjoofjiockkaaGreatDoorRows
import GoSem.ClaimSeven
namespace Go.Proofs.YtecjoofjiockkaaGreatDoor
namespace Rows

/-- THE TIED CARD OF 'selvagelaw10.HunksValid'. -/
def hunksValidCard : Claim7 := { stood := { row := hunksValidRow, standIns := [], harness := (true, "a077ee5c06bdafffaa62f575d2814b74061f38afa36d51b7faedacdff550979b"), looks := true }, kinds := [], alts := [], laidByText := true, laidKinds := [.data, .handle, .pinned], laidTests := true, laidLooks := .later }
def HunksValidCardSaid : Prop := Claim7.holds Tryz.pinned (.plain (OpenSpec.ofChange hunksValidSpec)) hunksValidCard

/-- THE TIED CARD OF 'selvagelaw10.HunksBuild'. -/
def hunksBuildCard : Claim7 := { stood := { row := hunksBuildRow, standIns := [], harness := (true, "a077ee5c06bdafffaa62f575d2814b74061f38afa36d51b7faedacdff550979b"), looks := true }, kinds := [], alts := [], laidByText := true, laidKinds := [.data, .handle, .pinned], laidTests := true, laidLooks := .later }
def HunksBuildCardSaid : Prop := Claim7.holds Tryz.pinned (.plain (OpenSpec.ofChange hunksBuildSpec)) hunksBuildCard

/-- THE TIED CARD OF 'selvagelaw10.HunksOwn'. -/
def hunksOwnCard : Claim7 := { stood := { row := hunksOwnRow, standIns := [], harness := (true, "a077ee5c06bdafffaa62f575d2814b74061f38afa36d51b7faedacdff550979b"), looks := true }, kinds := [], alts := [], laidByText := true, laidKinds := [.data, .handle, .pinned], laidTests := true, laidLooks := .later }
def HunksOwnCardSaid : Prop := Claim7.holds Tryz.pinned (.plain (OpenSpec.ofChange hunksOwnSpec)) hunksOwnCard

/-- THE TIED CARD OF 'selvagelaw10.HunksNarrow'. -/
def hunksNarrowCard : Claim7 := { stood := { row := hunksNarrowRow, standIns := [], harness := (true, "a077ee5c06bdafffaa62f575d2814b74061f38afa36d51b7faedacdff550979b"), looks := true }, kinds := [], alts := [], laidByText := true, laidKinds := [.data, .handle, .pinned], laidTests := true, laidLooks := .later }
def HunksNarrowCardSaid : Prop := Claim7.holds Tryz.pinned (.plain (OpenSpec.ofChange hunksNarrowSpec)) hunksNarrowCard

/-- THE TIED CARD OF 'selvagelaw10.HunksScript'. -/
def hunksScriptCard : Claim7 := { stood := { row := hunksScriptRow, standIns := [], harness := (true, "a077ee5c06bdafffaa62f575d2814b74061f38afa36d51b7faedacdff550979b"), looks := true }, kinds := [], alts := [], laidByText := true, laidKinds := [.data, .handle, .pinned], laidTests := true, laidLooks := .later }
def HunksScriptCardSaid : Prop := Claim7.holds Tryz.pinned (.plain (OpenSpec.ofChange hunksScriptSpec)) hunksScriptCard

/-- THE TIED CARD OF 'selvagelaw10.HunksWide'. -/
def hunksWideCard : Claim7 := { stood := { row := hunksWideRow, standIns := [], harness := (true, "a077ee5c06bdafffaa62f575d2814b74061f38afa36d51b7faedacdff550979b"), looks := true }, kinds := [], alts := [], laidByText := true, laidKinds := [.data, .handle, .pinned], laidTests := true, laidLooks := .later }
def HunksWideCardSaid : Prop := Claim7.holds Tryz.pinned (.plain (OpenSpec.ofChange hunksWideSpec)) hunksWideCard

/-- THE TIED CARD OF 'selvagelaw10.HunksLess'. -/
def hunksLessCard : Claim7 := { stood := { row := hunksLessRow, standIns := [], harness := (true, "a077ee5c06bdafffaa62f575d2814b74061f38afa36d51b7faedacdff550979b"), looks := true }, kinds := [], alts := [], laidByText := true, laidKinds := [.data, .handle, .pinned], laidTests := true, laidLooks := .later }
def HunksLessCardSaid : Prop := Claim7.holds Tryz.pinned (.plain (OpenSpec.ofChange hunksLessSpec)) hunksLessCard

/-- THE TIED CARD OF 'selvagelaw10.HunksMore'. -/
def hunksMoreCard : Claim7 := { stood := { row := hunksMoreRow, standIns := [], harness := (true, "a077ee5c06bdafffaa62f575d2814b74061f38afa36d51b7faedacdff550979b"), looks := true }, kinds := [], alts := [], laidByText := true, laidKinds := [.data, .handle, .pinned], laidTests := true, laidLooks := .later }
def HunksMoreCardSaid : Prop := Claim7.holds Tryz.pinned (.plain (OpenSpec.ofChange hunksMoreSpec)) hunksMoreCard

/-- THE SECOND FORM's CARD OF 'selvagelaw10.HunksValid'. -/
def hunksValidUptoCard : Claim7 := { stood := { row := hunksValidUptoRow, standIns := [], harness := (true, "a077ee5c06bdafffaa62f575d2814b74061f38afa36d51b7faedacdff550979b"), looks := true }, kinds := [], alts := [], laidByText := true, laidKinds := [.data, .handle, .pinned], laidTests := true, laidLooks := .later }
def HunksValidUptoCardSaid : Prop := Claim7.holds Tryz.pinned (.plain (OpenSpec.upto hunksValidSpec)) hunksValidUptoCard

/-- THE SECOND FORM's CARD OF 'selvagelaw10.HunksBuild'. -/
def hunksBuildUptoCard : Claim7 := { stood := { row := hunksBuildUptoRow, standIns := [], harness := (true, "a077ee5c06bdafffaa62f575d2814b74061f38afa36d51b7faedacdff550979b"), looks := true }, kinds := [], alts := [], laidByText := true, laidKinds := [.data, .handle, .pinned], laidTests := true, laidLooks := .later }
def HunksBuildUptoCardSaid : Prop := Claim7.holds Tryz.pinned (.plain (OpenSpec.upto hunksBuildSpec)) hunksBuildUptoCard

/-- THE SECOND FORM's CARD OF 'selvagelaw10.HunksOwn'. -/
def hunksOwnUptoCard : Claim7 := { stood := { row := hunksOwnUptoRow, standIns := [], harness := (true, "a077ee5c06bdafffaa62f575d2814b74061f38afa36d51b7faedacdff550979b"), looks := true }, kinds := [], alts := [], laidByText := true, laidKinds := [.data, .handle, .pinned], laidTests := true, laidLooks := .later }
def HunksOwnUptoCardSaid : Prop := Claim7.holds Tryz.pinned (.plain (OpenSpec.upto hunksOwnSpec)) hunksOwnUptoCard

/-- THE SECOND FORM's CARD OF 'selvagelaw10.HunksNarrow'. -/
def hunksNarrowUptoCard : Claim7 := { stood := { row := hunksNarrowUptoRow, standIns := [], harness := (true, "a077ee5c06bdafffaa62f575d2814b74061f38afa36d51b7faedacdff550979b"), looks := true }, kinds := [], alts := [], laidByText := true, laidKinds := [.data, .handle, .pinned], laidTests := true, laidLooks := .later }
def HunksNarrowUptoCardSaid : Prop := Claim7.holds Tryz.pinned (.plain (OpenSpec.upto hunksNarrowSpec)) hunksNarrowUptoCard

/-- THE SECOND FORM's CARD OF 'selvagelaw10.HunksScript'. -/
def hunksScriptUptoCard : Claim7 := { stood := { row := hunksScriptUptoRow, standIns := [], harness := (true, "a077ee5c06bdafffaa62f575d2814b74061f38afa36d51b7faedacdff550979b"), looks := true }, kinds := [], alts := [], laidByText := true, laidKinds := [.data, .handle, .pinned], laidTests := true, laidLooks := .later }
def HunksScriptUptoCardSaid : Prop := Claim7.holds Tryz.pinned (.plain (OpenSpec.upto hunksScriptSpec)) hunksScriptUptoCard

/-- THE SECOND FORM's CARD OF 'selvagelaw10.HunksWide'. -/
def hunksWideUptoCard : Claim7 := { stood := { row := hunksWideUptoRow, standIns := [], harness := (true, "a077ee5c06bdafffaa62f575d2814b74061f38afa36d51b7faedacdff550979b"), looks := true }, kinds := [], alts := [], laidByText := true, laidKinds := [.data, .handle, .pinned], laidTests := true, laidLooks := .later }
def HunksWideUptoCardSaid : Prop := Claim7.holds Tryz.pinned (.plain (OpenSpec.upto hunksWideSpec)) hunksWideUptoCard

/-- THE SECOND FORM's CARD OF 'selvagelaw10.HunksLess'. -/
def hunksLessUptoCard : Claim7 := { stood := { row := hunksLessUptoRow, standIns := [], harness := (true, "a077ee5c06bdafffaa62f575d2814b74061f38afa36d51b7faedacdff550979b"), looks := true }, kinds := [], alts := [], laidByText := true, laidKinds := [.data, .handle, .pinned], laidTests := true, laidLooks := .later }
def HunksLessUptoCardSaid : Prop := Claim7.holds Tryz.pinned (.plain (OpenSpec.upto hunksLessSpec)) hunksLessUptoCard

/-- THE SECOND FORM's CARD OF 'selvagelaw10.HunksMore'. -/
def hunksMoreUptoCard : Claim7 := { stood := { row := hunksMoreUptoRow, standIns := [], harness := (true, "a077ee5c06bdafffaa62f575d2814b74061f38afa36d51b7faedacdff550979b"), looks := true }, kinds := [], alts := [], laidByText := true, laidKinds := [.data, .handle, .pinned], laidTests := true, laidLooks := .later }
def HunksMoreUptoCardSaid : Prop := Claim7.holds Tryz.pinned (.plain (OpenSpec.upto hunksMoreSpec)) hunksMoreUptoCard
end Rows
end Go.Proofs.YtecjoofjiockkaaGreatDoor
