/-
  DERIVED. GIVEN WITH THE SEED: THE CARDS: each row of YtflkehpgkiomdaaDoorRows.lean that lists a variable, with what it lists TIED to the program's text (the seventh form; the later family's looks); each row that meets fmt, with fmt's text TOLD by the authors' own Lean function (tested against real Go, not proved from fmt's source: count such statements apart). THE CARD IS WHAT COUNTS. Prove the row's statement (the work); the ties are given (YtflkehpgkiomdaaDoorTie.lean); close each card by the builder's one call (the guide's Derived/Test/ToyasCard.lean, 'card_holds'). Laid BY PROGRAM, IN A SANDBOX (cutbox-door.mjs). By AI agents, Wed Nov 11 2026. No macro, syntax, notation, axiom, sorry.
-/
import Derived.Test.YtflkehpgkiomdaaDoorRows
import GoSem.ClaimSeven
namespace Go.Proofs.YtflkehpgkiomdaaDoor
namespace Rows

/-- THE TIED CARD OF 'selvagelaw03.PathRels'. -/
def pathRelsCard : Claim7 := { stood := { row := pathRelsRow, standIns := [], harness := (true, "8bf75c3c7510de9357d299ae16bd8426be829f80e7a4dbb63bb83e9a313ddeab"), looks := true }, kinds := [], alts := [], laidByText := true, laidKinds := [.data, .handle, .pinned], laidTests := true, laidLooks := .later }
def PathRelsCardSaid : Prop := Claim7.holds Tryd.pinned (.plain (OpenSpec.ofChange pathRelsSpec)) pathRelsCard

/-- THE TIED CARD OF 'selvagelaw03.PathGoes'. -/
def pathGoesCard : Claim7 := { stood := { row := pathGoesRow, standIns := [], harness := (true, "8bf75c3c7510de9357d299ae16bd8426be829f80e7a4dbb63bb83e9a313ddeab"), looks := true }, kinds := [], alts := [], laidByText := true, laidKinds := [.data, .handle, .pinned], laidTests := true, laidLooks := .later }
def PathGoesCardSaid : Prop := Claim7.holds Tryd.pinned (.plain (OpenSpec.ofChange pathGoesSpec)) pathGoesCard

/-- THE TIED CARD OF 'selvagelaw03.PathNames'. -/
def pathNamesCard : Claim7 := { stood := { row := pathNamesRow, standIns := [], harness := (true, "8bf75c3c7510de9357d299ae16bd8426be829f80e7a4dbb63bb83e9a313ddeab"), looks := true }, kinds := [], alts := [], laidByText := true, laidKinds := [.data, .handle, .pinned], laidTests := true, laidLooks := .later }
def PathNamesCardSaid : Prop := Claim7.holds Tryd.pinned (.plain (OpenSpec.ofChange pathNamesSpec)) pathNamesCard

/-- THE TIED CARD OF 'selvagelaw03.PathJoins'. -/
def pathJoinsCard : Claim7 := { stood := { row := pathJoinsRow, standIns := [], harness := (true, "8bf75c3c7510de9357d299ae16bd8426be829f80e7a4dbb63bb83e9a313ddeab"), looks := true }, kinds := [], alts := [], laidByText := true, laidKinds := [.data, .handle, .pinned], laidTests := true, laidLooks := .later }
def PathJoinsCardSaid : Prop := Claim7.holds Tryd.pinned (.plain (OpenSpec.ofChange pathJoinsSpec)) pathJoinsCard

/-- THE TIED CARD OF 'selvagelaw03.PathStrips'. -/
def pathStripsCard : Claim7 := { stood := { row := pathStripsRow, standIns := [], harness := (true, "8bf75c3c7510de9357d299ae16bd8426be829f80e7a4dbb63bb83e9a313ddeab"), looks := true }, kinds := [], alts := [], laidByText := true, laidKinds := [.data, .handle, .pinned], laidTests := true, laidLooks := .later }
def PathStripsCardSaid : Prop := Claim7.holds Tryd.pinned (.plain (OpenSpec.ofChange pathStripsSpec)) pathStripsCard

/-- THE TIED CARD OF 'selvagelaw03.PathSafe'. -/
def pathSafeCard : Claim7 := { stood := { row := pathSafeRow, standIns := [], harness := (true, "8bf75c3c7510de9357d299ae16bd8426be829f80e7a4dbb63bb83e9a313ddeab"), looks := true }, kinds := [], alts := [], laidByText := true, laidKinds := [.data, .handle, .pinned], laidTests := true, laidLooks := .later }
def PathSafeCardSaid : Prop := Claim7.holds Tryd.pinned (.plain (OpenSpec.ofChange pathSafeSpec)) pathSafeCard

/-- THE TIED CARD OF 'selvagelaw03.PathBack'. -/
def pathBackCard : Claim7 := { stood := { row := pathBackRow, standIns := [], harness := (true, "8bf75c3c7510de9357d299ae16bd8426be829f80e7a4dbb63bb83e9a313ddeab"), looks := true }, kinds := [], alts := [], laidByText := true, laidKinds := [.data, .handle, .pinned], laidTests := true, laidLooks := .later }
def PathBackCardSaid : Prop := Claim7.holds Tryd.pinned (.plain (OpenSpec.ofChange pathBackSpec)) pathBackCard

/-- THE TIED CARD OF 'selvagelaw03.PathLimits'. -/
def pathLimitsCard : Claim7 := { stood := { row := pathLimitsRow, standIns := [], harness := (true, "8bf75c3c7510de9357d299ae16bd8426be829f80e7a4dbb63bb83e9a313ddeab"), looks := true }, kinds := [], alts := [], laidByText := true, laidKinds := [.data, .handle, .pinned], laidTests := true, laidLooks := .later }
def PathLimitsCardSaid : Prop := Claim7.holds Tryd.pinned (.plain (OpenSpec.ofChange pathLimitsSpec)) pathLimitsCard

/-- THE TIED CARD OF 'selvagelaw03.PathOwn'. -/
def pathOwnCard : Claim7 := { stood := { row := pathOwnRow, standIns := [], harness := (true, "8bf75c3c7510de9357d299ae16bd8426be829f80e7a4dbb63bb83e9a313ddeab"), looks := true }, kinds := [], alts := [], laidByText := true, laidKinds := [.data, .handle, .pinned], laidTests := true, laidLooks := .later }
def PathOwnCardSaid : Prop := Claim7.holds Tryd.pinned (.plain (OpenSpec.ofChange pathOwnSpec)) pathOwnCard

/-- THE SECOND FORM's CARD OF 'selvagelaw03.PathRels'. -/
def pathRelsUptoCard : Claim7 := { stood := { row := pathRelsUptoRow, standIns := [], harness := (true, "8bf75c3c7510de9357d299ae16bd8426be829f80e7a4dbb63bb83e9a313ddeab"), looks := true }, kinds := [], alts := [], laidByText := true, laidKinds := [.data, .handle, .pinned], laidTests := true, laidLooks := .later }
def PathRelsUptoCardSaid : Prop := Claim7.holds Tryd.pinned (.plain (OpenSpec.upto pathRelsSpec)) pathRelsUptoCard

/-- THE SECOND FORM's CARD OF 'selvagelaw03.PathGoes'. -/
def pathGoesUptoCard : Claim7 := { stood := { row := pathGoesUptoRow, standIns := [], harness := (true, "8bf75c3c7510de9357d299ae16bd8426be829f80e7a4dbb63bb83e9a313ddeab"), looks := true }, kinds := [], alts := [], laidByText := true, laidKinds := [.data, .handle, .pinned], laidTests := true, laidLooks := .later }
def PathGoesUptoCardSaid : Prop := Claim7.holds Tryd.pinned (.plain (OpenSpec.upto pathGoesSpec)) pathGoesUptoCard

/-- THE SECOND FORM's CARD OF 'selvagelaw03.PathNames'. -/
def pathNamesUptoCard : Claim7 := { stood := { row := pathNamesUptoRow, standIns := [], harness := (true, "8bf75c3c7510de9357d299ae16bd8426be829f80e7a4dbb63bb83e9a313ddeab"), looks := true }, kinds := [], alts := [], laidByText := true, laidKinds := [.data, .handle, .pinned], laidTests := true, laidLooks := .later }
def PathNamesUptoCardSaid : Prop := Claim7.holds Tryd.pinned (.plain (OpenSpec.upto pathNamesSpec)) pathNamesUptoCard

/-- THE SECOND FORM's CARD OF 'selvagelaw03.PathJoins'. -/
def pathJoinsUptoCard : Claim7 := { stood := { row := pathJoinsUptoRow, standIns := [], harness := (true, "8bf75c3c7510de9357d299ae16bd8426be829f80e7a4dbb63bb83e9a313ddeab"), looks := true }, kinds := [], alts := [], laidByText := true, laidKinds := [.data, .handle, .pinned], laidTests := true, laidLooks := .later }
def PathJoinsUptoCardSaid : Prop := Claim7.holds Tryd.pinned (.plain (OpenSpec.upto pathJoinsSpec)) pathJoinsUptoCard

/-- THE SECOND FORM's CARD OF 'selvagelaw03.PathStrips'. -/
def pathStripsUptoCard : Claim7 := { stood := { row := pathStripsUptoRow, standIns := [], harness := (true, "8bf75c3c7510de9357d299ae16bd8426be829f80e7a4dbb63bb83e9a313ddeab"), looks := true }, kinds := [], alts := [], laidByText := true, laidKinds := [.data, .handle, .pinned], laidTests := true, laidLooks := .later }
def PathStripsUptoCardSaid : Prop := Claim7.holds Tryd.pinned (.plain (OpenSpec.upto pathStripsSpec)) pathStripsUptoCard

/-- THE SECOND FORM's CARD OF 'selvagelaw03.PathSafe'. -/
def pathSafeUptoCard : Claim7 := { stood := { row := pathSafeUptoRow, standIns := [], harness := (true, "8bf75c3c7510de9357d299ae16bd8426be829f80e7a4dbb63bb83e9a313ddeab"), looks := true }, kinds := [], alts := [], laidByText := true, laidKinds := [.data, .handle, .pinned], laidTests := true, laidLooks := .later }
def PathSafeUptoCardSaid : Prop := Claim7.holds Tryd.pinned (.plain (OpenSpec.upto pathSafeSpec)) pathSafeUptoCard

/-- THE SECOND FORM's CARD OF 'selvagelaw03.PathBack'. -/
def pathBackUptoCard : Claim7 := { stood := { row := pathBackUptoRow, standIns := [], harness := (true, "8bf75c3c7510de9357d299ae16bd8426be829f80e7a4dbb63bb83e9a313ddeab"), looks := true }, kinds := [], alts := [], laidByText := true, laidKinds := [.data, .handle, .pinned], laidTests := true, laidLooks := .later }
def PathBackUptoCardSaid : Prop := Claim7.holds Tryd.pinned (.plain (OpenSpec.upto pathBackSpec)) pathBackUptoCard

/-- THE SECOND FORM's CARD OF 'selvagelaw03.PathLimits'. -/
def pathLimitsUptoCard : Claim7 := { stood := { row := pathLimitsUptoRow, standIns := [], harness := (true, "8bf75c3c7510de9357d299ae16bd8426be829f80e7a4dbb63bb83e9a313ddeab"), looks := true }, kinds := [], alts := [], laidByText := true, laidKinds := [.data, .handle, .pinned], laidTests := true, laidLooks := .later }
def PathLimitsUptoCardSaid : Prop := Claim7.holds Tryd.pinned (.plain (OpenSpec.upto pathLimitsSpec)) pathLimitsUptoCard

/-- THE SECOND FORM's CARD OF 'selvagelaw03.PathOwn'. -/
def pathOwnUptoCard : Claim7 := { stood := { row := pathOwnUptoRow, standIns := [], harness := (true, "8bf75c3c7510de9357d299ae16bd8426be829f80e7a4dbb63bb83e9a313ddeab"), looks := true }, kinds := [], alts := [], laidByText := true, laidKinds := [.data, .handle, .pinned], laidTests := true, laidLooks := .later }
def PathOwnUptoCardSaid : Prop := Claim7.holds Tryd.pinned (.plain (OpenSpec.upto pathOwnSpec)) pathOwnUptoCard
end Rows
end Go.Proofs.YtflkehpgkiomdaaDoor
