/-
  DERIVED. GIVEN WITH THE SEED: THE CARDS: each row of YtmfanpibpmajnaaDoorRows.lean that lists a variable, with what it lists TIED to the program's text (the seventh form; the later family's looks); each row that meets fmt, with fmt's text TOLD by the authors' own Lean function (tested against real Go, not proved from fmt's source: count such statements apart). THE CARD IS WHAT COUNTS. Prove the row's statement (the work); the ties are given (YtmfanpibpmajnaaDoorTie.lean); close each card by the builder's one call (the guide's Derived/Test/ToyasCard.lean, 'card_holds'). Laid BY PROGRAM, IN A SANDBOX (cutbox-door.mjs). By AI agents, Wed Nov 11 2026. No macro, syntax, notation, axiom, sorry.
-/
import Derived.Test.YtmfanpibpmajnaaDoorRows
import GoSem.ClaimSeven
namespace Go.Proofs.YtmfanpibpmajnaaDoor
namespace Rows

/-- THE TIED CARD OF 'selvagelaw09.SlideSlides'. -/
def slideSlidesCard : Claim7 := { stood := { row := slideSlidesRow, standIns := [], harness := (true, "e2ec55a54939fb9ee116e5098ef9bc2af8887617cdaa326a0697e5dba2421f23"), looks := true }, kinds := [], alts := [], laidByText := true, laidKinds := [.data, .handle, .pinned], laidTests := true, laidLooks := .later }
def SlideSlidesCardSaid : Prop := Claim7.holds Tryd.pinned (.plain (OpenSpec.ofChange slideSlidesSpec)) slideSlidesCard

/-- THE TIED CARD OF 'selvagelaw09.SlideKeeps'. -/
def slideKeepsCard : Claim7 := { stood := { row := slideKeepsRow, standIns := [], harness := (true, "e2ec55a54939fb9ee116e5098ef9bc2af8887617cdaa326a0697e5dba2421f23"), looks := true }, kinds := [], alts := [], laidByText := true, laidKinds := [.data, .handle, .pinned], laidTests := true, laidLooks := .later }
def SlideKeepsCardSaid : Prop := Claim7.holds Tryd.pinned (.plain (OpenSpec.ofChange slideKeepsSpec)) slideKeepsCard

/-- THE TIED CARD OF 'selvagelaw09.SlideBlanks'. -/
def slideBlanksCard : Claim7 := { stood := { row := slideBlanksRow, standIns := [], harness := (true, "e2ec55a54939fb9ee116e5098ef9bc2af8887617cdaa326a0697e5dba2421f23"), looks := true }, kinds := [], alts := [], laidByText := true, laidKinds := [.data, .handle, .pinned], laidTests := true, laidLooks := .later }
def SlideBlanksCardSaid : Prop := Claim7.holds Tryd.pinned (.plain (OpenSpec.ofChange slideBlanksSpec)) slideBlanksCard

/-- THE TIED CARD OF 'selvagelaw09.SlideOwn'. -/
def slideOwnCard : Claim7 := { stood := { row := slideOwnRow, standIns := [], harness := (true, "e2ec55a54939fb9ee116e5098ef9bc2af8887617cdaa326a0697e5dba2421f23"), looks := true }, kinds := [], alts := [], laidByText := true, laidKinds := [.data, .handle, .pinned], laidTests := true, laidLooks := .later }
def SlideOwnCardSaid : Prop := Claim7.holds Tryd.pinned (.plain (OpenSpec.ofChange slideOwnSpec)) slideOwnCard

/-- THE SECOND FORM's CARD OF 'selvagelaw09.SlideSlides'. -/
def slideSlidesUptoCard : Claim7 := { stood := { row := slideSlidesUptoRow, standIns := [], harness := (true, "e2ec55a54939fb9ee116e5098ef9bc2af8887617cdaa326a0697e5dba2421f23"), looks := true }, kinds := [], alts := [], laidByText := true, laidKinds := [.data, .handle, .pinned], laidTests := true, laidLooks := .later }
def SlideSlidesUptoCardSaid : Prop := Claim7.holds Tryd.pinned (.plain (OpenSpec.upto slideSlidesSpec)) slideSlidesUptoCard

/-- THE SECOND FORM's CARD OF 'selvagelaw09.SlideKeeps'. -/
def slideKeepsUptoCard : Claim7 := { stood := { row := slideKeepsUptoRow, standIns := [], harness := (true, "e2ec55a54939fb9ee116e5098ef9bc2af8887617cdaa326a0697e5dba2421f23"), looks := true }, kinds := [], alts := [], laidByText := true, laidKinds := [.data, .handle, .pinned], laidTests := true, laidLooks := .later }
def SlideKeepsUptoCardSaid : Prop := Claim7.holds Tryd.pinned (.plain (OpenSpec.upto slideKeepsSpec)) slideKeepsUptoCard

/-- THE SECOND FORM's CARD OF 'selvagelaw09.SlideBlanks'. -/
def slideBlanksUptoCard : Claim7 := { stood := { row := slideBlanksUptoRow, standIns := [], harness := (true, "e2ec55a54939fb9ee116e5098ef9bc2af8887617cdaa326a0697e5dba2421f23"), looks := true }, kinds := [], alts := [], laidByText := true, laidKinds := [.data, .handle, .pinned], laidTests := true, laidLooks := .later }
def SlideBlanksUptoCardSaid : Prop := Claim7.holds Tryd.pinned (.plain (OpenSpec.upto slideBlanksSpec)) slideBlanksUptoCard

/-- THE SECOND FORM's CARD OF 'selvagelaw09.SlideOwn'. -/
def slideOwnUptoCard : Claim7 := { stood := { row := slideOwnUptoRow, standIns := [], harness := (true, "e2ec55a54939fb9ee116e5098ef9bc2af8887617cdaa326a0697e5dba2421f23"), looks := true }, kinds := [], alts := [], laidByText := true, laidKinds := [.data, .handle, .pinned], laidTests := true, laidLooks := .later }
def SlideOwnUptoCardSaid : Prop := Claim7.holds Tryd.pinned (.plain (OpenSpec.upto slideOwnSpec)) slideOwnUptoCard
end Rows
end Go.Proofs.YtmfanpibpmajnaaDoor
