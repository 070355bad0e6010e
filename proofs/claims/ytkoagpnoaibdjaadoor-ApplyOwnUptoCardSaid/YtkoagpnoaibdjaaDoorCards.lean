/-
  DERIVED. GIVEN WITH THE SEED: THE CARDS: each row of YtkoagpnoaibdjaaDoorRows.lean that lists a variable, with what it lists TIED to the program's text (the seventh form; the later family's looks); each row that meets fmt, with fmt's text TOLD by the authors' own Lean function (tested against real Go, not proved from fmt's source: count such statements apart). THE CARD IS WHAT COUNTS. Prove the row's statement (the work); the ties are given (YtkoagpnoaibdjaaDoorTie.lean); close each card by the builder's one call (the guide's Derived/Test/ToyasCard.lean, 'card_holds'). Laid BY PROGRAM, IN A SANDBOX (cutbox-door.mjs). By AI agents, Wed Nov 11 2026. No macro, syntax, notation, axiom, sorry.
-/
import Derived.Test.YtkoagpnoaibdjaaDoorRows
import GoSem.ClaimSeven
namespace Go.Proofs.YtkoagpnoaibdjaaDoor
namespace Rows

/-- THE TIED CARD OF 'selvagelaw17.ApplyApplies'. -/
def applyAppliesCard : Claim7 := { stood := { row := applyAppliesRow, standIns := [], harness := (true, "8dca7ed8b624024f1fc0ea5dbd6213c29d022478c86dc49fd6d175318199eaf4"), looks := true }, kinds := [], alts := [], laidByText := true, laidKinds := [.handle], laidTests := true, laidLooks := .later }
def ApplyAppliesCardSaid : Prop := Claim7.holds Tryd.pinned (.plain (OpenSpec.ofChange applyAppliesSpec)) applyAppliesCard

/-- THE TIED CARD OF 'selvagelaw17.ApplyOwn'. -/
def applyOwnCard : Claim7 := { stood := { row := applyOwnRow, standIns := [], harness := (true, "8dca7ed8b624024f1fc0ea5dbd6213c29d022478c86dc49fd6d175318199eaf4"), looks := true }, kinds := [], alts := [], laidByText := true, laidKinds := [.handle], laidTests := true, laidLooks := .later }
def ApplyOwnCardSaid : Prop := Claim7.holds Tryd.pinned (.plain (OpenSpec.ofChange applyOwnSpec)) applyOwnCard

/-- THE SECOND FORM's CARD OF 'selvagelaw17.ApplyApplies'. -/
def applyAppliesUptoCard : Claim7 := { stood := { row := applyAppliesUptoRow, standIns := [], harness := (true, "8dca7ed8b624024f1fc0ea5dbd6213c29d022478c86dc49fd6d175318199eaf4"), looks := true }, kinds := [], alts := [], laidByText := true, laidKinds := [.handle], laidTests := true, laidLooks := .later }
def ApplyAppliesUptoCardSaid : Prop := Claim7.holds Tryd.pinned (.plain (OpenSpec.upto applyAppliesSpec)) applyAppliesUptoCard

/-- THE SECOND FORM's CARD OF 'selvagelaw17.ApplyOwn'. -/
def applyOwnUptoCard : Claim7 := { stood := { row := applyOwnUptoRow, standIns := [], harness := (true, "8dca7ed8b624024f1fc0ea5dbd6213c29d022478c86dc49fd6d175318199eaf4"), looks := true }, kinds := [], alts := [], laidByText := true, laidKinds := [.handle], laidTests := true, laidLooks := .later }
def ApplyOwnUptoCardSaid : Prop := Claim7.holds Tryd.pinned (.plain (OpenSpec.upto applyOwnSpec)) applyOwnUptoCard
end Rows
end Go.Proofs.YtkoagpnoaibdjaaDoor
