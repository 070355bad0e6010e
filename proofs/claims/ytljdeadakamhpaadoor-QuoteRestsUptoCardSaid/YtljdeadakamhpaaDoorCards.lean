/-
  DERIVED. GIVEN WITH THE SEED: THE CARDS: each row of YtljdeadakamhpaaDoorRows.lean that lists a variable, with what it lists TIED to the program's text (the seventh form; the later family's looks); each row that meets fmt, with fmt's text TOLD by the authors' own Lean function (tested against real Go, not proved from fmt's source: count such statements apart). THE CARD IS WHAT COUNTS. Prove the row's statement (the work); the ties are given (YtljdeadakamhpaaDoorTie.lean); close each card by the builder's one call (the guide's Derived/Test/ToyasCard.lean, 'card_holds'). Laid BY PROGRAM, IN A SANDBOX (cutbox-door.mjs). By AI agents, Wed Nov 11 2026. No macro, syntax, notation, axiom, sorry.
-/
import Derived.Test.YtljdeadakamhpaaDoorRows
import GoSem.ClaimSeven
namespace Go.Proofs.YtljdeadakamhpaaDoor
namespace Rows

/-- THE TIED CARD OF 'selvagelaw02.QuoteNames'. -/
def quoteNamesCard : Claim7 := { stood := { row := quoteNamesRow, standIns := [], harness := (true, "46147a02d6202623fa12beec8d56ca71d8302c89d5ce9ec7d312921f050c6145"), looks := true }, kinds := [], alts := [], laidByText := true, laidKinds := [.handle], laidTests := true, laidLooks := .later }
def QuoteNamesCardSaid : Prop := Claim7.holds Tryd.pinned (.plain (OpenSpec.ofChange quoteNamesSpec)) quoteNamesCard

/-- THE TIED CARD OF 'selvagelaw02.QuoteReads'. -/
def quoteReadsCard : Claim7 := { stood := { row := quoteReadsRow, standIns := [], harness := (true, "46147a02d6202623fa12beec8d56ca71d8302c89d5ce9ec7d312921f050c6145"), looks := true }, kinds := [], alts := [], laidByText := true, laidKinds := [.handle], laidTests := true, laidLooks := .later }
def QuoteReadsCardSaid : Prop := Claim7.holds Tryd.pinned (.plain (OpenSpec.ofChange quoteReadsSpec)) quoteReadsCard

/-- THE TIED CARD OF 'selvagelaw02.QuoteBack'. -/
def quoteBackCard : Claim7 := { stood := { row := quoteBackRow, standIns := [], harness := (true, "46147a02d6202623fa12beec8d56ca71d8302c89d5ce9ec7d312921f050c6145"), looks := true }, kinds := [], alts := [], laidByText := true, laidKinds := [.handle], laidTests := true, laidLooks := .later }
def QuoteBackCardSaid : Prop := Claim7.holds Tryd.pinned (.plain (OpenSpec.ofChange quoteBackSpec)) quoteBackCard

/-- THE TIED CARD OF 'selvagelaw02.QuoteApart'. -/
def quoteApartCard : Claim7 := { stood := { row := quoteApartRow, standIns := [], harness := (true, "46147a02d6202623fa12beec8d56ca71d8302c89d5ce9ec7d312921f050c6145"), looks := true }, kinds := [], alts := [], laidByText := true, laidKinds := [.handle], laidTests := true, laidLooks := .later }
def QuoteApartCardSaid : Prop := Claim7.holds Tryd.pinned (.plain (OpenSpec.ofChange quoteApartSpec)) quoteApartCard

/-- THE TIED CARD OF 'selvagelaw02.QuoteRests'. -/
def quoteRestsCard : Claim7 := { stood := { row := quoteRestsRow, standIns := [], harness := (true, "46147a02d6202623fa12beec8d56ca71d8302c89d5ce9ec7d312921f050c6145"), looks := true }, kinds := [], alts := [], laidByText := true, laidKinds := [.handle], laidTests := true, laidLooks := .later }
def QuoteRestsCardSaid : Prop := Claim7.holds Tryd.pinned (.plain (OpenSpec.ofChange quoteRestsSpec)) quoteRestsCard

/-- THE SECOND FORM's CARD OF 'selvagelaw02.QuoteNames'. -/
def quoteNamesUptoCard : Claim7 := { stood := { row := quoteNamesUptoRow, standIns := [], harness := (true, "46147a02d6202623fa12beec8d56ca71d8302c89d5ce9ec7d312921f050c6145"), looks := true }, kinds := [], alts := [], laidByText := true, laidKinds := [.handle], laidTests := true, laidLooks := .later }
def QuoteNamesUptoCardSaid : Prop := Claim7.holds Tryd.pinned (.plain (OpenSpec.upto quoteNamesSpec)) quoteNamesUptoCard

/-- THE SECOND FORM's CARD OF 'selvagelaw02.QuoteReads'. -/
def quoteReadsUptoCard : Claim7 := { stood := { row := quoteReadsUptoRow, standIns := [], harness := (true, "46147a02d6202623fa12beec8d56ca71d8302c89d5ce9ec7d312921f050c6145"), looks := true }, kinds := [], alts := [], laidByText := true, laidKinds := [.handle], laidTests := true, laidLooks := .later }
def QuoteReadsUptoCardSaid : Prop := Claim7.holds Tryd.pinned (.plain (OpenSpec.upto quoteReadsSpec)) quoteReadsUptoCard

/-- THE SECOND FORM's CARD OF 'selvagelaw02.QuoteBack'. -/
def quoteBackUptoCard : Claim7 := { stood := { row := quoteBackUptoRow, standIns := [], harness := (true, "46147a02d6202623fa12beec8d56ca71d8302c89d5ce9ec7d312921f050c6145"), looks := true }, kinds := [], alts := [], laidByText := true, laidKinds := [.handle], laidTests := true, laidLooks := .later }
def QuoteBackUptoCardSaid : Prop := Claim7.holds Tryd.pinned (.plain (OpenSpec.upto quoteBackSpec)) quoteBackUptoCard

/-- THE SECOND FORM's CARD OF 'selvagelaw02.QuoteApart'. -/
def quoteApartUptoCard : Claim7 := { stood := { row := quoteApartUptoRow, standIns := [], harness := (true, "46147a02d6202623fa12beec8d56ca71d8302c89d5ce9ec7d312921f050c6145"), looks := true }, kinds := [], alts := [], laidByText := true, laidKinds := [.handle], laidTests := true, laidLooks := .later }
def QuoteApartUptoCardSaid : Prop := Claim7.holds Tryd.pinned (.plain (OpenSpec.upto quoteApartSpec)) quoteApartUptoCard

/-- THE SECOND FORM's CARD OF 'selvagelaw02.QuoteRests'. -/
def quoteRestsUptoCard : Claim7 := { stood := { row := quoteRestsUptoRow, standIns := [], harness := (true, "46147a02d6202623fa12beec8d56ca71d8302c89d5ce9ec7d312921f050c6145"), looks := true }, kinds := [], alts := [], laidByText := true, laidKinds := [.handle], laidTests := true, laidLooks := .later }
def QuoteRestsUptoCardSaid : Prop := Claim7.holds Tryd.pinned (.plain (OpenSpec.upto quoteRestsSpec)) quoteRestsUptoCard
end Rows
end Go.Proofs.YtljdeadakamhpaaDoor
