/-
  DERIVED. GIVEN WITH THE SEED: THE CARDS: each row of YtoodnahaohmmkaaGreatDoorRows.lean that lists a variable, with what it lists TIED to the program's text (the seventh form; the later family's looks); each row that meets fmt, with fmt's text TOLD by the authors' own Lean function (tested against real Go, not proved from fmt's source: count such statements apart). THE CARD IS WHAT COUNTS. Prove the row's statement (the work); the ties are given (YtoodnahaohmmkaaGreatDoorTie.lean); close each card by the builder's one call (the guide's Derived/Test/ToyasCard.lean, 'card_holds'). Laid BY PROGRAM, IN A SANDBOX (cutbox-door.mjs). By AI agents, Wed Nov 11 2026. No macro, syntax, notation, axiom, sorry.
-/
import Derived.Test.YtoodnahaohmmkaaGreatDoorRows
import GoSem.ClaimSeven
namespace Go.Proofs.YtoodnahaohmmkaaGreatDoor
namespace Rows

/-- THE TIED CARD OF 'wayzgoosetop.TopColumns'. -/
def topColumnsCard : Claim7 := { stood := { row := topColumnsRow, standIns := [], harness := (true, "10f548102f21b42b2e0398432283522c19417980d56a2004b6823948a84185f0"), looks := true }, kinds := [], alts := [], laidByText := true, laidKinds := [.data, .handle, .pinned, .pinned], laidTests := true, laidLooks := .later }
def TopColumnsCardSaid : Prop := Claim7.holds Tryz.pinned (.plain (OpenSpec.ofChange topColumnsSpec)) topColumnsCard

/-- THE TIED CARD OF 'wayzgoosetop.TopTraded'. -/
def topTradedCard : Claim7 := { stood := { row := topTradedRow, standIns := [], harness := (true, "10f548102f21b42b2e0398432283522c19417980d56a2004b6823948a84185f0"), looks := true }, kinds := [], alts := [], laidByText := true, laidKinds := [.data, .pinned, .pinned], laidTests := true, laidLooks := .later }
def TopTradedCardSaid : Prop := Claim7.holds Tryz.pinned (.plain (OpenSpec.ofChange topTradedSpec)) topTradedCard

/-- THE SECOND FORM's CARD OF 'wayzgoosetop.TopColumns'. -/
def topColumnsUptoCard : Claim7 := { stood := { row := topColumnsUptoRow, standIns := [], harness := (true, "10f548102f21b42b2e0398432283522c19417980d56a2004b6823948a84185f0"), looks := true }, kinds := [], alts := [], laidByText := true, laidKinds := [.data, .handle, .pinned, .pinned], laidTests := true, laidLooks := .later }
def TopColumnsUptoCardSaid : Prop := Claim7.holds Tryz.pinned (.plain (OpenSpec.upto topColumnsSpec)) topColumnsUptoCard

/-- THE SECOND FORM's CARD OF 'wayzgoosetop.TopTraded'. -/
def topTradedUptoCard : Claim7 := { stood := { row := topTradedUptoRow, standIns := [], harness := (true, "10f548102f21b42b2e0398432283522c19417980d56a2004b6823948a84185f0"), looks := true }, kinds := [], alts := [], laidByText := true, laidKinds := [.data, .pinned, .pinned], laidTests := true, laidLooks := .later }
def TopTradedUptoCardSaid : Prop := Claim7.holds Tryz.pinned (.plain (OpenSpec.upto topTradedSpec)) topTradedUptoCard
end Rows
end Go.Proofs.YtoodnahaohmmkaaGreatDoor
