/-
  DERIVED. GIVEN WITH THE SEED: THE CARDS: each row of YtcbpjojhfgadlaaGreatDoorRows.lean that lists a variable, with what it lists TIED to the program's text (the seventh form; the later family's looks); each row that meets fmt, with fmt's text TOLD by the authors' own Lean function (tested against real Go, not proved from fmt's source: count such statements apart). THE CARD IS WHAT COUNTS. Prove the row's statement (the work); the ties are given (YtcbpjojhfgadlaaGreatDoorTie.lean); close each card by the builder's one call (the guide's Derived/Test/ToyasCard.lean, 'card_holds'). Laid BY PROGRAM, IN A SANDBOX (cutbox-door.mjs). By AI agents, Wed Nov 11 2026. No macro, syntax, notation, axiom, sorry.
-/
import Derived.Test.YtcbpjojhfgadlaaGreatDoorRows
import GoSem.ClaimSeven
namespace Go.Proofs.YtcbpjojhfgadlaaGreatDoor
namespace Rows

/-- THE TIED CARD OF 'wayzgooselaw01.StreetStrings'. -/
def streetStringsCard : Claim7 := { stood := { row := streetStringsRow, standIns := [], harness := (true, "d142538dcc206e2a3064a5015a48ed967433c989ab664c445934d57cd2717350"), looks := true }, kinds := [], alts := [], laidByText := true, laidKinds := [.data, .data, .data, .handle], laidTests := true, laidLooks := .later }
def StreetStringsCardSaid : Prop := Claim7.holds Tryz.pinned (.plain (OpenSpec.ofChange streetStringsSpec)) streetStringsCard

/-- THE TIED CARD OF 'wayzgooselaw01.StreetRead'. -/
def streetReadCard : Claim7 := { stood := { row := streetReadRow, standIns := [], harness := (true, "d142538dcc206e2a3064a5015a48ed967433c989ab664c445934d57cd2717350"), looks := true }, kinds := [], alts := [], laidByText := true, laidKinds := [.data, .data, .data, .handle], laidTests := true, laidLooks := .later }
def StreetReadCardSaid : Prop := Claim7.holds Tryz.pinned (.plain (OpenSpec.ofChange streetReadSpec)) streetReadCard

/-- THE TIED CARD OF 'wayzgooselaw01.StreetKnown'. -/
def streetKnownCard : Claim7 := { stood := { row := streetKnownRow, standIns := [], harness := (true, "d142538dcc206e2a3064a5015a48ed967433c989ab664c445934d57cd2717350"), looks := true }, kinds := [], alts := [], laidByText := true, laidKinds := [.data, .data, .data, .handle], laidTests := true, laidLooks := .later }
def StreetKnownCardSaid : Prop := Claim7.holds Tryz.pinned (.plain (OpenSpec.ofChange streetKnownSpec)) streetKnownCard

/-- THE SECOND FORM's CARD OF 'wayzgooselaw01.StreetStrings'. -/
def streetStringsUptoCard : Claim7 := { stood := { row := streetStringsUptoRow, standIns := [], harness := (true, "d142538dcc206e2a3064a5015a48ed967433c989ab664c445934d57cd2717350"), looks := true }, kinds := [], alts := [], laidByText := true, laidKinds := [.data, .data, .data, .handle], laidTests := true, laidLooks := .later }
def StreetStringsUptoCardSaid : Prop := Claim7.holds Tryz.pinned (.plain (OpenSpec.upto streetStringsSpec)) streetStringsUptoCard

/-- THE SECOND FORM's CARD OF 'wayzgooselaw01.StreetRead'. -/
def streetReadUptoCard : Claim7 := { stood := { row := streetReadUptoRow, standIns := [], harness := (true, "d142538dcc206e2a3064a5015a48ed967433c989ab664c445934d57cd2717350"), looks := true }, kinds := [], alts := [], laidByText := true, laidKinds := [.data, .data, .data, .handle], laidTests := true, laidLooks := .later }
def StreetReadUptoCardSaid : Prop := Claim7.holds Tryz.pinned (.plain (OpenSpec.upto streetReadSpec)) streetReadUptoCard

/-- THE SECOND FORM's CARD OF 'wayzgooselaw01.StreetKnown'. -/
def streetKnownUptoCard : Claim7 := { stood := { row := streetKnownUptoRow, standIns := [], harness := (true, "d142538dcc206e2a3064a5015a48ed967433c989ab664c445934d57cd2717350"), looks := true }, kinds := [], alts := [], laidByText := true, laidKinds := [.data, .data, .data, .handle], laidTests := true, laidLooks := .later }
def StreetKnownUptoCardSaid : Prop := Claim7.holds Tryz.pinned (.plain (OpenSpec.upto streetKnownSpec)) streetKnownUptoCard
end Rows
end Go.Proofs.YtcbpjojhfgadlaaGreatDoor
