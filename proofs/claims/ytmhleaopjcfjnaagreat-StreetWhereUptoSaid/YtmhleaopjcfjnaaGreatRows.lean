/-
  No cell of these rows narrows 'for every input' (looked for: loops, veiled, ifaces, maps, wideKeys, modest, calm, conditions, laid).
  DERIVED. THE GIVEN ROWS OF THIS SEAT. 16 by the template 'for every input the law returns true; each argument reads behind the call as it read before'; 0 by the template 'total and deterministic' (their statements: YtmhleaopjcfjnaaGreatTotals.lean).
  GIVEN WITH THE SEED: the statements are not yours to turn. If you find one false, say at which input.
  Laid BY PROGRAM, IN A SANDBOX (cutbox-rows.mjs): the forced cells as the released guide's own fill.sh prints them over the translation 6bf353f185b7dc57… (all of the seat's roots in one cut). By AI agents, Wed Nov 11 2026. No macro, syntax, notation, axiom, sorry.
-/
import Derived.Test.YtmhleaopjcfjnaaGreatChecked
import GoSem.Claim
import GoSem.ClaimJoined
import GoSem.ClaimMapViews
import Derived.JoinedTies
import Derived.KernelRfl
namespace Go.Proofs.YtmhleaopjcfjnaaGreat
/- THE CELL 'sum', in the pinned program and in every row, IS THE sha256 OF THE DUMP (.gsa) THAT YtmhleaopjcfjnaaGreatProg.lean LOADS. Nothing in Lean hashes anything: it is a label: what it is worth is what the hold of that sum in a sandbox is worth. -/
noncomputable def Tryz.pinned : Pinned := { name := "ytmhleaopjcfjnaagreat", sum := "6bf353f185b7dc574b14a27f4ec7d78d3ef69e36a262dd3ec5d4dd9b64a53d20", checked := Tryz.checked }
namespace Rows
def none {H : Type} : Left H := { results := [], args := [] }

/-- 'wayzgooselaw01.StreetPlans': WHATEVER THE INPUT: true; the input reads as it did. -/
def streetPlansSpec : ChangeSpec := { name := "streetPlans", fn := fun _ => fun
  | [d1, d2, d3] => { results := [.lit (.bool true)], args := [d1, d2, d3] }
  | _ => none }
def streetPlansRow : OpenClaim := { program := "ytmhleaopjcfjnaagreat", sum := "6bf353f185b7dc574b14a27f4ec7d78d3ef69e36a262dd3ec5d4dd9b64a53d20", func := "wayzgoose/wayzgooselaw01.StreetPlans", spec := "streetPlans", unfollowed := true, recurses := true, plainKeys := false, apart := false }
def StreetPlansSaid : Prop := streetPlansRow.holds Tryz.pinned (OpenSpec.ofChange streetPlansSpec)

/-- ITS FALSE NEIGHBOUR: 'it returns false'. Refute it at one input. -/
def streetPlansWrong : ChangeSpec := { name := "streetPlans", fn := fun _ => fun
  | [d1, d2, d3] => { results := [.lit (.bool false)], args := [d1, d2, d3] }
  | _ => none }
def StreetPlansWrongFalsely : Prop := streetPlansRow.holds Tryz.pinned (OpenSpec.ofChange streetPlansWrong)

/-- 'wayzgooselaw01.StreetGuesses': WHATEVER THE INPUT: true; the input reads as it did. -/
def streetGuessesSpec : ChangeSpec := { name := "streetGuesses", fn := fun _ => fun
  | [d1, d2, d3] => { results := [.lit (.bool true)], args := [d1, d2, d3] }
  | _ => none }
def streetGuessesRow : OpenClaim := { program := "ytmhleaopjcfjnaagreat", sum := "6bf353f185b7dc574b14a27f4ec7d78d3ef69e36a262dd3ec5d4dd9b64a53d20", func := "wayzgoose/wayzgooselaw01.StreetGuesses", spec := "streetGuesses", unfollowed := true, recurses := true, plainKeys := false, apart := false }
def StreetGuessesSaid : Prop := streetGuessesRow.holds Tryz.pinned (OpenSpec.ofChange streetGuessesSpec)

/-- ITS FALSE NEIGHBOUR: 'it returns false'. Refute it at one input. -/
def streetGuessesWrong : ChangeSpec := { name := "streetGuesses", fn := fun _ => fun
  | [d1, d2, d3] => { results := [.lit (.bool false)], args := [d1, d2, d3] }
  | _ => none }
def StreetGuessesWrongFalsely : Prop := streetGuessesRow.holds Tryz.pinned (OpenSpec.ofChange streetGuessesWrong)

/-- 'wayzgooselaw01.StreetHouses': WHATEVER THE INPUT: true; the input reads as it did. -/
def streetHousesSpec : ChangeSpec := { name := "streetHouses", fn := fun _ => fun
  | [d] => { results := [.lit (.bool true)], args := [d] }
  | _ => none }
def streetHousesRow : OpenClaim := { program := "ytmhleaopjcfjnaagreat", sum := "6bf353f185b7dc574b14a27f4ec7d78d3ef69e36a262dd3ec5d4dd9b64a53d20", func := "wayzgoose/wayzgooselaw01.StreetHouses", spec := "streetHouses", unfollowed := true, recurses := true, plainKeys := false, apart := false }
def StreetHousesSaid : Prop := streetHousesRow.holds Tryz.pinned (OpenSpec.ofChange streetHousesSpec)

/-- ITS FALSE NEIGHBOUR: 'it returns false'. Refute it at one input. -/
def streetHousesWrong : ChangeSpec := { name := "streetHouses", fn := fun _ => fun
  | [d] => { results := [.lit (.bool false)], args := [d] }
  | _ => none }
def StreetHousesWrongFalsely : Prop := streetHousesRow.holds Tryz.pinned (OpenSpec.ofChange streetHousesWrong)

/-- 'wayzgooselaw01.StreetGuessed': WHATEVER THE INPUT: true; the input reads as it did. -/
def streetGuessedSpec : ChangeSpec := { name := "streetGuessed", fn := fun _ => fun
  | [d] => { results := [.lit (.bool true)], args := [d] }
  | _ => none }
def streetGuessedRow : OpenClaim := { program := "ytmhleaopjcfjnaagreat", sum := "6bf353f185b7dc574b14a27f4ec7d78d3ef69e36a262dd3ec5d4dd9b64a53d20", func := "wayzgoose/wayzgooselaw01.StreetGuessed", spec := "streetGuessed", unfollowed := true, recurses := true, plainKeys := false, apart := false }
def StreetGuessedSaid : Prop := streetGuessedRow.holds Tryz.pinned (OpenSpec.ofChange streetGuessedSpec)

/-- ITS FALSE NEIGHBOUR: 'it returns false'. Refute it at one input. -/
def streetGuessedWrong : ChangeSpec := { name := "streetGuessed", fn := fun _ => fun
  | [d] => { results := [.lit (.bool false)], args := [d] }
  | _ => none }
def StreetGuessedWrongFalsely : Prop := streetGuessedRow.holds Tryz.pinned (OpenSpec.ofChange streetGuessedWrong)

/-- 'wayzgooselaw01.StreetTwice': WHATEVER THE INPUT: true; the input reads as it did. -/
def streetTwiceSpec : ChangeSpec := { name := "streetTwice", fn := fun _ => fun
  | [d] => { results := [.lit (.bool true)], args := [d] }
  | _ => none }
def streetTwiceRow : OpenClaim := { program := "ytmhleaopjcfjnaagreat", sum := "6bf353f185b7dc574b14a27f4ec7d78d3ef69e36a262dd3ec5d4dd9b64a53d20", func := "wayzgoose/wayzgooselaw01.StreetTwice", spec := "streetTwice", unfollowed := true, recurses := true, plainKeys := false, apart := false }
def StreetTwiceSaid : Prop := streetTwiceRow.holds Tryz.pinned (OpenSpec.ofChange streetTwiceSpec)

/-- ITS FALSE NEIGHBOUR: 'it returns false'. Refute it at one input. -/
def streetTwiceWrong : ChangeSpec := { name := "streetTwice", fn := fun _ => fun
  | [d] => { results := [.lit (.bool false)], args := [d] }
  | _ => none }
def StreetTwiceWrongFalsely : Prop := streetTwiceRow.holds Tryz.pinned (OpenSpec.ofChange streetTwiceWrong)

/-- 'wayzgooselaw01.StreetAll': WHATEVER THE INPUT: true; the input reads as it did. -/
def streetAllSpec : ChangeSpec := { name := "streetAll", fn := fun _ => fun
  | [d] => { results := [.lit (.bool true)], args := [d] }
  | _ => none }
def streetAllRow : OpenClaim := { program := "ytmhleaopjcfjnaagreat", sum := "6bf353f185b7dc574b14a27f4ec7d78d3ef69e36a262dd3ec5d4dd9b64a53d20", func := "wayzgoose/wayzgooselaw01.StreetAll", spec := "streetAll", unfollowed := true, recurses := true, plainKeys := false, apart := false }
def StreetAllSaid : Prop := streetAllRow.holds Tryz.pinned (OpenSpec.ofChange streetAllSpec)

/-- ITS FALSE NEIGHBOUR: 'it returns false'. Refute it at one input. -/
def streetAllWrong : ChangeSpec := { name := "streetAll", fn := fun _ => fun
  | [d] => { results := [.lit (.bool false)], args := [d] }
  | _ => none }
def StreetAllWrongFalsely : Prop := streetAllRow.holds Tryz.pinned (OpenSpec.ofChange streetAllWrong)

/-- 'wayzgooselaw01.StreetAsked': WHATEVER THE INPUT: true; the input reads as it did. -/
def streetAskedSpec : ChangeSpec := { name := "streetAsked", fn := fun _ => fun
  | [d] => { results := [.lit (.bool true)], args := [d] }
  | _ => none }
def streetAskedRow : OpenClaim := { program := "ytmhleaopjcfjnaagreat", sum := "6bf353f185b7dc574b14a27f4ec7d78d3ef69e36a262dd3ec5d4dd9b64a53d20", func := "wayzgoose/wayzgooselaw01.StreetAsked", spec := "streetAsked", unfollowed := true, recurses := true, plainKeys := false, apart := false }
def StreetAskedSaid : Prop := streetAskedRow.holds Tryz.pinned (OpenSpec.ofChange streetAskedSpec)

/-- ITS FALSE NEIGHBOUR: 'it returns false'. Refute it at one input. -/
def streetAskedWrong : ChangeSpec := { name := "streetAsked", fn := fun _ => fun
  | [d] => { results := [.lit (.bool false)], args := [d] }
  | _ => none }
def StreetAskedWrongFalsely : Prop := streetAskedRow.holds Tryz.pinned (OpenSpec.ofChange streetAskedWrong)

/-- 'wayzgooselaw01.StreetMoves': WHATEVER THE INPUT: true; the input reads as it did. -/
def streetMovesSpec : ChangeSpec := { name := "streetMoves", fn := fun _ => fun
  | [d1, d2, d3, d4] => { results := [.lit (.bool true)], args := [d1, d2, d3, d4] }
  | _ => none }
def streetMovesRow : OpenClaim := { program := "ytmhleaopjcfjnaagreat", sum := "6bf353f185b7dc574b14a27f4ec7d78d3ef69e36a262dd3ec5d4dd9b64a53d20", func := "wayzgoose/wayzgooselaw01.StreetMoves", spec := "streetMoves", unfollowed := true, recurses := true, plainKeys := false, apart := false }
def StreetMovesSaid : Prop := streetMovesRow.holds Tryz.pinned (OpenSpec.ofChange streetMovesSpec)

/-- ITS FALSE NEIGHBOUR: 'it returns false'. Refute it at one input. -/
def streetMovesWrong : ChangeSpec := { name := "streetMoves", fn := fun _ => fun
  | [d1, d2, d3, d4] => { results := [.lit (.bool false)], args := [d1, d2, d3, d4] }
  | _ => none }
def StreetMovesWrongFalsely : Prop := streetMovesRow.holds Tryz.pinned (OpenSpec.ofChange streetMovesWrong)

/-- 'wayzgooselaw01.StreetOnce': WHATEVER THE INPUT: true; the input reads as it did. -/
def streetOnceSpec : ChangeSpec := { name := "streetOnce", fn := fun _ => fun
  | [d] => { results := [.lit (.bool true)], args := [d] }
  | _ => none }
def streetOnceRow : OpenClaim := { program := "ytmhleaopjcfjnaagreat", sum := "6bf353f185b7dc574b14a27f4ec7d78d3ef69e36a262dd3ec5d4dd9b64a53d20", func := "wayzgoose/wayzgooselaw01.StreetOnce", spec := "streetOnce", unfollowed := true, recurses := true, plainKeys := false, apart := false }
def StreetOnceSaid : Prop := streetOnceRow.holds Tryz.pinned (OpenSpec.ofChange streetOnceSpec)

/-- ITS FALSE NEIGHBOUR: 'it returns false'. Refute it at one input. -/
def streetOnceWrong : ChangeSpec := { name := "streetOnce", fn := fun _ => fun
  | [d] => { results := [.lit (.bool false)], args := [d] }
  | _ => none }
def StreetOnceWrongFalsely : Prop := streetOnceRow.holds Tryz.pinned (OpenSpec.ofChange streetOnceWrong)

/-- 'wayzgooselaw01.StreetTruths': WHATEVER THE INPUT: true; the input reads as it did. -/
def streetTruthsSpec : ChangeSpec := { name := "streetTruths", fn := fun _ => fun
  | [d1, d2, d3] => { results := [.lit (.bool true)], args := [d1, d2, d3] }
  | _ => none }
def streetTruthsRow : OpenClaim := { program := "ytmhleaopjcfjnaagreat", sum := "6bf353f185b7dc574b14a27f4ec7d78d3ef69e36a262dd3ec5d4dd9b64a53d20", func := "wayzgoose/wayzgooselaw01.StreetTruths", spec := "streetTruths", unfollowed := true, recurses := true, plainKeys := false, apart := false }
def StreetTruthsSaid : Prop := streetTruthsRow.holds Tryz.pinned (OpenSpec.ofChange streetTruthsSpec)

/-- ITS FALSE NEIGHBOUR: 'it returns false'. Refute it at one input. -/
def streetTruthsWrong : ChangeSpec := { name := "streetTruths", fn := fun _ => fun
  | [d1, d2, d3] => { results := [.lit (.bool false)], args := [d1, d2, d3] }
  | _ => none }
def StreetTruthsWrongFalsely : Prop := streetTruthsRow.holds Tryz.pinned (OpenSpec.ofChange streetTruthsWrong)

/-- 'wayzgooselaw01.StreetFacts': WHATEVER THE INPUT: true; the input reads as it did. -/
def streetFactsSpec : ChangeSpec := { name := "streetFacts", fn := fun _ => fun
  | [d] => { results := [.lit (.bool true)], args := [d] }
  | _ => none }
def streetFactsRow : OpenClaim := { program := "ytmhleaopjcfjnaagreat", sum := "6bf353f185b7dc574b14a27f4ec7d78d3ef69e36a262dd3ec5d4dd9b64a53d20", func := "wayzgoose/wayzgooselaw01.StreetFacts", spec := "streetFacts", unfollowed := true, recurses := true, plainKeys := false, apart := false }
def StreetFactsSaid : Prop := streetFactsRow.holds Tryz.pinned (OpenSpec.ofChange streetFactsSpec)

/-- ITS FALSE NEIGHBOUR: 'it returns false'. Refute it at one input. -/
def streetFactsWrong : ChangeSpec := { name := "streetFacts", fn := fun _ => fun
  | [d] => { results := [.lit (.bool false)], args := [d] }
  | _ => none }
def StreetFactsWrongFalsely : Prop := streetFactsRow.holds Tryz.pinned (OpenSpec.ofChange streetFactsWrong)

/-- 'wayzgooselaw01.StreetBack': WHATEVER THE INPUT: true; the input reads as it did. -/
def streetBackSpec : ChangeSpec := { name := "streetBack", fn := fun _ => fun
  | [d] => { results := [.lit (.bool true)], args := [d] }
  | _ => none }
def streetBackRow : OpenClaim := { program := "ytmhleaopjcfjnaagreat", sum := "6bf353f185b7dc574b14a27f4ec7d78d3ef69e36a262dd3ec5d4dd9b64a53d20", func := "wayzgoose/wayzgooselaw01.StreetBack", spec := "streetBack", unfollowed := true, recurses := true, plainKeys := false, apart := false }
def StreetBackSaid : Prop := streetBackRow.holds Tryz.pinned (OpenSpec.ofChange streetBackSpec)

/-- ITS FALSE NEIGHBOUR: 'it returns false'. Refute it at one input. -/
def streetBackWrong : ChangeSpec := { name := "streetBack", fn := fun _ => fun
  | [d] => { results := [.lit (.bool false)], args := [d] }
  | _ => none }
def StreetBackWrongFalsely : Prop := streetBackRow.holds Tryz.pinned (OpenSpec.ofChange streetBackWrong)

/-- 'wayzgooselaw01.StreetWhere': WHATEVER THE INPUT: true; the input reads as it did. -/
def streetWhereSpec : ChangeSpec := { name := "streetWhere", fn := fun _ => fun
  | [d1, d2, d3, d4] => { results := [.lit (.bool true)], args := [d1, d2, d3, d4] }
  | _ => none }
def streetWhereRow : OpenClaim := { program := "ytmhleaopjcfjnaagreat", sum := "6bf353f185b7dc574b14a27f4ec7d78d3ef69e36a262dd3ec5d4dd9b64a53d20", func := "wayzgoose/wayzgooselaw01.StreetWhere", spec := "streetWhere", unfollowed := true, recurses := true, plainKeys := false, apart := false }
def StreetWhereSaid : Prop := streetWhereRow.holds Tryz.pinned (OpenSpec.ofChange streetWhereSpec)

/-- ITS FALSE NEIGHBOUR: 'it returns false'. Refute it at one input. -/
def streetWhereWrong : ChangeSpec := { name := "streetWhere", fn := fun _ => fun
  | [d1, d2, d3, d4] => { results := [.lit (.bool false)], args := [d1, d2, d3, d4] }
  | _ => none }
def StreetWhereWrongFalsely : Prop := streetWhereRow.holds Tryz.pinned (OpenSpec.ofChange streetWhereWrong)

/-- 'wayzgooselaw01.StreetSettled': WHATEVER THE INPUT: true; the input reads as it did. -/
def streetSettledSpec : ChangeSpec := { name := "streetSettled", fn := fun _ => fun
  | [d] => { results := [.lit (.bool true)], args := [d] }
  | _ => none }
def streetSettledRow : OpenClaim := { program := "ytmhleaopjcfjnaagreat", sum := "6bf353f185b7dc574b14a27f4ec7d78d3ef69e36a262dd3ec5d4dd9b64a53d20", func := "wayzgoose/wayzgooselaw01.StreetSettled", spec := "streetSettled", unfollowed := true, recurses := true, plainKeys := false, apart := false }
def StreetSettledSaid : Prop := streetSettledRow.holds Tryz.pinned (OpenSpec.ofChange streetSettledSpec)

/-- ITS FALSE NEIGHBOUR: 'it returns false'. Refute it at one input. -/
def streetSettledWrong : ChangeSpec := { name := "streetSettled", fn := fun _ => fun
  | [d] => { results := [.lit (.bool false)], args := [d] }
  | _ => none }
def StreetSettledWrongFalsely : Prop := streetSettledRow.holds Tryz.pinned (OpenSpec.ofChange streetSettledWrong)

/-- 'wayzgooselaw01.StreetSure': WHATEVER THE INPUT: true; the input reads as it did. -/
def streetSureSpec : ChangeSpec := { name := "streetSure", fn := fun _ => fun
  | [d] => { results := [.lit (.bool true)], args := [d] }
  | _ => none }
def streetSureRow : OpenClaim := { program := "ytmhleaopjcfjnaagreat", sum := "6bf353f185b7dc574b14a27f4ec7d78d3ef69e36a262dd3ec5d4dd9b64a53d20", func := "wayzgoose/wayzgooselaw01.StreetSure", spec := "streetSure", unfollowed := true, recurses := true, plainKeys := false, apart := false }
def StreetSureSaid : Prop := streetSureRow.holds Tryz.pinned (OpenSpec.ofChange streetSureSpec)

/-- ITS FALSE NEIGHBOUR: 'it returns false'. Refute it at one input. -/
def streetSureWrong : ChangeSpec := { name := "streetSure", fn := fun _ => fun
  | [d] => { results := [.lit (.bool false)], args := [d] }
  | _ => none }
def StreetSureWrongFalsely : Prop := streetSureRow.holds Tryz.pinned (OpenSpec.ofChange streetSureWrong)

/-- 'wayzgooselaw01.StreetAsks': WHATEVER THE INPUT: true; the input reads as it did. -/
def streetAsksSpec : ChangeSpec := { name := "streetAsks", fn := fun _ => fun
  | [d1, d2] => { results := [.lit (.bool true)], args := [d1, d2] }
  | _ => none }
def streetAsksRow : OpenClaim := { program := "ytmhleaopjcfjnaagreat", sum := "6bf353f185b7dc574b14a27f4ec7d78d3ef69e36a262dd3ec5d4dd9b64a53d20", func := "wayzgoose/wayzgooselaw01.StreetAsks", spec := "streetAsks", unfollowed := true, recurses := true, plainKeys := false, apart := false }
def StreetAsksSaid : Prop := streetAsksRow.holds Tryz.pinned (OpenSpec.ofChange streetAsksSpec)

/-- ITS FALSE NEIGHBOUR: 'it returns false'. Refute it at one input. -/
def streetAsksWrong : ChangeSpec := { name := "streetAsks", fn := fun _ => fun
  | [d1, d2] => { results := [.lit (.bool false)], args := [d1, d2] }
  | _ => none }
def StreetAsksWrongFalsely : Prop := streetAsksRow.holds Tryz.pinned (OpenSpec.ofChange streetAsksWrong)

/- THE SECOND FORM. 'bulk': how many values and letters a reading holds, each counted each time it is reached (what is shared counts as often as it is met; a slice's spare places count too). A statement '..UptoSaid' is the law's where the arguments, and the package variables that the reading takes, are together of bulk at most 1048576: NARROWER than '..Said'. Prove '..Said' where nothing that the law and all that it calls make is longer than what came in: it says more and counts as full. Else prove '..UptoSaid'. A law counts once. -/
mutual
def uptoBulk {H : Type} : DataW H → Nat
  | .lit (.string bytes) => bytes.length + 1
  | .lit _ => 1
  | .nil => 1
  | .ptr d => uptoBulk d + 1
  | .slice elems spare => uptoBulkAll elems + uptoBulkAll spare + 1
  | .agg parts => uptoBulkAll parts + 1
  | .iface _ d => uptoBulk d + 1
  | .map entries => uptoBulkEntries entries + 1
  | .held _ => 1
def uptoBulkAll {H : Type} : List (DataW H) → Nat
  | [] => 0
  | d :: r => uptoBulk d + uptoBulkAll r
def uptoBulkEntries {H : Type} : List (Lit × DataW H) → Nat
  | [] => 0
  | x :: r => uptoBulkEntry x + uptoBulkEntries r
def uptoBulkEntry {H : Type} : Lit × DataW H → Nat
  | (.string bytes, d) => bytes.length + uptoBulk d + 1
  | (_, d) => uptoBulk d + 1
 end
def uptoSmall : (H : Type) → List (DataW H) → Bool := fun _ ds => decide (uptoBulkAll ds ≤ 1048576)
def OpenSpec.upto (s : _root_.Go.ChangeSpec) : _root_.Go.OpenSpec := { _root_.Go.OpenSpec.ofChange s with cond := some uptoSmall }

/-- 'wayzgooselaw01.StreetPlans', WHERE WHAT IT READS IS OF BULK AT MOST 1048576: true; the input reads as it did. -/
def streetPlansUptoRow : OpenClaim := { program := "ytmhleaopjcfjnaagreat", sum := "6bf353f185b7dc574b14a27f4ec7d78d3ef69e36a262dd3ec5d4dd9b64a53d20", func := "wayzgoose/wayzgooselaw01.StreetPlans", spec := "streetPlans", unfollowed := true, recurses := true, plainKeys := false, apart := false, narrowed := true }
def StreetPlansUptoSaid : Prop := streetPlansUptoRow.holds Tryz.pinned (OpenSpec.upto streetPlansSpec)

/-- 'wayzgooselaw01.StreetGuesses', WHERE WHAT IT READS IS OF BULK AT MOST 1048576: true; the input reads as it did. -/
def streetGuessesUptoRow : OpenClaim := { program := "ytmhleaopjcfjnaagreat", sum := "6bf353f185b7dc574b14a27f4ec7d78d3ef69e36a262dd3ec5d4dd9b64a53d20", func := "wayzgoose/wayzgooselaw01.StreetGuesses", spec := "streetGuesses", unfollowed := true, recurses := true, plainKeys := false, apart := false, narrowed := true }
def StreetGuessesUptoSaid : Prop := streetGuessesUptoRow.holds Tryz.pinned (OpenSpec.upto streetGuessesSpec)

/-- 'wayzgooselaw01.StreetHouses', WHERE WHAT IT READS IS OF BULK AT MOST 1048576: true; the input reads as it did. -/
def streetHousesUptoRow : OpenClaim := { program := "ytmhleaopjcfjnaagreat", sum := "6bf353f185b7dc574b14a27f4ec7d78d3ef69e36a262dd3ec5d4dd9b64a53d20", func := "wayzgoose/wayzgooselaw01.StreetHouses", spec := "streetHouses", unfollowed := true, recurses := true, plainKeys := false, apart := false, narrowed := true }
def StreetHousesUptoSaid : Prop := streetHousesUptoRow.holds Tryz.pinned (OpenSpec.upto streetHousesSpec)

/-- 'wayzgooselaw01.StreetGuessed', WHERE WHAT IT READS IS OF BULK AT MOST 1048576: true; the input reads as it did. -/
def streetGuessedUptoRow : OpenClaim := { program := "ytmhleaopjcfjnaagreat", sum := "6bf353f185b7dc574b14a27f4ec7d78d3ef69e36a262dd3ec5d4dd9b64a53d20", func := "wayzgoose/wayzgooselaw01.StreetGuessed", spec := "streetGuessed", unfollowed := true, recurses := true, plainKeys := false, apart := false, narrowed := true }
def StreetGuessedUptoSaid : Prop := streetGuessedUptoRow.holds Tryz.pinned (OpenSpec.upto streetGuessedSpec)

/-- 'wayzgooselaw01.StreetTwice', WHERE WHAT IT READS IS OF BULK AT MOST 1048576: true; the input reads as it did. -/
def streetTwiceUptoRow : OpenClaim := { program := "ytmhleaopjcfjnaagreat", sum := "6bf353f185b7dc574b14a27f4ec7d78d3ef69e36a262dd3ec5d4dd9b64a53d20", func := "wayzgoose/wayzgooselaw01.StreetTwice", spec := "streetTwice", unfollowed := true, recurses := true, plainKeys := false, apart := false, narrowed := true }
def StreetTwiceUptoSaid : Prop := streetTwiceUptoRow.holds Tryz.pinned (OpenSpec.upto streetTwiceSpec)

/-- 'wayzgooselaw01.StreetAll', WHERE WHAT IT READS IS OF BULK AT MOST 1048576: true; the input reads as it did. -/
def streetAllUptoRow : OpenClaim := { program := "ytmhleaopjcfjnaagreat", sum := "6bf353f185b7dc574b14a27f4ec7d78d3ef69e36a262dd3ec5d4dd9b64a53d20", func := "wayzgoose/wayzgooselaw01.StreetAll", spec := "streetAll", unfollowed := true, recurses := true, plainKeys := false, apart := false, narrowed := true }
def StreetAllUptoSaid : Prop := streetAllUptoRow.holds Tryz.pinned (OpenSpec.upto streetAllSpec)

/-- 'wayzgooselaw01.StreetAsked', WHERE WHAT IT READS IS OF BULK AT MOST 1048576: true; the input reads as it did. -/
def streetAskedUptoRow : OpenClaim := { program := "ytmhleaopjcfjnaagreat", sum := "6bf353f185b7dc574b14a27f4ec7d78d3ef69e36a262dd3ec5d4dd9b64a53d20", func := "wayzgoose/wayzgooselaw01.StreetAsked", spec := "streetAsked", unfollowed := true, recurses := true, plainKeys := false, apart := false, narrowed := true }
def StreetAskedUptoSaid : Prop := streetAskedUptoRow.holds Tryz.pinned (OpenSpec.upto streetAskedSpec)

/-- 'wayzgooselaw01.StreetMoves', WHERE WHAT IT READS IS OF BULK AT MOST 1048576: true; the input reads as it did. -/
def streetMovesUptoRow : OpenClaim := { program := "ytmhleaopjcfjnaagreat", sum := "6bf353f185b7dc574b14a27f4ec7d78d3ef69e36a262dd3ec5d4dd9b64a53d20", func := "wayzgoose/wayzgooselaw01.StreetMoves", spec := "streetMoves", unfollowed := true, recurses := true, plainKeys := false, apart := false, narrowed := true }
def StreetMovesUptoSaid : Prop := streetMovesUptoRow.holds Tryz.pinned (OpenSpec.upto streetMovesSpec)

/-- 'wayzgooselaw01.StreetOnce', WHERE WHAT IT READS IS OF BULK AT MOST 1048576: true; the input reads as it did. -/
def streetOnceUptoRow : OpenClaim := { program := "ytmhleaopjcfjnaagreat", sum := "6bf353f185b7dc574b14a27f4ec7d78d3ef69e36a262dd3ec5d4dd9b64a53d20", func := "wayzgoose/wayzgooselaw01.StreetOnce", spec := "streetOnce", unfollowed := true, recurses := true, plainKeys := false, apart := false, narrowed := true }
def StreetOnceUptoSaid : Prop := streetOnceUptoRow.holds Tryz.pinned (OpenSpec.upto streetOnceSpec)

/-- 'wayzgooselaw01.StreetTruths', WHERE WHAT IT READS IS OF BULK AT MOST 1048576: true; the input reads as it did. -/
def streetTruthsUptoRow : OpenClaim := { program := "ytmhleaopjcfjnaagreat", sum := "6bf353f185b7dc574b14a27f4ec7d78d3ef69e36a262dd3ec5d4dd9b64a53d20", func := "wayzgoose/wayzgooselaw01.StreetTruths", spec := "streetTruths", unfollowed := true, recurses := true, plainKeys := false, apart := false, narrowed := true }
def StreetTruthsUptoSaid : Prop := streetTruthsUptoRow.holds Tryz.pinned (OpenSpec.upto streetTruthsSpec)

/-- 'wayzgooselaw01.StreetFacts', WHERE WHAT IT READS IS OF BULK AT MOST 1048576: true; the input reads as it did. -/
def streetFactsUptoRow : OpenClaim := { program := "ytmhleaopjcfjnaagreat", sum := "6bf353f185b7dc574b14a27f4ec7d78d3ef69e36a262dd3ec5d4dd9b64a53d20", func := "wayzgoose/wayzgooselaw01.StreetFacts", spec := "streetFacts", unfollowed := true, recurses := true, plainKeys := false, apart := false, narrowed := true }
def StreetFactsUptoSaid : Prop := streetFactsUptoRow.holds Tryz.pinned (OpenSpec.upto streetFactsSpec)

/-- 'wayzgooselaw01.StreetBack', WHERE WHAT IT READS IS OF BULK AT MOST 1048576: true; the input reads as it did. -/
def streetBackUptoRow : OpenClaim := { program := "ytmhleaopjcfjnaagreat", sum := "6bf353f185b7dc574b14a27f4ec7d78d3ef69e36a262dd3ec5d4dd9b64a53d20", func := "wayzgoose/wayzgooselaw01.StreetBack", spec := "streetBack", unfollowed := true, recurses := true, plainKeys := false, apart := false, narrowed := true }
def StreetBackUptoSaid : Prop := streetBackUptoRow.holds Tryz.pinned (OpenSpec.upto streetBackSpec)

/-- 'wayzgooselaw01.StreetWhere', WHERE WHAT IT READS IS OF BULK AT MOST 1048576: true; the input reads as it did. -/
def streetWhereUptoRow : OpenClaim := { program := "ytmhleaopjcfjnaagreat", sum := "6bf353f185b7dc574b14a27f4ec7d78d3ef69e36a262dd3ec5d4dd9b64a53d20", func := "wayzgoose/wayzgooselaw01.StreetWhere", spec := "streetWhere", unfollowed := true, recurses := true, plainKeys := false, apart := false, narrowed := true }
def StreetWhereUptoSaid : Prop := streetWhereUptoRow.holds Tryz.pinned (OpenSpec.upto streetWhereSpec)

/-- 'wayzgooselaw01.StreetSettled', WHERE WHAT IT READS IS OF BULK AT MOST 1048576: true; the input reads as it did. -/
def streetSettledUptoRow : OpenClaim := { program := "ytmhleaopjcfjnaagreat", sum := "6bf353f185b7dc574b14a27f4ec7d78d3ef69e36a262dd3ec5d4dd9b64a53d20", func := "wayzgoose/wayzgooselaw01.StreetSettled", spec := "streetSettled", unfollowed := true, recurses := true, plainKeys := false, apart := false, narrowed := true }
def StreetSettledUptoSaid : Prop := streetSettledUptoRow.holds Tryz.pinned (OpenSpec.upto streetSettledSpec)

/-- 'wayzgooselaw01.StreetSure', WHERE WHAT IT READS IS OF BULK AT MOST 1048576: true; the input reads as it did. -/
def streetSureUptoRow : OpenClaim := { program := "ytmhleaopjcfjnaagreat", sum := "6bf353f185b7dc574b14a27f4ec7d78d3ef69e36a262dd3ec5d4dd9b64a53d20", func := "wayzgoose/wayzgooselaw01.StreetSure", spec := "streetSure", unfollowed := true, recurses := true, plainKeys := false, apart := false, narrowed := true }
def StreetSureUptoSaid : Prop := streetSureUptoRow.holds Tryz.pinned (OpenSpec.upto streetSureSpec)

/-- 'wayzgooselaw01.StreetAsks', WHERE WHAT IT READS IS OF BULK AT MOST 1048576: true; the input reads as it did. -/
def streetAsksUptoRow : OpenClaim := { program := "ytmhleaopjcfjnaagreat", sum := "6bf353f185b7dc574b14a27f4ec7d78d3ef69e36a262dd3ec5d4dd9b64a53d20", func := "wayzgoose/wayzgooselaw01.StreetAsks", spec := "streetAsks", unfollowed := true, recurses := true, plainKeys := false, apart := false, narrowed := true }
def StreetAsksUptoSaid : Prop := streetAsksUptoRow.holds Tryz.pinned (OpenSpec.upto streetAsksSpec)

end Rows
end Go.Proofs.YtmhleaopjcfjnaaGreat
