/-
  DERIVED. GIVEN WITH THE SEED: THE CARDS: each row of YteehcinnfiaklaaGreatDoorRows.lean that lists a variable, with what it lists TIED to the program's text (the seventh form; the later family's looks); each row that meets fmt, with fmt's text TOLD by the authors' own Lean function (tested against real Go, not proved from fmt's source: count such statements apart). THE CARD IS WHAT COUNTS. Prove the row's statement (the work); the ties are given (YteehcinnfiaklaaGreatDoorTie.lean); close each card by the builder's one call (the guide's Derived/Test/ToyasCard.lean, 'card_holds'). Laid BY PROGRAM, IN A SANDBOX (cutbox-door.mjs). By AI agents, Wed Nov 11 2026. No macro, syntax, notation, axiom, sorry.
-/
import Derived.Test.YteehcinnfiaklaaGreatDoorRows
import GoSem.ClaimSeven
namespace Go.Proofs.YteehcinnfiaklaaGreatDoor
namespace Rows

/-- THE TIED CARD OF 'wayzgooselaw03.NameFits'. -/
def nameFitsCard : Claim7 := { stood := { row := nameFitsRow, standIns := [], harness := (true, "a35d37acb85f02e289d456e8645a9ced817af87ed611251526dd2826b257aa82"), looks := true }, kinds := [], alts := [], laidByText := true, laidKinds := [.data, .pinned, .pinned], laidTests := true, laidLooks := .later }
def NameFitsCardSaid : Prop := Claim7.holds Tryz.pinned (.plain (OpenSpec.ofChange nameFitsSpec)) nameFitsCard

/-- THE TIED CARD OF 'wayzgooselaw03.NameList'. -/
def nameListCard : Claim7 := { stood := { row := nameListRow, standIns := [], harness := (true, "a35d37acb85f02e289d456e8645a9ced817af87ed611251526dd2826b257aa82"), looks := true }, kinds := [], alts := [], laidByText := true, laidKinds := [.data, .pinned, .pinned], laidTests := true, laidLooks := .later }
def NameListCardSaid : Prop := Claim7.holds Tryz.pinned (.plain (OpenSpec.ofChange nameListSpec)) nameListCard

/-- THE TIED CARD OF 'wayzgooselaw03.NameBoth'. -/
def nameBothCard : Claim7 := { stood := { row := nameBothRow, standIns := [], harness := (true, "a35d37acb85f02e289d456e8645a9ced817af87ed611251526dd2826b257aa82"), looks := true }, kinds := [], alts := [], laidByText := true, laidKinds := [.data, .pinned, .pinned], laidTests := true, laidLooks := .later }
def NameBothCardSaid : Prop := Claim7.holds Tryz.pinned (.plain (OpenSpec.ofChange nameBothSpec)) nameBothCard

/-- THE TIED CARD OF 'wayzgooselaw03.NameSteps'. -/
def nameStepsCard : Claim7 := { stood := { row := nameStepsRow, standIns := [], harness := (true, "a35d37acb85f02e289d456e8645a9ced817af87ed611251526dd2826b257aa82"), looks := true }, kinds := [], alts := [], laidByText := true, laidKinds := [.data, .pinned, .pinned], laidTests := true, laidLooks := .later }
def NameStepsCardSaid : Prop := Claim7.holds Tryz.pinned (.plain (OpenSpec.ofChange nameStepsSpec)) nameStepsCard

/-- THE TIED CARD OF 'wayzgooselaw03.NameRules'. -/
def nameRulesCard : Claim7 := { stood := { row := nameRulesRow, standIns := [], harness := (true, "a35d37acb85f02e289d456e8645a9ced817af87ed611251526dd2826b257aa82"), looks := true }, kinds := [], alts := [], laidByText := true, laidKinds := [.data, .pinned, .pinned], laidTests := true, laidLooks := .later }
def NameRulesCardSaid : Prop := Claim7.holds Tryz.pinned (.plain (OpenSpec.ofChange nameRulesSpec)) nameRulesCard

/-- THE TIED CARD OF 'wayzgooselaw03.NameKeys'. -/
def nameKeysCard : Claim7 := { stood := { row := nameKeysRow, standIns := [], harness := (true, "a35d37acb85f02e289d456e8645a9ced817af87ed611251526dd2826b257aa82"), looks := true }, kinds := [], alts := [], laidByText := true, laidKinds := [.data, .pinned, .pinned], laidTests := true, laidLooks := .later }
def NameKeysCardSaid : Prop := Claim7.holds Tryz.pinned (.plain (OpenSpec.ofChange nameKeysSpec)) nameKeysCard

/-- THE TIED CARD OF 'wayzgooselaw03.NameOne'. -/
def nameOneCard : Claim7 := { stood := { row := nameOneRow, standIns := [], harness := (true, "a35d37acb85f02e289d456e8645a9ced817af87ed611251526dd2826b257aa82"), looks := true }, kinds := [], alts := [], laidByText := true, laidKinds := [.data, .pinned, .pinned], laidTests := true, laidLooks := .later }
def NameOneCardSaid : Prop := Claim7.holds Tryz.pinned (.plain (OpenSpec.ofChange nameOneSpec)) nameOneCard

/-- THE TIED CARD OF 'wayzgooselaw03.NameNear'. -/
def nameNearCard : Claim7 := { stood := { row := nameNearRow, standIns := [], harness := (true, "a35d37acb85f02e289d456e8645a9ced817af87ed611251526dd2826b257aa82"), looks := true }, kinds := [], alts := [], laidByText := true, laidKinds := [.data, .pinned, .pinned], laidTests := true, laidLooks := .later }
def NameNearCardSaid : Prop := Claim7.holds Tryz.pinned (.plain (OpenSpec.ofChange nameNearSpec)) nameNearCard

/-- THE TIED CARD OF 'wayzgooselaw03.NameLine'. -/
def nameLineCard : Claim7 := { stood := { row := nameLineRow, standIns := [], harness := (true, "a35d37acb85f02e289d456e8645a9ced817af87ed611251526dd2826b257aa82"), looks := true }, kinds := [], alts := [], laidByText := true, laidKinds := [.data, .pinned, .pinned], laidTests := true, laidLooks := .later }
def NameLineCardSaid : Prop := Claim7.holds Tryz.pinned (.plain (OpenSpec.ofChange nameLineSpec)) nameLineCard

/-- THE TIED CARD OF 'wayzgooselaw03.NameUses'. -/
def nameUsesCard : Claim7 := { stood := { row := nameUsesRow, standIns := [], harness := (true, "a35d37acb85f02e289d456e8645a9ced817af87ed611251526dd2826b257aa82"), looks := true }, kinds := [], alts := [], laidByText := true, laidKinds := [.data, .pinned, .pinned], laidTests := true, laidLooks := .later }
def NameUsesCardSaid : Prop := Claim7.holds Tryz.pinned (.plain (OpenSpec.ofChange nameUsesSpec)) nameUsesCard

/-- THE TIED CARD OF 'wayzgooselaw03.NameFewest'. -/
def nameFewestCard : Claim7 := { stood := { row := nameFewestRow, standIns := [], harness := (true, "a35d37acb85f02e289d456e8645a9ced817af87ed611251526dd2826b257aa82"), looks := true }, kinds := [], alts := [], laidByText := true, laidKinds := [.data, .pinned, .pinned], laidTests := true, laidLooks := .later }
def NameFewestCardSaid : Prop := Claim7.holds Tryz.pinned (.plain (OpenSpec.ofChange nameFewestSpec)) nameFewestCard

/-- THE TIED CARD OF 'wayzgooselaw03.NameOrders'. -/
def nameOrdersCard : Claim7 := { stood := { row := nameOrdersRow, standIns := [], harness := (true, "a35d37acb85f02e289d456e8645a9ced817af87ed611251526dd2826b257aa82"), looks := true }, kinds := [], alts := [], laidByText := true, laidKinds := [.data, .pinned, .pinned], laidTests := true, laidLooks := .later }
def NameOrdersCardSaid : Prop := Claim7.holds Tryz.pinned (.plain (OpenSpec.ofChange nameOrdersSpec)) nameOrdersCard

/-- THE TIED CARD OF 'wayzgooselaw03.NameSorted'. -/
def nameSortedCard : Claim7 := { stood := { row := nameSortedRow, standIns := [], harness := (true, "a35d37acb85f02e289d456e8645a9ced817af87ed611251526dd2826b257aa82"), looks := true }, kinds := [], alts := [], laidByText := true, laidKinds := [.data, .pinned, .pinned], laidTests := true, laidLooks := .later }
def NameSortedCardSaid : Prop := Claim7.holds Tryz.pinned (.plain (OpenSpec.ofChange nameSortedSpec)) nameSortedCard

/-- THE TIED CARD OF 'wayzgooselaw03.NameLeast'. -/
def nameLeastCard : Claim7 := { stood := { row := nameLeastRow, standIns := [], harness := (true, "a35d37acb85f02e289d456e8645a9ced817af87ed611251526dd2826b257aa82"), looks := true }, kinds := [], alts := [], laidByText := true, laidKinds := [.data, .handle, .pinned, .pinned], laidTests := true, laidLooks := .later }
def NameLeastCardSaid : Prop := Claim7.holds Tryz.pinned (.plain (OpenSpec.ofChange nameLeastSpec)) nameLeastCard

/-- THE TIED CARD OF 'wayzgooselaw03.NameColumn'. -/
def nameColumnCard : Claim7 := { stood := { row := nameColumnRow, standIns := [], harness := (true, "a35d37acb85f02e289d456e8645a9ced817af87ed611251526dd2826b257aa82"), looks := true }, kinds := [], alts := [], laidByText := true, laidKinds := [.data, .handle, .pinned, .pinned], laidTests := true, laidLooks := .later }
def NameColumnCardSaid : Prop := Claim7.holds Tryz.pinned (.plain (OpenSpec.ofChange nameColumnSpec)) nameColumnCard

/-- THE TIED CARD OF 'wayzgooselaw03.NameShorts'. -/
def nameShortsCard : Claim7 := { stood := { row := nameShortsRow, standIns := [], harness := (true, "a35d37acb85f02e289d456e8645a9ced817af87ed611251526dd2826b257aa82"), looks := true }, kinds := [], alts := [], laidByText := true, laidKinds := [.data, .handle, .pinned, .pinned], laidTests := true, laidLooks := .later }
def NameShortsCardSaid : Prop := Claim7.holds Tryz.pinned (.plain (OpenSpec.ofChange nameShortsSpec)) nameShortsCard

/-- THE TIED CARD OF 'wayzgooselaw03.NameCut'. -/
def nameCutCard : Claim7 := { stood := { row := nameCutRow, standIns := [], harness := (true, "a35d37acb85f02e289d456e8645a9ced817af87ed611251526dd2826b257aa82"), looks := true }, kinds := [], alts := [], laidByText := true, laidKinds := [.data, .handle, .pinned, .pinned], laidTests := true, laidLooks := .later }
def NameCutCardSaid : Prop := Claim7.holds Tryz.pinned (.plain (OpenSpec.ofChange nameCutSpec)) nameCutCard

/-- THE TIED CARD OF 'wayzgooselaw03.NameKnown'. -/
def nameKnownCard : Claim7 := { stood := { row := nameKnownRow, standIns := [], harness := (true, "a35d37acb85f02e289d456e8645a9ced817af87ed611251526dd2826b257aa82"), looks := true }, kinds := [], alts := [], laidByText := true, laidKinds := [.data, .handle, .pinned, .pinned], laidTests := true, laidLooks := .later }
def NameKnownCardSaid : Prop := Claim7.holds Tryz.pinned (.plain (OpenSpec.ofChange nameKnownSpec)) nameKnownCard

/-- THE SECOND FORM's CARD OF 'wayzgooselaw03.NameFits'. -/
def nameFitsUptoCard : Claim7 := { stood := { row := nameFitsUptoRow, standIns := [], harness := (true, "a35d37acb85f02e289d456e8645a9ced817af87ed611251526dd2826b257aa82"), looks := true }, kinds := [], alts := [], laidByText := true, laidKinds := [.data, .pinned, .pinned], laidTests := true, laidLooks := .later }
def NameFitsUptoCardSaid : Prop := Claim7.holds Tryz.pinned (.plain (OpenSpec.upto nameFitsSpec)) nameFitsUptoCard

/-- THE SECOND FORM's CARD OF 'wayzgooselaw03.NameList'. -/
def nameListUptoCard : Claim7 := { stood := { row := nameListUptoRow, standIns := [], harness := (true, "a35d37acb85f02e289d456e8645a9ced817af87ed611251526dd2826b257aa82"), looks := true }, kinds := [], alts := [], laidByText := true, laidKinds := [.data, .pinned, .pinned], laidTests := true, laidLooks := .later }
def NameListUptoCardSaid : Prop := Claim7.holds Tryz.pinned (.plain (OpenSpec.upto nameListSpec)) nameListUptoCard

/-- THE SECOND FORM's CARD OF 'wayzgooselaw03.NameBoth'. -/
def nameBothUptoCard : Claim7 := { stood := { row := nameBothUptoRow, standIns := [], harness := (true, "a35d37acb85f02e289d456e8645a9ced817af87ed611251526dd2826b257aa82"), looks := true }, kinds := [], alts := [], laidByText := true, laidKinds := [.data, .pinned, .pinned], laidTests := true, laidLooks := .later }
def NameBothUptoCardSaid : Prop := Claim7.holds Tryz.pinned (.plain (OpenSpec.upto nameBothSpec)) nameBothUptoCard

/-- THE SECOND FORM's CARD OF 'wayzgooselaw03.NameSteps'. -/
def nameStepsUptoCard : Claim7 := { stood := { row := nameStepsUptoRow, standIns := [], harness := (true, "a35d37acb85f02e289d456e8645a9ced817af87ed611251526dd2826b257aa82"), looks := true }, kinds := [], alts := [], laidByText := true, laidKinds := [.data, .pinned, .pinned], laidTests := true, laidLooks := .later }
def NameStepsUptoCardSaid : Prop := Claim7.holds Tryz.pinned (.plain (OpenSpec.upto nameStepsSpec)) nameStepsUptoCard

/-- THE SECOND FORM's CARD OF 'wayzgooselaw03.NameRules'. -/
def nameRulesUptoCard : Claim7 := { stood := { row := nameRulesUptoRow, standIns := [], harness := (true, "a35d37acb85f02e289d456e8645a9ced817af87ed611251526dd2826b257aa82"), looks := true }, kinds := [], alts := [], laidByText := true, laidKinds := [.data, .pinned, .pinned], laidTests := true, laidLooks := .later }
def NameRulesUptoCardSaid : Prop := Claim7.holds Tryz.pinned (.plain (OpenSpec.upto nameRulesSpec)) nameRulesUptoCard

/-- THE SECOND FORM's CARD OF 'wayzgooselaw03.NameKeys'. -/
def nameKeysUptoCard : Claim7 := { stood := { row := nameKeysUptoRow, standIns := [], harness := (true, "a35d37acb85f02e289d456e8645a9ced817af87ed611251526dd2826b257aa82"), looks := true }, kinds := [], alts := [], laidByText := true, laidKinds := [.data, .pinned, .pinned], laidTests := true, laidLooks := .later }
def NameKeysUptoCardSaid : Prop := Claim7.holds Tryz.pinned (.plain (OpenSpec.upto nameKeysSpec)) nameKeysUptoCard

/-- THE SECOND FORM's CARD OF 'wayzgooselaw03.NameOne'. -/
def nameOneUptoCard : Claim7 := { stood := { row := nameOneUptoRow, standIns := [], harness := (true, "a35d37acb85f02e289d456e8645a9ced817af87ed611251526dd2826b257aa82"), looks := true }, kinds := [], alts := [], laidByText := true, laidKinds := [.data, .pinned, .pinned], laidTests := true, laidLooks := .later }
def NameOneUptoCardSaid : Prop := Claim7.holds Tryz.pinned (.plain (OpenSpec.upto nameOneSpec)) nameOneUptoCard

/-- THE SECOND FORM's CARD OF 'wayzgooselaw03.NameNear'. -/
def nameNearUptoCard : Claim7 := { stood := { row := nameNearUptoRow, standIns := [], harness := (true, "a35d37acb85f02e289d456e8645a9ced817af87ed611251526dd2826b257aa82"), looks := true }, kinds := [], alts := [], laidByText := true, laidKinds := [.data, .pinned, .pinned], laidTests := true, laidLooks := .later }
def NameNearUptoCardSaid : Prop := Claim7.holds Tryz.pinned (.plain (OpenSpec.upto nameNearSpec)) nameNearUptoCard

/-- THE SECOND FORM's CARD OF 'wayzgooselaw03.NameLine'. -/
def nameLineUptoCard : Claim7 := { stood := { row := nameLineUptoRow, standIns := [], harness := (true, "a35d37acb85f02e289d456e8645a9ced817af87ed611251526dd2826b257aa82"), looks := true }, kinds := [], alts := [], laidByText := true, laidKinds := [.data, .pinned, .pinned], laidTests := true, laidLooks := .later }
def NameLineUptoCardSaid : Prop := Claim7.holds Tryz.pinned (.plain (OpenSpec.upto nameLineSpec)) nameLineUptoCard

/-- THE SECOND FORM's CARD OF 'wayzgooselaw03.NameUses'. -/
def nameUsesUptoCard : Claim7 := { stood := { row := nameUsesUptoRow, standIns := [], harness := (true, "a35d37acb85f02e289d456e8645a9ced817af87ed611251526dd2826b257aa82"), looks := true }, kinds := [], alts := [], laidByText := true, laidKinds := [.data, .pinned, .pinned], laidTests := true, laidLooks := .later }
def NameUsesUptoCardSaid : Prop := Claim7.holds Tryz.pinned (.plain (OpenSpec.upto nameUsesSpec)) nameUsesUptoCard

/-- THE SECOND FORM's CARD OF 'wayzgooselaw03.NameFewest'. -/
def nameFewestUptoCard : Claim7 := { stood := { row := nameFewestUptoRow, standIns := [], harness := (true, "a35d37acb85f02e289d456e8645a9ced817af87ed611251526dd2826b257aa82"), looks := true }, kinds := [], alts := [], laidByText := true, laidKinds := [.data, .pinned, .pinned], laidTests := true, laidLooks := .later }
def NameFewestUptoCardSaid : Prop := Claim7.holds Tryz.pinned (.plain (OpenSpec.upto nameFewestSpec)) nameFewestUptoCard

/-- THE SECOND FORM's CARD OF 'wayzgooselaw03.NameOrders'. -/
def nameOrdersUptoCard : Claim7 := { stood := { row := nameOrdersUptoRow, standIns := [], harness := (true, "a35d37acb85f02e289d456e8645a9ced817af87ed611251526dd2826b257aa82"), looks := true }, kinds := [], alts := [], laidByText := true, laidKinds := [.data, .pinned, .pinned], laidTests := true, laidLooks := .later }
def NameOrdersUptoCardSaid : Prop := Claim7.holds Tryz.pinned (.plain (OpenSpec.upto nameOrdersSpec)) nameOrdersUptoCard

/-- THE SECOND FORM's CARD OF 'wayzgooselaw03.NameSorted'. -/
def nameSortedUptoCard : Claim7 := { stood := { row := nameSortedUptoRow, standIns := [], harness := (true, "a35d37acb85f02e289d456e8645a9ced817af87ed611251526dd2826b257aa82"), looks := true }, kinds := [], alts := [], laidByText := true, laidKinds := [.data, .pinned, .pinned], laidTests := true, laidLooks := .later }
def NameSortedUptoCardSaid : Prop := Claim7.holds Tryz.pinned (.plain (OpenSpec.upto nameSortedSpec)) nameSortedUptoCard

/-- THE SECOND FORM's CARD OF 'wayzgooselaw03.NameLeast'. -/
def nameLeastUptoCard : Claim7 := { stood := { row := nameLeastUptoRow, standIns := [], harness := (true, "a35d37acb85f02e289d456e8645a9ced817af87ed611251526dd2826b257aa82"), looks := true }, kinds := [], alts := [], laidByText := true, laidKinds := [.data, .handle, .pinned, .pinned], laidTests := true, laidLooks := .later }
def NameLeastUptoCardSaid : Prop := Claim7.holds Tryz.pinned (.plain (OpenSpec.upto nameLeastSpec)) nameLeastUptoCard

/-- THE SECOND FORM's CARD OF 'wayzgooselaw03.NameColumn'. -/
def nameColumnUptoCard : Claim7 := { stood := { row := nameColumnUptoRow, standIns := [], harness := (true, "a35d37acb85f02e289d456e8645a9ced817af87ed611251526dd2826b257aa82"), looks := true }, kinds := [], alts := [], laidByText := true, laidKinds := [.data, .handle, .pinned, .pinned], laidTests := true, laidLooks := .later }
def NameColumnUptoCardSaid : Prop := Claim7.holds Tryz.pinned (.plain (OpenSpec.upto nameColumnSpec)) nameColumnUptoCard

/-- THE SECOND FORM's CARD OF 'wayzgooselaw03.NameShorts'. -/
def nameShortsUptoCard : Claim7 := { stood := { row := nameShortsUptoRow, standIns := [], harness := (true, "a35d37acb85f02e289d456e8645a9ced817af87ed611251526dd2826b257aa82"), looks := true }, kinds := [], alts := [], laidByText := true, laidKinds := [.data, .handle, .pinned, .pinned], laidTests := true, laidLooks := .later }
def NameShortsUptoCardSaid : Prop := Claim7.holds Tryz.pinned (.plain (OpenSpec.upto nameShortsSpec)) nameShortsUptoCard

/-- THE SECOND FORM's CARD OF 'wayzgooselaw03.NameCut'. -/
def nameCutUptoCard : Claim7 := { stood := { row := nameCutUptoRow, standIns := [], harness := (true, "a35d37acb85f02e289d456e8645a9ced817af87ed611251526dd2826b257aa82"), looks := true }, kinds := [], alts := [], laidByText := true, laidKinds := [.data, .handle, .pinned, .pinned], laidTests := true, laidLooks := .later }
def NameCutUptoCardSaid : Prop := Claim7.holds Tryz.pinned (.plain (OpenSpec.upto nameCutSpec)) nameCutUptoCard

/-- THE SECOND FORM's CARD OF 'wayzgooselaw03.NameKnown'. -/
def nameKnownUptoCard : Claim7 := { stood := { row := nameKnownUptoRow, standIns := [], harness := (true, "a35d37acb85f02e289d456e8645a9ced817af87ed611251526dd2826b257aa82"), looks := true }, kinds := [], alts := [], laidByText := true, laidKinds := [.data, .handle, .pinned, .pinned], laidTests := true, laidLooks := .later }
def NameKnownUptoCardSaid : Prop := Claim7.holds Tryz.pinned (.plain (OpenSpec.upto nameKnownSpec)) nameKnownUptoCard
end Rows
end Go.Proofs.YteehcinnfiaklaaGreatDoor
