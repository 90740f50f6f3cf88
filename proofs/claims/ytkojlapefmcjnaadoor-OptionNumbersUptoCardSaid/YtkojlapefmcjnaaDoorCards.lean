/-
  DERIVED. GIVEN WITH THE SEED: THE CARDS: each row of YtkojlapefmcjnaaDoorRows.lean that lists a variable, with what it lists TIED to the program's text (the seventh form; the later family's looks); each row that meets fmt, with fmt's text TOLD by the authors' own Lean function (tested against real Go, not proved from fmt's source: count such statements apart). THE CARD IS WHAT COUNTS. Prove the row's statement (the work); the ties are given (YtkojlapefmcjnaaDoorTie.lean); close each card by the builder's one call (the guide's Derived/Test/ToyasCard.lean, 'card_holds'). Laid BY PROGRAM, IN A SANDBOX (cutbox-door.mjs). By AI agents, Wed Nov 11 2026. No macro, syntax, notation, axiom, sorry.
-/
import Derived.Test.YtkojlapefmcjnaaDoorRows
import GoSem.ClaimSeven
namespace Go.Proofs.YtkojlapefmcjnaaDoor
namespace Rows

/-- THE TIED CARD OF 'ddilaw35.OptionCodes'. -/
def optionCodesCard : Claim7 := { stood := { row := optionCodesRow, standIns := [], harness := (true, "453348f751e06727a078dc915ec95349793e771bb43992cd95d8ccbbd690325b"), looks := false }, kinds := [], alts := [], laidByText := true, laidKinds := [.data, .pinned], laidTests := true, laidLooks := .later }
def OptionCodesCardSaid : Prop := Claim7.holds Tryd.pinned (.plain (OpenSpec.ofChange optionCodesSpec)) optionCodesCard

/-- THE TIED CARD OF 'ddilaw35.OptionDecodes'. -/
def optionDecodesCard : Claim7 := { stood := { row := optionDecodesRow, standIns := [], harness := (true, "453348f751e06727a078dc915ec95349793e771bb43992cd95d8ccbbd690325b"), looks := false }, kinds := [], alts := [], laidByText := true, laidKinds := [.data, .pinned], laidTests := true, laidLooks := .later }
def OptionDecodesCardSaid : Prop := Claim7.holds Tryd.pinned (.plain (OpenSpec.ofChange optionDecodesSpec)) optionDecodesCard

/-- THE TIED CARD OF 'ddilaw35.OptionBack'. -/
def optionBackCard : Claim7 := { stood := { row := optionBackRow, standIns := [], harness := (true, "453348f751e06727a078dc915ec95349793e771bb43992cd95d8ccbbd690325b"), looks := false }, kinds := [], alts := [], laidByText := true, laidKinds := [.data, .pinned], laidTests := true, laidLooks := .later }
def OptionBackCardSaid : Prop := Claim7.holds Tryd.pinned (.plain (OpenSpec.ofChange optionBackSpec)) optionBackCard

/-- THE TIED CARD OF 'ddilaw35.OptionAgain'. -/
def optionAgainCard : Claim7 := { stood := { row := optionAgainRow, standIns := [], harness := (true, "453348f751e06727a078dc915ec95349793e771bb43992cd95d8ccbbd690325b"), looks := false }, kinds := [], alts := [], laidByText := true, laidKinds := [.data, .pinned], laidTests := true, laidLooks := .later }
def OptionAgainCardSaid : Prop := Claim7.holds Tryd.pinned (.plain (OpenSpec.ofChange optionAgainSpec)) optionAgainCard

/-- THE TIED CARD OF 'ddilaw35.OptionParts'. -/
def optionPartsCard : Claim7 := { stood := { row := optionPartsRow, standIns := [], harness := (true, "453348f751e06727a078dc915ec95349793e771bb43992cd95d8ccbbd690325b"), looks := false }, kinds := [], alts := [], laidByText := true, laidKinds := [.data, .pinned], laidTests := true, laidLooks := .later }
def OptionPartsCardSaid : Prop := Claim7.holds Tryd.pinned (.plain (OpenSpec.ofChange optionPartsSpec)) optionPartsCard

/-- THE TIED CARD OF 'ddilaw35.OptionFinds'. -/
def optionFindsCard : Claim7 := { stood := { row := optionFindsRow, standIns := [], harness := (true, "453348f751e06727a078dc915ec95349793e771bb43992cd95d8ccbbd690325b"), looks := false }, kinds := [], alts := [], laidByText := true, laidKinds := [.data, .pinned], laidTests := true, laidLooks := .later }
def OptionFindsCardSaid : Prop := Claim7.holds Tryd.pinned (.plain (OpenSpec.ofChange optionFindsSpec)) optionFindsCard

/-- THE TIED CARD OF 'ddilaw35.OptionPuts'. -/
def optionPutsCard : Claim7 := { stood := { row := optionPutsRow, standIns := [], harness := (true, "453348f751e06727a078dc915ec95349793e771bb43992cd95d8ccbbd690325b"), looks := false }, kinds := [], alts := [], laidByText := true, laidKinds := [.data, .pinned], laidTests := true, laidLooks := .later }
def OptionPutsCardSaid : Prop := Claim7.holds Tryd.pinned (.plain (OpenSpec.ofChange optionPutsSpec)) optionPutsCard

/-- THE TIED CARD OF 'ddilaw35.OptionValues'. -/
def optionValuesCard : Claim7 := { stood := { row := optionValuesRow, standIns := [], harness := (true, "453348f751e06727a078dc915ec95349793e771bb43992cd95d8ccbbd690325b"), looks := false }, kinds := [], alts := [], laidByText := true, laidKinds := [.data, .pinned], laidTests := true, laidLooks := .later }
def OptionValuesCardSaid : Prop := Claim7.holds Tryd.pinned (.plain (OpenSpec.ofChange optionValuesSpec)) optionValuesCard

/-- THE TIED CARD OF 'ddilaw35.OptionNumbers'. -/
def optionNumbersCard : Claim7 := { stood := { row := optionNumbersRow, standIns := [], harness := (true, "453348f751e06727a078dc915ec95349793e771bb43992cd95d8ccbbd690325b"), looks := false }, kinds := [], alts := [], laidByText := true, laidKinds := [.data, .pinned], laidTests := true, laidLooks := .later }
def OptionNumbersCardSaid : Prop := Claim7.holds Tryd.pinned (.plain (OpenSpec.ofChange optionNumbersSpec)) optionNumbersCard

/-- THE SECOND FORM's CARD OF 'ddilaw35.OptionCodes'. -/
def optionCodesUptoCard : Claim7 := { stood := { row := optionCodesUptoRow, standIns := [], harness := (true, "453348f751e06727a078dc915ec95349793e771bb43992cd95d8ccbbd690325b"), looks := false }, kinds := [], alts := [], laidByText := true, laidKinds := [.data, .pinned], laidTests := true, laidLooks := .later }
def OptionCodesUptoCardSaid : Prop := Claim7.holds Tryd.pinned (.plain (OpenSpec.upto optionCodesSpec)) optionCodesUptoCard

/-- THE SECOND FORM's CARD OF 'ddilaw35.OptionDecodes'. -/
def optionDecodesUptoCard : Claim7 := { stood := { row := optionDecodesUptoRow, standIns := [], harness := (true, "453348f751e06727a078dc915ec95349793e771bb43992cd95d8ccbbd690325b"), looks := false }, kinds := [], alts := [], laidByText := true, laidKinds := [.data, .pinned], laidTests := true, laidLooks := .later }
def OptionDecodesUptoCardSaid : Prop := Claim7.holds Tryd.pinned (.plain (OpenSpec.upto optionDecodesSpec)) optionDecodesUptoCard

/-- THE SECOND FORM's CARD OF 'ddilaw35.OptionBack'. -/
def optionBackUptoCard : Claim7 := { stood := { row := optionBackUptoRow, standIns := [], harness := (true, "453348f751e06727a078dc915ec95349793e771bb43992cd95d8ccbbd690325b"), looks := false }, kinds := [], alts := [], laidByText := true, laidKinds := [.data, .pinned], laidTests := true, laidLooks := .later }
def OptionBackUptoCardSaid : Prop := Claim7.holds Tryd.pinned (.plain (OpenSpec.upto optionBackSpec)) optionBackUptoCard

/-- THE SECOND FORM's CARD OF 'ddilaw35.OptionAgain'. -/
def optionAgainUptoCard : Claim7 := { stood := { row := optionAgainUptoRow, standIns := [], harness := (true, "453348f751e06727a078dc915ec95349793e771bb43992cd95d8ccbbd690325b"), looks := false }, kinds := [], alts := [], laidByText := true, laidKinds := [.data, .pinned], laidTests := true, laidLooks := .later }
def OptionAgainUptoCardSaid : Prop := Claim7.holds Tryd.pinned (.plain (OpenSpec.upto optionAgainSpec)) optionAgainUptoCard

/-- THE SECOND FORM's CARD OF 'ddilaw35.OptionParts'. -/
def optionPartsUptoCard : Claim7 := { stood := { row := optionPartsUptoRow, standIns := [], harness := (true, "453348f751e06727a078dc915ec95349793e771bb43992cd95d8ccbbd690325b"), looks := false }, kinds := [], alts := [], laidByText := true, laidKinds := [.data, .pinned], laidTests := true, laidLooks := .later }
def OptionPartsUptoCardSaid : Prop := Claim7.holds Tryd.pinned (.plain (OpenSpec.upto optionPartsSpec)) optionPartsUptoCard

/-- THE SECOND FORM's CARD OF 'ddilaw35.OptionFinds'. -/
def optionFindsUptoCard : Claim7 := { stood := { row := optionFindsUptoRow, standIns := [], harness := (true, "453348f751e06727a078dc915ec95349793e771bb43992cd95d8ccbbd690325b"), looks := false }, kinds := [], alts := [], laidByText := true, laidKinds := [.data, .pinned], laidTests := true, laidLooks := .later }
def OptionFindsUptoCardSaid : Prop := Claim7.holds Tryd.pinned (.plain (OpenSpec.upto optionFindsSpec)) optionFindsUptoCard

/-- THE SECOND FORM's CARD OF 'ddilaw35.OptionPuts'. -/
def optionPutsUptoCard : Claim7 := { stood := { row := optionPutsUptoRow, standIns := [], harness := (true, "453348f751e06727a078dc915ec95349793e771bb43992cd95d8ccbbd690325b"), looks := false }, kinds := [], alts := [], laidByText := true, laidKinds := [.data, .pinned], laidTests := true, laidLooks := .later }
def OptionPutsUptoCardSaid : Prop := Claim7.holds Tryd.pinned (.plain (OpenSpec.upto optionPutsSpec)) optionPutsUptoCard

/-- THE SECOND FORM's CARD OF 'ddilaw35.OptionValues'. -/
def optionValuesUptoCard : Claim7 := { stood := { row := optionValuesUptoRow, standIns := [], harness := (true, "453348f751e06727a078dc915ec95349793e771bb43992cd95d8ccbbd690325b"), looks := false }, kinds := [], alts := [], laidByText := true, laidKinds := [.data, .pinned], laidTests := true, laidLooks := .later }
def OptionValuesUptoCardSaid : Prop := Claim7.holds Tryd.pinned (.plain (OpenSpec.upto optionValuesSpec)) optionValuesUptoCard

/-- THE SECOND FORM's CARD OF 'ddilaw35.OptionNumbers'. -/
def optionNumbersUptoCard : Claim7 := { stood := { row := optionNumbersUptoRow, standIns := [], harness := (true, "453348f751e06727a078dc915ec95349793e771bb43992cd95d8ccbbd690325b"), looks := false }, kinds := [], alts := [], laidByText := true, laidKinds := [.data, .pinned], laidTests := true, laidLooks := .later }
def OptionNumbersUptoCardSaid : Prop := Claim7.holds Tryd.pinned (.plain (OpenSpec.upto optionNumbersSpec)) optionNumbersUptoCard
end Rows
end Go.Proofs.YtkojlapefmcjnaaDoor
