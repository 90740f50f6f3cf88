/-
  DERIVED. GIVEN WITH THE SEED: THE CARDS: each row of YtfcgconojomfpaaDoorRows.lean that lists a variable, with what it lists TIED to the program's text (the seventh form; the later family's looks); each row that meets fmt, with fmt's text TOLD by the authors' own Lean function (tested against real Go, not proved from fmt's source: count such statements apart). THE CARD IS WHAT COUNTS. Prove the row's statement (the work); the ties are given (YtfcgconojomfpaaDoorTie.lean); close each card by the builder's one call (the guide's Derived/Test/ToyasCard.lean, 'card_holds'). Laid BY PROGRAM, IN A SANDBOX (cutbox-door.mjs). By AI agents, Wed Nov 11 2026. No macro, syntax, notation, axiom, sorry.
-/
import Derived.Test.YtfcgconojomfpaaDoorRows
import GoSem.ClaimSeven
namespace Go.Proofs.YtfcgconojomfpaaDoor
namespace Rows

/-- THE TIED CARD OF 'ddilaw01.DnameParses'. -/
def dnameParsesCard : Claim7 := { stood := { row := dnameParsesRow, standIns := [], harness := (true, "9839a3d972daf2229428483db339c7e7fe5cc7eacb8f2f9865db31a80c295b47"), looks := false }, kinds := [], alts := [], laidByText := true, laidKinds := [.data, .pinned], laidTests := true, laidLooks := .later }
def DnameParsesCardSaid : Prop := Claim7.holds Tryd.pinned (.plain (OpenSpec.ofChange dnameParsesSpec)) dnameParsesCard

/-- THE TIED CARD OF 'ddilaw01.DnameSplits'. -/
def dnameSplitsCard : Claim7 := { stood := { row := dnameSplitsRow, standIns := [], harness := (true, "9839a3d972daf2229428483db339c7e7fe5cc7eacb8f2f9865db31a80c295b47"), looks := false }, kinds := [], alts := [], laidByText := true, laidKinds := [.data, .pinned], laidTests := true, laidLooks := .later }
def DnameSplitsCardSaid : Prop := Claim7.holds Tryd.pinned (.plain (OpenSpec.ofChange dnameSplitsSpec)) dnameSplitsCard

/-- THE TIED CARD OF 'ddilaw01.DnamePairs'. -/
def dnamePairsCard : Claim7 := { stood := { row := dnamePairsRow, standIns := [], harness := (true, "9839a3d972daf2229428483db339c7e7fe5cc7eacb8f2f9865db31a80c295b47"), looks := false }, kinds := [], alts := [], laidByText := true, laidKinds := [.data, .pinned], laidTests := true, laidLooks := .later }
def DnamePairsCardSaid : Prop := Claim7.holds Tryd.pinned (.plain (OpenSpec.ofChange dnamePairsSpec)) dnamePairsCard

/-- THE TIED CARD OF 'ddilaw01.DnameReplaces'. -/
def dnameReplacesCard : Claim7 := { stood := { row := dnameReplacesRow, standIns := [], harness := (true, "9839a3d972daf2229428483db339c7e7fe5cc7eacb8f2f9865db31a80c295b47"), looks := false }, kinds := [], alts := [], laidByText := true, laidKinds := [.data, .pinned], laidTests := true, laidLooks := .later }
def DnameReplacesCardSaid : Prop := Claim7.holds Tryd.pinned (.plain (OpenSpec.ofChange dnameReplacesSpec)) dnameReplacesCard

/-- THE TIED CARD OF 'ddilaw01.DnameOrders'. -/
def dnameOrdersCard : Claim7 := { stood := { row := dnameOrdersRow, standIns := [], harness := (true, "9839a3d972daf2229428483db339c7e7fe5cc7eacb8f2f9865db31a80c295b47"), looks := false }, kinds := [], alts := [], laidByText := true, laidKinds := [.data, .pinned], laidTests := true, laidLooks := .later }
def DnameOrdersCardSaid : Prop := Claim7.holds Tryd.pinned (.plain (OpenSpec.ofChange dnameOrdersSpec)) dnameOrdersCard

/-- THE TIED CARD OF 'ddilaw01.DnameAncestors'. -/
def dnameAncestorsCard : Claim7 := { stood := { row := dnameAncestorsRow, standIns := [], harness := (true, "9839a3d972daf2229428483db339c7e7fe5cc7eacb8f2f9865db31a80c295b47"), looks := false }, kinds := [], alts := [], laidByText := true, laidKinds := [.data, .pinned], laidTests := true, laidLooks := .later }
def DnameAncestorsCardSaid : Prop := Claim7.holds Tryd.pinned (.plain (OpenSpec.ofChange dnameAncestorsSpec)) dnameAncestorsCard

/-- THE TIED CARD OF 'ddilaw01.DnameReplacesBack'. -/
def dnameReplacesBackCard : Claim7 := { stood := { row := dnameReplacesBackRow, standIns := [], harness := (true, "9839a3d972daf2229428483db339c7e7fe5cc7eacb8f2f9865db31a80c295b47"), looks := false }, kinds := [], alts := [], laidByText := true, laidKinds := [.data, .pinned], laidTests := true, laidLooks := .later }
def DnameReplacesBackCardSaid : Prop := Claim7.holds Tryd.pinned (.plain (OpenSpec.ofChange dnameReplacesBackSpec)) dnameReplacesBackCard

/-- THE TIED CARD OF 'ddilaw01.DnameJoins'. -/
def dnameJoinsCard : Claim7 := { stood := { row := dnameJoinsRow, standIns := [], harness := (true, "9839a3d972daf2229428483db339c7e7fe5cc7eacb8f2f9865db31a80c295b47"), looks := false }, kinds := [], alts := [], laidByText := true, laidKinds := [.data, .pinned], laidTests := true, laidLooks := .later }
def DnameJoinsCardSaid : Prop := Claim7.holds Tryd.pinned (.plain (OpenSpec.ofChange dnameJoinsSpec)) dnameJoinsCard

/-- THE TIED CARD OF 'ddilaw01.DnameRoundTrips'. -/
def dnameRoundTripsCard : Claim7 := { stood := { row := dnameRoundTripsRow, standIns := [], harness := (true, "9839a3d972daf2229428483db339c7e7fe5cc7eacb8f2f9865db31a80c295b47"), looks := false }, kinds := [], alts := [], laidByText := true, laidKinds := [.data, .pinned], laidTests := true, laidLooks := .later }
def DnameRoundTripsCardSaid : Prop := Claim7.holds Tryd.pinned (.plain (OpenSpec.ofChange dnameRoundTripsSpec)) dnameRoundTripsCard

/-- THE SECOND FORM's CARD OF 'ddilaw01.DnameParses'. -/
def dnameParsesUptoCard : Claim7 := { stood := { row := dnameParsesUptoRow, standIns := [], harness := (true, "9839a3d972daf2229428483db339c7e7fe5cc7eacb8f2f9865db31a80c295b47"), looks := false }, kinds := [], alts := [], laidByText := true, laidKinds := [.data, .pinned], laidTests := true, laidLooks := .later }
def DnameParsesUptoCardSaid : Prop := Claim7.holds Tryd.pinned (.plain (OpenSpec.upto dnameParsesSpec)) dnameParsesUptoCard

/-- THE SECOND FORM's CARD OF 'ddilaw01.DnameSplits'. -/
def dnameSplitsUptoCard : Claim7 := { stood := { row := dnameSplitsUptoRow, standIns := [], harness := (true, "9839a3d972daf2229428483db339c7e7fe5cc7eacb8f2f9865db31a80c295b47"), looks := false }, kinds := [], alts := [], laidByText := true, laidKinds := [.data, .pinned], laidTests := true, laidLooks := .later }
def DnameSplitsUptoCardSaid : Prop := Claim7.holds Tryd.pinned (.plain (OpenSpec.upto dnameSplitsSpec)) dnameSplitsUptoCard

/-- THE SECOND FORM's CARD OF 'ddilaw01.DnamePairs'. -/
def dnamePairsUptoCard : Claim7 := { stood := { row := dnamePairsUptoRow, standIns := [], harness := (true, "9839a3d972daf2229428483db339c7e7fe5cc7eacb8f2f9865db31a80c295b47"), looks := false }, kinds := [], alts := [], laidByText := true, laidKinds := [.data, .pinned], laidTests := true, laidLooks := .later }
def DnamePairsUptoCardSaid : Prop := Claim7.holds Tryd.pinned (.plain (OpenSpec.upto dnamePairsSpec)) dnamePairsUptoCard

/-- THE SECOND FORM's CARD OF 'ddilaw01.DnameReplaces'. -/
def dnameReplacesUptoCard : Claim7 := { stood := { row := dnameReplacesUptoRow, standIns := [], harness := (true, "9839a3d972daf2229428483db339c7e7fe5cc7eacb8f2f9865db31a80c295b47"), looks := false }, kinds := [], alts := [], laidByText := true, laidKinds := [.data, .pinned], laidTests := true, laidLooks := .later }
def DnameReplacesUptoCardSaid : Prop := Claim7.holds Tryd.pinned (.plain (OpenSpec.upto dnameReplacesSpec)) dnameReplacesUptoCard

/-- THE SECOND FORM's CARD OF 'ddilaw01.DnameOrders'. -/
def dnameOrdersUptoCard : Claim7 := { stood := { row := dnameOrdersUptoRow, standIns := [], harness := (true, "9839a3d972daf2229428483db339c7e7fe5cc7eacb8f2f9865db31a80c295b47"), looks := false }, kinds := [], alts := [], laidByText := true, laidKinds := [.data, .pinned], laidTests := true, laidLooks := .later }
def DnameOrdersUptoCardSaid : Prop := Claim7.holds Tryd.pinned (.plain (OpenSpec.upto dnameOrdersSpec)) dnameOrdersUptoCard

/-- THE SECOND FORM's CARD OF 'ddilaw01.DnameAncestors'. -/
def dnameAncestorsUptoCard : Claim7 := { stood := { row := dnameAncestorsUptoRow, standIns := [], harness := (true, "9839a3d972daf2229428483db339c7e7fe5cc7eacb8f2f9865db31a80c295b47"), looks := false }, kinds := [], alts := [], laidByText := true, laidKinds := [.data, .pinned], laidTests := true, laidLooks := .later }
def DnameAncestorsUptoCardSaid : Prop := Claim7.holds Tryd.pinned (.plain (OpenSpec.upto dnameAncestorsSpec)) dnameAncestorsUptoCard

/-- THE SECOND FORM's CARD OF 'ddilaw01.DnameReplacesBack'. -/
def dnameReplacesBackUptoCard : Claim7 := { stood := { row := dnameReplacesBackUptoRow, standIns := [], harness := (true, "9839a3d972daf2229428483db339c7e7fe5cc7eacb8f2f9865db31a80c295b47"), looks := false }, kinds := [], alts := [], laidByText := true, laidKinds := [.data, .pinned], laidTests := true, laidLooks := .later }
def DnameReplacesBackUptoCardSaid : Prop := Claim7.holds Tryd.pinned (.plain (OpenSpec.upto dnameReplacesBackSpec)) dnameReplacesBackUptoCard

/-- THE SECOND FORM's CARD OF 'ddilaw01.DnameJoins'. -/
def dnameJoinsUptoCard : Claim7 := { stood := { row := dnameJoinsUptoRow, standIns := [], harness := (true, "9839a3d972daf2229428483db339c7e7fe5cc7eacb8f2f9865db31a80c295b47"), looks := false }, kinds := [], alts := [], laidByText := true, laidKinds := [.data, .pinned], laidTests := true, laidLooks := .later }
def DnameJoinsUptoCardSaid : Prop := Claim7.holds Tryd.pinned (.plain (OpenSpec.upto dnameJoinsSpec)) dnameJoinsUptoCard

/-- THE SECOND FORM's CARD OF 'ddilaw01.DnameRoundTrips'. -/
def dnameRoundTripsUptoCard : Claim7 := { stood := { row := dnameRoundTripsUptoRow, standIns := [], harness := (true, "9839a3d972daf2229428483db339c7e7fe5cc7eacb8f2f9865db31a80c295b47"), looks := false }, kinds := [], alts := [], laidByText := true, laidKinds := [.data, .pinned], laidTests := true, laidLooks := .later }
def DnameRoundTripsUptoCardSaid : Prop := Claim7.holds Tryd.pinned (.plain (OpenSpec.upto dnameRoundTripsSpec)) dnameRoundTripsUptoCard
end Rows
end Go.Proofs.YtfcgconojomfpaaDoor
