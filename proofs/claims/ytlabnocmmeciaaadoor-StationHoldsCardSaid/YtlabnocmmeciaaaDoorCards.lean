/-
  DERIVED. GIVEN WITH THE SEED: THE CARDS: each row of YtlabnocmmeciaaaDoorRows.lean that lists a variable, with what it lists TIED to the program's text (the seventh form; the later family's looks); each row that meets fmt, with fmt's text TOLD by the authors' own Lean function (tested against real Go, not proved from fmt's source: count such statements apart). THE CARD IS WHAT COUNTS. Prove the row's statement (the work); the ties are given (YtlabnocmmeciaaaDoorTie.lean); close each card by the builder's one call (the guide's Derived/Test/ToyasCard.lean, 'card_holds'). Laid BY PROGRAM, IN A SANDBOX (cutbox-door.mjs). By AI agents, Wed Nov 11 2026. No macro, syntax, notation, axiom, sorry.
-/
import Derived.Test.YtlabnocmmeciaaaDoorRows
import GoSem.ClaimSeven
namespace Go.Proofs.YtlabnocmmeciaaaDoor
namespace Rows

/-- THE TIED CARD OF 'ddilaw42.StationNews'. -/
def stationNewsCard : Claim7 := { stood := { row := stationNewsRow, standIns := [], harness := (true, "a6bbd62534e1c859123aafa31c891a1ce500abe345e03e7316628c5c9fc5b297"), looks := false }, kinds := [], alts := [], laidByText := true, laidKinds := [.data, .pinned], laidTests := true, laidLooks := .later }
def StationNewsCardSaid : Prop := Claim7.holds Tryd.pinned (.plain (OpenSpec.ofChange stationNewsSpec)) stationNewsCard

/-- THE TIED CARD OF 'ddilaw42.StationCounts'. -/
def stationCountsCard : Claim7 := { stood := { row := stationCountsRow, standIns := [], harness := (true, "a6bbd62534e1c859123aafa31c891a1ce500abe345e03e7316628c5c9fc5b297"), looks := false }, kinds := [], alts := [], laidByText := true, laidKinds := [.data, .pinned], laidTests := true, laidLooks := .later }
def StationCountsCardSaid : Prop := Claim7.holds Tryd.pinned (.plain (OpenSpec.ofChange stationCountsSpec)) stationCountsCard

/-- THE TIED CARD OF 'ddilaw42.StationHolds'. -/
def stationHoldsCard : Claim7 := { stood := { row := stationHoldsRow, standIns := [], harness := (true, "a6bbd62534e1c859123aafa31c891a1ce500abe345e03e7316628c5c9fc5b297"), looks := false }, kinds := [], alts := [], laidByText := true, laidKinds := [.data, .pinned], laidTests := true, laidLooks := .later }
def StationHoldsCardSaid : Prop := Claim7.holds Tryd.pinned (.plain (OpenSpec.ofChange stationHoldsSpec)) stationHoldsCard

/-- THE SECOND FORM's CARD OF 'ddilaw42.StationNews'. -/
def stationNewsUptoCard : Claim7 := { stood := { row := stationNewsUptoRow, standIns := [], harness := (true, "a6bbd62534e1c859123aafa31c891a1ce500abe345e03e7316628c5c9fc5b297"), looks := false }, kinds := [], alts := [], laidByText := true, laidKinds := [.data, .pinned], laidTests := true, laidLooks := .later }
def StationNewsUptoCardSaid : Prop := Claim7.holds Tryd.pinned (.plain (OpenSpec.upto stationNewsSpec)) stationNewsUptoCard

/-- THE SECOND FORM's CARD OF 'ddilaw42.StationCounts'. -/
def stationCountsUptoCard : Claim7 := { stood := { row := stationCountsUptoRow, standIns := [], harness := (true, "a6bbd62534e1c859123aafa31c891a1ce500abe345e03e7316628c5c9fc5b297"), looks := false }, kinds := [], alts := [], laidByText := true, laidKinds := [.data, .pinned], laidTests := true, laidLooks := .later }
def StationCountsUptoCardSaid : Prop := Claim7.holds Tryd.pinned (.plain (OpenSpec.upto stationCountsSpec)) stationCountsUptoCard

/-- THE SECOND FORM's CARD OF 'ddilaw42.StationHolds'. -/
def stationHoldsUptoCard : Claim7 := { stood := { row := stationHoldsUptoRow, standIns := [], harness := (true, "a6bbd62534e1c859123aafa31c891a1ce500abe345e03e7316628c5c9fc5b297"), looks := false }, kinds := [], alts := [], laidByText := true, laidKinds := [.data, .pinned], laidTests := true, laidLooks := .later }
def StationHoldsUptoCardSaid : Prop := Claim7.holds Tryd.pinned (.plain (OpenSpec.upto stationHoldsSpec)) stationHoldsUptoCard
end Rows
end Go.Proofs.YtlabnocmmeciaaaDoor
