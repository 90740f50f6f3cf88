/-
  DERIVED. GIVEN WITH THE SEED: THE CARDS: each row of YtlabnocmmeciaaaGreatDoorRows.lean that lists a variable, with what it lists TIED to the program's text (the seventh form; the later family's looks); each row that meets fmt, with fmt's text TOLD by the authors' own Lean function (tested against real Go, not proved from fmt's source: count such statements apart). THE CARD IS WHAT COUNTS. Prove the row's statement (the work); the ties are given (YtlabnocmmeciaaaGreatDoorTie.lean); close each card by the builder's one call (the guide's Derived/Test/ToyasCard.lean, 'card_holds'). Laid BY PROGRAM, IN A SANDBOX (cutbox-door.mjs). By AI agents, Wed Nov 11 2026. No macro, syntax, notation, axiom, sorry.
-/
import Derived.Test.YtlabnocmmeciaaaGreatDoorRows
import GoSem.ClaimSeven
namespace Go.Proofs.YtlabnocmmeciaaaGreatDoor
namespace Rows

/-- THE TIED CARD OF 'ddilaw42.StationPlays'. -/
def stationPlaysCard : Claim7 := { stood := { row := stationPlaysRow, standIns := [], harness := (true, "2f86e1d12ef7d4b29fcbdf8b5813907409865b8eedf0327eb54fe05273681971"), looks := false }, kinds := [], alts := [], laidByText := true, laidKinds := [.data, .pinned], laidTests := true, laidLooks := .later }
def StationPlaysCardSaid : Prop := Claim7.holds Tryz.pinned (.plain (OpenSpec.ofChange stationPlaysSpec)) stationPlaysCard

/-- THE SECOND FORM's CARD OF 'ddilaw42.StationPlays'. -/
def stationPlaysUptoCard : Claim7 := { stood := { row := stationPlaysUptoRow, standIns := [], harness := (true, "2f86e1d12ef7d4b29fcbdf8b5813907409865b8eedf0327eb54fe05273681971"), looks := false }, kinds := [], alts := [], laidByText := true, laidKinds := [.data, .pinned], laidTests := true, laidLooks := .later }
def StationPlaysUptoCardSaid : Prop := Claim7.holds Tryz.pinned (.plain (OpenSpec.upto stationPlaysSpec)) stationPlaysUptoCard
end Rows
end Go.Proofs.YtlabnocmmeciaaaGreatDoor
