/-
  DERIVED. GIVEN WITH THE SEED: THE CARDS: each row of YtannhjclhdennaaDoorRows.lean that lists a variable, with what it lists TIED to the program's text (the seventh form; the later family's looks); each row that meets fmt, with fmt's text TOLD by the authors' own Lean function (tested against real Go, not proved from fmt's source: count such statements apart). THE CARD IS WHAT COUNTS. Prove the row's statement (the work); the ties are given (YtannhjclhdennaaDoorTie.lean); close each card by the builder's one call (the guide's Derived/Test/ToyasCard.lean, 'card_holds'). Laid BY PROGRAM, IN A SANDBOX (cutbox-door.mjs). By AI agents, Wed Nov 11 2026. No macro, syntax, notation, axiom, sorry.
-/
import Derived.Test.YtannhjclhdennaaDoorRows
import GoSem.ClaimSeven
namespace Go.Proofs.YtannhjclhdennaaDoor
namespace Rows

/-- THE TIED CARD OF 'ddilaw31.MinimizeNext'. -/
def minimizeNextCard : Claim7 := { stood := { row := minimizeNextRow, standIns := [], harness := (true, "1b72fb0af197e69b1b96435c929911a134f95bab4bee3b4564264074bb6254a3"), looks := false }, kinds := [], alts := [], laidByText := true, laidKinds := [.data, .pinned], laidTests := true, laidLooks := .later }
def MinimizeNextCardSaid : Prop := Claim7.holds Tryd.pinned (.plain (OpenSpec.ofChange minimizeNextSpec)) minimizeNextCard

/-- THE TIED CARD OF 'ddilaw31.MinimizeSteps'. -/
def minimizeStepsCard : Claim7 := { stood := { row := minimizeStepsRow, standIns := [], harness := (true, "1b72fb0af197e69b1b96435c929911a134f95bab4bee3b4564264074bb6254a3"), looks := false }, kinds := [], alts := [], laidByText := true, laidKinds := [.data, .pinned], laidTests := true, laidLooks := .later }
def MinimizeStepsCardSaid : Prop := Claim7.holds Tryd.pinned (.plain (OpenSpec.ofChange minimizeStepsSpec)) minimizeStepsCard

/-- THE TIED CARD OF 'ddilaw31.MinimizeGrows'. -/
def minimizeGrowsCard : Claim7 := { stood := { row := minimizeGrowsRow, standIns := [], harness := (true, "1b72fb0af197e69b1b96435c929911a134f95bab4bee3b4564264074bb6254a3"), looks := false }, kinds := [], alts := [], laidByText := true, laidKinds := [.data, .pinned], laidTests := true, laidLooks := .later }
def MinimizeGrowsCardSaid : Prop := Claim7.holds Tryd.pinned (.plain (OpenSpec.ofChange minimizeGrowsSpec)) minimizeGrowsCard

/-- THE TIED CARD OF 'ddilaw31.MinimizeOnce'. -/
def minimizeOnceCard : Claim7 := { stood := { row := minimizeOnceRow, standIns := [], harness := (true, "1b72fb0af197e69b1b96435c929911a134f95bab4bee3b4564264074bb6254a3"), looks := false }, kinds := [], alts := [], laidByText := true, laidKinds := [.data, .pinned], laidTests := true, laidLooks := .later }
def MinimizeOnceCardSaid : Prop := Claim7.holds Tryd.pinned (.plain (OpenSpec.ofChange minimizeOnceSpec)) minimizeOnceCard

/-- THE TIED CARD OF 'ddilaw31.MinimizeLittle'. -/
def minimizeLittleCard : Claim7 := { stood := { row := minimizeLittleRow, standIns := [], harness := (true, "1b72fb0af197e69b1b96435c929911a134f95bab4bee3b4564264074bb6254a3"), looks := false }, kinds := [], alts := [], laidByText := true, laidKinds := [.data, .pinned], laidTests := true, laidLooks := .later }
def MinimizeLittleCardSaid : Prop := Claim7.holds Tryd.pinned (.plain (OpenSpec.ofChange minimizeLittleSpec)) minimizeLittleCard

/-- THE SECOND FORM's CARD OF 'ddilaw31.MinimizeNext'. -/
def minimizeNextUptoCard : Claim7 := { stood := { row := minimizeNextUptoRow, standIns := [], harness := (true, "1b72fb0af197e69b1b96435c929911a134f95bab4bee3b4564264074bb6254a3"), looks := false }, kinds := [], alts := [], laidByText := true, laidKinds := [.data, .pinned], laidTests := true, laidLooks := .later }
def MinimizeNextUptoCardSaid : Prop := Claim7.holds Tryd.pinned (.plain (OpenSpec.upto minimizeNextSpec)) minimizeNextUptoCard

/-- THE SECOND FORM's CARD OF 'ddilaw31.MinimizeSteps'. -/
def minimizeStepsUptoCard : Claim7 := { stood := { row := minimizeStepsUptoRow, standIns := [], harness := (true, "1b72fb0af197e69b1b96435c929911a134f95bab4bee3b4564264074bb6254a3"), looks := false }, kinds := [], alts := [], laidByText := true, laidKinds := [.data, .pinned], laidTests := true, laidLooks := .later }
def MinimizeStepsUptoCardSaid : Prop := Claim7.holds Tryd.pinned (.plain (OpenSpec.upto minimizeStepsSpec)) minimizeStepsUptoCard

/-- THE SECOND FORM's CARD OF 'ddilaw31.MinimizeGrows'. -/
def minimizeGrowsUptoCard : Claim7 := { stood := { row := minimizeGrowsUptoRow, standIns := [], harness := (true, "1b72fb0af197e69b1b96435c929911a134f95bab4bee3b4564264074bb6254a3"), looks := false }, kinds := [], alts := [], laidByText := true, laidKinds := [.data, .pinned], laidTests := true, laidLooks := .later }
def MinimizeGrowsUptoCardSaid : Prop := Claim7.holds Tryd.pinned (.plain (OpenSpec.upto minimizeGrowsSpec)) minimizeGrowsUptoCard

/-- THE SECOND FORM's CARD OF 'ddilaw31.MinimizeOnce'. -/
def minimizeOnceUptoCard : Claim7 := { stood := { row := minimizeOnceUptoRow, standIns := [], harness := (true, "1b72fb0af197e69b1b96435c929911a134f95bab4bee3b4564264074bb6254a3"), looks := false }, kinds := [], alts := [], laidByText := true, laidKinds := [.data, .pinned], laidTests := true, laidLooks := .later }
def MinimizeOnceUptoCardSaid : Prop := Claim7.holds Tryd.pinned (.plain (OpenSpec.upto minimizeOnceSpec)) minimizeOnceUptoCard

/-- THE SECOND FORM's CARD OF 'ddilaw31.MinimizeLittle'. -/
def minimizeLittleUptoCard : Claim7 := { stood := { row := minimizeLittleUptoRow, standIns := [], harness := (true, "1b72fb0af197e69b1b96435c929911a134f95bab4bee3b4564264074bb6254a3"), looks := false }, kinds := [], alts := [], laidByText := true, laidKinds := [.data, .pinned], laidTests := true, laidLooks := .later }
def MinimizeLittleUptoCardSaid : Prop := Claim7.holds Tryd.pinned (.plain (OpenSpec.upto minimizeLittleSpec)) minimizeLittleUptoCard
end Rows
end Go.Proofs.YtannhjclhdennaaDoor
