/-
  DERIVED. GIVEN WITH THE SEED: THE CARDS: each row of YtcoekgnbncocnaaDoorRows.lean that lists a variable, with what it lists TIED to the program's text (the seventh form; the later family's looks); each row that meets fmt, with fmt's text TOLD by the authors' own Lean function (tested against real Go, not proved from fmt's source: count such statements apart). THE CARD IS WHAT COUNTS. Prove the row's statement (the work); the ties are given (YtcoekgnbncocnaaDoorTie.lean); close each card by the builder's one call (the guide's Derived/Test/ToyasCard.lean, 'card_holds'). Laid BY PROGRAM, IN A SANDBOX (cutbox-door.mjs). By AI agents, Wed Nov 11 2026. No macro, syntax, notation, axiom, sorry.
-/
import Derived.Test.YtcoekgnbncocnaaDoorRows
import GoSem.ClaimSeven
namespace Go.Proofs.YtcoekgnbncocnaaDoor
namespace Rows

/-- THE TIED CARD OF 'ddilaw36.DhcpReplies'. -/
def dhcpRepliesCard : Claim7 := { stood := { row := dhcpRepliesRow, standIns := [], harness := (true, "d25cc30c811a7032c61471d4774ac533c9dc4aef1cbd0edcdaa7e2a5b763abe9"), looks := false }, kinds := [], alts := [], laidByText := true, laidKinds := [.data, .pinned], laidTests := true, laidLooks := .later }
def DhcpRepliesCardSaid : Prop := Claim7.holds Tryd.pinned (.plain (OpenSpec.ofChange dhcpRepliesSpec)) dhcpRepliesCard

/-- THE TIED CARD OF 'ddilaw36.DhcpAnswers'. -/
def dhcpAnswersCard : Claim7 := { stood := { row := dhcpAnswersRow, standIns := [], harness := (true, "d25cc30c811a7032c61471d4774ac533c9dc4aef1cbd0edcdaa7e2a5b763abe9"), looks := false }, kinds := [], alts := [], laidByText := true, laidKinds := [.data, .pinned], laidTests := true, laidLooks := .later }
def DhcpAnswersCardSaid : Prop := Claim7.holds Tryd.pinned (.plain (OpenSpec.ofChange dhcpAnswersSpec)) dhcpAnswersCard

/-- THE TIED CARD OF 'ddilaw36.DhcpEncodes'. -/
def dhcpEncodesCard : Claim7 := { stood := { row := dhcpEncodesRow, standIns := [], harness := (true, "d25cc30c811a7032c61471d4774ac533c9dc4aef1cbd0edcdaa7e2a5b763abe9"), looks := false }, kinds := [], alts := [], laidByText := true, laidKinds := [.data, .pinned], laidTests := true, laidLooks := .later }
def DhcpEncodesCardSaid : Prop := Claim7.holds Tryd.pinned (.plain (OpenSpec.ofChange dhcpEncodesSpec)) dhcpEncodesCard

/-- THE TIED CARD OF 'ddilaw36.DhcpDecodes'. -/
def dhcpDecodesCard : Claim7 := { stood := { row := dhcpDecodesRow, standIns := [], harness := (true, "d25cc30c811a7032c61471d4774ac533c9dc4aef1cbd0edcdaa7e2a5b763abe9"), looks := false }, kinds := [], alts := [], laidByText := true, laidKinds := [.data, .pinned], laidTests := true, laidLooks := .later }
def DhcpDecodesCardSaid : Prop := Claim7.holds Tryd.pinned (.plain (OpenSpec.ofChange dhcpDecodesSpec)) dhcpDecodesCard

/-- THE TIED CARD OF 'ddilaw36.DhcpGrants'. -/
def dhcpGrantsCard : Claim7 := { stood := { row := dhcpGrantsRow, standIns := [], harness := (true, "d25cc30c811a7032c61471d4774ac533c9dc4aef1cbd0edcdaa7e2a5b763abe9"), looks := false }, kinds := [], alts := [], laidByText := true, laidKinds := [.data, .pinned], laidTests := true, laidLooks := .later }
def DhcpGrantsCardSaid : Prop := Claim7.holds Tryd.pinned (.plain (OpenSpec.ofChange dhcpGrantsSpec)) dhcpGrantsCard

/-- THE TIED CARD OF 'ddilaw36.DhcpBack'. -/
def dhcpBackCard : Claim7 := { stood := { row := dhcpBackRow, standIns := [], harness := (true, "d25cc30c811a7032c61471d4774ac533c9dc4aef1cbd0edcdaa7e2a5b763abe9"), looks := false }, kinds := [], alts := [], laidByText := true, laidKinds := [.data, .pinned], laidTests := true, laidLooks := .later }
def DhcpBackCardSaid : Prop := Claim7.holds Tryd.pinned (.plain (OpenSpec.ofChange dhcpBackSpec)) dhcpBackCard

/-- THE TIED CARD OF 'ddilaw36.DhcpLeases'. -/
def dhcpLeasesCard : Claim7 := { stood := { row := dhcpLeasesRow, standIns := [], harness := (true, "d25cc30c811a7032c61471d4774ac533c9dc4aef1cbd0edcdaa7e2a5b763abe9"), looks := false }, kinds := [], alts := [], laidByText := true, laidKinds := [.data, .pinned], laidTests := true, laidLooks := .later }
def DhcpLeasesCardSaid : Prop := Claim7.holds Tryd.pinned (.plain (OpenSpec.ofChange dhcpLeasesSpec)) dhcpLeasesCard

/-- THE SECOND FORM's CARD OF 'ddilaw36.DhcpReplies'. -/
def dhcpRepliesUptoCard : Claim7 := { stood := { row := dhcpRepliesUptoRow, standIns := [], harness := (true, "d25cc30c811a7032c61471d4774ac533c9dc4aef1cbd0edcdaa7e2a5b763abe9"), looks := false }, kinds := [], alts := [], laidByText := true, laidKinds := [.data, .pinned], laidTests := true, laidLooks := .later }
def DhcpRepliesUptoCardSaid : Prop := Claim7.holds Tryd.pinned (.plain (OpenSpec.upto dhcpRepliesSpec)) dhcpRepliesUptoCard

/-- THE SECOND FORM's CARD OF 'ddilaw36.DhcpAnswers'. -/
def dhcpAnswersUptoCard : Claim7 := { stood := { row := dhcpAnswersUptoRow, standIns := [], harness := (true, "d25cc30c811a7032c61471d4774ac533c9dc4aef1cbd0edcdaa7e2a5b763abe9"), looks := false }, kinds := [], alts := [], laidByText := true, laidKinds := [.data, .pinned], laidTests := true, laidLooks := .later }
def DhcpAnswersUptoCardSaid : Prop := Claim7.holds Tryd.pinned (.plain (OpenSpec.upto dhcpAnswersSpec)) dhcpAnswersUptoCard

/-- THE SECOND FORM's CARD OF 'ddilaw36.DhcpEncodes'. -/
def dhcpEncodesUptoCard : Claim7 := { stood := { row := dhcpEncodesUptoRow, standIns := [], harness := (true, "d25cc30c811a7032c61471d4774ac533c9dc4aef1cbd0edcdaa7e2a5b763abe9"), looks := false }, kinds := [], alts := [], laidByText := true, laidKinds := [.data, .pinned], laidTests := true, laidLooks := .later }
def DhcpEncodesUptoCardSaid : Prop := Claim7.holds Tryd.pinned (.plain (OpenSpec.upto dhcpEncodesSpec)) dhcpEncodesUptoCard

/-- THE SECOND FORM's CARD OF 'ddilaw36.DhcpDecodes'. -/
def dhcpDecodesUptoCard : Claim7 := { stood := { row := dhcpDecodesUptoRow, standIns := [], harness := (true, "d25cc30c811a7032c61471d4774ac533c9dc4aef1cbd0edcdaa7e2a5b763abe9"), looks := false }, kinds := [], alts := [], laidByText := true, laidKinds := [.data, .pinned], laidTests := true, laidLooks := .later }
def DhcpDecodesUptoCardSaid : Prop := Claim7.holds Tryd.pinned (.plain (OpenSpec.upto dhcpDecodesSpec)) dhcpDecodesUptoCard

/-- THE SECOND FORM's CARD OF 'ddilaw36.DhcpGrants'. -/
def dhcpGrantsUptoCard : Claim7 := { stood := { row := dhcpGrantsUptoRow, standIns := [], harness := (true, "d25cc30c811a7032c61471d4774ac533c9dc4aef1cbd0edcdaa7e2a5b763abe9"), looks := false }, kinds := [], alts := [], laidByText := true, laidKinds := [.data, .pinned], laidTests := true, laidLooks := .later }
def DhcpGrantsUptoCardSaid : Prop := Claim7.holds Tryd.pinned (.plain (OpenSpec.upto dhcpGrantsSpec)) dhcpGrantsUptoCard

/-- THE SECOND FORM's CARD OF 'ddilaw36.DhcpBack'. -/
def dhcpBackUptoCard : Claim7 := { stood := { row := dhcpBackUptoRow, standIns := [], harness := (true, "d25cc30c811a7032c61471d4774ac533c9dc4aef1cbd0edcdaa7e2a5b763abe9"), looks := false }, kinds := [], alts := [], laidByText := true, laidKinds := [.data, .pinned], laidTests := true, laidLooks := .later }
def DhcpBackUptoCardSaid : Prop := Claim7.holds Tryd.pinned (.plain (OpenSpec.upto dhcpBackSpec)) dhcpBackUptoCard

/-- THE SECOND FORM's CARD OF 'ddilaw36.DhcpLeases'. -/
def dhcpLeasesUptoCard : Claim7 := { stood := { row := dhcpLeasesUptoRow, standIns := [], harness := (true, "d25cc30c811a7032c61471d4774ac533c9dc4aef1cbd0edcdaa7e2a5b763abe9"), looks := false }, kinds := [], alts := [], laidByText := true, laidKinds := [.data, .pinned], laidTests := true, laidLooks := .later }
def DhcpLeasesUptoCardSaid : Prop := Claim7.holds Tryd.pinned (.plain (OpenSpec.upto dhcpLeasesSpec)) dhcpLeasesUptoCard
end Rows
end Go.Proofs.YtcoekgnbncocnaaDoor
