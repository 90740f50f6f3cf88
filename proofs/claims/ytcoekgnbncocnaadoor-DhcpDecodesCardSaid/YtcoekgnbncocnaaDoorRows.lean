/-
  NARROWER THAN 'FOR EVERY INPUT', by the rows' own cells (each row's printed sentence says how): DhcpReplies: laid · DhcpAnswers: laid · DhcpEncodes: laid · DhcpDecodes: laid · DhcpGrants: laid · DhcpBack: laid · DhcpLeases: laid.
  DERIVED. THE GIVEN ROWS OF THIS SEAT. 7 by the template 'for every input the law returns true; each argument reads behind the call as it read before'; 0 by the template 'total and deterministic' (their statements: YtcoekgnbncocnaaDoorTotals.lean).
  GIVEN WITH THE SEED: the statements are not yours to turn. If you find one false, say at which input.
  Laid BY PROGRAM, IN A SANDBOX (cutbox-rows.mjs): the forced cells as the released guide's own fill.sh prints them over the translation 36979d5bbf6c864c… (all of the seat's roots in one cut). By AI agents, Wed Nov 11 2026. No macro, syntax, notation, axiom, sorry.
-/
import Derived.Test.YtcoekgnbncocnaaDoorChecked
import GoSem.PinnedTables
import GoSem.Claim
import GoSem.ClaimJoined
import GoSem.ClaimMapViews
import Derived.JoinedTies
import Derived.KernelRfl
namespace Go.Proofs.YtcoekgnbncocnaaDoor
/- THE CELL 'sum', in the pinned program and in every row, IS THE sha256 OF THE DUMP (.gsa) THAT YtcoekgnbncocnaaDoorProg.lean LOADS. Nothing in Lean hashes anything: it is a label: what it is worth is what the hold of that sum in a sandbox is worth. -/
noncomputable def Tryd.pinned : Pinned := { name := "ytcoekgnbncocnaadoor", sum := "36979d5bbf6c864cbad617fc40ab6d7aed44cce000dc5809a7b21ec4dec212fc", checked := Tryd.checked }
namespace Rows
def none {H : Type} : Left H := { results := [], args := [] }

/- WHAT THE LISTED PACKAGE-LEVEL VARIABLES READ AS WHEN THE CALL BEGINS. Each datum BY PROGRAM (the guide's laid-datum.mjs) off the statement by which the dump's own 'gosem.cut.vars' lays the variable. In a bare row this is a premise. The card (YtcoekgnbncocnaaDoorCards.lean) ties it to the program's text. -/
def laid_unicode_utf8_acceptRanges {H : Type} : DataW H := .agg [.agg [.lit (.int .u8 128), .lit (.int .u8 191)], .agg [.lit (.int .u8 160), .lit (.int .u8 191)], .agg [.lit (.int .u8 128), .lit (.int .u8 159)], .agg [.lit (.int .u8 144), .lit (.int .u8 191)], .agg [.lit (.int .u8 128), .lit (.int .u8 143)], .agg [.lit (.int .u8 0), .lit (.int .u8 0)], .agg [.lit (.int .u8 0), .lit (.int .u8 0)], .agg [.lit (.int .u8 0), .lit (.int .u8 0)], .agg [.lit (.int .u8 0), .lit (.int .u8 0)], .agg [.lit (.int .u8 0), .lit (.int .u8 0)], .agg [.lit (.int .u8 0), .lit (.int .u8 0)], .agg [.lit (.int .u8 0), .lit (.int .u8 0)], .agg [.lit (.int .u8 0), .lit (.int .u8 0)], .agg [.lit (.int .u8 0), .lit (.int .u8 0)], .agg [.lit (.int .u8 0), .lit (.int .u8 0)], .agg [.lit (.int .u8 0), .lit (.int .u8 0)]]
/-- One of Go's own tables, pinned by name: the form's constant. -/
def laid_unicode_utf8_first : DataW Unit := Go.Pinned.utf8First

/-- 'ddilaw36.DhcpReplies': WHATEVER THE INPUT: true; the input reads as it did. -/
def dhcpRepliesSpec : ChangeSpec := { name := "dhcpReplies", fn := fun _ => fun
  | [d1, d2, d3] => { results := [.lit (.bool true)], args := [d1, d2, d3] }
  | _ => none }
def dhcpRepliesRow : OpenClaim := { program := "ytcoekgnbncocnaadoor", sum := "36979d5bbf6c864cbad617fc40ab6d7aed44cce000dc5809a7b21ec4dec212fc", func := "ddi/ddilaw36.DhcpReplies", spec := "dhcpReplies", inPlace := ["internal/abi.NoEscape", "internal/bytealg.IndexByteString", "internal/bytealg.IndexString"], named := ["unicode/utf8.first", "unicode/utf8.acceptRanges", "internal/bytealg.MaxLen"], apart := false, laid := [("unicode/utf8.acceptRanges", laid_unicode_utf8_acceptRanges), ("unicode/utf8.first", laid_unicode_utf8_first)] }
def DhcpRepliesSaid : Prop := dhcpRepliesRow.holds Tryd.pinned (OpenSpec.ofChange dhcpRepliesSpec)

/-- ITS FALSE NEIGHBOUR: 'it returns false'. Refute it at one input. -/
def dhcpRepliesWrong : ChangeSpec := { name := "dhcpReplies", fn := fun _ => fun
  | [d1, d2, d3] => { results := [.lit (.bool false)], args := [d1, d2, d3] }
  | _ => none }
def DhcpRepliesWrongFalsely : Prop := dhcpRepliesRow.holds Tryd.pinned (OpenSpec.ofChange dhcpRepliesWrong)

/-- 'ddilaw36.DhcpAnswers': WHATEVER THE INPUT: true; the input reads as it did. -/
def dhcpAnswersSpec : ChangeSpec := { name := "dhcpAnswers", fn := fun _ => fun
  | [d1, d2, d3] => { results := [.lit (.bool true)], args := [d1, d2, d3] }
  | _ => none }
def dhcpAnswersRow : OpenClaim := { program := "ytcoekgnbncocnaadoor", sum := "36979d5bbf6c864cbad617fc40ab6d7aed44cce000dc5809a7b21ec4dec212fc", func := "ddi/ddilaw36.DhcpAnswers", spec := "dhcpAnswers", inPlace := ["internal/abi.NoEscape", "internal/bytealg.IndexByteString", "internal/bytealg.IndexString"], named := ["unicode/utf8.first", "unicode/utf8.acceptRanges", "internal/bytealg.MaxLen"], apart := false, laid := [("unicode/utf8.acceptRanges", laid_unicode_utf8_acceptRanges), ("unicode/utf8.first", laid_unicode_utf8_first)] }
def DhcpAnswersSaid : Prop := dhcpAnswersRow.holds Tryd.pinned (OpenSpec.ofChange dhcpAnswersSpec)

/-- ITS FALSE NEIGHBOUR: 'it returns false'. Refute it at one input. -/
def dhcpAnswersWrong : ChangeSpec := { name := "dhcpAnswers", fn := fun _ => fun
  | [d1, d2, d3] => { results := [.lit (.bool false)], args := [d1, d2, d3] }
  | _ => none }
def DhcpAnswersWrongFalsely : Prop := dhcpAnswersRow.holds Tryd.pinned (OpenSpec.ofChange dhcpAnswersWrong)

/-- 'ddilaw36.DhcpEncodes': WHATEVER THE INPUT: true; the input reads as it did. -/
def dhcpEncodesSpec : ChangeSpec := { name := "dhcpEncodes", fn := fun _ => fun
  | [d] => { results := [.lit (.bool true)], args := [d] }
  | _ => none }
def dhcpEncodesRow : OpenClaim := { program := "ytcoekgnbncocnaadoor", sum := "36979d5bbf6c864cbad617fc40ab6d7aed44cce000dc5809a7b21ec4dec212fc", func := "ddi/ddilaw36.DhcpEncodes", spec := "dhcpEncodes", inPlace := ["internal/abi.NoEscape", "internal/bytealg.IndexByteString", "internal/bytealg.IndexString"], named := ["unicode/utf8.first", "unicode/utf8.acceptRanges", "internal/bytealg.MaxLen"], apart := false, laid := [("unicode/utf8.acceptRanges", laid_unicode_utf8_acceptRanges), ("unicode/utf8.first", laid_unicode_utf8_first)] }
def DhcpEncodesSaid : Prop := dhcpEncodesRow.holds Tryd.pinned (OpenSpec.ofChange dhcpEncodesSpec)

/-- ITS FALSE NEIGHBOUR: 'it returns false'. Refute it at one input. -/
def dhcpEncodesWrong : ChangeSpec := { name := "dhcpEncodes", fn := fun _ => fun
  | [d] => { results := [.lit (.bool false)], args := [d] }
  | _ => none }
def DhcpEncodesWrongFalsely : Prop := dhcpEncodesRow.holds Tryd.pinned (OpenSpec.ofChange dhcpEncodesWrong)

/-- 'ddilaw36.DhcpDecodes': WHATEVER THE INPUT: true; the input reads as it did. -/
def dhcpDecodesSpec : ChangeSpec := { name := "dhcpDecodes", fn := fun _ => fun
  | [d] => { results := [.lit (.bool true)], args := [d] }
  | _ => none }
def dhcpDecodesRow : OpenClaim := { program := "ytcoekgnbncocnaadoor", sum := "36979d5bbf6c864cbad617fc40ab6d7aed44cce000dc5809a7b21ec4dec212fc", func := "ddi/ddilaw36.DhcpDecodes", spec := "dhcpDecodes", inPlace := ["internal/bytealg.IndexByteString", "internal/bytealg.IndexString", "internal/abi.NoEscape"], named := ["unicode/utf8.first", "unicode/utf8.acceptRanges", "internal/bytealg.MaxLen"], apart := false, laid := [("unicode/utf8.acceptRanges", laid_unicode_utf8_acceptRanges), ("unicode/utf8.first", laid_unicode_utf8_first)] }
def DhcpDecodesSaid : Prop := dhcpDecodesRow.holds Tryd.pinned (OpenSpec.ofChange dhcpDecodesSpec)

/-- ITS FALSE NEIGHBOUR: 'it returns false'. Refute it at one input. -/
def dhcpDecodesWrong : ChangeSpec := { name := "dhcpDecodes", fn := fun _ => fun
  | [d] => { results := [.lit (.bool false)], args := [d] }
  | _ => none }
def DhcpDecodesWrongFalsely : Prop := dhcpDecodesRow.holds Tryd.pinned (OpenSpec.ofChange dhcpDecodesWrong)

/-- 'ddilaw36.DhcpGrants': WHATEVER THE INPUT: true; the input reads as it did. -/
def dhcpGrantsSpec : ChangeSpec := { name := "dhcpGrants", fn := fun _ => fun
  | [d1, d2, d3] => { results := [.lit (.bool true)], args := [d1, d2, d3] }
  | _ => none }
def dhcpGrantsRow : OpenClaim := { program := "ytcoekgnbncocnaadoor", sum := "36979d5bbf6c864cbad617fc40ab6d7aed44cce000dc5809a7b21ec4dec212fc", func := "ddi/ddilaw36.DhcpGrants", spec := "dhcpGrants", inPlace := ["internal/abi.NoEscape", "internal/bytealg.IndexByteString", "internal/bytealg.IndexString"], named := ["unicode/utf8.first", "unicode/utf8.acceptRanges", "internal/bytealg.MaxLen"], apart := false, laid := [("unicode/utf8.acceptRanges", laid_unicode_utf8_acceptRanges), ("unicode/utf8.first", laid_unicode_utf8_first)] }
def DhcpGrantsSaid : Prop := dhcpGrantsRow.holds Tryd.pinned (OpenSpec.ofChange dhcpGrantsSpec)

/-- ITS FALSE NEIGHBOUR: 'it returns false'. Refute it at one input. -/
def dhcpGrantsWrong : ChangeSpec := { name := "dhcpGrants", fn := fun _ => fun
  | [d1, d2, d3] => { results := [.lit (.bool false)], args := [d1, d2, d3] }
  | _ => none }
def DhcpGrantsWrongFalsely : Prop := dhcpGrantsRow.holds Tryd.pinned (OpenSpec.ofChange dhcpGrantsWrong)

/-- 'ddilaw36.DhcpBack': WHATEVER THE INPUT: true; the input reads as it did. -/
def dhcpBackSpec : ChangeSpec := { name := "dhcpBack", fn := fun _ => fun
  | [d1, d2, d3] => { results := [.lit (.bool true)], args := [d1, d2, d3] }
  | _ => none }
def dhcpBackRow : OpenClaim := { program := "ytcoekgnbncocnaadoor", sum := "36979d5bbf6c864cbad617fc40ab6d7aed44cce000dc5809a7b21ec4dec212fc", func := "ddi/ddilaw36.DhcpBack", spec := "dhcpBack", inPlace := ["internal/abi.NoEscape", "internal/bytealg.IndexByteString", "internal/bytealg.IndexString"], named := ["unicode/utf8.first", "unicode/utf8.acceptRanges", "internal/bytealg.MaxLen"], apart := false, laid := [("unicode/utf8.acceptRanges", laid_unicode_utf8_acceptRanges), ("unicode/utf8.first", laid_unicode_utf8_first)] }
def DhcpBackSaid : Prop := dhcpBackRow.holds Tryd.pinned (OpenSpec.ofChange dhcpBackSpec)

/-- ITS FALSE NEIGHBOUR: 'it returns false'. Refute it at one input. -/
def dhcpBackWrong : ChangeSpec := { name := "dhcpBack", fn := fun _ => fun
  | [d1, d2, d3] => { results := [.lit (.bool false)], args := [d1, d2, d3] }
  | _ => none }
def DhcpBackWrongFalsely : Prop := dhcpBackRow.holds Tryd.pinned (OpenSpec.ofChange dhcpBackWrong)

/-- 'ddilaw36.DhcpLeases': WHATEVER THE INPUT: true; the input reads as it did. -/
def dhcpLeasesSpec : ChangeSpec := { name := "dhcpLeases", fn := fun _ => fun
  | [d1, d2, d3] => { results := [.lit (.bool true)], args := [d1, d2, d3] }
  | _ => none }
def dhcpLeasesRow : OpenClaim := { program := "ytcoekgnbncocnaadoor", sum := "36979d5bbf6c864cbad617fc40ab6d7aed44cce000dc5809a7b21ec4dec212fc", func := "ddi/ddilaw36.DhcpLeases", spec := "dhcpLeases", inPlace := ["internal/abi.NoEscape", "internal/bytealg.IndexByteString", "internal/bytealg.IndexString"], named := ["unicode/utf8.first", "unicode/utf8.acceptRanges", "internal/bytealg.MaxLen"], apart := false, laid := [("unicode/utf8.acceptRanges", laid_unicode_utf8_acceptRanges), ("unicode/utf8.first", laid_unicode_utf8_first)] }
def DhcpLeasesSaid : Prop := dhcpLeasesRow.holds Tryd.pinned (OpenSpec.ofChange dhcpLeasesSpec)

/-- ITS FALSE NEIGHBOUR: 'it returns false'. Refute it at one input. -/
def dhcpLeasesWrong : ChangeSpec := { name := "dhcpLeases", fn := fun _ => fun
  | [d1, d2, d3] => { results := [.lit (.bool false)], args := [d1, d2, d3] }
  | _ => none }
def DhcpLeasesWrongFalsely : Prop := dhcpLeasesRow.holds Tryd.pinned (OpenSpec.ofChange dhcpLeasesWrong)

/- THE SECOND FORM. 'bulk': how many values and letters a reading holds, each counted each time it is reached (what is shared counts as often as it is met; a slice's spare places count too). A statement '..UptoSaid' is the law's where the arguments, and the package variables that the reading takes, are together of bulk at most 1048576: NARROWER than '..Said'. Prove '..Said' where nothing that the law and all that it calls make is longer than what came in: it says more and counts as full. Else prove '..UptoSaid'. A law counts once. -/
mutual
def uptoBulk {H : Type} : DataW H → Nat
  | .lit (.string bytes) => bytes.length + 1
  | .lit _ => 1
  | .nil => 1
  | .ptr d => uptoBulk d + 1
  | .slice elems spare => uptoBulkAll elems + uptoBulkAll spare + 1
  | .agg parts => uptoBulkAll parts + 1
  | .iface _ d => uptoBulk d + 1
  | .map entries => uptoBulkEntries entries + 1
  | .held _ => 1
def uptoBulkAll {H : Type} : List (DataW H) → Nat
  | [] => 0
  | d :: r => uptoBulk d + uptoBulkAll r
def uptoBulkEntries {H : Type} : List (Lit × DataW H) → Nat
  | [] => 0
  | x :: r => uptoBulkEntry x + uptoBulkEntries r
def uptoBulkEntry {H : Type} : Lit × DataW H → Nat
  | (.string bytes, d) => bytes.length + uptoBulk d + 1
  | (_, d) => uptoBulk d + 1
 end
def uptoSmall : (H : Type) → List (DataW H) → Bool := fun _ ds => decide (uptoBulkAll ds ≤ 1048576)
def OpenSpec.upto (s : _root_.Go.ChangeSpec) : _root_.Go.OpenSpec := { _root_.Go.OpenSpec.ofChange s with cond := some uptoSmall }

/-- 'ddilaw36.DhcpReplies', WHERE WHAT IT READS IS OF BULK AT MOST 1048576: true; the input reads as it did. -/
def dhcpRepliesUptoRow : OpenClaim := { program := "ytcoekgnbncocnaadoor", sum := "36979d5bbf6c864cbad617fc40ab6d7aed44cce000dc5809a7b21ec4dec212fc", func := "ddi/ddilaw36.DhcpReplies", spec := "dhcpReplies", inPlace := ["internal/abi.NoEscape", "internal/bytealg.IndexByteString", "internal/bytealg.IndexString"], named := ["unicode/utf8.first", "unicode/utf8.acceptRanges", "internal/bytealg.MaxLen"], apart := false, laid := [("unicode/utf8.acceptRanges", laid_unicode_utf8_acceptRanges), ("unicode/utf8.first", laid_unicode_utf8_first)], narrowed := true }
def DhcpRepliesUptoSaid : Prop := dhcpRepliesUptoRow.holds Tryd.pinned (OpenSpec.upto dhcpRepliesSpec)

/-- 'ddilaw36.DhcpAnswers', WHERE WHAT IT READS IS OF BULK AT MOST 1048576: true; the input reads as it did. -/
def dhcpAnswersUptoRow : OpenClaim := { program := "ytcoekgnbncocnaadoor", sum := "36979d5bbf6c864cbad617fc40ab6d7aed44cce000dc5809a7b21ec4dec212fc", func := "ddi/ddilaw36.DhcpAnswers", spec := "dhcpAnswers", inPlace := ["internal/abi.NoEscape", "internal/bytealg.IndexByteString", "internal/bytealg.IndexString"], named := ["unicode/utf8.first", "unicode/utf8.acceptRanges", "internal/bytealg.MaxLen"], apart := false, laid := [("unicode/utf8.acceptRanges", laid_unicode_utf8_acceptRanges), ("unicode/utf8.first", laid_unicode_utf8_first)], narrowed := true }
def DhcpAnswersUptoSaid : Prop := dhcpAnswersUptoRow.holds Tryd.pinned (OpenSpec.upto dhcpAnswersSpec)

/-- 'ddilaw36.DhcpEncodes', WHERE WHAT IT READS IS OF BULK AT MOST 1048576: true; the input reads as it did. -/
def dhcpEncodesUptoRow : OpenClaim := { program := "ytcoekgnbncocnaadoor", sum := "36979d5bbf6c864cbad617fc40ab6d7aed44cce000dc5809a7b21ec4dec212fc", func := "ddi/ddilaw36.DhcpEncodes", spec := "dhcpEncodes", inPlace := ["internal/abi.NoEscape", "internal/bytealg.IndexByteString", "internal/bytealg.IndexString"], named := ["unicode/utf8.first", "unicode/utf8.acceptRanges", "internal/bytealg.MaxLen"], apart := false, laid := [("unicode/utf8.acceptRanges", laid_unicode_utf8_acceptRanges), ("unicode/utf8.first", laid_unicode_utf8_first)], narrowed := true }
def DhcpEncodesUptoSaid : Prop := dhcpEncodesUptoRow.holds Tryd.pinned (OpenSpec.upto dhcpEncodesSpec)

/-- 'ddilaw36.DhcpDecodes', WHERE WHAT IT READS IS OF BULK AT MOST 1048576: true; the input reads as it did. -/
def dhcpDecodesUptoRow : OpenClaim := { program := "ytcoekgnbncocnaadoor", sum := "36979d5bbf6c864cbad617fc40ab6d7aed44cce000dc5809a7b21ec4dec212fc", func := "ddi/ddilaw36.DhcpDecodes", spec := "dhcpDecodes", inPlace := ["internal/bytealg.IndexByteString", "internal/bytealg.IndexString", "internal/abi.NoEscape"], named := ["unicode/utf8.first", "unicode/utf8.acceptRanges", "internal/bytealg.MaxLen"], apart := false, laid := [("unicode/utf8.acceptRanges", laid_unicode_utf8_acceptRanges), ("unicode/utf8.first", laid_unicode_utf8_first)], narrowed := true }
def DhcpDecodesUptoSaid : Prop := dhcpDecodesUptoRow.holds Tryd.pinned (OpenSpec.upto dhcpDecodesSpec)

/-- 'ddilaw36.DhcpGrants', WHERE WHAT IT READS IS OF BULK AT MOST 1048576: true; the input reads as it did. -/
def dhcpGrantsUptoRow : OpenClaim := { program := "ytcoekgnbncocnaadoor", sum := "36979d5bbf6c864cbad617fc40ab6d7aed44cce000dc5809a7b21ec4dec212fc", func := "ddi/ddilaw36.DhcpGrants", spec := "dhcpGrants", inPlace := ["internal/abi.NoEscape", "internal/bytealg.IndexByteString", "internal/bytealg.IndexString"], named := ["unicode/utf8.first", "unicode/utf8.acceptRanges", "internal/bytealg.MaxLen"], apart := false, laid := [("unicode/utf8.acceptRanges", laid_unicode_utf8_acceptRanges), ("unicode/utf8.first", laid_unicode_utf8_first)], narrowed := true }
def DhcpGrantsUptoSaid : Prop := dhcpGrantsUptoRow.holds Tryd.pinned (OpenSpec.upto dhcpGrantsSpec)

/-- 'ddilaw36.DhcpBack', WHERE WHAT IT READS IS OF BULK AT MOST 1048576: true; the input reads as it did. -/
def dhcpBackUptoRow : OpenClaim := { program := "ytcoekgnbncocnaadoor", sum := "36979d5bbf6c864cbad617fc40ab6d7aed44cce000dc5809a7b21ec4dec212fc", func := "ddi/ddilaw36.DhcpBack", spec := "dhcpBack", inPlace := ["internal/abi.NoEscape", "internal/bytealg.IndexByteString", "internal/bytealg.IndexString"], named := ["unicode/utf8.first", "unicode/utf8.acceptRanges", "internal/bytealg.MaxLen"], apart := false, laid := [("unicode/utf8.acceptRanges", laid_unicode_utf8_acceptRanges), ("unicode/utf8.first", laid_unicode_utf8_first)], narrowed := true }
def DhcpBackUptoSaid : Prop := dhcpBackUptoRow.holds Tryd.pinned (OpenSpec.upto dhcpBackSpec)

/-- 'ddilaw36.DhcpLeases', WHERE WHAT IT READS IS OF BULK AT MOST 1048576: true; the input reads as it did. -/
def dhcpLeasesUptoRow : OpenClaim := { program := "ytcoekgnbncocnaadoor", sum := "36979d5bbf6c864cbad617fc40ab6d7aed44cce000dc5809a7b21ec4dec212fc", func := "ddi/ddilaw36.DhcpLeases", spec := "dhcpLeases", inPlace := ["internal/abi.NoEscape", "internal/bytealg.IndexByteString", "internal/bytealg.IndexString"], named := ["unicode/utf8.first", "unicode/utf8.acceptRanges", "internal/bytealg.MaxLen"], apart := false, laid := [("unicode/utf8.acceptRanges", laid_unicode_utf8_acceptRanges), ("unicode/utf8.first", laid_unicode_utf8_first)], narrowed := true }
def DhcpLeasesUptoSaid : Prop := dhcpLeasesUptoRow.holds Tryd.pinned (OpenSpec.upto dhcpLeasesSpec)

end Rows
end Go.Proofs.YtcoekgnbncocnaaDoor
