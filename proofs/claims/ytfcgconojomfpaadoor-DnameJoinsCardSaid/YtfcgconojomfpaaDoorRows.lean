/-
  NARROWER THAN 'FOR EVERY INPUT', by the rows' own cells (each row's printed sentence says how): DnameParses: laid · DnameSplits: laid · DnamePairs: laid · DnameReplaces: laid · DnameOrders: laid · DnameAncestors: laid · DnameReplacesBack: laid · DnameJoins: laid · DnameRoundTrips: laid.
  DERIVED. THE GIVEN ROWS OF THIS SEAT. 9 by the template 'for every input the law returns true; each argument reads behind the call as it read before'; 0 by the template 'total and deterministic' (their statements: YtfcgconojomfpaaDoorTotals.lean).
  GIVEN WITH THE SEED: the statements are not yours to turn. If you find one false, say at which input.
  Laid BY PROGRAM, IN A SANDBOX (cutbox-rows.mjs): the forced cells as the released guide's own fill.sh prints them over the translation 79dc1ce62555980e… (all of the seat's roots in one cut). By AI agents, Wed Nov 11 2026. No macro, syntax, notation, axiom, sorry.
-/
import Derived.Test.YtfcgconojomfpaaDoorChecked
import GoSem.PinnedTables
import GoSem.Claim
import GoSem.ClaimJoined
import GoSem.ClaimMapViews
import Derived.JoinedTies
import Derived.KernelRfl
namespace Go.Proofs.YtfcgconojomfpaaDoor
/- THE CELL 'sum', in the pinned program and in every row, IS THE sha256 OF THE DUMP (.gsa) THAT YtfcgconojomfpaaDoorProg.lean LOADS. Nothing in Lean hashes anything: it is a label: what it is worth is what the hold of that sum in a sandbox is worth. -/
noncomputable def Tryd.pinned : Pinned := { name := "ytfcgconojomfpaadoor", sum := "79dc1ce62555980e85d6f74ef8894a7c516a16780926345f27abd8f76603e438", checked := Tryd.checked }
namespace Rows
def none {H : Type} : Left H := { results := [], args := [] }

/- WHAT THE LISTED PACKAGE-LEVEL VARIABLES READ AS WHEN THE CALL BEGINS. Each datum BY PROGRAM (the guide's laid-datum.mjs) off the statement by which the dump's own 'gosem.cut.vars' lays the variable. In a bare row this is a premise. The card (YtfcgconojomfpaaDoorCards.lean) ties it to the program's text. -/
def laid_unicode_utf8_acceptRanges {H : Type} : DataW H := .agg [.agg [.lit (.int .u8 128), .lit (.int .u8 191)], .agg [.lit (.int .u8 160), .lit (.int .u8 191)], .agg [.lit (.int .u8 128), .lit (.int .u8 159)], .agg [.lit (.int .u8 144), .lit (.int .u8 191)], .agg [.lit (.int .u8 128), .lit (.int .u8 143)], .agg [.lit (.int .u8 0), .lit (.int .u8 0)], .agg [.lit (.int .u8 0), .lit (.int .u8 0)], .agg [.lit (.int .u8 0), .lit (.int .u8 0)], .agg [.lit (.int .u8 0), .lit (.int .u8 0)], .agg [.lit (.int .u8 0), .lit (.int .u8 0)], .agg [.lit (.int .u8 0), .lit (.int .u8 0)], .agg [.lit (.int .u8 0), .lit (.int .u8 0)], .agg [.lit (.int .u8 0), .lit (.int .u8 0)], .agg [.lit (.int .u8 0), .lit (.int .u8 0)], .agg [.lit (.int .u8 0), .lit (.int .u8 0)], .agg [.lit (.int .u8 0), .lit (.int .u8 0)]]
/-- One of Go's own tables, pinned by name: the form's constant. -/
def laid_unicode_utf8_first : DataW Unit := Go.Pinned.utf8First

/-- 'ddilaw01.DnameParses': WHATEVER THE INPUT: true; the input reads as it did. -/
def dnameParsesSpec : ChangeSpec := { name := "dnameParses", fn := fun _ => fun
  | [d1, d2] => { results := [.lit (.bool true)], args := [d1, d2] }
  | _ => none }
def dnameParsesRow : OpenClaim := { program := "ytfcgconojomfpaadoor", sum := "79dc1ce62555980e85d6f74ef8894a7c516a16780926345f27abd8f76603e438", func := "ddi/ddilaw01.DnameParses", spec := "dnameParses", inPlace := ["internal/bytealg.CountString", "internal/bytealg.IndexByteString", "internal/bytealg.IndexString", "internal/bytealg.abigen_runtime_cmpstring"], named := ["unicode/utf8.first", "unicode/utf8.acceptRanges", "internal/bytealg.MaxLen"], apart := false, laid := [("unicode/utf8.acceptRanges", laid_unicode_utf8_acceptRanges), ("unicode/utf8.first", laid_unicode_utf8_first)] }
def DnameParsesSaid : Prop := dnameParsesRow.holds Tryd.pinned (OpenSpec.ofChange dnameParsesSpec)

/-- ITS FALSE NEIGHBOUR: 'it returns false'. Refute it at one input. -/
def dnameParsesWrong : ChangeSpec := { name := "dnameParses", fn := fun _ => fun
  | [d1, d2] => { results := [.lit (.bool false)], args := [d1, d2] }
  | _ => none }
def DnameParsesWrongFalsely : Prop := dnameParsesRow.holds Tryd.pinned (OpenSpec.ofChange dnameParsesWrong)

/-- 'ddilaw01.DnameSplits': WHATEVER THE INPUT: true; the input reads as it did. -/
def dnameSplitsSpec : ChangeSpec := { name := "dnameSplits", fn := fun _ => fun
  | [d] => { results := [.lit (.bool true)], args := [d] }
  | _ => none }
def dnameSplitsRow : OpenClaim := { program := "ytfcgconojomfpaadoor", sum := "79dc1ce62555980e85d6f74ef8894a7c516a16780926345f27abd8f76603e438", func := "ddi/ddilaw01.DnameSplits", spec := "dnameSplits", inPlace := ["internal/bytealg.CountString", "internal/bytealg.IndexByteString", "internal/bytealg.IndexString", "internal/bytealg.abigen_runtime_cmpstring"], named := ["unicode/utf8.first", "unicode/utf8.acceptRanges", "internal/bytealg.MaxLen"], apart := false, laid := [("unicode/utf8.acceptRanges", laid_unicode_utf8_acceptRanges), ("unicode/utf8.first", laid_unicode_utf8_first)] }
def DnameSplitsSaid : Prop := dnameSplitsRow.holds Tryd.pinned (OpenSpec.ofChange dnameSplitsSpec)

/-- ITS FALSE NEIGHBOUR: 'it returns false'. Refute it at one input. -/
def dnameSplitsWrong : ChangeSpec := { name := "dnameSplits", fn := fun _ => fun
  | [d] => { results := [.lit (.bool false)], args := [d] }
  | _ => none }
def DnameSplitsWrongFalsely : Prop := dnameSplitsRow.holds Tryd.pinned (OpenSpec.ofChange dnameSplitsWrong)

/-- 'ddilaw01.DnamePairs': WHATEVER THE INPUT: true; the input reads as it did. -/
def dnamePairsSpec : ChangeSpec := { name := "dnamePairs", fn := fun _ => fun
  | [d1, d2] => { results := [.lit (.bool true)], args := [d1, d2] }
  | _ => none }
def dnamePairsRow : OpenClaim := { program := "ytfcgconojomfpaadoor", sum := "79dc1ce62555980e85d6f74ef8894a7c516a16780926345f27abd8f76603e438", func := "ddi/ddilaw01.DnamePairs", spec := "dnamePairs", inPlace := ["internal/bytealg.CountString", "internal/bytealg.IndexByteString", "internal/bytealg.IndexString", "internal/bytealg.abigen_runtime_cmpstring"], named := ["unicode/utf8.first", "unicode/utf8.acceptRanges", "internal/bytealg.MaxLen"], apart := false, laid := [("unicode/utf8.acceptRanges", laid_unicode_utf8_acceptRanges), ("unicode/utf8.first", laid_unicode_utf8_first)] }
def DnamePairsSaid : Prop := dnamePairsRow.holds Tryd.pinned (OpenSpec.ofChange dnamePairsSpec)

/-- ITS FALSE NEIGHBOUR: 'it returns false'. Refute it at one input. -/
def dnamePairsWrong : ChangeSpec := { name := "dnamePairs", fn := fun _ => fun
  | [d1, d2] => { results := [.lit (.bool false)], args := [d1, d2] }
  | _ => none }
def DnamePairsWrongFalsely : Prop := dnamePairsRow.holds Tryd.pinned (OpenSpec.ofChange dnamePairsWrong)

/-- 'ddilaw01.DnameReplaces': WHATEVER THE INPUT: true; the input reads as it did. -/
def dnameReplacesSpec : ChangeSpec := { name := "dnameReplaces", fn := fun _ => fun
  | [d1, d2, d3] => { results := [.lit (.bool true)], args := [d1, d2, d3] }
  | _ => none }
def dnameReplacesRow : OpenClaim := { program := "ytfcgconojomfpaadoor", sum := "79dc1ce62555980e85d6f74ef8894a7c516a16780926345f27abd8f76603e438", func := "ddi/ddilaw01.DnameReplaces", spec := "dnameReplaces", inPlace := ["internal/bytealg.CountString", "internal/bytealg.IndexByteString", "internal/bytealg.IndexString", "internal/bytealg.abigen_runtime_cmpstring"], named := ["unicode/utf8.first", "unicode/utf8.acceptRanges", "internal/bytealg.MaxLen"], apart := false, laid := [("unicode/utf8.acceptRanges", laid_unicode_utf8_acceptRanges), ("unicode/utf8.first", laid_unicode_utf8_first)] }
def DnameReplacesSaid : Prop := dnameReplacesRow.holds Tryd.pinned (OpenSpec.ofChange dnameReplacesSpec)

/-- ITS FALSE NEIGHBOUR: 'it returns false'. Refute it at one input. -/
def dnameReplacesWrong : ChangeSpec := { name := "dnameReplaces", fn := fun _ => fun
  | [d1, d2, d3] => { results := [.lit (.bool false)], args := [d1, d2, d3] }
  | _ => none }
def DnameReplacesWrongFalsely : Prop := dnameReplacesRow.holds Tryd.pinned (OpenSpec.ofChange dnameReplacesWrong)

/-- 'ddilaw01.DnameOrders': WHATEVER THE INPUT: true; the input reads as it did. -/
def dnameOrdersSpec : ChangeSpec := { name := "dnameOrders", fn := fun _ => fun
  | [d] => { results := [.lit (.bool true)], args := [d] }
  | _ => none }
def dnameOrdersRow : OpenClaim := { program := "ytfcgconojomfpaadoor", sum := "79dc1ce62555980e85d6f74ef8894a7c516a16780926345f27abd8f76603e438", func := "ddi/ddilaw01.DnameOrders", spec := "dnameOrders", inPlace := ["internal/bytealg.CountString", "internal/bytealg.IndexByteString", "internal/bytealg.IndexString", "internal/bytealg.abigen_runtime_cmpstring"], named := ["unicode/utf8.first", "unicode/utf8.acceptRanges", "internal/bytealg.MaxLen"], apart := false, laid := [("unicode/utf8.acceptRanges", laid_unicode_utf8_acceptRanges), ("unicode/utf8.first", laid_unicode_utf8_first)] }
def DnameOrdersSaid : Prop := dnameOrdersRow.holds Tryd.pinned (OpenSpec.ofChange dnameOrdersSpec)

/-- ITS FALSE NEIGHBOUR: 'it returns false'. Refute it at one input. -/
def dnameOrdersWrong : ChangeSpec := { name := "dnameOrders", fn := fun _ => fun
  | [d] => { results := [.lit (.bool false)], args := [d] }
  | _ => none }
def DnameOrdersWrongFalsely : Prop := dnameOrdersRow.holds Tryd.pinned (OpenSpec.ofChange dnameOrdersWrong)

/-- 'ddilaw01.DnameAncestors': WHATEVER THE INPUT: true; the input reads as it did. -/
def dnameAncestorsSpec : ChangeSpec := { name := "dnameAncestors", fn := fun _ => fun
  | [d1, d2] => { results := [.lit (.bool true)], args := [d1, d2] }
  | _ => none }
def dnameAncestorsRow : OpenClaim := { program := "ytfcgconojomfpaadoor", sum := "79dc1ce62555980e85d6f74ef8894a7c516a16780926345f27abd8f76603e438", func := "ddi/ddilaw01.DnameAncestors", spec := "dnameAncestors", inPlace := ["internal/bytealg.CountString", "internal/bytealg.IndexByteString", "internal/bytealg.IndexString", "internal/bytealg.abigen_runtime_cmpstring"], named := ["unicode/utf8.first", "unicode/utf8.acceptRanges", "internal/bytealg.MaxLen"], apart := false, laid := [("unicode/utf8.acceptRanges", laid_unicode_utf8_acceptRanges), ("unicode/utf8.first", laid_unicode_utf8_first)] }
def DnameAncestorsSaid : Prop := dnameAncestorsRow.holds Tryd.pinned (OpenSpec.ofChange dnameAncestorsSpec)

/-- ITS FALSE NEIGHBOUR: 'it returns false'. Refute it at one input. -/
def dnameAncestorsWrong : ChangeSpec := { name := "dnameAncestors", fn := fun _ => fun
  | [d1, d2] => { results := [.lit (.bool false)], args := [d1, d2] }
  | _ => none }
def DnameAncestorsWrongFalsely : Prop := dnameAncestorsRow.holds Tryd.pinned (OpenSpec.ofChange dnameAncestorsWrong)

/-- 'ddilaw01.DnameReplacesBack': WHATEVER THE INPUT: true; the input reads as it did. -/
def dnameReplacesBackSpec : ChangeSpec := { name := "dnameReplacesBack", fn := fun _ => fun
  | [d1, d2, d3] => { results := [.lit (.bool true)], args := [d1, d2, d3] }
  | _ => none }
def dnameReplacesBackRow : OpenClaim := { program := "ytfcgconojomfpaadoor", sum := "79dc1ce62555980e85d6f74ef8894a7c516a16780926345f27abd8f76603e438", func := "ddi/ddilaw01.DnameReplacesBack", spec := "dnameReplacesBack", inPlace := ["internal/bytealg.CountString", "internal/bytealg.IndexByteString", "internal/bytealg.IndexString", "internal/bytealg.abigen_runtime_cmpstring"], named := ["unicode/utf8.first", "unicode/utf8.acceptRanges", "internal/bytealg.MaxLen"], apart := false, laid := [("unicode/utf8.acceptRanges", laid_unicode_utf8_acceptRanges), ("unicode/utf8.first", laid_unicode_utf8_first)] }
def DnameReplacesBackSaid : Prop := dnameReplacesBackRow.holds Tryd.pinned (OpenSpec.ofChange dnameReplacesBackSpec)

/-- ITS FALSE NEIGHBOUR: 'it returns false'. Refute it at one input. -/
def dnameReplacesBackWrong : ChangeSpec := { name := "dnameReplacesBack", fn := fun _ => fun
  | [d1, d2, d3] => { results := [.lit (.bool false)], args := [d1, d2, d3] }
  | _ => none }
def DnameReplacesBackWrongFalsely : Prop := dnameReplacesBackRow.holds Tryd.pinned (OpenSpec.ofChange dnameReplacesBackWrong)

/-- 'ddilaw01.DnameJoins': WHATEVER THE INPUT: true; the input reads as it did. -/
def dnameJoinsSpec : ChangeSpec := { name := "dnameJoins", fn := fun _ => fun
  | [d] => { results := [.lit (.bool true)], args := [d] }
  | _ => none }
def dnameJoinsRow : OpenClaim := { program := "ytfcgconojomfpaadoor", sum := "79dc1ce62555980e85d6f74ef8894a7c516a16780926345f27abd8f76603e438", func := "ddi/ddilaw01.DnameJoins", spec := "dnameJoins", inPlace := ["internal/abi.NoEscape", "internal/bytealg.CountString", "internal/bytealg.IndexByteString", "internal/bytealg.IndexString", "internal/bytealg.abigen_runtime_cmpstring"], named := ["unicode/utf8.first", "unicode/utf8.acceptRanges", "internal/bytealg.MaxLen"], apart := false, laid := [("unicode/utf8.acceptRanges", laid_unicode_utf8_acceptRanges), ("unicode/utf8.first", laid_unicode_utf8_first)] }
def DnameJoinsSaid : Prop := dnameJoinsRow.holds Tryd.pinned (OpenSpec.ofChange dnameJoinsSpec)

/-- ITS FALSE NEIGHBOUR: 'it returns false'. Refute it at one input. -/
def dnameJoinsWrong : ChangeSpec := { name := "dnameJoins", fn := fun _ => fun
  | [d] => { results := [.lit (.bool false)], args := [d] }
  | _ => none }
def DnameJoinsWrongFalsely : Prop := dnameJoinsRow.holds Tryd.pinned (OpenSpec.ofChange dnameJoinsWrong)

/-- 'ddilaw01.DnameRoundTrips': WHATEVER THE INPUT: true; the input reads as it did. -/
def dnameRoundTripsSpec : ChangeSpec := { name := "dnameRoundTrips", fn := fun _ => fun
  | [d1, d2] => { results := [.lit (.bool true)], args := [d1, d2] }
  | _ => none }
def dnameRoundTripsRow : OpenClaim := { program := "ytfcgconojomfpaadoor", sum := "79dc1ce62555980e85d6f74ef8894a7c516a16780926345f27abd8f76603e438", func := "ddi/ddilaw01.DnameRoundTrips", spec := "dnameRoundTrips", inPlace := ["internal/bytealg.CountString", "internal/bytealg.IndexByteString", "internal/bytealg.IndexString", "internal/bytealg.abigen_runtime_cmpstring", "internal/abi.NoEscape"], named := ["unicode/utf8.first", "unicode/utf8.acceptRanges", "internal/bytealg.MaxLen"], apart := false, laid := [("unicode/utf8.acceptRanges", laid_unicode_utf8_acceptRanges), ("unicode/utf8.first", laid_unicode_utf8_first)] }
def DnameRoundTripsSaid : Prop := dnameRoundTripsRow.holds Tryd.pinned (OpenSpec.ofChange dnameRoundTripsSpec)

/-- ITS FALSE NEIGHBOUR: 'it returns false'. Refute it at one input. -/
def dnameRoundTripsWrong : ChangeSpec := { name := "dnameRoundTrips", fn := fun _ => fun
  | [d1, d2] => { results := [.lit (.bool false)], args := [d1, d2] }
  | _ => none }
def DnameRoundTripsWrongFalsely : Prop := dnameRoundTripsRow.holds Tryd.pinned (OpenSpec.ofChange dnameRoundTripsWrong)

/- THE SECOND FORM. 'bulk': how many values and letters a reading holds, each counted each time it is reached (what is shared counts as often as it is met; a slice's spare places count too). A statement '..UptoSaid' is the law's where the arguments, and the package variables that the reading takes, are together of bulk at most 1048576: NARROWER than '..Said'. Prove '..Said' where nothing that the law and all that it calls make is longer than what came in: it says more and counts as full. Else prove '..UptoSaid'. A law counts once. -/
mutual
def uptoBulk {H : Type} : DataW H → Nat
  | .lit (.string bytes) => bytes.length + 1
  | .lit _ => 1
  | .nil => 1
  | .ptr d => uptoBulk d + 1
  | .slice elems spare => uptoBulkAll elems + uptoBulkAll spare + 1
  | .agg parts => uptoBulkAll parts + 1
  | .iface _ d => uptoBulk d + 1
  | .map entries => uptoBulkEntries entries + 1
  | .held _ => 1
def uptoBulkAll {H : Type} : List (DataW H) → Nat
  | [] => 0
  | d :: r => uptoBulk d + uptoBulkAll r
def uptoBulkEntries {H : Type} : List (Lit × DataW H) → Nat
  | [] => 0
  | x :: r => uptoBulkEntry x + uptoBulkEntries r
def uptoBulkEntry {H : Type} : Lit × DataW H → Nat
  | (.string bytes, d) => bytes.length + uptoBulk d + 1
  | (_, d) => uptoBulk d + 1
 end
def uptoSmall : (H : Type) → List (DataW H) → Bool := fun _ ds => decide (uptoBulkAll ds ≤ 1048576)
def OpenSpec.upto (s : _root_.Go.ChangeSpec) : _root_.Go.OpenSpec := { _root_.Go.OpenSpec.ofChange s with cond := some uptoSmall }

/-- 'ddilaw01.DnameParses', WHERE WHAT IT READS IS OF BULK AT MOST 1048576: true; the input reads as it did. -/
def dnameParsesUptoRow : OpenClaim := { program := "ytfcgconojomfpaadoor", sum := "79dc1ce62555980e85d6f74ef8894a7c516a16780926345f27abd8f76603e438", func := "ddi/ddilaw01.DnameParses", spec := "dnameParses", inPlace := ["internal/bytealg.CountString", "internal/bytealg.IndexByteString", "internal/bytealg.IndexString", "internal/bytealg.abigen_runtime_cmpstring"], named := ["unicode/utf8.first", "unicode/utf8.acceptRanges", "internal/bytealg.MaxLen"], apart := false, laid := [("unicode/utf8.acceptRanges", laid_unicode_utf8_acceptRanges), ("unicode/utf8.first", laid_unicode_utf8_first)], narrowed := true }
def DnameParsesUptoSaid : Prop := dnameParsesUptoRow.holds Tryd.pinned (OpenSpec.upto dnameParsesSpec)

/-- 'ddilaw01.DnameSplits', WHERE WHAT IT READS IS OF BULK AT MOST 1048576: true; the input reads as it did. -/
def dnameSplitsUptoRow : OpenClaim := { program := "ytfcgconojomfpaadoor", sum := "79dc1ce62555980e85d6f74ef8894a7c516a16780926345f27abd8f76603e438", func := "ddi/ddilaw01.DnameSplits", spec := "dnameSplits", inPlace := ["internal/bytealg.CountString", "internal/bytealg.IndexByteString", "internal/bytealg.IndexString", "internal/bytealg.abigen_runtime_cmpstring"], named := ["unicode/utf8.first", "unicode/utf8.acceptRanges", "internal/bytealg.MaxLen"], apart := false, laid := [("unicode/utf8.acceptRanges", laid_unicode_utf8_acceptRanges), ("unicode/utf8.first", laid_unicode_utf8_first)], narrowed := true }
def DnameSplitsUptoSaid : Prop := dnameSplitsUptoRow.holds Tryd.pinned (OpenSpec.upto dnameSplitsSpec)

/-- 'ddilaw01.DnamePairs', WHERE WHAT IT READS IS OF BULK AT MOST 1048576: true; the input reads as it did. -/
def dnamePairsUptoRow : OpenClaim := { program := "ytfcgconojomfpaadoor", sum := "79dc1ce62555980e85d6f74ef8894a7c516a16780926345f27abd8f76603e438", func := "ddi/ddilaw01.DnamePairs", spec := "dnamePairs", inPlace := ["internal/bytealg.CountString", "internal/bytealg.IndexByteString", "internal/bytealg.IndexString", "internal/bytealg.abigen_runtime_cmpstring"], named := ["unicode/utf8.first", "unicode/utf8.acceptRanges", "internal/bytealg.MaxLen"], apart := false, laid := [("unicode/utf8.acceptRanges", laid_unicode_utf8_acceptRanges), ("unicode/utf8.first", laid_unicode_utf8_first)], narrowed := true }
def DnamePairsUptoSaid : Prop := dnamePairsUptoRow.holds Tryd.pinned (OpenSpec.upto dnamePairsSpec)

/-- 'ddilaw01.DnameReplaces', WHERE WHAT IT READS IS OF BULK AT MOST 1048576: true; the input reads as it did. -/
def dnameReplacesUptoRow : OpenClaim := { program := "ytfcgconojomfpaadoor", sum := "79dc1ce62555980e85d6f74ef8894a7c516a16780926345f27abd8f76603e438", func := "ddi/ddilaw01.DnameReplaces", spec := "dnameReplaces", inPlace := ["internal/bytealg.CountString", "internal/bytealg.IndexByteString", "internal/bytealg.IndexString", "internal/bytealg.abigen_runtime_cmpstring"], named := ["unicode/utf8.first", "unicode/utf8.acceptRanges", "internal/bytealg.MaxLen"], apart := false, laid := [("unicode/utf8.acceptRanges", laid_unicode_utf8_acceptRanges), ("unicode/utf8.first", laid_unicode_utf8_first)], narrowed := true }
def DnameReplacesUptoSaid : Prop := dnameReplacesUptoRow.holds Tryd.pinned (OpenSpec.upto dnameReplacesSpec)

/-- 'ddilaw01.DnameOrders', WHERE WHAT IT READS IS OF BULK AT MOST 1048576: true; the input reads as it did. -/
def dnameOrdersUptoRow : OpenClaim := { program := "ytfcgconojomfpaadoor", sum := "79dc1ce62555980e85d6f74ef8894a7c516a16780926345f27abd8f76603e438", func := "ddi/ddilaw01.DnameOrders", spec := "dnameOrders", inPlace := ["internal/bytealg.CountString", "internal/bytealg.IndexByteString", "internal/bytealg.IndexString", "internal/bytealg.abigen_runtime_cmpstring"], named := ["unicode/utf8.first", "unicode/utf8.acceptRanges", "internal/bytealg.MaxLen"], apart := false, laid := [("unicode/utf8.acceptRanges", laid_unicode_utf8_acceptRanges), ("unicode/utf8.first", laid_unicode_utf8_first)], narrowed := true }
def DnameOrdersUptoSaid : Prop := dnameOrdersUptoRow.holds Tryd.pinned (OpenSpec.upto dnameOrdersSpec)

/-- 'ddilaw01.DnameAncestors', WHERE WHAT IT READS IS OF BULK AT MOST 1048576: true; the input reads as it did. -/
def dnameAncestorsUptoRow : OpenClaim := { program := "ytfcgconojomfpaadoor", sum := "79dc1ce62555980e85d6f74ef8894a7c516a16780926345f27abd8f76603e438", func := "ddi/ddilaw01.DnameAncestors", spec := "dnameAncestors", inPlace := ["internal/bytealg.CountString", "internal/bytealg.IndexByteString", "internal/bytealg.IndexString", "internal/bytealg.abigen_runtime_cmpstring"], named := ["unicode/utf8.first", "unicode/utf8.acceptRanges", "internal/bytealg.MaxLen"], apart := false, laid := [("unicode/utf8.acceptRanges", laid_unicode_utf8_acceptRanges), ("unicode/utf8.first", laid_unicode_utf8_first)], narrowed := true }
def DnameAncestorsUptoSaid : Prop := dnameAncestorsUptoRow.holds Tryd.pinned (OpenSpec.upto dnameAncestorsSpec)

/-- 'ddilaw01.DnameReplacesBack', WHERE WHAT IT READS IS OF BULK AT MOST 1048576: true; the input reads as it did. -/
def dnameReplacesBackUptoRow : OpenClaim := { program := "ytfcgconojomfpaadoor", sum := "79dc1ce62555980e85d6f74ef8894a7c516a16780926345f27abd8f76603e438", func := "ddi/ddilaw01.DnameReplacesBack", spec := "dnameReplacesBack", inPlace := ["internal/bytealg.CountString", "internal/bytealg.IndexByteString", "internal/bytealg.IndexString", "internal/bytealg.abigen_runtime_cmpstring"], named := ["unicode/utf8.first", "unicode/utf8.acceptRanges", "internal/bytealg.MaxLen"], apart := false, laid := [("unicode/utf8.acceptRanges", laid_unicode_utf8_acceptRanges), ("unicode/utf8.first", laid_unicode_utf8_first)], narrowed := true }
def DnameReplacesBackUptoSaid : Prop := dnameReplacesBackUptoRow.holds Tryd.pinned (OpenSpec.upto dnameReplacesBackSpec)

/-- 'ddilaw01.DnameJoins', WHERE WHAT IT READS IS OF BULK AT MOST 1048576: true; the input reads as it did. -/
def dnameJoinsUptoRow : OpenClaim := { program := "ytfcgconojomfpaadoor", sum := "79dc1ce62555980e85d6f74ef8894a7c516a16780926345f27abd8f76603e438", func := "ddi/ddilaw01.DnameJoins", spec := "dnameJoins", inPlace := ["internal/abi.NoEscape", "internal/bytealg.CountString", "internal/bytealg.IndexByteString", "internal/bytealg.IndexString", "internal/bytealg.abigen_runtime_cmpstring"], named := ["unicode/utf8.first", "unicode/utf8.acceptRanges", "internal/bytealg.MaxLen"], apart := false, laid := [("unicode/utf8.acceptRanges", laid_unicode_utf8_acceptRanges), ("unicode/utf8.first", laid_unicode_utf8_first)], narrowed := true }
def DnameJoinsUptoSaid : Prop := dnameJoinsUptoRow.holds Tryd.pinned (OpenSpec.upto dnameJoinsSpec)

/-- 'ddilaw01.DnameRoundTrips', WHERE WHAT IT READS IS OF BULK AT MOST 1048576: true; the input reads as it did. -/
def dnameRoundTripsUptoRow : OpenClaim := { program := "ytfcgconojomfpaadoor", sum := "79dc1ce62555980e85d6f74ef8894a7c516a16780926345f27abd8f76603e438", func := "ddi/ddilaw01.DnameRoundTrips", spec := "dnameRoundTrips", inPlace := ["internal/bytealg.CountString", "internal/bytealg.IndexByteString", "internal/bytealg.IndexString", "internal/bytealg.abigen_runtime_cmpstring", "internal/abi.NoEscape"], named := ["unicode/utf8.first", "unicode/utf8.acceptRanges", "internal/bytealg.MaxLen"], apart := false, laid := [("unicode/utf8.acceptRanges", laid_unicode_utf8_acceptRanges), ("unicode/utf8.first", laid_unicode_utf8_first)], narrowed := true }
def DnameRoundTripsUptoSaid : Prop := dnameRoundTripsUptoRow.holds Tryd.pinned (OpenSpec.upto dnameRoundTripsSpec)

end Rows
end Go.Proofs.YtfcgconojomfpaaDoor
