/-
  NARROWER THAN 'FOR EVERY INPUT', by the rows' own cells (each row's printed sentence says how): OptionCodes: laid · OptionDecodes: laid · OptionBack: laid · OptionAgain: laid · OptionParts: laid · OptionFinds: laid · OptionPuts: laid · OptionValues: laid · OptionNumbers: laid.
  DERIVED. THE GIVEN ROWS OF THIS SEAT. 9 by the template 'for every input the law returns true; each argument reads behind the call as it read before'; 0 by the template 'total and deterministic' (their statements: YtkojlapefmcjnaaDoorTotals.lean).
  GIVEN WITH THE SEED: the statements are not yours to turn. If you find one false, say at which input.
  Laid BY PROGRAM, IN A SANDBOX (cutbox-rows.mjs): the forced cells as the released guide's own fill.sh prints them over the translation a5bc83ddc3c2a293… (all of the seat's roots in one cut). By AI agents, Wed Nov 11 2026. No macro, syntax, notation, axiom, sorry.
-/
import Derived.Test.YtkojlapefmcjnaaDoorChecked
import GoSem.PinnedTables
import GoSem.Claim
import GoSem.ClaimJoined
import GoSem.ClaimMapViews
import Derived.JoinedTies
import Derived.KernelRfl
namespace Go.Proofs.YtkojlapefmcjnaaDoor
/- THE CELL 'sum', in the pinned program and in every row, IS THE sha256 OF THE DUMP (.gsa) THAT YtkojlapefmcjnaaDoorProg.lean LOADS. Nothing in Lean hashes anything: it is a label: what it is worth is what the hold of that sum in a sandbox is worth. -/
noncomputable def Tryd.pinned : Pinned := { name := "ytkojlapefmcjnaadoor", sum := "a5bc83ddc3c2a2936f7cf99714213b7946e332956660aa74e13eadab19d63454", checked := Tryd.checked }
namespace Rows
def none {H : Type} : Left H := { results := [], args := [] }

/- WHAT THE LISTED PACKAGE-LEVEL VARIABLES READ AS WHEN THE CALL BEGINS. Each datum BY PROGRAM (the guide's laid-datum.mjs) off the statement by which the dump's own 'gosem.cut.vars' lays the variable. In a bare row this is a premise. The card (YtkojlapefmcjnaaDoorCards.lean) ties it to the program's text. -/
def laid_unicode_utf8_acceptRanges {H : Type} : DataW H := .agg [.agg [.lit (.int .u8 128), .lit (.int .u8 191)], .agg [.lit (.int .u8 160), .lit (.int .u8 191)], .agg [.lit (.int .u8 128), .lit (.int .u8 159)], .agg [.lit (.int .u8 144), .lit (.int .u8 191)], .agg [.lit (.int .u8 128), .lit (.int .u8 143)], .agg [.lit (.int .u8 0), .lit (.int .u8 0)], .agg [.lit (.int .u8 0), .lit (.int .u8 0)], .agg [.lit (.int .u8 0), .lit (.int .u8 0)], .agg [.lit (.int .u8 0), .lit (.int .u8 0)], .agg [.lit (.int .u8 0), .lit (.int .u8 0)], .agg [.lit (.int .u8 0), .lit (.int .u8 0)], .agg [.lit (.int .u8 0), .lit (.int .u8 0)], .agg [.lit (.int .u8 0), .lit (.int .u8 0)], .agg [.lit (.int .u8 0), .lit (.int .u8 0)], .agg [.lit (.int .u8 0), .lit (.int .u8 0)], .agg [.lit (.int .u8 0), .lit (.int .u8 0)]]
/-- One of Go's own tables, pinned by name: the form's constant. -/
def laid_unicode_utf8_first : DataW Unit := Go.Pinned.utf8First

/-- 'ddilaw35.OptionCodes': WHATEVER THE INPUT: true; the input reads as it did. -/
def optionCodesSpec : ChangeSpec := { name := "optionCodes", fn := fun _ => fun
  | [d] => { results := [.lit (.bool true)], args := [d] }
  | _ => none }
def optionCodesRow : OpenClaim := { program := "ytkojlapefmcjnaadoor", sum := "a5bc83ddc3c2a2936f7cf99714213b7946e332956660aa74e13eadab19d63454", func := "ddi/ddilaw35.OptionCodes", spec := "optionCodes", inPlace := ["internal/abi.NoEscape", "internal/bytealg.IndexByteString", "internal/bytealg.IndexString"], named := ["unicode/utf8.first", "unicode/utf8.acceptRanges", "internal/bytealg.MaxLen"], apart := false, laid := [("unicode/utf8.acceptRanges", laid_unicode_utf8_acceptRanges), ("unicode/utf8.first", laid_unicode_utf8_first)] }
def OptionCodesSaid : Prop := optionCodesRow.holds Tryd.pinned (OpenSpec.ofChange optionCodesSpec)

/-- ITS FALSE NEIGHBOUR: 'it returns false'. Refute it at one input. -/
def optionCodesWrong : ChangeSpec := { name := "optionCodes", fn := fun _ => fun
  | [d] => { results := [.lit (.bool false)], args := [d] }
  | _ => none }
def OptionCodesWrongFalsely : Prop := optionCodesRow.holds Tryd.pinned (OpenSpec.ofChange optionCodesWrong)

/-- 'ddilaw35.OptionDecodes': WHATEVER THE INPUT: true; the input reads as it did. -/
def optionDecodesSpec : ChangeSpec := { name := "optionDecodes", fn := fun _ => fun
  | [d] => { results := [.lit (.bool true)], args := [d] }
  | _ => none }
def optionDecodesRow : OpenClaim := { program := "ytkojlapefmcjnaadoor", sum := "a5bc83ddc3c2a2936f7cf99714213b7946e332956660aa74e13eadab19d63454", func := "ddi/ddilaw35.OptionDecodes", spec := "optionDecodes", inPlace := ["internal/bytealg.IndexByteString", "internal/bytealg.IndexString", "internal/abi.NoEscape"], named := ["unicode/utf8.first", "unicode/utf8.acceptRanges", "internal/bytealg.MaxLen"], apart := false, laid := [("unicode/utf8.acceptRanges", laid_unicode_utf8_acceptRanges), ("unicode/utf8.first", laid_unicode_utf8_first)] }
def OptionDecodesSaid : Prop := optionDecodesRow.holds Tryd.pinned (OpenSpec.ofChange optionDecodesSpec)

/-- ITS FALSE NEIGHBOUR: 'it returns false'. Refute it at one input. -/
def optionDecodesWrong : ChangeSpec := { name := "optionDecodes", fn := fun _ => fun
  | [d] => { results := [.lit (.bool false)], args := [d] }
  | _ => none }
def OptionDecodesWrongFalsely : Prop := optionDecodesRow.holds Tryd.pinned (OpenSpec.ofChange optionDecodesWrong)

/-- 'ddilaw35.OptionBack': WHATEVER THE INPUT: true; the input reads as it did. -/
def optionBackSpec : ChangeSpec := { name := "optionBack", fn := fun _ => fun
  | [d] => { results := [.lit (.bool true)], args := [d] }
  | _ => none }
def optionBackRow : OpenClaim := { program := "ytkojlapefmcjnaadoor", sum := "a5bc83ddc3c2a2936f7cf99714213b7946e332956660aa74e13eadab19d63454", func := "ddi/ddilaw35.OptionBack", spec := "optionBack", inPlace := ["internal/abi.NoEscape", "internal/bytealg.IndexByteString", "internal/bytealg.IndexString"], named := ["unicode/utf8.first", "unicode/utf8.acceptRanges", "internal/bytealg.MaxLen"], apart := false, laid := [("unicode/utf8.acceptRanges", laid_unicode_utf8_acceptRanges), ("unicode/utf8.first", laid_unicode_utf8_first)] }
def OptionBackSaid : Prop := optionBackRow.holds Tryd.pinned (OpenSpec.ofChange optionBackSpec)

/-- ITS FALSE NEIGHBOUR: 'it returns false'. Refute it at one input. -/
def optionBackWrong : ChangeSpec := { name := "optionBack", fn := fun _ => fun
  | [d] => { results := [.lit (.bool false)], args := [d] }
  | _ => none }
def OptionBackWrongFalsely : Prop := optionBackRow.holds Tryd.pinned (OpenSpec.ofChange optionBackWrong)

/-- 'ddilaw35.OptionAgain': WHATEVER THE INPUT: true; the input reads as it did. -/
def optionAgainSpec : ChangeSpec := { name := "optionAgain", fn := fun _ => fun
  | [d] => { results := [.lit (.bool true)], args := [d] }
  | _ => none }
def optionAgainRow : OpenClaim := { program := "ytkojlapefmcjnaadoor", sum := "a5bc83ddc3c2a2936f7cf99714213b7946e332956660aa74e13eadab19d63454", func := "ddi/ddilaw35.OptionAgain", spec := "optionAgain", inPlace := ["internal/bytealg.IndexByteString", "internal/bytealg.IndexString", "internal/abi.NoEscape"], named := ["unicode/utf8.first", "unicode/utf8.acceptRanges", "internal/bytealg.MaxLen"], apart := false, laid := [("unicode/utf8.acceptRanges", laid_unicode_utf8_acceptRanges), ("unicode/utf8.first", laid_unicode_utf8_first)] }
def OptionAgainSaid : Prop := optionAgainRow.holds Tryd.pinned (OpenSpec.ofChange optionAgainSpec)

/-- ITS FALSE NEIGHBOUR: 'it returns false'. Refute it at one input. -/
def optionAgainWrong : ChangeSpec := { name := "optionAgain", fn := fun _ => fun
  | [d] => { results := [.lit (.bool false)], args := [d] }
  | _ => none }
def OptionAgainWrongFalsely : Prop := optionAgainRow.holds Tryd.pinned (OpenSpec.ofChange optionAgainWrong)

/-- 'ddilaw35.OptionParts': WHATEVER THE INPUT: true; the input reads as it did. -/
def optionPartsSpec : ChangeSpec := { name := "optionParts", fn := fun _ => fun
  | [d1, d2] => { results := [.lit (.bool true)], args := [d1, d2] }
  | _ => none }
def optionPartsRow : OpenClaim := { program := "ytkojlapefmcjnaadoor", sum := "a5bc83ddc3c2a2936f7cf99714213b7946e332956660aa74e13eadab19d63454", func := "ddi/ddilaw35.OptionParts", spec := "optionParts", inPlace := ["internal/abi.NoEscape", "internal/bytealg.IndexByteString", "internal/bytealg.IndexString"], named := ["unicode/utf8.first", "unicode/utf8.acceptRanges", "internal/bytealg.MaxLen"], apart := false, laid := [("unicode/utf8.acceptRanges", laid_unicode_utf8_acceptRanges), ("unicode/utf8.first", laid_unicode_utf8_first)] }
def OptionPartsSaid : Prop := optionPartsRow.holds Tryd.pinned (OpenSpec.ofChange optionPartsSpec)

/-- ITS FALSE NEIGHBOUR: 'it returns false'. Refute it at one input. -/
def optionPartsWrong : ChangeSpec := { name := "optionParts", fn := fun _ => fun
  | [d1, d2] => { results := [.lit (.bool false)], args := [d1, d2] }
  | _ => none }
def OptionPartsWrongFalsely : Prop := optionPartsRow.holds Tryd.pinned (OpenSpec.ofChange optionPartsWrong)

/-- 'ddilaw35.OptionFinds': WHATEVER THE INPUT: true; the input reads as it did. -/
def optionFindsSpec : ChangeSpec := { name := "optionFinds", fn := fun _ => fun
  | [d1, d2, d3] => { results := [.lit (.bool true)], args := [d1, d2, d3] }
  | _ => none }
def optionFindsRow : OpenClaim := { program := "ytkojlapefmcjnaadoor", sum := "a5bc83ddc3c2a2936f7cf99714213b7946e332956660aa74e13eadab19d63454", func := "ddi/ddilaw35.OptionFinds", spec := "optionFinds", inPlace := ["internal/abi.NoEscape", "internal/bytealg.IndexByteString", "internal/bytealg.IndexString"], named := ["unicode/utf8.first", "unicode/utf8.acceptRanges", "internal/bytealg.MaxLen"], apart := false, laid := [("unicode/utf8.acceptRanges", laid_unicode_utf8_acceptRanges), ("unicode/utf8.first", laid_unicode_utf8_first)] }
def OptionFindsSaid : Prop := optionFindsRow.holds Tryd.pinned (OpenSpec.ofChange optionFindsSpec)

/-- ITS FALSE NEIGHBOUR: 'it returns false'. Refute it at one input. -/
def optionFindsWrong : ChangeSpec := { name := "optionFinds", fn := fun _ => fun
  | [d1, d2, d3] => { results := [.lit (.bool false)], args := [d1, d2, d3] }
  | _ => none }
def OptionFindsWrongFalsely : Prop := optionFindsRow.holds Tryd.pinned (OpenSpec.ofChange optionFindsWrong)

/-- 'ddilaw35.OptionPuts': WHATEVER THE INPUT: true; the input reads as it did. -/
def optionPutsSpec : ChangeSpec := { name := "optionPuts", fn := fun _ => fun
  | [d1, d2, d3, d4] => { results := [.lit (.bool true)], args := [d1, d2, d3, d4] }
  | _ => none }
def optionPutsRow : OpenClaim := { program := "ytkojlapefmcjnaadoor", sum := "a5bc83ddc3c2a2936f7cf99714213b7946e332956660aa74e13eadab19d63454", func := "ddi/ddilaw35.OptionPuts", spec := "optionPuts", inPlace := ["internal/abi.NoEscape", "internal/bytealg.IndexByteString", "internal/bytealg.IndexString"], named := ["unicode/utf8.first", "unicode/utf8.acceptRanges", "internal/bytealg.MaxLen"], apart := false, laid := [("unicode/utf8.acceptRanges", laid_unicode_utf8_acceptRanges), ("unicode/utf8.first", laid_unicode_utf8_first)] }
def OptionPutsSaid : Prop := optionPutsRow.holds Tryd.pinned (OpenSpec.ofChange optionPutsSpec)

/-- ITS FALSE NEIGHBOUR: 'it returns false'. Refute it at one input. -/
def optionPutsWrong : ChangeSpec := { name := "optionPuts", fn := fun _ => fun
  | [d1, d2, d3, d4] => { results := [.lit (.bool false)], args := [d1, d2, d3, d4] }
  | _ => none }
def OptionPutsWrongFalsely : Prop := optionPutsRow.holds Tryd.pinned (OpenSpec.ofChange optionPutsWrong)

/-- 'ddilaw35.OptionValues': WHATEVER THE INPUT: true; the input reads as it did. -/
def optionValuesSpec : ChangeSpec := { name := "optionValues", fn := fun _ => fun
  | [d] => { results := [.lit (.bool true)], args := [d] }
  | _ => none }
def optionValuesRow : OpenClaim := { program := "ytkojlapefmcjnaadoor", sum := "a5bc83ddc3c2a2936f7cf99714213b7946e332956660aa74e13eadab19d63454", func := "ddi/ddilaw35.OptionValues", spec := "optionValues", inPlace := ["internal/abi.NoEscape", "internal/bytealg.IndexByteString", "internal/bytealg.IndexString"], named := ["unicode/utf8.first", "unicode/utf8.acceptRanges", "internal/bytealg.MaxLen"], apart := false, laid := [("unicode/utf8.acceptRanges", laid_unicode_utf8_acceptRanges), ("unicode/utf8.first", laid_unicode_utf8_first)] }
def OptionValuesSaid : Prop := optionValuesRow.holds Tryd.pinned (OpenSpec.ofChange optionValuesSpec)

/-- ITS FALSE NEIGHBOUR: 'it returns false'. Refute it at one input. -/
def optionValuesWrong : ChangeSpec := { name := "optionValues", fn := fun _ => fun
  | [d] => { results := [.lit (.bool false)], args := [d] }
  | _ => none }
def OptionValuesWrongFalsely : Prop := optionValuesRow.holds Tryd.pinned (OpenSpec.ofChange optionValuesWrong)

/-- 'ddilaw35.OptionNumbers': WHATEVER THE INPUT: true; the input reads as it did. -/
def optionNumbersSpec : ChangeSpec := { name := "optionNumbers", fn := fun _ => fun
  | [d1, d2, d3] => { results := [.lit (.bool true)], args := [d1, d2, d3] }
  | _ => none }
def optionNumbersRow : OpenClaim := { program := "ytkojlapefmcjnaadoor", sum := "a5bc83ddc3c2a2936f7cf99714213b7946e332956660aa74e13eadab19d63454", func := "ddi/ddilaw35.OptionNumbers", spec := "optionNumbers", inPlace := ["internal/abi.NoEscape", "internal/bytealg.IndexByteString", "internal/bytealg.IndexString"], named := ["unicode/utf8.first", "unicode/utf8.acceptRanges", "internal/bytealg.MaxLen"], apart := false, laid := [("unicode/utf8.acceptRanges", laid_unicode_utf8_acceptRanges), ("unicode/utf8.first", laid_unicode_utf8_first)] }
def OptionNumbersSaid : Prop := optionNumbersRow.holds Tryd.pinned (OpenSpec.ofChange optionNumbersSpec)

/-- ITS FALSE NEIGHBOUR: 'it returns false'. Refute it at one input. -/
def optionNumbersWrong : ChangeSpec := { name := "optionNumbers", fn := fun _ => fun
  | [d1, d2, d3] => { results := [.lit (.bool false)], args := [d1, d2, d3] }
  | _ => none }
def OptionNumbersWrongFalsely : Prop := optionNumbersRow.holds Tryd.pinned (OpenSpec.ofChange optionNumbersWrong)

/- THE SECOND FORM. 'bulk': how many values and letters a reading holds, each counted each time it is reached (what is shared counts as often as it is met; a slice's spare places count too). A statement '..UptoSaid' is the law's where the arguments, and the package variables that the reading takes, are together of bulk at most 1048576: NARROWER than '..Said'. Prove '..Said' where nothing that the law and all that it calls make is longer than what came in: it says more and counts as full. Else prove '..UptoSaid'. A law counts once. -/
mutual
def uptoBulk {H : Type} : DataW H → Nat
  | .lit (.string bytes) => bytes.length + 1
  | .lit _ => 1
  | .nil => 1
  | .ptr d => uptoBulk d + 1
  | .slice elems spare => uptoBulkAll elems + uptoBulkAll spare + 1
  | .agg parts => uptoBulkAll parts + 1
  | .iface _ d => uptoBulk d + 1
  | .map entries => uptoBulkEntries entries + 1
  | .held _ => 1
def uptoBulkAll {H : Type} : List (DataW H) → Nat
  | [] => 0
  | d :: r => uptoBulk d + uptoBulkAll r
def uptoBulkEntries {H : Type} : List (Lit × DataW H) → Nat
  | [] => 0
  | x :: r => uptoBulkEntry x + uptoBulkEntries r
def uptoBulkEntry {H : Type} : Lit × DataW H → Nat
  | (.string bytes, d) => bytes.length + uptoBulk d + 1
  | (_, d) => uptoBulk d + 1
 end
def uptoSmall : (H : Type) → List (DataW H) → Bool := fun _ ds => decide (uptoBulkAll ds ≤ 1048576)
def OpenSpec.upto (s : _root_.Go.ChangeSpec) : _root_.Go.OpenSpec := { _root_.Go.OpenSpec.ofChange s with cond := some uptoSmall }

/-- 'ddilaw35.OptionCodes', WHERE WHAT IT READS IS OF BULK AT MOST 1048576: true; the input reads as it did. -/
def optionCodesUptoRow : OpenClaim := { program := "ytkojlapefmcjnaadoor", sum := "a5bc83ddc3c2a2936f7cf99714213b7946e332956660aa74e13eadab19d63454", func := "ddi/ddilaw35.OptionCodes", spec := "optionCodes", inPlace := ["internal/abi.NoEscape", "internal/bytealg.IndexByteString", "internal/bytealg.IndexString"], named := ["unicode/utf8.first", "unicode/utf8.acceptRanges", "internal/bytealg.MaxLen"], apart := false, laid := [("unicode/utf8.acceptRanges", laid_unicode_utf8_acceptRanges), ("unicode/utf8.first", laid_unicode_utf8_first)], narrowed := true }
def OptionCodesUptoSaid : Prop := optionCodesUptoRow.holds Tryd.pinned (OpenSpec.upto optionCodesSpec)

/-- 'ddilaw35.OptionDecodes', WHERE WHAT IT READS IS OF BULK AT MOST 1048576: true; the input reads as it did. -/
def optionDecodesUptoRow : OpenClaim := { program := "ytkojlapefmcjnaadoor", sum := "a5bc83ddc3c2a2936f7cf99714213b7946e332956660aa74e13eadab19d63454", func := "ddi/ddilaw35.OptionDecodes", spec := "optionDecodes", inPlace := ["internal/bytealg.IndexByteString", "internal/bytealg.IndexString", "internal/abi.NoEscape"], named := ["unicode/utf8.first", "unicode/utf8.acceptRanges", "internal/bytealg.MaxLen"], apart := false, laid := [("unicode/utf8.acceptRanges", laid_unicode_utf8_acceptRanges), ("unicode/utf8.first", laid_unicode_utf8_first)], narrowed := true }
def OptionDecodesUptoSaid : Prop := optionDecodesUptoRow.holds Tryd.pinned (OpenSpec.upto optionDecodesSpec)

/-- 'ddilaw35.OptionBack', WHERE WHAT IT READS IS OF BULK AT MOST 1048576: true; the input reads as it did. -/
def optionBackUptoRow : OpenClaim := { program := "ytkojlapefmcjnaadoor", sum := "a5bc83ddc3c2a2936f7cf99714213b7946e332956660aa74e13eadab19d63454", func := "ddi/ddilaw35.OptionBack", spec := "optionBack", inPlace := ["internal/abi.NoEscape", "internal/bytealg.IndexByteString", "internal/bytealg.IndexString"], named := ["unicode/utf8.first", "unicode/utf8.acceptRanges", "internal/bytealg.MaxLen"], apart := false, laid := [("unicode/utf8.acceptRanges", laid_unicode_utf8_acceptRanges), ("unicode/utf8.first", laid_unicode_utf8_first)], narrowed := true }
def OptionBackUptoSaid : Prop := optionBackUptoRow.holds Tryd.pinned (OpenSpec.upto optionBackSpec)

/-- 'ddilaw35.OptionAgain', WHERE WHAT IT READS IS OF BULK AT MOST 1048576: true; the input reads as it did. -/
def optionAgainUptoRow : OpenClaim := { program := "ytkojlapefmcjnaadoor", sum := "a5bc83ddc3c2a2936f7cf99714213b7946e332956660aa74e13eadab19d63454", func := "ddi/ddilaw35.OptionAgain", spec := "optionAgain", inPlace := ["internal/bytealg.IndexByteString", "internal/bytealg.IndexString", "internal/abi.NoEscape"], named := ["unicode/utf8.first", "unicode/utf8.acceptRanges", "internal/bytealg.MaxLen"], apart := false, laid := [("unicode/utf8.acceptRanges", laid_unicode_utf8_acceptRanges), ("unicode/utf8.first", laid_unicode_utf8_first)], narrowed := true }
def OptionAgainUptoSaid : Prop := optionAgainUptoRow.holds Tryd.pinned (OpenSpec.upto optionAgainSpec)

/-- 'ddilaw35.OptionParts', WHERE WHAT IT READS IS OF BULK AT MOST 1048576: true; the input reads as it did. -/
def optionPartsUptoRow : OpenClaim := { program := "ytkojlapefmcjnaadoor", sum := "a5bc83ddc3c2a2936f7cf99714213b7946e332956660aa74e13eadab19d63454", func := "ddi/ddilaw35.OptionParts", spec := "optionParts", inPlace := ["internal/abi.NoEscape", "internal/bytealg.IndexByteString", "internal/bytealg.IndexString"], named := ["unicode/utf8.first", "unicode/utf8.acceptRanges", "internal/bytealg.MaxLen"], apart := false, laid := [("unicode/utf8.acceptRanges", laid_unicode_utf8_acceptRanges), ("unicode/utf8.first", laid_unicode_utf8_first)], narrowed := true }
def OptionPartsUptoSaid : Prop := optionPartsUptoRow.holds Tryd.pinned (OpenSpec.upto optionPartsSpec)

/-- 'ddilaw35.OptionFinds', WHERE WHAT IT READS IS OF BULK AT MOST 1048576: true; the input reads as it did. -/
def optionFindsUptoRow : OpenClaim := { program := "ytkojlapefmcjnaadoor", sum := "a5bc83ddc3c2a2936f7cf99714213b7946e332956660aa74e13eadab19d63454", func := "ddi/ddilaw35.OptionFinds", spec := "optionFinds", inPlace := ["internal/abi.NoEscape", "internal/bytealg.IndexByteString", "internal/bytealg.IndexString"], named := ["unicode/utf8.first", "unicode/utf8.acceptRanges", "internal/bytealg.MaxLen"], apart := false, laid := [("unicode/utf8.acceptRanges", laid_unicode_utf8_acceptRanges), ("unicode/utf8.first", laid_unicode_utf8_first)], narrowed := true }
def OptionFindsUptoSaid : Prop := optionFindsUptoRow.holds Tryd.pinned (OpenSpec.upto optionFindsSpec)

/-- 'ddilaw35.OptionPuts', WHERE WHAT IT READS IS OF BULK AT MOST 1048576: true; the input reads as it did. -/
def optionPutsUptoRow : OpenClaim := { program := "ytkojlapefmcjnaadoor", sum := "a5bc83ddc3c2a2936f7cf99714213b7946e332956660aa74e13eadab19d63454", func := "ddi/ddilaw35.OptionPuts", spec := "optionPuts", inPlace := ["internal/abi.NoEscape", "internal/bytealg.IndexByteString", "internal/bytealg.IndexString"], named := ["unicode/utf8.first", "unicode/utf8.acceptRanges", "internal/bytealg.MaxLen"], apart := false, laid := [("unicode/utf8.acceptRanges", laid_unicode_utf8_acceptRanges), ("unicode/utf8.first", laid_unicode_utf8_first)], narrowed := true }
def OptionPutsUptoSaid : Prop := optionPutsUptoRow.holds Tryd.pinned (OpenSpec.upto optionPutsSpec)

/-- 'ddilaw35.OptionValues', WHERE WHAT IT READS IS OF BULK AT MOST 1048576: true; the input reads as it did. -/
def optionValuesUptoRow : OpenClaim := { program := "ytkojlapefmcjnaadoor", sum := "a5bc83ddc3c2a2936f7cf99714213b7946e332956660aa74e13eadab19d63454", func := "ddi/ddilaw35.OptionValues", spec := "optionValues", inPlace := ["internal/abi.NoEscape", "internal/bytealg.IndexByteString", "internal/bytealg.IndexString"], named := ["unicode/utf8.first", "unicode/utf8.acceptRanges", "internal/bytealg.MaxLen"], apart := false, laid := [("unicode/utf8.acceptRanges", laid_unicode_utf8_acceptRanges), ("unicode/utf8.first", laid_unicode_utf8_first)], narrowed := true }
def OptionValuesUptoSaid : Prop := optionValuesUptoRow.holds Tryd.pinned (OpenSpec.upto optionValuesSpec)

/-- 'ddilaw35.OptionNumbers', WHERE WHAT IT READS IS OF BULK AT MOST 1048576: true; the input reads as it did. -/
def optionNumbersUptoRow : OpenClaim := { program := "ytkojlapefmcjnaadoor", sum := "a5bc83ddc3c2a2936f7cf99714213b7946e332956660aa74e13eadab19d63454", func := "ddi/ddilaw35.OptionNumbers", spec := "optionNumbers", inPlace := ["internal/abi.NoEscape", "internal/bytealg.IndexByteString", "internal/bytealg.IndexString"], named := ["unicode/utf8.first", "unicode/utf8.acceptRanges", "internal/bytealg.MaxLen"], apart := false, laid := [("unicode/utf8.acceptRanges", laid_unicode_utf8_acceptRanges), ("unicode/utf8.first", laid_unicode_utf8_first)], narrowed := true }
def OptionNumbersUptoSaid : Prop := optionNumbersUptoRow.holds Tryd.pinned (OpenSpec.upto optionNumbersSpec)

end Rows
end Go.Proofs.YtkojlapefmcjnaaDoor
