/-
  NARROWER THAN 'FOR EVERY INPUT', by the rows' own cells (each row's printed sentence says how): MinimizeNext: laid · MinimizeSteps: laid · MinimizeGrows: laid · MinimizeOnce: laid · MinimizeLittle: laid.
  DERIVED. THE GIVEN ROWS OF THIS SEAT. 5 by the template 'for every input the law returns true; each argument reads behind the call as it read before'; 0 by the template 'total and deterministic' (their statements: YtannhjclhdennaaDoorTotals.lean).
  GIVEN WITH THE SEED: the statements are not yours to turn. If you find one false, say at which input.
  Laid BY PROGRAM, IN A SANDBOX (cutbox-rows.mjs): the forced cells as the released guide's own fill.sh prints them over the translation 22d36e62aae25829… (all of the seat's roots in one cut). By AI agents, Wed Nov 11 2026. No macro, syntax, notation, axiom, sorry.
-/
import Derived.Test.YtannhjclhdennaaDoorChecked
import GoSem.PinnedTables
import GoSem.Claim
import GoSem.ClaimJoined
import GoSem.ClaimMapViews
import Derived.JoinedTies
import Derived.KernelRfl
namespace Go.Proofs.YtannhjclhdennaaDoor
/- THE CELL 'sum', in the pinned program and in every row, IS THE sha256 OF THE DUMP (.gsa) THAT YtannhjclhdennaaDoorProg.lean LOADS. Nothing in Lean hashes anything: it is a label: what it is worth is what the hold of that sum in a sandbox is worth. -/
noncomputable def Tryd.pinned : Pinned := { name := "ytannhjclhdennaadoor", sum := "22d36e62aae258290451e376d0a0aa8992746a7d43c3abd97ddd03c9ddb1e4d5", checked := Tryd.checked }
namespace Rows
def none {H : Type} : Left H := { results := [], args := [] }

/- WHAT THE LISTED PACKAGE-LEVEL VARIABLES READ AS WHEN THE CALL BEGINS. Each datum BY PROGRAM (the guide's laid-datum.mjs) off the statement by which the dump's own 'gosem.cut.vars' lays the variable. In a bare row this is a premise. The card (YtannhjclhdennaaDoorCards.lean) ties it to the program's text. -/
def laid_unicode_utf8_acceptRanges {H : Type} : DataW H := .agg [.agg [.lit (.int .u8 128), .lit (.int .u8 191)], .agg [.lit (.int .u8 160), .lit (.int .u8 191)], .agg [.lit (.int .u8 128), .lit (.int .u8 159)], .agg [.lit (.int .u8 144), .lit (.int .u8 191)], .agg [.lit (.int .u8 128), .lit (.int .u8 143)], .agg [.lit (.int .u8 0), .lit (.int .u8 0)], .agg [.lit (.int .u8 0), .lit (.int .u8 0)], .agg [.lit (.int .u8 0), .lit (.int .u8 0)], .agg [.lit (.int .u8 0), .lit (.int .u8 0)], .agg [.lit (.int .u8 0), .lit (.int .u8 0)], .agg [.lit (.int .u8 0), .lit (.int .u8 0)], .agg [.lit (.int .u8 0), .lit (.int .u8 0)], .agg [.lit (.int .u8 0), .lit (.int .u8 0)], .agg [.lit (.int .u8 0), .lit (.int .u8 0)], .agg [.lit (.int .u8 0), .lit (.int .u8 0)], .agg [.lit (.int .u8 0), .lit (.int .u8 0)]]
/-- One of Go's own tables, pinned by name: the form's constant. -/
def laid_unicode_utf8_first : DataW Unit := Go.Pinned.utf8First

/-- 'ddilaw31.MinimizeNext': WHATEVER THE INPUT: true; the input reads as it did. -/
def minimizeNextSpec : ChangeSpec := { name := "minimizeNext", fn := fun _ => fun
  | [d1, d2, d3] => { results := [.lit (.bool true)], args := [d1, d2, d3] }
  | _ => none }
def minimizeNextRow : OpenClaim := { program := "ytannhjclhdennaadoor", sum := "22d36e62aae258290451e376d0a0aa8992746a7d43c3abd97ddd03c9ddb1e4d5", func := "ddi/ddilaw31.MinimizeNext", spec := "minimizeNext", inPlace := ["internal/bytealg.CountString", "internal/bytealg.IndexByteString", "internal/bytealg.IndexString", "internal/abi.NoEscape"], named := ["unicode/utf8.first", "unicode/utf8.acceptRanges", "internal/bytealg.MaxLen"], apart := false, laid := [("unicode/utf8.acceptRanges", laid_unicode_utf8_acceptRanges), ("unicode/utf8.first", laid_unicode_utf8_first)] }
def MinimizeNextSaid : Prop := minimizeNextRow.holds Tryd.pinned (OpenSpec.ofChange minimizeNextSpec)

/-- ITS FALSE NEIGHBOUR: 'it returns false'. Refute it at one input. -/
def minimizeNextWrong : ChangeSpec := { name := "minimizeNext", fn := fun _ => fun
  | [d1, d2, d3] => { results := [.lit (.bool false)], args := [d1, d2, d3] }
  | _ => none }
def MinimizeNextWrongFalsely : Prop := minimizeNextRow.holds Tryd.pinned (OpenSpec.ofChange minimizeNextWrong)

/-- 'ddilaw31.MinimizeSteps': WHATEVER THE INPUT: true; the input reads as it did. -/
def minimizeStepsSpec : ChangeSpec := { name := "minimizeSteps", fn := fun _ => fun
  | [d1, d2] => { results := [.lit (.bool true)], args := [d1, d2] }
  | _ => none }
def minimizeStepsRow : OpenClaim := { program := "ytannhjclhdennaadoor", sum := "22d36e62aae258290451e376d0a0aa8992746a7d43c3abd97ddd03c9ddb1e4d5", func := "ddi/ddilaw31.MinimizeSteps", spec := "minimizeSteps", inPlace := ["internal/bytealg.CountString", "internal/bytealg.IndexByteString", "internal/bytealg.IndexString", "internal/abi.NoEscape"], named := ["unicode/utf8.first", "unicode/utf8.acceptRanges", "internal/bytealg.MaxLen"], apart := false, laid := [("unicode/utf8.acceptRanges", laid_unicode_utf8_acceptRanges), ("unicode/utf8.first", laid_unicode_utf8_first)] }
def MinimizeStepsSaid : Prop := minimizeStepsRow.holds Tryd.pinned (OpenSpec.ofChange minimizeStepsSpec)

/-- ITS FALSE NEIGHBOUR: 'it returns false'. Refute it at one input. -/
def minimizeStepsWrong : ChangeSpec := { name := "minimizeSteps", fn := fun _ => fun
  | [d1, d2] => { results := [.lit (.bool false)], args := [d1, d2] }
  | _ => none }
def MinimizeStepsWrongFalsely : Prop := minimizeStepsRow.holds Tryd.pinned (OpenSpec.ofChange minimizeStepsWrong)

/-- 'ddilaw31.MinimizeGrows': WHATEVER THE INPUT: true; the input reads as it did. -/
def minimizeGrowsSpec : ChangeSpec := { name := "minimizeGrows", fn := fun _ => fun
  | [d1, d2] => { results := [.lit (.bool true)], args := [d1, d2] }
  | _ => none }
def minimizeGrowsRow : OpenClaim := { program := "ytannhjclhdennaadoor", sum := "22d36e62aae258290451e376d0a0aa8992746a7d43c3abd97ddd03c9ddb1e4d5", func := "ddi/ddilaw31.MinimizeGrows", spec := "minimizeGrows", inPlace := ["internal/bytealg.CountString", "internal/bytealg.IndexByteString", "internal/bytealg.IndexString", "internal/abi.NoEscape"], named := ["unicode/utf8.first", "unicode/utf8.acceptRanges", "internal/bytealg.MaxLen"], apart := false, laid := [("unicode/utf8.acceptRanges", laid_unicode_utf8_acceptRanges), ("unicode/utf8.first", laid_unicode_utf8_first)] }
def MinimizeGrowsSaid : Prop := minimizeGrowsRow.holds Tryd.pinned (OpenSpec.ofChange minimizeGrowsSpec)

/-- ITS FALSE NEIGHBOUR: 'it returns false'. Refute it at one input. -/
def minimizeGrowsWrong : ChangeSpec := { name := "minimizeGrows", fn := fun _ => fun
  | [d1, d2] => { results := [.lit (.bool false)], args := [d1, d2] }
  | _ => none }
def MinimizeGrowsWrongFalsely : Prop := minimizeGrowsRow.holds Tryd.pinned (OpenSpec.ofChange minimizeGrowsWrong)

/-- 'ddilaw31.MinimizeOnce': WHATEVER THE INPUT: true; the input reads as it did. -/
def minimizeOnceSpec : ChangeSpec := { name := "minimizeOnce", fn := fun _ => fun
  | [d1, d2, d3] => { results := [.lit (.bool true)], args := [d1, d2, d3] }
  | _ => none }
def minimizeOnceRow : OpenClaim := { program := "ytannhjclhdennaadoor", sum := "22d36e62aae258290451e376d0a0aa8992746a7d43c3abd97ddd03c9ddb1e4d5", func := "ddi/ddilaw31.MinimizeOnce", spec := "minimizeOnce", inPlace := ["internal/bytealg.CountString", "internal/bytealg.IndexByteString", "internal/bytealg.IndexString", "internal/abi.NoEscape"], named := ["unicode/utf8.first", "unicode/utf8.acceptRanges", "internal/bytealg.MaxLen"], apart := false, laid := [("unicode/utf8.acceptRanges", laid_unicode_utf8_acceptRanges), ("unicode/utf8.first", laid_unicode_utf8_first)] }
def MinimizeOnceSaid : Prop := minimizeOnceRow.holds Tryd.pinned (OpenSpec.ofChange minimizeOnceSpec)

/-- ITS FALSE NEIGHBOUR: 'it returns false'. Refute it at one input. -/
def minimizeOnceWrong : ChangeSpec := { name := "minimizeOnce", fn := fun _ => fun
  | [d1, d2, d3] => { results := [.lit (.bool false)], args := [d1, d2, d3] }
  | _ => none }
def MinimizeOnceWrongFalsely : Prop := minimizeOnceRow.holds Tryd.pinned (OpenSpec.ofChange minimizeOnceWrong)

/-- 'ddilaw31.MinimizeLittle': WHATEVER THE INPUT: true; the input reads as it did. -/
def minimizeLittleSpec : ChangeSpec := { name := "minimizeLittle", fn := fun _ => fun
  | [d1, d2, d3] => { results := [.lit (.bool true)], args := [d1, d2, d3] }
  | _ => none }
def minimizeLittleRow : OpenClaim := { program := "ytannhjclhdennaadoor", sum := "22d36e62aae258290451e376d0a0aa8992746a7d43c3abd97ddd03c9ddb1e4d5", func := "ddi/ddilaw31.MinimizeLittle", spec := "minimizeLittle", inPlace := ["internal/bytealg.CountString", "internal/bytealg.IndexByteString", "internal/bytealg.IndexString", "internal/abi.NoEscape"], named := ["unicode/utf8.first", "unicode/utf8.acceptRanges", "internal/bytealg.MaxLen"], apart := false, laid := [("unicode/utf8.acceptRanges", laid_unicode_utf8_acceptRanges), ("unicode/utf8.first", laid_unicode_utf8_first)] }
def MinimizeLittleSaid : Prop := minimizeLittleRow.holds Tryd.pinned (OpenSpec.ofChange minimizeLittleSpec)

/-- ITS FALSE NEIGHBOUR: 'it returns false'. Refute it at one input. -/
def minimizeLittleWrong : ChangeSpec := { name := "minimizeLittle", fn := fun _ => fun
  | [d1, d2, d3] => { results := [.lit (.bool false)], args := [d1, d2, d3] }
  | _ => none }
def MinimizeLittleWrongFalsely : Prop := minimizeLittleRow.holds Tryd.pinned (OpenSpec.ofChange minimizeLittleWrong)

/- THE SECOND FORM. 'bulk': how many values and letters a reading holds, each counted each time it is reached (what is shared counts as often as it is met; a slice's spare places count too). A statement '..UptoSaid' is the law's where the arguments, and the package variables that the reading takes, are together of bulk at most 1048576: NARROWER than '..Said'. Prove '..Said' where nothing that the law and all that it calls make is longer than what came in: it says more and counts as full. Else prove '..UptoSaid'. A law counts once. -/
mutual
def uptoBulk {H : Type} : DataW H → Nat
  | .lit (.string bytes) => bytes.length + 1
  | .lit _ => 1
  | .nil => 1
  | .ptr d => uptoBulk d + 1
  | .slice elems spare => uptoBulkAll elems + uptoBulkAll spare + 1
  | .agg parts => uptoBulkAll parts + 1
  | .iface _ d => uptoBulk d + 1
  | .map entries => uptoBulkEntries entries + 1
  | .held _ => 1
def uptoBulkAll {H : Type} : List (DataW H) → Nat
  | [] => 0
  | d :: r => uptoBulk d + uptoBulkAll r
def uptoBulkEntries {H : Type} : List (Lit × DataW H) → Nat
  | [] => 0
  | x :: r => uptoBulkEntry x + uptoBulkEntries r
def uptoBulkEntry {H : Type} : Lit × DataW H → Nat
  | (.string bytes, d) => bytes.length + uptoBulk d + 1
  | (_, d) => uptoBulk d + 1
 end
def uptoSmall : (H : Type) → List (DataW H) → Bool := fun _ ds => decide (uptoBulkAll ds ≤ 1048576)
def OpenSpec.upto (s : _root_.Go.ChangeSpec) : _root_.Go.OpenSpec := { _root_.Go.OpenSpec.ofChange s with cond := some uptoSmall }

/-- 'ddilaw31.MinimizeNext', WHERE WHAT IT READS IS OF BULK AT MOST 1048576: true; the input reads as it did. -/
def minimizeNextUptoRow : OpenClaim := { program := "ytannhjclhdennaadoor", sum := "22d36e62aae258290451e376d0a0aa8992746a7d43c3abd97ddd03c9ddb1e4d5", func := "ddi/ddilaw31.MinimizeNext", spec := "minimizeNext", inPlace := ["internal/bytealg.CountString", "internal/bytealg.IndexByteString", "internal/bytealg.IndexString", "internal/abi.NoEscape"], named := ["unicode/utf8.first", "unicode/utf8.acceptRanges", "internal/bytealg.MaxLen"], apart := false, laid := [("unicode/utf8.acceptRanges", laid_unicode_utf8_acceptRanges), ("unicode/utf8.first", laid_unicode_utf8_first)], narrowed := true }
def MinimizeNextUptoSaid : Prop := minimizeNextUptoRow.holds Tryd.pinned (OpenSpec.upto minimizeNextSpec)

/-- 'ddilaw31.MinimizeSteps', WHERE WHAT IT READS IS OF BULK AT MOST 1048576: true; the input reads as it did. -/
def minimizeStepsUptoRow : OpenClaim := { program := "ytannhjclhdennaadoor", sum := "22d36e62aae258290451e376d0a0aa8992746a7d43c3abd97ddd03c9ddb1e4d5", func := "ddi/ddilaw31.MinimizeSteps", spec := "minimizeSteps", inPlace := ["internal/bytealg.CountString", "internal/bytealg.IndexByteString", "internal/bytealg.IndexString", "internal/abi.NoEscape"], named := ["unicode/utf8.first", "unicode/utf8.acceptRanges", "internal/bytealg.MaxLen"], apart := false, laid := [("unicode/utf8.acceptRanges", laid_unicode_utf8_acceptRanges), ("unicode/utf8.first", laid_unicode_utf8_first)], narrowed := true }
def MinimizeStepsUptoSaid : Prop := minimizeStepsUptoRow.holds Tryd.pinned (OpenSpec.upto minimizeStepsSpec)

/-- 'ddilaw31.MinimizeGrows', WHERE WHAT IT READS IS OF BULK AT MOST 1048576: true; the input reads as it did. -/
def minimizeGrowsUptoRow : OpenClaim := { program := "ytannhjclhdennaadoor", sum := "22d36e62aae258290451e376d0a0aa8992746a7d43c3abd97ddd03c9ddb1e4d5", func := "ddi/ddilaw31.MinimizeGrows", spec := "minimizeGrows", inPlace := ["internal/bytealg.CountString", "internal/bytealg.IndexByteString", "internal/bytealg.IndexString", "internal/abi.NoEscape"], named := ["unicode/utf8.first", "unicode/utf8.acceptRanges", "internal/bytealg.MaxLen"], apart := false, laid := [("unicode/utf8.acceptRanges", laid_unicode_utf8_acceptRanges), ("unicode/utf8.first", laid_unicode_utf8_first)], narrowed := true }
def MinimizeGrowsUptoSaid : Prop := minimizeGrowsUptoRow.holds Tryd.pinned (OpenSpec.upto minimizeGrowsSpec)

/-- 'ddilaw31.MinimizeOnce', WHERE WHAT IT READS IS OF BULK AT MOST 1048576: true; the input reads as it did. -/
def minimizeOnceUptoRow : OpenClaim := { program := "ytannhjclhdennaadoor", sum := "22d36e62aae258290451e376d0a0aa8992746a7d43c3abd97ddd03c9ddb1e4d5", func := "ddi/ddilaw31.MinimizeOnce", spec := "minimizeOnce", inPlace := ["internal/bytealg.CountString", "internal/bytealg.IndexByteString", "internal/bytealg.IndexString", "internal/abi.NoEscape"], named := ["unicode/utf8.first", "unicode/utf8.acceptRanges", "internal/bytealg.MaxLen"], apart := false, laid := [("unicode/utf8.acceptRanges", laid_unicode_utf8_acceptRanges), ("unicode/utf8.first", laid_unicode_utf8_first)], narrowed := true }
def MinimizeOnceUptoSaid : Prop := minimizeOnceUptoRow.holds Tryd.pinned (OpenSpec.upto minimizeOnceSpec)

/-- 'ddilaw31.MinimizeLittle', WHERE WHAT IT READS IS OF BULK AT MOST 1048576: true; the input reads as it did. -/
def minimizeLittleUptoRow : OpenClaim := { program := "ytannhjclhdennaadoor", sum := "22d36e62aae258290451e376d0a0aa8992746a7d43c3abd97ddd03c9ddb1e4d5", func := "ddi/ddilaw31.MinimizeLittle", spec := "minimizeLittle", inPlace := ["internal/bytealg.CountString", "internal/bytealg.IndexByteString", "internal/bytealg.IndexString", "internal/abi.NoEscape"], named := ["unicode/utf8.first", "unicode/utf8.acceptRanges", "internal/bytealg.MaxLen"], apart := false, laid := [("unicode/utf8.acceptRanges", laid_unicode_utf8_acceptRanges), ("unicode/utf8.first", laid_unicode_utf8_first)], narrowed := true }
def MinimizeLittleUptoSaid : Prop := minimizeLittleUptoRow.holds Tryd.pinned (OpenSpec.upto minimizeLittleSpec)

end Rows
end Go.Proofs.YtannhjclhdennaaDoor
