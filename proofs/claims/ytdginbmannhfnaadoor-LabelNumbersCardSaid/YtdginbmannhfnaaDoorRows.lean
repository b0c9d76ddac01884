/-
  NARROWER THAN 'FOR EVERY INPUT', by the rows' own cells (each row's printed sentence says how): LabelPads: laid · LabelNumbers: laid · LabelTells: laid · LabelRules: laid · LabelJoins: laid · LabelCuts: laid.
  DERIVED. THE GIVEN ROWS OF THIS SEAT. 6 by the template 'for every input the law returns true; each argument reads behind the call as it read before'; 0 by the template 'total and deterministic' (their statements: YtdginbmannhfnaaDoorTotals.lean).
  GIVEN WITH THE SEED: the statements are not yours to turn. If you find one false, say at which input.
  Laid BY PROGRAM, IN A SANDBOX (cutbox-rows.mjs): the forced cells as the released guide's own fill.sh prints them over the translation 89ca6fc7c56cf5a5… (all of the seat's roots in one cut). By AI agents, Wed Nov 11 2026. No macro, syntax, notation, axiom, sorry.
-/
import Derived.Test.YtdginbmannhfnaaDoorChecked
import GoSem.PinnedTables
import GoSem.Claim
import GoSem.ClaimJoined
import GoSem.ClaimMapViews
import Derived.JoinedTies
import Derived.KernelRfl
namespace Go.Proofs.YtdginbmannhfnaaDoor
/- THE CELL 'sum', in the pinned program and in every row, IS THE sha256 OF THE DUMP (.gsa) THAT YtdginbmannhfnaaDoorProg.lean LOADS. Nothing in Lean hashes anything: it is a label: what it is worth is what the hold of that sum in a sandbox is worth. -/
noncomputable def Tryd.pinned : Pinned := { name := "ytdginbmannhfnaadoor", sum := "89ca6fc7c56cf5a5dcda83e3eace78655ad5b13b0397e4a643d695aff9e3957a", checked := Tryd.checked }
namespace Rows
def none {H : Type} : Left H := { results := [], args := [] }

/- WHAT THE LISTED PACKAGE-LEVEL VARIABLES READ AS WHEN THE CALL BEGINS. Each datum BY PROGRAM (the guide's laid-datum.mjs) off the statement by which the dump's own 'gosem.cut.vars' lays the variable. In a bare row this is a premise. The card (YtdginbmannhfnaaDoorCards.lean) ties it to the program's text. -/
def laid_unicode_utf8_acceptRanges {H : Type} : DataW H := .agg [.agg [.lit (.int .u8 128), .lit (.int .u8 191)], .agg [.lit (.int .u8 160), .lit (.int .u8 191)], .agg [.lit (.int .u8 128), .lit (.int .u8 159)], .agg [.lit (.int .u8 144), .lit (.int .u8 191)], .agg [.lit (.int .u8 128), .lit (.int .u8 143)], .agg [.lit (.int .u8 0), .lit (.int .u8 0)], .agg [.lit (.int .u8 0), .lit (.int .u8 0)], .agg [.lit (.int .u8 0), .lit (.int .u8 0)], .agg [.lit (.int .u8 0), .lit (.int .u8 0)], .agg [.lit (.int .u8 0), .lit (.int .u8 0)], .agg [.lit (.int .u8 0), .lit (.int .u8 0)], .agg [.lit (.int .u8 0), .lit (.int .u8 0)], .agg [.lit (.int .u8 0), .lit (.int .u8 0)], .agg [.lit (.int .u8 0), .lit (.int .u8 0)], .agg [.lit (.int .u8 0), .lit (.int .u8 0)], .agg [.lit (.int .u8 0), .lit (.int .u8 0)]]
/-- One of Go's own tables, pinned by name: the form's constant. -/
def laid_unicode_utf8_first : DataW Unit := Go.Pinned.utf8First

/-- 'cornhilllaw2.LabelPads': WHATEVER THE INPUT: true; the input reads as it did. -/
def labelPadsSpec : ChangeSpec := { name := "labelPads", fn := fun _ => fun
  | [d1, d2] => { results := [.lit (.bool true)], args := [d1, d2] }
  | _ => none }
def labelPadsRow : OpenClaim := { program := "ytdginbmannhfnaadoor", sum := "89ca6fc7c56cf5a5dcda83e3eace78655ad5b13b0397e4a643d695aff9e3957a", func := "cornhill/cornhilllaw2.LabelPads", spec := "labelPads", inPlace := ["internal/abi.NoEscape", "internal/bytealg.MakeNoZero"], named := ["unicode/utf8.first", "unicode/utf8.acceptRanges"], apart := false, laid := [("unicode/utf8.acceptRanges", laid_unicode_utf8_acceptRanges), ("unicode/utf8.first", laid_unicode_utf8_first)] }
def LabelPadsSaid : Prop := labelPadsRow.holds Tryd.pinned (OpenSpec.ofChange labelPadsSpec)

/-- ITS FALSE NEIGHBOUR: 'it returns false'. Refute it at one input. -/
def labelPadsWrong : ChangeSpec := { name := "labelPads", fn := fun _ => fun
  | [d1, d2] => { results := [.lit (.bool false)], args := [d1, d2] }
  | _ => none }
def LabelPadsWrongFalsely : Prop := labelPadsRow.holds Tryd.pinned (OpenSpec.ofChange labelPadsWrong)

/-- 'cornhilllaw2.LabelNumbers': WHATEVER THE INPUT: true; the input reads as it did. -/
def labelNumbersSpec : ChangeSpec := { name := "labelNumbers", fn := fun _ => fun
  | [] => { results := [.lit (.bool true)], args := [] }
  | _ => none }
def labelNumbersRow : OpenClaim := { program := "ytdginbmannhfnaadoor", sum := "89ca6fc7c56cf5a5dcda83e3eace78655ad5b13b0397e4a643d695aff9e3957a", func := "cornhill/cornhilllaw2.LabelNumbers", spec := "labelNumbers", inPlace := ["internal/abi.NoEscape", "internal/bytealg.MakeNoZero"], named := ["unicode/utf8.first", "unicode/utf8.acceptRanges"], apart := false, laid := [("unicode/utf8.acceptRanges", laid_unicode_utf8_acceptRanges), ("unicode/utf8.first", laid_unicode_utf8_first)] }
def LabelNumbersSaid : Prop := labelNumbersRow.holds Tryd.pinned (OpenSpec.ofChange labelNumbersSpec)

/-- ITS FALSE NEIGHBOUR: 'it returns false'. Refute it at one input. -/
def labelNumbersWrong : ChangeSpec := { name := "labelNumbers", fn := fun _ => fun
  | [] => { results := [.lit (.bool false)], args := [] }
  | _ => none }
def LabelNumbersWrongFalsely : Prop := labelNumbersRow.holds Tryd.pinned (OpenSpec.ofChange labelNumbersWrong)

/-- 'cornhilllaw2.LabelTells': WHATEVER THE INPUT: true; the input reads as it did. -/
def labelTellsSpec : ChangeSpec := { name := "labelTells", fn := fun _ => fun
  | [d1, d2] => { results := [.lit (.bool true)], args := [d1, d2] }
  | _ => none }
def labelTellsRow : OpenClaim := { program := "ytdginbmannhfnaadoor", sum := "89ca6fc7c56cf5a5dcda83e3eace78655ad5b13b0397e4a643d695aff9e3957a", func := "cornhill/cornhilllaw2.LabelTells", spec := "labelTells", inPlace := ["internal/abi.NoEscape", "internal/bytealg.MakeNoZero"], named := ["unicode/utf8.first", "unicode/utf8.acceptRanges"], apart := false, laid := [("unicode/utf8.acceptRanges", laid_unicode_utf8_acceptRanges), ("unicode/utf8.first", laid_unicode_utf8_first)] }
def LabelTellsSaid : Prop := labelTellsRow.holds Tryd.pinned (OpenSpec.ofChange labelTellsSpec)

/-- ITS FALSE NEIGHBOUR: 'it returns false'. Refute it at one input. -/
def labelTellsWrong : ChangeSpec := { name := "labelTells", fn := fun _ => fun
  | [d1, d2] => { results := [.lit (.bool false)], args := [d1, d2] }
  | _ => none }
def LabelTellsWrongFalsely : Prop := labelTellsRow.holds Tryd.pinned (OpenSpec.ofChange labelTellsWrong)

/-- 'cornhilllaw2.LabelRules': WHATEVER THE INPUT: true; the input reads as it did. -/
def labelRulesSpec : ChangeSpec := { name := "labelRules", fn := fun _ => fun
  | [d1, d2] => { results := [.lit (.bool true)], args := [d1, d2] }
  | _ => none }
def labelRulesRow : OpenClaim := { program := "ytdginbmannhfnaadoor", sum := "89ca6fc7c56cf5a5dcda83e3eace78655ad5b13b0397e4a643d695aff9e3957a", func := "cornhill/cornhilllaw2.LabelRules", spec := "labelRules", inPlace := ["internal/abi.NoEscape", "internal/bytealg.MakeNoZero"], named := ["unicode/utf8.first", "unicode/utf8.acceptRanges"], apart := false, laid := [("unicode/utf8.acceptRanges", laid_unicode_utf8_acceptRanges), ("unicode/utf8.first", laid_unicode_utf8_first)] }
def LabelRulesSaid : Prop := labelRulesRow.holds Tryd.pinned (OpenSpec.ofChange labelRulesSpec)

/-- ITS FALSE NEIGHBOUR: 'it returns false'. Refute it at one input. -/
def labelRulesWrong : ChangeSpec := { name := "labelRules", fn := fun _ => fun
  | [d1, d2] => { results := [.lit (.bool false)], args := [d1, d2] }
  | _ => none }
def LabelRulesWrongFalsely : Prop := labelRulesRow.holds Tryd.pinned (OpenSpec.ofChange labelRulesWrong)

/-- 'cornhilllaw2.LabelJoins': WHATEVER THE INPUT: true; the input reads as it did. -/
def labelJoinsSpec : ChangeSpec := { name := "labelJoins", fn := fun _ => fun
  | [d1, d2] => { results := [.lit (.bool true)], args := [d1, d2] }
  | _ => none }
def labelJoinsRow : OpenClaim := { program := "ytdginbmannhfnaadoor", sum := "89ca6fc7c56cf5a5dcda83e3eace78655ad5b13b0397e4a643d695aff9e3957a", func := "cornhill/cornhilllaw2.LabelJoins", spec := "labelJoins", inPlace := ["internal/abi.NoEscape", "internal/bytealg.MakeNoZero"], named := ["unicode/utf8.first", "unicode/utf8.acceptRanges"], apart := false, laid := [("unicode/utf8.acceptRanges", laid_unicode_utf8_acceptRanges), ("unicode/utf8.first", laid_unicode_utf8_first)] }
def LabelJoinsSaid : Prop := labelJoinsRow.holds Tryd.pinned (OpenSpec.ofChange labelJoinsSpec)

/-- ITS FALSE NEIGHBOUR: 'it returns false'. Refute it at one input. -/
def labelJoinsWrong : ChangeSpec := { name := "labelJoins", fn := fun _ => fun
  | [d1, d2] => { results := [.lit (.bool false)], args := [d1, d2] }
  | _ => none }
def LabelJoinsWrongFalsely : Prop := labelJoinsRow.holds Tryd.pinned (OpenSpec.ofChange labelJoinsWrong)

/-- 'cornhilllaw2.LabelCuts': WHATEVER THE INPUT: true; the input reads as it did. -/
def labelCutsSpec : ChangeSpec := { name := "labelCuts", fn := fun _ => fun
  | [d1, d2, d3] => { results := [.lit (.bool true)], args := [d1, d2, d3] }
  | _ => none }
def labelCutsRow : OpenClaim := { program := "ytdginbmannhfnaadoor", sum := "89ca6fc7c56cf5a5dcda83e3eace78655ad5b13b0397e4a643d695aff9e3957a", func := "cornhill/cornhilllaw2.LabelCuts", spec := "labelCuts", inPlace := ["internal/abi.NoEscape", "internal/bytealg.MakeNoZero"], named := ["unicode/utf8.first", "unicode/utf8.acceptRanges"], apart := false, laid := [("unicode/utf8.acceptRanges", laid_unicode_utf8_acceptRanges), ("unicode/utf8.first", laid_unicode_utf8_first)] }
def LabelCutsSaid : Prop := labelCutsRow.holds Tryd.pinned (OpenSpec.ofChange labelCutsSpec)

/-- ITS FALSE NEIGHBOUR: 'it returns false'. Refute it at one input. -/
def labelCutsWrong : ChangeSpec := { name := "labelCuts", fn := fun _ => fun
  | [d1, d2, d3] => { results := [.lit (.bool false)], args := [d1, d2, d3] }
  | _ => none }
def LabelCutsWrongFalsely : Prop := labelCutsRow.holds Tryd.pinned (OpenSpec.ofChange labelCutsWrong)

/- THE SECOND FORM. 'bulk': how many values and letters a reading holds, each counted each time it is reached (what is shared counts as often as it is met; a slice's spare places count too). A statement '..UptoSaid' is the law's where the arguments, and the package variables that the reading takes, are together of bulk at most 1048576: NARROWER than '..Said'. Prove '..Said' where nothing that the law and all that it calls make is longer than what came in: it says more and counts as full. Else prove '..UptoSaid'. A law counts once. -/
mutual
def uptoBulk {H : Type} : DataW H → Nat
  | .lit (.string bytes) => bytes.length + 1
  | .lit _ => 1
  | .nil => 1
  | .ptr d => uptoBulk d + 1
  | .slice elems spare => uptoBulkAll elems + uptoBulkAll spare + 1
  | .agg parts => uptoBulkAll parts + 1
  | .iface _ d => uptoBulk d + 1
  | .map entries => uptoBulkEntries entries + 1
  | .held _ => 1
def uptoBulkAll {H : Type} : List (DataW H) → Nat
  | [] => 0
  | d :: r => uptoBulk d + uptoBulkAll r
def uptoBulkEntries {H : Type} : List (Lit × DataW H) → Nat
  | [] => 0
  | x :: r => uptoBulkEntry x + uptoBulkEntries r
def uptoBulkEntry {H : Type} : Lit × DataW H → Nat
  | (.string bytes, d) => bytes.length + uptoBulk d + 1
  | (_, d) => uptoBulk d + 1
 end
def uptoSmall : (H : Type) → List (DataW H) → Bool := fun _ ds => decide (uptoBulkAll ds ≤ 1048576)
def OpenSpec.upto (s : _root_.Go.ChangeSpec) : _root_.Go.OpenSpec := { _root_.Go.OpenSpec.ofChange s with cond := some uptoSmall }

/-- 'cornhilllaw2.LabelPads', WHERE WHAT IT READS IS OF BULK AT MOST 1048576: true; the input reads as it did. -/
def labelPadsUptoRow : OpenClaim := { program := "ytdginbmannhfnaadoor", sum := "89ca6fc7c56cf5a5dcda83e3eace78655ad5b13b0397e4a643d695aff9e3957a", func := "cornhill/cornhilllaw2.LabelPads", spec := "labelPads", inPlace := ["internal/abi.NoEscape", "internal/bytealg.MakeNoZero"], named := ["unicode/utf8.first", "unicode/utf8.acceptRanges"], apart := false, laid := [("unicode/utf8.acceptRanges", laid_unicode_utf8_acceptRanges), ("unicode/utf8.first", laid_unicode_utf8_first)], narrowed := true }
def LabelPadsUptoSaid : Prop := labelPadsUptoRow.holds Tryd.pinned (OpenSpec.upto labelPadsSpec)

/-- 'cornhilllaw2.LabelNumbers', WHERE WHAT IT READS IS OF BULK AT MOST 1048576: true; the input reads as it did. -/
def labelNumbersUptoRow : OpenClaim := { program := "ytdginbmannhfnaadoor", sum := "89ca6fc7c56cf5a5dcda83e3eace78655ad5b13b0397e4a643d695aff9e3957a", func := "cornhill/cornhilllaw2.LabelNumbers", spec := "labelNumbers", inPlace := ["internal/abi.NoEscape", "internal/bytealg.MakeNoZero"], named := ["unicode/utf8.first", "unicode/utf8.acceptRanges"], apart := false, laid := [("unicode/utf8.acceptRanges", laid_unicode_utf8_acceptRanges), ("unicode/utf8.first", laid_unicode_utf8_first)], narrowed := true }
def LabelNumbersUptoSaid : Prop := labelNumbersUptoRow.holds Tryd.pinned (OpenSpec.upto labelNumbersSpec)

/-- 'cornhilllaw2.LabelTells', WHERE WHAT IT READS IS OF BULK AT MOST 1048576: true; the input reads as it did. -/
def labelTellsUptoRow : OpenClaim := { program := "ytdginbmannhfnaadoor", sum := "89ca6fc7c56cf5a5dcda83e3eace78655ad5b13b0397e4a643d695aff9e3957a", func := "cornhill/cornhilllaw2.LabelTells", spec := "labelTells", inPlace := ["internal/abi.NoEscape", "internal/bytealg.MakeNoZero"], named := ["unicode/utf8.first", "unicode/utf8.acceptRanges"], apart := false, laid := [("unicode/utf8.acceptRanges", laid_unicode_utf8_acceptRanges), ("unicode/utf8.first", laid_unicode_utf8_first)], narrowed := true }
def LabelTellsUptoSaid : Prop := labelTellsUptoRow.holds Tryd.pinned (OpenSpec.upto labelTellsSpec)

/-- 'cornhilllaw2.LabelRules', WHERE WHAT IT READS IS OF BULK AT MOST 1048576: true; the input reads as it did. -/
def labelRulesUptoRow : OpenClaim := { program := "ytdginbmannhfnaadoor", sum := "89ca6fc7c56cf5a5dcda83e3eace78655ad5b13b0397e4a643d695aff9e3957a", func := "cornhill/cornhilllaw2.LabelRules", spec := "labelRules", inPlace := ["internal/abi.NoEscape", "internal/bytealg.MakeNoZero"], named := ["unicode/utf8.first", "unicode/utf8.acceptRanges"], apart := false, laid := [("unicode/utf8.acceptRanges", laid_unicode_utf8_acceptRanges), ("unicode/utf8.first", laid_unicode_utf8_first)], narrowed := true }
def LabelRulesUptoSaid : Prop := labelRulesUptoRow.holds Tryd.pinned (OpenSpec.upto labelRulesSpec)

/-- 'cornhilllaw2.LabelJoins', WHERE WHAT IT READS IS OF BULK AT MOST 1048576: true; the input reads as it did. -/
def labelJoinsUptoRow : OpenClaim := { program := "ytdginbmannhfnaadoor", sum := "89ca6fc7c56cf5a5dcda83e3eace78655ad5b13b0397e4a643d695aff9e3957a", func := "cornhill/cornhilllaw2.LabelJoins", spec := "labelJoins", inPlace := ["internal/abi.NoEscape", "internal/bytealg.MakeNoZero"], named := ["unicode/utf8.first", "unicode/utf8.acceptRanges"], apart := false, laid := [("unicode/utf8.acceptRanges", laid_unicode_utf8_acceptRanges), ("unicode/utf8.first", laid_unicode_utf8_first)], narrowed := true }
def LabelJoinsUptoSaid : Prop := labelJoinsUptoRow.holds Tryd.pinned (OpenSpec.upto labelJoinsSpec)

/-- 'cornhilllaw2.LabelCuts', WHERE WHAT IT READS IS OF BULK AT MOST 1048576: true; the input reads as it did. -/
def labelCutsUptoRow : OpenClaim := { program := "ytdginbmannhfnaadoor", sum := "89ca6fc7c56cf5a5dcda83e3eace78655ad5b13b0397e4a643d695aff9e3957a", func := "cornhill/cornhilllaw2.LabelCuts", spec := "labelCuts", inPlace := ["internal/abi.NoEscape", "internal/bytealg.MakeNoZero"], named := ["unicode/utf8.first", "unicode/utf8.acceptRanges"], apart := false, laid := [("unicode/utf8.acceptRanges", laid_unicode_utf8_acceptRanges), ("unicode/utf8.first", laid_unicode_utf8_first)], narrowed := true }
def LabelCutsUptoSaid : Prop := labelCutsUptoRow.holds Tryd.pinned (OpenSpec.upto labelCutsSpec)

end Rows
end Go.Proofs.YtdginbmannhfnaaDoor
