/-
  No cell of these rows narrows 'for every input' (looked for: loops, veiled, ifaces, maps, wideKeys, modest, calm, conditions, laid).
  DERIVED. THE GIVEN ROWS OF THIS SEAT. 6 by the template 'for every input the law returns true; each argument reads behind the call as it read before'; 0 by the template 'total and deterministic' (their statements: YtfhlfnoiknhleaaTotals.lean).
  GIVEN WITH THE SEED: the statements are not yours to turn. If you find one false, say at which input.
  Laid BY PROGRAM, IN A SANDBOX (cutbox-rows.mjs): the forced cells as the released guide's own fill.sh prints them over the translation 69e1dd5ae9a50d68… (all of the seat's roots in one cut). By AI agents, Wed Nov 11 2026. No macro, syntax, notation, axiom, sorry.
-/
import Derived.Test.YtfhlfnoiknhleaaChecked
import GoSem.Claim
import GoSem.ClaimJoined
import GoSem.ClaimMapViews
import Derived.JoinedTies
import Derived.KernelRfl
namespace Go.Proofs.Ytfhlfnoiknhleaa
/- THE CELL 'sum', in the pinned program and in every row, IS THE sha256 OF THE DUMP (.gsa) THAT YtfhlfnoiknhleaaProg.lean LOADS. Nothing in Lean hashes anything: it is a label: what it is worth is what the hold of that sum in a sandbox is worth. -/
noncomputable def Try.pinned : Pinned := { name := "ytfhlfnoiknhleaa", sum := "69e1dd5ae9a50d6882d3838b2f39bd7f90381113cbee0304ab5a92a5922aeb04", checked := Try.checked }
namespace Rows
def none {H : Type} : Left H := { results := [], args := [] }

/-- 'cornhilllaw23.JournalNumbers': WHATEVER THE INPUT: true; the input reads as it did. -/
def journalNumbersSpec : ChangeSpec := { name := "journalNumbers", fn := fun _ => fun
  | [] => { results := [.lit (.bool true)], args := [] }
  | _ => none }
def journalNumbersRow : OpenClaim := { program := "ytfhlfnoiknhleaa", sum := "69e1dd5ae9a50d6882d3838b2f39bd7f90381113cbee0304ab5a92a5922aeb04", func := "cornhill/cornhilllaw23.JournalNumbers", spec := "journalNumbers", apart := false }
def JournalNumbersSaid : Prop := journalNumbersRow.holds Try.pinned (OpenSpec.ofChange journalNumbersSpec)

/-- ITS FALSE NEIGHBOUR: 'it returns false'. Refute it at one input. -/
def journalNumbersWrong : ChangeSpec := { name := "journalNumbers", fn := fun _ => fun
  | [] => { results := [.lit (.bool false)], args := [] }
  | _ => none }
def JournalNumbersWrongFalsely : Prop := journalNumbersRow.holds Try.pinned (OpenSpec.ofChange journalNumbersWrong)

/-- 'cornhilllaw23.JournalScans': WHATEVER THE INPUT: true; the input reads as it did. -/
def journalScansSpec : ChangeSpec := { name := "journalScans", fn := fun _ => fun
  | [d1, d2, d3, d4, d5] => { results := [.lit (.bool true)], args := [d1, d2, d3, d4, d5] }
  | _ => none }
def journalScansRow : OpenClaim := { program := "ytfhlfnoiknhleaa", sum := "69e1dd5ae9a50d6882d3838b2f39bd7f90381113cbee0304ab5a92a5922aeb04", func := "cornhill/cornhilllaw23.JournalScans", spec := "journalScans", apart := false }
def JournalScansSaid : Prop := journalScansRow.holds Try.pinned (OpenSpec.ofChange journalScansSpec)

/-- ITS FALSE NEIGHBOUR: 'it returns false'. Refute it at one input. -/
def journalScansWrong : ChangeSpec := { name := "journalScans", fn := fun _ => fun
  | [d1, d2, d3, d4, d5] => { results := [.lit (.bool false)], args := [d1, d2, d3, d4, d5] }
  | _ => none }
def JournalScansWrongFalsely : Prop := journalScansRow.holds Try.pinned (OpenSpec.ofChange journalScansWrong)

/-- 'cornhilllaw23.JournalSurvives': WHATEVER THE INPUT: true; the input reads as it did. -/
def journalSurvivesSpec : ChangeSpec := { name := "journalSurvives", fn := fun _ => fun
  | [d1, d2, d3, d4] => { results := [.lit (.bool true)], args := [d1, d2, d3, d4] }
  | _ => none }
def journalSurvivesRow : OpenClaim := { program := "ytfhlfnoiknhleaa", sum := "69e1dd5ae9a50d6882d3838b2f39bd7f90381113cbee0304ab5a92a5922aeb04", func := "cornhill/cornhilllaw23.JournalSurvives", spec := "journalSurvives", apart := false }
def JournalSurvivesSaid : Prop := journalSurvivesRow.holds Try.pinned (OpenSpec.ofChange journalSurvivesSpec)

/-- ITS FALSE NEIGHBOUR: 'it returns false'. Refute it at one input. -/
def journalSurvivesWrong : ChangeSpec := { name := "journalSurvives", fn := fun _ => fun
  | [d1, d2, d3, d4] => { results := [.lit (.bool false)], args := [d1, d2, d3, d4] }
  | _ => none }
def JournalSurvivesWrongFalsely : Prop := journalSurvivesRow.holds Try.pinned (OpenSpec.ofChange journalSurvivesWrong)

/-- 'cornhilllaw23.JournalTurned': WHATEVER THE INPUT: true; the input reads as it did. -/
def journalTurnedSpec : ChangeSpec := { name := "journalTurned", fn := fun _ => fun
  | [d1, d2, d3] => { results := [.lit (.bool true)], args := [d1, d2, d3] }
  | _ => none }
def journalTurnedRow : OpenClaim := { program := "ytfhlfnoiknhleaa", sum := "69e1dd5ae9a50d6882d3838b2f39bd7f90381113cbee0304ab5a92a5922aeb04", func := "cornhill/cornhilllaw23.JournalTurned", spec := "journalTurned", apart := false }
def JournalTurnedSaid : Prop := journalTurnedRow.holds Try.pinned (OpenSpec.ofChange journalTurnedSpec)

/-- ITS FALSE NEIGHBOUR: 'it returns false'. Refute it at one input. -/
def journalTurnedWrong : ChangeSpec := { name := "journalTurned", fn := fun _ => fun
  | [d1, d2, d3] => { results := [.lit (.bool false)], args := [d1, d2, d3] }
  | _ => none }
def JournalTurnedWrongFalsely : Prop := journalTurnedRow.holds Try.pinned (OpenSpec.ofChange journalTurnedWrong)

/-- 'cornhilllaw23.JournalCuts': WHATEVER THE INPUT: true; the input reads as it did. -/
def journalCutsSpec : ChangeSpec := { name := "journalCuts", fn := fun _ => fun
  | [d1, d2, d3] => { results := [.lit (.bool true)], args := [d1, d2, d3] }
  | _ => none }
def journalCutsRow : OpenClaim := { program := "ytfhlfnoiknhleaa", sum := "69e1dd5ae9a50d6882d3838b2f39bd7f90381113cbee0304ab5a92a5922aeb04", func := "cornhill/cornhilllaw23.JournalCuts", spec := "journalCuts", apart := false }
def JournalCutsSaid : Prop := journalCutsRow.holds Try.pinned (OpenSpec.ofChange journalCutsSpec)

/-- ITS FALSE NEIGHBOUR: 'it returns false'. Refute it at one input. -/
def journalCutsWrong : ChangeSpec := { name := "journalCuts", fn := fun _ => fun
  | [d1, d2, d3] => { results := [.lit (.bool false)], args := [d1, d2, d3] }
  | _ => none }
def JournalCutsWrongFalsely : Prop := journalCutsRow.holds Try.pinned (OpenSpec.ofChange journalCutsWrong)

/-- 'cornhilllaw23.JournalSame': WHATEVER THE INPUT: true; the input reads as it did. -/
def journalSameSpec : ChangeSpec := { name := "journalSame", fn := fun _ => fun
  | [d1, d2, d3] => { results := [.lit (.bool true)], args := [d1, d2, d3] }
  | _ => none }
def journalSameRow : OpenClaim := { program := "ytfhlfnoiknhleaa", sum := "69e1dd5ae9a50d6882d3838b2f39bd7f90381113cbee0304ab5a92a5922aeb04", func := "cornhill/cornhilllaw23.JournalSame", spec := "journalSame", apart := false }
def JournalSameSaid : Prop := journalSameRow.holds Try.pinned (OpenSpec.ofChange journalSameSpec)

/-- ITS FALSE NEIGHBOUR: 'it returns false'. Refute it at one input. -/
def journalSameWrong : ChangeSpec := { name := "journalSame", fn := fun _ => fun
  | [d1, d2, d3] => { results := [.lit (.bool false)], args := [d1, d2, d3] }
  | _ => none }
def JournalSameWrongFalsely : Prop := journalSameRow.holds Try.pinned (OpenSpec.ofChange journalSameWrong)

/- THE SECOND FORM. 'bulk': how many values and letters a reading holds, each counted each time it is reached (what is shared counts as often as it is met; a slice's spare places count too). A statement '..UptoSaid' is the law's where the arguments, and the package variables that the reading takes, are together of bulk at most 1048576: NARROWER than '..Said'. Prove '..Said' where nothing that the law and all that it calls make is longer than what came in: it says more and counts as full. Else prove '..UptoSaid'. A law counts once. -/
mutual
def uptoBulk {H : Type} : DataW H → Nat
  | .lit (.string bytes) => bytes.length + 1
  | .lit _ => 1
  | .nil => 1
  | .ptr d => uptoBulk d + 1
  | .slice elems spare => uptoBulkAll elems + uptoBulkAll spare + 1
  | .agg parts => uptoBulkAll parts + 1
  | .iface _ d => uptoBulk d + 1
  | .map entries => uptoBulkEntries entries + 1
  | .held _ => 1
def uptoBulkAll {H : Type} : List (DataW H) → Nat
  | [] => 0
  | d :: r => uptoBulk d + uptoBulkAll r
def uptoBulkEntries {H : Type} : List (Lit × DataW H) → Nat
  | [] => 0
  | x :: r => uptoBulkEntry x + uptoBulkEntries r
def uptoBulkEntry {H : Type} : Lit × DataW H → Nat
  | (.string bytes, d) => bytes.length + uptoBulk d + 1
  | (_, d) => uptoBulk d + 1
 end
def uptoSmall : (H : Type) → List (DataW H) → Bool := fun _ ds => decide (uptoBulkAll ds ≤ 1048576)
def OpenSpec.upto (s : _root_.Go.ChangeSpec) : _root_.Go.OpenSpec := { _root_.Go.OpenSpec.ofChange s with cond := some uptoSmall }

/-- 'cornhilllaw23.JournalNumbers', WHERE WHAT IT READS IS OF BULK AT MOST 1048576: true; the input reads as it did. -/
def journalNumbersUptoRow : OpenClaim := { program := "ytfhlfnoiknhleaa", sum := "69e1dd5ae9a50d6882d3838b2f39bd7f90381113cbee0304ab5a92a5922aeb04", func := "cornhill/cornhilllaw23.JournalNumbers", spec := "journalNumbers", apart := false, narrowed := true }
def JournalNumbersUptoSaid : Prop := journalNumbersUptoRow.holds Try.pinned (OpenSpec.upto journalNumbersSpec)

/-- 'cornhilllaw23.JournalScans', WHERE WHAT IT READS IS OF BULK AT MOST 1048576: true; the input reads as it did. -/
def journalScansUptoRow : OpenClaim := { program := "ytfhlfnoiknhleaa", sum := "69e1dd5ae9a50d6882d3838b2f39bd7f90381113cbee0304ab5a92a5922aeb04", func := "cornhill/cornhilllaw23.JournalScans", spec := "journalScans", apart := false, narrowed := true }
def JournalScansUptoSaid : Prop := journalScansUptoRow.holds Try.pinned (OpenSpec.upto journalScansSpec)

/-- 'cornhilllaw23.JournalSurvives', WHERE WHAT IT READS IS OF BULK AT MOST 1048576: true; the input reads as it did. -/
def journalSurvivesUptoRow : OpenClaim := { program := "ytfhlfnoiknhleaa", sum := "69e1dd5ae9a50d6882d3838b2f39bd7f90381113cbee0304ab5a92a5922aeb04", func := "cornhill/cornhilllaw23.JournalSurvives", spec := "journalSurvives", apart := false, narrowed := true }
def JournalSurvivesUptoSaid : Prop := journalSurvivesUptoRow.holds Try.pinned (OpenSpec.upto journalSurvivesSpec)

/-- 'cornhilllaw23.JournalTurned', WHERE WHAT IT READS IS OF BULK AT MOST 1048576: true; the input reads as it did. -/
def journalTurnedUptoRow : OpenClaim := { program := "ytfhlfnoiknhleaa", sum := "69e1dd5ae9a50d6882d3838b2f39bd7f90381113cbee0304ab5a92a5922aeb04", func := "cornhill/cornhilllaw23.JournalTurned", spec := "journalTurned", apart := false, narrowed := true }
def JournalTurnedUptoSaid : Prop := journalTurnedUptoRow.holds Try.pinned (OpenSpec.upto journalTurnedSpec)

/-- 'cornhilllaw23.JournalCuts', WHERE WHAT IT READS IS OF BULK AT MOST 1048576: true; the input reads as it did. -/
def journalCutsUptoRow : OpenClaim := { program := "ytfhlfnoiknhleaa", sum := "69e1dd5ae9a50d6882d3838b2f39bd7f90381113cbee0304ab5a92a5922aeb04", func := "cornhill/cornhilllaw23.JournalCuts", spec := "journalCuts", apart := false, narrowed := true }
def JournalCutsUptoSaid : Prop := journalCutsUptoRow.holds Try.pinned (OpenSpec.upto journalCutsSpec)

/-- 'cornhilllaw23.JournalSame', WHERE WHAT IT READS IS OF BULK AT MOST 1048576: true; the input reads as it did. -/
def journalSameUptoRow : OpenClaim := { program := "ytfhlfnoiknhleaa", sum := "69e1dd5ae9a50d6882d3838b2f39bd7f90381113cbee0304ab5a92a5922aeb04", func := "cornhill/cornhilllaw23.JournalSame", spec := "journalSame", apart := false, narrowed := true }
def JournalSameUptoSaid : Prop := journalSameUptoRow.holds Try.pinned (OpenSpec.upto journalSameSpec)

end Rows
end Go.Proofs.Ytfhlfnoiknhleaa
