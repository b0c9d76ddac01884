/-
  No cell of these rows narrows 'for every input' (looked for: loops, veiled, ifaces, maps, wideKeys, modest, calm, conditions, laid).
  DERIVED. THE GIVEN ROWS OF THIS SEAT. 6 by the template 'for every input the law returns true; each argument reads behind the call as it read before'; 0 by the template 'total and deterministic' (their statements: YtfdilhoeikkhoaaTotals.lean).
  GIVEN WITH THE SEED: the statements are not yours to turn. If you find one false, say at which input.
  Laid BY PROGRAM, IN A SANDBOX (cutbox-rows.mjs): the forced cells as the released guide's own fill.sh prints them over the translation a1b374c297531267… (all of the seat's roots in one cut). By AI agents, Wed Nov 11 2026. No macro, syntax, notation, axiom, sorry.
-/
import Derived.Test.YtfdilhoeikkhoaaChecked
import GoSem.Claim
import GoSem.ClaimJoined
import GoSem.ClaimMapViews
import Derived.JoinedTies
import Derived.KernelRfl
namespace Go.Proofs.Ytfdilhoeikkhoaa
/- THE CELL 'sum', in the pinned program and in every row, IS THE sha256 OF THE DUMP (.gsa) THAT YtfdilhoeikkhoaaProg.lean LOADS. Nothing in Lean hashes anything: it is a label: what it is worth is what the hold of that sum in a sandbox is worth. -/
noncomputable def Try.pinned : Pinned := { name := "ytfdilhoeikkhoaa", sum := "a1b374c29753126717e96df319b6b313b591aca7e5c2bc16b8af12777d44a406", checked := Try.checked }
namespace Rows
def none {H : Type} : Left H := { results := [], args := [] }

/-- 'cornhilllaw22.DiskRounds': WHATEVER THE INPUT: true; the input reads as it did. -/
def diskRoundsSpec : ChangeSpec := { name := "diskRounds", fn := fun _ => fun
  | [d1, d2] => { results := [.lit (.bool true)], args := [d1, d2] }
  | _ => none }
def diskRoundsRow : OpenClaim := { program := "ytfdilhoeikkhoaa", sum := "a1b374c29753126717e96df319b6b313b591aca7e5c2bc16b8af12777d44a406", func := "cornhill/cornhilllaw22.DiskRounds", spec := "diskRounds", apart := false }
def DiskRoundsSaid : Prop := diskRoundsRow.holds Try.pinned (OpenSpec.ofChange diskRoundsSpec)

/-- ITS FALSE NEIGHBOUR: 'it returns false'. Refute it at one input. -/
def diskRoundsWrong : ChangeSpec := { name := "diskRounds", fn := fun _ => fun
  | [d1, d2] => { results := [.lit (.bool false)], args := [d1, d2] }
  | _ => none }
def DiskRoundsWrongFalsely : Prop := diskRoundsRow.holds Try.pinned (OpenSpec.ofChange diskRoundsWrong)

/-- 'cornhilllaw22.DiskHalves': WHATEVER THE INPUT: true; the input reads as it did. -/
def diskHalvesSpec : ChangeSpec := { name := "diskHalves", fn := fun _ => fun
  | [d1, d2, d3] => { results := [.lit (.bool true)], args := [d1, d2, d3] }
  | _ => none }
def diskHalvesRow : OpenClaim := { program := "ytfdilhoeikkhoaa", sum := "a1b374c29753126717e96df319b6b313b591aca7e5c2bc16b8af12777d44a406", func := "cornhill/cornhilllaw22.DiskHalves", spec := "diskHalves", apart := false }
def DiskHalvesSaid : Prop := diskHalvesRow.holds Try.pinned (OpenSpec.ofChange diskHalvesSpec)

/-- ITS FALSE NEIGHBOUR: 'it returns false'. Refute it at one input. -/
def diskHalvesWrong : ChangeSpec := { name := "diskHalves", fn := fun _ => fun
  | [d1, d2, d3] => { results := [.lit (.bool false)], args := [d1, d2, d3] }
  | _ => none }
def DiskHalvesWrongFalsely : Prop := diskHalvesRow.holds Try.pinned (OpenSpec.ofChange diskHalvesWrong)

/-- 'cornhilllaw22.DiskNumbers': WHATEVER THE INPUT: true; the input reads as it did. -/
def diskNumbersSpec : ChangeSpec := { name := "diskNumbers", fn := fun _ => fun
  | [] => { results := [.lit (.bool true)], args := [] }
  | _ => none }
def diskNumbersRow : OpenClaim := { program := "ytfdilhoeikkhoaa", sum := "a1b374c29753126717e96df319b6b313b591aca7e5c2bc16b8af12777d44a406", func := "cornhill/cornhilllaw22.DiskNumbers", spec := "diskNumbers", apart := false }
def DiskNumbersSaid : Prop := diskNumbersRow.holds Try.pinned (OpenSpec.ofChange diskNumbersSpec)

/-- ITS FALSE NEIGHBOUR: 'it returns false'. Refute it at one input. -/
def diskNumbersWrong : ChangeSpec := { name := "diskNumbers", fn := fun _ => fun
  | [] => { results := [.lit (.bool false)], args := [] }
  | _ => none }
def DiskNumbersWrongFalsely : Prop := diskNumbersRow.holds Try.pinned (OpenSpec.ofChange diskNumbersWrong)

/-- 'cornhilllaw22.DiskPlays': WHATEVER THE INPUT: true; the input reads as it did. -/
def diskPlaysSpec : ChangeSpec := { name := "diskPlays", fn := fun _ => fun
  | [d] => { results := [.lit (.bool true)], args := [d] }
  | _ => none }
def diskPlaysRow : OpenClaim := { program := "ytfdilhoeikkhoaa", sum := "a1b374c29753126717e96df319b6b313b591aca7e5c2bc16b8af12777d44a406", func := "cornhill/cornhilllaw22.DiskPlays", spec := "diskPlays", apart := false }
def DiskPlaysSaid : Prop := diskPlaysRow.holds Try.pinned (OpenSpec.ofChange diskPlaysSpec)

/-- ITS FALSE NEIGHBOUR: 'it returns false'. Refute it at one input. -/
def diskPlaysWrong : ChangeSpec := { name := "diskPlays", fn := fun _ => fun
  | [d] => { results := [.lit (.bool false)], args := [d] }
  | _ => none }
def DiskPlaysWrongFalsely : Prop := diskPlaysRow.holds Try.pinned (OpenSpec.ofChange diskPlaysWrong)

/-- 'cornhilllaw22.DiskSafe': WHATEVER THE INPUT: true; the input reads as it did. -/
def diskSafeSpec : ChangeSpec := { name := "diskSafe", fn := fun _ => fun
  | [d1, d2, d3, d4] => { results := [.lit (.bool true)], args := [d1, d2, d3, d4] }
  | _ => none }
def diskSafeRow : OpenClaim := { program := "ytfdilhoeikkhoaa", sum := "a1b374c29753126717e96df319b6b313b591aca7e5c2bc16b8af12777d44a406", func := "cornhill/cornhilllaw22.DiskSafe", spec := "diskSafe", apart := false }
def DiskSafeSaid : Prop := diskSafeRow.holds Try.pinned (OpenSpec.ofChange diskSafeSpec)

/-- ITS FALSE NEIGHBOUR: 'it returns false'. Refute it at one input. -/
def diskSafeWrong : ChangeSpec := { name := "diskSafe", fn := fun _ => fun
  | [d1, d2, d3, d4] => { results := [.lit (.bool false)], args := [d1, d2, d3, d4] }
  | _ => none }
def DiskSafeWrongFalsely : Prop := diskSafeRow.holds Try.pinned (OpenSpec.ofChange diskSafeWrong)

/-- 'cornhilllaw22.DiskKept': WHATEVER THE INPUT: true; the input reads as it did. -/
def diskKeptSpec : ChangeSpec := { name := "diskKept", fn := fun _ => fun
  | [d] => { results := [.lit (.bool true)], args := [d] }
  | _ => none }
def diskKeptRow : OpenClaim := { program := "ytfdilhoeikkhoaa", sum := "a1b374c29753126717e96df319b6b313b591aca7e5c2bc16b8af12777d44a406", func := "cornhill/cornhilllaw22.DiskKept", spec := "diskKept", apart := false }
def DiskKeptSaid : Prop := diskKeptRow.holds Try.pinned (OpenSpec.ofChange diskKeptSpec)

/-- ITS FALSE NEIGHBOUR: 'it returns false'. Refute it at one input. -/
def diskKeptWrong : ChangeSpec := { name := "diskKept", fn := fun _ => fun
  | [d] => { results := [.lit (.bool false)], args := [d] }
  | _ => none }
def DiskKeptWrongFalsely : Prop := diskKeptRow.holds Try.pinned (OpenSpec.ofChange diskKeptWrong)

/- THE SECOND FORM. 'bulk': how many values and letters a reading holds, each counted each time it is reached (what is shared counts as often as it is met; a slice's spare places count too). A statement '..UptoSaid' is the law's where the arguments, and the package variables that the reading takes, are together of bulk at most 1048576: NARROWER than '..Said'. Prove '..Said' where nothing that the law and all that it calls make is longer than what came in: it says more and counts as full. Else prove '..UptoSaid'. A law counts once. -/
mutual
def uptoBulk {H : Type} : DataW H → Nat
  | .lit (.string bytes) => bytes.length + 1
  | .lit _ => 1
  | .nil => 1
  | .ptr d => uptoBulk d + 1
  | .slice elems spare => uptoBulkAll elems + uptoBulkAll spare + 1
  | .agg parts => uptoBulkAll parts + 1
  | .iface _ d => uptoBulk d + 1
  | .map entries => uptoBulkEntries entries + 1
  | .held _ => 1
def uptoBulkAll {H : Type} : List (DataW H) → Nat
  | [] => 0
  | d :: r => uptoBulk d + uptoBulkAll r
def uptoBulkEntries {H : Type} : List (Lit × DataW H) → Nat
  | [] => 0
  | x :: r => uptoBulkEntry x + uptoBulkEntries r
def uptoBulkEntry {H : Type} : Lit × DataW H → Nat
  | (.string bytes, d) => bytes.length + uptoBulk d + 1
  | (_, d) => uptoBulk d + 1
 end
def uptoSmall : (H : Type) → List (DataW H) → Bool := fun _ ds => decide (uptoBulkAll ds ≤ 1048576)
def OpenSpec.upto (s : _root_.Go.ChangeSpec) : _root_.Go.OpenSpec := { _root_.Go.OpenSpec.ofChange s with cond := some uptoSmall }

/-- 'cornhilllaw22.DiskRounds', WHERE WHAT IT READS IS OF BULK AT MOST 1048576: true; the input reads as it did. -/
def diskRoundsUptoRow : OpenClaim := { program := "ytfdilhoeikkhoaa", sum := "a1b374c29753126717e96df319b6b313b591aca7e5c2bc16b8af12777d44a406", func := "cornhill/cornhilllaw22.DiskRounds", spec := "diskRounds", apart := false, narrowed := true }
def DiskRoundsUptoSaid : Prop := diskRoundsUptoRow.holds Try.pinned (OpenSpec.upto diskRoundsSpec)

/-- 'cornhilllaw22.DiskHalves', WHERE WHAT IT READS IS OF BULK AT MOST 1048576: true; the input reads as it did. -/
def diskHalvesUptoRow : OpenClaim := { program := "ytfdilhoeikkhoaa", sum := "a1b374c29753126717e96df319b6b313b591aca7e5c2bc16b8af12777d44a406", func := "cornhill/cornhilllaw22.DiskHalves", spec := "diskHalves", apart := false, narrowed := true }
def DiskHalvesUptoSaid : Prop := diskHalvesUptoRow.holds Try.pinned (OpenSpec.upto diskHalvesSpec)

/-- 'cornhilllaw22.DiskNumbers', WHERE WHAT IT READS IS OF BULK AT MOST 1048576: true; the input reads as it did. -/
def diskNumbersUptoRow : OpenClaim := { program := "ytfdilhoeikkhoaa", sum := "a1b374c29753126717e96df319b6b313b591aca7e5c2bc16b8af12777d44a406", func := "cornhill/cornhilllaw22.DiskNumbers", spec := "diskNumbers", apart := false, narrowed := true }
def DiskNumbersUptoSaid : Prop := diskNumbersUptoRow.holds Try.pinned (OpenSpec.upto diskNumbersSpec)

/-- 'cornhilllaw22.DiskPlays', WHERE WHAT IT READS IS OF BULK AT MOST 1048576: true; the input reads as it did. -/
def diskPlaysUptoRow : OpenClaim := { program := "ytfdilhoeikkhoaa", sum := "a1b374c29753126717e96df319b6b313b591aca7e5c2bc16b8af12777d44a406", func := "cornhill/cornhilllaw22.DiskPlays", spec := "diskPlays", apart := false, narrowed := true }
def DiskPlaysUptoSaid : Prop := diskPlaysUptoRow.holds Try.pinned (OpenSpec.upto diskPlaysSpec)

/-- 'cornhilllaw22.DiskSafe', WHERE WHAT IT READS IS OF BULK AT MOST 1048576: true; the input reads as it did. -/
def diskSafeUptoRow : OpenClaim := { program := "ytfdilhoeikkhoaa", sum := "a1b374c29753126717e96df319b6b313b591aca7e5c2bc16b8af12777d44a406", func := "cornhill/cornhilllaw22.DiskSafe", spec := "diskSafe", apart := false, narrowed := true }
def DiskSafeUptoSaid : Prop := diskSafeUptoRow.holds Try.pinned (OpenSpec.upto diskSafeSpec)

/-- 'cornhilllaw22.DiskKept', WHERE WHAT IT READS IS OF BULK AT MOST 1048576: true; the input reads as it did. -/
def diskKeptUptoRow : OpenClaim := { program := "ytfdilhoeikkhoaa", sum := "a1b374c29753126717e96df319b6b313b591aca7e5c2bc16b8af12777d44a406", func := "cornhill/cornhilllaw22.DiskKept", spec := "diskKept", apart := false, narrowed := true }
def DiskKeptUptoSaid : Prop := diskKeptUptoRow.holds Try.pinned (OpenSpec.upto diskKeptSpec)

end Rows
end Go.Proofs.Ytfdilhoeikkhoaa
