/-
  No cell of these rows narrows 'for every input' (looked for: loops, veiled, ifaces, maps, wideKeys, modest, calm, conditions, laid).
  DERIVED. THE GIVEN ROWS OF THIS SEAT. 6 by the template 'for every input the law returns true; each argument reads behind the call as it read before'; 0 by the template 'total and deterministic' (their statements: YtjahndamfhfjcaaTotals.lean).
  GIVEN WITH THE SEED: the statements are not yours to turn. If you find one false, say at which input.
  Laid BY PROGRAM, IN A SANDBOX (cutbox-rows.mjs): the forced cells as the released guide's own fill.sh prints them over the translation bc0e1a513c1493d5… (all of the seat's roots in one cut). By AI agents, Wed Nov 11 2026. No macro, syntax, notation, axiom, sorry.
-/
import Derived.Test.YtjahndamfhfjcaaChecked
import GoSem.Claim
import GoSem.ClaimJoined
import GoSem.ClaimMapViews
import Derived.JoinedTies
import Derived.KernelRfl
namespace Go.Proofs.Ytjahndamfhfjcaa
/- THE CELL 'sum', in the pinned program and in every row, IS THE sha256 OF THE DUMP (.gsa) THAT YtjahndamfhfjcaaProg.lean LOADS. Nothing in Lean hashes anything: it is a label: what it is worth is what the hold of that sum in a sandbox is worth. -/
noncomputable def Try.pinned : Pinned := { name := "ytjahndamfhfjcaa", sum := "bc0e1a513c1493d58479048431ff14ba654c8d455ffe384460b288ecd4a4dfe3", checked := Try.checked }
namespace Rows
def none {H : Type} : Left H := { results := [], args := [] }

/-- 'cornhilllaw6.CommandFirst': WHATEVER THE INPUT: true; the input reads as it did. -/
def commandFirstSpec : ChangeSpec := { name := "commandFirst", fn := fun _ => fun
  | [d1, d2] => { results := [.lit (.bool true)], args := [d1, d2] }
  | _ => none }
def commandFirstRow : OpenClaim := { program := "ytjahndamfhfjcaa", sum := "bc0e1a513c1493d58479048431ff14ba654c8d455ffe384460b288ecd4a4dfe3", func := "cornhill/cornhilllaw6.CommandFirst", spec := "commandFirst", apart := false }
def CommandFirstSaid : Prop := commandFirstRow.holds Try.pinned (OpenSpec.ofChange commandFirstSpec)

/-- ITS FALSE NEIGHBOUR: 'it returns false'. Refute it at one input. -/
def commandFirstWrong : ChangeSpec := { name := "commandFirst", fn := fun _ => fun
  | [d1, d2] => { results := [.lit (.bool false)], args := [d1, d2] }
  | _ => none }
def CommandFirstWrongFalsely : Prop := commandFirstRow.holds Try.pinned (OpenSpec.ofChange commandFirstWrong)

/-- 'cornhilllaw6.CommandSizes': WHATEVER THE INPUT: true; the input reads as it did. -/
def commandSizesSpec : ChangeSpec := { name := "commandSizes", fn := fun _ => fun
  | [d1, d2] => { results := [.lit (.bool true)], args := [d1, d2] }
  | _ => none }
def commandSizesRow : OpenClaim := { program := "ytjahndamfhfjcaa", sum := "bc0e1a513c1493d58479048431ff14ba654c8d455ffe384460b288ecd4a4dfe3", func := "cornhill/cornhilllaw6.CommandSizes", spec := "commandSizes", apart := false }
def CommandSizesSaid : Prop := commandSizesRow.holds Try.pinned (OpenSpec.ofChange commandSizesSpec)

/-- ITS FALSE NEIGHBOUR: 'it returns false'. Refute it at one input. -/
def commandSizesWrong : ChangeSpec := { name := "commandSizes", fn := fun _ => fun
  | [d1, d2] => { results := [.lit (.bool false)], args := [d1, d2] }
  | _ => none }
def CommandSizesWrongFalsely : Prop := commandSizesRow.holds Try.pinned (OpenSpec.ofChange commandSizesWrong)

/-- 'cornhilllaw6.CommandTypes': WHATEVER THE INPUT: true; the input reads as it did. -/
def commandTypesSpec : ChangeSpec := { name := "commandTypes", fn := fun _ => fun
  | [d1, d2, d3, d4] => { results := [.lit (.bool true)], args := [d1, d2, d3, d4] }
  | _ => none }
def commandTypesRow : OpenClaim := { program := "ytjahndamfhfjcaa", sum := "bc0e1a513c1493d58479048431ff14ba654c8d455ffe384460b288ecd4a4dfe3", func := "cornhill/cornhilllaw6.CommandTypes", spec := "commandTypes", apart := false }
def CommandTypesSaid : Prop := commandTypesRow.holds Try.pinned (OpenSpec.ofChange commandTypesSpec)

/-- ITS FALSE NEIGHBOUR: 'it returns false'. Refute it at one input. -/
def commandTypesWrong : ChangeSpec := { name := "commandTypes", fn := fun _ => fun
  | [d1, d2, d3, d4] => { results := [.lit (.bool false)], args := [d1, d2, d3, d4] }
  | _ => none }
def CommandTypesWrongFalsely : Prop := commandTypesRow.holds Try.pinned (OpenSpec.ofChange commandTypesWrong)

/-- 'cornhilllaw6.CommandTells': WHATEVER THE INPUT: true; the input reads as it did. -/
def commandTellsSpec : ChangeSpec := { name := "commandTells", fn := fun _ => fun
  | [d1, d2, d3, d4] => { results := [.lit (.bool true)], args := [d1, d2, d3, d4] }
  | _ => none }
def commandTellsRow : OpenClaim := { program := "ytjahndamfhfjcaa", sum := "bc0e1a513c1493d58479048431ff14ba654c8d455ffe384460b288ecd4a4dfe3", func := "cornhill/cornhilllaw6.CommandTells", spec := "commandTells", apart := false }
def CommandTellsSaid : Prop := commandTellsRow.holds Try.pinned (OpenSpec.ofChange commandTellsSpec)

/-- ITS FALSE NEIGHBOUR: 'it returns false'. Refute it at one input. -/
def commandTellsWrong : ChangeSpec := { name := "commandTells", fn := fun _ => fun
  | [d1, d2, d3, d4] => { results := [.lit (.bool false)], args := [d1, d2, d3, d4] }
  | _ => none }
def CommandTellsWrongFalsely : Prop := commandTellsRow.holds Try.pinned (OpenSpec.ofChange commandTellsWrong)

/-- 'cornhilllaw6.CommandBack': WHATEVER THE INPUT: true; the input reads as it did. -/
def commandBackSpec : ChangeSpec := { name := "commandBack", fn := fun _ => fun
  | [d1, d2, d3] => { results := [.lit (.bool true)], args := [d1, d2, d3] }
  | _ => none }
def commandBackRow : OpenClaim := { program := "ytjahndamfhfjcaa", sum := "bc0e1a513c1493d58479048431ff14ba654c8d455ffe384460b288ecd4a4dfe3", func := "cornhill/cornhilllaw6.CommandBack", spec := "commandBack", apart := false }
def CommandBackSaid : Prop := commandBackRow.holds Try.pinned (OpenSpec.ofChange commandBackSpec)

/-- ITS FALSE NEIGHBOUR: 'it returns false'. Refute it at one input. -/
def commandBackWrong : ChangeSpec := { name := "commandBack", fn := fun _ => fun
  | [d1, d2, d3] => { results := [.lit (.bool false)], args := [d1, d2, d3] }
  | _ => none }
def CommandBackWrongFalsely : Prop := commandBackRow.holds Try.pinned (OpenSpec.ofChange commandBackWrong)

/-- 'cornhilllaw6.CommandNumbers': WHATEVER THE INPUT: true; the input reads as it did. -/
def commandNumbersSpec : ChangeSpec := { name := "commandNumbers", fn := fun _ => fun
  | [] => { results := [.lit (.bool true)], args := [] }
  | _ => none }
def commandNumbersRow : OpenClaim := { program := "ytjahndamfhfjcaa", sum := "bc0e1a513c1493d58479048431ff14ba654c8d455ffe384460b288ecd4a4dfe3", func := "cornhill/cornhilllaw6.CommandNumbers", spec := "commandNumbers", apart := false }
def CommandNumbersSaid : Prop := commandNumbersRow.holds Try.pinned (OpenSpec.ofChange commandNumbersSpec)

/-- ITS FALSE NEIGHBOUR: 'it returns false'. Refute it at one input. -/
def commandNumbersWrong : ChangeSpec := { name := "commandNumbers", fn := fun _ => fun
  | [] => { results := [.lit (.bool false)], args := [] }
  | _ => none }
def CommandNumbersWrongFalsely : Prop := commandNumbersRow.holds Try.pinned (OpenSpec.ofChange commandNumbersWrong)

/- THE SECOND FORM. 'bulk': how many values and letters a reading holds, each counted each time it is reached (what is shared counts as often as it is met; a slice's spare places count too). A statement '..UptoSaid' is the law's where the arguments, and the package variables that the reading takes, are together of bulk at most 1048576: NARROWER than '..Said'. Prove '..Said' where nothing that the law and all that it calls make is longer than what came in: it says more and counts as full. Else prove '..UptoSaid'. A law counts once. -/
mutual
def uptoBulk {H : Type} : DataW H → Nat
  | .lit (.string bytes) => bytes.length + 1
  | .lit _ => 1
  | .nil => 1
  | .ptr d => uptoBulk d + 1
  | .slice elems spare => uptoBulkAll elems + uptoBulkAll spare + 1
  | .agg parts => uptoBulkAll parts + 1
  | .iface _ d => uptoBulk d + 1
  | .map entries => uptoBulkEntries entries + 1
  | .held _ => 1
def uptoBulkAll {H : Type} : List (DataW H) → Nat
  | [] => 0
  | d :: r => uptoBulk d + uptoBulkAll r
def uptoBulkEntries {H : Type} : List (Lit × DataW H) → Nat
  | [] => 0
  | x :: r => uptoBulkEntry x + uptoBulkEntries r
def uptoBulkEntry {H : Type} : Lit × DataW H → Nat
  | (.string bytes, d) => bytes.length + uptoBulk d + 1
  | (_, d) => uptoBulk d + 1
 end
def uptoSmall : (H : Type) → List (DataW H) → Bool := fun _ ds => decide (uptoBulkAll ds ≤ 1048576)
def OpenSpec.upto (s : _root_.Go.ChangeSpec) : _root_.Go.OpenSpec := { _root_.Go.OpenSpec.ofChange s with cond := some uptoSmall }

/-- 'cornhilllaw6.CommandFirst', WHERE WHAT IT READS IS OF BULK AT MOST 1048576: true; the input reads as it did. -/
def commandFirstUptoRow : OpenClaim := { program := "ytjahndamfhfjcaa", sum := "bc0e1a513c1493d58479048431ff14ba654c8d455ffe384460b288ecd4a4dfe3", func := "cornhill/cornhilllaw6.CommandFirst", spec := "commandFirst", apart := false, narrowed := true }
def CommandFirstUptoSaid : Prop := commandFirstUptoRow.holds Try.pinned (OpenSpec.upto commandFirstSpec)

/-- 'cornhilllaw6.CommandSizes', WHERE WHAT IT READS IS OF BULK AT MOST 1048576: true; the input reads as it did. -/
def commandSizesUptoRow : OpenClaim := { program := "ytjahndamfhfjcaa", sum := "bc0e1a513c1493d58479048431ff14ba654c8d455ffe384460b288ecd4a4dfe3", func := "cornhill/cornhilllaw6.CommandSizes", spec := "commandSizes", apart := false, narrowed := true }
def CommandSizesUptoSaid : Prop := commandSizesUptoRow.holds Try.pinned (OpenSpec.upto commandSizesSpec)

/-- 'cornhilllaw6.CommandTypes', WHERE WHAT IT READS IS OF BULK AT MOST 1048576: true; the input reads as it did. -/
def commandTypesUptoRow : OpenClaim := { program := "ytjahndamfhfjcaa", sum := "bc0e1a513c1493d58479048431ff14ba654c8d455ffe384460b288ecd4a4dfe3", func := "cornhill/cornhilllaw6.CommandTypes", spec := "commandTypes", apart := false, narrowed := true }
def CommandTypesUptoSaid : Prop := commandTypesUptoRow.holds Try.pinned (OpenSpec.upto commandTypesSpec)

/-- 'cornhilllaw6.CommandTells', WHERE WHAT IT READS IS OF BULK AT MOST 1048576: true; the input reads as it did. -/
def commandTellsUptoRow : OpenClaim := { program := "ytjahndamfhfjcaa", sum := "bc0e1a513c1493d58479048431ff14ba654c8d455ffe384460b288ecd4a4dfe3", func := "cornhill/cornhilllaw6.CommandTells", spec := "commandTells", apart := false, narrowed := true }
def CommandTellsUptoSaid : Prop := commandTellsUptoRow.holds Try.pinned (OpenSpec.upto commandTellsSpec)

/-- 'cornhilllaw6.CommandBack', WHERE WHAT IT READS IS OF BULK AT MOST 1048576: true; the input reads as it did. -/
def commandBackUptoRow : OpenClaim := { program := "ytjahndamfhfjcaa", sum := "bc0e1a513c1493d58479048431ff14ba654c8d455ffe384460b288ecd4a4dfe3", func := "cornhill/cornhilllaw6.CommandBack", spec := "commandBack", apart := false, narrowed := true }
def CommandBackUptoSaid : Prop := commandBackUptoRow.holds Try.pinned (OpenSpec.upto commandBackSpec)

/-- 'cornhilllaw6.CommandNumbers', WHERE WHAT IT READS IS OF BULK AT MOST 1048576: true; the input reads as it did. -/
def commandNumbersUptoRow : OpenClaim := { program := "ytjahndamfhfjcaa", sum := "bc0e1a513c1493d58479048431ff14ba654c8d455ffe384460b288ecd4a4dfe3", func := "cornhill/cornhilllaw6.CommandNumbers", spec := "commandNumbers", apart := false, narrowed := true }
def CommandNumbersUptoSaid : Prop := commandNumbersUptoRow.holds Try.pinned (OpenSpec.upto commandNumbersSpec)

end Rows
end Go.Proofs.Ytjahndamfhfjcaa
