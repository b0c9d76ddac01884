/-
  No cell of these rows narrows 'for every input' (looked for: loops, veiled, ifaces, maps, wideKeys, modest, calm, conditions, laid).
  DERIVED. THE GIVEN ROWS OF THIS SEAT. 6 by the template 'for every input the law returns true; each argument reads behind the call as it read before'; 0 by the template 'total and deterministic' (their statements: YtbngligkmapbgaaTotals.lean).
  GIVEN WITH THE SEED: the statements are not yours to turn. If you find one false, say at which input.
  Laid BY PROGRAM, IN A SANDBOX (cutbox-rows.mjs): the forced cells as the released guide's own fill.sh prints them over the translation 80a499c92609c8d3… (all of the seat's roots in one cut). By AI agents, Wed Nov 11 2026. No macro, syntax, notation, axiom, sorry.
-/
import Derived.Test.YtbngligkmapbgaaChecked
import GoSem.Claim
import GoSem.ClaimJoined
import GoSem.ClaimMapViews
import Derived.JoinedTies
import Derived.KernelRfl
namespace Go.Proofs.Ytbngligkmapbgaa
/- THE CELL 'sum', in the pinned program and in every row, IS THE sha256 OF THE DUMP (.gsa) THAT YtbngligkmapbgaaProg.lean LOADS. Nothing in Lean hashes anything: it is a label: what it is worth is what the hold of that sum in a sandbox is worth. -/
noncomputable def Try.pinned : Pinned := { name := "ytbngligkmapbgaa", sum := "80a499c92609c8d3e18092cb16665fe11eaa3939a6ba44c21a2656ef8356acdd", checked := Try.checked }
namespace Rows
def none {H : Type} : Left H := { results := [], args := [] }

/-- 'cornhilllaw1.IntsShares': WHATEVER THE INPUT: true; the input reads as it did. -/
def intsSharesSpec : ChangeSpec := { name := "intsShares", fn := fun _ => fun
  | [d1, d2, d3] => { results := [.lit (.bool true)], args := [d1, d2, d3] }
  | _ => none }
def intsSharesRow : OpenClaim := { program := "ytbngligkmapbgaa", sum := "80a499c92609c8d3e18092cb16665fe11eaa3939a6ba44c21a2656ef8356acdd", func := "cornhill/cornhilllaw1.IntsShares", spec := "intsShares", named := ["math/bits.divideError", "math/bits.overflowError"], apart := false }
def IntsSharesSaid : Prop := intsSharesRow.holds Try.pinned (OpenSpec.ofChange intsSharesSpec)

/-- ITS FALSE NEIGHBOUR: 'it returns false'. Refute it at one input. -/
def intsSharesWrong : ChangeSpec := { name := "intsShares", fn := fun _ => fun
  | [d1, d2, d3] => { results := [.lit (.bool false)], args := [d1, d2, d3] }
  | _ => none }
def IntsSharesWrongFalsely : Prop := intsSharesRow.holds Try.pinned (OpenSpec.ofChange intsSharesWrong)

/-- 'cornhilllaw1.IntsBounds': WHATEVER THE INPUT: true; the input reads as it did. -/
def intsBoundsSpec : ChangeSpec := { name := "intsBounds", fn := fun _ => fun
  | [d1, d2] => { results := [.lit (.bool true)], args := [d1, d2] }
  | _ => none }
def intsBoundsRow : OpenClaim := { program := "ytbngligkmapbgaa", sum := "80a499c92609c8d3e18092cb16665fe11eaa3939a6ba44c21a2656ef8356acdd", func := "cornhill/cornhilllaw1.IntsBounds", spec := "intsBounds", named := ["math/bits.divideError", "math/bits.overflowError"], apart := false }
def IntsBoundsSaid : Prop := intsBoundsRow.holds Try.pinned (OpenSpec.ofChange intsBoundsSpec)

/-- ITS FALSE NEIGHBOUR: 'it returns false'. Refute it at one input. -/
def intsBoundsWrong : ChangeSpec := { name := "intsBounds", fn := fun _ => fun
  | [d1, d2] => { results := [.lit (.bool false)], args := [d1, d2] }
  | _ => none }
def IntsBoundsWrongFalsely : Prop := intsBoundsRow.holds Try.pinned (OpenSpec.ofChange intsBoundsWrong)

/-- 'cornhilllaw1.IntsRules': WHATEVER THE INPUT: true; the input reads as it did. -/
def intsRulesSpec : ChangeSpec := { name := "intsRules", fn := fun _ => fun
  | [d1, d2] => { results := [.lit (.bool true)], args := [d1, d2] }
  | _ => none }
def intsRulesRow : OpenClaim := { program := "ytbngligkmapbgaa", sum := "80a499c92609c8d3e18092cb16665fe11eaa3939a6ba44c21a2656ef8356acdd", func := "cornhill/cornhilllaw1.IntsRules", spec := "intsRules", named := ["math/bits.divideError", "math/bits.overflowError"], apart := false }
def IntsRulesSaid : Prop := intsRulesRow.holds Try.pinned (OpenSpec.ofChange intsRulesSpec)

/-- ITS FALSE NEIGHBOUR: 'it returns false'. Refute it at one input. -/
def intsRulesWrong : ChangeSpec := { name := "intsRules", fn := fun _ => fun
  | [d1, d2] => { results := [.lit (.bool false)], args := [d1, d2] }
  | _ => none }
def IntsRulesWrongFalsely : Prop := intsRulesRow.holds Try.pinned (OpenSpec.ofChange intsRulesWrong)

/-- 'cornhilllaw1.IntsSums': WHATEVER THE INPUT: true; the input reads as it did. -/
def intsSumsSpec : ChangeSpec := { name := "intsSums", fn := fun _ => fun
  | [d1, d2, d3] => { results := [.lit (.bool true)], args := [d1, d2, d3] }
  | _ => none }
def intsSumsRow : OpenClaim := { program := "ytbngligkmapbgaa", sum := "80a499c92609c8d3e18092cb16665fe11eaa3939a6ba44c21a2656ef8356acdd", func := "cornhill/cornhilllaw1.IntsSums", spec := "intsSums", inPlace := ["math/bits.Add64"], named := ["math/bits.divideError", "math/bits.overflowError"], apart := false }
def IntsSumsSaid : Prop := intsSumsRow.holds Try.pinned (OpenSpec.ofChange intsSumsSpec)

/-- ITS FALSE NEIGHBOUR: 'it returns false'. Refute it at one input. -/
def intsSumsWrong : ChangeSpec := { name := "intsSums", fn := fun _ => fun
  | [d1, d2, d3] => { results := [.lit (.bool false)], args := [d1, d2, d3] }
  | _ => none }
def IntsSumsWrongFalsely : Prop := intsSumsRow.holds Try.pinned (OpenSpec.ofChange intsSumsWrong)

/-- 'cornhilllaw1.IntsNumbers': WHATEVER THE INPUT: true; the input reads as it did. -/
def intsNumbersSpec : ChangeSpec := { name := "intsNumbers", fn := fun _ => fun
  | [] => { results := [.lit (.bool true)], args := [] }
  | _ => none }
def intsNumbersRow : OpenClaim := { program := "ytbngligkmapbgaa", sum := "80a499c92609c8d3e18092cb16665fe11eaa3939a6ba44c21a2656ef8356acdd", func := "cornhill/cornhilllaw1.IntsNumbers", spec := "intsNumbers", inPlace := ["math/bits.Add64"], named := ["math/bits.divideError", "math/bits.overflowError"], apart := false }
def IntsNumbersSaid : Prop := intsNumbersRow.holds Try.pinned (OpenSpec.ofChange intsNumbersSpec)

/-- ITS FALSE NEIGHBOUR: 'it returns false'. Refute it at one input. -/
def intsNumbersWrong : ChangeSpec := { name := "intsNumbers", fn := fun _ => fun
  | [] => { results := [.lit (.bool false)], args := [] }
  | _ => none }
def IntsNumbersWrongFalsely : Prop := intsNumbersRow.holds Try.pinned (OpenSpec.ofChange intsNumbersWrong)

/-- 'cornhilllaw1.IntsTells': WHATEVER THE INPUT: true; the input reads as it did. -/
def intsTellsSpec : ChangeSpec := { name := "intsTells", fn := fun _ => fun
  | [d1, d2, d3, d4] => { results := [.lit (.bool true)], args := [d1, d2, d3, d4] }
  | _ => none }
def intsTellsRow : OpenClaim := { program := "ytbngligkmapbgaa", sum := "80a499c92609c8d3e18092cb16665fe11eaa3939a6ba44c21a2656ef8356acdd", func := "cornhill/cornhilllaw1.IntsTells", spec := "intsTells", inPlace := ["math/bits.Add64"], named := ["math/bits.divideError", "math/bits.overflowError"], apart := false }
def IntsTellsSaid : Prop := intsTellsRow.holds Try.pinned (OpenSpec.ofChange intsTellsSpec)

/-- ITS FALSE NEIGHBOUR: 'it returns false'. Refute it at one input. -/
def intsTellsWrong : ChangeSpec := { name := "intsTells", fn := fun _ => fun
  | [d1, d2, d3, d4] => { results := [.lit (.bool false)], args := [d1, d2, d3, d4] }
  | _ => none }
def IntsTellsWrongFalsely : Prop := intsTellsRow.holds Try.pinned (OpenSpec.ofChange intsTellsWrong)

/- THE SECOND FORM. 'bulk': how many values and letters a reading holds, each counted each time it is reached (what is shared counts as often as it is met; a slice's spare places count too). A statement '..UptoSaid' is the law's where the arguments, and the package variables that the reading takes, are together of bulk at most 1048576: NARROWER than '..Said'. Prove '..Said' where nothing that the law and all that it calls make is longer than what came in: it says more and counts as full. Else prove '..UptoSaid'. A law counts once. -/
mutual
def uptoBulk {H : Type} : DataW H → Nat
  | .lit (.string bytes) => bytes.length + 1
  | .lit _ => 1
  | .nil => 1
  | .ptr d => uptoBulk d + 1
  | .slice elems spare => uptoBulkAll elems + uptoBulkAll spare + 1
  | .agg parts => uptoBulkAll parts + 1
  | .iface _ d => uptoBulk d + 1
  | .map entries => uptoBulkEntries entries + 1
  | .held _ => 1
def uptoBulkAll {H : Type} : List (DataW H) → Nat
  | [] => 0
  | d :: r => uptoBulk d + uptoBulkAll r
def uptoBulkEntries {H : Type} : List (Lit × DataW H) → Nat
  | [] => 0
  | x :: r => uptoBulkEntry x + uptoBulkEntries r
def uptoBulkEntry {H : Type} : Lit × DataW H → Nat
  | (.string bytes, d) => bytes.length + uptoBulk d + 1
  | (_, d) => uptoBulk d + 1
 end
def uptoSmall : (H : Type) → List (DataW H) → Bool := fun _ ds => decide (uptoBulkAll ds ≤ 1048576)
def OpenSpec.upto (s : _root_.Go.ChangeSpec) : _root_.Go.OpenSpec := { _root_.Go.OpenSpec.ofChange s with cond := some uptoSmall }

/-- 'cornhilllaw1.IntsShares', WHERE WHAT IT READS IS OF BULK AT MOST 1048576: true; the input reads as it did. -/
def intsSharesUptoRow : OpenClaim := { program := "ytbngligkmapbgaa", sum := "80a499c92609c8d3e18092cb16665fe11eaa3939a6ba44c21a2656ef8356acdd", func := "cornhill/cornhilllaw1.IntsShares", spec := "intsShares", named := ["math/bits.divideError", "math/bits.overflowError"], apart := false, narrowed := true }
def IntsSharesUptoSaid : Prop := intsSharesUptoRow.holds Try.pinned (OpenSpec.upto intsSharesSpec)

/-- 'cornhilllaw1.IntsBounds', WHERE WHAT IT READS IS OF BULK AT MOST 1048576: true; the input reads as it did. -/
def intsBoundsUptoRow : OpenClaim := { program := "ytbngligkmapbgaa", sum := "80a499c92609c8d3e18092cb16665fe11eaa3939a6ba44c21a2656ef8356acdd", func := "cornhill/cornhilllaw1.IntsBounds", spec := "intsBounds", named := ["math/bits.divideError", "math/bits.overflowError"], apart := false, narrowed := true }
def IntsBoundsUptoSaid : Prop := intsBoundsUptoRow.holds Try.pinned (OpenSpec.upto intsBoundsSpec)

/-- 'cornhilllaw1.IntsRules', WHERE WHAT IT READS IS OF BULK AT MOST 1048576: true; the input reads as it did. -/
def intsRulesUptoRow : OpenClaim := { program := "ytbngligkmapbgaa", sum := "80a499c92609c8d3e18092cb16665fe11eaa3939a6ba44c21a2656ef8356acdd", func := "cornhill/cornhilllaw1.IntsRules", spec := "intsRules", named := ["math/bits.divideError", "math/bits.overflowError"], apart := false, narrowed := true }
def IntsRulesUptoSaid : Prop := intsRulesUptoRow.holds Try.pinned (OpenSpec.upto intsRulesSpec)

/-- 'cornhilllaw1.IntsSums', WHERE WHAT IT READS IS OF BULK AT MOST 1048576: true; the input reads as it did. -/
def intsSumsUptoRow : OpenClaim := { program := "ytbngligkmapbgaa", sum := "80a499c92609c8d3e18092cb16665fe11eaa3939a6ba44c21a2656ef8356acdd", func := "cornhill/cornhilllaw1.IntsSums", spec := "intsSums", inPlace := ["math/bits.Add64"], named := ["math/bits.divideError", "math/bits.overflowError"], apart := false, narrowed := true }
def IntsSumsUptoSaid : Prop := intsSumsUptoRow.holds Try.pinned (OpenSpec.upto intsSumsSpec)

/-- 'cornhilllaw1.IntsNumbers', WHERE WHAT IT READS IS OF BULK AT MOST 1048576: true; the input reads as it did. -/
def intsNumbersUptoRow : OpenClaim := { program := "ytbngligkmapbgaa", sum := "80a499c92609c8d3e18092cb16665fe11eaa3939a6ba44c21a2656ef8356acdd", func := "cornhill/cornhilllaw1.IntsNumbers", spec := "intsNumbers", inPlace := ["math/bits.Add64"], named := ["math/bits.divideError", "math/bits.overflowError"], apart := false, narrowed := true }
def IntsNumbersUptoSaid : Prop := intsNumbersUptoRow.holds Try.pinned (OpenSpec.upto intsNumbersSpec)

/-- 'cornhilllaw1.IntsTells', WHERE WHAT IT READS IS OF BULK AT MOST 1048576: true; the input reads as it did. -/
def intsTellsUptoRow : OpenClaim := { program := "ytbngligkmapbgaa", sum := "80a499c92609c8d3e18092cb16665fe11eaa3939a6ba44c21a2656ef8356acdd", func := "cornhill/cornhilllaw1.IntsTells", spec := "intsTells", inPlace := ["math/bits.Add64"], named := ["math/bits.divideError", "math/bits.overflowError"], apart := false, narrowed := true }
def IntsTellsUptoSaid : Prop := intsTellsUptoRow.holds Try.pinned (OpenSpec.upto intsTellsSpec)

end Rows
end Go.Proofs.Ytbngligkmapbgaa
