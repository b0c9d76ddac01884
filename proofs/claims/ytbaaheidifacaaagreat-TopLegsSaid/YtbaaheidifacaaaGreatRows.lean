/-
  No cell of these rows narrows 'for every input' (looked for: loops, veiled, ifaces, maps, wideKeys, modest, calm, conditions, laid).
  DERIVED. THE GIVEN ROWS OF THIS SEAT. 11 by the template 'for every input the law returns true; each argument reads behind the call as it read before'; 0 by the template 'total and deterministic' (their statements: YtbaaheidifacaaaGreatTotals.lean).
  GIVEN WITH THE SEED: the statements are not yours to turn. If you find one false, say at which input.
  Laid BY PROGRAM, IN A SANDBOX (cutbox-rows.mjs): the forced cells as the released guide's own fill.sh prints them over the translation 5aa01d82c9fa7e05… (all of the seat's roots in one cut). By AI agents, Wed Nov 11 2026. No macro, syntax, notation, axiom, sorry.
-/
import Derived.Test.YtbaaheidifacaaaGreatChecked
import GoSem.Claim
import GoSem.ClaimJoined
import GoSem.ClaimMapViews
import Derived.JoinedTies
import Derived.KernelRfl
namespace Go.Proofs.YtbaaheidifacaaaGreat
/- THE CELL 'sum', in the pinned program and in every row, IS THE sha256 OF THE DUMP (.gsa) THAT YtbaaheidifacaaaGreatProg.lean LOADS. Nothing in Lean hashes anything: it is a label: what it is worth is what the hold of that sum in a sandbox is worth. -/
noncomputable def Tryz.pinned : Pinned := { name := "ytbaaheidifacaaagreat", sum := "5aa01d82c9fa7e053451112f8a15ad917e8b1df54ac1ef793df21b7091a8bebc", checked := Tryz.checked }
namespace Rows
def none {H : Type} : Left H := { results := [], args := [] }

/-- 'cornhilltop.TopLegs': WHATEVER THE INPUT: true; the input reads as it did. -/
def topLegsSpec : ChangeSpec := { name := "topLegs", fn := fun _ => fun
  | [d1, d2] => { results := [.lit (.bool true)], args := [d1, d2] }
  | _ => none }
def topLegsRow : OpenClaim := { program := "ytbaaheidifacaaagreat", sum := "5aa01d82c9fa7e053451112f8a15ad917e8b1df54ac1ef793df21b7091a8bebc", func := "cornhill/cornhilltop.TopLegs", spec := "topLegs", inPlace := ["maps.clone", "math/bits.Add64", "slices.overlaps[cornhill/book.rung]"], unfollowed := true, recurses := true, named := ["math/bits.divideError", "math/bits.overflowError"], apart := false }
def TopLegsSaid : Prop := topLegsRow.holds Tryz.pinned (OpenSpec.ofChange topLegsSpec)

/-- ITS FALSE NEIGHBOUR: 'it returns false'. Refute it at one input. -/
def topLegsWrong : ChangeSpec := { name := "topLegs", fn := fun _ => fun
  | [d1, d2] => { results := [.lit (.bool false)], args := [d1, d2] }
  | _ => none }
def TopLegsWrongFalsely : Prop := topLegsRow.holds Tryz.pinned (OpenSpec.ofChange topLegsWrong)

/-- 'cornhilltop.TopLimits': WHATEVER THE INPUT: true; the input reads as it did. -/
def topLimitsSpec : ChangeSpec := { name := "topLimits", fn := fun _ => fun
  | [d1, d2] => { results := [.lit (.bool true)], args := [d1, d2] }
  | _ => none }
def topLimitsRow : OpenClaim := { program := "ytbaaheidifacaaagreat", sum := "5aa01d82c9fa7e053451112f8a15ad917e8b1df54ac1ef793df21b7091a8bebc", func := "cornhill/cornhilltop.TopLimits", spec := "topLimits", inPlace := ["maps.clone", "math/bits.Add64", "slices.overlaps[cornhill/book.rung]"], unfollowed := true, recurses := true, named := ["math/bits.divideError", "math/bits.overflowError"], apart := false }
def TopLimitsSaid : Prop := topLimitsRow.holds Tryz.pinned (OpenSpec.ofChange topLimitsSpec)

/-- ITS FALSE NEIGHBOUR: 'it returns false'. Refute it at one input. -/
def topLimitsWrong : ChangeSpec := { name := "topLimits", fn := fun _ => fun
  | [d1, d2] => { results := [.lit (.bool false)], args := [d1, d2] }
  | _ => none }
def TopLimitsWrongFalsely : Prop := topLimitsRow.holds Tryz.pinned (OpenSpec.ofChange topLimitsWrong)

/-- 'cornhilltop.TopMirror': WHATEVER THE INPUT: true; the input reads as it did. -/
def topMirrorSpec : ChangeSpec := { name := "topMirror", fn := fun _ => fun
  | [d1, d2] => { results := [.lit (.bool true)], args := [d1, d2] }
  | _ => none }
def topMirrorRow : OpenClaim := { program := "ytbaaheidifacaaagreat", sum := "5aa01d82c9fa7e053451112f8a15ad917e8b1df54ac1ef793df21b7091a8bebc", func := "cornhill/cornhilltop.TopMirror", spec := "topMirror", inPlace := ["maps.clone", "math/bits.Add64", "slices.overlaps[cornhill/book.rung]"], unfollowed := true, recurses := true, named := ["math/bits.divideError", "math/bits.overflowError"], apart := false }
def TopMirrorSaid : Prop := topMirrorRow.holds Tryz.pinned (OpenSpec.ofChange topMirrorSpec)

/-- ITS FALSE NEIGHBOUR: 'it returns false'. Refute it at one input. -/
def topMirrorWrong : ChangeSpec := { name := "topMirror", fn := fun _ => fun
  | [d1, d2] => { results := [.lit (.bool false)], args := [d1, d2] }
  | _ => none }
def TopMirrorWrongFalsely : Prop := topMirrorRow.holds Tryz.pinned (OpenSpec.ofChange topMirrorWrong)

/-- 'cornhilltop.TopTicks': WHATEVER THE INPUT: true; the input reads as it did. -/
def topTicksSpec : ChangeSpec := { name := "topTicks", fn := fun _ => fun
  | [d1, d2, d3] => { results := [.lit (.bool true)], args := [d1, d2, d3] }
  | _ => none }
def topTicksRow : OpenClaim := { program := "ytbaaheidifacaaagreat", sum := "5aa01d82c9fa7e053451112f8a15ad917e8b1df54ac1ef793df21b7091a8bebc", func := "cornhill/cornhilltop.TopTicks", spec := "topTicks", inPlace := ["maps.clone", "math/bits.Add64", "slices.overlaps[cornhill/book.rung]"], unfollowed := true, recurses := true, named := ["math/bits.divideError", "math/bits.overflowError"], apart := false }
def TopTicksSaid : Prop := topTicksRow.holds Tryz.pinned (OpenSpec.ofChange topTicksSpec)

/-- ITS FALSE NEIGHBOUR: 'it returns false'. Refute it at one input. -/
def topTicksWrong : ChangeSpec := { name := "topTicks", fn := fun _ => fun
  | [d1, d2, d3] => { results := [.lit (.bool false)], args := [d1, d2, d3] }
  | _ => none }
def TopTicksWrongFalsely : Prop := topTicksRow.holds Tryz.pinned (OpenSpec.ofChange topTicksWrong)

/-- 'cornhilltop.TopScale': WHATEVER THE INPUT: true; the input reads as it did. -/
def topScaleSpec : ChangeSpec := { name := "topScale", fn := fun _ => fun
  | [d1, d2, d3] => { results := [.lit (.bool true)], args := [d1, d2, d3] }
  | _ => none }
def topScaleRow : OpenClaim := { program := "ytbaaheidifacaaagreat", sum := "5aa01d82c9fa7e053451112f8a15ad917e8b1df54ac1ef793df21b7091a8bebc", func := "cornhill/cornhilltop.TopScale", spec := "topScale", inPlace := ["maps.clone", "math/bits.Add64", "slices.overlaps[cornhill/book.rung]"], unfollowed := true, recurses := true, named := ["math/bits.divideError", "math/bits.overflowError"], apart := false }
def TopScaleSaid : Prop := topScaleRow.holds Tryz.pinned (OpenSpec.ofChange topScaleSpec)

/-- ITS FALSE NEIGHBOUR: 'it returns false'. Refute it at one input. -/
def topScaleWrong : ChangeSpec := { name := "topScale", fn := fun _ => fun
  | [d1, d2, d3] => { results := [.lit (.bool false)], args := [d1, d2, d3] }
  | _ => none }
def TopScaleWrongFalsely : Prop := topScaleRow.holds Tryz.pinned (OpenSpec.ofChange topScaleWrong)

/-- 'cornhilltop.TopRenamed': WHATEVER THE INPUT: true; the input reads as it did. -/
def topRenamedSpec : ChangeSpec := { name := "topRenamed", fn := fun _ => fun
  | [d1, d2, d3, d4] => { results := [.lit (.bool true)], args := [d1, d2, d3, d4] }
  | _ => none }
def topRenamedRow : OpenClaim := { program := "ytbaaheidifacaaagreat", sum := "5aa01d82c9fa7e053451112f8a15ad917e8b1df54ac1ef793df21b7091a8bebc", func := "cornhill/cornhilltop.TopRenamed", spec := "topRenamed", inPlace := ["maps.clone", "math/bits.Add64", "slices.overlaps[cornhill/book.rung]"], unfollowed := true, recurses := true, named := ["math/bits.divideError", "math/bits.overflowError"], apart := false }
def TopRenamedSaid : Prop := topRenamedRow.holds Tryz.pinned (OpenSpec.ofChange topRenamedSpec)

/-- ITS FALSE NEIGHBOUR: 'it returns false'. Refute it at one input. -/
def topRenamedWrong : ChangeSpec := { name := "topRenamed", fn := fun _ => fun
  | [d1, d2, d3, d4] => { results := [.lit (.bool false)], args := [d1, d2, d3, d4] }
  | _ => none }
def TopRenamedWrongFalsely : Prop := topRenamedRow.holds Tryz.pinned (OpenSpec.ofChange topRenamedWrong)

/-- 'cornhilltop.TopArrival': WHATEVER THE INPUT: true; the input reads as it did. -/
def topArrivalSpec : ChangeSpec := { name := "topArrival", fn := fun _ => fun
  | [d1, d2, d3] => { results := [.lit (.bool true)], args := [d1, d2, d3] }
  | _ => none }
def topArrivalRow : OpenClaim := { program := "ytbaaheidifacaaagreat", sum := "5aa01d82c9fa7e053451112f8a15ad917e8b1df54ac1ef793df21b7091a8bebc", func := "cornhill/cornhilltop.TopArrival", spec := "topArrival", inPlace := ["maps.clone", "math/bits.Add64", "slices.overlaps[cornhill/book.rung]"], unfollowed := true, recurses := true, named := ["math/bits.divideError", "math/bits.overflowError"], apart := false }
def TopArrivalSaid : Prop := topArrivalRow.holds Tryz.pinned (OpenSpec.ofChange topArrivalSpec)

/-- ITS FALSE NEIGHBOUR: 'it returns false'. Refute it at one input. -/
def topArrivalWrong : ChangeSpec := { name := "topArrival", fn := fun _ => fun
  | [d1, d2, d3] => { results := [.lit (.bool false)], args := [d1, d2, d3] }
  | _ => none }
def TopArrivalWrongFalsely : Prop := topArrivalRow.holds Tryz.pinned (OpenSpec.ofChange topArrivalWrong)

/-- 'cornhilltop.TopOneSession': WHATEVER THE INPUT: true; the input reads as it did. -/
def topOneSessionSpec : ChangeSpec := { name := "topOneSession", fn := fun _ => fun
  | [d1, d2, d3] => { results := [.lit (.bool true)], args := [d1, d2, d3] }
  | _ => none }
def topOneSessionRow : OpenClaim := { program := "ytbaaheidifacaaagreat", sum := "5aa01d82c9fa7e053451112f8a15ad917e8b1df54ac1ef793df21b7091a8bebc", func := "cornhill/cornhilltop.TopOneSession", spec := "topOneSession", inPlace := ["maps.clone", "math/bits.Add64", "slices.overlaps[cornhill/book.rung]"], unfollowed := true, recurses := true, named := ["math/bits.divideError", "math/bits.overflowError"], apart := false }
def TopOneSessionSaid : Prop := topOneSessionRow.holds Tryz.pinned (OpenSpec.ofChange topOneSessionSpec)

/-- ITS FALSE NEIGHBOUR: 'it returns false'. Refute it at one input. -/
def topOneSessionWrong : ChangeSpec := { name := "topOneSession", fn := fun _ => fun
  | [d1, d2, d3] => { results := [.lit (.bool false)], args := [d1, d2, d3] }
  | _ => none }
def TopOneSessionWrongFalsely : Prop := topOneSessionRow.holds Tryz.pinned (OpenSpec.ofChange topOneSessionWrong)

/-- 'cornhilltop.TopShown': WHATEVER THE INPUT: true; the input reads as it did. -/
def topShownSpec : ChangeSpec := { name := "topShown", fn := fun _ => fun
  | [d1, d2] => { results := [.lit (.bool true)], args := [d1, d2] }
  | _ => none }
def topShownRow : OpenClaim := { program := "ytbaaheidifacaaagreat", sum := "5aa01d82c9fa7e053451112f8a15ad917e8b1df54ac1ef793df21b7091a8bebc", func := "cornhill/cornhilltop.TopShown", spec := "topShown", inPlace := ["maps.clone", "math/bits.Add64", "slices.overlaps[cornhill/book.rung]"], unfollowed := true, recurses := true, named := ["math/bits.divideError", "math/bits.overflowError"], apart := false }
def TopShownSaid : Prop := topShownRow.holds Tryz.pinned (OpenSpec.ofChange topShownSpec)

/-- ITS FALSE NEIGHBOUR: 'it returns false'. Refute it at one input. -/
def topShownWrong : ChangeSpec := { name := "topShown", fn := fun _ => fun
  | [d1, d2] => { results := [.lit (.bool false)], args := [d1, d2] }
  | _ => none }
def TopShownWrongFalsely : Prop := topShownRow.holds Tryz.pinned (OpenSpec.ofChange topShownWrong)

/-- 'cornhilltop.TopReplaced': WHATEVER THE INPUT: true; the input reads as it did. -/
def topReplacedSpec : ChangeSpec := { name := "topReplaced", fn := fun _ => fun
  | [d1, d2, d3, d4, d5] => { results := [.lit (.bool true)], args := [d1, d2, d3, d4, d5] }
  | _ => none }
def topReplacedRow : OpenClaim := { program := "ytbaaheidifacaaagreat", sum := "5aa01d82c9fa7e053451112f8a15ad917e8b1df54ac1ef793df21b7091a8bebc", func := "cornhill/cornhilltop.TopReplaced", spec := "topReplaced", inPlace := ["maps.clone", "math/bits.Add64", "slices.overlaps[cornhill/book.rung]"], unfollowed := true, recurses := true, named := ["math/bits.divideError", "math/bits.overflowError"], apart := false }
def TopReplacedSaid : Prop := topReplacedRow.holds Tryz.pinned (OpenSpec.ofChange topReplacedSpec)

/-- ITS FALSE NEIGHBOUR: 'it returns false'. Refute it at one input. -/
def topReplacedWrong : ChangeSpec := { name := "topReplaced", fn := fun _ => fun
  | [d1, d2, d3, d4, d5] => { results := [.lit (.bool false)], args := [d1, d2, d3, d4, d5] }
  | _ => none }
def TopReplacedWrongFalsely : Prop := topReplacedRow.holds Tryz.pinned (OpenSpec.ofChange topReplacedWrong)

/-- 'cornhilltop.TopTaker': WHATEVER THE INPUT: true; the input reads as it did. -/
def topTakerSpec : ChangeSpec := { name := "topTaker", fn := fun _ => fun
  | [d1, d2, d3] => { results := [.lit (.bool true)], args := [d1, d2, d3] }
  | _ => none }
def topTakerRow : OpenClaim := { program := "ytbaaheidifacaaagreat", sum := "5aa01d82c9fa7e053451112f8a15ad917e8b1df54ac1ef793df21b7091a8bebc", func := "cornhill/cornhilltop.TopTaker", spec := "topTaker", inPlace := ["maps.clone", "math/bits.Add64", "slices.overlaps[cornhill/book.rung]"], unfollowed := true, recurses := true, named := ["math/bits.divideError", "math/bits.overflowError"], apart := false }
def TopTakerSaid : Prop := topTakerRow.holds Tryz.pinned (OpenSpec.ofChange topTakerSpec)

/-- ITS FALSE NEIGHBOUR: 'it returns false'. Refute it at one input. -/
def topTakerWrong : ChangeSpec := { name := "topTaker", fn := fun _ => fun
  | [d1, d2, d3] => { results := [.lit (.bool false)], args := [d1, d2, d3] }
  | _ => none }
def TopTakerWrongFalsely : Prop := topTakerRow.holds Tryz.pinned (OpenSpec.ofChange topTakerWrong)

/- THE SECOND FORM. 'bulk': how many values and letters a reading holds, each counted each time it is reached (what is shared counts as often as it is met; a slice's spare places count too). A statement '..UptoSaid' is the law's where the arguments, and the package variables that the reading takes, are together of bulk at most 1048576: NARROWER than '..Said'. Prove '..Said' where nothing that the law and all that it calls make is longer than what came in: it says more and counts as full. Else prove '..UptoSaid'. A law counts once. -/
mutual
def uptoBulk {H : Type} : DataW H → Nat
  | .lit (.string bytes) => bytes.length + 1
  | .lit _ => 1
  | .nil => 1
  | .ptr d => uptoBulk d + 1
  | .slice elems spare => uptoBulkAll elems + uptoBulkAll spare + 1
  | .agg parts => uptoBulkAll parts + 1
  | .iface _ d => uptoBulk d + 1
  | .map entries => uptoBulkEntries entries + 1
  | .held _ => 1
def uptoBulkAll {H : Type} : List (DataW H) → Nat
  | [] => 0
  | d :: r => uptoBulk d + uptoBulkAll r
def uptoBulkEntries {H : Type} : List (Lit × DataW H) → Nat
  | [] => 0
  | x :: r => uptoBulkEntry x + uptoBulkEntries r
def uptoBulkEntry {H : Type} : Lit × DataW H → Nat
  | (.string bytes, d) => bytes.length + uptoBulk d + 1
  | (_, d) => uptoBulk d + 1
 end
def uptoSmall : (H : Type) → List (DataW H) → Bool := fun _ ds => decide (uptoBulkAll ds ≤ 1048576)
def OpenSpec.upto (s : _root_.Go.ChangeSpec) : _root_.Go.OpenSpec := { _root_.Go.OpenSpec.ofChange s with cond := some uptoSmall }

/-- 'cornhilltop.TopLegs', WHERE WHAT IT READS IS OF BULK AT MOST 1048576: true; the input reads as it did. -/
def topLegsUptoRow : OpenClaim := { program := "ytbaaheidifacaaagreat", sum := "5aa01d82c9fa7e053451112f8a15ad917e8b1df54ac1ef793df21b7091a8bebc", func := "cornhill/cornhilltop.TopLegs", spec := "topLegs", inPlace := ["maps.clone", "math/bits.Add64", "slices.overlaps[cornhill/book.rung]"], unfollowed := true, recurses := true, named := ["math/bits.divideError", "math/bits.overflowError"], apart := false, narrowed := true }
def TopLegsUptoSaid : Prop := topLegsUptoRow.holds Tryz.pinned (OpenSpec.upto topLegsSpec)

/-- 'cornhilltop.TopLimits', WHERE WHAT IT READS IS OF BULK AT MOST 1048576: true; the input reads as it did. -/
def topLimitsUptoRow : OpenClaim := { program := "ytbaaheidifacaaagreat", sum := "5aa01d82c9fa7e053451112f8a15ad917e8b1df54ac1ef793df21b7091a8bebc", func := "cornhill/cornhilltop.TopLimits", spec := "topLimits", inPlace := ["maps.clone", "math/bits.Add64", "slices.overlaps[cornhill/book.rung]"], unfollowed := true, recurses := true, named := ["math/bits.divideError", "math/bits.overflowError"], apart := false, narrowed := true }
def TopLimitsUptoSaid : Prop := topLimitsUptoRow.holds Tryz.pinned (OpenSpec.upto topLimitsSpec)

/-- 'cornhilltop.TopMirror', WHERE WHAT IT READS IS OF BULK AT MOST 1048576: true; the input reads as it did. -/
def topMirrorUptoRow : OpenClaim := { program := "ytbaaheidifacaaagreat", sum := "5aa01d82c9fa7e053451112f8a15ad917e8b1df54ac1ef793df21b7091a8bebc", func := "cornhill/cornhilltop.TopMirror", spec := "topMirror", inPlace := ["maps.clone", "math/bits.Add64", "slices.overlaps[cornhill/book.rung]"], unfollowed := true, recurses := true, named := ["math/bits.divideError", "math/bits.overflowError"], apart := false, narrowed := true }
def TopMirrorUptoSaid : Prop := topMirrorUptoRow.holds Tryz.pinned (OpenSpec.upto topMirrorSpec)

/-- 'cornhilltop.TopTicks', WHERE WHAT IT READS IS OF BULK AT MOST 1048576: true; the input reads as it did. -/
def topTicksUptoRow : OpenClaim := { program := "ytbaaheidifacaaagreat", sum := "5aa01d82c9fa7e053451112f8a15ad917e8b1df54ac1ef793df21b7091a8bebc", func := "cornhill/cornhilltop.TopTicks", spec := "topTicks", inPlace := ["maps.clone", "math/bits.Add64", "slices.overlaps[cornhill/book.rung]"], unfollowed := true, recurses := true, named := ["math/bits.divideError", "math/bits.overflowError"], apart := false, narrowed := true }
def TopTicksUptoSaid : Prop := topTicksUptoRow.holds Tryz.pinned (OpenSpec.upto topTicksSpec)

/-- 'cornhilltop.TopScale', WHERE WHAT IT READS IS OF BULK AT MOST 1048576: true; the input reads as it did. -/
def topScaleUptoRow : OpenClaim := { program := "ytbaaheidifacaaagreat", sum := "5aa01d82c9fa7e053451112f8a15ad917e8b1df54ac1ef793df21b7091a8bebc", func := "cornhill/cornhilltop.TopScale", spec := "topScale", inPlace := ["maps.clone", "math/bits.Add64", "slices.overlaps[cornhill/book.rung]"], unfollowed := true, recurses := true, named := ["math/bits.divideError", "math/bits.overflowError"], apart := false, narrowed := true }
def TopScaleUptoSaid : Prop := topScaleUptoRow.holds Tryz.pinned (OpenSpec.upto topScaleSpec)

/-- 'cornhilltop.TopRenamed', WHERE WHAT IT READS IS OF BULK AT MOST 1048576: true; the input reads as it did. -/
def topRenamedUptoRow : OpenClaim := { program := "ytbaaheidifacaaagreat", sum := "5aa01d82c9fa7e053451112f8a15ad917e8b1df54ac1ef793df21b7091a8bebc", func := "cornhill/cornhilltop.TopRenamed", spec := "topRenamed", inPlace := ["maps.clone", "math/bits.Add64", "slices.overlaps[cornhill/book.rung]"], unfollowed := true, recurses := true, named := ["math/bits.divideError", "math/bits.overflowError"], apart := false, narrowed := true }
def TopRenamedUptoSaid : Prop := topRenamedUptoRow.holds Tryz.pinned (OpenSpec.upto topRenamedSpec)

/-- 'cornhilltop.TopArrival', WHERE WHAT IT READS IS OF BULK AT MOST 1048576: true; the input reads as it did. -/
def topArrivalUptoRow : OpenClaim := { program := "ytbaaheidifacaaagreat", sum := "5aa01d82c9fa7e053451112f8a15ad917e8b1df54ac1ef793df21b7091a8bebc", func := "cornhill/cornhilltop.TopArrival", spec := "topArrival", inPlace := ["maps.clone", "math/bits.Add64", "slices.overlaps[cornhill/book.rung]"], unfollowed := true, recurses := true, named := ["math/bits.divideError", "math/bits.overflowError"], apart := false, narrowed := true }
def TopArrivalUptoSaid : Prop := topArrivalUptoRow.holds Tryz.pinned (OpenSpec.upto topArrivalSpec)

/-- 'cornhilltop.TopOneSession', WHERE WHAT IT READS IS OF BULK AT MOST 1048576: true; the input reads as it did. -/
def topOneSessionUptoRow : OpenClaim := { program := "ytbaaheidifacaaagreat", sum := "5aa01d82c9fa7e053451112f8a15ad917e8b1df54ac1ef793df21b7091a8bebc", func := "cornhill/cornhilltop.TopOneSession", spec := "topOneSession", inPlace := ["maps.clone", "math/bits.Add64", "slices.overlaps[cornhill/book.rung]"], unfollowed := true, recurses := true, named := ["math/bits.divideError", "math/bits.overflowError"], apart := false, narrowed := true }
def TopOneSessionUptoSaid : Prop := topOneSessionUptoRow.holds Tryz.pinned (OpenSpec.upto topOneSessionSpec)

/-- 'cornhilltop.TopShown', WHERE WHAT IT READS IS OF BULK AT MOST 1048576: true; the input reads as it did. -/
def topShownUptoRow : OpenClaim := { program := "ytbaaheidifacaaagreat", sum := "5aa01d82c9fa7e053451112f8a15ad917e8b1df54ac1ef793df21b7091a8bebc", func := "cornhill/cornhilltop.TopShown", spec := "topShown", inPlace := ["maps.clone", "math/bits.Add64", "slices.overlaps[cornhill/book.rung]"], unfollowed := true, recurses := true, named := ["math/bits.divideError", "math/bits.overflowError"], apart := false, narrowed := true }
def TopShownUptoSaid : Prop := topShownUptoRow.holds Tryz.pinned (OpenSpec.upto topShownSpec)

/-- 'cornhilltop.TopReplaced', WHERE WHAT IT READS IS OF BULK AT MOST 1048576: true; the input reads as it did. -/
def topReplacedUptoRow : OpenClaim := { program := "ytbaaheidifacaaagreat", sum := "5aa01d82c9fa7e053451112f8a15ad917e8b1df54ac1ef793df21b7091a8bebc", func := "cornhill/cornhilltop.TopReplaced", spec := "topReplaced", inPlace := ["maps.clone", "math/bits.Add64", "slices.overlaps[cornhill/book.rung]"], unfollowed := true, recurses := true, named := ["math/bits.divideError", "math/bits.overflowError"], apart := false, narrowed := true }
def TopReplacedUptoSaid : Prop := topReplacedUptoRow.holds Tryz.pinned (OpenSpec.upto topReplacedSpec)

/-- 'cornhilltop.TopTaker', WHERE WHAT IT READS IS OF BULK AT MOST 1048576: true; the input reads as it did. -/
def topTakerUptoRow : OpenClaim := { program := "ytbaaheidifacaaagreat", sum := "5aa01d82c9fa7e053451112f8a15ad917e8b1df54ac1ef793df21b7091a8bebc", func := "cornhill/cornhilltop.TopTaker", spec := "topTaker", inPlace := ["maps.clone", "math/bits.Add64", "slices.overlaps[cornhill/book.rung]"], unfollowed := true, recurses := true, named := ["math/bits.divideError", "math/bits.overflowError"], apart := false, narrowed := true }
def TopTakerUptoSaid : Prop := topTakerUptoRow.holds Tryz.pinned (OpenSpec.upto topTakerSpec)

end Rows
end Go.Proofs.YtbaaheidifacaaaGreat
