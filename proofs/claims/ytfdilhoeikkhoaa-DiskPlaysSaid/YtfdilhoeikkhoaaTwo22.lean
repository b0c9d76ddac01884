/-
  Two disks beside one another; cutting bytes.
-/
import Derived.Test.YtfdilhoeikkhoaaKnown22
import Derived.Test.YtfdilhoeikkhoaaWithin
namespace Go.Proofs.Ytfdilhoeikkhoaa
open Go.RowKit
set_option linter.unusedVariables false

/-- Two objects (a block, and the row that it has) are apart. -/
structure Far (d : Nat) (r : Option Nat) (e : Nat) (s : Option Nat) : Prop where
  ne : d ≠ e
  row : some d ≠ s
  other : some e ≠ r
  rows : ∀ g, r = some g → some g ≠ s
theorem Far.symm {d e : Nat} {r s : Option Nat} (h : Far d r e s) : Far e s d r := ⟨h.ne.symm, h.other, h.row, fun g hg hr => h.rows g hr.symm hg.symm⟩
/-- The second has another row, an old one or a new one. -/
theorem Far.grow {w : World} {d e : Nat} {r s s' : Option Nat} {l : List UInt8} {n : Nat} (h : Far d r e s) (D : DiskAt w d r l n) (hs : s' = s ∨ ∀ g, s' = some g → w.heap.size ≤ g) : Far d r e s' := by
  rcases hs with rfl | hs
  · exact h
  · refine ⟨h.ne, fun he => ?_, h.other, fun g hg he => ?_⟩
    · have := hs d he.symm; have := D.row_lt.1; omega
    · have := hs g he.symm; have := (D.row_lt.2 g hg).2; omega
/-- The first disk is as it was when something is done with the second. -/
theorem DiskAt.far {w w' : World} {d e : Nat} {r s : Option Nat} {l : List UInt8} {n : Nat} (h : DiskAt w d r l n) (hb : Leaves e s w w') (hf : Far d r e s) : DiskAt w' d r l n :=
  h.other hb hf.ne hf.row fun g hg => ⟨fun he => hf.other (by rw [hg, he]), hf.rows g hg⟩

end Go.Proofs.Ytfdilhoeikkhoaa
