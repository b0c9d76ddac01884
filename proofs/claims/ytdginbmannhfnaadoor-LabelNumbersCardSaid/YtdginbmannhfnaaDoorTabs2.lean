/-
  What the row's premise on the two tables of unicode/utf8 gives a walk.
-/
import Derived.Test.YtdginbmannhfnaaDoorRows
import Derived.Test.YtdginbmannhfnaaDoorShelf
import Derived.Lib.LaidU8T
import Derived.PinnedBridge
import Derived.ProofKit
import Derived.LaidMore
import Derived.Stop.Joined
namespace Go.Proofs.YtdginbmannhfnaaDoor
open Go.RowKit Go.Lib

theorem tabs_row {l : List (String × DataW Unit)} (h1 : ("unicode/utf8.first", Pinned.utf8First) ∈ l) (h2 : ("unicode/utf8.acceptRanges", Lib.acceptData) ∈ l) (hp : ∀ W, laidMetH Tryd.prog l W = laidMet Tryd.prog l W) {W : World} (h : laidMetH Tryd.prog l W) : Lib.Utf8Tabs 0 1 W := by
  rw [hp] at h
  rw [Pinned.utf8First_eq] at h1
  exact utf8Tabs_of_readsT (U8Types.of260 Tryd.lays260) ⟨by kernel_rfl, by kernel_rfl, by kernel_rfl, by kernel_rfl, by kernel_rfl, by kernel_rfl, by kernel_rfl⟩ (Lib.laidMet.reads h h1) (Lib.laidMet.reads h h2)
theorem accept_eq : (Rows.laid_unicode_utf8_acceptRanges : DataW Unit) = Lib.acceptData := by kernel_rfl
end Go.Proofs.YtdginbmannhfnaaDoor
