/-
  Parts written by both: cornhilllaw4.put.
-/
import Derived.Test.YtbfjdhbgpjenbaaDoorRef4
namespace Go.Proofs.YtbfjdhbgpjenbaaDoor
set_option linter.unusedSimpArgs false
open Go.RowKit
set_option linter.unusedVariables false

/-- No more of a text than this. -/
def headS (s : ByteArray) (n : Nat) : ByteArray := if s.size ≤ n then s else s.extract 0 n
theorem headS_size (s : ByteArray) (n : Nat) : (headS s n).size = min s.size n := by
  unfold headS
  split
  · omega
  · rw [ByteArray.size_extract]; omega
theorem headS_list (s : ByteArray) (n : Nat) : (headS s n).data.toList = s.data.toList.take n := by
  unfold headS
  have h1 : s.data.toList.length = s.size := rfl
  split
  · rw [List.take_of_length_le (by omega)]
  · rw [ByteArray.data_extract, Array.toList_extract]; simp [List.extract]
/-- What a part is written as. -/
def partL (kind num : Int) (s : ByteArray) : List UInt8 := if kind = 1 then le 1 (u64N num) else if kind = 2 then le 8 (u64N num) else textL (headS s 300).data.toList
theorem length_partL (kind num : Int) (s : ByteArray) : (partL kind num s).length ≤ 256 := by
  unfold partL
  split
  · simp [length_le]
  · split
    · simp [length_le]
    · rw [length_textL]; omega
/-- What put answers: both have the part behind what they had. -/
def PutBoth (w : World) (d : Nat) (r : Option Nat) (L : List UInt8) (e : Ending) (w' : World) : Prop :=
  ∃ A c r', e = .returned (.slice A L.length c) ∧ w'.ownsRow w.heap.size 5 1 (.slice A L.length c) L.length (u8s L) ∧ Cells w' A (u8s L) ∧ WriterAt w' d r' L ∧ (r' = r ∨ ∀ g, r' = some g → w.heap.size ≤ g) ∧ (∀ g, (Value.slice A L.length c).ownBlock = some g → some g ≠ r') ∧ Leaves d r w w'
theorem PutBoth.mk {w w1 w2 : World} {d : Nat} {r : Option Nat} {L : List UInt8} {e : Ending} (hW : Wrote w d r L w1) (hF : FreshB w1 L e w2) : PutBoth w d r L e w2 := by
  obtain ⟨⟨r', W, hr⟩, hL⟩ := hW
  obtain ⟨A, c, rfl, own, hA, -, -, hb⟩ := hF
  refine ⟨A, c, r', rfl, own_base own hL.size, hA, W.below hb, hr, fun g hg he => ?_, hL.trans (Leaves.of_below (r := r) hb) (.inl rfl)⟩
  have h1 := (own.lt g hg).1
  have h2 := (W.row_lt.2 g he.symm).2
  omega
end Go.Proofs.YtbfjdhbgpjenbaaDoor
