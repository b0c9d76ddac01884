/-
  Small letters (latin and greek) as runes.
-/
import Derived.Test.YtdginbmannhfnaaDoorRunesQ
import Derived.Lib.RuneBytes
namespace Go.Proofs.YtdginbmannhfnaaDoor
open Go.RowKit
set_option linter.unusedVariables false

/-- Is it a small letter of the two rows that Fold knows? -/
def lowR (r : Nat) : Bool := decide ((97 ≤ r ∧ r ≤ 122) ∨ (945 ≤ r ∧ r ≤ 969 ∧ r ≠ 962))
theorem headR_low {t : List UInt8} (ht : t ≠ []) (h : lowR (headR t).1 = true) : (headR t).2 = if (headR t).1 < 128 then 1 else 2 := by
  have hp : 0 < t.length := List.length_pos_iff.2 ht
  simp only [lowR, decide_eq_true_eq] at h
  have h0 := (t.getD 0 0).toNat_lt
  have h1 := (t.getD 1 0).toNat_lt
  have h2 := (t.getD 2 0).toNat_lt
  have h3 := (t.getD 3 0).toNat_lt
  revert h
  unfold headR Lib.decodeN
  repeat' split
  all_goals (intro h; first | omega | (simp only [] at *; done) | (simp only [] at *; omega))
/-- The bytes of a small letter's great one. -/
def greatB (r : Nat) : List UInt8 := (Lib.encodeRuneZ ((r : Int) - 32)).map fun x => x.toNat.toUInt8
/-- A text folded. -/
def foldX (x : Nat × List UInt8) : List UInt8 := if lowR x.1 then greatB x.1 else x.2
def foldL (t : List UInt8) : List UInt8 := (runesL t).flatMap foldX
