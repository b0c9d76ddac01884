/-
  Texts as runes, over the model's decoding. No program in sight.
-/
import Derived.Test.YtdginbmannhfnaaDoorBytes
import Derived.Lib.DecodeN
import Derived.Lib.RuneCount
namespace Go.Proofs.YtdginbmannhfnaaDoor
open Go.RowKit
set_option linter.unusedVariables false

/-- The rune at the head of t, and how many bytes it takes. -/
def headR (t : List UInt8) : Nat × Nat := Lib.decodeN t.length (t.getD 0 0).toNat (t.getD 1 0).toNat (t.getD 2 0).toNat (t.getD 3 0).toNat
theorem get_str (l : List UInt8) (i : Nat) : (str l).get! i = l.getD i 0 := by
  by_cases h : i < l.length
  · have h2 : i < (str l).size := by rw [str_size]; exact h
    simp [ByteArray.get!, str, getElem!_pos, h]
  · simp [ByteArray.get!, str, h]; rfl
theorem decode_str (l : List UInt8) (pos : Nat) : Utf8.decode (str l) pos = headR (l.drop pos) := by
  rw [Lib.decode_at]
  unfold headR
  rw [get_str, get_str, get_str, get_str, str_size, List.length_drop]
  simp [List.getD_eq_getElem?_getD]
theorem headR_bd (t : List UInt8) (ht : t ≠ []) : 1 ≤ (headR t).2 ∧ (headR t).2 ≤ t.length ∧ (headR t).2 ≤ 4 := by
  have hp : 0 < t.length := List.length_pos_iff.2 ht
  unfold headR Lib.decodeN
  repeat' split
  all_goals (simp only []; omega)
theorem headR_le (t : List UInt8) : (headR t).1 ≤ 1114111 := by
  have h0 := (t.getD 0 0).toNat_lt
  have h1 := (t.getD 1 0).toNat_lt
  have h2 := (t.getD 2 0).toNat_lt
  have h3 := (t.getD 3 0).toNat_lt
  unfold headR Lib.decodeN
  repeat' split
  all_goals (simp only []; omega)
/-- A text's runes, each with its bytes. -/
def runesF : Nat → List UInt8 → List (Nat × List UInt8)
  | 0, _ => []
  | f + 1, t => if t = [] then [] else ((headR t).1, t.take (headR t).2) :: runesF f (t.drop (headR t).2)
theorem runesF_fuel : ∀ (f g : Nat) (t : List UInt8), t.length ≤ f → t.length ≤ g → runesF f t = runesF g t
  | 0, 0, t, _, _ => rfl
  | 0, g + 1, t, h, _ => by
    have : t = [] := List.eq_nil_of_length_eq_zero (by omega)
    simp [runesF, this]
  | f + 1, 0, t, _, h => by
    have : t = [] := List.eq_nil_of_length_eq_zero (by omega)
    simp [runesF, this]
  | f + 1, g + 1, t, hf, hg => by
    unfold runesF
    by_cases ht : t = []
    · rw [if_pos ht, if_pos ht]
    · have := headR_bd t ht
      rw [if_neg ht, if_neg ht, runesF_fuel f g _ (by rw [List.length_drop]; omega) (by rw [List.length_drop]; omega)]
def runesL (t : List UInt8) : List (Nat × List UInt8) := runesF t.length t
theorem runesL_nil : runesL [] = [] := rfl
theorem runesL_cons {t : List UInt8} (ht : t ≠ []) : runesL t = ((headR t).1, t.take (headR t).2) :: runesL (t.drop (headR t).2) := by
  have hb := headR_bd t ht
  unfold runesL
  rw [runesF_fuel t.length (t.length + 1) t (Nat.le_refl _) (by omega)]
  conv => lhs; unfold runesF
  rw [if_neg ht, runesF_fuel t.length _ _ (by rw [List.length_drop]; omega) (Nat.le_refl _)]
theorem runesL_len (t : List UInt8) : (runesL t).length ≤ t.length := by
  unfold runesL
  suffices h : ∀ f (t : List UInt8), (runesF f t).length ≤ f from h _ _
  intro f
  induction f with
  | zero => intro t; simp [runesF]
  | succ f ih =>
    intro t
    unfold runesF
    split
    · simp
    · simp; exact ih _
/-- May a rune stand in a label? -/
def goodR (r : Nat) : Bool := !(decide (r < 32) || r == 127 || r == 65533)
/-- May a text be a label? -/
def labR (t : List UInt8) : Bool := (runesL t).all (fun x => goodR x.1) && decide (1 ≤ (runesL t).length ∧ (runesL t).length ≤ 12)
end Go.Proofs.YtdginbmannhfnaaDoor
