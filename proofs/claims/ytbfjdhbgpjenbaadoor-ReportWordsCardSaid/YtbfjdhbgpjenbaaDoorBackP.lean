/-
  What WireBack reads back, in plain Lean.
-/
import Derived.Test.YtbfjdhbgpjenbaaDoorPut4
import Derived.Test.YtbfjdhbgpjenbaaDoorReader
namespace Go.Proofs.YtbfjdhbgpjenbaaDoor
set_option linter.unusedSimpArgs false
open Go.RowKit
set_option linter.unusedVariables false

def pieceL (p : Int × ByteArray) : List UInt8 := le 1 (u64N p.1) ++ (le 8 (u64N p.1) ++ textL (headS p.2 255).data.toList)
def partsL (f : Nat → Int × ByteArray) : Nat → List UInt8
  | 0 => []
  | k + 1 => partsL f k ++ pieceL (f k)
theorem length_partsL (f : Nat → Int × ByteArray) : ∀ k, (partsL f k).length ≤ 265 * k
  | 0 => by simp [partsL]
  | k + 1 => by
    have := length_partsL f k
    simp only [partsL, pieceL, List.length_append, length_le, length_textL]
    omega
theorem partsL_split (f : Nat → Int × ByteArray) {j : Nat} : ∀ {k : Nat}, j < k → ∃ rest, partsL f k = partsL f j ++ (pieceL (f j) ++ rest)
  | 0, h => absurd h (by omega)
  | k + 1, h => by
    by_cases e : j = k
    · subst e; exact ⟨[], by simp [partsL]⟩
    · obtain ⟨rest, hr⟩ := partsL_split f (show j < k by omega)
      exact ⟨rest ++ pieceL (f k), by simp [partsL, hr]⟩
theorem took_app (a b : List UInt8) {n : Nat} (hn : a.length = n) : (⟨a ++ b, false⟩ : Rd).took n = a ∧ (⟨a ++ b, false⟩ : Rd).left n = ⟨b, false⟩ := by
  subst hn
  have h := take_get (s := ⟨a ++ b, false⟩) (n := a.length) (by simp)
  rw [h.1, h.2]
  simp
theorem back_byte (n : Int) (X : List UInt8) : (⟨le 1 (u64N n) ++ X, false⟩ : Rd).byteOf = u64N n % 256 ∧ (⟨le 1 (u64N n) ++ X, false⟩ : Rd).left 1 = ⟨X, false⟩ := by
  obtain ⟨h1, h2⟩ := took_app (le 1 (u64N n)) X (length_le _ _)
  refine ⟨?_, h2⟩
  unfold Rd.byteOf
  rw [h1, ofLe_le]
theorem back_long (n : Int) (X : List UInt8) (h0 : -9223372036854775808 ≤ n) (h1 : n ≤ 9223372036854775807) : (⟨le 8 (u64N n) ++ X, false⟩ : Rd).longOf = n ∧ (⟨le 8 (u64N n) ++ X, false⟩ : Rd).left 8 = ⟨X, false⟩ := by
  obtain ⟨e1, e2⟩ := took_app (le 8 (u64N n)) X (length_le _ _)
  refine ⟨?_, e2⟩
  unfold Rd.longOf
  rw [e1, ofLe_le]
  have hu := u64N_lt n
  unfold wrap64 u64N at *
  omega
theorem str_self (s : ByteArray) : str s.data.toList = s := by cases s; simp [str]
theorem back_text (s : ByteArray) (X : List UInt8) (hs : s.size ≤ 255) : str (⟨textL s.data.toList ++ X, false⟩ : Rd).textOf = s ∧ (⟨textL s.data.toList ++ X, false⟩ : Rd).pastText = ⟨X, false⟩ := by
  have hl : s.data.toList.length = s.size := rfl
  have e0 : textL s.data.toList ++ X = [lo8 s.size] ++ (s.data.toList ++ X) := by
    unfold textL
    rw [hl, Nat.min_eq_left hs, List.take_of_length_le (by omega)]
    simp
  rw [e0]
  obtain ⟨h1, h2⟩ := took_app [lo8 s.size] (s.data.toList ++ X) (n := 1) rfl
  have hb : (⟨[lo8 s.size] ++ (s.data.toList ++ X), false⟩ : Rd).byteOf = s.size := by
    unfold Rd.byteOf
    rw [h1]
    show ofLe [lo8 s.size] = _
    simp only [ofLe, lo8_toNat]
    omega
  unfold Rd.textOf Rd.pastText
  rw [hb, h2]
  obtain ⟨h3, h4⟩ := took_app s.data.toList X hl
  exact ⟨by rw [h3, str_self], h4⟩
theorem u8_u64N (n : Int) : IntKind.u8.wrap n = ((u64N n % 256 : Nat) : Int) := by
  rw [IntKind.wrap_u8]; unfold u64N; omega
/-- A frame opens behind anything. -/
theorem back_frame (ahead b : List UInt8) (hb : b.length ≤ 255) : openL (ahead ++ frameL b) ahead.length = ⟨b, ahead.length + b.length + 6, 0⟩ := by
  have := openL_frame ahead b [] hb
  rwa [List.append_nil] at this
/-- A frame of which a byte is turned, or not. -/
theorem back_turned (b : List UInt8) (hb : b.length ≤ 255) (j : Nat) (y x : UInt8) (hy : (frameL b)[j]? = some y) :
    openL ((frameL b).set j (y ^^^ x)) (0 : Nat) = if x = 0 then ⟨b, b.length + 6, 0⟩ else ⟨[], 0, 14⟩ := by
  split
  · rename_i h
    subst h
    have e : (frameL b).set j (y ^^^ 0) = frameL b := by
      rw [UInt8.xor_zero]
      apply List.ext_getElem?
      intro i
      rw [List.getElem?_set]
      split
      · rename_i h; subst h
        split
        · exact hy.symm
        · rename_i h2; rw [List.getElem?_eq_none (by omega)]
      · rfl
    have := back_frame [] b hb
    simp only [List.nil_append, List.length_nil, Nat.zero_add] at this
    rw [e]
    exact this
  · rename_i h
    have hne : y ^^^ x ≠ y := by
      intro he
      apply h
      have : y ^^^ (y ^^^ x) = y ^^^ y := by rw [he]
      rwa [← UInt8.xor_assoc, UInt8.xor_self, UInt8.zero_xor] at this
    have := openF_turned b hb [] j y (y ^^^ x) hy hne 0
    rw [List.append_nil] at this
    unfold openL
    rw [if_neg (by omega)]
    exact this
end Go.Proofs.YtbfjdhbgpjenbaaDoor
