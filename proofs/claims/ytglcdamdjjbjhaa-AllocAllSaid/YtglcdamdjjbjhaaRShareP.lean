/-
  Plain laws of a share that is reckoned bit by bit. No program in sight.
-/
import Derived.Test.YtglcdamdjjbjhaaBase
namespace Go.Proofs.Ytglcdamdjjbjhaa
set_option linter.unusedVariables false

/-- Of a times B, by d: the quotient and the rest. -/
def Shr (a d B q r : Nat) : Prop := q * d + r = a * B ∧ r < d
theorem shr_start (a d : Nat) (h : 0 < d) : Shr a d 0 0 0 := ⟨by simp, h⟩
theorem shr_twice {a d B q r : Nat} (h : Shr a d B q r) (h2 : 2 * r < d) : Shr a d (2 * B) (2 * q) (2 * r) := by
  refine ⟨?_, h2⟩
  rw [Nat.mul_assoc, Nat.mul_left_comm a 2 B, ← h.1, Nat.mul_add]
theorem shr_over {a d B q r : Nat} (h : Shr a d B q r) (h2 : d ≤ 2 * r) : Shr a d (2 * B) (2 * q + 1) (2 * r - d) := by
  have h3 := h.2
  refine ⟨?_, by omega⟩
  rw [Nat.mul_left_comm a 2 B, ← h.1, Nat.mul_add, Nat.add_mul, Nat.one_mul, Nat.mul_assoc]
  generalize 2 * (q * d) = z
  omega
theorem shr_bit {a d B q r : Nat} (h : Shr a d B q r) (hd : 0 < d) (h2 : r + a % d < d) : Shr a d (B + 1) (q + a / d) (r + a % d) := by
  refine ⟨?_, h2⟩
  have h3 := Nat.div_add_mod a d
  rw [Nat.mul_add, ← h.1, Nat.mul_one, Nat.add_mul, Nat.mul_comm (a / d) d]
  omega
theorem shr_bitOver {a d B q r : Nat} (h : Shr a d B q r) (hd : 0 < d) (h2 : d ≤ r + a % d) : Shr a d (B + 1) (q + a / d + 1) (r + a % d - d) := by
  have h3 := Nat.div_add_mod a d
  have h4 := Nat.mod_lt a hd
  have h5 := h.2
  refine ⟨?_, by omega⟩
  rw [Nat.mul_add, ← h.1, Nat.mul_one, Nat.add_mul, Nat.add_mul, Nat.one_mul, Nat.mul_comm (a / d) d]
  generalize q * d = z
  omega
theorem shr_end {a d B q r : Nat} (h : Shr a d B q r) : a * B / d = q := by
  rw [← h.1, Nat.mul_comm, Nat.mul_add_div (by have := h.2; omega), Nat.div_eq_of_lt h.2]; rfl
theorem shr_le {a d B q r b : Nat} (h : Shr a d B q r) (hb : B ≤ b) : q ≤ a * b / d := by
  rw [← shr_end h]; exact Nat.div_le_div_right (Nat.mul_le_mul_left _ hb)
/-- With the next bit there is more than x more. -/
theorem shr_more {a d B q r b : Nat} (h : Shr a d B q r) (hb : B + 1 ≤ b) : q + a / d ≤ a * b / d := by
  have hd : 0 < d := by have := h.2; omega
  have h1 : (q + a / d) * d ≤ a * (B + 1) := by
    have h3 := Nat.div_add_mod a d
    rw [Nat.mul_add, ← h.1, Nat.mul_one, Nat.add_mul, Nat.mul_comm (a / d) d]
    omega
  rw [Nat.le_div_iff_mul_le hd]
  exact Nat.le_trans h1 (Nat.mul_le_mul_left _ hb)
theorem bits_down (b n : Nat) (h : 1 ≤ n) : b / 2 ^ (n - 1) = 2 * (b / 2 ^ n) + b / 2 ^ (n - 1) % 2 := by
  obtain ⟨k, rfl⟩ : ∃ k, n = k + 1 := ⟨n - 1, by omega⟩
  rw [Nat.add_sub_cancel, Nat.pow_succ, ← Nat.div_div_eq_div_mul]
  omega
end Go.Proofs.Ytglcdamdjjbjhaa
