/-
  Plain laws of a division by halves (a number of two words by one). No program in sight.
-/
import Derived.Test.YtglcdamdjjbjhaaBase
import Derived.Lib.BitFns
import Derived.Laws.Bits64b
import Derived.IntWalk
namespace Go.Proofs.Ytglcdamdjjbjhaa
set_option linter.unusedVariables false

section
variable {u d v y1 y0 q r : Nat}
/-- The guess is not below the quotient: told of q. -/
def Guess (u d v y1 q r : Nat) : Prop := q * y1 + r = u ∧ u * 4294967296 + d < (q + 1) * v
theorem guess_start (hy : 0 < y1) (hv : v = y1 * 4294967296 + y0) (hd : d < 4294967296) : Guess u d v y1 (u / y1) (u % y1) := by
  have h1 := Nat.div_add_mod u y1
  have h2 := Nat.mod_lt u hy
  refine ⟨by rw [Nat.mul_comm]; exact h1, ?_⟩
  have h3 : u + 1 ≤ (u / y1 + 1) * y1 := by rw [Nat.add_mul, Nat.one_mul, Nat.mul_comm]; omega
  have h5 : (u / y1 + 1) * v = (u / y1 + 1) * y1 * 4294967296 + (u / y1 + 1) * y0 := by rw [hv, Nat.mul_add, Nat.mul_assoc]
  rw [h5]
  clear h5 hv h1
  generalize (u / y1 + 1) * y1 = z at *
  generalize (u / y1 + 1) * y0 = z' at *
  omega
theorem guess_big (h : Guess u d v y1 q r) (hu : u < v) (hd : d < 4294967296) (hq : 4294967296 ≤ q) : Guess u d v y1 (q - 1) (r + y1) := by
  obtain ⟨k, rfl⟩ : ∃ k, q = k + 1 := ⟨q - 1, by omega⟩
  refine ⟨by have := h.1; rw [Nat.add_mul, Nat.one_mul] at this; simp only [Nat.add_sub_cancel]; omega, ?_⟩
  simp only [Nat.add_sub_cancel]
  have h1 : 4294967296 * v ≤ (k + 1) * v := Nat.mul_le_mul_right _ hq
  omega
theorem guess_next (h : Guess u d v y1 q r) (hv : v = y1 * 4294967296 + y0) (hq : 4294967296 * r + d < q * y0) : Guess u d v y1 (q - 1) (r + y1) := by
  have hq0 : q ≠ 0 := by rintro rfl; simp at hq
  obtain ⟨k, rfl⟩ : ∃ k, q = k + 1 := ⟨q - 1, by omega⟩
  have h1 := h.1
  refine ⟨by rw [Nat.add_mul, Nat.one_mul] at h1; simp only [Nat.add_sub_cancel]; omega, ?_⟩
  simp only [Nat.add_sub_cancel]
  have h5 : (k + 1) * v = (k + 1) * y1 * 4294967296 + (k + 1) * y0 := by rw [hv, Nat.mul_add, Nat.mul_assoc]
  rw [h5]
  generalize (k + 1) * y1 = z at *
  omega
theorem guess_end (h : Guess u d v y1 q r) (hv : v = y1 * 4294967296 + y0) (hq : q * y0 ≤ 4294967296 * r + d) : (u * 4294967296 + d) / v = q := by
  have hle : q * v ≤ u * 4294967296 + d := by
    have h1 := h.1
    have h5 : q * v = q * y1 * 4294967296 + q * y0 := by rw [hv, Nat.mul_add, Nat.mul_assoc]
    rw [h5]
    generalize q * y1 = z at *
    omega
  have hlt := h.2
  have hv0 : 0 < v := by
    rcases Nat.eq_zero_or_pos v with h0 | h0
    · rw [h0] at hlt; simp at hlt
    · exact h0
  have := Nat.div_eq_of_lt_le (m := u * 4294967296 + d) (n := v) (k := q) hle hlt
  exact this
theorem guess_over (h : Guess u d v y1 q r) (hu : u < v) (hv : v = y1 * 4294967296 + y0) (h0 : y0 < 4294967296) (hr : 4294967296 ≤ r) : (u * 4294967296 + d) / v = q := by
  refine guess_end h hv ?_
  have h1 := h.1
  have hq : q < 4294967296 := by
    rcases Nat.lt_or_ge q 4294967296 with h2 | h2
    · exact h2
    · exfalso
      have : 4294967296 * y1 ≤ q * y1 := Nat.mul_le_mul_right _ h2
      omega
  have h2 : q * y0 ≤ 4294967295 * 4294967295 := Nat.mul_le_mul (by omega) (by omega)
  omega
theorem guess_lt (h : Guess u d v y1 q r) (hq : q < 4294967296) (h0 : y0 < 4294967296) : q * y0 < 18446744073709551616 := by
  have h2 : q * y0 ≤ 4294967295 * 4294967295 := Nat.mul_le_mul (by omega) (by omega)
  omega
end
/-- The two halves' quotients together. -/
theorem div_halves (u d1 d0 v : Nat) (hv : 0 < v) (h0 : d0 < 4294967296) :
    (u * 18446744073709551616 + (d1 * 4294967296 + d0)) / v = (u * 4294967296 + d1) / v * 4294967296 + ((u * 4294967296 + d1) % v * 4294967296 + d0) / v ∧
    (u * 18446744073709551616 + (d1 * 4294967296 + d0)) % v = ((u * 4294967296 + d1) % v * 4294967296 + d0) % v := by
  have h1 := Nat.div_add_mod (u * 4294967296 + d1) v
  have e : u * 18446744073709551616 + (d1 * 4294967296 + d0) = v * ((u * 4294967296 + d1) / v * 4294967296) + ((u * 4294967296 + d1) % v * 4294967296 + d0) := by
    rw [← Nat.mul_assoc]
    generalize v * ((u * 4294967296 + d1) / v) = z at *
    omega
  rw [e, Nat.mul_add_div hv, Nat.mul_add_mod]
  exact ⟨rfl, rfl⟩

theorem bitLen_two : ∀ (k x : Nat), x ≠ 0 → x < 2 ^ k → k ≤ 64 → 2 ^ (Lib.bitLen x - 1) ≤ x ∧ x < 2 ^ Lib.bitLen x ∧ 1 ≤ Lib.bitLen x
  | 0, x, h0, h, _ => by simp at h; omega
  | k + 1, x, h0, h, hk => by
    have hx : x < 2 ^ 64 := Nat.lt_of_lt_of_le h (Nat.pow_le_pow_right (by decide) hk)
    have e := Lib.bitLen_half x h0 hx
    by_cases h2 : x / 2 = 0
    · have : x = 1 := by omega
      subst this
      decide +kernel
    · have ih := bitLen_two k (x / 2) h2 (by rw [Nat.pow_succ] at h; omega) (by omega)
      rw [e]
      obtain ⟨i1, i2, i3⟩ := ih
      refine ⟨?_, ?_, by omega⟩
      · rw [show 1 + Lib.bitLen (x / 2) - 1 = (Lib.bitLen (x / 2) - 1) + 1 by omega, Nat.pow_succ]; omega
      · rw [Nat.add_comm, Nat.pow_succ]; omega
theorem or_add (a b s : Nat) (hb : b < 2 ^ s) (ha : a * 2 ^ s < 18446744073709551616) (hb2 : b < 18446744073709551616) : bits .or .u64 ((a * 2 ^ s : Nat) : Int) (b : Int) = ((a * 2 ^ s + b : Nat) : Int) := by
  have h := bits_or_u64_nat (a * 2 ^ s) b ha hb2
  rw [h]
  have := Nat.two_pow_add_eq_or_of_lt (i := s) hb a
  rw [Nat.mul_comm a] at *
  rw [this]
theorem shift_laws (hi lo y : Nat) (h1 : hi < y) (h2 : lo < 18446744073709551616) (h3 : y < 18446744073709551616) : ∃ s Y U D : Nat, (64 : Int) - (Lib.bitLen y : Int) = (s : Int) ∧ s ≤ 63 ∧ Y = y * 2 ^ s ∧ 9223372036854775808 ≤ Y ∧ Y < 18446744073709551616 ∧
    IntKind.u64.wrap ((y : Int) * 2 ^ min (IntKind.u64.wrap (s : Int)).toNat 64) = (Y : Int) ∧
    bits .or .u64 (IntKind.u64.wrap ((hi : Int) * 2 ^ min (IntKind.u64.wrap (s : Int)).toNat 64)) ((lo : Int) / 2 ^ min (IntKind.u64.wrap (64 - IntKind.u64.wrap (s : Int))).toNat 64) = (U : Int) ∧
    IntKind.u64.wrap ((lo : Int) * 2 ^ min (IntKind.u64.wrap (s : Int)).toNat 64) = (D : Int) ∧ D < 18446744073709551616 ∧ U < Y ∧ U * 18446744073709551616 + D = (hi * 18446744073709551616 + lo) * 2 ^ s := by
  obtain ⟨b1, b2, b3⟩ := bitLen_two 64 y (by omega) (by omega) (by omega)
  have b4 : Lib.bitLen y ≤ 64 := Lib.bitLen_le y 64 (by omega) (by omega)
  obtain ⟨s, hs⟩ : ∃ s, s = 64 - Lib.bitLen y := ⟨_, rfl⟩
  have p1 : 2 ^ (Lib.bitLen y) * 2 ^ s = 18446744073709551616 := by rw [← Nat.pow_add, show Lib.bitLen y + s = 64 by omega]
  have p2 : 2 ^ (Lib.bitLen y - 1) * 2 ^ s = 9223372036854775808 := by rw [← Nat.pow_add, show Lib.bitLen y - 1 + s = 63 by omega]
  have p3 : 2 ^ (64 - s) * 2 ^ s = 18446744073709551616 := by rw [← Nat.pow_add, show 64 - s + s = 64 by omega]
  have ps : 0 < 2 ^ s := Nat.pow_pos (by decide)
  have y1 : 9223372036854775808 ≤ y * 2 ^ s := by rw [← p2]; exact Nat.mul_le_mul_right _ b1
  have y2 : y * 2 ^ s < 18446744073709551616 := by rw [← p1]; exact Nat.mul_lt_mul_of_pos_right b2 ps
  have y3 : hi * 2 ^ s < y * 2 ^ s := Nat.mul_lt_mul_of_pos_right h1 ps
  have ws : IntKind.u64.wrap (s : Int) = s := IntWalk.u64_in _ (by omega)
  have ws2 : IntKind.u64.wrap (64 - (s : Int)) = ((64 - s : Nat) : Int) := by rw [IntWalk.u64_in _ (by omega)]; omega
  have m1 : min (IntKind.u64.wrap (s : Int)).toNat 64 = s := by rw [ws]; omega
  have m2 : min (IntKind.u64.wrap (64 - IntKind.u64.wrap (s : Int))).toNat 64 = 64 - s := by rw [ws, ws2]; omega
  have c1 : (y : Int) * 2 ^ s = ((y * 2 ^ s : Nat) : Int) := by simp
  have c2 : (hi : Int) * 2 ^ s = ((hi * 2 ^ s : Nat) : Int) := by simp
  have c3 : (lo : Int) * 2 ^ s = ((lo * 2 ^ s : Nat) : Int) := by simp
  have c4 : (lo : Int) / 2 ^ (64 - s) = ((lo / 2 ^ (64 - s) : Nat) : Int) := by simp
  have l1 : lo / 2 ^ (64 - s) < 2 ^ s := by
    rw [Nat.div_lt_iff_lt_mul (Nat.pow_pos (by decide)), Nat.mul_comm, p3]; exact h2
  have l2 : lo / 2 ^ (64 - s) ≤ lo := Nat.div_le_self _ _
  refine ⟨s, y * 2 ^ s, hi * 2 ^ s + lo / 2 ^ (64 - s), lo * 2 ^ s % 18446744073709551616, by omega, by omega, rfl, y1, y2, ?_, ?_, ?_, by omega, ?_, ?_⟩
  · rw [m1, c1, IntWalk.u64_in _ (by omega)]
  · rw [m1, m2, c2, c4, IntWalk.u64_in _ (by omega), or_add _ _ _ l1 (by omega) (by omega)]
  · rw [m1, c3, IntKind.wrap_u64]; omega
  · have : (hi + 1) * 2 ^ s ≤ y * 2 ^ s := Nat.mul_le_mul_right _ h1
    rw [Nat.add_mul, Nat.one_mul] at this
    omega
  · have e : lo * 2 ^ s / 18446744073709551616 = lo / 2 ^ (64 - s) := by rw [← p3, Nat.mul_div_mul_right _ _ ps]
    have e2 : (hi * 18446744073709551616 + lo) * 2 ^ s = hi * 2 ^ s * 18446744073709551616 + lo * 2 ^ s := by rw [Nat.add_mul, Nat.mul_right_comm]
    rw [← e, e2]; omega
end Go.Proofs.Ytglcdamdjjbjhaa
