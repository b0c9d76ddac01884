/-
  Plain laws of sums and products that are told when they are too great. No program in sight.
-/
import Derived.Test.YtglcdamdjjbjhaaBase
namespace Go.Proofs.Ytglcdamdjjbjhaa
open Go.RowKit
set_option linter.unusedVariables false

theorem dec (p : Prop) [Decidable p] : (p ∧ decide p = true) ∨ (¬ p ∧ decide p = false) := by
  by_cases h : p <;> simp [h]
/-- A number that an int64 holds. -/
def inR (v : Int) : Bool := decide (-9223372036854775808 ≤ v ∧ v ≤ 9223372036854775807)
/-- A number, or nothing. -/
def fit (v : Int) : Int := if inR v = true then v else 0
/-- What the reckoning functions hand back. -/
def told (v : Int) : Ending := .returned (.tuple #[.int .i64 (fit v), .bool (inR v)])
theorem inR_yes {v : Int} (h : -9223372036854775808 ≤ v ∧ v ≤ 9223372036854775807) : inR v = true := by simp [inR, h]
theorem inR_no {v : Int} (h : ¬ (-9223372036854775808 ≤ v ∧ v ≤ 9223372036854775807)) : inR v = false := by unfold inR; exact decide_eq_false h
theorem inR_iff {v : Int} : inR v = true ↔ -9223372036854775808 ≤ v ∧ v ≤ 9223372036854775807 := by simp [inR]
theorem inR_not {v : Int} : inR v = false ↔ ¬ (-9223372036854775808 ≤ v ∧ v ≤ 9223372036854775807) := by simp only [inR, decide_eq_false_iff_not]
theorem fit_yes {v : Int} (h : inR v = true) : fit v = v := by simp [fit, h]
theorem fit_no {v : Int} (h : inR v = false) : fit v = 0 := by simp [fit, h]
theorem told_yes {v x : Int} (hx : x = v) (h : -9223372036854775808 ≤ v ∧ v ≤ 9223372036854775807) : Ending.returned (.tuple #[.int .i64 x, .bool true]) = told v := by
  subst hx; rw [told, fit, inR_yes h]; rfl
theorem told_no {v : Int} (h : ¬ (-9223372036854775808 ≤ v ∧ v ≤ 9223372036854775807)) : Ending.returned (.tuple #[.int .i64 0, .bool false]) = told v := by
  rw [told, fit, inR_no h]; rfl
theorem fit_bd (v : Int) : -9223372036854775808 ≤ fit v ∧ fit v ≤ 9223372036854775807 := by
  cases h : inR v
  · rw [fit_no h]; decide
  · rw [fit_yes h]; exact inR_iff.1 h
theorem mul_minus {a b : Int} (h : (a < 0 ∧ 0 ≤ b) ∨ (0 ≤ a ∧ b < 0)) : a * b = -((a.natAbs * b.natAbs : Nat) : Int) := by
  have h1 : a * b ≤ 0 := by
    rcases h with h | h
    · exact Int.mul_nonpos_of_nonpos_of_nonneg (by omega) h.2
    · exact Int.mul_nonpos_of_nonneg_of_nonpos h.1 (by omega)
  have h2 := Int.natAbs_mul a b
  rw [← h2]; omega
theorem mul_plus {a b : Int} (h : (a < 0 ∧ b < 0) ∨ (0 ≤ a ∧ 0 ≤ b)) : a * b = ((a.natAbs * b.natAbs : Nat) : Int) := by
  have h1 : 0 ≤ a * b := by
    rcases h with h | h
    · exact Int.mul_nonneg_of_nonpos_of_nonpos (by omega) (by omega)
    · exact Int.mul_nonneg h.1 h.2
  have h2 := Int.natAbs_mul a b
  rw [← h2]; omega
/-- The greatest multiple of b that is not above a. -/
def floorV (a b : Int) : Int := if b < 1 then 0 else fit (a - a % b)
def floorB (a b : Int) : Bool := if b < 1 then false else inR (a - a % b)
def floorEnd (a b : Int) : Ending := .returned (.tuple #[.int .i64 (floorV a b), .bool (floorB a b)])
/-- a times b, by c, rounded down. -/
def ishareV (a b c : Int) : Int := if a < 0 ∨ b < 0 ∨ c < 1 then 0 else fit (a * b / c)
def ishareB (a b c : Int) : Bool := if a < 0 ∨ b < 0 ∨ c < 1 then false else inR (a * b / c)
def shareEnd (a b c : Int) : Ending := .returned (.tuple #[.int .i64 (ishareV a b c), .bool (ishareB a b c)])
theorem shareEnd_bad {a b c : Int} (h : a < 0 ∨ b < 0 ∨ c < 1) : shareEnd a b c = .returned (.tuple #[.int .i64 0, .bool false]) := by
  rw [shareEnd, ishareV, ishareB, if_pos h, if_pos h]
theorem shareEnd_ok {a b c : Int} (h : ¬ (a < 0 ∨ b < 0 ∨ c < 1)) : shareEnd a b c = told (a * b / c) := by
  rw [shareEnd, ishareV, ishareB, if_neg h, if_neg h, told]
theorem tmod_bd (a b : Int) (hb : 1 ≤ b) : -b < a.tmod b ∧ a.tmod b < b := by
  have h1 := Int.tmod_lt_of_pos a (by omega : 0 < b)
  have h2 := Int.lt_tmod_of_pos a (by omega : 0 < b)
  omega
theorem floor_mod (a b : Int) (hb : 1 ≤ b) : a % b = if a.tmod b < 0 then a.tmod b + b else a.tmod b := by
  have h1 := Int.tmod_add_mul_tdiv a b
  have h2 := tmod_bd a b hb
  split
  · rw [show a = (a.tmod b + b) + b * (a.tdiv b - 1) by rw [Int.mul_sub, Int.mul_one]; omega, Int.add_mul_emod_self_left]
    rw [show (a.tmod b + b + b * (a.tdiv b - 1)).tmod b = a.tmod b by congr 1; rw [Int.mul_sub, Int.mul_one]; omega]
    exact Int.emod_eq_of_lt (by omega) (by omega)
  · conv => lhs; rw [← h1]
    rw [Int.add_mul_emod_self_left]
    exact Int.emod_eq_of_lt (by omega) (by omega)
theorem wrap64_eq {n : Int} (h : -9223372036854775808 ≤ n ∧ n ≤ 9223372036854775807) : wrap64 n = n := by unfold wrap64; omega
theorem wrap64_in (n : Int) : -9223372036854775808 ≤ wrap64 n ∧ wrap64 n ≤ 9223372036854775807 := by unfold wrap64; omega
theorem wrap64_mod (n : Int) : ∃ k : Int, wrap64 n = n + 18446744073709551616 * k := ⟨-((n + 9223372036854775808) / 18446744073709551616), by unfold wrap64; omega⟩
/-- A product is in range just where the quotient is the factor. -/
theorem mul_back (a b : Int) (ha : -9223372036854775808 ≤ a ∧ a ≤ 9223372036854775807) (hb : -9223372036854775808 ≤ b ∧ b ≤ 9223372036854775807) (hb0 : b ≠ 0) (h1 : ¬ (b = -1 ∧ a = -9223372036854775808)) :
    (wrap64 ((wrap64 (a * b)).tdiv b) = a) ↔ inR (a * b) = true := by
  rw [inR_iff]
  have hwi := wrap64_in (a * b)
  obtain ⟨k, hk⟩ := wrap64_mod (a * b)
  constructor
  · intro h
    have hm1 := Int.tmod_add_mul_tdiv (wrap64 (a * b)) b
    have hlt : (wrap64 (a * b)).tmod b < b.natAbs ∧ -(b.natAbs : Int) < (wrap64 (a * b)).tmod b := by
      have := Int.natAbs_tmod (wrap64 (a * b)) b
      have h3 := Nat.mod_lt (wrap64 (a * b)).natAbs (y := b.natAbs) (by omega)
      omega
    by_cases hb1 : b = -1
    · subst hb1; omega
    · have hq : wrap64 ((wrap64 (a * b)).tdiv b) = (wrap64 (a * b)).tdiv b := by
        apply wrap64_eq
        have h4 := Int.natAbs_tdiv (wrap64 (a * b)) b
        by_cases hb2 : b = 1
        · subst hb2; simpa using hwi
        · have h5 : (wrap64 (a * b)).natAbs / b.natAbs ≤ (wrap64 (a * b)).natAbs / 2 := Nat.div_le_div_left (by omega) (by omega)
          have h6 : (wrap64 (a * b)).natAbs ≤ 9223372036854775808 := by omega
          have h7 : ((wrap64 (a * b)).tdiv b).natAbs ≤ 4611686018427387904 := by rw [h4]; exact Nat.le_trans h5 (by omega)
          clear h4 h5
          omega
      rw [hq] at h
      rw [h, Int.mul_comm b a] at hm1
      omega
  · intro h
    rw [wrap64_eq h, Int.mul_tdiv_cancel _ hb0, wrap64_eq ha]
end Go.Proofs.Ytglcdamdjjbjhaa
