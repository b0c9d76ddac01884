/-
  What the package ints computes: sums, differences, products, floors.
-/
import Derived.Test.YtbngligkmapbgaaRows
import Derived.Test.YtbngligkmapbgaaIntsP
import Derived.Lib.Mul64
import Derived.Laws.Bits64b
import Derived.Laws.Externs
import Derived.IntWalk
namespace Go.Proofs.Ytbngligkmapbgaa
open Go.RowKit
set_option linter.unusedVariables false

theorem add_any (a b : Int) (w : World) (ha : -9223372036854775808 ≤ a ∧ a ≤ 9223372036854775807) (hb : -9223372036854775808 ≤ b ∧ b ≤ 9223372036854775807) :
    Calls Try.prog 11 #[.int .i64 a, .int .i64 b] w fun e w' => e = told (a + b) ∧ w = w' := by
  by_cases h1 : a < 0 <;> by_cases h2 : b < 0 <;> by_cases h3 : wrap64 (a + b) < 0
  all_goals
    go_enter Try.func11, Try.ntmps11
    go_wp2
    go_ret2
    unfold wrap64 at h3
    refine ⟨?_, rfl⟩
    first
      | exact told_yes (by first | rfl | (unfold wrap64; omega)) (by omega)
      | exact told_no (by omega)
theorem sub_any (a b : Int) (w : World) (ha : -9223372036854775808 ≤ a ∧ a ≤ 9223372036854775807) (hb : -9223372036854775808 ≤ b ∧ b ≤ 9223372036854775807) :
    Calls Try.prog 12 #[.int .i64 a, .int .i64 b] w fun e w' => e = told (a - b) ∧ w = w' := by
  by_cases h1 : a < 0 <;> by_cases h2 : b < 0 <;> by_cases h3 : wrap64 (a - b) < 0
  all_goals
    go_enter Try.func12, Try.ntmps12
    go_wp2
    go_ret2
    unfold wrap64 at h3
    refine ⟨?_, rfl⟩
    first
      | exact told_yes (by first | rfl | (unfold wrap64; omega)) (by omega)
      | exact told_no (by omega)

theorem size_any (a : Int) (w : World) (ha : -9223372036854775808 ≤ a ∧ a ≤ 9223372036854775807) :
    Calls Try.prog 22 #[.int .i64 a] w fun e w' => e = .returned (.int .u64 (a.natAbs : Int)) ∧ w = w' := by
  by_cases h1 : a < 0
  all_goals
    go_enter Try.func22, Try.ntmps22
    go_wp2
    go_ret
    refine ⟨ret_int ?_, rfl⟩
    first | omega | (simp only [IntKind.wrap_u64]; omega)
namespace Mul64
theorem maskN (a : Nat) (ha : a < 18446744073709551616) : bits .and .u64 (a : Int) 4294967295 = ((a % 4294967296 : Nat) : Int) := by
  have h := bits_and_u64_nat a 4294967295 ha (by omega)
  have e : a &&& 4294967295 = a % 4294967296 := Nat.and_two_pow_sub_one_eq_mod a 32
  rw [e] at h
  exact h
theorem divN (a : Nat) : (a : Int) / 4294967296 = ((a / 4294967296 : Nat) : Int) := by omega
theorem mulN (a b : Nat) : (a : Int) * (b : Int) = ((a * b : Nat) : Int) := (Int.natCast_mul a b).symm
theorem addN (a b : Nat) : (a : Int) + (b : Int) = ((a + b : Nat) : Int) := (Int.natCast_add a b).symm
theorem wrapN (a : Nat) (ha : a < 18446744073709551616) : IntKind.u64.wrap (a : Int) = (a : Int) := by rw [IntKind.wrap_u64]; omega
theorem wrapM (a : Nat) : IntKind.u64.wrap (a : Int) = ((a % 18446744073709551616 : Nat) : Int) := by rw [IntKind.wrap_u64]; omega
end Mul64
set_option maxHeartbeats 1000000 in
theorem mul64_any (x y : Nat) (hx : x < 18446744073709551616) (hy : y < 18446744073709551616) (w : World) :
    Calls Try.prog 20 #[.int .u64 x, .int .u64 y] w fun e w' => e = .returned (.tuple #[.int .u64 ((x * y / 18446744073709551616 : Nat) : Int), .int .u64 ((x * y % 18446744073709551616 : Nat) : Int)]) ∧ w = w' := by
  obtain ⟨bd, bt, bw, hhi⟩ := Lib.mul64_hi x y hx hy
  have ba := Lib.half_mul_le (a := x / 4294967296) (b := y / 4294967296) (by omega) (by omega)
  have bb := Lib.half_mul_le (a := x / 4294967296) (b := y % 4294967296) (by omega) (by omega)
  have bc := Lib.half_mul_le (a := x % 4294967296) (b := y / 4294967296) (by omega) (by omega)
  have ba' : x / 4294967296 * (y / 4294967296) < 18446744073709551616 := by omega
  have bb' : x / 4294967296 * (y % 4294967296) < 18446744073709551616 := by omega
  have bc' : x % 4294967296 * (y / 4294967296) < 18446744073709551616 := by omega
  have bh1 : x / 4294967296 * (y / 4294967296) + (x / 4294967296 * (y % 4294967296) + x % 4294967296 * (y % 4294967296) / 4294967296) / 4294967296 < 18446744073709551616 := by omega
  have bh : x / 4294967296 * (y / 4294967296) + (x / 4294967296 * (y % 4294967296) + x % 4294967296 * (y % 4294967296) / 4294967296) / 4294967296 + ((x / 4294967296 * (y % 4294967296) + x % 4294967296 * (y % 4294967296) / 4294967296) % 4294967296 + x % 4294967296 * (y / 4294967296)) / 4294967296 < 18446744073709551616 := by omega
  go_enter Try.func20, Try.ntmps20
  go_wp2
  simp only [Mul64.maskN x hx, Mul64.maskN y hy, Mul64.divN, Mul64.mulN, Mul64.addN, Mul64.wrapN _ bd, Mul64.wrapN _ bb', Mul64.wrapN _ bt, Mul64.maskN _ bt, Mul64.wrapN _ bc', Mul64.wrapN _ bw, Mul64.wrapN _ ba', Mul64.wrapN _ bh1, Mul64.wrapN _ bh, Mul64.wrapM (x * y)]
  rw [hhi]
  go_ret2
  exact ⟨rfl, rfl⟩
set_option maxHeartbeats 1000000 in
theorem mul_any (a b : Int) (w : World) (ha : -9223372036854775808 ≤ a ∧ a ≤ 9223372036854775807) (hb : -9223372036854775808 ≤ b ∧ b ≤ 9223372036854775807) :
    Calls Try.prog 14 #[.int .i64 a, .int .i64 b] w fun e w' => e = told (a * b) ∧ w = w' := by
  obtain ⟨P, hP⟩ : ∃ P, P = a * b := ⟨_, rfl⟩
  have hx : a.natAbs < 18446744073709551616 := by omega
  have hy : b.natAbs < 18446744073709551616 := by omega
  have hc := mul64_any a.natAbs b.natAbs hx hy
  have hm : ((a < 0 ∧ 0 ≤ b) ∨ (0 ≤ a ∧ b < 0)) → P = -((a.natAbs * b.natAbs : Nat) : Int) := fun h => hP.trans (mul_minus h)
  have hp : ((a < 0 ∧ b < 0) ∨ (0 ≤ a ∧ 0 ≤ b)) → P = ((a.natAbs * b.natAbs : Nat) : Int) := fun h => hP.trans (mul_plus h)
  generalize a.natAbs * b.natAbs = m at hc hm hp
  obtain ⟨H, hH⟩ : ∃ H, H = m / 18446744073709551616 := ⟨_, rfl⟩
  obtain ⟨L, hL⟩ : ∃ L, L = m % 18446744073709551616 := ⟨_, rfl⟩
  rw [← hH, ← hL] at hc
  rw [← hP]
  have HM := hide hm; have HP := hide hp; have HH := hide hH; have HL := hide hL; have HC := hide hc
  have hLb : (L : Int) ≤ 18446744073709551615 := by omega
  clear hm hp hH hL hc hP
  rcases dec (a < 0) with ⟨h1, d1⟩ | ⟨h1, d1⟩ <;> rcases dec (b < 0) with ⟨h2, d2⟩ | ⟨h2, d2⟩ <;> rcases dec ((0 : Int) < H) with ⟨h3, d3⟩ | ⟨h3, d3⟩ <;> rcases dec ((9223372036854775808 : Int) < L) with ⟨h4, d4⟩ | ⟨h4, d4⟩ <;> cases h5 : ((L : Int) == 9223372036854775808)
  all_goals
    go_enter Try.func14, Try.ntmps14
    go_wp2_with fail
    refine (size_any _ _ ha).mono ?_
    rintro e w' ⟨rfl, rfl⟩
    go_wp2_with fail
    refine (size_any _ _ hb).mono ?_
    rintro e w' ⟨rfl, rfl⟩
    go_wp2_with fail
    refine (HC.out _).mono ?_
    rintro e w' ⟨rfl, rfl⟩
    go_wp2
    go_ret2
    refine ⟨?_, rfl⟩
    have hH := HH.out
    have hL := HL.out
    have hm := HM.out
    have hp := HP.out
    clear HH HL HM HP HC
    have h5' := h5
    simp only [beq_iff_eq, beq_eq_false_iff_ne] at h5'
    first
      | exact told_no (by omega)
      | exact told_yes (by first | omega | (simp only [IntKind.wrap_u64, wrap64]; omega)) (by omega)
theorem floor_any (a b : Int) (w : World) (ha : -9223372036854775808 ≤ a ∧ a ≤ 9223372036854775807) (hb : -9223372036854775808 ≤ b ∧ b ≤ 9223372036854775807) :
    Calls Try.prog 13 #[.int .i64 a, .int .i64 b] w fun e w' => e = floorEnd a b ∧ w = w' := by
  rw [floorEnd, floorV, floorB]
  by_cases h1 : b < 1
  · rw [if_pos h1, if_pos h1]
    go_enter Try.func13, Try.ntmps13
    go_wp2
    go_ret2
    exact ⟨rfl, rfl⟩
  · rw [if_neg h1, if_neg h1]
    have e := floor_mod a b (by omega)
    by_cases h2 : a.tmod b < 0
    all_goals
      have hr := tmod_bd a b (by omega)
      first | rw [if_pos h2] at e | rw [if_neg h2] at e
      rw [e]
      clear e
      go_enter Try.func13, Try.ntmps13
      go_wp2_with fail
      refine (sub_any _ _ _ ha (by omega)).mono ?_
      rintro e w' ⟨rfl, rfl⟩
      rw [told]
      go_wp2
      go_ret2
      exact ⟨rfl, rfl⟩

/-! ### The document's own -/
theorem refAdd_any (a b : Int) (w : World) (ha : -9223372036854775808 ≤ a ∧ a ≤ 9223372036854775807) (hb : -9223372036854775808 ≤ b ∧ b ≤ 9223372036854775807) :
    Calls Try.prog 24 #[.int .i64 a, .int .i64 b] w fun e w' => e = told (a + b) ∧ w = w' := by
  rcases dec (0 < b) with ⟨h1, d1⟩ | ⟨h1, d1⟩ <;> rcases dec (b < 0) with ⟨h2, d2⟩ | ⟨h2, d2⟩ <;> rcases dec (9223372036854775807 - b < a) with ⟨h3, d3⟩ | ⟨h3, d3⟩ <;> rcases dec (a < -9223372036854775808 - b) with ⟨h4, d4⟩ | ⟨h4, d4⟩
  all_goals
    try (exfalso; omega)
  all_goals
    go_enter Try.func24, Try.ntmps24
    go_wp2
    go_ret2
    refine ⟨?_, rfl⟩
    first
      | exact told_no (by omega)
      | exact told_yes (by first | rfl | (unfold wrap64; omega)) (by omega)
theorem refSub_any (a b : Int) (w : World) (ha : -9223372036854775808 ≤ a ∧ a ≤ 9223372036854775807) (hb : -9223372036854775808 ≤ b ∧ b ≤ 9223372036854775807) :
    Calls Try.prog 25 #[.int .i64 a, .int .i64 b] w fun e w' => e = told (a - b) ∧ w = w' := by
  rcases dec (0 < b) with ⟨h1, d1⟩ | ⟨h1, d1⟩ <;> rcases dec (b < 0) with ⟨h2, d2⟩ | ⟨h2, d2⟩ <;> rcases dec (9223372036854775807 + b < a) with ⟨h3, d3⟩ | ⟨h3, d3⟩ <;> rcases dec (a < -9223372036854775808 + b) with ⟨h4, d4⟩ | ⟨h4, d4⟩
  all_goals try (exfalso; omega)
  all_goals
    go_enter Try.func25, Try.ntmps25
    go_wp2
    go_ret2
    refine ⟨?_, rfl⟩
    first
      | exact told_no (by omega)
      | exact told_yes (by first | rfl | (unfold wrap64; omega)) (by omega)
theorem refFloor_any (a b : Int) (w : World) (ha : -9223372036854775808 ≤ a ∧ a ≤ 9223372036854775807) (hb : -9223372036854775808 ≤ b ∧ b ≤ 9223372036854775807) :
    Calls Try.prog 27 #[.int .i64 a, .int .i64 b] w fun e w' => e = floorEnd a b ∧ w = w' := by
  rw [floorEnd, floorV, floorB]
  by_cases h1 : b < 1
  · rw [if_pos h1, if_pos h1]
    go_enter Try.func27, Try.ntmps27
    go_wp2
    go_ret2
    exact ⟨rfl, rfl⟩
  · rw [if_neg h1, if_neg h1]
    have e := floor_mod a b (by omega)
    by_cases h2 : a.tmod b < 0
    all_goals
      have hr := tmod_bd a b (by omega)
      first | rw [if_pos h2] at e | rw [if_neg h2] at e
      rw [e]
      clear e
      go_enter Try.func27, Try.ntmps27
      go_wp2_with fail
      refine (refSub_any _ _ _ ha (by omega)).mono ?_
      rintro e w' ⟨rfl, rfl⟩
      rw [told]
      go_wp2
      go_ret2
      exact ⟨rfl, rfl⟩
theorem refMul_any (a b : Int) (w : World) (ha : -9223372036854775808 ≤ a ∧ a ≤ 9223372036854775807) (hb : -9223372036854775808 ≤ b ∧ b ≤ 9223372036854775807) :
    Calls Try.prog 26 #[.int .i64 a, .int .i64 b] w fun e w' => e = told (a * b) ∧ w = w' := by
  cases z1 : (a == 0)
  · cases z2 : (b == 0)
    · have y1 : a ≠ 0 := by simpa using z1
      have y2 : b ≠ 0 := by simpa using z2
      cases m1 : (a == -1) <;> cases m2 : (b == -9223372036854775808) <;> cases m3 : (b == -1) <;> cases m4 : (a == -9223372036854775808)
      all_goals
        have n1 := m1
        have n2 := m2
        have n3 := m3
        have n4 := m4
        simp only [beq_iff_eq, beq_eq_false_iff_ne] at n1 n2 n3 n4
        first
          | (exfalso; omega)
          | (have hno : ¬ (-9223372036854775808 ≤ a * b ∧ a * b ≤ 9223372036854775807) := by
               first | (rw [n1, n2]; decide) | (rw [n3, n4]; decide)
             have HN := hide hno
             clear hno n1 n2 n3 n4 y1 y2
             go_enter Try.func26, Try.ntmps26
             go_wp2
             go_ret2
             exact ⟨told_no HN.out, rfl⟩)
          | (have hb := mul_back a b ha hb y2 (by omega)
             cases hi : inR (a * b)
             · have t : (wrap64 ((wrap64 (a * b)).tdiv b) != a) = true := by rw [bne_iff_ne]; intro h; rw [hb.1 h] at hi; cases hi
               have HI := hide hi
               clear hb hi n1 n2 n3 n4
               go_enter Try.func26, Try.ntmps26
               go_wp2
               go_ret2
               exact ⟨told_no (inR_not.1 HI.out), rfl⟩
             · have t : (wrap64 ((wrap64 (a * b)).tdiv b) != a) = false := by simp [bne, hb.2 hi]
               have HI := hide hi
               clear hb hi n1 n2 n3 n4
               go_enter Try.func26, Try.ntmps26
               go_wp2
               go_ret2
               exact ⟨told_yes (wrap64_eq (inR_iff.1 HI.out)) (inR_iff.1 HI.out), rfl⟩)
    · obtain rfl : b = 0 := by simpa using z2
      rw [Int.mul_zero]
      go_enter Try.func26, Try.ntmps26
      go_wp2
      go_ret2
      exact ⟨told_yes rfl (by decide), rfl⟩
  · obtain rfl : a = 0 := by simpa using z1
    rw [Int.zero_mul]
    go_enter Try.func26, Try.ntmps26
    go_wp2
    go_ret2
    exact ⟨told_yes rfl (by decide), rfl⟩
end Go.Proofs.Ytbngligkmapbgaa
