/-
  The walk of IntsShares.
-/
import Derived.Test.YtbngligkmapbgaaLaw1
import Derived.Deep.CutBlock
import Derived.Deep.DeepCutAuto
namespace Go.Proofs.Ytbngligkmapbgaa
open Go.RowKit
set_option linter.unusedVariables false

theorem share_nat (x y z : Nat) (hz : 1 ≤ z) (h : x * y ≤ 9223372036854775807) : shareEnd (x : Int) (y : Int) (z : Int) = .returned (.tuple #[.int .i64 ((x * y / z : Nat) : Int), .bool true]) := by
  have e : (x : Int) * y / z = ((x * y / z : Nat) : Int) := by simp
  have h2 := Nat.div_le_self (x * y) z
  rw [shareEnd_ok (by omega), e]
  generalize x * y / z = q at *
  rw [told, fit_yes (inR_yes (by omega)), inR_yes (by omega)]
theorem shares_plain (X Y Z : Nat) (hX : X < 2147483648) (hY : Y < 2147483648) (hZ : 1 ≤ Z) (hZ2 : Z ≤ 1073741824) : ∃ P Q M R : Int,
    shareEnd (X : Int) (Y : Int) (Z : Int) = .returned (.tuple #[.int .i64 Q, .bool true]) ∧ shareEnd (X : Int) ((Y + 1 : Nat) : Int) (Z : Int) = .returned (.tuple #[.int .i64 R, .bool true]) ∧
    shareEnd (X : Int) (Z : Int) (Z : Int) = .returned (.tuple #[.int .i64 (X : Int), .bool true]) ∧ shareEnd (Y : Int) (X : Int) (Z : Int) = .returned (.tuple #[.int .i64 Q, .bool true]) ∧
    wrap64 ((X : Int) * Y) = P ∧ wrap64 (Q * (Z : Int)) = M ∧ M ≤ P ∧ P - M < (Z : Int) ∧ Q ≤ R ∧ P ≤ 4611686014132420609 := by
  have p1 : X * Y ≤ 2147483647 * 2147483647 := Nat.mul_le_mul (by omega) (by omega)
  have p2 : X * (Y + 1) ≤ 2147483647 * 2147483648 := Nat.mul_le_mul (by omega) (by omega)
  have p3 : X * Z ≤ 2147483647 * 1073741824 := Nat.mul_le_mul (by omega) (by omega)
  have q1 : X * Y ≤ 9223372036854775807 := Nat.le_trans p1 (by decide)
  have q4 : Y * X ≤ 9223372036854775807 := by rw [Nat.mul_comm Y X]; exact q1
  have s1 := share_nat X Y Z hZ q1
  have s2 := share_nat X (Y + 1) Z hZ (Nat.le_trans p2 (by decide))
  have s3 := share_nat X Z Z hZ (Nat.le_trans p3 (by decide))
  have s4 := share_nat Y X Z hZ q4
  rw [Nat.mul_div_cancel X (show 0 < Z from hZ)] at s3
  rw [Nat.mul_comm Y X] at s4
  have hq := Nat.div_add_mod (X * Y) Z
  have hr := Nat.mod_lt (X * Y) (show Z > 0 from hZ)
  have hle : X * Y / Z ≤ X * (Y + 1) / Z := Nat.div_le_div_right (Nat.mul_le_mul_left X (Nat.le_succ Y))
  rw [Nat.mul_comm Z] at hq
  refine ⟨((X * Y : Nat) : Int), ((X * Y / Z : Nat) : Int), ((X * Y / Z * Z : Nat) : Int), ((X * (Y + 1) / Z : Nat) : Int), s1, s2, s3, s4, ?_, ?_, ?_, ?_, ?_, ?_⟩
  · rw [← Int.natCast_mul]; exact wrap64_eq ⟨by omega, by generalize X * Y = m at *; omega⟩
  · rw [← Int.natCast_mul]; exact wrap64_eq ⟨by omega, by generalize X * Y / Z * Z = m at *; omega⟩
  · generalize X * Y / Z * Z = m at *; omega
  · generalize X * Y / Z * Z = m at *; omega
  · exact Int.ofNat_le.2 hle
  · generalize X * Y = m at *; omega
set_option maxRecDepth 100000 in
set_option maxHeartbeats 3200000 in
theorem intsShares_walk (a0 a1 a2 : Int) (w : World) (w0 : (Lit.int .i32 a0).wf = true) (w1 : (Lit.int .i32 a1).wf = true) (w2 : (Lit.int .i32 a2).wf = true) :
    Calls Try.prog 3 #[.int .i32 a0, .int .i32 a1, .int .i32 a2] w fun e w' => e = .returned (.bool true) ∧ Below w.heap.size w w' := by
  have b0 := i32_bd w0
  have b1 := i32_bd w1
  have b2 := i32_bd w2
  clear w0 w1 w2
  go_enter Try.func3, Try.ntmps3
  go_upto_if 25 with (fail)
  go_cut [7] (fun x wx => x = .int .i64 (a0.natAbs : Int) ∧ w = wx)
  case first =>
    by_cases h1 : a0 < 0
    all_goals
      go_wp2
      go_meet
      exact ⟨val_int (by omega), rfl⟩
  obtain ⟨rfl, rfl⟩ := hcut
  go_upto_if 29 with (fail)
  go_cut [8] (fun x wx => x = .int .i64 (a1.natAbs : Int) ∧ w = wx)
  case first =>
    by_cases h1 : a1 < 0
    all_goals
      go_wp2
      go_meet
      exact ⟨val_int (by omega), rfl⟩
  obtain ⟨rfl, rfl⟩ := hcut
  go_upto_if 33 with (fail)
  go_cut [9] (fun x wx => x = .int .i64 (a2.natAbs : Int) ∧ w = wx)
  case first =>
    by_cases h1 : a2 < 0
    all_goals
      go_wp2
      go_meet
      exact ⟨val_int (by omega), rfl⟩
  obtain ⟨rfl, rfl⟩ := hcut
  obtain ⟨X, hXe⟩ : ∃ X, X = a0.natAbs % 2147483648 := ⟨_, rfl⟩
  obtain ⟨Y, hYe⟩ : ∃ Y, Y = a1.natAbs % 2147483648 := ⟨_, rfl⟩
  obtain ⟨Z, hZe⟩ : ∃ Z, Z = a2.natAbs % 1073741824 + 1 := ⟨_, rfl⟩
  have ex : (a0.natAbs : Int) % 2147483648 = X := by omega
  have ey : (a1.natAbs : Int) % 2147483648 = Y := by omega
  have ez : (a2.natAbs : Int) % 1073741824 + 1 = Z := by omega
  have hX : X < 2147483648 := by omega
  have hY : Y < 2147483648 := by omega
  have hZ : 1 ≤ Z := by omega
  have hZ2 : Z ≤ 1073741824 := by omega
  clear hXe hYe hZe b0 b1 b2
  obtain ⟨P, Q, M, R, s1, s2, s3, s4, e1, e2, c1, c2, c3, c4⟩ := shares_plain X Y Z hX hY hZ hZ2
  have S1 := hide s1; have S2 := hide s2; have S3 := hide s3; have S4 := hide s4
  have b1 : (X : Int) < 2147483648 := by omega
  have b2 : (Y : Int) < 2147483648 := by omega
  have b3 : (Z : Int) ≤ 1073741824 := by omega
  have f1 : decide (P < M) = false := by simp; omega
  have f2 : decide ((Z : Int) ≤ P - M) = false := by simp; omega
  have f3 : wrap64 (P - M) = P - M := wrap64_eq (by omega)
  have f4 : IntKind.i64.wrap (P - M) = P - M := IntWalk.i64_in _ (by omega)
  clear s1 s2 s3 s4
  go_wp2_with fail
  refine (share_any _ _ _ _ (by omega) (by omega) (by omega)).mono ?_
  rintro e w' ⟨rfl, n, rfl⟩
  rw [S1.out]
  go_wp2_with fail
  refine (share_any _ _ _ _ (by omega) (by omega) (by omega)).mono ?_
  rintro e w' ⟨rfl, n2, rfl⟩
  rw [show (Y : Int) + 1 = ((Y + 1 : Nat) : Int) by omega, S2.out]
  go_wp2_with fail
  refine (share_any _ _ _ _ (by omega) (by omega) (by omega)).mono ?_
  rintro e w' ⟨rfl, n3, rfl⟩
  rw [S3.out]
  go_wp2_with fail
  refine (share_any _ _ _ _ (by omega) (by omega) (by omega)).mono ?_
  rintro e w' ⟨rfl, n4, rfl⟩
  rw [S4.out]
  go_wp2_with fail
  refine (known_any _).mono ?_
  rintro e w' ⟨rfl, n5, rfl⟩
  go_wp2
  go_ret
  exact ⟨rfl, below_drewN (Below.refl _ _) _⟩
end Go.Proofs.Ytbngligkmapbgaa
