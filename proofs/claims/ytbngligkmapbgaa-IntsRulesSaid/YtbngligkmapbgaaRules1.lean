/-
  The walk of IntsRules.
-/
import Derived.Test.YtbngligkmapbgaaLaw1
import Derived.Deep.CutBlock
import Derived.Deep.DeepCutAuto
namespace Go.Proofs.Ytbngligkmapbgaa
open Go.RowKit
set_option linter.unusedVariables false

set_option maxRecDepth 100000 in
set_option maxHeartbeats 3200000 in
theorem intsRules_walk (a0 a1 : Int) (w : World) (w0 : (Lit.int .i64 a0).wf = true) (w1 : (Lit.int .i64 a1).wf = true) :
    Calls Try.prog 5 #[.int .i64 a0, .int .i64 a1] w fun e w' => e = .returned (.bool true) ∧ Below w.heap.size w w' := by
  have b0 := i64_bd w0
  have b1 := i64_bd w1
  clear w0 w1
  go_enter Try.func5, Try.ntmps5
  go_wp2_with fail
  refine (add_any _ _ _ b0 b1).mono ?_
  rintro e w' ⟨rfl, rfl⟩
  rw [told]
  obtain ⟨S, hS⟩ : ∃ S, S = fit (a0 + a1) := ⟨_, rfl⟩
  obtain ⟨B, hB⟩ : ∃ B, B = inR (a0 + a1) := ⟨_, rfl⟩
  rw [← hS, ← hB]
  have HS := hide hS; have HB := hide hB
  clear hS hB
  go_upto_if 23 with (fail)
  go_cut [] (fun wx => w = wx)
  case first =>
    cases B
    · go_wp2
      go_meet
      rfl
    · have hS : S = a0 + a1 := HS.out.trans (fit_yes HB.out.symm)
      have hi := inR_iff.1 HB.out.symm
      have t1 : told (S - a1) = .returned (.tuple #[.int .i64 a0, .bool true]) := by rw [hS, show a0 + a1 - a1 = a0 by omega, told, fit_yes (inR_yes b0), inR_yes b0]
      have t2 : told (a1 + a0) = .returned (.tuple #[.int .i64 S, .bool true]) := by rw [hS, Int.add_comm a1 a0, told, fit_yes (inR_yes hi), inR_yes hi]
      have T1 := hide t1; have T2 := hide t2
      have bS : -9223372036854775808 ≤ S ∧ S ≤ 9223372036854775807 := by omega
      clear t1 t2 hS hi
      go_wp2_with fail
      refine (sub_any _ _ _ bS b1).mono ?_
      rintro e w' ⟨rfl, rfl⟩
      rw [T1.out]
      go_wp2_with fail
      refine (add_any _ _ _ b1 b0).mono ?_
      rintro e w' ⟨rfl, rfl⟩
      rw [T2.out]
      go_wp2
      go_meet
      rfl
  subst hcut
  go_wp2_with fail
  refine (mul_any _ _ _ b0 b1).mono ?_
  rintro e w' ⟨rfl, rfl⟩
  rw [told]
  go_wp2_with fail
  refine (mul_any _ _ _ b1 b0).mono ?_
  rintro e w' ⟨rfl, rfl⟩
  rw [told, Int.mul_comm a1 a0]
  obtain ⟨P, hP⟩ : ∃ P, P = fit (a0 * a1) := ⟨_, rfl⟩
  obtain ⟨B3, hB3⟩ : ∃ B3, B3 = inR (a0 * a1) := ⟨_, rfl⟩
  rw [← hP, ← hB3]
  have HP := hide hP; have HB3 := hide hB3
  clear hP hB3
  go_upto_region 9 with (fail)
  go_cut [85] (fun t wx => t = .bool false ∧ w = wx)
  case first =>
    cases B3
    · go_wp2
      go_meet
      exact ⟨rfl, rfl⟩
    · cases z : (a0 != 0)
      · go_wp2
        go_meet
        exact ⟨rfl, rfl⟩
      · have hz : a0 ≠ 0 := by simpa using z
        have q1 : P.tdiv a0 = a1 := by rw [HP.out.trans (fit_yes HB3.out.symm), Int.mul_tdiv_cancel_left _ hz]
        have q2 : wrap64 (P.tdiv a0) = a1 := by rw [q1]; exact wrap64_eq b1
        have q3 : (a0 == 0) = false := by simp [hz]
        go_wp2
        go_meet
        exact ⟨rfl, rfl⟩
  obtain ⟨rfl, rfl⟩ := hcut
  go_wp2_with fail
  refine (floor_any _ _ _ b0 b1).mono ?_
  rintro e w' ⟨rfl, rfl⟩
  rw [floorEnd]
  obtain ⟨V, hV⟩ : ∃ V, V = floorV a0 a1 := ⟨_, rfl⟩
  obtain ⟨B4, hB4⟩ : ∃ B4, B4 = floorB a0 a1 := ⟨_, rfl⟩
  rw [← hV, ← hB4]
  have h4 : B4 = true → 1 ≤ a1 ∧ V.tmod a1 = 0 ∧ V ≤ a0 ∧ a0 - V < a1 := by
    intro h
    rw [h] at hB4
    unfold floorB at hB4
    split at hB4
    · cases hB4
    · rename_i h1
      unfold floorV at hV
      rw [if_neg h1, fit_yes hB4.symm] at hV
      have q2 := Int.emod_nonneg a0 (show a1 ≠ 0 by omega)
      have q3 := Int.emod_lt_of_pos a0 (show 0 < a1 by omega)
      have q4 := Int.mul_ediv_add_emod a0 a1
      refine ⟨by omega, ?_, by omega, by omega⟩
      rw [hV, show a0 - a0 % a1 = a1 * (a0 / a1) by omega]
      exact Int.mul_tmod_right _ _
  have h5 : B4 = false → 1 ≤ a1 → 0 ≤ a0 → False := by
    intro h h1 h2
    rw [h] at hB4
    unfold floorB at hB4
    rw [if_neg (by omega)] at hB4
    have q2 := Int.emod_nonneg a0 (show a1 ≠ 0 by omega)
    have q3 := IntWalk.tdiv_le a0 a1 h2 h1
    have q4 := Int.mul_ediv_add_emod a0 a1
    have q5 : 0 ≤ a1 * (a0 / a1) := Int.mul_nonneg (by omega) q3.1
    have := inR_not.1 hB4.symm
    omega
  have H4 := hide h4; have H5 := hide h5
  clear hV hB4 h4 h5
  go_upto_region 12 with (fail)
  go_cut [116] (fun t wx => t = .bool false ∧ w = wx)
  case first =>
    cases B4
    · go_wp2
      go_meet
      exact ⟨rfl, rfl⟩
    · obtain ⟨i1, i2, i3, i4⟩ := H4.out rfl
      have d1 : decide (a0 < V) = false := by simp; omega
      have d2 : decide (a1 ≤ a0 - V) = false := by simp; omega
      have d3 : decide (a0 - V < 0) = false := by simp; omega
      have d4 : (a1 == 0) = false := by simp; omega
      have i5 : 0 ≤ a0 - V := by omega
      have e1 : wrap64 (a0 - V) = a0 - V := wrap64_eq (by omega)
      have e2 : IntKind.i64.wrap (a0 - V) = a0 - V := IntWalk.i64_in _ (by omega)
      go_wp2
      go_meet
      exact ⟨rfl, rfl⟩
  obtain ⟨rfl, rfl⟩ := hcut
  have fin : B4 = true ∨ (B4 = false ∧ (a1 < 1)) ∨ (B4 = false ∧ ¬ a1 < 1 ∧ a0 < 0) := by
    cases B4
    · by_cases h : a1 < 1
      · exact .inr (.inl ⟨rfl, h⟩)
      · by_cases h' : a0 < 0
        · exact .inr (.inr ⟨rfl, h, h'⟩)
        · exact (H5.out rfl (by omega) (by omega)).elim
    · exact .inl rfl
  rcases fin with rfl | ⟨rfl, h1⟩ | ⟨rfl, h1, h2⟩
  all_goals
    go_wp2_with fail
    refine (known_any _).mono ?_
    rintro e w' ⟨rfl, n5, rfl⟩
    go_wp2
    go_ret
    exact ⟨rfl, below_drewN (Below.refl _ _) _⟩
end Go.Proofs.Ytbngligkmapbgaa
