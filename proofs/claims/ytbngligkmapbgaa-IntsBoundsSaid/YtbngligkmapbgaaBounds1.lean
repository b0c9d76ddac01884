/-
  The walk of IntsBounds.
-/
import Derived.Test.YtbngligkmapbgaaLaw1
import Derived.Deep.CutBlock
import Derived.Deep.DeepCutAuto
namespace Go.Proofs.Ytbngligkmapbgaa
open Go.RowKit
set_option linter.unusedVariables false

theorem tdiv_two (a : Int) : a = 2 * a.tdiv 2 + a.tmod 2 ∧ (0 ≤ a → 0 ≤ a.tmod 2 ∧ a.tmod 2 ≤ 1) ∧ (a ≤ 0 → -1 ≤ a.tmod 2 ∧ a.tmod 2 ≤ 0) := by
  have h1 := Int.tmod_add_mul_tdiv a 2
  have h2 := tmod_bd a 2 (by omega)
  refine ⟨by omega, fun h => ?_, fun h => ?_⟩
  · have := Int.tmod_nonneg 2 h
    omega
  · have := Int.tmod_nonneg 2 (show 0 ≤ -a by omega)
    rw [Int.neg_tmod] at this
    omega
theorem half_plain (a b : Int) (ha : -9223372036854775808 ≤ a ∧ a ≤ 9223372036854775807) (hb : -9223372036854775808 ≤ b ∧ b ≤ 9223372036854775807) : ∃ H : Int,
    wrap64 (wrap64 (a.tdiv 2 + b.tdiv 2) + wrap64 ((wrap64 (a.tmod 2 + b.tmod 2)).tdiv 2)) = H ∧ -9223372036854775808 ≤ H ∧ H ≤ 9223372036854775807 ∧ (inR (a + b) = true → -4611686018427387905 ≤ H ∧ H ≤ 4611686018427387905) ∧
    (inR (a + b) = true → (a + b).tdiv 2 = H ∨ (a + b).tdiv 2 = H + 1 ∨ (a + b).tdiv 2 = H - 1) ∧ (inR (a + b) = false → 4611686018427387903 ≤ H ∨ H ≤ -4611686018427387903) := by
  obtain ⟨x1, x2, x3⟩ := tdiv_two a
  obtain ⟨y1, y2, y3⟩ := tdiv_two b
  obtain ⟨z1, z2, z3⟩ := tdiv_two (a + b)
  obtain ⟨m1, m2, m3⟩ := tdiv_two (a.tmod 2 + b.tmod 2)
  have e3 : wrap64 (a.tmod 2 + b.tmod 2) = a.tmod 2 + b.tmod 2 := by
    generalize a.tmod 2 = r at *
    generalize b.tmod 2 = s at *
    clear m1 m2 m3 z1 z2 z3
    exact wrap64_eq (by omega)
  rw [e3]
  clear e3
  generalize (a.tmod 2 + b.tmod 2).tdiv 2 = m at *
  generalize (a.tmod 2 + b.tmod 2).tmod 2 = v at *
  generalize (a + b).tdiv 2 = t at *
  generalize (a + b).tmod 2 = u at *
  generalize a.tdiv 2 = p at *
  generalize a.tmod 2 = r at *
  generalize b.tdiv 2 = q at *
  generalize b.tmod 2 = s at *
  have e1 : wrap64 (p + q) = p + q := wrap64_eq (by omega)
  have e2 : wrap64 m = m := wrap64_eq (by omega)
  rw [e1, e2]
  have e4 : wrap64 (p + q + m) = p + q + m := wrap64_eq (by omega)
  refine ⟨p + q + m, e4, by omega, by omega, fun h => ?_, fun h => ?_, fun h => ?_⟩
  · rw [inR_iff] at h
    omega
  · clear h e1 e2 e4
    omega
  · rw [inR_not] at h
    omega
set_option maxRecDepth 100000 in
set_option maxHeartbeats 3200000 in
theorem intsBounds_walk (a0 a1 : Int) (w : World) (w0 : (Lit.int .i64 a0).wf = true) (w1 : (Lit.int .i64 a1).wf = true) :
    Calls Try.prog 4 #[.int .i64 a0, .int .i64 a1] w fun e w' => e = .returned (.bool true) ∧ Below w.heap.size w w' := by
  have b0 := i64_bd w0
  have b1 := i64_bd w1
  clear w0 w1
  obtain ⟨H, hH, hH1, hH2, hH5, hH3, hH4⟩ := half_plain a0 a1 b0 b1
  have H5 := hide hH5; have H3 := hide hH3; have H4 := hide hH4
  clear hH3 hH4 hH5
  go_enter Try.func4, Try.ntmps4
  go_wp2_with fail
  refine (add_any _ _ _ b0 b1).mono ?_
  rintro e w' ⟨rfl, rfl⟩
  rw [told]
  obtain ⟨S, hS⟩ : ∃ S, S = fit (a0 + a1) := ⟨_, rfl⟩
  obtain ⟨B, hB⟩ : ∃ B, B = inR (a0 + a1) := ⟨_, rfl⟩
  have hSb := fit_bd (a0 + a1)
  rw [← hS] at hSb
  rw [← hS, ← hB]
  have HS := hide hS; have HB := hide hB
  clear hS hB
  go_upto_region 3 with (fail)
  rw [hH]
  clear hH
  go_cut [64] (fun t wx => t = .bool false ∧ w = wx)
  case first =>
    cases B
    · rcases H4.out HB.out.symm with h | h
      · have d1 : decide (H < 4611686018427387903) = false := by simp; omega
        go_wp2
        go_meet
        exact ⟨rfl, rfl⟩
      · have d1 : decide (-4611686018427387903 < H) = false := by simp; omega
        rcases dec (H < 4611686018427387903) with ⟨h2, d2⟩ | ⟨h2, d2⟩
        all_goals
          go_wp2
          go_meet
          exact ⟨rfl, rfl⟩
    · have hS : S = a0 + a1 := HS.out.trans (fit_yes HB.out.symm)
      have hHb := H5.out HB.out.symm
      have e := H3.out HB.out.symm
      rw [← hS] at e
      have hT := tdiv_two S
      obtain ⟨T, eT⟩ : ∃ T, S.tdiv 2 = T := ⟨_, rfl⟩
      rw [eT] at e hT
      have hTb : -4611686018427387904 ≤ T ∧ T ≤ 4611686018427387903 := by
        generalize S.tmod 2 = u at *
        omega
      clear hS hT
      have g0 : T = H → (T != H) = false := fun h => by simp [h]
      have g1 : T = H + 1 → (T != H + 1) = false := fun h => by simp [h]
      have g2 : T = H - 1 → (T != H - 1) = false := fun h => by simp [h]
      have k0 : T = H + 1 → (T != H) = true := fun h => by rw [bne_iff_ne]; omega
      have k1 : T = H - 1 → (T != H) = true := fun h => by rw [bne_iff_ne]; omega
      have k2 : T = H - 1 → (T != H + 1) = true := fun h => by rw [bne_iff_ne]; omega
      rcases e with e | e | e
      · have t0 := g0 e
        clear g0 g1 g2 k0 k1 k2 e
        go_wp2
        go_meet
        exact ⟨rfl, rfl⟩
      · have t0 := k0 e
        have t1 := g1 e
        clear g0 g1 g2 k0 k1 k2 e
        go_wp2
        go_meet
        exact ⟨rfl, rfl⟩
      · have t0 := k1 e
        have t1 := k2 e
        have t2 := g2 e
        clear g0 g1 g2 k0 k1 k2 e
        go_wp2
        go_meet
        exact ⟨rfl, rfl⟩
  obtain ⟨rfl, rfl⟩ := hcut
  clear hSb hH1 hH2
  go_wp2_with fail
  refine (sub_any _ _ _ b0 b1).mono ?_
  rintro e w' ⟨rfl, rfl⟩
  rw [told]
  obtain ⟨S2, hS2⟩ : ∃ S2, S2 = fit (a0 - a1) := ⟨_, rfl⟩
  obtain ⟨B2, hB2⟩ : ∃ B2, B2 = inR (a0 - a1) := ⟨_, rfl⟩
  rw [← hS2, ← hB2]
  have HS2 := hide hS2; have HB2 := hide hB2
  clear hS2 hB2
  go_upto_region 6 with (fail)
  go_cut [78] (fun t wx => t = .bool false ∧ w = wx)
  case first =>
    cases B2
    · go_wp2
      go_meet
      exact ⟨rfl, rfl⟩
    · have e1 : wrap64 (S2 + a1) = a0 := by
        have h := HS2.out
        rw [fit_yes HB2.out.symm] at h
        rw [h, wrap64_eq (by omega)]; omega
      go_wp2
      go_meet
      exact ⟨rfl, rfl⟩
  obtain ⟨rfl, rfl⟩ := hcut
  rcases dec (0 ≤ a0) with ⟨h1, d1⟩ | ⟨h1, d1⟩
  · rcases dec (1 ≤ a1) with ⟨h2, d2⟩ | ⟨h2, d2⟩
    · have q1 := IntWalk.tdiv_le a0 a1 h1 h2
      have q2 := Int.emod_nonneg a0 (show a1 ≠ 0 by omega)
      have q3 := Int.emod_lt_of_pos a0 (show 0 < a1 by omega)
      have q4 := Int.ediv_mul_add_emod a0 a1
      obtain ⟨Q, hQ⟩ : ∃ Q, a0 / a1 = Q := ⟨_, rfl⟩
      obtain ⟨R, hR⟩ : ∃ R, a0 % a1 = R := ⟨_, rfl⟩
      have s1 : shareEnd a0 1 a1 = .returned (.tuple #[.int .i64 Q, .bool true]) := by
        rw [shareEnd_ok (by omega), Int.mul_one, hQ, told, fit_yes (inR_yes (by omega)), inR_yes (by omega)]
      have s2 : floorEnd a0 a1 = .returned (.tuple #[.int .i64 (a0 - R), .bool true]) := by
        rw [floorEnd, floorV, floorB, if_neg (by omega), if_neg (by omega), hR, fit_yes (inR_yes (by omega)), inR_yes (by omega)]
      rw [hQ] at q1 q4
      rw [hR] at q2 q3 q4
      obtain ⟨F, hF⟩ : ∃ F, a0 - R = F := ⟨_, rfl⟩
      have s3 : wrap64 (Q * a1) = F := by rw [← hF, wrap64_eq (by omega)]; omega
      have s4 : Q * a1 = F := by omega
      rw [hF] at s2
      have S1 := hide s1; have S2 := hide s2
      clear s1 s2 q2 q3 q4 hR hF s4
      go_wp2_with fail
      refine (share_any _ _ _ _ b0 (by omega) b1).mono ?_
      rintro e w' ⟨rfl, n, rfl⟩
      rw [S1.out]
      go_wp2_with fail
      refine (floor_any _ _ _ b0 b1).mono ?_
      rintro e w' ⟨rfl, rfl⟩
      rw [S2.out]
      go_wp2_with fail
      refine (known_any _).mono ?_
      rintro e w' ⟨rfl, n5, rfl⟩
      go_wp2
      go_ret
      exact ⟨rfl, below_drewN (Below.refl _ _) _⟩
    · go_wp2_with fail
      refine (known_any _).mono ?_
      rintro e w' ⟨rfl, n5, rfl⟩
      go_wp2
      go_ret
      exact ⟨rfl, below_drewN (Below.refl _ _) _⟩
  · go_wp2_with fail
    refine (known_any _).mono ?_
    rintro e w' ⟨rfl, n5, rfl⟩
    go_wp2
    go_ret
    exact ⟨rfl, below_drewN (Below.refl _ _) _⟩
end Go.Proofs.Ytbngligkmapbgaa
