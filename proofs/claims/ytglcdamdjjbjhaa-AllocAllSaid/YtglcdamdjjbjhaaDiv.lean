/-
  What math/bits.Div64 and ints.Share compute.
-/
import Derived.Test.YtglcdamdjjbjhaaInts
import Derived.Test.YtglcdamdjjbjhaaDivP
import Derived.Deep.CutBlock
import Derived.Deep.DeepCutAuto
import Derived.Lib.BitFns
import Derived.Lib.Strings
import Derived.Lib.Slices
import Derived.Lib.Small
import Derived.Lib.Walk
namespace Go.Proofs.Ytglcdamdjjbjhaa
open Go.RowKit
set_option linter.unusedVariables false

theorem len8_at (v : Int) (n x : Nat) (h0 : 0 ≤ v) (h1 : v ≤ 255) (h : Lib.bitLen x = n + Lib.bitLen v.toNat) : (n : Int) + Lib.len8 v = Lib.bitLen x := by
  rw [Lib.len8_of v h0 h1]; omega
theorem len8_bd (v : Int) (h0 : 0 ≤ v) (h1 : v ≤ 255) : 0 ≤ Lib.len8 v ∧ Lib.len8 v ≤ 8 := by
  rw [Lib.len8_of v h0 h1]
  have := Lib.bitLen_le8' v h0 h1
  omega
set_option maxHeartbeats 4000000 in
set_option maxRecDepth 100000 in
theorem len64_any (x : Int) (w : World) (h0 : 0 ≤ x) (h1 : x ≤ 18446744073709551615) :
    Calls Try.prog 40 #[.int .u64 x] w fun e w' => e = .returned (.int .i64 (Lib.bitLen x.toNat)) ∧ w = w' := by
  have hc : x < 256 ∨ (256 ≤ x ∧ x < 65536) ∨ (65536 ≤ x ∧ x < 16777216) ∨ (16777216 ≤ x ∧ x < 4294967296) ∨ (4294967296 ≤ x ∧ x < 1099511627776) ∨ (1099511627776 ≤ x ∧ x < 281474976710656) ∨ (281474976710656 ≤ x ∧ x < 72057594037927936) ∨ 72057594037927936 ≤ x := by omega
  rcases hc with hc | hc | hc | hc | hc | hc | hc | hc
  · have b0 : 0 ≤ x := by omega
    have b1 : x ≤ 255 := by omega
    have hb := hide (len8_bd (x) b0 b1)
    have he := hide (len8_at (x) 0 x.toNat b0 b1 (by simp))
    go_enter Try.func40, Try.ntmps40
    go_wp2
    go_ret
    have hb := hb.out
    exact ⟨ret_int (by have := he.out; first | omega | (simp only [wrap64]; omega)), rfl⟩
  · have b0 : 0 ≤ x / 256 := by omega
    have b1 : x / 256 ≤ 255 := by omega
    have hb := hide (len8_bd (x / 256) b0 b1)
    have he := hide (len8_at (x / 256) 8 x.toNat b0 b1 (by rw [Lib.bitLen_shift8 x.toNat (by omega) (by omega)]; congr 2; omega))
    go_enter Try.func40, Try.ntmps40
    go_wp2
    go_ret
    have hb := hb.out
    exact ⟨ret_int (by have := he.out; first | omega | (simp only [wrap64]; omega)), rfl⟩
  · have b0 : 0 ≤ x / 65536 := by omega
    have b1 : x / 65536 ≤ 255 := by omega
    have hb := hide (len8_bd (x / 65536) b0 b1)
    have he := hide (len8_at (x / 65536) 16 x.toNat b0 b1 (by rw [Lib.bitLen_shift16 x.toNat (by omega) (by omega)]; congr 2; omega))
    go_enter Try.func40, Try.ntmps40
    go_wp2
    go_ret
    have hb := hb.out
    exact ⟨ret_int (by have := he.out; first | omega | (simp only [wrap64]; omega)), rfl⟩
  · have b0 : 0 ≤ x / 65536 / 256 := by omega
    have b1 : x / 65536 / 256 ≤ 255 := by omega
    have hb := hide (len8_bd (x / 65536 / 256) b0 b1)
    have he := hide (len8_at (x / 65536 / 256) 24 x.toNat b0 b1 (by rw [Lib.bitLen_shift24 x.toNat (by omega) (by omega)]; congr 2; omega))
    go_enter Try.func40, Try.ntmps40
    go_wp2
    go_ret
    have hb := hb.out
    exact ⟨ret_int (by have := he.out; first | omega | (simp only [wrap64]; omega)), rfl⟩
  · have b0 : 0 ≤ x / 4294967296 := by omega
    have b1 : x / 4294967296 ≤ 255 := by omega
    have hb := hide (len8_bd (x / 4294967296) b0 b1)
    have he := hide (len8_at (x / 4294967296) 32 x.toNat b0 b1 (by rw [Lib.bitLen_shift32 x.toNat (by omega) (by omega)]; congr 2; omega))
    go_enter Try.func40, Try.ntmps40
    go_wp2
    go_ret
    have hb := hb.out
    exact ⟨ret_int (by have := he.out; first | omega | (simp only [wrap64]; omega)), rfl⟩
  · have b0 : 0 ≤ x / 4294967296 / 256 := by omega
    have b1 : x / 4294967296 / 256 ≤ 255 := by omega
    have hb := hide (len8_bd (x / 4294967296 / 256) b0 b1)
    have he := hide (len8_at (x / 4294967296 / 256) 40 x.toNat b0 b1 (by rw [Lib.bitLen_shift40 x.toNat (by omega) (by omega)]; congr 2; omega))
    go_enter Try.func40, Try.ntmps40
    go_wp2
    go_ret
    have hb := hb.out
    exact ⟨ret_int (by have := he.out; first | omega | (simp only [wrap64]; omega)), rfl⟩
  · have b0 : 0 ≤ x / 4294967296 / 65536 := by omega
    have b1 : x / 4294967296 / 65536 ≤ 255 := by omega
    have hb := hide (len8_bd (x / 4294967296 / 65536) b0 b1)
    have he := hide (len8_at (x / 4294967296 / 65536) 48 x.toNat b0 b1 (by rw [Lib.bitLen_shift48 x.toNat (by omega) (by omega)]; congr 2; omega))
    go_enter Try.func40, Try.ntmps40
    go_wp2
    go_ret
    have hb := hb.out
    exact ⟨ret_int (by have := he.out; first | omega | (simp only [wrap64]; omega)), rfl⟩
  · have b0 : 0 ≤ x / 4294967296 / 65536 / 256 := by omega
    have b1 : x / 4294967296 / 65536 / 256 ≤ 255 := by omega
    have hb := hide (len8_bd (x / 4294967296 / 65536 / 256) b0 b1)
    have he := hide (len8_at (x / 4294967296 / 65536 / 256) 56 x.toNat b0 b1 (by rw [Lib.bitLen_shift56 x.toNat (by omega) (by omega)]; congr 2; omega))
    go_enter Try.func40, Try.ntmps40
    go_wp2
    go_ret
    have hb := hb.out
    exact ⟨ret_int (by have := he.out; first | omega | (simp only [wrap64]; omega)), rfl⟩
theorem lead_any (x : Int) (w : World) (h0 : 0 ≤ x) (h1 : x ≤ 18446744073709551615) :
    Calls Try.prog 38 #[.int .u64 x] w fun e w' => e = .returned (.int .i64 (64 - (Lib.bitLen x.toNat : Int))) ∧ w = w' := by
  have l : Lib.bitLen x.toNat ≤ 64 := Lib.bitLen_le x.toNat 64 (by omega) (by omega)
  go_enter Try.func38, Try.ntmps38
  go_wp2_with fail
  refine (len64_any x _ h0 h1).mono ?_
  rintro e w' ⟨rfl, rfl⟩
  go_wp2
  go_ret
  exact ⟨rfl, rfl⟩
theorem ret_two {k k' : IntKind} {a b a' b' : Int} (h : a = a') (h' : b = b') : Ending.returned (.tuple #[.int k a, .int k' b]) = .returned (.tuple #[.int k a', .int k' b']) := by rw [h, h']
set_option maxRecDepth 100000 in
set_option maxHeartbeats 1600000 in
theorem div64_any (hi lo y : Nat) (w : World) (h1 : hi < y) (h2 : lo < 18446744073709551616) (h3 : y < 18446744073709551616) :
    Calls Try.prog 35 #[.int .u64 hi, .int .u64 lo, .int .u64 y] w fun e w' => e = .returned (.tuple #[.int .u64 (((hi * 18446744073709551616 + lo) / y : Nat) : Int), .int .u64 (((hi * 18446744073709551616 + lo) % y : Nat) : Int)]) ∧ ∃ n, w' = w.drewN n := by
  have z1 : ((y : Int) == 0) = false := by simp; omega
  have t1 : ((y : Int) ≤ hi) = False := by simp; omega
  have i1 : (1 : Int) ≤ y := by omega
  cases z2 : ((hi : Int) == 0)
  · obtain ⟨s, Y, U, D, hs1, hs2, hYe, hY1, hY2, hY, hU, hD, hD2, hUY, hN⟩ := shift_laws hi lo y h1 h2 h3
    obtain ⟨y1, hy1⟩ : ∃ y1, y1 = Y / 4294967296 := ⟨_, rfl⟩
    obtain ⟨y0, hy0⟩ : ∃ y0, y0 = Y % 4294967296 := ⟨_, rfl⟩
    obtain ⟨d1, hd1⟩ : ∃ d1, d1 = D / 4294967296 := ⟨_, rfl⟩
    obtain ⟨d0, hd0⟩ : ∃ d0, d0 = D % 4294967296 := ⟨_, rfl⟩
    obtain ⟨q0, hq0⟩ : ∃ q0, q0 = U / y1 := ⟨_, rfl⟩
    obtain ⟨r0, hr0⟩ : ∃ r0, r0 = U % y1 := ⟨_, rfl⟩
    have hv : Y = y1 * 4294967296 + y0 := by omega
    have by1 : 2147483648 ≤ y1 := by omega
    have by1' : y1 < 4294967296 := by omega
    have by0 : y0 < 4294967296 := by omega
    have bd1 : d1 < 4294967296 := by omega
    have bd0 : d0 < 4294967296 := by omega
    have G0 : Guess U d1 Y y1 q0 r0 := by rw [hq0, hr0]; exact guess_start (by omega) hv bd1
    have br0 : r0 < y1 := by rw [hr0]; exact Nat.mod_lt _ (by omega)
    have e1 : (Y : Int) / 4294967296 = y1 := by omega
    have e2 : bits .and .u64 (Y : Int) 4294967295 = y0 := by rw [Mul64.maskN Y hY2]; omega
    have e3 : (D : Int) / 4294967296 = d1 := by omega
    have e4 : bits .and .u64 (D : Int) 4294967295 = d0 := by rw [Mul64.maskN D hD2]; omega
    have e5 : (U : Int) / (y1 : Int) = q0 := by rw [hq0]; simp
    have e6 : IntKind.u64.wrap ((U : Int).tdiv y1) = q0 := by rw [IntWalk.u64_quo _ _ (by omega)]; exact e5
    have hm := G0.1
    have bq0 : q0 ≤ U := by rw [hq0]; exact Nat.div_le_self _ _
    have e7 : IntKind.u64.wrap ((q0 : Int) * y1) = ((q0 * y1 : Nat) : Int) := by rw [← Int.natCast_mul]; exact IntWalk.u64_in _ (by omega)
    have e8 : IntKind.u64.wrap ((U : Int) - ((q0 * y1 : Nat) : Int)) = r0 := by rw [IntWalk.u64_in _ (by omega)]; omega
    have e9 : IntKind.u64.wrap ((U : Int) - IntKind.u64.wrap ((q0 : Int) * y1)) = r0 := by rw [e7]; exact e8
    have bq0 : (q0 : Int) ≤ 18446744073709551615 := by omega
    have br0 : (r0 : Int) ≤ 4294967295 := by omega
    have G := hide G0
    have HN := hide hN; have HS := hide hs2; have HYE := hide hYe; have HV := hide hv; have HUY := hide hUY; have HY1 := hide hY1
    have bU : (U : Int) ≤ 18446744073709551615 := by omega
    have bd1i : (d1 : Int) ≤ 4294967295 := by omega
    have bd0i : (d0 : Int) ≤ 4294967295 := by omega
    have by0i : (y0 : Int) ≤ 4294967295 := by omega
    have by1i : (y1 : Int) ≤ 4294967295 := by omega
    have by1j : (1 : Int) ≤ y1 := by omega
    have HDD := hide (show D = d1 * 4294967296 + d0 by omega)
    clear hm G0 hN hs2 hYe hv hUY hY1 hy1 hy0 hd1 hd0 hq0 hr0 by1 hY2 e7 e8
    go_enter Try.func35, Try.ntmps35
    go_wp2_with fail
    refine (lead_any _ _ (by omega) (by omega)).mono ?_
    rintro e w' ⟨rfl, rfl⟩
    rw [Int.toNat_natCast, hs1]
    clear hs1
    go_upto_block 0 with (fail)
    obtain ⟨Q1, hQ1⟩ : ∃ Q1, Q1 = (U * 4294967296 + d1) / Y := ⟨_, rfl⟩
    obtain ⟨V, hV⟩ : ∃ V, V = (U * 4294967296 + d1) % Y := ⟨_, rfl⟩
    have HQ1 := hide hQ1
    have HVV := hide hV
    clear hQ1 hV
    go_cut [15] (fun q wx => q = .int .u64 (Q1 : Int) ∧ w = wx)
    case first =>
      go_wp2
      go_loop [15, 16] (fun q r => ∃ a b : Nat, q = .int .u64 a ∧ r = .int .u64 b ∧ (b : Int) ≤ 4294967295 ∧ (a : Int) ≤ 18446744073709551615 ∧ Hid (Guess U d1 Y y1 a b)) (fun q _ => (intOf q).toNat)
      case atStart => exact ⟨q0, r0, rfl, rfl, br0, bq0, G⟩
      case round =>
        obtain ⟨a, b, rfl, rfl, hb, ha, G'⟩ := hrel
        clear G e9 e6 e5
        rcases dec ((4294967296 : Int) ≤ a) with ⟨t2, d2⟩ | ⟨t2, d2⟩
        · have GN := hide (guess_big G'.out HUY.out bd1 (by omega))
          rcases dec ((4294967296 : Int) ≤ (b : Int) + y1) with ⟨t3, d3⟩ | ⟨t3, d3⟩
          · go_wp2
            go_meet
            exact ⟨val_int (by rw [HQ1.out, guess_over GN.out HUY.out HV.out by0 (by omega)]; omega), rfl⟩
          · go_wp2
            go_round
            case rel => exact ⟨a - 1, b + y1, val_int (by omega), val_int (by omega), by omega, by omega, GN⟩
            case measure => simp [intOf]; omega
        · obtain ⟨P, hP⟩ : ∃ P, P = a * y0 := ⟨_, rfl⟩
          have hPl : P < 18446744073709551616 := by rw [hP]; exact guess_lt G'.out (by omega) by0
          have eP : IntKind.u64.wrap ((a : Int) * y0) = (P : Int) := by rw [hP, ← Int.natCast_mul]; exact IntWalk.u64_in _ (by rw [← hP]; omega)
          have HP := hide hP
          clear hP
          rcases dec (4294967296 * (b : Int) + d1 < P) with ⟨t4, d4⟩ | ⟨t4, d4⟩
          · have GN := hide (guess_next G'.out HV.out (by rw [← HP.out]; omega))
            have ha0 : a ≠ 0 := by have hP := HP.out; rintro rfl; rw [Nat.zero_mul] at hP; omega
            have ha1 : (1 : Int) ≤ a := by omega
            rcases dec ((4294967296 : Int) ≤ (b : Int) + y1) with ⟨t3, d3⟩ | ⟨t3, d3⟩
            · go_wp2
              go_meet
              exact ⟨val_int (by rw [HQ1.out, guess_over GN.out HUY.out HV.out by0 (by omega)]; omega), rfl⟩
            · go_wp2
              go_round
              case rel => exact ⟨a - 1, b + y1, val_int (by omega), val_int (by omega), by omega, by omega, GN⟩
              case measure => simp [intOf]; omega
          · have hq := hide (guess_end G'.out HV.out (by rw [← HP.out]; omega))
            go_wp2
            go_meet
            exact ⟨val_int (by rw [HQ1.out, hq.out]), rfl⟩
    obtain ⟨rfl, rfl⟩ := hcut
    clear G e9 e6 e5 br0 bq0
    obtain ⟨p0, hp0⟩ : ∃ p0, p0 = V / y1 := ⟨_, rfl⟩
    obtain ⟨s0, hs0⟩ : ∃ s0, s0 = V % y1 := ⟨_, rfl⟩
    obtain ⟨Q2, hQ2⟩ : ∃ Q2, Q2 = (V * 4294967296 + d0) / Y := ⟨_, rfl⟩
    obtain ⟨R2, hR2⟩ : ∃ R2, R2 = (V * 4294967296 + d0) % Y := ⟨_, rfl⟩
    have hY1 := HY1.out
    have hUY := HUY.out
    have hV := HVV.out
    have hQ1 := HQ1.out
    have hVY : V < Y := by rw [hV]; exact Nat.mod_lt _ (by omega)
    have hdm := Nat.div_add_mod (U * 4294967296 + d1) Y
    rw [← hQ1, ← hV, Nat.mul_comm] at hdm
    have hdm2 := Nat.div_add_mod (V * 4294967296 + d0) Y
    rw [← hQ2, ← hR2, Nat.mul_comm] at hdm2
    have hRY : R2 < Y := by rw [hR2]; exact Nat.mod_lt _ (by omega)
    have hYY : Y < 18446744073709551616 := by have := HV.out; omega
    have g1 : IntKind.u64.wrap (IntKind.u64.wrap (IntKind.u64.wrap ((U : Int) * 4294967296) + d1) - IntKind.u64.wrap ((Q1 : Int) * Y)) = (V : Int) := by
      rw [← Int.natCast_mul]; simp only [IntKind.wrap_u64]; omega
    have g2 : IntKind.u64.wrap (IntKind.u64.wrap (IntKind.u64.wrap ((V : Int) * 4294967296) + d0) - IntKind.u64.wrap ((Q2 : Int) * Y)) = (R2 : Int) := by
      rw [← Int.natCast_mul]; simp only [IntKind.wrap_u64]; omega
    have G0 : Guess V d0 Y y1 p0 s0 := by rw [hp0, hs0]; exact guess_start (by omega) HV.out bd0
    have bs0 : (s0 : Int) ≤ 4294967295 := by have := Nat.mod_lt V (show 0 < y1 by omega); omega
    have bp0 : (p0 : Int) ≤ 18446744073709551615 := by have := Nat.div_le_self V y1; omega
    have hm := G0.1
    have f5 : (V : Int) / (y1 : Int) = p0 := by rw [hp0]; simp
    have f6 : IntKind.u64.wrap ((V : Int).tdiv y1) = p0 := by rw [IntWalk.u64_quo _ _ (by omega)]; exact f5
    have f7 : IntKind.u64.wrap ((p0 : Int) * y1) = ((p0 * y1 : Nat) : Int) := by rw [← Int.natCast_mul]; exact IntWalk.u64_in _ (by omega)
    have f9 : IntKind.u64.wrap ((V : Int) - IntKind.u64.wrap ((p0 : Int) * y1)) = s0 := by rw [f7, IntWalk.u64_in _ (by omega)]; omega
    have hend := div_halves U d1 d0 Y (by omega) bd0
    have hD' := HDD.out
    rw [← hQ1, ← hV, ← hQ2, ← hR2, ← hD', HN.out, HYE.out, Nat.mul_div_mul_right _ _ (Nat.pow_pos (by decide)), Nat.mul_mod_mul_right] at hend
    have G2 := hide G0
    have HQ2 := hide hQ2
    have HVY := hide hVY
    have HE := hide hend
    have G2e := hide g2
    have bV : (V : Int) ≤ 18446744073709551615 := by omega
    clear hm G0 hp0 hs0 hQ2 hR2 hY1 hUY hV hQ1 hVY hdm hdm2 hRY hYY f7 hend hD' g2
    go_upto_block 2 with (fail)
    go_cut [18] (fun q wx => q = .int .u64 (Q2 : Int) ∧ w = wx)
    case first =>
      go_wp2
      go_loop [18, 16] (fun q r => ∃ a b : Nat, q = .int .u64 a ∧ r = .int .u64 b ∧ (b : Int) ≤ 4294967295 ∧ (a : Int) ≤ 18446744073709551615 ∧ Hid (Guess V d0 Y y1 a b)) (fun q _ => (intOf q).toNat)
      case atStart => exact ⟨p0, s0, rfl, rfl, bs0, bp0, G2⟩
      case round =>
        obtain ⟨a, b, rfl, rfl, hb, ha, G'⟩ := hrel
        clear G2 f9 f6 f5
        rcases dec ((4294967296 : Int) ≤ a) with ⟨t2, d2⟩ | ⟨t2, d2⟩
        · have GN := hide (guess_big G'.out HVY.out bd0 (by omega))
          rcases dec ((4294967296 : Int) ≤ (b : Int) + y1) with ⟨t3, d3⟩ | ⟨t3, d3⟩
          · go_wp2
            go_meet
            exact ⟨val_int (by rw [HQ2.out, guess_over GN.out HVY.out HV.out by0 (by omega)]; omega), rfl⟩
          · go_wp2
            go_round
            case rel => exact ⟨a - 1, b + y1, val_int (by omega), val_int (by omega), by omega, by omega, GN⟩
            case measure => simp [intOf]; omega
        · obtain ⟨P, hP⟩ : ∃ P, P = a * y0 := ⟨_, rfl⟩
          have hPl : P < 18446744073709551616 := by rw [hP]; exact guess_lt G'.out (by omega) by0
          have eP : IntKind.u64.wrap ((a : Int) * y0) = (P : Int) := by rw [hP, ← Int.natCast_mul]; exact IntWalk.u64_in _ (by rw [← hP]; omega)
          have HP := hide hP
          clear hP
          rcases dec (4294967296 * (b : Int) + d0 < P) with ⟨t4, d4⟩ | ⟨t4, d4⟩
          · have GN := hide (guess_next G'.out HV.out (by rw [← HP.out]; omega))
            have ha0 : a ≠ 0 := by have hP := HP.out; rintro rfl; rw [Nat.zero_mul] at hP; omega
            have ha1 : (1 : Int) ≤ a := by omega
            rcases dec ((4294967296 : Int) ≤ (b : Int) + y1) with ⟨t3, d3⟩ | ⟨t3, d3⟩
            · go_wp2
              go_meet
              exact ⟨val_int (by rw [HQ2.out, guess_over GN.out HVY.out HV.out by0 (by omega)]; omega), rfl⟩
            · go_wp2
              go_round
              case rel => exact ⟨a - 1, b + y1, val_int (by omega), val_int (by omega), by omega, by omega, GN⟩
              case measure => simp [intOf]; omega
          · have hq := hide (guess_end G'.out HV.out (by rw [← HP.out]; omega))
            go_wp2
            go_meet
            exact ⟨val_int (by rw [HQ2.out, hq.out]), rfl⟩
    obtain ⟨rfl, rfl⟩ := hcut
    have g2 := G2e.out
    clear G2 f9 f6 f5 bp0 bs0 g1
    go_wp2
    go_ret2
    have he := HE.out
    have hs2 := HS.out
    have hN := Nat.div_lt_of_lt_mul (m := hi * 18446744073709551616 + lo) (n := y) (k := 18446744073709551616) (by omega)
    rw [he.1] at hN
    refine ⟨ret_two ?_ ?_, 0, rfl⟩
    · rw [he.1]; simp only [IntKind.wrap_u64]; omega
    · have m1 : min (IntKind.u64.wrap (s : Int)).toNat 64 = s := by rw [IntWalk.u64_in _ (by omega)]; omega
      rw [m1, ← he.2]
      have ps : 0 < 2 ^ s := Nat.pow_pos (by decide)
      have c1 : (((hi * 18446744073709551616 + lo) % y * 2 ^ s : Nat) : Int) / 2 ^ s = (((hi * 18446744073709551616 + lo) % y * 2 ^ s / 2 ^ s : Nat) : Int) := by simp
      rw [c1, Nat.mul_div_cancel _ ps]
  · obtain rfl : hi = 0 := by simpa using z2
    go_enter Try.func35, Try.ntmps35
    go_wp2
    go_quiet (fail)
    go_wp2
    go_ret2
    have h4 := Nat.div_le_self lo y
    have h5 : (lo : Int) / (y : Int) = ((lo / y : Nat) : Int) := by simp
    refine ⟨ret_two ?_ ?_, _, rfl⟩
    · rw [Nat.zero_mul, Nat.zero_add]
      exact (IntWalk.u64_in _ ⟨Int.ediv_nonneg (by omega) (by omega), Int.le_trans (Int.ediv_le_self _ (by omega)) (by omega)⟩).trans h5
    · rw [Nat.zero_mul, Nat.zero_add]; simp
theorem ishare_any (a b c : Int) (w : World) (ha : -9223372036854775808 ≤ a ∧ a ≤ 9223372036854775807) (hb : -9223372036854775808 ≤ b ∧ b ≤ 9223372036854775807) (hc : -9223372036854775808 ≤ c ∧ c ≤ 9223372036854775807) :
    Calls Try.prog 26 #[.int .i64 a, .int .i64 b, .int .i64 c] w fun e w' => e = shareEnd a b c ∧ ∃ n, w' = w.drewN n := by
  rcases dec (a < 0) with ⟨h1, d1⟩ | ⟨h1, d1⟩
  · rw [shareEnd_bad (.inl h1)]
    go_enter Try.func26, Try.ntmps26
    go_wp2
    go_ret2
    exact ⟨rfl, 0, rfl⟩
  rcases dec (b < 0) with ⟨h2, d2⟩ | ⟨h2, d2⟩
  · rw [shareEnd_bad (.inr (.inl h2))]
    go_enter Try.func26, Try.ntmps26
    go_wp2
    go_ret2
    exact ⟨rfl, 0, rfl⟩
  rcases dec (c < 1) with ⟨h3, d3⟩ | ⟨h3, d3⟩
  · rw [shareEnd_bad (.inr (.inr h3))]
    go_enter Try.func26, Try.ntmps26
    go_wp2
    go_ret2
    exact ⟨rfl, 0, rfl⟩
  rw [shareEnd_ok (by omega)]
  obtain ⟨x, rfl⟩ := Int.eq_ofNat_of_zero_le (show 0 ≤ a by omega)
  obtain ⟨y, rfl⟩ := Int.eq_ofNat_of_zero_le (show 0 ≤ b by omega)
  obtain ⟨z, rfl⟩ := Int.eq_ofNat_of_zero_le (show 0 ≤ c by omega)
  have hm := mul64_any x y (by omega) (by omega)
  obtain ⟨N, hN⟩ : ∃ N, N = x * y := ⟨_, rfl⟩
  have hT : (x : Int) * y / z = ((N / z : Nat) : Int) := by rw [hN]; simp
  obtain ⟨H, hH⟩ : ∃ H, H = N / 18446744073709551616 := ⟨_, rfl⟩
  obtain ⟨L, hL⟩ : ∃ L, L = N % 18446744073709551616 := ⟨_, rfl⟩
  have hd := fun w (h : H < z) => div64_any H L z w h (by omega) (by omega)
  have hHL : H * 18446744073709551616 + L = N := by omega
  rw [hHL] at hd
  rw [← hN, ← hH, ← hL] at hm
  have HM := hide hm; have HD := hide hd
  have hHb : H < 18446744073709551616 := by
    have : N < 18446744073709551616 * 18446744073709551616 := by rw [hN]; exact Nat.mul_lt_mul'' (by omega) (by omega)
    omega
  rw [hT]
  obtain ⟨Q, hQ⟩ : ∃ Q, Q = N / z := ⟨_, rfl⟩
  rw [← hQ] at hd ⊢
  have HD := hide hd
  have hz : 0 < z := by omega
  have hbig : z ≤ H → 18446744073709551616 ≤ Q := fun h => by
    rw [hQ, Nat.le_div_iff_mul_le hz]
    calc 18446744073709551616 * z ≤ 18446744073709551616 * H := Nat.mul_le_mul_left _ h
      _ ≤ N := by omega
  have hsmall : H < z → Q < 18446744073709551616 := fun h => by
    rw [hQ, Nat.div_lt_iff_lt_mul hz]
    have : (H + 1) * 18446744073709551616 ≤ z * 18446744073709551616 := Nat.mul_le_mul_right _ h
    rw [Nat.mul_comm]
    omega
  have HB := hide hbig; have HSm := hide hsmall
  have bH : (H : Int) ≤ 18446744073709551615 := by omega
  clear hm hd hN hT hH hL hHL hHb hQ hbig hsmall
  rcases dec ((z : Int) ≤ H) with ⟨h4, d4⟩ | ⟨h4, d4⟩
  · go_enter Try.func26, Try.ntmps26
    go_wp2_with fail
    refine (HM.out _).mono ?_
    rintro e w' ⟨rfl, rfl⟩
    go_wp2
    go_ret2
    exact ⟨told_no (by have := HB.out (by omega); omega), 0, rfl⟩
  · have bQ : (Q : Int) ≤ 18446744073709551615 := by have := HSm.out (by omega); omega
    rcases dec ((9223372036854775807 : Int) < Q) with ⟨h5, d5⟩ | ⟨h5, d5⟩
    all_goals
      go_enter Try.func26, Try.ntmps26
      go_wp2_with fail
      refine (HM.out _).mono ?_
      rintro e w' ⟨rfl, rfl⟩
      go_wp2_with fail
      refine (HD.out _ (by omega)).mono ?_
      rintro e w' ⟨rfl, n, rfl⟩
      go_wp2
      go_ret2
      first
        | exact ⟨told_no (by omega), n, rfl⟩
        | exact ⟨told_yes (by first | rfl | omega | (unfold wrap64; omega)) (by omega), n, rfl⟩
end Go.Proofs.Ytglcdamdjjbjhaa
