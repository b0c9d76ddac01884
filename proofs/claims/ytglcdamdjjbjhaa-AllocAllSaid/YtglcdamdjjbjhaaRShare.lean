/-
  What the document's own Share computes.
-/
import Derived.Test.YtglcdamdjjbjhaaRows
import Derived.Test.YtglcdamdjjbjhaaIntsP
import Derived.Test.YtglcdamdjjbjhaaRShareP
import Derived.Laws.Bits64b
import Derived.IntWalk
namespace Go.Proofs.Ytglcdamdjjbjhaa
open Go.RowKit
set_option linter.unusedVariables false

theorem i64_and1 (t : Nat) (h : (t : Int) ≤ 9223372036854775807) : bits .and .i64 (t : Int) 1 = ((t % 2 : Nat) : Int) := by
  have h1 : (BitVec.ofInt 64 1).toNat = 2 ^ 1 - 1 := by decide
  have key : (BitVec.ofInt 64 (t : Int) &&& BitVec.ofInt 64 1).toNat = ((t : Int) % ((2 ^ 64 : Nat) : Int)).toNat % 2 ^ 1 := by
    rw [BitVec.toNat_and, BitVec.toNat_ofInt, h1, Nat.and_two_pow_sub_one_eq_mod]
  show IntKind.i64.wrap ((BitVec.ofInt 64 (t : Int) &&& BitVec.ofInt 64 1).toNat : Nat) = _
  rw [key, IntKind.wrap_i64]
  omega
set_option maxRecDepth 100000 in
set_option maxHeartbeats 1600000 in
theorem irefShare_any (a b c : Int) (w : World) (ha : -9223372036854775808 ≤ a ∧ a ≤ 9223372036854775807) (hb : -9223372036854775808 ≤ b ∧ b ≤ 9223372036854775807) (hc : -9223372036854775808 ≤ c ∧ c ≤ 9223372036854775807) :
    Calls Try.prog 32 #[.int .i64 a, .int .i64 b, .int .i64 c] w fun e w' => e = shareEnd a b c ∧ w = w' := by
  rcases dec (a < 0) with ⟨h1, d1⟩ | ⟨h1, d1⟩
  · rw [shareEnd_bad (.inl h1)]
    go_enter Try.func32, Try.ntmps32
    go_wp2
    go_ret2
    exact ⟨rfl, rfl⟩
  rcases dec (b < 0) with ⟨h2, d2⟩ | ⟨h2, d2⟩
  · rw [shareEnd_bad (.inr (.inl h2))]
    go_enter Try.func32, Try.ntmps32
    go_wp2
    go_ret2
    exact ⟨rfl, rfl⟩
  rcases dec (c < 1) with ⟨h3, d3⟩ | ⟨h3, d3⟩
  · rw [shareEnd_bad (.inr (.inr h3))]
    go_enter Try.func32, Try.ntmps32
    go_wp2
    go_ret2
    exact ⟨rfl, rfl⟩
  rw [shareEnd_ok (by omega)]
  obtain ⟨x, rfl⟩ := Int.eq_ofNat_of_zero_le (show 0 ≤ a by omega)
  obtain ⟨y, rfl⟩ := Int.eq_ofNat_of_zero_le (show 0 ≤ b by omega)
  obtain ⟨z, rfl⟩ := Int.eq_ofNat_of_zero_le (show 0 ≤ c by omega)
  have hT : (x : Int) * y / z = ((x * y / z : Nat) : Int) := by simp
  rw [hT]
  obtain ⟨Q, hQ⟩ : ∃ Q, Q = x * y / z := ⟨_, rfl⟩
  obtain ⟨xd, hxd⟩ : ∃ xd, xd = x / z := ⟨_, rfl⟩
  obtain ⟨xm, hxm⟩ : ∃ xm, xm = x % z := ⟨_, rfl⟩
  rw [← hQ]
  have hz : 0 < z := by omega
  have e1 : (x : Int) / (z : Int) = xd := by rw [hxd]; simp
  have e2 : (x : Int) % (z : Int) = xm := by rw [hxm]; simp
  have b1 : (xd : Int) ≤ 9223372036854775807 := by have := Nat.div_le_self x z; omega
  have b2 : (xm : Int) < (z : Int) := by have := Nat.mod_lt x hz; omega
  have b3 : (1 : Int) ≤ z := by omega
  have HQ := hide hQ; have HXD := hide hxd; have HXM := hide hxm
  clear hT hQ hxd hxm
  go_enter Try.func32, Try.ntmps32
  go_wp2
  go_loop [8, 9, 13] (fun q r i => ∃ (n q' r' : Nat) (i' : Int), i = .int .i64 i' ∧ q = .int .u64 q' ∧ r = .int .u64 r' ∧ (r' : Int) < z ∧ (q' : Int) ≤ 18446744073709551615 ∧ Hid (n ≤ 63 ∧ i' = (n : Int) - 1 ∧ Shr x z (y / 2 ^ n) q' r')) (fun _ _ i => (intOf i + 1).toNat)
  case atStart =>
    refine ⟨63, 0, 0, _, rfl, rfl, rfl, by omega, by omega, by omega, by omega, ?_⟩
    rw [Nat.div_eq_of_lt (by omega)]
    exact shr_start x z hz
  case round =>
    obtain ⟨n, q, r, i, rfl, rfl, rfl, hr, hq, G⟩ := hrel
    have hn := G.out.1
    have hi := G.out.2.1
    have G0 := hide G.out.2.2
    clear G
    by_cases h0 : n = 0
    · subst h0
      have hend := shr_end G0.out
      rw [Nat.pow_zero, Nat.div_one, ← HQ.out] at hend
      obtain rfl : q = Q := by rw [hend]
      obtain rfl : i = -1 := by omega
      clear hend hi
      rcases dec ((9223372036854775807 : Int) < q) with ⟨h5, d5⟩ | ⟨h5, d5⟩
      all_goals
        go_wp2
        go_ret2
        first
          | exact ⟨told_no (by omega), rfl⟩
          | exact ⟨told_yes (by first | rfl | omega | (unfold wrap64; omega)) (by omega), rfl⟩
    have hqQ := shr_le G0.out (Nat.div_le_self y (2 ^ n))
    rw [← HQ.out] at hqQ
    have di : decide ((0 : Int) ≤ i) = true := by simp; omega
    have hi1 : IntKind.i64.wrap (i - 1) = i - 1 := IntWalk.i64_in _ (by omega)
    have hi2 : wrap64 (i - 1) = i - 1 := by unfold wrap64; omega
    have hm : min (IntKind.u64.wrap i).toNat 64 = n - 1 := by rw [IntWalk.u64_in _ (by omega)]; omega
    obtain ⟨B, hB⟩ : ∃ B, B = y / 2 ^ n := ⟨_, rfl⟩
    obtain ⟨t, ht⟩ : ∃ t, t = y / 2 ^ (n - 1) := ⟨_, rfl⟩
    have hdn := bits_down y n (by omega)
    have hty : t ≤ y := by rw [ht]; exact Nat.div_le_self _ _
    have hbt : (y : Int) / 2 ^ min (IntKind.u64.wrap i).toNat 64 = t := by rw [hm, ht]; simp
    rw [← hB, ← ht] at hdn
    have hti : (t : Int) ≤ 9223372036854775807 := by omega
    have HB := hide hB; have HT := hide ht; have HD := hide hdn; have HN := hide (And.intro hn (And.intro hi h0)); have HL := hide hty; have HQQ := hide hqQ
    have GG : Hid (Shr x z B q r) := by rw [hB]; exact G0.out
    clear hB ht hdn G0 hi hn h0 hm hty hqQ
    rcases dec ((9223372036854775808 : Int) ≤ q) with ⟨h5, d5⟩ | ⟨h5, d5⟩
    · go_wp2
      go_ret2
      exact ⟨told_no (by have := HQQ.out; omega), rfl⟩
    have hbit : (bits .and .i64 (t : Int) 1 = 0 ∧ Hid (t % 2 = 0)) ∨ (bits .and .i64 (t : Int) 1 = 1 ∧ Hid (t % 2 = 1)) := by
      rw [i64_and1 t hti]
      rcases Nat.mod_two_eq_zero_or_one t with h | h
      · exact .inl ⟨by omega, h⟩
      · exact .inr ⟨by omega, h⟩
    rcases dec ((z : Int) ≤ 2 * r) with ⟨h6, d6⟩ | ⟨h6, d6⟩
    · have G2 := hide (shr_over GG.out (by omega))
      rcases hbit with ⟨hb0, HBt⟩ | ⟨hb1, HBt⟩
      · go_wp2
        go_round
        case rel => exact ⟨n - 1, 2 * q + 1, 2 * r - z, i - 1, by go_num, val_int (by omega), val_int (by omega), by omega, by omega, by have := HN.out; refine ⟨by omega, by omega, ?_⟩; rw [← HT.out, HD.out, HBt.out]; exact G2.out⟩
        case measure => have := HN.out; simp [intOf]; omega
      · have HM := hide (shr_more G2.out (show 2 * B + 1 ≤ y by have := HD.out; have := HL.out; have := HBt.out; omega))
        rcases dec ((9223372036854775807 : Int) < 2 * (q : Int) + 1) with ⟨h7, d7⟩ | ⟨h7, d7⟩
        · go_wp2
          go_ret2
          exact ⟨told_no (by have := HM.out; rw [← HQ.out] at this; omega), rfl⟩
        rcases dec (9223372036854775807 - (2 * (q : Int) + 1) < (xd : Int)) with ⟨h8, d8⟩ | ⟨h8, d8⟩
        · go_wp2
          go_ret2
          exact ⟨told_no (by have := HM.out; rw [← HQ.out, ← HXD.out] at this; omega), rfl⟩
        rcases dec ((z : Int) ≤ 2 * (r : Int) - z + xm) with ⟨h9, d9⟩ | ⟨h9, d9⟩
        · have G3 := hide (shr_bitOver G2.out hz (by rw [← HXM.out]; omega))
          go_wp2
          go_round
          case rel => exact ⟨n - 1, 2 * q + 1 + xd + 1, 2 * r - z + xm - z, i - 1, by go_num, val_int (by omega), val_int (by omega), by omega, by omega, by have := HN.out; refine ⟨by omega, by omega, ?_⟩; rw [← HT.out, HD.out, HBt.out, HXD.out, HXM.out]; exact G3.out⟩
          case measure => have := HN.out; simp [intOf]; omega
        · have G3 := hide (shr_bit G2.out hz (by rw [← HXM.out]; omega))
          go_wp2
          go_round
          case rel => exact ⟨n - 1, 2 * q + 1 + xd, 2 * r - z + xm, i - 1, by go_num, val_int (by omega), val_int (by omega), by omega, by omega, by have := HN.out; refine ⟨by omega, by omega, ?_⟩; rw [← HT.out, HD.out, HBt.out, HXD.out, HXM.out]; exact G3.out⟩
          case measure => have := HN.out; simp [intOf]; omega
    · have G2 := hide (shr_twice GG.out (by omega))
      rcases hbit with ⟨hb0, HBt⟩ | ⟨hb1, HBt⟩
      · go_wp2
        go_round
        case rel => exact ⟨n - 1, 2 * q, 2 * r, i - 1, by go_num, val_int (by omega), val_int (by omega), by omega, by omega, by have := HN.out; refine ⟨by omega, by omega, ?_⟩; rw [← HT.out, HD.out, HBt.out]; exact G2.out⟩
        case measure => have := HN.out; simp [intOf]; omega
      · have HM := hide (shr_more G2.out (show 2 * B + 1 ≤ y by have := HD.out; have := HL.out; have := HBt.out; omega))
        rcases dec ((9223372036854775807 : Int) < 2 * (q : Int)) with ⟨h7, d7⟩ | ⟨h7, d7⟩
        · go_wp2
          go_ret2
          exact ⟨told_no (by have := HM.out; rw [← HQ.out] at this; omega), rfl⟩
        rcases dec (9223372036854775807 - (2 * (q : Int)) < (xd : Int)) with ⟨h8, d8⟩ | ⟨h8, d8⟩
        · go_wp2
          go_ret2
          exact ⟨told_no (by have := HM.out; rw [← HQ.out, ← HXD.out] at this; omega), rfl⟩
        rcases dec ((z : Int) ≤ 2 * (r : Int) + xm) with ⟨h9, d9⟩ | ⟨h9, d9⟩
        · have G3 := hide (shr_bitOver G2.out hz (by rw [← HXM.out]; omega))
          go_wp2
          go_round
          case rel => exact ⟨n - 1, 2 * q + xd + 1, 2 * r + xm - z, i - 1, by go_num, val_int (by omega), val_int (by omega), by omega, by omega, by have := HN.out; refine ⟨by omega, by omega, ?_⟩; rw [← HT.out, HD.out, HBt.out, HXD.out, HXM.out]; exact G3.out⟩
          case measure => have := HN.out; simp [intOf]; omega
        · have G3 := hide (shr_bit G2.out hz (by rw [← HXM.out]; omega))
          go_wp2
          go_round
          case rel => exact ⟨n - 1, 2 * q + xd, 2 * r + xm, i - 1, by go_num, val_int (by omega), val_int (by omega), by omega, by omega, by have := HN.out; refine ⟨by omega, by omega, ?_⟩; rw [← HT.out, HD.out, HBt.out, HXD.out, HXM.out]; exact G3.out⟩
          case measure => have := HN.out; simp [intOf]; omega
end Go.Proofs.Ytglcdamdjjbjhaa
