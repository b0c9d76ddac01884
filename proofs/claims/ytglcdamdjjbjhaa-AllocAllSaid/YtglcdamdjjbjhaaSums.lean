/-
  What the sums of many numbers compute.
-/
import Derived.Test.YtglcdamdjjbjhaaInts
namespace Go.Proofs.Ytglcdamdjjbjhaa
open Go.RowKit
set_option linter.unusedVariables false

theorem add64_run (x y : Int) (hx : 0 ≤ x) (hy : 0 ≤ y) (w : World) : (callFunc 39 #[.int .u64 x, .int .u64 y, .int .u64 0]).run Try.prog w =
    .ok (.value (.tuple #[.int .u64 ((x + y) % 18446744073709551616), .int .u64 ((x + y) / 18446744073709551616)])) w := by
  rw [run_callFunc_extern Try.func39 (by kernel_rfl) (by kernel_rfl) (by kernel_rfl) (e := add64Entry) (by kernel_rfl), run_add64 x y 0 hx hy (by omega) (by omega)]
  simp only [Result.andThen, Int.add_zero]
theorem sum_hi (S x : Int) (hx : -9223372036854775808 ≤ x ∧ x ≤ 9223372036854775807) : (S + x) / 18446744073709551616 = S / 18446744073709551616 + ((if x < 0 then -1 else 0) + (S % 18446744073709551616 + x % 18446744073709551616) / 18446744073709551616) := by
  split <;> omega
theorem sum_lo (S x : Int) : (S + x) % 18446744073709551616 = (S % 18446744073709551616 + x % 18446744073709551616) % 18446744073709551616 := by omega
theorem ssum_bd (l : List Int) (h : ∀ n ∈ l, -9223372036854775808 ≤ n ∧ n ≤ 9223372036854775807) : -(9223372036854775808 * (l.length : Int)) ≤ l.sum ∧ l.sum ≤ 9223372036854775807 * (l.length : Int) := by
  induction l with
  | nil => simp
  | cons a l ih =>
    have h0 := ih (fun n hn => h n (List.mem_cons_of_mem _ hn))
    have h1 := h a List.mem_cons_self
    simp only [List.sum_cons, List.length_cons, Int.natCast_add, Int.natCast_one]
    omega
theorem shr63 (x : Int) (hx : -9223372036854775808 ≤ x ∧ x ≤ 9223372036854775807) : x / 9223372036854775808 = if x < 0 then -1 else 0 := by
  split <;> omega
set_option maxHeartbeats 800000 in
theorem sum_any (A : Option Addr) (n c : Nat) (l : List Int) (w : World) (hn : l.length = n) (hl : l.length ≤ 1099511627776) (hw : ∀ n ∈ l, -9223372036854775808 ≤ n ∧ n ≤ 9223372036854775807) (hA : Cells w A (i64s l)) :
    Calls Try.prog 37 #[.slice A n c] w fun e w' => e = told l.sum ∧ w = w' := by
  subst hn
  go_enter Try.func37, Try.ntmps37
  go_wp2
  go_loop [4, 5, 11] (fun lo hi i => ∃ (k : Nat) (S : Int), k ≤ l.length ∧ i = .int .i64 k ∧ lo = .int .u64 (S % 18446744073709551616) ∧ hi = .int .i64 (S / 18446744073709551616) ∧ Hid ((l.take k).sum = S)) (fun _ _ i => l.length - (intOf i).toNat)
  case atStart => exact ⟨0, 0, Nat.zero_le _, rfl, rfl, rfl, rfl⟩
  case round =>
    obtain ⟨k, S, hk, rfl, rfl, rfl, HS⟩ := hrel
    have sb := ssum_bd (l.take k) (fun n hn => hw n (List.mem_of_mem_take hn))
    have hlk : (l.take k).length ≤ k := List.length_take_le _ _
    rw [HS.out] at sb
    have SB : -9223372036854775808 * (k : Int) ≤ S ∧ S ≤ 9223372036854775807 * (k : Int) := by omega
    clear sb
    by_cases hlt : k < l.length
    · obtain ⟨b, o, x, rfl, hb, hc, hx⟩ := hA.int_at hlt
      have hxb := hw x (mem_of_some hx.out)
      have i1 : (k : Int) < l.length := by omega
      have hA1 : 0 ≤ S % 18446744073709551616 := by omega
      have hu : IntKind.u64.wrap x = x % 18446744073709551616 := IntKind.wrap_u64 x
      have hr := add64_run (S % 18446744073709551616) (IntKind.u64.wrap x) hA1 (by rw [hu]; omega)
      have hc0 : 0 ≤ (S % 18446744073709551616 + IntKind.u64.wrap x) / 18446744073709551616 := by rw [hu]; omega
      have hc1 : (S % 18446744073709551616 + IntKind.u64.wrap x) / 18446744073709551616 ≤ 1 := by rw [hu]; omega
      have hv : IntKind.i64.wrap ((S % 18446744073709551616 + IntKind.u64.wrap x) / 18446744073709551616) = (S % 18446744073709551616 + IntKind.u64.wrap x) / 18446744073709551616 := IntWalk.i64_in _ (by omega)
      have s1 : IntKind.i64.wrap (x / 9223372036854775808 + (S % 18446744073709551616 + IntKind.u64.wrap x) / 18446744073709551616) = x / 9223372036854775808 + (S % 18446744073709551616 + IntKind.u64.wrap x) / 18446744073709551616 := IntWalk.i64_in _ (by omega)
      have s2 : IntKind.i64.wrap (S / 18446744073709551616 + (x / 9223372036854775808 + (S % 18446744073709551616 + IntKind.u64.wrap x) / 18446744073709551616)) = (S + x) / 18446744073709551616 := by
        rw [IntWalk.i64_in _ (by omega), sum_hi S x hxb, shr63 x hxb, hu]
      have s3 : (S % 18446744073709551616 + IntKind.u64.wrap x) % 18446744073709551616 = (S + x) % 18446744073709551616 := by rw [hu]; omega
      have hst : (l.take (k + 1)).sum = S + x := by rw [sum_take_of hx.out, HS.out]
      have HT := hide hst
      have HU := hide hu
      clear hst HS hu SB hxb
      go_wp2
      go_round
      case rel => exact ⟨k + 1, S + x, by omega, by go_num, rfl, rfl, HT.out⟩
      case measure => simp [intOf]; omega
    · have e : (S / 18446744073709551616 != wrap64 (S % 18446744073709551616) / 9223372036854775808) = !inR S := by
        rw [Bool.eq_iff_iff]
        simp only [bne_iff_ne, Bool.not_eq_true', inR_not]
        unfold wrap64; omega
      have el : (l.take k).sum = l.sum := by rw [List.take_of_length_le (by omega)]
      rw [HS.out] at el
      have EL := hide el
      cases hi : inR S
      all_goals
        rw [hi] at e
        have HI := hide hi
        clear hi el
        simp only [Bool.not_true, Bool.not_false] at e
        go_wp2
        go_ret2
        rw [← EL.out]
        first
          | exact ⟨told_no (inR_not.1 HI.out), rfl⟩
          | exact ⟨told_yes (by have := inR_iff.1 HI.out; unfold wrap64; omega) (inR_iff.1 HI.out), rfl⟩
theorem rsum_hi (S x : Int) (hx : -9223372036854775808 ≤ x ∧ x ≤ 9223372036854775807) : (S + x) / 18446744073709551616 = S / 18446744073709551616 + (if (S + x) % 18446744073709551616 < S % 18446744073709551616 then 1 else 0) - (if x < 0 then 1 else 0) := by
  split <;> split <;> omega
set_option maxHeartbeats 1600000 in
theorem refSum_any (A : Option Addr) (n c : Nat) (l : List Int) (w : World) (hn : l.length = n) (hl : l.length ≤ 1099511627776) (hw : ∀ n ∈ l, -9223372036854775808 ≤ n ∧ n ≤ 9223372036854775807) (hA : Cells w A (i64s l)) :
    Calls Try.prog 36 #[.slice A n c] w fun e w' => e = told l.sum ∧ w = w' := by
  subst hn
  go_enter Try.func36, Try.ntmps36
  go_wp2
  go_loop [4, 5, 6] (fun hi lo i => ∃ (k : Nat) (S : Int), k ≤ l.length ∧ i = .int .i64 k ∧ lo = .int .u64 (S % 18446744073709551616) ∧ hi = .int .i64 (S / 18446744073709551616) ∧ Hid ((l.take k).sum = S)) (fun _ _ i => l.length - (intOf i).toNat)
  case atStart => exact ⟨0, 0, Nat.zero_le _, rfl, rfl, rfl, rfl⟩
  case round =>
    obtain ⟨k, S, hk, rfl, rfl, rfl, HS⟩ := hrel
    have sb := ssum_bd (l.take k) (fun n hn => hw n (List.mem_of_mem_take hn))
    have hlk : (l.take k).length ≤ k := List.length_take_le _ _
    rw [HS.out] at sb
    have SB : -9223372036854775808 * (k : Int) ≤ S ∧ S ≤ 9223372036854775807 * (k : Int) := by omega
    clear sb
    by_cases hlt : k < l.length
    · obtain ⟨b, o, x, rfl, hb, hc, hx⟩ := hA.int_at hlt
      have hxb := hw x (mem_of_some hx.out)
      have i1 : (k : Int) < l.length := by omega
      have hu : IntKind.u64.wrap x = x % 18446744073709551616 := IntKind.wrap_u64 x
      have hN : IntKind.u64.wrap (S % 18446744073709551616 + IntKind.u64.wrap x) = (S + x) % 18446744073709551616 := by rw [hu, IntKind.wrap_u64]; omega
      have hst : (l.take (k + 1)).sum = S + x := by rw [sum_take_of hx.out, HS.out]
      have HT := hide hst
      have hh := rsum_hi S x hxb
      clear hst HS hu
      have b1 : -1099511627777 ≤ S / 18446744073709551616 ∧ S / 18446744073709551616 ≤ 1099511627777 := by omega
      rcases dec ((S + x) % 18446744073709551616 < S % 18446744073709551616) with ⟨h1, d1⟩ | ⟨h1, d1⟩ <;> rcases dec (x < 0) with ⟨h2, d2⟩ | ⟨h2, d2⟩
      all_goals
        first | rw [if_pos h1] at hh | rw [if_neg h1] at hh
        first | rw [if_pos h2] at hh | rw [if_neg h2] at hh
        have HH := hide hh
        clear hh SB hxb
        go_wp2
        go_round
        case rel => exact ⟨k + 1, S + x, by omega, by go_num, rfl, val_int (by have := HH.out; omega), HT.out⟩
        case measure => simp [intOf]; omega
    · have el : (l.take k).sum = l.sum := by rw [List.take_of_length_le (by omega)]
      rw [HS.out] at el
      have EL := hide el
      clear HS el
      cases e1 : (S / 18446744073709551616 == 0) <;> cases e2 : (S / 18446744073709551616 == -1) <;> rcases dec (S % 18446744073709551616 ≤ 9223372036854775807) with ⟨h3, d3⟩ | ⟨h3, d3⟩ <;> rcases dec (9223372036854775808 ≤ S % 18446744073709551616) with ⟨h4, d4⟩ | ⟨h4, d4⟩
      all_goals
        have f1 := e1
        have f2 := e2
        simp only [beq_iff_eq, beq_eq_false_iff_ne] at f1 f2
        first
          | (exfalso; omega)
          | (clear f1 f2
             go_wp2
             go_ret2
             rw [← EL.out]
             simp only [beq_iff_eq, beq_eq_false_iff_ne] at e1 e2
             first
               | exact ⟨told_no (by omega), rfl⟩
               | exact ⟨told_yes (by unfold wrap64; omega) (by omega), rfl⟩
               | exact ⟨told_yes (by omega) (by omega), rfl⟩)
end Go.Proofs.Ytglcdamdjjbjhaa
