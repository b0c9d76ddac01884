/-
  The walk of IntsNumbers.
-/
import Derived.Test.YtbngligkmapbgaaSums1
namespace Go.Proofs.Ytbngligkmapbgaa
open Go.RowKit
set_option linter.unusedVariables false

def numsL : List Int := [-9223372036854775808, -9223372036854775807, -4611686018427387904, -4294967296, -2147483649, -7, -2, -1, 0, 1, 2, 3, 7, 100, 2147483647, 4294967296, 3037000499, 3037000500, 4611686018427387904, 9223372036854775806, 9223372036854775807]
theorem nums_len : numsL.length = 21 := rfl
theorem nums_bd : ∀ n ∈ numsL, -9223372036854775808 ≤ n ∧ n ≤ 9223372036854775807 := by decide
theorem nums_any (w : World) : Calls Try.prog 16 #[] w fun e w' => ∃ A, e = .returned (.slice A 21 21) ∧ Cells w' A (i64s numsL) ∧ Below w.heap.size w w' := by
  go_enter Try.func16, Try.ntmps16
  go_wp2
  go_ret
  exact ⟨_, rfl, Cells.lit w (i64s numsL).toArray 2, (Below.refl _ _).alloc (Nat.le_refl _) _⟩
theorem stays_at {w1 wr : World} {b o k : Nat} {x : Value} (hB : Below w1.heap.size w1 wr) (hb : b < w1.heap.size) (hc : w1.cell? ⟨b, o + k, none⟩ = some x) : ∀ u, Stays wr.drew u → u.cell? ⟨b, o + k, none⟩ = some x := fun u hu => by
  have h1 : Below wr.heap.size wr u := ⟨hu.os, hu.tape, hu.output, hu.size, hu.block⟩
  exact ((nxt hB h1).cell (p := ⟨b, o + k, none⟩) hb).trans hc
set_option maxRecDepth 100000 in
set_option maxHeartbeats 3200000 in
theorem intsNumbers_walk (w : World) : Calls Try.prog 7 #[] w fun e w' => e = .returned (.bool true) ∧ Below w.heap.size w w' := by
  go_enter Try.func7, Try.ntmps7
  go_wp2_with fail
  refine (nums_any _).mono ?_
  rintro e w1 ⟨A, rfl, hc, B0⟩
  go_wp2_with fail
  go_loopw [2] (fun i wr => ∃ k : Nat, k ≤ 21 ∧ i = .int .i64 k ∧ Below w1.heap.size w1 wr) (fun i _ => 21 - (intOf i).toNat)
  case atStart => exact ⟨0, by omega, rfl, Below.refl _ _⟩
  case round =>
    obtain ⟨k, hk, rfl, B⟩ := hrel
    by_cases hlt : k < 21
    · obtain ⟨b, o, x, rfl, hb, hcx, hx⟩ := hc.int_at (k := k) hlt
      have hxb := nums_bd x (mem_of_some hx.out)
      have i1 : (k : Int) < 21 := by omega
      go_wp2_with fail
      obtain ⟨wo, rfl⟩ : ∃ wo, wo = wr := ⟨_, rfl⟩
      go_loopw [3] (fun i wr => ∃ j : Nat, j ≤ 21 ∧ i = .int .i64 j ∧ Below w1.heap.size w1 wr) (fun i _ => 21 - (intOf i).toNat)
      case atStart => exact ⟨0, by omega, rfl, B⟩
      case round =>
        obtain ⟨j, hj, rfl, B2⟩ := hrel
        by_cases hlt2 : j < 21
        · obtain ⟨b', o', y, he, hb', hcy, hy⟩ := hc.int_at (k := j) hlt2
          obtain ⟨rfl, rfl⟩ : b = b' ∧ o = o' := by simpa using he
          have hyb := nums_bd y (mem_of_some hy.out)
          have i2 : (j : Int) < 21 := by omega
          go_wp2_with fail
          have f1 := stays_at B2 hb hcx
          have f2 := stays_at B2 hb hcy
          refine wp_region_grow (R := Stays) 99999 [8] [0, 1, 2, 3, 4, 5, 6, 7, 8, 9] (by kernel_rfl) Stays.tr Stays.rf (by kernel_rfl) (fun _ _ _ _ _ h => h) ?_
          (repeat ((first | (refine grow_skip (by rfl) (by rfl) ?_ (by first | exact Stays.rf _ | exact Lower.rf _ _ | exact Holds.rf _ _)) | (refine grow_take (v := ?_) (by rfl) (by rfl) (by rfl) ?_ ?_; rotate_left 1; focus (intro w' hSw; go_simp; (try (with_reducible rfl)); done))); (try simp only [Act.put, List.setIfInBounds_toArray, List.set_cons_zero, List.set_cons_succ])))
          clear f1 f2
          refine grow_move (by rfl) (by rfl) (by rfl) (fun K hK => ?_); go_simp
          refine (sameInts_any _ _ _ hxb hyb).mono ?_
          rintro e w' ⟨rfl, rfl⟩
          refine hK.out _ _ (Stays.rf _) ?_; clear hK K; (try simp only [Act.put, List.setIfInBounds_toArray, List.set_cons_zero, List.set_cons_succ])
          (repeat ((first | (refine grow_skip (by rfl) (by rfl) ?_ (by first | exact Stays.rf _ | exact Lower.rf _ _ | exact Holds.rf _ _)) | (refine grow_take (v := ?_) (by rfl) (by rfl) (by rfl) ?_ ?_; rotate_left 1; focus (intro w' hSw; go_simp; (try (with_reducible rfl)); done))); (try simp only [Act.put, List.setIfInBounds_toArray, List.set_cons_zero, List.set_cons_succ])))
          refine grow_done ?_
          go_wp2_with fail
          obtain ⟨wo2, rfl⟩ : ∃ wo2, wo2 = wr := ⟨_, rfl⟩
          go_loopw [4] (fun i wr => ∃ h : Nat, h ≤ 22 ∧ i = .int .i64 h ∧ Below w1.heap.size w1 wr) (fun i _ => 22 - (intOf i).toNat)
          case atStart => exact ⟨0, by omega, rfl, nxt_drew B2⟩
          case round =>
            obtain ⟨h, hh, rfl, B3⟩ := hrel
            by_cases hlt3 : h < 21
            · obtain ⟨b', o', z, he, hb', hcz, hz⟩ := hc.int_at (k := h) hlt3
              obtain ⟨rfl, rfl⟩ : b = b' ∧ o = o' := by simpa using he
              have hzb := nums_bd z (mem_of_some hz.out)
              have i3 : (h : Int) < 21 := by omega
              go_wp2_with fail
              have f1 := stays_at B3 hb hcx
              have f2 := stays_at B3 hb hcy
              have f3 := stays_at B3 hb hcz
              refine wp_region_grow (R := Stays) 99999 [12] [0, 1, 2, 3, 4, 5, 6, 7, 8, 9, 10, 11, 12, 13, 14, 15, 16, 17] (by kernel_rfl) Stays.tr Stays.rf (by kernel_rfl) (fun _ _ _ _ _ h => h) ?_
              (repeat ((first | (refine grow_skip (by rfl) (by rfl) ?_ (by first | exact Stays.rf _ | exact Lower.rf _ _ | exact Holds.rf _ _)) | (refine grow_take (v := ?_) (by rfl) (by rfl) (by rfl) ?_ ?_; rotate_left 1; focus (intro w' hSw; go_simp; (try (with_reducible rfl)); done))); (try simp only [Act.put, List.setIfInBounds_toArray, List.set_cons_zero, List.set_cons_succ])))
              clear f1 f2 f3
              refine grow_move (by rfl) (by rfl) (by rfl) (fun K hK => ?_); go_simp
              refine (share_b _ _ _ _ hxb hyb hzb).mono ?_
              rintro e w5 ⟨rfl, hb5⟩
              rw [shareEnd]
              refine hK.out _ _ (hb5) ?_; clear hK K; (try simp only [Act.put, List.setIfInBounds_toArray, List.set_cons_zero, List.set_cons_succ])
              (repeat ((first | (refine grow_skip (by rfl) (by rfl) ?_ (by first | exact Stays.rf _ | exact Lower.rf _ _ | exact Holds.rf _ _)) | (refine grow_take (v := ?_) (by rfl) (by rfl) (by rfl) ?_ ?_; rotate_left 1; focus (intro w' hSw; go_simp; (try (with_reducible rfl)); done))); (try simp only [Act.put, List.setIfInBounds_toArray, List.set_cons_zero, List.set_cons_succ])))
              refine grow_done ?_
              have B5 := nxt (nxt_drew B3) hb5
              clear hb5
              go_wp2_with fail
              have f1 := stays_at B5 hb hcx
              have f2 := stays_at B5 hb hcy
              have f3 := stays_at B5 hb hcz
              refine wp_region_grow (R := Stays) 99999 [12] [0, 1, 2, 3, 4, 5, 6, 7, 8, 9, 10, 11, 12, 13, 14, 15, 16, 17] (by kernel_rfl) Stays.tr Stays.rf (by kernel_rfl) (fun _ _ _ _ _ h => h) ?_
              (repeat ((first | (refine grow_skip (by rfl) (by rfl) ?_ (by first | exact Stays.rf _ | exact Lower.rf _ _ | exact Holds.rf _ _)) | (refine grow_take (v := ?_) (by rfl) (by rfl) (by rfl) ?_ ?_; rotate_left 1; focus (intro w' hSw; go_simp; (try (with_reducible rfl)); done))); (try simp only [Act.put, List.setIfInBounds_toArray, List.set_cons_zero, List.set_cons_succ])))
              clear f1 f2 f3
              refine grow_move (by rfl) (by rfl) (by rfl) (fun K hK => ?_); go_simp
              refine (refShare_any _ _ _ _ hxb hyb hzb).mono ?_
              rintro e w6 ⟨rfl, rfl⟩
              rw [shareEnd]
              refine hK.out _ _ (Stays.rf _) ?_; clear hK K; (try simp only [Act.put, List.setIfInBounds_toArray, List.set_cons_zero, List.set_cons_succ])
              (repeat ((first | (refine grow_skip (by rfl) (by rfl) ?_ (by first | exact Stays.rf _ | exact Lower.rf _ _ | exact Holds.rf _ _)) | (refine grow_take (v := ?_) (by rfl) (by rfl) (by rfl) ?_ ?_; rotate_left 1; focus (intro w' hSw; go_simp; (try (with_reducible rfl)); done))); (try simp only [Act.put, List.setIfInBounds_toArray, List.set_cons_zero, List.set_cons_succ])))
              refine grow_done ?_
              go_wp2_with fail
              go_roundw
              case rel => exact ⟨h + 2, by omega, by go_num, nxt_drew B5⟩
              case measure => simp [intOf]; omega
            · have hlt3' : ¬ (h : Int) < 21 := by omega
              go_wp2_with fail
              go_roundw
              case rel => exact ⟨j + 1, by omega, by go_num, B3⟩
              case measure => simp [intOf]; omega
        · have hlt2' : ¬ (j : Int) < 21 := by omega
          have hck := cells_take hc k
          have hsl : (numsL.take k).length = k := by rw [List.length_take, nums_len]; omega
          have hsb : ∀ n ∈ numsL.take k, -9223372036854775808 ≤ n ∧ n ≤ 9223372036854775807 := fun n hn => nums_bd n (List.mem_of_mem_take hn)
          have HSL := hide hsl; have HSB := hide hsb
          have i4 : (k : Int) ≤ 21 := by omega
          clear hsl hsb
          go_wp2_with fail
          refine (sum_any _ _ _ (numsL.take k) _ HSL.out (by rw [HSL.out]; omega) HSB.out (hck.below B2)).mono ?_
          rintro e w' ⟨rfl, rfl⟩
          rw [told]
          go_wp2_with fail
          refine (refSum_any _ _ _ (numsL.take k) _ HSL.out (by rw [HSL.out]; omega) HSB.out (hck.below B2)).mono ?_
          rintro e w' ⟨rfl, rfl⟩
          rw [told]
          go_wp2_with fail
          go_roundw
          case rel => exact ⟨k + 1, by omega, by go_num, B2⟩
          case measure => simp [intOf]; omega
    · have hk' : ¬ (k : Int) < 21 := by omega
      go_wp2_with fail
      refine (sum_any _ _ _ [9223372036854775807, 1, -1] _ rfl (by decide) (by decide) (Cells.lit wr (i64s [9223372036854775807, 1, -1]).toArray 2)).mono ?_
      rintro e w' ⟨rfl, rfl⟩
      rw [show told [9223372036854775807, 1, -1].sum = .returned (.tuple #[.int .i64 9223372036854775807, .bool true]) from rfl]
      go_wp2_with fail
      refine (known_b _).mono ?_
      rintro e w' ⟨rfl, hb⟩
      go_wp2
      go_ret
      exact ⟨rfl, nxt (nxt_alloc (nxt B0 B) _) hb⟩
end Go.Proofs.Ytbngligkmapbgaa
