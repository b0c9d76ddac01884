/-
  The walk of DiskNumbers.
-/
import Derived.Test.YtfdilhoeikkhoaaKnown22
import Derived.Test.YtfdilhoeikkhoaaGrow
namespace Go.Proofs.Ytfdilhoeikkhoaa
open Go.RowKit
set_option linter.unusedVariables false

def zeros (n : Nat) : List UInt8 := List.replicate n 0
theorem length_zeros (n : Nat) : (zeros n).length = n := by simp [zeros]
theorem u8s_zeros (n : Nat) : List.replicate n (Value.int .u8 0) = u8s (zeros n) := by simp [u8s, zeros]

set_option maxRecDepth 100000 in
set_option maxHeartbeats 3200000 in
theorem diskNumbers_walk (w : World) :
    Calls Try.prog 5 #[] w fun e w' => e = .returned (.bool true) ∧ Below w.heap.size w w' := by
  have kc := fun (w : World) (C : Array Value) (n c : Nat) => Lib.run_convert_bytes_const (P := Try.prog) w 26 5 C n c Try.underlying26 Try.underlying5
  go_enter Try.func5, Try.ntmps5
  go_wp2_with fail
  refine (new_any _).mono ?_
  rintro e w1 ⟨d, rfl, hd, D1, B1⟩
  go_wp2_with fail
  refine (crash_k d _ _ 0 5 _ 0 [] D1 (by decide) (by decide)).mono ?_
  rintro e w2 ⟨rfl, D2, L2⟩
  have B2 := nxtD hd B1 D1 L2 (.inl rfl)
  clear D1 L2 B1
  go_wp2_with fail
  refine (append_any d _ [] [97, 98, 99] 0 _ 3 3 _ (D2.below ((Below.refl _ _).alloc (Nat.le_refl _) _)) rfl (by decide) (Cells.litm w2 #[.int .u8 97, .int .u8 98, .int .u8 99] _ _)).mono ?_
  rintro e w3 ⟨rfl, r3, D3', -, L3⟩
  have B3 := nxtD hd (nxt_alloc B2 _) (D2.below ((Below.refl _ _).alloc (Nat.le_refl _) _)) L3 (.inl rfl)
  have D3 : DiskAt w3 d r3 [97, 98, 99] 0 := D3'
  clear D2 L3 B2 D3'
  -- what does not fit
  go_wp2_with (at_make; refine wpList_mk elU8 (n := 1048574) rfl _ _ rfl rfl rfl rfl (by omega) ?_; intro w4 ho4 hg4 hb4)
  have B4 := hb4 _ _ B3.size B3
  have hB := hb4 _ _ (Nat.le_refl _) (Below.refl _ _)
  have D4 := D3.below hB
  clear D3 B3 hb4 ho4 hg4 hB
  go_wp2_with fail
  refine (append_full d _ _ (zeros 1048574) _ _ 1048574 1048574 _ D4 (length_zeros _) (by rw [length_zeros]; decide) (by rw [length_zeros]; omega)).mono ?_
  rintro e w' ⟨rfl, rfl⟩
  -- what fits just so
  go_wp2_with (at_make; refine wpList_mk elU8 (n := 1048573) rfl _ _ rfl rfl rfl rfl (by omega) ?_; intro w5 ho5 hg5 hb5)
  have B5 := hb5 _ _ B4.size B4
  have hB := hb5 _ _ (Nat.le_refl _) (Below.refl _ _)
  have D5 := D4.below hB
  rw [u8s_zeros] at ho5
  clear D4 B4 hb5 hg5 hB
  go_wp2_with fail
  refine (append_any d _ _ (zeros 1048573) _ _ 1048573 1048573 _ D5 (length_zeros _) (by rw [length_zeros]; decide) (Cells.of_own ho5)).mono ?_
  rintro e w6 ⟨rfl, r6, D6', -, L6⟩
  have B6 := nxtD hd B5 D5 L6 (.inl rfl)
  obtain ⟨l, hl, D6⟩ : ∃ l : List UInt8, l.length = 1048576 ∧ DiskAt w6 d r6 l 0 := ⟨_, by rw [List.length_append, length_zeros]; rfl, D6'⟩
  clear D5 L6 B5 D6' ho5
  -- the disk is full
  go_wp2_with fail
  have D7 := D6.below ((Below.refl w6.heap.size w6).alloc (Nat.le_refl _) (.cells #[.int .u8 1] 5))
  have B7 := nxt_alloc B6 (.cells #[.int .u8 1] 5)
  refine (append_full d _ _ [1] _ _ 1 1 _ D7 rfl (by rw [hl]; decide) (by decide)).mono ?_
  rintro e w' ⟨rfl, rfl⟩
  clear D6 B6
  go_wp2_with (at_make; refine wpList_mk elU8 (n := 1048577) rfl _ _ rfl rfl rfl rfl (by omega) ?_; intro w8 ho8 hg8 hb8)
  have B8 := hb8 _ _ B7.size B7
  have hB := hb8 _ _ (Nat.le_refl _) (Below.refl _ _)
  have D8 := D7.below hB
  clear D7 B7 hb8 ho8 hg8 hB
  go_wp2_with fail
  refine (swap_full d _ _ (zeros 1048577) _ _ 1048577 1048577 _ D8 (length_zeros _) (by rw [length_zeros]; decide)).mono ?_
  rintro e w' ⟨rfl, rfl⟩
  go_wp2_with fail
  refine (bytes_any d _ _ _ _ D8).mono ?_
  rintro e w9 ⟨A9, c9, rfl, -, -, -, -, hb⟩
  have B9 := nxt B8 hb
  have D9 := D8.below hb
  clear D8 B8 hb
  rw [hl]
  go_wp2_with fail
  have D10 := D9.below ((Below.refl w9.heap.size w9).alloc (Nat.le_refl _) (.cells #[.int .u8 120] 5 (1, 2)))
  have B10 := nxt_alloc B9 (.cells #[.int .u8 120] 5 (1, 2))
  refine (swap_any d _ _ [120] _ _ 1 1 _ D10 rfl (by decide) (Cells.litm w9 #[.int .u8 120] _ _)).mono ?_
  rintro e w11 ⟨rfl, r11, D11, -, L11⟩
  have B11 := nxtD hd B10 D10 L11 (.inr rfl)
  clear D9 B9 D10 L11 B10
  go_wp2_with fail
  have D12 := D11.below ((Below.refl w11.heap.size w11).alloc (Nat.le_refl _) (.cells #[.int .u8 121] 5 (1, 2)))
  have B12 := nxt_alloc B11 (.cells #[.int .u8 121] 5 (1, 2))
  refine (append_any d _ _ [121] _ _ 1 1 _ D12 rfl (by decide) (Cells.litm w11 #[.int .u8 121] _ _)).mono ?_
  rintro e w13 ⟨rfl, r13, D13, -, L13⟩
  have B13 := nxtD hd B12 D12 L13 (.inl rfl)
  clear D11 B11 D12 L13 B12
  go_wp2_with fail
  refine (crash_k d _ _ _ 0 _ 1 [120] D13 (by decide) (by decide)).mono ?_
  rintro e w14 ⟨rfl, D14, L14⟩
  have B14 := nxtD hd B13 D13 L14 (.inl rfl)
  clear D13 L14 B13
  go_wp2_with fail
  refine (swap_any d _ _ [] _ _ 0 0 _ D14 rfl (by decide) (Cells.nil _ _)).mono ?_
  rintro e w15 ⟨rfl, r15, D15, -, L15⟩
  have B15 := nxtD hd B14 D14 L15 (.inr rfl)
  clear D14 L15 B14
  go_wp2_with fail
  refine (bytes_any d _ _ _ _ D15).mono ?_
  rintro e w16 ⟨A16, c16, rfl, -, -, -, -, hb⟩
  have B16 := nxt B15 hb
  have D16 := D15.below hb
  clear D15 B15 hb
  go_wp2_with fail
  refine (safe_any d _ _ _ _ D16).mono ?_
  rintro e w' ⟨rfl, rfl⟩
  go_wp2_with fail
  refine (known22_any _).mono ?_
  rintro e w17 ⟨rfl, hb⟩
  go_wp2
  go_ret
  exact ⟨rfl, nxt B16 hb⟩
end Go.Proofs.Ytfdilhoeikkhoaa
