/-
  What chapter 22's known answers; literal bytes.
-/
import Derived.Test.YtfdilhoeikkhoaaDisk
namespace Go.Proofs.Ytfdilhoeikkhoaa
open Go.RowKit
set_option linter.unusedVariables false

set_option maxHeartbeats 1600000 in
theorem known22_any (w : World) : Calls Try.prog 16 #[] w fun e w' => e = .returned (.bool true) ∧ Below w.heap.size w w' := by
  have kc := fun (w : World) (C : Array Value) (n c : Nat) => Lib.run_convert_bytes_const (P := Try.prog) w 26 5 C n c Try.underlying26 Try.underlying5
  go_enter Try.func16, Try.ntmps16
  go_wp2_with fail
  refine (new_any _).mono ?_
  rintro e w1 ⟨d, rfl, hd, D1, B1⟩
  go_wp2_with fail
  refine (append_any d _ [] [97, 98] 0 _ 2 2 _ (D1.below ((Below.refl _ _).alloc (Nat.le_refl _) _)) rfl (by decide) (Cells.litm w1 #[.int .u8 97, .int .u8 98] _ _)).mono ?_
  rintro e w2 ⟨rfl, r2, D2, -, L2⟩
  have B2 := nxtD hd (nxt_alloc B1 _) (D1.below ((Below.refl _ _).alloc (Nat.le_refl _) _)) L2 (.inl rfl)
  clear B1 D1 L2
  go_wp2_with fail
  refine (sync_any d _ _ _ _ D2).mono ?_
  rintro e w3 ⟨rfl, D3, L3⟩
  have B3 := nxtD hd B2 D2 L3 (.inl rfl)
  clear B2 D2 L3
  go_wp2_with fail
  refine (append_any d _ [97, 98] [99, 100] 2 _ 2 2 _ (D3.below ((Below.refl _ _).alloc (Nat.le_refl _) _)) rfl (by decide) (Cells.litm w3 #[.int .u8 99, .int .u8 100] _ _)).mono ?_
  rintro e w4 ⟨rfl, r4, D4, -, L4⟩
  have B4 := nxtD hd (nxt_alloc B3 _) (D3.below ((Below.refl _ _).alloc (Nat.le_refl _) _)) L4 (.inl rfl)
  clear B3 D3 L4
  go_wp2_with fail
  refine (crash_k d _ _ 2 1 _ 3 [97, 98, 99] D4 (by decide) (by decide)).mono ?_
  rintro e w5 ⟨rfl, D5, L5⟩
  have B5 := nxtD hd B4 D4 L5 (.inl rfl)
  clear B4 D4 L5
  go_wp2_with fail
  refine (bytes_any d _ [97, 98, 99] 3 _ D5).mono ?_
  rintro e w6 ⟨A6, c6, rfl, -, hA6, -, -, hb⟩
  have B6 := nxt B5 hb
  have D6 := D5.below hb
  clear B5 D5 hb
  have k6 := run_str (P := Try.prog) Try.underlying26 Try.underlying5 Try.underlying9 c6 (n := 3) (l := [97, 98, 99]) rfl hA6
  have e6 : ((str [97, 98, 99]).toList == [97, 98, 99]) = true := by rw [str_toList]; decide
  go_wp2_with fail
  refine (safe_any d _ _ _ _ D6).mono ?_
  rintro e w7 ⟨rfl, rfl⟩
  go_wp2
  go_ret
  exact ⟨rfl, B6⟩
end Go.Proofs.Ytfdilhoeikkhoaa
