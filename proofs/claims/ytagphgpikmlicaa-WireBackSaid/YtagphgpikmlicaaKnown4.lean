/-
  What chapter 4's known answers.
-/
import Derived.Test.YtagphgpikmlicaaFrame
namespace Go.Proofs.Ytagphgpikmlicaa
open Go.RowKit
set_option linter.unusedVariables false

theorem crc_nil : crcN [] = 0 := by decide +kernel
theorem crc_digits : crcN [49, 50, 51, 52, 53, 54, 55, 56, 57] = 3421780262 := by decide +kernel
theorem frame_nil : frameL [] = [0, 255, 0, 0, 0, 0] := by decide +kernel
set_option maxHeartbeats 1600000 in
theorem known4_any (w : World) : Calls Try.prog 10 #[] w fun e w' => e = .returned (.bool true) ∧ Below w.heap.size w w' := by
  have kc := fun (w : World) (C : Array Value) (n c : Nat) => Lib.run_convert_bytes_const (P := Try.prog) w 22 5 C n c Try.underlying22 Try.underlying5
  go_enter Try.func10, Try.ntmps10
  go_wp2_with fail
  refine (frame_ok none 0 0 [] _ rfl (by omega) (Cells.nil _ _)).mono ?_
  rw [frame_nil]
  rintro e w1 ⟨A1, c1, rfl, -, hA1, -, -, B1⟩
  have k6 := fun m => run_str (P := Try.prog) Try.underlying22 Try.underlying5 Try.underlying9 c1 (n := 6) (l := [0, 255, 0, 0, 0, 0]) rfl (hA1.below (nxt_alloc (Below.refl _ _) (.cells #[.int .u8 49, .int .u8 50, .int .u8 51, .int .u8 52, .int .u8 53, .int .u8 54, .int .u8 55, .int .u8 56, .int .u8 57] 5 m)))
  have e6 : ((str [0, 255, 0, 0, 0, 0]).toList == [0, 255, 0, 0, 0, 0]) = true := by rw [str_toList]; decide
  go_wp2_with fail
  refine (crc_any _ 9 9 [49, 50, 51, 52, 53, 54, 55, 56, 57] _ rfl (by omega) (Cells.litm w1 #[.int .u8 49, .int .u8 50, .int .u8 51, .int .u8 52, .int .u8 53, .int .u8 54, .int .u8 55, .int .u8 56, .int .u8 57] _ _)).mono ?_
  rw [crc_digits]
  rintro e w2 ⟨rfl, rfl⟩
  go_wp2
  go_ret
  exact ⟨rfl, nxt_alloc B1 _⟩
end Go.Proofs.Ytagphgpikmlicaa
