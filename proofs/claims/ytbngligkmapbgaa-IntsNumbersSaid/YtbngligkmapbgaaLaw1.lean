/-
  What the statements of chapter 1 share: its runs; two numbers reckoned twice.
-/
import Derived.Test.YtbngligkmapbgaaSums
import Derived.Test.YtbngligkmapbgaaDiv
import Derived.Test.YtbngligkmapbgaaRShare
namespace Go.Proofs.Ytbngligkmapbgaa
open Go.RowKit
set_option linter.unusedVariables false

theorem known_share : shareEnd 4611686018427387904 6 4 = .returned (.tuple #[.int .i64 6917529027641081856, .bool true]) := rfl
theorem known_floor : floorEnd (-1) 5 = .returned (.tuple #[.int .i64 (-5), .bool true]) := rfl
theorem known_add : told (9223372036854775807 + 1) = .returned (.tuple #[.int .i64 0, .bool false]) := rfl
theorem known_any (w : World) : Calls Try.prog 10 #[] w fun e w' => e = .returned (.bool true) ∧ ∃ n, w' = w.drewN n := by
  go_enter Try.func10, Try.ntmps10
  go_wp2_with fail
  refine (share_any _ _ _ _ (by decide) (by decide) (by decide)).mono ?_
  rintro e w' ⟨rfl, n, rfl⟩
  rw [known_share]
  go_wp2_with fail
  refine (floor_any _ _ _ (by decide) (by decide)).mono ?_
  rintro e w' ⟨rfl, rfl⟩
  rw [known_floor]
  go_wp2_with fail
  refine (add_any _ _ _ (by decide) (by decide)).mono ?_
  rintro e w' ⟨rfl, rfl⟩
  rw [known_add]
  go_wp2
  go_ret
  exact ⟨rfl, _, rfl⟩
theorem known_b (w : World) : Calls Try.prog 10 #[] w fun e w' => e = .returned (.bool true) ∧ Below w.heap.size w w' :=
  (known_any w).mono fun _ _ ⟨he, n, hw⟩ => ⟨he, hw ▸ below_drewN (Below.refl _ _) n⟩
theorem share_b (a b c : Int) (w : World) (ha : -9223372036854775808 ≤ a ∧ a ≤ 9223372036854775807) (hb : -9223372036854775808 ≤ b ∧ b ≤ 9223372036854775807) (hc : -9223372036854775808 ≤ c ∧ c ≤ 9223372036854775807) :
    Calls Try.prog 9 #[.int .i64 a, .int .i64 b, .int .i64 c] w fun e w' => e = shareEnd a b c ∧ Below w.heap.size w w' :=
  (share_any a b c w ha hb hc).mono fun _ _ ⟨he, n, hw⟩ => ⟨he, hw ▸ below_drewN (Below.refl _ _) n⟩
set_option maxRecDepth 100000 in
set_option maxHeartbeats 1600000 in
theorem sameInts_any (a b : Int) (w : World) (ha : -9223372036854775808 ≤ a ∧ a ≤ 9223372036854775807) (hb : -9223372036854775808 ≤ b ∧ b ≤ 9223372036854775807) :
    Calls Try.prog 17 #[.int .i64 a, .int .i64 b] w fun e w' => e = .returned (.bool true) ∧ w = w' := by
  go_enter Try.func17, Try.ntmps17
  go_wp2_with fail
  refine (add_any _ _ _ ha hb).mono ?_
  rintro e w' ⟨rfl, rfl⟩
  rw [told]
  go_wp2_with fail
  refine (refAdd_any _ _ _ ha hb).mono ?_
  rintro e w' ⟨rfl, rfl⟩
  rw [told]
  go_wp2_with fail
  refine (sub_any _ _ _ ha hb).mono ?_
  rintro e w' ⟨rfl, rfl⟩
  rw [told]
  go_wp2_with fail
  refine (refSub_any _ _ _ ha hb).mono ?_
  rintro e w' ⟨rfl, rfl⟩
  rw [told]
  go_wp2_with fail
  refine (mul_any _ _ _ ha hb).mono ?_
  rintro e w' ⟨rfl, rfl⟩
  rw [told]
  go_wp2_with fail
  refine (refMul_any _ _ _ ha hb).mono ?_
  rintro e w' ⟨rfl, rfl⟩
  rw [told]
  go_wp2_with fail
  refine (floor_any _ _ _ ha hb).mono ?_
  rintro e w' ⟨rfl, rfl⟩
  rw [floorEnd]
  go_wp2_with fail
  refine (refFloor_any _ _ _ ha hb).mono ?_
  rintro e w' ⟨rfl, rfl⟩
  rw [floorEnd]
  go_wp2
  go_ret
  exact ⟨rfl, rfl⟩
end Go.Proofs.Ytbngligkmapbgaa
