/-
  Chapter 6's known.
-/
import Derived.Test.YtjahndamfhfjcaaCmdT
import Derived.Test.YtjahndamfhfjcaaCmdF
namespace Go.Proofs.Ytjahndamfhfjcaa
open Go.RowKit
set_option linter.unusedVariables false

set_option maxRecDepth 100000 in
set_option maxHeartbeats 1600000 in
theorem known6_any (w : World) : Calls Try.prog 13 #[] w fun e w' => e = .returned (.bool true) ∧ Below w.heap.size w w' := by
  have hr9 : vBack ⟨9, 0, 0, 0, 0, 0, 0, 0, []⟩ = vNone := rfl
  have hr2 : rightC ⟨2, 0, 0, 0, 0, 0, 0, 0, []⟩ = 1 := rfl
  have he2 : encO ⟨2, 0, 0, 0, 0, 0, 0, 0, []⟩ = [] := by unfold encO; rw [hr2]; rfl
  go_enter Try.func13, Try.ntmps13
  go_wp2_with fail
  refine (cWith_any 7 _).mono ?_
  rintro e w1 ⟨rfl, b1⟩
  go_wp2_with fail
  refine (of_with 7 _).mono ?_
  rintro e w2 ⟨rfl, b2⟩
  have B2 := nxt b1 b2
  clear b1 b2
  simp only [Cmd.val, Cmd.cells]
  go_upto_region 2 with (fail)
  obtain ⟨w3, ew3⟩ : ∃ w3, w3 = w2.alloc (.cells (Cmd.cells ⟨2, 7, 0, 0, 0, 0, 0, 0, []⟩) 23) := ⟨_, rfl⟩
  obtain ⟨g, eg⟩ : ∃ g, g = w2.heap.size := ⟨_, rfl⟩
  have C3 : CAt w3 g ⟨2, 7, 0, 0, 0, 0, 0, 0, []⟩ := by rw [ew3, eg]; exact CAt.new _ _
  have B3 : Below w.heap.size w w3 := by rw [ew3]; exact nxt_alloc B2 _
  simp only [Cmd.cells] at ew3
  rw [← ew3, ← eg]
  clear ew3 eg B2
  go_wp2_with fail
  refine (back_any ⟨9, 0, 0, 0, 0, 0, 0, 0, []⟩ _).mono ?_
  rw [hr9]
  rintro e w4 ⟨rfl, b4⟩
  go_wp2_with fail
  refine (of_none _).mono ?_
  rintro e w5 ⟨rfl, b5⟩
  have b35 := nxt b4 b5
  have C5 := C3.below b35
  have B5 := nxt B3 b35
  clear C3 B3 b4 b5 b35
  simp only [Cmd.val, Cmd.cells, Cmd.zero]
  go_upto_region 3 with (fail)
  obtain ⟨w6, ew6⟩ : ∃ w6, w6 = w5.alloc (.cells (Cmd.cells Cmd.zero) 23) := ⟨_, rfl⟩
  have b6 : Below w5.heap.size w5 w6 := by rw [ew6]; exact nxt_alloc (Below.refl _ _) _
  have C6 := C5.below b6
  have B6 := nxt B5 b6
  simp only [Cmd.cells, Cmd.zero] at ew6
  rw [← ew6]
  clear ew6 C5 B5 b6
  go_wp2_with fail
  refine (encode_any ⟨2, 0, 0, 0, 0, 0, 0, 0, []⟩ (by simp) _).mono ?_
  rw [he2, hr2]
  rintro e w7 ⟨A7, c7, rfl, -, -, -, -, b7⟩
  have C7 := C6.below b7
  have B7 := nxt B6 b7
  obtain ⟨f0, f1, f2, f3, f4, f5, f6, f7, f8⟩ := C7.reads
  clear C6 B6 b7 C7
  have e0 : (str []).toList = [] := str_toList []
  go_wp2_with fail
  go_ret
  exact ⟨rfl, B7⟩
end Go.Proofs.Ytjahndamfhfjcaa
