/-
  cornhilllaw6.read: both read the same.
-/
import Derived.Test.YtjahndamfhfjcaaArgs6
namespace Go.Proofs.Ytjahndamfhfjcaa
open Go.RowKit
set_option linter.unusedVariables false

set_option maxRecDepth 100000 in
set_option maxHeartbeats 1600000 in
theorem read6_any (A : Option Addr) (n c : Nat) (b : List UInt8) (w : World) (hn : b.length = n) (hl : n ≤ 1000000000) (hc : n ≤ c) (hcm : c ≤ 9223372036854775807) (hA : Cells w A (u8s b)) :
    Calls Try.prog 25 #[.slice A n c] w fun e w' => e = .returned (.bool true) ∧ Below w.heap.size w w' := by
  have HN := hide hn
  clear hn
  obtain ⟨Z, eZ⟩ : ∃ Z, Z = (decC b).1 := ⟨_, rfl⟩
  obtain ⟨Y, eY⟩ : ∃ Y, Y = (decC b).2 := ⟨_, rfl⟩
  have hP : ∀ w, DecAt w b = fun e w' => e = .returned (.tuple #[Z.val, .int .i64 (Y : Nat)]) ∧ Below w.heap.size w w' := by intro w; rw [eZ, eY]; rfl
  have HP := hide hP
  clear eZ eY hP
  go_enter Try.func25, Try.ntmps25
  go_wp2_with fail
  refine (decode_any A n c b _ HN.out (by omega) hc hcm hA).mono ?_
  rw [HP.out]
  rintro e w1 ⟨rfl, b1⟩
  have hA1 := hA.below b1
  simp only [Cmd.val, Cmd.cells]
  go_upto_region 2 with (fail)
  obtain ⟨w2, ew2⟩ : ∃ w2, w2 = w1.alloc (.cells Z.cells 23) := ⟨_, rfl⟩
  obtain ⟨g, eg⟩ : ∃ g, g = w1.heap.size := ⟨_, rfl⟩
  have C2 : CAt w2 g Z := by rw [ew2, eg]; exact CAt.new _ _
  have b2 : Below w1.heap.size w1 w2 := by rw [ew2]; exact nxt_alloc (Below.refl _ _) _
  simp only [Cmd.cells] at ew2
  rw [← ew2, ← eg]
  clear ew2 eg
  have hA2 := hA1.below b2
  have B2 := nxt b1 b2
  clear hA hA1 b1 b2
  go_wp2_with fail
  refine (refDecode_any A n c b _ HN.out hl hc hcm hA2).mono ?_
  rw [HP.out]
  rintro e w3 ⟨rfl, b3⟩
  have C3 := C2.below b3
  have B3 := nxt B2 b3
  clear C2 B2 b3 hA2
  simp only [Cmd.val, Cmd.cells]
  go_upto_region 3 with (fail)
  obtain ⟨w4, ew4⟩ : ∃ w4, w4 = w3.alloc (.cells Z.cells 23) := ⟨_, rfl⟩
  obtain ⟨g4, eg4⟩ : ∃ g4, g4 = w3.heap.size := ⟨_, rfl⟩
  have D4 : CAt w4 g4 Z := by rw [ew4, eg4]; exact CAt.new _ _
  have b4 : Below w3.heap.size w3 w4 := by rw [ew4]; exact nxt_alloc (Below.refl _ _) _
  simp only [Cmd.cells] at ew4
  rw [← ew4, ← eg4]
  clear ew4 eg4
  obtain ⟨f0, f1, f2, f3, f4, f5, f6, f7, f8⟩ := (C3.below b4).reads'
  obtain ⟨r0, r1, r2, r3, r4, r5, r6, r7, r8⟩ := D4.reads'
  have B4 := nxt B3 b4
  clear C3 B3 b4 D4
  go_wp2_with fail
  go_ret
  exact ⟨rfl, B4⟩
end Go.Proofs.Ytjahndamfhfjcaa
