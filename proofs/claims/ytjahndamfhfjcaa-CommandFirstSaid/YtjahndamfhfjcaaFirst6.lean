/-
  The walk of CommandFirst.
-/
import Derived.Test.YtjahndamfhfjcaaArgs6
import Derived.Deep.DeepCutAuto
import Derived.Deep.CutBlock
namespace Go.Proofs.Ytjahndamfhfjcaa
open Go.RowKit
set_option linter.unusedVariables false

/-- The good command, in which what k to j - 1 name may not be. -/
def firstX (k j : Nat) : Cmd :=
  ⟨if k ≤ 0 ∧ 0 < j then 9 else 1, if k ≤ 1 ∧ 1 < j then 0 else 1, if k ≤ 8 ∧ 8 < j then 256 else 1, if k ≤ 2 ∧ 2 < j then 7 else 2, if k ≤ 7 ∧ 7 < j then 1125899906842624 else 5, if k ≤ 4 ∧ 4 < j then 0 else 5, if k ≤ 5 ∧ 5 < j then -1 else 0,
    if k ≤ 3 ∧ 3 < j then 0 else 1, if k ≤ 6 ∧ 6 < j then [1] else []⟩
def whys : List Int := [31, 1, 21, 27, 24, 28, 29, 23, 20]
theorem first_self (k : Nat) : firstX k k = ⟨1, 1, 1, 2, 5, 5, 0, 1, []⟩ := by
  unfold firstX
  congr 1 <;> (rw [if_neg]; omega)
theorem first_why (k : Nat) (h : k ≤ 8) : (rightC (firstX k 9) : Int) = whys.getD k 0 ∧ rightC (firstX k 9) ≠ 0 := by
  have hk : k = 0 ∨ k = 1 ∨ k = 2 ∨ k = 3 ∨ k = 4 ∨ k = 5 ∨ k = 6 ∨ k = 7 ∨ k = 8 := by omega
  rcases hk with rfl | rfl | rfl | rfl | rfl | rfl | rfl | rfl | rfl <;> decide +kernel
theorem first_lab (k j : Nat) : (firstX k j).lab.length ≤ 9223372036854775807 := by
  unfold firstX
  simp only
  split <;> simp
theorem first_set0 (k : Nat) (h : k ≤ 0) : (firstX k 0).cells.setIfInBounds 0 (.int .i64 9) = (firstX k (0 + 1)).cells := by
  simp [firstX, Cmd.cells, h]
theorem first_set1 (k : Nat) (h : k ≤ 1) : (firstX k 1).cells.setIfInBounds 1 (.int .i64 0) = (firstX k (1 + 1)).cells := by
  simp [firstX, Cmd.cells, h]
theorem first_set2 (k : Nat) (h : k ≤ 2) : (firstX k 2).cells.setIfInBounds 3 (.int .i64 7) = (firstX k (2 + 1)).cells := by
  simp [firstX, Cmd.cells, h]
theorem first_set3 (k : Nat) (h : k ≤ 3) : (firstX k 3).cells.setIfInBounds 7 (.int .i64 0) = (firstX k (3 + 1)).cells := by
  simp [firstX, Cmd.cells, h]
theorem first_set4 (k : Nat) (h : k ≤ 4) : (firstX k 4).cells.setIfInBounds 5 (.int .i64 0) = (firstX k (4 + 1)).cells := by
  simp [firstX, Cmd.cells, h]
theorem first_set5 (k : Nat) (h : k ≤ 5) : (firstX k 5).cells.setIfInBounds 6 (.int .i64 (-1)) = (firstX k (5 + 1)).cells := by
  simp [firstX, Cmd.cells, h]
theorem first_set6 (k : Nat) (h : k ≤ 6) : (firstX k 6).cells.setIfInBounds 8 (.string (str [1])) = (firstX k (6 + 1)).cells := by
  simp [firstX, Cmd.cells, h]
theorem first_set7 (k : Nat) (h : k ≤ 7) : (firstX k 7).cells.setIfInBounds 4 (.int .i64 1125899906842624) = (firstX k (7 + 1)).cells := by
  simp [firstX, Cmd.cells, h]
theorem first_set8 (k : Nat) (h : k ≤ 8) : (firstX k 8).cells.setIfInBounds 2 (.int .i64 256) = (firstX k (8 + 1)).cells := by
  simp [firstX, Cmd.cells, h]
set_option maxRecDepth 100000 in
set_option maxHeartbeats 1600000 in
theorem commandFirst_walk (c : CommandV) (a1 : Int) (w : World) (h0 : c.Ok w) (_w1 : (Lit.int .i64 a1).wf = true) :
    Calls Try.prog 3 #[c.val, .int .i64 a1] w fun e w' => e = .returned (.bool true) ∧ Below w.heap.size w w' := by
  have hl := h0.lab
  obtain ⟨s, es⟩ : ∃ s, s = shortC c := ⟨_, rfl⟩
  have hsl : s.lab.length ≤ 9223372036854775807 := by rw [es]; exact (short_wf h0).lab
  obtain ⟨w0, ew0⟩ : ∃ w0, w0 = w.alloc (.cells c.cells 23) := ⟨_, rfl⟩
  obtain ⟨g, eg⟩ : ∃ g, g = w.heap.size := ⟨_, rfl⟩
  have hC : CAt w0 g c := by rw [ew0, eg]; exact CAt.new _ _
  have B0 : Below w.heap.size w w0 := by rw [ew0]; exact nxt_alloc (Below.refl _ _) _
  have hg : w.heap.size ≤ g := by omega
  have hwb := within_bd a1 0 8 (by omega)
  obtain ⟨k, hk⟩ : ∃ k : Nat, within a1 0 8 = k := ⟨(within a1 0 8).toNat, by omega⟩
  rw [hk] at hwb
  have hk8 : k ≤ 8 := by omega
  have HK := hide hk
  have ES := hide es
  clear h0 _w1 es hk hwb
  show Calls Try.prog 3 #[.agg c.cells, .int .i64 a1] w _
  simp only [Cmd.cells] at ew0 ⊢
  go_enter Try.func3, Try.ntmps3
  go_upto_region 1 with (fail)
  rw [← ew0, ← eg]
  clear ew0 eg
  obtain ⟨f0, f1, f2, f3, f4, f5, f6, f7, f8⟩ := hC.reads'
  go_wp2_with fail
  refine (short_any c hl _).mono ?_
  rw [← ES.out]
  rintro e w1 ⟨rfl, b1⟩
  have C1 := hC.below b1
  have B1 := nxt B0 b1
  clear f0 f1 f2 f3 f4 f5 f6 f7 f8 hC B0 b1
  obtain ⟨f0, f1, f2, f3, f4, f5, f6, f7, f8⟩ := C1.reads'
  have y0 := C1.frozen 0; have y1 := C1.frozen 1; have y2 := C1.frozen 2; have y3 := C1.frozen 3; have y4 := C1.frozen 4; have y5 := C1.frozen 5; have y6 := C1.frozen 6; have y7 := C1.frozen 7; have y8 := C1.frozen 8
  simp only [Cmd.val, Cmd.cells]
  go_upto_region 2 with (fail)
  obtain ⟨w2, ew2⟩ : ∃ w2, w2 = fillC w1 g s := ⟨_, rfl⟩
  refine wp_at ew2 ?_
  have C2 : CAt w2 g s := by rw [ew2]; exact (fill_at C1 s).1
  have B2 : Below w.heap.size w w2 := by rw [ew2]; exact below_fill B1 C1 hg
  clear ew2 f0 f1 f2 f3 f4 f5 f6 f7 f8 y0 y1 y2 y3 y4 y5 y6 y7 y8 C1 B1
  go_upto_region 4 with (fail)
  obtain ⟨w3, ew3⟩ : ∃ w3, w3 = (w2.alloc (.cells (Cmd.cells ⟨1, 1, 1, 2, 5, 5, 0, 1, []⟩) 23)).alloc (.cells #[.int .i64 31, .int .i64 1, .int .i64 21, .int .i64 27, .int .i64 24, .int .i64 28, .int .i64 29, .int .i64 23, .int .i64 20] 25) := ⟨_, rfl⟩
  obtain ⟨p, ep⟩ : ∃ p, p = w2.heap.size := ⟨_, rfl⟩
  have D3 : CAt w3 p ⟨1, 1, 1, 2, 5, 5, 0, 1, []⟩ := by rw [ew3, ep]; exact (CAt.new _ _).below (nxt_alloc (Below.refl _ _) _)
  have W3 : Cells w3 (some ⟨p + 1, 0, none⟩) (i64s whys) := by
    have := Cells.lit (w2.alloc (.cells (Cmd.cells ⟨1, 1, 1, 2, 5, 5, 0, 1, []⟩) 23)) #[.int .i64 31, .int .i64 1, .int .i64 21, .int .i64 27, .int .i64 24, .int .i64 28, .int .i64 29, .int .i64 23, .int .i64 20] 25
    rw [show (w2.alloc (.cells (Cmd.cells ⟨1, 1, 1, 2, 5, 5, 0, 1, []⟩) 23)).heap.size = w2.heap.size + 1 by simp] at this
    rw [ew3, ep]
    exact this
  have b3 : Below w2.heap.size w2 w3 := by rw [ew3]; exact nxt_alloc (nxt_alloc (Below.refl _ _) _) _
  have C3 := C2.below b3
  have B3 := nxt B2 b3
  have hpg : w.heap.size ≤ p := by rw [ep]; exact B2.size
  have hgp : g < p := by rw [ep]; exact C2.lt
  simp only [Cmd.cells] at ew3
  refine wp_at ew3 ?_
  rw [← ep]
  clear ew3 ep C2 B2 b3
  obtain ⟨f0, f1, f2, f3, f4, f5, f6, f7, f8⟩ := D3.reads'
  simp only at f0 f1 f2 f3 f4 f5 f6 f7 f8
  go_wp2_with fail
  refine (within_any a1 0 8 _ (by omega) (by omega) (by omega)).mono ?_
  rw [HK.out]
  rintro e u ⟨rfl, rfl⟩
  go_upto_region 6 with (fail)
  obtain ⟨w4, ew4⟩ : ∃ w4, w4 = w3.alloc (.cells (Cmd.cells ⟨1, 1, 1, 2, 5, 5, 0, 1, []⟩) 23) := ⟨_, rfl⟩
  obtain ⟨q, eq⟩ : ∃ q, q = w3.heap.size := ⟨_, rfl⟩
  have H4 : CAt w4 q (firstX k k) := by rw [ew4, eq, first_self]; exact CAt.new _ _
  have b4 : Below w3.heap.size w3 w4 := by rw [ew4]; exact nxt_alloc (Below.refl _ _) _
  have C4 := C3.below b4
  have W4 := W3.below b4
  have B4 := nxt B3 b4
  have hqp : p + 1 < q := by
    obtain ⟨b, o, hA, hb, _⟩ := W3 (by simp [whys, i64s])
    injection hA with hA
    injection hA with hA
    rw [eq]; omega
  simp only [Cmd.cells] at ew4
  refine wp_at ew4 ?_
  rw [← eq]
  clear ew4 eq C3 W3 B3 b4 D3 f0 f1 f2 f3 f4 f5 f6 f7 f8
  have H4 := hide H4
  go_wp2_with fail
  go_loopw [9] (fun vi wr => ∃ j : Nat, k ≤ j ∧ j ≤ 9 ∧ vi = .int .i64 j ∧ Hid (CAt wr q (firstX k j)) ∧ CAt wr g s ∧ Cells wr (some ⟨p + 1, 0, none⟩) (i64s whys) ∧ Below w.heap.size w wr) (fun vi _ => 9 - (intOf vi).toNat)
  case atStart => exact ⟨k, Nat.le_refl _, by omega, rfl, H4, C4, W4, B4⟩
  case round =>
    obtain ⟨j, hkj, hj9, rfl, H, C, W, B⟩ := hrel
    clear H4 C4 W4 B4
    by_cases hlt : j < 9
    · have hj : j = 0 ∨ j = 1 ∨ j = 2 ∨ j = 3 ∨ j = 4 ∨ j = 5 ∨ j = 6 ∨ j = 7 ∨ j = 8 := by omega
      rcases hj with rfl | rfl | rfl | rfl | rfl | rfl | rfl | rfl | rfl
      · have y := H.out.frozen 0
        have x := H.out.cell 0
        have H2 := H.out.set 0 (.int .i64 9) (firstX k (0 + 1)) (first_set0 k (by omega))
        have L2 := (Leaves.refl q none wr).setCell 0 (.int .i64 9)
        have C2 := C.leaves L2 (by omega)
        have W2 := L2.cells W (fun b o hA => ⟨by injection hA with hA; injection hA with hA; omega, by simp⟩)
        have B2 := Leaves.below0 B L2 (by omega)
        have H2 := hide H2
        clear H C W B L2
        simp only [Cmd.cells, firstX] at x
        go_wp2_with fail
        go_roundw
        case rel => exact ⟨0 + 1, by omega, by omega, by go_num, H2, C2, W2, B2⟩
        case measure => simp [intOf]
      · have y := H.out.frozen 1
        have x := H.out.cell 1
        have H2 := H.out.set 1 (.int .i64 0) (firstX k (1 + 1)) (first_set1 k (by omega))
        have L2 := (Leaves.refl q none wr).setCell 1 (.int .i64 0)
        have C2 := C.leaves L2 (by omega)
        have W2 := L2.cells W (fun b o hA => ⟨by injection hA with hA; injection hA with hA; omega, by simp⟩)
        have B2 := Leaves.below0 B L2 (by omega)
        have H2 := hide H2
        clear H C W B L2
        simp only [Cmd.cells, firstX] at x
        go_wp2_with fail
        go_roundw
        case rel => exact ⟨1 + 1, by omega, by omega, by go_num, H2, C2, W2, B2⟩
        case measure => simp [intOf]
      · have y := H.out.frozen 3
        have x := H.out.cell 3
        have H2 := H.out.set 3 (.int .i64 7) (firstX k (2 + 1)) (first_set2 k (by omega))
        have L2 := (Leaves.refl q none wr).setCell 3 (.int .i64 7)
        have C2 := C.leaves L2 (by omega)
        have W2 := L2.cells W (fun b o hA => ⟨by injection hA with hA; injection hA with hA; omega, by simp⟩)
        have B2 := Leaves.below0 B L2 (by omega)
        have H2 := hide H2
        clear H C W B L2
        simp only [Cmd.cells, firstX] at x
        go_wp2_with fail
        go_roundw
        case rel => exact ⟨2 + 1, by omega, by omega, by go_num, H2, C2, W2, B2⟩
        case measure => simp [intOf]
      · have y := H.out.frozen 7
        have x := H.out.cell 7
        have H2 := H.out.set 7 (.int .i64 0) (firstX k (3 + 1)) (first_set3 k (by omega))
        have L2 := (Leaves.refl q none wr).setCell 7 (.int .i64 0)
        have C2 := C.leaves L2 (by omega)
        have W2 := L2.cells W (fun b o hA => ⟨by injection hA with hA; injection hA with hA; omega, by simp⟩)
        have B2 := Leaves.below0 B L2 (by omega)
        have H2 := hide H2
        clear H C W B L2
        simp only [Cmd.cells, firstX] at x
        go_wp2_with fail
        go_roundw
        case rel => exact ⟨3 + 1, by omega, by omega, by go_num, H2, C2, W2, B2⟩
        case measure => simp [intOf]
      · have y := H.out.frozen 5
        have x := H.out.cell 5
        have H2 := H.out.set 5 (.int .i64 0) (firstX k (4 + 1)) (first_set4 k (by omega))
        have L2 := (Leaves.refl q none wr).setCell 5 (.int .i64 0)
        have C2 := C.leaves L2 (by omega)
        have W2 := L2.cells W (fun b o hA => ⟨by injection hA with hA; injection hA with hA; omega, by simp⟩)
        have B2 := Leaves.below0 B L2 (by omega)
        have H2 := hide H2
        clear H C W B L2
        simp only [Cmd.cells, firstX] at x
        go_wp2_with fail
        go_roundw
        case rel => exact ⟨4 + 1, by omega, by omega, by go_num, H2, C2, W2, B2⟩
        case measure => simp [intOf]
      · have y := H.out.frozen 6
        have x := H.out.cell 6
        have H2 := H.out.set 6 (.int .i64 (-1)) (firstX k (5 + 1)) (first_set5 k (by omega))
        have L2 := (Leaves.refl q none wr).setCell 6 (.int .i64 (-1))
        have C2 := C.leaves L2 (by omega)
        have W2 := L2.cells W (fun b o hA => ⟨by injection hA with hA; injection hA with hA; omega, by simp⟩)
        have B2 := Leaves.below0 B L2 (by omega)
        have H2 := hide H2
        clear H C W B L2
        simp only [Cmd.cells, firstX] at x
        go_wp2_with fail
        go_roundw
        case rel => exact ⟨5 + 1, by omega, by omega, by go_num, H2, C2, W2, B2⟩
        case measure => simp [intOf]
      · have y := H.out.frozen 8
        have x := H.out.cell 8
        have H2 := H.out.set 8 (.string (str [1])) (firstX k (6 + 1)) (first_set6 k (by omega))
        have L2 := (Leaves.refl q none wr).setCell 8 (.string (str [1]))
        have C2 := C.leaves L2 (by omega)
        have W2 := L2.cells W (fun b o hA => ⟨by injection hA with hA; injection hA with hA; omega, by simp⟩)
        have B2 := Leaves.below0 B L2 (by omega)
        have H2 := hide H2
        clear H C W B L2
        simp only [Cmd.cells, firstX] at x
        go_wp2_with fail
        go_roundw
        case rel => exact ⟨6 + 1, by omega, by omega, by go_num, H2, C2, W2, B2⟩
        case measure => simp [intOf]
      · have y := H.out.frozen 4
        have x := H.out.cell 4
        have H2 := H.out.set 4 (.int .i64 1125899906842624) (firstX k (7 + 1)) (first_set7 k (by omega))
        have L2 := (Leaves.refl q none wr).setCell 4 (.int .i64 1125899906842624)
        have C2 := C.leaves L2 (by omega)
        have W2 := L2.cells W (fun b o hA => ⟨by injection hA with hA; injection hA with hA; omega, by simp⟩)
        have B2 := Leaves.below0 B L2 (by omega)
        have H2 := hide H2
        clear H C W B L2
        simp only [Cmd.cells, firstX] at x
        go_wp2_with fail
        go_roundw
        case rel => exact ⟨7 + 1, by omega, by omega, by go_num, H2, C2, W2, B2⟩
        case measure => simp [intOf]
      · have y := H.out.frozen 2
        have x := H.out.cell 2
        have H2 := H.out.set 2 (.int .i64 256) (firstX k (8 + 1)) (first_set8 k (by omega))
        have L2 := (Leaves.refl q none wr).setCell 2 (.int .i64 256)
        have C2 := C.leaves L2 (by omega)
        have W2 := L2.cells W (fun b o hA => ⟨by injection hA with hA; injection hA with hA; omega, by simp⟩)
        have B2 := Leaves.below0 B L2 (by omega)
        have H2 := hide H2
        clear H C W B L2
        simp only [Cmd.cells, firstX] at x
        go_wp2_with fail
        go_roundw
        case rel => exact ⟨8 + 1, by omega, by omega, by go_num, H2, C2, W2, B2⟩
        case measure => simp [intOf]
    · obtain rfl : j = 9 := by omega
      have i1 : ¬ ((9 : Nat) : Int) < 9 := by omega
      obtain ⟨hw, hr⟩ := first_why k hk8
      have hlX := first_lab k 9
      have hX : encO (firstX k 9) = [] := by unfold encO; rw [if_neg hr]
      obtain ⟨X, eX⟩ : ∃ X, X = firstX k 9 := ⟨_, rfl⟩
      rw [← eX] at H hw hr hX hlX
      obtain ⟨R, eR⟩ : ∃ R, R = rightC X := ⟨_, rfl⟩
      have HX := hide hX
      have ER := hide eR
      rw [← eR] at hw hr
      have HW := hide hw
      obtain ⟨f0, f1, f2, f3, f4, f5, f6, f7, f8⟩ := H.out.reads'
      have C := hide C
      clear eX eR hX hw H
      go_wp2_with fail
      refine (encode_any X hlX _).mono ?_
      rw [HX.out, ← ER.out]
      rintro e w5 ⟨A5, c5, rfl, -, -, -, -, b5⟩
      have C5 := C.out.below b5
      have W5 := W.below b5
      have B5 := nxt B b5
      clear C W B b5 f0 f1 f2 f3 f4 f5 f6 f7 f8
      obtain ⟨f0, f1, f2, f3, f4, f5, f6, f7, f8⟩ := C5.reads'
      obtain ⟨S, eS⟩ : ∃ S, S = rightC s := ⟨_, rfl⟩
      obtain ⟨M, eM⟩ : ∃ M, (encO s).length = M := ⟨_, rfl⟩
      have EM := hide eM
      have ESS := hide eS
      clear eS eM
      go_wp2_with fail
      refine (encode_any s hsl _).mono ?_
      rw [← ESS.out]
      rintro e w6 ⟨A6, c6, he, -, -, -, -, b6⟩
      rw [EM.out] at he
      subst he
      have C6 := C5.below b6
      have W6 := W5.below b6
      have B6 := nxt B5 b6
      clear C5 W5 B5 b6 f0 f1 f2 f3 f4 f5 f6 f7 f8
      obtain ⟨f0, f1, f2, f3, f4, f5, f6, f7, f8⟩ := C6.reads'
      obtain ⟨b, o, x, hA, hb, hc, hx⟩ := W6.int_at (k := k) (by show k < 9; omega)
      injection hA with hA
      injection hA with e1 e2
      subst e1; subst e2
      have hxR : x = (R : Int) := by
        have h1 := hx.out
        have h2 := HW.out
        rw [List.getD_eq_getElem?_getD, h1] at h2
        exact h2.symm
      subst hxR
      rw [Nat.zero_add] at hc
      have i2 : (k : Int) < 9 := by omega
      clear hx C6 W6
      go_wp2_with fail
      refine (right_any s hsl _).mono ?_
      rw [← ESS.out]
      rintro e w7 ⟨rfl, b7⟩
      have B7 := nxt B6 b7
      clear f0 f1 f2 f3 f4 f5 f6 f7 f8 hc
      go_wp2_with fail
      refine (known6_any _).mono ?_
      rintro e w8 ⟨rfl, b8⟩
      go_wp2_with fail
      go_ret
      exact ⟨rfl, nxt B7 b8⟩
end Go.Proofs.Ytjahndamfhfjcaa
