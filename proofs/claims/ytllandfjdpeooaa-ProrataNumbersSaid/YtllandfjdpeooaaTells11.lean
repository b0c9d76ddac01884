/-
  The walk of ProrataTells.
-/
import Derived.Test.YtllandfjdpeooaaShareP
namespace Go.Proofs.Ytllandfjdpeooaa
open Go.RowKit
set_option linter.unusedVariables false

theorem plainB_length (l : List Int) (least q : Int) : (plainB l least q).length ≤ 250 := by
  unfold plainB
  split
  · rename_i h
    rw [length_byL]
    exact ((rightB_iff l q).1 h.1).1
  · simp
theorem LB {α : Type} (l : List α) (h : l.length ≤ 250) : l.length ≤ 9223372036854775807 := by omega
theorem plain_631 : plainB [6, 3, 1] 1 5 = [4, 1, 0] := by decide
theorem share_631 : shareP [6, 3, 1] 2 9 1 5 = [3, 1, 1] := by decide
set_option maxHeartbeats 1600000 in
theorem known11_any (w : World) : Calls Try.prog 14 #[] w fun e w' => e = .returned (.bool true) ∧ Below w.heap.size w w' := by
  go_enter Try.func14, Try.ntmps14
  go_wp2_with fail
  refine (pplain_any _ 3 3 [6, 3, 1] 1 5 _ rfl (by decide) (Cells.lit w (i64s [6, 3, 1]).toArray 2)).mono ?_
  rw [plain_631]
  rintro e w1 ⟨A1, c1, rfl, -, hA1, -, -, hb⟩
  have B1 := nxt (nxt_alloc (Below.refl _ _) _) hb
  clear hb
  go_wp2_with fail
  refine (same_b A1 _ _ _ c1 3 [4, 1, 0] [4, 1, 0] _ rfl rfl (by decide) (by decide) (hA1.alloc _) (Cells.lit w1 (i64s [4, 1, 0]).toArray 2)).mono ?_
  simp only [decide_true]
  rintro e w2 ⟨rfl, hb⟩
  have B2 := nxt (nxt_alloc B1 _) hb
  clear hb hA1 B1
  go_wp2_with fail
  refine (pshare_any _ 3 3 [6, 3, 1] 2 9 1 5 _ rfl (by decide) (Cells.lit w2 (i64s [6, 3, 1]).toArray 2)).mono ?_
  rw [share_631]
  rintro e w3 ⟨A3, c3, rfl, -, hA3, -, -, hb⟩
  have B3 := nxt (nxt_alloc B2 _) hb
  clear hb B2
  go_wp2_with fail
  refine (same_b A3 _ _ _ c3 3 [3, 1, 1] [3, 1, 1] _ rfl rfl (by decide) (by decide) (hA3.alloc _) (Cells.lit w3 (i64s [3, 1, 1]).toArray 2)).mono ?_
  simp only [decide_true]
  rintro e w4 ⟨rfl, hb⟩
  have B4 := nxt (nxt_alloc B3 _) hb
  clear hb hA3 B3
  go_wp2
  go_ret
  exact ⟨rfl, B4⟩
set_option maxRecDepth 100000 in
set_option maxHeartbeats 3200000 in
theorem prorataTells_walk (A0 : Option Addr) (c0 : Nat) (l0 : List Int) (a1 a2 a3 a4 a5 a6 : Int) (w : World) (h0 : ArgI .i64 w A0 c0 l0) (_w1 : (Lit.int .i64 a1).wf = true) (_w2 : (Lit.int .i64 a2).wf = true) (_w3 : (Lit.int .i64 a3).wf = true) (_w4 : (Lit.int .i64 a4).wf = true) (_w5 : (Lit.int .i64 a5).wf = true) (_w6 : (Lit.int .i64 a6).wf = true) :
    Calls Try.prog 4 #[.slice A0 l0.length c0, .int .i64 a1, .int .i64 a2, .int .i64 a3, .int .i64 a4, .int .i64 a5, .int .i64 a6] w fun e w' => e = .returned (.bool true) ∧ Below w.heap.size w w' := by
  have hlen : l0.length ≤ 9223372036854775807 := by have := h0.le; have := h0.max; unfold maxLen at this; omega
  have hA0 := h0.cells
  clear h0
  have hs1 := sizesL_length l0
  have hs2 : ∀ n ∈ sizesL l0, 0 ≤ n ∧ n ≤ 1000000 := fun n hn => by have := sizesL_bd l0 n hn; omega
  have hs3 := isum_bd _ hs2
  obtain ⟨s, es⟩ : ∃ s, s = sizesL l0 := ⟨_, rfl⟩
  rw [← es] at hs1 hs2 hs3
  have Es := hide es; clear es
  have Hs2 := hide hs2; clear hs2
  have hsl : s.length ≤ 9223372036854775807 := by omega
  go_enter Try.func4, Try.ntmps4
  go_wp2_with fail
  refine (sizes11_any A0 _ c0 l0 _ rfl hlen hA0).mono ?_
  rw [← Es.out]
  rintro e w1 ⟨A, c, rfl, -, hA, -, -, B1⟩
  go_wp2_with fail
  refine (sum11_any A _ c s _ rfl (by omega) Hs2.out hA).mono ?_
  rintro e w2 ⟨rfl, rfl⟩
  go_wp2_with fail
  refine (within_any a5 0 s.sum _ hs3.1 (by omega) (by omega)).mono ?_
  rintro e w2 ⟨rfl, rfl⟩
  obtain ⟨k, ek⟩ : ∃ k, k = within a5 0 s.sum := ⟨_, rfl⟩
  rw [← ek]
  clear ek
  have hn := within_bd a6 0 9 (by omega)
  go_wp2_with fail
  refine (within_any a6 0 9 _ (by omega) (by omega) (by omega)).mono ?_
  rintro e w2 ⟨rfl, rfl⟩
  obtain ⟨n, en⟩ : ∃ n, n = within a6 0 9 := ⟨_, rfl⟩
  rw [← en] at hn ⊢
  clear en
  have ht := within_bd a1 0 45 (by omega)
  go_wp2_with fail
  refine (within_any a1 0 45 _ (by omega) (by omega) (by omega)).mono ?_
  rintro e w2 ⟨rfl, rfl⟩
  obtain ⟨t, et⟩ : ∃ t, t = within a1 0 45 := ⟨_, rfl⟩
  rw [← et] at ht ⊢
  clear et
  have hAw : ∀ wx : World, Below w1.heap.size w1 wx → Cells wx A (i64s s) := fun _ h => hA.below h
  have hA0w : ∀ wx : World, Below w1.heap.size w1 wx → Cells wx A0 (i64s l0) := fun _ h => hA0.below (nxt B1 h)
  have HAW := hide hAw; have HA0W := hide hA0w
  clear hAw hA0w hA hA0
  have B20 := B1
  have B1 := Below.refl w1.heap.size w1
  go_wp2_with fail
  refine (pplain_any A _ c s (1 + n) k _ rfl hsl (HAW.out _ B1)).mono ?_
  rintro e w2 ⟨A2, c2, rfl, -, hA2, -, -, hb⟩
  have B2 := nxt B1 hb
  clear hb
  go_wp2_with fail
  refine (refPlain_any A _ c s (1 + n) k _ rfl hsl (HAW.out _ B2)).mono ?_
  rintro e w3 ⟨A3, c3, rfl, -, hA3, -, -, hb⟩
  have B3 := nxt B2 hb
  have hA2' := hA2.below hb
  clear hb hA2
  go_wp2_with fail
  refine (same_b A2 A3 _ _ c2 c3 _ _ _ rfl rfl (LB _ (by first | exact plainB_length _ _ _ | exact shareP_length _ _ _ _ _)) (LB _ (by first | exact plainB_length _ _ _ | exact shareP_length _ _ _ _ _)) hA2' hA3).mono ?_
  simp only [decide_true]
  rintro e w4 ⟨rfl, hb⟩
  have B4 := nxt B3 hb
  clear hb hA2' hA3
  go_wp2_with fail
  refine (pshare_any A _ c s (t - 1) a2 (1 + n) k _ rfl hsl (HAW.out _ B4)).mono ?_
  rintro e w5 ⟨A5, c5, rfl, -, hA5, -, -, hb⟩
  have B5 := nxt B4 hb
  clear hb
  go_wp2_with fail
  refine (rshare_any A _ c s (t - 1) a2 (1 + n) k _ rfl hsl (HAW.out _ B5)).mono ?_
  rintro e w6 ⟨A6, c6, rfl, -, hA6, -, -, hb⟩
  have B6 := nxt B5 hb
  have hA5' := hA5.below hb
  clear hb hA5
  go_wp2_with fail
  refine (same_b A5 A6 _ _ c5 c6 _ _ _ rfl rfl (LB _ (by first | exact plainB_length _ _ _ | exact shareP_length _ _ _ _ _)) (LB _ (by first | exact plainB_length _ _ _ | exact shareP_length _ _ _ _ _)) hA5' hA6).mono ?_
  simp only [decide_true]
  rintro e w7 ⟨rfl, hb⟩
  have B7 := nxt B6 hb
  clear hb hA5' hA6
  go_wp2_with fail
  refine (pplain_any A0 _ c0 l0 a3 a4 _ rfl hlen (HA0W.out _ B7)).mono ?_
  rintro e w8 ⟨A8, c8, rfl, -, hA8, -, -, hb⟩
  have B8 := nxt B7 hb
  clear hb
  go_wp2_with fail
  refine (refPlain_any A0 _ c0 l0 a3 a4 _ rfl hlen (HA0W.out _ B8)).mono ?_
  rintro e w9 ⟨A9, c9, rfl, -, hA9, -, -, hb⟩
  have B9 := nxt B8 hb
  have hA8' := hA8.below hb
  clear hb hA8
  go_wp2_with fail
  refine (same_b A8 A9 _ _ c8 c9 _ _ _ rfl rfl (LB _ (by first | exact plainB_length _ _ _ | exact shareP_length _ _ _ _ _)) (LB _ (by first | exact plainB_length _ _ _ | exact shareP_length _ _ _ _ _)) hA8' hA9).mono ?_
  simp only [decide_true]
  rintro e w10 ⟨rfl, hb⟩
  have B10 := nxt B9 hb
  clear hb hA8' hA9
  go_wp2_with fail
  refine (pshare_any A0 _ c0 l0 a1 a2 a3 a4 _ rfl hlen (HA0W.out _ B10)).mono ?_
  rintro e w11 ⟨A11, c11, rfl, -, hA11, -, -, hb⟩
  have B11 := nxt B10 hb
  clear hb
  go_wp2_with fail
  refine (rshare_any A0 _ c0 l0 a1 a2 a3 a4 _ rfl hlen (HA0W.out _ B11)).mono ?_
  rintro e w12 ⟨A12, c12, rfl, -, hA12, -, -, hb⟩
  have B12 := nxt B11 hb
  have hA11' := hA11.below hb
  clear hb hA11
  go_wp2_with fail
  refine (same_b A11 A12 _ _ c11 c12 _ _ _ rfl rfl (LB _ (by first | exact plainB_length _ _ _ | exact shareP_length _ _ _ _ _)) (LB _ (by first | exact plainB_length _ _ _ | exact shareP_length _ _ _ _ _)) hA11' hA12).mono ?_
  simp only [decide_true]
  rintro e w13 ⟨rfl, hb⟩
  have B13 := nxt B12 hb
  clear hb hA11' hA12
  go_wp2_with fail
  refine (known11_any _).mono ?_
  rintro e w20 ⟨rfl, hb⟩
  go_wp2
  go_ret
  exact ⟨rfl, nxt (nxt B20 B13) hb⟩
end Go.Proofs.Ytllandfjdpeooaa
