/-
  The walk of SplitTells.
-/
import Derived.Test.YtmphnccngkkhgaaSplit
namespace Go.Proofs.Ytmphnccngkkhgaa
open Go.RowKit
set_option linter.unusedVariables false

theorem LB {α : Type} (l : List α) (h : l.length ≤ 250) : l.length ≤ 9223372036854775807 := by omega
theorem split_10 : splitL [10, 10] 50 1 10 = [7, 3] := by decide
set_option maxHeartbeats 1600000 in
theorem known12_any (w : World) : Calls Try.prog 10 #[] w fun e w' => e = .returned (.bool true) ∧ Below w.heap.size w w' := by
  go_enter Try.func10, Try.ntmps10
  go_wp2_with fail
  refine (ssplit_any _ 2 2 [10, 10] 50 1 10 _ rfl (by decide) (Cells.lit w (i64s [10, 10]).toArray 2)).mono ?_
  rw [split_10]
  rintro e w1 ⟨A1, c1, rfl, -, hA1, -, -, hb⟩
  have B1 := nxt (nxt_alloc (Below.refl _ _) _) hb
  clear hb
  go_wp2_with fail
  refine (same_b A1 _ _ _ c1 2 [7, 3] [7, 3] _ rfl rfl (by decide) (by decide) (hA1.alloc _) (Cells.lit w1 (i64s [7, 3]).toArray 2)).mono ?_
  simp only [decide_true]
  rintro e w2 ⟨rfl, hb⟩
  have B2 := nxt (nxt_alloc B1 _) hb
  clear hb hA1 B1
  go_wp2
  go_ret
  exact ⟨rfl, B2⟩
set_option maxRecDepth 100000 in
set_option maxHeartbeats 3200000 in
theorem splitTells_walk (A0 : Option Addr) (c0 : Nat) (l0 : List Int) (a1 a2 a3 a4 a5 a6 : Int) (w : World) (h0 : ArgI .i64 w A0 c0 l0) (_w1 : (Lit.int .i64 a1).wf = true) (_w2 : (Lit.int .i64 a2).wf = true) (_w3 : (Lit.int .i64 a3).wf = true) (_w4 : (Lit.int .i64 a4).wf = true) (_w5 : (Lit.int .i64 a5).wf = true) (_w6 : (Lit.int .i64 a6).wf = true) :
    Calls Try.prog 4 #[.slice A0 l0.length c0, .int .i64 a1, .int .i64 a2, .int .i64 a3, .int .i64 a4, .int .i64 a5, .int .i64 a6] w fun e w' => e = .returned (.bool true) ∧ Below w.heap.size w w' := by
  have hlen : l0.length ≤ 9223372036854775807 := by have := h0.le; have := h0.max; unfold maxLen at this; omega
  have hA0 := h0.cells
  clear h0
  have hs1 := sizesL_length l0
  have hs2 : ∀ n ∈ sizesL l0, 0 ≤ n ∧ n ≤ 1000000 := fun n hn => by have := sizesL_bd l0 n hn; omega
  have hs3 := isum_bd _ hs2
  obtain ⟨s, es⟩ : ∃ s, s = sizesL l0 := ⟨_, rfl⟩
  rw [← es] at hs1 hs2 hs3
  have Es := hide es; clear es
  have Hs2 := hide hs2; clear hs2
  have hsl : s.length ≤ 9223372036854775807 := by omega
  go_enter Try.func4, Try.ntmps4
  go_wp2_with fail
  refine (sizes12_any A0 _ c0 l0 _ rfl hlen hA0).mono ?_
  rw [← Es.out]
  rintro e w1 ⟨A, c, rfl, -, hA, -, -, B1⟩
  go_wp2_with fail
  refine (sum12_any A _ c s _ rfl (by omega) Hs2.out hA).mono ?_
  rintro e w2 ⟨rfl, rfl⟩
  go_wp2_with fail
  refine (within_any a4 0 s.sum _ hs3.1 (by omega) (by omega)).mono ?_
  rintro e w2 ⟨rfl, rfl⟩
  obtain ⟨k, ek⟩ : ∃ k, k = within a4 0 s.sum := ⟨_, rfl⟩
  rw [← ek]
  clear ek
  have hn := within_bd a5 0 9 (by omega)
  go_wp2_with fail
  refine (within_any a5 0 9 _ (by omega) (by omega) (by omega)).mono ?_
  rintro e w2 ⟨rfl, rfl⟩
  obtain ⟨n, en⟩ : ∃ n, n = within a5 0 9 := ⟨_, rfl⟩
  rw [← en] at hn ⊢
  clear en
  have ht := within_bd a6 0 100 (by omega)
  go_wp2_with fail
  refine (within_any a6 0 100 _ (by omega) (by omega) (by omega)).mono ?_
  rintro e w2 ⟨rfl, rfl⟩
  obtain ⟨p, ep⟩ : ∃ p, p = within a6 0 100 := ⟨_, rfl⟩
  rw [← ep] at ht ⊢
  clear ep
  have hA01 := hA0.below B1
  clear hA0
  go_wp2_with fail
  refine (ssplit_any A _ c s p (1 + n) k _ rfl hsl hA).mono ?_
  rintro e w2 ⟨A2, c2, rfl, -, hA2, -, -, hb⟩
  have B2 := nxt B1 hb
  have hA1 := hA.below hb
  have hA02 := hA01.below hb
  clear hb hA hA01 B1
  go_wp2_with fail
  refine (rsplit_any A _ c s p (1 + n) k _ rfl hsl hA1).mono ?_
  rintro e w3 ⟨A3, c3, rfl, -, hA3, -, -, hb⟩
  have B3 := nxt B2 hb
  have hA2' := hA2.below hb
  have hA03 := hA02.below hb
  clear hb hA1 hA02 B2 hA2
  go_wp2_with fail
  refine (same_b A2 A3 _ _ c2 c3 _ _ _ rfl rfl (LB _ (length_splitL_le _ _ _ _)) (LB _ (length_splitL_le _ _ _ _)) hA2' hA3).mono ?_
  simp only [decide_true]
  rintro e w4 ⟨rfl, hb⟩
  have B4 := nxt B3 hb
  have hA04 := hA03.below hb
  clear hb hA2' hA3 hA03 B3
  go_wp2_with fail
  refine (ssplit_any A0 _ c0 l0 a1 a2 a3 _ rfl hlen hA04).mono ?_
  rintro e w5 ⟨A5, c5, rfl, -, hA5, -, -, hb⟩
  have B5 := nxt B4 hb
  have hA05 := hA04.below hb
  clear hb hA04 B4
  go_wp2_with fail
  refine (rsplit_any A0 _ c0 l0 a1 a2 a3 _ rfl hlen hA05).mono ?_
  rintro e w6 ⟨A6, c6, rfl, -, hA6, -, -, hb⟩
  have B6 := nxt B5 hb
  have hA5' := hA5.below hb
  clear hb hA05 B5 hA5
  go_wp2_with fail
  refine (same_b A5 A6 _ _ c5 c6 _ _ _ rfl rfl (LB _ (length_splitL_le _ _ _ _)) (LB _ (length_splitL_le _ _ _ _)) hA5' hA6).mono ?_
  simp only [decide_true]
  rintro e w7 ⟨rfl, hb⟩
  have B7 := nxt B6 hb
  clear hb hA5' hA6 B6
  go_wp2_with fail
  refine (known12_any _).mono ?_
  rintro e w8 ⟨rfl, hb⟩
  go_wp2
  go_ret
  exact ⟨rfl, nxt B7 hb⟩
end Go.Proofs.Ytmphnccngkkhgaa
