/-
  The walks of chapter 10's statements.
-/
import Derived.Test.YthgaginckclpcaaFifo
namespace Go.Proofs.Ythgaginckclpcaa
open Go.RowKit
set_option linter.unusedVariables false

theorem known10_any (w : World) : Calls Try.prog 12 #[] w fun e w' => e = .returned (.bool true) ∧ Below w.heap.size w w' := by
  go_enter Try.func12, Try.ntmps12
  go_wp2_with fail
  refine (share_any _ 3 [5, 5, 5] 7 _ (by decide) (Cells.lit _ #[.int .i64 5, .int .i64 5, .int .i64 5] _)).mono ?_
  rw [show shareB [5, 5, 5] 7 = [5, 2, 0] by decide]
  rintro e w1 ⟨A1, c1, rfl, -, hA1, -, -, hb1⟩
  have B1 := nxt ((Below.refl _ w).alloc (Nat.le_refl _) _) hb1; clear hb1
  go_wp2_with fail
  refine (same_b A1 _ c1 3 [5, 2, 0] [5, 2, 0] _ (by decide) (by decide) (hA1.alloc _) (Cells.lit w1 #[.int .i64 5, .int .i64 2, .int .i64 0] _)).mono ?_
  rintro e w2 ⟨rfl, hb2⟩
  have B2 := nxt (nxt_alloc B1 _) hb2; clear hb2 hA1 B1
  go_wp2_with fail
  refine (share_any _ 1 [5] 6 _ (by decide) (Cells.lit w2 #[.int .i64 5] _)).mono ?_
  rw [show shareB [5] 6 = [] by decide]
  rintro e w3 ⟨A3, c3, rfl, -, -, -, -, hb3⟩
  have B3 := nxt (nxt_alloc B2 _) hb3; clear hb3 B2
  go_wp2_with fail
  refine (right_any none 0 [] 0 _ (by decide) (Cells.nil _ _)).mono ?_
  rw [show rightB [] 0 = true by decide]
  rintro e w4 ⟨rfl, rfl⟩
  go_wp2
  go_ret
  exact ⟨rfl, B3⟩

set_option maxHeartbeats 1000000 in
theorem fifoTells_walk (A0 : Option Addr) (c0 : Nat) (l0 : List Int) (a1 a2 : Int) (w : World) (h0 : ArgI .i64 w A0 c0 l0) (_w1 : (Lit.int .i64 a1).wf = true) (_w2 : (Lit.int .i64 a2).wf = true) :
    Calls Try.prog 4 #[.slice A0 l0.length c0, .int .i64 a1, .int .i64 a2] w fun e w' => e = .returned (.bool true) ∧ Below w.heap.size w w' := by
  have hlen : l0.length ≤ 9223372036854775807 := by have := h0.le; have := h0.max; unfold maxLen at this; omega
  have hA0 := h0.cells
  clear h0
  have hs1 := sizesL_length l0
  have hs2 : ∀ n ∈ sizesL l0, 0 ≤ n ∧ n ≤ 1000000 := fun n hn => by have := sizesL_bd l0 n hn; omega
  have hs3 := isum_bd _ hs2
  have hk : rightB (sizesL l0) (within a2 0 (sizesL l0).sum) = true := by
    have := within_bd a2 0 (sizesL l0).sum hs3.1
    simp [rightB, sizesL_ok]; omega
  obtain ⟨s, es⟩ : ∃ s, s = sizesL l0 := ⟨_, rfl⟩
  rw [← es] at hs1 hs2 hs3 hk
  have Es := hide es; clear es
  have Hs2 := hide hs2; clear hs2
  have Hk := hide hk; clear hk
  go_enter Try.func4, Try.ntmps4
  go_wp2_with fail
  refine (sizes10_any A0 c0 l0 _ hlen hA0).mono ?_
  rw [← Es.out]
  rintro e w1 ⟨A1, c1, rfl, -, hA1, -, -, B1⟩
  have hA01 := hA0.below B1
  go_wp2_with fail
  refine (sum10_any A1 c1 s _ (by omega) Hs2.out hA1).mono ?_
  rintro e w2 ⟨rfl, rfl⟩
  go_wp2_with fail
  refine (within_any a2 0 s.sum _ hs3.1 (by omega) (by omega)).mono ?_
  rintro e w2 ⟨rfl, rfl⟩
  obtain ⟨k, ek⟩ : ∃ k, k = within a2 0 s.sum := ⟨_, rfl⟩
  rw [← ek] at Hk ⊢
  clear ek
  go_wp2_with fail
  refine (share_any A1 c1 s k _ (by omega) hA1).mono ?_
  rintro e w2 ⟨A2, c2, rfl, -, hA2, -, -, hb⟩
  have B2 := nxt B1 hb
  have hA12 := hA1.below hb
  clear hb hA01 hA1 B1
  have hsl := shareB_length s k
  go_wp2_with fail
  refine (refShare_any A1 c1 s k _ (by omega) hA12).mono ?_
  rintro e w3 ⟨A3, c3, rfl, -, hA3, -, -, hb⟩
  have B3 := nxt B2 hb
  have hA13 := hA12.below hb
  have hA23 := hA2.below hb
  clear hb hA12 hA2 B2
  go_wp2_with fail
  refine (same_b A2 A3 c2 c3 _ _ _ (by omega) (by omega) hA23 hA3).mono ?_
  simp only [decide_true]
  rintro e w4 ⟨rfl, hb⟩
  have B4 := nxt B3 hb
  have hA14 := hA13.below hb
  have hA04 := hA0.below B4
  clear hb hA13 hA23 hA3 B3
  go_wp2_with fail
  refine (right_any A1 c1 s k _ (by omega) hA14).mono ?_
  rw [Hk.out]
  rintro e w5 ⟨rfl, rfl⟩
  go_wp2_with fail
  refine (right_any A0 c0 l0 a1 _ hlen hA04).mono ?_
  rintro e w5 ⟨rfl, rfl⟩
  go_wp2_with fail
  refine (refRight_any A0 c0 l0 a1 _ hlen hA04).mono ?_
  rintro e w5 ⟨rfl, rfl⟩
  have hsl' := shareB_length l0 a1
  go_wp2_with fail
  refine (share_any A0 c0 l0 a1 _ hlen hA04).mono ?_
  rintro e w5 ⟨A5, c5, rfl, -, hA5, -, -, hb⟩
  have B5 := nxt B4 hb
  have hA15 := hA14.below hb
  have hA05 := hA04.below hb
  clear hb hA14 hA04 B4
  go_wp2_with fail
  refine (refShare_any A0 c0 l0 a1 _ hlen hA05).mono ?_
  rintro e w6 ⟨A6, c6, rfl, -, hA6, -, -, hb⟩
  have B6 := nxt B5 hb
  have hA16 := hA15.below hb
  have hA56 := hA5.below hb
  clear hb hA15 hA05 hA5 B5
  go_wp2_with fail
  refine (same_b A5 A6 c5 c6 _ _ _ (by omega) (by omega) hA56 hA6).mono ?_
  simp only [decide_true]
  rintro e w7 ⟨rfl, hb⟩
  have B7 := nxt B6 hb
  have hA17 := hA16.below hb
  have hA07 := hA0.below B7
  clear hb hA16 hA56 hA6 B6
  go_wp2_with fail
  refine (sizes10_any A0 c0 l0 _ hlen hA07).mono ?_
  rw [← Es.out]
  rintro e w8 ⟨A8, c8, rfl, -, hA8, -, -, hb⟩
  have B8 := nxt B7 hb
  have hA18 := hA17.below hb
  clear hb hA17 hA07 B7
  go_wp2_with fail
  refine (same_b A1 A8 c1 c8 _ _ _ (by omega) (by omega) hA18 hA8).mono ?_
  simp only [decide_true]
  rintro e w9 ⟨rfl, hb⟩
  have B9 := nxt B8 hb
  clear hb hA18 hA8 B8
  go_wp2_with fail
  refine (known10_any _).mono ?_
  rintro e w10 ⟨rfl, hb⟩
  have B10 := nxt B9 hb
  go_wp2
  go_ret
  exact ⟨rfl, B10⟩
end Go.Proofs.Ythgaginckclpcaa
