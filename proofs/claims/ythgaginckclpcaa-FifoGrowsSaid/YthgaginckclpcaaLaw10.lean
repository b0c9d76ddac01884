/-
  The walks of chapter 10's statements.
-/
import Derived.Test.YthgaginckclpcaaFifo
namespace Go.Proofs.Ythgaginckclpcaa
open Go.RowKit
set_option linter.unusedVariables false

theorem known10_any (w : World) : Calls Try.prog 12 #[] w fun e w' => e = .returned (.bool true) ∧ Below w.heap.size w w' := by
  go_enter Try.func12, Try.ntmps12
  go_wp2_with fail
  refine (share_any _ _ 3 [5, 5, 5] 7 _ rfl (by decide) (Cells.lit _ #[.int .i64 5, .int .i64 5, .int .i64 5] _)).mono ?_
  rw [show shareB [5, 5, 5] 7 = [5, 2, 0] by decide]
  rintro e w1 ⟨A1, c1, rfl, -, hA1, -, -, hb1⟩
  have B1 := nxt ((Below.refl _ w).alloc (Nat.le_refl _) _) hb1; clear hb1
  go_wp2_with fail
  refine (same_b A1 _ _ _ c1 3 [5, 2, 0] [5, 2, 0] _ rfl rfl (by decide) (by decide) (hA1.alloc _) (Cells.lit w1 #[.int .i64 5, .int .i64 2, .int .i64 0] _)).mono ?_
  rintro e w2 ⟨rfl, hb2⟩
  have B2 := nxt (nxt_alloc B1 _) hb2; clear hb2 hA1 B1
  go_wp2_with fail
  refine (share_any _ _ 1 [5] 6 _ rfl (by decide) (Cells.lit w2 #[.int .i64 5] _)).mono ?_
  rw [show shareB [5] 6 = [] by decide]
  rintro e w3 ⟨A3, c3, rfl, -, -, -, -, hb3⟩
  have B3 := nxt (nxt_alloc B2 _) hb3; clear hb3 B2
  go_wp2_with fail
  refine (right_any none _ 0 [] 0 _ rfl (by decide) (Cells.nil _ _)).mono ?_
  rw [show rightB [] 0 = true by decide]
  rintro e w4 ⟨rfl, rfl⟩
  go_wp2
  go_ret
  exact ⟨rfl, B3⟩

set_option maxHeartbeats 1000000 in
theorem fifoTells_walk (A0 : Option Addr) (c0 : Nat) (l0 : List Int) (a1 a2 : Int) (w : World) (h0 : ArgI .i64 w A0 c0 l0) (_w1 : (Lit.int .i64 a1).wf = true) (_w2 : (Lit.int .i64 a2).wf = true) :
    Calls Try.prog 4 #[.slice A0 l0.length c0, .int .i64 a1, .int .i64 a2] w fun e w' => e = .returned (.bool true) ∧ Below w.heap.size w w' := by
  have hlen : l0.length ≤ 9223372036854775807 := by have := h0.le; have := h0.max; unfold maxLen at this; omega
  have hA0 := h0.cells
  clear h0
  have hs1 := sizesL_length l0
  have hs2 : ∀ n ∈ sizesL l0, 0 ≤ n ∧ n ≤ 1000000 := fun n hn => by have := sizesL_bd l0 n hn; omega
  have hs3 := isum_bd _ hs2
  have hk : rightB (sizesL l0) (within a2 0 (sizesL l0).sum) = true := by
    have := within_bd a2 0 (sizesL l0).sum hs3.1
    simp [rightB, sizesL_ok]; omega
  obtain ⟨s, es⟩ : ∃ s, s = sizesL l0 := ⟨_, rfl⟩
  rw [← es] at hs1 hs2 hs3 hk
  have Es := hide es; clear es
  have Hs2 := hide hs2; clear hs2
  have Hk := hide hk; clear hk
  go_enter Try.func4, Try.ntmps4
  go_wp2_with fail
  refine (sizes10_any A0 _ c0 l0 _ rfl hlen hA0).mono ?_
  rw [← Es.out]
  rintro e w1 ⟨A1, c1, rfl, -, hA1, -, -, B1⟩
  have hA01 := hA0.below B1
  go_wp2_with fail
  refine (sum10_any A1 _ c1 s _ rfl (by omega) Hs2.out hA1).mono ?_
  rintro e w2 ⟨rfl, rfl⟩
  go_wp2_with fail
  refine (within_any a2 0 s.sum _ hs3.1 (by omega) (by omega)).mono ?_
  rintro e w2 ⟨rfl, rfl⟩
  obtain ⟨k, ek⟩ : ∃ k, k = within a2 0 s.sum := ⟨_, rfl⟩
  rw [← ek] at Hk ⊢
  clear ek
  go_wp2_with fail
  refine (share_any A1 _ c1 s k _ rfl (by omega) hA1).mono ?_
  rintro e w2 ⟨A2, c2, rfl, -, hA2, -, -, hb⟩
  have B2 := nxt B1 hb
  have hA12 := hA1.below hb
  clear hb hA01 hA1 B1
  have hsl := shareB_length s k
  go_wp2_with fail
  refine (refShare_any A1 _ c1 s k _ rfl (by omega) hA12).mono ?_
  rintro e w3 ⟨A3, c3, rfl, -, hA3, -, -, hb⟩
  have B3 := nxt B2 hb
  have hA13 := hA12.below hb
  have hA23 := hA2.below hb
  clear hb hA12 hA2 B2
  go_wp2_with fail
  refine (same_b A2 A3 _ _ c2 c3 _ _ _ rfl rfl (by omega) (by omega) hA23 hA3).mono ?_
  simp only [decide_true]
  rintro e w4 ⟨rfl, hb⟩
  have B4 := nxt B3 hb
  have hA14 := hA13.below hb
  have hA04 := hA0.below B4
  clear hb hA13 hA23 hA3 B3
  go_wp2_with fail
  refine (right_any A1 _ c1 s k _ rfl (by omega) hA14).mono ?_
  rw [Hk.out]
  rintro e w5 ⟨rfl, rfl⟩
  go_wp2_with fail
  refine (right_any A0 _ c0 l0 a1 _ rfl hlen hA04).mono ?_
  rintro e w5 ⟨rfl, rfl⟩
  go_wp2_with fail
  refine (refRight_any A0 _ c0 l0 a1 _ rfl hlen hA04).mono ?_
  rintro e w5 ⟨rfl, rfl⟩
  have hsl' := shareB_length l0 a1
  go_wp2_with fail
  refine (share_any A0 _ c0 l0 a1 _ rfl hlen hA04).mono ?_
  rintro e w5 ⟨A5, c5, rfl, -, hA5, -, -, hb⟩
  have B5 := nxt B4 hb
  have hA15 := hA14.below hb
  have hA05 := hA04.below hb
  clear hb hA14 hA04 B4
  go_wp2_with fail
  refine (refShare_any A0 _ c0 l0 a1 _ rfl hlen hA05).mono ?_
  rintro e w6 ⟨A6, c6, rfl, -, hA6, -, -, hb⟩
  have B6 := nxt B5 hb
  have hA16 := hA15.below hb
  have hA56 := hA5.below hb
  clear hb hA15 hA05 hA5 B5
  go_wp2_with fail
  refine (same_b A5 A6 _ _ c5 c6 _ _ _ rfl rfl (by omega) (by omega) hA56 hA6).mono ?_
  simp only [decide_true]
  rintro e w7 ⟨rfl, hb⟩
  have B7 := nxt B6 hb
  have hA17 := hA16.below hb
  have hA07 := hA0.below B7
  clear hb hA16 hA56 hA6 B6
  go_wp2_with fail
  refine (sizes10_any A0 _ c0 l0 _ rfl hlen hA07).mono ?_
  rw [← Es.out]
  rintro e w8 ⟨A8, c8, rfl, -, hA8, -, -, hb⟩
  have B8 := nxt B7 hb
  have hA18 := hA17.below hb
  clear hb hA17 hA07 B7
  go_wp2_with fail
  refine (same_b A1 A8 _ _ c1 c8 _ _ _ rfl rfl (by omega) (by omega) hA18 hA8).mono ?_
  simp only [decide_true]
  rintro e w9 ⟨rfl, hb⟩
  have B9 := nxt B8 hb
  clear hb hA18 hA8 B8
  go_wp2_with fail
  refine (known10_any _).mono ?_
  rintro e w10 ⟨rfl, hb⟩
  have B10 := nxt B9 hb
  go_wp2
  go_ret
  exact ⟨rfl, B10⟩

/-! ### FifoGrows -/
theorem shareL_app (s : List Int) (k y : Int) (h1 : ∀ n ∈ s, 0 ≤ n) (h2 : 0 ≤ k) (h3 : k ≤ s.sum) (hy : 0 ≤ y) : shareL (s ++ [y]) k = shareL s k ++ [0] := by
  rw [(shareL_snoc s y k).1, leftL_none h1 h2 h3]
  congr 2; omega
set_option maxHeartbeats 1600000 in
theorem fifoGrows_walk (A0 : Option Addr) (c0 : Nat) (l0 : List Int) (a1 a2 a3 : Int) (w : World) (h0 : ArgI .i64 w A0 c0 l0) (_w1 : (Lit.int .i64 a1).wf = true) (_w2 : (Lit.int .i64 a2).wf = true) (_w3 : (Lit.int .i64 a3).wf = true) :
    Calls Try.prog 6 #[.slice A0 l0.length c0, .int .i64 a1, .int .i64 a2, .int .i64 a3] w fun e w' => e = .returned (.bool true) ∧ Below w.heap.size w w' := by
  have hlen : l0.length ≤ 9223372036854775807 := by have := h0.le; have := h0.max; unfold maxLen at this; omega
  have hA0 := h0.cells
  clear h0
  have hs1 := sizesL_length l0
  have hs2 : ∀ n ∈ sizesL l0, 1 ≤ n ∧ n ≤ 1000000 := sizesL_bd l0
  obtain ⟨s, es⟩ : ∃ s, s = sizesL l0 := ⟨_, rfl⟩
  rw [← es] at hs1 hs2
  have hs4 : ∀ n ∈ s, 0 ≤ n := fun n hn => by have := hs2 n hn; omega
  have hs5 : ∀ n ∈ s, 0 ≤ n ∧ n ≤ 1000000 := fun n hn => by have := hs2 n hn; omega
  have hs3 := isum_bd _ hs5
  have hk := within_bd a1 0 s.sum hs3.1
  have hm := within_bd a2 0 (s.sum - within a1 0 s.sum) (by omega)
  have hy := within_bd a3 0 99 (by omega)
  obtain ⟨k, ek⟩ : ∃ k, k = within a1 0 s.sum := ⟨_, rfl⟩
  rw [← ek] at hk hm
  obtain ⟨m, em⟩ : ∃ m, m = within a2 0 (s.sum - k) := ⟨_, rfl⟩
  rw [← em] at hm
  obtain ⟨y, ey⟩ : ∃ y, y = within a3 0 99 := ⟨_, rfl⟩
  rw [← ey] at hy
  have r1 : shareB s k = shareL s k := if_pos ((rightB_iff s k).2 ⟨by omega, by omega, hs2, by omega⟩)
  have r2 : shareB s (k + m) = shareL s (k + m) := if_pos ((rightB_iff s (k + m)).2 ⟨by omega, by omega, hs2, by omega⟩)
  have r3 : shareB (s ++ [1 + y]) k = shareL s k ++ [0] := by
    unfold shareB
    rw [if_pos, shareL_app s k (1 + y) hs4 (by omega) (by omega) (by omega)]
    refine (rightB_iff _ _).2 ⟨by simp; omega, by omega, fun n hn => ?_, by simp; omega⟩
    rcases List.mem_append.1 hn with h | h
    · exact hs2 n h
    · simp at h; omega
  have hmono : ∀ (i : Nat) (x z : Int), (shareL s k)[i]? = some x → (shareL s (k + m))[i]? = some z → x ≤ z := fun i x z => shareL_mono (l := s) (q := k) (q' := k + m) (by omega)
  have hl1 := length_shareL s k
  have hl2 := length_shareL s (k + m)
  obtain ⟨al, eas⟩ : ∃ al, al = shareL s k := ⟨_, rfl⟩
  obtain ⟨bl, ebs⟩ : ∃ bl, bl = shareL s (k + m) := ⟨_, rfl⟩
  rw [← eas] at r1 r3 hl1 hmono
  rw [← ebs] at r2 hl2 hmono
  have Es := hide es; clear es
  have Ek := hide ek; clear ek
  have Em := hide em; clear em
  have Ey := hide ey; clear ey
  have Hs := hide hs5; clear hs2 hs4 hs5
  have R1 := hide r1; clear r1
  have R2 := hide r2; clear r2
  have R3 := hide r3; clear r3
  have Hmono := hide hmono; clear hmono
  clear eas ebs
  have L1 := hide hl1; have L2 := hide hl2; clear hl1 hl2
  go_enter Try.func6, Try.ntmps6
  go_wp2_with fail
  refine (sizes10_any A0 _ c0 l0 _ rfl hlen hA0).mono ?_
  rw [← Es.out]
  rintro e w1 ⟨A1, c1, rfl, -, hA1, -, -, B1⟩
  clear hA0
  go_wp2_with fail
  refine (sum10_any A1 _ c1 s _ rfl (by omega) Hs.out hA1).mono ?_
  rintro e w2 ⟨rfl, rfl⟩
  go_wp2_with fail
  refine (within_any a1 0 s.sum _ hs3.1 (by omega) (by omega)).mono ?_
  rw [← Ek.out]
  rintro e w2 ⟨rfl, rfl⟩
  go_wp2_with fail
  refine (sum10_any A1 _ c1 s _ rfl (by omega) Hs.out hA1).mono ?_
  rintro e w2 ⟨rfl, rfl⟩
  go_wp2_with fail
  refine (within_any a2 0 (s.sum - k) _ (by omega) (by omega) (by omega)).mono ?_
  rw [← Em.out]
  rintro e w2 ⟨rfl, rfl⟩
  go_wp2_with fail
  refine (share_any A1 _ c1 s k _ rfl (by omega) hA1).mono ?_
  rw [R1.out]
  intro e w2 h; obtain ⟨A2, c2, rfl, -, hA2, -, -, hb⟩ := h.n L1.out; clear h
  have B2 := nxt B1 hb
  have hA12 := hA1.below hb
  clear hb hA1 B1
  go_wp2_with fail
  refine (share_any A1 _ c1 s (k + m) _ rfl (by omega) hA12).mono ?_
  rw [R2.out]
  intro e w3 h; obtain ⟨A3, c3, rfl, -, hA3, -, -, hb⟩ := h.n L2.out; clear h
  have B3 := nxt B2 hb
  have hA13 := hA12.below hb
  have hA23 := hA2.below hb
  clear hb hA12 hA2 B2
  have hlb := B3.size
  go_wp2_with (first
    | (at_builtin; refine wpList_app elI64 (World.ownsRow_lit (base := w3.heap.size) w3 #[] 0 (Nat.le_refl _) (Nat.zero_le _) rfl) (news := s.map (Value.int .i64)) rfl _ _ rfl rfl rfl (by simp) (hA13.alloc _) (ints_oneCell _ _) (by omega) (by simp) s.length (s.map (Value.int .i64)) (by omega) (by simp) ?_; intro A4 c4 w4 p4)
    | (go_at_call 14; refine (within_any a3 0 99 _ (by omega) (by omega) (by omega)).mono ?_; rw [← Ey.out]; rintro e w' ⟨rfl, rfl⟩)
    | (at_builtin; refine wpList_push elI64 p4.own (.int .i64 (1 + y)) rfl _ _ rfl rfl rfl rfl (by omega) (by have := p4.grown.size; simp at this; omega) ?_; intro A5 c5 w5 own5 g5 b5))
  have q5 := b5 w3.heap.size w3 (Nat.le_refl _) (p4.below w3.heap.size w3 (Nat.le_refl _) ((Below.refl _ _).alloc (Nat.le_refl _) _))
  have B5 := nxt B3 q5
  have hA25 := hA23.below q5
  have hA35 := hA3.below q5
  have hA5 := Cells.of_own own5
  clear q5 b5 g5 p4 hA23 hA3 hA13 B3
  have e5 : s.map (Value.int .i64) ++ [.int .i64 (1 + y)] = i64s (s ++ [1 + y]) := by simp [i64s]
  rw [e5] at hA5
  clear e5 own5
  refine (share_any A5 _ c5 (s ++ [1 + y]) k _ (by simp) (by simp; omega) hA5).mono ?_
  rw [R3.out]
  intro e w6 h; obtain ⟨A6, c6, rfl, -, hA6, -, -, hb⟩ := h.n (n := s.length + 1) (by simp [L1.out]); clear h
  have B6 := nxt B5 hb
  have hA26 := hA25.below hb
  have hA36 := hA35.below hb
  clear hb hA25 hA35 B5 hA5
  obtain ⟨b6, o6, x6, rfl, hb6, hc6, hx6⟩ := hA6.int_at (l := al ++ [0]) (k := s.length) (by simp [L1.out])
  obtain rfl : x6 = 0 := by have := hx6.out; rw [← L1.out] at this; simpa using this.symm
  clear hx6
  go_wp2_with fail
  go_loopw [15] (fun i wr => ∃ k n : Nat, k ≤ s.length ∧ i = .int .i64 k ∧ wr = w6.drewN n) (fun i _ => s.length - (intOf i).toNat)
  case atStart => exact ⟨0, 0, Nat.zero_le _, rfl, rfl⟩
  case round =>
    obtain ⟨j, nq, hj, rfl, rfl⟩ := hrel
    by_cases hlt : j < s.length
    · obtain ⟨b2, o2, x, rfl, hb2, hc2, hx⟩ := hA26.int_at (k := j) (by rw [L1.out]; exact hlt)
      obtain ⟨b3, o3, z, rfl, hb3, hc3, hz⟩ := hA36.int_at (k := j) (by rw [L2.out]; exact hlt)
      obtain ⟨b4, o4, u, e4, hb4, hc4, hu⟩ := hA6.int_at (l := al ++ [0]) (k := j) (by simp [L1.out]; omega)
      simp only [Option.some.injEq, Addr.mk.injEq, and_true] at e4
      obtain ⟨rfl, rfl⟩ := e4
      have hxz := Hmono.out j x z hx.out hz.out
      obtain rfl : u = x := by
        have h1 := hu.out
        rw [List.getElem?_append_left (by rw [L1.out]; exact hlt), hx.out] at h1
        injection h1 with h1; exact h1.symm
      have i1 : (j : Int) < s.length := by omega
      have i2 : (j : Int) < s.length + 1 := by omega
      have d1 : decide (z < u) = false := by simp; omega
      have d2 : (u != u) = false := by simp
      clear hA26 hA36 hA6
      go_wp2
      go_quiet (fail)
      go_wp2
      go_roundw
      case rel => exact ⟨j + 1, _, by omega, by go_num, by first | rfl | exact World.drewN_drewN _ _ _⟩
      case measure => simp [intOf]; omega
    · go_wp2_with fail
      refine (known10_any _).mono ?_
      rintro e w10 ⟨rfl, hb⟩
      have B10 := nxt (below_drewN B6 _) hb
      go_wp2
      go_ret
      exact ⟨rfl, B10⟩
end Go.Proofs.Ythgaginckclpcaa
