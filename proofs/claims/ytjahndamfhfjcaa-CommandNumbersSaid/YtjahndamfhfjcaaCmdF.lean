/-
  cornhillref6.Encode. (Printed by tools/gen6f.py.)
-/
import Derived.Test.YtjahndamfhfjcaaCmdE
namespace Go.Proofs.Ytjahndamfhfjcaa
open Go.RowKit
set_option linter.unusedVariables false

set_option maxRecDepth 100000 in
set_option maxHeartbeats 1600000 in
theorem refEncode_any (c : Cmd) (hl : c.lab.length ≤ 9223372036854775807) (w : World) : Calls Try.prog 23 #[c.val] w (FreshB2 w (encO c) (rightC c : Nat)) := by
  obtain ⟨O, eO⟩ : ∃ O, O = rightC c := ⟨_, rfl⟩
  have hEO : encO c = if O = 0 then encC c else [] := by rw [eO]; rfl
  rw [← eO]
  obtain ⟨X, eX⟩ : ∃ X, X = encO c := ⟨_, rfl⟩
  rw [← eX]
  have HX := hide (eX.trans hEO)
  clear hEO eX
  have hR := fun w => refRight_any c hl w
  rw [← eO] at hR
  obtain ⟨k, i, n, s, p, q, l, t, lb⟩ := c
  simp only at hl
  obtain ⟨w0, ew0⟩ : ∃ w0, w0 = w.alloc (.cells (Cmd.cells ⟨k, i, n, s, p, q, l, t, lb⟩) 23) := ⟨_, rfl⟩
  obtain ⟨g, eg⟩ : ∃ g, g = w.heap.size := ⟨_, rfl⟩
  have hC : CAt w0 g ⟨k, i, n, s, p, q, l, t, lb⟩ := by rw [ew0, eg]; exact CAt.new _ _
  have B0 : Below w.heap.size w w0 := by rw [ew0]; exact nxt_alloc (Below.refl _ _) _
  clear eO
  change ∀ w, Calls Try.prog _ #[.agg #[.int .i64 k, .int .i64 i, .int .i64 n, .int .i64 s, .int .i64 p, .int .i64 q, .int .i64 l, .int .i64 t, .string (str lb)]] w _ at hR
  have HR := hide hR
  clear hR
  show Calls Try.prog 23 #[.agg #[.int .i64 k, .int .i64 i, .int .i64 n, .int .i64 s, .int .i64 p, .int .i64 q, .int .i64 l, .int .i64 t, .string (str lb)]] w _
  change w0 = w.alloc (.cells #[.int .i64 k, .int .i64 i, .int .i64 n, .int .i64 s, .int .i64 p, .int .i64 q, .int .i64 l, .int .i64 t, .string (str lb)] 23) at ew0
  go_enter Try.func23, Try.ntmps23
  go_upto_region 1 with (fail)
  rw [← ew0, ← eg]
  clear ew0 eg
  obtain ⟨f0, f1, f2, f3, f4, f5, f6, f7, f8⟩ := hC.reads
  have hg := hC.lt
  go_wp2_with fail
  refine (HR.out _).mono ?_
  rintro e w1 ⟨rfl, b1⟩
  have hC1 := hC.below b1
  have BB := nxt B0 b1
  have hg1 : g < w1.heap.size := hC1.lt
  have HC := hide hC1
  clear f0 f1 f2 f3 f4 f5 f6 f7 f8 hC B0 b1 hg hC1
  by_cases hO : O = 0
  rotate_left
  · have d0 : ((O : Int) != 0) = true := by simp; omega
    replace HX := hide (HX.out.trans (if_neg hO))
    clear hO
    go_wp2_with fail
    go_ret2
    rw [HX.out]
    exact FreshB2.none _ _ _ BB
  · subst hO
    replace HX := hide (HX.out.trans (if_pos rfl))
    obtain ⟨wc0, ewc⟩ : ∃ wc0, wc0 = w1 := ⟨_, rfl⟩
    rw [← ewc] at BB ⊢
    have bb0 : Below (g + 1) w1 wc0 := by rw [ewc]; exact Below.refl _ _
    have hgc0 : g < wc0.heap.size := by rw [ewc]; exact hg1
    have BB0 := BB
    clear ewc BB
    have x0 := (bb0.cell (p := ⟨g, 0, none⟩) (Nat.lt_succ_self g)).trans (HC.out.cell 0)
    change wc0.cell? ⟨g, 0, none⟩ = some (.int .i64 k) at x0
    replace x0 : ∀ u, Stays wc0.drew u → u.cell? ⟨g, 0, none⟩ = some (.int .i64 k) := fun u hu => (hu.cell (p := ⟨g, 0, none⟩) hgc0).trans x0
    have x1 := (bb0.cell (p := ⟨g, 1, none⟩) (Nat.lt_succ_self g)).trans (HC.out.cell 1)
    change wc0.cell? ⟨g, 1, none⟩ = some (.int .i64 i) at x1
    replace x1 : ∀ u, Stays wc0.drew u → u.cell? ⟨g, 1, none⟩ = some (.int .i64 i) := fun u hu => (hu.cell (p := ⟨g, 1, none⟩) hgc0).trans x1
    go_wp2_with fail
    refine wp_region_grow (R := Stays) 99999 [2, 5] [0, 1, 3, 4, 2, 5, 6] (by kernel_rfl) Stays.tr Stays.rf (by kernel_rfl) (fun _ _ _ _ _ h => h) ?_
    (repeat ((first | (refine grow_skip (by rfl) (by rfl) ?_ (by first | exact Stays.rf _ | exact Lower.rf _ _ | exact Holds.rf _ _)) | (refine grow_take (v := ?_) (by rfl) (by rfl) (by rfl) ?_ ?_; rotate_left 1; focus (intro w' hSw; go_simp; (try (with_reducible rfl)); done))); (try simp only [Act.put, List.setIfInBounds_toArray, List.set_cons_zero, List.set_cons_succ])))
    clear x0 x1
    refine grow_move (by rfl) (by rfl) (by rfl) (fun K hK => ?_); go_simp
    refine (refByte_any none _ 0 [] k _ rfl (by simp) (Cells.nil _ _)).mono ?_
    have hN2 : ([] ++ le 1 (u64N k)).length = 1 := by rw [List.length_append, List.length_nil, length_le]
    obtain ⟨L1, eL2⟩ : ∃ L1, L1 = [] ++ le 1 (u64N k) := ⟨_, rfl⟩
    rw [← eL2] at hN2 ⊢
    have EL1 := hide eL2
    have HN1 := hide hN2
    intro e wc1 h2
    obtain ⟨A1, cc1, rfl, ownT, hA1, k1, k2, b2⟩ := h2.n HN1.out
    refine hK.out _ _ (b2) ?_; clear hK K; (try simp only [Act.put, List.setIfInBounds_toArray, List.set_cons_zero, List.set_cons_succ])
    have BB1 := nxt (nxt_drew BB0) b2
    have bb1 : Below (g + 1) w1 wc1 := bb0.drew.trans (b2.mono hgc0)
    have hgc1 : g < wc1.heap.size := Nat.lt_of_lt_of_le hgc0 b2.size
    clear eL2 hN2 h2 BB0 bb0 b2 hgc0 ownT k1 k2
    refine grow_move (by rfl) (by rfl) (by rfl) (fun K hK => ?_); go_simp
    refine (refLong_any A1 _ cc1 L1 i _ HN1.out (by omega) hA1).mono ?_
    have hN2 : (L1 ++ le 8 (u64N i)).length = 9 := by rw [List.length_append, HN1.out, length_le]
    obtain ⟨L2, eL2⟩ : ∃ L2, L2 = L1 ++ le 8 (u64N i) := ⟨_, rfl⟩
    rw [← eL2] at hN2 ⊢
    have EL2 := hide (eL2.trans (congrArg (· ++ le 8 (u64N i)) EL1.out))
    have HN2 := hide hN2
    intro e wc2 h2
    obtain ⟨A2, cc2, rfl, ownT, hA2, k1, k2, b2⟩ := h2.n HN2.out
    have own2 := hide (own_base ownT BB1.size)
    have KK2 := hide (And.intro k1 k2)
    refine hK.out _ _ (b2) ?_; clear hK K; (try simp only [Act.put, List.setIfInBounds_toArray, List.set_cons_zero, List.set_cons_succ])
    have BB2 := nxt BB1 b2
    have bb2 : Below (g + 1) w1 wc2 := bb1.trans (b2.mono hgc1)
    have hgc2 : g < wc2.heap.size := Nat.lt_of_lt_of_le hgc1 b2.size
    clear eL2 hN2 h2 hA1 HN1 EL1 BB1 bb1 b2 hgc1 ownT k1 k2
    (repeat ((first | (refine grow_skip (by rfl) (by rfl) ?_ (by first | exact Stays.rf _ | exact Lower.rf _ _ | exact Holds.rf _ _)) | (refine grow_take (v := ?_) (by rfl) (by rfl) (by rfl) ?_ ?_; rotate_left 1; focus (intro w' hSw; go_simp; (try (with_reducible rfl)); done))); (try simp only [Act.put, List.setIfInBounds_toArray, List.set_cons_zero, List.set_cons_succ])))
    refine grow_done ?_
    have z0 := (bb2.cell (p := ⟨g, 0, none⟩) (Nat.lt_succ_self g)).trans (HC.out.cell 0)
    change wc2.cell? ⟨g, 0, none⟩ = some (.int .i64 k) at z0
    by_cases h1 : k = 1
    · have d1 : (k == 1) = true := by simpa using h1
      have HK := hide h1
      clear h1 own2 KK2
      have x2 := (bb2.cell (p := ⟨g, 2, none⟩) (Nat.lt_succ_self g)).trans (HC.out.cell 2)
      change wc2.cell? ⟨g, 2, none⟩ = some (.int .i64 n) at x2
      replace x2 : ∀ u, Stays wc2.drew u → u.cell? ⟨g, 2, none⟩ = some (.int .i64 n) := fun u hu => (hu.cell (p := ⟨g, 2, none⟩) hgc2).trans x2
      have x3 := (bb2.cell (p := ⟨g, 3, none⟩) (Nat.lt_succ_self g)).trans (HC.out.cell 3)
      change wc2.cell? ⟨g, 3, none⟩ = some (.int .i64 s) at x3
      replace x3 : ∀ u, Stays wc2.drew u → u.cell? ⟨g, 3, none⟩ = some (.int .i64 s) := fun u hu => (hu.cell (p := ⟨g, 3, none⟩) hgc2).trans x3
      have x7 := (bb2.cell (p := ⟨g, 7, none⟩) (Nat.lt_succ_self g)).trans (HC.out.cell 7)
      change wc2.cell? ⟨g, 7, none⟩ = some (.int .i64 t) at x7
      replace x7 : ∀ u, Stays wc2.drew u → u.cell? ⟨g, 7, none⟩ = some (.int .i64 t) := fun u hu => (hu.cell (p := ⟨g, 7, none⟩) hgc2).trans x7
      go_wp2_with fail
      refine wp_region_grow (R := Stays) 99999 [3, 6, 9] [0, 1, 2, 4, 5, 7, 8, 3, 6, 9, 10] (by kernel_rfl) Stays.tr Stays.rf (by kernel_rfl) (fun _ _ _ _ _ h => h) ?_
      (repeat ((first | (refine grow_skip (by rfl) (by rfl) ?_ (by first | exact Stays.rf _ | exact Lower.rf _ _ | exact Holds.rf _ _)) | (refine grow_take (v := ?_) (by rfl) (by rfl) (by rfl) ?_ ?_; rotate_left 1; focus (intro w' hSw; go_simp; (try (with_reducible rfl)); done))); (try simp only [Act.put, List.setIfInBounds_toArray, List.set_cons_zero, List.set_cons_succ])))
      clear x2 x3 x7
      refine grow_move (by rfl) (by rfl) (by rfl) (fun K hK => ?_); go_simp
      refine (refByte_any A2 _ cc2 L2 n _ HN2.out (by omega) hA2.drew).mono ?_
      have hN2 : (L2 ++ le 1 (u64N n)).length = 10 := by rw [List.length_append, HN2.out, length_le]
      obtain ⟨L3, eL2⟩ : ∃ L3, L3 = L2 ++ le 1 (u64N n) := ⟨_, rfl⟩
      rw [← eL2] at hN2 ⊢
      have EL3 := hide (eL2.trans (congrArg (· ++ le 1 (u64N n)) EL2.out))
      have HN3 := hide hN2
      intro e wc3 h2
      obtain ⟨A3, cc3, rfl, ownT, hA3, k1, k2, b2⟩ := h2.n HN3.out
      refine hK.out _ _ (b2) ?_; clear hK K; (try simp only [Act.put, List.setIfInBounds_toArray, List.set_cons_zero, List.set_cons_succ])
      have BB3 := nxt (nxt_drew BB2) b2
      have bb3 : Below (g + 1) w1 wc3 := bb2.drew.trans (b2.mono hgc2)
      have hgc3 : g < wc3.heap.size := Nat.lt_of_lt_of_le hgc2 b2.size
      clear eL2 hN2 h2 hA2 HN2 EL2 BB2 bb2 b2 hgc2 ownT k1 k2
      refine grow_move (by rfl) (by rfl) (by rfl) (fun K hK => ?_); go_simp
      refine (refByte_any A3 _ cc3 L3 s _ HN3.out (by omega) hA3).mono ?_
      have hN2 : (L3 ++ le 1 (u64N s)).length = 11 := by rw [List.length_append, HN3.out, length_le]
      obtain ⟨L4, eL2⟩ : ∃ L4, L4 = L3 ++ le 1 (u64N s) := ⟨_, rfl⟩
      rw [← eL2] at hN2 ⊢
      have EL4 := hide (eL2.trans (congrArg (· ++ le 1 (u64N s)) EL3.out))
      have HN4 := hide hN2
      intro e wc4 h2
      obtain ⟨A4, cc4, rfl, ownT, hA4, k1, k2, b2⟩ := h2.n HN4.out
      refine hK.out _ _ (b2) ?_; clear hK K; (try simp only [Act.put, List.setIfInBounds_toArray, List.set_cons_zero, List.set_cons_succ])
      have BB4 := nxt BB3 b2
      have bb4 : Below (g + 1) w1 wc4 := bb3.trans (b2.mono hgc3)
      have hgc4 : g < wc4.heap.size := Nat.lt_of_lt_of_le hgc3 b2.size
      clear eL2 hN2 h2 hA3 HN3 EL3 BB3 bb3 b2 hgc3 ownT k1 k2
      refine grow_move (by rfl) (by rfl) (by rfl) (fun K hK => ?_); go_simp
      refine (refByte_any A4 _ cc4 L4 t _ HN4.out (by omega) hA4).mono ?_
      have hN2 : (L4 ++ le 1 (u64N t)).length = 12 := by rw [List.length_append, HN4.out, length_le]
      obtain ⟨L5, eL2⟩ : ∃ L5, L5 = L4 ++ le 1 (u64N t) := ⟨_, rfl⟩
      rw [← eL2] at hN2 ⊢
      have EL5 := hide (eL2.trans (congrArg (· ++ le 1 (u64N t)) EL4.out))
      have HN5 := hide hN2
      intro e wc5 h2
      obtain ⟨A5, cc5, rfl, ownT, hA5, k1, k2, b2⟩ := h2.n HN5.out
      refine hK.out _ _ (b2) ?_; clear hK K; (try simp only [Act.put, List.setIfInBounds_toArray, List.set_cons_zero, List.set_cons_succ])
      have BB5 := nxt BB4 b2
      have bb5 : Below (g + 1) w1 wc5 := bb4.trans (b2.mono hgc4)
      have hgc5 : g < wc5.heap.size := Nat.lt_of_lt_of_le hgc4 b2.size
      clear eL2 hN2 h2 hA4 HN4 EL4 BB4 bb4 b2 hgc4 ownT k1 k2
      (repeat ((first | (refine grow_skip (by rfl) (by rfl) ?_ (by first | exact Stays.rf _ | exact Lower.rf _ _ | exact Holds.rf _ _)) | (refine grow_take (v := ?_) (by rfl) (by rfl) (by rfl) ?_ ?_; rotate_left 1; focus (intro w' hSw; go_simp; (try (with_reducible rfl)); done))); (try simp only [Act.put, List.setIfInBounds_toArray, List.set_cons_zero, List.set_cons_succ])))
      refine grow_done ?_
      clear z0
      have x4 := (bb5.cell (p := ⟨g, 4, none⟩) (Nat.lt_succ_self g)).trans (HC.out.cell 4)
      change wc5.cell? ⟨g, 4, none⟩ = some (.int .i64 p) at x4
      replace x4 : ∀ u, Stays wc5.drew u → u.cell? ⟨g, 4, none⟩ = some (.int .i64 p) := fun u hu => (hu.cell (p := ⟨g, 4, none⟩) hgc5).trans x4
      have x5 := (bb5.cell (p := ⟨g, 5, none⟩) (Nat.lt_succ_self g)).trans (HC.out.cell 5)
      change wc5.cell? ⟨g, 5, none⟩ = some (.int .i64 q) at x5
      replace x5 : ∀ u, Stays wc5.drew u → u.cell? ⟨g, 5, none⟩ = some (.int .i64 q) := fun u hu => (hu.cell (p := ⟨g, 5, none⟩) hgc5).trans x5
      have x6 := (bb5.cell (p := ⟨g, 6, none⟩) (Nat.lt_succ_self g)).trans (HC.out.cell 6)
      change wc5.cell? ⟨g, 6, none⟩ = some (.int .i64 l) at x6
      replace x6 : ∀ u, Stays wc5.drew u → u.cell? ⟨g, 6, none⟩ = some (.int .i64 l) := fun u hu => (hu.cell (p := ⟨g, 6, none⟩) hgc5).trans x6
      go_wp2_with fail
      refine wp_region_grow (R := Stays) 99999 [3, 6, 9] [0, 1, 2, 4, 5, 7, 8, 3, 6, 9, 10] (by kernel_rfl) Stays.tr Stays.rf (by kernel_rfl) (fun _ _ _ _ _ h => h) ?_
      (repeat ((first | (refine grow_skip (by rfl) (by rfl) ?_ (by first | exact Stays.rf _ | exact Lower.rf _ _ | exact Holds.rf _ _)) | (refine grow_take (v := ?_) (by rfl) (by rfl) (by rfl) ?_ ?_; rotate_left 1; focus (intro w' hSw; go_simp; (try (with_reducible rfl)); done))); (try simp only [Act.put, List.setIfInBounds_toArray, List.set_cons_zero, List.set_cons_succ])))
      clear x4 x5 x6
      refine grow_move (by rfl) (by rfl) (by rfl) (fun K hK => ?_); go_simp
      refine (refLong_any A5 _ cc5 L5 p _ HN5.out (by omega) hA5.drew).mono ?_
      have hN2 : (L5 ++ le 8 (u64N p)).length = 20 := by rw [List.length_append, HN5.out, length_le]
      obtain ⟨L6, eL2⟩ : ∃ L6, L6 = L5 ++ le 8 (u64N p) := ⟨_, rfl⟩
      rw [← eL2] at hN2 ⊢
      have EL6 := hide (eL2.trans (congrArg (· ++ le 8 (u64N p)) EL5.out))
      have HN6 := hide hN2
      intro e wc6 h2
      obtain ⟨A6, cc6, rfl, ownT, hA6, k1, k2, b2⟩ := h2.n HN6.out
      refine hK.out _ _ (b2) ?_; clear hK K; (try simp only [Act.put, List.setIfInBounds_toArray, List.set_cons_zero, List.set_cons_succ])
      have BB6 := nxt (nxt_drew BB5) b2
      have bb6 : Below (g + 1) w1 wc6 := bb5.drew.trans (b2.mono hgc5)
      have hgc6 : g < wc6.heap.size := Nat.lt_of_lt_of_le hgc5 b2.size
      clear eL2 hN2 h2 hA5 HN5 EL5 BB5 bb5 b2 hgc5 ownT k1 k2
      refine grow_move (by rfl) (by rfl) (by rfl) (fun K hK => ?_); go_simp
      refine (refLong_any A6 _ cc6 L6 q _ HN6.out (by omega) hA6).mono ?_
      have hN2 : (L6 ++ le 8 (u64N q)).length = 28 := by rw [List.length_append, HN6.out, length_le]
      obtain ⟨L7, eL2⟩ : ∃ L7, L7 = L6 ++ le 8 (u64N q) := ⟨_, rfl⟩
      rw [← eL2] at hN2 ⊢
      have EL7 := hide (eL2.trans (congrArg (· ++ le 8 (u64N q)) EL6.out))
      have HN7 := hide hN2
      intro e wc7 h2
      obtain ⟨A7, cc7, rfl, ownT, hA7, k1, k2, b2⟩ := h2.n HN7.out
      refine hK.out _ _ (b2) ?_; clear hK K; (try simp only [Act.put, List.setIfInBounds_toArray, List.set_cons_zero, List.set_cons_succ])
      have BB7 := nxt BB6 b2
      have bb7 : Below (g + 1) w1 wc7 := bb6.trans (b2.mono hgc6)
      have hgc7 : g < wc7.heap.size := Nat.lt_of_lt_of_le hgc6 b2.size
      clear eL2 hN2 h2 hA6 HN6 EL6 BB6 bb6 b2 hgc6 ownT k1 k2
      refine grow_move (by rfl) (by rfl) (by rfl) (fun K hK => ?_); go_simp
      refine (refLong_any A7 _ cc7 L7 l _ HN7.out (by omega) hA7).mono ?_
      have hN2 : (L7 ++ le 8 (u64N l)).length = 36 := by rw [List.length_append, HN7.out, length_le]
      obtain ⟨L8, eL2⟩ : ∃ L8, L8 = L7 ++ le 8 (u64N l) := ⟨_, rfl⟩
      rw [← eL2] at hN2 ⊢
      have EL8 := hide (eL2.trans (congrArg (· ++ le 8 (u64N l)) EL7.out))
      have HN8 := hide hN2
      intro e wc8 h2
      obtain ⟨A8, cc8, rfl, ownT, hA8, k1, k2, b2⟩ := h2.n HN8.out
      refine hK.out _ _ (b2) ?_; clear hK K; (try simp only [Act.put, List.setIfInBounds_toArray, List.set_cons_zero, List.set_cons_succ])
      have BB8 := nxt BB7 b2
      have bb8 : Below (g + 1) w1 wc8 := bb7.trans (b2.mono hgc7)
      have hgc8 : g < wc8.heap.size := Nat.lt_of_lt_of_le hgc7 b2.size
      clear eL2 hN2 h2 hA7 HN7 EL7 BB7 bb7 b2 hgc7 ownT k1 k2
      (repeat ((first | (refine grow_skip (by rfl) (by rfl) ?_ (by first | exact Stays.rf _ | exact Lower.rf _ _ | exact Holds.rf _ _)) | (refine grow_take (v := ?_) (by rfl) (by rfl) (by rfl) ?_ ?_; rotate_left 1; focus (intro w' hSw; go_simp; (try (with_reducible rfl)); done))); (try simp only [Act.put, List.setIfInBounds_toArray, List.set_cons_zero, List.set_cons_succ])))
      refine grow_done ?_
      have x8 := (bb8.cell (p := ⟨g, 8, none⟩) (Nat.lt_succ_self g)).trans (HC.out.cell 8)
      change wc8.cell? ⟨g, 8, none⟩ = some (.string (str lb)) at x8
      go_wp2_with fail
      refine (refText_any A8 _ cc8 L8 (str lb) _ HN8.out (by omega) (by rw [str_size]; omega) hA8).mono ?_
      rw [show (str lb).data.toList = lb by simp [str]]
      obtain ⟨M, eM⟩ : ∃ M, (textL lb).length = M := ⟨_, rfl⟩
      have hM : M ≤ 256 := by rw [← eM, length_textL]; omega
      have hN2 : (L8 ++ textL lb).length = 36 + M := by rw [List.length_append, HN8.out, eM]
      clear eM
      obtain ⟨L9, eL2⟩ : ∃ L9, L9 = L8 ++ textL lb := ⟨_, rfl⟩
      rw [← eL2] at hN2 ⊢
      have EL9 := hide (eL2.trans (congrArg (· ++ textL lb) EL8.out))
      have HN9 := hide hN2
      intro e wc9 h2
      obtain ⟨A9, cc9, rfl, ownT, hA9, k1, k2, b2⟩ := h2.n HN9.out
      have own9 := hide (own_base ownT BB8.size)
      have KK9 := hide (And.intro k1 k2)
      have BB9 := nxt BB8 b2
      have bb9 : Below (g + 1) w1 wc9 := bb8.trans (b2.mono hgc8)
      have hgc9 : g < wc9.heap.size := Nat.lt_of_lt_of_le hgc8 b2.size
      clear eL2 hN2 h2 hA8 HN8 EL8 BB8 bb8 b2 hgc8 ownT k1 k2
      clear x8
      have hX : X = L9 := by rw [HX.out, EL9.out]; simp [encC, tailC, HK.out]
      go_wp2_with fail
      go_ret2
      rw [hX]
      exact ⟨A9, cc9, by rw [HN9.out]; rfl, by rw [HN9.out]; exact own9.out, hA9, by rw [HN9.out]; exact KK9.out.1, KK9.out.2, BB9⟩
    have d1 : (k == 1) = false := by simpa using h1
    by_cases h3 : k = 3
    · have d3 : (k == 3) = true := by simpa using h3
      have HK := hide h3
      clear h3 own2 KK2
      have x5 := (bb2.cell (p := ⟨g, 5, none⟩) (Nat.lt_succ_self g)).trans (HC.out.cell 5)
      change wc2.cell? ⟨g, 5, none⟩ = some (.int .i64 q) at x5
      go_wp2_with fail
      refine (refLong_any A2 _ cc2 L2 q _ HN2.out (by omega) hA2).mono ?_
      have hN2 : (L2 ++ le 8 (u64N q)).length = 17 := by rw [List.length_append, HN2.out, length_le]
      obtain ⟨L3, eL2⟩ : ∃ L3, L3 = L2 ++ le 8 (u64N q) := ⟨_, rfl⟩
      rw [← eL2] at hN2 ⊢
      have EL3 := hide (eL2.trans (congrArg (· ++ le 8 (u64N q)) EL2.out))
      have HN3 := hide hN2
      intro e wc3 h2
      obtain ⟨A3, cc3, rfl, ownT, hA3, k1, k2, b2⟩ := h2.n HN3.out
      have own3 := hide (own_base ownT BB2.size)
      have KK3 := hide (And.intro k1 k2)
      have BB3 := nxt BB2 b2
      have bb3 : Below (g + 1) w1 wc3 := bb2.trans (b2.mono hgc2)
      have hgc3 : g < wc3.heap.size := Nat.lt_of_lt_of_le hgc2 b2.size
      clear eL2 hN2 h2 hA2 HN2 EL2 BB2 bb2 b2 hgc2 ownT k1 k2
      clear x5
      have hX : X = L3 := by rw [HX.out, EL3.out]; simp [encC, tailC, HK.out]
      go_wp2_with fail
      go_ret2
      rw [hX]
      exact ⟨A3, cc3, by rw [HN3.out]; rfl, by rw [HN3.out]; exact own3.out, hA3, by rw [HN3.out]; exact KK3.out.1, KK3.out.2, BB3⟩
    have d3 : (k == 3) = false := by simpa using h3
    by_cases h4 : k = 4
    · have d4 : (k == 4) = true := by simpa using h4
      have HK := hide h4
      clear h4 own2 KK2
      have x4 := (bb2.cell (p := ⟨g, 4, none⟩) (Nat.lt_succ_self g)).trans (HC.out.cell 4)
      change wc2.cell? ⟨g, 4, none⟩ = some (.int .i64 p) at x4
      replace x4 : ∀ u, Stays wc2.drew u → u.cell? ⟨g, 4, none⟩ = some (.int .i64 p) := fun u hu => (hu.cell (p := ⟨g, 4, none⟩) hgc2).trans x4
      have x5 := (bb2.cell (p := ⟨g, 5, none⟩) (Nat.lt_succ_self g)).trans (HC.out.cell 5)
      change wc2.cell? ⟨g, 5, none⟩ = some (.int .i64 q) at x5
      replace x5 : ∀ u, Stays wc2.drew u → u.cell? ⟨g, 5, none⟩ = some (.int .i64 q) := fun u hu => (hu.cell (p := ⟨g, 5, none⟩) hgc2).trans x5
      go_wp2_with fail
      refine wp_region_grow (R := Stays) 99999 [3, 6] [0, 1, 2, 4, 5, 3, 6, 7] (by kernel_rfl) Stays.tr Stays.rf (by kernel_rfl) (fun _ _ _ _ _ h => h) ?_
      (repeat ((first | (refine grow_skip (by rfl) (by rfl) ?_ (by first | exact Stays.rf _ | exact Lower.rf _ _ | exact Holds.rf _ _)) | (refine grow_take (v := ?_) (by rfl) (by rfl) (by rfl) ?_ ?_; rotate_left 1; focus (intro w' hSw; go_simp; (try (with_reducible rfl)); done))); (try simp only [Act.put, List.setIfInBounds_toArray, List.set_cons_zero, List.set_cons_succ])))
      clear x4 x5
      refine grow_move (by rfl) (by rfl) (by rfl) (fun K hK => ?_); go_simp
      refine (refLong_any A2 _ cc2 L2 p _ HN2.out (by omega) hA2.drew).mono ?_
      have hN2 : (L2 ++ le 8 (u64N p)).length = 17 := by rw [List.length_append, HN2.out, length_le]
      obtain ⟨L3, eL2⟩ : ∃ L3, L3 = L2 ++ le 8 (u64N p) := ⟨_, rfl⟩
      rw [← eL2] at hN2 ⊢
      have EL3 := hide (eL2.trans (congrArg (· ++ le 8 (u64N p)) EL2.out))
      have HN3 := hide hN2
      intro e wc3 h2
      obtain ⟨A3, cc3, rfl, ownT, hA3, k1, k2, b2⟩ := h2.n HN3.out
      refine hK.out _ _ (b2) ?_; clear hK K; (try simp only [Act.put, List.setIfInBounds_toArray, List.set_cons_zero, List.set_cons_succ])
      have BB3 := nxt (nxt_drew BB2) b2
      have bb3 : Below (g + 1) w1 wc3 := bb2.drew.trans (b2.mono hgc2)
      have hgc3 : g < wc3.heap.size := Nat.lt_of_lt_of_le hgc2 b2.size
      clear eL2 hN2 h2 hA2 HN2 EL2 BB2 bb2 b2 hgc2 ownT k1 k2
      refine grow_move (by rfl) (by rfl) (by rfl) (fun K hK => ?_); go_simp
      refine (refLong_any A3 _ cc3 L3 q _ HN3.out (by omega) hA3).mono ?_
      have hN2 : (L3 ++ le 8 (u64N q)).length = 25 := by rw [List.length_append, HN3.out, length_le]
      obtain ⟨L4, eL2⟩ : ∃ L4, L4 = L3 ++ le 8 (u64N q) := ⟨_, rfl⟩
      rw [← eL2] at hN2 ⊢
      have EL4 := hide (eL2.trans (congrArg (· ++ le 8 (u64N q)) EL3.out))
      have HN4 := hide hN2
      intro e wc4 h2
      obtain ⟨A4, cc4, rfl, ownT, hA4, k1, k2, b2⟩ := h2.n HN4.out
      have own4 := hide (own_base ownT BB3.size)
      have KK4 := hide (And.intro k1 k2)
      refine hK.out _ _ (b2) ?_; clear hK K; (try simp only [Act.put, List.setIfInBounds_toArray, List.set_cons_zero, List.set_cons_succ])
      have BB4 := nxt BB3 b2
      have bb4 : Below (g + 1) w1 wc4 := bb3.trans (b2.mono hgc3)
      have hgc4 : g < wc4.heap.size := Nat.lt_of_lt_of_le hgc3 b2.size
      clear eL2 hN2 h2 hA3 HN3 EL3 BB3 bb3 b2 hgc3 ownT k1 k2
      (repeat ((first | (refine grow_skip (by rfl) (by rfl) ?_ (by first | exact Stays.rf _ | exact Lower.rf _ _ | exact Holds.rf _ _)) | (refine grow_take (v := ?_) (by rfl) (by rfl) (by rfl) ?_ ?_; rotate_left 1; focus (intro w' hSw; go_simp; (try (with_reducible rfl)); done))); (try simp only [Act.put, List.setIfInBounds_toArray, List.set_cons_zero, List.set_cons_succ])))
      refine grow_done ?_
      have hX : X = L4 := by rw [HX.out, EL4.out]; simp [encC, tailC, HK.out]
      go_wp2_with fail
      go_ret2
      rw [hX]
      exact ⟨A4, cc4, by rw [HN4.out]; rfl, by rw [HN4.out]; exact own4.out, hA4, by rw [HN4.out]; exact KK4.out.1, KK4.out.2, BB4⟩
    have d4 : (k == 4) = false := by simpa using h4
    have HK1 := hide h1
    have HK3 := hide h3
    have HK4 := hide h4
    clear h1 h3 h4
    have hX : X = L2 := by rw [HX.out, EL2.out]; simp [encC, tailC, HK1.out, HK3.out, HK4.out]
    go_wp2_with fail
    go_ret2
    rw [hX]
    exact ⟨A2, cc2, by rw [HN2.out]; rfl, by rw [HN2.out]; exact own2.out, hA2, by rw [HN2.out]; exact KK2.out.1, KK2.out.2, BB2⟩
end Go.Proofs.Ytjahndamfhfjcaa
