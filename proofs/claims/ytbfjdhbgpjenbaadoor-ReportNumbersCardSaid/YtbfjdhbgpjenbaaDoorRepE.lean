/-
  report.Encode, and the document's. (Printed by tools/gen7e.py.)
-/
import Derived.Test.YtbfjdhbgpjenbaaDoorRep
import Derived.Test.YtbfjdhbgpjenbaaDoorWAt
import Derived.Test.YtbfjdhbgpjenbaaDoorFrame
import Derived.Test.YtbfjdhbgpjenbaaDoorRef4
import Derived.Test.YtbfjdhbgpjenbaaDoorGrow
namespace Go.Proofs.YtbfjdhbgpjenbaaDoor
set_option linter.unusedSimpArgs false
open Go.RowKit
set_option linter.unusedVariables false

theorem FreshB2.none (w : World) (w' : World) (z : Int) (h : Below w.heap.size w w') : FreshB2 w [] z (.returned (.tuple #[.slice none 0 0, .int .i64 z])) w' :=
  ⟨Option.none, 0, rfl, World.ownsRow_nil _ _ _ _, Cells.nil _ _, Nat.le_refl _, Nat.zero_le _, h⟩
theorem FreshB2.of {w w1 w2 : World} {A : Option Addr} {n c : Nat} {l : List UInt8} (hn : l.length = n) (hB : Below w.heap.size w w1) (h : w2.ownsRow w1.heap.size 5 1 (.slice A n c) n (u8s l)) (hA : Cells w2 A (u8s l)) (h1 : n ≤ c) (h2 : c ≤ maxLen) (hb : Below w1.heap.size w1 w2) :
    FreshB2 w l ((0 : Nat) : Int) (.returned (.tuple #[.slice A n c, .int .i64 0])) w2 := by
  subst hn
  exact ⟨A, c, rfl, own_base h hB.size, hA, h1, h2, nxt hB hb⟩
set_option maxRecDepth 100000 in
set_option maxHeartbeats 1600000 in
theorem encode_any (r : Rep) (w : World) : Calls Tryd.prog 10 #[r.val] w (FreshB2 w (encO r) (encY r : Nat)) := by
  obtain ⟨X, eX⟩ : ∃ X, X = encO r := ⟨_, rfl⟩
  obtain ⟨Y, eY⟩ : ∃ Y, Y = encY r := ⟨_, rfl⟩
  rw [← eX, ← eY]
  have hR := fun w => right_any r w
  obtain ⟨O, eO⟩ : ∃ O, O = decide (rightP r) := ⟨_, rfl⟩
  rw [← eO] at hR
  obtain ⟨k, i, n, s, p, q, l, y⟩ := r
  obtain ⟨w0, ew0⟩ : ∃ w0, w0 = w.alloc (.cells (Rep.cells ⟨k, i, n, s, p, q, l, y⟩) 24) := ⟨_, rfl⟩
  obtain ⟨g, eg⟩ : ∃ g, g = w.heap.size := ⟨_, rfl⟩
  have hC : RpAt w0 g ⟨k, i, n, s, p, q, l, y⟩ := by rw [ew0, eg]; exact RpAt.new _ _
  have B0 : Below w.heap.size w w0 := by rw [ew0]; exact nxt_alloc (Below.refl _ _) _
  have hX : X = if (rightP ⟨k, i, n, s, p, q, l, y⟩) then encR ⟨k, i, n, s, p, q, l, y⟩ else [] := eX
  have hY : Y = if (rightP ⟨k, i, n, s, p, q, l, y⟩) then 0 else 12 := eY
  change ∀ w, Calls Tryd.prog _ #[.agg #[.int .i64 k, .int .i64 i, .int .i64 n, .int .i64 s, .int .i64 p, .int .i64 q, .int .i64 l, .int .i64 y]] w _ at hR
  have HR := hide hR
  have HO := hide eO
  clear hR eO
  have HX := hide hX
  have HY := hide hY
  clear eX eY hX hY
  show Calls Tryd.prog 10 #[.agg #[.int .i64 k, .int .i64 i, .int .i64 n, .int .i64 s, .int .i64 p, .int .i64 q, .int .i64 l, .int .i64 y]] w _
  change w0 = w.alloc (.cells #[.int .i64 k, .int .i64 i, .int .i64 n, .int .i64 s, .int .i64 p, .int .i64 q, .int .i64 l, .int .i64 y] 24) at ew0
  go_enter Tryd.func10, Tryd.ntmps10
  go_upto_region 1 with (fail)
  rw [← ew0, ← eg]
  clear ew0 eg
  obtain ⟨f0, f1, f2, f3, f4, f5, f6, f7⟩ := hC.reads
  have hg := hC.lt
  go_wp2_with fail
  refine (HR.out _).mono ?_
  rintro e w1 ⟨rfl, b1⟩
  have hC1 := hC.below b1
  have BB := nxt B0 b1
  have hg1 : g < w1.heap.size := hC1.lt
  have HC := hide hC1
  clear f0 f1 f2 f3 f4 f5 f6 f7 hC B0 b1 hg hC1
  by_cases hO : O = true
  rotate_left
  · have hO2 : O = false := by simpa using hO
    have hr : ¬ rightP ⟨k, i, n, s, p, q, l, y⟩ := by have := HO.out; rw [hO2] at this; exact of_decide_eq_false this.symm
    replace HX := hide (HX.out.trans (if_neg hr))
    replace HY := hide (HY.out.trans (if_neg hr))
    clear hO hr HO
    subst hO2
    go_wp2_with fail
    go_ret2
    rw [HX.out, HY.out]
    exact FreshB2.none _ _ _ BB
  · have hr : rightP ⟨k, i, n, s, p, q, l, y⟩ := by have := HO.out; rw [hO] at this; exact of_decide_eq_true this.symm
    replace HX := hide (HX.out.trans (if_pos hr))
    replace HY := hide (HY.out.trans (if_pos hr))
    clear hr HO
    subst hO
    go_wp2_with fail
    refine (wat_new _).mono ?_
    rintro e w2 ⟨d, rfl, W2, b2⟩
    have bb : Below (g + 1) w1 w2 := b2.mono hg1
    have B2 := nxt BB b2
    have hB := W2.bd
    clear b2
    have x0 := (bb.cell (p := ⟨g, 0, none⟩) (Nat.lt_succ_self g)).trans (HC.out.cell 0)
    change w2.cell? ⟨g, 0, none⟩ = some (.int .i64 k) at x0
    go_wp2_with fail
    refine (wat_byte _ d _ k _ W2 (by simp [length_le])).mono ?_
    rintro e w3 ⟨rfl, W3, b3⟩
    replace bb := bb.trans (b3.mono hg1)
    have B3 := B2.trans (b3.mono BB.size)
    clear x0 W2 b3 B2
    have x1 := (bb.cell (p := ⟨g, 1, none⟩) (Nat.lt_succ_self g)).trans (HC.out.cell 1)
    change w3.cell? ⟨g, 1, none⟩ = some (.int .i64 i) at x1
    go_wp2_with fail
    refine (wat_long _ d _ i _ W3 (by simp [length_le])).mono ?_
    rintro e w4 ⟨rfl, W4, b4⟩
    replace bb := bb.trans (b4.mono hg1)
    have B4 := B3.trans (b4.mono BB.size)
    clear x1 W3 b4 B3
    have x2 := (bb.cell (p := ⟨g, 2, none⟩) (Nat.lt_succ_self g)).trans (HC.out.cell 2)
    change w4.cell? ⟨g, 2, none⟩ = some (.int .i64 n) at x2
    go_wp2_with fail
    refine (wat_byte _ d _ n _ W4 (by simp [length_le])).mono ?_
    rintro e w5 ⟨rfl, W5, b5⟩
    replace bb := bb.trans (b5.mono hg1)
    have B5 := B4.trans (b5.mono BB.size)
    clear x2 W4 b5 B4
    have x3 := (bb.cell (p := ⟨g, 3, none⟩) (Nat.lt_succ_self g)).trans (HC.out.cell 3)
    change w5.cell? ⟨g, 3, none⟩ = some (.int .i64 s) at x3
    go_wp2_with fail
    refine (wat_byte _ d _ s _ W5 (by simp [length_le])).mono ?_
    rintro e w6 ⟨rfl, W6, b6⟩
    replace bb := bb.trans (b6.mono hg1)
    have B6 := B5.trans (b6.mono BB.size)
    clear x3 W5 b6 B5
    have x4 := (bb.cell (p := ⟨g, 4, none⟩) (Nat.lt_succ_self g)).trans (HC.out.cell 4)
    change w6.cell? ⟨g, 4, none⟩ = some (.int .i64 p) at x4
    go_wp2_with fail
    refine (wat_long _ d _ p _ W6 (by simp [length_le])).mono ?_
    rintro e w7 ⟨rfl, W7, b7⟩
    replace bb := bb.trans (b7.mono hg1)
    have B7 := B6.trans (b7.mono BB.size)
    clear x4 W6 b7 B6
    have x5 := (bb.cell (p := ⟨g, 5, none⟩) (Nat.lt_succ_self g)).trans (HC.out.cell 5)
    change w7.cell? ⟨g, 5, none⟩ = some (.int .i64 q) at x5
    go_wp2_with fail
    refine (wat_long _ d _ q _ W7 (by simp [length_le])).mono ?_
    rintro e w8 ⟨rfl, W8, b8⟩
    replace bb := bb.trans (b8.mono hg1)
    have B8 := B7.trans (b8.mono BB.size)
    clear x5 W7 b8 B7
    have x6 := (bb.cell (p := ⟨g, 6, none⟩) (Nat.lt_succ_self g)).trans (HC.out.cell 6)
    change w8.cell? ⟨g, 6, none⟩ = some (.int .i64 l) at x6
    go_wp2_with fail
    refine (wat_long _ d _ l _ W8 (by simp [length_le])).mono ?_
    rintro e w9 ⟨rfl, W9, b9⟩
    replace bb := bb.trans (b9.mono hg1)
    have B9 := B8.trans (b9.mono BB.size)
    clear x6 W8 b9 B8
    have x7 := (bb.cell (p := ⟨g, 7, none⟩) (Nat.lt_succ_self g)).trans (HC.out.cell 7)
    change w9.cell? ⟨g, 7, none⟩ = some (.int .i64 y) at x7
    go_wp2_with fail
    refine (wat_byte _ d _ y _ W9 (by simp [length_le])).mono ?_
    rintro e w10 ⟨rfl, W10, b10⟩
    replace bb := bb.trans (b10.mono hg1)
    have B10 := B9.trans (b10.mono BB.size)
    clear x7 W9 b10 B9
    go_wp2_with fail
    refine (wat_done _ d _ _ W10 (by simp [length_le])).mono ?_
    have he : encR ⟨k, i, n, s, p, q, l, y⟩ = [] ++ le 1 (u64N k) ++ le 8 (u64N i) ++ le 1 (u64N n) ++ le 1 (u64N s) ++ le 8 (u64N p) ++ le 8 (u64N q) ++ le 8 (u64N l) ++ le 1 (u64N y) := by simp [encR]
    rw [← he, ← HX.out]
    intro e w11 h2
    obtain ⟨A, c, rfl, own2, hA2, k1, k2, b2⟩ := h2
    clear he W10 bb
    go_wp2_with fail
    go_ret2
    rw [HY.out]
    exact FreshB2.of (by first | rfl | exact length_u8s _ | simp) B10 own2 hA2 (by simpa using k1) k2 b2
set_option maxRecDepth 100000 in
set_option maxHeartbeats 1600000 in
theorem refEncode_any (r : Rep) (w : World) : Calls Tryd.prog 11 #[r.val] w (FreshB2 w (encO r) (encY r : Nat)) := by
  obtain ⟨X, eX⟩ : ∃ X, X = encO r := ⟨_, rfl⟩
  obtain ⟨Y, eY⟩ : ∃ Y, Y = encY r := ⟨_, rfl⟩
  rw [← eX, ← eY]
  obtain ⟨k, i, n, s, p, q, l, y⟩ := r
  obtain ⟨w0, ew0⟩ : ∃ w0, w0 = w.alloc (.cells (Rep.cells ⟨k, i, n, s, p, q, l, y⟩) 24) := ⟨_, rfl⟩
  obtain ⟨g, eg⟩ : ∃ g, g = w.heap.size := ⟨_, rfl⟩
  have hC : RpAt w0 g ⟨k, i, n, s, p, q, l, y⟩ := by rw [ew0, eg]; exact RpAt.new _ _
  have B0 : Below w.heap.size w w0 := by rw [ew0]; exact nxt_alloc (Below.refl _ _) _
  have hX : X = if (rightP ⟨k, i, n, s, p, q, l, y⟩) then encR ⟨k, i, n, s, p, q, l, y⟩ else [] := eX
  have hY : Y = if (rightP ⟨k, i, n, s, p, q, l, y⟩) then 0 else 12 := eY
  have HX := hide hX
  have HY := hide hY
  clear eX eY hX hY
  show Calls Tryd.prog 11 #[.agg #[.int .i64 k, .int .i64 i, .int .i64 n, .int .i64 s, .int .i64 p, .int .i64 q, .int .i64 l, .int .i64 y]] w _
  change w0 = w.alloc (.cells #[.int .i64 k, .int .i64 i, .int .i64 n, .int .i64 s, .int .i64 p, .int .i64 q, .int .i64 l, .int .i64 y] 24) at ew0
  go_enter Tryd.func11, Tryd.ntmps11
  go_upto_region 1 with (fail)
  rw [← ew0, ← eg]
  clear ew0 eg
  obtain ⟨f0, f1, f2, f3, f4, f5, f6, f7⟩ := hC.reads
  by_cases hr : rightP ⟨k, i, n, s, p, q, l, y⟩
  rotate_left
  · replace HX := hide (HX.out.trans (if_neg hr))
    replace HY := hide (HY.out.trans (if_neg hr))
    have hr2 : k < 1 ∨ (¬ k < 1 ∧ 5 < k) ∨ (¬ k < 1 ∧ ¬ 5 < k ∧ n < 0) ∨ (¬ k < 1 ∧ ¬ 5 < k ∧ ¬ n < 0 ∧ 255 < n) ∨ (¬ k < 1 ∧ ¬ 5 < k ∧ ¬ n < 0 ∧ ¬ 255 < n ∧ s < 0) ∨ (¬ k < 1 ∧ ¬ 5 < k ∧ ¬ n < 0 ∧ ¬ 255 < n ∧ ¬ s < 0 ∧ 2 < s) ∨
        (¬ k < 1 ∧ ¬ 5 < k ∧ ¬ n < 0 ∧ ¬ 255 < n ∧ ¬ s < 0 ∧ ¬ 2 < s ∧ y < 0) ∨ (¬ k < 1 ∧ ¬ 5 < k ∧ ¬ n < 0 ∧ ¬ 255 < n ∧ ¬ s < 0 ∧ ¬ 2 < s ∧ ¬ y < 0 ∧ 255 < y) := by
      unfold rightP at hr
      simp only at hr
      omega
    clear hr
    rcases hr2 with h1 | ⟨h1, h2⟩ | ⟨h1, h2, h3⟩ | ⟨h1, h2, h3, h4⟩ | ⟨h1, h2, h3, h4, h5⟩ | ⟨h1, h2, h3, h4, h5, h6⟩ | ⟨h1, h2, h3, h4, h5, h6, h7⟩ | ⟨h1, h2, h3, h4, h5, h6, h7, h8⟩
    all_goals
      go_wp2_with fail
      go_ret2
      rw [HX.out, HY.out]
      exact FreshB2.none _ _ _ B0
  · replace HX := hide (HX.out.trans (if_pos hr))
    replace HY := hide (HY.out.trans (if_pos hr))
    obtain ⟨r1, r2, r3, r4, r5, r6, r7, r8⟩ := hr
    simp only at r1 r2 r3 r4 r5 r6 r7 r8
    have h1 : ¬ k < 1 := by omega
    have h2 : ¬ 5 < k := by omega
    have h3 : ¬ n < 0 := by omega
    have h4 : ¬ 255 < n := by omega
    have h5 : ¬ s < 0 := by omega
    have h6 : ¬ 2 < s := by omega
    have h7 : ¬ y < 0 := by omega
    have h8 : ¬ 255 < y := by omega
    clear r1 r2 r3 r4 r5 r6 r7 r8
    have HC := hide hC
    have hg1 := hC.lt
    obtain ⟨w1, ew1⟩ : ∃ w1, w1 = w0 := ⟨_, rfl⟩
    obtain ⟨wc0, ewc⟩ : ∃ wc0, wc0 = w0 := ⟨_, rfl⟩
    go_upto_region 3 with (fail)
    clear h1 h2 h3 h4 h5 h6 h7 h8 f0 f1 f2 f3 f4 f5 f6 f7 hC
    rw [← ewc] at B0 ⊢
    rw [← ew1] at HC hg1
    have bb0 : Below (g + 1) w1 wc0 := by rw [ewc, ew1]; exact Below.refl _ _
    have hgc0 : g < wc0.heap.size := by rw [ewc, ← ew1]; exact hg1
    have BB0 := B0
    clear ewc ew1 B0
    have x0 := (bb0.cell (p := ⟨g, 0, none⟩) (Nat.lt_succ_self g)).trans (HC.out.cell 0)
    change wc0.cell? ⟨g, 0, none⟩ = some (.int .i64 k) at x0
    replace x0 : ∀ u, Stays wc0.drew u → u.cell? ⟨g, 0, none⟩ = some (.int .i64 k) := fun u hu => (hu.cell (p := ⟨g, 0, none⟩) hgc0).trans x0
    have x1 := (bb0.cell (p := ⟨g, 1, none⟩) (Nat.lt_succ_self g)).trans (HC.out.cell 1)
    change wc0.cell? ⟨g, 1, none⟩ = some (.int .i64 i) at x1
    replace x1 : ∀ u, Stays wc0.drew u → u.cell? ⟨g, 1, none⟩ = some (.int .i64 i) := fun u hu => (hu.cell (p := ⟨g, 1, none⟩) hgc0).trans x1
    go_wp2_with fail
    refine wp_region_grow (R := Stays) 99999 [2, 5] [0, 1, 3, 4, 2, 5, 6] (by kernel_rfl) Stays.tr Stays.rf (by kernel_rfl) (fun _ _ _ _ _ h => h) ?_
    (repeat ((first | (refine grow_skip (by rfl) (by rfl) ?_ (by first | exact Stays.rf _ | exact Lower.rf _ _ | exact Holds.rf _ _)) | (refine grow_take (v := ?_) (by rfl) (by rfl) (by rfl) ?_ ?_; rotate_left 1; focus (intro w' hSw; go_simp; (try (with_reducible rfl)); done))); (try simp only [Act.put, List.setIfInBounds_toArray, List.set_cons_zero, List.set_cons_succ])))
    clear x0 x1
    refine grow_move (by rfl) (by rfl) (by rfl) (fun K hK => ?_); go_simp
    refine (refByte_any none _ 0 [] k _ rfl (by simp) (Cells.nil _ _)).mono ?_
    have hN2 : ([] ++ le 1 (u64N k)).length = 1 := by rw [List.length_append, List.length_nil, length_le]
    obtain ⟨L1, eL2⟩ : ∃ L1, L1 = [] ++ le 1 (u64N k) := ⟨_, rfl⟩
    rw [← eL2] at hN2 ⊢
    have EL1 := hide eL2
    have HN1 := hide hN2
    intro e wc1 h2
    obtain ⟨A1, cc1, rfl, ownT, hA1, k1, k2, b2⟩ := h2.n HN1.out
    refine hK.out _ _ (b2) ?_; clear hK K; (try simp only [Act.put, List.setIfInBounds_toArray, List.set_cons_zero, List.set_cons_succ])
    have BB1 := nxt (nxt_drew BB0) b2
    have bb1 : Below (g + 1) w1 wc1 := bb0.drew.trans (b2.mono hgc0)
    have hgc1 : g < wc1.heap.size := Nat.lt_of_lt_of_le hgc0 b2.size
    clear eL2 hN2 h2 BB0 bb0 b2 hgc0 ownT k1 k2
    refine grow_move (by rfl) (by rfl) (by rfl) (fun K hK => ?_); go_simp
    refine (refLong_any A1 _ cc1 L1 i _ HN1.out (by omega) hA1).mono ?_
    have hN2 : (L1 ++ le 8 (u64N i)).length = 9 := by rw [List.length_append, HN1.out, length_le]
    obtain ⟨L2, eL2⟩ : ∃ L2, L2 = L1 ++ le 8 (u64N i) := ⟨_, rfl⟩
    rw [← eL2] at hN2 ⊢
    have EL2 := hide (eL2.trans (congrArg (· ++ le 8 (u64N i)) EL1.out))
    have HN2 := hide hN2
    intro e wc2 h2
    obtain ⟨A2, cc2, rfl, ownT, hA2, k1, k2, b2⟩ := h2.n HN2.out
    refine hK.out _ _ (b2) ?_; clear hK K; (try simp only [Act.put, List.setIfInBounds_toArray, List.set_cons_zero, List.set_cons_succ])
    have BB2 := nxt BB1 b2
    have bb2 : Below (g + 1) w1 wc2 := bb1.trans (b2.mono hgc1)
    have hgc2 : g < wc2.heap.size := Nat.lt_of_lt_of_le hgc1 b2.size
    clear eL2 hN2 h2 hA1 HN1 EL1 BB1 bb1 b2 hgc1 ownT k1 k2
    (repeat ((first | (refine grow_skip (by rfl) (by rfl) ?_ (by first | exact Stays.rf _ | exact Lower.rf _ _ | exact Holds.rf _ _)) | (refine grow_take (v := ?_) (by rfl) (by rfl) (by rfl) ?_ ?_; rotate_left 1; focus (intro w' hSw; go_simp; (try (with_reducible rfl)); done))); (try simp only [Act.put, List.setIfInBounds_toArray, List.set_cons_zero, List.set_cons_succ])))
    refine grow_done ?_
    have x2 := (bb2.cell (p := ⟨g, 2, none⟩) (Nat.lt_succ_self g)).trans (HC.out.cell 2)
    change wc2.cell? ⟨g, 2, none⟩ = some (.int .i64 n) at x2
    replace x2 : ∀ u, Stays wc2.drew u → u.cell? ⟨g, 2, none⟩ = some (.int .i64 n) := fun u hu => (hu.cell (p := ⟨g, 2, none⟩) hgc2).trans x2
    have x3 := (bb2.cell (p := ⟨g, 3, none⟩) (Nat.lt_succ_self g)).trans (HC.out.cell 3)
    change wc2.cell? ⟨g, 3, none⟩ = some (.int .i64 s) at x3
    replace x3 : ∀ u, Stays wc2.drew u → u.cell? ⟨g, 3, none⟩ = some (.int .i64 s) := fun u hu => (hu.cell (p := ⟨g, 3, none⟩) hgc2).trans x3
    go_wp2_with fail
    refine wp_region_grow (R := Stays) 99999 [3, 6] [0, 1, 2, 4, 5, 3, 6, 7] (by kernel_rfl) Stays.tr Stays.rf (by kernel_rfl) (fun _ _ _ _ _ h => h) ?_
    (repeat ((first | (refine grow_skip (by rfl) (by rfl) ?_ (by first | exact Stays.rf _ | exact Lower.rf _ _ | exact Holds.rf _ _)) | (refine grow_take (v := ?_) (by rfl) (by rfl) (by rfl) ?_ ?_; rotate_left 1; focus (intro w' hSw; go_simp; (try (with_reducible rfl)); done))); (try simp only [Act.put, List.setIfInBounds_toArray, List.set_cons_zero, List.set_cons_succ])))
    clear x2 x3
    refine grow_move (by rfl) (by rfl) (by rfl) (fun K hK => ?_); go_simp
    refine (refByte_any A2 _ cc2 L2 n _ HN2.out (by omega) hA2.drew).mono ?_
    have hN2 : (L2 ++ le 1 (u64N n)).length = 10 := by rw [List.length_append, HN2.out, length_le]
    obtain ⟨L3, eL2⟩ : ∃ L3, L3 = L2 ++ le 1 (u64N n) := ⟨_, rfl⟩
    rw [← eL2] at hN2 ⊢
    have EL3 := hide (eL2.trans (congrArg (· ++ le 1 (u64N n)) EL2.out))
    have HN3 := hide hN2
    intro e wc3 h2
    obtain ⟨A3, cc3, rfl, ownT, hA3, k1, k2, b2⟩ := h2.n HN3.out
    refine hK.out _ _ (b2) ?_; clear hK K; (try simp only [Act.put, List.setIfInBounds_toArray, List.set_cons_zero, List.set_cons_succ])
    have BB3 := nxt (nxt_drew BB2) b2
    have bb3 : Below (g + 1) w1 wc3 := bb2.drew.trans (b2.mono hgc2)
    have hgc3 : g < wc3.heap.size := Nat.lt_of_lt_of_le hgc2 b2.size
    clear eL2 hN2 h2 hA2 HN2 EL2 BB2 bb2 b2 hgc2 ownT k1 k2
    refine grow_move (by rfl) (by rfl) (by rfl) (fun K hK => ?_); go_simp
    refine (refByte_any A3 _ cc3 L3 s _ HN3.out (by omega) hA3).mono ?_
    have hN2 : (L3 ++ le 1 (u64N s)).length = 11 := by rw [List.length_append, HN3.out, length_le]
    obtain ⟨L4, eL2⟩ : ∃ L4, L4 = L3 ++ le 1 (u64N s) := ⟨_, rfl⟩
    rw [← eL2] at hN2 ⊢
    have EL4 := hide (eL2.trans (congrArg (· ++ le 1 (u64N s)) EL3.out))
    have HN4 := hide hN2
    intro e wc4 h2
    obtain ⟨A4, cc4, rfl, ownT, hA4, k1, k2, b2⟩ := h2.n HN4.out
    refine hK.out _ _ (b2) ?_; clear hK K; (try simp only [Act.put, List.setIfInBounds_toArray, List.set_cons_zero, List.set_cons_succ])
    have BB4 := nxt BB3 b2
    have bb4 : Below (g + 1) w1 wc4 := bb3.trans (b2.mono hgc3)
    have hgc4 : g < wc4.heap.size := Nat.lt_of_lt_of_le hgc3 b2.size
    clear eL2 hN2 h2 hA3 HN3 EL3 BB3 bb3 b2 hgc3 ownT k1 k2
    (repeat ((first | (refine grow_skip (by rfl) (by rfl) ?_ (by first | exact Stays.rf _ | exact Lower.rf _ _ | exact Holds.rf _ _)) | (refine grow_take (v := ?_) (by rfl) (by rfl) (by rfl) ?_ ?_; rotate_left 1; focus (intro w' hSw; go_simp; (try (with_reducible rfl)); done))); (try simp only [Act.put, List.setIfInBounds_toArray, List.set_cons_zero, List.set_cons_succ])))
    refine grow_done ?_
    have x4 := (bb4.cell (p := ⟨g, 4, none⟩) (Nat.lt_succ_self g)).trans (HC.out.cell 4)
    change wc4.cell? ⟨g, 4, none⟩ = some (.int .i64 p) at x4
    replace x4 : ∀ u, Stays wc4.drew u → u.cell? ⟨g, 4, none⟩ = some (.int .i64 p) := fun u hu => (hu.cell (p := ⟨g, 4, none⟩) hgc4).trans x4
    have x5 := (bb4.cell (p := ⟨g, 5, none⟩) (Nat.lt_succ_self g)).trans (HC.out.cell 5)
    change wc4.cell? ⟨g, 5, none⟩ = some (.int .i64 q) at x5
    replace x5 : ∀ u, Stays wc4.drew u → u.cell? ⟨g, 5, none⟩ = some (.int .i64 q) := fun u hu => (hu.cell (p := ⟨g, 5, none⟩) hgc4).trans x5
    have x6 := (bb4.cell (p := ⟨g, 6, none⟩) (Nat.lt_succ_self g)).trans (HC.out.cell 6)
    change wc4.cell? ⟨g, 6, none⟩ = some (.int .i64 l) at x6
    replace x6 : ∀ u, Stays wc4.drew u → u.cell? ⟨g, 6, none⟩ = some (.int .i64 l) := fun u hu => (hu.cell (p := ⟨g, 6, none⟩) hgc4).trans x6
    go_wp2_with fail
    refine wp_region_grow (R := Stays) 99999 [3, 6, 9] [0, 1, 2, 4, 5, 7, 8, 3, 6, 9, 10] (by kernel_rfl) Stays.tr Stays.rf (by kernel_rfl) (fun _ _ _ _ _ h => h) ?_
    (repeat ((first | (refine grow_skip (by rfl) (by rfl) ?_ (by first | exact Stays.rf _ | exact Lower.rf _ _ | exact Holds.rf _ _)) | (refine grow_take (v := ?_) (by rfl) (by rfl) (by rfl) ?_ ?_; rotate_left 1; focus (intro w' hSw; go_simp; (try (with_reducible rfl)); done))); (try simp only [Act.put, List.setIfInBounds_toArray, List.set_cons_zero, List.set_cons_succ])))
    clear x4 x5 x6
    refine grow_move (by rfl) (by rfl) (by rfl) (fun K hK => ?_); go_simp
    refine (refLong_any A4 _ cc4 L4 p _ HN4.out (by omega) hA4.drew).mono ?_
    have hN2 : (L4 ++ le 8 (u64N p)).length = 19 := by rw [List.length_append, HN4.out, length_le]
    obtain ⟨L5, eL2⟩ : ∃ L5, L5 = L4 ++ le 8 (u64N p) := ⟨_, rfl⟩
    rw [← eL2] at hN2 ⊢
    have EL5 := hide (eL2.trans (congrArg (· ++ le 8 (u64N p)) EL4.out))
    have HN5 := hide hN2
    intro e wc5 h2
    obtain ⟨A5, cc5, rfl, ownT, hA5, k1, k2, b2⟩ := h2.n HN5.out
    refine hK.out _ _ (b2) ?_; clear hK K; (try simp only [Act.put, List.setIfInBounds_toArray, List.set_cons_zero, List.set_cons_succ])
    have BB5 := nxt (nxt_drew BB4) b2
    have bb5 : Below (g + 1) w1 wc5 := bb4.drew.trans (b2.mono hgc4)
    have hgc5 : g < wc5.heap.size := Nat.lt_of_lt_of_le hgc4 b2.size
    clear eL2 hN2 h2 hA4 HN4 EL4 BB4 bb4 b2 hgc4 ownT k1 k2
    refine grow_move (by rfl) (by rfl) (by rfl) (fun K hK => ?_); go_simp
    refine (refLong_any A5 _ cc5 L5 q _ HN5.out (by omega) hA5).mono ?_
    have hN2 : (L5 ++ le 8 (u64N q)).length = 27 := by rw [List.length_append, HN5.out, length_le]
    obtain ⟨L6, eL2⟩ : ∃ L6, L6 = L5 ++ le 8 (u64N q) := ⟨_, rfl⟩
    rw [← eL2] at hN2 ⊢
    have EL6 := hide (eL2.trans (congrArg (· ++ le 8 (u64N q)) EL5.out))
    have HN6 := hide hN2
    intro e wc6 h2
    obtain ⟨A6, cc6, rfl, ownT, hA6, k1, k2, b2⟩ := h2.n HN6.out
    refine hK.out _ _ (b2) ?_; clear hK K; (try simp only [Act.put, List.setIfInBounds_toArray, List.set_cons_zero, List.set_cons_succ])
    have BB6 := nxt BB5 b2
    have bb6 : Below (g + 1) w1 wc6 := bb5.trans (b2.mono hgc5)
    have hgc6 : g < wc6.heap.size := Nat.lt_of_lt_of_le hgc5 b2.size
    clear eL2 hN2 h2 hA5 HN5 EL5 BB5 bb5 b2 hgc5 ownT k1 k2
    refine grow_move (by rfl) (by rfl) (by rfl) (fun K hK => ?_); go_simp
    refine (refLong_any A6 _ cc6 L6 l _ HN6.out (by omega) hA6).mono ?_
    have hN2 : (L6 ++ le 8 (u64N l)).length = 35 := by rw [List.length_append, HN6.out, length_le]
    obtain ⟨L7, eL2⟩ : ∃ L7, L7 = L6 ++ le 8 (u64N l) := ⟨_, rfl⟩
    rw [← eL2] at hN2 ⊢
    have EL7 := hide (eL2.trans (congrArg (· ++ le 8 (u64N l)) EL6.out))
    have HN7 := hide hN2
    intro e wc7 h2
    obtain ⟨A7, cc7, rfl, ownT, hA7, k1, k2, b2⟩ := h2.n HN7.out
    refine hK.out _ _ (b2) ?_; clear hK K; (try simp only [Act.put, List.setIfInBounds_toArray, List.set_cons_zero, List.set_cons_succ])
    have BB7 := nxt BB6 b2
    have bb7 : Below (g + 1) w1 wc7 := bb6.trans (b2.mono hgc6)
    have hgc7 : g < wc7.heap.size := Nat.lt_of_lt_of_le hgc6 b2.size
    clear eL2 hN2 h2 hA6 HN6 EL6 BB6 bb6 b2 hgc6 ownT k1 k2
    (repeat ((first | (refine grow_skip (by rfl) (by rfl) ?_ (by first | exact Stays.rf _ | exact Lower.rf _ _ | exact Holds.rf _ _)) | (refine grow_take (v := ?_) (by rfl) (by rfl) (by rfl) ?_ ?_; rotate_left 1; focus (intro w' hSw; go_simp; (try (with_reducible rfl)); done))); (try simp only [Act.put, List.setIfInBounds_toArray, List.set_cons_zero, List.set_cons_succ])))
    refine grow_done ?_
    have x7 := (bb7.cell (p := ⟨g, 7, none⟩) (Nat.lt_succ_self g)).trans (HC.out.cell 7)
    change wc7.cell? ⟨g, 7, none⟩ = some (.int .i64 y) at x7
    go_wp2_with fail
    refine (refByte_any A7 _ cc7 L7 y _ HN7.out (by omega) hA7).mono ?_
    have hN2 : (L7 ++ le 1 (u64N y)).length = 36 := by rw [List.length_append, HN7.out, length_le]
    obtain ⟨L8, eL2⟩ : ∃ L8, L8 = L7 ++ le 1 (u64N y) := ⟨_, rfl⟩
    rw [← eL2] at hN2 ⊢
    have EL8 := hide (eL2.trans (congrArg (· ++ le 1 (u64N y)) EL7.out))
    have HN8 := hide hN2
    intro e wc8 h2
    obtain ⟨A8, cc8, rfl, ownT, hA8, k1, k2, b2⟩ := h2.n HN8.out
    have own8 := hide (own_base ownT BB7.size)
    have KK8 := hide (And.intro k1 k2)
    have BB8 := nxt BB7 b2
    have bb8 : Below (g + 1) w1 wc8 := bb7.trans (b2.mono hgc7)
    have hgc8 : g < wc8.heap.size := Nat.lt_of_lt_of_le hgc7 b2.size
    clear eL2 hN2 h2 hA7 HN7 EL7 BB7 bb7 b2 hgc7 ownT k1 k2
    clear x7
    have hX : X = L8 := by rw [HX.out, EL8.out]; simp [encR]
    go_wp2_with fail
    go_ret2
    rw [hX, HY.out]
    exact ⟨A8, cc8, by rw [HN8.out]; rfl, by rw [HN8.out]; exact own8.out, hA8, by rw [HN8.out]; exact KK8.out.1, KK8.out.2, BB8⟩
end Go.Proofs.YtbfjdhbgpjenbaaDoor
