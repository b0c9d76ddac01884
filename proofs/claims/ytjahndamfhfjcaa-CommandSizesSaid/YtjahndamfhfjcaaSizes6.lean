/-
  The walk of CommandSizes.
-/
import Derived.Test.YtjahndamfhfjcaaArgs6
import Derived.Deep.DeepCutAuto
import Derived.Deep.CutBlock
namespace Go.Proofs.Ytjahndamfhfjcaa
open Go.RowKit
set_option linter.unusedVariables false

/-- Another command with what s asks. -/
def sizeD (s o : Cmd) : Cmd :=
  if s.kind = 1 then s else if s.kind = 3 then { o with kind := s.kind, id := s.id, qty := s.qty } else if s.kind = 4 then { o with kind := s.kind, id := s.id, price := s.price, qty := s.qty } else { o with kind := s.kind, id := s.id }
def sizeN (s : Cmd) : Nat := if s.kind = 1 then 37 + s.lab.length else if s.kind = 3 then 17 else if s.kind = 4 then 25 else 9
theorem size_asked (s o : Cmd) (h : 1 ≤ s.kind ∧ s.kind ≤ 4) : askedC (sizeD s o) = askedC s ∧ (sizeD s o).kind = s.kind := by
  have hk : s.kind = 1 ∨ s.kind = 2 ∨ s.kind = 3 ∨ s.kind = 4 := by omega
  rcases hk with hk | hk | hk | hk <;> simp [askedC, sizeD, hk]
theorem size_right {s : Cmd} (o : Cmd) (h : rightC s = 0) (hl : s.lab.length ≤ 255) :
    rightC (sizeD s o) = 0 ∧ encC (sizeD s o) = encC s ∧ (encC s).length = sizeN s ∧ ∃ x : UInt8, (encC s)[0]? = some x ∧ (x.toNat : Int) = s.kind := by
  have hr := right_kind h
  obtain ⟨h1, h2⟩ := size_asked s o ⟨hr.1, hr.2.1⟩
  refine ⟨?_, ?_, ?_, lo8 (u64N s.kind), rfl, ?_⟩
  · rw [← right_asked _ (by rw [h2]; exact ⟨hr.1, hr.2.1⟩), h1, right_asked _ ⟨hr.1, hr.2.1⟩, h]
  · rw [← enc_asked _ (by rw [h2]; exact ⟨hr.1, hr.2.1⟩), h1, enc_asked _ ⟨hr.1, hr.2.1⟩]
  · unfold encC tailC sizeN
    repeat' split
    all_goals (simp only [List.length_append, length_le, length_textL, List.length_nil]; try omega)
  · rw [lo8_toNat]; unfold u64N; omega
theorem size_lab (s o : Cmd) (hs : s.lab.length ≤ 9223372036854775807) (ho : o.lab.length ≤ 9223372036854775807) : (sizeD s o).lab.length ≤ 9223372036854775807 := by
  unfold sizeD
  repeat' split
  all_goals assumption
theorem holds_set {g q : Nat} (w : World) (i : Nat) (u : Value) (h : g ≠ q) : Holds g w (w.setCell ⟨q, i, none⟩ u) := Below.heap_setCell _ _ _ _ h
set_option maxRecDepth 100000 in
set_option maxHeartbeats 3200000 in
theorem commandSizes_walk (c o : CommandV) (w : World) (h0 : c.Ok w) (h1 : o.Ok w) :
    Calls Try.prog 4 #[c.val, o.val] w fun e w' => e = .returned (.bool true) ∧ Below w.heap.size w w' := by
  have hl := h0.lab
  have hol := h1.lab
  obtain ⟨s, es⟩ : ∃ s, s = shortC c := ⟨_, rfl⟩
  have hsl : s.lab.length ≤ 60 := by rw [es]; show (c.lab.take 60).length ≤ _; rw [List.length_take]; omega
  obtain ⟨w0, ew0⟩ : ∃ w0, w0 = (w.alloc (.cells c.cells 23)).alloc (.cells o.cells 23) := ⟨_, rfl⟩
  obtain ⟨g, eg⟩ : ∃ g, g = w.heap.size := ⟨_, rfl⟩
  have hC : CAt w0 g c := by rw [ew0, eg]; exact (CAt.new _ _).below (nxt_alloc (Below.refl _ _) _)
  have hO : CAt w0 (g + 1) o := by
    have := CAt.new (w.alloc (.cells c.cells 23)) o
    rw [show (w.alloc (.cells c.cells 23)).heap.size = w.heap.size + 1 by simp] at this
    rw [ew0, eg]; exact this
  have B0 : Below w.heap.size w w0 := by rw [ew0]; exact nxt_alloc (nxt_alloc (Below.refl _ _) _) _
  have hg : w.heap.size ≤ g := by omega
  have ES := hide es
  clear h0 h1 es
  show Calls Try.prog 4 #[.agg c.cells, .agg o.cells] w _
  simp only [Cmd.cells] at ew0 ⊢
  go_enter Try.func4, Try.ntmps4
  go_upto_region 1 with (fail)
  rw [← ew0, ← eg]
  clear ew0 eg
  obtain ⟨f0, f1, f2, f3, f4, f5, f6, f7, f8⟩ := hC.reads'
  go_wp2_with fail
  refine (short_any c hl _).mono ?_
  rw [← ES.out]
  rintro e w1 ⟨rfl, b1⟩
  have C1 := hC.below b1
  have O1 := hO.below b1
  have B1 := nxt B0 b1
  clear f0 f1 f2 f3 f4 f5 f6 f7 f8 hC hO B0 b1
  obtain ⟨f0, f1, f2, f3, f4, f5, f6, f7, f8⟩ := C1.reads'
  have y0 := C1.frozen 0; have y1 := C1.frozen 1; have y2 := C1.frozen 2; have y3 := C1.frozen 3; have y4 := C1.frozen 4; have y5 := C1.frozen 5; have y6 := C1.frozen 6; have y7 := C1.frozen 7; have y8 := C1.frozen 8
  simp only [Cmd.val, Cmd.cells]
  go_upto_region 2 with (fail)
  obtain ⟨w2, ew2⟩ : ∃ w2, w2 = fillC w1 g s := ⟨_, rfl⟩
  refine wp_at ew2 ?_
  have C2 : CAt w2 g s := by rw [ew2]; exact (fill_at C1 s).1
  have O2 : CAt w2 (g + 1) o := by rw [ew2]; exact O1.leaves (fill_at C1 s).2 (by omega)
  have B2 : Below w.heap.size w w2 := by rw [ew2]; exact below_fill B1 C1 hg
  clear ew2 f0 f1 f2 f3 f4 f5 f6 f7 f8 y0 y1 y2 y3 y4 y5 y6 y7 y8 C1 B1 O1
  obtain ⟨f0, f1, f2, f3, f4, f5, f6, f7, f8⟩ := C2.reads'
  obtain ⟨R, eR⟩ : ∃ R, R = rightC s := ⟨_, rfl⟩
  obtain ⟨L, eL⟩ : ∃ L, L = encO s := ⟨_, rfl⟩
  obtain ⟨N, eN⟩ : ∃ N, L.length = N := ⟨_, rfl⟩
  have ER := hide eR; have EL := hide eL; have EN := hide eN
  have hN : N ≤ 292 := by rw [← eN, eL]; exact length_encO s
  clear eR eL eN
  go_wp2_with fail
  refine (encode_any s (by omega) _).mono ?_
  rw [← ER.out, ← EL.out]
  rintro e w3 ⟨A3, c3, he, -, hA3, hc3, hm3, b3⟩
  rw [EN.out] at he hc3
  subst he
  have C3 := C2.below b3
  have O3 := O2.below b3
  have B3 := nxt B2 b3
  clear f0 f1 f2 f3 f4 f5 f6 f7 f8 C2 O2 B2 b3
  by_cases hR : R = 0
  rotate_left
  · have hN0 : N = 0 := by
      have h1 := EL.out
      unfold encO at h1
      rw [← ER.out, if_neg hR] at h1
      rw [← EN.out, h1]; rfl
    subst hN0
    have i1 : ((R : Int) != 0) = true := by simp; omega
    clear hR
    go_wp2_with fail
    refine (known6_any _).mono ?_
    rintro e w8 ⟨rfl, b8⟩
    go_wp2_with fail
    go_ret
    exact ⟨rfl, nxt B3 b8⟩
  · subst hR
    obtain ⟨r1, r2, r3, x, r4, r5⟩ := size_right o ER.out.symm (by omega)
    have hEL : L = encC s := by have h1 := EL.out; unfold encO at h1; rw [← ER.out, if_pos rfl] at h1; exact h1
    rw [← hEL] at r2 r3 r4
    rw [EN.out] at r3
    have hkk := right_kind ER.out.symm
    have hne : L ≠ [] := by intro h; rw [h] at r4; cases r4
    obtain ⟨b5, o5, rfl, hb5, hcell5⟩ := hA3 (by simpa [u8s] using hne)
    have hx0 := hcell5 0 (.int .u8 (x.toNat : Int)) (by simp [u8s, r4])
    have H1 := hide r1; have H2 := hide r2; have H5 := hide r5; have HN3 := hide r3; have HA3 := hide hA3
    have HX0 := hide hx0
    clear r1 r2 r3 r4 r5 hEL hne hcell5 hA3 hx0 EL
    obtain ⟨f0, f1, f2, f3, f4, f5, f6, f7, f8⟩ := O3.reads'
    go_upto_region 7 with (fail)
    obtain ⟨w4, ew4⟩ : ∃ w4, w4 = w3.alloc (.cells o.cells 23) := ⟨_, rfl⟩
    obtain ⟨q, eq⟩ : ∃ q, q = w3.heap.size := ⟨_, rfl⟩
    have D4 : CAt w4 q o := by rw [ew4, eq]; exact CAt.new _ _
    have b4 : Below w3.heap.size w3 w4 := by rw [ew4]; exact nxt_alloc (Below.refl _ _) _
    have C4 := C3.below b4
    have B4 := nxt B3 b4
    have A4 := HA3.out.below b4
    have hbq : b5 < q := by rw [eq]; exact hb5
    have hgq : g < q := by rw [eq]; exact C3.lt
    have hx4 : w4.cell? ⟨b5, o5 + 0, none⟩ = some (.int .u8 (x.toNat : Int)) := (b4.cell (p := ⟨b5, o5 + 0, none⟩) hb5).trans HX0.out
    simp only [Cmd.cells] at ew4
    refine wp_at ew4 ?_
    rw [← eq]
    clear ew4 eq C3 O3 B3 b4 HA3 HX0 f0 f1 f2 f3 f4 f5 f6 f7 f8 hb5
    have l0 : ∀ u, Holds g w4.drew u → u.cell? ⟨g, 0, none⟩ = some (.int .i64 s.kind) := fun u h => (World.cell?_of_block (a := ⟨g, 0, none⟩) h).trans C4.reads'.1
    have l1 : ∀ u, Holds g w4.drew u → u.cell? ⟨g, 1, none⟩ = some (.int .i64 s.id) := fun u h => (World.cell?_of_block (a := ⟨g, 1, none⟩) h).trans C4.reads'.2.1
    have y0 := D4.frozen 0; have x0 := D4.reads'.1; have y1 := D4.frozen 1; have x1 := D4.reads'.2.1
    go_wp2_with fail
    refine wp_region_grow (R := Holds g) 99999 [5, 7] [0, 1, 2, 3, 4, 5, 6, 7] (by kernel_rfl) (Holds.tr g) (Holds.rf g) (by kernel_rfl) (fun _ _ _ _ _ h => h) ?_
    (repeat ((first | (refine grow_skip (by rfl) (by rfl) ?_ (by first | exact Stays.rf _ | exact Lower.rf _ _ | exact Holds.rf _ _)) | (refine grow_take (v := ?_) (by rfl) (by rfl) (by rfl) ?_ ?_; rotate_left 1; focus (intro w' hSw; go_simp; (try (with_reducible rfl)); done))); (try simp only [Act.put, List.setIfInBounds_toArray, List.set_cons_zero, List.set_cons_succ])))
    clear l0 l1
    refine grow_move (by rfl) (by rfl) (by rfl) (fun K hK => ?_); go_simp
    refine hK.out _ _ (holds_set _ 0 _ (Nat.ne_of_lt hgq)) ?_; clear hK K; (try simp only [Act.put, List.setIfInBounds_toArray, List.set_cons_zero, List.set_cons_succ])
    (repeat ((first | (refine grow_skip (by rfl) (by rfl) ?_ (by first | exact Stays.rf _ | exact Lower.rf _ _ | exact Holds.rf _ _)) | (refine grow_take (v := ?_) (by rfl) (by rfl) (by rfl) ?_ ?_; rotate_left 1; focus (intro w' hSw; go_simp; (try (with_reducible rfl)); done))); (try simp only [Act.put, List.setIfInBounds_toArray, List.set_cons_zero, List.set_cons_succ])))
    refine grow_move (by rfl) (by rfl) (by rfl) (fun K hK => ?_); go_simp
    refine hK.out _ _ (holds_set _ 1 _ (Nat.ne_of_lt hgq)) ?_; clear hK K; (try simp only [Act.put, List.setIfInBounds_toArray, List.set_cons_zero, List.set_cons_succ])
    refine grow_done ?_
    go_upto_region 8 with (fail)
    obtain ⟨w5, ew5⟩ : ∃ w5, w5 = (w4.drew.setCell ⟨q, 0, none⟩ (.int .i64 s.kind)).setCell ⟨q, 1, none⟩ (.int .i64 s.id) := ⟨_, rfl⟩
    have L5 : Leaves q none w4 w5 := by rw [ew5]; exact (((Leaves.refl q none w4).drew.setCell 0 _).setCell 1 _)
    have D5 : CAt w5 q { o with kind := s.kind, id := s.id } := by rw [ew5]; exact ((show CAt w4.drew q o from D4).set 0 (.int .i64 s.kind) { o with kind := s.kind } (by simp [Cmd.cells])).set 1 _ _ (by simp [Cmd.cells])
    have C5 := C4.leaves L5 (by omega)
    have A5 := L5.cells A4 (fun b o h => ⟨by injection h with h; injection h with h; omega, by simp⟩)
    have hb4 : b5 < w4.heap.size := by have := D4.lt; omega
    have hx5 := (World.cell?_of_block (a := ⟨b5, o5 + 0, none⟩) (L5.block b5 hb4 (by omega) (by simp))).trans hx4
    have hwq : w.heap.size ≤ q := by omega
    have B5 := Leaves.below0 B4 L5 hwq
    refine wp_at ew5 ?_
    clear ew5 C4 D4 A4 B4 L5 hx4 x0 x1 y0 y1 hb4
    have hqa : ∀ (bb oo : Nat), (some (⟨b5, o5, none⟩ : Addr)) = some ⟨bb, oo, none⟩ → bb ≠ q ∧ some bb ≠ (none : Option Nat) := fun b o h => ⟨by injection h with h; injection h with h; omega, by simp⟩
    have HQA := hide hqa
    have hb5 : b5 < w5.heap.size := by have := D5.lt; omega
    clear hqa
    have p0 := C5.reads'.1
    go_upto_block 0 with (fail)
    clear p0
    go_cut [7] (fun v wx => v = .int .i64 (N : Nat) ∧ Hid (CAt wx q (sizeD s o)) ∧ CAt wx g s ∧ Cells wx (some ⟨b5, o5, none⟩) (u8s L) ∧ wx.cell? ⟨b5, o5 + 0, none⟩ = some (.int .u8 (x.toNat : Int)) ∧ Below w.heap.size w wx)
    case first =>
      obtain ⟨f0, f1, f2, f3, f4, f5, f6, f7, f8⟩ := C5.reads'
      have hn3 := HN3.out
      unfold sizeN at hn3
      have hD : ∀ D, sizeD s o = D → Hid (sizeD s o = D) := fun _ h => h
      by_cases k1 : s.kind = 1
      · have d1 : (s.kind == 1) = true := by simpa using k1
        rw [if_pos k1] at hn3
        have hDD := hD s (by unfold sizeD; rw [if_pos k1])
        have hsz : (str s.lab).size = s.lab.length := str_size _
        obtain ⟨z0, z1, z2, z3, z4, z5, z6, z7, z8⟩ := D5.reads'
        have y0 := D5.frozen 0; have y1 := D5.frozen 1; have y2 := D5.frozen 2; have y3 := D5.frozen 3; have y4 := D5.frozen 4; have y5 := D5.frozen 5; have y6 := D5.frozen 6; have y7 := D5.frozen 7; have y8 := D5.frozen 8
        have F5 := hide (fill_at D5 s)
        have A6 := F5.out.2.cells A5 HQA.out
        have C6 := C5.leaves F5.out.2 (by omega)
        have hx6 := (World.cell?_of_block (a := ⟨b5, o5 + 0, none⟩) (F5.out.2.block b5 hb5 (by omega) (by simp))).trans hx5
        have B6 := Leaves.below0 B5 F5.out.2 hwq
        have HN := hide hn3
        have A6 := hide A6; have C6 := hide C6; have hx6 := hide hx6; have B6 := hide B6
        clear D5 hx5 A5 hn3 k1 hD
        go_wp2_with fail
        go_meet
        exact ⟨val_int (by have := HN.out; omega), by rw [hDD.out]; exact F5.out.1, C6.out, A6.out, hx6.out, B6.out⟩
      · have d1 : (s.kind == 1) = false := by simpa using k1
        rw [if_neg k1] at hn3
        by_cases k3 : s.kind = 3
        · have d3 : (s.kind == 3) = true := by simpa using k3
          rw [if_pos k3] at hn3
          have hDD := hD { o with kind := s.kind, id := s.id, qty := s.qty } (by unfold sizeD; rw [if_neg k1, if_pos k3])
          have y5 := D5.frozen 5; have z5 := D5.reads'.2.2.2.2.2.1
          have E6 := hide (D5.set 5 (.int .i64 s.qty) { o with kind := s.kind, id := s.id, qty := s.qty } (by simp [Cmd.cells]))
          have L6 : Leaves q none w5 (w5.setCell ⟨q, 5, none⟩ (.int .i64 s.qty)) := (Leaves.refl q none w5).setCell 5 _
          have A6 := hide (L6.cells A5 HQA.out)
          have C6 := hide (C5.leaves L6 (by omega))
          have hx6 := hide ((World.cell?_of_block (a := ⟨b5, o5 + 0, none⟩) (L6.block b5 hb5 (by omega) (by simp))).trans hx5)
          have B6 := hide (Leaves.below0 B5 L6 hwq)
          have HN := hide hn3
          clear D5 hx5 A5 hn3 k1 k3 hD L6
          go_wp2_with fail
          go_meet
          exact ⟨val_int (by rw [HN.out]; rfl), by rw [hDD.out]; exact E6.out, C6.out, A6.out, hx6.out, B6.out⟩
        · have d3 : (s.kind == 3) = false := by simpa using k3
          rw [if_neg k3] at hn3
          by_cases k4 : s.kind = 4
          · have d4 : (s.kind == 4) = true := by simpa using k4
            rw [if_pos k4] at hn3
            have hDD := hD { o with kind := s.kind, id := s.id, price := s.price, qty := s.qty } (by unfold sizeD; rw [if_neg k1, if_neg k3, if_pos k4])
            have y4 := D5.frozen 4; have z4 := D5.reads'.2.2.2.2.1; have y5 := D5.frozen 5; have z5 := D5.reads'.2.2.2.2.2.1
            have E6 := hide (((show CAt w5.drew q _ from D5).set 4 (.int .i64 s.price) { o with kind := s.kind, id := s.id, price := s.price } (by simp [Cmd.cells])).set 5 (.int .i64 s.qty) { o with kind := s.kind, id := s.id, price := s.price, qty := s.qty } (by simp [Cmd.cells]))
            have L6 : Leaves q none w5 ((w5.drew.setCell ⟨q, 4, none⟩ (.int .i64 s.price)).setCell ⟨q, 5, none⟩ (.int .i64 s.qty)) := ((Leaves.refl q none w5).drew.setCell 4 _).setCell 5 _
            have A6 := hide (L6.cells A5 HQA.out)
            have C6 := hide (C5.leaves L6 (by omega))
            have hx6 := hide ((World.cell?_of_block (a := ⟨b5, o5 + 0, none⟩) (L6.block b5 hb5 (by omega) (by simp))).trans hx5)
            have B6 := hide (Leaves.below0 B5 L6 hwq)
            have HN := hide hn3
            have l4 : ∀ u, Holds g w5.drew u → u.cell? ⟨g, 4, none⟩ = some (.int .i64 s.price) := fun u h => (World.cell?_of_block (a := ⟨g, 4, none⟩) h).trans f4
            have l5 : ∀ u, Holds g w5.drew u → u.cell? ⟨g, 5, none⟩ = some (.int .i64 s.qty) := fun u h => (World.cell?_of_block (a := ⟨g, 5, none⟩) h).trans f5
            clear D5 hx5 A5 hn3 k1 k3 k4 hD L6
            go_wp2_with fail
            refine wp_region_grow (R := Holds g) 99999 [5, 7] [0, 1, 2, 3, 4, 5, 6, 7] (by kernel_rfl) (Holds.tr g) (Holds.rf g) (by kernel_rfl) (fun _ _ _ _ _ h => h) ?_
            (repeat ((first | (refine grow_skip (by rfl) (by rfl) ?_ (by first | exact Stays.rf _ | exact Lower.rf _ _ | exact Holds.rf _ _)) | (refine grow_take (v := ?_) (by rfl) (by rfl) (by rfl) ?_ ?_; rotate_left 1; focus (intro w' hSw; go_simp; (try (with_reducible rfl)); done))); (try simp only [Act.put, List.setIfInBounds_toArray, List.set_cons_zero, List.set_cons_succ])))
            clear l4 l5
            refine grow_move (by rfl) (by rfl) (by rfl) (fun K hK => ?_); go_simp
            refine hK.out _ _ (holds_set _ 4 _ (Nat.ne_of_lt hgq)) ?_; clear hK K; (try simp only [Act.put, List.setIfInBounds_toArray, List.set_cons_zero, List.set_cons_succ])
            (repeat ((first | (refine grow_skip (by rfl) (by rfl) ?_ (by first | exact Stays.rf _ | exact Lower.rf _ _ | exact Holds.rf _ _)) | (refine grow_take (v := ?_) (by rfl) (by rfl) (by rfl) ?_ ?_; rotate_left 1; focus (intro w' hSw; go_simp; (try (with_reducible rfl)); done))); (try simp only [Act.put, List.setIfInBounds_toArray, List.set_cons_zero, List.set_cons_succ])))
            refine grow_move (by rfl) (by rfl) (by rfl) (fun K hK => ?_); go_simp
            refine hK.out _ _ (holds_set _ 5 _ (Nat.ne_of_lt hgq)) ?_; clear hK K; (try simp only [Act.put, List.setIfInBounds_toArray, List.set_cons_zero, List.set_cons_succ])
            refine grow_done ?_
            go_wp2_with fail
            go_meet
            exact ⟨val_int (by rw [HN.out]; rfl), by rw [hDD.out]; exact E6.out, C6.out, A6.out, hx6.out, B6.out⟩
          · have d4 : (s.kind == 4) = false := by simpa using k4
            rw [if_neg k4] at hn3
            have hDD := hD { o with kind := s.kind, id := s.id } (by unfold sizeD; rw [if_neg k1, if_neg k3, if_neg k4])
            have HN := hide hn3
            have D5 := hide D5
            clear hn3 k1 k3 k4 hD
            go_wp2_with fail
            go_meet
            exact ⟨val_int (by rw [HN.out]; rfl), by rw [hDD.out]; exact D5.out, C5, A5, hx5, B5⟩
    obtain ⟨rfl, D6, C6, A6, hx6, B6⟩ := hcut
    obtain ⟨w6, ew6⟩ : ∃ w6, w6 = wc := ⟨_, rfl⟩
    rw [← ew6] at D6 C6 A6 hx6 B6 ⊢
    clear ew6 D5 C5 A5 hx5 B5
    have hDl := size_lab s o (by omega) hol
    obtain ⟨D, eD⟩ : ∃ D, D = sizeD s o := ⟨_, rfl⟩
    rw [← eD] at D6 hDl
    have hDR : Hid (rightC D = 0) := hide (by rw [eD]; exact H1.out)
    have hDE : Hid (encO D = L) := hide (by unfold encO; rw [hDR.out, if_pos rfl, eD]; exact H2.out)
    obtain ⟨f0, f1, f2, f3, f4, f5, f6, f7, f8⟩ := D6.out.reads'
    clear eD
    go_wp2_with fail
    refine (encode_any D hDl _).mono ?_
    rw [hDE.out, hDR.out]
    rintro e w7 ⟨A7, c7, he, -, hA7, -, -, b7⟩
    rw [EN.out] at he
    subst he
    have B7 := nxt B6 b7
    have A67 := A6.below b7
    have f0' := (b7.cell (p := ⟨g, 0, none⟩) C6.lt).trans C6.reads'.1
    have hb6 : b5 < w6.heap.size := World.block_lt_of_cell? w6 _ hx6
    have hx7 := (b7.cell (p := ⟨b5, o5 + 0, none⟩) hb6).trans hx6
    have l0 : ∀ u, Stays w7.drew u → u.cell? ⟨g, 0, none⟩ = some (.int .i64 s.kind) := fun u h => (h.cell (p := ⟨g, 0, none⟩) (World.block_lt_of_cell? w7 _ f0')).trans f0'
    have l1 : ∀ u, Stays w7.drew u → u.cell? ⟨b5, o5, none⟩ = some (.int .u8 (x.toNat : Int)) := fun u h => (h.cell (p := ⟨b5, o5, none⟩) (World.block_lt_of_cell? w7 _ hx7)).trans hx7
    have k1 := Cells.strs (P := Try.prog) Try.underlying28 Try.underlying5 Try.underlying9 EN.out hA7.drew c7
    have k2 := Cells.strs (P := Try.prog) Try.underlying28 Try.underlying5 Try.underlying9 EN.out A67.drew c3
    have e6 : ((str L).toList == (str L).toList) = true := by simp
    have hx8 := x.toNat_lt
    have e7 : wrap64 (x.toNat : Int) = s.kind := by rw [← H5.out]; unfold wrap64; omega
    have e8 : IntKind.i64.wrap (x.toNat : Int) = s.kind := by rw [← H5.out]; exact IntWalk.i64_in _ (by omega)
    clear hx8
    have hN0 : 0 < N := by
      rcases Nat.eq_zero_or_pos N with h0 | h0
      · have := HN3.out; rw [h0] at this; unfold sizeN at this; split at this <;> first | omega | (split at this <;> first | omega | (split at this <;> omega))
      · exact h0
    have i3 : (0 : Int) < N := by omega
    clear f0 f1 f2 f3 f4 f5 f6 f7 f8 D6 C6 A6 hx6 B6 b7 hA7 A67 hx7 f0' hb6
    go_wp2_with fail
    refine wp_region_grow (R := Stays) 99999 [25] [0, 1, 2, 3, 4, 5, 6, 7, 8, 9, 10, 11, 12, 13, 14, 15, 16, 17, 18, 19, 20, 21, 22, 23, 24, 25, 26, 27] (by kernel_rfl) Stays.tr Stays.rf (by kernel_rfl) (fun _ _ _ _ _ h => h) ?_
    (repeat ((first | (refine grow_skip (by rfl) (by rfl) ?_ (by first | exact Stays.rf _ | exact Lower.rf _ _ | exact Holds.rf _ _)) | (refine grow_take (v := ?_) (by rfl) (by rfl) (by rfl) ?_ ?_; rotate_left 1; focus (intro w' hSw; go_simp; (try (with_reducible rfl)); done))); (try simp only [Act.put, List.setIfInBounds_toArray, List.set_cons_zero, List.set_cons_succ])))
    clear l0 l1 k1 k2
    refine grow_move (by rfl) (by rfl) (by rfl) (fun K hK => ?_); go_simp
    refine (known6_any _).mono ?_
    rintro e w8 ⟨rfl, b8⟩
    refine hK.out _ _ (b8) ?_; clear hK K; (try simp only [Act.put, List.setIfInBounds_toArray, List.set_cons_zero, List.set_cons_succ])
    (repeat ((first | (refine grow_skip (by rfl) (by rfl) ?_ (by first | exact Stays.rf _ | exact Lower.rf _ _ | exact Holds.rf _ _)) | (refine grow_take (v := ?_) (by rfl) (by rfl) (by rfl) ?_ ?_; rotate_left 1; focus (intro w' hSw; go_simp; (try (with_reducible rfl)); done))); (try simp only [Act.put, List.setIfInBounds_toArray, List.set_cons_zero, List.set_cons_succ])))
    refine grow_done ?_
    go_wp2_with fail
    go_ret
    exact ⟨rfl, nxt (nxt_drew B7) b8⟩
end Go.Proofs.Ytjahndamfhfjcaa
