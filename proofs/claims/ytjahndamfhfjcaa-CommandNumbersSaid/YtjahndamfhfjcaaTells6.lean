/-
  The walk of CommandTells.
-/
import Derived.Test.YtjahndamfhfjcaaRead6
import Derived.Deep.DeepCutAuto
import Derived.Deep.CutBlock
import Derived.Laws.BitsAllLaws
namespace Go.Proofs.Ytjahndamfhfjcaa
open Go.RowKit
set_option linter.unusedVariables false

theorem CAt.laterD {w : World} {g : Nat} {c : Cmd} (h : CAt w g c) (i : Nat) (v : Value) (hv : c.cells[i]? = some v) : ∀ u, Stays w.drew u → u.cell? ⟨g, i, none⟩ = some v := fun u hu =>
  (hu.cell (p := ⟨g, i, none⟩) h.lt).trans (by show w.cell? _ = _; rw [h.cell, hv])
theorem CAt.laterT {w : World} {g : Nat} {c : Cmd} (h : CAt w g c) (i : Nat) (v : Value) (hv : c.cells[i]? = some v) : ∀ u, Stays w u → u.cell? ⟨g, i, none⟩ = some v := fun u hu =>
  (hu.cell (p := ⟨g, i, none⟩) h.lt).trans (by rw [h.cell, hv])
theorem byte_of6 {n : Int} (h : (Lit.int .u8 n).wf = true) : ∃ x : UInt8, n = (x.toNat : Int) := by
  have := u8_bd h
  exact ⟨lo8 n.toNat, by rw [lo8_toNat]; omega⟩
theorem xor_u86 (a b : UInt8) : bits .xor .u8 (a.toNat : Int) (b.toNat : Int) = ((a ^^^ b).toNat : Int) := by
  have h1 := a.toNat_lt
  have h2 := b.toNat_lt
  rw [u8_xor_nat _ _ (by omega) (by omega), UInt8.toNat_xor]
set_option maxRecDepth 100000 in
set_option maxHeartbeats 3200000 in
theorem commandTells_walk (c : CommandV) (A1 : Option Addr) (c1 : Nat) (l1 : List Int) (a2 a3 : Int) (w : World) (h0 : c.Ok w) (h1 : ArgI .u8 w A1 c1 l1) (_w2 : (Lit.int .i64 a2).wf = true) (w3 : (Lit.int .u8 a3).wf = true) :
    Calls Try.prog 6 #[c.val, .slice A1 l1.length c1, .int .i64 a2, .int .u8 a3] w fun e w' => e = .returned (.bool true) ∧ Below w.heap.size w w' := by
  have hl := h0.lab
  obtain ⟨x, rfl⟩ := byte_of6 w3
  obtain ⟨s, es⟩ : ∃ s, s = shortC c := ⟨_, rfl⟩
  have hsl : s.lab.length ≤ 9223372036854775807 := by rw [es]; exact (short_wf h0).lab
  obtain ⟨M, m1, hM, hMc, hm100, hmc, pm, qm⟩ := h1.cutB 100
  have hl1 := h1.le
  have hm1 : c1 ≤ 9223372036854775807 := h1.max
  obtain ⟨n1, e1⟩ : ∃ n1, n1 = l1.length := ⟨_, rfl⟩
  rw [← e1] at hl1 pm qm ⊢
  have hmin : m1 = min n1 100 := by omega
  have HMIN := hide hmin
  have HML := hide hM
  obtain ⟨w0, ew0⟩ : ∃ w0, w0 = w.alloc (.cells c.cells 23) := ⟨_, rfl⟩
  obtain ⟨g, eg⟩ : ∃ g, g = w.heap.size := ⟨_, rfl⟩
  have hC : CAt w0 g c := by rw [ew0, eg]; exact CAt.new _ _
  have B0 : Below w.heap.size w w0 := by rw [ew0]; exact nxt_alloc (Below.refl _ _) _
  have hg : w.heap.size ≤ g := by omega
  have ES := hide es
  clear h0 h1 es _w2 w3 e1 hmin hM pm qm
  show Calls Try.prog 6 #[.agg c.cells, .slice A1 n1 c1, .int .i64 a2, .int .u8 (x.toNat : Int)] w _
  simp only [Cmd.cells] at ew0 ⊢
  go_enter Try.func6, Try.ntmps6
  go_upto_region 1 with (fail)
  rw [← ew0, ← eg]
  clear ew0 eg
  obtain ⟨f0, f1, f2, f3, f4, f5, f6, f7, f8⟩ := hC.reads'
  go_wp2_with fail
  refine (short_any c hl _).mono ?_
  rw [← ES.out]
  rintro e w1 ⟨rfl, b1⟩
  have C1 := hC.below b1
  have B1 := nxt B0 b1
  clear f0 f1 f2 f3 f4 f5 f6 f7 f8 hC B0 b1
  obtain ⟨f0, f1, f2, f3, f4, f5, f6, f7, f8⟩ := C1.reads'
  have y0 := C1.frozen 0; have y1 := C1.frozen 1; have y2 := C1.frozen 2; have y3 := C1.frozen 3; have y4 := C1.frozen 4; have y5 := C1.frozen 5; have y6 := C1.frozen 6; have y7 := C1.frozen 7; have y8 := C1.frozen 8
  simp only [Cmd.val, Cmd.cells]
  go_upto_region 2 with (fail)
  obtain ⟨w2, ew2⟩ : ∃ w2, w2 = fillC w1 g s := ⟨_, rfl⟩
  refine wp_at ew2 ?_
  have C2 : CAt w2 g s := by rw [ew2]; exact (fill_at C1 s).1
  have B2 : Below w.heap.size w w2 := by rw [ew2]; exact below_fill B1 C1 hg
  clear ew2 f0 f1 f2 f3 f4 f5 f6 f7 f8 y0 y1 y2 y3 y4 y5 y6 y7 y8 C1 B1
  obtain ⟨f0, f1, f2, f3, f4, f5, f6, f7, f8⟩ := C2.reads'
  obtain ⟨R, eR⟩ : ∃ R, R = rightC s := ⟨_, rfl⟩
  obtain ⟨L, eL⟩ : ∃ L, L = encO s := ⟨_, rfl⟩
  obtain ⟨N, eN⟩ : ∃ N, L.length = N := ⟨_, rfl⟩
  have ER := hide eR; have EL := hide eL; have EN := hide eN
  have hN : N ≤ 292 := by rw [← eN, eL]; exact length_encO s
  clear eR eL eN
  go_wp2_with fail
  refine (encode_any s hsl _).mono ?_
  rw [← ER.out, ← EL.out]
  rintro e w3 ⟨A3, c3, he, -, hA3, -, -, b3⟩
  rw [EN.out] at he
  subst he
  have C3 := C2.below b3
  have B3 := nxt B2 b3
  clear f0 f1 f2 f3 f4 f5 f6 f7 f8 C2 B2 b3
  obtain ⟨f0, f1, f2, f3, f4, f5, f6, f7, f8⟩ := C3.reads'
  go_wp2_with fail
  refine (refEncode_any s hsl _).mono ?_
  rw [← ER.out, ← EL.out]
  rintro e w4 ⟨A4, c4, he, own4, hA4, hc4, hm4, b4⟩
  rw [EN.out] at he own4 hc4
  subst he
  have own4 := hide (own_base own4 B3.size)
  have C4 := hide (C3.below b4)
  have hA34 := hA3.below b4
  have hm4' : c4 ≤ 9223372036854775807 := hm4
  have B4 := nxt B3 b4
  clear f0 f1 f2 f3 f4 f5 f6 f7 f8 C3 hA3 B3 b4 hm4
  have k1 := Cells.strs (P := Try.prog) Try.underlying28 Try.underlying5 Try.underlying9 EN.out hA34.drew c3
  have k2 := Cells.strs (P := Try.prog) Try.underlying28 Try.underlying5 Try.underlying9 EN.out hA4.drew c4
  have e6 : ((str L).toList != (str L).toList) = false := by simp
  have l0 := C4.out.laterD 0 _ rfl; have l1 := C4.out.laterD 1 _ rfl; have l2 := C4.out.laterD 2 _ rfl; have l3 := C4.out.laterD 3 _ rfl; have l4 := C4.out.laterD 4 _ rfl; have l5 := C4.out.laterD 5 _ rfl; have l6 := C4.out.laterD 6 _ rfl; have l7 := C4.out.laterD 7 _ rfl; have l8 := C4.out.laterD 8 _ rfl
  clear hA34
  go_wp2_with fail
  refine wp_region_grow (R := Stays) 99999 [12, 14, 19, 20, 25] [0, 1, 2, 3, 4, 5, 6, 7, 8, 9, 10, 11, 13, 12, 14, 15, 16, 17, 18, 19, 20, 21, 22, 23, 24, 25, 26, 27] (by kernel_rfl) Stays.tr Stays.rf (by kernel_rfl) (fun _ _ _ _ _ h => h) ?_
  (repeat ((first | (refine grow_skip (by rfl) (by rfl) ?_ (by first | exact Stays.rf _ | exact Lower.rf _ _ | exact Holds.rf _ _)) | (refine grow_take (v := ?_) (by rfl) (by rfl) (by rfl) ?_ ?_; rotate_left 1; focus (intro w' hSw; go_simp; (try (with_reducible rfl)); done))); (try simp only [Act.put, List.setIfInBounds_toArray, List.set_cons_zero, List.set_cons_succ])))
  clear k1 k2 l0 l1 l2 l3 l4 l5 l6 l7 l8 C4
  refine grow_move (by rfl) (by rfl) (by rfl) (fun K hK => ?_); go_simp
  refine (right_any s hsl _).mono ?_
  rw [← ER.out]
  rintro e u1 ⟨rfl, d1⟩
  refine hK.out _ _ (d1) ?_; clear hK K; (try simp only [Act.put, List.setIfInBounds_toArray, List.set_cons_zero, List.set_cons_succ])
  have U1 := nxt (nxt_drew B4) d1
  have own5 := hide (own_below (show w4.drew.ownsRow _ _ _ _ _ _ from own4.out) d1)
  clear B4 d1 own4 hA4
  (repeat ((first | (refine grow_skip (by rfl) (by rfl) ?_ (by first | exact Stays.rf _ | exact Lower.rf _ _ | exact Holds.rf _ _)) | (refine grow_take (v := ?_) (by rfl) (by rfl) (by rfl) ?_ ?_; rotate_left 1; focus (intro w' hSw; go_simp; (try (with_reducible rfl)); done))); (try simp only [Act.put, List.setIfInBounds_toArray, List.set_cons_zero, List.set_cons_succ])))
  refine grow_move (by rfl) (by rfl) (by rfl) (fun K hK => ?_); go_simp
  refine (refRight_any s hsl _).mono ?_
  rw [← ER.out]
  rintro e u2 ⟨rfl, d2⟩
  refine hK.out _ _ (d2) ?_; clear hK K; (try simp only [Act.put, List.setIfInBounds_toArray, List.set_cons_zero, List.set_cons_succ])
  have U2 := nxt U1 d2
  have own6 := hide (own_below own5.out d2)
  have hMu := hMc.below U2
  clear U1 d2 own5
  (repeat ((first | (refine grow_skip (by rfl) (by rfl) ?_ (by first | exact Stays.rf _ | exact Lower.rf _ _ | exact Holds.rf _ _)) | (refine grow_take (v := ?_) (by rfl) (by rfl) (by rfl) ?_ ?_; rotate_left 1; focus (intro w' hSw; go_simp; (try (with_reducible rfl)); done))); (try simp only [Act.put, List.setIfInBounds_toArray, List.set_cons_zero, List.set_cons_succ])))
  refine grow_move (by rfl) (by rfl) (by rfl) (fun K hK => ?_); go_simp
  refine (cut_any A1 n1 c1 100 _ hl1 hm1 (by omega) (by omega)).mono ?_
  rw [show min n1 (100 : Int).toNat = m1 from HMIN.out.symm]
  rintro e u ⟨rfl, rfl⟩
  refine hK.out _ _ (Stays.rf _) ?_; clear hK K; (try simp only [Act.put, List.setIfInBounds_toArray, List.set_cons_zero, List.set_cons_succ])
  (repeat ((first | (refine grow_skip (by rfl) (by rfl) ?_ (by first | exact Stays.rf _ | exact Lower.rf _ _ | exact Holds.rf _ _)) | (refine grow_take (v := ?_) (by rfl) (by rfl) (by rfl) ?_ ?_; rotate_left 1; focus (intro w' hSw; go_simp; (try (with_reducible rfl)); done))); (try simp only [Act.put, List.setIfInBounds_toArray, List.set_cons_zero, List.set_cons_succ])))
  refine grow_move (by rfl) (by rfl) (by rfl) (fun K hK => ?_); go_simp
  refine (read6_any A1 m1 c1 M _ HML.out (by omega) (by omega) hm1 hMu).mono ?_
  rintro e u3 ⟨rfl, d3⟩
  refine hK.out _ _ (d3) ?_; clear hK K; (try simp only [Act.put, List.setIfInBounds_toArray, List.set_cons_zero, List.set_cons_succ])
  have U3 := nxt U2 d3
  have own7 := hide (own_below own6.out d3)
  have hA7 := Cells.of_own own7.out
  clear U2 d3 own6 hMu
  (repeat ((first | (refine grow_skip (by rfl) (by rfl) ?_ (by first | exact Stays.rf _ | exact Lower.rf _ _ | exact Holds.rf _ _)) | (refine grow_take (v := ?_) (by rfl) (by rfl) (by rfl) ?_ ?_; rotate_left 1; focus (intro w' hSw; go_simp; (try (with_reducible rfl)); done))); (try simp only [Act.put, List.setIfInBounds_toArray, List.set_cons_zero, List.set_cons_succ])))
  refine grow_move (by rfl) (by rfl) (by rfl) (fun K hK => ?_); go_simp
  refine (read6_any A4 N c4 L _ EN.out (by omega) hc4 hm4' hA7).mono ?_
  rintro e u4 ⟨rfl, d4⟩
  refine hK.out _ _ (d4) ?_; clear hK K; (try simp only [Act.put, List.setIfInBounds_toArray, List.set_cons_zero, List.set_cons_succ])
  have U4 := nxt U3 d4
  have own8 := own_below own7.out d4
  clear U3 d4 own7 hA7
  (repeat ((first | (refine grow_skip (by rfl) (by rfl) ?_ (by first | exact Stays.rf _ | exact Lower.rf _ _ | exact Holds.rf _ _)) | (refine grow_take (v := ?_) (by rfl) (by rfl) (by rfl) ?_ ?_; rotate_left 1; focus (intro w' hSw; go_simp; (try (with_reducible rfl)); done))); (try simp only [Act.put, List.setIfInBounds_toArray, List.set_cons_zero, List.set_cons_succ])))
  refine grow_done ?_
  go_upto_if 55 with (fail)
  go_cut [] (fun wx => Hid (∃ Y : List UInt8, Y.length = N ∧ Cells wx A4 (u8s Y)) ∧ Below w.heap.size w wx)
  case first =>
    by_cases hz : 0 < N
    · obtain ⟨gx, rfl, hgx, hgl⟩ := own_some own8 hz
      have hwb := within_bd a2 0 ((N : Int) - 1) (by omega)
      obtain ⟨j, hj⟩ : ∃ j : Nat, within a2 0 ((N : Int) - 1) = j := ⟨(within a2 0 ((N : Int) - 1)).toNat, by omega⟩
      have hjl : j < N := by omega
      have HWJ := hide hj
      clear hj hwb
      obtain ⟨b5, o5, y, hA5, hb5, hc5, hy⟩ := (Cells.of_own own8).byte_at (k := j) (by rw [EN.out]; exact hjl)
      injection hA5 with hA5
      injection hA5 with e1 e2
      subst e1; subst e2
      rw [Nat.zero_add] at hc5
      have hf5 := own8.frozenAt j
      have hxr := xor_u86 y x
      have st := own8.stored j (.int .u8 ((y ^^^ x).toNat : Int))
      have hset : (u8s L).set j (.int .u8 ((y ^^^ x).toNat : Int)) = u8s (L.set j (y ^^^ x)) := by simp [u8s, List.map_set]
      rw [hset] at st
      obtain ⟨V, eV⟩ : ∃ V, V = (y ^^^ x).toNat := ⟨_, rfl⟩
      obtain ⟨X, eX⟩ : ∃ X, X = L.set j (y ^^^ x) := ⟨_, rfl⟩
      have hXl : X.length = N := by rw [eX, List.length_set]; exact EN.out
      rw [← eV] at hxr st
      rw [← eX] at st
      have BX : Below w.heap.size w (u4.setCell ⟨gx, j, none⟩ (.int .u8 (V : Int))) := U4.setCell (by exact hgx) _
      have HXC := hide (Cells.of_own st.1)
      have HXL := hide hXl
      clear st eV eX hset hXl own8 hy U4
      have i1 : (0 : Int) < (N : Int) := by omega
      have i2 : (j : Int) < (N : Int) := by omega
      go_wp2_with fail
      refine (within_any a2 0 _ _ (by omega) (by omega) (by omega)).mono ?_
      rw [HWJ.out]
      rintro e u ⟨rfl, rfl⟩
      go_wp2_with fail
      go_meet
      exact ⟨⟨X, HXL.out, HXC.out⟩, BX⟩
    · obtain rfl : N = 0 := by omega
      have hA8 := Cells.of_own own8
      go_wp2_with fail
      go_meet
      exact ⟨⟨L, EN.out, hA8⟩, U4⟩
  obtain ⟨HY, BY⟩ := hcut
  obtain ⟨Y, hYl, hYc⟩ := HY.out
  have HYL := hide hYl
  clear HY own8 U4 hYl
  go_wp2_with fail
  refine (read6_any A4 N c4 Y _ HYL.out (by omega) hc4 hm4' hYc).mono ?_
  rintro e w9 ⟨rfl, b9⟩
  have B9 := nxt BY b9
  go_wp2_with fail
  refine (known6_any _).mono ?_
  rintro e w10 ⟨rfl, b10⟩
  go_wp2_with fail
  go_ret
  exact ⟨rfl, nxt B9 b10⟩
end Go.Proofs.Ytjahndamfhfjcaa
