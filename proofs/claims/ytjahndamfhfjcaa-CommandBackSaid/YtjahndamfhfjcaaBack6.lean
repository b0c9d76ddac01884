/-
  The walk of CommandBack.
-/
import Derived.Test.YtjahndamfhfjcaaTells6
namespace Go.Proofs.Ytjahndamfhfjcaa
open Go.RowKit
set_option linter.unusedVariables false

theorem cmd_diff {y0 y1 y2 y3 y4 y5 y6 y7 z0 z1 z2 z3 z4 z5 z6 z7 : Int} {y8 z8 : List UInt8} (h : (⟨y0, y1, y2, y3, y4, y5, y6, y7, y8⟩ : Cmd) ≠ ⟨z0, z1, z2, z3, z4, z5, z6, z7, z8⟩) :
    y0 ≠ z0 ∨ (y0 = z0 ∧ y1 ≠ z1) ∨ (y0 = z0 ∧ y1 = z1 ∧ y2 ≠ z2) ∨ (y0 = z0 ∧ y1 = z1 ∧ y2 = z2 ∧ y3 ≠ z3) ∨ (y0 = z0 ∧ y1 = z1 ∧ y2 = z2 ∧ y3 = z3 ∧ y4 ≠ z4) ∨ (y0 = z0 ∧ y1 = z1 ∧ y2 = z2 ∧ y3 = z3 ∧ y4 = z4 ∧ y5 ≠ z5) ∨
    (y0 = z0 ∧ y1 = z1 ∧ y2 = z2 ∧ y3 = z3 ∧ y4 = z4 ∧ y5 = z5 ∧ y6 ≠ z6) ∨ (y0 = z0 ∧ y1 = z1 ∧ y2 = z2 ∧ y3 = z3 ∧ y4 = z4 ∧ y5 = z5 ∧ y6 = z6 ∧ y7 ≠ z7) ∨ (y0 = z0 ∧ y1 = z1 ∧ y2 = z2 ∧ y3 = z3 ∧ y4 = z4 ∧ y5 = z5 ∧ y6 = z6 ∧ y7 = z7 ∧ y8 ≠ z8) := by
  by_cases h0 : y0 = z0
  · by_cases h1 : y1 = z1
    · by_cases h2 : y2 = z2
      · by_cases h3 : y3 = z3
        · by_cases h4 : y4 = z4
          · by_cases h5 : y5 = z5
            · by_cases h6 : y6 = z6
              · by_cases h7 : y7 = z7
                · by_cases h8 : y8 = z8
                  · subst h0 h1 h2 h3 h4 h5 h6 h7 h8; exact absurd rfl h
                  · simp [*]
                · simp [*]
              · simp [*]
            · simp [*]
          · simp [*]
        · simp [*]
      · simp [*]
    · simp [*]
  · simp [*]
set_option maxRecDepth 100000 in
set_option maxHeartbeats 6400000 in
theorem commandBack_walk (c d : CommandV) (A2 : Option Addr) (c2 : Nat) (l2 : List Int) (w : World) (h0 : c.Ok w) (h1 : d.Ok w) (h2 : ArgI .u8 w A2 c2 l2) (rr : l2.length ≤ 140737488351232) :
    Calls Try.prog 7 #[c.val, d.val, .slice A2 l2.length c2] w fun e w' => e = .returned (.bool true) ∧ Below w.heap.size w w' := by
  have hl := h0.lab
  have hdl := h1.lab
  obtain ⟨b, hb, hbc⟩ := h2.bytes
  have hn2 := h2.le
  have hm2 : c2 ≤ 9223372036854775807 := h2.max
  obtain ⟨n2, e2⟩ : ∃ n2, n2 = l2.length := ⟨_, rfl⟩
  rw [← e2] at hn2 hb rr ⊢
  have HB := hide hb
  have sw := short_wf h0
  have tw := short_wf h1
  obtain ⟨s, es⟩ : ∃ s, s = shortC c := ⟨_, rfl⟩
  obtain ⟨t, et⟩ : ∃ t, t = shortC d := ⟨_, rfl⟩
  rw [← es] at sw
  rw [← et] at tw
  have hsl := sw.lab
  have htl := tw.lab
  have SW := hide sw; have TW := hide tw
  obtain ⟨w0, ew0⟩ : ∃ w0, w0 = (w.alloc (.cells c.cells 23)).alloc (.cells d.cells 23) := ⟨_, rfl⟩
  obtain ⟨g, eg⟩ : ∃ g, g = w.heap.size := ⟨_, rfl⟩
  have hC : CAt w0 g c := by rw [ew0, eg]; exact (CAt.new _ _).below (nxt_alloc (Below.refl _ _) _)
  have hO : CAt w0 (g + 1) d := by
    have := CAt.new (w.alloc (.cells c.cells 23)) d
    rw [show (w.alloc (.cells c.cells 23)).heap.size = w.heap.size + 1 by simp] at this
    rw [ew0, eg]; exact this
  have B0 : Below w.heap.size w w0 := by rw [ew0]; exact nxt_alloc (nxt_alloc (Below.refl _ _) _) _
  have hg : w.heap.size ≤ g := by omega
  have ES := hide es
  have ET := hide et
  clear h0 h1 h2 es et e2 hb sw tw
  show Calls Try.prog 7 #[.agg c.cells, .agg d.cells, .slice A2 n2 c2] w _
  simp only [Cmd.cells] at ew0 ⊢
  go_enter Try.func7, Try.ntmps7
  go_upto_region 1 with (fail)
  rw [← ew0, ← eg]
  clear ew0 eg
  obtain ⟨f0, f1, f2, f3, f4, f5, f6, f7, f8⟩ := hC.reads'
  go_wp2_with fail
  refine (short_any c hl _).mono ?_
  rw [← ES.out]
  rintro e w1 ⟨rfl, b1⟩
  have C1 := hC.below b1
  have O1 := hO.below b1
  have B1 := nxt B0 b1
  clear f0 f1 f2 f3 f4 f5 f6 f7 f8 hC hO B0 b1
  obtain ⟨f0, f1, f2, f3, f4, f5, f6, f7, f8⟩ := C1.reads'
  have y0 := C1.frozen 0; have y1 := C1.frozen 1; have y2 := C1.frozen 2; have y3 := C1.frozen 3; have y4 := C1.frozen 4; have y5 := C1.frozen 5; have y6 := C1.frozen 6; have y7 := C1.frozen 7; have y8 := C1.frozen 8
  simp only [Cmd.val, Cmd.cells]
  go_upto_region 2 with (fail)
  obtain ⟨w2, ew2⟩ : ∃ w2, w2 = fillC w1 g s := ⟨_, rfl⟩
  refine wp_at ew2 ?_
  have C2 : CAt w2 g s := by rw [ew2]; exact (fill_at C1 s).1
  have O2 : CAt w2 (g + 1) d := by rw [ew2]; exact O1.leaves (fill_at C1 s).2 (by omega)
  have B2 : Below w.heap.size w w2 := by rw [ew2]; exact below_fill B1 C1 hg
  clear ew2 f0 f1 f2 f3 f4 f5 f6 f7 f8 y0 y1 y2 y3 y4 y5 y6 y7 y8 C1 B1 O1
  obtain ⟨f0, f1, f2, f3, f4, f5, f6, f7, f8⟩ := O2.reads'
  go_wp2_with fail
  refine (short_any d hdl _).mono ?_
  rw [← ET.out]
  rintro e w3 ⟨rfl, b3⟩
  have C3 := C2.below b3
  have O3 := O2.below b3
  have B3 := nxt B2 b3
  clear f0 f1 f2 f3 f4 f5 f6 f7 f8 C2 O2 B2 b3
  obtain ⟨f0, f1, f2, f3, f4, f5, f6, f7, f8⟩ := O3.reads'
  have y0 := O3.frozen 0; have y1 := O3.frozen 1; have y2 := O3.frozen 2; have y3 := O3.frozen 3; have y4 := O3.frozen 4; have y5 := O3.frozen 5; have y6 := O3.frozen 6; have y7 := O3.frozen 7; have y8 := O3.frozen 8
  simp only [Cmd.val, Cmd.cells]
  go_upto_region 3 with (fail)
  obtain ⟨w4, ew4⟩ : ∃ w4, w4 = fillC w3 (g + 1) t := ⟨_, rfl⟩
  refine wp_at ew4 ?_
  have O4 : CAt w4 (g + 1) t := by rw [ew4]; exact (fill_at O3 t).1
  have C4 : CAt w4 g s := by rw [ew4]; exact C3.leaves (fill_at O3 t).2 (by omega)
  have B4 : Below w.heap.size w w4 := by rw [ew4]; exact below_fill B3 O3 (by omega)
  clear ew4 f0 f1 f2 f3 f4 f5 f6 f7 f8 y0 y1 y2 y3 y4 y5 y6 y7 y8 C3 B3 O3
  obtain ⟨R, eR⟩ : ∃ R, R = rightC s := ⟨_, rfl⟩
  obtain ⟨L, eL⟩ : ∃ L, L = encO s := ⟨_, rfl⟩
  obtain ⟨N, eN⟩ : ∃ N, L.length = N := ⟨_, rfl⟩
  obtain ⟨S, eS⟩ : ∃ S, S = rightC t := ⟨_, rfl⟩
  obtain ⟨K, eK⟩ : ∃ K, K = encO t := ⟨_, rfl⟩
  obtain ⟨M, eM⟩ : ∃ M, K.length = M := ⟨_, rfl⟩
  have ER := hide eR; have EL := hide eL; have EN := hide eN; have ESS := hide eS; have EK := hide eK; have EM := hide eM
  have hN : N ≤ 292 := by rw [← eN, eL]; exact length_encO s
  clear eR eL eN eS eK eM
  obtain ⟨f0, f1, f2, f3, f4, f5, f6, f7, f8⟩ := C4.reads'
  go_wp2_with fail
  refine (encode_any s hsl _).mono ?_
  rw [← ER.out, ← EL.out]
  rintro e w5 ⟨A5, c5, he, -, hA5, hc5, hm5, b5⟩
  rw [EN.out] at he hc5
  subst he
  have C5 := C4.below b5
  have O5 := O4.below b5
  have B5 := nxt B4 b5
  have hm5' : c5 ≤ 9223372036854775807 := hm5
  clear f0 f1 f2 f3 f4 f5 f6 f7 f8 C4 O4 B4 b5 hm5
  obtain ⟨f0, f1, f2, f3, f4, f5, f6, f7, f8⟩ := O5.reads'
  go_wp2_with fail
  refine (encode_any t htl _).mono ?_
  rw [← ESS.out, ← EK.out]
  rintro e w6 ⟨A6, c6, he, -, hA6, -, -, b6⟩
  rw [EM.out] at he
  subst he
  have C6 := C5.below b6
  have O6 := O5.below b6
  have B6 := nxt B5 b6
  have hA56 := hA5.below b6
  clear f0 f1 f2 f3 f4 f5 f6 f7 f8 C5 O5 B5 b6 hA5
  obtain ⟨f0, f1, f2, f3, f4, f5, f6, f7, f8⟩ := C6.reads'
  go_wp2_with fail
  refine (right_any s hsl _).mono ?_
  rw [← ER.out]
  rintro e w7 ⟨rfl, b7⟩
  have C7 := C6.below b7
  have O7 := O6.below b7
  have B7 := nxt B6 b7
  have hA57 := hA56.below b7
  have hA67 := hA6.below b7
  clear f0 f1 f2 f3 f4 f5 f6 f7 f8 C6 O6 B6 b7 hA56 hA6
  have eb : (((R : Int) == 0) != ((R : Int) == 0)) = false := by simp
  go_upto_if 38 with (fail)
  clear eb
  go_cut [] (fun wx => Below w.heap.size w wx)
  case first =>
    by_cases hR : R = 0
    rotate_left
    · have i1 : ((R : Int) == 0) = false := by simp; omega
      clear hR
      go_wp2_with fail
      go_meet
      exact B7
    · subst hR
      have hEL : L = encC s := by have h1 := EL.out; unfold encO at h1; rw [← ER.out, if_pos rfl] at h1; exact h1
      have hdec : decC L = (askedC s, 0) := by rw [hEL]; exact dec_enc ER.out.symm SW.out
      have hP : ∀ w, DecAt w L = fun e w' => e = .returned (.tuple #[(askedC s).val, .int .i64 ((0 : Nat) : Int)]) ∧ Below w.heap.size w w' := by intro w; unfold DecAt; rw [hdec]
      have hinj : S = 0 → (L = K ↔ askedC s = askedC t) := by
        intro hS
        have hEK : K = encC t := by have h1 := EK.out; unfold encO at h1; rw [← ESS.out, if_pos hS] at h1; exact h1
        rw [hEL, hEK]
        exact enc_inj ER.out.symm (by rw [← ESS.out]; exact hS) SW.out TW.out
      have hYs := asked_any s
      have hZs := asked_any t
      obtain ⟨Y, eY⟩ : ∃ Y, Y = askedC s := ⟨_, rfl⟩
      obtain ⟨Z, eZ⟩ : ∃ Z, Z = askedC t := ⟨_, rfl⟩
      rw [← eY] at hP hYs hinj
      rw [← eZ] at hZs hinj
      have HP := hide hP; have HYS := hide hYs; have HZS := hide hZs; have HINJ := hide hinj
      clear hEL hdec hP hYs hZs hinj eY eZ
      go_wp2_with fail
      refine (decode_any A5 N c5 L _ EN.out (by omega) hc5 hm5' hA57).mono ?_
      rw [HP.out]
      rintro e w8 ⟨rfl, b8⟩
      have C8 := C7.below b8
      have O8 := O7.below b8
      have B8 := nxt B7 b8
      have hA58 := hA57.below b8
      have hA68 := hA67.below b8
      clear C7 O7 B7 b8 hA57 hA67
      simp only [Cmd.val, Cmd.cells]
      go_upto_region 9 with (fail)
      obtain ⟨w9, ew9⟩ : ∃ w9, w9 = w8.alloc (.cells Y.cells 23) := ⟨_, rfl⟩
      obtain ⟨q, eq⟩ : ∃ q, q = w8.heap.size := ⟨_, rfl⟩
      have D9 : CAt w9 q Y := by rw [ew9, eq]; exact CAt.new _ _
      have b9 : Below w8.heap.size w8 w9 := by rw [ew9]; exact nxt_alloc (Below.refl _ _) _
      have C9 := C8.below b9
      have O9 := O8.below b9
      have B9 := nxt B8 b9
      have hA59 := hA58.below b9
      have hA69 := hA68.below b9
      simp only [Cmd.cells] at ew9
      refine wp_at ew9 ?_
      rw [← eq]
      clear ew9 eq C8 O8 B8 b9 hA58 hA68
      have lC0 := C9.laterD 0 _ rfl
      have lD0 := D9.laterD 0 _ rfl
      have lC1 := C9.laterD 1 _ rfl
      have lD1 := D9.laterD 1 _ rfl
      have lC2 := C9.laterD 2 _ rfl
      have lD2 := D9.laterD 2 _ rfl
      have lC3 := C9.laterD 3 _ rfl
      have lD3 := D9.laterD 3 _ rfl
      have lC4 := C9.laterD 4 _ rfl
      have lD4 := D9.laterD 4 _ rfl
      have lC5 := C9.laterD 5 _ rfl
      have lD5 := D9.laterD 5 _ rfl
      have lC6 := C9.laterD 6 _ rfl
      have lD6 := D9.laterD 6 _ rfl
      have lC7 := C9.laterD 7 _ rfl
      have lD7 := D9.laterD 7 _ rfl
      have lC8 := C9.laterD 8 _ rfl
      have lD8 := D9.laterD 8 _ rfl
      have C9 := hide C9; have O9 := hide O9
      by_cases hS : S = 0
      rotate_left
      · have i2 : ((S : Int) == 0) = false := by simp; omega
        clear HINJ hS
        go_wp2_with fail
        refine wp_region_grow (R := Stays) 99999 [5, 18, 20] [0, 1, 2, 3, 4, 5, 6, 7, 8, 9, 10, 11, 12, 13, 14, 15, 16, 17, 19, 18, 20, 21, 22, 23, 24] (by kernel_rfl) Stays.tr Stays.rf (by kernel_rfl) (fun _ _ _ _ _ h => h) ?_
        (repeat ((first | (refine grow_skip (by rfl) (by rfl) ?_ (by first | exact Stays.rf _ | exact Lower.rf _ _ | exact Holds.rf _ _)) | (refine grow_take (v := ?_) (by rfl) (by rfl) (by rfl) ?_ ?_; rotate_left 1; focus (intro w' hSw; go_simp; (try (with_reducible rfl)); done))); (try simp only [Act.put, List.setIfInBounds_toArray, List.set_cons_zero, List.set_cons_succ])))
        clear lC0 lC1 lC2 lC3 lC4 lC5 lC6 lC7 lC8 lD0 lD1 lD2 lD3 lD4 lD5 lD6 lD7 lD8
        refine grow_move (by rfl) (by rfl) (by rfl) (fun K hK => ?_); go_simp
        refine (HYS.out _).mono ?_
        rintro e u1 ⟨rfl, d1⟩
        refine hK.out _ _ (d1) ?_; clear hK K; (try simp only [Act.put, List.setIfInBounds_toArray, List.set_cons_zero, List.set_cons_succ])
        simp only [Cmd.val, Cmd.cells]
        (repeat ((first | (refine grow_skip (by rfl) (by rfl) ?_ (by first | exact Stays.rf _ | exact Lower.rf _ _ | exact Holds.rf _ _)) | (refine grow_take (v := ?_) (by rfl) (by rfl) (by rfl) ?_ ?_; rotate_left 1; focus (intro w' hSw; go_simp; (try (with_reducible rfl)); done))); (try simp only [Act.put, List.setIfInBounds_toArray, List.set_cons_zero, List.set_cons_succ])))
        refine grow_done ?_
        go_wp2_with fail
        go_meet
        exact nxt (nxt_drew B9) d1
      · subst hS
        replace HINJ := hide (HINJ.out rfl)
        go_wp2_with fail
        refine wp_region_grow (R := Stays) 99999 [5, 18, 20] [0, 1, 2, 3, 4, 5, 6, 7, 8, 9, 10, 11, 12, 13, 14, 15, 16, 17, 19, 18, 20, 21, 22, 23, 24] (by kernel_rfl) Stays.tr Stays.rf (by kernel_rfl) (fun _ _ _ _ _ h => h) ?_
        (repeat ((first | (refine grow_skip (by rfl) (by rfl) ?_ (by first | exact Stays.rf _ | exact Lower.rf _ _ | exact Holds.rf _ _)) | (refine grow_take (v := ?_) (by rfl) (by rfl) (by rfl) ?_ ?_; rotate_left 1; focus (intro w' hSw; go_simp; (try (with_reducible rfl)); done))); (try simp only [Act.put, List.setIfInBounds_toArray, List.set_cons_zero, List.set_cons_succ])))
        clear lC0 lC1 lC2 lC3 lC4 lC5 lC6 lC7 lC8 lD0 lD1 lD2 lD3 lD4 lD5 lD6 lD7 lD8
        refine grow_move (by rfl) (by rfl) (by rfl) (fun K hK => ?_); go_simp
        refine (HYS.out _).mono ?_
        rintro e u1 ⟨rfl, d1⟩
        refine hK.out _ _ (d1) ?_; clear hK K; (try simp only [Act.put, List.setIfInBounds_toArray, List.set_cons_zero, List.set_cons_succ])
        have C1 := (show CAt w9.drew g s from C9.out).below d1
        have O1 := (show CAt w9.drew (g + 1) t from O9.out).below d1
        have U1 := nxt (nxt_drew B9) d1
        have k1 := Cells.strs (P := Try.prog) Try.underlying28 Try.underlying5 Try.underlying9 EN.out (hA59.drew.below d1) c5
        have k2 := Cells.strs (P := Try.prog) Try.underlying28 Try.underlying5 Try.underlying9 EM.out (hA69.drew.below d1) c6
        simp only [Cmd.val, Cmd.cells]
        have lC0 := C1.laterT 0 _ rfl
        have lD0 := O1.laterT 0 _ rfl
        have lC1 := C1.laterT 1 _ rfl
        have lD1 := O1.laterT 1 _ rfl
        have lC2 := C1.laterT 2 _ rfl
        have lD2 := O1.laterT 2 _ rfl
        have lC3 := C1.laterT 3 _ rfl
        have lD3 := O1.laterT 3 _ rfl
        have lC4 := C1.laterT 4 _ rfl
        have lD4 := O1.laterT 4 _ rfl
        have lC5 := C1.laterT 5 _ rfl
        have lD5 := O1.laterT 5 _ rfl
        have lC6 := C1.laterT 6 _ rfl
        have lD6 := O1.laterT 6 _ rfl
        have lC7 := C1.laterT 7 _ rfl
        have lD7 := O1.laterT 7 _ rfl
        have lC8 := C1.laterT 8 _ rfl
        have lD8 := O1.laterT 8 _ rfl
        clear C9 O9 C1 O1 B9 d1 hA59 hA69
        (repeat ((first | (refine grow_skip (by rfl) (by rfl) ?_ (by first | exact Stays.rf _ | exact Lower.rf _ _ | exact Holds.rf _ _)) | (refine grow_take (v := ?_) (by rfl) (by rfl) (by rfl) ?_ ?_; rotate_left 1; focus (intro w' hSw; go_simp; (try (with_reducible rfl)); done))); (try simp only [Act.put, List.setIfInBounds_toArray, List.set_cons_zero, List.set_cons_succ])))
        clear lC0 lC1 lC2 lC3 lC4 lC5 lC6 lC7 lC8 lD0 lD1 lD2 lD3 lD4 lD5 lD6 lD7 lD8 k1 k2
        refine grow_move (by rfl) (by rfl) (by rfl) (fun K hK => ?_); go_simp
        refine (HYS.out _).mono ?_
        rintro e u2 ⟨rfl, d2⟩
        refine hK.out _ _ (d2) ?_; clear hK K; (try simp only [Act.put, List.setIfInBounds_toArray, List.set_cons_zero, List.set_cons_succ])
        simp only [Cmd.val, Cmd.cells]
        have U2 := nxt U1 d2
        clear U1 d2
        refine grow_move (by rfl) (by rfl) (by rfl) (fun K hK => ?_); go_simp
        refine (HZS.out _).mono ?_
        rintro e u3 ⟨rfl, d3⟩
        refine hK.out _ _ (d3) ?_; clear hK K; (try simp only [Act.put, List.setIfInBounds_toArray, List.set_cons_zero, List.set_cons_succ])
        simp only [Cmd.val, Cmd.cells]
        have U3 := nxt U2 d3
        clear U2 d3 HYS HZS HP
        by_cases hYZ : Y = Z
        · subst hYZ
          have hLK : L = K := HINJ.out.2 rfl
          have e6 : ((str L).toList == (str K).toList) = true := by rw [hLK]; simp
          clear hLK HINJ
          (repeat ((first | (refine grow_skip (by rfl) (by rfl) ?_ (by first | exact Stays.rf _ | exact Lower.rf _ _ | exact Holds.rf _ _)) | (refine grow_take (v := ?_) (by rfl) (by rfl) (by rfl) ?_ ?_; rotate_left 1; focus (intro w' hSw; go_simp; (try (with_reducible rfl)); done))); (try simp only [Act.put, List.setIfInBounds_toArray, List.set_cons_zero, List.set_cons_succ])))
          refine grow_done ?_
          go_wp2_with fail
          go_meet
          exact U3
        · have hLK : L ≠ K := fun h => hYZ (HINJ.out.1 h)
          have e6 : ((str L).toList == (str K).toList) = false := by rw [str_toList, str_toList]; simpa using hLK
          clear hLK HINJ
          obtain ⟨y0, y1, y2, y3, y4, y5, y6, y7, y8⟩ := Y
          obtain ⟨z0, z1, z2, z3, z4, z5, z6, z7, z8⟩ := Z
          have hd := cmd_diff hYZ
          clear hYZ
          rcases hd with h | ⟨rfl, h⟩ | ⟨rfl, rfl, h⟩ | ⟨rfl, rfl, rfl, h⟩ | ⟨rfl, rfl, rfl, rfl, h⟩ | ⟨rfl, rfl, rfl, rfl, rfl, h⟩ | ⟨rfl, rfl, rfl, rfl, rfl, rfl, h⟩ | ⟨rfl, rfl, rfl, rfl, rfl, rfl, rfl, h⟩ | ⟨rfl, rfl, rfl, rfl, rfl, rfl, rfl, rfl, h⟩
          rotate_left 8
          have h' : ((str y8).toList == (str z8).toList) = false := by rw [str_toList, str_toList]; simpa using h
          have h2 : ¬ (str y8).toList = (str z8).toList := by rw [str_toList, str_toList]; exact h
          clear h
          (repeat ((first | (refine grow_skip (by rfl) (by rfl) ?_ (by first | exact Stays.rf _ | exact Lower.rf _ _ | exact Holds.rf _ _)) | (refine grow_take (v := ?_) (by rfl) (by rfl) (by rfl) ?_ ?_; rotate_left 1; focus (intro w' hSw; go_simp; (try (with_reducible rfl)); done))); (try simp only [Act.put, List.setIfInBounds_toArray, List.set_cons_zero, List.set_cons_succ])))
          refine grow_done ?_
          go_wp2_with fail
          go_meet
          exact U3
          all_goals
            (repeat ((first | (refine grow_skip (by rfl) (by rfl) ?_ (by first | exact Stays.rf _ | exact Lower.rf _ _ | exact Holds.rf _ _)) | (refine grow_take (v := ?_) (by rfl) (by rfl) (by rfl) ?_ ?_; rotate_left 1; focus (intro w' hSw; go_simp; (try (with_reducible rfl)); done))); (try simp only [Act.put, List.setIfInBounds_toArray, List.set_cons_zero, List.set_cons_succ])))
            refine grow_done ?_
            go_wp2_with fail
            go_meet
            exact U3
  obtain ⟨w9, ew9⟩ : ∃ w9, w9 = wc := ⟨_, rfl⟩
  rw [← ew9] at hcut ⊢
  clear ew9 C7 O7 B7 hA57 hA67
  have hbc9 := hbc.below hcut
  obtain ⟨Z, eZ⟩ : ∃ Z, Z = (decC b).1 := ⟨_, rfl⟩
  obtain ⟨Y, eY⟩ : ∃ Y, Y = (decC b).2 := ⟨_, rfl⟩
  have hP : ∀ w, DecAt w b = fun e w' => e = .returned (.tuple #[Z.val, .int .i64 (Y : Nat)]) ∧ Below w.heap.size w w' := by intro w; rw [eZ, eY]; rfl
  have hD : decC b = (Z, Y) := by rw [eZ, eY]
  have HP := hide hP
  have HD := hide hD
  clear eZ eY hP hD
  go_wp2_with fail
  refine (decode_any A2 n2 c2 b _ HB.out (by omega) hn2 hm2 hbc9).mono ?_
  rw [HP.out]
  rintro e w10 ⟨rfl, b10⟩
  have B10 := nxt hcut b10
  have hbc10 := hbc9.below b10
  clear hbc9 hcut b10
  simp only [Cmd.val, Cmd.cells]
  go_upto_region 12 with (fail)
  obtain ⟨w11, ew11⟩ : ∃ w11, w11 = w10.alloc (.cells Z.cells 23) := ⟨_, rfl⟩
  obtain ⟨q, eq⟩ : ∃ q, q = w10.heap.size := ⟨_, rfl⟩
  have D11 : CAt w11 q Z := by rw [ew11, eq]; exact CAt.new _ _
  have b11 : Below w10.heap.size w10 w11 := by rw [ew11]; exact nxt_alloc (Below.refl _ _) _
  have B11 := nxt B10 b11
  have hbc11 := hbc10.below b11
  simp only [Cmd.cells] at ew11
  refine wp_at ew11 ?_
  rw [← eq]
  clear ew11 eq B10 b11 hbc10
  by_cases hY : Y = 0
  · subst hY
    obtain ⟨r1, r2, -, r4⟩ := dec_back HD.out
    have hE : Hid (encO Z = b) := hide (by unfold encO; rw [if_pos r1]; exact r2)
    have hR : Hid (rightC Z = 0) := hide r1
    have hZl := r4.lab
    obtain ⟨f0, f1, f2, f3, f4, f5, f6, f7, f8⟩ := D11.reads'
    clear r1 r2 r4 D11
    go_wp2_with fail
    refine (encode_any Z hZl _).mono ?_
    rw [hE.out, hR.out]
    rintro e w12 ⟨A12, c12, he, -, hA12, -, -, b12⟩
    rw [HB.out] at he
    subst he
    have B12 := nxt B11 b12
    have k1 := run_str (P := Try.prog) Try.underlying28 Try.underlying5 Try.underlying9 c12 HB.out hA12
    have k2 := run_str (P := Try.prog) Try.underlying28 Try.underlying5 Try.underlying9 c2 HB.out (hbc11.below b12)
    have e6 : ((str b).toList == (str b).toList) = true := by simp
    clear f0 f1 f2 f3 f4 f5 f6 f7 f8 hbc11 b12 hA12 B11
    go_wp2_with fail
    refine (known6_any _).mono ?_
    rintro e w13 ⟨rfl, b13⟩
    go_wp2_with fail
    go_ret
    exact ⟨rfl, nxt B12 b13⟩
  · have i3 : ((Y : Int) == 0) = false := by simp; omega
    obtain rfl := dec_bad HD.out hY
    obtain ⟨f0, f1, f2, f3, f4, f5, f6, f7, f8⟩ := D11.reads'
    have es : (str ([] : List UInt8)).toList = [] := str_toList []
    clear hY D11 HD HP
    simp only [Cmd.zero] at f0 f1 f2 f3 f4 f5 f6 f7 f8 ⊢
    go_wp2_with fail
    refine (known6_any _).mono ?_
    rintro e w13 ⟨rfl, b13⟩
    go_wp2_with fail
    go_ret
    exact ⟨rfl, nxt B11 b13⟩
end Go.Proofs.Ytjahndamfhfjcaa
