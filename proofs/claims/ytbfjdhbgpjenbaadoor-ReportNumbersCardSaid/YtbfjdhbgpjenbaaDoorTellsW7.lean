/-
  The walk of ReportTells.
-/
import Derived.Test.YtbfjdhbgpjenbaaDoorFramesW7
import Derived.Test.YtbfjdhbgpjenbaaDoorStrs
import Derived.Test.YtbfjdhbgpjenbaaDoorGrow
import Derived.Laws.BitsAllLaws
namespace Go.Proofs.YtbfjdhbgpjenbaaDoor
set_option linter.unusedSimpArgs false
open Go.RowKit
set_option linter.unusedVariables false

theorem byte_of7 {n : Int} (h : (Lit.int .u8 n).wf = true) : ∃ x : UInt8, n = (x.toNat : Int) := by
  have := u8_bd h
  exact ⟨lo8 n.toNat, by rw [lo8_toNat]; omega⟩
theorem xor_u87 (a b : UInt8) : bits .xor .u8 (a.toNat : Int) (b.toNat : Int) = ((a ^^^ b).toNat : Int) := by
  have h1 := a.toNat_lt
  have h2 := b.toNat_lt
  rw [u8_xor_nat _ _ (by omega) (by omega), UInt8.toNat_xor]
theorem later {w : World} {b k : Nat} {v : Value} (hb : b < w.heap.size) (h : w.cell? ⟨b, k, none⟩ = some v) : ∀ u, Stays w.drew u → u.cell? ⟨b, k, none⟩ = some v := fun u hu =>
  (hu.cell (p := ⟨b, k, none⟩) hb).trans h
set_option maxRecDepth 100000 in
set_option maxHeartbeats 1600000 in
theorem reportTells_walk (A0 : Option Addr) (n0 c0 : Nat) (A1 : Option Addr) (c1 : Nat) (l1 : List Int) (a2 a3 : Int) (w : World) (hT : PowTab w) (h0 : Reports w A0 n0 c0) (h1 : ArgI .u8 w A1 c1 l1) (_w2 : (Lit.int .i64 a2).wf = true) (w3 : (Lit.int .u8 a3).wf = true) :
    Calls Tryd.prog 5 #[.slice A0 n0 c0, .slice A1 l1.length c1, .int .i64 a2, .int .u8 a3] w fun e w' => e = .returned (.bool true) ∧ Below w.heap.size w w' := by
  obtain ⟨x, rfl⟩ := byte_of7 w3
  obtain ⟨bb, hbl, hB0⟩ := h1.bytes
  have hm2 : c1 ≤ 9223372036854775807 := h1.max
  have hl2 := h1.le
  obtain ⟨l, hl, hR, hwf⟩ := h0.row
  have hn0 : n0 ≤ 9223372036854775807 := by have := h0.le; have := h0.max; unfold maxLen at this; omega
  have hn0c := h0.le
  have hc0 : c0 ≤ 9223372036854775807 := h0.max
  obtain ⟨m, em⟩ : ∃ m, m = min n0 15 := ⟨_, rfl⟩
  obtain ⟨L, eL⟩ : ∃ L, L = l.take m := ⟨_, rfl⟩
  have hL : L.length = m := by rw [eL, List.length_take, hl]; omega
  have hRL : Cells w A0 (repsV L) := by rw [eL]; exact hR.takeR m
  have hwL : wfAll L := by rw [eL]; exact hwf.take m
  obtain ⟨n2, en2⟩ : ∃ n2, n2 = l1.length := ⟨_, rfl⟩
  rw [← en2] at hl2 hbl ⊢
  obtain ⟨q, eq⟩ : ∃ q, q = min n2 200 := ⟨_, rfl⟩
  obtain ⟨T, eT⟩ : ∃ T, T = bb.take q := ⟨_, rfl⟩
  have hTl : T.length = q := by rw [eT]; simp; omega
  have hTc : Cells w A1 (u8s T) := by rw [eT]; exact hB0.takeB q
  have hq20 : q ≤ 200 := by omega
  have hm15 : m ≤ 15 := by omega
  obtain ⟨X, eX⟩ : ∃ X, X = allL L := ⟨_, rfl⟩
  obtain ⟨N, eN⟩ : ∃ N, X.length = N := ⟨_, rfl⟩
  have hN : N ≤ 630 := by have := length_allL L; rw [← eX, eN, hL] at this; omega
  have HT := hide hT
  have EM := hide em; have EQ := hide eq; have HL := hide hL; have HWL := hide hwL; have HTL := hide hTl; have EX := hide eX; have EN := hide eN
  clear h0 h1 hR hwf hB0 eL en2 eT hT em eq hl hbl hL hwL hTl eX eN w3 _w2
  go_enter Tryd.func5, Tryd.ntmps5
  go_upto_if 18 with (fail)
  go_cut [0] (fun v wx => v = .slice A0 m c0 ∧ w = wx)
  case first =>
    by_cases h : 15 < n0
    · have e1 : m = 15 := by have := EM.out; omega
      have i1 : (15 : Int) < n0 := by omega
      have i2 : 15 ≤ c0 := by omega
      subst e1
      go_wp2_with fail
      go_meet
      exact ⟨rfl, rfl⟩
    · have e1 : m = n0 := by have := EM.out; omega
      have i1 : ¬ (15 : Int) < n0 := by omega
      subst e1
      go_wp2_with fail
      go_meet
      exact ⟨rfl, rfl⟩
  obtain ⟨rfl, hwx⟩ := hcut
  subst hwx
  go_wp2_with fail
  go_loopw [9] (fun i wr => ∃ k : Nat, k ≤ m ∧ i = .int .i64 (k : Int) ∧ Below w.heap.size w wr) (fun i _ => m - (intOf i).toNat)
  case atStart => exact ⟨0, Nat.zero_le _, rfl, Below.refl _ _⟩
  case round =>
    obtain ⟨k, hk, rfl, B⟩ := hrel
    by_cases hlt : k < m
    · obtain ⟨r, hr⟩ : ∃ r, L[k]? = some r := ⟨L[k]'(by rw [HL.out]; exact hlt), List.getElem?_eq_getElem _⟩
      have hrw : r.wf := HWL.out r (mem_of_some hr)
      obtain ⟨b, o, rfl, hb, q0, q1, q2, q3, q4, q5, q6, q7⟩ := reps_at hRL hr
      have hb1 : b < wr.heap.size := Nat.lt_of_lt_of_le hb B.size
      replace q0 := (B.cell (p := ⟨b, _, none⟩) hb).trans q0
      replace q1 := (B.cell (p := ⟨b, _, none⟩) hb).trans q1
      replace q2 := (B.cell (p := ⟨b, _, none⟩) hb).trans q2
      replace q3 := (B.cell (p := ⟨b, _, none⟩) hb).trans q3
      replace q4 := (B.cell (p := ⟨b, _, none⟩) hb).trans q4
      replace q5 := (B.cell (p := ⟨b, _, none⟩) hb).trans q5
      replace q6 := (B.cell (p := ⟨b, _, none⟩) hb).trans q6
      replace q7 := (B.cell (p := ⟨b, _, none⟩) hb).trans q7
      have i1 : (k : Int) < m := by omega
      have hwk : IntKind.i64.wrap ((k : Int) + 1) = (k : Int) + 1 := IntWalk.i64_in _ (by omega)
      obtain ⟨E, eE⟩ : ∃ E, E = encO r := ⟨_, rfl⟩
      obtain ⟨Y, eY⟩ : ∃ Y, Y = encY r := ⟨_, rfl⟩
      obtain ⟨M, eM⟩ : ∃ M, E.length = M := ⟨_, rfl⟩
      have hM : M ≤ 36 := by rw [← eM, eE]; exact length_encO r
      have EE := hide eE; have EY := hide eY; have EMM := hide eM; have HW := hide hrw
      clear hr hRL hTc eE eY eM hrw
      go_wp2_with fail
      refine (encode_any r _).mono ?_
      rw [← EE.out, ← EY.out]
      intro e w1 h1
      obtain ⟨A3, c3, rfl, -, hA3, -, -, b1⟩ := h1.get EMM.out
      have B1 := nxt B b1
      replace q0 := (b1.cell (p := ⟨b, _, none⟩) hb1).trans q0
      replace q1 := (b1.cell (p := ⟨b, _, none⟩) hb1).trans q1
      replace q2 := (b1.cell (p := ⟨b, _, none⟩) hb1).trans q2
      replace q3 := (b1.cell (p := ⟨b, _, none⟩) hb1).trans q3
      replace q4 := (b1.cell (p := ⟨b, _, none⟩) hb1).trans q4
      replace q5 := (b1.cell (p := ⟨b, _, none⟩) hb1).trans q5
      replace q6 := (b1.cell (p := ⟨b, _, none⟩) hb1).trans q6
      replace q7 := (b1.cell (p := ⟨b, _, none⟩) hb1).trans q7
      have hb2 : b < w1.heap.size := Nat.lt_of_lt_of_le hb1 b1.size
      clear h1 B b1 hb1
      go_wp2_with fail
      refine (refEncode_any r _).mono ?_
      rw [← EE.out, ← EY.out]
      intro e w2 h2
      obtain ⟨A4, c4, rfl, -, hA4, k1, k2, b2⟩ := h2.get EMM.out
      have B2 := nxt B1 b2
      have hA3' := hA3.below b2
      have k2' : c4 ≤ 9223372036854775807 := by unfold maxLen at k2; omega
      have hb3 : b < w2.heap.size := Nat.lt_of_lt_of_le hb2 b2.size
      have x0 := later hb3 ((b2.cell (p := ⟨b, _, none⟩) hb2).trans q0)
      have x1 := later hb3 ((b2.cell (p := ⟨b, _, none⟩) hb2).trans q1)
      have x2 := later hb3 ((b2.cell (p := ⟨b, _, none⟩) hb2).trans q2)
      have x3 := later hb3 ((b2.cell (p := ⟨b, _, none⟩) hb2).trans q3)
      have x4 := later hb3 ((b2.cell (p := ⟨b, _, none⟩) hb2).trans q4)
      have x5 := later hb3 ((b2.cell (p := ⟨b, _, none⟩) hb2).trans q5)
      have x6 := later hb3 ((b2.cell (p := ⟨b, _, none⟩) hb2).trans q6)
      have x7 := later hb3 ((b2.cell (p := ⟨b, _, none⟩) hb2).trans q7)
      have ks1 := Cells.strs (P := Tryd.prog) Tryd.underlying32 Tryd.underlying5 Tryd.underlying9 EMM.out hA3'.drew c3
      have ks2 := Cells.strs (P := Tryd.prog) Tryd.underlying32 Tryd.underlying5 Tryd.underlying9 EMM.out hA4.drew c4
      clear h2 B1 b2 hA3 hA3' hb2 k2 q0 q1 q2 q3 q4 q5 q6 q7
      go_wp2_with fail
      refine wp_region_grow (R := Stays) 99999 [15, 20, 25] [0, 1, 2, 3, 4, 5, 6, 7, 8, 9, 10, 11, 12, 13, 14, 16, 17, 18, 19, 15, 20, 21, 22, 23, 24, 25, 26, 27] (by kernel_rfl) Stays.tr Stays.rf (by kernel_rfl) (fun _ _ _ _ _ h => h) ?_
      (repeat ((first | (refine grow_skip (by rfl) (by rfl) ?_ (by first | exact Stays.rf _ | exact Lower.rf _ _ | exact Holds.rf _ _)) | (refine grow_take (v := ?_) (by rfl) (by rfl) (by rfl) ?_ ?_; rotate_left 1; focus (intro w' hSw; go_simp; (try (with_reducible rfl)); done))); (try simp only [Act.put, List.setIfInBounds_toArray, List.set_cons_zero, List.set_cons_succ])))
      clear x0 x1 x2 x3 x4 x5 x6 x7 ks1 ks2
      refine grow_move (by rfl) (by rfl) (by rfl) (fun K hK => ?_); go_simp
      refine (text_any r _ HW.out (HT.out.below (nxt_drew B2))).mono ?_
      rintro e u1 ⟨rfl, d1⟩
      refine hK.out _ _ (d1) ?_; clear hK K; (try simp only [Act.put, List.setIfInBounds_toArray, List.set_cons_zero, List.set_cons_succ])
      have U1 := nxt (nxt_drew B2) d1
      have hA5 := (show Cells w2.drew A4 (u8s E) from hA4).below d1
      clear B2 d1 hA4
      (repeat ((first | (refine grow_skip (by rfl) (by rfl) ?_ (by first | exact Stays.rf _ | exact Lower.rf _ _ | exact Holds.rf _ _)) | (refine grow_take (v := ?_) (by rfl) (by rfl) (by rfl) ?_ ?_; rotate_left 1; focus (intro w' hSw; go_simp; (try (with_reducible rfl)); done))); (try simp only [Act.put, List.setIfInBounds_toArray, List.set_cons_zero, List.set_cons_succ])))
      refine grow_move (by rfl) (by rfl) (by rfl) (fun K hK => ?_); go_simp
      refine (refText_any7 r _ HW.out).mono ?_
      rintro e u2 ⟨rfl, d2⟩
      refine hK.out _ _ (d2) ?_; clear hK K; (try simp only [Act.put, List.setIfInBounds_toArray, List.set_cons_zero, List.set_cons_succ])
      have U2 := nxt U1 d2
      have hA6 := hA5.below d2
      clear U1 d2 hA5
      (repeat ((first | (refine grow_skip (by rfl) (by rfl) ?_ (by first | exact Stays.rf _ | exact Lower.rf _ _ | exact Holds.rf _ _)) | (refine grow_take (v := ?_) (by rfl) (by rfl) (by rfl) ?_ ?_; rotate_left 1; focus (intro w' hSw; go_simp; (try (with_reducible rfl)); done))); (try simp only [Act.put, List.setIfInBounds_toArray, List.set_cons_zero, List.set_cons_succ])))
      refine grow_move (by rfl) (by rfl) (by rfl) (fun K hK => ?_); go_simp
      refine (read7_any A4 M c4 E _ EMM.out (by omega) k1 k2' hA6).mono ?_
      rintro e u3 ⟨rfl, d3⟩
      refine hK.out _ _ (d3) ?_; clear hK K; (try simp only [Act.put, List.setIfInBounds_toArray, List.set_cons_zero, List.set_cons_succ])
      have U3 := nxt U2 d3
      clear U2 d3 hA6
      (repeat ((first | (refine grow_skip (by rfl) (by rfl) ?_ (by first | exact Stays.rf _ | exact Lower.rf _ _ | exact Holds.rf _ _)) | (refine grow_take (v := ?_) (by rfl) (by rfl) (by rfl) ?_ ?_; rotate_left 1; focus (intro w' hSw; go_simp; (try (with_reducible rfl)); done))); (try simp only [Act.put, List.setIfInBounds_toArray, List.set_cons_zero, List.set_cons_succ])))
      refine grow_done ?_
      go_wp2_with fail
      go_roundw
      case rel => exact ⟨k + 1, by omega, by go_num, U3⟩
      case measure => simp [intOf]; omega
    · have i1 : ¬ (k : Int) < m := by omega
      have hRL1 := hRL.below B
      have hTc1 := hTc.below B
      clear hRL hTc
      go_wp2_with fail
      refine (all_any A0 m c0 L _ HL.out (by omega) hRL1).mono ?_
      rw [← EX.out]
      intro e w1 h1
      obtain ⟨A3, c3, rfl, -, hA3, -, -, b1⟩ := fresh_get h1 EN.out
      have hRL2 := hRL1.below b1
      have hTc2 := hTc1.below b1
      have B1 := nxt B b1
      clear h1 B b1 hRL1 hTc1
      go_wp2_with fail
      refine (refAll_any A0 m c0 L _ HL.out (by omega) hRL2).mono ?_
      rw [← EX.out]
      intro e w2 h2
      obtain ⟨A4, c4, rfl, own4, hA4, k1, k2, b2⟩ := fresh_get h2 EN.out
      have k2' : c4 ≤ 9223372036854775807 := by unfold maxLen at k2; omega
      have hA3' := hA3.below b2
      have hTc3 := hTc2.below b2
      have B2 := nxt B1 b2
      have own4 := hide (own_base own4 B1.size)
      have cv1 := run_str (P := Tryd.prog) Tryd.underlying32 Tryd.underlying5 Tryd.underlying9 c3 EN.out hA3'
      have cv2 := run_str (P := Tryd.prog) Tryd.underlying32 Tryd.underlying5 Tryd.underlying9 c4 EN.out hA4
      clear h2 hRL2 hTc2 hA3 hA3' B1 b2 k2
      go_wp2_with fail
      clear cv1 cv2
      refine (read7_any A4 N c4 X _ EN.out (by omega) k1 k2' hA4).mono ?_
      rintro e w3 ⟨rfl, b3⟩
      have hTc4 := hTc3.below b3
      have B3 := nxt B2 b3
      have own5 := hide (own_below own4.out b3)
      clear hTc3 B2 b3 hA4 own4
      go_wp2_with fail
      refine (cut_any A1 n2 c1 200 _ hl2 hm2 (by omega) (by omega)).mono ?_
      rw [show min n2 (200 : Int).toNat = q from EQ.out.symm]
      rintro e u ⟨rfl, rfl⟩
      go_wp2_with fail
      refine (read7_any A1 q c1 T _ HTL.out (by omega) (by have := EQ.out; omega) hm2 hTc4).mono ?_
      rintro e w4 ⟨rfl, b4⟩
      have U4 := nxt B3 b4
      have own8 := own_below own5.out b4
      clear hTc4 B3 b4 own5
      go_upto_if 93 with (fail)
      go_cut [] (fun wx => Hid (∃ Y : List UInt8, Y.length = N ∧ Cells wx A4 (u8s Y)) ∧ Below w.heap.size w wx)
      case first =>
        by_cases hz : 0 < N
        · obtain ⟨gx, rfl, hgx, hgl⟩ := own_some own8 hz
          have hwb := within_bd a2 0 ((N : Int) - 1) (by omega)
          obtain ⟨j, hj⟩ : ∃ j : Nat, within a2 0 ((N : Int) - 1) = j := ⟨(within a2 0 ((N : Int) - 1)).toNat, by omega⟩
          have hjl : j < N := by omega
          have HWJ := hide hj
          clear hj hwb
          obtain ⟨b5, o5, y, hA5, hb5, hc5, hy⟩ := (Cells.of_own own8).byte_at (k := j) (by rw [EN.out]; exact hjl)
          injection hA5 with hA5
          injection hA5 with e1 e2
          subst e1; subst e2
          rw [Nat.zero_add] at hc5
          have hf5 := own8.frozenAt j
          have hxr := xor_u87 y x
          have st := own8.stored j (.int .u8 ((y ^^^ x).toNat : Int))
          have hset : (u8s X).set j (.int .u8 ((y ^^^ x).toNat : Int)) = u8s (X.set j (y ^^^ x)) := by simp [u8s, List.map_set]
          rw [hset] at st
          obtain ⟨V, eV⟩ : ∃ V, V = (y ^^^ x).toNat := ⟨_, rfl⟩
          obtain ⟨X2, eX2⟩ : ∃ X2, X2 = X.set j (y ^^^ x) := ⟨_, rfl⟩
          have hXl : X2.length = N := by rw [eX2, List.length_set]; exact EN.out
          rw [← eV] at hxr st
          rw [← eX2] at st
          have BX : Below w.heap.size w (w4.setCell ⟨gx, j, none⟩ (.int .u8 (V : Int))) := U4.setCell (by exact hgx) _
          have HXC := hide (Cells.of_own st.1)
          have HXL := hide hXl
          clear st eV eX2 hset hXl own8 hy U4
          have i1 : (0 : Int) < (N : Int) := by omega
          have i2 : (j : Int) < (N : Int) := by omega
          go_wp2_with fail
          refine (within_any a2 0 _ _ (by omega) (by omega) (by omega)).mono ?_
          rw [HWJ.out]
          rintro e u ⟨rfl, rfl⟩
          go_wp2_with fail
          go_meet
          exact ⟨⟨X2, HXL.out, HXC.out⟩, BX⟩
        · obtain rfl : N = 0 := by omega
          have hA8 := Cells.of_own own8
          go_wp2_with fail
          go_meet
          exact ⟨⟨X, EN.out, hA8⟩, U4⟩
      obtain ⟨HY, BY⟩ := hcut
      obtain ⟨Y, hYl, hYc⟩ := HY.out
      have HYL := hide hYl
      clear HY own8 U4 hYl
      go_wp2_with fail
      refine (read7_any A4 N c4 Y _ HYL.out (by omega) k1 k2' hYc).mono ?_
      rintro e w9 ⟨rfl, b9⟩
      have B9 := nxt BY b9
      go_wp2_with fail
      refine (known7_any _ (hide (HT.out.below B9))).mono ?_
      rintro e w10 ⟨rfl, b10⟩
      go_wp2_with fail
      go_ret
      exact ⟨rfl, nxt B9 b10⟩
end Go.Proofs.YtbfjdhbgpjenbaaDoor
