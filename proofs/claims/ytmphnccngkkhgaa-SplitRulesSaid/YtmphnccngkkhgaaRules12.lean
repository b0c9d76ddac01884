/-
  The walk of SplitRules.
-/
import Derived.Test.YtmphnccngkkhgaaSplitM
namespace Go.Proofs.Ytmphnccngkkhgaa
open Go.RowKit
set_option linter.unusedVariables false

set_option maxRecDepth 100000 in
set_option maxHeartbeats 3200000 in
theorem splitRules_walk (A0 : Option Addr) (c0 : Nat) (l0 : List Int) (a1 a2 a3 : Int) (w : World) (h0 : ArgI .i64 w A0 c0 l0) (_w1 : (Lit.int .i64 a1).wf = true) (_w2 : (Lit.int .i64 a2).wf = true) (_w3 : (Lit.int .i64 a3).wf = true) :
    Calls Try.prog 5 #[.slice A0 l0.length c0, .int .i64 a1, .int .i64 a2, .int .i64 a3] w fun e w' => e = .returned (.bool true) ∧ Below w.heap.size w w' := by
  have hlen : l0.length ≤ 9223372036854775807 := by have := h0.le; have := h0.max; unfold maxLen at this; omega
  have hA0 := h0.cells
  clear h0
  have hs1 := sizesL_length l0
  have hs2 : ∀ n ∈ sizesL l0, 1 ≤ n ∧ n ≤ 1000000 := sizesL_bd l0
  have hs3 := isum_bd (sizesL l0) (fun n hn => by have := hs2 n hn; omega : ∀ n ∈ sizesL l0, 0 ≤ n ∧ n ≤ 1000000)
  obtain ⟨s, es⟩ : ∃ s, s = sizesL l0 := ⟨_, rfl⟩
  rw [← es] at hs1 hs2 hs3
  have Es := hide es; have Hs2 := hide hs2
  clear es hs2
  go_enter Try.func5, Try.ntmps5
  go_wp2_with fail
  refine (sizes12_any A0 _ c0 l0 _ rfl hlen hA0).mono ?_
  rw [← Es.out]
  rintro e w1 ⟨A, c, rfl, -, hA, -, -, B1⟩
  go_wp2_with fail
  refine (sum12_any A _ c s _ rfl (by omega) (fun n hn => by have := Hs2.out n hn; omega) hA).mono ?_
  rintro e w2 ⟨rfl, rfl⟩
  have hkb := within_bd a1 0 s.sum hs3.1
  go_wp2_with fail
  refine (within_any a1 0 s.sum _ hs3.1 (by omega) (by omega)).mono ?_
  rintro e w2 ⟨rfl, rfl⟩
  obtain ⟨k, ek⟩ : ∃ k, k = within a1 0 s.sum := ⟨_, rfl⟩
  rw [← ek] at hkb ⊢
  clear ek
  have hn := within_bd a2 0 9 (by omega)
  go_wp2_with fail
  refine (within_any a2 0 9 _ (by omega) (by omega) (by omega)).mono ?_
  rintro e w2 ⟨rfl, rfl⟩
  obtain ⟨n, en⟩ : ∃ n, n = within a2 0 9 := ⟨_, rfl⟩
  rw [← en] at hn ⊢
  clear en
  have hp := within_bd a3 0 100 (by omega)
  go_wp2_with fail
  refine (within_any a3 0 100 _ (by omega) (by omega) (by omega)).mono ?_
  rintro e w2 ⟨rfl, rfl⟩
  obtain ⟨p, ep⟩ : ∃ p, p = within a3 0 100 := ⟨_, rfl⟩
  rw [← ep] at hp ⊢
  clear ep
  have hr : rightB s k = true := (rightB_iff s k).2 ⟨by omega, hkb.1, Hs2.out, hkb.2⟩
  have h1 : 1 ≤ 1 + n := by omega
  have hsp := sp_ok (l := s) (least := 1 + n) (q := k) (part := p) hr hp.1 hp.2 h1
  have hpo := part_ok hr hp.1 hp.2
  have hKb := partK_bd hkb.1 hp.1 hp.2
  obtain ⟨P, eP⟩ : ∃ P, P = k * p := ⟨_, rfl⟩
  obtain ⟨K, eK⟩ : ∃ K, K = partK p k := ⟨_, rfl⟩
  have hP : P / 100 = K := by rw [eK, eP]; rfl
  have hPb : 0 ≤ P ∧ P ≤ 25000000000 := by
    have h2 : 0 ≤ k * p := Int.mul_nonneg hkb.1 hp.1
    have h3 : k * p ≤ k * 100 := Int.mul_le_mul_of_nonneg_left hp.2 hkb.1
    omega
  have hPw : wrap64 (k * p) = P := by rw [← eP]; exact wrap64_eq ⟨by omega, by omega⟩
  rw [← eK] at hpo hKb
  obtain ⟨X, eX⟩ : ∃ X, X = splitL s p (1 + n) k := ⟨_, rfl⟩
  have hXl := hsp.len
  have hXs := hsp.sum
  have hXa := hsp.at_
  rw [← eX] at hXl hXs hXa
  rw [← eK] at hXa
  have hFr := hpo.right
  have hFl := hpo.len
  obtain ⟨F, eF⟩ : ∃ F, F = shareL s K := ⟨_, rfl⟩
  rw [← eF] at hXa hFl
  have HR := hide hr; have EX := hide eX; have XL := hide hXl; have XS := hide hXs; have XA := hide hXa; have FR := hide hFr; have FL := hide hFl; have EF := hide eF
  clear hr eX hXl hXs hXa hsp hpo hFr hFl eF eP eK
  have hsl : s.length ≤ 9223372036854775807 := by omega
  go_wp2_with fail
  refine (ssplit_any A _ c s p (1 + n) k _ rfl hsl hA).mono ?_
  rw [← EX.out]
  intro e w2 h
  obtain ⟨A2, c2, rfl, -, hA2, -, -, hb⟩ := h.n XL.out
  have B2 := nxt B1 hb
  have hA1 := hA.below hb
  clear h hb hA B1
  have hXb : ∀ x ∈ X, 0 ≤ x ∧ x ≤ 1000000 := by
    intro x hx
    obtain ⟨i, hi⟩ := List.getElem?_of_mem hx
    have hlt := lt_of_some hi
    rw [XL.out] at hlt
    obtain ⟨f, y, hf, hy, y0, y1, y2⟩ := XA.out i s[i] (List.getElem?_eq_getElem hlt)
    have := Hs2.out _ (List.getElem_mem hlt)
    have : x = y := Option.some.inj (hi.symm.trans hy)
    omega
  have XB := hide hXb
  clear hXb
  go_wp2_with fail
  refine (share_yes A _ c s K _ rfl hA1 FR.out).mono ?_
  rw [← EF.out]
  intro e w3 h
  obtain ⟨A3, c3, rfl, -, hA3, -, -, hb⟩ := h.n FL.out
  have B3 := nxt B2 hb
  have hA1' := hA1.below hb
  have hA2' := hA2.below hb
  clear h hb hA1 hA2 B2
  go_wp2_with fail
  refine (sum12_any A2 _ c2 X _ XL.out (by rw [XL.out]; omega) XB.out hA2').mono ?_
  rintro e w4 ⟨rfl, rfl⟩
  rw [XS.out]
  go_wp2_with fail
  go_loopw [15] (fun i wr => ∃ j : Nat, j ≤ s.length ∧ i = .int .i64 j ∧ Below w3.heap.size w3 wr) (fun i _ => s.length - (intOf i).toNat)
  case atStart => exact ⟨0, Nat.zero_le _, rfl, Below.refl _ _⟩
  case round =>
    obtain ⟨j, hj, rfl, hbel⟩ := hrel
    by_cases hlt : j < s.length
    · obtain ⟨b1, o1, m, rfl, hb1, hc1', hm⟩ := hA1'.int_at (k := j) hlt
      obtain ⟨b2, o2, x, rfl, hb2, hc2', hx⟩ := hA2'.int_at (k := j) (by rw [XL.out]; exact hlt)
      obtain ⟨b3, o3, f, rfl, hb3, hc3', hf⟩ := hA3.int_at (k := j) (by rw [FL.out]; exact hlt)
      have hc1 := (hbel.cell (p := ⟨b1, o1 + j, none⟩) hb1).trans hc1'
      have hc2 := (hbel.cell (p := ⟨b2, o2 + j, none⟩) hb2).trans hc2'
      have hc3 := (hbel.cell (p := ⟨b3, o3 + j, none⟩) hb3).trans hc3'
      have hmb := Hs2.out m (mem_of_some hm.out)
      obtain ⟨f', x', hf', hx', x0, x1, x2⟩ := XA.out j m hm.out
      obtain rfl : x = x' := Option.some.inj (hx.out.symm.trans hx')
      obtain rfl : f = f' := Option.some.inj (hf.out.symm.trans hf')
      have i1 : (j : Int) < s.length := by omega
      have d1 : decide (x < f) = false := by simp; omega
      have d2 : decide (m < x) = false := by simp; omega
      clear hx' hf' hc1' hc2' hc3' hA1' hA2' hA3
      go_wp2_with fail
      go_quiet (fail)
      go_wp2_with fail
      go_roundw
      case rel => exact ⟨j + 1, by omega, by go_num, below_drewN hbel _⟩
      case measure => simp [intOf]; omega
    · have hA1 := hA1'.below hbel
      have B4 := nxt B3 hbel
      clear hA1' hA2' hA3
      go_wp2_with fail
      refine (ssplit_any A _ c s 100 (1 + n) k _ rfl hsl hA1).mono ?_
      rw [split_all HR.out h1]
      rintro e w5 ⟨A5, c5, rfl, -, hA5, -, -, hb⟩
      have B5 := nxt B4 hb
      have hA15 := hA1.below hb
      clear hb hA1 B4
      go_wp2_with fail
      refine (share_yes A _ c s k _ rfl hA15 HR.out).mono ?_
      rintro e w6 ⟨A6, c6, rfl, -, hA6, -, -, hb⟩
      have B6 := nxt B5 hb
      have hA16 := hA15.below hb
      have hA56 := hA5.below hb
      clear hb hA15 hA5 B5
      go_wp2_with fail
      refine (same_b A5 A6 _ _ c5 c6 _ _ _ rfl rfl (by rw [length_shareL]; exact hsl) (by rw [length_shareL]; exact hsl) hA56 hA6).mono ?_
      simp only [decide_true]
      rintro e w7 ⟨rfl, hb⟩
      have B7 := nxt B6 hb
      have hA17 := hA16.below hb
      clear hb hA16 hA56 hA6 B6
      go_wp2_with fail
      refine (ssplit_any A _ c s 0 (1 + n) k _ rfl hsl hA17).mono ?_
      rw [split_none HR.out h1]
      rintro e w8 ⟨A8, c8, rfl, -, hA8, -, -, hb⟩
      have B8 := nxt B7 hb
      have hA18 := hA17.below hb
      clear hb hA17 B7
      go_wp2_with fail
      refine (plain_yes A _ c s (1 + n) k _ rfl HR.out h1 hA18).mono ?_
      rintro e w9 ⟨A9, c9, rfl, -, hA9, -, -, hb⟩
      have B9 := nxt B8 hb
      have hA89 := hA8.below hb
      clear hb hA18 hA8 B8
      go_wp2_with fail
      refine (same_b A8 A9 _ _ c8 c9 _ _ _ rfl rfl (by rw [length_byL]; exact hsl) (by rw [length_byL]; exact hsl) hA89 hA9).mono ?_
      simp only [decide_true]
      rintro e w10 ⟨rfl, hb⟩
      have B10 := nxt B9 hb
      clear hb hA89 hA9 B9
      go_wp2_with fail
      refine (known12_any _).mono ?_
      rintro e w11 ⟨rfl, hb⟩
      go_wp2
      go_ret
      exact ⟨rfl, nxt B10 hb⟩
end Go.Proofs.Ytmphnccngkkhgaa
