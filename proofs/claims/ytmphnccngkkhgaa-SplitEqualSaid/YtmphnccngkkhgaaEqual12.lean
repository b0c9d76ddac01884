/-
  The walk of SplitEqual.
-/
import Derived.Test.YtmphnccngkkhgaaSplitM
namespace Go.Proofs.Ytmphnccngkkhgaa
open Go.RowKit
set_option linter.unusedVariables false

theorem split_one {z part least k : Int} (hz : 1 ≤ z) (hz2 : z ≤ 1000000) (hk : 0 ≤ k) (hk2 : k ≤ z) (hp0 : 0 ≤ part) (hp1 : part ≤ 100) (h1 : 1 ≤ least) : splitL [z] part least k = [k] := by
  have h := sp_ok ((rightB_iff [z] k).2 ⟨by simp, hk, by simp; omega, by simpa using hk2⟩) hp0 hp1 h1
  have hl := h.len
  have hs := h.sum
  rcases he : splitL [z] part least k with _ | ⟨x, _ | ⟨y, t⟩⟩
  · rw [he] at hl; simp at hl
  · rw [he] at hs; simp at hs; rw [hs]
  · rw [he] at hl; simp at hl
theorem split_three {z part least : Int} (hz : 1 ≤ z) (hz2 : z ≤ 1000000) (hp0 : 0 ≤ part) (hp1 : part ≤ 100) (h1 : 1 ≤ least) : splitL [z, z, 3] part least (2 * z + 3) = [z, z, 3] := by
  have e : ([z, z, 3] : List Int).sum = 2 * z + 3 := by simp; omega
  rw [← e]
  exact split_full ((rightB_iff _ _).2 ⟨by simp, by omega, by simp; omega, Int.le_refl _⟩) hp0 hp1 h1
set_option maxRecDepth 100000 in
set_option maxHeartbeats 3200000 in
theorem splitEqual_walk (a0 a1 a2 a3 : Int) (w : World) (_w0 : (Lit.int .i64 a0).wf = true) (_w1 : (Lit.int .i64 a1).wf = true) (_w2 : (Lit.int .i64 a2).wf = true) (_w3 : (Lit.int .i64 a3).wf = true) :
    Calls Try.prog 6 #[.int .i64 a0, .int .i64 a1, .int .i64 a2, .int .i64 a3] w fun e w' => e = .returned (.bool true) ∧ Below w.heap.size w w' := by
  go_enter Try.func6, Try.ntmps6
  have hz' := within_bd a0 0 999 (by omega)
  go_wp2_with fail
  refine (within_any a0 0 999 _ (by omega) (by omega) (by omega)).mono ?_
  rintro e w2 ⟨rfl, rfl⟩
  obtain ⟨z, ez⟩ : ∃ z, z = 1 + within a0 0 999 := ⟨_, rfl⟩
  obtain ⟨z0, ez0⟩ : ∃ z, z = within a0 0 999 := ⟨_, rfl⟩
  rw [← ez0] at hz' ez ⊢
  clear ez0
  have hz : 1 ≤ z ∧ z ≤ 1000 := by omega
  have hzw : 1 + z0 = z := ez.symm
  clear ez
  have hp := within_bd a1 0 100 (by omega)
  go_wp2_with fail
  refine (within_any a1 0 100 _ (by omega) (by omega) (by omega)).mono ?_
  rintro e w2 ⟨rfl, rfl⟩
  obtain ⟨p, ep⟩ : ∃ p, p = within a1 0 100 := ⟨_, rfl⟩
  rw [← ep] at hp ⊢
  clear ep hz' hzw
  have hn' := within_bd a3 0 9 (by omega)
  go_wp2_with fail
  refine (within_any a3 0 9 _ (by omega) (by omega) (by omega)).mono ?_
  rintro e w2 ⟨rfl, rfl⟩
  obtain ⟨n0, en0⟩ : ∃ z, z = within a3 0 9 := ⟨_, rfl⟩
  rw [← en0] at hn' ⊢
  clear en0
  have hk := within_bd a2 0 (2 * z) (by omega)
  go_wp2_with fail
  refine (within_any a2 0 (2 * z) _ (by omega) (by omega) (by omega)).mono ?_
  rintro e w2 ⟨rfl, rfl⟩
  obtain ⟨k, ek⟩ : ∃ k, k = within a2 0 (2 * z) := ⟨_, rfl⟩
  rw [← ek] at hk ⊢
  clear ek
  have h1 : 1 ≤ 1 + n0 := by omega
  obtain ⟨x, y, exy, hyx, hsum, hy0, hxz⟩ := two_equal (z := z) (part := p) (least := 1 + n0) (k := k) hz.1 (by omega) hk.1 hk.2 hp.1 hp.2 h1
  have EXY := hide exy
  clear exy
  go_wp2_with fail
  refine (ssplit_any _ 2 2 [z, z] p (1 + n0) k _ rfl (by simp) (Cells.lit w (i64s [z, z]).toArray 2)).mono ?_
  rw [EXY.out]
  intro e w1 h
  obtain ⟨A1, c1, rfl, -, hA1, -, -, hb⟩ := h.n (rfl : ([x, y] : List Int).length = 2)
  clear h
  have B1 := nxt (nxt_alloc (Below.refl _ _) _) hb
  clear hb
  obtain ⟨b1, o1, x', rfl, hb1, hc1, hx⟩ := hA1.int_at (k := 0) (by simp)
  obtain ⟨b2, o2, y', he, hb2, hc2, hy⟩ := hA1.int_at (k := 1) (by simp)
  obtain ⟨rfl, rfl⟩ : b1 = b2 ∧ o1 = o2 := by simpa using he
  obtain rfl : x = x' := by have := hx.out; simpa using this
  obtain rfl : y = y' := by have := hy.out; simpa using this
  have d1 : decide (x < y) = false := by simp; omega
  rw [Nat.add_zero] at hc1
  have hw1 : wrap64 (x + y) = k := by rw [wrap64_eq ⟨by omega, by omega⟩]; exact hsum
  have hw2 : IntKind.i64.wrap (x + y) = k := by rw [IntWalk.i64_in _ (by omega)]; exact hsum
  have HS := hide hsum
  clear he hx hy hA1 hsum
  go_wp2_with fail
  go_quiet (fail)
  have hk2 := within_bd a2 0 z (by omega)
  go_wp2_with fail
  refine (within_any a2 0 z _ (by omega) (by omega) (by omega)).mono ?_
  rintro e w2 ⟨rfl, rfl⟩
  obtain ⟨o, eo⟩ : ∃ k, k = within a2 0 z := ⟨_, rfl⟩
  rw [← eo] at hk2 ⊢
  clear eo hc1 hc2
  go_wp2_with fail
  refine (ssplit_any _ 1 1 [z] p (1 + n0) o _ rfl (by simp) (Cells.lit _ (i64s [z]).toArray 2)).mono ?_
  rw [split_one hz.1 (by omega) hk2.1 hk2.2 hp.1 hp.2 h1]
  rintro e w3 ⟨A3, c3, rfl, -, hA3, -, -, hb⟩
  have B3 := nxt (nxt_alloc (below_drewN B1 _) _) hb
  clear hb B1
  go_wp2_with fail
  refine (same_b A3 _ _ _ c3 1 [o] [o] _ rfl rfl (by simp) (by simp) (hA3.alloc _) (Cells.lit w3 (i64s [o]).toArray 2)).mono ?_
  simp only [decide_true]
  rintro e w4 ⟨rfl, hb⟩
  have B4 := nxt (nxt_alloc B3 _) hb
  clear hb B3 hA3
  have hz3 := split_three (z := z) (part := p) (least := 1 + n0) hz.1 (by omega) hp.1 hp.2 h1
  have HZ3 := hide hz3
  clear hz3
  go_wp2_with fail
  refine (ssplit_any _ 3 3 [z, z, 3] p (1 + n0) (2 * z + 3) _ rfl (by simp) (Cells.lit w4 (i64s [z, z, 3]).toArray 2)).mono ?_
  rw [HZ3.out]
  rintro e w5 ⟨A5, c5, rfl, -, hA5, -, -, hb⟩
  have B5 := nxt (nxt_alloc B4 _) hb
  clear hb B4
  go_wp2_with fail
  refine (same_b A5 _ _ _ c5 3 [z, z, 3] [z, z, 3] _ rfl rfl (by simp) (by simp) (hA5.alloc _) (Cells.lit w5 (i64s [z, z, 3]).toArray 2)).mono ?_
  simp only [decide_true]
  rintro e w6 ⟨rfl, hb⟩
  have B6 := nxt (nxt_alloc B5 _) hb
  clear hb B5 hA5
  go_wp2_with fail
  refine (known12_any _).mono ?_
  rintro e w7 ⟨rfl, hb⟩
  go_wp2
  go_ret
  exact ⟨rfl, nxt B6 hb⟩
end Go.Proofs.Ytmphnccngkkhgaa
