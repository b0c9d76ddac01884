/-
  The walk of IntsTells.
-/
import Derived.Test.YtbngligkmapbgaaLaw1
namespace Go.Proofs.Ytbngligkmapbgaa
open Go.RowKit
set_option linter.unusedVariables false

theorem cells_take {w : World} {A : Option Addr} {l : List Int} (h : Cells w A (i64s l)) (n : Nat) : Cells w A (i64s (l.take n)) := fun hn => by
  obtain ⟨b, o, rfl, hb, hc⟩ := h (by intro h0; simp [i64s] at h0; subst h0; simp [i64s] at hn)
  refine ⟨b, o, rfl, hb, fun k u hu => hc k u ?_⟩
  rw [show i64s (l.take n) = (i64s l).take n by simp [i64s, List.map_take], List.getElem?_take] at hu
  split at hu
  · exact hu
  · cases hu
set_option maxRecDepth 100000 in
set_option maxHeartbeats 3200000 in
theorem intsTells_walk (a0 a1 a2 : Int) (A3 : Option Addr) (c3 : Nat) (l3 : List Int) (w : World) (w0 : (Lit.int .i64 a0).wf = true) (w1 : (Lit.int .i64 a1).wf = true) (w2 : (Lit.int .i64 a2).wf = true) (h3 : ArgI .i64 w A3 c3 l3) :
    Calls Try.prog 8 #[.int .i64 a0, .int .i64 a1, .int .i64 a2, .slice A3 l3.length c3] w fun e w' => e = .returned (.bool true) ∧ Below w.heap.size w w' := by
  have hlen : l3.length ≤ 9223372036854775807 := by have := h3.le; have := h3.max; unfold maxLen at this; omega
  have hle := h3.le
  have hmax := h3.max
  unfold maxLen at hmax
  have b0 := i64_bd w0
  have b1 := i64_bd w1
  have b2 := i64_bd w2
  obtain ⟨m, l, hm, hc, hn, hw, g1, g2⟩ : ∃ (m : Nat) (l : List Int), l.length = m ∧ Cells w A3 (i64s l) ∧ m ≤ 100 ∧ Hid (∀ n ∈ l, -9223372036854775808 ≤ n ∧ n ≤ 9223372036854775807) ∧ (¬ 100 < l3.length → m = l3.length) ∧ (100 < l3.length → m = 100) :=
    ⟨min 100 l3.length, l3.take 100, by simp, cells_take h3.cells 100, by omega, fun n hn => i64_bd (h3.wf n (List.mem_of_mem_take hn)), by omega, by omega⟩
  have HM := hide hm; have G1 := hide g1; have G2 := hide g2
  clear h3 w0 w1 w2 hm g1 g2
  by_cases h : 100 < l3.length
  all_goals
    have e : Hid (m = if 100 < l3.length then 100 else l3.length) := by
      by_cases h' : 100 < l3.length
      · rw [if_pos h']; exact G2.out h'
      · rw [if_neg h']; exact G1.out h'
    first | rw [if_pos h] at e | rw [if_neg h] at e
    go_enter Try.func8, Try.ntmps8
    go_wp2_with fail
    refine (share_any _ _ _ _ b0 b1 b2).mono ?_
    rintro e w' ⟨rfl, n, rfl⟩
    rw [shareEnd]
    go_wp2_with fail
    refine (refShare_any _ _ _ _ b0 b1 b2).mono ?_
    rintro e w' ⟨rfl, rfl⟩
    rw [shareEnd]
    go_wp2_with fail
    refine (sum_any _ _ _ l _ (HM.out.trans e.out) (by rw [HM.out]; omega) hw.out (hc.drewN n)).mono ?_
    rintro e w' ⟨rfl, rfl⟩
    rw [told]
    go_wp2_with fail
    refine (refSum_any _ _ _ l _ (HM.out.trans e.out) (by rw [HM.out]; omega) hw.out (hc.drewN n)).mono ?_
    rintro e w' ⟨rfl, rfl⟩
    rw [told]
    go_wp2_with fail
    refine (sameInts_any _ _ _ b0 b1).mono ?_
    rintro e w' ⟨rfl, rfl⟩
    go_wp2_with fail
    refine (sameInts_any _ _ _ b1 b2).mono ?_
    rintro e w' ⟨rfl, rfl⟩
    go_wp2_with fail
    refine (known_any _).mono ?_
    rintro e w' ⟨rfl, n2, rfl⟩
    go_wp2
    go_ret
    exact ⟨rfl, below_drewN (Below.refl _ _) _⟩
end Go.Proofs.Ytbngligkmapbgaa
