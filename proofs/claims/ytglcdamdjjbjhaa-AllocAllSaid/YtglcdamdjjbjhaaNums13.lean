/-
  The walk of AllocNumbers.
-/
import Derived.Test.YtglcdamdjjbjhaaKeep13
import Derived.Test.YtglcdamdjjbjhaaGrow
namespace Go.Proofs.Ytglcdamdjjbjhaa
open Go.RowKit
set_option linter.unusedVariables false

def nu13 : List Ord := [⟨0, 0, 0, 5, false⟩, ⟨0, 0, 0, 9, true⟩, ⟨0, 0, 0, 3, true⟩, ⟨0, 0, 0, 14, false⟩]
def nu1 : List Ord := [⟨0, 0, 0, 5, false⟩]
theorem cells_nu1 {w : World} {A : Option Addr} (h : Cells w A (flat nu13)) : Cells w A (flat nu1) := fun _ => by
  obtain ⟨b, o, rfl, hb, hc⟩ := h (by decide)
  refine ⟨b, o, rfl, hb, fun k u hu => hc k u ?_⟩
  have e : flat nu13 = flat nu1 ++ (flat nu13).drop 5 := rfl
  rw [e, List.getElem?_append_left (List.getElem?_eq_some_iff.1 hu).1, hu]
theorem length_allocL (ru top le pa : Int) (l : List Ord) (q : Int) : (allocL ru top le pa l q).length ≤ 9223372036854775807 := by
  unfold allocL
  have h1 := length_splitL_le (qtys l) pa le q
  have h2 := shareP_length (qtys l) (topI l) top le q
  have h3 : (shareB (qtys l) q).length ≤ 250 := by
    unfold shareB
    split
    · rename_i h
      rw [length_shareL]
      exact ((rightB_iff _ q).1 h).1
    · simp
  split
  · omega
  · split
    · omega
    · split
      · omega
      · simp
theorem stays_q {w1 wr : World} {b k : Nat} {x : Value} (hB : Below w1.heap.size w1 wr) (hb : b < w1.heap.size) (hc : w1.cell? ⟨b, k, none⟩ = some x) : ∀ u, Stays wr u → u.cell? ⟨b, k, none⟩ = some x := fun u hu => by
  have h1 : Below wr.heap.size wr u := ⟨hu.os, hu.tape, hu.output, hu.size, hu.block⟩
  exact ((nxt hB h1).cell (p := ⟨b, k, none⟩) hb).trans hc
theorem stays_k {w1 wr : World} {b k : Nat} {x : Value} (hB : Below w1.heap.size w1 wr) (hb : b < w1.heap.size) (hc : w1.cell? ⟨b, k, none⟩ = some x) : ∀ u, Stays wr.drew u → u.cell? ⟨b, k, none⟩ = some x := fun u hu => by
  have h1 : Below wr.heap.size wr u := ⟨hu.os, hu.tape, hu.output, hu.size, hu.block⟩
  exact ((nxt hB h1).cell (p := ⟨b, k, none⟩) hb).trans hc
set_option maxRecDepth 100000 in
set_option maxHeartbeats 3200000 in
theorem allocNumbers_walk (w : World) : Calls Try.prog 3 #[] w fun e w' => e = .returned (.bool true) ∧ Below w.heap.size w w' := by
  obtain ⟨w0, ew0⟩ : ∃ w0, w0 = w.alloc (.cells #[.int .i64 0, .int .i64 0, .int .i64 0, .int .i64 5, .bool false, .int .i64 0, .int .i64 0, .int .i64 0, .int .i64 9, .bool true, .int .i64 0, .int .i64 0, .int .i64 0, .int .i64 3, .bool true, .int .i64 0, .int .i64 0, .int .i64 0, .int .i64 14, .bool false] 23) := ⟨_, rfl⟩
  obtain ⟨g, eg⟩ : ∃ g, g = w.heap.size := ⟨_, rfl⟩
  have hL : Cells w0 (some ⟨g, 0, none⟩) (flat nu13) := by
    rw [ew0, eg]
    exact Cells.lit w #[.int .i64 0, .int .i64 0, .int .i64 0, .int .i64 5, .bool false, .int .i64 0, .int .i64 0, .int .i64 0, .int .i64 9, .bool true, .int .i64 0, .int .i64 0, .int .i64 0, .int .i64 3, .bool true, .int .i64 0, .int .i64 0, .int .i64 0, .int .i64 14, .bool false] 23
  have B0 : Below w.heap.size w w0 := by rw [ew0]; exact nxt_alloc (Below.refl _ _) _
  go_enter Try.func3, Try.ntmps3
  go_wp2_with fail
  rw [← ew0, ← eg]
  clear ew0 eg
  go_loopw [2] (fun i wr => ∃ r : Int, -1 ≤ r ∧ r ≤ 6 ∧ i = .int .i64 r ∧ Below w0.heap.size w0 wr) (fun i _ => (6 - intOf i).toNat)
  case atStart => exact ⟨-1, by omega, by omega, rfl, Below.refl _ _⟩
  case round =>
    obtain ⟨r, hr1, hr6, rfl, hbel⟩ := hrel
    by_cases hlt : r < 6
    · go_wp2_with fail
      refine (three_any r _).mono ?_
      rintro e w1 ⟨⟨pc, m, mn, mc, ti, lo, hi, wi, sa, sn, sc, rfl⟩, hb⟩
      have B1 := nxt hbel hb
      clear hb
      go_wp2_with fail
      obtain ⟨w2, ew2⟩ : ∃ w2, w2 = w1.alloc (.cells #[.string pc, .slice m mn mc, .int .i64 ti, .int .i64 lo, .int .i64 hi, .int .i64 wi, .int .i64 r, .int .i64 4, .int .i64 2, .int .i64 40, .slice sa sn sc] 28) := ⟨_, rfl⟩
      obtain ⟨g2, eg2⟩ : ∃ g2, g2 = w1.heap.size := ⟨_, rfl⟩
      have k0 : w2.cell? ⟨g2, 0, none⟩ = some (.string pc) := by rw [ew2, World.cell?_alloc_at _ _ _ _ eg2]; rfl
      have k1 : w2.cell? ⟨g2, 1, none⟩ = some (.slice m mn mc) := by rw [ew2, World.cell?_alloc_at _ _ _ _ eg2]; rfl
      have k2 : w2.cell? ⟨g2, 2, none⟩ = some (.int .i64 ti) := by rw [ew2, World.cell?_alloc_at _ _ _ _ eg2]; rfl
      have k3 : w2.cell? ⟨g2, 3, none⟩ = some (.int .i64 lo) := by rw [ew2, World.cell?_alloc_at _ _ _ _ eg2]; rfl
      have k4 : w2.cell? ⟨g2, 4, none⟩ = some (.int .i64 hi) := by rw [ew2, World.cell?_alloc_at _ _ _ _ eg2]; rfl
      have k5 : w2.cell? ⟨g2, 5, none⟩ = some (.int .i64 wi) := by rw [ew2, World.cell?_alloc_at _ _ _ _ eg2]; rfl
      have k6 : w2.cell? ⟨g2, 6, none⟩ = some (.int .i64 r) := by rw [ew2, World.cell?_alloc_at _ _ _ _ eg2]; rfl
      have k7 : w2.cell? ⟨g2, 7, none⟩ = some (.int .i64 4) := by rw [ew2, World.cell?_alloc_at _ _ _ _ eg2]; rfl
      have k8 : w2.cell? ⟨g2, 8, none⟩ = some (.int .i64 2) := by rw [ew2, World.cell?_alloc_at _ _ _ _ eg2]; rfl
      have k9 : w2.cell? ⟨g2, 9, none⟩ = some (.int .i64 40) := by rw [ew2, World.cell?_alloc_at _ _ _ _ eg2]; rfl
      have k10 : w2.cell? ⟨g2, 10, none⟩ = some (.slice sa sn sc) := by rw [ew2, World.cell?_alloc_at _ _ _ _ eg2]; rfl
      have B2 : Below w0.heap.size w0 w2 := by rw [ew2]; exact nxt_alloc B1 _
      have hg2 : g2 < w2.heap.size := World.block_lt_of_cell? w2 _ k0
      have hL2 := hL.below B2
      rw [← ew2, ← eg2]
      clear ew2 eg2 B1
      go_loopw [4] (fun i wr => ∃ q : Int, -1 ≤ q ∧ q ≤ 33 ∧ i = .int .i64 q ∧ Below w2.heap.size w2 wr) (fun i _ => (33 - intOf i).toNat)
      case atStart => exact ⟨-1, by omega, by omega, rfl, Below.refl _ _⟩
      case round =>
        obtain ⟨q, hq1, hq6, rfl, hb2⟩ := hrel
        have hL3 := hL2.below hb2
        by_cases hlq : q < 33
        · have f0 := stays_k hb2 hg2 k0
          have f1 := stays_k hb2 hg2 k1
          have f2 := stays_k hb2 hg2 k2
          have f3 := stays_k hb2 hg2 k3
          have f4 := stays_k hb2 hg2 k4
          have f5 := stays_k hb2 hg2 k5
          have f6 := stays_k hb2 hg2 k6
          have f7 := stays_k hb2 hg2 k7
          have f8 := stays_k hb2 hg2 k8
          have f9 := stays_k hb2 hg2 k9
          have f10 := stays_k hb2 hg2 k10
          go_wp2_with fail
          refine wp_region_grow (R := Stays) 99999 [3, 6, 8, 9, 16, 20, 22, 23] [0, 1, 2, 4, 5, 7, 3, 6, 8, 9, 10, 11, 12, 13, 14, 15, 17, 18, 19, 21, 16, 20, 22, 23, 24, 25] (by kernel_rfl) Stays.tr Stays.rf (by kernel_rfl) (fun _ _ _ _ _ h => h) ?_
          (repeat ((first | (refine grow_skip (by rfl) (by rfl) ?_ (by first | exact Stays.rf _ | exact Lower.rf _ _ | exact Holds.rf _ _)) | (refine grow_take (v := ?_) (by rfl) (by rfl) (by rfl) ?_ ?_; rotate_left 1; focus (intro w' hSw; go_simp; (try (with_reducible rfl)); done))); (try simp only [Act.put, List.setIfInBounds_toArray, List.set_cons_zero, List.set_cons_succ])))
          clear f0 f1 f2 f3 f4 f5 f6 f7 f8 f9 f10
          refine grow_move (by rfl) (by rfl) (by rfl) (fun K hK => ?_); go_simp
          refine (alloc_any _ _ _ _ _ _ _ r 4 2 40 _ 4 4 nu13 q _ rfl (by decide) (by decide) hL3.drew).mono ?_
          rintro e u1 ⟨A1, c1, rfl, -, hA1, -, -, hb⟩
          refine hK.out _ _ (hb) ?_; clear hK K; (try simp only [Act.put, List.setIfInBounds_toArray, List.set_cons_zero, List.set_cons_succ])
          have C1 := nxt (nxt_drew hb2) hb
          have hL4 := hL3.drew.below hb
          clear hb
          (repeat ((first | (refine grow_skip (by rfl) (by rfl) ?_ (by first | exact Stays.rf _ | exact Lower.rf _ _ | exact Holds.rf _ _)) | (refine grow_take (v := ?_) (by rfl) (by rfl) (by rfl) ?_ ?_; rotate_left 1; focus (intro w' hSw; go_simp; (try (with_reducible rfl)); done))); (try simp only [Act.put, List.setIfInBounds_toArray, List.set_cons_zero, List.set_cons_succ])))
          refine grow_move (by rfl) (by rfl) (by rfl) (fun K hK => ?_); go_simp
          refine (in_any _ 4 4 nu13 _ rfl (by decide) hL4).mono ?_
          rintro e u2 ⟨A2, c2, rfl, -, hA2, -, -, hb⟩
          refine hK.out _ _ (hb) ?_; clear hK K; (try simp only [Act.put, List.setIfInBounds_toArray, List.set_cons_zero, List.set_cons_succ])
          have C2 := nxt C1 hb
          have hL5 := hL4.below hb
          have hA12 := hA1.below hb
          clear hb C1 hL4 hA1
          (repeat ((first | (refine grow_skip (by rfl) (by rfl) ?_ (by first | exact Stays.rf _ | exact Lower.rf _ _ | exact Holds.rf _ _)) | (refine grow_take (v := ?_) (by rfl) (by rfl) (by rfl) ?_ ?_; rotate_left 1; focus (intro w' hSw; go_simp; (try (with_reducible rfl)); done))); (try simp only [Act.put, List.setIfInBounds_toArray, List.set_cons_zero, List.set_cons_succ])))
          refine grow_move (by rfl) (by rfl) (by rfl) (fun K hK => ?_); go_simp
          refine (ralloc_any _ _ _ _ _ _ _ r 4 2 40 A2 _ c2 nu13 q _ rfl (by decide) (by decide) hA2).mono ?_
          rintro e u3 ⟨A3, c3, rfl, -, hA3, -, -, hb⟩
          refine hK.out _ _ (hb) ?_; clear hK K; (try simp only [Act.put, List.setIfInBounds_toArray, List.set_cons_zero, List.set_cons_succ])
          have C3 := nxt C2 hb
          have hL6 := hL5.below hb
          have hA13 := hA12.below hb
          clear hb C2 hL5 hA12 hA2
          (repeat ((first | (refine grow_skip (by rfl) (by rfl) ?_ (by first | exact Stays.rf _ | exact Lower.rf _ _ | exact Holds.rf _ _)) | (refine grow_take (v := ?_) (by rfl) (by rfl) (by rfl) ?_ ?_; rotate_left 1; focus (intro w' hSw; go_simp; (try (with_reducible rfl)); done))); (try simp only [Act.put, List.setIfInBounds_toArray, List.set_cons_zero, List.set_cons_succ])))
          refine grow_move (by rfl) (by rfl) (by rfl) (fun K hK => ?_); go_simp
          refine (same_b A1 A3 _ _ c1 c3 _ _ _ rfl rfl (length_allocL _ _ _ _ _ _) (length_allocL _ _ _ _ _ _) hA13 hA3).mono ?_
          simp only [decide_true]
          rintro e u4 ⟨rfl, hb⟩
          refine hK.out _ _ (hb) ?_; clear hK K; (try simp only [Act.put, List.setIfInBounds_toArray, List.set_cons_zero, List.set_cons_succ])
          have C4 := nxt C3 hb
          have hL7 := cells_nu1 (hL6.below hb)
          clear hb C3 hL6 hA13 hA3
          have f0 := stays_q C4 hg2 k0
          have f1 := stays_q C4 hg2 k1
          have f2 := stays_q C4 hg2 k2
          have f3 := stays_q C4 hg2 k3
          have f4 := stays_q C4 hg2 k4
          have f5 := stays_q C4 hg2 k5
          have f6 := stays_q C4 hg2 k6
          have f7 := stays_q C4 hg2 k7
          have f8 := stays_q C4 hg2 k8
          have f9 := stays_q C4 hg2 k9
          have f10 := stays_q C4 hg2 k10
          (repeat ((first | (refine grow_skip (by rfl) (by rfl) ?_ (by first | exact Stays.rf _ | exact Lower.rf _ _ | exact Holds.rf _ _)) | (refine grow_take (v := ?_) (by rfl) (by rfl) (by rfl) ?_ ?_; rotate_left 1; focus (intro w' hSw; go_simp; (try (with_reducible rfl)); done))); (try simp only [Act.put, List.setIfInBounds_toArray, List.set_cons_zero, List.set_cons_succ])))
          clear f0 f1 f2 f3 f4 f5 f6 f7 f8 f9 f10
          refine grow_move (by rfl) (by rfl) (by rfl) (fun K hK => ?_); go_simp
          refine (alloc_any _ _ _ _ _ _ _ r 4 2 40 _ 1 4 nu1 q _ rfl (by decide) (by decide) hL7).mono ?_
          rintro e u5 ⟨A5, c5, rfl, -, hA5, -, -, hb⟩
          refine hK.out _ _ (hb) ?_; clear hK K; (try simp only [Act.put, List.setIfInBounds_toArray, List.set_cons_zero, List.set_cons_succ])
          have C5 := nxt C4 hb
          have hL8 := hL7.below hb
          clear hb C4 hL7
          (repeat ((first | (refine grow_skip (by rfl) (by rfl) ?_ (by first | exact Stays.rf _ | exact Lower.rf _ _ | exact Holds.rf _ _)) | (refine grow_take (v := ?_) (by rfl) (by rfl) (by rfl) ?_ ?_; rotate_left 1; focus (intro w' hSw; go_simp; (try (with_reducible rfl)); done))); (try simp only [Act.put, List.setIfInBounds_toArray, List.set_cons_zero, List.set_cons_succ])))
          refine grow_move (by rfl) (by rfl) (by rfl) (fun K hK => ?_); go_simp
          refine (in_any _ 1 4 nu1 _ rfl (by decide) hL8).mono ?_
          rintro e u6 ⟨A6, c6, rfl, -, hA6, -, -, hb⟩
          refine hK.out _ _ (hb) ?_; clear hK K; (try simp only [Act.put, List.setIfInBounds_toArray, List.set_cons_zero, List.set_cons_succ])
          have C6 := nxt C5 hb
          have hA56 := hA5.below hb
          clear hb C5 hL8 hA5
          (repeat ((first | (refine grow_skip (by rfl) (by rfl) ?_ (by first | exact Stays.rf _ | exact Lower.rf _ _ | exact Holds.rf _ _)) | (refine grow_take (v := ?_) (by rfl) (by rfl) (by rfl) ?_ ?_; rotate_left 1; focus (intro w' hSw; go_simp; (try (with_reducible rfl)); done))); (try simp only [Act.put, List.setIfInBounds_toArray, List.set_cons_zero, List.set_cons_succ])))
          refine grow_move (by rfl) (by rfl) (by rfl) (fun K hK => ?_); go_simp
          refine (ralloc_any _ _ _ _ _ _ _ r 4 2 40 A6 _ c6 nu1 q _ rfl (by decide) (by decide) hA6).mono ?_
          rintro e u7 ⟨A7, c7, rfl, -, hA7, -, -, hb⟩
          refine hK.out _ _ (hb) ?_; clear hK K; (try simp only [Act.put, List.setIfInBounds_toArray, List.set_cons_zero, List.set_cons_succ])
          have C7 := nxt C6 hb
          have hA57 := hA56.below hb
          clear hb C6 hA56 hA6
          (repeat ((first | (refine grow_skip (by rfl) (by rfl) ?_ (by first | exact Stays.rf _ | exact Lower.rf _ _ | exact Holds.rf _ _)) | (refine grow_take (v := ?_) (by rfl) (by rfl) (by rfl) ?_ ?_; rotate_left 1; focus (intro w' hSw; go_simp; (try (with_reducible rfl)); done))); (try simp only [Act.put, List.setIfInBounds_toArray, List.set_cons_zero, List.set_cons_succ])))
          refine grow_move (by rfl) (by rfl) (by rfl) (fun K hK => ?_); go_simp
          refine (same_b A5 A7 _ _ c5 c7 _ _ _ rfl rfl (length_allocL _ _ _ _ _ _) (length_allocL _ _ _ _ _ _) hA57 hA7).mono ?_
          simp only [decide_true]
          rintro e u8 ⟨rfl, hb⟩
          refine hK.out _ _ (hb) ?_; clear hK K; (try simp only [Act.put, List.setIfInBounds_toArray, List.set_cons_zero, List.set_cons_succ])
          have C8 := nxt C7 hb
          clear hb C7 hA57 hA7
          (repeat ((first | (refine grow_skip (by rfl) (by rfl) ?_ (by first | exact Stays.rf _ | exact Lower.rf _ _ | exact Holds.rf _ _)) | (refine grow_take (v := ?_) (by rfl) (by rfl) (by rfl) ?_ ?_; rotate_left 1; focus (intro w' hSw; go_simp; (try (with_reducible rfl)); done))); (try simp only [Act.put, List.setIfInBounds_toArray, List.set_cons_zero, List.set_cons_succ])))
          refine grow_done ?_
          go_wp2_with fail
          go_roundw
          case rel => exact ⟨q + 1, by omega, by omega, by go_num, C8⟩
          case measure => simp [intOf]; omega
        · go_wp2_with fail
          go_roundw
          case rel => exact ⟨r + 1, by omega, by omega, by go_num, nxt B2 hb2⟩
          case measure => simp [intOf]; omega
    · go_wp2_with fail
      refine (three_any 2 _).mono ?_
      rintro e w1 ⟨⟨pc, m, mn, mc, ti, lo, hi, wi, sa, sn, sc, rfl⟩, hb⟩
      have B1 := nxt (nxt B0 hbel) hb
      clear hb
      go_wp2_with fail
      refine (alloc_any _ _ _ _ _ _ _ 2 4 2 40 none 0 0 [] 0 _ rfl (by simp) (by simp) (Cells.nil _ _)).mono ?_
      rw [show allocL 2 4 2 40 [] 0 = [] by decide]
      intro e w2 h
      obtain ⟨A5, c5, rfl, -, hA5, -, -, hb⟩ := h.n (rfl : ([] : List Int).length = 0)
      have B2 := nxt B1 hb
      clear h hb B1
      go_wp2_with fail
      refine (known13_any _).mono ?_
      rintro e w3 ⟨rfl, hb⟩
      go_wp2
      go_ret
      exact ⟨rfl, nxt B2 hb⟩
end Go.Proofs.Ytglcdamdjjbjhaa
