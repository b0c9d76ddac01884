/-
  The walk of SplitNumbers.
-/
import Derived.Test.YtmphnccngkkhgaaSplitM
namespace Go.Proofs.Ytmphnccngkkhgaa
open Go.RowKit
set_option linter.unusedVariables false

def rows12 : List (List Int) := [[0], [1], [10, 10], [6, 3, 1], [1000000, 1000000, 1], [1000001], [7, 11, 13, 17]]
def slices12 (wr : World) : Array Value := #[.slice none 0 0, .slice (some ⟨wr.heap.size, 0, none⟩) 1 1, .slice (some ⟨wr.heap.size + 1, 0, none⟩) 1 1, .slice (some ⟨wr.heap.size + 1 + 1, 0, none⟩) 2 2, .slice (some ⟨wr.heap.size + 1 + 1 + 1, 0, none⟩) 3 3, .slice (some ⟨wr.heap.size + 1 + 1 + 1 + 1, 0, none⟩) 3 3, .slice (some ⟨wr.heap.size + 1 + 1 + 1 + 1 + 1, 0, none⟩) 1 1, .slice (some ⟨wr.heap.size + 1 + 1 + 1 + 1 + 1 + 1, 0, none⟩) 4 4]
theorem views12 (wr : World) : ∀ v ∈ (slices12 wr).toList, IntV (rowsOf 2 wr rows12) v := by
  intro v hv
  simp only [slices12, List.mem_cons, List.not_mem_nil, or_false] at hv
  rcases hv with rfl | rfl | rfl | rfl | rfl | rfl | rfl | rfl
  · exact intV_nil _ _
  · exact rowsOf_intV 0 [0] 1 rfl (by decide)
  · exact rowsOf_intV 1 [1] 1 rfl (by decide)
  · exact rowsOf_intV 2 [10, 10] 2 rfl (by decide)
  · exact rowsOf_intV 3 [6, 3, 1] 3 rfl (by decide)
  · exact rowsOf_intV 4 [1000000, 1000000, 1] 3 rfl (by decide)
  · exact rowsOf_intV 5 [1000001] 1 rfl (by decide)
  · exact rowsOf_intV 6 [7, 11, 13, 17] 4 rfl (by decide)

set_option maxRecDepth 100000 in
set_option maxHeartbeats 3200000 in
theorem splitNumbers_walk (w : World) : Calls Try.prog 3 #[] w fun e w' => e = .returned (.bool true) ∧ Below w.heap.size w w' := by
  obtain ⟨wr, ewr⟩ : ∃ wr, wr = w := ⟨_, rfl⟩
  have bl := rowsOf_below 2 rows12 wr
  have vs := views12 wr
  have hcs := Cells.lit (rowsOf 2 wr rows12) (slices12 wr) 22
  rw [rowsOf_size] at hcs
  have vs' : ∀ v ∈ (slices12 wr).toList, IntV ((rowsOf 2 wr rows12).alloc (.cells (slices12 wr) 22)) v := fun v hv => (vs v hv).below ((Below.refl _ _).alloc (Nat.le_refl _) _)
  have Bl := nxt_alloc bl (.cells (slices12 wr) 22)
  obtain ⟨W, eW⟩ : ∃ W, W = (rowsOf 2 wr rows12).alloc (.cells (slices12 wr) 22) := ⟨_, rfl⟩
  rw [← eW] at hcs vs' Bl
  have hcs' : Cells W (some ⟨wr.heap.size + 1 + 1 + 1 + 1 + 1 + 1 + 1, 0, none⟩) (slices12 wr).toList := hcs
  have VS := hide vs'
  have EW := hide eW
  rw [← ewr]
  clear eW vs vs' bl hcs ewr
  go_enter Try.func3, Try.ntmps3
  go_wp2_with fail
  go_loopw [18] (fun i wr2 => ∃ k : Nat, k ≤ 8 ∧ i = .int .i64 k ∧ Below W.heap.size W wr2) (fun i _ => 8 - (intOf i).toNat)
  case atStart => exact ⟨0, by omega, rfl, by rw [EW.out]; exact Below.refl _ _⟩
  case round =>
    obtain ⟨k, hk, rfl, hb⟩ := hrel
    by_cases hlt : k < 8
    · have i1 : (k : Int) < 8 := by omega
      obtain ⟨b3, o3, v3, e3, hb3, hc3, hv3⟩ := (hcs'.below hb).val_at (k := k) (by simpa [slices12] using hlt)
      simp only [Option.some.injEq, Addr.mk.injEq, and_true] at e3
      obtain ⟨rfl, rfl⟩ := e3
      rw [Nat.zero_add] at hc3
      obtain ⟨A, n, c, l, rfl, hl, hn, hA0⟩ := (VS.out v3 (mem_of_some hv3.out)).below hb
      clear hv3 hcs'
      go_wp2_with fail
      obtain ⟨u1, rfl⟩ : ∃ u1 : World, u1 = wr := ⟨_, rfl⟩
      have hq1 := Cells.lit u1 #[.int .i64 (-1), .int .i64 0, .int .i64 1, .int .i64 3, .int .i64 5, .int .i64 10, .int .i64 20, .int .i64 48, .int .i64 49, .int .i64 2000001] 2
      change Cells _ _ (i64s [-1, 0, 1, 3, 5, 10, 20, 48, 49, 2000001]) at hq1
      have ap1 := (Below.refl u1.heap.size u1).alloc (Nat.le_refl _) (.cells #[.int .i64 (-1), .int .i64 0, .int .i64 1, .int .i64 3, .int .i64 5, .int .i64 10, .int .i64 20, .int .i64 48, .int .i64 49, .int .i64 2000001] 2)
      obtain ⟨p1, ep1⟩ : ∃ p1, p1 = u1.alloc (.cells #[.int .i64 (-1), .int .i64 0, .int .i64 1, .int .i64 3, .int .i64 5, .int .i64 10, .int .i64 20, .int .i64 48, .int .i64 49, .int .i64 2000001] 2) := ⟨_, rfl⟩
      rw [← ep1] at hq1 ap1 ⊢
      clear ep1
      have hA0 := hA0.below ap1
      go_loopw [24] (fun i wr2 => ∃ j : Nat, j ≤ 10 ∧ i = .int .i64 j ∧ Below p1.heap.size p1 wr2) (fun i _ => 10 - (intOf i).toNat)
      case atStart => exact ⟨0, by omega, rfl, Below.refl _ _⟩
      case round =>
        obtain ⟨j1, hj1, rfl, b1⟩ := hrel
        by_cases hltj1 : j1 < 10
        · have ij1 : (j1 : Int) < 10 := by omega
          obtain ⟨bj1, oj1, q, ej1, hbj1, hcj1, -⟩ := (hq1.below b1).int_at (k := j1) (by simpa using hltj1)
          simp only [Option.some.injEq, Addr.mk.injEq, and_true] at ej1
          obtain ⟨rfl, rfl⟩ := ej1
          rw [Nat.zero_add] at hcj1
          have hA0 := hA0.below b1
          go_wp2_with fail
          obtain ⟨u2, rfl⟩ : ∃ u2 : World, u2 = wr := ⟨_, rfl⟩
          have hq2 := Cells.lit u2 #[.int .i64 0, .int .i64 1, .int .i64 2, .int .i64 4] 2
          change Cells _ _ (i64s [0, 1, 2, 4]) at hq2
          have ap2 := (Below.refl u2.heap.size u2).alloc (Nat.le_refl _) (.cells #[.int .i64 0, .int .i64 1, .int .i64 2, .int .i64 4] 2)
          obtain ⟨p2, ep2⟩ : ∃ p2, p2 = u2.alloc (.cells #[.int .i64 0, .int .i64 1, .int .i64 2, .int .i64 4] 2) := ⟨_, rfl⟩
          rw [← ep2] at hq2 ap2 ⊢
          clear ep2
          have hA0 := hA0.below ap2
          go_loopw [30] (fun i wr2 => ∃ j : Nat, j ≤ 4 ∧ i = .int .i64 j ∧ Below p2.heap.size p2 wr2) (fun i _ => 4 - (intOf i).toNat)
          case atStart => exact ⟨0, by omega, rfl, Below.refl _ _⟩
          case round =>
            obtain ⟨j2, hj2, rfl, b2⟩ := hrel
            by_cases hltj2 : j2 < 4
            · have ij2 : (j2 : Int) < 4 := by omega
              obtain ⟨bj2, oj2, le, ej2, hbj2, hcj2, -⟩ := (hq2.below b2).int_at (k := j2) (by simpa using hltj2)
              simp only [Option.some.injEq, Addr.mk.injEq, and_true] at ej2
              obtain ⟨rfl, rfl⟩ := ej2
              rw [Nat.zero_add] at hcj2
              have hA0 := hA0.below b2
              go_wp2_with fail
              obtain ⟨u3, rfl⟩ : ∃ u3 : World, u3 = wr := ⟨_, rfl⟩
              have hq3 := Cells.lit u3 #[.int .i64 (-1), .int .i64 0, .int .i64 1, .int .i64 33, .int .i64 50, .int .i64 99, .int .i64 100, .int .i64 101] 2
              change Cells _ _ (i64s [-1, 0, 1, 33, 50, 99, 100, 101]) at hq3
              have ap3 := (Below.refl u3.heap.size u3).alloc (Nat.le_refl _) (.cells #[.int .i64 (-1), .int .i64 0, .int .i64 1, .int .i64 33, .int .i64 50, .int .i64 99, .int .i64 100, .int .i64 101] 2)
              obtain ⟨p3, ep3⟩ : ∃ p3, p3 = u3.alloc (.cells #[.int .i64 (-1), .int .i64 0, .int .i64 1, .int .i64 33, .int .i64 50, .int .i64 99, .int .i64 100, .int .i64 101] 2) := ⟨_, rfl⟩
              rw [← ep3] at hq3 ap3 ⊢
              clear ep3
              have hA0 := hA0.below ap3
              go_loopw [36] (fun i wr2 => ∃ j : Nat, j ≤ 8 ∧ i = .int .i64 j ∧ Below p3.heap.size p3 wr2) (fun i _ => 8 - (intOf i).toNat)
              case atStart => exact ⟨0, by omega, rfl, Below.refl _ _⟩
              case round =>
                obtain ⟨j3, hj3, rfl, b3⟩ := hrel
                by_cases hltj3 : j3 < 8
                · have ij3 : (j3 : Int) < 8 := by omega
                  obtain ⟨bj3, oj3, pa, ej3, hbj3, hcj3, -⟩ := (hq3.below b3).int_at (k := j3) (by simpa using hltj3)
                  simp only [Option.some.injEq, Addr.mk.injEq, and_true] at ej3
                  obtain ⟨rfl, rfl⟩ := ej3
                  rw [Nat.zero_add] at hcj3
                  have hA0 := hA0.below b3
                  go_wp2_with fail
                  obtain ⟨u9, rfl⟩ : ∃ u9 : World, u9 = wr := ⟨_, rfl⟩
                  refine (ssplit_any A _ c l pa le q _ hl (by omega) hA0).mono ?_
                  rintro e w2 ⟨A5, c5, rfl, -, hA5, -, -, C5⟩
                  have hA0 := hA0.below C5
                  go_wp2_with fail
                  refine (rsplit_any A _ c l pa le q _ hl (by omega) hA0).mono ?_
                  rintro e w3 ⟨A6, c6, rfl, -, hA6, -, -, hb6⟩
                  have C6 := nxt C5 hb6
                  have hA5 := hA5.below hb6
                  have hA0 := hA0.below hb6
                  clear hb6 C5
                  go_wp2_with fail
                  refine (same_b A5 A6 _ _ c5 c6 _ _ _ rfl rfl (LB _ (length_splitL_le _ _ _ _)) (LB _ (length_splitL_le _ _ _ _)) hA5 hA6).mono ?_
                  simp only [decide_true]
                  rintro e u5z ⟨rfl, hb6⟩
                  have Cu5 := nxt C6 hb6
                  have hA0 := hA0.below hb6
                  clear hb6 hA6 hA5 C6
                  go_wp2_with fail
                  go_roundw
                  case rel => exact ⟨j3 + 1, by omega, by go_num, nxt b3 Cu5⟩
                  case measure => simp [intOf]; omega
                · have nj3 : ¬ (j3 : Int) < 8 := by omega
                  go_wp2_with fail
                  go_roundw
                  case rel => exact ⟨j2 + 1, by omega, by go_num, nxt b2 (nxt ap3 b3)⟩
                  case measure => simp [intOf]; omega
            · have nj2 : ¬ (j2 : Int) < 4 := by omega
              go_wp2_with fail
              go_roundw
              case rel => exact ⟨j1 + 1, by omega, by go_num, nxt b1 (nxt ap2 b2)⟩
              case measure => simp [intOf]; omega
        · have nj1 : ¬ (j1 : Int) < 10 := by omega
          go_wp2_with fail
          go_roundw
          case rel => exact ⟨k + 1, by omega, by go_num, nxt hb (nxt ap1 b1)⟩
          case measure => simp [intOf]; omega
    · have nk : ¬ (k : Int) < 8 := by omega
      go_wp2_with fail
      refine (known12_any _).mono ?_
      rintro e w9 ⟨rfl, hb9⟩
      go_wp2
      go_ret
      exact ⟨rfl, nxt (nxt Bl hb) hb9⟩
end Go.Proofs.Ytmphnccngkkhgaa
