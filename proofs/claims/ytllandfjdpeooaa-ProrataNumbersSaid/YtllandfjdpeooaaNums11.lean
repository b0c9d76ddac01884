/-
  The walk of ProrataNumbers.
-/
import Derived.Test.YtllandfjdpeooaaTells11
namespace Go.Proofs.Ytllandfjdpeooaa
open Go.RowKit
set_option linter.unusedVariables false

def rows11 : List (List Int) := [[0], [1], [6, 3, 1], [1, 1, 1, 1], [1000000, 1000000, 1], [1000001], [7, 11, 13, 17]]
def slices11 (wr : World) : Array Value := #[.slice none 0 0, .slice (some ⟨wr.heap.size, 0, none⟩) 1 1, .slice (some ⟨wr.heap.size + 1, 0, none⟩) 1 1, .slice (some ⟨wr.heap.size + 1 + 1, 0, none⟩) 3 3, .slice (some ⟨wr.heap.size + 1 + 1 + 1, 0, none⟩) 4 4, .slice (some ⟨wr.heap.size + 1 + 1 + 1 + 1, 0, none⟩) 3 3, .slice (some ⟨wr.heap.size + 1 + 1 + 1 + 1 + 1, 0, none⟩) 1 1, .slice (some ⟨wr.heap.size + 1 + 1 + 1 + 1 + 1 + 1, 0, none⟩) 4 4]
theorem views11 (wr : World) : ∀ v ∈ (slices11 wr).toList, IntV (rowsOf 2 wr rows11) v := by
  intro v hv
  simp only [slices11, List.mem_cons, List.not_mem_nil, or_false] at hv
  rcases hv with rfl | rfl | rfl | rfl | rfl | rfl | rfl | rfl
  · exact intV_nil _ _
  · exact rowsOf_intV 0 [0] 1 rfl (by decide)
  · exact rowsOf_intV 1 [1] 1 rfl (by decide)
  · exact rowsOf_intV 2 [6, 3, 1] 3 rfl (by decide)
  · exact rowsOf_intV 3 [1, 1, 1, 1] 4 rfl (by decide)
  · exact rowsOf_intV 4 [1000000, 1000000, 1] 3 rfl (by decide)
  · exact rowsOf_intV 5 [1000001] 1 rfl (by decide)
  · exact rowsOf_intV 6 [7, 11, 13, 17] 4 rfl (by decide)

set_option maxRecDepth 100000 in
set_option maxHeartbeats 3200000 in
theorem prorataNumbers_walk (w : World) : Calls Try.prog 3 #[] w fun e w' => e = .returned (.bool true) ∧ Below w.heap.size w w' := by
  obtain ⟨wr, ewr⟩ : ∃ wr, wr = w := ⟨_, rfl⟩
  have bl := rowsOf_below 2 rows11 wr
  have vs := views11 wr
  have hcs := Cells.lit (rowsOf 2 wr rows11) (slices11 wr) 22
  rw [rowsOf_size] at hcs
  have vs' : ∀ v ∈ (slices11 wr).toList, IntV ((rowsOf 2 wr rows11).alloc (.cells (slices11 wr) 22)) v := fun v hv => (vs v hv).below ((Below.refl _ _).alloc (Nat.le_refl _) _)
  have Bl := nxt_alloc bl (.cells (slices11 wr) 22)
  obtain ⟨W, eW⟩ : ∃ W, W = (rowsOf 2 wr rows11).alloc (.cells (slices11 wr) 22) := ⟨_, rfl⟩
  rw [← eW] at hcs vs' Bl
  have hcs' : Cells W (some ⟨wr.heap.size + 1 + 1 + 1 + 1 + 1 + 1 + 1, 0, none⟩) (slices11 wr).toList := hcs
  have VS := hide vs'
  have EW := hide eW
  rw [← ewr]
  clear eW vs vs' bl hcs ewr
  go_enter Try.func3, Try.ntmps3
  go_wp2_with fail
  go_loopw [19] (fun i wr2 => ∃ k : Nat, k ≤ 8 ∧ i = .int .i64 k ∧ Below W.heap.size W wr2) (fun i _ => 8 - (intOf i).toNat)
  case atStart => exact ⟨0, by omega, rfl, by rw [EW.out]; exact Below.refl _ _⟩
  case round =>
    obtain ⟨k, hk, rfl, hb⟩ := hrel
    by_cases hlt : k < 8
    · have i1 : (k : Int) < 8 := by omega
      obtain ⟨b3, o3, v3, e3, hb3, hc3, hv3⟩ := (hcs'.below hb).val_at (k := k) (by simpa [slices11] using hlt)
      simp only [Option.some.injEq, Addr.mk.injEq, and_true] at e3
      obtain ⟨rfl, rfl⟩ := e3
      rw [Nat.zero_add] at hc3
      obtain ⟨A, n, c, l, rfl, hl, hn, hA0⟩ := (VS.out v3 (mem_of_some hv3.out)).below hb
      clear hv3 hcs'
      go_wp2_with fail
      obtain ⟨u1, rfl⟩ : ∃ u1 : World, u1 = wr := ⟨_, rfl⟩
      have hq1 := Cells.lit u1 #[.int .i64 (-1), .int .i64 0, .int .i64 1, .int .i64 3, .int .i64 5, .int .i64 10, .int .i64 48, .int .i64 49, .int .i64 2000001] 2
      change Cells _ _ (i64s [-1, 0, 1, 3, 5, 10, 48, 49, 2000001]) at hq1
      have ap1 := (Below.refl u1.heap.size u1).alloc (Nat.le_refl _) (.cells #[.int .i64 (-1), .int .i64 0, .int .i64 1, .int .i64 3, .int .i64 5, .int .i64 10, .int .i64 48, .int .i64 49, .int .i64 2000001] 2)
      obtain ⟨p1, ep1⟩ : ∃ p1, p1 = u1.alloc (.cells #[.int .i64 (-1), .int .i64 0, .int .i64 1, .int .i64 3, .int .i64 5, .int .i64 10, .int .i64 48, .int .i64 49, .int .i64 2000001] 2) := ⟨_, rfl⟩
      rw [← ep1] at hq1 ap1 ⊢
      clear ep1
      have hA0 := hA0.below ap1
      go_loopw [25] (fun i wr2 => ∃ j : Nat, j ≤ 9 ∧ i = .int .i64 j ∧ Below p1.heap.size p1 wr2) (fun i _ => 9 - (intOf i).toNat)
      case atStart => exact ⟨0, by omega, rfl, Below.refl _ _⟩
      case round =>
        obtain ⟨j2, hj2, rfl, b2⟩ := hrel
        by_cases hltj2 : j2 < 9
        · have ij2 : (j2 : Int) < 9 := by omega
          obtain ⟨bj2, oj2, q, ej2, hbj2, hcj2, -⟩ := (hq1.below b2).int_at (k := j2) (by simpa using hltj2)
          simp only [Option.some.injEq, Addr.mk.injEq, and_true] at ej2
          obtain ⟨rfl, rfl⟩ := ej2
          rw [Nat.zero_add] at hcj2
          have hA0 := hA0.below b2
          go_wp2_with fail
          obtain ⟨u2, rfl⟩ : ∃ u2 : World, u2 = wr := ⟨_, rfl⟩
          have hq2 := Cells.lit u2 #[.int .i64 (-1), .int .i64 0, .int .i64 1, .int .i64 2, .int .i64 4, .int .i64 1000] 2
          change Cells _ _ (i64s [-1, 0, 1, 2, 4, 1000]) at hq2
          have ap2 := (Below.refl u2.heap.size u2).alloc (Nat.le_refl _) (.cells #[.int .i64 (-1), .int .i64 0, .int .i64 1, .int .i64 2, .int .i64 4, .int .i64 1000] 2)
          obtain ⟨p2, ep2⟩ : ∃ p2, p2 = u2.alloc (.cells #[.int .i64 (-1), .int .i64 0, .int .i64 1, .int .i64 2, .int .i64 4, .int .i64 1000] 2) := ⟨_, rfl⟩
          rw [← ep2] at hq2 ap2 ⊢
          clear ep2
          have hA0 := hA0.below ap2
          go_loopw [31] (fun i wr2 => ∃ j : Nat, j ≤ 6 ∧ i = .int .i64 j ∧ Below p2.heap.size p2 wr2) (fun i _ => 6 - (intOf i).toNat)
          case atStart => exact ⟨0, by omega, rfl, Below.refl _ _⟩
          case round =>
            obtain ⟨j3, hj3, rfl, b3⟩ := hrel
            by_cases hltj3 : j3 < 6
            · have ij3 : (j3 : Int) < 6 := by omega
              obtain ⟨bj3, oj3, le, ej3, hbj3, hcj3, -⟩ := (hq2.below b3).int_at (k := j3) (by simpa using hltj3)
              simp only [Option.some.injEq, Addr.mk.injEq, and_true] at ej3
              obtain ⟨rfl, rfl⟩ := ej3
              rw [Nat.zero_add] at hcj3
              have hA0 := hA0.below b3
              go_wp2_with fail
              obtain ⟨u3, rfl⟩ : ∃ u3 : World, u3 = wr := ⟨_, rfl⟩
              refine (pplain_any A _ c l le q _ hl (by omega) hA0).mono ?_
              rintro e w2 ⟨A5, c5, rfl, -, hA5, -, -, C5⟩
              have hA0 := hA0.below C5
              go_wp2_with fail
              refine (refPlain_any A _ c l le q _ hl (by omega) hA0).mono ?_
              rintro e w3 ⟨A6, c6, rfl, -, hA6, -, -, hb6⟩
              have C6 := nxt C5 hb6
              have hA5 := hA5.below hb6
              have hA0 := hA0.below hb6
              clear hb6 C5
              go_wp2_with fail
              refine (same_b A5 A6 _ _ c5 c6 _ _ _ rfl rfl (LB _ (by first | exact plainB_length _ _ _ | exact shareP_length _ _ _ _ _)) (LB _ (by first | exact plainB_length _ _ _ | exact shareP_length _ _ _ _ _)) hA5 hA6).mono ?_
              simp only [decide_true]
              rintro e u3z ⟨rfl, hb6⟩
              have Cu3 := nxt C6 hb6
              have hA0 := hA0.below hb6
              clear hb6 hA6 hA5 C6
              go_wp2_with fail
              go_loopw [7] (fun i wr2 => ∃ h : Nat, h ≤ 6 ∧ i = .int .i64 ((h : Int) - 1) ∧ Below u3z.heap.size u3z wr2) (fun i _ => 6 - (intOf i + 1).toNat)
              case atStart => exact ⟨0, by omega, rfl, Below.refl _ _⟩
              case round =>
                obtain ⟨h, hh, rfl, b4⟩ := hrel
                have hA0 := hA0.below b4
                by_cases hlth : h < 6
                · have ih : (h : Int) - 1 < 5 := by omega
                  have ih2 : -1 ≤ (h : Int) - 1 := by omega
                  go_wp2_with fail
                  obtain ⟨u4, rfl⟩ : ∃ u4 : World, u4 = wr := ⟨_, rfl⟩
                  have hq4 := Cells.lit u4 #[.int .i64 (-1), .int .i64 0, .int .i64 1, .int .i64 3, .int .i64 1000000] 2
                  change Cells _ _ (i64s [-1, 0, 1, 3, 1000000]) at hq4
                  have ap4 := (Below.refl u4.heap.size u4).alloc (Nat.le_refl _) (.cells #[.int .i64 (-1), .int .i64 0, .int .i64 1, .int .i64 3, .int .i64 1000000] 2)
                  obtain ⟨p4, ep4⟩ : ∃ p4, p4 = u4.alloc (.cells #[.int .i64 (-1), .int .i64 0, .int .i64 1, .int .i64 3, .int .i64 1000000] 2) := ⟨_, rfl⟩
                  rw [← ep4] at hq4 ap4 ⊢
                  clear ep4
                  have hA0 := hA0.below ap4
                  go_loopw [51] (fun i wr2 => ∃ j : Nat, j ≤ 5 ∧ i = .int .i64 j ∧ Below p4.heap.size p4 wr2) (fun i _ => 5 - (intOf i).toNat)
                  case atStart => exact ⟨0, by omega, rfl, Below.refl _ _⟩
                  case round =>
                    obtain ⟨j5, hj5, rfl, b5⟩ := hrel
                    by_cases hltj5 : j5 < 5
                    · have ij5 : (j5 : Int) < 5 := by omega
                      obtain ⟨bj5, oj5, mo, ej5, hbj5, hcj5, -⟩ := (hq4.below b5).int_at (k := j5) (by simpa using hltj5)
                      simp only [Option.some.injEq, Addr.mk.injEq, and_true] at ej5
                      obtain ⟨rfl, rfl⟩ := ej5
                      rw [Nat.zero_add] at hcj5
                      have hA0 := hA0.below b5
                      go_wp2_with fail
                      obtain ⟨u5, rfl⟩ : ∃ u5 : World, u5 = wr := ⟨_, rfl⟩
                      refine (pshare_any A _ c l ((h : Int) - 1) mo le q _ hl (by omega) hA0).mono ?_
                      rintro e w2 ⟨A5, c5, rfl, -, hA5, -, -, C5⟩
                      have hA0 := hA0.below C5
                      go_wp2_with fail
                      refine (rshare_any A _ c l ((h : Int) - 1) mo le q _ hl (by omega) hA0).mono ?_
                      rintro e w3 ⟨A6, c6, rfl, -, hA6, -, -, hb6⟩
                      have C6 := nxt C5 hb6
                      have hA5 := hA5.below hb6
                      have hA0 := hA0.below hb6
                      clear hb6 C5
                      go_wp2_with fail
                      refine (same_b A5 A6 _ _ c5 c6 _ _ _ rfl rfl (LB _ (by first | exact plainB_length _ _ _ | exact shareP_length _ _ _ _ _)) (LB _ (by first | exact plainB_length _ _ _ | exact shareP_length _ _ _ _ _)) hA5 hA6).mono ?_
                      simp only [decide_true]
                      rintro e u5z ⟨rfl, hb6⟩
                      have Cu5 := nxt C6 hb6
                      have hA0 := hA0.below hb6
                      clear hb6 hA6 hA5 C6
                      go_wp2_with fail
                      go_roundw
                      case rel => exact ⟨j5 + 1, by omega, by go_num, nxt b5 Cu5⟩
                      case measure => simp [intOf]; omega
                    · have nj5 : ¬ (j5 : Int) < 5 := by omega
                      go_wp2_with fail
                      go_roundw
                      case rel => exact ⟨h + 1, by omega, val_int (by omega), nxt b4 (nxt ap4 b5)⟩
                      case measure => simp [intOf]; omega
                · have nh : ¬ (h : Int) - 1 < 5 := by omega
                  go_wp2_with fail
                  go_roundw
                  case rel => exact ⟨j3 + 1, by omega, by go_num, nxt b3 (nxt Cu3 b4)⟩
                  case measure => simp [intOf]; omega
            · have nj3 : ¬ (j3 : Int) < 6 := by omega
              go_wp2_with fail
              go_roundw
              case rel => exact ⟨j2 + 1, by omega, by go_num, nxt b2 (nxt ap2 b3)⟩
              case measure => simp [intOf]; omega
        · have nj2 : ¬ (j2 : Int) < 9 := by omega
          go_wp2_with fail
          go_roundw
          case rel => exact ⟨k + 1, by omega, by go_num, nxt hb (nxt ap1 b2)⟩
          case measure => simp [intOf]; omega
    · have nk : ¬ (k : Int) < 8 := by omega
      go_wp2_with fail
      refine (known11_any _).mono ?_
      rintro e w9 ⟨rfl, hb9⟩
      go_wp2
      go_ret
      exact ⟨rfl, nxt (nxt Bl hb) hb9⟩
end Go.Proofs.Ytllandfjdpeooaa
