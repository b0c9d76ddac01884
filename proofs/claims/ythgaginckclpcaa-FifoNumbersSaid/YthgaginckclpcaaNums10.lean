/-
  The walk of FifoNumbers.
-/
import Derived.Test.YthgaginckclpcaaLaw10
namespace Go.Proofs.Ythgaginckclpcaa
open Go.RowKit
set_option linter.unusedVariables false

def rows10 : List (List Int) := [[0], [1], [5, 5, 5], [-1, 9], [1000000, 1000001], [1000000], [9223372036854775807, 9223372036854775807]]
def slices10 (w wr : World) : Array Value :=
  #[.slice none 0 0, .slice (some ⟨wr.heap.size, 0, none⟩) 1 1, .slice (some ⟨wr.heap.size + 1, 0, none⟩) 1 1, .slice (some ⟨wr.heap.size + 1 + 1, 0, none⟩) 3 3, .slice (some ⟨wr.heap.size + 1 + 1 + 1, 0, none⟩) 2 2,
    .slice (some ⟨wr.heap.size + 1 + 1 + 1 + 1, 0, none⟩) 2 2, .slice (some ⟨wr.heap.size + 1 + 1 + 1 + 1 + 1, 0, none⟩) 1 1, .slice (some ⟨w.heap.size, 0, none⟩) 251 251, .slice (some ⟨w.heap.size, 0, none⟩) 250 251,
    .slice (some ⟨wr.heap.size + 1 + 1 + 1 + 1 + 1 + 1, 0, none⟩) 2 2]
theorem Cells.take {w : World} {A : Option Addr} {xs : List Value} (h : Cells w A xs) (n : Nat) : Cells w A (xs.take n) := fun hn => by
  obtain ⟨b, o, rfl, hb, hc⟩ := h (by rintro rfl; simp at hn)
  refine ⟨b, o, rfl, hb, fun k u hu => hc k u ?_⟩
  rw [List.getElem?_take] at hu
  split at hu
  · exact hu
  · cases hu
theorem views10 (w wr : World) (l : List Int) (hl : l.length = 251) (hc : Cells wr (some ⟨w.heap.size, 0, none⟩) (i64s l)) : ∀ v ∈ (slices10 w wr).toList, IntV (rowsOf 2 wr rows10) v := by
  intro v hv
  simp only [slices10, List.mem_cons, List.not_mem_nil, or_false] at hv
  have hm := hc.below (rowsOf_below 2 rows10 wr)
  rcases hv with rfl | rfl | rfl | rfl | rfl | rfl | rfl | rfl | rfl | rfl
  · exact intV_nil _ _
  · exact rowsOf_intV 0 [0] 1 rfl (by decide)
  · exact rowsOf_intV 1 [1] 1 rfl (by decide)
  · exact rowsOf_intV 2 [5, 5, 5] 3 rfl (by decide)
  · exact rowsOf_intV 3 [-1, 9] 2 rfl (by decide)
  · exact rowsOf_intV 4 [1000000, 1000001] 2 rfl (by decide)
  · exact rowsOf_intV 5 [1000000] 1 rfl (by decide)
  · exact ⟨_, _, _, l, rfl, hl, by omega, hm⟩
  · exact ⟨_, _, _, l.take 250, rfl, by simp [hl], by omega, by simpa [i64s, List.map_take] using hm.take 250⟩
  · exact rowsOf_intV 6 [9223372036854775807, 9223372036854775807] 2 rfl (by decide)

set_option maxRecDepth 100000 in
set_option maxHeartbeats 1600000 in
theorem fifoNumbers_walk (w : World) : Calls Try.prog 3 #[] w fun e w' => e = .returned (.bool true) ∧ Below w.heap.size w w' := by
  go_enter Try.func3, Try.ntmps3
  go_wp2_with (at_make; refine wpList_mk elI64 (n := 251) rfl _ _ rfl rfl rfl rfl (by omega) ?_; intro w1 own1 g1 b1)
  have B1 := b1 w.heap.size w (Nat.le_refl _) (Below.refl _ _)
  go_loopw [2] (fun i wr => ∃ (k : Nat) (l : List Int), k ≤ 251 ∧ i = .int .i64 k ∧ l.length = 251 ∧ wr.ownsRow w.heap.size 2 1 (.slice (some ⟨w.heap.size, 0, none⟩) 251 251) 251 (i64s l) ∧ Below w.heap.size w wr) (fun i _ => 251 - (intOf i).toNat)
  case atStart => exact ⟨0, List.replicate 251 0, by omega, rfl, by simp, by simpa [i64s] using own1, B1⟩
  case round =>
    obtain ⟨k, l, hk, rfl, hl, own, B2⟩ := hrel
    clear own1 g1 b1 B1
    by_cases hlt : k < 251
    · have hc : wr.cell? ⟨w.heap.size, k, none⟩ = some (.int .i64 (l.getD k 0)) := by
        rw [own.cellAt k (by omega)]; simp [i64s, List.getD, show k < l.length by omega]
      have hf := own.frozenAt k
      have hst := own.stored k (.int .i64 1)
      have HL := hide hl; clear hl
      go_wp2
      go_roundw
      case rel => exact ⟨k + 1, l.set k 1, by omega, by go_num, by simp [HL.out], by simpa [i64s, List.map_set] using hst.1, B2.setCell (Nat.le_refl _) _⟩
      case measure => simp [intOf]; omega
    · have cm := Cells.of_own own
      have bl : Below w.heap.size w (rowsOf 2 wr rows10) := nxt B2 (rowsOf_below _ _ _)
      have vs := views10 w wr l hl cm
      have hcs := Cells.lit (rowsOf 2 wr rows10) (slices10 w wr) 22
      rw [rowsOf_size] at hcs
      have vs' : ∀ v ∈ (slices10 w wr).toList, IntV ((rowsOf 2 wr rows10).alloc (.cells (slices10 w wr) 22)) v := fun v hv => (vs v hv).below ((Below.refl _ _).alloc (Nat.le_refl _) _)
      have Bl := nxt_alloc bl (.cells (slices10 w wr) 22)
      obtain ⟨W, eW⟩ : ∃ W, W = (rowsOf 2 wr rows10).alloc (.cells (slices10 w wr) 22) := ⟨_, rfl⟩
      rw [← eW] at hcs vs' Bl
      have hcs' : Cells W (some ⟨wr.heap.size + 1 + 1 + 1 + 1 + 1 + 1 + 1, 0, none⟩) (slices10 w wr).toList := hcs
      have VS := hide vs'
      have EW := hide eW
      clear eW vs vs' cm own B2 bl hcs hl
      go_wp2
      go_loopw [29] (fun i wr2 => ∃ k : Nat, k ≤ 10 ∧ i = .int .i64 k ∧ Below W.heap.size W wr2) (fun i _ => 10 - (intOf i).toNat)
      case atStart => exact ⟨0, by omega, rfl, by rw [EW.out]; exact Below.refl _ _⟩
      case round =>
        obtain ⟨k, hk, rfl, hb⟩ := hrel
        by_cases hlt : k < 10
        · have i1 : (k : Int) < 10 := by omega
          obtain ⟨b3, o3, v3, e3, hb3, hc3, hv3⟩ := (hcs'.below hb).val_at (k := k) (by simpa [slices10] using hlt)
          simp only [Option.some.injEq, Addr.mk.injEq, and_true] at e3
          obtain ⟨rfl, rfl⟩ := e3
          rw [Nat.zero_add] at hc3
          obtain ⟨A, n, c, l, rfl, hl, hn, hA0⟩ := (VS.out v3 (mem_of_some hv3.out)).below hb
          have B3 := nxt Bl hb
          clear hv3
          go_wp2_with fail
          have hq := Cells.lit wr #[.int .i64 (-9223372036854775808), .int .i64 (-1), .int .i64 0, .int .i64 1, .int .i64 5, .int .i64 6, .int .i64 15, .int .i64 16, .int .i64 250, .int .i64 1000000, .int .i64 9223372036854775807] 2
          have hqs : ∀ v ∈ [Value.int .i64 (-9223372036854775808), .int .i64 (-1), .int .i64 0, .int .i64 1, .int .i64 5, .int .i64 6, .int .i64 15, .int .i64 16, .int .i64 250, .int .i64 1000000, .int .i64 9223372036854775807], ∃ q, v = .int .i64 q := by
            intro v hv
            simp only [List.mem_cons, List.not_mem_nil, or_false] at hv
            rcases hv with rfl | rfl | rfl | rfl | rfl | rfl | rfl | rfl | rfl | rfl | rfl <;> exact ⟨_, rfl⟩
          have HQ := hide hqs; clear hqs
          obtain ⟨wo, ewo⟩ : ∃ wo, wo = wr.alloc (.cells #[.int .i64 (-9223372036854775808), .int .i64 (-1), .int .i64 0, .int .i64 1, .int .i64 5, .int .i64 6, .int .i64 15, .int .i64 16, .int .i64 250, .int .i64 1000000, .int .i64 9223372036854775807] 2) := ⟨_, rfl⟩
          have hb4 : Below W.heap.size W wo := by rw [ewo]; exact nxt_alloc hb _
          have B4 : Below w.heap.size w wo := by rw [ewo]; exact nxt_alloc B3 _
          have hA1 : Cells wo A (i64s l) := by rw [ewo]; exact hA0.alloc _
          rw [← ewo] at hq ⊢
          clear ewo
          go_loopw [35] (fun i wr2 => ∃ j : Nat, j ≤ 11 ∧ i = .int .i64 j ∧ Below wo.heap.size wo wr2) (fun i _ => 11 - (intOf i).toNat)
          case atStart => exact ⟨0, by omega, rfl, Below.refl _ _⟩
          case round =>
            obtain ⟨j, hj, rfl, hb5⟩ := hrel
            by_cases hlt2 : j < 11
            · have i2 : (j : Int) < 11 := by omega
              obtain ⟨b6, o6, v6, e6, hb6, hc6, hv6⟩ := (hq.below hb5).val_at (k := j) (by simpa using hlt2)
              simp only [Option.some.injEq, Addr.mk.injEq, and_true] at e6
              obtain ⟨rfl, rfl⟩ := e6
              rw [Nat.zero_add] at hc6
              obtain ⟨q, rfl⟩ := HQ.out v6 (mem_of_some hv6.out)
              have hA2 := hA1.below hb5
              have hsl := shareB_length l q
              clear hv6 hc3 hA0 hA1
              go_wp2_with fail
              refine (right_any A _ c l q _ hl (by omega) hA2).mono ?_
              rintro e w2 ⟨rfl, rfl⟩
              go_wp2_with fail
              refine (refRight_any A _ c l q _ hl (by omega) hA2).mono ?_
              rintro e w2 ⟨rfl, rfl⟩
              have hne : (rightB l q != rightB l q) = false := by simp
              go_wp2_with fail
              refine (share_any A _ c l q _ hl (by omega) hA2).mono ?_
              rintro e w2 ⟨A5, c5, rfl, -, hA5, -, -, hb⟩
              have C5 := nxt hb5 hb
              have hA3 := hA2.below hb
              clear hb hb5 hA2
              go_wp2_with fail
              refine (refShare_any A _ c l q _ hl (by omega) hA3).mono ?_
              rintro e w3 ⟨A6, c6, rfl, -, hA6, -, -, hb⟩
              have C6 := nxt C5 hb
              have hA56 := hA5.below hb
              clear hb hA3 hA5 C5
              go_wp2_with fail
              refine (same_b A5 A6 _ _ c5 c6 _ _ _ rfl rfl (by omega) (by omega) hA56 hA6).mono ?_
              simp only [decide_true]
              rintro e w7 ⟨rfl, hb⟩
              have C7 := nxt C6 hb
              clear hb hA6 hA56 C6
              go_wp2
              go_roundw
              case rel => exact ⟨j + 1, by omega, by go_num, C7⟩
              case measure => simp [intOf]; omega
            · go_wp2
              go_roundw
              case rel => exact ⟨k + 1, by omega, by go_num, nxt hb4 hb5⟩
              case measure => simp [intOf]; omega
        · go_wp2_with fail
          refine (known10_any _).mono ?_
          rintro e w9 ⟨rfl, hb9⟩
          have B9 := nxt (nxt Bl hb) hb9
          go_wp2
          go_ret
          exact ⟨rfl, B9⟩
end Go.Proofs.Ythgaginckclpcaa
