/-
  The walk of LabelNumbers.
-/
import Derived.Test.YtdginbmannhfnaaDoorCutsW2
namespace Go.Proofs.YtdginbmannhfnaaDoor
open Go.RowKit
set_option linter.unusedVariables false

theorem wp_at2 {P : Program} {s : Code} {Q : Exit → Act → World → Prop} {a : Act} {w w' : World} (h : w' = w) (k : s.wp P Q a w') : s.wp P Q a w := h ▸ k
def textsL : List (List UInt8) := [[], [97], [97, 98, 99, 100, 101, 102, 103, 104, 105, 106, 107, 108], [97, 98, 99, 100, 101, 102, 103, 104, 105, 106, 107, 108, 109], [195, 169, 195, 169, 195, 169, 195, 169, 195, 169, 195, 169, 195, 169, 195, 169, 195, 169, 195, 169, 195, 169, 195, 169], [195, 169, 195, 169, 195, 169, 195, 169, 195, 169, 195, 169, 195, 169, 195, 169, 195, 169, 195, 169, 195, 169, 195, 169, 195, 169], [31], [32], [127], [255], [97, 255, 98], [239, 191, 189], [226, 130, 172], [240, 157, 132, 158], [226, 130], [240, 157, 132], [206, 177, 206, 178, 206, 179, 207, 130, 207, 131, 207, 137], [97, 122, 123, 65, 90], [192, 128], [237, 160, 128], [97, 0], [194, 128], [244, 143, 191, 191]]
theorem texts_len : textsL.length = 23 := rfl
theorem texts_bd : ∀ l ∈ textsL, l.length ≤ 26 := by decide
def strs (l : List (List UInt8)) : List Value := l.map fun x => .string (str x)
theorem text_at {w : World} {A : Option Addr} (h : Cells w A (strs textsL)) {k : Nat} (hk : k < 23) : ∃ b o x, A = some ⟨b, o, none⟩ ∧ b < w.heap.size ∧ w.cell? ⟨b, o + k, none⟩ = some (.string (str x)) ∧ x.length ≤ 26 := by
  obtain ⟨b, o, u, hA, hb, hc, hu⟩ := h.val_at (k := k) (by simp [strs]; exact hk)
  have hu2 := hu.out
  simp only [strs, List.getElem?_map] at hu2
  cases hx : textsL[k]? with
  | none => rw [hx] at hu2; cases hu2
  | some x =>
    rw [hx] at hu2
    injection hu2 with hu2
    subst hu2
    exact ⟨b, o, x, hA, hb, hc, texts_bd x (mem_of_some hx)⟩
set_option maxRecDepth 100000 in
set_option maxHeartbeats 1600000 in
theorem labelNumbers_walk (w : World) (hT : Lib.Utf8Tabs 0 1 w) :
    Calls Tryd.prog 4 #[] w fun e w' => e = .returned (.bool true) ∧ Below w.heap.size w w' := by
  have p1 : padI [] 5000 = List.replicate 1000 32 := by
    unfold padI cutI
    rw [show min (5000 : Int) 1000 = 1000 by omega]
    rfl
  have p2 : (str (List.replicate 1000 32)).size = 1000 := by rw [str_size, List.length_replicate]
  have p3 : foldL [206, 177, 207, 137] = [206, 145, 206, 169] := by decide
  have p4 : (str [206, 145, 206, 169]).toList = [206, 145, 206, 169] := str_toList _
  go_enter Tryd.func4, Tryd.ntmps4
  go_wp2_with fail
  obtain ⟨wb, ewb⟩ : ∃ wb, wb = w.alloc (.cells (strs textsL).toArray 9) := ⟨_, rfl⟩
  refine wp_at2 ewb ?_
  obtain ⟨g, eg⟩ : ∃ g, g = w.heap.size := ⟨_, rfl⟩
  have hc : Cells wb (some ⟨g, 0, none⟩) (strs textsL) := by rw [ewb, eg]; exact Cells.lit w (strs textsL).toArray _
  have C0 : Below w.heap.size w wb := by rw [ewb]; exact nxt_alloc (Below.refl _ _) _
  have HT1 := hide (nxtT hT C0)
  rw [← eg]
  have HP1 := hide p1; have HP3 := hide p3
  clear hT ewb eg p1 p3
  go_loopw [6] (fun v wr => ∃ k : Nat, k ≤ 23 ∧ v = .int .i64 (k : Int) ∧ Below wb.heap.size wb wr) (fun v _ => 23 - (intOf v).toNat)
  case atStart => exact ⟨0, by omega, rfl, Below.refl _ _⟩
  case round =>
    obtain ⟨k, hk, rfl, B0⟩ := hrel
    by_cases hlt : k < 23
    · obtain ⟨b, o, l, hA, hb, hcx, hl⟩ := text_at hc hlt
      injection hA with hA
      injection hA with hA1 hA2
      subst hA1; subst hA2
      have hcw : wr.cell? ⟨g, 0 + k, none⟩ = some (.string (str l)) := (B0.cell (p := ⟨g, 0 + k, none⟩) hb).trans hcx
      rw [Nat.zero_add] at hcw
      have i1 : (k : Int) < 23 := by omega
      clear hcx hc hb
      go_wp2_with fail
      refine (labR_any l _ (by omega)).mono ?_
      rintro e w1 ⟨rfl, b1⟩
      have B1 := nxt B0 b1
      clear B0 b1
      go_wp2_with fail
      refine (refLabR_any l _ (by omega)).mono ?_
      rintro e w2 ⟨rfl, b2⟩
      have B2 := nxt B1 b2
      clear B1 b2
      go_wp2_with fail
      refine (count_any l _ (by omega)).mono ?_
      rintro e w3 ⟨rfl, b3⟩
      have B3 := nxt B2 b3
      clear B2 b3
      go_wp2_with fail
      refine (refCount_any l _ (by omega)).mono ?_
      rintro e w4 ⟨rfl, b4⟩
      have B4 := nxt B3 b4
      clear B3 b4
      go_wp2_with fail
      refine (fold_any l _ (by omega) (nxtT HT1.out B4)).mono ?_
      rintro e w5 ⟨rfl, b5⟩
      have B5 := nxt B4 b5
      clear B4 b5
      go_wp2_with fail
      refine (refFold_any l _ (by omega)).mono ?_
      rintro e w6 ⟨rfl, b6⟩
      have B6 := nxt B5 b6
      clear B5 b6
      go_wp2_with fail
      refine (labBack_any l _ (by omega) (nxtT HT1.out B6)).mono ?_
      rintro e w7 ⟨rfl, b7⟩
      have B7 := nxt B6 b7
      clear B6 b7
      go_wp2_with fail
      refine (refBack_any l _ (by omega)).mono ?_
      rintro e w8 ⟨rfl, b8⟩
      have B8 := nxt B7 b8
      clear B7 b8
      go_wp2_with fail
      obtain ⟨wo, ewo⟩ : ∃ wo, wo = w8 := ⟨_, rfl⟩
      go_loopw [3] (fun v wr => ∃ n : Int, -1 ≤ n ∧ n ≤ 15 ∧ v = .int .i64 n ∧ Below wb.heap.size wb wr) (fun v _ => (15 - intOf v).toNat)
      case atStart => exact ⟨-1, by omega, by omega, rfl, B8⟩
      case round =>
        clear B8
        obtain ⟨n, hn1, hn2, rfl, B0⟩ := hrel
        by_cases hlt2 : n < 15
        · have hwn : IntKind.i64.wrap (n + 1) = n + 1 := IntWalk.i64_in _ (by omega)
          go_wp2_with fail
          refine (labCut_any l n _ (by omega) (by omega)).mono ?_
          rintro e v1 ⟨rfl, b1⟩
          have B1 := nxt B0 b1
          clear B0 b1
          go_wp2_with fail
          refine (refCut_any l n _ (by omega) (by omega)).mono ?_
          rintro e v2 ⟨rfl, b2⟩
          have B2 := nxt B1 b2
          clear B1 b2
          go_wp2_with fail
          refine (labPad_any l n _ (by omega) (by omega)).mono ?_
          rintro e v3 ⟨rfl, b3⟩
          have B3 := nxt B2 b3
          clear B2 b3
          go_wp2_with fail
          refine (refPad_any l n _ (by omega) (by omega)).mono ?_
          rintro e v4 ⟨rfl, b4⟩
          have B4 := nxt B3 b4
          clear B3 b4
          go_wp2_with fail
          go_roundw
          case rel => exact ⟨n + 1, by omega, by omega, by go_num, B4⟩
          case measure => simp [intOf]; omega
        · have hwk : IntKind.i64.wrap ((k : Int) + 1) = (k : Int) + 1 := IntWalk.i64_in _ (by omega)
          go_wp2_with fail
          go_roundw
          case rel => exact ⟨k + 1, by omega, by go_num, B0⟩
          case measure => simp [intOf]; omega
    · have i1 : ¬ (k : Int) < 23 := by omega
      clear hc
      go_wp2_with fail
      refine (labPad_any [] 5000 _ (by simp) (by omega)).mono ?_
      rw [HP1.out]
      rintro e w1 ⟨rfl, b1⟩
      have B1 := nxt B0 b1
      clear B0 b1
      go_wp2_with fail
      refine (fold_any [206, 177, 207, 137] _ (by simp) (nxtT HT1.out B1)).mono ?_
      rw [HP3.out]
      rintro e w2 ⟨rfl, b2⟩
      have B2 := nxt B1 b2
      clear B1 b2
      go_wp2_with fail
      refine (known2_any _ (hide (nxtT HT1.out B2))).mono ?_
      rintro e w3 ⟨rfl, b3⟩
      have B3 := nxt B2 b3
      clear B2 b3
      go_wp2_with fail
      go_ret
      exact ⟨rfl, nxt C0 B3⟩
end Go.Proofs.YtdginbmannhfnaaDoor
