/-
  Chapter 2's known, few.
-/
import Derived.Test.YtdginbmannhfnaaDoorBackL2
import Derived.Test.YtdginbmannhfnaaDoorPadL2
namespace Go.Proofs.YtdginbmannhfnaaDoor
open Go.RowKit
set_option linter.unusedVariables false

theorem nxtT {w w' : World} (h : Lib.Utf8Tabs 0 1 w) (hb : Below w.heap.size w w') : Lib.Utf8Tabs 0 1 w' := Utf8Tabs_below h hb
set_option maxRecDepth 100000 in
set_option maxHeartbeats 1600000 in
theorem known2_any (w : World) (hT : Hid (Lib.Utf8Tabs 0 1 w)) : Calls Tryd.prog 13 #[] w fun e w' => e = .returned (.bool true) ∧ Below w.heap.size w w' := by
  have e1 : countL [97, 195, 169, 255] = 3 := by decide
  have e2 : padI [195, 169] 3 = [195, 169, 32, 32] := by decide
  have e3 : backL [97, 98] = [98, 97] := by decide
  have e4 : labR [97, 98] = true := by decide
  have e5 : labR [] = false := by decide
  have k1 : (str [195, 169, 32, 32]).toList = [195, 169, 32, 32] := str_toList _
  have k2 : (str [98, 97]).toList = [98, 97] := str_toList _
  go_enter Tryd.func13, Tryd.ntmps13
  go_wp2_with fail
  refine (count_any [97, 195, 169, 255] _ (by simp)).mono ?_
  rintro e w1 ⟨rfl, b1⟩
  rw [e1]
  go_wp2_with fail
  refine (labPad_any [195, 169] 3 _ (by simp) (by omega)).mono ?_
  rintro e w2 ⟨rfl, b2⟩
  rw [e2]
  have B2 := nxt b1 b2
  go_wp2_with fail
  refine (labBack_any [97, 98] _ (by simp) (nxtT hT.out B2)).mono ?_
  rintro e w3 ⟨rfl, b3⟩
  rw [e3]
  have B3 := nxt B2 b3
  go_wp2_with fail
  refine (labR_any [97, 98] _ (by simp)).mono ?_
  rintro e w4 ⟨rfl, b4⟩
  rw [e4]
  have B4 := nxt B3 b4
  go_wp2_with fail
  refine (labR_any [] _ (by simp)).mono ?_
  rintro e w5 ⟨rfl, b5⟩
  rw [e5]
  have B5 := nxt B4 b5
  go_wp2_with fail
  go_ret
  exact ⟨rfl, B5⟩
theorem few_any (l : List UInt8) (w : World) (hl : l.length ≤ 9223372036854775807) : Calls Tryd.prog 9 #[.string (str l)] w fun e w' => e = .returned (.string (str (l.take 300))) ∧ w = w' := by
  have hsz : (str l).size = l.length := str_size l
  go_enter Tryd.func9, Tryd.ntmps9
  by_cases h : 300 < l.length
  · have i1 : (300 : Int) < l.length := by omega
    have i2 : 300 ≤ l.length := by omega
    have hex := slice_str l 300
    go_wp2_with fail
    go_ret
    exact ⟨by rw [← hex]; rfl, rfl⟩
  · have i1 : ¬ (300 : Int) < l.length := by omega
    have ht : l.take 300 = l := List.take_of_length_le (by omega)
    rw [ht]
    clear ht
    go_wp2_with fail
    go_ret
    exact ⟨rfl, rfl⟩
end Go.Proofs.YtdginbmannhfnaaDoor
