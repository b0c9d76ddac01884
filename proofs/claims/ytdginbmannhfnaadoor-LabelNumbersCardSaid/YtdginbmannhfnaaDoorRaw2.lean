/-
  label.raw: the bytes of one rune.
-/
import Derived.Test.YtdginbmannhfnaaDoorCount2
import Derived.Test.YtdginbmannhfnaaDoorShelf
namespace Go.Proofs.YtdginbmannhfnaaDoor
open Go.RowKit
set_option linter.unusedVariables false

/-- The bytes of the rune at a place. -/
def rawL (t : List UInt8) (i : Nat) : List UInt8 := (t.drop i).take (headR (t.drop i)).2
theorem extract_mid (l : List UInt8) (i j : Nat) : (str l).extract i j = str ((l.drop i).take (j - i)) := by
  show (ByteArray.mk l.toArray).extract i j = _
  rw [ByteArray.extract_mk]; simp [str]
theorem decodeGo_str (l : List UInt8) (h : l ≠ []) : Lib.decodeGo (str l) = headR l := by
  unfold Lib.decodeGo
  have hp : 0 < l.length := List.length_pos_iff.2 h
  rw [if_neg (by rw [str_size]; omega), decode_str]; rfl
set_option maxHeartbeats 800000 in
theorem raw_any (l : List UInt8) (i : Nat) (w : World) (hl : l.length ≤ 4611686018427387904) (hi : i < l.length) (hT : Lib.Utf8Tabs 0 1 w) :
    Calls Tryd.prog 27 #[.string (str l), .int .i64 (i : Int)] w fun e w' => e = .returned (.string (str (rawL l i))) ∧ Below w.heap.size w w' := by
  go_enter Tryd.func27, Tryd.ntmps27
  have hne : l.drop i ≠ [] := by intro h; have := congrArg List.length h; simp at this; omega
  obtain ⟨hb1, hb2, hb3⟩ := headR_bd (l.drop i) hne
  rw [List.length_drop] at hb2
  obtain ⟨wd, ewd⟩ : ∃ wd, wd = (headR (l.drop i)).2 := ⟨_, rfl⟩
  obtain ⟨r, er⟩ : ∃ r, r = (headR (l.drop i)).1 := ⟨_, rfl⟩
  have hG := Tryd.utf8_DecodeRuneInString (str (l.drop i)) w hT
  rw [decodeGo_str _ hne, ← er, ← ewd] at hG
  have hraw : rawL l i = (l.drop i).take wd := by rw [ewd]; rfl
  rw [← ewd] at hb1 hb2 hb3
  rw [hraw]
  clear hraw ewd er hT
  have hsz : (str l).size = l.length := str_size l
  have i1 : (i : Int) ≤ (str l).size := by rw [hsz]; omega
  have hx : (str l).extract i l.length = str (l.drop i) := by
    rw [extract_mid, List.take_of_length_le (by rw [List.length_drop]; omega)]
  have hy : (str l).extract i (i + wd) = str ((l.drop i).take wd) := by rw [extract_mid, Nat.add_sub_cancel_left]
  rw [← hx] at hG
  obtain ⟨j, ej⟩ : ∃ j, j = i + wd := ⟨_, rfl⟩
  rw [← ej] at hy
  have HY := hide hy
  clear hx hy
  go_wp2_with fail
  refine hG.mono ?_
  rintro e w1 ⟨rfl, b1⟩
  clear hG
  have hw : IntKind.i64.wrap ((i : Int) + (wd : Int)) = (j : Int) := by rw [IntWalk.i64_in _ (by omega)]; omega
  have i2 : (j : Int) ≤ (str l).size := by rw [hsz]; omega
  have i3 : (i : Int) ≤ (j : Int) := by omega
  have hj : (i : Int) + (wd : Int) = (j : Int) := by omega
  have i4 : i ≤ j := by omega
  have i5 : j ≤ l.length := by omega
  clear ej i2 i3
  go_wp2_with fail
  go_ret
  exact ⟨by rw [← HY.out]; rfl, b1⟩
