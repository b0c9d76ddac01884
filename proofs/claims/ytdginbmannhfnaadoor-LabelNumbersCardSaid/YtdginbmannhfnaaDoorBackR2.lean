/-
  The document's Back: a text's runes from the last to the first.
-/
import Derived.Test.YtdginbmannhfnaaDoorRaw2
namespace Go.Proofs.YtdginbmannhfnaaDoor
open Go.RowKit
set_option linter.unusedVariables false

/-- The first k runes, the last of them first. -/
def backK (t : List UInt8) (k : Nat) : List UInt8 := joinR ((runesL t).take k).reverse
def backL (t : List UInt8) : List UInt8 := joinR (runesL t).reverse
theorem backK_step {t : List UInt8} {k : Nat} {x : Nat × List UInt8} (h : (runesL t)[k]? = some x) : backK t (k + 1) = x.2 ++ backK t k := by
  unfold backK
  rw [List.take_add_one, h]
  simp [joinR]
theorem backK_all (t : List UInt8) : backK t (runesL t).length = backL t := by unfold backK backL; rw [List.take_length]
set_option maxHeartbeats 800000 in
theorem refBack_any (l : List UInt8) (w : World) (hl : l.length ≤ 4611686018427387904) :
    Calls Tryd.prog 20 #[.string (str l)] w fun e w' => e = .returned (.string (str (backL l))) ∧ Below w.heap.size w w' := by
  obtain ⟨O, eO⟩ : ∃ O, O = backL l := ⟨_, rfl⟩
  rw [← eO]
  have HO := hide eO
  clear eO
  have hsz : (str l).size = l.length := str_size l
  go_enter Tryd.func20, Tryd.ntmps20
  go_wp2
  go_loopw [3, 4] (fun a v wr => ∃ (pos k q : Nat) (X : List UInt8), wr = w.iter (str l) pos ∧ AtR l k pos ∧ a = .string (str X) ∧ v = .int .i64 q ∧ q ≤ pos ∧ X.length ≤ q ∧ Hid ((l.drop q).take (pos - q) ++ X = backK l k)) (fun _ _ wr => l.length - wr.iterPos w.heap.size)
  case atStart => exact ⟨0, 0, 0, [], rfl, AtR.zero l, rfl, rfl, by omega, by simp, hide (by simp [backK, joinR])⟩
  case round =>
    obtain ⟨pos, k, q, X, rfl, A, rfl, rfl, hq, hX, HX⟩ := hrel
    have hp := A.le
    by_cases hlt : pos < l.length
    · obtain ⟨A2, hx, hb1, hb2⟩ := A.step hlt
      have hnx := next_str (P := Tryd.prog) w l pos hlt
      have hst := backK_step hx
      obtain ⟨wd, ewd⟩ : ∃ wd, wd = (headR (l.drop pos)).2 := ⟨_, rfl⟩
      obtain ⟨r, er⟩ : ∃ r, r = (headR (l.drop pos)).1 := ⟨_, rfl⟩
      rw [← ewd] at A2 hb1 hb2
      rw [← er, ← ewd] at hnx
      have hst2 : (l.drop pos).take wd ++ backK l k = backK l (k + 1) := by rw [hst, ewd]
      have e1 : (str l).extract q pos = str ((l.drop q).take (pos - q)) := extract_mid l q pos
      have hz : ¬ 9223372036854775807 < ((str l).extract q pos).size + (str X).size := by rw [e1, str_size, str_size, List.length_take, List.length_drop]; omega
      have hs : (str l).extract q pos ++ str X = str (backK l k) := by rw [e1, str_append, HX.out]
      have hY : (backK l k).length ≤ pos := by rw [← HX.out, List.length_append, List.length_take, List.length_drop]; omega
      have HS := hide hst2
      clear er ewd A hx hst hst2 e1 HX
      go_wp2
      go_roundw
      case rel => exact ⟨pos + wd, k + 1, pos, backK l k, rfl, A2, rfl, by go_num, by omega, hY, hide (by rw [Nat.add_sub_cancel_left]; exact HS.out)⟩
      case measure => simp; omega
    · have hnx := next_str_end (P := Tryd.prog) w l pos hlt
      obtain ⟨hk, hpe⟩ := A.end_ hlt
      have e1 : (str l).extract q l.length = str ((l.drop q).take (l.length - q)) := extract_mid l q l.length
      have hz : ¬ 9223372036854775807 < ((str l).extract q l.length).size + (str X).size := by rw [e1, str_size, str_size, List.length_take, List.length_drop]; omega
      have hs : (str l).extract q l.length ++ str X = str O := by rw [e1, str_append, HO.out, ← backK_all, ← hk, ← HX.out, hpe]
      have HS := hide hs
      have i4 : q ≤ l.length := by omega
      clear A hk hpe e1 HX hs
      go_wp2
      go_ret
      exact ⟨by rw [← HS.out]; rfl, nxt_alloc (Below.refl _ _) _⟩
