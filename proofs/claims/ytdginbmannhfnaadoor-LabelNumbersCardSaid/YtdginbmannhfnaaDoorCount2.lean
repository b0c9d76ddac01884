/-
  label.Count and Cut, and the document's.
-/
import Derived.Test.YtdginbmannhfnaaDoorRunesQ
import Derived.Test.YtdginbmannhfnaaDoorLabR
import Derived.Test.YtdginbmannhfnaaDoorCut
namespace Go.Proofs.YtdginbmannhfnaaDoor
open Go.RowKit
set_option linter.unusedVariables false

set_option maxHeartbeats 800000 in
theorem count_any (l : List UInt8) (w : World) (hl : l.length ≤ 9223372036854775807) :
    Calls Tryd.prog 12 #[.string (str l)] w fun e w' => e = .returned (.int .i64 (countL l : Nat)) ∧ Below w.heap.size w w' := by
  obtain ⟨O, eO⟩ : ∃ O, O = countL l := ⟨_, rfl⟩
  rw [← eO]
  have HO := hide eO
  clear eO
  go_enter Tryd.func12, Tryd.ntmps12
  go_wp2
  go_loopw [3] (fun n wr => ∃ (pos k : Nat), wr = w.iter (str l) pos ∧ AtR l k pos ∧ n = .int .i64 k) (fun _ wr => l.length - wr.iterPos w.heap.size)
  case atStart => exact ⟨0, 0, rfl, AtR.zero l, rfl⟩
  case round =>
    obtain ⟨pos, k, rfl, A, rfl⟩ := hrel
    have hp := A.le
    have hk := A.kle
    by_cases hlt : pos < l.length
    · obtain ⟨A2, -, hb1, hb2⟩ := A.step hlt
      have hnx := next_str (P := Tryd.prog) w l pos hlt
      obtain ⟨wd, ewd⟩ : ∃ wd, wd = (headR (l.drop pos)).2 := ⟨_, rfl⟩
      obtain ⟨r, er⟩ : ∃ r, r = (headR (l.drop pos)).1 := ⟨_, rfl⟩
      rw [← ewd] at A2 hb1 hb2
      rw [← er, ← ewd] at hnx
      clear er ewd A
      have hw : IntKind.i64.wrap ((k : Int) + 1) = (k : Int) + 1 := IntWalk.i64_in _ (by omega)
      go_wp2
      go_roundw
      case rel => exact ⟨pos + wd, k + 1, rfl, A2, by go_num⟩
      case measure => simp; omega
    · have hnx := next_str_end (P := Tryd.prog) w l pos hlt
      obtain ⟨hk, -⟩ := A.end_ hlt
      have hkO : k = O := by rw [HO.out, hk]; rfl
      clear A hk
      go_wp2
      go_ret
      exact ⟨by rw [hkO]; rfl, nxt_alloc (Below.refl _ _) _⟩
set_option maxHeartbeats 800000 in
theorem refCount_any (l : List UInt8) (w : World) (hl : l.length ≤ 9223372036854775807) :
    Calls Tryd.prog 16 #[.string (str l)] w fun e w' => e = .returned (.int .i64 (countL l : Nat)) ∧ Below w.heap.size w w' := by
  obtain ⟨O, eO⟩ : ∃ O, O = countL l := ⟨_, rfl⟩
  rw [← eO]
  have HO := hide eO
  clear eO
  go_enter Tryd.func16, Tryd.ntmps16
  go_wp2
  go_loopw [3] (fun n wr => ∃ (pos k : Nat), wr = w.iter (str l) pos ∧ AtR l k pos ∧ n = .int .i64 k) (fun _ wr => l.length - wr.iterPos w.heap.size)
  case atStart => exact ⟨0, 0, rfl, AtR.zero l, rfl⟩
  case round =>
    obtain ⟨pos, k, rfl, A, rfl⟩ := hrel
    have hp := A.le
    have hk := A.kle
    by_cases hlt : pos < l.length
    · obtain ⟨A2, -, hb1, hb2⟩ := A.step hlt
      have hnx := next_str (P := Tryd.prog) w l pos hlt
      obtain ⟨wd, ewd⟩ : ∃ wd, wd = (headR (l.drop pos)).2 := ⟨_, rfl⟩
      obtain ⟨r, er⟩ : ∃ r, r = (headR (l.drop pos)).1 := ⟨_, rfl⟩
      rw [← ewd] at A2 hb1 hb2
      rw [← er, ← ewd] at hnx
      clear er ewd A
      have hw : IntKind.i64.wrap ((k : Int) + 1) = (k : Int) + 1 := IntWalk.i64_in _ (by omega)
      go_wp2
      go_roundw
      case rel => exact ⟨pos + wd, k + 1, rfl, A2, by go_num⟩
      case measure => simp; omega
    · have hnx := next_str_end (P := Tryd.prog) w l pos hlt
      obtain ⟨hk, -⟩ := A.end_ hlt
      have hkO : k = O := by rw [HO.out, hk]; rfl
      clear A hk
      go_wp2
      go_ret
      exact ⟨by rw [hkO]; rfl, nxt_alloc (Below.refl _ _) _⟩
/-- The first runes, by an int. -/
def cutI (t : List UInt8) (n : Int) : List UInt8 := cutL t n.toNat
theorem AtR.cut {t : List UInt8} {k pos : Nat} (h : AtR t k pos) {n : Int} (h1 : (k : Int) = max 0 n) : t.take pos = cutI t n := by
  rw [h.done]
  unfold cutI cutL
  rw [show n.toNat = k by omega]
theorem AtR.all {t : List UInt8} {k pos : Nat} (h : AtR t k pos) (hp : ¬ pos < t.length) {n : Int} (h1 : (k : Int) ≤ max 0 n) : t = cutI t n := by
  obtain ⟨hk, -⟩ := h.end_ hp
  unfold cutI cutL
  rw [List.take_of_length_le (by omega), runes_join]
theorem slice_str (l : List UInt8) (pos : Nat) : (str l).extract 0 pos = str (l.take pos) := extract_str l pos
set_option maxHeartbeats 800000 in
theorem labCut_any (l : List UInt8) (n : Int) (w : World) (hl : l.length ≤ 9223372036854775807) (hn : -9223372036854775808 ≤ n ∧ n ≤ 9223372036854775807) :
    Calls Tryd.prog 10 #[.string (str l), .int .i64 n] w fun e w' => e = .returned (.string (str (cutI l n))) ∧ Below w.heap.size w w' := by
  obtain ⟨O, eO⟩ : ∃ O, O = cutI l n := ⟨_, rfl⟩
  rw [← eO]
  have HO := hide eO
  clear eO
  go_enter Tryd.func10, Tryd.ntmps10
  go_wp2
  go_loopw [1] (fun v wr => ∃ (pos k : Nat), wr = w.iter (str l) pos ∧ AtR l k pos ∧ v = .int .i64 (n - k) ∧ (k : Int) ≤ max 0 n) (fun _ wr => l.length - wr.iterPos w.heap.size)
  case atStart => exact ⟨0, 0, rfl, AtR.zero l, val_int (by omega), by omega⟩
  case round =>
    obtain ⟨pos, k, rfl, A, rfl, hkn⟩ := hrel
    have hp := A.le
    have hk := A.kle
    obtain ⟨m, em⟩ : ∃ m, m = n - k := ⟨_, rfl⟩
    rw [← em]
    by_cases hlt : pos < l.length
    · obtain ⟨A2, -, hb1, hb2⟩ := A.step hlt
      have hnx := next_str (P := Tryd.prog) w l pos hlt
      obtain ⟨wd, ewd⟩ : ∃ wd, wd = (headR (l.drop pos)).2 := ⟨_, rfl⟩
      obtain ⟨r, er⟩ : ∃ r, r = (headR (l.drop pos)).1 := ⟨_, rfl⟩
      rw [← ewd] at A2 hb1 hb2
      rw [← er, ← ewd] at hnx
      clear er ewd
      by_cases hm : m ≤ 0
      · have hO : O = l.take pos := by rw [HO.out]; exact (A.cut (by omega)).symm
        have hsz : (str l).size = l.length := str_size l
        have hex := slice_str l pos
        have i1 : (pos : Int) ≤ (str l).size := by rw [hsz]; omega
        have HOO := hide hO
        clear A A2 hO em
        go_wp2
        go_ret
        exact ⟨by rw [HOO.out, ← hex]; rfl, nxt_alloc (Below.refl _ _) _⟩
      · have hw : IntKind.i64.wrap (m - 1) = m - 1 := IntWalk.i64_in _ (by omega)
        clear A
        go_wp2
        go_roundw
        case rel => exact ⟨pos + wd, k + 1, rfl, A2, val_int (by omega), by omega⟩
        case measure => simp; omega
    · have hnx := next_str_end (P := Tryd.prog) w l pos hlt
      have hO : O = l := by rw [HO.out]; exact (A.all hlt hkn).symm
      have HOO := hide hO
      clear A hO em
      go_wp2
      go_ret
      exact ⟨by rw [HOO.out]; rfl, nxt_alloc (Below.refl _ _) _⟩
set_option maxHeartbeats 800000 in
theorem refCut_any (l : List UInt8) (n : Int) (w : World) (hl : l.length ≤ 9223372036854775807) (hn : -9223372036854775808 ≤ n ∧ n ≤ 9223372036854775807) :
    Calls Tryd.prog 21 #[.string (str l), .int .i64 n] w fun e w' => e = .returned (.string (str (cutI l n))) ∧ Below w.heap.size w w' := by
  obtain ⟨O, eO⟩ : ∃ O, O = cutI l n := ⟨_, rfl⟩
  rw [← eO]
  have HO := hide eO
  clear eO
  go_enter Tryd.func21, Tryd.ntmps21
  go_wp2
  go_loopw [5] (fun v wr => ∃ (pos k : Nat), wr = w.iter (str l) pos ∧ AtR l k pos ∧ v = .int .i64 k ∧ (k : Int) ≤ max 0 n) (fun _ wr => l.length - wr.iterPos w.heap.size)
  case atStart => exact ⟨0, 0, rfl, AtR.zero l, rfl, by omega⟩
  case round =>
    obtain ⟨pos, k, rfl, A, rfl, hkn⟩ := hrel
    have hp := A.le
    have hk := A.kle
    by_cases hlt : pos < l.length
    · obtain ⟨A2, -, hb1, hb2⟩ := A.step hlt
      have hnx := next_str (P := Tryd.prog) w l pos hlt
      obtain ⟨wd, ewd⟩ : ∃ wd, wd = (headR (l.drop pos)).2 := ⟨_, rfl⟩
      obtain ⟨r, er⟩ : ∃ r, r = (headR (l.drop pos)).1 := ⟨_, rfl⟩
      rw [← ewd] at A2 hb1 hb2
      rw [← er, ← ewd] at hnx
      clear er ewd
      by_cases hm : n ≤ k
      · have hO : O = l.take pos := by rw [HO.out]; exact (A.cut (by omega)).symm
        have hsz : (str l).size = l.length := str_size l
        have hex := slice_str l pos
        have i1 : (pos : Int) ≤ (str l).size := by rw [hsz]; omega
        have HOO := hide hO
        clear A A2 hO
        go_wp2
        go_ret
        exact ⟨by rw [HOO.out, ← hex]; rfl, nxt_alloc (Below.refl _ _) _⟩
      · have hw : IntKind.i64.wrap ((k : Int) + 1) = (k : Int) + 1 := IntWalk.i64_in _ (by omega)
        clear A
        go_wp2
        go_roundw
        case rel => exact ⟨pos + wd, k + 1, rfl, A2, by go_num, by omega⟩
        case measure => simp; omega
    · have hnx := next_str_end (P := Tryd.prog) w l pos hlt
      have hO : O = l := by rw [HO.out]; exact (A.all hlt hkn).symm
      by_cases hm : n ≤ 0
      · have hl0 : l = [] := by
          obtain ⟨h1, h2⟩ := A.end_ hlt
          have : (runesL l).length = 0 := by omega
          have h3 := runes_join l
          rw [List.eq_nil_of_length_eq_zero this] at h3
          exact h3.symm
        have HOO := hide (hO.trans hl0)
        clear A hO hl0
        go_wp2
        go_ret
        exact ⟨by rw [HOO.out]; rfl, nxt_alloc (Below.refl _ _) _⟩
      · have HOO := hide hO
        clear A hO
        go_wp2
        go_ret
        exact ⟨by rw [HOO.out]; rfl, nxt_alloc (Below.refl _ _) _⟩
end Go.Proofs.YtdginbmannhfnaaDoor
