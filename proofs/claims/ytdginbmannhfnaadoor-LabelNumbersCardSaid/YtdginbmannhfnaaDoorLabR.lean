/-
  label.Right, and the document's.
-/
import Derived.Test.YtdginbmannhfnaaDoorRows
import Derived.Test.YtdginbmannhfnaaDoorRunesP
import Derived.Laws.RangeAny
import Derived.LoopTactic
namespace Go.Proofs.YtdginbmannhfnaaDoor
open Go.RowKit
set_option linter.unusedVariables false

theorem next_str {P : Program} (w : World) (l : List UInt8) (pos : Nat) (h : pos < l.length) : ∀ ty, (Instr.next (.pointer (some ⟨w.heap.size, 0, none⟩)) true ty).run P (w.iter (str l) pos) =
      .ok (.tuple #[.bool true, .int .i64 pos, .int .i32 ((headR (l.drop pos)).1 : Nat)]) (w.iter (str l) (pos + (headR (l.drop pos)).2)) := by
  intro ty
  have := run_next_any (P := P) w (str l) pos ty (by rw [str_size]; exact h)
  rw [decode_str] at this
  exact this
theorem next_str_end {P : Program} (w : World) (l : List UInt8) (pos : Nat) (h : ¬ pos < l.length) : ∀ ty, (Instr.next (.pointer (some ⟨w.heap.size, 0, none⟩)) true ty).run P (w.iter (str l) pos) = .ok (.tuple #[.bool false]) (w.iter (str l) pos) := by
  intro ty
  exact run_next_end (P := P) w (str l) pos ty (by rw [str_size]; exact h)
set_option maxHeartbeats 800000 in
theorem labR_any (l : List UInt8) (w : World) (hl : l.length ≤ 9223372036854775807) :
    Calls Tryd.prog 14 #[.string (str l)] w fun e w' => e = .returned (.bool (labR l)) ∧ Below w.heap.size w w' := by
  obtain ⟨O, eO⟩ : ∃ O, O = labR l := ⟨_, rfl⟩
  rw [← eO]
  have HO := hide eO
  clear eO
  go_enter Tryd.func14, Tryd.ntmps14
  go_wp2
  go_loopw [3] (fun n wr => ∃ (pos k : Nat), wr = w.iter (str l) pos ∧ pos ≤ l.length ∧ k ≤ pos ∧ n = .int .i64 k ∧ Hid (O = ((runesL (l.drop pos)).all (fun x => goodR x.1) && decide (1 ≤ k + (runesL (l.drop pos)).length ∧ k + (runesL (l.drop pos)).length ≤ 12)))) (fun _ wr => l.length - wr.iterPos w.heap.size)
  case atStart => exact ⟨0, 0, rfl, Nat.zero_le _, Nat.le_refl _, rfl, by show _ = _; rw [HO.out]; simp [labR]⟩
  case round =>
    obtain ⟨pos, k, rfl, hp, hk, rfl, H⟩ := hrel
    by_cases hlt : pos < l.length
    · have hne : l.drop pos ≠ [] := by
        intro h; have := congrArg List.length h; rw [List.length_drop] at this; simp at this; omega
      have hnx := next_str (P := Tryd.prog) w l pos hlt
      have hbd := headR_bd _ hne
      have hrl := headR_le (l.drop pos)
      have hc := runesL_cons hne
      obtain ⟨wd, ewd⟩ : ∃ wd, wd = (headR (l.drop pos)).2 := ⟨_, rfl⟩
      obtain ⟨r, er⟩ : ∃ r, r = (headR (l.drop pos)).1 := ⟨_, rfl⟩
      rw [List.length_drop, ← ewd] at hbd
      rw [← er] at hrl
      rw [← er, ← ewd] at hnx hc
      rw [List.drop_drop] at hc
      rw [hc] at H
      obtain ⟨R, eR⟩ : ∃ R : Int, R = (r : Int) := ⟨_, rfl⟩
      rw [← eR] at hnx
      clear hc er ewd hne
      by_cases hg : goodR r = true
      · have hg2 := hg
        simp only [goodR, Bool.not_eq_true', Bool.or_eq_false_iff, decide_eq_false_iff_not, beq_eq_false_iff_ne, ne_eq] at hg2
        obtain ⟨⟨g1, g2⟩, g3⟩ := hg2
        have g1' : ¬ R < 32 := by omega
        have g2' : (R == 127) = false := by simp; omega
        have g3' : (R == 65533) = false := by simp; omega
        have H2 : Hid (O = ((runesL (l.drop (pos + wd))).all (fun x => goodR x.1) && decide (1 ≤ k + 1 + (runesL (l.drop (pos + wd))).length ∧ k + 1 + (runesL (l.drop (pos + wd))).length ≤ 12))) := by
          show _ = _
          rw [H.out]
          simp only [List.all_cons, List.length_cons, hg, Bool.true_and]
          congr 1
          simp only [decide_eq_decide]
          omega
        clear H hg eR g1 g2 g3
        have hw : IntKind.i64.wrap ((k : Int) + 1) = (k : Int) + 1 := IntWalk.i64_in _ (by omega)
        go_wp2
        go_roundw
        case rel => exact ⟨pos + wd, k + 1, rfl, by omega, by omega, by go_num, H2⟩
        case measure => simp; omega
      · have hO : O = false := by rw [H.out]; simp [hg]
        have hb : R < 32 ∨ (¬ R < 32 ∧ R = 127) ∨ (¬ R < 32 ∧ ¬ R = 127 ∧ R = 65533) := by
          simp [goodR] at hg
          omega
        clear H hg eR
        subst hO
        rcases hb with g1 | ⟨g1, rfl⟩ | ⟨g1, g2, rfl⟩
        · go_wp2
          go_ret
          exact ⟨rfl, nxt_alloc (Below.refl _ _) _⟩
        · go_wp2
          go_ret
          exact ⟨rfl, nxt_alloc (Below.refl _ _) _⟩
        · go_wp2
          go_ret
          exact ⟨rfl, nxt_alloc (Below.refl _ _) _⟩
    · have hnx := next_str_end (P := Tryd.prog) w l pos hlt
      have hd : l.drop pos = [] := List.eq_nil_of_length_eq_zero (by rw [List.length_drop]; omega)
      rw [hd, runesL_nil] at H
      have hO : O = decide (1 ≤ k ∧ k ≤ 12) := by rw [H.out]; simp
      clear H hd
      subst hO
      by_cases h1 : 1 ≤ k
      · have i1 : (1 : Int) ≤ k := by omega
        by_cases h2 : k ≤ 12
        · have i2 : (k : Int) ≤ 12 := by omega
          go_wp2
          go_ret
          exact ⟨ret_bool (by simp; try omega), nxt_alloc (Below.refl _ _) _⟩
        · have i2 : ¬ (k : Int) ≤ 12 := by omega
          go_wp2
          go_ret
          exact ⟨ret_bool (by simp; try omega), nxt_alloc (Below.refl _ _) _⟩
      · have i1 : ¬ (1 : Int) ≤ k := by omega
        go_wp2
        go_ret
        exact ⟨ret_bool (by simp; try omega), nxt_alloc (Below.refl _ _) _⟩
theorem broken_any (R : Int) (b : Bool) (w : World) (hb : if b = true then R = 65533 else R ≠ 65533) : Calls Tryd.prog 24 #[.int .i32 R] w fun e w' => e = .returned (.bool b) ∧ w = w' := by
  have hb' : (R == 65533) = b := by
    cases b
    · simpa using hb
    · simpa using hb
  clear hb
  subst hb'
  go_enter Tryd.func24, Tryd.ntmps24
  go_wp2
  go_ret
  exact ⟨rfl, rfl⟩
set_option maxHeartbeats 800000 in
theorem refLabR_any (l : List UInt8) (w : World) (hl : l.length ≤ 9223372036854775807) :
    Calls Tryd.prog 15 #[.string (str l)] w fun e w' => e = .returned (.bool (labR l)) ∧ Below w.heap.size w w' := by
  obtain ⟨O, eO⟩ : ∃ O, O = labR l := ⟨_, rfl⟩
  rw [← eO]
  have HO := hide eO
  clear eO
  go_enter Tryd.func15, Tryd.ntmps15
  go_wp2
  go_loopw [3] (fun n wr => ∃ (pos k : Nat), wr = w.iter (str l) pos ∧ pos ≤ l.length ∧ k ≤ pos ∧ n = .int .i64 k ∧ Hid (O = ((runesL (l.drop pos)).all (fun x => goodR x.1) && decide (1 ≤ k + (runesL (l.drop pos)).length ∧ k + (runesL (l.drop pos)).length ≤ 12)))) (fun _ wr => l.length - wr.iterPos w.heap.size)
  case atStart => exact ⟨0, 0, rfl, Nat.zero_le _, Nat.le_refl _, rfl, by show _ = _; rw [HO.out]; simp [labR]⟩
  case round =>
    obtain ⟨pos, k, rfl, hp, hk, rfl, H⟩ := hrel
    by_cases hlt : pos < l.length
    · have hne : l.drop pos ≠ [] := by
        intro h; have := congrArg List.length h; rw [List.length_drop] at this; simp at this; omega
      have hnx := next_str (P := Tryd.prog) w l pos hlt
      have hbd := headR_bd _ hne
      have hrl := headR_le (l.drop pos)
      have hc := runesL_cons hne
      obtain ⟨wd, ewd⟩ : ∃ wd, wd = (headR (l.drop pos)).2 := ⟨_, rfl⟩
      obtain ⟨r, er⟩ : ∃ r, r = (headR (l.drop pos)).1 := ⟨_, rfl⟩
      rw [List.length_drop, ← ewd] at hbd
      rw [← er] at hrl
      rw [← er, ← ewd] at hnx hc
      rw [List.drop_drop] at hc
      rw [hc] at H
      obtain ⟨R, eR⟩ : ∃ R : Int, R = (r : Int) := ⟨_, rfl⟩
      rw [← eR] at hnx
      clear hc er ewd hne
      by_cases hg : goodR r = true
      · have hg2 := hg
        simp only [goodR, Bool.not_eq_true', Bool.or_eq_false_iff, decide_eq_false_iff_not, beq_eq_false_iff_ne, ne_eq] at hg2
        obtain ⟨⟨g1, g2⟩, g3⟩ := hg2
        have g1' : ¬ R < 32 := by omega
        have g2' : (R == 127) = false := by simp; omega
        have g3' : (R == 65533) = false := by simp; omega
        have H2 : Hid (O = ((runesL (l.drop (pos + wd))).all (fun x => goodR x.1) && decide (1 ≤ k + 1 + (runesL (l.drop (pos + wd))).length ∧ k + 1 + (runesL (l.drop (pos + wd))).length ≤ 12))) := by
          show _ = _
          rw [H.out]
          simp only [List.all_cons, List.length_cons, hg, Bool.true_and]
          congr 1
          simp only [decide_eq_decide]
          omega
        clear H hg eR g1 g2 g3
        have hw : IntKind.i64.wrap ((k : Int) + 1) = (k : Int) + 1 := IntWalk.i64_in _ (by omega)
        go_wp2_with fail
        refine (broken_any _ false _ (by simpa using g3')).mono ?_
        rintro e u ⟨rfl, rfl⟩
        go_wp2
        go_roundw
        case rel => exact ⟨pos + wd, k + 1, rfl, by omega, by omega, by go_num, H2⟩
        case measure => simp; omega
      · have hO : O = false := by rw [H.out]; simp [hg]
        have hb : R < 32 ∨ (¬ R < 32 ∧ R = 127) ∨ (¬ R < 32 ∧ ¬ R = 127 ∧ R = 65533) := by
          simp [goodR] at hg
          omega
        clear H hg eR
        subst hO
        rcases hb with g1 | ⟨g1, rfl⟩ | ⟨g1, g2, rfl⟩
        · go_wp2
          go_ret
          exact ⟨rfl, nxt_alloc (Below.refl _ _) _⟩
        · go_wp2
          go_ret
          exact ⟨rfl, nxt_alloc (Below.refl _ _) _⟩
        · go_wp2_with fail
          refine (broken_any _ true _ (by simp)).mono ?_
          rintro e u ⟨rfl, rfl⟩
          go_wp2
          go_ret
          exact ⟨rfl, nxt_alloc (Below.refl _ _) _⟩
    · have hnx := next_str_end (P := Tryd.prog) w l pos hlt
      have hd : l.drop pos = [] := List.eq_nil_of_length_eq_zero (by rw [List.length_drop]; omega)
      rw [hd, runesL_nil] at H
      have hO : O = decide (1 ≤ k ∧ k ≤ 12) := by rw [H.out]; simp
      clear H hd
      subst hO
      by_cases h1 : 1 ≤ k
      · have i1 : (1 : Int) ≤ k := by omega
        by_cases h2 : k ≤ 12
        · have i2 : (k : Int) ≤ 12 := by omega
          go_wp2
          go_ret
          exact ⟨ret_bool (by simp; try omega), nxt_alloc (Below.refl _ _) _⟩
        · have i2 : ¬ (k : Int) ≤ 12 := by omega
          go_wp2
          go_ret
          exact ⟨ret_bool (by simp; try omega), nxt_alloc (Below.refl _ _) _⟩
      · have i1 : ¬ (1 : Int) ≤ k := by omega
        go_wp2
        go_ret
        exact ⟨ret_bool (by simp; try omega), nxt_alloc (Below.refl _ _) _⟩
end Go.Proofs.YtdginbmannhfnaaDoor
