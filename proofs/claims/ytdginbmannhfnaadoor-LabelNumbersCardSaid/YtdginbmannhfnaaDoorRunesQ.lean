/-
  Texts, rune by rune: how far a walk is. No program in sight.
-/
import Derived.Test.YtdginbmannhfnaaDoorRunesP
namespace Go.Proofs.YtdginbmannhfnaaDoor
open Go.RowKit
set_option linter.unusedVariables false

/-- The bytes of some runes. -/
def joinR (l : List (Nat × List UInt8)) : List UInt8 := l.flatMap (·.2)
theorem joinR_cons (x : Nat × List UInt8) (l : List (Nat × List UInt8)) : joinR (x :: l) = x.2 ++ joinR l := rfl
theorem joinR_append (a b : List (Nat × List UInt8)) : joinR (a ++ b) = joinR a ++ joinR b := by simp [joinR]
/-- A walk over t has passed k runes, and stands at pos. -/
structure AtR (t : List UInt8) (k pos : Nat) : Prop where
  le : pos ≤ t.length
  rest : runesL (t.drop pos) = (runesL t).drop k
  done : t.take pos = joinR ((runesL t).take k)
  kle : k ≤ pos
  kc : k ≤ (runesL t).length
theorem AtR.zero (t : List UInt8) : AtR t 0 0 := ⟨Nat.zero_le _, by simp, by simp [joinR], Nat.le_refl _, Nat.zero_le _⟩
theorem AtR.step {t : List UInt8} {k pos : Nat} (h : AtR t k pos) (hp : pos < t.length) :
    AtR t (k + 1) (pos + (headR (t.drop pos)).2) ∧ (runesL t)[k]? = some ((headR (t.drop pos)).1, (t.drop pos).take (headR (t.drop pos)).2) ∧ 1 ≤ (headR (t.drop pos)).2 ∧ pos + (headR (t.drop pos)).2 ≤ t.length := by
  have hne : t.drop pos ≠ [] := by
    intro h0; have := congrArg List.length h0; rw [List.length_drop] at this; simp at this; omega
  have hb := headR_bd _ hne
  have hc := runesL_cons hne
  have hr := h.rest
  rw [hc] at hr
  have hk : (runesL t)[k]? = some ((headR (t.drop pos)).1, (t.drop pos).take (headR (t.drop pos)).2) := by
    have := congrArg (fun l => l[0]?) hr
    simp only [List.getElem?_cons_zero, List.getElem?_drop, Nat.add_zero] at this
    exact this.symm
  have hlen := hb.2.1
  rw [List.length_drop] at hlen
  refine ⟨⟨by omega, ?_, ?_, by have := h.kle; omega, lt_of_some' hk⟩, hk, hb.1, by omega⟩
  · have := congrArg List.tail hr
    rw [List.tail_cons, List.tail_drop, List.drop_drop] at this
    exact this
  · rw [List.take_add, h.done, List.take_add_one, hk, joinR_append]
    simp [joinR]
theorem AtR.end_ {t : List UInt8} {k pos : Nat} (h : AtR t k pos) (hp : ¬ pos < t.length) : k = (runesL t).length ∧ pos = t.length := by
  have hpe : pos = t.length := by have := h.le; omega
  subst hpe
  refine ⟨?_, rfl⟩
  have h1 := h.rest
  rw [List.drop_length, runesL_nil] at h1
  have h2 := congrArg List.length h1
  rw [List.length_drop] at h2
  simp at h2
  have := h.kc
  omega
theorem runes_join (t : List UInt8) : joinR (runesL t) = t := by
  have key : ∀ (n : Nat) (t : List UInt8), t.length ≤ n → joinR (runesL t) = t := by
    intro n
    induction n with
    | zero =>
      intro t ht
      have : t = [] := List.eq_nil_of_length_eq_zero (by omega)
      subst this; rfl
    | succ n ih =>
      intro t ht
      by_cases h0 : t = []
      · subst h0; rfl
      · have hb := headR_bd t h0
        rw [runesL_cons h0, joinR_cons, ih _ (by rw [List.length_drop]; omega)]
        exact List.take_append_drop _ _
  exact key _ t (Nat.le_refl _)
/-- How many runes, and the first of them. -/
def countL (t : List UInt8) : Nat := (runesL t).length
def cutL (t : List UInt8) (n : Nat) : List UInt8 := joinR ((runesL t).take n)
theorem getD_take (t : List UInt8) (m i : Nat) : (t.take m).getD i 0 = if i < m then t.getD i 0 else 0 := by
  simp only [List.getD_eq_getElem?_getD, List.getElem?_take]
  split <;> rfl
set_option maxRecDepth 100000 in
set_option maxHeartbeats 1600000 in
/-- What stands behind a rune does not matter. -/
theorem headR_take (t : List UInt8) (m : Nat) (ht : t ≠ []) (h : (headR t).2 ≤ m) : headR (t.take m) = headR t := by
  have hw := headR_bd t ht
  have hp : 0 < t.length := List.length_pos_iff.2 ht
  have hm1 : 1 ≤ m := by omega
  unfold headR at h hw ⊢
  rw [getD_take, getD_take, getD_take, getD_take, List.length_take]
  obtain ⟨b0, e0⟩ : ∃ b, b = (t.getD 0 0).toNat := ⟨_, rfl⟩
  obtain ⟨b1, e1⟩ : ∃ b, b = (t.getD 1 0).toNat := ⟨_, rfl⟩
  obtain ⟨b2, e2⟩ : ∃ b, b = (t.getD 2 0).toNat := ⟨_, rfl⟩
  obtain ⟨b3, e3⟩ : ∃ b, b = (t.getD 3 0).toNat := ⟨_, rfl⟩
  obtain ⟨n, en⟩ : ∃ n, n = t.length := ⟨_, rfl⟩
  rw [← e0, ← e1, ← e2, ← e3, ← en] at h hw ⊢
  rw [← en] at hp
  have q0 : (if 0 < m then t.getD 0 0 else 0).toNat = b0 := by rw [if_pos (by omega)]; exact e0.symm
  rw [q0]
  have z : ((0 : UInt8)).toNat = 0 := rfl
  have hm : m = 1 ∨ m = 2 ∨ m = 3 ∨ 4 ≤ m := by omega
  rcases hm with rfl | rfl | rfl | hm
  · simp only [show ¬ (1 : Nat) < 1 by omega, show ¬ (2 : Nat) < 1 by omega, show ¬ (3 : Nat) < 1 by omega, if_false, z]
    clear e0 e1 e2 e3 en q0
    unfold Lib.decodeN at h ⊢
    rw [show min 1 n = 1 by omega]
    simp only [show ¬ (1 : Nat) < 1 by omega, false_and, and_false, if_false]
    repeat' split at h
    all_goals (repeat' split)
    all_goals first | rfl | (exfalso; omega) | (exfalso; simp only at h; omega)
  · simp only [show (1 : Nat) < 2 by omega, show ¬ (2 : Nat) < 2 by omega, show ¬ (3 : Nat) < 2 by omega, if_false, if_true, z, ← e1]
    clear e0 e1 e2 e3 en q0
    unfold Lib.decodeN at h ⊢
    have h1 : (1 < min 2 n) = (1 < n) := by apply propext; omega
    have h2 : ¬ 2 < min 2 n := by omega
    have h3 : ¬ 3 < min 2 n := by omega
    simp only [h1, h2, h3, false_and, and_false, if_false]
    repeat' split at h
    all_goals (repeat' split)
    all_goals first | rfl | (exfalso; omega) | (exfalso; simp only at h; omega)
  · simp only [show (1 : Nat) < 3 by omega, show (2 : Nat) < 3 by omega, show ¬ (3 : Nat) < 3 by omega, if_false, if_true, z, ← e1, ← e2]
    clear e0 e1 e2 e3 en q0
    unfold Lib.decodeN at h ⊢
    have h1 : (1 < min 3 n) = (1 < n) := by apply propext; omega
    have h2 : (2 < min 3 n) = (2 < n) := by apply propext; omega
    have h3 : ¬ 3 < min 3 n := by omega
    simp only [h1, h2, h3, false_and, and_false, if_false]
    repeat' split at h
    all_goals (repeat' split)
    all_goals first | rfl | (exfalso; omega) | (exfalso; simp only at h; omega)
  · rw [if_pos (by omega), if_pos (by omega), if_pos (by omega), ← e1, ← e2, ← e3]
    clear e0 e1 e2 e3 en q0
    unfold Lib.decodeN
    have h1 : (1 < min m n) = (1 < n) := by apply propext; omega
    have h2 : (2 < min m n) = (2 < n) := by apply propext; omega
    have h3 : (3 < min m n) = (3 < n) := by apply propext; omega
    simp only [h1, h2, h3]
/-- The first runes' bytes are a beginning. -/
theorem join_prefix : ∀ (n : Nat) (t : List UInt8) (k : Nat), t.length ≤ n → ∃ m, joinR ((runesL t).take k) = t.take m ∧ m ≤ t.length ∧ (0 < k → t ≠ [] → (headR t).2 ≤ m)
  | n, t, 0, _ => ⟨0, by simp [joinR], Nat.zero_le _, fun h => by omega⟩
  | 0, t, k + 1, h => by
    have : t = [] := List.eq_nil_of_length_eq_zero (by omega)
    subst this
    exact ⟨0, by simp [runesL_nil, joinR], Nat.zero_le _, fun _ h => absurd rfl h⟩
  | n + 1, t, k + 1, h => by
    by_cases h0 : t = []
    · subst h0; exact ⟨0, by simp [runesL_nil, joinR], Nat.zero_le _, fun _ h => absurd rfl h⟩
    · have hb := headR_bd t h0
      obtain ⟨m, h1, h2, -⟩ := join_prefix n (t.drop (headR t).2) k (by rw [List.length_drop]; omega)
      rw [List.length_drop] at h2
      refine ⟨(headR t).2 + m, ?_, by omega, fun _ _ => by omega⟩
      rw [runesL_cons h0, List.take_succ_cons, joinR_cons, h1, List.take_add]
/-- The runes of a cut. -/
theorem runes_cut : ∀ (n : Nat) (t : List UInt8) (k : Nat), t.length ≤ n → runesL (joinR ((runesL t).take k)) = (runesL t).take k
  | n, t, 0, _ => by simp [joinR, runesL_nil]
  | 0, t, k + 1, h => by
    have : t = [] := List.eq_nil_of_length_eq_zero (by omega)
    subst this
    simp [runesL_nil, joinR]
  | n + 1, t, k + 1, h => by
    by_cases h0 : t = []
    · subst h0; simp [runesL_nil, joinR]
    · have hb := headR_bd t h0
      have ih := runes_cut n (t.drop (headR t).2) k (by rw [List.length_drop]; omega)
      obtain ⟨m, h1, h2, h3⟩ := join_prefix t.length t (k + 1) (Nat.le_refl _)
      have hm := h3 (by omega) h0
      have hv : joinR ((runesL t).take (k + 1)) = t.take (headR t).2 ++ joinR ((runesL (t.drop (headR t).2)).take k) := by
        conv => lhs; rw [runesL_cons h0, List.take_succ_cons, joinR_cons]
      have hl : (t.take (headR t).2).length = (headR t).2 := by rw [List.length_take]; omega
      have hne : joinR ((runesL t).take (k + 1)) ≠ [] := by
        rw [hv]; intro hc
        have := congrArg List.length hc
        rw [List.length_append, hl] at this
        simp at this; omega
      have hh : headR (joinR ((runesL t).take (k + 1))) = headR t := by rw [h1]; exact headR_take t m h0 hm
      rw [runesL_cons hne, hh]
      conv => rhs; rw [runesL_cons h0, List.take_succ_cons]
      rw [hv]
      congr 1
      · rw [List.take_left' hl]
      · rw [List.drop_left' hl, ih]
theorem count_cut (t : List UInt8) (k : Nat) : countL (cutL t k) = min k (countL t) := by
  unfold countL cutL
  rw [runes_cut t.length t k (Nat.le_refl _), List.length_take]
end Go.Proofs.YtdginbmannhfnaaDoor
