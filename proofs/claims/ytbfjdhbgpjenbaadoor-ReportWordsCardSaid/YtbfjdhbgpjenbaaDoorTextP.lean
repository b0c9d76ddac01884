/-
  Reports as texts, in plain Lean: words, numerals.
-/
import Derived.Test.YtbfjdhbgpjenbaaDoorRepP
import Derived.Lib.ItoaNum
namespace Go.Proofs.YtbfjdhbgpjenbaaDoor
set_option linter.unusedSimpArgs false
open Go.RowKit
set_option linter.unusedVariables false

def wordR (k : Int) : List UInt8 :=
  if k = 1 then [111, 107] else if k = 2 then [110, 111] else if k = 3 then [116, 114, 97, 100, 101] else if k = 4 then [103, 111, 110, 101] else if k = 5 then [108, 101, 115, 115] else [63]
def numsR (r : Rep) : List Int := [r.id, r.inst, r.side, r.price, r.qty, r.left, r.why]
/-- Words, each but the first with a blank ahead. -/
def joinW (w : List UInt8) (ws : List (List UInt8)) : List UInt8 := w ++ ws.flatMap fun x => 32 :: x
def textR (r : Rep) : List UInt8 := joinW (wordR r.kind) ((numsR r).map Lib.itoa)
theorem joinW_snoc (w : List UInt8) (ws : List (List UInt8)) (x : List UInt8) : joinW w (ws ++ [x]) = joinW w ws ++ (32 :: x) := by simp [joinW]

/-! ### Numerals -/
theorem dec_small {u : Nat} (h : u < 10) : Lib.decDigits u = [UInt8.ofNat (48 + u)] := by rw [Lib.decDigits, dif_pos h]
theorem dec_big {u : Nat} (h : ¬ u < 10) : Lib.decDigits u = Lib.decDigits (u / 10) ++ [UInt8.ofNat (48 + u % 10)] := by rw [Lib.decDigits, dif_neg h]
theorem dig_nat {d : Nat} (h : d < 10) : (UInt8.ofNat (48 + d)).toNat = 48 + d := by rw [UInt8.toNat_ofNat']; exact Nat.mod_eq_of_lt (by omega)
theorem dec_len : ∀ (k u : Nat), u < 10 ^ (k + 1) → 1 ≤ (Lib.decDigits u).length ∧ (Lib.decDigits u).length ≤ k + 1
  | 0, u, h => by
    rw [dec_small (by simpa using h)]; simp
  | k + 1, u, h => by
    by_cases h1 : u < 10
    · rw [dec_small h1]; simp
    · rw [dec_big h1, List.length_append]
      have := dec_len k (u / 10) (by rw [Nat.pow_succ] at h; omega)
      simp; omega
def isDigit (x : UInt8) : Prop := 48 ≤ x.toNat ∧ x.toNat ≤ 57
theorem dec_digits (u : Nat) : ∀ x ∈ Lib.decDigits u, isDigit x := by
  induction u using Nat.strongRecOn with
  | _ u ih =>
    intro x hx
    by_cases h1 : u < 10
    · rw [dec_small h1] at hx
      obtain rfl := List.mem_singleton.1 hx
      unfold isDigit
      rw [dig_nat h1]; omega
    · rw [dec_big h1] at hx
      rcases List.mem_append.1 hx with hx | hx
      · exact ih (u / 10) (by omega) x hx
      · obtain rfl := List.mem_singleton.1 hx
        unfold isDigit
        rw [dig_nat (by omega)]; omega
/-- What digits are as a number. -/
def valD (l : List UInt8) : Nat := l.foldl (fun a x => 10 * a + (x.toNat - 48)) 0
theorem valD_snoc (l : List UInt8) (x : UInt8) : valD (l ++ [x]) = 10 * valD l + (x.toNat - 48) := by simp [valD]
theorem valD_dec (u : Nat) : valD (Lib.decDigits u) = u := by
  induction u using Nat.strongRecOn with
  | _ u ih =>
    by_cases h1 : u < 10
    · rw [dec_small h1]
      show 10 * 0 + ((UInt8.ofNat (48 + u)).toNat - 48) = u
      rw [dig_nat h1]; omega
    · rw [dec_big h1, valD_snoc, ih (u / 10) (by omega), dig_nat (by omega)]; omega
theorem valD_ge (l m : List UInt8) : valD l ≤ valD (l ++ m) := by
  unfold valD
  rw [List.foldl_append]
  generalize List.foldl (fun a (x : UInt8) => 10 * a + (x.toNat - 48)) 0 l = s
  induction m generalizing s with
  | nil => exact Nat.le_refl _
  | cons x m ih => exact Nat.le_trans (show s ≤ 10 * s + (x.toNat - 48) by omega) (ih _)
theorem dec_inj {u v : Nat} (h : Lib.decDigits u = Lib.decDigits v) : u = v := by rw [← valD_dec u, h, valD_dec]
theorem dec_ne (u : Nat) : ∃ x l, Lib.decDigits u = x :: l ∧ isDigit x := by
  have hd := dec_digits u
  have hl := (dec_len u u (Nat.lt_of_lt_of_le (Nat.lt_pow_self (by omega : 1 < 10)) (Nat.pow_le_pow_right (by omega) (by omega)))).1
  rcases h : Lib.decDigits u with _ | ⟨x, l⟩
  · rw [h] at hl; simp at hl
  · exact ⟨x, l, rfl, hd x (by rw [h]; simp)⟩
theorem itoa_neg {n : Int} (h : n < 0) : Lib.itoa n = 45 :: Lib.decDigits n.natAbs := if_pos h
theorem itoa_pos {n : Int} (h : ¬ n < 0) : Lib.itoa n = Lib.decDigits n.natAbs := by
  unfold Lib.itoa
  rw [if_neg h]
  congr 1
  omega
theorem itoa_len {n : Int} (h : inI n) : 1 ≤ (Lib.itoa n).length ∧ (Lib.itoa n).length ≤ 20 := by
  unfold inI at h
  have := dec_len 18 n.natAbs (by
    have : (10 : Nat) ^ (18 + 1) = 10000000000000000000 := by decide
    omega)
  by_cases h1 : n < 0
  · rw [itoa_neg h1, List.length_cons]; omega
  · rw [itoa_pos h1]; omega
theorem itoa_chars (n : Int) : ∀ x ∈ Lib.itoa n, x ≠ 32 := by
  intro x hx
  by_cases h1 : n < 0
  · rw [itoa_neg h1] at hx
    rcases List.mem_cons.1 hx with rfl | hx
    · decide
    · have := (dec_digits _ x hx).1
      intro h
      subst h
      exact absurd this (by decide)
  · rw [itoa_pos h1] at hx
    have := (dec_digits _ x hx).1
    intro h
    subst h
    exact absurd this (by decide)
theorem itoa_inj {n m : Int} (h : Lib.itoa n = Lib.itoa m) : n = m := by
  obtain ⟨x, l, e1, d1⟩ := dec_ne n.natAbs
  obtain ⟨y, l', e2, d2⟩ := dec_ne m.natAbs
  by_cases h1 : n < 0
  · rw [itoa_neg h1] at h
    by_cases h2 : m < 0
    · rw [itoa_neg h2] at h
      injection h with _ h
      have := dec_inj h
      omega
    · rw [itoa_pos h2, e2] at h
      injection h with h _
      subst h
      exact absurd d2.1 (by decide)
  · rw [itoa_pos h1] at h
    by_cases h2 : m < 0
    · rw [itoa_neg h2, e1] at h
      injection h with h _
      subst h
      exact absurd d1.1 (by decide)
    · rw [itoa_pos h2] at h
      have := dec_inj h
      omega

/-! ### Words -/
/-- A text in its words: the one that is begun, and what is ahead. -/
def splitW : List UInt8 → List UInt8 → List (List UInt8)
  | cur, [] => [cur]
  | cur, x :: t => if x = 32 then cur :: splitW [] t else splitW (cur ++ [x]) t
theorem split_word : ∀ (w cur t : List UInt8), (∀ x ∈ w, x ≠ 32) → splitW cur (w ++ t) = splitW (cur ++ w) t
  | [], cur, t, _ => by simp
  | x :: w, cur, t, h => by
    rw [List.cons_append, splitW, if_neg (h x (by simp)), split_word w (cur ++ [x]) t fun y hy => h y (by simp [hy]), List.append_assoc]
    rfl
theorem split_join : ∀ (ws : List (List UInt8)) (w cur : List UInt8), (∀ x ∈ w, x ≠ 32) → (∀ v ∈ ws, ∀ x ∈ v, x ≠ 32) → splitW cur (joinW w ws) = (cur ++ w) :: ws
  | [], w, cur, h, _ => by
    have := split_word w cur [] h
    simp only [List.append_nil] at this
    simp [joinW, this, splitW]
  | v :: ws, w, cur, h, h2 => by
    have e : joinW w (v :: ws) = w ++ (32 :: joinW v ws) := by simp [joinW]
    rw [e, split_word w cur _ h, splitW, if_pos rfl, split_join ws v [] (h2 v (by simp)) fun u hu => h2 u (by simp [hu])]
    simp
theorem word_chars (k : Int) : ∀ x ∈ wordR k, x ≠ 32 := by
  unfold wordR
  repeat' split
  all_goals decide
theorem nums_chars (r : Rep) : ∀ v ∈ (numsR r).map Lib.itoa, ∀ x ∈ v, x ≠ 32 := by
  intro v hv
  obtain ⟨n, _, rfl⟩ := List.mem_map.1 hv
  exact itoa_chars n
theorem split_text (r : Rep) : splitW [] (textR r) = wordR r.kind :: (numsR r).map Lib.itoa := by
  unfold textR
  rw [split_join _ _ [] (word_chars _) (nums_chars r), List.nil_append]
theorem word_inj {k m : Int} (hk : 1 ≤ k ∧ k ≤ 5) (hm : 1 ≤ m ∧ m ≤ 5) (h : wordR k = wordR m) : k = m := by
  have a : k = 1 ∨ k = 2 ∨ k = 3 ∨ k = 4 ∨ k = 5 := by omega
  have b : m = 1 ∨ m = 2 ∨ m = 3 ∨ m = 4 ∨ m = 5 := by omega
  rcases a with rfl | rfl | rfl | rfl | rfl <;> rcases b with rfl | rfl | rfl | rfl | rfl <;> first | rfl | (exact absurd h (by decide))
theorem word_none (k : Int) : wordR k = [63] ↔ ¬ (1 ≤ k ∧ k ≤ 5) := by
  constructor
  · intro h hk
    have a : k = 1 ∨ k = 2 ∨ k = 3 ∨ k = 4 ∨ k = 5 := by omega
    rcases a with rfl | rfl | rfl | rfl | rfl <;> exact absurd h (by decide)
  · intro h
    unfold wordR
    rw [if_neg (by omega), if_neg (by omega), if_neg (by omega), if_neg (by omega), if_neg (by omega)]
theorem word_len (k : Int) : (wordR k).length ≤ 5 := by
  unfold wordR
  repeat' split
  all_goals decide
theorem text_inj {r q : Rep} (hr : rightP r) (hq : rightP q) (h : textR r = textR q) : r = q := by
  have h1 := congrArg (splitW []) h
  rw [split_text, split_text] at h1
  injection h1 with h2 h3
  have hk := word_inj ⟨hr.1, hr.2.1⟩ ⟨hq.1, hq.2.1⟩ h2
  simp only [numsR, List.map_cons, List.map_nil, List.cons.injEq, and_true] at h3
  obtain ⟨a1, a2, a3, a4, a5, a6, a7⟩ := h3
  ext
  · exact hk
  · exact itoa_inj a1
  · exact itoa_inj a2
  · exact itoa_inj a3
  · exact itoa_inj a4
  · exact itoa_inj a5
  · exact itoa_inj a6
  · exact itoa_inj a7

/-! ### A text that is being written -/
/-- The first j numbers are written. -/
def textJ (r : Rep) (j : Nat) : List UInt8 := joinW (wordR r.kind) (((numsR r).take j).map Lib.itoa)
theorem textJ_zero (r : Rep) : textJ r 0 = wordR r.kind := by simp [textJ, joinW]
theorem textJ_all (r : Rep) : textJ r 7 = textR r := rfl
theorem textJ_succ {r : Rep} {j : Nat} {x : Int} (h : (numsR r)[j]? = some x) : textJ r (j + 1) = textJ r j ++ (32 :: Lib.itoa x) := by
  unfold textJ
  rw [take_succ_of h, List.map_append, List.map_singleton, joinW_snoc]
theorem nums_in {r : Rep} (h : r.wf) : ∀ x ∈ numsR r, inI x := by
  intro x hx
  simp only [numsR, List.mem_cons, List.not_mem_nil, or_false] at hx
  rcases hx with rfl | rfl | rfl | rfl | rfl | rfl | rfl
  · exact h.id
  · exact h.inst
  · exact h.side
  · exact h.price
  · exact h.qty
  · exact h.left
  · exact h.why
theorem textJ_len {r : Rep} (h : r.wf) : ∀ j, j ≤ 7 → (textJ r j).length ≤ 5 + 21 * j
  | 0, _ => by rw [textJ_zero]; exact word_len _
  | j + 1, hj => by
    have ih := textJ_len h j (by omega)
    have hlt : j < (numsR r).length := by simp [numsR]; omega
    have hx : (numsR r)[j]? = some ((numsR r)[j]'hlt) := List.getElem?_eq_getElem hlt
    have h20 := (itoa_len (nums_in h _ (List.getElem_mem hlt))).2
    rw [textJ_succ hx, List.length_append, List.length_cons]
    omega
theorem text_len {r : Rep} (h : r.wf) : (textR r).length ≤ 152 := textJ_len h 7 (Nat.le_refl _)

/-! ### The document's numeral, digit by digit from the end -/
def digsJ (u : Nat) (X : List UInt8) : List UInt8 := if X = [] then Lib.decDigits u else if u = 0 then X else Lib.decDigits u ++ X
theorem digsJ_nil (u : Nat) : digsJ u [] = Lib.decDigits u := if_pos rfl
theorem digsJ_done {X : List UInt8} (h : X ≠ []) : digsJ 0 X = X := by unfold digsJ; rw [if_neg h, if_pos rfl]
theorem digsJ_step {u : Nat} {X : List UInt8} (h : 0 < u ∨ X = []) : digsJ (u / 10) (UInt8.ofNat (48 + u % 10) :: X) = digsJ u X := by
  have e1 : digsJ (u / 10) (UInt8.ofNat (48 + u % 10) :: X) = if u / 10 = 0 then UInt8.ofNat (48 + u % 10) :: X else Lib.decDigits (u / 10) ++ UInt8.ofNat (48 + u % 10) :: X := by
    unfold digsJ
    rw [if_neg (by simp)]
  rw [e1]
  unfold digsJ
  by_cases hX : X = []
  · subst hX
    rw [if_pos (show ([] : List UInt8) = [] from rfl)]
    by_cases h1 : u < 10
    · rw [if_pos (show u / 10 = 0 by omega), dec_small h1, show u % 10 = u by omega]
    · rw [if_neg (show ¬ u / 10 = 0 by omega), dec_big h1]
  · rw [if_neg hX]
    have hu : 0 < u := by rcases h with h | h; exact h; exact absurd h hX
    rw [if_neg (show ¬ u = 0 by omega)]
    by_cases h1 : u < 10
    · rw [if_pos (show u / 10 = 0 by omega), dec_small h1, show u % 10 = u by omega]; rfl
    · rw [if_neg (show ¬ u / 10 = 0 by omega), dec_big h1]; simp
end Go.Proofs.YtbfjdhbgpjenbaaDoor
