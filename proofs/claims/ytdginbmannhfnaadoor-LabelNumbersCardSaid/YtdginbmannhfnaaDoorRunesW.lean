/-
  Runes of texts that are put together, turned, folded. No program in sight.
-/
import Derived.Test.YtdginbmannhfnaaDoorFoldP2
import Derived.Test.YtdginbmannhfnaaDoorBackR2
namespace Go.Proofs.YtdginbmannhfnaaDoor
open Go.RowKit
set_option linter.unusedVariables false

/-- Does a byte go on with a rune? -/
def contB (b : UInt8) : Bool := decide (b.toNat / 64 = 2)
def contP (t : List UInt8) : List UInt8 := t.takeWhile contB
set_option maxRecDepth 100000 in
set_option maxHeartbeats 1600000 in
/-- The rune at the head hangs on the bytes that go on behind it alone. -/
theorem headR_contP (b0 : UInt8) (u : List UInt8) : headR (b0 :: u) = headR (b0 :: contP u) := by
  unfold headR contP
  rcases u with _ | ⟨x, u⟩
  · rfl
  by_cases hx : contB x = true
  · have hx2 : x.toNat / 64 = 2 := by simpa [contB] using hx
    rcases u with _ | ⟨y, u⟩
    · simp only [List.takeWhile_cons, hx, if_true, List.takeWhile_nil]
    by_cases hy : contB y = true
    · have hy2 : y.toNat / 64 = 2 := by simpa [contB] using hy
      rcases u with _ | ⟨z, u⟩
      · simp only [List.takeWhile_cons, hx, hy, if_true, List.takeWhile_nil]
      by_cases hz : contB z = true
      · have hz2 : z.toNat / 64 = 2 := by simpa [contB] using hz
        simp [List.takeWhile_cons, hx, hy, hz, Lib.decodeN]
      · have hz2 : ¬ z.toNat / 64 = 2 := by simpa [contB] using hz
        simp [List.takeWhile_cons, hx, hy, hz, Lib.decodeN, hz2]
    · have hy2 : ¬ y.toNat / 64 = 2 := by simpa [contB] using hy
      simp [List.takeWhile_cons, hx, hy, Lib.decodeN, hy2]
  · have hx2 : ¬ x.toNat / 64 = 2 := by simpa [contB] using hx
    simp [List.takeWhile_cons, hx, Lib.decodeN, hx2]
theorem headR_cong (b0 : UInt8) {u v : List UInt8} (h : contP u = contP v) : headR (b0 :: u) = headR (b0 :: v) := by rw [headR_contP b0 u, headR_contP b0 v, h]
/-- A byte that goes on is no rune's beginning. -/
theorem headR_cont {b0 : UInt8} (h : contB b0 = true) (u : List UInt8) : headR (b0 :: u) = (65533, 1) := by
  simp only [contB, decide_eq_true_eq] at h
  unfold headR Lib.decodeN
  simp only [List.getD_cons_zero]
  rw [if_neg (by omega), if_neg (by omega), if_neg (by omega), if_neg (by omega)]
theorem decodeN_whole {n b0 b1 b2 b3 n' c1 c2 c3 : Nat} (hn : 1 ≤ n') (hv : (Lib.decodeN n b0 b1 b2 b3).1 ≠ 65533 ∨ (Lib.decodeN n b0 b1 b2 b3).2 ≠ 1)
    (h1 : 2 ≤ (Lib.decodeN n b0 b1 b2 b3).2 → c1 = b1 ∧ 2 ≤ n') (h2 : 3 ≤ (Lib.decodeN n b0 b1 b2 b3).2 → c2 = b2 ∧ 3 ≤ n') (h3 : 4 ≤ (Lib.decodeN n b0 b1 b2 b3).2 → c3 = b3 ∧ 4 ≤ n') : Lib.decodeN n' b0 c1 c2 c3 = Lib.decodeN n b0 b1 b2 b3 := by
  by_cases a0 : b0 < 128
  · simp [Lib.decodeN, a0]
  by_cases a1 : b0 / 32 = 6 ∧ (1 < n ∧ b1 / 64 = 2)
  · by_cases r1 : b0 % 32 * 64 + b1 % 64 ≥ 128
    · have e : Lib.decodeN n b0 b1 b2 b3 = (b0 % 32 * 64 + b1 % 64, 2) := by simp only [Lib.decodeN, if_neg a0, if_pos a1, if_pos r1]
      rw [e] at h1 ⊢
      obtain ⟨rfl, hn2⟩ := h1 (Nat.le_refl _)
      simp only [Lib.decodeN, if_neg a0, if_pos (show b0 / 32 = 6 ∧ (1 < n' ∧ c1 / 64 = 2) from ⟨a1.1, by omega, a1.2.2⟩), if_pos r1]
    · have e : Lib.decodeN n b0 b1 b2 b3 = (65533, 1) := by simp only [Lib.decodeN, if_neg a0, if_pos a1, if_neg r1]
      rw [e] at hv; simp at hv
  by_cases a2 : b0 / 16 = 14 ∧ (1 < n ∧ b1 / 64 = 2) ∧ (2 < n ∧ b2 / 64 = 2)
  · by_cases r1 : b0 % 16 * 4096 + b1 % 64 * 64 + b2 % 64 ≥ 2048 ∧ (b0 % 16 * 4096 + b1 % 64 * 64 + b2 % 64 < 55296 ∨ (57344 ≤ b0 % 16 * 4096 + b1 % 64 * 64 + b2 % 64 ∧ b0 % 16 * 4096 + b1 % 64 * 64 + b2 % 64 ≤ 1114111))
    · have e : Lib.decodeN n b0 b1 b2 b3 = (b0 % 16 * 4096 + b1 % 64 * 64 + b2 % 64, 3) := by simp only [Lib.decodeN, if_neg a0, if_neg a1, if_pos a2, if_pos r1]
      rw [e] at h1 h2 ⊢
      obtain ⟨rfl, hn2⟩ := h1 (by simp)
      obtain ⟨rfl, hn3⟩ := h2 (Nat.le_refl _)
      simp only [Lib.decodeN, if_neg a0, if_neg (show ¬ (b0 / 32 = 6 ∧ (1 < n' ∧ c1 / 64 = 2)) by omega), if_pos (show b0 / 16 = 14 ∧ (1 < n' ∧ c1 / 64 = 2) ∧ (2 < n' ∧ c2 / 64 = 2) from ⟨a2.1, ⟨by omega, a2.2.1.2⟩, by omega, a2.2.2.2⟩), if_pos r1]
    · have e : Lib.decodeN n b0 b1 b2 b3 = (65533, 1) := by simp only [Lib.decodeN, if_neg a0, if_neg a1, if_pos a2, if_neg r1]
      rw [e] at hv; simp at hv
  by_cases a3 : b0 / 8 = 30 ∧ (1 < n ∧ b1 / 64 = 2) ∧ (2 < n ∧ b2 / 64 = 2) ∧ (3 < n ∧ b3 / 64 = 2)
  · by_cases r1 : b0 % 8 * 262144 + b1 % 64 * 4096 + b2 % 64 * 64 + b3 % 64 ≥ 65536 ∧ (b0 % 8 * 262144 + b1 % 64 * 4096 + b2 % 64 * 64 + b3 % 64 < 55296 ∨ (57344 ≤ b0 % 8 * 262144 + b1 % 64 * 4096 + b2 % 64 * 64 + b3 % 64 ∧ b0 % 8 * 262144 + b1 % 64 * 4096 + b2 % 64 * 64 + b3 % 64 ≤ 1114111))
    · have e : Lib.decodeN n b0 b1 b2 b3 = (b0 % 8 * 262144 + b1 % 64 * 4096 + b2 % 64 * 64 + b3 % 64, 4) := by simp only [Lib.decodeN, if_neg a0, if_neg a1, if_neg a2, if_pos a3, if_pos r1]
      rw [e] at h1 h2 h3 ⊢
      obtain ⟨rfl, hn2⟩ := h1 (by simp)
      obtain ⟨rfl, hn3⟩ := h2 (by simp)
      obtain ⟨rfl, hn4⟩ := h3 (Nat.le_refl _)
      simp only [Lib.decodeN, if_neg a0, if_neg (show ¬ (b0 / 32 = 6 ∧ (1 < n' ∧ c1 / 64 = 2)) by omega), if_neg (show ¬ (b0 / 16 = 14 ∧ (1 < n' ∧ c1 / 64 = 2) ∧ (2 < n' ∧ c2 / 64 = 2)) by omega),
        if_pos (show b0 / 8 = 30 ∧ (1 < n' ∧ c1 / 64 = 2) ∧ (2 < n' ∧ c2 / 64 = 2) ∧ (3 < n' ∧ c3 / 64 = 2) from ⟨a3.1, ⟨by omega, a3.2.1.2⟩, ⟨by omega, a3.2.2.1.2⟩, by omega, a3.2.2.2.2⟩), if_pos r1]
    · have e : Lib.decodeN n b0 b1 b2 b3 = (65533, 1) := by simp only [Lib.decodeN, if_neg a0, if_neg a1, if_neg a2, if_pos a3, if_neg r1]
      rw [e] at hv; simp at hv
  · have e : Lib.decodeN n b0 b1 b2 b3 = (65533, 1) := by simp only [Lib.decodeN, if_neg a0, if_neg a1, if_neg a2, if_neg a3]
    rw [e] at hv; simp at hv
theorem getD_app (a b : List UInt8) {i : Nat} (h : i < a.length) : (a ++ b).getD i 0 = a.getD i 0 := by
  simp only [List.getD_eq_getElem?_getD, List.getElem?_append_left h]
/-- A whole rune is the same, whatever stands behind it. -/
theorem headR_whole {t : List UInt8} (ht : t ≠ []) (hv : (headR t).1 ≠ 65533 ∨ (headR t).2 ≠ 1) (b : List UInt8) : headR (t.take (headR t).2 ++ b) = headR t := by
  obtain ⟨h1, h2, h3⟩ := headR_bd t ht
  obtain ⟨w, ew⟩ : ∃ w, w = (headR t).2 := ⟨_, rfl⟩
  rw [← ew] at h1 h2 h3
  have hl : (t.take w).length = w := by rw [List.length_take]; omega
  have hg : ∀ i, i < w → (t.take w ++ b).getD i 0 = t.getD i 0 := fun i hi => by rw [getD_app _ _ (by omega), getD_take, if_pos hi]
  rw [← ew]
  have key : headR (t.take w ++ b) = Lib.decodeN (t.take w ++ b).length (t.getD 0 0).toNat ((t.take w ++ b).getD 1 0).toNat ((t.take w ++ b).getD 2 0).toNat ((t.take w ++ b).getD 3 0).toNat := by
    unfold headR; rw [hg 0 (by omega)]
  rw [key]
  have hlen : w ≤ (t.take w ++ b).length := by rw [List.length_append]; omega
  refine decodeN_whole (by omega) hv (fun h => ?_) (fun h => ?_) (fun h => ?_)
  all_goals
    have h' : _ ≤ (headR t).2 := h
    rw [← ew] at h'
    exact ⟨by rw [hg _ (by omega)], by omega⟩
/-- A rune that is whole by itself. -/
def WholeR (x : Nat × List UInt8) : Prop := x.2 ≠ [] ∧ ∀ b, headR (x.2 ++ b) = (x.1, x.2.length)
theorem WholeR.head {t : List UInt8} (ht : t ≠ []) (hv : (headR t).1 ≠ 65533 ∨ (headR t).2 ≠ 1) : WholeR ((headR t).1, t.take (headR t).2) := by
  obtain ⟨h1, h2, h3⟩ := headR_bd t ht
  have hl : (t.take (headR t).2).length = (headR t).2 := by rw [List.length_take]; omega
  refine ⟨fun h => ?_, fun b => ?_⟩
  · have := congrArg List.length h
    rw [hl] at this; simp at this; omega
  · rw [headR_whole ht hv b, hl]
theorem WholeR.step {x : Nat × List UInt8} (h : WholeR x) (b : List UInt8) : runesL (x.2 ++ b) = x :: runesL b := by
  have hne : x.2 ++ b ≠ [] := by
    intro hc
    exact h.1 (List.append_eq_nil_iff.1 hc).1
  rw [runesL_cons hne, h.2 b, List.take_left, List.drop_left]
theorem runes_join_whole {l : List (Nat × List UInt8)} (h : ∀ x ∈ l, WholeR x) (b : List UInt8) : runesL (joinR l ++ b) = l ++ runesL b := by
  induction l with
  | nil => rfl
  | cons x l ih =>
    rw [joinR_cons, List.append_assoc, (h x (by simp)).step, ih fun y hy => h y (by simp [hy])]
    rfl
theorem runes_ind {p : Nat × List UInt8 → Prop} (hp : ∀ t, t ≠ [] → p ((headR t).1, t.take (headR t).2)) (t : List UInt8) : ∀ x ∈ runesL t, p x := by
  suffices h : ∀ n (t : List UInt8), t.length ≤ n → ∀ x ∈ runesL t, p x from h _ t (Nat.le_refl _)
  intro n
  induction n with
  | zero =>
    intro t ht x hx
    rw [List.eq_nil_of_length_eq_zero (by omega : t.length = 0), runesL_nil] at hx; cases hx
  | succ n ih =>
    intro t ht x hx
    by_cases h0 : t = []
    · rw [h0, runesL_nil] at hx; cases hx
    · have := headR_bd t h0
      rw [runesL_cons h0] at hx
      rcases List.mem_cons.1 hx with rfl | hx
      · exact hp t h0
      · exact ih _ (by rw [List.length_drop]; omega) x hx
theorem runes_whole (t : List UInt8) : ∀ x ∈ runesL t, x.1 ≠ 65533 → WholeR x := runes_ind (p := fun x => x.1 ≠ 65533 → WholeR x) (fun t ht h => WholeR.head ht (Or.inl h)) t
theorem runes_pos (t : List UInt8) : ∀ x ∈ runesL t, 1 ≤ x.2.length ∧ x.2.length ≤ 4 := runes_ind (p := fun x => 1 ≤ x.2.length ∧ x.2.length ≤ 4) (fun t ht => by
  have := headR_bd t ht
  show 1 ≤ (t.take _).length ∧ _
  rw [List.length_take]; omega) t
theorem contP_app {a b : List UInt8} (hb : contP b = []) : contP (a ++ b) = contP a := by
  unfold contP at *
  rw [List.takeWhile_append]
  split
  · rename_i h
    rw [hb, List.append_nil]
    exact ((List.takeWhile_prefix contB).eq_of_length h).symm
  · rfl
/-- What begins a rune may stand behind anything. -/
theorem runes_app {b : List UInt8} (hb : contP b = []) : ∀ (n : Nat) (a : List UInt8), a.length ≤ n → runesL (a ++ b) = runesL a ++ runesL b
  | 0, a, h => by
    have : a = [] := List.eq_nil_of_length_eq_zero (by omega)
    subst this; rfl
  | n + 1, [], h => rfl
  | n + 1, x :: u, h => by
    have hh : headR (x :: (u ++ b)) = headR (x :: u) := headR_cong x (contP_app hb)
    have hbd := headR_bd (x :: u) (by simp)
    rw [List.cons_append, runesL_cons (t := x :: (u ++ b)) (by simp), hh, runesL_cons (t := x :: u) (by simp), List.cons_append, ← List.cons_append]
    have ih := runes_app hb n ((x :: u).drop (headR (x :: u)).2) (by rw [List.length_drop]; omega)
    rw [List.take_append_of_le_length hbd.2.1, List.drop_append_of_le_length hbd.2.1, ih]
theorem contP_spaces (k : Nat) : contP (List.replicate k 32) = [] := by
  cases k with
  | zero => rfl
  | succ k => rw [List.replicate_succ]; rfl
theorem runes_spaces (k : Nat) : runesL (List.replicate k 32) = List.replicate k (32, [32]) := by
  induction k with
  | zero => rfl
  | succ k ih =>
    have hh : headR (List.replicate (k + 1) 32) = (32, 1) := by
      rw [List.replicate_succ, headR_contP, contP_spaces]; rfl
    rw [runesL_cons (by simp), hh]
    simp only [List.replicate_succ, List.take_succ_cons, List.take_zero, List.drop_succ_cons, List.drop_zero, ih]
theorem runes_pad (a : List UInt8) (k : Nat) : runesL (a ++ List.replicate k 32) = runesL a ++ List.replicate k (32, [32]) := by
  rw [runes_app (contP_spaces k) a.length a (Nat.le_refl _), runes_spaces]
end Go.Proofs.YtdginbmannhfnaaDoor
