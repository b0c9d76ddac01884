/-
  Plain laws of shares by size. No program in sight.
-/
import Derived.Test.YtglcdamdjjbjhaaPlainA
namespace Go.Proofs.Ytglcdamdjjbjhaa
open Go.RowKit
set_option linter.unusedVariables false

/-- One order's share by size; none, if it is less than the least. -/
def byV (all q least n : Int) : Int := if least ≤ n * q / all then n * q / all else 0
def firstL (all q least : Int) (l : List Int) : List Int := l.map (byV all q least)
def addL (a b : List Int) : List Int := List.zipWith (· + ·) a b
def subL (a b : List Int) : List Int := List.zipWith (· - ·) a b
/-- By size, then by arrival. -/
def byL (l : List Int) (least q : Int) : List Int :=
  addL (firstL l.sum q least l) (shareL (subL l (firstL l.sum q least l)) (q - (firstL l.sum q least l).sum))
def plainB (l : List Int) (least q : Int) : List Int := if rightB l q = true ∧ 1 ≤ least then byL l least q else []

theorem length_addL {a b : List Int} (h : a.length = b.length) : (addL a b).length = a.length := by simp [addL, h]
theorem length_subL {a b : List Int} (h : a.length = b.length) : (subL a b).length = a.length := by simp [subL, h]
theorem length_firstL (all q least : Int) (l : List Int) : (firstL all q least l).length = l.length := by simp [firstL]
theorem length_byL (l : List Int) (least q : Int) : (byL l least q).length = l.length := by
  unfold byL
  rw [length_addL, length_firstL]
  rw [length_shareL, length_subL (by rw [length_firstL]), length_firstL]
theorem addL_at {a b : List Int} {k : Nat} {x y : Int} (ha : a[k]? = some x) (hb : b[k]? = some y) : (addL a b)[k]? = some (x + y) := by
  simp [addL, List.getElem?_zipWith, ha, hb]
theorem subL_at {a b : List Int} {k : Nat} {x y : Int} (ha : a[k]? = some x) (hb : b[k]? = some y) : (subL a b)[k]? = some (x - y) := by
  simp [subL, List.getElem?_zipWith, ha, hb]
theorem sum_addL : ∀ (a b : List Int), a.length = b.length → (addL a b).sum = a.sum + b.sum
  | [], b, h => by
    obtain rfl : b = [] := List.eq_nil_of_length_eq_zero (by simpa using h.symm)
    simp [addL]
  | x :: a, [], h => by simp at h
  | x :: a, y :: b, h => by
    have ih := sum_addL a b (by simpa using h)
    simp only [addL, List.zipWith_cons_cons, List.sum_cons] at ih ⊢
    omega
theorem sum_subL : ∀ (a b : List Int), a.length = b.length → (subL a b).sum = a.sum - b.sum
  | [], b, h => by
    obtain rfl : b = [] := List.eq_nil_of_length_eq_zero (by simpa using h.symm)
    simp [subL]
  | x :: a, [], h => by simp at h
  | x :: a, y :: b, h => by
    have ih := sum_subL a b (by simpa using h)
    simp only [subL, List.zipWith_cons_cons, List.sum_cons] at ih ⊢
    omega

/-! ### A share by size -/
theorem byV_bd {all q least n : Int} (hn : 0 ≤ n) (hq : 0 ≤ q) (hqa : q ≤ all) (hl : 1 ≤ least) : 0 ≤ byV all q least n ∧ byV all q least n ≤ n ∧ byV all q least n * all ≤ n * q := by
  unfold byV
  rcases Int.lt_or_le 0 all with ha | ha
  · have h0 : 0 ≤ n * q := Int.mul_nonneg hn hq
    have h1 := Int.ediv_nonneg h0 (by omega : 0 ≤ all)
    have h2 := Int.ediv_mul_le (n * q) (by omega : all ≠ 0)
    have h3 : n * q ≤ n * all := Int.mul_le_mul_of_nonneg_left hqa hn
    have h4 : n * q / all ≤ n := by
      have := Int.ediv_le_ediv ha h3
      rwa [Int.mul_ediv_cancel _ (by omega)] at this
    split
    · exact ⟨h1, h4, h2⟩
    · exact ⟨Int.le_refl _, hn, by rw [Int.zero_mul]; exact h0⟩
  · obtain rfl : all = 0 := by omega
    obtain rfl : q = 0 := by omega
    rw [if_neg (by simp; omega)]
    exact ⟨Int.le_refl _, hn, by simp⟩
theorem byV_zero (all q least : Int) (hl : 1 ≤ least) : byV all q least 0 = 0 := by
  unfold byV; simp
theorem first_sum_aux (all q least : Int) (hq : 0 ≤ q) (hqa : q ≤ all) (hl : 1 ≤ least) : ∀ (l : List Int), (∀ n ∈ l, 0 ≤ n) → 0 ≤ (firstL all q least l).sum ∧ (firstL all q least l).sum ≤ l.sum ∧ (firstL all q least l).sum * all ≤ l.sum * q
  | [], _ => by simp [firstL]
  | n :: l, h => by
    have ih := first_sum_aux all q least hq hqa hl l fun m hm => h m (List.mem_cons_of_mem _ hm)
    have hb := byV_bd (h n List.mem_cons_self) hq hqa hl
    simp only [firstL, List.map_cons, List.sum_cons, Int.add_mul] at ih ⊢
    omega
theorem first_sum {l : List Int} {q least : Int} (h : ∀ n ∈ l, 0 ≤ n) (hq : 0 ≤ q) (hqa : q ≤ l.sum) (hl : 1 ≤ least) : 0 ≤ (firstL l.sum q least l).sum ∧ (firstL l.sum q least l).sum ≤ q := by
  obtain ⟨h1, h2, h3⟩ := first_sum_aux l.sum q least hq hqa hl l h
  refine ⟨h1, ?_⟩
  rcases Int.lt_or_le 0 l.sum with ha | ha
  · rw [Int.mul_comm l.sum q] at h3
    exact Int.le_of_mul_le_mul_right h3 ha
  · omega

theorem byL_bd {l : List Int} {q least : Int} (hl : l.length ≤ 1000) (hb : ∀ n ∈ l, 0 ≤ n ∧ n ≤ 1000000) (hq : 0 ≤ q) (hqa : q ≤ l.sum) (h1 : 1 ≤ least) : ∀ x ∈ byL l least q, 0 ≤ x ∧ x ≤ 1000000 := by
  intro x hx
  obtain ⟨k, hk⟩ := List.getElem?_of_mem hx
  have hlt := lt_of_some hk
  rw [length_byL] at hlt
  have hn : l[k]? = some l[k] := List.getElem?_eq_getElem hlt
  have hnb := hb _ (List.getElem_mem hlt)
  have hf : (firstL l.sum q least l)[k]? = some (byV l.sum q least l[k]) := by simp [firstL, hn]
  have hs := subL_at hn hf
  have hv := byV_bd (all := l.sum) hnb.1 hq hqa h1
  have hst := first_sum (fun n hn => (hb n hn).1) hq hqa h1
  have hnn : ∀ y ∈ subL l (firstL l.sum q least l), 0 ≤ y := by
    intro y hy
    obtain ⟨i, hi⟩ := List.getElem?_of_mem hy
    simp only [subL, firstL, List.getElem?_zipWith, List.getElem?_map] at hi
    cases hm : l[i]? with
    | none => simp [hm] at hi
    | some m =>
      simp [hm] at hi
      have := byV_bd (all := l.sum) (hb m (List.mem_of_getElem? hm)).1 hq hqa h1
      omega
  have hlt2 : k < (shareL (subL l (firstL l.sum q least l)) (q - (firstL l.sum q least l).sum)).length := by
    rw [length_shareL]; exact lt_of_some hs
  have hz := List.getElem?_eq_getElem hlt2
  have hzb := shareL_bd hnn (by omega) hz hs
  unfold byL at hk
  rw [addL_at hf hz] at hk
  have := Option.some.inj hk
  omega

/-! ### What has nothing is none -/
def posL (d : List Int) : List Int := d.filter fun n => decide (0 < n)
/-- Numbers laid at the places that have something. -/
def spread : List Int → List Int → List Int
  | [], _ => []
  | n :: d, xs => if 0 < n then xs.headD 0 :: spread d xs.tail else 0 :: spread d xs
theorem length_spread : ∀ (d xs : List Int), (spread d xs).length = d.length
  | [], _ => rfl
  | n :: d, xs => by unfold spread; split <;> simp [length_spread d]
theorem spread_map (f : Int → Int) (h0 : ∀ n, ¬ 0 < n → f n = 0) : ∀ (d : List Int), d.map f = spread d ((posL d).map f)
  | [] => rfl
  | n :: d => by
    have ih := spread_map f h0 d
    by_cases h : 0 < n
    · simp [spread, posL, h] at ih ⊢; exact ih
    · simp [spread, posL, h, h0 n h] at ih ⊢; exact ih
theorem spread_sum : ∀ (d xs : List Int), xs.length = (posL d).length → (spread d xs).sum = xs.sum
  | [], xs, h => by
    obtain rfl : xs = [] := List.eq_nil_of_length_eq_zero (by simpa [posL] using h)
    rfl
  | n :: d, xs, h => by
    by_cases hn : 0 < n
    · rcases xs with _ | ⟨x, xs⟩
      · simp [posL, hn] at h
      · have ih := spread_sum d xs (by simpa [posL, hn] using h)
        simp [spread, hn, ih]
    · have ih := spread_sum d xs (by simpa [posL, hn] using h)
      simp [spread, hn, ih]
theorem spread_add : ∀ (d xs ys : List Int), xs.length = (posL d).length → ys.length = (posL d).length → addL (spread d xs) (spread d ys) = spread d (addL xs ys)
  | [], xs, ys, _, _ => rfl
  | n :: d, xs, ys, h, h' => by
    by_cases hn : 0 < n
    · rcases xs with _ | ⟨x, xs⟩
      · simp [posL, hn] at h
      rcases ys with _ | ⟨y, ys⟩
      · simp [posL, hn] at h'
      have ih := spread_add d xs ys (by simpa [posL, hn] using h) (by simpa [posL, hn] using h')
      simp [spread, hn, addL] at ih ⊢
      exact ih
    · have ih := spread_add d xs ys (by simpa [posL, hn] using h) (by simpa [posL, hn] using h')
      simp [spread, hn, addL] at ih ⊢
      exact ih
theorem spread_sub : ∀ (d xs : List Int), (∀ n ∈ d, 0 ≤ n) → xs.length = (posL d).length → subL d (spread d xs) = spread d (subL (posL d) xs)
  | [], xs, _, _ => rfl
  | n :: d, xs, h0, h => by
    have h1 := h0 n List.mem_cons_self
    by_cases hn : 0 < n
    · rcases xs with _ | ⟨x, xs⟩
      · simp [posL, hn] at h
      have ih := spread_sub d xs (fun m hm => h0 m (List.mem_cons_of_mem _ hm)) (by simpa [posL, hn] using h)
      simp [spread, hn, subL, posL] at ih ⊢
      exact ih
    · have ih := spread_sub d xs (fun m hm => h0 m (List.mem_cons_of_mem _ hm)) (by simpa [posL, hn] using h)
      simp [spread, hn, subL, posL] at ih ⊢
      exact ⟨by omega, ih⟩
theorem spread_share : ∀ (d ys : List Int) (r : Int), 0 ≤ r → (∀ n ∈ ys, 0 ≤ n) → ys.length = (posL d).length → shareL (spread d ys) r = spread d (shareL ys r)
  | [], ys, r, _, _, _ => rfl
  | n :: d, ys, r, hr, hy, h => by
    by_cases hn : 0 < n
    · rcases ys with _ | ⟨y, ys⟩
      · simp [posL, hn] at h
      have hy0 := hy y List.mem_cons_self
      have ih := spread_share d ys (r - min y r) (by omega) (fun m hm => hy m (List.mem_cons_of_mem _ hm)) (by simpa [posL, hn] using h)
      simp [spread, hn, shareL, ih]
    · have ih := spread_share d ys r hr hy (by simpa [posL, hn] using h)
      simp [spread, hn, shareL]
      have e : min 0 r = 0 := by omega
      rw [e, Int.sub_zero]
      first | exact ih | exact ⟨rfl, ih⟩
theorem posL_sum : ∀ (d : List Int), (∀ n ∈ d, 0 ≤ n) → (posL d).sum = d.sum
  | [], _ => rfl
  | n :: d, h => by
    have ih := posL_sum d fun m hm => h m (List.mem_cons_of_mem _ hm)
    have h1 := h n List.mem_cons_self
    by_cases hn : 0 < n
    · simp [posL, hn] at ih ⊢; exact ih
    · simp [posL, hn] at ih ⊢; omega
theorem sub_first_nn {l : List Int} {all q least : Int} (h : ∀ n ∈ l, 0 ≤ n) (hq : 0 ≤ q) (hqa : q ≤ all) (hl : 1 ≤ least) : ∀ x ∈ subL l (firstL all q least l), 0 ≤ x := by
  intro x hx
  obtain ⟨k, hk⟩ := List.getElem?_of_mem hx
  simp only [subL, firstL, List.getElem?_zipWith, List.getElem?_map] at hk
  cases hn : l[k]? with
  | none => simp [hn] at hk
  | some n =>
    simp [hn] at hk
    have := byV_bd (all := all) (h n (List.mem_of_getElem? hn)) hq hqa hl
    omega
/-- Shares by size of what has something alone, laid back, are those of all. -/
theorem byL_pos {d : List Int} {q least : Int} (h : ∀ n ∈ d, 0 ≤ n) (hq : 0 ≤ q) (hqa : q ≤ d.sum) (hl : 1 ≤ least) : byL d least q = spread d (byL (posL d) least q) := by
  have hs := posL_sum d h
  have hp : ∀ n ∈ posL d, 0 ≤ n := fun n hn => h n (List.mem_filter.1 hn).1
  have e1 : firstL d.sum q least d = spread d (firstL (posL d).sum q least (posL d)) := by
    rw [hs]
    exact spread_map _ (fun n hn => by
      unfold byV
      rcases Int.lt_or_le 0 d.sum with ha | ha
      · have h1 : n * q ≤ 0 := Int.mul_nonpos_of_nonpos_of_nonneg (by omega) hq
        have h2 : n * q / d.sum ≤ 0 := by
          have := Int.ediv_le_ediv ha h1
          simpa using this
        rw [if_neg (by omega)]
      · obtain rfl : q = 0 := by omega
        rw [Int.mul_zero, Int.zero_ediv, if_neg (by omega)]) d
  have hf := first_sum hp hq (by rw [hs]; exact hqa) hl
  unfold byL
  rw [e1, spread_sum d _ (by rw [length_firstL]), spread_sub d _ h (by rw [length_firstL]), spread_share d _ _ (by omega) (sub_first_nn hp hq (by rw [hs]; exact hqa) hl) (by rw [length_subL (by rw [length_firstL])]),
    spread_add d _ _ (by rw [length_firstL]) (by rw [length_shareL, length_subL (by rw [length_firstL])])]
theorem lacks_pos' : ∀ (l o : List Int), l.length = o.length → lacks l o = posL (subL l o)
  | [], o, h => by
    obtain rfl : o = [] := List.eq_nil_of_length_eq_zero (by simpa using h.symm)
    rfl
  | n :: l, [], h => by simp at h
  | n :: l, x :: o, h => by
    have ih := lacks_pos' l o (by simpa using h)
    by_cases hx : x < n
    · simp [lacks, hx, subL, posL] at ih ⊢; exact ih
    · simp [lacks, hx, subL, posL] at ih ⊢; exact ih
theorem layOn_spread : ∀ (l a bs : List Int), l.length = a.length → bs.length = (lacks l a).length → layOn a (lackAt 0 l a) bs = addL a (spread (subL l a) bs)
  | [], a, bs, h, _ => by
    obtain rfl : a = [] := List.eq_nil_of_length_eq_zero (by simpa using h.symm)
    simp [layOn, lackAt, addL]
  | n :: l, [], bs, h, _ => by simp at h
  | n :: l, x :: a, bs, h, hb => by
    have e2 : ∀ (y : Int) (cs : List Int), layOn (y :: a) (lackAt 1 l a) cs = y :: layOn a (lackAt 0 l a) cs := fun y cs => by
      have := layOn_pre [y] l a cs
      simpa using this
    by_cases hx : x < n
    · rcases bs with _ | ⟨b, bs⟩
      · simp [lacks, hx] at hb
      have ih := layOn_spread l a bs (by simpa using h) (by simpa [lacks, hx] using hb)
      simp only [lackAt, if_pos hx, layOn]
      rw [show (x :: a).set 0 ((x :: a).getD 0 0 + b) = (x + b) :: a by simp, e2, ih]
      simp [spread, subL, addL, hx]
    · have ih := layOn_spread l a bs (by simpa using h) (by simpa [lacks, hx] using hb)
      simp only [lackAt, if_neg hx]
      rw [e2, ih]
      simp [spread, subL, addL, hx]
/-- What prorata.Rest computes is what the document's By does. -/
theorem rest_plain {l a : List Int} {least q : Int} (hl : l.length = a.length) (hge : ∀ n ∈ subL l a, 0 ≤ n) (hq : 0 ≤ q) (hqa : q ≤ (subL l a).sum) (h1 : 1 ≤ least) :
    layOn a (lackAt 0 l a) (byL (lacks l a) least q) = addL a (byL (subL l a) least q) := by
  rw [layOn_spread l a _ hl (by rw [length_byL]), lacks_pos' l a hl, ← byL_pos hge hq hqa h1]
end Go.Proofs.Ytglcdamdjjbjhaa
