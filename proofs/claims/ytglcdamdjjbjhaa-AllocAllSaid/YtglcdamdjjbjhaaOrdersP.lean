/-
  Orders as lists of values: plain words.
-/
import Derived.Test.YtglcdamdjjbjhaaElemS
import Derived.Test.YtglcdamdjjbjhaaSplit
import Derived.Test.YtglcdamdjjbjhaaShareP
namespace Go.Proofs.Ytglcdamdjjbjhaa
open Go.RowKit
set_option linter.unusedVariables false

structure Ord where
  id : Int
  side : Int
  price : Int
  qty : Int
  top : Bool
def Ord.cells (o : Ord) : List Value := [.int .i64 o.id, .int .i64 o.side, .int .i64 o.price, .int .i64 o.qty, .bool o.top]
def flat (l : List Ord) : List Value := l.flatMap Ord.cells
theorem length_flat (l : List Ord) : (flat l).length = l.length * 5 := by
  induction l with
  | nil => rfl
  | cons x l ih => simp [flat, Ord.cells] at ih ⊢; omega
theorem flat_snoc (l : List Ord) (x : Ord) : flat l ++ x.cells = flat (l ++ [x]) := by simp [flat]
theorem flat_at : ∀ {l : List Ord} {i : Nat} {x : Ord}, l[i]? = some x → ∀ (j : Nat) (v : Value), x.cells[j]? = some v → (flat l)[i * 5 + j]? = some v
  | [], i, x, h, _, _, _ => by simp at h
  | y :: l, 0, x, h, j, v, hv => by
    simp at h
    subst h
    have hj : j < y.cells.length := (List.getElem?_eq_some_iff.1 hv).1
    simp only [flat, List.flatMap_cons, Nat.zero_mul, Nat.zero_add]
    rw [List.getElem?_append_left hj, hv]
  | y :: l, i + 1, x, h, j, v, hv => by
    have ih := flat_at (l := l) (i := i) (by simpa using h) j v hv
    have hl : y.cells.length = 5 := rfl
    simp only [flat, List.flatMap_cons] at ih ⊢
    rw [List.getElem?_append_right (by rw [hl]; omega), hl, show (i + 1) * 5 + j - 5 = i * 5 + j by omega, ih]
theorem Cells.ord_at {w : World} {A : Option Addr} {l : List Ord} (h : Cells w A (flat l)) {k : Nat} (hk : k < l.length) :
    ∃ b o x, A = some ⟨b, o, none⟩ ∧ b < w.heap.size ∧ w.cell? ⟨b, o + k * 5, none⟩ = some (.int .i64 x.id) ∧ w.cell? ⟨b, o + k * 5 + 1, none⟩ = some (.int .i64 x.side) ∧ w.cell? ⟨b, o + k * 5 + 2, none⟩ = some (.int .i64 x.price) ∧ w.cell? ⟨b, o + k * 5 + 3, none⟩ = some (.int .i64 x.qty) ∧ w.cell? ⟨b, o + k * 5 + 4, none⟩ = some (.bool x.top) ∧ Hid (l[k]? = some x) := by
  have hne : flat l ≠ [] := by intro h0; have := length_flat l; rw [h0] at this; simp at this; omega
  obtain ⟨b, o, rfl, hb, hc⟩ := h hne
  have hx : l[k]? = some l[k] := List.getElem?_eq_getElem hk
  have hf := fun j v hj => hc _ _ (flat_at hx j v hj)
  exact ⟨b, o, l[k], rfl, hb, hf 0 _ rfl, hf 1 _ rfl, hf 2 _ rfl, hf 3 _ rfl, hf 4 _ rfl, hx⟩
def qtys (l : List Ord) : List Int := l.map Ord.qty
theorem length_qtys (l : List Ord) : (qtys l).length = l.length := by simp [qtys]
theorem qtys_take {l : List Ord} {k : Nat} {x : Ord} (h : l[k]? = some x) : (qtys l).take (k + 1) = (qtys l).take k ++ [x.qty] := by
  have : (qtys l)[k]? = some x.qty := by simp [qtys, h]
  exact take_succ_of this
/-- The first order that is at the top, or -1. -/
def topI : List Ord → Int
  | [] => -1
  | o :: l => if o.top = true then 0 else (if topI l < 0 then -1 else topI l + 1)
/-- The first that is at the top, where none of the first k is. -/
theorem topI_here {l : List Ord} : ∀ {k : Nat} {x : Ord}, l[k]? = some x → x.top = true → (∀ (i : Nat) (y : Ord), i < k → l[i]? = some y → y.top = false) → topI l = k := by
  induction l with
  | nil => intro k x h; simp at h
  | cons o l ih =>
    intro k x h ht hno
    rcases k with _ | k
    · simp at h; subst h; simp [topI, ht]
    · have h0 := hno 0 o (by omega) rfl
      have := ih (k := k) (by simpa using h) ht fun i y hi hy => hno (i + 1) y (by omega) (by simpa using hy)
      simp [topI, h0, this]; omega
theorem topI_none {l : List Ord} (h : ∀ (i : Nat) (y : Ord), l[i]? = some y → y.top = false) : topI l = -1 := by
  induction l with
  | nil => rfl
  | cons o l ih =>
    have h0 := h 0 o rfl
    have := ih fun i y hy => h (i + 1) y (by simpa using hy)
    simp [topI, h0, this]
/-- Shares by a product's rule. -/
def allocL (rule top least part : Int) (l : List Ord) (q : Int) : List Int :=
  if rule = 1 then shareB (qtys l) q else if rule = 2 then shareP (qtys l) (topI l) top least q else if rule = 3 then splitL (qtys l) part least q else []
end Go.Proofs.Ytglcdamdjjbjhaa
