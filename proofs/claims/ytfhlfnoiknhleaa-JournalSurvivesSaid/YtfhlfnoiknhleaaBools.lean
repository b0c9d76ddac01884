/-
  A slice of bools that came in. No program in sight.
-/
import Derived.Test.YtfhlfnoiknhleaaBase
namespace Go.Proofs.Ytfhlfnoiknhleaa
open Go.RowKit
set_option linter.unusedVariables false

structure ArgB (w : World) (A : Option Addr) (c : Nat) (l : List Bool) : Prop where
  cells : Cells w A (l.map Value.bool)
  le : l.length ≤ c
  max : c ≤ maxLen
theorem ArgB.nil (w : World) : ArgB w none 0 [] := ⟨Cells.nil _ _, Nat.le_refl _, Nat.zero_le _⟩
theorem ArgB.of_row {w : World} {x : Addr} {len cap : Nat} {B : Nat → Bool} (hl : len ≤ cap) (hm : cap ≤ maxLen) (hc : ∀ i, i < cap → w.cell? (x.add i) = some (.bool (B i))) :
    ∃ l : List Bool, l.length = len ∧ ArgB w (some x) cap l := by
  refine ⟨(List.range len).map B, by simp, fun hne => ?_, by simp; omega, hm⟩
  have hpos : 0 < len := by
    rcases Nat.eq_zero_or_pos len with h0 | h0
    · subst h0; exact absurd (by simp) hne
    · exact h0
  obtain ⟨b, o, rfl⟩ := addr_plain (hc 0 (by omega))
  have h0 := hc 0 (by omega)
  rw [Addr.add_lit] at h0
  refine ⟨b, o, rfl, World.block_lt_of_cell? w _ h0, fun j u hu => ?_⟩
  have hj : j < len := by have := lt_of_some' hu; simpa using this
  have := hc j (by omega)
  rw [Addr.add_lit] at this
  rw [this]
  simpa [hj] using hu
theorem ArgB.at_ {w : World} {A : Option Addr} {c : Nat} {l : List Bool} (h : ArgB w A c l) {k : Nat} (hk : k < l.length) :
    ∃ b o x, A = some ⟨b, o, none⟩ ∧ b < w.heap.size ∧ w.cell? ⟨b, o + k, none⟩ = some (.bool x) := by
  obtain ⟨b, o, u, rfl, hb, hc, hu⟩ := h.cells.val_at (k := k) (by simpa using hk)
  obtain rfl : u = .bool l[k] := by
    have := hu.out
    rw [List.getElem?_map, List.getElem?_eq_getElem hk] at this
    injection this with this
    exact this.symm
  exact ⟨b, o, _, rfl, hb, hc⟩
end Go.Proofs.Ytfhlfnoiknhleaa
