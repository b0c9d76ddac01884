/-
  Arguments that are structs, or slices of structs of one-cell fields: read out of a walked datum. No program in sight.
-/
import Derived.Test.YtbfjdhbgpjenbaaDoorBase
import Derived.Deep.Slices
import Derived.Deep.Fields
import Derived.ChangeSame
import Derived.ChangeSlices
namespace Go.Proofs.YtbfjdhbgpjenbaaDoor
set_option linter.unusedSimpArgs false
open Go.RowKit Go.ChangeShapes Go.WideShapes Go.Deep
set_option linter.unusedVariables false

section
variable {H : Type} {enc : TypeId × Value → H} {P : Program} {w : World} {base : Nat} {spare : Nat → Bool} {held : Bool}

/-- A value of one cell that reads as something of type t. -/
def Fld (enc : TypeId × Value → H) (P : Program) (w : World) (base : Nat) (spare : Nat → Bool) (held : Bool) (t : TypeId) (v : Value) : Prop := ∃ n y, DataW.trod enc P w base spare held n t [v] = some y
theorem Fld.int {t : TypeId} {v : Value} {k : IntKind} (h : Fld enc P w base spare held t v) (ht : P.underlying t = some (.int k)) : ∃ n, v = .int k n ∧ (Lit.int k n).wf = true := by
  obtain ⟨n, y, h⟩ := h
  obtain ⟨i, hv, -, hw⟩ := DataW.trod_int ht h
  exact ⟨i, by simpa using hv, hw⟩
theorem Fld.bool {t : TypeId} {v : Value} (h : Fld enc P w base spare held t v) (ht : P.underlying t = some .bool) : ∃ b, v = .bool b := by
  obtain ⟨n, y, h⟩ := h
  obtain ⟨b, hv, -⟩ := DataW.trod_bool ht h
  exact ⟨b, by simpa using hv⟩
theorem Fld.string {t : TypeId} {v : Value} (h : Fld enc P w base spare held t v) (ht : P.underlying t = some .string) : ∃ s, v = .string s ∧ s.size ≤ maxLen := by
  obtain ⟨n, y, h⟩ := h
  obtain ⟨s, hv, -, hs⟩ := DataW.trod_string ht h
  exact ⟨s, by simpa using hv, hs⟩
theorem Fld.ints {t e : TypeId} {v : Value} {k : IntKind} (h : Fld enc P w base (fun _ => true) held t v) (ht : P.underlying t = some (.slice e)) (he : P.underlying e = some (.int k)) (hc : P.cellsOf e = 1) : ∃ A c l, v = .slice A (l : List Int).length c ∧ ArgI k w A c l := by
  obtain ⟨n, y, h⟩ := h
  rcases open_ints ht he hc h with ⟨hcs, _⟩ | ⟨x, l, c, zs, hcs, _, hl, hm, hz, _, hcell, hwz⟩
  · exact ⟨none, 0, [], by simpa using hcs, Cells.nil _ _, Nat.le_refl _, Nat.zero_le _, fun _ h => by cases h⟩
  · obtain ⟨l', hl', ha⟩ := ArgI.of_row hl hm (by simpa using hz) hcell hwz
    refine ⟨some x, c, l', ?_, ha⟩
    rw [hl']; simpa using hcs

/-- The fields of a struct, each of one cell. -/
theorem flds {t : TypeId} {fs : Array Field} {fuel : Nat} {cs : List Value} {x : DataW H × List MemPlace} (ht : P.underlying t = some (.struct fs)) (hone : oneCellFields P fs = true) (hC : P.cellsOf t = fs.size)
    (h : DataW.trod enc P w base spare held fuel t cs = some x) : cs.length = fs.size ∧ ∀ (j : Nat) (f : Field), fs[j]? = some f → ∃ v, cs[j]? = some v ∧ Fld enc P w base spare held f.type v := by
  obtain ⟨ys, n, -, -, hlen, hyl, hf⟩ := DataW.trod_struct ht h
  refine ⟨hlen.trans hC, fun j f hj => ?_⟩
  obtain ⟨ho, hk⟩ := hone_of hone j f hj
  have hjl : j < fs.size := (Array.getElem?_eq_some_iff.1 hj).1
  have hjc : j < cs.length := by omega
  have h1 := hf j f hj
  rw [ho, hk, List.drop_eq_getElem_cons hjc, List.take_succ_cons, List.take_zero] at h1
  exact ⟨cs[j], List.getElem?_eq_getElem hjc, n, ys[j]'(by omega), h1.trans (List.getElem?_eq_getElem (by omega))⟩

/-- A slice of structs of one-cell fields: each element's values. -/
structure ArgS (enc : TypeId × Value → H) (P : Program) (base : Nat) (held : Bool) (fs : Array Field) (w : World) (A : Option Addr) (n c : Nat) : Prop where
  le : n ≤ c
  max : c ≤ maxLen
  at_ : ∀ i, i < n → ∃ (b o : Nat) (vs : List Value), A = some ⟨b, o, none⟩ ∧ b < w.heap.size ∧ vs.length = fs.size ∧ (∀ (j : Nat) (v : Value), vs[j]? = some v → w.cell? ⟨b, o + (i * fs.size + j), none⟩ = some v) ∧
    ∀ (j : Nat) (f : Field), fs[j]? = some f → ∃ v, vs[j]? = some v ∧ Fld enc P w base (fun _ => true) held f.type v
theorem open_structs {t e : TypeId} {fs : Array Field} {fuel : Nat} {cs : List Value} {x : DataW H × List MemPlace} (ht : P.underlying t = some (.slice e)) (he : P.underlying e = some (.struct fs)) (hone : oneCellFields P fs = true) (hC : P.cellsOf e = fs.size) (h0 : 0 < fs.size)
    (h : DataW.trod enc P w base (fun _ => true) held fuel t cs = some x) : ∃ A n c, cs = [.slice A n c] ∧ ArgS enc P base held fs w A n c := by
  rcases Go.Deep.open_slice ht h with ⟨hcs, -⟩ | ⟨a, len, cap, m, n, D, Pl, hcs, hb, hl, hm, hmm, hx, hi⟩
  · exact ⟨none, 0, 0, hcs, Nat.le_refl _, Nat.zero_le _, fun i hi => by omega⟩
  · refine ⟨some a, len, cap, hcs, hl, hm, fun i hin => ?_⟩
    have him : i < m := by rw [hmm]; simp; omega
    obtain ⟨cs', hc, ht'⟩ := hi i him
    obtain ⟨hlen, hf⟩ := flds he hone hC ht'
    rw [hC] at hc
    obtain ⟨-, -, hat⟩ := World.cells?_some hc
    have hplain : ∃ b o, a = ⟨b, o, none⟩ := by
      obtain ⟨cs0, hc0, ht0⟩ := hi 0 (by omega)
      obtain ⟨-, hf0⟩ := flds he hone hC ht0
      rw [hC] at hc0
      obtain ⟨-, -, hat0⟩ := World.cells?_some hc0
      have h1 := hat0 0 h0
      obtain ⟨v, hv, -⟩ := hf0 0 fs[0] (Array.getElem?_eq_getElem h0)
      rw [Go.Deep.add_add, hv, Nat.zero_mul] at h1
      exact addr_plain h1
    obtain ⟨b, o, rfl⟩ := hplain
    have hcell : ∀ (j : Nat) (v : Value), cs'[j]? = some v → w.cell? ⟨b, o + (i * fs.size + j), none⟩ = some v := fun j v hj => by
      have hjl : j < fs.size := by rw [← hlen]; exact (List.getElem?_eq_some_iff.1 hj).1
      have h1 := hat j hjl
      rw [Go.Deep.add_add, Addr.add_lit, hj] at h1
      exact h1
    refine ⟨b, o, cs', rfl, ?_, hlen, hcell, hf⟩
    obtain ⟨f, hf0⟩ : ∃ f, fs[0]? = some f := ⟨fs[0], Array.getElem?_eq_getElem h0⟩
    obtain ⟨v, hv, -⟩ := hf 0 f hf0
    exact World.block_lt_of_cell? w _ (hcell 0 v hv)
end
end Go.Proofs.YtbfjdhbgpjenbaaDoor
