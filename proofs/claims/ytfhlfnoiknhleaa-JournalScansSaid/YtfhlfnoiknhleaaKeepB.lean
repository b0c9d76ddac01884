/-
  cornhillkeep.Bytes at two lists of bytes that are the same.
-/
import Derived.Test.YtfhlfnoiknhleaaScan
import Derived.Test.YtfhlfnoiknhleaaStrs
import Derived.Test.YtfhlfnoiknhleaaGrow
namespace Go.Proofs.Ytfhlfnoiknhleaa
open Go.RowKit
set_option linter.unusedVariables false

/-- A slice of slices of bytes that may be read. -/
def RowsB (w : World) (A : Option Addr) (ls : List (List UInt8)) : Prop :=
  ∀ (i : Nat) (l : List UInt8), ls[i]? = some l → ∃ b o A' c', A = some ⟨b, o, none⟩ ∧ b < w.heap.size ∧ w.cell? ⟨b, o + i, none⟩ = some (.slice A' l.length c') ∧ Cells w A' (u8s l)
theorem RowsB.below {w w' : World} {A : Option Addr} {ls : List (List UInt8)} (h : RowsB w A ls) (hb : Below w.heap.size w w') : RowsB w' A ls := by
  intro i l hl
  obtain ⟨b, o, A', c', rfl, h1, h2, h3⟩ := h i l hl
  exact ⟨b, o, A', c', rfl, Nat.lt_of_lt_of_le h1 hb.size, (hb.cell (p := ⟨b, o + i, none⟩) h1).trans h2, h3.below hb⟩
theorem RowsB.of {w : World} {A : Option Addr} {vs : List Value} {ls : List (List UInt8)} (h : Cells w A vs) (hv : ∀ (i : Nat) (l : List UInt8), ls[i]? = some l → ∃ A' c', vs[i]? = some (.slice A' l.length c') ∧ Cells w A' (u8s l)) : RowsB w A ls := by
  intro i l hl
  obtain ⟨A', c', h1, h2⟩ := hv i l hl
  obtain ⟨b, o, u, rfl, hb, hc, hu⟩ := h.val_at (k := i) (lt_of_some' h1)
  have := hu.out
  rw [h1] at this
  injection this with this
  subst this
  exact ⟨b, o, A', c', rfl, hb, hc, h2⟩
theorem RowsB.row {w : World} {base : Nat} {A : Option Addr} {vs : List Value} {ls : List (List UInt8)} (h : Cells w A vs) (hB : BRow w base vs ls) : RowsB w A ls :=
  RowsB.of h fun i l hl => by
    obtain ⟨A', c', h1, h2⟩ := hB.at_ i l hl
    exact ⟨A', c', h1, h2.cells⟩
theorem RowsB.take {w : World} {A : Option Addr} {ls : List (List UInt8)} (h : RowsB w A ls) (m : Nat) : RowsB w A (ls.take m) := by
  intro i l hl
  refine h i l ?_
  rw [List.getElem?_take] at hl
  split at hl
  · exact hl
  · cases hl
theorem RowsB.get {w w' : World} {A : Option Addr} {ls : List (List UInt8)} (h : RowsB w A ls) (hb : Below w.heap.size w w') {i : Nat} {l : List UInt8} (hl : ls[i]? = some l) {m : Nat} (hm : l.length = m) :
    ∃ b o A' c', A = some ⟨b, o, none⟩ ∧ (∀ u, Stays w' u → u.cell? ⟨b, o + i, none⟩ = some (.slice A' m c')) ∧ Cells w' A' (u8s l) := by
  subst hm
  obtain ⟨b, o, A', c', rfl, h1, h2, h3⟩ := h.below hb i l hl
  exact ⟨b, o, A', c', rfl, fun u hu => (hu.cell (p := ⟨b, o + i, none⟩) h1).trans h2, h3⟩
set_option maxHeartbeats 1600000 in
theorem keepBytes_same (A B : Option Addr) (n ca cb : Nat) (ls : List (List UInt8)) (w : World) (hn : ls.length = n) (hl : n ≤ 9223372036854775807) (hA : RowsB w A ls) (hB : RowsB w B ls) :
    Calls Try.prog 21 #[.slice A n ca, .slice B n cb] w fun e w' => e = .returned (.bool true) ∧ Below w.heap.size w w' := by
  have HN := hide hn
  clear hn
  go_enter Try.func21, Try.ntmps21
  go_wp2_with fail
  go_loopw [5] (fun i wr => ∃ k : Nat, k ≤ n ∧ i = .int .i64 k ∧ Below w.heap.size w wr) (fun i _ => n - (intOf i).toNat)
  case atStart => exact ⟨0, Nat.zero_le _, rfl, Below.refl _ _⟩
  case round =>
    obtain ⟨k, hk, rfl, BB⟩ := hrel
    by_cases hlt : k < n
    · have i1 : (k : Int) < n := by omega
      obtain ⟨l, hll⟩ : ∃ l, ls[k]? = some l := ⟨ls[k]'(by rw [HN.out]; exact hlt), List.getElem?_eq_getElem _⟩
      obtain ⟨m, hm⟩ : ∃ m, l.length = m := ⟨_, rfl⟩
      obtain ⟨b, o, A', c', rfl, fA, cA⟩ := hA.get (nxt_drew BB) hll hm
      obtain ⟨b2, o2, B', c2, rfl, fB, cB⟩ := hB.get (nxt_drew BB) hll hm
      have k1 := Cells.strs (P := Try.prog) Try.underlying30 Try.underlying5 Try.underlying9 hm cA c'
      have k2 := Cells.strs (P := Try.prog) Try.underlying30 Try.underlying5 Try.underlying9 hm cB c2
      have e6 : ((str l).toList != (str l).toList) = false := by simp
      have B9 := nxt_drew BB
      clear cA cB hll hm
      go_wp2_with fail
      refine wp_region_grow (R := Stays) 99999 [] [0, 1, 2, 3, 4, 5, 6, 7, 8, 9, 10] (by kernel_rfl) Stays.tr Stays.rf (by kernel_rfl) (fun _ _ _ _ _ h => h) ?_
      (repeat ((first | (refine grow_skip (by rfl) (by rfl) ?_ (by first | exact Stays.rf _ | exact Lower.rf _ _ | exact Holds.rf _ _)) | (refine grow_take (v := ?_) (by rfl) (by rfl) (by rfl) ?_ ?_; rotate_left 1; focus (intro w' hSw; go_simp; (try (with_reducible rfl)); done))); (try simp only [Act.put, List.setIfInBounds_toArray, List.set_cons_zero, List.set_cons_succ])))
      refine grow_done ?_
      clear fA fB k1 k2
      go_wp2_with fail
      go_roundw
      case rel => exact ⟨k + 1, by omega, by go_num, B9⟩
      case measure => simp [intOf]; omega
    · have i1 : ¬ (k : Int) < n := by omega
      go_wp2_with fail
      go_ret
      exact ⟨rfl, BB⟩
end Go.Proofs.Ytfhlfnoiknhleaa
