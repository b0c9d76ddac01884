/-
  A region that draws its order, whose calls come one behind the other and whose other operations yield one value in every world that may follow (a relation R between worlds, kept by the calls): one walk serves all orders.
-/
import Derived.Test.YtfdilhoeikkhoaaBase
import Derived.OrdersHeld
import Derived.Deep.RegionHeld
namespace Go.Proofs.Ytfdilhoeikkhoaa
open Go.RowKit
set_option linter.unusedVariables false

section
variable {P : Program} {ops : Array Oper} {Q : Exit → Act → World → Prop} {md : Region.Mode}

theorem anyH_mono {S S' : World → Prop} (h : ∀ u, S' u → S u) : ∀ (fuel : Nat) (listed : Array Bool) (a : Act) (w : World), wpAnyH P md ops Q S' fuel listed a w → wpAnyH P md ops Q S fuel listed a w
  | 0, _, _, _, hh => hh
  | fuel + 1, _, _, _, hh => ⟨hh.1, fun i hi => wpOp_mono (fun a' w' h' => ⟨h _ h'.1, anyH_mono h fuel _ a' w' h'.2⟩) (hh.2 i hi)⟩

/-- The operations that are left, in the order in which the walk takes them; 'mv': the numbers of those that may change the world. -/
def wpGrow (P : Program) (l : List Oper) (Q : Exit → Act → World → Prop) (R : World → World → Prop) (mv : List Nat) : List Nat → Act → World → Prop
  | [], a, w => Q .normal a w
  | i :: is, a, w =>
    if mv.contains i then wpOp P l.toArray Q i (fun a' w' => R w w' ∧ wpGrow P l Q R mv is a' w') a w
    else ∃ v o, l.toArray[i]? = some o ∧ YieldsIf P l.toArray (R w) o v a ∧ wpGrow P l Q R mv is (a.put o.dst v) w

/-- The order fits: what may change the world comes alone; all else may be taken first. -/
def growB (md : Region.Mode) (ops : Array Oper) (mv : List Nat) : List Nat → Array Bool → Bool
  | [], listed => (Region.ready md ops listed).isEmpty
  | i :: is, listed => (if mv.contains i then (Region.ready md ops listed) == [i] else Region.free md ops listed i && (Region.ready md ops listed).contains i) && growB md ops mv is (listed.setIfInBounds i true)

theorem anyH_of_grow {l : List Oper} {R : World → World → Prop} {mv : List Nat} (hR : ∀ a b c, R a b → R b c → R a c) (hrefl : ∀ a, R a a) (hs : Region.noSelect l.toArray = true) (hQ : ∀ c a (d : Tmp) v w, Q (.panic c) (Act.put a (some d) v) w → Q (.panic c) a w) :
    ∀ (is : List Nat) (listed : Array Bool) (a : Act) (w : World), growB md l.toArray mv is listed = true → wpGrow P l Q R mv is a w → wpAnyH P md l.toArray Q (R w) is.length listed a w
  | [], listed, a, w, hB, h => by
    refine ⟨?_, h⟩
    simpa [growB, List.isEmpty_iff] using hB
  | i :: is, listed, a, w, hB, h => by
    simp only [growB, Bool.and_eq_true] at hB
    obtain ⟨hB1, hB2⟩ := hB
    simp only [wpGrow] at h
    by_cases hm : mv.contains i = true
    · rw [if_pos hm] at hB1 h
      have hr : Region.ready md l.toArray listed = [i] := by simpa using hB1
      refine wpAnyH_all hr (by simp) fun j hj => ?_
      obtain rfl : j = i := by simpa using hj
      refine wpOp_mono (fun a' w' h' => ⟨h'.1, ?_⟩) h
      exact anyH_mono (fun u hu => hR _ _ _ h'.1 hu) _ _ _ _ (anyH_of_grow hR hrefl hs hQ is _ a' w' hB2 h'.2)
    · rw [if_neg hm] at hB1 h
      obtain ⟨v, o, ho, hy, h⟩ := h
      simp only [Bool.and_eq_true] at hB1
      exact wpAnyH_take ho hs hB1.1 hB1.2 (fun c a w hh => by cases hd : o.dst <;> rw [hd] at hh <;> first | exact hQ _ _ _ _ _ hh | exact hh) hy (hrefl w) (anyH_of_grow hR hrefl hs hQ is _ _ w hB2 h)

theorem wp_region_grow {R : World → World → Prop} (mv is : List Nat) {l : List Oper} {id : Nat} {a : Act} {w : World} (hm : P.follows .mixedOrders = true) (hR : ∀ a b c, R a b → R b c → R a c) (hrefl : ∀ a, R a a)
    (hB : (Region.noSelect l.toArray && growB .any l.toArray mv is (Array.replicate l.toArray.size false) && (is.length == l.toArray.size)) = true) (hQ : ∀ c a (d : Tmp) v w, Q (.panic c) (Act.put a (some d) v) w → Q (.panic c) a w)
    (h : wpGrow P l Q R mv is a w.drew) : (Code.region id l.toArray true).wp P Q a w := by
  simp only [Bool.and_eq_true] at hB
  obtain ⟨⟨hs, hB⟩, hl⟩ := hB
  have hl : is.length = l.toArray.size := by simpa using hl
  refine wp_region_held (S := R w.drew) hm ?_
  rw [← hl] at hB ⊢
  exact anyH_of_grow hR hrefl hs hQ is _ a _ hB h

def nthOp : List Oper → Nat → Option Oper
  | [], _ => none
  | o :: _, 0 => some o
  | _ :: l, n + 1 => nthOp l n
theorem nthOp_eq : ∀ (l : List Oper) (n : Nat), l.toArray[n]? = nthOp l n
  | [], n => by simp [nthOp]
  | o :: l, 0 => by simp [nthOp]
  | o :: l, n + 1 => by have := nthOp_eq l n; simpa [nthOp] using this

theorem grow_take {l : List Oper} {R : World → World → Prop} {mv is : List Nat} {i : Nat} {o : Oper} {v : Value} {a : Act} {w : World} (hm : mv.contains i = false) (ho : nthOp l i = some o) (hw : Region.wanted o (yielded l.toArray a.tmps) = true)
    (hy : ∀ w', R w w' → (execOp a.eval o).run P w' = .ok (.value v) w') (h : wpGrow P l Q R mv is (a.put o.dst v) w) : wpGrow P l Q R mv (i :: is) a w := by
  simp only [wpGrow, hm, Bool.false_eq_true, if_false]
  exact ⟨v, o, (nthOp_eq l i).trans ho, .inl ⟨hw, hy⟩, h⟩
theorem grow_skip {l : List Oper} {R : World → World → Prop} {mv is : List Nat} {i : Nat} {o : Oper} {a : Act} {w : World} (ho : nthOp l i = some o) (hw : Region.wanted o (yielded l.toArray a.tmps) = false)
    (h : wpGrow P l Q R mv is (a.put o.dst undef) w) (hrefl : R w w) : wpGrow P l Q R mv (i :: is) a w := by
  have ho' := (nthOp_eq l i).trans ho
  by_cases hm : mv.contains i = true
  · simp only [wpGrow, hm, if_true]
    unfold wpOp
    simp only [ho', hw, Bool.false_eq_true, if_false]
    exact ⟨hrefl, h⟩
  · simp only [wpGrow, hm]
    exact ⟨undef, o, ho', .inr ⟨hw, rfl⟩, h⟩
theorem grow_move {l : List Oper} {R : World → World → Prop} {mv is : List Nat} {i : Nat} {o : Oper} {a : Act} {w : World} (hm : mv.contains i = true) (ho : nthOp l i = some o) (hw : Region.wanted o (yielded l.toArray a.tmps) = true)
    (h : ∀ K : Act → World → Prop, Hid (∀ a' w', R w w' → wpGrow P l Q R mv is a' w' → K a' w') → Oper.wp P o a w K Q) : wpGrow P l Q R mv (i :: is) a w := by
  have ho' := (nthOp_eq l i).trans ho
  simp only [wpGrow, hm, if_true]
  unfold wpOp
  simp only [ho', hw, if_true]
  exact .inl (h _ fun a' w' hr hg => ⟨hr, hg⟩)
theorem grow_done {l : List Oper} {R : World → World → Prop} {mv : List Nat} {a : Act} {w : World} (h : Q .normal a w) : wpGrow P l Q R mv [] a w := h
end

/-- The usual relation: what is there stays. -/
def Stays (w w' : World) : Prop := Below w.heap.size w w'
theorem Stays.tr (a b c : World) (h : Stays a b) (h' : Stays b c) : Stays a c := nxt h h'
theorem Stays.rf (a : World) : Stays a a := Below.refl _ _
end Go.Proofs.Ytfdilhoeikkhoaa
