/-
  A region that draws its order, whose calls come one behind the other and whose other operations yield one value in every world that may follow (a relation R between worlds, kept by the calls): one walk serves all orders.
-/
import Derived.Test.YtbfjdhbgpjenbaaDoorBase
import Derived.OrdersHeld
import Derived.Deep.RegionHeld
namespace Go.Proofs.YtbfjdhbgpjenbaaDoor
set_option linter.unusedSimpArgs false
open Go.RowKit
set_option linter.unusedVariables false

section
variable {P : Program} {ops : Array Oper} {Q : Exit → Act → World → Prop} {md : Region.Mode}

/-- Whatever order is picked from here on, and S holds behind every operation but number z. -/
def wpAnyT (P : Program) (md : Region.Mode) (ops : Array Oper) (Q : Exit → Act → World → Prop) (z : Nat) (S : World → Prop) : Nat → Array Bool → Act → World → Prop
  | 0, listed, a, w => Region.ready md ops listed = [] ∧ Q .normal a w
  | fuel + 1, listed, a, w =>
    (Region.ready md ops listed = [] → Q .normal a w) ∧
    ∀ i ∈ Region.ready md ops listed, wpOp P ops Q i (fun a' w' => (i ≠ z → S w') ∧ wpAnyT P md ops Q z S fuel (listed.setIfInBounds i true) a' w') a w
theorem anyT_mono {z : Nat} {S S' : World → Prop} (h : ∀ u, S' u → S u) : ∀ (fuel : Nat) (listed : Array Bool) (a : Act) (w : World), wpAnyT P md ops Q z S' fuel listed a w → wpAnyT P md ops Q z S fuel listed a w
  | 0, _, _, _, hh => hh
  | fuel + 1, _, _, _, hh => ⟨hh.1, fun i hi => wpOp_mono (fun a' w' h' => ⟨fun hz => h _ (h'.1 hz), anyT_mono h fuel _ a' w' h'.2⟩) (hh.2 i hi)⟩
theorem any_of_T {z : Nat} {S : World → Prop} : ∀ (fuel : Nat) (listed : Array Bool) (a : Act) (w : World), wpAnyT P md ops Q z S fuel listed a w → wpAny P md ops Q fuel listed a w
  | 0, _, _, _, h => h
  | fuel + 1, _, _, _, h => ⟨h.1, fun i hi => wpOp_mono (fun a' w' h' => any_of_T fuel _ a' w' h'.2) (h.2 i hi)⟩
/-- What an operation that is listed waits for is listed. -/
def Closed (md : Region.Mode) (ops : Array Oper) (listed : Array Bool) : Prop :=
  ∀ k o, ops[k]? = some o → listed.getD k false = true → ∀ e ∈ o.after, Region.binds md e = true → listed.getD e.on false = true
theorem Closed.set {listed : Array Bool} (h : Closed md ops listed) {i : Nat} (hi : i ∈ Region.ready md ops listed) : Closed md ops (listed.setIfInBounds i true) := by
  intro k o ho hk e he hb
  by_cases hki : i = k
  · subst hki
    obtain ⟨_, o', ho', hall⟩ := mem_ready.1 hi
    rw [ho] at ho'
    obtain rfl := Option.some.inj ho'
    exact getD_set_true (hall e he hb)
  · rw [getD_set_ne false hki] at hk
    exact getD_set_true (h k o ho hk e he hb)
theorem Closed.none (n : Nat) : Closed md ops (Array.replicate n false) := by
  intro k o ho hk
  simp [Array.getElem?_replicate] at hk
  split at hk <;> simp at hk
/-- Number j waits for number k, over as many others as 'fuel' says. -/
def reaches (md : Region.Mode) (ops : Array Oper) (k : Nat) : Nat → Nat → Bool
  | 0, j => k == j
  | fuel + 1, j => k == j || ((ops[j]?).map fun o => o.after.any fun e => Region.binds md e && reaches md ops k fuel e.on).getD false
theorem reaches_spec {k : Nat} {listed : Array Bool} (hc : Closed md ops listed) : ∀ (fuel j : Nat), reaches md ops k fuel j = true → (∀ o, ops[j]? = some o → ∀ e ∈ o.after, Region.binds md e = true → listed.getD e.on false = true) → k = j ∨ listed.getD k false = true
  | 0, j, h, _ => .inl (by simpa [reaches] using h)
  | fuel + 1, j, h, hj => by
    simp only [reaches, Bool.or_eq_true] at h
    rcases h with h | h
    · exact .inl (by simpa using h)
    · cases ho : ops[j]? with
      | none => rw [ho] at h; simp at h
      | some o =>
        rw [ho] at h
        simp only [Option.map_some, Option.getD_some, Array.any_eq_true'] at h
        obtain ⟨e, he, hb⟩ := h
        simp only [Bool.and_eq_true] at hb
        have h2 := hj o ho e he hb.1
        rcases reaches_spec hc fuel e.on hb.2 (fun o' ho' e' he' hb' => hc e.on o' ho' h2 e' he' hb') with h3 | h3
        · exact .inr (by rw [h3]; exact h2)
        · exact .inr h3
/-- Number z waits for all others (or there is no such number). -/
def tailB (md : Region.Mode) (ops : Array Oper) (z : Nat) : Bool :=
  decide (ops.size ≤ z) || (List.range ops.size).all fun k => reaches md ops k 20 z
theorem tail_spec {z : Nat} (h : tailB md ops z = true) {listed : Array Bool} (hc : Closed md ops listed) (hz : z ∈ Region.ready md ops listed) {i : Nat} (hi : i ∈ Region.ready md ops listed) : i = z := by
  obtain ⟨hz0, o, ho, hall⟩ := mem_ready.1 hz
  obtain ⟨hi0, oi, hoi, -⟩ := mem_ready.1 hi
  have hzl := (Array.getElem?_eq_some_iff.1 ho).1
  have hil := (Array.getElem?_eq_some_iff.1 hoi).1
  simp only [tailB, Bool.or_eq_true, decide_eq_true_eq, List.all_eq_true, List.mem_range] at h
  rcases h with h | h
  · omega
  · rcases reaches_spec hc 20 z (h i hil) (fun o' ho' e he hb => by rw [ho] at ho'; obtain rfl := Option.some.inj ho'; exact hall e he hb) with h1 | h2
    · exact h1
    · rcases Nat.lt_or_ge i listed.size with h' | h'
      · simp [h'] at h2 hi0; rw [hi0] at h2; cases h2
      · simp [Array.getElem?_eq_none h'] at h2
theorem anyT_take {z i : Nat} {oi : Oper} {v : Value} {S : World → Prop} (hi : ops[i]? = some oi) (hsel : Region.noSelect ops = true) (ht : tailB md ops z = true)
    (hQ : ∀ c a w, Q (.panic c) (a.put oi.dst v) w → Q (.panic c) a w) :
    ∀ (fuel : Nat) (listed : Array Bool) (a : Act) (w : World),
      (∀ j oj, ops[j]? = some oj → j ≠ i → listed.getD j true = false → (∀ e ∈ oj.after, Region.binds md e = true → e.on ≠ i) → oi.apart ops oj = true) →
      Closed md ops listed → i ∈ Region.ready md ops listed → YieldsIf P ops S oi v a → S w →
      wpAnyT P md ops Q z S fuel (listed.setIfInBounds i true) (a.put oi.dst v) w → wpAnyT P md ops Q z S (fuel + 1) listed a w := by
  intro fuel
  induction fuel with
  | zero =>
    intro listed a w _ hcl hr hy hS H
    refine ⟨fun h => (by rw [h] at hr; cases hr), fun j hj => ?_⟩
    by_cases hji : j = i
    · subst hji; exact hy.wpOp hi hS ⟨fun _ => hS, H⟩
    · have := ready_mono hj hji
      rw [H.1] at this
      cases this
  | succ fuel ih =>
    intro listed a w hfree hcl hr hy hS H
    refine ⟨fun h => (by rw [h] at hr; cases hr), fun j hj => ?_⟩
    by_cases hji : j = i
    · subst hji; exact hy.wpOp hi hS ⟨fun _ => hS, H⟩
    · have h1 := H.2 j (ready_mono hj hji)
      have hjz : j ≠ z := fun he => hji (by subst he; exact (tail_spec ht hcl hj hr).symm)
      obtain ⟨hjun, oj, hoj, hall⟩ := mem_ready.1 hj
      have hnot : ∀ e ∈ oj.after, Region.binds md e = true → e.on ≠ i := fun e he hb heq => by
        have h1 := hall e he hb
        have h0 := (mem_ready.1 hr).1
        rw [heq] at h1
        rcases Nat.lt_or_ge i listed.size with h' | h'
        · simp [h'] at h0 h1; rw [h0] at h1; cases h1
        · simp [Array.getElem?_eq_none h'] at h1
      have h2 := wpOp_putIf hoj (hfree j oj hoj hji hjun hnot) (fun cs b => Region.noSelect_spec hsel i oi cs b hi) (fun cs b => Region.noSelect_spec hsel j oj cs b hoj) hQ hy h1
      have hfree' : ∀ k ok, ops[k]? = some ok → k ≠ i → (listed.setIfInBounds j true).getD k true = false →
          (∀ e ∈ ok.after, Region.binds md e = true → e.on ≠ i) → oi.apart ops ok = true := fun k ok hk hki hun hno => by
        refine hfree k ok hk hki ?_ hno
        by_cases hjk : j = k
        · subst hjk; exact hjun
        · rw [getD_set_ne true hjk] at hun; exact hun
      refine wpOp_mono (fun a' w' h3 => ⟨fun _ => h3.2.1 hjz, ih (listed.setIfInBounds j true) a' w' hfree' (hcl.set hj) (ready_mono hr (Ne.symm hji)) h3.1 (h3.2.1 hjz) ?_⟩) h2
      rw [Array.setIfInBounds_comm _ _ hji]
      exact h3.2.2

/-- The operations that are left, in the order in which the walk takes them; 'mv': the numbers of those that may change the world; z: the last one, which may change it as it likes (none: a number beyond all). -/
def wpGrow (P : Program) (l : List Oper) (Q : Exit → Act → World → Prop) (R : World → World → Prop) (mv : List Nat) (z : Nat) : List Nat → Act → World → Prop
  | [], a, w => Q .normal a w
  | i :: is, a, w =>
    if mv.contains i then wpOp P l.toArray Q i (fun a' w' => (i ≠ z → R w w') ∧ wpGrow P l Q R mv z is a' w') a w
    else ∃ v o, l.toArray[i]? = some o ∧ YieldsIf P l.toArray (R w) o v a ∧ wpGrow P l Q R mv z is (a.put o.dst v) w

/-- The order fits: what may change the world comes alone; all else may be taken first. -/
def growB (md : Region.Mode) (ops : Array Oper) (mv : List Nat) (z : Nat) : List Nat → Array Bool → Bool
  | [], listed => (Region.ready md ops listed).isEmpty
  | i :: is, listed => (if mv.contains i then (Region.ready md ops listed) == [i] && (!(i == z) || is.isEmpty) else Region.free md ops listed i && (Region.ready md ops listed).contains i) && growB md ops mv z is (listed.setIfInBounds i true)

theorem anyT_of_grow {l : List Oper} {R : World → World → Prop} {mv : List Nat} {z : Nat} (hR : ∀ a b c, R a b → R b c → R a c) (hrefl : ∀ a, R a a) (hs : Region.noSelect l.toArray = true) (ht : tailB md l.toArray z = true)
    (hQ : ∀ c a (d : Tmp) v w, Q (.panic c) (Act.put a (some d) v) w → Q (.panic c) a w) :
    ∀ (is : List Nat) (listed : Array Bool) (a : Act) (w : World), Closed md l.toArray listed → growB md l.toArray mv z is listed = true → wpGrow P l Q R mv z is a w → wpAnyT P md l.toArray Q z (R w) is.length listed a w
  | [], listed, a, w, hcl, hB, h => by
    refine ⟨?_, h⟩
    simpa [growB, List.isEmpty_iff] using hB
  | i :: is, listed, a, w, hcl, hB, h => by
    simp only [growB, Bool.and_eq_true] at hB
    obtain ⟨hB1, hB2⟩ := hB
    simp only [wpGrow] at h
    by_cases hm : mv.contains i = true
    · rw [if_pos hm] at hB1 h
      simp only [Bool.and_eq_true] at hB1
      have hr : Region.ready md l.toArray listed = [i] := by simpa using hB1.1
      refine ⟨fun h0 => absurd (hr ▸ h0) (by simp), ?_⟩
      rw [hr]
      intro j hj
      obtain rfl : j = i := by simpa using hj
      by_cases hz : j = z
      · have hnil : is = [] := by simpa [hz] using hB1.2
        subst hnil
        refine wpOp_mono (fun a' w' h' => ⟨h'.1, ?_⟩) h
        have := anyT_of_grow hR hrefl hs ht hQ [] _ a' w' (hcl.set (by rw [hr]; simp)) hB2 h'.2
        exact this
      · refine wpOp_mono (fun a' w' h' => ⟨h'.1, ?_⟩) h
        exact anyT_mono (fun u hu => hR _ _ _ (h'.1 hz) hu) _ _ _ _ (anyT_of_grow hR hrefl hs ht hQ is _ a' w' (hcl.set (by rw [hr]; simp)) hB2 h'.2)
    · rw [if_neg hm] at hB1 h
      obtain ⟨v, o, ho, hy, h⟩ := h
      simp only [Bool.and_eq_true] at hB1
      exact anyT_take ho hs ht (fun c a w hh => by cases hd : o.dst <;> rw [hd] at hh <;> first | exact hQ _ _ _ _ _ hh | exact hh) _ _ _ _ (fun j oj hj hne hun hno => Region.free_spec ho hB1.1 j oj hj hne hun hno) hcl (by simpa using hB1.2) hy (hrefl w) (anyT_of_grow hR hrefl hs ht hQ is _ _ w (hcl.set (by simpa using hB1.2)) hB2 h)

theorem wp_region_grow {R : World → World → Prop} (z : Nat) (mv is : List Nat) {l : List Oper} {id : Nat} {a : Act} {w : World} (hm : P.follows .mixedOrders = true) (hR : ∀ a b c, R a b → R b c → R a c) (hrefl : ∀ a, R a a)
    (hB : (Region.noSelect l.toArray && tailB .any l.toArray z && growB .any l.toArray mv z is (Array.replicate l.toArray.size false) && (is.length == l.toArray.size)) = true) (hQ : ∀ c a (d : Tmp) v w, Q (.panic c) (Act.put a (some d) v) w → Q (.panic c) a w)
    (h : wpGrow P l Q R mv z is a w.drew) : (Code.region id l.toArray true).wp P Q a w := by
  simp only [Bool.and_eq_true] at hB
  obtain ⟨⟨⟨hs, ht⟩, hB⟩, hl⟩ := hB
  have hl : is.length = l.toArray.size := by simpa using hl
  refine wp_region_any hm (any_of_T (z := z) (S := R w.drew) _ _ _ _ ?_)
  rw [← hl] at hB ⊢
  exact anyT_of_grow hR hrefl hs ht hQ is _ a _ (Closed.none _) hB h

def nthOp : List Oper → Nat → Option Oper
  | [], _ => none
  | o :: _, 0 => some o
  | _ :: l, n + 1 => nthOp l n
theorem nthOp_eq : ∀ (l : List Oper) (n : Nat), l.toArray[n]? = nthOp l n
  | [], n => by simp [nthOp]
  | o :: l, 0 => by simp [nthOp]
  | o :: l, n + 1 => by have := nthOp_eq l n; simpa [nthOp] using this

theorem grow_take {l : List Oper} {R : World → World → Prop} {mv is : List Nat} {z i : Nat} {o : Oper} {v : Value} {a : Act} {w : World} (hm : mv.contains i = false) (ho : nthOp l i = some o) (hw : Region.wanted o (yielded l.toArray a.tmps) = true)
    (hy : ∀ w', R w w' → (execOp a.eval o).run P w' = .ok (.value v) w') (h : wpGrow P l Q R mv z is (a.put o.dst v) w) : wpGrow P l Q R mv z (i :: is) a w := by
  simp only [wpGrow, hm, Bool.false_eq_true, if_false]
  exact ⟨v, o, (nthOp_eq l i).trans ho, .inl ⟨hw, hy⟩, h⟩
theorem grow_skip {l : List Oper} {R : World → World → Prop} {mv is : List Nat} {z i : Nat} {o : Oper} {a : Act} {w : World} (ho : nthOp l i = some o) (hw : Region.wanted o (yielded l.toArray a.tmps) = false)
    (h : wpGrow P l Q R mv z is (a.put o.dst undef) w) (hrefl : R w w) : wpGrow P l Q R mv z (i :: is) a w := by
  have ho' := (nthOp_eq l i).trans ho
  by_cases hm : mv.contains i = true
  · simp only [wpGrow, hm, if_true]
    unfold wpOp
    simp only [ho', hw, Bool.false_eq_true, if_false]
    exact ⟨fun _ => hrefl, h⟩
  · simp only [wpGrow, hm]
    exact ⟨undef, o, ho', .inr ⟨hw, rfl⟩, h⟩
theorem grow_move {l : List Oper} {R : World → World → Prop} {mv is : List Nat} {z i : Nat} {o : Oper} {a : Act} {w : World} (hm : mv.contains i = true) (ho : nthOp l i = some o) (hw : Region.wanted o (yielded l.toArray a.tmps) = true)
    (h : ∀ K : Act → World → Prop, Hid (∀ a' w', R w w' → wpGrow P l Q R mv z is a' w' → K a' w') → Oper.wp P o a w K Q) : wpGrow P l Q R mv z (i :: is) a w := by
  have ho' := (nthOp_eq l i).trans ho
  simp only [wpGrow, hm, if_true]
  unfold wpOp
  simp only [ho', hw, if_true]
  exact .inl (h _ fun a' w' hr hg => ⟨fun _ => hr, hg⟩)
theorem grow_last {l : List Oper} {R : World → World → Prop} {mv is : List Nat} {z i : Nat} {o : Oper} {a : Act} {w : World} (hm : mv.contains i = true) (hz : (i == z) = true) (ho : nthOp l i = some o) (hw : Region.wanted o (yielded l.toArray a.tmps) = true)
    (h : ∀ K : Act → World → Prop, Hid (∀ a' w', wpGrow P l Q R mv z is a' w' → K a' w') → Oper.wp P o a w K Q) : wpGrow P l Q R mv z (i :: is) a w := by
  have ho' := (nthOp_eq l i).trans ho
  simp only [wpGrow, hm, if_true]
  unfold wpOp
  simp only [ho', hw, if_true]
  exact .inl (h _ fun a' w' hg => ⟨fun h => absurd (by simpa using hz) h, hg⟩)
theorem grow_done {l : List Oper} {R : World → World → Prop} {mv : List Nat} {z : Nat} {a : Act} {w : World} (h : Q .normal a w) : wpGrow P l Q R mv z [] a w := h
end

/-- The usual relation: what is there stays. -/
def Stays (w w' : World) : Prop := Below w.heap.size w w'
theorem Stays.tr (a b c : World) (h : Stays a b) (h' : Stays b c) : Stays a c := nxt h h'
theorem Stays.rf (a : World) : Stays a a := Below.refl _ _
theorem Lower.tr (B : Nat) (a b c : World) (h : Below B a b) (h' : Below B b c) : Below B a c := h.trans h'
theorem Lower.rf (B : Nat) (a : World) : Below B a a := Below.refl _ _
/-- One block stays. -/
def Holds (v : Nat) (a b : World) : Prop := b.heap[v]? = a.heap[v]?
theorem Holds.tr (v : Nat) (a b c : World) (h : Holds v a b) (h' : Holds v b c) : Holds v a c := Eq.trans h' h
theorem Holds.rf (v : Nat) (a : World) : Holds v a a := rfl
end Go.Proofs.YtbfjdhbgpjenbaaDoor
