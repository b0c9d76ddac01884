/-
  A region that draws its order, walked step by step: what yields one value is taken as soon as it may come up; where several operations that change the world may come up, each of them is walked.
-/
import Derived.Test.YtbfjdhbgpjenbaaDoorGrow
namespace Go.Proofs.YtbfjdhbgpjenbaaDoor
set_option linter.unusedSimpArgs false
open Go.RowKit
set_option linter.unusedVariables false

section
variable {P : Program} {Q : Exit → Act → World → Prop}

/-- Which operations are listed, as a list. -/
def setL : List Bool → Nat → List Bool
  | [], _ => []
  | _ :: l, 0 => true :: l
  | b :: l, n + 1 => b :: setL l n
theorem setL_eq : ∀ (l : List Bool) (n : Nat), (setL l n).toArray = l.toArray.setIfInBounds n true
  | [], n => by simp [setL]
  | b :: l, 0 => by simp [setL]
  | b :: l, n + 1 => by have := setL_eq l n; simp_all [setL]
def closedB (md : Region.Mode) (ops : Array Oper) (listed : Array Bool) : Bool :=
  (List.range ops.size).all fun k => match ops[k]? with
    | some o => !listed.getD k false || o.after.all fun e => !Region.binds md e || listed.getD e.on false
    | none => true
theorem closedB_spec {md : Region.Mode} {ops : Array Oper} {listed : Array Bool} (h : closedB md ops listed = true) : Closed md ops listed := by
  intro k o ho hk e he hb
  have hlt := (Array.getElem?_eq_some_iff.1 ho).1
  have h1 := List.all_eq_true.1 h k (List.mem_range.2 hlt)
  rw [ho] at h1
  simp only [hk, Bool.not_true, Bool.false_or] at h1
  have h2 := Array.all_eq_true'.1 h1 e he
  simpa [hb] using h2

/-- What is left of the region: whatever order is picked from here on. -/
def wpFrom (P : Program) (l : List Oper) (Q : Exit → Act → World → Prop) (S : World → Prop) (fuel : Nat) (bs : List Bool) (a : Act) (w : World) : Prop :=
  wpAnyT P .any l.toArray Q 99999 S fuel bs.toArray a w
/-- A row of operations that are taken as soon as they may come up. -/
def wpTakes (P : Program) (l : List Oper) (S : World → Prop) (fin : Act → World → Prop) : List Nat → Act → World → Prop
  | [], a, w => fin a w
  | i :: is, a, w => ∃ v o, l.toArray[i]? = some o ∧ YieldsIf P l.toArray S o v a ∧ wpTakes P l S fin is (a.put o.dst v) w
def takesB (l : List Oper) : List Nat → List Bool → Bool
  | [], _ => true
  | i :: is, bs => closedB .any l.toArray bs.toArray && Region.free .any l.toArray bs.toArray i && (Region.ready .any l.toArray bs.toArray).contains i && takesB l is (setL bs i)
def setLs : List Bool → List Nat → List Bool
  | bs, [] => bs
  | bs, i :: is => setLs (setL bs i) is
theorem from_takes {l : List Oper} {S : World → Prop} (is : List Nat) (hQ : ∀ c a (d : Tmp) v w, Q (.panic c) (Act.put a (some d) v) w → Q (.panic c) a w) (hs : Region.noSelect l.toArray = true) (ht : tailB .any l.toArray 99999 = true) :
    ∀ (fuel : Nat) (bs : List Bool) (a : Act) (w : World), takesB l is bs = true → S w → wpTakes P l S (wpFrom P l Q S fuel (setLs bs is)) is a w → wpFrom P l Q S (is.length + fuel) bs a w := by
  induction is with
  | nil => intro fuel bs a w _ _ h; simpa [wpTakes, setLs] using h
  | cons i is ih =>
    intro fuel bs a w hB hS h
    simp only [takesB, Bool.and_eq_true] at hB
    obtain ⟨⟨⟨h1, h2⟩, h3⟩, h4⟩ := hB
    obtain ⟨v, o, ho, hy, h⟩ := h
    rw [List.length_cons, Nat.add_right_comm]
    refine anyT_take ho hs ht (fun c a w hh => by cases hd : o.dst <;> rw [hd] at hh <;> first | exact hQ _ _ _ _ _ hh | exact hh) _ _ _ _ (fun j oj hj hne hun hno => Region.free_spec ho h2 j oj hj hne hun hno) (closedB_spec h1) (by simpa using h3) hy hS ?_
    rw [← setL_eq]
    exact ih fuel (setL bs i) _ w h4 hS h
theorem from_run {l : List Oper} {S : World → Prop} (is : List Nat) (fuel : Nat) {n : Nat} {bs : List Bool} {a : Act} {w : World} (hQ : ∀ c a (d : Tmp) v w, Q (.panic c) (Act.put a (some d) v) w → Q (.panic c) a w)
    (hB : (Region.noSelect l.toArray && tailB .any l.toArray 99999 && takesB l is bs && (is.length + fuel == n)) = true) (hS : S w) (h : wpTakes P l S (wpFrom P l Q S fuel (setLs bs is)) is a w) : wpFrom P l Q S n bs a w := by
  simp only [Bool.and_eq_true, beq_iff_eq] at hB
  obtain ⟨⟨⟨h1, h2⟩, h3⟩, rfl⟩ := hB
  exact from_takes is hQ h1 h2 fuel bs a w h3 hS h
theorem takes_take {l : List Oper} {S : World → Prop} {fin : Act → World → Prop} {is : List Nat} {i : Nat} {o : Oper} {v : Value} {a : Act} {w : World} (ho : nthOp l i = some o) (hw : Region.wanted o (yielded l.toArray a.tmps) = true)
    (hy : ∀ w', S w' → (execOp a.eval o).run P w' = .ok (.value v) w') (h : wpTakes P l S fin is (a.put o.dst v) w) : wpTakes P l S fin (i :: is) a w :=
  ⟨v, o, (nthOp_eq l i).trans ho, .inl ⟨hw, hy⟩, h⟩
theorem takes_skip {l : List Oper} {S : World → Prop} {fin : Act → World → Prop} {is : List Nat} {i : Nat} {o : Oper} {a : Act} {w : World} (ho : nthOp l i = some o) (hw : Region.wanted o (yielded l.toArray a.tmps) = false)
    (h : wpTakes P l S fin is (a.put o.dst undef) w) : wpTakes P l S fin (i :: is) a w :=
  ⟨undef, o, (nthOp_eq l i).trans ho, .inr ⟨hw, rfl⟩, h⟩
theorem takes_done {l : List Oper} {S : World → Prop} {fin : Act → World → Prop} {a : Act} {w : World} (h : fin a w) : wpTakes P l S fin [] a w := h

/-- Each of the operations that may come up here. -/
def wpMoves (P : Program) (l : List Oper) (Q : Exit → Act → World → Prop) (R : World → World → Prop) (fuel : Nat) (bs : List Bool) : List Nat → Act → World → Prop
  | [], _, _ => True
  | i :: is, a, w => wpOp P l.toArray Q i (fun a' w' => R w w' ∧ wpFrom P l Q (R w') fuel (setL bs i) a' w') a w ∧ wpMoves P l Q R fuel bs is a w
theorem from_moves {l : List Oper} {R : World → World → Prop} (ms : List Nat) (hR : ∀ a b c, R a b → R b c → R a c) (fuel : Nat) {bs : List Bool} {a : Act} {w : World} (hm : (Region.ready .any l.toArray bs.toArray == ms && !ms.isEmpty) = true)
    (h : wpMoves P l Q R fuel bs ms a w) : wpFrom P l Q (R w) (fuel + 1) bs a w := by
  simp only [Bool.and_eq_true, beq_iff_eq, Bool.not_eq_true', List.isEmpty_eq_false_iff] at hm
  obtain ⟨hr, hne⟩ := hm
  refine ⟨fun h0 => absurd (hr.symm.trans h0) hne, ?_⟩
  rw [hr]
  clear hr hne
  induction ms with
  | nil => intro i hi; cases hi
  | cons m ms ih =>
    intro i hi
    rcases List.mem_cons.1 hi with rfl | hi
    · refine wpOp_mono (fun a' w' h' => ⟨fun _ => h'.1, ?_⟩) h.1
      have := anyT_mono (S := R w) (fun u hu => hR _ _ _ h'.1 hu) _ _ _ _ h'.2
      rwa [setL_eq] at this
    · exact ih h.2 i hi
theorem moves_one {l : List Oper} {R : World → World → Prop} {fuel : Nat} {bs : List Bool} {i : Nat} {is : List Nat} {o : Oper} {a : Act} {w : World} (ho : nthOp l i = some o) (hw : Region.wanted o (yielded l.toArray a.tmps) = true)
    (h : ∀ K : Act → World → Prop, Hid (∀ a' w', R w w' → wpFrom P l Q (R w') fuel (setL bs i) a' w' → K a' w') → Oper.wp P o a w K Q) (hrest : wpMoves P l Q R fuel bs is a w) : wpMoves P l Q R fuel bs (i :: is) a w := by
  have ho' := (nthOp_eq l i).trans ho
  refine ⟨?_, hrest⟩
  unfold wpOp
  simp only [ho', hw, if_true]
  exact .inl (h _ fun a' w' hr hg => ⟨hr, hg⟩)
theorem moves_end {l : List Oper} {R : World → World → Prop} {fuel : Nat} {bs : List Bool} {a : Act} {w : World} : wpMoves P l Q R fuel bs [] a w := trivial
theorem from_done {l : List Oper} {S : World → Prop} {bs : List Bool} {a : Act} {w : World} (hr : (Region.ready .any l.toArray bs.toArray).isEmpty = true) (h : Q .normal a w) : wpFrom P l Q S 0 bs a w :=
  ⟨by simpa [List.isEmpty_iff] using hr, h⟩
theorem wp_region_tree {R : World → World → Prop} {l : List Oper} {id : Nat} {a : Act} {w : World} (n : Nat) (hm : P.follows .mixedOrders = true) (hn : (l.length == n) = true)
    (h : wpFrom P l Q (R w.drew) n (List.replicate n false) a w.drew) : (Code.region id l.toArray true).wp P Q a w := by
  obtain rfl : l.length = n := by simpa using hn
  refine wp_region_any hm (any_of_T (z := 99999) (S := R w.drew) _ _ _ _ ?_)
  simpa [wpFrom] using h
end
end Go.Proofs.YtbfjdhbgpjenbaaDoor
