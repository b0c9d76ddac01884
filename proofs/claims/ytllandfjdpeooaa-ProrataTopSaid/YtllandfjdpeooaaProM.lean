/-
  More plain laws of shares by size: even ones, exact ones, a top that has nothing.
-/
import Derived.Test.YtllandfjdpeooaaRules11
namespace Go.Proofs.Ytllandfjdpeooaa
open Go.RowKit
set_option linter.unusedVariables false

/-- 'append(v, u)', and where the row lies then. -/
theorem wpList_push2 {P : Program} {t e : TypeId} {z : Value} {bytes : Nat} (H : Elem P t e z bytes) {ops : Array Oper} {rest : List Oper} {o : Oper} {a : Act} {Q : Exit → Act → World → Prop} {w : World}
    {base : Nat} {v : Value} {n : Nat} {xs : List Value} (hown : w.ownsRow base e 1 v n xs) (u : Value)
    (hgd : o.guard = none) (s x : Operand) (ho : o.op = .call { callee := .builtin .append, args := #[s, x], argTypes := #[t, t] })
    (hs : a.eval s = v) (hx : a.eval x = .slice (some ⟨w.heap.size, 0, none⟩) 1 1) (hu : u.oneCell' = true) (hn : n ≤ 1000000000000) (hb : base ≤ w.heap.size)
    (h : ∀ A' c' w', w'.ownsRow base e 1 (.slice A' (n + 1) c') (n + 1) (xs ++ [u]) → w.grownBy w' v.ownBlock → (∀ B W, B ≤ base → Below B W w → Below B W w') → ((Value.slice A' (n + 1) c').ownBlock = v.ownBlock ∨ (Value.slice A' (n + 1) c').ownBlock = some (w.heap.size + 1)) →
      wpList P ops Q rest (a.put o.dst (.slice A' (n + 1) c')) w') :
    wpList P ops Q (o :: rest) a (w.alloc (.cells #[u] e)) := by
  refine wpList_app H (hown.alloc _) hgd s x ho hs hx rfl (Cells.lit w #[u] e) (by intro y hy; simp at hy; subst hy; exact hu) (by omega) (by simp; omega) _ _ rfl rfl ?_
  intro A' c' w' h1
  exact h A' c' w' h1.own (grown_alloc h1.grown fun g hg => (hown.lt g hg).2) (fun B W hB hbel => h1.below B W hB (hbel.alloc (Nat.le_trans hB hb) _)) (by rcases h1.lies with h2 | h2; exact .inl h2; exact .inr (by rw [h2]; simp))
/-- Two rows lie in different blocks. -/
def Apart (v v' : Value) : Prop := ∀ g, v.ownBlock = some g → v'.ownBlock ≠ some g
theorem Apart.symm {v v' : Value} (h : Apart v v') : Apart v' v := fun g h1 h2 => h g h2 h1
theorem Apart.grown {v v' : Value} (h : Apart v v') : ∀ g, v.ownBlock = some g → some g ≠ v'.ownBlock := fun g h1 h2 => h g h1 h2.symm
/-- A row that was appended to is apart from another still. -/
theorem Apart.push {w : World} {base : Nat} {e : TypeId} {size : Nat} {v u v' : Value} {n : Nat} {xs : List Value} (h : Apart v u) (hu : w.ownsRow base e size u n xs) {k : Nat} (hk : w.heap.size ≤ k) (hl : v'.ownBlock = v.ownBlock ∨ v'.ownBlock = some k) : Apart v' u := by
  intro g hg hg2
  rcases hl with hl | hl
  · exact h g (hl.symm.trans hg) hg2
  · rw [hl] at hg
    cases hg
    have := (hu.lt _ hg2).2
    omega
theorem addL_zero (a : List Int) (n : Nat) (h : a.length = n) : addL a (List.replicate n 0) = a := by
  subst h
  induction a with
  | nil => rfl
  | cons x a ih => simp [addL, List.replicate_succ] at ih ⊢; exact ih
theorem zero_addL (a : List Int) (n : Nat) (h : a.length = n) : addL (List.replicate n 0) a = a := by
  subst h
  induction a with
  | nil => rfl
  | cons x a ih => simp [addL, List.replicate_succ] at ih ⊢; exact ih
theorem subL_zero (a : List Int) (n : Nat) (h : a.length = n) : subL a (List.replicate n 0) = a := by
  subst h
  induction a with
  | nil => rfl
  | cons x a ih => simp [subL, List.replicate_succ] at ih ⊢; exact ih
/-- Where the shares by size are all of it, they are the shares. -/
theorem by_exact {l : List Int} {least q : Int} (hb : ∀ n ∈ l, 0 ≤ n) (hq : 0 ≤ q) (hqa : q ≤ l.sum) (h1 : 1 ≤ least) (hs : (firstL l.sum q least l).sum = q) : byL l least q = firstL l.sum q least l := by
  unfold byL
  rw [hs, Int.sub_self, shareL_zero (sub_first_nn hb hq hqa h1), addL_zero _ _ (by rw [length_subL (by rw [length_firstL]), length_firstL])]
/-- A top that has nothing is none. -/
theorem share_none {l : List Int} {top most least q : Int} (hr : rightB l q = true) (h1 : 1 ≤ least) (hm : 0 ≤ most) (hk : topK l top most q = 0) : shareP l top most least q = byL l least q := by
  have hf : firstTop l top most q = List.replicate l.length 0 := by
    unfold firstTop
    split
    · rw [hk]
      apply List.ext_getElem?
      intro i
      rw [List.getElem?_set]
      split
      · rename_i h
        split
        · rename_i h2; subst h; simp at h2; simp [h2]
        · rename_i h2; subst h; simp at h2 ⊢; omega
      · rfl
    · rfl
  rw [shareP, if_pos ⟨hr, h1, hm⟩, hf, hk, Int.sub_zero, subL_zero _ _ rfl, zero_addL _ _ (length_byL _ _ _)]
theorem topK_zero {l : List Int} {top q : Int} (hb : ∀ n ∈ l, 1 ≤ n ∧ n ≤ 1000000) (hq : 0 ≤ q) : topK l top 0 q = 0 := by
  unfold topK
  split
  · rename_i h
    have hlt : top.toNat < l.length := by omega
    have hg : l.getD top.toNat 0 = l[top.toNat] := by simp [List.getD, List.getElem?_eq_getElem hlt]
    have := hb _ (List.getElem_mem hlt)
    rw [hg]; omega
  · rfl
theorem topK_out {l : List Int} {most q : Int} : topK l (-1) most q = 0 := by
  unfold topK; rw [if_neg (by omega)]

/-! ### Sizes that are so many times some numbers -/
theorem sum_scale (k : Int) : ∀ (l : List Int), (l.map (k * ·)).sum = k * l.sum
  | [] => by simp
  | n :: l => by simp only [List.map_cons, List.sum_cons, sum_scale k l, Int.mul_add]
theorem scale_first {k : Int} (hk : 1 ≤ k) {l : List Int} (hb : ∀ n ∈ l, 1 ≤ n) : firstL (l.map (k * ·)).sum l.sum 1 (l.map (k * ·)) = l := by
  rw [sum_scale, firstL, List.map_map]
  have e : ∀ n ∈ l, (byV (k * l.sum) l.sum 1 ∘ fun x => k * x) n = n := by
    intro n hn
    have h1 := hb n hn
    have hs : 1 ≤ l.sum := by
      obtain ⟨a, b, rfl⟩ := List.append_of_mem hn
      have h2 := isum_nn a (fun m hm => by have := hb m (by simp [hm]); omega)
      have h3 := isum_nn b (fun m hm => by have := hb m (by simp [hm]); omega)
      rw [List.sum_append, List.sum_cons]; omega
    have e : k * n * l.sum / (k * l.sum) = n := by
      rw [show k * n * l.sum = n * (k * l.sum) by rw [Int.mul_comm k n, Int.mul_assoc]]
      exact Int.mul_ediv_cancel _ (by have := Int.mul_pos (show 0 < k by omega) (show 0 < l.sum by omega); omega)
    simp only [Function.comp, byV, e]
    rw [if_pos h1]
  rw [List.map_congr_left e]
  simp
theorem scale_ok {k : Int} (hk : 1 ≤ k) (hk2 : k ≤ 9) {l : List Int} (hl : l.length ≤ 30) (hb : ∀ n ∈ l, 1 ≤ n ∧ n ≤ 100) : rightB (l.map (k * ·)) l.sum = true ∧ byL (l.map (k * ·)) 1 l.sum = l := by
  have hb' : ∀ m ∈ l.map (k * ·), 1 ≤ m ∧ m ≤ 1000000 := by
    intro m hm
    obtain ⟨n, hn, rfl⟩ := List.mem_map.1 hm
    have := hb n hn
    have h1 : 1 * 1 ≤ k * n := Int.mul_le_mul hk this.1 (by omega) (by omega)
    have h2 : k * n ≤ 9 * 100 := Int.mul_le_mul hk2 this.2 (by omega) (by omega)
    omega
  have h0 := isum_nn l (fun n hn => by have := hb n hn; omega)
  have hs : l.sum ≤ (l.map (k * ·)).sum := by
    rw [sum_scale]
    have := Int.mul_le_mul_of_nonneg_right hk h0
    omega
  refine ⟨(rightB_iff _ _).2 ⟨by simp; omega, h0, hb', hs⟩, ?_⟩
  have hf := scale_first hk (fun n hn => (hb n hn).1)
  rw [by_exact (fun m hm => by have := hb' m hm; omega) h0 hs (by omega) (by rw [hf]), hf]

/-! ### Equal orders -/
theorem sum_rep (n : Nat) (z : Int) : (List.replicate n z).sum = z * n := by
  induction n with
  | zero => simp
  | succ n ih =>
    rw [List.replicate_succ, List.sum_cons, ih]
    have : z * ((n + 1 : Nat) : Int) = z * n + z := by rw [Int.natCast_add, Int.mul_add]; simp
    omega
theorem equal_first {z k : Int} {n : Nat} (hz : 1 ≤ z) (hn : 1 ≤ n) (hk : 0 ≤ k) : firstL (z * n) k 1 (List.replicate n z) = List.replicate n (k / n) := by
  have e : z * k / (z * n) = k / n := Int.mul_ediv_mul_of_pos _ _ (by omega)
  have h0 : 0 ≤ k / (n : Int) := Int.ediv_nonneg hk (by omega)
  rw [firstL, List.map_replicate, byV, e]
  split
  · rfl
  · rw [show k / (n : Int) = 0 by omega]
theorem subL_rep (n : Nat) (a b : Int) : subL (List.replicate n a) (List.replicate n b) = List.replicate n (a - b) := by
  simp [subL]
theorem equal_by {z k : Int} {n : Nat} (hz : 1 ≤ z) (hn : 1 ≤ n) (hk : 0 ≤ k) : byL (List.replicate n z) 1 k = addL (List.replicate n (k / n)) (shareL (List.replicate n (z - k / n)) (k - k / n * n)) := by
  unfold byL
  rw [sum_rep, equal_first hz hn hk, subL_rep, sum_rep]
theorem equal_all {z : Int} {n : Nat} (hz : 1 ≤ z) (hn : 1 ≤ n) : byL (List.replicate n z) 1 (z * n) = List.replicate n z := by
  have h0 : 0 ≤ z * (n : Int) := Int.mul_nonneg (by omega) (by omega)
  have e : z * (n : Int) / n = z := Int.mul_ediv_cancel _ (by omega)
  rw [equal_by hz hn h0, e, Int.sub_self, Int.sub_self]
  rw [show shareL (List.replicate n 0) 0 = List.replicate n 0 by
    have := shareL_zero (l := List.replicate n (0 : Int)) (fun m hm => by rw [(List.mem_replicate.1 hm).2]; exact Int.le_refl _)
    simpa using this]
  exact addL_zero _ _ (by simp)
end Go.Proofs.Ytllandfjdpeooaa
