/-
  Plain laws of shares by arrival. No program in sight.
-/
import Derived.Test.YtglcdamdjjbjhaaBase
namespace Go.Proofs.Ytglcdamdjjbjhaa
open Go.RowKit
set_option linter.unusedVariables false

/-! ### Plain -/
def qOk (n : Int) : Bool := decide (1 ≤ n ∧ n ≤ 1000000)
def rightB (l : List Int) (q : Int) : Bool := decide (l.length ≤ 250) && decide (0 ≤ q) && l.all qOk && decide (q ≤ l.sum)
def shareL : List Int → Int → List Int
  | [], _ => []
  | n :: l, q => min n q :: shareL l (q - min n q)
def leftL : List Int → Int → Int
  | [], q => q
  | n :: l, q => leftL l (q - min n q)
theorem qOk_iff (n : Int) : qOk n = true ↔ 1 ≤ n ∧ n ≤ 1000000 := by simp [qOk]
theorem sum_bd (l : List Int) (h : l.all qOk = true) : 0 ≤ l.sum ∧ l.sum ≤ 1000000 * l.length :=
  isum_bd l fun n hn => by
    have := (qOk_iff n).1 (List.all_eq_true.1 h n hn)
    omega
theorem rightB_bad {l : List Int} {q : Int} {k : Nat} {x : Int} (h : l[k]? = some x) (hb : ¬ (1 ≤ x ∧ x ≤ 1000000)) : rightB l q = false := by
  have : l.all qOk = false := by
    rw [List.all_eq_false]
    exact ⟨x, mem_of_some h, fun h => hb ((qOk_iff x).1 h)⟩
  simp [rightB, this]
theorem length_shareL (l : List Int) (q : Int) : (shareL l q).length = l.length := by
  induction l generalizing q with
  | nil => rfl
  | cons a l ih => simp [shareL, ih]
theorem shareL_snoc (l : List Int) (x q : Int) : shareL (l ++ [x]) q = shareL l q ++ [min x (leftL l q)] ∧ leftL (l ++ [x]) q = leftL l q - min x (leftL l q) := by
  induction l generalizing q with
  | nil => simp [shareL, leftL]
  | cons a l ih => simp [shareL, leftL, ih]
theorem shareL_take {l : List Int} {k : Nat} {x : Int} (h : l[k]? = some x) (q : Int) :
    shareL (l.take (k + 1)) q = shareL (l.take k) q ++ [min x (leftL (l.take k) q)] ∧ leftL (l.take (k + 1)) q = leftL (l.take k) q - min x (leftL (l.take k) q) := by
  rw [take_succ_of h]; exact shareL_snoc _ _ _
theorem leftL_bd (l : List Int) (q : Int) (hl : ∀ n ∈ l, 0 ≤ n) (hq : 0 ≤ q) : 0 ≤ leftL l q ∧ leftL l q ≤ q := by
  induction l generalizing q with
  | nil => simp [leftL]; omega
  | cons a l ih =>
    have h1 := hl a List.mem_cons_self
    have := ih (q - min a q) (fun n hn => hl n (List.mem_cons_of_mem _ hn)) (by omega)
    simp only [leftL]
    omega
theorem same_step {α : Type} {l m : List α} {k : Nat} {x : α} (h : l[k]? = some x) (h' : m[k]? = some x) (ht : l.take k = m.take k) : l.take (k + 1) = m.take (k + 1) := by
  rw [take_succ_of h, take_succ_of h', ht]

theorem tmod_emod (n m : Int) (hm : 0 < m) : (n.tmod m < 0 → n.tmod m + m = n % m) ∧ (0 ≤ n.tmod m → n.tmod m = n % m) := by
  have h1 := Int.emod_nonneg n (show m ≠ 0 by omega)
  have h2 := Int.emod_lt_of_pos n hm
  have h3 := Int.tmod_eq_emod (a := n) (b := m)
  split at h3 <;> constructor <;> intro h <;> omega

def within (n lo hi : Int) : Int := lo + n % (hi - lo + 1)
theorem within_bd (n lo hi : Int) (h : lo ≤ hi) : lo ≤ within n lo hi ∧ within n lo hi ≤ hi := by
  have h1 := Int.emod_nonneg n (show hi - lo + 1 ≠ 0 by omega)
  have h2 := Int.emod_lt_of_pos n (show 0 < hi - lo + 1 by omega)
  unfold within; omega
def shareB (l : List Int) (q : Int) : List Int := if rightB l q then shareL l q else []

theorem shareB_length (l : List Int) (q : Int) : (shareB l q).length ≤ 250 := by
  unfold shareB
  split
  · rename_i h
    rw [length_shareL]
    simp only [rightB, Bool.and_eq_true, decide_eq_true_eq] at h
    omega
  · simp

def sizeOf1 (n : Int) : Int := 1 + within n 0 999999
def sizesL (l : List Int) : List Int := (l.take 40).map sizeOf1
theorem sizeOf1_bd (n : Int) : 1 ≤ sizeOf1 n ∧ sizeOf1 n ≤ 1000000 := by
  have := within_bd n 0 999999 (by omega); unfold sizeOf1; omega
theorem sizesL_length (l : List Int) : (sizesL l).length ≤ 40 := by simp [sizesL]; omega
theorem sizesL_bd (l : List Int) : ∀ n ∈ sizesL l, 1 ≤ n ∧ n ≤ 1000000 := by
  intro n hn
  simp only [sizesL, List.mem_map] at hn
  obtain ⟨m, _, rfl⟩ := hn
  exact sizeOf1_bd m
theorem sizesL_ok (l : List Int) : (sizesL l).all qOk = true := List.all_eq_true.2 fun n hn => (qOk_iff n).2 (sizesL_bd l n hn)


/-! ### Laws of shares by arrival -/
theorem shareL_bd {l : List Int} {q : Int} (hl : ∀ n ∈ l, 0 ≤ n) (hq : 0 ≤ q) : ∀ {i : Nat} {x n : Int}, (shareL l q)[i]? = some x → l[i]? = some n → 0 ≤ x ∧ x ≤ n := by
  induction l generalizing q with
  | nil => intro i x n h; simp [shareL] at h
  | cons a l ih =>
    have h1 := hl a List.mem_cons_self
    have h2 : ∀ n ∈ l, 0 ≤ n := fun n hn => hl n (List.mem_cons_of_mem _ hn)
    intro i x n hx hn
    cases i with
    | zero => simp [shareL] at hx hn; omega
    | succ i => exact ih (q := q - min a q) h2 (by omega) (by simpa [shareL] using hx) (by simpa using hn)
theorem shareL_zero {l : List Int} (hl : ∀ n ∈ l, 0 ≤ n) : shareL l 0 = List.replicate l.length 0 := by
  induction l with
  | nil => rfl
  | cons a l ih =>
    have h1 := hl a List.mem_cons_self
    have : min a 0 = 0 := by omega
    simp only [shareL, this, Int.sub_zero, ih fun n hn => hl n (List.mem_cons_of_mem _ hn), List.length_cons, List.replicate_succ]
theorem shareL_stop {l : List Int} {q : Int} (hl : ∀ n ∈ l, 0 ≤ n) (hq : 0 ≤ q) : ∀ {i : Nat} {x n y : Int}, (shareL l q)[i]? = some x → l[i]? = some n → x < n → (shareL l q)[i + 1]? = some y → y = 0 := by
  induction l generalizing q with
  | nil => intro i x n y h; simp [shareL] at h
  | cons a l ih =>
    have h1 := hl a List.mem_cons_self
    have h2 : ∀ n ∈ l, 0 ≤ n := fun n hn => hl n (List.mem_cons_of_mem _ hn)
    intro i x n y hx hn hlt hy
    cases i with
    | zero =>
      simp [shareL] at hx hn hy
      have h0 : q - min a q = 0 := by omega
      rw [h0, shareL_zero h2] at hy
      exact (List.eq_of_mem_replicate (mem_of_some hy))
    | succ i => exact ih (q := q - min a q) h2 (by omega) (by simpa [shareL] using hx) (by simpa using hn) hlt (by simpa [shareL] using hy)
theorem shareL_sum {l : List Int} {q : Int} (hl : ∀ n ∈ l, 0 ≤ n) (hq : 0 ≤ q) (hs : q ≤ l.sum) : (shareL l q).sum = q := by
  induction l generalizing q with
  | nil => simp at hs; simp [shareL]; omega
  | cons a l ih =>
    have h1 := hl a List.mem_cons_self
    have h2 : ∀ n ∈ l, 0 ≤ n := fun n hn => hl n (List.mem_cons_of_mem _ hn)
    simp only [List.sum_cons] at hs
    have := ih h2 (q := q - min a q) (by omega) (by have := isum_nn l h2; omega)
    simp only [shareL, List.sum_cons, this]; omega
theorem leftL_none {l : List Int} {q : Int} (hl : ∀ n ∈ l, 0 ≤ n) (hq : 0 ≤ q) (hs : q ≤ l.sum) : leftL l q = 0 := by
  induction l generalizing q with
  | nil => simp at hs; simp [leftL]; omega
  | cons a l ih =>
    have h1 := hl a List.mem_cons_self
    have h2 : ∀ n ∈ l, 0 ≤ n := fun n hn => hl n (List.mem_cons_of_mem _ hn)
    simp only [List.sum_cons] at hs
    exact ih h2 (q := q - min a q) (by omega) (by have := isum_nn l h2; omega)
theorem shareL_mono {l : List Int} {q q' : Int} (h : q ≤ q') : ∀ {i : Nat} {x y : Int}, (shareL l q)[i]? = some x → (shareL l q')[i]? = some y → x ≤ y := by
  induction l generalizing q q' with
  | nil => intro i x y h; simp [shareL] at h
  | cons a l ih =>
    intro i x y hx hy
    cases i with
    | zero => simp [shareL] at hx hy; omega
    | succ i => exact ih (q := q - min a q) (q' := q' - min a q') (by omega) (by simpa [shareL] using hx) (by simpa [shareL] using hy)
theorem rightB_iff (l : List Int) (q : Int) : rightB l q = true ↔ l.length ≤ 250 ∧ 0 ≤ q ∧ (∀ n ∈ l, 1 ≤ n ∧ n ≤ 1000000) ∧ q ≤ l.sum := by
  simp only [rightB, Bool.and_eq_true, decide_eq_true_eq, List.all_eq_true, qOk_iff]
  constructor
  · rintro ⟨⟨⟨a, b⟩, c⟩, d⟩; exact ⟨a, b, c, d⟩
  · rintro ⟨a, b, c, d⟩; exact ⟨⟨⟨a, b⟩, c⟩, d⟩

/-! ### Shares in two goes -/
/-- What orders lack behind some shares; and where these stand. -/
def lacks : List Int → List Int → List Int
  | n :: s, x :: a => if x < n then (n - x) :: lacks s a else lacks s a
  | _, _ => []
def lackAt : Nat → List Int → List Int → List Nat
  | i, n :: s, x :: a => if x < n then i :: lackAt (i + 1) s a else lackAt (i + 1) s a
  | _, _, _ => []
/-- More is laid on the shares of those that lack something. -/
def layOn : List Int → List Nat → List Int → List Int
  | a, p :: ps, b :: bs => layOn (a.set p (a.getD p 0 + b)) ps bs
  | a, _, _ => a
theorem lacks_length : ∀ (i : Nat) (s a : List Int), (lackAt i s a).length = (lacks s a).length
  | i, n :: s, x :: a => by
    simp only [lackAt, lacks]
    split
    · simp [lacks_length (i + 1) s a]
    · exact lacks_length (i + 1) s a
  | _, [], _ => rfl
  | _, _ :: _, [] => rfl
theorem lacks_le : ∀ (s a : List Int), (lacks s a).length ≤ s.length
  | n :: s, x :: a => by
    have := lacks_le s a
    simp only [lacks]
    split <;> simp <;> omega
  | [], _ => by simp [lacks]
  | _ :: _, [] => by simp [lacks]
theorem lacks_pos : ∀ (s a : List Int), (∀ n ∈ s, n ≤ 1000000) → (∀ x ∈ a, 0 ≤ x) → ∀ n ∈ lacks s a, 1 ≤ n ∧ n ≤ 1000000
  | n :: s, x :: a, h, h' => by
    have ih := lacks_pos s a (fun n hn => h n (List.mem_cons_of_mem _ hn)) (fun n hn => h' n (List.mem_cons_of_mem _ hn))
    have h1 := h n List.mem_cons_self
    have h2 := h' x List.mem_cons_self
    intro y hy
    simp only [lacks] at hy
    split at hy
    · rcases List.mem_cons.1 hy with rfl | hy
      · omega
      · exact ih y hy
    · exact ih y hy
  | [], _, _, _ => fun y hy => by simp [lacks] at hy
  | _ :: _, [], _, _ => fun y hy => by simp [lacks] at hy
theorem lacks_sum : ∀ (s a : List Int), s.length = a.length → (∀ (i : Nat) (n x : Int), s[i]? = some n → a[i]? = some x → x ≤ n) → (lacks s a).sum = s.sum - a.sum
  | n :: s, x :: a, hl, h => by
    have ih := lacks_sum s a (by simpa using hl) (fun i n x hn hx => h (i + 1) n x (by simpa using hn) (by simpa using hx))
    have h1 := h 0 n x rfl rfl
    simp only [lacks, List.sum_cons]
    split
    · simp only [List.sum_cons, ih]; omega
    · rw [ih]; omega
  | [], [], _, _ => by simp [lacks]
  | [], _ :: _, hl, _ => by simp at hl
  | _ :: _, [], hl, _ => by simp at hl
theorem lackAt_lt : ∀ (i : Nat) (s a : List Int) (p : Nat), p ∈ lackAt i s a → i ≤ p ∧ p < i + a.length
  | i, n :: s, x :: a, p, h => by
    simp only [lackAt] at h
    have ih := lackAt_lt (i + 1) s a p
    split at h
    · rcases List.mem_cons.1 h with rfl | h
      · simp
      · have := ih h; simp; omega
    · have := ih h; simp; omega
  | _, [], _, _, h => by simp [lackAt] at h
  | _, _ :: _, [], _, h => by simp [lackAt] at h
theorem layOn_length : ∀ (a : List Int) (ps : List Nat) (bs : List Int), (layOn a ps bs).length = a.length
  | a, p :: ps, b :: bs => by simp only [layOn]; rw [layOn_length]; simp
  | a, [], _ => by simp [layOn]
  | a, _ :: _, [] => by simp [layOn]
theorem lackAt_snoc (s a : List Int) (n x : Int) (h : s.length = a.length) : ∀ i, lackAt i (s ++ [n]) (a ++ [x]) = lackAt i s a ++ (if x < n then [i + s.length] else []) ∧ lacks (s ++ [n]) (a ++ [x]) = lacks s a ++ (if x < n then [n - x] else []) := by
  induction s generalizing a with
  | nil =>
    obtain rfl : a = [] := List.eq_nil_of_length_eq_zero (by simpa using h.symm)
    intro i; simp [lackAt, lacks]
  | cons m s ih =>
    match a, h with
    | y :: a, h =>
      intro i
      have h2 := ih a (by simpa using h) (i + 1)
      simp only [List.cons_append, lackAt, lacks, h2.1, h2.2, List.length_cons]
      rw [show i + 1 + s.length = i + (s.length + 1) by omega]
      split <;> simp
theorem lack_take {s a : List Int} {k : Nat} {n x : Int} (hl : s.length = a.length) (hn : s[k]? = some n) (hx : a[k]? = some x) :
    lackAt 0 (s.take (k + 1)) (a.take (k + 1)) = lackAt 0 (s.take k) (a.take k) ++ (if x < n then [k] else []) ∧ lacks (s.take (k + 1)) (a.take (k + 1)) = lacks (s.take k) (a.take k) ++ (if x < n then [n - x] else []) := by
  have h1 := lt_of_some hn
  rw [take_succ_of hn, take_succ_of hx]
  have := lackAt_snoc (s.take k) (a.take k) n x (by simp; omega) 0
  simpa [Nat.min_eq_left (Nat.le_of_lt h1)] using this
theorem layOn_snoc : ∀ (a : List Int) (ps : List Nat) (bs : List Int) (p : Nat) (b : Int), ps.length = bs.length → layOn a (ps ++ [p]) (bs ++ [b]) = (layOn a ps bs).set p ((layOn a ps bs).getD p 0 + b)
  | a, q :: ps, c :: bs, p, b, h => by simp only [List.cons_append, layOn]; exact layOn_snoc _ ps bs p b (by simpa using h)
  | a, [], [], p, b, _ => by simp [layOn]
  | _, [], _ :: _, _, _, h => by simp at h
  | _, _ :: _, [], _, _, h => by simp at h
theorem layOn_take {a : List Int} {ps : List Nat} {bs : List Int} {k p : Nat} {b : Int} (hl : ps.length = bs.length) (hp : ps[k]? = some p) (hb : bs[k]? = some b) :
    layOn a (ps.take (k + 1)) (bs.take (k + 1)) = (layOn a (ps.take k) (bs.take k)).set p ((layOn a (ps.take k) (bs.take k)).getD p 0 + b) := by
  rw [take_succ_of hp, take_succ_of hb]
  exact layOn_snoc _ _ _ _ _ (by simp; omega)
theorem layOn_pre : ∀ (pre s a bs : List Int), layOn (pre ++ a) (lackAt pre.length s a) bs = pre ++ layOn a (lackAt 0 s a) bs := by
  intro pre s
  induction s generalizing pre with
  | nil => intro a bs; simp [lackAt, layOn]
  | cons n s ih =>
    intro a bs
    match a with
    | [] => simp [lackAt, layOn]
    | x :: a =>
      simp only [lackAt]
      have e1 : ∀ (y : Int) (cs : List Int), layOn (pre ++ y :: a) (lackAt (pre.length + 1) s a) cs = pre ++ y :: layOn a (lackAt 0 s a) cs := fun y cs => by
        have := ih (pre ++ [y]) a cs
        simpa using this
      have e2 : ∀ (y : Int) (cs : List Int), layOn (y :: a) (lackAt 1 s a) cs = y :: layOn a (lackAt 0 s a) cs := fun y cs => by
        have := ih [y] a cs
        simpa using this
      split
      · match bs with
        | [] => simp [layOn]
        | b :: bs =>
          simp only [layOn]
          rw [show (pre ++ x :: a).set pre.length ((pre ++ x :: a).getD pre.length 0 + b) = pre ++ (x + b) :: a by simp [List.getD]]
          rw [e1, show (x :: a).set 0 ((x :: a).getD 0 0 + b) = (x + b) :: a by simp, e2]
      · rw [e1, e2]
/-- Shared in two goes it is shared as in one. -/
theorem two_goes : ∀ (s : List Int) (m k : Int), (∀ n ∈ s, 0 ≤ n) → 0 ≤ m → m ≤ k →
    layOn (shareL s m) (lackAt 0 s (shareL s m)) (shareL (lacks s (shareL s m)) (k - m)) = shareL s k := by
  intro s
  induction s with
  | nil => intro m k _ _ _; simp [shareL, lackAt, layOn]
  | cons n s ih =>
    intro m k hs hm hk
    have h1 := hs n List.mem_cons_self
    have h2 : ∀ n ∈ s, 0 ≤ n := fun n hn => hs n (List.mem_cons_of_mem _ hn)
    have pre := fun (x : Int) (a bs : List Int) => layOn_pre [x] s a bs
    simp only [List.length_singleton, List.singleton_append] at pre
    simp only [shareL, lackAt, lacks]
    by_cases hlt : min n m < n
    · rw [if_pos hlt, if_pos hlt]
      simp only [shareL, layOn]
      have e0 : m - min n m = 0 := by omega
      rw [e0]
      have e1 : ((min n m :: shareL s 0).set 0 ((min n m :: shareL s 0).getD 0 0 + min (n - min n m) (k - m))) = min n k :: shareL s 0 := by
        simp only [List.set_cons_zero, List.getD_cons_zero]
        congr 1; omega
      rw [e1, pre]
      have := ih 0 (k - min n k) h2 (Int.le_refl _) (by omega)
      rw [show k - min n k - 0 = k - m - min (n - min n m) (k - m) by omega] at this
      rw [this]
    · rw [if_neg hlt, if_neg hlt, pre]
      have := ih (m - min n m) (k - min n k) h2 (by omega) (by omega)
      rw [show k - min n k - (m - min n m) = k - m by omega] at this
      rw [this]
      congr 1; omega
end Go.Proofs.Ytglcdamdjjbjhaa
