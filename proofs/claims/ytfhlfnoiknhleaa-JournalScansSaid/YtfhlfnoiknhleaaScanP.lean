/-
  What journal.Scan computes, in plain Lean.
-/
import Derived.Test.YtfhlfnoiknhleaaWireP
namespace Go.Proofs.Ytfhlfnoiknhleaa
set_option linter.unusedVariables false

structure Scanned where
  rows : List (List UInt8)
  stop : Nat
  why : Nat
def scanS : Nat → List UInt8 → Nat → Scanned
  | 0, _, p => ⟨[], p, 0⟩
  | k + 1, t, p =>
    if t = [] then ⟨[], p, 0⟩
    else if (openF t p).why = 0 then ⟨(openF t p).b :: (scanS k (t.drop ((openF t p).b.length + 6)) (openF t p).stop).rows, (scanS k (t.drop ((openF t p).b.length + 6)) (openF t p).stop).stop, (scanS k (t.drop ((openF t p).b.length + 6)) (openF t p).stop).why⟩
    else if (openF t p).why = 10 then ⟨[], p, 0⟩ else ⟨[], p, 14⟩
theorem scanS_fuel : ∀ (k k' : Nat) (t : List UInt8) (p : Nat), t.length < k → t.length < k' → scanS k t p = scanS k' t p
  | 0, _, t, p, h, _ => absurd h (by omega)
  | _, 0, t, p, _, h => absurd h (by omega)
  | k + 1, k' + 1, t, p, h, h' => by
    unfold scanS
    by_cases ht : t = []
    · rw [if_pos ht, if_pos ht]
    · have hl : 0 < t.length := List.length_pos_iff.2 ht
      have : (t.drop ((openF t p).b.length + 6)).length < t.length := by rw [List.length_drop]; omega
      rw [scanS_fuel k k' (t.drop ((openF t p).b.length + 6)) (openF t p).stop (by omega) (by omega)]
/-- The records at the beginning of t, which stands at place p. -/
def scanL (t : List UInt8) (p : Nat) : Scanned := scanS (t.length + 1) t p
theorem scan_nil (p : Nat) : scanL [] p = ⟨[], p, 0⟩ := rfl
theorem scan_ok {t b : List UInt8} {p e : Nat} (ht : t ≠ []) (h : openF t p = ⟨b, e, 0⟩) : scanL t p = ⟨b :: (scanL (t.drop (b.length + 6)) e).rows, (scanL (t.drop (b.length + 6)) e).stop, (scanL (t.drop (b.length + 6)) e).why⟩ := by
  have hl : 0 < t.length := List.length_pos_iff.2 ht
  have hf := scanS_fuel t.length ((t.drop (b.length + 6)).length + 1) (t.drop (b.length + 6)) e (by rw [List.length_drop]; omega) (by omega)
  unfold scanL
  rw [← hf]
  conv => lhs; unfold scanS
  rw [if_neg ht, h, if_pos rfl]
theorem scan_end {t : List UInt8} {p : Nat} (ht : t ≠ []) (h : (openF t p).why = 10) : scanL t p = ⟨[], p, 0⟩ := by
  unfold scanL scanS
  rw [if_neg ht, if_neg (by omega), if_pos h]
theorem scan_bad {t : List UInt8} {p : Nat} (ht : t ≠ []) (h0 : (openF t p).why ≠ 0) (h : (openF t p).why ≠ 10) : scanL t p = ⟨[], p, 14⟩ := by
  unfold scanL scanS
  rw [if_neg ht, if_neg h0, if_neg h]
/-- Frames, one behind the other. -/
def framesC : List (List UInt8) → List UInt8
  | [] => []
  | b :: ls => frameL b ++ framesC ls
theorem framesC_append (a b : List (List UInt8)) : framesC (a ++ b) = framesC a ++ framesC b := by
  induction a with
  | nil => rfl
  | cons x a ih => simp [framesC, ih]
/-- Frames are scanned one behind the other. -/
theorem scan_frames : ∀ (ls : List (List UInt8)) (t : List UInt8) (p : Nat), (∀ b ∈ ls, b.length ≤ 255) →
    scanL (framesC ls ++ t) p = ⟨ls ++ (scanL t (p + (framesC ls).length)).rows, (scanL t (p + (framesC ls).length)).stop, (scanL t (p + (framesC ls).length)).why⟩
  | [], t, p, _ => by simp [framesC]
  | b :: ls, t, p, h => by
    have hb := h b (by simp)
    have hf : openF (frameL b ++ (framesC ls ++ t)) p = ⟨b, p + b.length + 6, 0⟩ := openF_frame b hb _ p
    have hne : frameL b ++ (framesC ls ++ t) ≠ [] := by simp [frameL]
    have hd : (frameL b ++ (framesC ls ++ t)).drop (b.length + 6) = framesC ls ++ t := by
      rw [← length_frameL b, List.drop_left]
    have ih := scan_frames ls t (p + b.length + 6) (fun x hx => h x (by simp [hx]))
    have e : (framesC (b :: ls)).length = b.length + 6 + (framesC ls).length := by simp [framesC, length_frameL]
    show scanL (frameL b ++ framesC ls ++ t) p = _
    rw [List.append_assoc, scan_ok hne hf, hd, ih, e]
    have e2 : p + b.length + 6 + (framesC ls).length = p + (b.length + 6 + (framesC ls).length) := by omega
    rw [e2]
    rfl
theorem scan_all (ls : List (List UInt8)) (h : ∀ b ∈ ls, b.length ≤ 255) : scanL (framesC ls) 0 = ⟨ls, (framesC ls).length, 0⟩ := by
  have := scan_frames ls [] 0 h
  simpa [scan_nil] using this
/-- What is opened lies there. -/
theorem open_bd {t b : List UInt8} {p e : Nat} (h : openF t p = ⟨b, e, 0⟩) : e = p + b.length + 6 ∧ b.length + 6 ≤ t.length ∧ b.length ≤ 255 := by
  obtain ⟨rest, h1, h2, h3⟩ := openF_ok h rfl
  refine ⟨h3, ?_, h2⟩
  rw [h1]
  simp [length_frameL]
end Go.Proofs.Ytfhlfnoiknhleaa
