/-
  A journal that is cut off: plain words; and what stays through an Append.
-/
import Derived.Test.YtfhlfnoiknhleaaTurned23
namespace Go.Proofs.Ytfhlfnoiknhleaa
open Go.RowKit
set_option linter.unusedVariables false

theorem cutR_over {rs : List (List UInt8)} {k m : Nat} (h : rs.length ≤ k) (hm : k ≤ m) : cutR rs m = cutR rs k := by
  unfold cutR; rw [List.take_of_length_le (by omega), List.take_of_length_le h]
theorem frames_split {rs : List (List UInt8)} {k : Nat} {l : List UInt8} (hl : rs[k]? = some l) : ∀ m, k < m → ∃ rest, framesC (cutR rs m) = framesC (cutR rs k) ++ (frameL (l.take 60) ++ rest)
  | 0, h => absurd h (by omega)
  | m + 1, h => by
    by_cases e : k = m
    · subst e
      exact ⟨[], by rw [framesC_succ hl]; simp⟩
    · obtain ⟨rest, hr⟩ := frames_split hl m (by omega)
      by_cases hm : m < rs.length
      · rw [framesC_succ (List.getElem?_eq_getElem hm), hr]
        exact ⟨rest ++ frameL (rs[m].take 60), by simp⟩
      · rw [cutR_over (show rs.length ≤ m by omega) (show m ≤ m + 1 by omega)]
        exact ⟨rest, hr⟩
theorem cut_scan {rs : List (List UInt8)} {k K : Nat} (hk : k ≤ 20) (hE : (framesC (cutR rs k)).length ≤ K) (hK : K ≤ (framesC (cutR rs 20)).length)
    (hs : cutR rs k = cutR rs 20 ∨ ∃ l, rs[k]? = some l ∧ k < 20 ∧ K < (framesC (cutR rs (k + 1))).length) :
    scanL ((framesC (cutR rs 20)).take K) 0 = ⟨cutR rs k, (framesC (cutR rs k)).length, 0⟩ ∧ ((framesC (cutR rs 20)).take K).take (framesC (cutR rs k)).length = framesC (cutR rs k) := by
  rcases hs with hs | ⟨l, hl, h20, hlt⟩
  · rw [hs] at hE ⊢
    rw [List.take_of_length_le hE, scan_all _ (cutR_le rs 20), List.take_length]
    exact ⟨rfl, rfl⟩
  · obtain ⟨rest, hr⟩ := frames_split hl 20 h20
    rw [framesC_succ hl, List.length_append, length_frameL] at hlt
    have e : (framesC (cutR rs 20)).take K = framesC (cutR rs k) ++ (frameL (l.take 60)).take (K - (framesC (cutR rs k)).length) := by
      rw [hr, List.take_append, List.take_of_length_le hE, List.take_append, length_frameL, show K - (framesC (cutR rs k)).length - ((l.take 60).length + 6) = 0 by omega]
      simp
    rw [e]
    refine ⟨scan_cut _ _ _ (cutR_le rs k) (by rw [List.length_take]; omega) (by omega), ?_⟩
    exact List.take_left
theorem own_apart2 {w w' : World} {base d j k s n : Nat} {r : Option Nat} {l : List UInt8} {v : Value} {xs : List Value} (h : w.ownsRow base 30 1 v n xs) (J : JourAt w j d k) (D : DiskAt w d r l s) (hd : d < base) (L : Leaves2 d j r w w') : w'.ownsRow base 30 1 v n xs := by
  refine ⟨h.1, ?_⟩
  rcases h.2 with h0 | ⟨g, cap, cur, hv, hg, hh, rest⟩
  · exact .inl h0
  · refine .inr ⟨g, cap, cur, hv, hg, ?_, rest⟩
    have h1 : g ≠ j := by
      rintro rfl
      unfold JourAt at J
      rw [J] at hh
      injection hh with hh
      injection hh with _ ht
      exact absurd ht (by decide)
    have h2 : some g ≠ r := by
      intro e
      obtain ⟨A, c, hb, ho, hr, _⟩ := D.blk
      rcases ho.2 with ⟨h0, _⟩ | ⟨g2, cap2, cur2, hv2, hg2, hh2, _⟩
      · rw [h0] at hr
        rw [← hr] at e
        cases e
      · rw [hv2, ← e] at hr
        injection hr with hr
        subst hr
        rw [hh2] at hh
        injection hh with hh
        injection hh with _ ht
        exact absurd ht (by decide)
    rw [L.block g (Array.getElem?_eq_some_iff.1 hh).1 (by omega) h1 h2]; exact hh
/-- What Open answers, with what a later Append leaves of its records. -/
theorem jd_open2 (B d : Nat) (l : List UInt8) (s : Nat) (w : World) (rows : List (List UInt8)) (P n : Nat) (h : DK B w d l s) (hy : scanL l 0 = ⟨rows, P, 0⟩) (hn : rows.length = n) :
    Calls Try.prog 9 #[.pointer (some ⟨d, 0, none⟩)] w fun e w' => ∃ j A c vs r, e = .returned (.tuple #[.pointer (some ⟨j, 0, none⟩), .slice A n c, .int .i64 0]) ∧ DiskAt w' d r (l.take P) (if P < l.length then P else s) ∧ some j ≠ r ∧ JourAt w' j d n ∧ B ≤ j ∧ j ≠ d ∧ Below B w w' ∧ n ≤ c ∧
      w'.ownsRow (d + 1) 30 1 (.slice A n c) n vs ∧ BRow w' 0 vs rows ∧ (∀ v ∈ vs, ∀ g, v.ownBlock = some g → g ≠ d ∧ g ≠ j ∧ some g ≠ r) := by
  have hs := h.lt
  obtain ⟨⟨r, D⟩, hd⟩ := h
  refine (jopen_any d r l s w D (by rw [hy])).mono ?_
  rintro e w' ⟨j, A, n', c, vs, r', rfl, hn', own, hB, hc, hoff, hJ, hj, hjr, D', hr', L⟩
  rw [hy] at hn' hB D'
  simp only at hn' hB D'
  obtain rfl : n = n' := hn.symm.trans hn'
  have hdl := D.row_lt.1
  have : openSafe l s = if P < l.length then P else s := by unfold openSafe; rw [hy]
  rw [this] at D'
  exact ⟨j, A, c, vs, r', rfl, D', hjr, hJ, by omega, by omega, L.belowD D hd hs, hc, own_base own (by omega), hB, fun v hv g hg => ⟨by have := (hoff v hv g hg).1; omega, (hoff v hv g hg).2⟩⟩
end Go.Proofs.Ytfhlfnoiknhleaa
