/-
  Frames, one behind the other: plain words.
-/
import Derived.Test.YtagphgpikmlicaaWireP
import Derived.Test.YtagphgpikmlicaaCut
namespace Go.Proofs.Ytagphgpikmlicaa
set_option linter.unusedVariables false

/-- Bytes out of their numbers. -/
def toB (l : List Int) : List UInt8 := l.map fun n => UInt8.ofNat n.toNat
theorem length_toB (l : List Int) : (toB l).length = l.length := by simp [toB]
theorem ArgI.bytesE {w : World} {A : Option Addr} {c : Nat} {l : List Int} (h : ArgI .u8 w A c l) : Cells w A (u8s (toB l)) := by
  have : u8s (toB l) = l.map (Value.int .u8) := by
    simp only [u8s, toB, List.map_map]
    apply List.map_congr_left
    intro n hn
    have := u8_bd (h.wf n hn)
    simp only [Function.comp]
    congr 1
    have h2 : (UInt8.ofNat n.toNat).toNat = n.toNat := by
      rw [UInt8.toNat_ofNat']
      exact Nat.mod_eq_of_lt (by omega)
    rw [h2]; omega
  rw [this]
  exact h.cells
def cutB (l : List Int) : List UInt8 := (toB l).take 100
theorem length_cutB (l : List Int) : (cutB l).length = min l.length 100 := by simp [cutB, length_toB]; omega
/-- The frames of some rows. -/
def framesL (ls : List (List Int)) : List UInt8 := (ls.map fun l => frameL (cutB l)).flatten
theorem framesL_succ {ls : List (List Int)} {k : Nat} {l : List Int} (h : ls[k]? = some l) : framesL (ls.take (k + 1)) = framesL (ls.take k) ++ frameL (cutB l) := by
  unfold framesL
  rw [take_succ_of h]
  simp
theorem framesL_split {ls : List (List Int)} {j k : Nat} {l : List Int} (h : ls[j]? = some l) (hj : j < k) : ∃ rest, framesL (ls.take k) = framesL (ls.take j) ++ (frameL (cutB l) ++ rest) := by
  refine ⟨framesL ((ls.take k).drop (j + 1)), ?_⟩
  have e : ls.take k = ls.take j ++ l :: (ls.take k).drop (j + 1) := by
    have hk : (ls.take k)[j]? = some l := by rw [List.getElem?_take_of_lt hj]; exact h
    obtain ⟨hlt, hh⟩ := List.getElem?_eq_some_iff.1 hk
    have h1 : (ls.take k).take j = ls.take j := by rw [List.take_take, Nat.min_eq_left (by omega)]
    conv => lhs; rw [← List.take_append_drop j (ls.take k), List.drop_eq_getElem_cons hlt, hh, h1]
  unfold framesL
  conv => lhs; rw [e]
  simp
/-- Where each of the first k frames ends. -/
def endsL (ls : List (List Int)) (k : Nat) : List Int := (List.range k).map fun i => ((framesL (ls.take (i + 1))).length : Int)
theorem endsL_succ {ls : List (List Int)} {k : Nat} {l : List Int} (h : ls[k]? = some l) : endsL ls (k + 1) = endsL ls k ++ [((framesL (ls.take (k + 1))).length : Int)] := by
  simp [endsL, List.range_succ]
theorem endsL_at (ls : List (List Int)) {j k : Nat} (h : j < k) : (endsL ls k)[j]? = some ((framesL (ls.take (j + 1))).length : Int) := by
  simp [endsL, h]
theorem length_endsL (ls : List (List Int)) (k : Nat) : (endsL ls k).length = k := by simp [endsL]
/-- The frame at a place of bytes that are cut off at K. -/
theorem open_cut1 {b : List UInt8} {place K : Nat} (hK : K ≤ b.length) (h : K < place) : openL (b.take K) place = ⟨[], 0, 1⟩ := by
  unfold openL
  rw [if_pos (.inr (by simp; omega))]
theorem open_cut2 {pre p rest : List UInt8} {K : Nat} (hp : p.length ≤ 255) (hK : pre.length + p.length + 6 ≤ K) : openL ((pre ++ (frameL p ++ rest)).take K) pre.length = ⟨p, pre.length + p.length + 6, 0⟩ := by
  have e : (pre ++ (frameL p ++ rest)).take K = pre ++ (frameL p ++ rest.take (K - pre.length - (p.length + 6))) := by
    rw [List.take_append, List.take_of_length_le (by omega : pre.length ≤ K), List.take_append, List.take_of_length_le (by rw [length_frameL]; omega), length_frameL]
  rw [e]
  exact openL_frame pre p _ hp
theorem open_cut3 {pre p rest : List UInt8} {K : Nat} (hp : p.length ≤ 255) (h1 : pre.length ≤ K) (h2 : K < pre.length + p.length + 6) : openL ((pre ++ (frameL p ++ rest)).take K) pre.length = ⟨[], 0, 10⟩ := by
  have hl : (pre ++ (frameL p ++ rest)).length = pre.length + (p.length + 6 + rest.length) := by simp [length_frameL]
  unfold openL
  rw [if_neg (by rw [List.length_take, hl]; omega), Int.toNat_natCast]
  have e : ((pre ++ (frameL p ++ rest)).take K).drop pre.length = (frameL p).take (K - pre.length) := by
    rw [List.take_append, List.take_of_length_le h1, List.drop_left, List.take_append_of_le_length (by rw [length_frameL]; omega)]
  rw [e]
  exact openF_cut p hp _ (by omega) _
end Go.Proofs.Ytagphgpikmlicaa
