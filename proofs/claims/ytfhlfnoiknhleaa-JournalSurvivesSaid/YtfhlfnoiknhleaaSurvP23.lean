/-
  A journal through crashes: plain words; what stays of rows of slices.
-/
import Derived.Test.YtfhlfnoiknhleaaCutsP23
import Derived.Test.YtfhlfnoiknhleaaKeepB
import Derived.Test.YtfhlfnoiknhleaaBools
namespace Go.Proofs.Ytfhlfnoiknhleaa
open Go.RowKit
set_option linter.unusedVariables false

theorem frames_mono (R : List (List UInt8)) {a b : Nat} (h : a ≤ b) : (framesC (R.take a)).length ≤ (framesC (R.take b)).length := by
  have e : R.take b = R.take a ++ (R.take b).drop a := by
    have := List.take_append_drop a (R.take b)
    rw [List.take_take, Nat.min_eq_left h] at this
    exact this.symm
  rw [e, framesC_append, List.length_append]
  omega
theorem fit_at (R : List (List UInt8)) (K : Nat) : ∀ n, ∃ m, m ≤ n ∧ (framesC (R.take m)).length ≤ K ∧ (m < n → K < (framesC (R.take (m + 1))).length)
  | 0 => ⟨0, Nat.le_refl _, by simp [framesC], fun h => by omega⟩
  | n + 1 => by
    obtain ⟨m, h1, h2, h3⟩ := fit_at R K n
    by_cases hm : m < n
    · exact ⟨m, by omega, h2, fun _ => h3 hm⟩
    · obtain rfl : m = n := by omega
      by_cases hf : (framesC (R.take (m + 1))).length ≤ K
      · exact ⟨m + 1, Nat.le_refl _, hf, fun h => by omega⟩
      · exact ⟨m, by omega, h2, fun _ => by omega⟩
theorem crash_scan (R : List (List UInt8)) (K q : Nat) (h : ∀ b ∈ R, b.length ≤ 255) (hq : q ≤ R.length) (h1 : (framesC (R.take q)).length ≤ K) (h2 : K ≤ (framesC R).length) :
    ∃ m, q ≤ m ∧ m ≤ R.length ∧ scanL ((framesC R).take K) 0 = ⟨R.take m, (framesC (R.take m)).length, 0⟩ ∧ ((framesC R).take K).take (framesC (R.take m)).length = framesC (R.take m) ∧ (framesC (R.take m)).length ≤ K := by
  obtain ⟨m, m1, m2, m3⟩ := fit_at R K R.length
  have hle : ∀ b ∈ R.take m, b.length ≤ 255 := fun b hb => h b (List.mem_of_mem_take hb)
  by_cases hm : m < R.length
  · have hK := m3 hm
    have hqm : q ≤ m := by
      rcases Nat.lt_or_ge m q with h0 | h0
      · have := frames_mono R (show m + 1 ≤ q from h0); omega
      · exact h0
    have et : R.take (m + 1) = R.take m ++ [R[m]] := by rw [List.take_add_one, List.getElem?_eq_getElem hm]; rfl
    have e1 : framesC (R.take (m + 1)) = framesC (R.take m) ++ frameL R[m] := by rw [et, framesC_append]; simp [framesC]
    rw [e1, List.length_append, length_frameL] at hK
    have e2 : framesC R = framesC (R.take m) ++ (frameL R[m] ++ framesC (R.drop (m + 1))) := by
      conv => lhs; rw [← List.take_append_drop (m + 1) R]
      rw [framesC_append, e1, List.append_assoc]
    have e3 : (framesC R).take K = framesC (R.take m) ++ (frameL R[m]).take (K - (framesC (R.take m)).length) := by
      rw [e2, List.take_append, List.take_of_length_le m2, List.take_append, length_frameL, show K - (framesC (R.take m)).length - (R[m].length + 6) = 0 by omega]
      simp
    refine ⟨m, hqm, by omega, ?_, ?_, m2⟩
    · rw [e3]
      exact scan_cut _ _ _ hle (h _ (List.getElem_mem hm)) (by omega)
    · rw [e3]; exact List.take_left
  · obtain rfl : m = R.length := by omega
    rw [List.take_length] at m2
    refine ⟨R.length, hq, Nat.le_refl _, ?_, ?_, by rw [List.take_length]; exact m2⟩
    · rw [List.take_length, List.take_of_length_le m2, scan_all _ h]
    · rw [List.take_length, List.take_of_length_le m2, List.take_length]
theorem frames_bd : ∀ (R : List (List UInt8)), (∀ b ∈ R, b.length ≤ 60) → (framesC R).length ≤ 66 * R.length
  | [], _ => by simp [framesC]
  | b :: R, h => by
    have := frames_bd R fun x hx => h x (by simp [hx])
    have := h b (by simp)
    simp [framesC, length_frameL]; omega
theorem framesC_snoc (R : List (List UInt8)) (b : List UInt8) : framesC (R ++ [b]) = framesC R ++ frameL b := by rw [framesC_append]; simp [framesC]

/-- Rows of slices of bytes are as they were. -/
def KR (w w' : World) : Prop := w.heap.size ≤ w'.heap.size ∧ ∀ (g : Nat) (cs : Array Value) (x : Nat × Nat), w.heap[g]? = some (Obj.cells cs 30 x) → w'.heap[g]? = w.heap[g]?
theorem KR.of_below {w w' : World} (h : Below w.heap.size w w') : KR w w' := ⟨h.size, fun g cs x hg => h.block g (Array.getElem?_eq_some_iff.1 hg).1⟩
theorem KR.trans {w w' w'' : World} (h : KR w w') (h' : KR w' w'') : KR w w'' := ⟨Nat.le_trans h.1 h'.1, fun g cs x hg => (h'.2 g cs x ((h.2 g cs x hg).trans hg)).trans (h.2 g cs x hg)⟩
theorem KR.own {w w' : World} (h : KR w w') {base n : Nat} {v : Value} {xs : List Value} (ho : w.ownsRow base 30 1 v n xs) : w'.ownsRow base 30 1 v n xs := by
  refine ⟨ho.1, ?_⟩
  rcases ho.2 with h0 | ⟨g, cap, cur, hv, hg, hh, rest⟩
  · exact .inl h0
  · exact .inr ⟨g, cap, cur, hv, hg, (h.2 g _ _ hh).trans hh, rest⟩
theorem DiskAt.offB {w : World} {d : Nat} {r : Option Nat} {l : List UInt8} {s : Nat} (D : DiskAt w d r l s) {g : Nat} {cs : Array Value} {x : Nat × Nat} (hg : w.heap[g]? = some (.cells cs 30 x)) : g ≠ d ∧ some g ≠ r := by
  obtain ⟨A, c, hb, ho, hr, _⟩ := D.blk
  constructor
  · rintro rfl
    rw [hb] at hg
    injection hg with hg
    injection hg with _ ht
    exact absurd ht (by decide)
  · intro e
    rcases ho.2 with ⟨h0, _⟩ | ⟨g2, cap2, cur2, hv2, hg2, hh2, _⟩
    · rw [h0] at hr
      rw [← hr] at e
      cases e
    · rw [hv2, ← e] at hr
      injection hr with hr
      subst hr
      rw [hh2] at hg
      injection hg with hg
      injection hg with _ ht
      exact absurd ht (by decide)
theorem JourAt.offB {w : World} {j d k : Nat} (J : JourAt w j d k) {g : Nat} {cs : Array Value} {x : Nat × Nat} (hg : w.heap[g]? = some (.cells cs 30 x)) : g ≠ j := by
  rintro rfl
  unfold JourAt at J
  rw [J] at hg
  injection hg with hg
  injection hg with _ ht
  exact absurd ht (by decide)
theorem KR.of_leaves {w w' : World} {d : Nat} {r : Option Nat} {l : List UInt8} {s : Nat} (D : DiskAt w d r l s) (L : Leaves d r w w') : KR w w' :=
  ⟨L.size, fun g cs x hg => L.block g (Array.getElem?_eq_some_iff.1 hg).1 (D.offB hg).1 (D.offB hg).2⟩
theorem KR.of_leaves2 {w w' : World} {d j k : Nat} {r : Option Nat} {l : List UInt8} {s : Nat} (D : DiskAt w d r l s) (J : JourAt w j d k) (L : Leaves2 d j r w w') : KR w w' :=
  ⟨L.size, fun g cs x hg => L.block g (Array.getElem?_eq_some_iff.1 hg).1 (D.offB hg).1 (J.offB hg) (D.offB hg).2⟩
theorem dk_crashR (B d : Nat) (l : List UInt8) (s : Nat) (keep : Int) (w : World) (h : DK B w d l s) :
    Calls Try.prog 25 #[.pointer (some ⟨d, 0, none⟩), .int .i64 keep] w fun e w' => e = .returned (.tuple #[]) ∧ DK B w' d (l.take (crashLen l.length s keep)) (crashLen l.length s keep) ∧ Below B w w' ∧ KR w w' := by
  have hs := h.lt
  obtain ⟨⟨r, D⟩, hd⟩ := h
  refine (crash_k d r l s keep w _ _ D rfl rfl).mono ?_
  rintro e w' ⟨rfl, D', L⟩
  exact ⟨rfl, ⟨⟨r, D'⟩, hd⟩, L.belowD D hd hs, KR.of_leaves D L⟩
theorem jd_appendR (B d j : Nat) (l x : List UInt8) (s k : Nat) (A : Option Addr) (n c : Nat) (w : World) (h : JD B w d j l s k) (hn : x.length = n) (h255 : n ≤ 255) (hk : k ≤ 1000000000) (hfit : l.length + n + 6 ≤ 1048576) (hA : Cells w A (u8s x)) :
    Calls Try.prog 11 #[.pointer (some ⟨j, 0, none⟩), .slice A n c] w fun e w' => e = .returned (.int .i64 0) ∧ JD B w' d j (l ++ frameL x) s (k + 1) ∧ Below B w w' ∧ KR w w' := by
  have hs := h.dk.lt
  obtain ⟨⟨r, D, hr⟩, hj, hne, hd, hj'⟩ := h
  refine (jappend_any j d k r l x s A n c w hj D hne hr hn h255 hk hfit hA).mono ?_
  rintro e w' ⟨rfl, r', D', hr', J', L⟩
  refine ⟨rfl, ⟨⟨r', D', ?_⟩, J', hne, hd, hj'⟩, L.below hd hj' (fun g hg => by have := (D.row_lt.2 g hg).1; omega) hs, KR.of_leaves2 D hj L⟩
  rcases hr' with rfl | hr'
  · exact hr
  · intro e; have := hr' j e.symm; have := hj.lt; omega
theorem jd_syncR (B d j : Nat) (l : List UInt8) (s k : Nat) (w : World) (h : JD B w d j l s k) :
    Calls Try.prog 24 #[.pointer (some ⟨j, 0, none⟩)] w fun e w' => e = .returned (.tuple #[]) ∧ JD B w' d j l l.length k ∧ Below B w w' ∧ KR w w' := by
  have hs := h.dk.lt
  obtain ⟨⟨r, D, hr⟩, hj, hne, hd, hj'⟩ := h
  refine (jsync_any j d k r l s w hj D hne hr).mono ?_
  rintro e w' ⟨rfl, D', J', L⟩
  exact ⟨rfl, ⟨⟨r, D', hr⟩, J', hne, hd, hj'⟩, L.belowD D hd hs, KR.of_leaves D L⟩
theorem jd_openR (B d : Nat) (l : List UInt8) (s : Nat) (w : World) (rows : List (List UInt8)) (P n : Nat) (h : DK B w d l s) (hy : scanL l 0 = ⟨rows, P, 0⟩) (hn : rows.length = n) :
    Calls Try.prog 9 #[.pointer (some ⟨d, 0, none⟩)] w fun e w' => OpenK B w d l s rows P n e w' ∧ KR w w' := by
  have hs := h.lt
  obtain ⟨⟨r, D⟩, hd⟩ := h
  refine (jopen_any d r l s w D (by rw [hy])).mono ?_
  rintro e w' ⟨j, A, n', c, vs, r', rfl, hn', own, hB, hc, hoff, hJ, hj, hjr, D', hr', L⟩
  rw [hy] at hn' hB D'
  simp only at hn' hB D'
  obtain rfl : n = n' := hn.symm.trans hn'
  have hdl := D.row_lt.1
  refine ⟨⟨j, A, c, vs, rfl, ⟨⟨r', ?_, hjr⟩, hJ, by omega, hd, by omega⟩, Cells.of_own own, hB, hc, L.belowD D hd hs⟩, KR.of_leaves D L⟩
  have : openSafe l s = if P < l.length then P else s := by unfold openSafe; rw [hy]
  rw [← this]
  exact D'
theorem own_off {w : World} {base n : Nat} {v : Value} {xs : List Value} (ho : w.ownsRow base 30 1 v n xs) {g : Nat} (hv : v.ownBlock = some g) : ∃ cs x, w.heap[g]? = some (Obj.cells cs 30 x) := by
  rcases ho.2 with ⟨rfl, _⟩ | ⟨g', cap, cur, rfl, _, hh, _⟩
  · cases hv
  · injection hv with hv
    subst hv
    exact ⟨_, _, hh⟩
theorem JD.grown {B : Nat} {w w' : World} {d j : Nat} {l : List UInt8} {s k : Nat} (h : JD B w d j l s k) {base n : Nat} {v : Value} {xs : List Value} (ho : w.ownsRow base 30 1 v n xs) (hg : w.grownBy w' v.ownBlock) : JD B w' d j l s k := by
  obtain ⟨⟨r, D, hr⟩, hj, hne, hd, hj'⟩ := h
  have key : ∀ g, (g = d ∨ g = j ∨ r = some g) → g < w.heap.size → w'.heap[g]? = w.heap[g]? := fun g hg' hl => hg.block g hl (by
    intro e
    obtain ⟨cs, x, hx⟩ := own_off ho e.symm
    have h1 := D.offB hx
    have h2 := hj.offB hx
    rcases hg' with rfl | rfl | rfl
    · exact h1.1 rfl
    · exact h2 rfl
    · exact h1.2 rfl)
  have hdl := D.row_lt
  have hjl := hj.lt
  refine ⟨⟨r, D.keep (key d (.inl rfl) hdl.1) (fun g e => key g (.inr (.inr e)) (hdl.2 g e).2) hg.size, hr⟩, ?_, hne, hd, hj'⟩
  unfold JourAt at hj ⊢
  rw [key j (.inr (.inl rfl)) hjl]; exact hj
/-- A row that is cut. -/
theorem own_take {w : World} {base n m c : Nat} {e : TypeId} {A : Option Addr} {xs : List Value} (h : w.ownsRow base e 1 (.slice A n c) n xs) (hm : m ≤ n) (hA : A = none → m = 0 ∧ c = 0) : w.ownsRow base e 1 (.slice A m c) m (xs.take m) := by
  have hl := h.1
  refine ⟨by simp; omega, ?_⟩
  rcases h.2 with ⟨h0, h1⟩ | ⟨g, cap, cur, hv, hb, hg, hnc, hcm, hcs, htake⟩
  · injection h0 with h0 h2 h3
    subst h0; subst h2; subst h3
    obtain rfl : m = 0 := by omega
    exact .inl ⟨rfl, rfl⟩
  · injection hv with h0 h2 h3
    subst h0; subst h3
    exact .inr ⟨g, c, cur, rfl, hb, hg, by omega, hcm, hcs, by rw [← htake, List.take_take]; congr 1; omega⟩
end Go.Proofs.Ytfhlfnoiknhleaa
