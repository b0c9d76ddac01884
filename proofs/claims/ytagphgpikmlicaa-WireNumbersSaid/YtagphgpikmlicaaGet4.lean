/-
  Both readers side by side: cornhilllaw4.get.
-/
import Derived.Test.YtagphgpikmlicaaRReader
namespace Go.Proofs.Ytagphgpikmlicaa
open Go.RowKit
set_option linter.unusedVariables false

def Rd.after (s : Rd) (kind : Int) : Rd := if kind = 1 then s.left 1 else if kind = 2 then s.left 8 else s.pastText
theorem Rd.length_after (s : Rd) (kind : Int) : (s.after kind).l.length ≤ s.l.length := by
  unfold Rd.after Rd.pastText
  split
  · exact s.length_left 1
  · split
    · exact s.length_left 8
    · exact Nat.le_trans ((s.left 1).length_left _) (s.length_left 1)
/-- Both readers, and what lies before them. -/
structure Both (w : World) (d1 d2 m0 : Nat) (s : Rd) : Prop where
  one : ReaderAt w d1 s
  two : RefAt w d2 m0 s
  lt : d1 < d2
  le : m0 ≤ d1
  small : s.l.length ≤ 1000000000000
theorem Both.below {w w' : World} {d1 d2 m0 : Nat} {s : Rd} (h : Both w d1 d2 m0 s) (hb : Below w.heap.size w w') : Both w' d1 d2 m0 s := ⟨h.one.below hb, h.two.below hb, h.lt, h.le, h.small⟩
/-- What get leaves. -/
def GotBoth (w : World) (d1 d2 m0 : Nat) (s' : Rd) (e : Ending) (w' : World) : Prop := e = .returned (.bool true) ∧ Both w' d1 d2 m0 s' ∧ Below d1 w w'
set_option maxHeartbeats 1600000 in
theorem get4_any (d1 d2 m0 : Nat) (s : Rd) (kind : Int) (w : World) (h : Both w d1 d2 m0 s) :
    Calls Try.prog 18 #[.pointer (some ⟨d1, 0, none⟩), .pointer (some ⟨d2, 0, none⟩), .int .i64 kind] w (GotBoth w d1 d2 m0 (s.after kind)) := by
  obtain ⟨R, F, hlt, hm, hs⟩ := h
  have hle := s.length_after kind
  have hrs := R.lt
  obtain ⟨s', es'⟩ : ∃ s', s' = s.after kind := ⟨_, rfl⟩
  rw [← es'] at hle ⊢
  have fin : ∀ w1 w2 w3 : World, Took w d1 s' w1 → RefAt w2 d2 m0 s' → Leaves d2 none w1 w2 → Below w2.heap.size w2 w3 → Both w3 d1 d2 m0 s' ∧ Below d1 w w3 := by
    intro w1 w2 w3 hT hR hL hb
    have b1 : Below d1 w w1 := hT.leaves.below (Nat.le_refl _) (by simp) (by omega)
    have b2 : Below d1 w1 w2 := hL.below (by omega) (by simp) (by have := b1.size; omega)
    have b3 := hb.mono (show d1 ≤ w2.heap.size by have := b1.size; have := b2.size; omega)
    exact ⟨⟨(hT.at_.other hL hlt).below hb, hR.below hb, hlt, hm, by omega⟩, (b1.trans b2).trans b3⟩
  have FIN := hide fin
  clear fin
  have ES := hide es'
  clear es'
  by_cases k1 : kind = 1
  · subst k1
    have e1 : s.left 1 = s' := by rw [ES.out]; rfl
    have E1 := hide e1
    clear e1
    go_enter Try.func18, Try.ntmps18
    go_wp2_with fail
    refine (rbyte_any d1 s _ R).mono ?_
    rw [E1.out]
    rintro e w1 ⟨rfl, hT⟩
    go_wp2_with fail
    refine (refRByte_any d2 m0 s _ hs (F.other hT.leaves (by omega) hm)).mono ?_
    rw [E1.out]
    rintro e w2 ⟨rfl, hR, hL⟩
    go_wp2_with fail
    refine (rend_any d1 s' _ (hT.at_.other hL hlt)).mono ?_
    rintro e w3 ⟨rfl, rfl⟩
    go_wp2_with fail
    refine (refREnd_any d2 m0 s' _ hR).mono ?_
    rintro e w3 ⟨rfl, hb⟩
    have hf := hide (FIN.out _ _ _ hT hR hL hb)
    go_wp2_with fail
    go_ret
    exact ⟨rfl, hf.out.1, hf.out.2⟩
  · have k1' : (kind == 1) = false := by simpa using k1
    by_cases k2 : kind = 2
    · subst k2
      have e1 : s.left 8 = s' := by rw [ES.out]; rfl
      have E1 := hide e1
      clear e1
      go_enter Try.func18, Try.ntmps18
      go_wp2_with fail
      refine (rlong_any d1 s _ R).mono ?_
      rw [E1.out]
      rintro e w1 ⟨rfl, hT⟩
      go_wp2_with fail
      refine (refRLong_any d2 m0 s _ hs (F.other hT.leaves (by omega) hm)).mono ?_
      rw [E1.out]
      rintro e w2 ⟨rfl, hR, hL⟩
      go_wp2_with fail
      refine (rend_any d1 s' _ (hT.at_.other hL hlt)).mono ?_
      rintro e w3 ⟨rfl, rfl⟩
      go_wp2_with fail
      refine (refREnd_any d2 m0 s' _ hR).mono ?_
      rintro e w3 ⟨rfl, hb⟩
      have hf := hide (FIN.out _ _ _ hT hR hL hb)
      go_wp2_with fail
      go_ret
      exact ⟨rfl, hf.out.1, hf.out.2⟩
    · have k2' : (kind == 2) = false := by simpa using k2
      have e1 : s.pastText = s' := by rw [ES.out]; unfold Rd.after; rw [if_neg k1, if_neg k2]
      have E1 := hide e1
      clear e1 k1 k2
      go_enter Try.func18, Try.ntmps18
      go_wp2_with fail
      refine (rtext_any d1 s _ R).mono ?_
      unfold GotText
      rw [E1.out]
      rintro e w1 ⟨rfl, hT⟩
      go_wp2_with fail
      refine (refRText_any d2 m0 s _ hs (F.other hT.leaves (by omega) hm)).mono ?_
      rw [E1.out]
      rintro e w2 ⟨rfl, hR, hL⟩
      go_wp2_with fail
      refine (rend_any d1 s' _ (hT.at_.other hL hlt)).mono ?_
      rintro e w3 ⟨rfl, rfl⟩
      go_wp2_with fail
      refine (refREnd_any d2 m0 s' _ hR).mono ?_
      rintro e w3 ⟨rfl, hb⟩
      have hf := hide (FIN.out _ _ _ hT hR hL hb)
      go_wp2_with fail
      go_ret
      exact ⟨rfl, hf.out.1, hf.out.2⟩
end Go.Proofs.Ytagphgpikmlicaa
