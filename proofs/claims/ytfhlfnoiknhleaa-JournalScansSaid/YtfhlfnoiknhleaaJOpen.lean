/-
  journal.Open.
-/
import Derived.Test.YtfhlfnoiknhleaaJournal
namespace Go.Proofs.Ytfhlfnoiknhleaa
open Go.RowKit
set_option linter.unusedVariables false

theorem own_leaves {w w' : World} {base d : Nat} {r : Option Nat} {e : TypeId} {size : Nat} {v : Value} {n : Nat} {xs : List Value} (h : w.ownsRow base e size v n xs) (hb : Leaves d r w w') (h1 : d < base) (h2 : ∀ g, r = some g → v.ownBlock ≠ some g) : w'.ownsRow base e size v n xs := by
  refine ⟨h.1, ?_⟩
  rcases h.2 with h0 | ⟨g, cap, cur, hv, hg, hh, rest⟩
  · exact .inl h0
  · refine .inr ⟨g, cap, cur, hv, hg, ?_, rest⟩
    rw [hb.block g (Array.getElem?_eq_some_iff.1 hh).1 (by omega) (fun he => h2 g he.symm (by rw [hv]; rfl))]; exact hh
theorem scanL_stop (l : List UInt8) : (scanL l 0).stop ≤ l.length := by
  have := scanS_stop (l.length + 1) l 0
  unfold scanL; omega
theorem opens_mk {w w3 w4 : World} {d : Nat} {r r' : Option Nat} {l : List UInt8} {s n c : Nat} {A : Option Addr} {vs : List Value} (D : DiskAt w d r l s) (hn : (scanL l 0).rows.length = n) (own3 : w3.ownsRow w.heap.size 30 1 (.slice A n c) n vs) (hB3 : BRow w3 0 vs (scanL l 0).rows) (hc : n ≤ c)
    (hoff : ∀ v ∈ vs, ∀ g, v.ownBlock = some g → w.heap.size ≤ g ∧ g < w3.heap.size) (b3 : Below w.heap.size w w3) (L : Leaves d none w3 w4) (D4 : DiskAt w4 d r' (l.take (scanL l 0).stop) (openSafe l s)) (hr' : r' = r ∨ ∀ g, r' = some g → w3.heap.size ≤ g) :
    Opens w d r l s (.returned (.tuple #[.pointer (some ⟨w4.heap.size, 0, none⟩), .slice A n c, .int .i64 0])) (w4.alloc (.cells #[.pointer (some ⟨d, 0, none⟩), .int .i64 (n : Int)] 54)) := by
  have hd := D.row_lt
  have hs3 := b3.size
  have hs4 := L.size
  have ba := (Below.refl w4.heap.size w4).alloc (Nat.le_refl _) (.cells #[.pointer (some ⟨d, 0, none⟩), .int .i64 (n : Int)] 54)
  refine ⟨w4.heap.size, A, n, c, vs, r', rfl, hn, (own_leaves own3 L hd.1 (by simp)).alloc _, ?_, hc, ?_, heap_alloc_new _ _, by omega, ?_, D4.below ba, ?_, ?_⟩
  · refine BRow.below ?_ ba
    exact hB3.keep (Q := fun g => w.heap.size ≤ g) (fun v hv g hg => (hoff v hv g hg).1) L.size (fun b hq hb => L.block b hb (by omega) (by simp)) (Nat.le_refl _)
  · intro v hv g hg
    have h1 := hoff v hv g hg
    refine ⟨h1.1, by omega, ?_⟩
    rcases hr' with rfl | hr'
    · intro e; have := (hd.2 g e.symm).2; omega
    · intro e; have := hr' g e.symm; omega
  · intro e
    have := (D4.row_lt.2 _ e.symm).2
    omega
  · rcases hr' with rfl | hr'
    · exact .inl rfl
    · exact .inr fun g hg => by have := hr' g hg; omega
  · exact ((Leaves.of_below (r := r) b3).trans L (.inr fun g hg => by cases hg)).trans (Leaves.of_below (r := none) ba) (.inr fun g hg => by cases hg)
theorem jopen_nil (w : World) : Calls Try.prog 9 #[.pointer none] w fun e w' => e = .returned (.tuple #[.pointer none, .slice none 0 0, .int .i64 1]) ∧ w = w' := by
  go_enter Try.func9, Try.ntmps9
  go_wp2_with fail
  go_ret3
  exact ⟨rfl, rfl⟩
set_option maxHeartbeats 1600000 in
theorem jopen_bad (d : Nat) (r : Option Nat) (l : List UInt8) (s y : Nat) (w : World) (D : DiskAt w d r l s) (hy : (scanL l 0).why = y) (hy0 : y ≠ 0) :
    Calls Try.prog 9 #[.pointer (some ⟨d, 0, none⟩)] w fun e w' => e = .returned (.tuple #[.pointer none, .slice none 0 0, .int .i64 (y : Nat)]) ∧ Below w.heap.size w w' := by
  obtain ⟨O, eO⟩ : ∃ O, O = scanL l 0 := ⟨_, rfl⟩
  rw [← eO] at hy
  have HO := hide eO
  have hsm := D.small
  clear eO
  obtain ⟨N, eN⟩ : ∃ N, N = l.length := ⟨_, rfl⟩
  rw [← eN] at hsm
  have HN := hide eN
  clear eN
  obtain ⟨R, P, y'⟩ := O
  simp only at hy
  subst hy
  go_enter Try.func9, Try.ntmps9
  go_wp2_with fail
  refine (bytes_any d r l s _ D).mono ?_
  intro e w2 h2
  obtain ⟨A, c, rfl, -, hA, hc, hm, hb⟩ := h2.n HN.out.symm
  clear h2
  have hcm : c ≤ 9223372036854775807 := hm
  go_wp2_with fail
  refine (scan_any A N c l _ HN.out.symm (by omega) hc hcm hA).mono ?_
  rw [← HO.out]
  rintro e w3 ⟨A4, n4, c4, vs, rfl, hn4, own, hB, hc4, hoff, hb3⟩
  have B3 := nxt hb hb3
  have d1 : ((y' : Int) != 0) = true := by simp; omega
  clear hoff hB own hn4 hb3 hb
  go_wp2_with fail
  go_ret3
  exact ⟨rfl, B3⟩
set_option maxHeartbeats 1600000 in
theorem jopen_any (d : Nat) (r : Option Nat) (l : List UInt8) (s : Nat) (w : World) (D : DiskAt w d r l s) (hy : (scanL l 0).why = 0) :
    Calls Try.prog 9 #[.pointer (some ⟨d, 0, none⟩)] w (Opens w d r l s) := by
  have hstop := scanL_stop l
  have hfin := fun (w3 w4 : World) (n c : Nat) (A : Option Addr) (vs : List Value) (r' : Option Nat) hn own3 hB3 hc hoff b3 L D4 hr' => opens_mk (w3 := w3) (w4 := w4) (n := n) (c := c) (A := A) (vs := vs) (r' := r') D hn own3 hB3 hc hoff b3 L D4 hr'
  have hos : openSafe l s = if (scanL l 0).stop < l.length then (scanL l 0).stop else s := rfl
  have FIN := hide hfin
  obtain ⟨O, eO⟩ : ∃ O, O = scanL l 0 := ⟨_, rfl⟩
  rw [← eO] at hy hstop hos
  have HO := hide eO
  have hsm := D.small
  obtain ⟨N, eN⟩ : ∃ N, N = l.length := ⟨_, rfl⟩
  rw [← eN] at hsm hstop hos
  have HN := hide eN
  obtain ⟨R, P, y'⟩ := O
  have HP : Hid ((scanL l 0).stop = P) := hide (by rw [← eO])
  have HR : Hid ((scanL l 0).rows = R) := hide (by rw [← eO])
  clear eO eN hfin
  simp only at hy hstop hos
  subst hy
  go_enter Try.func9, Try.ntmps9
  go_wp2_with fail
  refine (bytes_any d r l s _ D).mono ?_
  intro e w2 h2
  obtain ⟨A, c, rfl, -, hA, hc, hm, hb⟩ := h2.n HN.out.symm
  clear h2
  have hcm : c ≤ 9223372036854775807 := hm
  go_wp2_with fail
  refine (scan_any A N c l _ HN.out.symm (by omega) hc hcm hA).mono ?_
  rw [← HO.out]
  rintro e w3 ⟨A4, n4, c4, vs, rfl, hn4, own, hB, hc4, hoff, hb3⟩
  have B3 := nxt hb hb3
  have D3 := D.below B3
  have own3 := own_base own hb.size
  have HB3 : Hid (BRow w3 0 vs (scanL l 0).rows) := hide (by rw [HR.out]; exact hB)
  have HOF : Hid (∀ v ∈ vs, ∀ g, v.ownBlock = some g → w.heap.size ≤ g ∧ g < w3.heap.size) := hide fun v hv g hg => ⟨Nat.le_trans hb.size (hoff v hv g hg).1, (hoff v hv g hg).2⟩
  have HN4 := hide hn4
  have hA3 := (hA.below hb3).takeB P
  clear hoff hB own hn4 hb3 hb hA
  by_cases hlt : P < N
  · have i1 : (P : Int) < N := by omega
    have hlp : (l.take P).length = P := by rw [List.length_take, ← HN.out]; omega
    have HLP := hide hlp
    rw [if_pos hlt] at hos
    have HOS := hide hos
    clear hlp hos
    go_wp2_with fail
    refine (swap_any d r l (l.take P) s A P c _ D3 HLP.out (by rw [HLP.out]; omega) hA3).mono ?_
    rintro e w4 ⟨rfl, r', D4, hr', L4⟩
    rw [HLP.out] at D4
    have HR' := hide hr'
    clear hr'
    go_wp2_with fail
    go_ret3
    exact FIN.out w3 w4 n4 c4 A4 vs r' (by rw [HR.out]; exact HN4.out) own3 HB3.out hc4 HOF.out B3 L4 (by rw [HP.out, HOS.out]; exact D4) (.inr HR'.out)
  · have i1 : ¬ (P : Int) < N := by omega
    rw [if_neg hlt] at hos
    have HOS := hide hos
    clear hos
    go_wp2_with fail
    go_ret3
    exact FIN.out w3 w3 n4 c4 A4 vs r (by rw [HR.out]; exact HN4.out) own3 HB3.out hc4 HOF.out B3 (Leaves.refl _ _ _) (by rw [HP.out, HOS.out, List.take_of_length_le (by rw [← HN.out]; omega)]; exact D3) (.inl rfl)
end Go.Proofs.Ytfhlfnoiknhleaa
