/-
  The walk of JournalTurned.
-/
import Derived.Test.YtfhlfnoiknhleaaFr23
import Derived.Laws.BitsAllLaws
import Derived.StillTailTactics
namespace Go.Proofs.Ytfhlfnoiknhleaa
open Go.RowKit
set_option linter.unusedVariables false

theorem jd_open_bad (B d : Nat) (l : List UInt8) (s y : Nat) (w : World) (h : DK B w d l s) (hy : (scanL l 0).why = y) (hy0 : y ≠ 0) :
    Calls Try.prog 9 #[.pointer (some ⟨d, 0, none⟩)] w fun e w' => e = .returned (.tuple #[.pointer none, .slice none 0 0, .int .i64 (y : Nat)]) ∧ Below w.heap.size w w' := by
  obtain ⟨⟨r, D⟩, hd⟩ := h
  exact jopen_bad d r l s y w D hy hy0
theorem byte_of' {n : Int} (h : (Lit.int .u8 n).wf = true) : ∃ x : UInt8, n = (x.toNat : Int) := by
  have := u8_bd h
  exact ⟨lo8 n.toNat, by rw [lo8_toNat]; omega⟩
theorem xor_u8' (a b : UInt8) : bits .xor .u8 (a.toNat : Int) (b.toNat : Int) = ((a ^^^ b).toNat : Int) := by
  have h1 := a.toNat_lt
  have h2 := b.toNat_lt
  rw [u8_xor_nat _ _ (by omega) (by omega), UInt8.toNat_xor]
set_option maxRecDepth 100000 in
set_option maxHeartbeats 1600000 in
theorem journalTurned_walk (A0 : Option Addr) (n0 c0 : Nat) (ls : List (List Int)) (a1 a2 : Int) (w : World) (h0 : ArgLL .u8 w A0 n0 c0 ls) (_w1 : (Lit.int .i64 a1).wf = true) (w2 : (Lit.int .u8 a2).wf = true) :
    Calls Try.prog 6 #[.slice A0 n0 c0, .int .i64 a1, .int .u8 a2] w fun e w' => e = .returned (.bool true) ∧ Below w.heap.size w w' := by
  obtain ⟨x, rfl⟩ := byte_of' w2
  have hn0 : n0 ≤ 9223372036854775807 := by have := h0.le; have := h0.max; unfold maxLen at this; omega
  have hR := Recs.of_arg h0
  obtain ⟨rs, ers⟩ : ∃ rs, rs = ls.map toB := ⟨_, rfl⟩
  rw [← ers] at hR
  clear w2 _w1 h0 ers
  go_enter Try.func6, Try.ntmps6
  go_wp2_with fail
  refine (frames_any A0 n0 c0 rs _ hR hn0).mono ?_
  have hle := cutR_le rs 20
  obtain ⟨L, eL⟩ : ∃ L, L = framesC (cutR rs 20) := ⟨_, rfl⟩
  have hsc := fun (j : Nat) (y z : UInt8) (hy : L[j]? = some y) (hz : z ≠ y) => scan_turned (cutR rs 20) 0 j y z hle (by rw [← eL]; exact hy) hz
  have hlen := length_frames20 rs
  rw [← eL] at hsc hlen ⊢
  have HSC := hide hsc
  obtain ⟨N, eN⟩ : ∃ N, N = L.length := ⟨_, rfl⟩
  rw [← eN] at hlen
  have HN := hide eN
  intro e w1 hx
  obtain ⟨AF, cF, rfl, own1, hF, hFc, hFm, B1⟩ := hx.n HN.out.symm
  change w1.ownsRow w.heap.size 5 1 (.slice AF N cF) N (u8s L) at own1
  clear hx hsc eN eL hle hR
  by_cases hN0 : N = 0
  · subst hN0
    go_wp2_with fail
    refine (known23_any _).mono ?_
    rintro e w2 ⟨rfl, hb⟩
    go_wp2_with fail
    go_ret
    exact ⟨rfl, nxt B1 hb⟩
  · have dN : ((N : Int) == 0) = false := by simp; omega
    by_cases hx0 : x = 0
    · have hT : (x.toNat : Int) = 0 := by rw [hx0]; rfl
      go_wp2_with fail
      refine (known23_any _).mono ?_
      rintro e w2 ⟨rfl, hb⟩
      go_wp2_with fail
      go_ret
      exact ⟨rfl, nxt B1 hb⟩
    · have hT0 : x.toNat ≠ 0 := fun h => hx0 (UInt8.toNat_inj.1 (by rw [h]; rfl))
      have hT : ((x.toNat : Int) == 0) = false := by simp; omega
      obtain ⟨gx, rfl, hgx, hgl⟩ := own_some own1 (show 0 < N by omega)
      have hwb := within_bd a1 0 ((N : Int) - 1) (by omega)
      obtain ⟨j, hj⟩ : ∃ j : Nat, within a1 0 ((N : Int) - 1) = j := ⟨(within a1 0 ((N : Int) - 1)).toNat, by omega⟩
      have hjl : j < N := by omega
      have HWJ := hide hj
      clear hj hwb hT0
      obtain ⟨b5, o5, y, hA5, hb5, hc5, hy⟩ := (Cells.of_own own1).byte_at (k := j) (by rw [← HN.out]; exact hjl)
      injection hA5 with hA5
      injection hA5 with e1 e2
      subst e1; subst e2
      rw [Nat.zero_add] at hc5
      have hf5 := own1.frozenAt j
      have hxr := xor_u8' y x
      have st := own1.stored j (.int .u8 ((y ^^^ x).toNat : Int))
      have hset : (u8s L).set j (.int .u8 ((y ^^^ x).toNat : Int)) = u8s (L.set j (y ^^^ x)) := by simp [u8s, List.map_set]
      rw [hset] at st
      have hne : y ^^^ x ≠ y := by
        intro he
        apply hx0
        have : y ^^^ (y ^^^ x) = y ^^^ y := by rw [he]
        rwa [← UInt8.xor_assoc, UInt8.xor_self, UInt8.zero_xor] at this
      have hbad := HSC.out j y (y ^^^ x) hy hne
      obtain ⟨V, eV⟩ : ∃ V, V = (y ^^^ x).toNat := ⟨_, rfl⟩
      obtain ⟨X, eX⟩ : ∃ X, X = L.set j (y ^^^ x) := ⟨_, rfl⟩
      have hXl : X.length = N := by rw [eX, List.length_set]; exact HN.out.symm
      rw [← eV] at hxr st
      rw [← eX] at hbad st
      have BX : Below w.heap.size w (w1.setCell ⟨gx, j, none⟩ (.int .u8 (V : Int))) := B1.setCell (by exact hgx) _
      have HXC := hide (Cells.of_own st.1)
      have HXL := hide hXl
      have HBAD := hide hbad
      have j1 : (0 : Int) < N := by omega
      have j2 : (j : Int) < N := by omega
      clear st eV eX hset hXl hbad own1 hy hne B1 HSC hF
      go_wp2_with fail
      refine (within_any a1 0 _ _ (by omega) (by omega) (by omega)).mono ?_
      rw [HWJ.out]
      rintro e u ⟨rfl, rfl⟩
      go_wp2_with fail
      refine (dk_new _).mono ?_
      obtain ⟨w2, ew2⟩ : ∃ w2, w2 = w1.setCell ⟨gx, j, none⟩ (.int .u8 (V : Int)) := ⟨_, rfl⟩
      rw [← ew2] at BX HXC ⊢
      clear ew2
      rintro e w3 ⟨d, rfl, D3, b3⟩
      have hXC3 := HXC.out.below b3
      have hs2 := BX.size
      have B3 := nxt BX b3
      clear b3 HXC BX
      go_wp2_with fail
      refine (dk_append _ d [] X 0 _ N cF _ D3 HXL.out (by simp; omega) hXC3).mono ?_
      rintro e w4 ⟨rfl, D4, b4⟩
      have B4 := B3.trans (b4.mono hs2)
      clear D3 b4 hXC3 B3
      rw [List.nil_append] at D4
      go_wp2_with fail
      refine (jd_open_bad _ d X 0 14 _ D4 HBAD.out (by omega)).mono ?_
      rintro e w5 ⟨rfl, hb⟩
      have B5 := nxt B4 hb
      clear hb D4 B4
      go_wp2_with fail
      refine (known23_any _).mono ?_
      rintro e w6 ⟨rfl, hb⟩
      go_wp2_with fail
      go_ret
      exact ⟨rfl, nxt B5 hb⟩
end Go.Proofs.Ytfhlfnoiknhleaa
