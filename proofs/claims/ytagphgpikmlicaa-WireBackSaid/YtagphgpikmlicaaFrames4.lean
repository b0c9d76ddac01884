/-
  The walk of WireFrames.
-/
import Derived.Test.YtagphgpikmlicaaKnown4
import Derived.Test.YtagphgpikmlicaaROpen
import Derived.Test.YtagphgpikmlicaaRoom
import Derived.Test.YtagphgpikmlicaaWithin
import Derived.Test.YtagphgpikmlicaaCrc4
namespace Go.Proofs.Ytagphgpikmlicaa
open Go.RowKit
set_option linter.unusedVariables false

/-- What both make a frame of. -/
def frameO (l : List UInt8) : List UInt8 := if l.length ≤ 255 then frameL l else []
def frameE (l : List UInt8) : Int := if l.length ≤ 255 then 0 else 3
theorem length_frameO (l : List UInt8) : (frameO l).length ≤ 261 := by
  unfold frameO
  split
  · rw [length_frameL]; omega
  · simp
theorem FreshB2.long (w : World) (l : List UInt8) (h : ¬ l.length ≤ 255) : FreshB2 w (frameO l) (frameE l) (.returned (.tuple #[.slice none 0 0, .int .i64 3])) w := by
  unfold frameO frameE
  rw [if_neg h, if_neg h]
  exact ⟨none, 0, rfl, World.ownsRow_nil _ _ _ _, Cells.nil _ _, Nat.le_refl _, Nat.zero_le _, Below.refl _ _⟩
theorem frame_any (A : Option Addr) (n c : Nat) (l : List UInt8) (w : World) (hn : l.length = n) (hl : n ≤ 9223372036854775807) (hA : Cells w A (u8s l)) :
    Calls Try.prog 20 #[.slice A n c] w (FreshB2 w (frameO l) (frameE l)) := by
  by_cases h : l.length ≤ 255
  · have := frame_ok A n c l w hn (by omega) hA
    unfold frameO frameE
    rwa [if_pos h, if_pos h]
  · exact (frame_long A n c w (by omega) hl).mono fun e w' ⟨h1, h2⟩ => by subst h1; subst h2; exact FreshB2.long w l h
theorem refFrame_any (A : Option Addr) (n c : Nat) (l : List UInt8) (w : World) (hn : l.length = n) (hl : n ≤ 9223372036854775807) (hA : Cells w A (u8s l)) :
    Calls Try.prog 21 #[.slice A n c] w (FreshB2 w (frameO l) (frameE l)) := by
  by_cases h : l.length ≤ 255
  · have := refFrame_ok A n c l w hn (by omega) hA
    unfold frameO frameE
    rwa [if_pos h, if_pos h]
  · exact (refFrame_long A n c w (by omega) hl).mono fun e w' ⟨h1, h2⟩ => by subst h1; subst h2; exact FreshB2.long w l h
theorem openF_len (l : List UInt8) (p : Nat) : (openF l p).b.length ≤ l.length := by
  rcases l with _ | ⟨n, _ | ⟨m, t⟩⟩
  · simp [openF]
  · simp [openF]
  · simp only [openF]
    split
    · simp
    · split
      · simp
      · split
        · simp
        · simp; omega
theorem openL_len (l : List UInt8) (p : Int) : (openL l p).b.length ≤ l.length := by
  unfold openL
  split
  · simp
  · have := openF_len (l.drop p.toNat) p.toNat
    rw [List.length_drop] at this
    omega
set_option maxRecDepth 100000 in
set_option maxHeartbeats 1600000 in
theorem wireFrames_walk (A0 : Option Addr) (c0 : Nat) (l0 : List Int) (A1 : Option Addr) (c1 : Nat) (l1 : List Int) (a2 a3 a4 : Int) (w : World) (h0 : ArgI .u8 w A0 c0 l0) (h1 : ArgI .u8 w A1 c1 l1) (_w2 : (Lit.int .i64 a2).wf = true) (_w3 : (Lit.int .i64 a3).wf = true) (w4 : (Lit.int .u8 a4).wf = true) :
    Calls Try.prog 5 #[.slice A0 l0.length c0, .slice A1 l1.length c1, .int .i64 a2, .int .i64 a3, .int .u8 a4] w fun e w' => e = .returned (.bool true) ∧ Below w.heap.size w w' := by
  obtain ⟨x, rfl⟩ := byte_of w4
  have a3b := i64_bd _w3
  obtain ⟨a, ha, hA0⟩ := h0.bytes
  obtain ⟨b, hb, hB0⟩ := h1.bytes
  have hm0 : c0 ≤ 9223372036854775807 := h0.max
  have hm1 : c1 ≤ 9223372036854775807 := h1.max
  have hl0 := h0.le
  have hl1 := h1.le
  clear h0 h1 w4 _w2 _w3
  obtain ⟨n0, e0⟩ : ∃ n0, n0 = l0.length := ⟨_, rfl⟩
  obtain ⟨n1, e1⟩ : ∃ n1, n1 = l1.length := ⟨_, rfl⟩
  rw [← e0] at hl0 ha ⊢
  rw [← e1] at hl1 hb ⊢
  clear e0 e1
  obtain ⟨m0, em0⟩ : ∃ m, m = min n0 300 := ⟨_, rfl⟩
  obtain ⟨m1, em1⟩ : ∃ m, m = min n1 100 := ⟨_, rfl⟩
  obtain ⟨P, eP⟩ : ∃ P, P = a.take m0 := ⟨_, rfl⟩
  obtain ⟨M, eM⟩ : ∃ M, M = b.take m1 := ⟨_, rfl⟩
  have hP : P.length = m0 := by rw [eP]; simp; omega
  have hM : M.length = m1 := by rw [eM]; simp; omega
  have hPc : Cells w A0 (u8s P) := by rw [eP]; exact hA0.takeB m0
  have hMc : Cells w A1 (u8s M) := by rw [eM]; exact hB0.takeB m1
  have hm0' : m0 ≤ 300 := by omega
  have hm1' : m1 ≤ 100 := by omega
  have hPE := hide hP
  have hME := hide hM
  have E0 := hide em0
  have E1 := hide em1
  clear ha hb hA0 hB0 eP eM hP hM em0 em1
  go_enter Try.func5, Try.ntmps5
  go_wp2_with fail
  refine (cut_any A0 n0 c0 300 _ hl0 hm0 (by omega) (by omega)).mono ?_
  rw [show min n0 (300 : Int).toNat = m0 from E0.out.symm]
  rintro e u ⟨rfl, rfl⟩
  go_wp2_with fail
  refine (frame_any A0 m0 c0 P _ hPE.out (by omega) hPc).mono ?_
  obtain ⟨G, eG⟩ : ∃ G, G = frameO P := ⟨_, rfl⟩
  obtain ⟨z, ez⟩ : ∃ z, z = frameE P := ⟨_, rfl⟩
  have hG := length_frameO P
  rw [← eG] at hG
  rw [← eG, ← ez]
  rintro e w1 ⟨AF, cF, rfl, -, hF, -, -, B1⟩
  have EG := hide eG
  have EZ := hide ez
  clear eG ez
  go_wp2_with fail
  refine (refFrame_any A0 m0 c0 P _ hPE.out (by omega) (hPc.below B1)).mono ?_
  rw [← EG.out, ← EZ.out]
  rintro e w2 ⟨AG, cG, rfl, -, hGc, -, -, hb⟩
  have B2 := nxt B1 hb
  have hF2 := hF.below hb
  have hP2 := hPc.below B2
  have hM2 := hMc.below B2
  clear hb B1 hF hPc hMc EG EZ
  obtain ⟨N, eN⟩ : ∃ N, N = G.length := ⟨_, rfl⟩
  rw [← eN] at hG ⊢
  have EN := hide eN
  clear eN
  have k1 := run_str (P := Try.prog) Try.underlying22 Try.underlying5 Try.underlying9 cF EN.out.symm hF2
  have k2 := run_str (P := Try.prog) Try.underlying22 Try.underlying5 Try.underlying9 cG EN.out.symm hGc
  go_wp2_with fail
  refine (crc_any A0 m0 c0 P _ hPE.out (by omega) hP2).mono ?_
  rintro e u ⟨rfl, rfl⟩
  go_wp2_with fail
  refine (rcrc_any A0 m0 c0 P _ hPE.out (by omega) hP2).mono ?_
  rintro e u ⟨rfl, rfl⟩
  clear k1 k2
  go_wp2_with (at_builtin; refine wpList_app elU8 (World.ownsRow_lit (base := w2.heap.size) w2 #[] 0 (Nat.le_refl _) (Nat.zero_le _) rfl) (news := u8s G) rfl _ _ rfl rfl rfl (by rw [length_u8s]; exact EN.out.symm) (hGc.alloc _) (u8s_one G) (by omega) (by simp) N (u8s G) (by omega) (by simp) ?_; intro A4 c4 w4 p4)
  have B4 := p4.below _ _ (Nat.le_refl _) (nxt_alloc (Below.refl _ _) _)
  have own4 := p4.own
  clear p4 hGc hF2
  refine (cut_any A1 n1 c1 100 _ hl1 hm1 (by omega) (by omega)).mono ?_
  rw [show min n1 (100 : Int).toNat = m1 from E1.out.symm]
  rintro e u ⟨rfl, rfl⟩
  go_upto_if 61 with (at_builtin; refine wpList_app elU8 own4 (news := u8s M) rfl _ _ rfl rfl rfl (by rw [length_u8s]; exact hME.out) (hM2.below B4) (u8s_one M) (by omega) B4.size (N + m1) (u8s (G ++ M)) rfl (by simp [u8s]) ?_; intro A5 c5 w5 p5)
  have B5 := p5.below _ _ (Nat.le_refl _) B4
  have own5 := p5.own
  have hle5 := own_shape_le own5
  have hcm5 : c5 ≤ 9223372036854775807 := by
    obtain ⟨A', c', hv', _, hm'⟩ := own_shape own5
    injection hv' with _ _ hcc
    subst hcc
    exact hm'
  clear p5 own4 B4 hM2
  go_cut [62] (fun s wx => Hid (∃ X : List UInt8, X.length = N + m1 ∧ Cells wx A5 (u8s X)) ∧ Below w2.heap.size w2 wx)
  case first =>
    by_cases hz : 0 < N + m1
    · obtain ⟨gx, rfl, hgx, hgl⟩ := own_some own5 hz
      have hwb := within_bd a2 0 ((N + m1 : Nat) - 1 : Int) (by omega)
      obtain ⟨j, hj⟩ : ∃ j : Nat, within a2 0 ((N + m1 : Nat) - 1 : Int) = j := ⟨(within a2 0 ((N + m1 : Nat) - 1 : Int)).toNat, by omega⟩
      have hjl : j < N + m1 := by omega
      have hwj : within a2 0 ((N : Int) + m1 - 1) = j := by rw [← hj]; rfl
      have HWJ := hide hwj
      clear hj hwb hwj
      obtain ⟨b5, o5, y, hA5, hb5, hc5, hy⟩ := (Cells.of_own own5).byte_at (k := j) (by simp [← EN.out, hME.out]; exact hjl)
      injection hA5 with hA5
      injection hA5 with e1 e2
      subst e1; subst e2
      rw [Nat.zero_add] at hc5
      have hf5 := own5.frozenAt j
      have hxr := xor_u8 y x
      have st := own5.stored j (.int .u8 ((y ^^^ x).toNat : Int))
      obtain ⟨V, eV⟩ : ∃ V, V = (y ^^^ x).toNat := ⟨_, rfl⟩
      rw [← eV] at hxr st
      have hX : Cells (w5.setCell ⟨gx, j, none⟩ (.int .u8 (V : Int))) (some ⟨gx, 0, none⟩) (u8s ((G ++ M).set j (y ^^^ x))) := by
        have := Cells.of_own st.1
        rw [eV] at this ⊢
        rwa [show (u8s (G ++ M)).set j (.int .u8 ((y ^^^ x).toNat : Int)) = u8s ((G ++ M).set j (y ^^^ x)) by simp [u8s, List.map_set]] at this
      have BX : Below w2.heap.size w2 (w5.setCell ⟨gx, j, none⟩ (.int .u8 (V : Int))) := B5.setCell (by exact hgx) _
      have HX := hide hX
      clear hX st eV own5 hy
      have i1 : (0 : Int) < (N : Int) + m1 := by omega
      have i2 : (j : Int) < (N : Int) + m1 := by omega
      go_wp2_with fail
      refine (within_any a2 0 _ _ (by omega) (by omega) (by omega)).mono ?_
      rw [HWJ.out]
      rintro e u ⟨rfl, rfl⟩
      go_wp2_with fail
      go_meet
      exact ⟨⟨_, by simp [← EN.out, hME.out], HX.out⟩, BX⟩
    · obtain ⟨rfl, rfl⟩ : N = 0 ∧ m1 = 0 := by omega
      go_wp2_with fail
      go_meet
      exact ⟨⟨[], rfl, Cells.nil _ _⟩, B5⟩
  obtain ⟨HX, BX⟩ := hcut
  obtain ⟨X, hXl, hXc⟩ := HX.out
  have HXL := hide hXl
  have B7 := nxt B2 BX
  clear HX own5 B5 BX hXl B2
  obtain ⟨w6, ew6⟩ : ∃ w6, w6 = wc.alloc (.cells #[.int .i64 0, .int .i64 a3, .int .i64 (N : Int)] 3) := ⟨_, rfl⟩
  obtain ⟨gl, egl⟩ : ∃ g, g = wc.heap.size := ⟨_, rfl⟩
  have hlit : Cells w6 (some ⟨gl, 0, none⟩) (i64s [0, a3, (N : Int)]) := by rw [ew6, egl]; exact Cells.lit wc #[.int .i64 0, .int .i64 a3, .int .i64 (N : Int)] 3
  have B6 : Below w.heap.size w w6 := by rw [ew6]; exact nxt_alloc B7 _
  have hX6 : Cells w6 A5 (u8s X) := by rw [ew6]; exact hXc.alloc _
  go_wp2_with fail
  rw [← ew6, ← egl]
  clear ew6 egl B7 hXc
  go_loopw [78] (fun i wr => ∃ k : Nat, k ≤ 3 ∧ i = .int .i64 k ∧ Below w6.heap.size w6 wr) (fun i _ => 3 - (intOf i).toNat)
  case atStart => exact ⟨0, Nat.zero_le _, rfl, Below.refl _ _⟩
  case round =>
    obtain ⟨k, hk, rfl, B⟩ := hrel
    by_cases hlt : k < 3
    · obtain ⟨b5, o5, y, hA5, hb5, hc5, hy⟩ := (hlit.below B).int_at (k := k) hlt
      injection hA5 with hA5
      injection hA5 with e1 e2
      subst e1; subst e2
      rw [Nat.zero_add] at hc5
      have i1 : (k : Int) < 3 := by omega
      have hXr := hX6.below B
      clear hlit hX6
      go_wp2_with fail
      refine (open_any A5 (N + m1) c5 X y _ HXL.out (by omega) hle5 hcm5 hXr).mono ?_
      have hob : (openL X y).b.length ≤ 1000000000000 := by
        have := openL_len X y
        rw [HXL.out] at this
        omega
      obtain ⟨⟨ob, os, ow⟩, eo⟩ : ∃ o, o = openL X y := ⟨_, rfl⟩
      rw [← eo] at hob ⊢
      have EO := hide eo
      clear eo
      rintro e v1 ⟨A7, c7, rfl, -, hA7, -, -, hb7⟩
      have D1 := nxt B hb7
      have hX1 := hXr.below hb7
      clear B hXr hb7
      go_wp2_with fail
      refine (refOpen_any A5 (N + m1) c5 X y _ HXL.out (by omega) hle5 hcm5 hX1).mono ?_
      rw [← EO.out]
      rintro e v2 ⟨A8, c8, rfl, -, hA8, -, -, hb8⟩
      have D2 := nxt D1 hb8
      have hA78 := hA7.below hb8
      clear hb8 D1 hX1 hA7
      simp only at hA8 hA78 hob
      obtain ⟨no, eno⟩ : ∃ n, n = ob.length := ⟨_, rfl⟩
      have ENO := hide eno.symm
      simp only [← eno]
      clear eno
      have k1 := run_str (P := Try.prog) Try.underlying22 Try.underlying5 Try.underlying9 c7 ENO.out hA78
      have k2 := run_str (P := Try.prog) Try.underlying22 Try.underlying5 Try.underlying9 c8 ENO.out hA8
      go_wp2_with fail
      go_roundw
      case rel => exact ⟨k + 1, by omega, by go_num, D2⟩
      case measure => simp [intOf]; omega
    · obtain rfl : k = 3 := by omega
      go_wp2_with fail
      refine (known4_any _).mono ?_
      rintro e u1 ⟨rfl, hb⟩
      go_wp2_with fail
      go_ret
      exact ⟨rfl, nxt (nxt B6 B) hb⟩
end Go.Proofs.Ytagphgpikmlicaa
