/-
  The walk of JournalNumbers.
-/
import Derived.Test.YtfhlfnoiknhleaaTurned23
namespace Go.Proofs.Ytfhlfnoiknhleaa
open Go.RowKit
set_option linter.unusedVariables false

theorem jd_append_long (B d j : Nat) (l : List UInt8) (s k : Nat) (A : Option Addr) (n c : Nat) (w : World) (hn : 255 < n) (hl : n ≤ 9223372036854775807) :
    Calls Try.prog 11 #[.pointer (some ⟨j, 0, none⟩), .slice A n c] w fun e w' => e = .returned (.int .i64 3) ∧ w = w' := by
  go_enter Try.func11, Try.ntmps11
  go_wp2_with fail
  refine (frame_long A n c _ hn hl).mono ?_
  rintro e u ⟨rfl, rfl⟩
  go_wp2_with fail
  go_ret
  exact ⟨rfl, rfl⟩
theorem dk_bytes (B d : Nat) (l : List UInt8) (s : Nat) (w : World) (h : DK B w d l s) :
    Calls Try.prog 12 #[.pointer (some ⟨d, 0, none⟩)] w (FreshB w l) := by
  obtain ⟨⟨r, D⟩, hd⟩ := h
  exact bytes_any d r l s w D
theorem zeros_u8 (n : Nat) : List.replicate n (Value.int .u8 0) = u8s (List.replicate n 0) := by simp [u8s]
def zeros255 : List UInt8 := List.replicate 255 0
theorem z255 : zeros255.length = 255 := List.length_replicate ..
def twoF : List UInt8 := frameL zeros255 ++ frameL [120]
theorem twoF_len : twoF.length = 268 := by simp [twoF, length_frameL, z255]
theorem twoF_eq : twoF = framesC [zeros255, [120]] := by simp [twoF, framesC]
theorem le_two : ∀ b ∈ [zeros255, ([120] : List UInt8)], b.length ≤ 255 := by
  intro b hb
  simp only [List.mem_cons, List.not_mem_nil, or_false] at hb
  rcases hb with rfl | rfl
  · rw [z255]; omega
  · decide
theorem scan_two : scanL (twoF ++ [5]) 0 = ⟨[zeros255, [120]], 268, 0⟩ := by
  rw [twoF_eq, scan_frames _ _ 0 le_two, ← twoF_eq, twoF_len, scan_end (by simp) rfl]
  rfl
theorem scan_three : scanL (twoF ++ frameL [121]) 0 = ⟨[zeros255, [120], [121]], 275, 0⟩ := by
  have e : twoF ++ frameL [121] = framesC [zeros255, [120], [121]] := by simp [twoF, framesC]
  have h : (framesC [zeros255, [120], [121]]).length = 275 := by rw [← e, List.length_append, twoF_len, length_frameL]; rfl
  rw [e, scan_all, h]
  intro b hb
  simp only [List.mem_cons, List.not_mem_nil, or_false] at hb
  rcases hb with rfl | rfl | rfl
  · rw [z255]; omega
  · decide
  · decide
theorem recs_two (w : World) (m1 m2 m3 : Nat × Nat) : Recs (((w.alloc (.cells #[.int .u8 111, .int .u8 110, .int .u8 101] 5 m1)).alloc (.cells #[.int .u8 116, .int .u8 119, .int .u8 111] 5 m2)).alloc (.cells #[.slice (some ⟨w.heap.size, 0, none⟩) 3 3, .slice (some ⟨w.heap.size + 1, 0, none⟩) 3 3] 30 m3)) (some ⟨w.heap.size + 2, 0, none⟩) 2 2 [[111, 110, 101], [116, 119, 111]] := by
  have h1 := ((Cells.litm w #[.int .u8 111, .int .u8 110, .int .u8 101] 5 m1).alloc (.cells #[.int .u8 116, .int .u8 119, .int .u8 111] 5 m2)).alloc (.cells #[.slice (some ⟨w.heap.size, 0, none⟩) 3 3, .slice (some ⟨w.heap.size + 1, 0, none⟩) 3 3] 30 m3)
  have h2 := (Cells.litm (w.alloc (.cells #[.int .u8 111, .int .u8 110, .int .u8 101] 5 m1)) #[.int .u8 116, .int .u8 119, .int .u8 111] 5 m2).alloc (.cells #[.slice (some ⟨w.heap.size, 0, none⟩) 3 3, .slice (some ⟨w.heap.size + 1, 0, none⟩) 3 3] 30 m3)
  rw [show (w.alloc (.cells #[.int .u8 111, .int .u8 110, .int .u8 101] 5 m1)).heap.size = w.heap.size + 1 by simp] at h2
  have h3 := Cells.litm ((w.alloc (.cells #[.int .u8 111, .int .u8 110, .int .u8 101] 5 m1)).alloc (.cells #[.int .u8 116, .int .u8 119, .int .u8 111] 5 m2)) #[.slice (some ⟨w.heap.size, 0, none⟩) 3 3, .slice (some ⟨w.heap.size + 1, 0, none⟩) 3 3] 30 m3
  rw [show ((w.alloc (.cells #[.int .u8 111, .int .u8 110, .int .u8 101] 5 m1)).alloc (.cells #[.int .u8 116, .int .u8 119, .int .u8 111] 5 m2)).heap.size = w.heap.size + 2 by simp] at h3
  obtain ⟨b, o, ha, hb, hc⟩ := h3 (by simp)
  injection ha with ha
  injection ha with e1 e2
  subst e1; subst e2
  refine ⟨rfl, Nat.le_refl _, fun i hi => ?_⟩
  rcases i with _ | _ | i
  · exact ⟨_, 0, _, 3, [111, 110, 101], rfl, hb, hc 0 _ rfl, h1, by decide, by omega, rfl⟩
  · exact ⟨_, 0, _, 3, [116, 119, 111], rfl, hb, hc 1 _ rfl, h2, by decide, by omega, rfl⟩
  · omega
def oneTwo : List UInt8 := frameL [111, 110, 101] ++ frameL [116, 119, 111]
theorem oneTwo_len : oneTwo.length = 18 := by simp [oneTwo, length_frameL]
theorem oneTwo_eq : framesC (cutR [[111, 110, 101], [116, 119, 111]] 20) = oneTwo := by simp [oneTwo, cutR, framesC]
theorem scan_onebad {y : UInt8} (hy : oneTwo[3]? = some y) : scanL (oneTwo.set 3 (y ^^^ 1)) 0 = ⟨[], 0, 14⟩ := by
  have h3 : 3 < (frameL [111, 110, 101]).length := by rw [length_frameL]; decide
  unfold oneTwo at hy ⊢
  rw [List.getElem?_append_left h3] at hy
  rw [set_cases, if_pos h3]
  have hne : y ^^^ 1 ≠ y := by
    intro he
    have h9 : y ^^^ (y ^^^ 1) = y ^^^ y := by rw [he]
    rw [← UInt8.xor_assoc, UInt8.xor_self, UInt8.zero_xor] at h9
    exact absurd h9 (by decide)
  have ho := openF_turned [111, 110, 101] (by decide) (frameL [116, 119, 111]) 3 y (y ^^^ 1) hy hne 0
  exact scan_bad (by
    intro h0
    have := congrArg List.length h0
    rw [List.length_append, List.length_set, length_frameL] at this
    simp at this) (by rw [ho]; decide) (by rw [ho]; decide)
set_option maxRecDepth 100000 in
set_option maxHeartbeats 1600000 in
theorem journalNumbers_walk (w : World) : Calls Try.prog 3 #[] w fun e w' => e = .returned (.bool true) ∧ Below w.heap.size w w' := by
  have kc := fun (w : World) (C : Array Value) (n c : Nat) => Lib.run_convert_bytes_const (P := Try.prog) w 30 5 C n c Try.underlying30 Try.underlying5
  have kc2 := fun (w : World) (o : Obj) (C : Array Value) (n c : Nat) => (show (w.alloc o).heap.size = w.heap.size + 1 by simp) ▸ Lib.run_convert_bytes_const (P := Try.prog) (w.alloc o) 30 5 C n c Try.underlying30 Try.underlying5
  go_enter Try.func3, Try.ntmps3
  go_wp2_with fail
  refine (jopen_nil _).mono ?_
  rintro e u ⟨rfl, rfl⟩
  go_wp2_with fail
  refine (dk_new _).mono ?_
  rintro e w1 ⟨d, rfl, D1, B1⟩
  go_wp2_with fail
  refine (jd_open _ d _ _ _ [] 0 0 D1 rfl rfl).mono ?_
  rintro e w2 ⟨j, A2, c2, vs2, rfl, J2, -, -, -, b2⟩
  have B2 := B1.trans b2
  clear D1 B1 b2
  go_wp2_with (at_make
               refine wpList_mk elU8 (n := 256) rfl _ _ rfl rfl rfl rfl (by omega) ?_
               intro w3 own3 g3 b3)
  have b3' := b3 _ _ (Nat.le_refl _) (Below.refl _ _)
  have B3 := nxt B2 b3'
  have J3 := J2.below b3'
  clear own3 g3 b3 b3' J2 B2
  refine (jd_append_long 0 d j [] 0 0 _ 256 256 _ (by omega) (by omega)).mono ?_
  rintro e u ⟨rfl, rfl⟩
  go_wp2_with (at_make
               refine wpList_mk elU8 (n := 255) rfl _ _ rfl rfl rfl rfl (by omega) ?_
               intro w4 own4 g4 b4)
  have b4' := b4 _ _ (Nat.le_refl _) (Below.refl _ _)
  have B4 := nxt B3 b4'
  have J4 := J3.below b4'
  have hZ := Cells.of_own own4
  rw [zeros_u8] at hZ
  clear own4 g4 b4 b4' J3 B3
  refine (jd_append _ d j _ zeros255 _ _ _ 255 255 _ J4 z255 (by omega) (by omega) (by simp) hZ).mono ?_
  rintro e w5 ⟨rfl, J5, b5⟩
  have B5 := B4.trans b5
  clear J4 B4 b5 hZ
  have hl5 : (List.take 0 ([] : List UInt8) ++ frameL zeros255).length = 261 := by simp [length_frameL, z255]
  go_wp2_with fail
  refine (dk_bytes _ d _ _ _ J5.dk).mono ?_
  intro e w6 h6
  obtain ⟨A6, c6, rfl, -, -, -, -, b6⟩ := h6.n hl5
  have B6 := nxt B5 b6
  have J6 := J5.below b6
  clear J5 B5 b6 h6
  go_wp2_with fail
  refine (jd_append _ d j _ [120] _ _ _ 1 1 _ (J6.below (nxt_alloc (Below.refl _ _) _)) rfl (by omega) (by omega) (by rw [hl5]; omega) (Cells.litm w6 #[.int .u8 120] _ _)).mono ?_
  rintro e w7 ⟨rfl, J7, b7⟩
  have B7 := (nxt_alloc B6 _).trans b7
  rw [show List.take 0 ([] : List UInt8) ++ frameL zeros255 ++ frameL [120] = twoF by simp [twoF]] at J7
  clear J6 B6 b7 hl5
  go_wp2_with fail
  refine (dk_append _ d _ [5] _ _ 1 1 _ (J7.dk.below (nxt_alloc (Below.refl _ _) _)) rfl (by rw [twoF_len]; omega) (Cells.lit w7 #[.int .u8 5] _)).mono ?_
  rintro e w8 ⟨rfl, D8, b8⟩
  have B8 := (nxt_alloc B7 _).trans b8
  clear J7 B7 b8
  go_wp2_with fail
  refine (jd_open _ d _ _ _ _ _ 2 D8 scan_two rfl).mono ?_
  rintro e w9 ⟨k, A9, c9, vs9, rfl, J9, -, -, -, b9⟩
  have B9 := B8.trans b9
  rw [show List.take 268 (twoF ++ ([5] : List UInt8)) = twoF from by rw [← twoF_len]; exact List.take_left] at J9
  clear D8 B8 b9
  go_wp2_with fail
  refine (jd_append _ d k _ [121] _ _ _ 1 1 _ (J9.below (nxt_alloc (Below.refl _ _) _)) rfl (by omega) (by omega) (by rw [twoF_len]; omega) (Cells.litm w9 #[.int .u8 121] _ _)).mono ?_
  rintro e w10 ⟨rfl, J10, b10⟩
  have B10 := (nxt_alloc B9 _).trans b10
  have D10 := J10.dk
  clear J9 B9 b10 J10
  go_wp2_with fail
  refine (jd_open _ d _ _ _ _ _ 3 D10 scan_three rfl).mono ?_
  rintro e w11 ⟨k2, A11, c11, vs11, rfl, -, -, -, -, b11⟩
  have B11 := B10.trans b11
  clear D10 B10 b11
  go_wp2_with fail
  refine (frames_any _ 2 2 _ _ (recs_two w11 _ _ _) (by omega)).mono ?_
  rw [oneTwo_eq]
  have B11' := nxt_alloc (nxt_alloc (nxt_alloc B11 (.cells #[.int .u8 111, .int .u8 110, .int .u8 101] 5 (3, 4))) (.cells #[.int .u8 116, .int .u8 119, .int .u8 111] 5 (3, 4))) (.cells #[.slice (some ⟨w11.heap.size, 0, none⟩) 3 3, .slice (some ⟨w11.heap.size + 1, 0, none⟩) 3 3] 30)
  intro e w12 h12
  obtain ⟨AF, cF, rfl, own12, hF, hFc, hFm, b12⟩ := h12.n oneTwo_len
  have B12 := nxt B11' b12
  have own := own_base own12 B11'.size
  change w12.ownsRow w.heap.size 5 1 (.slice AF 18 cF) 18 (u8s oneTwo) at own
  clear h12 b12 B11 B11' own12 hF
  obtain ⟨gx, rfl, hgx, hgl⟩ := own_some own (show 0 < 18 by omega)
  obtain ⟨b5, o5, y, hA5, hb5, hc5, hy⟩ := (Cells.of_own own).byte_at (k := 3) (by rw [oneTwo_len]; omega)
  injection hA5 with hA5
  injection hA5 with e1 e2
  subst e1; subst e2
  rw [Nat.zero_add] at hc5
  have hf5 := own.frozenAt 3
  have hxr : bits .xor .u8 (y.toNat : Int) 1 = ((y ^^^ 1).toNat : Int) := xor_u8' y 1
  have st := own.stored 3 (.int .u8 ((y ^^^ 1).toNat : Int))
  have hset : (u8s oneTwo).set 3 (.int .u8 ((y ^^^ 1).toNat : Int)) = u8s (oneTwo.set 3 (y ^^^ 1)) := by simp [u8s, List.map_set]
  rw [hset] at st
  have hbad := scan_onebad hy.out
  obtain ⟨V, eV⟩ : ∃ V, V = (y ^^^ 1).toNat := ⟨_, rfl⟩
  obtain ⟨X, eX⟩ : ∃ X, X = oneTwo.set 3 (y ^^^ 1) := ⟨_, rfl⟩
  have hXl : X.length = 18 := by rw [eX, List.length_set]; exact oneTwo_len
  rw [← eV] at hxr st
  rw [← eX] at hbad st
  have BX : Below w.heap.size w (w12.setCell ⟨gx, 3, none⟩ (.int .u8 (V : Int))) := B12.setCell (by exact hgx) _
  have HXC := hide (Cells.of_own st.1)
  have HXL := hide hXl
  have HBAD := hide hbad
  have hcm : cF ≤ 9223372036854775807 := hFm
  clear st eV eX hset hXl hbad own hy B12
  go_wp2_with fail
  refine (scan_any _ 18 cF X _ HXL.out (by omega) hFc hcm HXC.out).mono ?_
  rw [HBAD.out]
  obtain ⟨w13, ew13⟩ : ∃ w13, w13 = w12.setCell ⟨gx, 3, none⟩ (.int .u8 (V : Int)) := ⟨_, rfl⟩
  rw [← ew13] at BX HXC ⊢
  clear ew13
  rintro e w14 ⟨A14, n14, c14, vs14, rfl, hn14, -, -, -, -, b14⟩
  obtain rfl : 0 = n14 := hn14
  have B14 := nxt BX b14
  have hX14 := HXC.out.below b14
  clear b14 BX HXC hFc hFm
  go_wp2_with fail
  refine (dk_new _).mono ?_
  rintro e w15 ⟨d2, rfl, D15, b15⟩
  have hX15 := hX14.below b15
  have hs14 := B14.size
  have B15 := nxt B14 b15
  clear b15 hX14 B14
  go_wp2_with fail
  refine (dk_append _ d2 [] X 0 _ 18 cF _ D15 HXL.out (by simp) hX15).mono ?_
  rintro e w16 ⟨rfl, D16, b16⟩
  have B16 := B15.trans (b16.mono hs14)
  rw [List.nil_append] at D16
  clear D15 b16 hX15 B15
  go_wp2_with fail
  refine (jd_open_bad _ d2 X 0 14 _ D16 (by rw [HBAD.out]) (by omega)).mono ?_
  rintro e w17 ⟨rfl, hb⟩
  have B17 := nxt B16 hb
  clear hb D16 B16
  go_wp2_with fail
  refine (known23_any _).mono ?_
  rintro e w18 ⟨rfl, hb⟩
  go_wp2_with fail
  go_ret
  exact ⟨rfl, nxt B17 hb⟩
end Go.Proofs.Ytfhlfnoiknhleaa
