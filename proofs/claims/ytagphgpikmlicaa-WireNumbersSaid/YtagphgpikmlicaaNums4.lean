/-
  The walk of WireNumbers.
-/
import Derived.Test.YtagphgpikmlicaaGet4
import Derived.Test.YtagphgpikmlicaaKnown4
import Derived.Deep.DeepCutAuto
namespace Go.Proofs.Ytagphgpikmlicaa
open Go.RowKit
set_option linter.unusedVariables false

/-- A slice of a few bytes. -/
def Few (w : World) (v : Value) : Prop := ∃ A n c l, v = .slice A n c ∧ (l : List UInt8).length = n ∧ n ≤ c ∧ c ≤ 1000 ∧ Cells w A (u8s l) ∧ ∀ a, A = some a → a.block < w.heap.size
theorem Few.below {w w' : World} {v : Value} (h : Few w v) (hb : Below w.heap.size w w') : Few w' v := by
  obtain ⟨A, n, c, l, hv, hl, hn, hc, hA, ha⟩ := h
  exact ⟨A, n, c, l, hv, hl, hn, hc, hA.below hb, fun a h => Nat.lt_of_lt_of_le (ha a h) hb.size⟩
theorem Few.nil (w : World) : Few w (.slice none 0 0) := ⟨none, 0, 0, [], rfl, rfl, Nat.le_refl _, by omega, Cells.nil _ _, fun a h => by cases h⟩
theorem Few.lit (w : World) (l : List UInt8) (h : l.length ≤ 1000) : Few (w.alloc (.cells (u8s l).toArray 5)) (.slice (some ⟨w.heap.size, 0, none⟩) l.length l.length) := by
  refine ⟨_, _, _, l, rfl, rfl, Nat.le_refl _, h, ?_, fun a ha => by injection ha with ha; subst ha; simp⟩
  have := Cells.lit w (u8s l).toArray 5
  simpa using this
def zeros255 : List UInt8 := List.replicate 255 0
theorem open_255 : openL (frameL zeros255) 0 = ⟨zeros255, 261, 0⟩ := by
  have hl : zeros255.length = 255 := List.length_replicate ..
  have h := openL_frame [] zeros255 [] (by rw [hl]; omega)
  rw [List.nil_append, List.append_nil, hl] at h
  exact h
theorem open_nil0 : openL [] 0 = ⟨[], 0, 10⟩ := by kernel_rfl
theorem open_nil1 : openL [] 1 = ⟨[], 0, 1⟩ := by kernel_rfl
theorem open_a : openL [1, 255, 0, 0, 0, 0, 0] 0 = ⟨[], 0, 14⟩ := by kernel_rfl
theorem open_b : openL [1, 254, 0, 0, 0, 0] 0 = ⟨[], 0, 10⟩ := by kernel_rfl
theorem open_c : openL [1, 254, 0, 0, 0, 0, 0] 0 = ⟨[], 0, 14⟩ := by kernel_rfl
theorem zeros_u8 (n : Nat) : List.replicate n (Value.int .u8 0) = u8s (List.replicate n 0) := by simp [u8s]
set_option maxRecDepth 100000 in
set_option maxHeartbeats 1600000 in
theorem wireNumbers_walk (w : World) : Calls Try.prog 7 #[] w fun e w' => e = .returned (.bool true) ∧ Below w.heap.size w w' := by
  go_enter Try.func7, Try.ntmps7
  go_wp2_with (at_make
               refine wpList_mk elU8 (n := 256) rfl _ _ rfl rfl rfl rfl (by omega) ?_
               intro w1 own1 g1 b1)
  have B1 := b1 _ _ (Nat.le_refl _) (Below.refl _ _)
  clear own1 g1 b1
  refine (frame_long _ 256 256 _ (by omega) (by omega)).mono ?_
  rintro e u ⟨rfl, rfl⟩
  go_wp2_with (at_make
               refine wpList_mk elU8 (n := 255) rfl _ _ rfl rfl rfl rfl (by omega) ?_
               intro w2 own2 g2 b2)
  have B2 := nxt B1 (b2 _ _ (Nat.le_refl _) (Below.refl _ _))
  have hZ := Cells.of_own own2
  rw [zeros_u8] at hZ
  clear own2 g2 b2 B1
  refine (frame_ok _ 255 255 zeros255 _ (List.length_replicate ..) (by omega) hZ).mono ?_
  have hfl : (frameL zeros255).length = 261 := by rw [length_frameL]; rfl
  obtain ⟨X, eX⟩ : ∃ X, X = frameL zeros255 := ⟨_, rfl⟩
  have hop := open_255
  rw [← eX] at hfl hop ⊢
  clear eX
  have HX := hide hfl
  have HOP := hide hop
  rintro e w3 ⟨A3, c3, rfl, -, h3, hle3, hmx3, hb⟩
  rw [hfl] at hle3 ⊢
  have B3 := nxt B2 hb
  clear hb hZ B2 hop hfl
  go_wp2_with fail
  refine (open_any A3 261 c3 X 0 _ HX.out (by omega) hle3 (by unfold maxLen at hmx3; omega) h3).mono ?_
  rw [HOP.out]
  rintro e w4 ⟨A4, c4, rfl, -, -, -, -, hb⟩
  have B4 := nxt B3 hb
  clear hb h3 B3
  go_wp2_with fail
  refine (open_any none 0 0 [] 0 _ rfl (by omega) (by omega) (by omega) (Cells.nil _ _)).mono ?_
  rw [open_nil0]
  rintro e w5 ⟨A5, c5, rfl, -, -, -, -, hb⟩
  have B5 := nxt B4 hb
  clear hb B4
  go_wp2_with fail
  refine (open_any none 0 0 [] 1 _ rfl (by omega) (by omega) (by omega) (Cells.nil _ _)).mono ?_
  rw [open_nil1]
  rintro e w6 ⟨A6, c6, rfl, -, -, -, -, hb⟩
  have B6 := nxt B5 hb
  clear hb B5
  go_wp2_with fail
  refine (open_any _ 7 7 [1, 255, 0, 0, 0, 0, 0] 0 _ rfl (by omega) (by omega) (by omega) (Cells.lit w6 #[.int .u8 1, .int .u8 255, .int .u8 0, .int .u8 0, .int .u8 0, .int .u8 0, .int .u8 0] 5)).mono ?_
  rw [open_a]
  rintro e w7 ⟨A7, c7, rfl, -, -, -, -, hb⟩
  have B7 := nxt (nxt_alloc B6 _) hb
  clear hb B6
  go_wp2_with fail
  refine (open_any _ 6 6 [1, 254, 0, 0, 0, 0] 0 _ rfl (by omega) (by omega) (by omega) (Cells.lit w7 #[.int .u8 1, .int .u8 254, .int .u8 0, .int .u8 0, .int .u8 0, .int .u8 0] 5)).mono ?_
  rw [open_b]
  rintro e w8 ⟨A8, c8, rfl, -, -, -, -, hb⟩
  have B8 := nxt (nxt_alloc B7 _) hb
  clear hb B7
  go_wp2_with fail
  refine (open_any _ 7 7 [1, 254, 0, 0, 0, 0, 0] 0 _ rfl (by omega) (by omega) (by omega) (Cells.lit w8 #[.int .u8 1, .int .u8 254, .int .u8 0, .int .u8 0, .int .u8 0, .int .u8 0, .int .u8 0] 5)).mono ?_
  rw [open_c]
  rintro e w9 ⟨A9, c9, rfl, -, -, -, -, hb⟩
  have B9 := nxt (nxt_alloc B8 _) hb
  clear hb B8
  obtain ⟨v1, e1⟩ : ∃ v, v = w9.alloc (.cells #[.int .u8 5] 5) := ⟨_, rfl⟩
  have hb1 : Below w9.heap.size w9 v1 := by rw [e1]; exact nxt_alloc (Below.refl _ _) _
  have z1 : v1.heap.size = w9.heap.size + 1 := by rw [e1, World.size_alloc]
  obtain ⟨g1, eg1⟩ : ∃ g, g = w9.heap.size := ⟨_, rfl⟩
  have F1 : Few v1 (.slice (some ⟨g1, 0, none⟩) 1 1) := by rw [e1, eg1]; exact Few.lit w9 [5] (by decide)
  obtain ⟨v2, e2⟩ : ∃ v, v = v1.alloc (.cells #[.int .u8 1, .int .u8 2] 5) := ⟨_, rfl⟩
  have hb2 : Below v1.heap.size v1 v2 := by rw [e2]; exact nxt_alloc (Below.refl _ _) _
  have z2 : v2.heap.size = w9.heap.size + 2 := by rw [e2, World.size_alloc, z1]
  obtain ⟨g2, eg2⟩ : ∃ g, g = w9.heap.size + 1 := ⟨_, rfl⟩
  have F2 : Few v2 (.slice (some ⟨g2, 0, none⟩) 2 2) := by rw [e2, eg2, ← z1]; exact Few.lit v1 [1, 2] (by decide)
  obtain ⟨v3, e3⟩ : ∃ v, v = v2.alloc (.cells #[.int .u8 0] 5) := ⟨_, rfl⟩
  have hb3 : Below v2.heap.size v2 v3 := by rw [e3]; exact nxt_alloc (Below.refl _ _) _
  have z3 : v3.heap.size = w9.heap.size + 3 := by rw [e3, World.size_alloc, z2]
  obtain ⟨g3, eg3⟩ : ∃ g, g = w9.heap.size + 2 := ⟨_, rfl⟩
  have F3 : Few v3 (.slice (some ⟨g3, 0, none⟩) 1 1) := by rw [e3, eg3, ← z2]; exact Few.lit v2 [0] (by decide)
  obtain ⟨v4, e4⟩ : ∃ v, v = v3.alloc (.cells #[.int .u8 3, .int .u8 97, .int .u8 98] 5) := ⟨_, rfl⟩
  have hb4 : Below v3.heap.size v3 v4 := by rw [e4]; exact nxt_alloc (Below.refl _ _) _
  have z4 : v4.heap.size = w9.heap.size + 4 := by rw [e4, World.size_alloc, z3]
  obtain ⟨g4, eg4⟩ : ∃ g, g = w9.heap.size + 3 := ⟨_, rfl⟩
  have F4 : Few v4 (.slice (some ⟨g4, 0, none⟩) 3 3) := by rw [e4, eg4, ← z3]; exact Few.lit v3 [3, 97, 98] (by decide)
  obtain ⟨v5, e5⟩ : ∃ v, v = v4.alloc (.cells #[.int .u8 1, .int .u8 2, .int .u8 3, .int .u8 4, .int .u8 5, .int .u8 6, .int .u8 7] 5) := ⟨_, rfl⟩
  have hb5 : Below v4.heap.size v4 v5 := by rw [e5]; exact nxt_alloc (Below.refl _ _) _
  have z5 : v5.heap.size = w9.heap.size + 5 := by rw [e5, World.size_alloc, z4]
  obtain ⟨g5, eg5⟩ : ∃ g, g = w9.heap.size + 4 := ⟨_, rfl⟩
  have F5 : Few v5 (.slice (some ⟨g5, 0, none⟩) 7 7) := by rw [e5, eg5, ← z4]; exact Few.lit v4 [1, 2, 3, 4, 5, 6, 7] (by decide)
  obtain ⟨v6, e6⟩ : ∃ v, v = v5.alloc (.cells #[.int .u8 1, .int .u8 2, .int .u8 3, .int .u8 4, .int .u8 5, .int .u8 6, .int .u8 7, .int .u8 8] 5) := ⟨_, rfl⟩
  have hb6 : Below v5.heap.size v5 v6 := by rw [e6]; exact nxt_alloc (Below.refl _ _) _
  have z6 : v6.heap.size = w9.heap.size + 6 := by rw [e6, World.size_alloc, z5]
  obtain ⟨g6, eg6⟩ : ∃ g, g = w9.heap.size + 5 := ⟨_, rfl⟩
  have F6 : Few v6 (.slice (some ⟨g6, 0, none⟩) 8 8) := by rw [e6, eg6, ← z5]; exact Few.lit v5 [1, 2, 3, 4, 5, 6, 7, 8] (by decide)
  obtain ⟨v7, e7⟩ : ∃ v, v = v6.alloc (.cells #[.slice none 0 0, .slice (some ⟨g1, 0, none⟩) 1 1, .slice (some ⟨g2, 0, none⟩) 2 2, .slice (some ⟨g3, 0, none⟩) 1 1, .slice (some ⟨g4, 0, none⟩) 3 3, .slice (some ⟨g5, 0, none⟩) 7 7, .slice (some ⟨g6, 0, none⟩) 8 8] 22) := ⟨_, rfl⟩
  have hb7 : Below v6.heap.size v6 v7 := by rw [e7]; exact nxt_alloc (Below.refl _ _) _
  obtain ⟨gl, egl⟩ : ∃ g, g = w9.heap.size + 6 := ⟨_, rfl⟩
  have R1 := ((((((F1.below hb2).below hb3).below hb4).below hb5).below hb6).below hb7)
  have R2 := (((((F2.below hb3).below hb4).below hb5).below hb6).below hb7)
  have R3 := ((((F3.below hb4).below hb5).below hb6).below hb7)
  have R4 := (((F4.below hb5).below hb6).below hb7)
  have R5 := ((F5.below hb6).below hb7)
  have R6 := (F6.below hb7)
  have hlist : ∀ i, i < 7 → ∃ v, v7.cell? ⟨gl, i, none⟩ = some v ∧ Few v7 v := by
    intro i hi
    have hc : ∀ j v, (#[.slice none 0 0, .slice (some ⟨g1, 0, none⟩) 1 1, .slice (some ⟨g2, 0, none⟩) 2 2, .slice (some ⟨g3, 0, none⟩) 1 1, .slice (some ⟨g4, 0, none⟩) 3 3, .slice (some ⟨g5, 0, none⟩) 7 7, .slice (some ⟨g6, 0, none⟩) 8 8] : Array Value)[j]? = some v → v7.cell? ⟨gl, j, none⟩ = some v := fun j v hv => by rw [e7, World.cell?_alloc_at _ _ _ _ (egl.trans z6.symm)]; exact hv
    rcases i with _ | _ | _ | _ | _ | _ | _ | i
    · exact ⟨_, hc 0 _ rfl, Few.nil _⟩
    · exact ⟨_, hc 1 _ rfl, R1⟩
    · exact ⟨_, hc 2 _ rfl, R2⟩
    · exact ⟨_, hc 3 _ rfl, R3⟩
    · exact ⟨_, hc 4 _ rfl, R4⟩
    · exact ⟨_, hc 5 _ rfl, R5⟩
    · exact ⟨_, hc 6 _ rfl, R6⟩
    · omega
  have B10 : Below w.heap.size w v7 := nxt (nxt (nxt (nxt (nxt (nxt (nxt B9 hb1) hb2) hb3) hb4) hb5) hb6) hb7
  have HLI := hide hlist
  have hgl : gl < v7.heap.size := by rw [e7, egl, World.size_alloc, z6]; omega
  clear hlist F1 F2 F3 F4 F5 F6 R1 R2 R3 R4 R5 R6 hb1 hb2 hb3 hb4 hb5 hb6 hb7 B9
  go_wp2_with fail
  clear z1 z2 z3 z4 z5 z6
  rw [← egl]
  rw [← eg6]
  rw [← eg5]
  rw [← eg4]
  rw [← eg3]
  rw [← eg2]
  rw [← eg1]
  rw [← e1]
  rw [← e2]
  rw [← e3]
  rw [← e4]
  rw [← e5]
  rw [← e6]
  rw [← e7]
  clear e1 e2 e3 e4 e5 e6 e7 egl eg1 eg2 eg3 eg4 eg5 eg6
  go_loopw [80] (fun i wr => ∃ k : Nat, k ≤ 7 ∧ i = .int .i64 k ∧ Below v7.heap.size v7 wr) (fun i _ => 7 - (intOf i).toNat)
  case atStart => exact ⟨0, Nat.zero_le _, rfl, Below.refl _ _⟩
  case round =>
    obtain ⟨k, hk, rfl, B⟩ := hrel
    obtain ⟨wo, rfl⟩ : ∃ wo, wo = wr := ⟨_, rfl⟩
    by_cases hlt : k < 7
    · obtain ⟨v, hv', hfew'⟩ := HLI.out k hlt
      have hv := (B.cell (p := ⟨gl, k, none⟩) hgl).trans hv'
      have hfew := hide (hfew'.below B)
      have i1 : (k : Int) < 7 := by omega
      clear hv' hfew'
      go_wp2_with fail
      go_loopw [25] (fun i wq => ∃ j : Int, 1 ≤ j ∧ j ≤ 4 ∧ i = .int .i64 j ∧ Below wo.heap.size wo wq) (fun i _ => (4 - intOf i).toNat)
      case atStart => exact ⟨1, by omega, by omega, rfl, Below.refl _ _⟩
      case round =>
        obtain ⟨j, hj1, hj4, rfl, BB⟩ := hrel
        by_cases hlj : j ≤ 3
        · obtain ⟨A, n, c, l, rfl, hl, hn, hc, hA, ha⟩ := hfew.out.below BB
          have HL := hide hl
          have HA := hide ha
          clear hl ha hv hfew
          go_wp2_with fail
          refine (newReader_any A n c l _ HL.out (by omega) hA).mono ?_
          rintro e w10 ⟨d1, rfl, hd1, R1, hb7⟩
          obtain ⟨w8', ew8⟩ : ∃ w8, w8 = w10.alloc (.cells #[.slice A n c, .int .i64 0, .int .i64 0] 42) := ⟨_, rfl⟩
          obtain ⟨d2, ed2⟩ : ∃ d, d = w10.heap.size := ⟨_, rfl⟩
          have hd12 : d1 < d2 := by have := R1.lt; omega
          have hb78 : Below w10.heap.size w10 w8' := by rw [ew8]; exact nxt_alloc (Below.refl _ _) _
          have hBoth : Both w8' d1 d2 wr.heap.size ⟨l, false⟩ := by
            refine ⟨R1.below hb78, ?_, hd12, hd1, by show l.length ≤ _; have := HL.out; omega⟩
            rw [ew8, ed2]
            exact RefAt.new HL.out (hA.below hb7) HA.out hb7.size hn (by omega)
          have D1 := nxt BB (nxt hb7 hb78)
          have hdw : wo.heap.size ≤ d1 := Nat.le_trans BB.size hd1
          clear R1 hb7 hb78 hA BB
          go_upto_region 17 with (fail)
          rw [← ew8, ← ed2]
          clear ew8 ed2
          go_wp2_with fail
          refine (get4_any d1 d2 wr.heap.size ⟨l, false⟩ j _ hBoth).mono ?_
          rintro e x1 ⟨rfl, hB1, hx1⟩
          have D2 := D1.trans (hx1.mono hdw)
          clear hBoth D1 hx1
          go_wp2_with fail
          refine (get4_any d1 d2 wr.heap.size _ 1 _ hB1).mono ?_
          rintro e x2 ⟨rfl, hB2, hx2⟩
          have D3 := D2.trans (hx2.mono hdw)
          clear hB1 D2 hx2
          go_wp2_with fail
          refine (get4_any d1 d2 wr.heap.size _ 3 _ hB2).mono ?_
          rintro e x3 ⟨rfl, hB3, hx3⟩
          have D4 := D3.trans (hx3.mono hdw)
          clear hB2 hB3 D3 hx3
          go_wp2_with fail
          go_roundw
          case rel => exact ⟨j + 1, by omega, by omega, by go_num, D4⟩
          case measure => simp [intOf]; omega
        · go_wp2_with fail
          go_roundw
          case rel => exact ⟨k + 1, by omega, by go_num, nxt B BB⟩
          case measure => simp [intOf]; omega
    · have i1 : ¬ (k : Int) < 7 := by omega
      go_wp2_with fail
      refine (known4_any _).mono ?_
      rintro e w10 ⟨rfl, hb⟩
      go_wp2_with fail
      go_ret
      exact ⟨rfl, nxt (nxt B10 B) hb⟩
end Go.Proofs.Ytagphgpikmlicaa
