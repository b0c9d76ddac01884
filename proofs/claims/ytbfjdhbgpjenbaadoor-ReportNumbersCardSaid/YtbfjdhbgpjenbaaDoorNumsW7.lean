/-
  The walk of ReportNumbers. (Printed by tools/gen7n.py.)
-/
import Derived.Test.YtbfjdhbgpjenbaaDoorTellsW7
import Derived.Test.YtbfjdhbgpjenbaaDoorTree
namespace Go.Proofs.YtbfjdhbgpjenbaaDoor
set_option linter.unusedSimpArgs false
open Go.RowKit
set_option linter.unusedVariables false

def nums8 : List Int := [-1, 0, 1, 2, 3, 254, 255, 256]
theorem nums8_in : ∀ x ∈ nums8, inI x := by
  intro x hx
  simp only [nums8, List.mem_cons, List.not_mem_nil, or_false] at hx
  unfold inI
  omega
theorem lower_allocB7 {B : Nat} {w : World} (hb : B ≤ w.heap.size) (o : Obj) : Below B w (w.alloc o) := (Below.refl B w).alloc hb o
theorem own_room7 {w : World} {base : Nat} {e : TypeId} {size : Nat} {A : Option Addr} {n c : Nat} {xs : List Value} (h : w.ownsRow base e size (.slice A n c) n xs) : n ≤ c ∧ c ≤ 9223372036854775807 := by
  obtain ⟨A', c', hv, h1, h2⟩ := own_shape h
  injection hv with _ _ hc
  subst hc
  exact ⟨h1, h2⟩
theorem cells_grown7 {w w' : World} {base n : Nat} {e : TypeId} {v : Value} {xs cs : List Value} {A A' : Option Addr} {c' : Nat} (p : Appended w base e v n xs A' c' w') (hc : Cells w A cs) (hne : ∀ b o, A = some ⟨b, o, none⟩ → some b ≠ v.ownBlock) : Cells w' A cs :=
  hc.keep p.grown.size fun b o hA hb k => World.cell?_of_block (p.grown.block b hb (hne b o hA))
theorem encO_len (r : Rep) : (encO r).length = 0 ∨ (encO r).length = 36 := by
  unfold encO
  split
  · exact .inr (length_encR r)
  · exact .inl rfl
set_option maxRecDepth 100000 in
set_option maxHeartbeats 16000000 in
theorem reportNumbers_walk (w : World) (hT : PowTab w) : Calls Tryd.prog 4 #[] w fun e w' => e = .returned (.bool true) ∧ Below w.heap.size w w' := by
  have HT := hide hT
  clear hT
  go_enter Tryd.func4, Tryd.ntmps4
  go_wp2_with fail
  go_loopw [1] (fun v wr => ∃ kd : Int, -1 ≤ kd ∧ kd ≤ 8 ∧ v = .int .i64 kd ∧ Below w.heap.size w wr) (fun v _ => (8 - intOf v).toNat)
  case atStart => exact ⟨-1, by omega, by omega, rfl, Below.refl _ _⟩
  case round =>
    obtain ⟨kd, hkd1, hkd2, rfl, B⟩ := hrel
    obtain ⟨wo, rfl⟩ : ∃ wo, wo = wr := ⟨_, rfl⟩
    by_cases hlt : kd < 8
    · have hwk : IntKind.i64.wrap (kd + 1) = kd + 1 := IntWalk.i64_in _ (by omega)
      obtain ⟨wL, ewL⟩ : ∃ wL, wL = wo.alloc (.cells (i64s nums8).toArray 3) := ⟨_, rfl⟩
      obtain ⟨gL, egL⟩ : ∃ gL, gL = wo.heap.size := ⟨_, rfl⟩
      have hc : Cells wL (some ⟨gL, 0, none⟩) (i64s nums8) := by rw [ewL, egL]; exact Cells.lit wo (i64s nums8).toArray _
      have BL : Below w.heap.size w wL := by rw [ewL]; exact nxt_alloc B _
      replace ewL : wL = wo.alloc (.cells #[.int .i64 (-1), .int .i64 0, .int .i64 1, .int .i64 2, .int .i64 3, .int .i64 254, .int .i64 255, .int .i64 256] 3) := ewL
      go_upto_block 2 with (fail)
      rw [← ewL, ← egL]
      clear ewL egL B
      go_wp2_with fail
      go_loopw [18] (fun v wr => ∃ i : Nat, i ≤ 8 ∧ v = .int .i64 (i : Int) ∧ Below wL.heap.size wL wr) (fun v _ => 8 - (intOf v).toNat)
      case atStart => exact ⟨0, by omega, rfl, Below.refl _ _⟩
      case round =>
        obtain ⟨i, hi, rfl, Bi⟩ := hrel
        obtain ⟨wp, rfl⟩ : ∃ wp, wp = wr := ⟨_, rfl⟩
        by_cases hli : i < 8
        · obtain ⟨b, o, x, hA, hb, hcx, hx⟩ := hc.int_at (k := i) hli
          injection hA with hA
          injection hA with hA1 hA2
          subst hA1; subst hA2
          have hcw : wp.cell? ⟨gL, 0 + i, none⟩ = some (.int .i64 x) := (Bi.cell (p := ⟨gL, 0 + i, none⟩) hb).trans hcx
          rw [Nat.zero_add] at hcw
          have hxin : inI x := nums8_in x (mem_of_some hx.out)
          have i1 : (i : Int) < 8 := by omega
          have hwi : IntKind.i64.wrap ((i : Int) + 1) = (i : Int) + 1 := IntWalk.i64_in _ (by omega)
          clear hcx
          go_wp2_with fail
          go_loopw [4] (fun v wr => ∃ h : Nat, h ≤ 3 ∧ v = .int .i64 (h : Int) ∧ Below wL.heap.size wL wr) (fun v _ => 3 - (intOf v).toNat)
          case atStart => exact ⟨0, by omega, rfl, Bi⟩
          case round =>
            obtain ⟨h, hh, rfl, Bh⟩ := hrel
            by_cases hlh : h < 3
            · have i2 : (h : Int) < 3 := by omega
              have hwh : IntKind.i64.wrap ((h : Int) + 1) = (h : Int) + 1 := IntWalk.i64_in _ (by omega)
              obtain ⟨s0, es0⟩ : ∃ s0 : Rep, s0 = ⟨kd, -7, 0, 0, -9223372036854775808, 9223372036854775807, x, 0⟩ := ⟨_, rfl⟩
              have hs0 : s0.wf := by rw [es0]; exact ⟨by show inI (kd); unfold inI; omega, by show inI (-7); unfold inI; omega, by show inI (0); unfold inI; omega, by show inI (0); unfold inI; omega, by show inI (-9223372036854775808); unfold inI; omega, by show inI (9223372036854775807); unfold inI; omega, hxin, by show inI (0); unfold inI; omega⟩
              obtain ⟨w1, ew1⟩ : ∃ w1, w1 = wr.alloc (.cells s0.cells 24) := ⟨_, rfl⟩
              obtain ⟨g5, eg5⟩ : ∃ g5, g5 = wr.heap.size := ⟨_, rfl⟩
              have F1 : RpAt w1 g5 s0 := by rw [ew1, eg5]; exact RpAt.new _ _
              have B1 : Below wL.heap.size wL w1 := by rw [ew1]; exact Bh.alloc Bh.size _
              have hg5 : wL.heap.size ≤ g5 := by rw [eg5]; exact Bh.size
              rw [es0] at ew1 F1 hs0
              replace ew1 : w1 = wr.alloc (.cells #[.int .i64 kd, .int .i64 (-7), .int .i64 0, .int .i64 0, .int .i64 (-9223372036854775808), .int .i64 9223372036854775807, .int .i64 x, .int .i64 0] 24) := ew1
              go_upto_block 6 with (fail)
              rw [← ew1, ← eg5]
              clear ew1 eg5 es0 Bi
              have y2 := F1.frozen 2; have y3 := F1.frozen 3; have y7 := F1.frozen 7
              obtain ⟨x0, x1, x2, x3, x4, x5, x6, x7⟩ := F1.reads
              go_cut [] (fun wx => Hid (∃ s : Rep, s.wf ∧ RpAt wx g5 s) ∧ Below wL.heap.size wL wx)
              case first =>
                have hh3 : h = 0 ∨ h = 1 ∨ h = 2 := by omega
                rcases hh3 with rfl | rfl | rfl
                · as_aux_lemma =>
                  have D1 := F1.set 2 (.int .i64 x) ⟨kd, -7, x, 0, -9223372036854775808, 9223372036854775807, x, 0⟩ (by simp [Rep.cells])
                  have BB : Below wL.heap.size wL (w1.setCell ⟨g5, 2, none⟩ (.int .i64 x)) := B1.setCell (by exact hg5) _
                  have hw2 : Rep.wf ⟨kd, -7, x, 0, -9223372036854775808, 9223372036854775807, x, 0⟩ := { hs0 with inst := hxin }
                  have DD := hide D1; have WF := hide hw2; have BH := hide BB
                  clear D1 hw2 BB F1 B1
                  go_wp2_with fail
                  go_meet
                  exact ⟨⟨_, WF.out, DD.out⟩, BH.out⟩
                · as_aux_lemma =>
                  have D1 := F1.set 3 (.int .i64 x) ⟨kd, -7, 0, x, -9223372036854775808, 9223372036854775807, x, 0⟩ (by simp [Rep.cells])
                  have BB : Below wL.heap.size wL (w1.setCell ⟨g5, 3, none⟩ (.int .i64 x)) := B1.setCell (by exact hg5) _
                  have hw2 : Rep.wf ⟨kd, -7, 0, x, -9223372036854775808, 9223372036854775807, x, 0⟩ := { hs0 with side := hxin }
                  have DD := hide D1; have WF := hide hw2; have BH := hide BB
                  clear D1 hw2 BB F1 B1
                  go_wp2_with fail
                  go_meet
                  exact ⟨⟨_, WF.out, DD.out⟩, BH.out⟩
                · as_aux_lemma =>
                  have D1 := F1.set 7 (.int .i64 x) ⟨kd, -7, 0, 0, -9223372036854775808, 9223372036854775807, x, x⟩ (by simp [Rep.cells])
                  have BB : Below wL.heap.size wL (w1.setCell ⟨g5, 7, none⟩ (.int .i64 x)) := B1.setCell (by exact hg5) _
                  have hw2 : Rep.wf ⟨kd, -7, 0, 0, -9223372036854775808, 9223372036854775807, x, x⟩ := { hs0 with why := hxin }
                  have DD := hide D1; have WF := hide hw2; have BH := hide BB
                  clear D1 hw2 BB F1 B1
                  go_wp2_with fail
                  go_meet
                  exact ⟨⟨_, WF.out, DD.out⟩, BH.out⟩
              obtain ⟨HS, B2⟩ := hcut
              obtain ⟨s, hsw, C4⟩ := HS.out
              obtain ⟨w4, ew4⟩ : ∃ w4, w4 = wc := ⟨_, rfl⟩
              rw [← ew4] at C4 B2 ⊢
              have HSW := hide hsw
              clear ew4 HS hsw F1 B1 hs0 x0 x1 x2 x3 x4 x5 x6 x7 y2 y3 y7 Bh
              obtain ⟨Y, eY⟩ : ∃ Y, Y = encY s := ⟨_, rfl⟩
              obtain ⟨E, eE⟩ : ∃ E, E = encO s := ⟨_, rfl⟩
              obtain ⟨N, eN⟩ : ∃ N, E.length = N := ⟨_, rfl⟩
              have hN : N = 0 ∨ N = 36 := by rw [← eN, eE]; exact encO_len s
              have EY := hide eY; have EE := hide eE; have EN := hide eN
              clear eY eE eN
              obtain ⟨f0, f1, f2, f3, f4, f5, f6, f7⟩ := C4.reads'
              go_wp2_with fail
              refine (encode_any s _).mono ?_
              rw [← EY.out, ← EE.out]
              intro e w5 h5
              obtain ⟨A5, c5, rfl, -, hA5, -, -, b5⟩ := h5.get EN.out
              have C5 := C4.below b5
              have B5 := nxt B2 b5
              clear f0 f1 f2 f3 f4 f5 f6 f7 C4 B2 b5 h5
              obtain ⟨f0, f1, f2, f3, f4, f5, f6, f7⟩ := C5.reads'
              go_wp2_with fail
              refine (refEncode_any s _).mono ?_
              rw [← EY.out, ← EE.out]
              intro e w6 h6
              obtain ⟨A6, c6, rfl, own6, hA6, hc6, hm6, b6⟩ := h6.get EN.out
              have own6 := hide own6
              have C6 := hide (C5.below b6)
              have hA56 := hA5.below b6
              have hm6' : c6 ≤ 9223372036854775807 := hm6
              have B6 := nxt B5 b6
              clear f0 f1 f2 f3 f4 f5 f6 f7 C5 hA5 B5 b6 hm6 h6
              have k1 : ∀ u, Below w6.heap.size w6.drew u → Sem.run Tryd.prog (convert 32 9 (.slice A5 N c5)) u = .ok (.string (str E)) u := Cells.strs (P := Tryd.prog) Tryd.underlying32 Tryd.underlying5 Tryd.underlying9 EN.out hA56.drew c5
              have k2 : ∀ u, Below w6.heap.size w6.drew u → Sem.run Tryd.prog (convert 32 9 (.slice A6 N c6)) u = .ok (.string (str E)) u := Cells.strs (P := Tryd.prog) Tryd.underlying32 Tryd.underlying5 Tryd.underlying9 EN.out hA6.drew c6
              have l0 : ∀ u, Below w6.heap.size w6.drew u → u.cell? ⟨g5, 0, none⟩ = some (.int .i64 s.kind) := later C6.out.lt (C6.out.cell 0)
              have l1 : ∀ u, Below w6.heap.size w6.drew u → u.cell? ⟨g5, 1, none⟩ = some (.int .i64 s.id) := later C6.out.lt (C6.out.cell 1)
              have l2 : ∀ u, Below w6.heap.size w6.drew u → u.cell? ⟨g5, 2, none⟩ = some (.int .i64 s.inst) := later C6.out.lt (C6.out.cell 2)
              have l3 : ∀ u, Below w6.heap.size w6.drew u → u.cell? ⟨g5, 3, none⟩ = some (.int .i64 s.side) := later C6.out.lt (C6.out.cell 3)
              have l4 : ∀ u, Below w6.heap.size w6.drew u → u.cell? ⟨g5, 4, none⟩ = some (.int .i64 s.price) := later C6.out.lt (C6.out.cell 4)
              have l5 : ∀ u, Below w6.heap.size w6.drew u → u.cell? ⟨g5, 5, none⟩ = some (.int .i64 s.qty) := later C6.out.lt (C6.out.cell 5)
              have l6 : ∀ u, Below w6.heap.size w6.drew u → u.cell? ⟨g5, 6, none⟩ = some (.int .i64 s.left) := later C6.out.lt (C6.out.cell 6)
              have l7 : ∀ u, Below w6.heap.size w6.drew u → u.cell? ⟨g5, 7, none⟩ = some (.int .i64 s.why) := later C6.out.lt (C6.out.cell 7)
              clear hA56
              go_wp2_with fail
              have Bi6 : ∀ u, Below w6.heap.size w6 u → Below wL.heap.size wL u := fun u hu => nxt B6 hu
              refine wp_region_tree (R := Below w6.heap.size) 42 (by kernel_rfl) (by kernel_rfl) ?_
              refine from_run [0, 1, 2, 3, 4, 5, 6, 7, 8, 9, 10, 11, 13] 29 (fun _ _ _ _ _ h => h) (by kernel_rfl) (Lower.rf _ _) ?_
              (repeat ((first | (refine takes_skip (by rfl) (by rfl) ?_) | (refine takes_take (v := ?_) (by rfl) (by rfl) ?_ ?_; rotate_left 1; focus (intro w' hSw; go_simp; (try (with_reducible rfl)); done))); (try simp only [Act.put, List.setIfInBounds_toArray, List.set_cons_zero, List.set_cons_succ]))); refine takes_done ?_
              clear k1 k2 l0 l1 l2 l3 l4 l5 l6 l7 C6
              refine from_moves [12] (Lower.tr _) 28 (by kernel_rfl) ?_
              refine moves_one (by rfl) (by rfl) (fun K hK => ?_) ?_
              · go_simp
                refine (text_any s _ HSW.out (HT.out.below (nxt_drew (nxt BL B6)))).mono ?_
                rintro e u1 ⟨rfl, d1⟩
                refine hK.out _ _ (d1.mono (Nat.le_refl _)) ?_; clear hK K; (try simp only [Act.put, List.setIfInBounds_toArray, List.set_cons_zero, List.set_cons_succ])
                have U1 : Below w6.heap.size w6 u1 := (Below.refl _ _).drew.trans d1
                clear d1
                refine from_moves [14] (Lower.tr _) 27 (by kernel_rfl) ?_
                refine moves_one (by rfl) (by rfl) (fun K hK => ?_) ?_
                · go_simp
                  refine (refText_any7 s _ HSW.out).mono ?_
                  rintro e u2 ⟨rfl, d2⟩
                  refine hK.out _ _ (d2.mono U1.size) ?_; clear hK K; (try simp only [Act.put, List.setIfInBounds_toArray, List.set_cons_zero, List.set_cons_succ])
                  have U2 := U1.trans (d2.mono U1.size)
                  have hAu := hA6.below U2
                  clear U1 d2
                  refine from_run [15, 16, 17, 18] 23 (fun _ _ _ _ _ h => h) (by kernel_rfl) (Lower.rf _ _) ?_
                  (repeat ((first | (refine takes_skip (by rfl) (by rfl) ?_) | (refine takes_take (v := ?_) (by rfl) (by rfl) ?_ ?_; rotate_left 1; focus (intro w' hSw; go_simp; (try (with_reducible rfl)); done))); (try simp only [Act.put, List.setIfInBounds_toArray, List.set_cons_zero, List.set_cons_succ]))); refine takes_done ?_
                  refine from_moves [19] (Lower.tr _) 22 (by kernel_rfl) ?_
                  refine moves_one (by rfl) (by rfl) (fun K hK => ?_) ?_
                  · go_simp
                    refine (read7_any A6 N c6 E _ EN.out (by omega) hc6 hm6' hAu).mono ?_
                    rintro e u3 ⟨rfl, d3⟩
                    refine hK.out _ _ (d3.mono U2.size) ?_; clear hK K; (try simp only [Act.put, List.setIfInBounds_toArray, List.set_cons_zero, List.set_cons_succ])
                    have U3 := U2.trans (d3.mono U2.size)
                    have hAv := hA6.below U3
                    clear U2 d3 hAu
                    by_cases hN0 : N = 0
                    · as_aux_lemma =>
                      subst hN0
                      refine from_run [20, 21, 22, 23, 24, 25, 26, 27, 28, 29, 30, 31, 32, 33, 34, 35, 36, 37, 38, 39, 40, 41] 0 (fun _ _ _ _ _ h => h) (by kernel_rfl) (Lower.rf _ _) ?_
                      (repeat ((first | (refine takes_skip (by rfl) (by rfl) ?_) | (refine takes_take (v := ?_) (by rfl) (by rfl) ?_ ?_; rotate_left 1; focus (intro w' hSw; go_simp; (try (with_reducible rfl)); done))); (try simp only [Act.put, List.setIfInBounds_toArray, List.set_cons_zero, List.set_cons_succ]))); refine takes_done ?_
                      refine from_done (by kernel_rfl) ?_
                      go_wp2_with fail
                      go_roundw
                      case rel => exact ⟨h + 1, by omega, by go_num, Bi6 _ (U3)⟩
                      case measure => simp [intOf]; omega
                    · as_aux_lemma =>
                      have hN36 : N = 36 := by omega
                      subst hN36
                      obtain ⟨g6, hg6, -, -⟩ := own_some own6.out (by omega)
                      subst hg6
                      have hTl : (E.drop 1).length = 35 := by rw [List.length_drop, EN.out]
                      have hTc : Cells u3 (some ⟨g6, 1, none⟩) (u8s (E.drop 1)) := by
                        have h1 := hAv.dropB 1 c6 (by rw [EN.out]; omega)
                        rw [if_neg (show ¬ c6 = 1 by omega)] at h1
                        simpa [Addr.add_lit] using h1
                      have hTL := hide hTl
                      have i8 : ¬ c6 = 1 := by omega
                      have i9 : 1 ≤ c6 := by omega
                      have i10 : 35 ≤ c6 - 1 := by omega
                      have i11 : c6 - 1 ≤ 9223372036854775807 := by omega
                      clear hTl hN hN0
                      refine from_run [20, 21, 22, 23, 24, 25, 26, 27, 28] 13 (fun _ _ _ _ _ h => h) (by kernel_rfl) (Lower.rf _ _) ?_
                      (repeat ((first | (refine takes_skip (by rfl) (by rfl) ?_) | (refine takes_take (v := ?_) (by rfl) (by rfl) ?_ ?_; rotate_left 1; focus (intro w' hSw; go_simp; (try (with_reducible rfl)); done))); (try simp only [Act.put, List.setIfInBounds_toArray, List.set_cons_zero, List.set_cons_succ]))); refine takes_done ?_
                      refine from_moves [29] (Lower.tr _) 12 (by kernel_rfl) ?_
                      refine moves_one (by rfl) (by rfl) (fun K hK => ?_) ?_
                      · go_simp
                        refine (read7_any (some ⟨g6, 1, none⟩) 35 (c6 - 1) (E.drop 1) _ hTL.out (by omega) i10 i11 hTc).mono ?_
                        rintro e u4 ⟨rfl, d4⟩
                        refine hK.out _ _ (d4.mono U3.size) ?_; clear hK K; (try simp only [Act.put, List.setIfInBounds_toArray, List.set_cons_zero, List.set_cons_succ])
                        have U4 := U3.trans (d4.mono U3.size)
                        clear U3 d4 hAv hTc hTL
                        refine from_run [30, 31, 33] 9 (fun _ _ _ _ _ h => h) (by kernel_rfl) (Lower.rf _ _) ?_
                        (repeat ((first | (refine takes_skip (by rfl) (by rfl) ?_) | (refine takes_take (v := ?_) (by rfl) (by rfl) ?_ ?_; rotate_left 1; focus (intro w' hSw; go_simp; (try (with_reducible rfl)); done))); (try simp only [Act.put, List.setIfInBounds_toArray, List.set_cons_zero, List.set_cons_succ]))); refine takes_done ?_
                        refine from_moves [32, 35] (Lower.tr _) 8 (by kernel_rfl) ?_
                        refine moves_one (by rfl) (by rfl) (fun K hK => ?_) ?_
                        · as_aux_lemma =>
                          go_simp
                          have ownE : (u4.alloc (.cells #[] 5)).ownsRow w6.heap.size 5 1 (.slice (some ⟨u4.heap.size, 0, none⟩) 0 0) 0 [] := World.ownsRow_lit u4 #[] 0 U4.size (Nat.zero_le _) rfl
                          have UE := U4.alloc U4.size (.cells #[] 5)
                          refine hK.out _ _ (lower_allocB7 U4.size _) ?_; clear hK K; (try simp only [Act.put, List.setIfInBounds_toArray, List.set_cons_zero, List.set_cons_succ])
                          refine from_moves [34, 35] (Lower.tr _) 7 (by kernel_rfl) ?_
                          refine moves_one (by rfl) (by rfl) (fun K hK => ?_) ?_
                          · refine wp_app elU8 ownE (news := u8s E) _ _ rfl rfl rfl (by rw [length_u8s]; exact EN.out) (hA6.below (UE)) (u8s_one E) (by omega) (UE).size 36 (u8s E) (by omega) (by simp) ?_
                            intro A7 c7 u7 p7
                            have V7 := p7.below _ _ (Nat.le_refl _) (UE)
                            refine hK.out _ _ (p7.below _ _ (Nat.le_refl _) (Below.refl _ _)) ?_; clear hK K; (try simp only [Act.put, List.setIfInBounds_toArray, List.set_cons_zero, List.set_cons_succ])
                            refine from_moves [35] (Lower.tr _) 6 (by kernel_rfl) ?_
                            refine moves_one (by rfl) (by rfl) (fun K hK => ?_) ?_
                            · as_aux_lemma =>
                              go_simp
                              have own8 := p7.own.alloc (.cells #[.int .u8 0] 5)
                              have clO := Cells.lit u7 #[.int .u8 0] 5
                              have UO := V7.alloc V7.size (.cells #[.int .u8 0] 5)
                              refine hK.out _ _ (lower_allocB7 V7.size _) ?_; clear hK K; (try simp only [Act.put, List.setIfInBounds_toArray, List.set_cons_zero, List.set_cons_succ])
                              refine from_moves [36] (Lower.tr _) 5 (by kernel_rfl) ?_
                              refine moves_one (by rfl) (by rfl) (fun K hK => ?_) ?_
                              · refine wp_app elU8 own8 (news := [Value.int .u8 0]) _ _ rfl rfl rfl rfl (clO) (by simp [Value.oneCell']) (by omega) (UO).size (36 + 1) (u8s (E ++ [0])) rfl (by simp [u8s]) ?_
                                intro A8 c8 u8 p8
                                have V8 := p8.below _ _ (Nat.le_refl _) (UO)
                                refine hK.out _ _ (p8.below _ _ (Nat.le_refl _) (Below.refl _ _)) ?_; clear hK K; (try simp only [Act.put, List.setIfInBounds_toArray, List.set_cons_zero, List.set_cons_succ])
                                refine from_moves [37] (Lower.tr _) 4 (by kernel_rfl) ?_
                                refine moves_one (by rfl) (by rfl) (fun K hK => ?_) ?_
                                · go_simp
                                  obtain ⟨hr1, hr2⟩ := own_room7 p8.own
                                  refine (read7_any _ (36 + 1) _ (E ++ [0]) _ (by rw [List.length_append, EN.out]; rfl) (by omega) hr1 hr2 (Cells.of_own p8.own)).mono ?_
                                  rintro e u9 ⟨rfl, d9⟩
                                  refine hK.out _ _ (d9.mono (V8).size) ?_; clear hK K; (try simp only [Act.put, List.setIfInBounds_toArray, List.set_cons_zero, List.set_cons_succ])
                                  have U9 := (V8).trans (d9.mono (V8).size)
                                  refine from_run [38, 39, 40, 41] 0 (fun _ _ _ _ _ h => h) (by kernel_rfl) (Lower.rf _ _) ?_
                                  (repeat ((first | (refine takes_skip (by rfl) (by rfl) ?_) | (refine takes_take (v := ?_) (by rfl) (by rfl) ?_ ?_; rotate_left 1; focus (intro w' hSw; go_simp; (try (with_reducible rfl)); done))); (try simp only [Act.put, List.setIfInBounds_toArray, List.set_cons_zero, List.set_cons_succ]))); refine takes_done ?_
                                  refine from_done (by kernel_rfl) ?_
                                  go_wp2_with fail
                                  go_roundw
                                  case rel => exact ⟨h + 1, by omega, by go_num, Bi6 _ (U9)⟩
                                  case measure => simp [intOf]; omega
                                exact moves_end
                              exact moves_end
                            exact moves_end
                          refine moves_one (by rfl) (by rfl) (fun K hK => ?_) ?_
                          · as_aux_lemma =>
                            go_simp
                            have ownE2 := ownE.alloc (.cells #[.int .u8 0] 5)
                            have h9 : (u4.alloc (.cells #[] 5)).heap.size = u4.heap.size + 1 := by simp
                            have clO := Cells.lit (u4.alloc (.cells #[] 5)) #[.int .u8 0] 5
                            rw [h9] at clO
                            clear h9
                            have UO := UE.alloc UE.size (.cells #[.int .u8 0] 5)
                            refine hK.out _ _ (lower_allocB7 UE.size _) ?_; clear hK K; (try simp only [Act.put, List.setIfInBounds_toArray, List.set_cons_zero, List.set_cons_succ])
                            refine from_moves [34] (Lower.tr _) 6 (by kernel_rfl) ?_
                            refine moves_one (by rfl) (by rfl) (fun K hK => ?_) ?_
                            · refine wp_app elU8 ownE2 (news := u8s E) _ _ rfl rfl rfl (by rw [length_u8s]; exact EN.out) (hA6.below (UO)) (u8s_one E) (by omega) (UO).size 36 (u8s E) (by omega) (by simp) ?_
                              intro A7 c7 u7 p7
                              have V7 := p7.below _ _ (Nat.le_refl _) (UO)
                              refine hK.out _ _ (p7.below _ _ (Nat.le_refl _) (Below.refl _ _)) ?_; clear hK K; (try simp only [Act.put, List.setIfInBounds_toArray, List.set_cons_zero, List.set_cons_succ])
                              refine from_moves [36] (Lower.tr _) 5 (by kernel_rfl) ?_
                              refine moves_one (by rfl) (by rfl) (fun K hK => ?_) ?_
                              · refine wp_app elU8 p7.own (news := [Value.int .u8 0]) _ _ rfl rfl rfl rfl (cells_grown7 p7 clO (by intro b o h; injection h with h; injection h with h; simp [Value.ownBlock, ← h])) (by simp [Value.oneCell']) (by omega) (V7).size (36 + 1) (u8s (E ++ [0])) rfl (by simp [u8s]) ?_
                                intro A8 c8 u8 p8
                                have V8 := p8.below _ _ (Nat.le_refl _) (V7)
                                refine hK.out _ _ (p8.below _ _ (Nat.le_refl _) (Below.refl _ _)) ?_; clear hK K; (try simp only [Act.put, List.setIfInBounds_toArray, List.set_cons_zero, List.set_cons_succ])
                                refine from_moves [37] (Lower.tr _) 4 (by kernel_rfl) ?_
                                refine moves_one (by rfl) (by rfl) (fun K hK => ?_) ?_
                                · go_simp
                                  obtain ⟨hr1, hr2⟩ := own_room7 p8.own
                                  refine (read7_any _ (36 + 1) _ (E ++ [0]) _ (by rw [List.length_append, EN.out]; rfl) (by omega) hr1 hr2 (Cells.of_own p8.own)).mono ?_
                                  rintro e u9 ⟨rfl, d9⟩
                                  refine hK.out _ _ (d9.mono (V8).size) ?_; clear hK K; (try simp only [Act.put, List.setIfInBounds_toArray, List.set_cons_zero, List.set_cons_succ])
                                  have U9 := (V8).trans (d9.mono (V8).size)
                                  refine from_run [38, 39, 40, 41] 0 (fun _ _ _ _ _ h => h) (by kernel_rfl) (Lower.rf _ _) ?_
                                  (repeat ((first | (refine takes_skip (by rfl) (by rfl) ?_) | (refine takes_take (v := ?_) (by rfl) (by rfl) ?_ ?_; rotate_left 1; focus (intro w' hSw; go_simp; (try (with_reducible rfl)); done))); (try simp only [Act.put, List.setIfInBounds_toArray, List.set_cons_zero, List.set_cons_succ]))); refine takes_done ?_
                                  refine from_done (by kernel_rfl) ?_
                                  go_wp2_with fail
                                  go_roundw
                                  case rel => exact ⟨h + 1, by omega, by go_num, Bi6 _ (U9)⟩
                                  case measure => simp [intOf]; omega
                                exact moves_end
                              exact moves_end
                            exact moves_end
                          exact moves_end
                        refine moves_one (by rfl) (by rfl) (fun K hK => ?_) ?_
                        · as_aux_lemma =>
                          go_simp
                          have clO := Cells.lit u4 #[.int .u8 0] 5
                          have UO := U4.alloc U4.size (.cells #[.int .u8 0] 5)
                          refine hK.out _ _ (lower_allocB7 U4.size _) ?_; clear hK K; (try simp only [Act.put, List.setIfInBounds_toArray, List.set_cons_zero, List.set_cons_succ])
                          refine from_moves [32] (Lower.tr _) 7 (by kernel_rfl) ?_
                          refine moves_one (by rfl) (by rfl) (fun K hK => ?_) ?_
                          · go_simp
                            have h9 : (u4.alloc (.cells #[.int .u8 0] 5)).heap.size = u4.heap.size + 1 := by simp
                            have ownE : ((u4.alloc (.cells #[.int .u8 0] 5)).alloc (.cells #[] 5)).ownsRow w6.heap.size 5 1 (.slice (some ⟨(u4.alloc (.cells #[.int .u8 0] 5)).heap.size, 0, none⟩) 0 0) 0 [] := World.ownsRow_lit (u4.alloc (.cells #[.int .u8 0] 5)) #[] 0 UO.size (Nat.zero_le _) rfl
                            rw [h9] at ownE
                            clear h9
                            have UE := UO.alloc UO.size (.cells #[] 5)
                            refine hK.out _ _ (lower_allocB7 UO.size _) ?_; clear hK K; (try simp only [Act.put, List.setIfInBounds_toArray, List.set_cons_zero, List.set_cons_succ])
                            refine from_moves [34] (Lower.tr _) 6 (by kernel_rfl) ?_
                            refine moves_one (by rfl) (by rfl) (fun K hK => ?_) ?_
                            · refine wp_app elU8 ownE (news := u8s E) _ _ rfl rfl rfl (by rw [length_u8s]; exact EN.out) (hA6.below (UE)) (u8s_one E) (by omega) (UE).size 36 (u8s E) (by omega) (by simp) ?_
                              intro A7 c7 u7 p7
                              have V7 := p7.below _ _ (Nat.le_refl _) (UE)
                              refine hK.out _ _ (p7.below _ _ (Nat.le_refl _) (Below.refl _ _)) ?_; clear hK K; (try simp only [Act.put, List.setIfInBounds_toArray, List.set_cons_zero, List.set_cons_succ])
                              refine from_moves [36] (Lower.tr _) 5 (by kernel_rfl) ?_
                              refine moves_one (by rfl) (by rfl) (fun K hK => ?_) ?_
                              · refine wp_app elU8 p7.own (news := [Value.int .u8 0]) _ _ rfl rfl rfl rfl (cells_grown7 p7 (clO.alloc _) (by intro b o h; injection h with h; injection h with h; simp [Value.ownBlock, ← h])) (by simp [Value.oneCell']) (by omega) (V7).size (36 + 1) (u8s (E ++ [0])) rfl (by simp [u8s]) ?_
                                intro A8 c8 u8 p8
                                have V8 := p8.below _ _ (Nat.le_refl _) (V7)
                                refine hK.out _ _ (p8.below _ _ (Nat.le_refl _) (Below.refl _ _)) ?_; clear hK K; (try simp only [Act.put, List.setIfInBounds_toArray, List.set_cons_zero, List.set_cons_succ])
                                refine from_moves [37] (Lower.tr _) 4 (by kernel_rfl) ?_
                                refine moves_one (by rfl) (by rfl) (fun K hK => ?_) ?_
                                · go_simp
                                  obtain ⟨hr1, hr2⟩ := own_room7 p8.own
                                  refine (read7_any _ (36 + 1) _ (E ++ [0]) _ (by rw [List.length_append, EN.out]; rfl) (by omega) hr1 hr2 (Cells.of_own p8.own)).mono ?_
                                  rintro e u9 ⟨rfl, d9⟩
                                  refine hK.out _ _ (d9.mono (V8).size) ?_; clear hK K; (try simp only [Act.put, List.setIfInBounds_toArray, List.set_cons_zero, List.set_cons_succ])
                                  have U9 := (V8).trans (d9.mono (V8).size)
                                  refine from_run [38, 39, 40, 41] 0 (fun _ _ _ _ _ h => h) (by kernel_rfl) (Lower.rf _ _) ?_
                                  (repeat ((first | (refine takes_skip (by rfl) (by rfl) ?_) | (refine takes_take (v := ?_) (by rfl) (by rfl) ?_ ?_; rotate_left 1; focus (intro w' hSw; go_simp; (try (with_reducible rfl)); done))); (try simp only [Act.put, List.setIfInBounds_toArray, List.set_cons_zero, List.set_cons_succ]))); refine takes_done ?_
                                  refine from_done (by kernel_rfl) ?_
                                  go_wp2_with fail
                                  go_roundw
                                  case rel => exact ⟨h + 1, by omega, by go_num, Bi6 _ (U9)⟩
                                  case measure => simp [intOf]; omega
                                exact moves_end
                              exact moves_end
                            exact moves_end
                          exact moves_end
                        exact moves_end
                      exact moves_end
                  exact moves_end
                exact moves_end
              exact moves_end
            · have i2 : ¬ (h : Int) < 3 := by omega
              go_wp2_with fail
              go_roundw
              case rel => exact ⟨i + 1, by omega, by go_num, Bh⟩
              case measure => simp [intOf]; omega
        · have i1 : ¬ (i : Int) < 8 := by omega
          have BB := nxt BL Bi
          go_wp2_with fail
          go_roundw
          case rel => exact ⟨kd + 1, by omega, by omega, rfl, BB⟩
          case measure => simp [intOf]; omega
    · clear hkd1
      have hr0 : readL [] 0 = ⟨[], 0⟩ := read_nil 0
      go_wp2_with fail
      refine (read_any none 0 0 [] _ rfl (by omega) (by omega) (by omega) (Cells.nil _ _)).mono ?_
      rw [hr0]
      intro e w1 h1
      obtain ⟨A1, c1, rfl, -, -, b1⟩ := reads_get (z := ⟨[], 0⟩) (N := 0) h1 rfl
      have B1 := nxt B b1
      clear h1 b1 B
      go_wp2_with fail
      obtain ⟨w2, ew2⟩ : ∃ w2, w2 = w1.alloc (.cells Rep.zero.cells 24) := ⟨_, rfl⟩
      obtain ⟨g2, eg2⟩ : ∃ g2, g2 = w1.heap.size := ⟨_, rfl⟩
      have hc2 : Cells w2 (some ⟨g2, 0, none⟩) (repsV [Rep.zero]) := by rw [ew2, eg2]; exact Cells.lit w1 Rep.zero.cells _
      have B2 : Below w.heap.size w w2 := by rw [ew2]; exact nxt_alloc B1 _
      replace ew2 : w2 = w1.alloc (.cells #[.int .i64 0, .int .i64 0, .int .i64 0, .int .i64 0, .int .i64 0, .int .i64 0, .int .i64 0, .int .i64 0] 24) := ew2
      rw [← ew2, ← eg2]
      clear ew2 eg2 B1
      refine (all_any (some ⟨g2, 0, none⟩) 1 1 [Rep.zero] _ rfl (by omega) hc2).mono ?_
      intro e w3 h3
      have ha : allL [Rep.zero] = [] := by decide
      rw [ha] at h3
      obtain ⟨A3, c3, rfl, -, -, -, -, b3⟩ := fresh_get (n := 0) h3 rfl
      have B3 := nxt B2 b3
      clear h3 hc2 B2 b3
      go_wp2_with fail
      refine (known7_any _ (hide (HT.out.below B3))).mono ?_
      rintro e w4 ⟨rfl, b4⟩
      go_wp2_with fail
      go_ret
      exact ⟨rfl, nxt B3 b4⟩
end Go.Proofs.YtbfjdhbgpjenbaaDoor
