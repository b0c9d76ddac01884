/-
  The walk of CommandTypes. (Printed by tools/gen6y.py.)
-/
import Derived.Test.YtjahndamfhfjcaaArgs6
namespace Go.Proofs.Ytjahndamfhfjcaa
open Go.RowKit
set_option linter.unusedVariables false

def backX (c : Cmd) : Value := if c.kind = 1 then .iface 42 c.oval else if c.kind = 2 then .iface 46 (.agg #[.int .i64 c.id]) else if c.kind = 3 then .iface 49 (.agg #[.int .i64 c.id, .int .i64 c.qty])
  else if c.kind = 4 then .iface 52 (.agg #[.int .i64 c.id, .int .i64 c.price, .int .i64 c.qty]) else .nilIface
theorem vBack_eq (c : Cmd) : vBack c = .agg #[backX c] := by
  unfold vBack backX
  repeat' split
  all_goals rfl
theorem of_back (c : Cmd) (w : World) (h : 1 ≤ c.kind ∧ c.kind ≤ 4) : Calls Try.prog 15 #[vBack c] w fun e w' => e = .returned (.tuple #[Cmd.val (askedC c), .bool true]) ∧ Below w.heap.size w w' := by
  have hk : c.kind = 1 ∨ c.kind = 2 ∨ c.kind = 3 ∨ c.kind = 4 := by omega
  rcases hk with hk | hk | hk | hk
  · have e1 : vBack c = vOrder c := by unfold vBack; rw [if_pos hk]
    have e2 : askedC c = { c with kind := 1 } := by unfold askedC; rw [if_pos hk, ← hk]
    rw [e1, e2]; exact of_order c w
  · have e1 : vBack c = vWith c.id := by simp [vBack, hk]
    have e2 : askedC c = ⟨2, c.id, 0, 0, 0, 0, 0, 0, []⟩ := by simp [askedC, hk, Cmd.zero]
    rw [e1, e2]; exact of_with c.id w
  · have e1 : vBack c = vCut c.id c.qty := by simp [vBack, hk]
    have e2 : askedC c = ⟨3, c.id, 0, 0, 0, c.qty, 0, 0, []⟩ := by simp [askedC, hk, Cmd.zero]
    rw [e1, e2]; exact of_cut c.id c.qty w
  · have e1 : vBack c = vChange c.id c.price c.qty := by simp [vBack, hk]
    have e2 : askedC c = ⟨4, c.id, 0, 0, c.price, c.qty, 0, 0, []⟩ := by simp [askedC, hk, Cmd.zero]
    rw [e1, e2]; exact of_change c.id c.price c.qty w
/-- Block g holds a Value. -/
def VAt (w : World) (g : Nat) (x : Value) : Prop := w.heap[g]? = some (.cells #[x] 36 (0, 0))
theorem VAt.below {w w' : World} {g : Nat} {x : Value} (h : VAt w g x) (hb : Below w.heap.size w w') : VAt w' g x := (hb.block g (Array.getElem?_eq_some_iff.1 h).1).trans h
theorem VAt.read {w : World} {g : Nat} {x : Value} (h : VAt w g x) : w.cell? ⟨g, 0, none⟩ = some x := by unfold VAt at h; simp [World.cell?, h]
theorem CAt.later {w : World} {g : Nat} {c : Cmd} (h : CAt w g c) (i : Nat) (v : Value) (hv : c.cells[i]? = some v) : ∀ u, Stays w.drew u → u.cell? ⟨g, i, none⟩ = some v := fun u hu =>
  (hu.cell (p := ⟨g, i, none⟩) h.lt).trans (by show w.cell? _ = _; rw [h.cell, hv])
theorem CAt.laterS {w : World} {g : Nat} {c : Cmd} (h : CAt w g c) (i : Nat) (v : Value) (hv : c.cells[i]? = some v) : ∀ u, Stays w u → u.cell? ⟨g, i, none⟩ = some v := fun u hu =>
  (hu.cell (p := ⟨g, i, none⟩) h.lt).trans (by rw [h.cell, hv])
set_option maxRecDepth 100000 in
set_option maxHeartbeats 6400000 in
theorem commandTypes_walk (c : CommandV) (id price qty : Int) (w : World) (h0 : c.Ok w) (_w1 : (Lit.int .i64 id).wf = true) (_w2 : (Lit.int .i64 price).wf = true) (_w3 : (Lit.int .i64 qty).wf = true) :
    Calls Try.prog 5 #[c.val, .int .i64 id, .int .i64 price, .int .i64 qty] w fun e w' => e = .returned (.bool true) ∧ Below w.heap.size w w' := by
  have hl := h0.lab
  obtain ⟨s, es⟩ : ∃ s, s = shortC c := ⟨_, rfl⟩
  obtain ⟨w0, ew0⟩ : ∃ w0, w0 = w.alloc (.cells c.cells 23) := ⟨_, rfl⟩
  obtain ⟨g, eg⟩ : ∃ g, g = w.heap.size := ⟨_, rfl⟩
  have hC : CAt w0 g c := by rw [ew0, eg]; exact CAt.new _ _
  have B0 : Below w.heap.size w w0 := by rw [ew0]; exact nxt_alloc (Below.refl _ _) _
  have hg : w.heap.size ≤ g := by omega
  have ES := hide es
  clear h0 es _w1 _w2 _w3
  show Calls Try.prog 5 #[.agg c.cells, .int .i64 id, .int .i64 price, .int .i64 qty] w _
  simp only [Cmd.cells] at ew0 ⊢
  go_enter Try.func5, Try.ntmps5
  go_upto_region 1 with (fail)
  rw [← ew0, ← eg]
  clear ew0 eg
  obtain ⟨f0, f1, f2, f3, f4, f5, f6, f7, f8⟩ := hC.reads'
  go_wp2_with fail
  refine (short_any c hl _).mono ?_
  rw [← ES.out]
  rintro e w1 ⟨rfl, b1⟩
  have C1 := hC.below b1
  have B1 := nxt B0 b1
  clear f0 f1 f2 f3 f4 f5 f6 f7 f8 hC B0 b1
  obtain ⟨f0, f1, f2, f3, f4, f5, f6, f7, f8⟩ := C1.reads'
  have y0 := C1.frozen 0; have y1 := C1.frozen 1; have y2 := C1.frozen 2; have y3 := C1.frozen 3; have y4 := C1.frozen 4; have y5 := C1.frozen 5; have y6 := C1.frozen 6; have y7 := C1.frozen 7; have y8 := C1.frozen 8
  simp only [Cmd.val, Cmd.cells]
  go_upto_region 2 with (fail)
  obtain ⟨w2, ew2⟩ : ∃ w2, w2 = fillC w1 g s := ⟨_, rfl⟩
  refine wp_at ew2 ?_
  have C2 : CAt w2 g s := by rw [ew2]; exact (fill_at C1 s).1
  have B2 : Below w.heap.size w w2 := by rw [ew2]; exact below_fill B1 C1 hg
  clear ew2 f0 f1 f2 f3 f4 f5 f6 f7 f8 y0 y1 y2 y3 y4 y5 y6 y7 y8 C1 B1
  obtain ⟨f0, f1, f2, f3, f4, f5, f6, f7, f8⟩ := C2.reads'
  by_cases hk : s.kind < 1 ∨ 4 < s.kind
  · have hN : vBack s = .agg #[.nilIface] := by unfold vBack; rw [if_neg (by omega), if_neg (by omega), if_neg (by omega), if_neg (by omega)]; rfl
    have HX := hide hN
    clear hN
    go_wp2_with fail
    refine (back_any s _).mono ?_
    rw [HX.out]
    rintro e w3 ⟨rfl, b3⟩
    have C3 := C2.below b3
    have B3 := nxt B2 b3
    clear f0 f1 f2 f3 f4 f5 f6 f7 f8 C2 B2 b3
    go_upto_region 3 with (fail)
    obtain ⟨w4, ew4⟩ : ∃ w4, w4 = w3.alloc (.cells #[.nilIface] 36) := ⟨_, rfl⟩
    obtain ⟨gv, egv⟩ : ∃ gv, gv = w3.heap.size := ⟨_, rfl⟩
    have V4 : VAt w4 gv (.nilIface) := by rw [ew4, egv]; exact heap_alloc_new _ _
    have b4 : Below w3.heap.size w3 w4 := by rw [ew4]; exact nxt_alloc (Below.refl _ _) _
    have C4 := C3.below b4
    have B4 := nxt B3 b4
    refine wp_at ew4 ?_
    rw [← egv]
    clear ew4 egv C3 B3 b4
    have f0 := C4.reads'.1
    have v0 := V4.read
    clear HX
    rcases hk with h1 | h1
    all_goals
      (try have h2 : ¬ s.kind < 1 := by omega)
      go_wp2_with fail
      refine (of_none _).mono ?_
      rintro e w5 ⟨rfl, b5⟩
      have B5 := nxt B4 b5
      simp only [Cmd.val, Cmd.cells, Cmd.zero]
      go_wp2_with fail
      refine (known6_any _).mono ?_
      rintro e w6 ⟨rfl, b6⟩
      go_wp2_with fail
      go_ret
      exact ⟨rfl, nxt (nxt_alloc B5 _) b6⟩
  · have h1 : ¬ s.kind < 1 := by omega
    have h2 : ¬ 4 < s.kind := by omega
    obtain ⟨T, V, hX⟩ : ∃ T V, backX s = .iface T V := by
      unfold backX
      have hk4 : s.kind = 1 ∨ s.kind = 2 ∨ s.kind = 3 ∨ s.kind = 4 := by omega
      rcases hk4 with hk | hk | hk | hk
      · rw [if_pos hk]; exact ⟨_, _, rfl⟩
      · rw [if_neg (by omega), if_pos hk]; exact ⟨_, _, rfl⟩
      · rw [if_neg (by omega), if_neg (by omega), if_pos hk]; exact ⟨_, _, rfl⟩
      · rw [if_neg (by omega), if_neg (by omega), if_neg (by omega), if_pos hk]; exact ⟨_, _, rfl⟩
    have hXX : vBack s = .agg #[.iface T V] := by rw [vBack_eq, hX]
    have HX := hide hXX
    have hof : ∀ w, Calls Try.prog 15 #[.agg #[.iface T V]] w fun e w' => e = .returned (.tuple #[Cmd.val (askedC s), .bool true]) ∧ Below w.heap.size w w' := fun w => by have := of_back s w (by omega); rw [hXX] at this; exact this
    have has := asked_any s
    obtain ⟨Z, eZ⟩ : ∃ Z, Z = askedC s := ⟨_, rfl⟩
    rw [← eZ] at hof has
    have HOF := hide hof
    have HAS := hide has
    clear hof has eZ hX hXX
    go_wp2_with fail
    refine (back_any s _).mono ?_
    rw [HX.out]
    rintro e w3 ⟨rfl, b3⟩
    have C3 := C2.below b3
    have B3 := nxt B2 b3
    clear f0 f1 f2 f3 f4 f5 f6 f7 f8 C2 B2 b3
    go_upto_region 3 with (fail)
    obtain ⟨w4, ew4⟩ : ∃ w4, w4 = w3.alloc (.cells #[.iface T V] 36) := ⟨_, rfl⟩
    obtain ⟨gv, egv⟩ : ∃ gv, gv = w3.heap.size := ⟨_, rfl⟩
    have V4 : VAt w4 gv (.iface T V) := by rw [ew4, egv]; exact heap_alloc_new _ _
    have b4 : Below w3.heap.size w3 w4 := by rw [ew4]; exact nxt_alloc (Below.refl _ _) _
    have C4 := C3.below b4
    have B4 := nxt B3 b4
    refine wp_at ew4 ?_
    rw [← egv]
    clear ew4 egv C3 B3 b4
    have f0 := C4.reads'.1
    have v0 := V4.read
    clear HX
    go_upto_region 6 with (fail)
    clear h1 h2 hk
    go_wp2_with fail
    refine (HOF.out _).mono ?_
    rintro e w5 ⟨rfl, b5⟩
    have C5 := C4.below b5
    have V5 := V4.below b5
    have B5 := nxt B4 b5
    clear C4 V4 B4 b5 f0 v0
    (try simp only [Cmd.val, Cmd.cells])
    go_upto_region 7 with (fail)
    obtain ⟨w6, ew⟩ : ∃ w', w' = w5.alloc (.cells (Cmd.cells Z) 23) := ⟨_, rfl⟩
    obtain ⟨gd, eq⟩ : ∃ q, q = w5.heap.size := ⟨_, rfl⟩
    have D6 : CAt w6 gd Z := by rw [ew, eq]; exact CAt.new _ _
    have bb : Below w5.heap.size w5 w6 := by rw [ew]; exact nxt_alloc (Below.refl _ _) _
    have C6 := C5.below bb
    have V6 := V5.below bb
    have B6 := nxt B5 bb
    clear C5 V5 B5 bb
    simp only [Cmd.cells] at ew
    refine wp_at ew ?_
    rw [← eq]
    clear ew eq
    obtain ⟨f0, f1, f2, f3, f4, f5, f6, f7, f8⟩ := C6.reads'
    go_wp2_with fail
    refine (order6_any s _).mono ?_
    rintro e w7 ⟨he, b7⟩
    replace he : e = .returned s.oval := he
    subst he
    have C7 := C6.below b7
    have D7 := D6.below b7
    have V7 := V6.below b7
    have B7 := nxt B6 b7
    clear C6 D6 V6 B6 b7 f0 f1 f2 f3 f4 f5 f6 f7 f8
    go_wp2_with fail
    refine (cOrder_any s _).mono ?_
    rintro e w8 ⟨rfl, b8⟩
    have C8 := C7.below b8
    have D8 := D7.below b8
    have V8 := V7.below b8
    have B8 := nxt B7 b8
    clear C7 D7 V7 B7 b8
    go_wp2_with fail
    refine (of_order s _).mono ?_
    rintro e w9 ⟨rfl, b9⟩
    have C9 := C8.below b9
    have D9 := D8.below b9
    have V9 := V8.below b9
    have B9 := nxt B8 b9
    clear C8 D8 V8 B8 b9
    (try simp only [Cmd.val, Cmd.cells])
    go_upto_region 8 with (fail)
    obtain ⟨w10, ew⟩ : ∃ w', w' = w9.alloc (.cells (Cmd.cells { s with kind := 1 }) 23) := ⟨_, rfl⟩
    obtain ⟨ge, eq⟩ : ∃ q, q = w9.heap.size := ⟨_, rfl⟩
    have E10 : CAt w10 ge { s with kind := 1 } := by rw [ew, eq]; exact CAt.new _ _
    have bb : Below w9.heap.size w9 w10 := by rw [ew]; exact nxt_alloc (Below.refl _ _) _
    have C10 := C9.below bb
    have D10 := D9.below bb
    have V10 := V9.below bb
    have B10 := nxt B9 bb
    clear C9 D9 V9 B9 bb
    simp only [Cmd.cells] at ew
    refine wp_at ew ?_
    rw [← eq]
    clear ew eq
    go_wp2_with fail
    refine (cWith_any id _).mono ?_
    rintro e w11 ⟨rfl, b11⟩
    have C11 := C10.below b11
    have D11 := D10.below b11
    have E11 := E10.below b11
    have V11 := V10.below b11
    have B11 := nxt B10 b11
    clear C10 D10 E10 V10 B10 b11
    go_wp2_with fail
    refine (of_with id _).mono ?_
    rintro e w12 ⟨rfl, b12⟩
    have C12 := C11.below b12
    have D12 := D11.below b12
    have E12 := E11.below b12
    have V12 := V11.below b12
    have B12 := nxt B11 b12
    clear C11 D11 E11 V11 B11 b12
    (try simp only [Cmd.val, Cmd.cells])
    go_upto_region 9 with (fail)
    obtain ⟨w13, ew⟩ : ∃ w', w' = w12.alloc (.cells (Cmd.cells ⟨2, id, 0, 0, 0, 0, 0, 0, []⟩) 23) := ⟨_, rfl⟩
    obtain ⟨gf, eq⟩ : ∃ q, q = w12.heap.size := ⟨_, rfl⟩
    have F13 : CAt w13 gf ⟨2, id, 0, 0, 0, 0, 0, 0, []⟩ := by rw [ew, eq]; exact CAt.new _ _
    have bb : Below w12.heap.size w12 w13 := by rw [ew]; exact nxt_alloc (Below.refl _ _) _
    have C13 := C12.below bb
    have D13 := D12.below bb
    have E13 := E12.below bb
    have V13 := V12.below bb
    have B13 := nxt B12 bb
    clear C12 D12 E12 V12 B12 bb
    simp only [Cmd.cells] at ew
    refine wp_at ew ?_
    rw [← eq]
    clear ew eq
    go_wp2_with fail
    refine (cCut_any id qty _).mono ?_
    rintro e w14 ⟨rfl, b14⟩
    have C14 := C13.below b14
    have D14 := D13.below b14
    have E14 := E13.below b14
    have F14 := F13.below b14
    have V14 := V13.below b14
    have B14 := nxt B13 b14
    clear C13 D13 E13 F13 V13 B13 b14
    go_wp2_with fail
    refine (of_cut id qty _).mono ?_
    rintro e w15 ⟨rfl, b15⟩
    have C15 := C14.below b15
    have D15 := D14.below b15
    have E15 := E14.below b15
    have F15 := F14.below b15
    have V15 := V14.below b15
    have B15 := nxt B14 b15
    clear C14 D14 E14 F14 V14 B14 b15
    (try simp only [Cmd.val, Cmd.cells])
    go_upto_region 10 with (fail)
    obtain ⟨w16, ew⟩ : ∃ w', w' = w15.alloc (.cells (Cmd.cells ⟨3, id, 0, 0, 0, qty, 0, 0, []⟩) 23) := ⟨_, rfl⟩
    obtain ⟨gg, eq⟩ : ∃ q, q = w15.heap.size := ⟨_, rfl⟩
    have G16 : CAt w16 gg ⟨3, id, 0, 0, 0, qty, 0, 0, []⟩ := by rw [ew, eq]; exact CAt.new _ _
    have bb : Below w15.heap.size w15 w16 := by rw [ew]; exact nxt_alloc (Below.refl _ _) _
    have C16 := C15.below bb
    have D16 := D15.below bb
    have E16 := E15.below bb
    have F16 := F15.below bb
    have V16 := V15.below bb
    have B16 := nxt B15 bb
    clear C15 D15 E15 F15 V15 B15 bb
    simp only [Cmd.cells] at ew
    refine wp_at ew ?_
    rw [← eq]
    clear ew eq
    go_wp2_with fail
    refine (cChange_any id price qty _).mono ?_
    rintro e w17 ⟨rfl, b17⟩
    have C17 := C16.below b17
    have D17 := D16.below b17
    have E17 := E16.below b17
    have F17 := F16.below b17
    have G17 := G16.below b17
    have V17 := V16.below b17
    have B17 := nxt B16 b17
    clear C16 D16 E16 F16 G16 V16 B16 b17
    go_wp2_with fail
    refine (of_change id price qty _).mono ?_
    rintro e w18 ⟨rfl, b18⟩
    have C18 := C17.below b18
    have D18 := D17.below b18
    have E18 := E17.below b18
    have F18 := F17.below b18
    have G18 := G17.below b18
    have V18 := V17.below b18
    have B18 := nxt B17 b18
    clear C17 D17 E17 F17 G17 V17 B17 b18
    (try simp only [Cmd.val, Cmd.cells])
    go_upto_region 11 with (fail)
    obtain ⟨w19, ew⟩ : ∃ w', w' = w18.alloc (.cells (Cmd.cells ⟨4, id, 0, 0, price, qty, 0, 0, []⟩) 23) := ⟨_, rfl⟩
    obtain ⟨gh, eq⟩ : ∃ q, q = w18.heap.size := ⟨_, rfl⟩
    have H19 : CAt w19 gh ⟨4, id, 0, 0, price, qty, 0, 0, []⟩ := by rw [ew, eq]; exact CAt.new _ _
    have bb : Below w18.heap.size w18 w19 := by rw [ew]; exact nxt_alloc (Below.refl _ _) _
    have C19 := C18.below bb
    have D19 := D18.below bb
    have E19 := E18.below bb
    have F19 := F18.below bb
    have G19 := G18.below bb
    have V19 := V18.below bb
    have B19 := nxt B18 bb
    clear C18 D18 E18 F18 G18 V18 B18 bb
    simp only [Cmd.cells] at ew
    refine wp_at ew ?_
    rw [← eq]
    clear ew eq
    obtain ⟨f0, f1, f2, f3, f4, f5, f6, f7, f8⟩ := C19.reads'
    (try simp only [Cmd.val, Cmd.cells])
    go_upto_region 13 with (fail)
    obtain ⟨w20, ew⟩ : ∃ w', w' = w19.alloc (.cells (Cmd.cells { s with kind := 1 }) 23) := ⟨_, rfl⟩
    obtain ⟨gi, eq⟩ : ∃ q, q = w19.heap.size := ⟨_, rfl⟩
    have I20 : CAt w20 gi { s with kind := 1 } := by rw [ew, eq]; exact CAt.new _ _
    have bb : Below w19.heap.size w19 w20 := by rw [ew]; exact nxt_alloc (Below.refl _ _) _
    have C20 := C19.below bb
    have D20 := D19.below bb
    have E20 := E19.below bb
    have F20 := F19.below bb
    have G20 := G19.below bb
    have H20 := H19.below bb
    have V20 := V19.below bb
    have B20 := nxt B19 bb
    clear C19 D19 E19 F19 G19 H19 V19 B19 bb
    simp only [Cmd.cells] at ew
    refine wp_at ew ?_
    rw [← eq]
    clear ew eq
    have lD0 := D20.later 0 (.int .i64 Z.kind) rfl
    have lD1 := D20.later 1 (.int .i64 Z.id) rfl
    have lD2 := D20.later 2 (.int .i64 Z.inst) rfl
    have lD3 := D20.later 3 (.int .i64 Z.side) rfl
    have lD4 := D20.later 4 (.int .i64 Z.price) rfl
    have lD5 := D20.later 5 (.int .i64 Z.qty) rfl
    have lD6 := D20.later 6 (.int .i64 Z.least) rfl
    have lD7 := D20.later 7 (.int .i64 Z.time) rfl
    have lD8 := D20.later 8 (.string (str Z.lab)) rfl
    have lC0 := C20.later 0 (.int .i64 s.kind) rfl
    have lC1 := C20.later 1 (.int .i64 s.id) rfl
    have lC2 := C20.later 2 (.int .i64 s.inst) rfl
    have lC3 := C20.later 3 (.int .i64 s.side) rfl
    have lC4 := C20.later 4 (.int .i64 s.price) rfl
    have lC5 := C20.later 5 (.int .i64 s.qty) rfl
    have lC6 := C20.later 6 (.int .i64 s.least) rfl
    have lC7 := C20.later 7 (.int .i64 s.time) rfl
    have lC8 := C20.later 8 (.string (str s.lab)) rfl
    have KC := hide C20
    have KD := hide D20
    have KE := hide E20
    have KF := hide F20
    have KG := hide G20
    have KH := hide H20
    have KI := hide I20
    clear C20 D20 E20 F20 G20 H20 I20 V20 f0 f1 f2 f3 f4 f5 f6 f7 f8
    go_wp2_with fail
    refine wp_region_grow (R := Stays) 99999 [4, 17, 18, 19, 21, 55] [0, 1, 2, 3, 4, 5, 6, 7, 8, 9, 10, 11, 12, 13, 14, 15, 16, 20, 17, 18, 19, 21, 22, 23, 24, 25, 26, 27, 28, 29, 30, 31, 32, 33, 34, 35, 36, 37, 38, 39, 40, 41, 42, 43, 44, 45, 46, 47, 48, 49, 50, 51, 52, 53, 54, 55, 56, 57] (by kernel_rfl) Stays.tr Stays.rf (by kernel_rfl) (fun _ _ _ _ _ h => h) ?_
    (repeat ((first | (refine grow_skip (by rfl) (by rfl) ?_ (by first | exact Stays.rf _ | exact Lower.rf _ _ | exact Holds.rf _ _)) | (refine grow_take (v := ?_) (by rfl) (by rfl) (by rfl) ?_ ?_; rotate_left 1; focus (intro w' hSw; go_simp; (try (with_reducible rfl)); done))); (try simp only [Act.put, List.setIfInBounds_toArray, List.set_cons_zero, List.set_cons_succ])))
    clear lD0 lD1 lD2 lD3 lD4 lD5 lD6 lD7 lD8 lC0 lC1 lC2 lC3 lC4 lC5 lC6 lC7 lC8
    refine grow_move (by rfl) (by rfl) (by rfl) (fun K hK => ?_); go_simp
    refine (HAS.out _).mono ?_
    rintro e u1 ⟨he, c1⟩
    replace he : e = .returned (.agg #[.int .i64 Z.kind, .int .i64 Z.id, .int .i64 Z.inst, .int .i64 Z.side, .int .i64 Z.price, .int .i64 Z.qty, .int .i64 Z.least, .int .i64 Z.time, .string (str Z.lab)]) := he
    subst he
    refine hK.out _ _ (c1) ?_; clear hK K; (try simp only [Act.put, List.setIfInBounds_toArray, List.set_cons_zero, List.set_cons_succ])
    have U1 := nxt (nxt_drew B20) c1
    have ME1 := hide ((show Hid (CAt w20.drew ge { s with kind := 1 }) from KE).out.below c1)
    have MI1 := hide ((show Hid (CAt w20.drew gi { s with kind := 1 }) from KI).out.below c1)
    have MC1 := hide ((show Hid (CAt w20.drew g s) from KC).out.below c1)
    have MF1 := hide ((show Hid (CAt w20.drew gf ⟨2, id, 0, 0, 0, 0, 0, 0, []⟩) from KF).out.below c1)
    have MG1 := hide ((show Hid (CAt w20.drew gg ⟨3, id, 0, 0, 0, qty, 0, 0, []⟩) from KG).out.below c1)
    have MH1 := hide ((show Hid (CAt w20.drew gh ⟨4, id, 0, 0, price, qty, 0, 0, []⟩) from KH).out.below c1)
    clear c1 B20 KC KD KE KF KG KH KI
    have lE0 := ME1.out.laterS 0 (.int .i64 1) rfl
    have lE1 := ME1.out.laterS 1 (.int .i64 s.id) rfl
    have lE2 := ME1.out.laterS 2 (.int .i64 s.inst) rfl
    have lE3 := ME1.out.laterS 3 (.int .i64 s.side) rfl
    have lE4 := ME1.out.laterS 4 (.int .i64 s.price) rfl
    have lE5 := ME1.out.laterS 5 (.int .i64 s.qty) rfl
    have lE6 := ME1.out.laterS 6 (.int .i64 s.least) rfl
    have lE7 := ME1.out.laterS 7 (.int .i64 s.time) rfl
    have lE8 := ME1.out.laterS 8 (.string (str s.lab)) rfl
    have lI0 := MI1.out.laterS 0 (.int .i64 1) rfl
    have lI1 := MI1.out.laterS 1 (.int .i64 s.id) rfl
    have lI2 := MI1.out.laterS 2 (.int .i64 s.inst) rfl
    have lI3 := MI1.out.laterS 3 (.int .i64 s.side) rfl
    have lI4 := MI1.out.laterS 4 (.int .i64 s.price) rfl
    have lI5 := MI1.out.laterS 5 (.int .i64 s.qty) rfl
    have lI6 := MI1.out.laterS 6 (.int .i64 s.least) rfl
    have lI7 := MI1.out.laterS 7 (.int .i64 s.time) rfl
    have lI8 := MI1.out.laterS 8 (.string (str s.lab)) rfl
    have lC0 := MC1.out.laterS 0 (.int .i64 s.kind) rfl
    have lC1 := MC1.out.laterS 1 (.int .i64 s.id) rfl
    have lC2 := MC1.out.laterS 2 (.int .i64 s.inst) rfl
    have lC3 := MC1.out.laterS 3 (.int .i64 s.side) rfl
    have lC4 := MC1.out.laterS 4 (.int .i64 s.price) rfl
    have lC5 := MC1.out.laterS 5 (.int .i64 s.qty) rfl
    have lC6 := MC1.out.laterS 6 (.int .i64 s.least) rfl
    have lC7 := MC1.out.laterS 7 (.int .i64 s.time) rfl
    have lC8 := MC1.out.laterS 8 (.string (str s.lab)) rfl
    (repeat ((first | (refine grow_skip (by rfl) (by rfl) ?_ (by first | exact Stays.rf _ | exact Lower.rf _ _ | exact Holds.rf _ _)) | (refine grow_take (v := ?_) (by rfl) (by rfl) (by rfl) ?_ ?_; rotate_left 1; focus (intro w' hSw; go_simp; (try (with_reducible rfl)); done))); (try simp only [Act.put, List.setIfInBounds_toArray, List.set_cons_zero, List.set_cons_succ])))
    clear lE0 lE1 lE2 lE3 lE4 lE5 lE6 lE7 lE8 lI0 lI1 lI2 lI3 lI4 lI5 lI6 lI7 lI8 lC0 lC1 lC2 lC3 lC4 lC5 lC6 lC7 lC8
    refine grow_move (by rfl) (by rfl) (by rfl) (fun K hK => ?_); go_simp
    refine (order6_any s _).mono ?_
    rintro e u2 ⟨he, c2⟩
    replace he : e = .returned s.oval := he
    subst he
    refine hK.out _ _ (c2) ?_; clear hK K; (try simp only [Act.put, List.setIfInBounds_toArray, List.set_cons_zero, List.set_cons_succ])
    have U2 := nxt U1 c2
    have MF2 := hide (MF1.out.below c2)
    have MG2 := hide (MG1.out.below c2)
    have MH2 := hide (MH1.out.below c2)
    clear c2 U1 MF1 MG1 MH1
    refine grow_move (by rfl) (by rfl) (by rfl) (fun K hK => ?_); go_simp
    refine (cOrder_any s _).mono ?_
    rintro e u3 ⟨rfl, c3⟩
    refine hK.out _ _ (c3) ?_; clear hK K; (try simp only [Act.put, List.setIfInBounds_toArray, List.set_cons_zero, List.set_cons_succ])
    have U3 := nxt U2 c3
    have MF3 := hide (MF2.out.below c3)
    have MG3 := hide (MG2.out.below c3)
    have MH3 := hide (MH2.out.below c3)
    clear c3 U2 MF2 MG2 MH2
    refine grow_move (by rfl) (by rfl) (by rfl) (fun K hK => ?_); go_simp
    refine (must_any s _).mono ?_
    rintro e u4 ⟨he, c4⟩
    replace he : e = .returned (.agg #[.int .i64 s.id, .int .i64 s.inst, .int .i64 s.side, .int .i64 s.price, .int .i64 s.qty, .int .i64 s.least, .int .i64 s.time, .string (str s.lab)]) := he
    subst he
    refine hK.out _ _ (c4) ?_; clear hK K; (try simp only [Act.put, List.setIfInBounds_toArray, List.set_cons_zero, List.set_cons_succ])
    have U4 := nxt U3 c4
    have MF4 := hide (MF3.out.below c4)
    have MG4 := hide (MG3.out.below c4)
    have MH4 := hide (MH3.out.below c4)
    clear c4 U3 MF3 MG3 MH3
    refine grow_move (by rfl) (by rfl) (by rfl) (fun K hK => ?_); go_simp
    refine (order6_any s _).mono ?_
    rintro e u5 ⟨he, c5⟩
    replace he : e = .returned (.agg #[.int .i64 s.id, .int .i64 s.inst, .int .i64 s.side, .int .i64 s.price, .int .i64 s.qty, .int .i64 s.least, .int .i64 s.time, .string (str s.lab)]) := he
    subst he
    refine hK.out _ _ (c5) ?_; clear hK K; (try simp only [Act.put, List.setIfInBounds_toArray, List.set_cons_zero, List.set_cons_succ])
    have U5 := nxt U4 c5
    have MF5 := hide (MF4.out.below c5)
    have MG5 := hide (MG4.out.below c5)
    have MH5 := hide (MH4.out.below c5)
    clear c5 U4 MF4 MG4 MH4
    have lF0 := MF5.out.laterS 0 (.int .i64 2) rfl
    have lF1 := MF5.out.laterS 1 (.int .i64 id) rfl
    have lF2 := MF5.out.laterS 2 (.int .i64 0) rfl
    have lF3 := MF5.out.laterS 3 (.int .i64 0) rfl
    have lF4 := MF5.out.laterS 4 (.int .i64 0) rfl
    have lF5 := MF5.out.laterS 5 (.int .i64 0) rfl
    have lF6 := MF5.out.laterS 6 (.int .i64 0) rfl
    have lF7 := MF5.out.laterS 7 (.int .i64 0) rfl
    have lF8 := MF5.out.laterS 8 (.string (str [])) rfl
    have lG0 := MG5.out.laterS 0 (.int .i64 3) rfl
    have lG1 := MG5.out.laterS 1 (.int .i64 id) rfl
    have lG2 := MG5.out.laterS 2 (.int .i64 0) rfl
    have lG3 := MG5.out.laterS 3 (.int .i64 0) rfl
    have lG4 := MG5.out.laterS 4 (.int .i64 0) rfl
    have lG5 := MG5.out.laterS 5 (.int .i64 qty) rfl
    have lG6 := MG5.out.laterS 6 (.int .i64 0) rfl
    have lG7 := MG5.out.laterS 7 (.int .i64 0) rfl
    have lG8 := MG5.out.laterS 8 (.string (str [])) rfl
    have lH0 := MH5.out.laterS 0 (.int .i64 4) rfl
    have lH1 := MH5.out.laterS 1 (.int .i64 id) rfl
    have lH2 := MH5.out.laterS 2 (.int .i64 0) rfl
    have lH3 := MH5.out.laterS 3 (.int .i64 0) rfl
    have lH4 := MH5.out.laterS 4 (.int .i64 price) rfl
    have lH5 := MH5.out.laterS 5 (.int .i64 qty) rfl
    have lH6 := MH5.out.laterS 6 (.int .i64 0) rfl
    have lH7 := MH5.out.laterS 7 (.int .i64 0) rfl
    have lH8 := MH5.out.laterS 8 (.string (str [])) rfl
    have es : (str ([] : List UInt8)).toList = [] := str_toList []
    (repeat ((first | (refine grow_skip (by rfl) (by rfl) ?_ (by first | exact Stays.rf _ | exact Lower.rf _ _ | exact Holds.rf _ _)) | (refine grow_take (v := ?_) (by rfl) (by rfl) (by rfl) ?_ ?_; rotate_left 1; focus (intro w' hSw; go_simp; (try (with_reducible rfl)); done))); (try simp only [Act.put, List.setIfInBounds_toArray, List.set_cons_zero, List.set_cons_succ])))
    clear lF0 lF1 lF2 lF3 lF4 lF5 lF6 lF7 lF8 lG0 lG1 lG2 lG3 lG4 lG5 lG6 lG7 lG8 lH0 lH1 lH2 lH3 lH4 lH5 lH6 lH7 lH8
    refine grow_move (by rfl) (by rfl) (by rfl) (fun K hK => ?_); go_simp
    refine (known6_any _).mono ?_
    rintro e u6 ⟨rfl, c6⟩
    refine hK.out _ _ (c6) ?_; clear hK K; (try simp only [Act.put, List.setIfInBounds_toArray, List.set_cons_zero, List.set_cons_succ])
    have U6 := nxt U5 c6
    clear c6 U5 
    (repeat ((first | (refine grow_skip (by rfl) (by rfl) ?_ (by first | exact Stays.rf _ | exact Lower.rf _ _ | exact Holds.rf _ _)) | (refine grow_take (v := ?_) (by rfl) (by rfl) (by rfl) ?_ ?_; rotate_left 1; focus (intro w' hSw; go_simp; (try (with_reducible rfl)); done))); (try simp only [Act.put, List.setIfInBounds_toArray, List.set_cons_zero, List.set_cons_succ])))
    refine grow_done ?_
    go_wp2_with fail
    go_ret
    exact ⟨rfl, U6⟩
end Go.Proofs.Ytjahndamfhfjcaa
