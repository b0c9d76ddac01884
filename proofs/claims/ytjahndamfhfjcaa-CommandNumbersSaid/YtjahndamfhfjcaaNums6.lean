/-
  The walk of CommandNumbers.
-/
import Derived.Test.YtjahndamfhfjcaaTells6
import Derived.Test.YtjahndamfhfjcaaTypes6
import Derived.Test.YtjahndamfhfjcaaTree
namespace Go.Proofs.Ytjahndamfhfjcaa
open Go.RowKit
set_option linter.unusedVariables false

def good6 : Cmd := ⟨1, 1, 2, 1, 5, 3, 3, 3, [195, 169]⟩
def nums18 : List Int := [-9223372036854775808, -2000001, -2000000, -1, 0, 1, 2, 3, 4, 255, 256, 1000000, 1000001, 2000000, 2000001, 1099511627776, 1099511627777, 9223372036854775807]
theorem nums18_in : ∀ x ∈ nums18, inI x := by
  intro x hx
  simp only [nums18, List.mem_cons, List.not_mem_nil, or_false] at hx
  unfold inI
  omega
theorem good6_wf : good6.wf := by
  refine ⟨?_, ?_, ?_, ?_, ?_, ?_, ?_, ?_, by simp [good6]⟩ <;> (unfold inI good6; simp only; omega)
theorem lower_allocB {B : Nat} {w : World} (hb : B ≤ w.heap.size) (o : Obj) : Below B w (w.alloc o) := (Below.refl B w).alloc hb o
/-- Texts in a literal. -/
theorem strs_lit {w : World} {l : List (List UInt8)} (e : TypeId) {j : Nat} {x : List UInt8} (h : l[j]? = some x) : (w.alloc (.cells (l.map fun s => Value.string (str s)).toArray e)).cell? ⟨w.heap.size, j, none⟩ = some (.string (str x)) := by
  rw [World.cell?_alloc_at _ _ _ _ rfl]
  simp [h]
theorem own_room6 {w : World} {base : Nat} {e : TypeId} {size : Nat} {A : Option Addr} {n c : Nat} {xs : List Value} (h : w.ownsRow base e size (.slice A n c) n xs) : n ≤ c ∧ c ≤ 9223372036854775807 := by
  obtain ⟨A', c', hv, h1, h2⟩ := own_shape h
  injection hv with _ _ hc
  subst hc
  exact ⟨h1, h2⟩
theorem cells_grown {w w' : World} {base n : Nat} {e : TypeId} {v : Value} {xs cs : List Value} {A A' : Option Addr} {c' : Nat} (p : Appended w base e v n xs A' c' w') (hc : Cells w A cs) (hne : ∀ b o, A = some ⟨b, o, none⟩ → some b ≠ v.ownBlock) : Cells w' A cs :=
  hc.keep p.grown.size fun b o hA hb k => World.cell?_of_block (p.grown.block b hb (hne b o hA))
def labs4 : List (List UInt8) := [[], [97], [255], [97, 98, 99, 100, 101, 102, 103, 104, 105, 106, 107, 108, 109]]
set_option maxRecDepth 100000 in
set_option maxHeartbeats 16000000 in
theorem commandNumbers_walk (w : World) : Calls Try.prog 8 #[] w fun e w' => e = .returned (.bool true) ∧ Below w.heap.size w w' := by
  go_enter Try.func8, Try.ntmps8
  go_upto_region 2 with (fail)
  obtain ⟨w0, ew0⟩ : ∃ w0, w0 = w.alloc (.cells good6.cells 23) := ⟨_, rfl⟩
  obtain ⟨p, ep⟩ : ∃ p, p = w.heap.size := ⟨_, rfl⟩
  have G0 : CAt w0 p good6 := by rw [ew0, ep]; exact CAt.new _ _
  have B0 : Below w.heap.size w w0 := by rw [ew0]; exact nxt_alloc (Below.refl _ _) _
  have hp : w.heap.size ≤ p := by omega
  refine wp_at ew0 ?_
  rw [← ep]
  clear ew0 ep
  go_wp2_with fail
  go_loopw [2] (fun vk wr => ∃ k : Nat, k ≤ 6 ∧ vk = .int .i64 k ∧ CAt wr p good6 ∧ Below w.heap.size w wr) (fun vk _ => 6 - (intOf vk).toNat)
  case atStart => exact ⟨0, by omega, rfl, G0, B0⟩
  case round =>
    obtain ⟨k, hk, rfl, G, B⟩ := hrel
    clear G0 B0
    by_cases hlt : k < 6
    · have i1 : (k : Int) < 6 := by omega
      obtain ⟨wo, rfl⟩ : ∃ wo, wo = wr := ⟨_, rfl⟩
      go_wp2_with fail
      go_loopw [3] (fun vh wr => ∃ h : Nat, h ≤ 8 ∧ vh = .int .i64 h ∧ CAt wr p good6 ∧ Below w.heap.size w wr) (fun vh _ => 8 - (intOf vh).toNat)
      case atStart => exact ⟨0, by omega, rfl, G, B⟩
      case round =>
        obtain ⟨h, hh, rfl, Gh, Bh⟩ := hrel
        clear G B
        by_cases hlh : h < 8
        · have i2 : (h : Int) < 8 := by omega
          obtain ⟨w1, rfl⟩ : ∃ w1, w1 = wr := ⟨_, rfl⟩
          go_upto_block 4 with (fail)
          obtain ⟨w2, ew2⟩ : ∃ w2, w2 = w1.alloc (.cells (i64s nums18).toArray 2) := ⟨_, rfl⟩
          obtain ⟨z, ez⟩ : ∃ z, z = w1.heap.size := ⟨_, rfl⟩
          have W2 : Cells w2 (some ⟨z, 0, none⟩) (i64s nums18) := by
            have := Cells.lit w1 (i64s nums18).toArray 2
            rw [ew2, ez]; exact this
          have b2 : Below w1.heap.size w1 w2 := by rw [ew2]; exact nxt_alloc (Below.refl _ _) _
          have G2 := Gh.below b2
          have B2 := nxt Bh b2
          refine wp_at ew2 ?_
          rw [← ez]
          clear ew2 ez Gh Bh b2
          go_wp2_with fail
          go_loopw [30] (fun vi wr => ∃ i : Nat, i ≤ 18 ∧ vi = .int .i64 i ∧ CAt wr p good6 ∧ Cells wr (some ⟨z, 0, none⟩) (i64s nums18) ∧ Below w.heap.size w wr) (fun vi _ => 18 - (intOf vi).toNat)
          case atStart => exact ⟨0, by omega, rfl, G2, W2, B2⟩
          case round =>
            obtain ⟨i, hi, rfl, Gi, Wi, Bi⟩ := hrel
            clear G2 W2 B2
            by_cases hli : i < 18
            · have i3 : (i : Int) < 18 := by omega
              obtain ⟨b, o, x, hA, hb, hc, hx⟩ := Wi.int_at (k := i) (by show i < 18; exact hli)
              injection hA with hA
              injection hA with e1 e2
              subst e1; subst e2
              rw [Nat.zero_add] at hc
              have hxin := hide (nums18_in x (List.mem_of_getElem? hx.out))
              have hkin : inI ((k : Nat) : Int) := by unfold inI; omega
              obtain ⟨f0, f1, f2, f3, f4, f5, f6, f7, f8⟩ := Gi.reads'
              simp only [good6] at f0 f1 f2 f3 f4 f5 f6 f7 f8
              clear hx
              go_upto_region 13 with (fail)
              obtain ⟨w3, ew3⟩ : ∃ w3, w3 = wr.alloc (.cells (Cmd.cells { good6 with kind := k }) 23) := ⟨_, rfl⟩
              obtain ⟨q, eq⟩ : ∃ q, q = wr.heap.size := ⟨_, rfl⟩
              have C3 : CAt w3 q { good6 with kind := k } := by rw [ew3, eq]; exact CAt.new _ _
              have b3 : Below wr.heap.size wr w3 := by rw [ew3]; exact nxt_alloc (Below.refl _ _) _
              have G3 := Gi.below b3
              have W3 := Wi.below b3
              have B3 := nxt Bi b3
              have hpq : p < q := by rw [eq]; exact Gi.lt
              have hzq : z < q := by rw [eq]; exact hb
              have hq : w.heap.size ≤ q := by omega
              refine wp_at ew3 ?_
              rw [← eq]
              clear ew3 eq Gi Wi Bi b3 f0 f1 f2 f3 f4 f5 f6 f7 f8 hc hb
              go_upto_block 6 with (fail)
              go_cut [] (fun wx => Hid (∃ s : Cmd, s.wf ∧ CAt wx q s) ∧ CAt wx p good6 ∧ Cells wx (some ⟨z, 0, none⟩) (i64s nums18) ∧ Below w.heap.size w wx)
              case first =>
                have hh8 : h = 0 ∨ h = 1 ∨ h = 2 ∨ h = 3 ∨ h = 4 ∨ h = 5 ∨ h = 6 ∨ h = 7 := by omega
                rcases hh8 with rfl | rfl | rfl | rfl | rfl | rfl | rfl | rfl
                · as_aux_lemma =>
                  have y := C3.frozen 1
                  have xx := C3.cell 1
                  have D4 := hide (C3.set 1 (.int .i64 x) { good6 with kind := k, id := x } (by simp [Cmd.cells, good6]))
                  have L4 := (Leaves.refl q none w3).setCell 1 (.int .i64 x)
                  have G4 := hide (G3.leaves L4 (by omega))
                  have W4 := hide (L4.cells W3 (fun b o hA => ⟨by injection hA with hA; injection hA with hA; omega, by simp⟩))
                  have B4 := hide (Leaves.below0 B3 L4 hq)
                  have WF4 : Hid (Cmd.wf { good6 with kind := k, id := x }) := hide { good6_wf with kind := hkin, id := hxin.out }
                  clear C3 G3 W3 B3 L4
                  simp only [Cmd.cells, good6] at xx
                  go_wp2_with fail
                  go_meet
                  exact ⟨⟨_, WF4.out, D4.out⟩, G4.out, W4.out, B4.out⟩
                · as_aux_lemma =>
                  have y := C3.frozen 2
                  have xx := C3.cell 2
                  have D4 := hide (C3.set 2 (.int .i64 x) { good6 with kind := k, inst := x } (by simp [Cmd.cells, good6]))
                  have L4 := (Leaves.refl q none w3).setCell 2 (.int .i64 x)
                  have G4 := hide (G3.leaves L4 (by omega))
                  have W4 := hide (L4.cells W3 (fun b o hA => ⟨by injection hA with hA; injection hA with hA; omega, by simp⟩))
                  have B4 := hide (Leaves.below0 B3 L4 hq)
                  have WF4 : Hid (Cmd.wf { good6 with kind := k, inst := x }) := hide { good6_wf with kind := hkin, inst := hxin.out }
                  clear C3 G3 W3 B3 L4
                  simp only [Cmd.cells, good6] at xx
                  go_wp2_with fail
                  go_meet
                  exact ⟨⟨_, WF4.out, D4.out⟩, G4.out, W4.out, B4.out⟩
                · as_aux_lemma =>
                  have y := C3.frozen 3
                  have xx := C3.cell 3
                  have D4 := hide (C3.set 3 (.int .i64 x) { good6 with kind := k, side := x } (by simp [Cmd.cells, good6]))
                  have L4 := (Leaves.refl q none w3).setCell 3 (.int .i64 x)
                  have G4 := hide (G3.leaves L4 (by omega))
                  have W4 := hide (L4.cells W3 (fun b o hA => ⟨by injection hA with hA; injection hA with hA; omega, by simp⟩))
                  have B4 := hide (Leaves.below0 B3 L4 hq)
                  have WF4 : Hid (Cmd.wf { good6 with kind := k, side := x }) := hide { good6_wf with kind := hkin, side := hxin.out }
                  clear C3 G3 W3 B3 L4
                  simp only [Cmd.cells, good6] at xx
                  go_wp2_with fail
                  go_meet
                  exact ⟨⟨_, WF4.out, D4.out⟩, G4.out, W4.out, B4.out⟩
                · as_aux_lemma =>
                  have y := C3.frozen 4
                  have xx := C3.cell 4
                  have D4 := hide (C3.set 4 (.int .i64 x) { good6 with kind := k, price := x } (by simp [Cmd.cells, good6]))
                  have L4 := (Leaves.refl q none w3).setCell 4 (.int .i64 x)
                  have G4 := hide (G3.leaves L4 (by omega))
                  have W4 := hide (L4.cells W3 (fun b o hA => ⟨by injection hA with hA; injection hA with hA; omega, by simp⟩))
                  have B4 := hide (Leaves.below0 B3 L4 hq)
                  have WF4 : Hid (Cmd.wf { good6 with kind := k, price := x }) := hide { good6_wf with kind := hkin, price := hxin.out }
                  clear C3 G3 W3 B3 L4
                  simp only [Cmd.cells, good6] at xx
                  go_wp2_with fail
                  go_meet
                  exact ⟨⟨_, WF4.out, D4.out⟩, G4.out, W4.out, B4.out⟩
                · as_aux_lemma =>
                  have y := C3.frozen 5
                  have xx := C3.cell 5
                  have D4 := hide (C3.set 5 (.int .i64 x) { good6 with kind := k, qty := x } (by simp [Cmd.cells, good6]))
                  have L4 := (Leaves.refl q none w3).setCell 5 (.int .i64 x)
                  have G4 := hide (G3.leaves L4 (by omega))
                  have W4 := hide (L4.cells W3 (fun b o hA => ⟨by injection hA with hA; injection hA with hA; omega, by simp⟩))
                  have B4 := hide (Leaves.below0 B3 L4 hq)
                  have WF4 : Hid (Cmd.wf { good6 with kind := k, qty := x }) := hide { good6_wf with kind := hkin, qty := hxin.out }
                  clear C3 G3 W3 B3 L4
                  simp only [Cmd.cells, good6] at xx
                  go_wp2_with fail
                  go_meet
                  exact ⟨⟨_, WF4.out, D4.out⟩, G4.out, W4.out, B4.out⟩
                · as_aux_lemma =>
                  have y := C3.frozen 6
                  have xx := C3.cell 6
                  have D4 := hide (C3.set 6 (.int .i64 x) { good6 with kind := k, least := x } (by simp [Cmd.cells, good6]))
                  have L4 := (Leaves.refl q none w3).setCell 6 (.int .i64 x)
                  have G4 := hide (G3.leaves L4 (by omega))
                  have W4 := hide (L4.cells W3 (fun b o hA => ⟨by injection hA with hA; injection hA with hA; omega, by simp⟩))
                  have B4 := hide (Leaves.below0 B3 L4 hq)
                  have WF4 : Hid (Cmd.wf { good6 with kind := k, least := x }) := hide { good6_wf with kind := hkin, least := hxin.out }
                  clear C3 G3 W3 B3 L4
                  simp only [Cmd.cells, good6] at xx
                  go_wp2_with fail
                  go_meet
                  exact ⟨⟨_, WF4.out, D4.out⟩, G4.out, W4.out, B4.out⟩
                · as_aux_lemma =>
                  have y := C3.frozen 7
                  have xx := C3.cell 7
                  have D4 := hide (C3.set 7 (.int .i64 x) { good6 with kind := k, time := x } (by simp [Cmd.cells, good6]))
                  have L4 := (Leaves.refl q none w3).setCell 7 (.int .i64 x)
                  have G4 := hide (G3.leaves L4 (by omega))
                  have W4 := hide (L4.cells W3 (fun b o hA => ⟨by injection hA with hA; injection hA with hA; omega, by simp⟩))
                  have B4 := hide (Leaves.below0 B3 L4 hq)
                  have WF4 : Hid (Cmd.wf { good6 with kind := k, time := x }) := hide { good6_wf with kind := hkin, time := hxin.out }
                  clear C3 G3 W3 B3 L4
                  simp only [Cmd.cells, good6] at xx
                  go_wp2_with fail
                  go_meet
                  exact ⟨⟨_, WF4.out, D4.out⟩, G4.out, W4.out, B4.out⟩
                · as_aux_lemma =>
                  have y := C3.frozen 8
                  have xx := C3.cell 8
                  simp only [Cmd.cells, good6] at xx
                  have hwb := within_bd x 0 3 (by omega)
                  obtain ⟨j, hj⟩ : ∃ j : Nat, within x 0 3 = j := ⟨(within x 0 3).toNat, by omega⟩
                  rw [hj] at hwb
                  have HJ := hide hj
                  have hj4 : j = 0 ∨ j = 1 ∨ j = 2 ∨ j = 3 := by omega
                  have hxx := hxin.out
                  unfold inI at hxx
                  clear hj hwb
                  go_wp2_with fail
                  refine (within_any x 0 3 _ (by omega) (by omega) (by omega)).mono ?_
                  rw [HJ.out]
                  rintro e u ⟨rfl, rfl⟩
                  clear hxx
                  have ya : ∀ o, (w3.alloc o).frozen? ⟨q, 8, none⟩ = false := fun o => (C3.below (nxt_alloc (Below.refl _ _) o)).frozen 8
                  have xa : ∀ o, (w3.alloc o).cell? ⟨q, 8, none⟩ = some (.string (str [195, 169])) := fun o => (C3.below (nxt_alloc (Below.refl _ _) o)).cell 8
                  rcases hj4 with rfl | rfl | rfl | rfl
                  · as_aux_lemma =>
                    have D4 := hide ((show CAt (w3.alloc (.cells (labs4.map fun s => Value.string (str s)).toArray 9)) q _ from C3.below (nxt_alloc (Below.refl _ _) _)).set 8 (.string (str (labs4.getD 0 []))) { good6 with kind := k, lab := labs4.getD 0 [] } (by simp [Cmd.cells, good6]))
                    have L4 := ((Leaves.of_below (d := q) (r := none) (nxt_alloc (Below.refl w3.heap.size w3) (.cells (labs4.map fun s => Value.string (str s)).toArray 9)))).setCell 8 (.string (str (labs4.getD 0 [])))
                    have G4 := hide (G3.leaves L4 (by omega))
                    have W4 := hide (L4.cells W3 (fun b o hA => ⟨by injection hA with hA; injection hA with hA; omega, by simp⟩))
                    have B4 := hide (Leaves.below0 B3 L4 hq)
                    have WF4 : Hid (Cmd.wf { good6 with kind := k, lab := labs4.getD 0 [] }) := hide { good6_wf with kind := hkin, lab := by simp [labs4] }
                    clear C3 G3 W3 B3 L4
                    go_wp2_with fail
                    go_meet
                    exact ⟨⟨_, WF4.out, D4.out⟩, G4.out, W4.out, B4.out⟩
                  · as_aux_lemma =>
                    have D4 := hide ((show CAt (w3.alloc (.cells (labs4.map fun s => Value.string (str s)).toArray 9)) q _ from C3.below (nxt_alloc (Below.refl _ _) _)).set 8 (.string (str (labs4.getD 1 []))) { good6 with kind := k, lab := labs4.getD 1 [] } (by simp [Cmd.cells, good6]))
                    have L4 := ((Leaves.of_below (d := q) (r := none) (nxt_alloc (Below.refl w3.heap.size w3) (.cells (labs4.map fun s => Value.string (str s)).toArray 9)))).setCell 8 (.string (str (labs4.getD 1 [])))
                    have G4 := hide (G3.leaves L4 (by omega))
                    have W4 := hide (L4.cells W3 (fun b o hA => ⟨by injection hA with hA; injection hA with hA; omega, by simp⟩))
                    have B4 := hide (Leaves.below0 B3 L4 hq)
                    have WF4 : Hid (Cmd.wf { good6 with kind := k, lab := labs4.getD 1 [] }) := hide { good6_wf with kind := hkin, lab := by simp [labs4] }
                    clear C3 G3 W3 B3 L4
                    go_wp2_with fail
                    go_meet
                    exact ⟨⟨_, WF4.out, D4.out⟩, G4.out, W4.out, B4.out⟩
                  · as_aux_lemma =>
                    have D4 := hide ((show CAt (w3.alloc (.cells (labs4.map fun s => Value.string (str s)).toArray 9)) q _ from C3.below (nxt_alloc (Below.refl _ _) _)).set 8 (.string (str (labs4.getD 2 []))) { good6 with kind := k, lab := labs4.getD 2 [] } (by simp [Cmd.cells, good6]))
                    have L4 := ((Leaves.of_below (d := q) (r := none) (nxt_alloc (Below.refl w3.heap.size w3) (.cells (labs4.map fun s => Value.string (str s)).toArray 9)))).setCell 8 (.string (str (labs4.getD 2 [])))
                    have G4 := hide (G3.leaves L4 (by omega))
                    have W4 := hide (L4.cells W3 (fun b o hA => ⟨by injection hA with hA; injection hA with hA; omega, by simp⟩))
                    have B4 := hide (Leaves.below0 B3 L4 hq)
                    have WF4 : Hid (Cmd.wf { good6 with kind := k, lab := labs4.getD 2 [] }) := hide { good6_wf with kind := hkin, lab := by simp [labs4] }
                    clear C3 G3 W3 B3 L4
                    go_wp2_with fail
                    go_meet
                    exact ⟨⟨_, WF4.out, D4.out⟩, G4.out, W4.out, B4.out⟩
                  · as_aux_lemma =>
                    have D4 := hide ((show CAt (w3.alloc (.cells (labs4.map fun s => Value.string (str s)).toArray 9)) q _ from C3.below (nxt_alloc (Below.refl _ _) _)).set 8 (.string (str (labs4.getD 3 []))) { good6 with kind := k, lab := labs4.getD 3 [] } (by simp [Cmd.cells, good6]))
                    have L4 := ((Leaves.of_below (d := q) (r := none) (nxt_alloc (Below.refl w3.heap.size w3) (.cells (labs4.map fun s => Value.string (str s)).toArray 9)))).setCell 8 (.string (str (labs4.getD 3 [])))
                    have G4 := hide (G3.leaves L4 (by omega))
                    have W4 := hide (L4.cells W3 (fun b o hA => ⟨by injection hA with hA; injection hA with hA; omega, by simp⟩))
                    have B4 := hide (Leaves.below0 B3 L4 hq)
                    have WF4 : Hid (Cmd.wf { good6 with kind := k, lab := labs4.getD 3 [] }) := hide { good6_wf with kind := hkin, lab := by simp [labs4] }
                    clear C3 G3 W3 B3 L4
                    go_wp2_with fail
                    go_meet
                    exact ⟨⟨_, WF4.out, D4.out⟩, G4.out, W4.out, B4.out⟩
              obtain ⟨HS, G4, W4, B4⟩ := hcut
              obtain ⟨s, hsw, C4⟩ := HS.out
              obtain ⟨w4, ew4⟩ : ∃ w4, w4 = wc := ⟨_, rfl⟩
              rw [← ew4] at C4 G4 W4 B4 ⊢
              have hsl := hsw.lab
              clear ew4 C3 G3 W3 B3 HS hsw hxin
              obtain ⟨R, eR⟩ : ∃ R, R = rightC s := ⟨_, rfl⟩
              obtain ⟨L, eL⟩ : ∃ L, L = encO s := ⟨_, rfl⟩
              obtain ⟨N, eN⟩ : ∃ N, L.length = N := ⟨_, rfl⟩
              have ER := hide eR; have EL := hide eL; have EN := hide eN
              have hN : N ≤ 292 := by rw [← eN, eL]; exact length_encO s
              clear eR eL eN
              obtain ⟨f0, f1, f2, f3, f4, f5, f6, f7, f8⟩ := C4.reads'
              go_wp2_with fail
              refine (encode_any s hsl _).mono ?_
              rw [← ER.out, ← EL.out]
              rintro e w5 ⟨A5, c5, he, -, hA5, -, -, b5⟩
              rw [EN.out] at he
              subst he
              have C5 := C4.below b5
              have G5 := G4.below b5
              have W5 := W4.below b5
              have B5 := nxt B4 b5
              clear f0 f1 f2 f3 f4 f5 f6 f7 f8 C4 G4 W4 B4 b5
              obtain ⟨f0, f1, f2, f3, f4, f5, f6, f7, f8⟩ := C5.reads'
              go_wp2_with fail
              refine (refEncode_any s hsl _).mono ?_
              rw [← ER.out, ← EL.out]
              rintro e w6 ⟨A6, c6, he, -, hA6, hc6, hm6, b6⟩
              rw [EN.out] at he hc6
              subst he
              have C6 := hide (C5.below b6)
              have G6 := hide (G5.below b6)
              have W6 := hide (W5.below b6)
              have hA56 := hA5.below b6
              have hm6' : c6 ≤ 9223372036854775807 := hm6
              have B6 := nxt B5 b6
              clear f0 f1 f2 f3 f4 f5 f6 f7 f8 C5 G5 W5 hA5 B5 b6 hm6
              have k1 : ∀ u, Below w6.heap.size w6.drew u → Sem.run Try.prog (convert 28 9 (.slice A5 N c5)) u = .ok (.string (str L)) u := Cells.strs (P := Try.prog) Try.underlying28 Try.underlying5 Try.underlying9 EN.out hA56.drew c5
              have k2 : ∀ u, Below w6.heap.size w6.drew u → Sem.run Try.prog (convert 28 9 (.slice A6 N c6)) u = .ok (.string (str L)) u := Cells.strs (P := Try.prog) Try.underlying28 Try.underlying5 Try.underlying9 EN.out hA6.drew c6
              have e6 : ((str L).toList != (str L).toList) = false := by simp
              have l0 : ∀ u, Below w6.heap.size w6.drew u → u.cell? ⟨q, 0, none⟩ = some _ := C6.out.laterD 0 _ rfl
              have l1 : ∀ u, Below w6.heap.size w6.drew u → u.cell? ⟨q, 1, none⟩ = some _ := C6.out.laterD 1 _ rfl
              have l2 : ∀ u, Below w6.heap.size w6.drew u → u.cell? ⟨q, 2, none⟩ = some _ := C6.out.laterD 2 _ rfl
              have l3 : ∀ u, Below w6.heap.size w6.drew u → u.cell? ⟨q, 3, none⟩ = some _ := C6.out.laterD 3 _ rfl
              have l4 : ∀ u, Below w6.heap.size w6.drew u → u.cell? ⟨q, 4, none⟩ = some _ := C6.out.laterD 4 _ rfl
              have l5 : ∀ u, Below w6.heap.size w6.drew u → u.cell? ⟨q, 5, none⟩ = some _ := C6.out.laterD 5 _ rfl
              have l6 : ∀ u, Below w6.heap.size w6.drew u → u.cell? ⟨q, 6, none⟩ = some _ := C6.out.laterD 6 _ rfl
              have l7 : ∀ u, Below w6.heap.size w6.drew u → u.cell? ⟨q, 7, none⟩ = some _ := C6.out.laterD 7 _ rfl
              have l8 : ∀ u, Below w6.heap.size w6.drew u → u.cell? ⟨q, 8, none⟩ = some _ := C6.out.laterD 8 _ rfl
              clear hA56
              go_wp2_with fail
              have Bi6 : ∀ u, Below w6.heap.size w6 u → Below w.heap.size w u := fun u h => nxt B6 h
              refine wp_region_tree (R := Below w6.heap.size) 45 (by kernel_rfl) (by kernel_rfl) ?_
              refine from_run [0, 1, 2, 3, 4, 5, 6, 7, 8, 9, 10, 11, 13] 32 (fun _ _ _ _ _ h => h) (by kernel_rfl) (Lower.rf _ _) ?_
              (repeat ((first | (refine takes_skip (by rfl) (by rfl) ?_) | (refine takes_take (v := ?_) (by rfl) (by rfl) ?_ ?_; rotate_left 1; focus (intro w' hSw; go_simp; (try (with_reducible rfl)); done))); (try simp only [Act.put, List.setIfInBounds_toArray, List.set_cons_zero, List.set_cons_succ]))); refine takes_done ?_
              clear k1 k2 l0 l1 l2 l3 l4 l5 l6 l7 l8 C6
              refine from_moves [12] (Lower.tr _) 31 (by kernel_rfl) ?_
              refine moves_one (by rfl) (by rfl) (fun K hK => ?_) ?_
              · go_simp
                refine (right_any s hsl _).mono ?_
                rw [← ER.out]
                rintro e u1 ⟨rfl, d1⟩
                refine hK.out _ _ (d1.mono (Nat.le_refl _)) ?_; clear hK K; (try simp only [Act.put, List.setIfInBounds_toArray, List.set_cons_zero, List.set_cons_succ])
                have U1 : Below w6.heap.size w6 u1 := (Below.refl _ _).drew.trans d1
                clear d1
                refine from_moves [14] (Lower.tr _) 30 (by kernel_rfl) ?_
                refine moves_one (by rfl) (by rfl) (fun K hK => ?_) ?_
                · go_simp
                  refine (refRight_any s hsl _).mono ?_
                  rw [← ER.out]
                  rintro e u2 ⟨rfl, d2⟩
                  refine hK.out _ _ (d2.mono U1.size) ?_; clear hK K; (try simp only [Act.put, List.setIfInBounds_toArray, List.set_cons_zero, List.set_cons_succ])
                  have U2 := U1.trans (d2.mono U1.size)
                  have hAu := hA6.below U2
                  clear U1 d2
                  refine from_run [15, 16, 17, 18] 26 (fun _ _ _ _ _ h => h) (by kernel_rfl) (Lower.rf _ _) ?_
                  (repeat ((first | (refine takes_skip (by rfl) (by rfl) ?_) | (refine takes_take (v := ?_) (by rfl) (by rfl) ?_ ?_; rotate_left 1; focus (intro w' hSw; go_simp; (try (with_reducible rfl)); done))); (try simp only [Act.put, List.setIfInBounds_toArray, List.set_cons_zero, List.set_cons_succ]))); refine takes_done ?_
                  refine from_moves [19] (Lower.tr _) 25 (by kernel_rfl) ?_
                  refine moves_one (by rfl) (by rfl) (fun K hK => ?_) ?_
                  · go_simp
                    refine (read6_any A6 N c6 L _ EN.out (by omega) hc6 hm6' hAu).mono ?_
                    rintro e u3 ⟨rfl, d3⟩
                    refine hK.out _ _ (d3.mono U2.size) ?_; clear hK K; (try simp only [Act.put, List.setIfInBounds_toArray, List.set_cons_zero, List.set_cons_succ])
                    have U3 := U2.trans (d3.mono U2.size)
                    have hAv := hA6.below U3
                    clear U2 d3 hAu
                    by_cases hN0 : N = 0
                    · as_aux_lemma =>
                      subst hN0
                      refine from_run [20, 21, 22, 23, 24, 25, 26, 27, 28, 29, 30, 31, 32, 33, 34, 35, 36, 37, 38, 39, 40, 41, 42, 43, 44] 0 (fun _ _ _ _ _ h => h) (by kernel_rfl) (Lower.rf _ _) ?_
                      (repeat ((first | (refine takes_skip (by rfl) (by rfl) ?_) | (refine takes_take (v := ?_) (by rfl) (by rfl) ?_ ?_; rotate_left 1; focus (intro w' hSw; go_simp; (try (with_reducible rfl)); done))); (try simp only [Act.put, List.setIfInBounds_toArray, List.set_cons_zero, List.set_cons_succ]))); refine takes_done ?_
                      refine from_done (by kernel_rfl) ?_
                      go_wp2_with fail
                      go_roundw
                      case rel => exact ⟨i + 1, by omega, by go_num, G6.out.below (U3), W6.out.below (U3), Bi6 _ (U3)⟩
                      case measure => simp [intOf]; omega
                    · as_aux_lemma =>
                      have hNp : (0 : Int) < N := by omega
                      have hNq : 0 < N := by omega
                      have hNr : decide (0 < N) = true := by simp; omega
                      obtain ⟨N1, eK⟩ : ∃ N1 : Nat, N = N1 + 1 := ⟨N - 1, by omega⟩
                      have hTl : (L.take N1).length = N1 := by rw [List.length_take, EN.out]; omega
                      have hTc := hAv.takeB N1
                      have hTL := hide hTl
                      have e8 : IntKind.i64.wrap ((N : Int) - 1) = (N1 : Int) := by rw [IntWalk.i64_in _ (by omega)]; omega
                      have e9 : wrap64 ((N : Int) - 1) = (N1 : Int) := by unfold wrap64; omega
                      have i8 : (N1 : Int) ≤ c6 := by omega
                      have i9 : (0 : Int) ≤ (N1 : Int) := by omega
                      have hKN : N1 ≤ N := by omega
                      clear hTl eK
                      refine from_run [20, 21, 22, 23, 24, 25, 26, 27, 28, 29, 30, 31] 13 (fun _ _ _ _ _ h => h) (by kernel_rfl) (Lower.rf _ _) ?_
                      (repeat ((first | (refine takes_skip (by rfl) (by rfl) ?_) | (refine takes_take (v := ?_) (by rfl) (by rfl) ?_ ?_; rotate_left 1; focus (intro w' hSw; go_simp; (try (with_reducible rfl)); done))); (try simp only [Act.put, List.setIfInBounds_toArray, List.set_cons_zero, List.set_cons_succ]))); refine takes_done ?_
                      refine from_moves [32] (Lower.tr _) 12 (by kernel_rfl) ?_
                      refine moves_one (by rfl) (by rfl) (fun K hK => ?_) ?_
                      · go_simp
                        refine (read6_any A6 N1 c6 (L.take N1) _ hTL.out (by omega) (by omega) hm6' hTc).mono ?_
                        rintro e u4 ⟨rfl, d4⟩
                        refine hK.out _ _ (d4.mono U3.size) ?_; clear hK K; (try simp only [Act.put, List.setIfInBounds_toArray, List.set_cons_zero, List.set_cons_succ])
                        have U4 := U3.trans (d4.mono U3.size)
                        clear U3 d4 hAv hTc hTL
                        refine from_run [33, 34, 36] 9 (fun _ _ _ _ _ h => h) (by kernel_rfl) (Lower.rf _ _) ?_
                        (repeat ((first | (refine takes_skip (by rfl) (by rfl) ?_) | (refine takes_take (v := ?_) (by rfl) (by rfl) ?_ ?_; rotate_left 1; focus (intro w' hSw; go_simp; (try (with_reducible rfl)); done))); (try simp only [Act.put, List.setIfInBounds_toArray, List.set_cons_zero, List.set_cons_succ]))); refine takes_done ?_
                        refine from_moves [35, 38] (Lower.tr _) 8 (by kernel_rfl) ?_
                        refine moves_one (by rfl) (by rfl) (fun K hK => ?_) ?_
                        · as_aux_lemma =>
                          go_simp
                          have ownE : (u4.alloc (.cells #[] 5)).ownsRow w6.heap.size 5 1 (.slice (some ⟨u4.heap.size, 0, none⟩) 0 0) 0 [] := World.ownsRow_lit u4 #[] 0 U4.size (Nat.zero_le _) rfl
                          have UE := U4.alloc U4.size (.cells #[] 5)
                          refine hK.out _ _ (lower_allocB U4.size _) ?_; clear hK K; (try simp only [Act.put, List.setIfInBounds_toArray, List.set_cons_zero, List.set_cons_succ])
                          refine from_moves [37, 38] (Lower.tr _) 7 (by kernel_rfl) ?_
                          refine moves_one (by rfl) (by rfl) (fun K hK => ?_) ?_
                          · refine wp_app elU8 ownE (news := u8s L) _ _ rfl rfl rfl (by rw [length_u8s]; exact EN.out) (hA6.below (UE)) (u8s_one L) (by omega) (UE).size N (u8s L) (by omega) (by simp) ?_
                            intro A7 c7 u7 p7
                            have V7 := p7.below _ _ (Nat.le_refl _) (UE)
                            refine hK.out _ _ (p7.below _ _ (Nat.le_refl _) (Below.refl _ _)) ?_; clear hK K; (try simp only [Act.put, List.setIfInBounds_toArray, List.set_cons_zero, List.set_cons_succ])
                            refine from_moves [38] (Lower.tr _) 6 (by kernel_rfl) ?_
                            refine moves_one (by rfl) (by rfl) (fun K hK => ?_) ?_
                            · as_aux_lemma =>
                              go_simp
                              have own8 := p7.own.alloc (.cells #[.int .u8 0] 5)
                              have clO := Cells.lit u7 #[.int .u8 0] 5
                              have UO := V7.alloc V7.size (.cells #[.int .u8 0] 5)
                              refine hK.out _ _ (lower_allocB V7.size _) ?_; clear hK K; (try simp only [Act.put, List.setIfInBounds_toArray, List.set_cons_zero, List.set_cons_succ])
                              refine from_moves [39] (Lower.tr _) 5 (by kernel_rfl) ?_
                              refine moves_one (by rfl) (by rfl) (fun K hK => ?_) ?_
                              · refine wp_app elU8 own8 (news := [Value.int .u8 0]) _ _ rfl rfl rfl rfl (clO) (by simp [Value.oneCell']) (by omega) (UO).size (N + 1) (u8s (L ++ [0])) rfl (by simp [u8s]) ?_
                                intro A8 c8 u8 p8
                                have V8 := p8.below _ _ (Nat.le_refl _) (UO)
                                refine hK.out _ _ (p8.below _ _ (Nat.le_refl _) (Below.refl _ _)) ?_; clear hK K; (try simp only [Act.put, List.setIfInBounds_toArray, List.set_cons_zero, List.set_cons_succ])
                                refine from_moves [40] (Lower.tr _) 4 (by kernel_rfl) ?_
                                refine moves_one (by rfl) (by rfl) (fun K hK => ?_) ?_
                                · as_aux_lemma =>
                                  go_simp
                                  obtain ⟨hr1, hr2⟩ := own_room6 p8.own
                                  refine (read6_any _ (N + 1) _ (L ++ [0]) _ (by rw [List.length_append, EN.out]; rfl) (by omega) hr1 hr2 (Cells.of_own p8.own)).mono ?_
                                  rintro e u9 ⟨rfl, d9⟩
                                  refine hK.out _ _ (d9.mono (V8).size) ?_; clear hK K; (try simp only [Act.put, List.setIfInBounds_toArray, List.set_cons_zero, List.set_cons_succ])
                                  have U9 := (V8).trans (d9.mono (V8).size)
                                  refine from_run [41, 42, 43, 44] 0 (fun _ _ _ _ _ h => h) (by kernel_rfl) (Lower.rf _ _) ?_
                                  (repeat ((first | (refine takes_skip (by rfl) (by rfl) ?_) | (refine takes_take (v := ?_) (by rfl) (by rfl) ?_ ?_; rotate_left 1; focus (intro w' hSw; go_simp; (try (with_reducible rfl)); done))); (try simp only [Act.put, List.setIfInBounds_toArray, List.set_cons_zero, List.set_cons_succ]))); refine takes_done ?_
                                  refine from_done (by kernel_rfl) ?_
                                  go_wp2_with fail
                                  go_roundw
                                  case rel => exact ⟨i + 1, by omega, by go_num, G6.out.below (U9), W6.out.below (U9), Bi6 _ (U9)⟩
                                  case measure => simp [intOf]; omega
                                exact moves_end
                              exact moves_end
                            exact moves_end
                          refine moves_one (by rfl) (by rfl) (fun K hK => ?_) ?_
                          · as_aux_lemma =>
                            go_simp
                            have ownE2 := ownE.alloc (.cells #[.int .u8 0] 5)
                            have h9 : (u4.alloc (.cells #[] 5)).heap.size = u4.heap.size + 1 := by simp
                            have clO := Cells.lit (u4.alloc (.cells #[] 5)) #[.int .u8 0] 5
                            rw [h9] at clO
                            clear h9
                            have UO := UE.alloc UE.size (.cells #[.int .u8 0] 5)
                            refine hK.out _ _ (lower_allocB UE.size _) ?_; clear hK K; (try simp only [Act.put, List.setIfInBounds_toArray, List.set_cons_zero, List.set_cons_succ])
                            refine from_moves [37] (Lower.tr _) 6 (by kernel_rfl) ?_
                            refine moves_one (by rfl) (by rfl) (fun K hK => ?_) ?_
                            · refine wp_app elU8 ownE2 (news := u8s L) _ _ rfl rfl rfl (by rw [length_u8s]; exact EN.out) (hA6.below (UO)) (u8s_one L) (by omega) (UO).size N (u8s L) (by omega) (by simp) ?_
                              intro A7 c7 u7 p7
                              have V7 := p7.below _ _ (Nat.le_refl _) (UO)
                              refine hK.out _ _ (p7.below _ _ (Nat.le_refl _) (Below.refl _ _)) ?_; clear hK K; (try simp only [Act.put, List.setIfInBounds_toArray, List.set_cons_zero, List.set_cons_succ])
                              refine from_moves [39] (Lower.tr _) 5 (by kernel_rfl) ?_
                              refine moves_one (by rfl) (by rfl) (fun K hK => ?_) ?_
                              · refine wp_app elU8 p7.own (news := [Value.int .u8 0]) _ _ rfl rfl rfl rfl (cells_grown p7 clO (by intro b o h; injection h with h; injection h with h; simp [Value.ownBlock, ← h])) (by simp [Value.oneCell']) (by omega) (V7).size (N + 1) (u8s (L ++ [0])) rfl (by simp [u8s]) ?_
                                intro A8 c8 u8 p8
                                have V8 := p8.below _ _ (Nat.le_refl _) (V7)
                                refine hK.out _ _ (p8.below _ _ (Nat.le_refl _) (Below.refl _ _)) ?_; clear hK K; (try simp only [Act.put, List.setIfInBounds_toArray, List.set_cons_zero, List.set_cons_succ])
                                refine from_moves [40] (Lower.tr _) 4 (by kernel_rfl) ?_
                                refine moves_one (by rfl) (by rfl) (fun K hK => ?_) ?_
                                · as_aux_lemma =>
                                  go_simp
                                  obtain ⟨hr1, hr2⟩ := own_room6 p8.own
                                  refine (read6_any _ (N + 1) _ (L ++ [0]) _ (by rw [List.length_append, EN.out]; rfl) (by omega) hr1 hr2 (Cells.of_own p8.own)).mono ?_
                                  rintro e u9 ⟨rfl, d9⟩
                                  refine hK.out _ _ (d9.mono (V8).size) ?_; clear hK K; (try simp only [Act.put, List.setIfInBounds_toArray, List.set_cons_zero, List.set_cons_succ])
                                  have U9 := (V8).trans (d9.mono (V8).size)
                                  refine from_run [41, 42, 43, 44] 0 (fun _ _ _ _ _ h => h) (by kernel_rfl) (Lower.rf _ _) ?_
                                  (repeat ((first | (refine takes_skip (by rfl) (by rfl) ?_) | (refine takes_take (v := ?_) (by rfl) (by rfl) ?_ ?_; rotate_left 1; focus (intro w' hSw; go_simp; (try (with_reducible rfl)); done))); (try simp only [Act.put, List.setIfInBounds_toArray, List.set_cons_zero, List.set_cons_succ]))); refine takes_done ?_
                                  refine from_done (by kernel_rfl) ?_
                                  go_wp2_with fail
                                  go_roundw
                                  case rel => exact ⟨i + 1, by omega, by go_num, G6.out.below (U9), W6.out.below (U9), Bi6 _ (U9)⟩
                                  case measure => simp [intOf]; omega
                                exact moves_end
                              exact moves_end
                            exact moves_end
                          exact moves_end
                        refine moves_one (by rfl) (by rfl) (fun K hK => ?_) ?_
                        · as_aux_lemma =>
                          go_simp
                          have clO := Cells.lit u4 #[.int .u8 0] 5
                          have UO := U4.alloc U4.size (.cells #[.int .u8 0] 5)
                          refine hK.out _ _ (lower_allocB U4.size _) ?_; clear hK K; (try simp only [Act.put, List.setIfInBounds_toArray, List.set_cons_zero, List.set_cons_succ])
                          refine from_moves [35] (Lower.tr _) 7 (by kernel_rfl) ?_
                          refine moves_one (by rfl) (by rfl) (fun K hK => ?_) ?_
                          · as_aux_lemma =>
                            go_simp
                            have h9 : (u4.alloc (.cells #[.int .u8 0] 5)).heap.size = u4.heap.size + 1 := by simp
                            have ownE : ((u4.alloc (.cells #[.int .u8 0] 5)).alloc (.cells #[] 5)).ownsRow w6.heap.size 5 1 (.slice (some ⟨(u4.alloc (.cells #[.int .u8 0] 5)).heap.size, 0, none⟩) 0 0) 0 [] := World.ownsRow_lit (u4.alloc (.cells #[.int .u8 0] 5)) #[] 0 UO.size (Nat.zero_le _) rfl
                            rw [h9] at ownE
                            clear h9
                            have UE := UO.alloc UO.size (.cells #[] 5)
                            refine hK.out _ _ (lower_allocB UO.size _) ?_; clear hK K; (try simp only [Act.put, List.setIfInBounds_toArray, List.set_cons_zero, List.set_cons_succ])
                            refine from_moves [37] (Lower.tr _) 6 (by kernel_rfl) ?_
                            refine moves_one (by rfl) (by rfl) (fun K hK => ?_) ?_
                            · refine wp_app elU8 ownE (news := u8s L) _ _ rfl rfl rfl (by rw [length_u8s]; exact EN.out) (hA6.below (UE)) (u8s_one L) (by omega) (UE).size N (u8s L) (by omega) (by simp) ?_
                              intro A7 c7 u7 p7
                              have V7 := p7.below _ _ (Nat.le_refl _) (UE)
                              refine hK.out _ _ (p7.below _ _ (Nat.le_refl _) (Below.refl _ _)) ?_; clear hK K; (try simp only [Act.put, List.setIfInBounds_toArray, List.set_cons_zero, List.set_cons_succ])
                              refine from_moves [39] (Lower.tr _) 5 (by kernel_rfl) ?_
                              refine moves_one (by rfl) (by rfl) (fun K hK => ?_) ?_
                              · refine wp_app elU8 p7.own (news := [Value.int .u8 0]) _ _ rfl rfl rfl rfl (cells_grown p7 (clO.alloc _) (by intro b o h; injection h with h; injection h with h; simp [Value.ownBlock, ← h])) (by simp [Value.oneCell']) (by omega) (V7).size (N + 1) (u8s (L ++ [0])) rfl (by simp [u8s]) ?_
                                intro A8 c8 u8 p8
                                have V8 := p8.below _ _ (Nat.le_refl _) (V7)
                                refine hK.out _ _ (p8.below _ _ (Nat.le_refl _) (Below.refl _ _)) ?_; clear hK K; (try simp only [Act.put, List.setIfInBounds_toArray, List.set_cons_zero, List.set_cons_succ])
                                refine from_moves [40] (Lower.tr _) 4 (by kernel_rfl) ?_
                                refine moves_one (by rfl) (by rfl) (fun K hK => ?_) ?_
                                · as_aux_lemma =>
                                  go_simp
                                  obtain ⟨hr1, hr2⟩ := own_room6 p8.own
                                  refine (read6_any _ (N + 1) _ (L ++ [0]) _ (by rw [List.length_append, EN.out]; rfl) (by omega) hr1 hr2 (Cells.of_own p8.own)).mono ?_
                                  rintro e u9 ⟨rfl, d9⟩
                                  refine hK.out _ _ (d9.mono (V8).size) ?_; clear hK K; (try simp only [Act.put, List.setIfInBounds_toArray, List.set_cons_zero, List.set_cons_succ])
                                  have U9 := (V8).trans (d9.mono (V8).size)
                                  refine from_run [41, 42, 43, 44] 0 (fun _ _ _ _ _ h => h) (by kernel_rfl) (Lower.rf _ _) ?_
                                  (repeat ((first | (refine takes_skip (by rfl) (by rfl) ?_) | (refine takes_take (v := ?_) (by rfl) (by rfl) ?_ ?_; rotate_left 1; focus (intro w' hSw; go_simp; (try (with_reducible rfl)); done))); (try simp only [Act.put, List.setIfInBounds_toArray, List.set_cons_zero, List.set_cons_succ]))); refine takes_done ?_
                                  refine from_done (by kernel_rfl) ?_
                                  go_wp2_with fail
                                  go_roundw
                                  case rel => exact ⟨i + 1, by omega, by go_num, G6.out.below (U9), W6.out.below (U9), Bi6 _ (U9)⟩
                                  case measure => simp [intOf]; omega
                                exact moves_end
                              exact moves_end
                            exact moves_end
                          exact moves_end
                        exact moves_end
                      exact moves_end
                    --ENDTREE
                  exact moves_end
                exact moves_end
              exact moves_end
            · obtain rfl : i = 18 := by omega
              go_wp2_with fail
              go_roundw
              case rel => exact ⟨h + 1, by omega, by go_num, Gi, Bi⟩
              case measure => simp [intOf]; omega
        · obtain rfl : h = 8 := by omega
          go_wp2_with fail
          go_roundw
          case rel => exact ⟨k + 1, by omega, by go_num, Gh, Bh⟩
          case measure => simp [intOf]; omega
    · as_aux_lemma =>
      obtain rfl : k = 6 := by omega
      obtain ⟨wq, ewq⟩ : ∃ w', w' = wr := ⟨_, rfl⟩
      rw [← ewq] at G B ⊢
      have G0 := G
      have B0 := B
      clear ewq G B
      go_wp2_with fail
      refine (cCut_any 3 4 _).mono ?_
      rintro e w1 ⟨rfl, b1⟩
      have G1 := G0.below b1
      have B1 := nxt B0 b1
      clear G0 B0 b1
      go_wp2_with fail
      refine (of_cut 3 4 _).mono ?_
      rintro e w2 ⟨rfl, b2⟩
      have G2 := G1.below b2
      have B2 := nxt B1 b2
      clear G1 B1 b2
      (try simp only [Cmd.val, Cmd.cells, Cmd.zero])
      go_upto_region 36 with (fail)
      obtain ⟨w3, ew⟩ : ∃ w', w' = w2.alloc (.cells (Cmd.cells ⟨3, 3, 0, 0, 0, 4, 0, 0, []⟩) 23) := ⟨_, rfl⟩
      obtain ⟨gd, eq⟩ : ∃ q, q = w2.heap.size := ⟨_, rfl⟩
      have D3 : CAt w3 gd ⟨3, 3, 0, 0, 0, 4, 0, 0, []⟩ := by rw [ew, eq]; exact CAt.new _ _
      have bb : Below w2.heap.size w2 w3 := by rw [ew]; exact nxt_alloc (Below.refl _ _) _
      have G3 := G2.below bb
      have B3 := nxt B2 bb
      clear G2 B2 bb
      refine wp_at ew ?_
      rw [← eq]
      clear ew eq
      go_wp2_with fail
      refine (cChange_any 3 5 4 _).mono ?_
      rintro e w4 ⟨rfl, b4⟩
      have G4 := G3.below b4
      have D4 := D3.below b4
      have B4 := nxt B3 b4
      clear G3 D3 B3 b4
      go_wp2_with fail
      refine (of_change 3 5 4 _).mono ?_
      rintro e w5 ⟨rfl, b5⟩
      have G5 := G4.below b5
      have D5 := D4.below b5
      have B5 := nxt B4 b5
      clear G4 D4 B4 b5
      (try simp only [Cmd.val, Cmd.cells, Cmd.zero])
      go_upto_region 37 with (fail)
      obtain ⟨w6, ew⟩ : ∃ w', w' = w5.alloc (.cells (Cmd.cells ⟨4, 3, 0, 0, 5, 4, 0, 0, []⟩) 23) := ⟨_, rfl⟩
      obtain ⟨ge, eq⟩ : ∃ q, q = w5.heap.size := ⟨_, rfl⟩
      have E6 : CAt w6 ge ⟨4, 3, 0, 0, 5, 4, 0, 0, []⟩ := by rw [ew, eq]; exact CAt.new _ _
      have bb : Below w5.heap.size w5 w6 := by rw [ew]; exact nxt_alloc (Below.refl _ _) _
      have G6 := G5.below bb
      have D6 := D5.below bb
      have B6 := nxt B5 bb
      clear G5 D5 B5 bb
      refine wp_at ew ?_
      rw [← eq]
      clear ew eq
      obtain ⟨f0, f1, f2, f3, f4, f5, f6, f7, f8⟩ := G6.reads'
      simp only [good6] at f0 f1 f2 f3 f4 f5 f6 f7 f8
      go_wp2_with fail
      refine (order6_any good6 _).mono ?_
      rintro e w7 ⟨he, b7⟩
      replace he : e = .returned good6.oval := he
      subst he
      have G7 := G6.below b7
      have D7 := D6.below b7
      have E7 := E6.below b7
      have B7 := nxt B6 b7
      clear G6 D6 E6 B6 b7 f0 f1 f2 f3 f4 f5 f6 f7 f8
      go_wp2_with fail
      refine (cOrder_any good6 _).mono ?_
      rintro e w8 ⟨rfl, b8⟩
      have G8 := G7.below b8
      have D8 := D7.below b8
      have E8 := E7.below b8
      have B8 := nxt B7 b8
      clear G7 D7 E7 B7 b8
      go_wp2_with fail
      refine (of_order good6 _).mono ?_
      rintro e w9 ⟨he, b9⟩
      replace he : e = .returned (.tuple #[.agg #[.int .i64 1, .int .i64 1, .int .i64 2, .int .i64 1, .int .i64 5, .int .i64 3, .int .i64 3, .int .i64 3, .string (str [195, 169])], .bool true]) := he
      subst he
      have G9 := G8.below b9
      have D9 := D8.below b9
      have E9 := E8.below b9
      have B9 := nxt B8 b9
      clear G8 D8 E8 B8 b9
      (try simp only [Cmd.val, Cmd.cells, Cmd.zero])
      go_upto_region 38 with (fail)
      obtain ⟨w10, ew⟩ : ∃ w', w' = w9.alloc (.cells (Cmd.cells good6) 23) := ⟨_, rfl⟩
      obtain ⟨gf, eq⟩ : ∃ q, q = w9.heap.size := ⟨_, rfl⟩
      have F10 : CAt w10 gf good6 := by rw [ew, eq]; exact CAt.new _ _
      have bb : Below w9.heap.size w9 w10 := by rw [ew]; exact nxt_alloc (Below.refl _ _) _
      have G10 := G9.below bb
      have D10 := D9.below bb
      have E10 := E9.below bb
      have B10 := nxt B9 bb
      clear G9 D9 E9 B9 bb
      refine wp_at ew ?_
      rw [← eq]
      clear ew eq
      go_wp2_with fail
      refine (of_none _).mono ?_
      rintro e w11 ⟨rfl, b11⟩
      have G11 := G10.below b11
      have D11 := D10.below b11
      have E11 := E10.below b11
      have F11 := F10.below b11
      have B11 := nxt B10 b11
      clear G10 D10 E10 F10 B10 b11
      (try simp only [Cmd.val, Cmd.cells, Cmd.zero])
      go_upto_region 39 with (fail)
      obtain ⟨w12, ew⟩ : ∃ w', w' = w11.alloc (.cells (Cmd.cells Cmd.zero) 23) := ⟨_, rfl⟩
      obtain ⟨gh, eq⟩ : ∃ q, q = w11.heap.size := ⟨_, rfl⟩
      have H12 : CAt w12 gh Cmd.zero := by rw [ew, eq]; exact CAt.new _ _
      have bb : Below w11.heap.size w11 w12 := by rw [ew]; exact nxt_alloc (Below.refl _ _) _
      have G12 := G11.below bb
      have D12 := D11.below bb
      have E12 := E11.below bb
      have F12 := F11.below bb
      have B12 := nxt B11 bb
      clear G11 D11 E11 F11 B11 bb
      refine wp_at ew ?_
      rw [← eq]
      clear ew eq
      have es : (str ([] : List UInt8)).toList = [] := str_toList []
      have KD := hide D12
      have KE := hide E12
      have KF := hide F12
      have KG := hide G12
      clear D12 E12 F12 G12 H12
      go_wp2_with fail
      refine wp_region_grow (R := Stays) 99999 [0, 2, 3, 6, 7, 39, 40, 41, 43, 47] [0, 1, 2, 3, 4, 5, 6, 7, 8, 9, 10, 11, 12, 13, 14, 15, 16, 17, 18, 19, 20, 21, 22, 23, 24, 25, 26, 27, 28, 29, 30, 31, 32, 33, 34, 35, 36, 37, 38, 42, 39, 40, 41, 43, 44, 45, 46, 47, 48, 49] (by kernel_rfl) Stays.tr Stays.rf (by kernel_rfl) (fun _ _ _ _ _ h => h) ?_
      refine grow_move (by rfl) (by rfl) (by rfl) (fun K hK => ?_); go_simp
      refine (read6_any none 0 0 [] _ rfl (by omega) (by omega) (by omega) (Cells.nil _ _)).mono ?_
      rintro e u1 ⟨rfl, d1⟩
      refine hK.out _ _ (d1) ?_; clear hK K; (try simp only [Act.put, List.setIfInBounds_toArray, List.set_cons_zero, List.set_cons_succ])
      have U1 := nxt (nxt_drew B12) d1
      have MD1 := hide ((show Hid (CAt w12.drew gd ⟨3, 3, 0, 0, 0, 4, 0, 0, []⟩) from KD).out.below d1)
      have ME1 := hide ((show Hid (CAt w12.drew ge ⟨4, 3, 0, 0, 5, 4, 0, 0, []⟩) from KE).out.below d1)
      have MF1 := hide ((show Hid (CAt w12.drew gf good6) from KF).out.below d1)
      have MG1 := hide ((show Hid (CAt w12.drew p good6) from KG).out.below d1)
      clear d1 B12 KD KE KF KG
      (repeat ((first | (refine grow_skip (by rfl) (by rfl) ?_ (by first | exact Stays.rf _ | exact Lower.rf _ _ | exact Holds.rf _ _)) | (refine grow_take (v := ?_) (by rfl) (by rfl) (by rfl) ?_ ?_; rotate_left 1; focus (intro w' hSw; go_simp; (try (with_reducible rfl)); done))); (try simp only [Act.put, List.setIfInBounds_toArray, List.set_cons_zero, List.set_cons_succ])))
      refine grow_move (by rfl) (by rfl) (by rfl) (fun K hK => ?_); go_simp
      refine hK.out _ _ (nxt_alloc (Below.refl _ _) (.cells #[.int .u8 0] 5)) ?_; clear hK K; (try simp only [Act.put, List.setIfInBounds_toArray, List.set_cons_zero, List.set_cons_succ])
      have clO := Cells.lit u1 #[.int .u8 0] 5
      have d2 : Below u1.heap.size u1 (u1.alloc (.cells #[.int .u8 0] 5)) := nxt_alloc (Below.refl _ _) _
      obtain ⟨u2, eu⟩ : ∃ u', u' = u1.alloc (.cells #[.int .u8 0] 5) := ⟨_, rfl⟩
      obtain ⟨zz2, ez⟩ : ∃ z, z = u1.heap.size := ⟨_, rfl⟩
      rw [← eu] at d2 clO ⊢
      rw [← ez] at clO ⊢
      clear eu ez
      have U2 := nxt U1 d2
      have MD2 := hide (MD1.out.below d2)
      have ME2 := hide (ME1.out.below d2)
      have MF2 := hide (MF1.out.below d2)
      have MG2 := hide (MG1.out.below d2)
      clear d2 U1 MD1 ME1 MF1 MG1
      (repeat ((first | (refine grow_skip (by rfl) (by rfl) ?_ (by first | exact Stays.rf _ | exact Lower.rf _ _ | exact Holds.rf _ _)) | (refine grow_take (v := ?_) (by rfl) (by rfl) (by rfl) ?_ ?_; rotate_left 1; focus (intro w' hSw; go_simp; (try (with_reducible rfl)); done))); (try simp only [Act.put, List.setIfInBounds_toArray, List.set_cons_zero, List.set_cons_succ])))
      refine grow_move (by rfl) (by rfl) (by rfl) (fun K hK => ?_); go_simp
      refine (read6_any _ 1 1 [0] _ rfl (by omega) (by omega) (by omega) clO).mono ?_
      rintro e u3 ⟨rfl, d3⟩
      refine hK.out _ _ (d3) ?_; clear hK K; (try simp only [Act.put, List.setIfInBounds_toArray, List.set_cons_zero, List.set_cons_succ])
      have U3 := nxt U2 d3
      have MD3 := hide (MD2.out.below d3)
      have ME3 := hide (ME2.out.below d3)
      have MF3 := hide (MF2.out.below d3)
      have MG3 := hide (MG2.out.below d3)
      clear d3 U2 MD2 ME2 MF2 MG2
      clear clO
      (repeat ((first | (refine grow_skip (by rfl) (by rfl) ?_ (by first | exact Stays.rf _ | exact Lower.rf _ _ | exact Holds.rf _ _)) | (refine grow_take (v := ?_) (by rfl) (by rfl) (by rfl) ?_ ?_; rotate_left 1; focus (intro w' hSw; go_simp; (try (with_reducible rfl)); done))); (try simp only [Act.put, List.setIfInBounds_toArray, List.set_cons_zero, List.set_cons_succ])))
      refine grow_move (by rfl) (by rfl) (by rfl) (fun K hK => ?_); go_simp
      refine hK.out _ _ (nxt_alloc (Below.refl _ _) (.cells #[.int .u8 2] 5)) ?_; clear hK K; (try simp only [Act.put, List.setIfInBounds_toArray, List.set_cons_zero, List.set_cons_succ])
      have clO := Cells.lit u3 #[.int .u8 2] 5
      have d4 : Below u3.heap.size u3 (u3.alloc (.cells #[.int .u8 2] 5)) := nxt_alloc (Below.refl _ _) _
      obtain ⟨u4, eu⟩ : ∃ u', u' = u3.alloc (.cells #[.int .u8 2] 5) := ⟨_, rfl⟩
      obtain ⟨zz4, ez⟩ : ∃ z, z = u3.heap.size := ⟨_, rfl⟩
      rw [← eu] at d4 clO ⊢
      rw [← ez] at clO ⊢
      clear eu ez
      have U4 := nxt U3 d4
      have MD4 := hide (MD3.out.below d4)
      have ME4 := hide (ME3.out.below d4)
      have MF4 := hide (MF3.out.below d4)
      have MG4 := hide (MG3.out.below d4)
      clear d4 U3 MD3 ME3 MF3 MG3
      (repeat ((first | (refine grow_skip (by rfl) (by rfl) ?_ (by first | exact Stays.rf _ | exact Lower.rf _ _ | exact Holds.rf _ _)) | (refine grow_take (v := ?_) (by rfl) (by rfl) (by rfl) ?_ ?_; rotate_left 1; focus (intro w' hSw; go_simp; (try (with_reducible rfl)); done))); (try simp only [Act.put, List.setIfInBounds_toArray, List.set_cons_zero, List.set_cons_succ])))
      refine grow_move (by rfl) (by rfl) (by rfl) (fun K hK => ?_); go_simp
      refine (read6_any _ 1 1 [2] _ rfl (by omega) (by omega) (by omega) clO).mono ?_
      rintro e u5 ⟨rfl, d5⟩
      refine hK.out _ _ (d5) ?_; clear hK K; (try simp only [Act.put, List.setIfInBounds_toArray, List.set_cons_zero, List.set_cons_succ])
      have U5 := nxt U4 d5
      have MD5 := hide (MD4.out.below d5)
      have ME5 := hide (ME4.out.below d5)
      have MF5 := hide (MF4.out.below d5)
      have MG5 := hide (MG4.out.below d5)
      clear d5 U4 MD4 ME4 MF4 MG4
      clear clO
      have lD0 := MD5.out.laterS 0 (.int .i64 3) rfl
      have lD1 := MD5.out.laterS 1 (.int .i64 3) rfl
      have lD2 := MD5.out.laterS 2 (.int .i64 0) rfl
      have lD3 := MD5.out.laterS 3 (.int .i64 0) rfl
      have lD4 := MD5.out.laterS 4 (.int .i64 0) rfl
      have lD5 := MD5.out.laterS 5 (.int .i64 4) rfl
      have lD6 := MD5.out.laterS 6 (.int .i64 0) rfl
      have lD7 := MD5.out.laterS 7 (.int .i64 0) rfl
      have lD8 := MD5.out.laterS 8 (.string (str [])) rfl
      have lE0 := ME5.out.laterS 0 (.int .i64 4) rfl
      have lE1 := ME5.out.laterS 1 (.int .i64 3) rfl
      have lE2 := ME5.out.laterS 2 (.int .i64 0) rfl
      have lE3 := ME5.out.laterS 3 (.int .i64 0) rfl
      have lE4 := ME5.out.laterS 4 (.int .i64 5) rfl
      have lE5 := ME5.out.laterS 5 (.int .i64 4) rfl
      have lE6 := ME5.out.laterS 6 (.int .i64 0) rfl
      have lE7 := ME5.out.laterS 7 (.int .i64 0) rfl
      have lE8 := ME5.out.laterS 8 (.string (str [])) rfl
      have lF0 := MF5.out.laterS 0 (.int .i64 1) rfl
      have lF1 := MF5.out.laterS 1 (.int .i64 1) rfl
      have lF2 := MF5.out.laterS 2 (.int .i64 2) rfl
      have lF3 := MF5.out.laterS 3 (.int .i64 1) rfl
      have lF4 := MF5.out.laterS 4 (.int .i64 5) rfl
      have lF5 := MF5.out.laterS 5 (.int .i64 3) rfl
      have lF6 := MF5.out.laterS 6 (.int .i64 3) rfl
      have lF7 := MF5.out.laterS 7 (.int .i64 3) rfl
      have lF8 := MF5.out.laterS 8 (.string (str [195, 169])) rfl
      have lG0 := MG5.out.laterS 0 (.int .i64 1) rfl
      have lG1 := MG5.out.laterS 1 (.int .i64 1) rfl
      have lG2 := MG5.out.laterS 2 (.int .i64 2) rfl
      have lG3 := MG5.out.laterS 3 (.int .i64 1) rfl
      have lG4 := MG5.out.laterS 4 (.int .i64 5) rfl
      have lG5 := MG5.out.laterS 5 (.int .i64 3) rfl
      have lG6 := MG5.out.laterS 6 (.int .i64 3) rfl
      have lG7 := MG5.out.laterS 7 (.int .i64 3) rfl
      have lG8 := MG5.out.laterS 8 (.string (str [195, 169])) rfl
      (repeat ((first | (refine grow_skip (by rfl) (by rfl) ?_ (by first | exact Stays.rf _ | exact Lower.rf _ _ | exact Holds.rf _ _)) | (refine grow_take (v := ?_) (by rfl) (by rfl) (by rfl) ?_ ?_; rotate_left 1; focus (intro w' hSw; go_simp; (try (with_reducible rfl)); done))); (try simp only [Act.put, List.setIfInBounds_toArray, List.set_cons_zero, List.set_cons_succ])))
      clear lD0 MD5 lD1 lD2 lD3 lD4 lD5 lD6 lD7 lD8 lE0 ME5 lE1 lE2 lE3 lE4 lE5 lE6 lE7 lE8 lF0 MF5 lF1 lF2 lF3 lF4 lF5 lF6 lF7 lF8 lG0 MG5 lG1 lG2 lG3 lG4 lG5 lG6 lG7 lG8
      refine grow_move (by rfl) (by rfl) (by rfl) (fun K hK => ?_); go_simp
      refine (order6_any good6 _).mono ?_
      rintro e u6 ⟨he, d6⟩
      replace he : e = .returned good6.oval := he
      subst he
      refine hK.out _ _ (d6) ?_; clear hK K; (try simp only [Act.put, List.setIfInBounds_toArray, List.set_cons_zero, List.set_cons_succ])
      have U6 := nxt U5 d6
      clear d6 U5 
      refine grow_move (by rfl) (by rfl) (by rfl) (fun K hK => ?_); go_simp
      refine (cOrder_any good6 _).mono ?_
      rintro e u7 ⟨rfl, d7⟩
      refine hK.out _ _ (d7) ?_; clear hK K; (try simp only [Act.put, List.setIfInBounds_toArray, List.set_cons_zero, List.set_cons_succ])
      have U7 := nxt U6 d7
      clear d7 U6 
      refine grow_move (by rfl) (by rfl) (by rfl) (fun K hK => ?_); go_simp
      refine (must_any good6 _).mono ?_
      rintro e u8 ⟨he, d8⟩
      replace he : e = .returned (.agg #[.int .i64 1, .int .i64 2, .int .i64 1, .int .i64 5, .int .i64 3, .int .i64 3, .int .i64 3, .string (str [195, 169])]) := he
      subst he
      refine hK.out _ _ (d8) ?_; clear hK K; (try simp only [Act.put, List.setIfInBounds_toArray, List.set_cons_zero, List.set_cons_succ])
      have U8 := nxt U7 d8
      clear d8 U7 
      refine grow_move (by rfl) (by rfl) (by rfl) (fun K hK => ?_); go_simp
      refine (order6_any good6 _).mono ?_
      rintro e u9 ⟨he, d9⟩
      replace he : e = .returned (.agg #[.int .i64 1, .int .i64 2, .int .i64 1, .int .i64 5, .int .i64 3, .int .i64 3, .int .i64 3, .string (str [195, 169])]) := he
      subst he
      refine hK.out _ _ (d9) ?_; clear hK K; (try simp only [Act.put, List.setIfInBounds_toArray, List.set_cons_zero, List.set_cons_succ])
      have U9 := nxt U8 d9
      clear d9 U8 
      (repeat ((first | (refine grow_skip (by rfl) (by rfl) ?_ (by first | exact Stays.rf _ | exact Lower.rf _ _ | exact Holds.rf _ _)) | (refine grow_take (v := ?_) (by rfl) (by rfl) (by rfl) ?_ ?_; rotate_left 1; focus (intro w' hSw; go_simp; (try (with_reducible rfl)); done))); (try simp only [Act.put, List.setIfInBounds_toArray, List.set_cons_zero, List.set_cons_succ])))
      refine grow_move (by rfl) (by rfl) (by rfl) (fun K hK => ?_); go_simp
      refine (known6_any _).mono ?_
      rintro e u10 ⟨rfl, d10⟩
      refine hK.out _ _ (d10) ?_; clear hK K; (try simp only [Act.put, List.setIfInBounds_toArray, List.set_cons_zero, List.set_cons_succ])
      have U10 := nxt U9 d10
      clear d10 U9 
      (repeat ((first | (refine grow_skip (by rfl) (by rfl) ?_ (by first | exact Stays.rf _ | exact Lower.rf _ _ | exact Holds.rf _ _)) | (refine grow_take (v := ?_) (by rfl) (by rfl) (by rfl) ?_ ?_; rotate_left 1; focus (intro w' hSw; go_simp; (try (with_reducible rfl)); done))); (try simp only [Act.put, List.setIfInBounds_toArray, List.set_cons_zero, List.set_cons_succ])))
      refine grow_done ?_
      go_wp2_with fail
      go_ret
      exact ⟨rfl, U10⟩
end Go.Proofs.Ytjahndamfhfjcaa
