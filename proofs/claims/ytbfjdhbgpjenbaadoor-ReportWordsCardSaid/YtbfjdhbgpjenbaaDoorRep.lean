/-
  Reports by value; report.right. (Printed by tools/gen7.py.)
-/
import Derived.Test.YtbfjdhbgpjenbaaDoorRows
import Derived.Test.YtbfjdhbgpjenbaaDoorRepP
import Derived.Test.YtbfjdhbgpjenbaaDoorGrow
import Derived.Test.YtbfjdhbgpjenbaaDoorLeaves
import Derived.Deep.DeepCutAuto
import Derived.Deep.CutBlock
import Derived.StillTailTactics
namespace Go.Proofs.YtbfjdhbgpjenbaaDoor
set_option linter.unusedSimpArgs false
open Go.RowKit
set_option linter.unusedVariables false

def Rep.cells (r : Rep) : Array Value := #[.int .i64 r.kind, .int .i64 r.id, .int .i64 r.inst, .int .i64 r.side, .int .i64 r.price, .int .i64 r.qty, .int .i64 r.left, .int .i64 r.why]
def Rep.val (r : Rep) : Value := .agg r.cells
/-- Block g holds a report. -/
def RpAt (w : World) (g : Nat) (r : Rep) : Prop := w.heap[g]? = some (.cells r.cells 24 (0, 0))
theorem RpAt.block {w w' : World} {g : Nat} {r : Rep} (h : RpAt w g r) (hb : w'.heap[g]? = w.heap[g]?) : RpAt w' g r := hb.trans h
theorem RpAt.lt {w : World} {g : Nat} {r : Rep} (h : RpAt w g r) : g < w.heap.size := (Array.getElem?_eq_some_iff.1 h).1
theorem RpAt.below {w w' : World} {g : Nat} {r : Rep} (h : RpAt w g r) (hb : Below w.heap.size w w') : RpAt w' g r := h.block (hb.block g h.lt)
theorem RpAt.new (w : World) (r : Rep) : RpAt (w.alloc (.cells r.cells 24)) w.heap.size r := heap_alloc_new _ _
theorem RpAt.cell {w : World} {g : Nat} {r : Rep} (h : RpAt w g r) (i : Nat) : w.cell? ⟨g, i, none⟩ = r.cells[i]? := by
  unfold RpAt at h
  simp [World.cell?, h]
theorem RpAt.frozen {w : World} {g : Nat} {r : Rep} (h : RpAt w g r) (i : Nat) : w.frozen? ⟨g, i, none⟩ = false := by
  unfold RpAt at h
  simp [World.frozen?, h]
theorem RpAt.set {w : World} {g : Nat} {r : Rep} (h : RpAt w g r) (i : Nat) (u : Value) (r' : Rep) (hc : r.cells.setIfInBounds i u = r'.cells) : RpAt (w.setCell ⟨g, i, none⟩ u) g r' := by
  unfold RpAt at *
  rw [heap_setCell_same _ _ _ _ _ _ h, hc]
theorem RpAt.reads {w : World} {g : Nat} {k i n s p q l y : Int} (h : RpAt w g ⟨k, i, n, s, p, q, l, y⟩) :
    w.cell? ⟨g, 0, none⟩ = some (.int .i64 k) ∧ w.cell? ⟨g, 1, none⟩ = some (.int .i64 i) ∧ w.cell? ⟨g, 2, none⟩ = some (.int .i64 n) ∧ w.cell? ⟨g, 3, none⟩ = some (.int .i64 s) ∧ w.cell? ⟨g, 4, none⟩ = some (.int .i64 p) ∧
    w.cell? ⟨g, 5, none⟩ = some (.int .i64 q) ∧ w.cell? ⟨g, 6, none⟩ = some (.int .i64 l) ∧ w.cell? ⟨g, 7, none⟩ = some (.int .i64 y) :=
  ⟨h.cell 0, h.cell 1, h.cell 2, h.cell 3, h.cell 4, h.cell 5, h.cell 6, h.cell 7⟩
theorem RpAt.reads' {w : World} {g : Nat} {r : Rep} (h : RpAt w g r) :
    w.cell? ⟨g, 0, none⟩ = some (.int .i64 r.kind) ∧ w.cell? ⟨g, 1, none⟩ = some (.int .i64 r.id) ∧ w.cell? ⟨g, 2, none⟩ = some (.int .i64 r.inst) ∧ w.cell? ⟨g, 3, none⟩ = some (.int .i64 r.side) ∧ w.cell? ⟨g, 4, none⟩ = some (.int .i64 r.price) ∧
    w.cell? ⟨g, 5, none⟩ = some (.int .i64 r.qty) ∧ w.cell? ⟨g, 6, none⟩ = some (.int .i64 r.left) ∧ w.cell? ⟨g, 7, none⟩ = some (.int .i64 r.why) :=
  ⟨h.cell 0, h.cell 1, h.cell 2, h.cell 3, h.cell 4, h.cell 5, h.cell 6, h.cell 7⟩
/-- A report written over another. -/
def fillR (w : World) (g : Nat) (r : Rep) : World :=
  (((((((w.setCell ⟨g, 0, none⟩ (.int .i64 r.kind)).setCell ⟨g, 1, none⟩ (.int .i64 r.id)).setCell ⟨g, 2, none⟩ (.int .i64 r.inst)).setCell ⟨g, 3, none⟩ (.int .i64 r.side)).setCell ⟨g, 4, none⟩ (.int .i64 r.price)).setCell ⟨g, 5, none⟩ (.int .i64 r.qty)).setCell ⟨g, 6, none⟩ (.int .i64 r.left)).setCell ⟨g, 7, none⟩ (.int .i64 r.why)
theorem fill_at {w : World} {g : Nat} {r : Rep} (h : RpAt w g r) (r' : Rep) : RpAt (fillR w g r') g r' ∧ Leaves g none w (fillR w g r') := by
  refine ⟨?_, (((((((((Leaves.refl g none w).setCell 0 _).setCell 1 _).setCell 2 _).setCell 3 _).setCell 4 _).setCell 5 _).setCell 6 _).setCell 7 _)⟩
  unfold RpAt at h ⊢
  unfold fillR
  rw [heap_setCell_same _ _ _ _ _ _ (heap_setCell_same _ _ _ _ _ _ (heap_setCell_same _ _ _ _ _ _ (heap_setCell_same _ _ _ _ _ _ (heap_setCell_same _ _ _ _ _ _ (heap_setCell_same _ _ _ _ _ _ (heap_setCell_same _ _ _ _ _ _ (heap_setCell_same _ _ _ _ _ _ h)))))))]
  simp [Rep.cells]
theorem Leaves.below0 {w0 w w' : World} {d : Nat} (hb : Below w0.heap.size w0 w) (L : Leaves d none w w') (hd : w0.heap.size ≤ d) : Below w0.heap.size w0 w' :=
  hb.trans (L.below hd (fun g hg => by cases hg) hb.size)
theorem post_at {P : Program} {fn : Func} {R : Ending → World → Prop} {x : Exit} {a : Act} {w w' : World} (h : w' = w) (k : bodyPost P fn R x a w') : bodyPost P fn R x a w := h ▸ k
theorem wp_at {P : Program} {s : Code} {Q : Exit → Act → World → Prop} {a : Act} {w w' : World} (h : w' = w) (k : s.wp P Q a w') : s.wp P Q a w := h ▸ k
theorem small_any (n : Int) (b : Bool) (w : World) (hb : b = decide (0 ≤ n ∧ n ≤ 255)) : Calls Tryd.prog 43 #[.int .i64 n] w fun e w' => e = .returned (.bool b) ∧ w = w' := by
  by_cases h1 : 0 ≤ n
  · by_cases h2 : n ≤ 255
    · have e : b = true := by rw [hb]; exact decide_eq_true ⟨h1, h2⟩
      clear hb
      subst e
      go_enter Tryd.func43, Tryd.ntmps43
      go_wp2
      go_ret
      exact ⟨rfl, rfl⟩
    · have e : b = false := by rw [hb]; exact decide_eq_false fun h => h2 h.2
      clear hb
      subst e
      go_enter Tryd.func43, Tryd.ntmps43
      go_wp2
      go_ret
      exact ⟨rfl, rfl⟩
  · have e : b = false := by rw [hb]; exact decide_eq_false fun h => h1 h.1
    clear hb
    subst e
    go_enter Tryd.func43, Tryd.ntmps43
    go_wp2
    go_ret
    exact ⟨rfl, rfl⟩
set_option maxRecDepth 100000 in
set_option maxHeartbeats 1600000 in
theorem right_any (r : Rep) (w : World) : Calls Tryd.prog 24 #[r.val] w fun e w' => e = .returned (.bool (decide (rightP r))) ∧ Below w.heap.size w w' := by
  obtain ⟨O, eO⟩ : ∃ O, O = decide (rightP r) := ⟨_, rfl⟩
  rw [← eO]
  obtain ⟨k, i, n, s, p, q, l, y⟩ := r
  obtain ⟨w0, ew0⟩ : ∃ w0, w0 = w.alloc (.cells (Rep.cells ⟨k, i, n, s, p, q, l, y⟩) 24) := ⟨_, rfl⟩
  obtain ⟨g, eg⟩ : ∃ g, g = w.heap.size := ⟨_, rfl⟩
  have hC : RpAt w0 g ⟨k, i, n, s, p, q, l, y⟩ := by rw [ew0, eg]; exact RpAt.new _ _
  have B0 : Below w.heap.size w w0 := by rw [ew0]; exact nxt_alloc (Below.refl _ _) _
  have hO : O = decide (1 ≤ k ∧ k ≤ 5 ∧ 0 ≤ n ∧ n ≤ 255 ∧ 0 ≤ s ∧ s ≤ 2 ∧ 0 ≤ y ∧ y ≤ 255) := eO
  have HO := hide hO
  clear eO hO
  show Calls Tryd.prog 24 #[.agg #[.int .i64 k, .int .i64 i, .int .i64 n, .int .i64 s, .int .i64 p, .int .i64 q, .int .i64 l, .int .i64 y]] w _
  change w0 = w.alloc (.cells #[.int .i64 k, .int .i64 i, .int .i64 n, .int .i64 s, .int .i64 p, .int .i64 q, .int .i64 l, .int .i64 y] 24) at ew0
  go_enter Tryd.func24, Tryd.ntmps24
  go_upto_region 1 with (fail)
  rw [← ew0, ← eg]
  clear ew0 eg
  obtain ⟨f0, f1, f2, f3, f4, f5, f6, f7⟩ := hC.reads
  by_cases h1 : 1 ≤ k
  rotate_left
  · have e : O = false := by rw [HO.out]; exact decide_eq_false (by omega)
    clear HO
    subst e
    go_wp2_with fail
    go_ret
    exact ⟨rfl, B0⟩
  by_cases h2 : k ≤ 5
  rotate_left
  · have e : O = false := by rw [HO.out]; exact decide_eq_false (by omega)
    clear HO
    subst e
    go_wp2_with fail
    go_ret
    exact ⟨rfl, B0⟩
  go_wp2_with fail
  by_cases h3 : 0 ≤ n ∧ n ≤ 255
  rotate_left
  · have e : O = false := by rw [HO.out]; exact decide_eq_false (by omega)
    clear HO
    subst e
    refine (small_any n false _ (by simpa using h3)).mono ?_
    rintro e w1 ⟨rfl, rfl⟩
    clear h3
    go_wp2_with fail
    go_ret
    exact ⟨rfl, B0⟩
  refine (small_any n true _ (by simpa using h3)).mono ?_
  rintro e w1 ⟨rfl, rfl⟩
  have H3 := hide h3
  clear h3
  by_cases h4 : 0 ≤ s
  rotate_left
  · have e : O = false := by rw [HO.out]; exact decide_eq_false (by omega)
    clear HO
    subst e
    go_wp2_with fail
    go_ret
    exact ⟨rfl, B0⟩
  by_cases h5 : s ≤ 2
  rotate_left
  · have e : O = false := by rw [HO.out]; exact decide_eq_false (by omega)
    clear HO
    subst e
    go_wp2_with fail
    go_ret
    exact ⟨rfl, B0⟩
  go_wp2_with fail
  have e : O = decide (0 ≤ y ∧ y ≤ 255) := by rw [HO.out]; have := H3.out; simp only [decide_eq_decide]; omega
  refine (small_any y O _ e).mono ?_
  rintro e w1 ⟨rfl, rfl⟩
  clear HO e
  go_wp2_with fail
  go_ret
  exact ⟨rfl, B0⟩
end Go.Proofs.YtbfjdhbgpjenbaaDoor
