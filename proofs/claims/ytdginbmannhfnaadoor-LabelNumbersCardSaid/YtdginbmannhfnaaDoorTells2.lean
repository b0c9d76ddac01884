/-
  The walk of LabelTells.
-/
import Derived.Test.YtdginbmannhfnaaDoorKnown2
import Derived.Test.YtdginbmannhfnaaDoorFoldL2
import Derived.Test.YtdginbmannhfnaaDoorBackL2
namespace Go.Proofs.YtdginbmannhfnaaDoor
open Go.RowKit
set_option linter.unusedVariables false

theorem to_str (s : ByteArray) : ∃ l, s = str l := ⟨s.data.toList, rfl⟩
set_option maxRecDepth 100000 in
set_option maxHeartbeats 1600000 in
theorem labelTells_walk (a0 : ByteArray) (n : Int) (w : World) (hT : Lib.Utf8Tabs 0 1 w) (h0 : a0.size ≤ maxLen) (h1 : (Lit.int .i64 n).wf = true) :
    Calls Tryd.prog 5 #[.string a0, .int .i64 n] w fun e w' => e = .returned (.bool true) ∧ Below w.heap.size w w' := by
  obtain ⟨l, rfl⟩ := to_str a0
  rw [str_size] at h0
  have hn := i64_bd h1
  have HT := hide hT
  unfold maxLen at h0
  clear h1 hT
  go_enter Tryd.func5, Tryd.ntmps5
  go_wp2_with fail
  refine (few_any l _ h0).mono ?_
  rintro e u ⟨rfl, rfl⟩
  obtain ⟨M, eM⟩ : ∃ M, M = l.take 300 := ⟨_, rfl⟩
  have hM : M.length ≤ 300 := by rw [eM]; simp; omega
  rw [← eM]
  clear eM h0
  go_wp2_with fail
  refine (labR_any M _ (by omega)).mono ?_
  rintro e w1 ⟨rfl, B1⟩
  go_wp2_with fail
  refine (refLabR_any M _ (by omega)).mono ?_
  rintro e w2 ⟨rfl, b2⟩
  have B2 := nxt B1 b2
  clear B1 b2
  go_wp2_with fail
  refine (count_any M _ (by omega)).mono ?_
  rintro e w3 ⟨rfl, b3⟩
  have B3 := nxt B2 b3
  clear B2 b3
  go_wp2_with fail
  refine (refCount_any M _ (by omega)).mono ?_
  rintro e w4 ⟨rfl, b4⟩
  have B4 := nxt B3 b4
  clear B3 b4
  go_wp2_with fail
  refine (labCut_any M n _ (by omega) hn).mono ?_
  rintro e w5 ⟨rfl, b5⟩
  have B5 := nxt B4 b5
  clear B4 b5
  go_wp2_with fail
  refine (refCut_any M n _ (by omega) hn).mono ?_
  rintro e w6 ⟨rfl, b6⟩
  have B6 := nxt B5 b6
  clear B5 b6
  go_wp2_with fail
  refine (labPad_any M n _ (by omega) hn).mono ?_
  rintro e w7 ⟨rfl, b7⟩
  have B7 := nxt B6 b7
  clear B6 b7
  go_wp2_with fail
  refine (refPad_any M n _ (by omega) hn).mono ?_
  rintro e w8 ⟨rfl, b8⟩
  have B8 := nxt B7 b8
  clear B7 b8
  go_wp2_with fail
  refine (fold_any M _ (by omega) (nxtT HT.out B8)).mono ?_
  rintro e w9 ⟨rfl, b9⟩
  have B9 := nxt B8 b9
  clear B8 b9
  go_wp2_with fail
  refine (refFold_any M _ (by omega)).mono ?_
  rintro e w10 ⟨rfl, b10⟩
  have B10 := nxt B9 b10
  clear B9 b10
  go_wp2_with fail
  refine (labBack_any M _ (by omega) (nxtT HT.out B10)).mono ?_
  rintro e w11 ⟨rfl, b11⟩
  have B11 := nxt B10 b11
  clear B10 b11
  go_wp2_with fail
  refine (refBack_any M _ (by omega)).mono ?_
  rintro e w12 ⟨rfl, b12⟩
  have B12 := nxt B11 b12
  clear B11 b12
  go_wp2_with fail
  refine (known2_any _ (hide (nxtT HT.out B12))).mono ?_
  rintro e w13 ⟨rfl, b13⟩
  have B13 := nxt B12 b13
  go_wp2_with fail
  go_ret
  exact ⟨rfl, B13⟩
end Go.Proofs.YtdginbmannhfnaaDoor
