/-
  cornhillkeep.Three, and what chapter 13 knows.
-/
import Derived.Test.YtglcdamdjjbjhaaSome13
import Derived.Handy
namespace Go.Proofs.Ytglcdamdjjbjhaa
open Go.RowKit
set_option linter.unusedVariables false

set_option maxHeartbeats 1600000 in
theorem three_any (r : Int) (w : World) : Calls Try.prog 7 #[.int .i64 r] w fun e w' => (∃ (pc : ByteArray) (m : Option Addr) (mn mc : Nat) (ti lo hi wi : Int) (sa : Option Addr) (sn sc : Nat), e = .returned (.agg #[.string pc, .slice m mn mc, .int .i64 ti, .int .i64 lo, .int .i64 hi, .int .i64 wi, .int .i64 r, .int .i64 4, .int .i64 2, .int .i64 40, .slice sa sn sc])) ∧ Below w.heap.size w w' := by
  go_enter Try.func7, Try.ntmps7
  go_wp2_with fail
  go_returns
  refine ⟨⟨_, _, _, _, _, _, _, _, _, _, _, rfl⟩, ?_⟩
  exact nxt_alloc (nxt_alloc (nxt_alloc (Below.refl _ _) _) _) _
def kn13 : List Ord := [⟨1, 0, 0, 5, false⟩, ⟨2, 0, 0, 5, false⟩]
theorem kn13_1 : allocL 1 4 2 40 kn13 7 = [5, 2] := by decide
theorem kn13_0 : allocL 0 4 2 40 kn13 7 = [] := by decide
set_option maxHeartbeats 1600000 in
theorem known13_any (w : World) : Calls Try.prog 12 #[] w fun e w' => e = .returned (.bool true) ∧ Below w.heap.size w w' := by
  go_enter Try.func12, Try.ntmps12
  go_wp2_with fail
  refine (three_any 1 _).mono ?_
  rintro e w1 ⟨⟨pc, m, mn, mc, ti, lo, hi, wi, sa, sn, sc, rfl⟩, hb⟩
  have B1 := nxt (nxt_alloc (Below.refl _ _) _) hb
  have hL := (Cells.lit w (flat kn13).toArray 23).below hb
  clear hb
  go_wp2_with fail
  refine (alloc_any _ _ _ _ _ _ _ 1 4 2 40 _ 2 2 kn13 7 _ rfl (by decide) (by decide) hL).mono ?_
  rw [kn13_1]
  rintro e w2 ⟨A2, c2, rfl, -, hA2, -, -, hb⟩
  have B2 := nxt B1 hb
  have hL2 := hL.below hb
  clear hb hL B1
  go_wp2_with fail
  refine (same_b A2 _ _ _ c2 2 [5, 2] [5, 2] _ rfl rfl (by decide) (by decide) (hA2.alloc _) (Cells.lit w2 (i64s [5, 2]).toArray 2)).mono ?_
  simp only [decide_true]
  rintro e w3 ⟨rfl, hb⟩
  have B3 := nxt (nxt_alloc B2 _) hb
  have hL3 := (hL2.alloc _).below hb
  clear hb hL2 B2 hA2
  go_wp2_with fail
  refine (three_any 0 _).mono ?_
  rintro e w4 ⟨⟨pc, m, mn, mc, ti, lo, hi, wi, sa, sn, sc, rfl⟩, hb⟩
  have B4 := nxt B3 hb
  have hL4 := hL3.below hb
  clear hb hL3 B3
  go_wp2_with fail
  refine (alloc_any _ _ _ _ _ _ _ 0 4 2 40 _ 2 2 kn13 7 _ rfl (by decide) (by decide) hL4).mono ?_
  rw [kn13_0]
  intro e w5 h
  obtain ⟨A5, c5, rfl, -, hA5, -, -, hb⟩ := h.n (rfl : ([] : List Int).length = 0)
  have B5 := nxt B4 hb
  clear h hb B4 hL4
  go_wp2
  go_ret
  exact ⟨rfl, B5⟩
end Go.Proofs.Ytglcdamdjjbjhaa
