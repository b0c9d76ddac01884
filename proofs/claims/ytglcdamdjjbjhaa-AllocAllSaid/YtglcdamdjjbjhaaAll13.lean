/-
  The walk of AllocAll.
-/
import Derived.Test.YtglcdamdjjbjhaaTells13
import Derived.Test.YtglcdamdjjbjhaaAllM13
namespace Go.Proofs.Ytglcdamdjjbjhaa
open Go.RowKit
set_option linter.unusedVariables false

section
variable {P : Program} {t e : TypeId} {z : Value} {bytes : Nat}
/-- 'make([]T, n)' at one operation. -/
theorem wp_mk (H : Elem P t e z bytes) {o : Oper} {a : Act} {K : Act → World → Prop} {Q : Exit → Act → World → Prop} {w : World} {kl kc : IntKind} {n : Nat}
    (l c : Operand) (ho : o.op = Op.makeSlice t l c) (hl : a.eval l = .int kl (n : Int)) (hc : a.eval c = .int kc (n : Int)) (hz1 : z.cells = #[z]) (hn : n ≤ 1099511627776)
    (h : ∀ w', w'.ownsRow w.heap.size e 1 (.slice (some ⟨w.heap.size, 0, none⟩) n n) n (List.replicate n z) → (∀ B W, B ≤ w.heap.size → Below B W w → Below B W w') → K (a.put o.dst (.slice (some ⟨w.heap.size, 0, none⟩) n n)) w') : o.wp P a w K Q := by
  obtain ⟨i, hi, hz, hsz, hby⟩ := H.info
  have hsm := H.small
  obtain ⟨w', hrun, r1, r2⟩ := run_make_full (P := P) w w.heap.size t e i z 1 H.under hi hz hsz kl kc n (by
    rw [hby]
    calc bytes * n ≤ 64 * n := Nat.mul_le_mul_right _ hsm
      _ ≤ 281474976710656 := by omega) (by unfold maxLen; omega) (Nat.le_refl _)
  rw [hz1, Nat.mul_one, toList_madeCells_one] at r1
  unfold Oper.wp
  simp [execOp, ho, hl, hc, hrun, Result.andThen]
  exact h w' r1 fun B W hB hbel => hbel.grown r2 hB fun k hk => by cases hk
end
theorem i64s_zero (n : Nat) : List.replicate n (Value.int .i64 0) = i64s (List.replicate n 0) := by simp [i64s]

set_option maxRecDepth 100000 in
set_option maxHeartbeats 1600000 in
theorem allocAll_walk (p0 : ProductV) (A0 : Option Addr) (n0 c0 : Nat) (small : Int) (w : World) (hp : p0.Ok w) (h1 : Orders w A0 n0 c0) (_w3 : (Lit.int .i64 small).wf = true) :
    Calls Try.prog 6 #[p0.val, .slice A0 n0 c0, .int .i64 small] w fun e w' => e = .returned (.bool true) ∧ Below w.heap.size w w' := by
  obtain ⟨pc, ma, mn, mc, ti, lo, hi, wi, ru, top, le, pa, sa, sn, sc⟩ := p0
  have hmn : mn ≤ 9223372036854775807 := by have := hp.1; have := hp.2; simp only at *; unfold maxLen at *; omega
  obtain ⟨l, hll, hL⟩ := h1.row
  have hn0c : n0 ≤ c0 := h1.le
  have hc0m : c0 ≤ 9223372036854775807 := h1.max
  clear hp h1
  show Calls Try.prog 6 #[.agg #[.string pc, .slice ma mn mc, .int .i64 ti, .int .i64 lo, .int .i64 hi, .int .i64 wi, .int .i64 ru, .int .i64 top, .int .i64 le, .int .i64 pa, .slice sa sn sc], .slice A0 n0 c0, .int .i64 small] w fun e w' => e = .returned (.bool true) ∧ Below w.heap.size w w'
  have HLL := hide hll
  clear hll
  obtain ⟨w1, ew1⟩ : ∃ w1, w1 = w.alloc (.cells #[.string pc, .slice ma mn mc, .int .i64 ti, .int .i64 lo, .int .i64 hi, .int .i64 wi, .int .i64 ru, .int .i64 top, .int .i64 le, .int .i64 pa, .slice sa sn sc] 28) := ⟨_, rfl⟩
  obtain ⟨g, eg⟩ : ∃ g, g = w.heap.size := ⟨_, rfl⟩
  have hg1 : w1.heap[g]? = some (.cells #[.string pc, .slice ma mn mc, .int .i64 ti, .int .i64 lo, .int .i64 hi, .int .i64 wi, .int .i64 ru, .int .i64 top, .int .i64 le, .int .i64 pa, .slice sa sn sc] 28 (0, 0)) := by rw [ew1, eg]; exact heap_alloc_new _ _
  have hgs : w1.heap.size = g + 1 := by rw [ew1, eg]; simp
  have B1 : Below w.heap.size w w1 := by rw [ew1]; exact nxt_alloc (Below.refl _ _) _
  have hgw : w.heap.size ≤ g := by omega
  have hL1 := hL.below B1
  clear hL
  go_enter Try.func6, Try.ntmps6
  go_wp2_with fail
  rw [← ew1, ← eg]
  clear ew1 eg
  have HGS := hide hgs
  clear hgs
  refine (some_any A0 n0 c0 l _ HLL.out (by rw [HLL.out]; omega) hL1).mono ?_
  obtain ⟨S, eS⟩ : ∃ S, S = someL l := ⟨_, rfl⟩
  have hS := length_someL l
  have hq := someL_qty l
  rw [← eS] at hS hq ⊢
  clear eS
  have hS30 : S.length ≤ 30 := by omega
  clear hS
  have hql : (qtys S).length = S.length := length_qtys S
  rintro e w2 ⟨A, c, B, d, rfl, ⟨ownA, ownB⟩, hA2, hB2, hb⟩
  obtain ⟨m, em⟩ : ∃ m, m = S.length := ⟨_, rfl⟩
  rw [← em] at hS30 hql ownA ownB ⊢
  have EM := hide em
  have HQL := hide hql
  have HQ := hide hq
  clear em hql hq hL1
  have B2 := nxt B1 hb
  have hg2 := (hb.block g (by have := HGS.out; omega)).trans hg1
  clear hb hg1 B1
  have e0 : w2.cell? ⟨g, 0, none⟩ = some (.string pc) := by simp [World.cell?, hg2]
  have e1 : w2.cell? ⟨g, 1, none⟩ = some (.slice ma mn mc) := by simp [World.cell?, hg2]
  have e2 : w2.cell? ⟨g, 2, none⟩ = some (.int .i64 ti) := by simp [World.cell?, hg2]
  have e3 : w2.cell? ⟨g, 3, none⟩ = some (.int .i64 lo) := by simp [World.cell?, hg2]
  have e4 : w2.cell? ⟨g, 4, none⟩ = some (.int .i64 hi) := by simp [World.cell?, hg2]
  have e5 : w2.cell? ⟨g, 5, none⟩ = some (.int .i64 wi) := by simp [World.cell?, hg2]
  have e6 : w2.cell? ⟨g, 6, none⟩ = some (.int .i64 ru) := by simp [World.cell?, hg2]
  have e7 : w2.cell? ⟨g, 7, none⟩ = some (.int .i64 top) := by simp [World.cell?, hg2]
  have e8 : w2.cell? ⟨g, 8, none⟩ = some (.int .i64 le) := by simp [World.cell?, hg2]
  have e9 : w2.cell? ⟨g, 9, none⟩ = some (.int .i64 pa) := by simp [World.cell?, hg2]
  have e10 : w2.cell? ⟨g, 10, none⟩ = some (.slice sa sn sc) := by simp [World.cell?, hg2]
  have HG2 := hide hg2
  clear hg2
  go_wp2_with fail
  refine (product_any _ ma mn mc ti _ _ wi ru top le pa _ _ hmn).mono ?_
  rintro e w3 ⟨⟨pc2, ma2, mn2, mc2, ti2, lo2, hi2, wi2, sa2, sn2, sc2, rfl⟩, hb3⟩
  have hrb := within_bd ru 0 2 (by omega)
  have htb := within_bd top 0 9 (by omega)
  have hlb := within_bd le 0 4 (by omega)
  have hpb := within_bd pa 0 100 (by omega)
  obtain ⟨ru2, eru⟩ : ∃ v, v = 1 + within ru 0 2 := ⟨_, rfl⟩
  obtain ⟨top2, eto⟩ : ∃ v, v = within top 0 9 := ⟨_, rfl⟩
  obtain ⟨le2, ele⟩ : ∃ v, v = 1 + within le 0 4 := ⟨_, rfl⟩
  obtain ⟨pa2, epa⟩ : ∃ v, v = within pa 0 100 := ⟨_, rfl⟩
  have hru2 : ru2 = 1 ∨ ru2 = 2 ∨ ru2 = 3 := by omega
  have htop2 : 0 ≤ top2 := by omega
  have hle2 : 1 ≤ le2 := by omega
  have hpa2 : 0 ≤ pa2 ∧ pa2 ≤ 100 := by omega
  have HPAR := hide (And.intro htop2 (And.intro hle2 hpa2))
  clear htop2 hle2 hpa2
  rw [← eru, ← eto, ← ele, ← epa]
  clear eru eto ele epa hrb htb hlb hpb e0 e1 e2 e3 e4 e5 e6 e7 e8 e9 e10
  have HRU := hide hru2
  clear hru2
  have B3 := nxt B2 hb3
  have ownA3 := own_below ownA hb3
  have ownB3 := own_below ownB hb3
  have hg3 := (hb3.block g (Array.getElem?_eq_some_iff.1 HG2.out).1).trans HG2.out
  have hs13 : w1.heap.size ≤ w3.heap.size := by have := hb3.size; have := (Array.getElem?_eq_some_iff.1 HG2.out).1; have := HGS.out; omega
  clear ownA ownB hA2 hB2 hb3 B2 HG2
  have z0 : w3.cell? ⟨g, 0, none⟩ = some (.string pc) := by simp [World.cell?, hg3]
  have z1 : w3.cell? ⟨g, 1, none⟩ = some (.slice ma mn mc) := by simp [World.cell?, hg3]
  have z2 : w3.cell? ⟨g, 2, none⟩ = some (.int .i64 ti) := by simp [World.cell?, hg3]
  have z3 : w3.cell? ⟨g, 3, none⟩ = some (.int .i64 lo) := by simp [World.cell?, hg3]
  have z4 : w3.cell? ⟨g, 4, none⟩ = some (.int .i64 hi) := by simp [World.cell?, hg3]
  have z5 : w3.cell? ⟨g, 5, none⟩ = some (.int .i64 wi) := by simp [World.cell?, hg3]
  have z6 : w3.cell? ⟨g, 6, none⟩ = some (.int .i64 ru) := by simp [World.cell?, hg3]
  have z7 : w3.cell? ⟨g, 7, none⟩ = some (.int .i64 top) := by simp [World.cell?, hg3]
  have z8 : w3.cell? ⟨g, 8, none⟩ = some (.int .i64 le) := by simp [World.cell?, hg3]
  have z9 : w3.cell? ⟨g, 9, none⟩ = some (.int .i64 pa) := by simp [World.cell?, hg3]
  have z10 : w3.cell? ⟨g, 10, none⟩ = some (.slice sa sn sc) := by simp [World.cell?, hg3]
  have f0 : w3.frozen? ⟨g, 0, none⟩ = false := by simp [World.frozen?, hg3]
  have f1 : w3.frozen? ⟨g, 1, none⟩ = false := by simp [World.frozen?, hg3]
  have f2 : w3.frozen? ⟨g, 2, none⟩ = false := by simp [World.frozen?, hg3]
  have f3 : w3.frozen? ⟨g, 3, none⟩ = false := by simp [World.frozen?, hg3]
  have f4 : w3.frozen? ⟨g, 4, none⟩ = false := by simp [World.frozen?, hg3]
  have f5 : w3.frozen? ⟨g, 5, none⟩ = false := by simp [World.frozen?, hg3]
  have f6 : w3.frozen? ⟨g, 6, none⟩ = false := by simp [World.frozen?, hg3]
  have f7 : w3.frozen? ⟨g, 7, none⟩ = false := by simp [World.frozen?, hg3]
  have f8 : w3.frozen? ⟨g, 8, none⟩ = false := by simp [World.frozen?, hg3]
  have f9 : w3.frozen? ⟨g, 9, none⟩ = false := by simp [World.frozen?, hg3]
  have f10 : w3.frozen? ⟨g, 10, none⟩ = false := by simp [World.frozen?, hg3]
  have HG3 := hide hg3
  clear hg3
  go_upto_region 3 with (fail)
  clear z0 z1 z2 z3 z4 z5 z6 z7 z8 z9 z10 f0 f1 f2 f3 f4 f5 f6 f7 f8 f9 f10
  have h0 := HG3.out
  have b0 := B3
  have oa0 := ownA3
  have ob0 := ownB3
  have s0 : w1.heap.size ≤ w3.heap.size := hs13
  clear HG3 B3 ownA3 ownB3 hs13
  obtain ⟨v0, e0⟩ : ∃ v, v = w3.setCell ⟨g, 0, none⟩ (.string pc2) := ⟨_, rfl⟩
  rw [← e0]
  have h1 : v0.heap[g]? = some (.cells #[.string pc2, .slice ma mn mc, .int .i64 ti, .int .i64 lo, .int .i64 hi, .int .i64 wi, .int .i64 ru, .int .i64 top, .int .i64 le, .int .i64 pa, .slice sa sn sc] 28 (0, 0)) := by rw [e0, heap_setCell_same _ _ _ _ _ _ h0]; rfl
  have b1 : Below w.heap.size w v0 := by rw [e0]; exact b0.setCell (by exact hgw) _
  have oa1 := ownsRow_setCell_below (a := ⟨g, 0, none⟩) oa0 (by show g < w1.heap.size; have := HGS.out; omega) (.string pc2)
  rw [← e0] at oa1
  have ob1 := ownsRow_setCell_below (a := ⟨g, 0, none⟩) ob0 (by show g < w1.heap.size; have := HGS.out; omega) (.string pc2)
  rw [← e0] at ob1
  have s1 : w1.heap.size ≤ v0.heap.size := by rw [e0]; simpa [World.setCell] using s0
  clear e0 h0 b0 oa0 ob0 s0
  obtain ⟨v1, e1⟩ : ∃ v, v = v0.setCell ⟨g, 1, none⟩ (.slice ma2 mn2 mc2) := ⟨_, rfl⟩
  rw [← e1]
  have h2 : v1.heap[g]? = some (.cells #[.string pc2, .slice ma2 mn2 mc2, .int .i64 ti, .int .i64 lo, .int .i64 hi, .int .i64 wi, .int .i64 ru, .int .i64 top, .int .i64 le, .int .i64 pa, .slice sa sn sc] 28 (0, 0)) := by rw [e1, heap_setCell_same _ _ _ _ _ _ h1]; rfl
  have b2 : Below w.heap.size w v1 := by rw [e1]; exact b1.setCell (by exact hgw) _
  have oa2 := ownsRow_setCell_below (a := ⟨g, 1, none⟩) oa1 (by show g < w1.heap.size; have := HGS.out; omega) (.slice ma2 mn2 mc2)
  rw [← e1] at oa2
  have ob2 := ownsRow_setCell_below (a := ⟨g, 1, none⟩) ob1 (by show g < w1.heap.size; have := HGS.out; omega) (.slice ma2 mn2 mc2)
  rw [← e1] at ob2
  have s2 : w1.heap.size ≤ v1.heap.size := by rw [e1]; simpa [World.setCell] using s1
  clear e1 h1 b1 oa1 ob1 s1
  obtain ⟨v2, e2⟩ : ∃ v, v = v1.setCell ⟨g, 2, none⟩ (.int .i64 ti2) := ⟨_, rfl⟩
  rw [← e2]
  have h3 : v2.heap[g]? = some (.cells #[.string pc2, .slice ma2 mn2 mc2, .int .i64 ti2, .int .i64 lo, .int .i64 hi, .int .i64 wi, .int .i64 ru, .int .i64 top, .int .i64 le, .int .i64 pa, .slice sa sn sc] 28 (0, 0)) := by rw [e2, heap_setCell_same _ _ _ _ _ _ h2]; rfl
  have b3 : Below w.heap.size w v2 := by rw [e2]; exact b2.setCell (by exact hgw) _
  have oa3 := ownsRow_setCell_below (a := ⟨g, 2, none⟩) oa2 (by show g < w1.heap.size; have := HGS.out; omega) (.int .i64 ti2)
  rw [← e2] at oa3
  have ob3 := ownsRow_setCell_below (a := ⟨g, 2, none⟩) ob2 (by show g < w1.heap.size; have := HGS.out; omega) (.int .i64 ti2)
  rw [← e2] at ob3
  have s3 : w1.heap.size ≤ v2.heap.size := by rw [e2]; simpa [World.setCell] using s2
  clear e2 h2 b2 oa2 ob2 s2
  obtain ⟨v3, e3⟩ : ∃ v, v = v2.setCell ⟨g, 3, none⟩ (.int .i64 lo2) := ⟨_, rfl⟩
  rw [← e3]
  have h4 : v3.heap[g]? = some (.cells #[.string pc2, .slice ma2 mn2 mc2, .int .i64 ti2, .int .i64 lo2, .int .i64 hi, .int .i64 wi, .int .i64 ru, .int .i64 top, .int .i64 le, .int .i64 pa, .slice sa sn sc] 28 (0, 0)) := by rw [e3, heap_setCell_same _ _ _ _ _ _ h3]; rfl
  have b4 : Below w.heap.size w v3 := by rw [e3]; exact b3.setCell (by exact hgw) _
  have oa4 := ownsRow_setCell_below (a := ⟨g, 3, none⟩) oa3 (by show g < w1.heap.size; have := HGS.out; omega) (.int .i64 lo2)
  rw [← e3] at oa4
  have ob4 := ownsRow_setCell_below (a := ⟨g, 3, none⟩) ob3 (by show g < w1.heap.size; have := HGS.out; omega) (.int .i64 lo2)
  rw [← e3] at ob4
  have s4 : w1.heap.size ≤ v3.heap.size := by rw [e3]; simpa [World.setCell] using s3
  clear e3 h3 b3 oa3 ob3 s3
  obtain ⟨v4, e4⟩ : ∃ v, v = v3.setCell ⟨g, 4, none⟩ (.int .i64 hi2) := ⟨_, rfl⟩
  rw [← e4]
  have h5 : v4.heap[g]? = some (.cells #[.string pc2, .slice ma2 mn2 mc2, .int .i64 ti2, .int .i64 lo2, .int .i64 hi2, .int .i64 wi, .int .i64 ru, .int .i64 top, .int .i64 le, .int .i64 pa, .slice sa sn sc] 28 (0, 0)) := by rw [e4, heap_setCell_same _ _ _ _ _ _ h4]; rfl
  have b5 : Below w.heap.size w v4 := by rw [e4]; exact b4.setCell (by exact hgw) _
  have oa5 := ownsRow_setCell_below (a := ⟨g, 4, none⟩) oa4 (by show g < w1.heap.size; have := HGS.out; omega) (.int .i64 hi2)
  rw [← e4] at oa5
  have ob5 := ownsRow_setCell_below (a := ⟨g, 4, none⟩) ob4 (by show g < w1.heap.size; have := HGS.out; omega) (.int .i64 hi2)
  rw [← e4] at ob5
  have s5 : w1.heap.size ≤ v4.heap.size := by rw [e4]; simpa [World.setCell] using s4
  clear e4 h4 b4 oa4 ob4 s4
  obtain ⟨v5, e5⟩ : ∃ v, v = v4.setCell ⟨g, 5, none⟩ (.int .i64 wi2) := ⟨_, rfl⟩
  rw [← e5]
  have h6 : v5.heap[g]? = some (.cells #[.string pc2, .slice ma2 mn2 mc2, .int .i64 ti2, .int .i64 lo2, .int .i64 hi2, .int .i64 wi2, .int .i64 ru, .int .i64 top, .int .i64 le, .int .i64 pa, .slice sa sn sc] 28 (0, 0)) := by rw [e5, heap_setCell_same _ _ _ _ _ _ h5]; rfl
  have b6 : Below w.heap.size w v5 := by rw [e5]; exact b5.setCell (by exact hgw) _
  have oa6 := ownsRow_setCell_below (a := ⟨g, 5, none⟩) oa5 (by show g < w1.heap.size; have := HGS.out; omega) (.int .i64 wi2)
  rw [← e5] at oa6
  have ob6 := ownsRow_setCell_below (a := ⟨g, 5, none⟩) ob5 (by show g < w1.heap.size; have := HGS.out; omega) (.int .i64 wi2)
  rw [← e5] at ob6
  have s6 : w1.heap.size ≤ v5.heap.size := by rw [e5]; simpa [World.setCell] using s5
  clear e5 h5 b5 oa5 ob5 s5
  obtain ⟨v6, e6⟩ : ∃ v, v = v5.setCell ⟨g, 6, none⟩ (.int .i64 ru2) := ⟨_, rfl⟩
  rw [← e6]
  have h7 : v6.heap[g]? = some (.cells #[.string pc2, .slice ma2 mn2 mc2, .int .i64 ti2, .int .i64 lo2, .int .i64 hi2, .int .i64 wi2, .int .i64 ru2, .int .i64 top, .int .i64 le, .int .i64 pa, .slice sa sn sc] 28 (0, 0)) := by rw [e6, heap_setCell_same _ _ _ _ _ _ h6]; rfl
  have b7 : Below w.heap.size w v6 := by rw [e6]; exact b6.setCell (by exact hgw) _
  have oa7 := ownsRow_setCell_below (a := ⟨g, 6, none⟩) oa6 (by show g < w1.heap.size; have := HGS.out; omega) (.int .i64 ru2)
  rw [← e6] at oa7
  have ob7 := ownsRow_setCell_below (a := ⟨g, 6, none⟩) ob6 (by show g < w1.heap.size; have := HGS.out; omega) (.int .i64 ru2)
  rw [← e6] at ob7
  have s7 : w1.heap.size ≤ v6.heap.size := by rw [e6]; simpa [World.setCell] using s6
  clear e6 h6 b6 oa6 ob6 s6
  obtain ⟨v7, e7⟩ : ∃ v, v = v6.setCell ⟨g, 7, none⟩ (.int .i64 top2) := ⟨_, rfl⟩
  rw [← e7]
  have h8 : v7.heap[g]? = some (.cells #[.string pc2, .slice ma2 mn2 mc2, .int .i64 ti2, .int .i64 lo2, .int .i64 hi2, .int .i64 wi2, .int .i64 ru2, .int .i64 top2, .int .i64 le, .int .i64 pa, .slice sa sn sc] 28 (0, 0)) := by rw [e7, heap_setCell_same _ _ _ _ _ _ h7]; rfl
  have b8 : Below w.heap.size w v7 := by rw [e7]; exact b7.setCell (by exact hgw) _
  have oa8 := ownsRow_setCell_below (a := ⟨g, 7, none⟩) oa7 (by show g < w1.heap.size; have := HGS.out; omega) (.int .i64 top2)
  rw [← e7] at oa8
  have ob8 := ownsRow_setCell_below (a := ⟨g, 7, none⟩) ob7 (by show g < w1.heap.size; have := HGS.out; omega) (.int .i64 top2)
  rw [← e7] at ob8
  have s8 : w1.heap.size ≤ v7.heap.size := by rw [e7]; simpa [World.setCell] using s7
  clear e7 h7 b7 oa7 ob7 s7
  obtain ⟨v8, e8⟩ : ∃ v, v = v7.setCell ⟨g, 8, none⟩ (.int .i64 le2) := ⟨_, rfl⟩
  rw [← e8]
  have h9 : v8.heap[g]? = some (.cells #[.string pc2, .slice ma2 mn2 mc2, .int .i64 ti2, .int .i64 lo2, .int .i64 hi2, .int .i64 wi2, .int .i64 ru2, .int .i64 top2, .int .i64 le2, .int .i64 pa, .slice sa sn sc] 28 (0, 0)) := by rw [e8, heap_setCell_same _ _ _ _ _ _ h8]; rfl
  have b9 : Below w.heap.size w v8 := by rw [e8]; exact b8.setCell (by exact hgw) _
  have oa9 := ownsRow_setCell_below (a := ⟨g, 8, none⟩) oa8 (by show g < w1.heap.size; have := HGS.out; omega) (.int .i64 le2)
  rw [← e8] at oa9
  have ob9 := ownsRow_setCell_below (a := ⟨g, 8, none⟩) ob8 (by show g < w1.heap.size; have := HGS.out; omega) (.int .i64 le2)
  rw [← e8] at ob9
  have s9 : w1.heap.size ≤ v8.heap.size := by rw [e8]; simpa [World.setCell] using s8
  clear e8 h8 b8 oa8 ob8 s8
  obtain ⟨v9, e9⟩ : ∃ v, v = v8.setCell ⟨g, 9, none⟩ (.int .i64 pa2) := ⟨_, rfl⟩
  rw [← e9]
  have h10 : v9.heap[g]? = some (.cells #[.string pc2, .slice ma2 mn2 mc2, .int .i64 ti2, .int .i64 lo2, .int .i64 hi2, .int .i64 wi2, .int .i64 ru2, .int .i64 top2, .int .i64 le2, .int .i64 pa2, .slice sa sn sc] 28 (0, 0)) := by rw [e9, heap_setCell_same _ _ _ _ _ _ h9]; rfl
  have b10 : Below w.heap.size w v9 := by rw [e9]; exact b9.setCell (by exact hgw) _
  have oa10 := ownsRow_setCell_below (a := ⟨g, 9, none⟩) oa9 (by show g < w1.heap.size; have := HGS.out; omega) (.int .i64 pa2)
  rw [← e9] at oa10
  have ob10 := ownsRow_setCell_below (a := ⟨g, 9, none⟩) ob9 (by show g < w1.heap.size; have := HGS.out; omega) (.int .i64 pa2)
  rw [← e9] at ob10
  have s10 : w1.heap.size ≤ v9.heap.size := by rw [e9]; simpa [World.setCell] using s9
  clear e9 h9 b9 oa9 ob9 s9
  obtain ⟨w4, e10⟩ : ∃ v, v = v9.setCell ⟨g, 10, none⟩ (.slice sa2 sn2 sc2) := ⟨_, rfl⟩
  rw [← e10]
  have h11 : w4.heap[g]? = some (.cells #[.string pc2, .slice ma2 mn2 mc2, .int .i64 ti2, .int .i64 lo2, .int .i64 hi2, .int .i64 wi2, .int .i64 ru2, .int .i64 top2, .int .i64 le2, .int .i64 pa2, .slice sa2 sn2 sc2] 28 (0, 0)) := by rw [e10, heap_setCell_same _ _ _ _ _ _ h10]; rfl
  have b11 : Below w.heap.size w w4 := by rw [e10]; exact b10.setCell (by exact hgw) _
  have oa11 := ownsRow_setCell_below (a := ⟨g, 10, none⟩) oa10 (by show g < w1.heap.size; have := HGS.out; omega) (.slice sa2 sn2 sc2)
  rw [← e10] at oa11
  have ob11 := ownsRow_setCell_below (a := ⟨g, 10, none⟩) ob10 (by show g < w1.heap.size; have := HGS.out; omega) (.slice sa2 sn2 sc2)
  rw [← e10] at ob11
  have s11 : w1.heap.size ≤ w4.heap.size := by rw [e10]; simpa [World.setCell] using s10
  clear e10 h10 b10 oa10 ob10 s10
  have B4 := b11
  have ownA4 := oa11
  have ownB4 := ob11
  have hs4 := s11
  have hg4 := h11
  have y0 : w4.cell? ⟨g, 0, none⟩ = some (.string pc2) := by simp [World.cell?, h11]
  have y1 : w4.cell? ⟨g, 1, none⟩ = some (.slice ma2 mn2 mc2) := by simp [World.cell?, h11]
  have y2 : w4.cell? ⟨g, 2, none⟩ = some (.int .i64 ti2) := by simp [World.cell?, h11]
  have y3 : w4.cell? ⟨g, 3, none⟩ = some (.int .i64 lo2) := by simp [World.cell?, h11]
  have y4 : w4.cell? ⟨g, 4, none⟩ = some (.int .i64 hi2) := by simp [World.cell?, h11]
  have y5 : w4.cell? ⟨g, 5, none⟩ = some (.int .i64 wi2) := by simp [World.cell?, h11]
  have y6 : w4.cell? ⟨g, 6, none⟩ = some (.int .i64 ru2) := by simp [World.cell?, h11]
  have y7 : w4.cell? ⟨g, 7, none⟩ = some (.int .i64 top2) := by simp [World.cell?, h11]
  have y8 : w4.cell? ⟨g, 8, none⟩ = some (.int .i64 le2) := by simp [World.cell?, h11]
  have y9 : w4.cell? ⟨g, 9, none⟩ = some (.int .i64 pa2) := by simp [World.cell?, h11]
  have y10 : w4.cell? ⟨g, 10, none⟩ = some (.slice sa2 sn2 sc2) := by simp [World.cell?, h11]
  have HG4 := hide hg4
  clear b11 oa11 ob11 s11 h11 hg4
  have hSl : S.length ≤ 30 := by have := EM.out; omega
  have hAc := CellsS.of_own ownA4
  have hBc := Cells.of_own ownB4
  clear ownA4 ownB4
  go_wp2_with fail
  go_loop [9, 10] (fun s i => ∃ k : Nat, k ≤ m ∧ i = .int .i64 k ∧ s = .int .i64 ((qtys S).take k).sum) (fun _ i => m - (intOf i).toNat)
  case atStart => exact ⟨0, Nat.zero_le _, rfl, rfl⟩
  case round =>
    obtain ⟨k, hk, rfl, rfl⟩ := hrel
    have hsb := isum_bd (M := 41) ((qtys S).take k) (fun n hn => by have := HQ.out n (List.mem_of_mem_take hn); omega)
    have hsl : (((qtys S).take k).length : Int) ≤ 30 := by simp; omega
    by_cases hlt : k < m
    · obtain ⟨b5, o5, x, rfl, hb5, hc5, hx⟩ := hBc.int_at (k := k) (by rw [HQL.out]; omega)
      have hxb := HQ.out x (mem_of_some hx.out)
      have hsn := sum_take_of hx.out
      have i1 : (k : Int) < m := by omega
      obtain ⟨T, eT⟩ : ∃ T, T = ((qtys S).take k).sum := ⟨_, rfl⟩
      obtain ⟨T', eT'⟩ : ∃ T', T' = ((qtys S).take (k + 1)).sum := ⟨_, rfl⟩
      rw [← eT] at hsb hsn ⊢
      rw [← eT'] at hsn
      have HSN := hide hsn
      have ET' := hide eT'
      have hTb : 0 ≤ T ∧ T ≤ 41 * 30 := by omega
      clear hsb hsl hsn eT eT' hBc
      go_wp2_with fail
      go_round
      case rel => exact ⟨k + 1, by omega, by go_num, by rw [← ET'.out, HSN.out]⟩
      case measure => simp [intOf]; omega
    · obtain rfl : k = m := by omega
      rw [List.take_of_length_le (by rw [HQL.out]; omega)] at hsb ⊢
      rw [HQL.out] at hsb
      obtain ⟨T, eT⟩ : ∃ T, T = (qtys S).sum := ⟨_, rfl⟩
      rw [← eT] at hsb ⊢
      have hTb : 0 ≤ T ∧ T ≤ 1230 := by omega
      have ET := hide eT
      clear eT hsb hsl
      have hkb := within_bd small 0 T (by omega)
      obtain ⟨Kq, eK⟩ : ∃ Kq, Kq = within small 0 T := ⟨_, rfl⟩
      rw [← eK] at hkb
      have EK := hide eK
      clear eK
      have hright : ∀ q, 0 ≤ q → q ≤ T → rightB (qtys S) q = true := fun q h0 h1 => (rightB_iff _ q).2 ⟨by rw [HQL.out]; omega, h0, fun n hn => by have := HQ.out n hn; omega, by rw [← ET.out]; exact h1⟩
      have hal : ∀ q, 0 ≤ q → q ≤ T → AlOk (qtys S) (allocL ru2 top2 le2 pa2 S q) q := fun q h0 h1 => al_ok (hright q h0 h1) HRU.out HPAR.out.1 HPAR.out.2.1 HPAR.out.2.2.1 HPAR.out.2.2.2
      have hXok := hal Kq hkb.1 hkb.2
      have hXall : allocL ru2 top2 le2 pa2 S T = qtys S := al_all (by have := hal T hTb.1 (by omega); rwa [← ET.out])
      have hXzero : allocL ru2 top2 le2 pa2 S 0 = List.replicate k 0 := by have := al_zero (hal 0 (by omega) hTb.1); rwa [HQL.out] at this
      have hXover : allocL ru2 top2 le2 pa2 S (T + 1) = [] := al_over (by rw [← ET.out]; omega)
      have HXA := hide hXall
      have HXZ := hide hXzero
      have HXO := hide hXover
      have HXK := hide hXok
      clear hright hal hXok hXall hXzero hXover
      go_wp2_with fail
      refine (within_any small 0 T _ (by omega) (by omega) (by omega)).mono ?_
      rw [← EK.out]
      rintro e u ⟨rfl, rfl⟩
      go_wp2_with fail
      refine (alloc_any _ _ _ _ _ _ _ ru2 top2 le2 pa2 A k c S Kq _ EM.out.symm (by omega) (by omega) hAc).mono ?_
      obtain ⟨X, eX⟩ : ∃ X, X = allocL ru2 top2 le2 pa2 S Kq := ⟨_, rfl⟩
      have hXk := HXK.out
      rw [← eX] at hXk ⊢
      have hXl : X.length = k := hXk.len.trans HQL.out
      have HXl := hide hXl
      have HXk := hide hXk
      clear eX HXK hXl hXk
      intro e w5 h5
      obtain ⟨Ax, cx, rfl, -, hX, -, -, hb5⟩ := h5.n HXl.out
      have B5 := nxt B4 hb5
      have hA5 := hAc.below hb5
      have hB5 := hBc.below hb5
      have hg5 := (hb5.block g (Array.getElem?_eq_some_iff.1 HG4.out).1).trans HG4.out
      have HG5 := hide hg5
      clear h5 hb5 hAc hBc B4 HG4 hg5 y0 y1 y2 y3 y4 y5 y6 y7 y8 y9 y10
      go_wp2_with fail
      go_loopw [13, 14] (fun s i wr => ∃ (j nn : Nat), j ≤ k ∧ i = .int .i64 j ∧ s = .int .i64 (X.take j).sum ∧ wr = w5.drewN nn) (fun _ i _ => k - (intOf i).toNat)
      case atStart => exact ⟨0, 0, Nat.zero_le _, rfl, rfl, rfl⟩
      case round =>
        obtain ⟨j, nn, hj, rfl, rfl, rfl⟩ := hrel
        have hxb : ∀ n ∈ X.take j, 0 ≤ n ∧ n ≤ 41 := fun n hn => by
          obtain ⟨i, hi, rfl⟩ := List.getElem_of_mem (List.mem_of_mem_take hn)
          have hi' : i < (qtys S).length := by rw [HQL.out, ← HXl.out]; exact hi
          obtain ⟨y, hy, y0, y1⟩ := HXk.out.at_ i _ (List.getElem?_eq_getElem hi')
          rw [List.getElem?_eq_getElem hi] at hy
          obtain rfl := Option.some.inj hy
          have := HQ.out _ (List.getElem_mem hi')
          omega
        have hsb := isum_bd (M := 41) (X.take j) hxb
        have hsl : ((X.take j).length : Int) ≤ 30 := by have := HXl.out; simp; omega
        clear hxb
        by_cases hlj : j < k
        · obtain ⟨b6, o6, x, rfl, hb6, hc6, hx⟩ := hX.int_at (k := j) (by rw [HXl.out]; exact hlj)
          obtain ⟨b7, o7, y, rfl, hb7, hc7, hy⟩ := hB5.int_at (k := j) (by rw [HQL.out]; exact hlj)
          have hyb := HQ.out y (mem_of_some hy.out)
          have hxy : 0 ≤ x ∧ x ≤ y := by
            obtain ⟨x', hx', h1, h2⟩ := HXk.out.at_ j y hy.out
            rw [hx.out] at hx'
            obtain rfl := Option.some.inj hx'
            exact ⟨h1, h2⟩
          have hsn := sum_take_of hx.out
          have i1 : (j : Int) < k := by omega
          have d1 : decide (x < 0) = false := by simp; omega
          have d2 : decide (y < x) = false := by simp; omega
          have d3 : decide (k ≤ j) = false := by simp; omega
          obtain ⟨U, eU⟩ : ∃ U, U = (X.take j).sum := ⟨_, rfl⟩
          obtain ⟨U', eU'⟩ : ∃ U', U' = (X.take (j + 1)).sum := ⟨_, rfl⟩
          rw [← eU] at hsb hsn ⊢
          rw [← eU'] at hsn
          have HSN := hide hsn
          have EU' := hide eU'
          have hUb : 0 ≤ U ∧ U ≤ 41 * 30 := by omega
          clear hsb hsl hsn eU eU' hB5 hX hA5
          go_wp2_with fail
          go_quiet (fail)
          go_wp2_with fail
          go_roundw
          case rel => exact ⟨j + 1, _, by omega, by go_num, by rw [← EU'.out, HSN.out], by first | rfl | exact World.drewN_drewN _ _ _⟩
          case measure => simp [intOf]; omega
        · obtain rfl : j = k := by omega
          rw [List.take_of_length_le (by have := HXl.out; omega)] at hsb ⊢
          rw [HXk.out.sum]
          have B6 : Below w.heap.size w (w5.drewN nn) := below_drewN B5 nn
          have hX6 := hX.drewN nn
          have hA6 := hA5.drewN nn
          have hB6 := hB5.drewN nn
          have hg6 : (w5.drewN nn).heap[g]? = _ := HG5.out
          clear hsb hsl hX hA5 hB5 B5 HG5
          generalize w5.drewN nn = w6 at *
          have k0 : w6.cell? ⟨g, 0, none⟩ = some (.string pc2) := by simp [World.cell?, hg6]
          have k1 : w6.cell? ⟨g, 1, none⟩ = some (.slice ma2 mn2 mc2) := by simp [World.cell?, hg6]
          have k2 : w6.cell? ⟨g, 2, none⟩ = some (.int .i64 ti2) := by simp [World.cell?, hg6]
          have k3 : w6.cell? ⟨g, 3, none⟩ = some (.int .i64 lo2) := by simp [World.cell?, hg6]
          have k4 : w6.cell? ⟨g, 4, none⟩ = some (.int .i64 hi2) := by simp [World.cell?, hg6]
          have k5 : w6.cell? ⟨g, 5, none⟩ = some (.int .i64 wi2) := by simp [World.cell?, hg6]
          have k6 : w6.cell? ⟨g, 6, none⟩ = some (.int .i64 ru2) := by simp [World.cell?, hg6]
          have k7 : w6.cell? ⟨g, 7, none⟩ = some (.int .i64 top2) := by simp [World.cell?, hg6]
          have k8 : w6.cell? ⟨g, 8, none⟩ = some (.int .i64 le2) := by simp [World.cell?, hg6]
          have k9 : w6.cell? ⟨g, 9, none⟩ = some (.int .i64 pa2) := by simp [World.cell?, hg6]
          have k10 : w6.cell? ⟨g, 10, none⟩ = some (.slice sa2 sn2 sc2) := by simp [World.cell?, hg6]
          have hgl : g < w6.heap.size := (Array.getElem?_eq_some_iff.1 hg6).1
          clear hg6 hX6
          obtain ⟨G, eG⟩ : ∃ G, G = w6.heap.size := ⟨_, rfl⟩
          have hgG : g < G := by omega
          have HG := hide eG
          have D0 : Below G w6 w6.drew := (Lower.rf G w6).drew
          have f0 : ∀ u, Below G w6.drew u → u.cell? ⟨g, 0, none⟩ = some (.string pc2) := fun u hu => ((D0.trans hu).cell (p := ⟨g, 0, none⟩) hgG).trans k0
          have f1 : ∀ u, Below G w6.drew u → u.cell? ⟨g, 1, none⟩ = some (.slice ma2 mn2 mc2) := fun u hu => ((D0.trans hu).cell (p := ⟨g, 1, none⟩) hgG).trans k1
          have f2 : ∀ u, Below G w6.drew u → u.cell? ⟨g, 2, none⟩ = some (.int .i64 ti2) := fun u hu => ((D0.trans hu).cell (p := ⟨g, 2, none⟩) hgG).trans k2
          have f3 : ∀ u, Below G w6.drew u → u.cell? ⟨g, 3, none⟩ = some (.int .i64 lo2) := fun u hu => ((D0.trans hu).cell (p := ⟨g, 3, none⟩) hgG).trans k3
          have f4 : ∀ u, Below G w6.drew u → u.cell? ⟨g, 4, none⟩ = some (.int .i64 hi2) := fun u hu => ((D0.trans hu).cell (p := ⟨g, 4, none⟩) hgG).trans k4
          have f5 : ∀ u, Below G w6.drew u → u.cell? ⟨g, 5, none⟩ = some (.int .i64 wi2) := fun u hu => ((D0.trans hu).cell (p := ⟨g, 5, none⟩) hgG).trans k5
          have f6 : ∀ u, Below G w6.drew u → u.cell? ⟨g, 6, none⟩ = some (.int .i64 ru2) := fun u hu => ((D0.trans hu).cell (p := ⟨g, 6, none⟩) hgG).trans k6
          have f7 : ∀ u, Below G w6.drew u → u.cell? ⟨g, 7, none⟩ = some (.int .i64 top2) := fun u hu => ((D0.trans hu).cell (p := ⟨g, 7, none⟩) hgG).trans k7
          have f8 : ∀ u, Below G w6.drew u → u.cell? ⟨g, 8, none⟩ = some (.int .i64 le2) := fun u hu => ((D0.trans hu).cell (p := ⟨g, 8, none⟩) hgG).trans k8
          have f9 : ∀ u, Below G w6.drew u → u.cell? ⟨g, 9, none⟩ = some (.int .i64 pa2) := fun u hu => ((D0.trans hu).cell (p := ⟨g, 9, none⟩) hgG).trans k9
          have f10 : ∀ u, Below G w6.drew u → u.cell? ⟨g, 10, none⟩ = some (.slice sa2 sn2 sc2) := fun u hu => ((D0.trans hu).cell (p := ⟨g, 10, none⟩) hgG).trans k10
          clear eG
          have hAd := hA6.drew
          have hBd := hB6.drew
          have i1 : (0 : Int) ≤ T := hTb.1
          have hTw : IntKind.i64.wrap (T + 1) = T + 1 := IntWalk.i64_in _ (by omega)
          go_wp2_with fail
          refine wp_region_tree (R := Below G) 40 (by kernel_rfl) (by kernel_rfl) ?_
          refine from_run [0, 1, 2, 3, 4, 5, 6, 7, 8, 9, 10, 11, 12, 13, 15] 25 (fun _ _ _ _ _ h => h) (by kernel_rfl) (Lower.rf _ _) ?_
          (repeat ((first | (refine takes_skip (by rfl) (by rfl) ?_) | (refine takes_take (v := ?_) (by rfl) (by rfl) ?_ ?_; rotate_left 1; focus (intro w' hSw; go_simp; (try (with_reducible rfl)); done))); (try simp only [Act.put, List.setIfInBounds_toArray, List.set_cons_zero, List.set_cons_succ]))); refine takes_done ?_
          clear f0 f1 f2 f3 f4 f5 f6 f7 f8 f9 f10
          refine from_moves [14] (Lower.tr _) 24 (by kernel_rfl) ?_
          refine moves_one (by rfl) (by rfl) (fun K hK => ?_) ?_
          · go_simp
            refine (alloc_any _ _ _ _ _ _ _ ru2 top2 le2 pa2 A j c S T _ EM.out.symm (by omega) (by omega) hAd).mono ?_
            rw [HXA.out]
            intro e u1 h1
            obtain ⟨A1, d1, rfl, -, hR1, -, -, hb⟩ := h1.n HQL.out
            have D1 : Below G w6 u1 := D0.trans (hb.mono (by have := D0.size; have := HG.out; omega))
            have hAd_1 := hAd.below hb
            have hBd_1 := hBd.below hb
            refine hK.out _ _ (hb.mono (by have := D0.size; have := HG.out; omega)) ?_; clear hK K; (try simp only [Act.put, List.setIfInBounds_toArray, List.set_cons_zero, List.set_cons_succ])
            clear hb
            refine from_moves [16] (Lower.tr _) 23 (by kernel_rfl) ?_
            refine moves_one (by rfl) (by rfl) (fun K hK => ?_) ?_
            · go_simp
              refine (same_b A1 B _ _ d1 d (qtys S) (qtys S) _ HQL.out HQL.out (by rw [HQL.out]; omega) (by rw [HQL.out]; omega) hR1 hBd_1).mono ?_
              simp only [decide_true]
              rintro e u2 ⟨rfl, hb⟩
              have D2 : Below G w6 u2 := D1.trans (hb.mono (by have := D1.size; have := HG.out; omega))
              have hAd_2 := hAd_1.below hb
              refine hK.out _ _ (hb.mono (by have := D1.size; have := HG.out; omega)) ?_; clear hK K; (try simp only [Act.put, List.setIfInBounds_toArray, List.set_cons_zero, List.set_cons_succ])
              clear hb
              have f0 : ∀ u, Below G u2 u → u.cell? ⟨g, 0, none⟩ = some (.string pc2) := fun u hu => ((D2.trans hu).cell (p := ⟨g, 0, none⟩) hgG).trans k0
              have f1 : ∀ u, Below G u2 u → u.cell? ⟨g, 1, none⟩ = some (.slice ma2 mn2 mc2) := fun u hu => ((D2.trans hu).cell (p := ⟨g, 1, none⟩) hgG).trans k1
              have f2 : ∀ u, Below G u2 u → u.cell? ⟨g, 2, none⟩ = some (.int .i64 ti2) := fun u hu => ((D2.trans hu).cell (p := ⟨g, 2, none⟩) hgG).trans k2
              have f3 : ∀ u, Below G u2 u → u.cell? ⟨g, 3, none⟩ = some (.int .i64 lo2) := fun u hu => ((D2.trans hu).cell (p := ⟨g, 3, none⟩) hgG).trans k3
              have f4 : ∀ u, Below G u2 u → u.cell? ⟨g, 4, none⟩ = some (.int .i64 hi2) := fun u hu => ((D2.trans hu).cell (p := ⟨g, 4, none⟩) hgG).trans k4
              have f5 : ∀ u, Below G u2 u → u.cell? ⟨g, 5, none⟩ = some (.int .i64 wi2) := fun u hu => ((D2.trans hu).cell (p := ⟨g, 5, none⟩) hgG).trans k5
              have f6 : ∀ u, Below G u2 u → u.cell? ⟨g, 6, none⟩ = some (.int .i64 ru2) := fun u hu => ((D2.trans hu).cell (p := ⟨g, 6, none⟩) hgG).trans k6
              have f7 : ∀ u, Below G u2 u → u.cell? ⟨g, 7, none⟩ = some (.int .i64 top2) := fun u hu => ((D2.trans hu).cell (p := ⟨g, 7, none⟩) hgG).trans k7
              have f8 : ∀ u, Below G u2 u → u.cell? ⟨g, 8, none⟩ = some (.int .i64 le2) := fun u hu => ((D2.trans hu).cell (p := ⟨g, 8, none⟩) hgG).trans k8
              have f9 : ∀ u, Below G u2 u → u.cell? ⟨g, 9, none⟩ = some (.int .i64 pa2) := fun u hu => ((D2.trans hu).cell (p := ⟨g, 9, none⟩) hgG).trans k9
              have f10 : ∀ u, Below G u2 u → u.cell? ⟨g, 10, none⟩ = some (.slice sa2 sn2 sc2) := fun u hu => ((D2.trans hu).cell (p := ⟨g, 10, none⟩) hgG).trans k10
              refine from_run [17, 18, 19, 20, 22, 23] 17 (fun _ _ _ _ _ h => h) (by kernel_rfl) (Lower.rf _ _) ?_
              (repeat ((first | (refine takes_skip (by rfl) (by rfl) ?_) | (refine takes_take (v := ?_) (by rfl) (by rfl) ?_ ?_; rotate_left 1; focus (intro w' hSw; go_simp; (try (with_reducible rfl)); done))); (try simp only [Act.put, List.setIfInBounds_toArray, List.set_cons_zero, List.set_cons_succ]))); refine takes_done ?_
              clear f0 f1 f2 f3 f4 f5 f6 f7 f8 f9 f10
              refine from_moves [21, 24] (Lower.tr _) 16 (by kernel_rfl) ?_
              refine moves_one (by rfl) (by rfl) (fun K hK => ?_) ?_
              · go_simp
                refine (alloc_any _ _ _ _ _ _ _ ru2 top2 le2 pa2 A j c S 0 _ EM.out.symm (by omega) (by omega) hAd_2).mono ?_
                rw [HXZ.out]
                intro e u3 h3
                obtain ⟨A3, d3, rfl, -, hR3, -, -, hb⟩ := h3.n (List.length_replicate ..)
                have D3 : Below G w6 u3 := D2.trans (hb.mono (by have := D2.size; have := HG.out; omega))
                have hAd_3 := hAd_2.below hb
                refine hK.out _ _ (hb.mono (by have := D2.size; have := HG.out; omega)) ?_; clear hK K; (try simp only [Act.put, List.setIfInBounds_toArray, List.set_cons_zero, List.set_cons_succ])
                clear hb
                refine from_moves [24] (Lower.tr _) 15 (by kernel_rfl) ?_
                refine moves_one (by rfl) (by rfl) (fun K hK => ?_) ?_
                · refine wp_mk elI64 (n := j) _ _ rfl rfl rfl rfl (by omega) ?_
                  intro u4 own4 bm
                  have hb := bm _ _ (Nat.le_refl _) (Below.refl _ _)
                  have hM4 := Cells.of_own own4
                  rw [i64s_zero] at hM4
                  clear bm own4
                  have D4 : Below G w6 u4 := D3.trans (hb.mono (by have := D3.size; have := HG.out; omega))
                  have hAd_4 := hAd_3.below hb
                  have hR3_4 := hR3.below hb
                  refine hK.out _ _ (hb.mono (by have := D3.size; have := HG.out; omega)) ?_; clear hK K; (try simp only [Act.put, List.setIfInBounds_toArray, List.set_cons_zero, List.set_cons_succ])
                  clear hb
                  refine from_moves [25] (Lower.tr _) 14 (by kernel_rfl) ?_
                  refine moves_one (by rfl) (by rfl) (fun K hK => ?_) ?_
                  · go_simp
                    refine (same_b A3 _ _ _ d3 j (List.replicate j 0) (List.replicate j 0) _ (List.length_replicate ..) (List.length_replicate ..) (by rw [(List.length_replicate ..)]; omega) (by rw [(List.length_replicate ..)]; omega) hR3_4 hM4).mono ?_
                    simp only [decide_true]
                    rintro e u5 ⟨rfl, hb⟩
                    have D5 : Below G w6 u5 := D4.trans (hb.mono (by have := D4.size; have := HG.out; omega))
                    have hAd_5 := hAd_4.below hb
                    refine hK.out _ _ (hb.mono (by have := D4.size; have := HG.out; omega)) ?_; clear hK K; (try simp only [Act.put, List.setIfInBounds_toArray, List.set_cons_zero, List.set_cons_succ])
                    clear hb
                    have f0 : ∀ u, Below G u5 u → u.cell? ⟨g, 0, none⟩ = some (.string pc2) := fun u hu => ((D5.trans hu).cell (p := ⟨g, 0, none⟩) hgG).trans k0
                    have f1 : ∀ u, Below G u5 u → u.cell? ⟨g, 1, none⟩ = some (.slice ma2 mn2 mc2) := fun u hu => ((D5.trans hu).cell (p := ⟨g, 1, none⟩) hgG).trans k1
                    have f2 : ∀ u, Below G u5 u → u.cell? ⟨g, 2, none⟩ = some (.int .i64 ti2) := fun u hu => ((D5.trans hu).cell (p := ⟨g, 2, none⟩) hgG).trans k2
                    have f3 : ∀ u, Below G u5 u → u.cell? ⟨g, 3, none⟩ = some (.int .i64 lo2) := fun u hu => ((D5.trans hu).cell (p := ⟨g, 3, none⟩) hgG).trans k3
                    have f4 : ∀ u, Below G u5 u → u.cell? ⟨g, 4, none⟩ = some (.int .i64 hi2) := fun u hu => ((D5.trans hu).cell (p := ⟨g, 4, none⟩) hgG).trans k4
                    have f5 : ∀ u, Below G u5 u → u.cell? ⟨g, 5, none⟩ = some (.int .i64 wi2) := fun u hu => ((D5.trans hu).cell (p := ⟨g, 5, none⟩) hgG).trans k5
                    have f6 : ∀ u, Below G u5 u → u.cell? ⟨g, 6, none⟩ = some (.int .i64 ru2) := fun u hu => ((D5.trans hu).cell (p := ⟨g, 6, none⟩) hgG).trans k6
                    have f7 : ∀ u, Below G u5 u → u.cell? ⟨g, 7, none⟩ = some (.int .i64 top2) := fun u hu => ((D5.trans hu).cell (p := ⟨g, 7, none⟩) hgG).trans k7
                    have f8 : ∀ u, Below G u5 u → u.cell? ⟨g, 8, none⟩ = some (.int .i64 le2) := fun u hu => ((D5.trans hu).cell (p := ⟨g, 8, none⟩) hgG).trans k8
                    have f9 : ∀ u, Below G u5 u → u.cell? ⟨g, 9, none⟩ = some (.int .i64 pa2) := fun u hu => ((D5.trans hu).cell (p := ⟨g, 9, none⟩) hgG).trans k9
                    have f10 : ∀ u, Below G u5 u → u.cell? ⟨g, 10, none⟩ = some (.slice sa2 sn2 sc2) := fun u hu => ((D5.trans hu).cell (p := ⟨g, 10, none⟩) hgG).trans k10
                    refine from_run [26, 27, 28, 29, 30, 31] 8 (fun _ _ _ _ _ h => h) (by kernel_rfl) (Lower.rf _ _) ?_
                    (repeat ((first | (refine takes_skip (by rfl) (by rfl) ?_) | (refine takes_take (v := ?_) (by rfl) (by rfl) ?_ ?_; rotate_left 1; focus (intro w' hSw; go_simp; (try (with_reducible rfl)); done))); (try simp only [Act.put, List.setIfInBounds_toArray, List.set_cons_zero, List.set_cons_succ]))); refine takes_done ?_
                    clear f0 f1 f2 f3 f4 f5 f6 f7 f8 f9 f10
                    refine from_moves [32] (Lower.tr _) 7 (by kernel_rfl) ?_
                    refine moves_one (by rfl) (by rfl) (fun K hK => ?_) ?_
                    · go_simp
                      refine (alloc_any _ _ _ _ _ _ _ ru2 top2 le2 pa2 A j c S (T + 1) _ EM.out.symm (by omega) (by omega) hAd_5).mono ?_
                      rw [HXO.out]
                      intro e u6 h6
                      obtain ⟨A6, d6, rfl, -, hR6, -, -, hb⟩ := h6.n (rfl : ([] : List Int).length = 0)
                      have D6 : Below G w6 u6 := D5.trans (hb.mono (by have := D5.size; have := HG.out; omega))
                      refine hK.out _ _ (hb.mono (by have := D5.size; have := HG.out; omega)) ?_; clear hK K; (try simp only [Act.put, List.setIfInBounds_toArray, List.set_cons_zero, List.set_cons_succ])
                      clear hb
                      refine from_run [33, 34, 35, 36] 3 (fun _ _ _ _ _ h => h) (by kernel_rfl) (Lower.rf _ _) ?_
                      (repeat ((first | (refine takes_skip (by rfl) (by rfl) ?_) | (refine takes_take (v := ?_) (by rfl) (by rfl) ?_ ?_; rotate_left 1; focus (intro w' hSw; go_simp; (try (with_reducible rfl)); done))); (try simp only [Act.put, List.setIfInBounds_toArray, List.set_cons_zero, List.set_cons_succ]))); refine takes_done ?_
                      refine from_moves [37] (Lower.tr _) 2 (by kernel_rfl) ?_
                      refine moves_one (by rfl) (by rfl) (fun K hK => ?_) ?_
                      · go_simp
                        refine (known13_any _).mono ?_
                        rintro e u7 ⟨rfl, hb⟩
                        have D7 : Below G w6 u7 := D6.trans (hb.mono (by have := D6.size; have := HG.out; omega))
                        refine hK.out _ _ (hb.mono (by have := D6.size; have := HG.out; omega)) ?_; clear hK K; (try simp only [Act.put, List.setIfInBounds_toArray, List.set_cons_zero, List.set_cons_succ])
                        clear hb
                        refine from_run [38, 39] 0 (fun _ _ _ _ _ h => h) (by kernel_rfl) (Lower.rf _ _) ?_
                        (repeat ((first | (refine takes_skip (by rfl) (by rfl) ?_) | (refine takes_take (v := ?_) (by rfl) (by rfl) ?_ ?_; rotate_left 1; focus (intro w' hSw; go_simp; (try (with_reducible rfl)); done))); (try simp only [Act.put, List.setIfInBounds_toArray, List.set_cons_zero, List.set_cons_succ]))); refine takes_done ?_
                        refine from_done (by kernel_rfl) ?_
                        go_wp2_with fail
                        go_ret
                        exact ⟨rfl, nxt B6 (D7.mono (Nat.le_of_eq HG.out.symm))⟩
                      exact moves_end
                    exact moves_end
                  exact moves_end
                exact moves_end
              refine moves_one (by rfl) (by rfl) (fun K hK => ?_) ?_
              · refine wp_mk elI64 (n := j) _ _ rfl rfl rfl rfl (by omega) ?_
                intro u8 own8 bm
                have hb := bm _ _ (Nat.le_refl _) (Below.refl _ _)
                have hM8 := Cells.of_own own8
                rw [i64s_zero] at hM8
                clear bm own8
                have D8 : Below G w6 u8 := D2.trans (hb.mono (by have := D2.size; have := HG.out; omega))
                have hAd_8 := hAd_2.below hb
                refine hK.out _ _ (hb.mono (by have := D2.size; have := HG.out; omega)) ?_; clear hK K; (try simp only [Act.put, List.setIfInBounds_toArray, List.set_cons_zero, List.set_cons_succ])
                clear hb
                refine from_moves [21] (Lower.tr _) 15 (by kernel_rfl) ?_
                refine moves_one (by rfl) (by rfl) (fun K hK => ?_) ?_
                · go_simp
                  refine (alloc_any _ _ _ _ _ _ _ ru2 top2 le2 pa2 A j c S 0 _ EM.out.symm (by omega) (by omega) hAd_8).mono ?_
                  rw [HXZ.out]
                  intro e u9 h9
                  obtain ⟨A9, d9, rfl, -, hR9, -, -, hb⟩ := h9.n (List.length_replicate ..)
                  have D9 : Below G w6 u9 := D8.trans (hb.mono (by have := D8.size; have := HG.out; omega))
                  have hAd_9 := hAd_8.below hb
                  have hM8_9 := hM8.below hb
                  refine hK.out _ _ (hb.mono (by have := D8.size; have := HG.out; omega)) ?_; clear hK K; (try simp only [Act.put, List.setIfInBounds_toArray, List.set_cons_zero, List.set_cons_succ])
                  clear hb
                  refine from_moves [25] (Lower.tr _) 14 (by kernel_rfl) ?_
                  refine moves_one (by rfl) (by rfl) (fun K hK => ?_) ?_
                  · go_simp
                    refine (same_b A9 _ _ _ d9 j (List.replicate j 0) (List.replicate j 0) _ (List.length_replicate ..) (List.length_replicate ..) (by rw [(List.length_replicate ..)]; omega) (by rw [(List.length_replicate ..)]; omega) hR9 hM8_9).mono ?_
                    simp only [decide_true]
                    rintro e u10 ⟨rfl, hb⟩
                    have D10 : Below G w6 u10 := D9.trans (hb.mono (by have := D9.size; have := HG.out; omega))
                    have hAd_10 := hAd_9.below hb
                    refine hK.out _ _ (hb.mono (by have := D9.size; have := HG.out; omega)) ?_; clear hK K; (try simp only [Act.put, List.setIfInBounds_toArray, List.set_cons_zero, List.set_cons_succ])
                    clear hb
                    have f0 : ∀ u, Below G u10 u → u.cell? ⟨g, 0, none⟩ = some (.string pc2) := fun u hu => ((D10.trans hu).cell (p := ⟨g, 0, none⟩) hgG).trans k0
                    have f1 : ∀ u, Below G u10 u → u.cell? ⟨g, 1, none⟩ = some (.slice ma2 mn2 mc2) := fun u hu => ((D10.trans hu).cell (p := ⟨g, 1, none⟩) hgG).trans k1
                    have f2 : ∀ u, Below G u10 u → u.cell? ⟨g, 2, none⟩ = some (.int .i64 ti2) := fun u hu => ((D10.trans hu).cell (p := ⟨g, 2, none⟩) hgG).trans k2
                    have f3 : ∀ u, Below G u10 u → u.cell? ⟨g, 3, none⟩ = some (.int .i64 lo2) := fun u hu => ((D10.trans hu).cell (p := ⟨g, 3, none⟩) hgG).trans k3
                    have f4 : ∀ u, Below G u10 u → u.cell? ⟨g, 4, none⟩ = some (.int .i64 hi2) := fun u hu => ((D10.trans hu).cell (p := ⟨g, 4, none⟩) hgG).trans k4
                    have f5 : ∀ u, Below G u10 u → u.cell? ⟨g, 5, none⟩ = some (.int .i64 wi2) := fun u hu => ((D10.trans hu).cell (p := ⟨g, 5, none⟩) hgG).trans k5
                    have f6 : ∀ u, Below G u10 u → u.cell? ⟨g, 6, none⟩ = some (.int .i64 ru2) := fun u hu => ((D10.trans hu).cell (p := ⟨g, 6, none⟩) hgG).trans k6
                    have f7 : ∀ u, Below G u10 u → u.cell? ⟨g, 7, none⟩ = some (.int .i64 top2) := fun u hu => ((D10.trans hu).cell (p := ⟨g, 7, none⟩) hgG).trans k7
                    have f8 : ∀ u, Below G u10 u → u.cell? ⟨g, 8, none⟩ = some (.int .i64 le2) := fun u hu => ((D10.trans hu).cell (p := ⟨g, 8, none⟩) hgG).trans k8
                    have f9 : ∀ u, Below G u10 u → u.cell? ⟨g, 9, none⟩ = some (.int .i64 pa2) := fun u hu => ((D10.trans hu).cell (p := ⟨g, 9, none⟩) hgG).trans k9
                    have f10 : ∀ u, Below G u10 u → u.cell? ⟨g, 10, none⟩ = some (.slice sa2 sn2 sc2) := fun u hu => ((D10.trans hu).cell (p := ⟨g, 10, none⟩) hgG).trans k10
                    refine from_run [26, 27, 28, 29, 30, 31] 8 (fun _ _ _ _ _ h => h) (by kernel_rfl) (Lower.rf _ _) ?_
                    (repeat ((first | (refine takes_skip (by rfl) (by rfl) ?_) | (refine takes_take (v := ?_) (by rfl) (by rfl) ?_ ?_; rotate_left 1; focus (intro w' hSw; go_simp; (try (with_reducible rfl)); done))); (try simp only [Act.put, List.setIfInBounds_toArray, List.set_cons_zero, List.set_cons_succ]))); refine takes_done ?_
                    clear f0 f1 f2 f3 f4 f5 f6 f7 f8 f9 f10
                    refine from_moves [32] (Lower.tr _) 7 (by kernel_rfl) ?_
                    refine moves_one (by rfl) (by rfl) (fun K hK => ?_) ?_
                    · go_simp
                      refine (alloc_any _ _ _ _ _ _ _ ru2 top2 le2 pa2 A j c S (T + 1) _ EM.out.symm (by omega) (by omega) hAd_10).mono ?_
                      rw [HXO.out]
                      intro e u11 h11
                      obtain ⟨A11, d11, rfl, -, hR11, -, -, hb⟩ := h11.n (rfl : ([] : List Int).length = 0)
                      have D11 : Below G w6 u11 := D10.trans (hb.mono (by have := D10.size; have := HG.out; omega))
                      refine hK.out _ _ (hb.mono (by have := D10.size; have := HG.out; omega)) ?_; clear hK K; (try simp only [Act.put, List.setIfInBounds_toArray, List.set_cons_zero, List.set_cons_succ])
                      clear hb
                      refine from_run [33, 34, 35, 36] 3 (fun _ _ _ _ _ h => h) (by kernel_rfl) (Lower.rf _ _) ?_
                      (repeat ((first | (refine takes_skip (by rfl) (by rfl) ?_) | (refine takes_take (v := ?_) (by rfl) (by rfl) ?_ ?_; rotate_left 1; focus (intro w' hSw; go_simp; (try (with_reducible rfl)); done))); (try simp only [Act.put, List.setIfInBounds_toArray, List.set_cons_zero, List.set_cons_succ]))); refine takes_done ?_
                      refine from_moves [37] (Lower.tr _) 2 (by kernel_rfl) ?_
                      refine moves_one (by rfl) (by rfl) (fun K hK => ?_) ?_
                      · go_simp
                        refine (known13_any _).mono ?_
                        rintro e u12 ⟨rfl, hb⟩
                        have D12 : Below G w6 u12 := D11.trans (hb.mono (by have := D11.size; have := HG.out; omega))
                        refine hK.out _ _ (hb.mono (by have := D11.size; have := HG.out; omega)) ?_; clear hK K; (try simp only [Act.put, List.setIfInBounds_toArray, List.set_cons_zero, List.set_cons_succ])
                        clear hb
                        refine from_run [38, 39] 0 (fun _ _ _ _ _ h => h) (by kernel_rfl) (Lower.rf _ _) ?_
                        (repeat ((first | (refine takes_skip (by rfl) (by rfl) ?_) | (refine takes_take (v := ?_) (by rfl) (by rfl) ?_ ?_; rotate_left 1; focus (intro w' hSw; go_simp; (try (with_reducible rfl)); done))); (try simp only [Act.put, List.setIfInBounds_toArray, List.set_cons_zero, List.set_cons_succ]))); refine takes_done ?_
                        refine from_done (by kernel_rfl) ?_
                        go_wp2_with fail
                        go_ret
                        exact ⟨rfl, nxt B6 (D12.mono (Nat.le_of_eq HG.out.symm))⟩
                      exact moves_end
                    exact moves_end
                  exact moves_end
                exact moves_end
              exact moves_end
            exact moves_end
          exact moves_end
end Go.Proofs.Ytglcdamdjjbjhaa
