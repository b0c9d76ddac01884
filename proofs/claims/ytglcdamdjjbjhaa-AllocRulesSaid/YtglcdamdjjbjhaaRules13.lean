/-
  The walk of AllocRules.
-/
import Derived.Test.YtglcdamdjjbjhaaTells13
namespace Go.Proofs.Ytglcdamdjjbjhaa
open Go.RowKit
set_option linter.unusedVariables false

theorem flat_set : ∀ {l : List Ord} {i : Nat} {x x' : Ord} {j : Nat} {v : Value}, l[i]? = some x → j < 5 → x'.cells = x.cells.set j v → (flat l).set (i * 5 + j) v = flat (l.set i x')
  | [], i, x, x', j, v, h, _, _ => by simp at h
  | y :: l, 0, x, x', j, v, h, hj, hx => by
    simp at h
    subst h
    have hl : y.cells.length = 5 := rfl
    simp only [flat, List.flatMap_cons, List.set_cons_zero, Nat.zero_mul, Nat.zero_add]
    rw [List.set_append_left _ _ (by omega), hx]
  | y :: l, i + 1, x, x', j, v, h, hj, hx => by
    have ih := flat_set (l := l) (i := i) (by simpa using h) hj hx
    have hl : y.cells.length = 5 := rfl
    simp only [flat, List.flatMap_cons, List.set_cons_succ] at ih ⊢
    rw [List.set_append_right _ _ (by omega), hl, show (i + 1) * 5 + j - 5 = i * 5 + j by omega, ih]
theorem topI_congr : ∀ {l m : List Ord}, l.map Ord.top = m.map Ord.top → topI l = topI m
  | [], [], _ => rfl
  | [], _ :: _, h => by simp at h
  | _ :: _, [], h => by simp at h
  | x :: l, y :: m, h => by
    simp at h
    have ih := topI_congr (l := l) (m := m) h.2
    simp only [topI, h.1, ih]
theorem map_set_same {α β : Type} (f : α → β) : ∀ {l : List α} {i : Nat} {x x' : α}, l[i]? = some x → f x' = f x → (l.set i x').map f = l.map f
  | [], i, x, x', h, _ => by simp at h
  | y :: l, 0, x, x', h, hf => by simp at h; subst h; simp [hf]
  | y :: l, i + 1, x, x', h, hf => by
    have := map_set_same f (l := l) (i := i) (by simpa using h) hf
    simp [this]
/-- What the marks leave of the orders. -/
structure Alike (S S' : List Ord) : Prop where
  len : S'.length = S.length
  qty : qtys S' = qtys S
  top : S'.map Ord.top = S.map Ord.top
theorem Alike.set {S S' : List Ord} (h : Alike S S') {i : Nat} {x x' : Ord} (hx : S'[i]? = some x) (hq : x'.qty = x.qty) (ht : x'.top = x.top) : Alike S (S'.set i x') :=
  ⟨by rw [List.length_set]; exact h.len, (map_set_same Ord.qty hx hq).trans h.qty, (map_set_same Ord.top hx ht).trans h.top⟩
theorem Alike.alloc {S S' : List Ord} (h : Alike S S') (ru top le pa q : Int) : allocL ru top le pa S' q = allocL ru top le pa S q := by
  unfold allocL
  rw [h.qty, topI_congr h.top]
/-- A field of an order is stored. -/
theorem ord_stored {w : World} {base g n c : Nat} {e : TypeId} {S : List Ord} (h : w.ownsRow base e 5 (.slice (some ⟨g, 0, none⟩) n c) n (flat S)) {i j : Nat} {x x' : Ord} {v : Value} (hx : S[i]? = some x) (hj : j < 5) (hv : x'.cells = x.cells.set j v) :
    (w.setCell ⟨g, i * 5 + j, none⟩ v).ownsRow base e 5 (.slice (some ⟨g, 0, none⟩) n c) n (flat (S.set i x')) ∧ w.grownBy (w.setCell ⟨g, i * 5 + j, none⟩ v) (some g) := by
  have := h.stored (i * 5 + j) v
  rwa [flat_set hx hj hv] at this
set_option maxRecDepth 100000 in
set_option maxHeartbeats 1600000 in
theorem allocRules_walk (p0 : ProductV) (A0 : Option Addr) (n0 c0 : Nat) (small : Int) (w : World) (hp : p0.Ok w) (h1 : Orders w A0 n0 c0) (_w3 : (Lit.int .i64 small).wf = true) :
    Calls Try.prog 5 #[p0.val, .slice A0 n0 c0, .int .i64 small] w fun e w' => e = .returned (.bool true) ∧ Below w.heap.size w w' := by
  obtain ⟨pc, ma, mn, mc, ti, lo, hi, wi, ru, top, le, pa, sa, sn, sc⟩ := p0
  have hmn : mn ≤ 9223372036854775807 := by have := hp.1; have := hp.2; simp only at *; unfold maxLen at *; omega
  obtain ⟨l, hll, hL⟩ := h1.row
  have hn0c : n0 ≤ c0 := h1.le
  have hc0m : c0 ≤ 9223372036854775807 := h1.max
  clear hp h1
  show Calls Try.prog 5 #[.agg #[.string pc, .slice ma mn mc, .int .i64 ti, .int .i64 lo, .int .i64 hi, .int .i64 wi, .int .i64 ru, .int .i64 top, .int .i64 le, .int .i64 pa, .slice sa sn sc], .slice A0 n0 c0, .int .i64 small] w fun e w' => e = .returned (.bool true) ∧ Below w.heap.size w w'
  have HLL := hide hll
  clear hll
  obtain ⟨w1, ew1⟩ : ∃ w1, w1 = w.alloc (.cells #[.string pc, .slice ma mn mc, .int .i64 ti, .int .i64 lo, .int .i64 hi, .int .i64 wi, .int .i64 ru, .int .i64 top, .int .i64 le, .int .i64 pa, .slice sa sn sc] 28) := ⟨_, rfl⟩
  obtain ⟨g, eg⟩ : ∃ g, g = w.heap.size := ⟨_, rfl⟩
  have hg1 : w1.heap[g]? = some (.cells #[.string pc, .slice ma mn mc, .int .i64 ti, .int .i64 lo, .int .i64 hi, .int .i64 wi, .int .i64 ru, .int .i64 top, .int .i64 le, .int .i64 pa, .slice sa sn sc] 28 (0, 0)) := by rw [ew1, eg]; exact heap_alloc_new _ _
  have hgs : w1.heap.size = g + 1 := by rw [ew1, eg]; simp
  have B1 : Below w.heap.size w w1 := by rw [ew1]; exact nxt_alloc (Below.refl _ _) _
  have hgw : w.heap.size ≤ g := by omega
  have hL1 := hL.below B1
  clear hL
  go_enter Try.func5, Try.ntmps5
  go_wp2_with fail
  rw [← ew1, ← eg]
  clear ew1 eg
  have HGS := hide hgs
  clear hgs
  refine (some_any A0 n0 c0 l _ HLL.out (by rw [HLL.out]; omega) hL1).mono ?_
  obtain ⟨S, eS⟩ : ∃ S, S = someL l := ⟨_, rfl⟩
  have hS := length_someL l
  have hq := someL_qty l
  rw [← eS] at hS hq ⊢
  clear eS
  have hS30 : S.length ≤ 30 := by omega
  clear hS
  have hql : (qtys S).length = S.length := length_qtys S
  rintro e w2 ⟨A, c, B, d, rfl, ⟨ownA, ownB⟩, hA2, hB2, hb⟩
  obtain ⟨m, em⟩ : ∃ m, m = S.length := ⟨_, rfl⟩
  rw [← em] at hS30 hql ownA ownB ⊢
  have EM := hide em
  have HQL := hide hql
  have HQ := hide hq
  clear em hql hq hL1
  have B2 := nxt B1 hb
  have hg2 := (hb.block g (by have := HGS.out; omega)).trans hg1
  clear hb hg1 B1
  go_wp2_with fail
  go_loop [9, 10, 11] (fun s t i => ∃ k : Nat, k ≤ m ∧ i = .int .i64 k ∧ s = .int .i64 ((qtys S).take k).sum ∧ t = .int .i64 (topI (S.take k))) (fun _ _ i => m - (intOf i).toNat)
  case atStart => exact ⟨0, Nat.zero_le _, rfl, rfl, rfl⟩
  case round =>
    obtain ⟨k, hk, rfl, rfl, rfl⟩ := hrel
    have hsb := isum_bd (M := 41) ((qtys S).take k) (fun n hn => by have := HQ.out n (List.mem_of_mem_take hn); omega)
    have hsl : (((qtys S).take k).length : Int) ≤ 30 := by simp; omega
    by_cases hlt : k < m
    · obtain ⟨b6, o6, y, rfl, hb6, d0, d1, d2, d3, d4, hy⟩ := hA2.ord_at (k := k) (by have := EM.out; omega)
      have hyq : (qtys S)[k]? = some y.qty := by unfold qtys; rw [List.getElem?_map, hy.out]; rfl
      obtain ⟨b5, o5, x, rfl, hb5, hc5, hx⟩ := hB2.int_at (k := k) (by rw [HQL.out]; omega)
      have hxb := HQ.out x (mem_of_some hx.out)
      have hsn := sum_take_of hx.out
      have i1 : (k : Int) < m := by omega
      obtain ⟨T, eT⟩ : ∃ T, T = ((qtys S).take k).sum := ⟨_, rfl⟩
      obtain ⟨T', eT'⟩ : ∃ T', T' = ((qtys S).take (k + 1)).sum := ⟨_, rfl⟩
      rw [← eT] at hsb hsn ⊢
      rw [← eT'] at hsn
      have htop := topI_snoc (S.take k) y
      rw [← take_snoc_ord hy.out, List.length_take, Nat.min_eq_left (by have := EM.out; omega)] at htop
      have hge := topI_ge (S.take k)
      obtain ⟨I, eI⟩ : ∃ I, I = topI (S.take k) := ⟨_, rfl⟩
      obtain ⟨I', eI'⟩ : ∃ I', I' = topI (S.take (k + 1)) := ⟨_, rfl⟩
      rw [← eI, ← eI'] at htop
      rw [← eI] at hge ⊢
      have HSN := hide hsn
      have ET' := hide eT'
      have EI' := hide eI'
      have HTOP := hide htop
      have hTb : 0 ≤ T ∧ T ≤ 41 * 30 := by omega
      obtain ⟨yt, eyt⟩ : ∃ t, t = y.top := ⟨_, rfl⟩
      rw [← eyt] at d4
      have EYT := hide eyt
      clear hsb hsl hsn eT eT' hB2 hA2 eI eI' htop eyt hyq d0 d1 d2 d3
      cases yt
      · go_wp2_with fail
        go_round
        case rel => exact ⟨k + 1, by omega, by go_num, by rw [← ET'.out, HSN.out], val_int (by rw [← EI'.out, HTOP.out, ← EYT.out]; simp; intro h; omega)⟩
        case measure => simp [intOf]; omega
      · by_cases hI : I < 0
        · go_wp2_with fail
          go_round
          case rel => exact ⟨k + 1, by omega, by go_num, by rw [← ET'.out, HSN.out], val_int (by rw [← EI'.out, HTOP.out, ← EYT.out]; simp [hI])⟩
          case measure => simp [intOf]; omega
        · go_wp2_with fail
          go_round
          case rel => exact ⟨k + 1, by omega, by go_num, by rw [← ET'.out, HSN.out], val_int (by rw [← EI'.out, HTOP.out, ← EYT.out]; simp [hI])⟩
          case measure => simp [intOf]; omega
    · obtain rfl : k = m := by omega
      rw [List.take_of_length_le (by rw [HQL.out]; omega)] at hsb ⊢
      rw [List.take_of_length_le (by have := EM.out; omega)]
      rw [HQL.out] at hsb
      obtain ⟨T, eT⟩ : ∃ T, T = (qtys S).sum := ⟨_, rfl⟩
      rw [← eT] at hsb ⊢
      have hTb : 0 ≤ T ∧ T ≤ 1230 := by omega
      clear eT hsb hsl
      obtain ⟨I, eI⟩ : ∃ I, I = topI S := ⟨_, rfl⟩
      rw [← eI]
      have EI := hide eI
      clear eI
      go_wp2_with fail
      refine (within_any small 0 T _ (by omega) (by omega) (by omega)).mono ?_
      rintro e u ⟨rfl, rfl⟩
      obtain ⟨Kq, eK⟩ : ∃ Kq, Kq = within small 0 T := ⟨_, rfl⟩
      rw [← eK]
      clear eK
      have e0 : w2.cell? ⟨g, 0, none⟩ = some (.string pc) := by simp [World.cell?, hg2]
      have e1 : w2.cell? ⟨g, 1, none⟩ = some (.slice ma mn mc) := by simp [World.cell?, hg2]
      have e2 : w2.cell? ⟨g, 2, none⟩ = some (.int .i64 ti) := by simp [World.cell?, hg2]
      have e3 : w2.cell? ⟨g, 3, none⟩ = some (.int .i64 lo) := by simp [World.cell?, hg2]
      have e4 : w2.cell? ⟨g, 4, none⟩ = some (.int .i64 hi) := by simp [World.cell?, hg2]
      have e5 : w2.cell? ⟨g, 5, none⟩ = some (.int .i64 wi) := by simp [World.cell?, hg2]
      have e6 : w2.cell? ⟨g, 6, none⟩ = some (.int .i64 ru) := by simp [World.cell?, hg2]
      have e7 : w2.cell? ⟨g, 7, none⟩ = some (.int .i64 top) := by simp [World.cell?, hg2]
      have e8 : w2.cell? ⟨g, 8, none⟩ = some (.int .i64 le) := by simp [World.cell?, hg2]
      have e9 : w2.cell? ⟨g, 9, none⟩ = some (.int .i64 pa) := by simp [World.cell?, hg2]
      have e10 : w2.cell? ⟨g, 10, none⟩ = some (.slice sa sn sc) := by simp [World.cell?, hg2]
      have HG2 := hide hg2
      clear hg2
      go_wp2_with fail
      refine (product_any _ ma mn mc ti _ _ wi ru top le pa _ _ hmn).mono ?_
      rintro e w3 ⟨⟨pc2, ma2, mn2, mc2, ti2, lo2, hi2, wi2, sa2, sn2, sc2, rfl⟩, hb3⟩
      have hrb := within_bd ru 0 2 (by omega)
      obtain ⟨ru2, eru⟩ : ∃ v, v = 1 + within ru 0 2 := ⟨_, rfl⟩
      obtain ⟨top2, eto⟩ : ∃ v, v = within top 0 9 := ⟨_, rfl⟩
      obtain ⟨le2, ele⟩ : ∃ v, v = 1 + within le 0 4 := ⟨_, rfl⟩
      obtain ⟨pa2, epa⟩ : ∃ v, v = within pa 0 100 := ⟨_, rfl⟩
      have hru2 : ru2 = 1 ∨ ru2 = 2 ∨ ru2 = 3 := by omega
      rw [← eru, ← eto, ← ele, ← epa]
      clear eru eto ele epa hrb e0 e1 e2 e3 e4 e5 e6 e7 e8 e9 e10
      have HRU := hide hru2
      clear hru2
      have B3 := nxt B2 hb3
      have ownA3 := own_below ownA hb3
      have ownB3 := own_below ownB hb3
      have hg3 := (hb3.block g (Array.getElem?_eq_some_iff.1 HG2.out).1).trans HG2.out
      have hs13 : w1.heap.size ≤ w3.heap.size := by have := hb3.size; have := (Array.getElem?_eq_some_iff.1 HG2.out).1; have := HGS.out; omega
      clear ownA ownB hA2 hB2 hb3 B2 HG2
      have z0 : w3.cell? ⟨g, 0, none⟩ = some (.string pc) := by simp [World.cell?, hg3]
      have z1 : w3.cell? ⟨g, 1, none⟩ = some (.slice ma mn mc) := by simp [World.cell?, hg3]
      have z2 : w3.cell? ⟨g, 2, none⟩ = some (.int .i64 ti) := by simp [World.cell?, hg3]
      have z3 : w3.cell? ⟨g, 3, none⟩ = some (.int .i64 lo) := by simp [World.cell?, hg3]
      have z4 : w3.cell? ⟨g, 4, none⟩ = some (.int .i64 hi) := by simp [World.cell?, hg3]
      have z5 : w3.cell? ⟨g, 5, none⟩ = some (.int .i64 wi) := by simp [World.cell?, hg3]
      have z6 : w3.cell? ⟨g, 6, none⟩ = some (.int .i64 ru) := by simp [World.cell?, hg3]
      have z7 : w3.cell? ⟨g, 7, none⟩ = some (.int .i64 top) := by simp [World.cell?, hg3]
      have z8 : w3.cell? ⟨g, 8, none⟩ = some (.int .i64 le) := by simp [World.cell?, hg3]
      have z9 : w3.cell? ⟨g, 9, none⟩ = some (.int .i64 pa) := by simp [World.cell?, hg3]
      have z10 : w3.cell? ⟨g, 10, none⟩ = some (.slice sa sn sc) := by simp [World.cell?, hg3]
      have f0 : w3.frozen? ⟨g, 0, none⟩ = false := by simp [World.frozen?, hg3]
      have f1 : w3.frozen? ⟨g, 1, none⟩ = false := by simp [World.frozen?, hg3]
      have f2 : w3.frozen? ⟨g, 2, none⟩ = false := by simp [World.frozen?, hg3]
      have f3 : w3.frozen? ⟨g, 3, none⟩ = false := by simp [World.frozen?, hg3]
      have f4 : w3.frozen? ⟨g, 4, none⟩ = false := by simp [World.frozen?, hg3]
      have f5 : w3.frozen? ⟨g, 5, none⟩ = false := by simp [World.frozen?, hg3]
      have f6 : w3.frozen? ⟨g, 6, none⟩ = false := by simp [World.frozen?, hg3]
      have f7 : w3.frozen? ⟨g, 7, none⟩ = false := by simp [World.frozen?, hg3]
      have f8 : w3.frozen? ⟨g, 8, none⟩ = false := by simp [World.frozen?, hg3]
      have f9 : w3.frozen? ⟨g, 9, none⟩ = false := by simp [World.frozen?, hg3]
      have f10 : w3.frozen? ⟨g, 10, none⟩ = false := by simp [World.frozen?, hg3]
      have HG3 := hide hg3
      clear hg3
      go_upto_region 12 with (fail)
      clear z0 z1 z2 z3 z4 z5 z6 z7 z8 z9 z10 f0 f1 f2 f3 f4 f5 f6 f7 f8 f9 f10
      have h0 := HG3.out
      have b0 := B3
      have oa0 := ownA3
      have ob0 := ownB3
      have s0 : w1.heap.size ≤ w3.heap.size := hs13
      clear HG3 B3 ownA3 ownB3 hs13
      obtain ⟨v0, e0⟩ : ∃ v, v = w3.setCell ⟨g, 0, none⟩ (.string pc2) := ⟨_, rfl⟩
      rw [← e0]
      have h1 : v0.heap[g]? = some (.cells #[.string pc2, .slice ma mn mc, .int .i64 ti, .int .i64 lo, .int .i64 hi, .int .i64 wi, .int .i64 ru, .int .i64 top, .int .i64 le, .int .i64 pa, .slice sa sn sc] 28 (0, 0)) := by rw [e0, heap_setCell_same _ _ _ _ _ _ h0]; rfl
      have b1 : Below w.heap.size w v0 := by rw [e0]; exact b0.setCell (by exact hgw) _
      have oa1 := ownsRow_setCell_below (a := ⟨g, 0, none⟩) oa0 (by show g < w1.heap.size; have := HGS.out; omega) (.string pc2)
      rw [← e0] at oa1
      have ob1 := ownsRow_setCell_below (a := ⟨g, 0, none⟩) ob0 (by show g < w1.heap.size; have := HGS.out; omega) (.string pc2)
      rw [← e0] at ob1
      have s1 : w1.heap.size ≤ v0.heap.size := by rw [e0]; simpa [World.setCell] using s0
      clear e0 h0 b0 oa0 ob0 s0
      obtain ⟨v1, e1⟩ : ∃ v, v = v0.setCell ⟨g, 1, none⟩ (.slice ma2 mn2 mc2) := ⟨_, rfl⟩
      rw [← e1]
      have h2 : v1.heap[g]? = some (.cells #[.string pc2, .slice ma2 mn2 mc2, .int .i64 ti, .int .i64 lo, .int .i64 hi, .int .i64 wi, .int .i64 ru, .int .i64 top, .int .i64 le, .int .i64 pa, .slice sa sn sc] 28 (0, 0)) := by rw [e1, heap_setCell_same _ _ _ _ _ _ h1]; rfl
      have b2 : Below w.heap.size w v1 := by rw [e1]; exact b1.setCell (by exact hgw) _
      have oa2 := ownsRow_setCell_below (a := ⟨g, 1, none⟩) oa1 (by show g < w1.heap.size; have := HGS.out; omega) (.slice ma2 mn2 mc2)
      rw [← e1] at oa2
      have ob2 := ownsRow_setCell_below (a := ⟨g, 1, none⟩) ob1 (by show g < w1.heap.size; have := HGS.out; omega) (.slice ma2 mn2 mc2)
      rw [← e1] at ob2
      have s2 : w1.heap.size ≤ v1.heap.size := by rw [e1]; simpa [World.setCell] using s1
      clear e1 h1 b1 oa1 ob1 s1
      obtain ⟨v2, e2⟩ : ∃ v, v = v1.setCell ⟨g, 2, none⟩ (.int .i64 ti2) := ⟨_, rfl⟩
      rw [← e2]
      have h3 : v2.heap[g]? = some (.cells #[.string pc2, .slice ma2 mn2 mc2, .int .i64 ti2, .int .i64 lo, .int .i64 hi, .int .i64 wi, .int .i64 ru, .int .i64 top, .int .i64 le, .int .i64 pa, .slice sa sn sc] 28 (0, 0)) := by rw [e2, heap_setCell_same _ _ _ _ _ _ h2]; rfl
      have b3 : Below w.heap.size w v2 := by rw [e2]; exact b2.setCell (by exact hgw) _
      have oa3 := ownsRow_setCell_below (a := ⟨g, 2, none⟩) oa2 (by show g < w1.heap.size; have := HGS.out; omega) (.int .i64 ti2)
      rw [← e2] at oa3
      have ob3 := ownsRow_setCell_below (a := ⟨g, 2, none⟩) ob2 (by show g < w1.heap.size; have := HGS.out; omega) (.int .i64 ti2)
      rw [← e2] at ob3
      have s3 : w1.heap.size ≤ v2.heap.size := by rw [e2]; simpa [World.setCell] using s2
      clear e2 h2 b2 oa2 ob2 s2
      obtain ⟨v3, e3⟩ : ∃ v, v = v2.setCell ⟨g, 3, none⟩ (.int .i64 lo2) := ⟨_, rfl⟩
      rw [← e3]
      have h4 : v3.heap[g]? = some (.cells #[.string pc2, .slice ma2 mn2 mc2, .int .i64 ti2, .int .i64 lo2, .int .i64 hi, .int .i64 wi, .int .i64 ru, .int .i64 top, .int .i64 le, .int .i64 pa, .slice sa sn sc] 28 (0, 0)) := by rw [e3, heap_setCell_same _ _ _ _ _ _ h3]; rfl
      have b4 : Below w.heap.size w v3 := by rw [e3]; exact b3.setCell (by exact hgw) _
      have oa4 := ownsRow_setCell_below (a := ⟨g, 3, none⟩) oa3 (by show g < w1.heap.size; have := HGS.out; omega) (.int .i64 lo2)
      rw [← e3] at oa4
      have ob4 := ownsRow_setCell_below (a := ⟨g, 3, none⟩) ob3 (by show g < w1.heap.size; have := HGS.out; omega) (.int .i64 lo2)
      rw [← e3] at ob4
      have s4 : w1.heap.size ≤ v3.heap.size := by rw [e3]; simpa [World.setCell] using s3
      clear e3 h3 b3 oa3 ob3 s3
      obtain ⟨v4, e4⟩ : ∃ v, v = v3.setCell ⟨g, 4, none⟩ (.int .i64 hi2) := ⟨_, rfl⟩
      rw [← e4]
      have h5 : v4.heap[g]? = some (.cells #[.string pc2, .slice ma2 mn2 mc2, .int .i64 ti2, .int .i64 lo2, .int .i64 hi2, .int .i64 wi, .int .i64 ru, .int .i64 top, .int .i64 le, .int .i64 pa, .slice sa sn sc] 28 (0, 0)) := by rw [e4, heap_setCell_same _ _ _ _ _ _ h4]; rfl
      have b5 : Below w.heap.size w v4 := by rw [e4]; exact b4.setCell (by exact hgw) _
      have oa5 := ownsRow_setCell_below (a := ⟨g, 4, none⟩) oa4 (by show g < w1.heap.size; have := HGS.out; omega) (.int .i64 hi2)
      rw [← e4] at oa5
      have ob5 := ownsRow_setCell_below (a := ⟨g, 4, none⟩) ob4 (by show g < w1.heap.size; have := HGS.out; omega) (.int .i64 hi2)
      rw [← e4] at ob5
      have s5 : w1.heap.size ≤ v4.heap.size := by rw [e4]; simpa [World.setCell] using s4
      clear e4 h4 b4 oa4 ob4 s4
      obtain ⟨v5, e5⟩ : ∃ v, v = v4.setCell ⟨g, 5, none⟩ (.int .i64 wi2) := ⟨_, rfl⟩
      rw [← e5]
      have h6 : v5.heap[g]? = some (.cells #[.string pc2, .slice ma2 mn2 mc2, .int .i64 ti2, .int .i64 lo2, .int .i64 hi2, .int .i64 wi2, .int .i64 ru, .int .i64 top, .int .i64 le, .int .i64 pa, .slice sa sn sc] 28 (0, 0)) := by rw [e5, heap_setCell_same _ _ _ _ _ _ h5]; rfl
      have b6 : Below w.heap.size w v5 := by rw [e5]; exact b5.setCell (by exact hgw) _
      have oa6 := ownsRow_setCell_below (a := ⟨g, 5, none⟩) oa5 (by show g < w1.heap.size; have := HGS.out; omega) (.int .i64 wi2)
      rw [← e5] at oa6
      have ob6 := ownsRow_setCell_below (a := ⟨g, 5, none⟩) ob5 (by show g < w1.heap.size; have := HGS.out; omega) (.int .i64 wi2)
      rw [← e5] at ob6
      have s6 : w1.heap.size ≤ v5.heap.size := by rw [e5]; simpa [World.setCell] using s5
      clear e5 h5 b5 oa5 ob5 s5
      obtain ⟨v6, e6⟩ : ∃ v, v = v5.setCell ⟨g, 6, none⟩ (.int .i64 ru2) := ⟨_, rfl⟩
      rw [← e6]
      have h7 : v6.heap[g]? = some (.cells #[.string pc2, .slice ma2 mn2 mc2, .int .i64 ti2, .int .i64 lo2, .int .i64 hi2, .int .i64 wi2, .int .i64 ru2, .int .i64 top, .int .i64 le, .int .i64 pa, .slice sa sn sc] 28 (0, 0)) := by rw [e6, heap_setCell_same _ _ _ _ _ _ h6]; rfl
      have b7 : Below w.heap.size w v6 := by rw [e6]; exact b6.setCell (by exact hgw) _
      have oa7 := ownsRow_setCell_below (a := ⟨g, 6, none⟩) oa6 (by show g < w1.heap.size; have := HGS.out; omega) (.int .i64 ru2)
      rw [← e6] at oa7
      have ob7 := ownsRow_setCell_below (a := ⟨g, 6, none⟩) ob6 (by show g < w1.heap.size; have := HGS.out; omega) (.int .i64 ru2)
      rw [← e6] at ob7
      have s7 : w1.heap.size ≤ v6.heap.size := by rw [e6]; simpa [World.setCell] using s6
      clear e6 h6 b6 oa6 ob6 s6
      obtain ⟨v7, e7⟩ : ∃ v, v = v6.setCell ⟨g, 7, none⟩ (.int .i64 top2) := ⟨_, rfl⟩
      rw [← e7]
      have h8 : v7.heap[g]? = some (.cells #[.string pc2, .slice ma2 mn2 mc2, .int .i64 ti2, .int .i64 lo2, .int .i64 hi2, .int .i64 wi2, .int .i64 ru2, .int .i64 top2, .int .i64 le, .int .i64 pa, .slice sa sn sc] 28 (0, 0)) := by rw [e7, heap_setCell_same _ _ _ _ _ _ h7]; rfl
      have b8 : Below w.heap.size w v7 := by rw [e7]; exact b7.setCell (by exact hgw) _
      have oa8 := ownsRow_setCell_below (a := ⟨g, 7, none⟩) oa7 (by show g < w1.heap.size; have := HGS.out; omega) (.int .i64 top2)
      rw [← e7] at oa8
      have ob8 := ownsRow_setCell_below (a := ⟨g, 7, none⟩) ob7 (by show g < w1.heap.size; have := HGS.out; omega) (.int .i64 top2)
      rw [← e7] at ob8
      have s8 : w1.heap.size ≤ v7.heap.size := by rw [e7]; simpa [World.setCell] using s7
      clear e7 h7 b7 oa7 ob7 s7
      obtain ⟨v8, e8⟩ : ∃ v, v = v7.setCell ⟨g, 8, none⟩ (.int .i64 le2) := ⟨_, rfl⟩
      rw [← e8]
      have h9 : v8.heap[g]? = some (.cells #[.string pc2, .slice ma2 mn2 mc2, .int .i64 ti2, .int .i64 lo2, .int .i64 hi2, .int .i64 wi2, .int .i64 ru2, .int .i64 top2, .int .i64 le2, .int .i64 pa, .slice sa sn sc] 28 (0, 0)) := by rw [e8, heap_setCell_same _ _ _ _ _ _ h8]; rfl
      have b9 : Below w.heap.size w v8 := by rw [e8]; exact b8.setCell (by exact hgw) _
      have oa9 := ownsRow_setCell_below (a := ⟨g, 8, none⟩) oa8 (by show g < w1.heap.size; have := HGS.out; omega) (.int .i64 le2)
      rw [← e8] at oa9
      have ob9 := ownsRow_setCell_below (a := ⟨g, 8, none⟩) ob8 (by show g < w1.heap.size; have := HGS.out; omega) (.int .i64 le2)
      rw [← e8] at ob9
      have s9 : w1.heap.size ≤ v8.heap.size := by rw [e8]; simpa [World.setCell] using s8
      clear e8 h8 b8 oa8 ob8 s8
      obtain ⟨v9, e9⟩ : ∃ v, v = v8.setCell ⟨g, 9, none⟩ (.int .i64 pa2) := ⟨_, rfl⟩
      rw [← e9]
      have h10 : v9.heap[g]? = some (.cells #[.string pc2, .slice ma2 mn2 mc2, .int .i64 ti2, .int .i64 lo2, .int .i64 hi2, .int .i64 wi2, .int .i64 ru2, .int .i64 top2, .int .i64 le2, .int .i64 pa2, .slice sa sn sc] 28 (0, 0)) := by rw [e9, heap_setCell_same _ _ _ _ _ _ h9]; rfl
      have b10 : Below w.heap.size w v9 := by rw [e9]; exact b9.setCell (by exact hgw) _
      have oa10 := ownsRow_setCell_below (a := ⟨g, 9, none⟩) oa9 (by show g < w1.heap.size; have := HGS.out; omega) (.int .i64 pa2)
      rw [← e9] at oa10
      have ob10 := ownsRow_setCell_below (a := ⟨g, 9, none⟩) ob9 (by show g < w1.heap.size; have := HGS.out; omega) (.int .i64 pa2)
      rw [← e9] at ob10
      have s10 : w1.heap.size ≤ v9.heap.size := by rw [e9]; simpa [World.setCell] using s9
      clear e9 h9 b9 oa9 ob9 s9
      obtain ⟨w4, e10⟩ : ∃ v, v = v9.setCell ⟨g, 10, none⟩ (.slice sa2 sn2 sc2) := ⟨_, rfl⟩
      rw [← e10]
      have h11 : w4.heap[g]? = some (.cells #[.string pc2, .slice ma2 mn2 mc2, .int .i64 ti2, .int .i64 lo2, .int .i64 hi2, .int .i64 wi2, .int .i64 ru2, .int .i64 top2, .int .i64 le2, .int .i64 pa2, .slice sa2 sn2 sc2] 28 (0, 0)) := by rw [e10, heap_setCell_same _ _ _ _ _ _ h10]; rfl
      have b11 : Below w.heap.size w w4 := by rw [e10]; exact b10.setCell (by exact hgw) _
      have oa11 := ownsRow_setCell_below (a := ⟨g, 10, none⟩) oa10 (by show g < w1.heap.size; have := HGS.out; omega) (.slice sa2 sn2 sc2)
      rw [← e10] at oa11
      have ob11 := ownsRow_setCell_below (a := ⟨g, 10, none⟩) ob10 (by show g < w1.heap.size; have := HGS.out; omega) (.slice sa2 sn2 sc2)
      rw [← e10] at ob11
      have s11 : w1.heap.size ≤ w4.heap.size := by rw [e10]; simpa [World.setCell] using s10
      clear e10 h10 b10 oa10 ob10 s10
      have B4 := b11
      have ownA4 := oa11
      have ownB4 := ob11
      have hs4 := s11
      have hg4 := h11
      have y0 : w4.cell? ⟨g, 0, none⟩ = some (.string pc2) := by simp [World.cell?, h11]
      have y1 : w4.cell? ⟨g, 1, none⟩ = some (.slice ma2 mn2 mc2) := by simp [World.cell?, h11]
      have y2 : w4.cell? ⟨g, 2, none⟩ = some (.int .i64 ti2) := by simp [World.cell?, h11]
      have y3 : w4.cell? ⟨g, 3, none⟩ = some (.int .i64 lo2) := by simp [World.cell?, h11]
      have y4 : w4.cell? ⟨g, 4, none⟩ = some (.int .i64 hi2) := by simp [World.cell?, h11]
      have y5 : w4.cell? ⟨g, 5, none⟩ = some (.int .i64 wi2) := by simp [World.cell?, h11]
      have y6 : w4.cell? ⟨g, 6, none⟩ = some (.int .i64 ru2) := by simp [World.cell?, h11]
      have y7 : w4.cell? ⟨g, 7, none⟩ = some (.int .i64 top2) := by simp [World.cell?, h11]
      have y8 : w4.cell? ⟨g, 8, none⟩ = some (.int .i64 le2) := by simp [World.cell?, h11]
      have y9 : w4.cell? ⟨g, 9, none⟩ = some (.int .i64 pa2) := by simp [World.cell?, h11]
      have y10 : w4.cell? ⟨g, 10, none⟩ = some (.slice sa2 sn2 sc2) := by simp [World.cell?, h11]
      have HG4 := hide hg4
      clear b11 oa11 ob11 s11 h11 hg4
      have hSl : S.length ≤ 30 := by have := EM.out; omega
      go_wp2_with fail

      refine (alloc_any _ _ _ _ _ _ _ ru2 top2 le2 pa2 A k c S Kq _ EM.out.symm (by omega) (by omega) (CellsS.of_own ownA4)).mono ?_
      have hXl := length_allocL ru2 top2 le2 pa2 S Kq
      obtain ⟨X, eX⟩ : ∃ X, X = allocL ru2 top2 le2 pa2 S Kq := ⟨_, rfl⟩
      rw [← eX] at hXl ⊢
      have EX := hide eX
      clear eX
      rintro e w5 ⟨Ax, cx, rfl, ownX, -, -, -, hb5⟩
      obtain ⟨N, eN⟩ : ∃ N, N = X.length := ⟨_, rfl⟩
      rw [← eN] at hXl ownX ⊢
      have EN := hide eN.symm
      have B5 := nxt B4 hb5
      have ownA5 := own_below ownA4 hb5
      have ownB5 := own_below ownB4 hb5
      have hg5 := (hb5.block g (Array.getElem?_eq_some_iff.1 HG4.out).1).trans HG4.out
      have ownX5 := own_base ownX hs4
      have hs5 := Nat.le_trans hs4 hb5.size
      have OA := hide ownA5
      have OB := hide ownB5
      have OX := hide ownX5
      have HG5 := hide hg5
      have hAl : Hid (Alike S S) := ⟨rfl, rfl, rfl⟩
      clear eN ownA4 ownB4 ownA5 ownB5 ownX ownX5 hb5 B4 HG4 hg5 hs4 y0 y1 y2 y3 y4 y5 y6 y7 y8 y9 y10
      go_wp2_with fail
      go_loopw [14] (fun i wr => ∃ (j : Nat) (S' : List Ord), j ≤ k ∧ i = .int .i64 j ∧ Hid (Alike S S') ∧ Hid (wr.ownsRow w1.heap.size 23 5 (.slice A k c) k (flat S')) ∧ Hid (wr.ownsRow w1.heap.size 2 1 (.slice B k d) k (i64s (qtys S))) ∧
        Hid (wr.ownsRow w1.heap.size 2 1 (.slice Ax N cx) N (i64s X)) ∧ Below w1.heap.size w5 wr) (fun i _ => k - (intOf i).toNat)
      case atStart => exact ⟨0, S, Nat.zero_le _, rfl, hAl, OA, OB, OX, Below.refl _ _⟩
      case round =>
        obtain ⟨j, S', hj, rfl, AL, OA', OB', OX', BB⟩ := hrel
        clear OA OB OX hAl
        by_cases hlj : j < k
        · have hSl' : S'.length = k := by have := AL.out.len; have := EM.out; omega
          obtain ⟨ga, rfl, hga1, hga2⟩ := own_some OA'.out (by omega)
          obtain ⟨b6, o6, y, hA6, hb6, d0, d1, d2, d3, d4, hy⟩ := (CellsS.of_own OA'.out).ord_at (k := j) (by omega)
          injection hA6 with hA6
          injection hA6 with q1 q2
          subst q1; subst q2
          simp only [Nat.zero_add] at d0 d1 d2 d3 d4
          have i1 : (j : Int) < k := by omega
          have fz0 := OA'.out.frozenAt (j * 5)
          have HSL := hide hSl'
          clear d1 d2 d3 d4 hSl'
          have st := ord_stored OA'.out (j := 0) (v := .int .i64 (j : Int)) (x' := { y with id := j }) hy.out (by omega) rfl
          rw [Nat.add_zero] at st
          have ob1 := own_grown OB'.out st.2 (own_ne OB'.out OA'.out (by decide))
          have ox1 := own_grown OX'.out st.2 (own_ne OX'.out OA'.out (by decide))
          have bb1 : Below w1.heap.size w5 (wr.setCell ⟨ga, j * 5, none⟩ (.int .i64 (j : Int))) := BB.setCell (by exact hga1) _
          have OA1 := hide st.1
          have OB1 := hide ob1
          have OX1 := hide ox1
          have AL1 := hide (AL.out.set (x' := { y with id := j }) hy.out rfl rfl)
          have hy1 : (S'.set j { y with id := j })[j]? = some { y with id := j } := by rw [List.getElem?_set_self (by have := HSL.out; omega)]
          have HY1 := hide hy1
          have HL1 : Hid ((S'.set j { y with id := j }).length = k) := by rw [List.length_set]; exact HSL
          clear ob1 ox1 st hy1 BB hb6
          go_upto_region 17 with (fail)
          generalize wr.setCell ⟨ga, j * 5, none⟩ (.int .i64 (j : Int)) = v1 at *
          generalize S'.set j { y with id := j } = S1 at *
          clear OA' OB' OX' AL hy HSL d0 fz0
          obtain ⟨b6, o6, y1, hA6, hb6, d0, d1, d2, d3, d4, hy⟩ := (CellsS.of_own OA1.out).ord_at (k := j) (by have := HL1.out; omega)
          injection hA6 with hA6
          injection hA6 with q1 q2
          subst q1; subst q2
          simp only [Nat.zero_add] at d0 d1 d2 d3 d4
          have fz0 := OA1.out.frozenAt (j * 5 + 2)
          clear d0 d1 d3 d4
          have st := ord_stored OA1.out (j := 2) (v := .int .i64 (-5)) (x' := { y1 with price := -5 }) hy.out (by omega) rfl
          have ob1 := own_grown OB1.out st.2 (own_ne OB1.out OA1.out (by decide))
          have ox1 := own_grown OX1.out st.2 (own_ne OX1.out OA1.out (by decide))
          have bb2 : Below w1.heap.size w5 (v1.setCell ⟨ga, j * 5 + 2, none⟩ (.int .i64 (-5))) := bb1.setCell (by exact hga1) _
          have OA2 := hide st.1
          have OB2 := hide ob1
          have OX2 := hide ox1
          have AL2 := hide (AL1.out.set (x' := { y1 with price := -5 }) hy.out rfl rfl)
          have HL2 : Hid ((S1.set j { y1 with price := -5 }).length = k) := by rw [List.length_set]; exact HL1
          clear ob1 ox1 st hb6 bb1
          go_upto_region 18 with (fail)
          generalize v1.setCell ⟨ga, j * 5 + 2, none⟩ (.int .i64 (-5)) = v2 at *
          generalize S1.set j { y1 with price := -5 } = S2 at *
          clear OA1 OB1 OX1 AL1 hy HL1 d2 fz0 HY1
          obtain ⟨b6, o6, y2, hA6, hb6, d0, d1, d2, d3, d4, hy⟩ := (CellsS.of_own OA2.out).ord_at (k := j) (by have := HL2.out; omega)
          injection hA6 with hA6
          injection hA6 with q1 q2
          subst q1; subst q2
          simp only [Nat.zero_add] at d0 d1 d2 d3 d4
          have fz0 := OA2.out.frozenAt (j * 5 + 1)
          clear d0 d2 d3 d4
          have st := ord_stored OA2.out (j := 1) (v := .int .i64 2) (x' := { y2 with side := 2 }) hy.out (by omega) rfl
          have ob1 := own_grown OB2.out st.2 (own_ne OB2.out OA2.out (by decide))
          have ox1 := own_grown OX2.out st.2 (own_ne OX2.out OA2.out (by decide))
          have bb3 : Below w1.heap.size w5 (v2.setCell ⟨ga, j * 5 + 1, none⟩ (.int .i64 2)) := bb2.setCell (by exact hga1) _
          have OA3 := hide st.1
          have OB3 := hide ob1
          have OX3 := hide ox1
          have AL3 := hide (AL2.out.set (x' := { y2 with side := 2 }) hy.out rfl rfl)
          clear ob1 ox1 st hb6 bb2
          go_wp2_with fail
          go_roundw
          case rel => exact ⟨j + 1, _, by omega, by go_num, AL3, OA3, OB3, OX3, bb3⟩
          case measure => simp [intOf]; omega
        · obtain rfl : j = k := by omega
          have hgb : g < w1.heap.size := by have := HGS.out; omega
          have y0 : wr.cell? ⟨g, 0, none⟩ = some (.string pc2) := (BB.cell (p := ⟨g, 0, none⟩) hgb).trans (by simp [World.cell?, HG5.out])
          have y1 : wr.cell? ⟨g, 1, none⟩ = some (.slice ma2 mn2 mc2) := (BB.cell (p := ⟨g, 1, none⟩) hgb).trans (by simp [World.cell?, HG5.out])
          have y2 : wr.cell? ⟨g, 2, none⟩ = some (.int .i64 ti2) := (BB.cell (p := ⟨g, 2, none⟩) hgb).trans (by simp [World.cell?, HG5.out])
          have y3 : wr.cell? ⟨g, 3, none⟩ = some (.int .i64 lo2) := (BB.cell (p := ⟨g, 3, none⟩) hgb).trans (by simp [World.cell?, HG5.out])
          have y4 : wr.cell? ⟨g, 4, none⟩ = some (.int .i64 hi2) := (BB.cell (p := ⟨g, 4, none⟩) hgb).trans (by simp [World.cell?, HG5.out])
          have y5 : wr.cell? ⟨g, 5, none⟩ = some (.int .i64 wi2) := (BB.cell (p := ⟨g, 5, none⟩) hgb).trans (by simp [World.cell?, HG5.out])
          have y6 : wr.cell? ⟨g, 6, none⟩ = some (.int .i64 ru2) := (BB.cell (p := ⟨g, 6, none⟩) hgb).trans (by simp [World.cell?, HG5.out])
          have y7 : wr.cell? ⟨g, 7, none⟩ = some (.int .i64 top2) := (BB.cell (p := ⟨g, 7, none⟩) hgb).trans (by simp [World.cell?, HG5.out])
          have y8 : wr.cell? ⟨g, 8, none⟩ = some (.int .i64 le2) := (BB.cell (p := ⟨g, 8, none⟩) hgb).trans (by simp [World.cell?, HG5.out])
          have y9 : wr.cell? ⟨g, 9, none⟩ = some (.int .i64 pa2) := (BB.cell (p := ⟨g, 9, none⟩) hgb).trans (by simp [World.cell?, HG5.out])
          have y10 : wr.cell? ⟨g, 10, none⟩ = some (.slice sa2 sn2 sc2) := (BB.cell (p := ⟨g, 10, none⟩) hgb).trans (by simp [World.cell?, HG5.out])
          have B6 : Below w.heap.size w wr := B5.trans (BB.mono (by have := HGS.out; omega))
          have hcA := CellsS.of_own OA'.out
          have hcB := Cells.of_own OB'.out
          have hcX := Cells.of_own OX'.out
          have hS'l : S'.length = j := by have := AL.out.len; have := EM.out; omega
          have HS'L := hide hS'l
          clear OA' OB' OX' BB B5 HG5 hS'l
          go_wp2_with fail
          refine (alloc_any _ _ _ _ _ _ _ ru2 top2 le2 pa2 A j c S' Kq _ HS'L.out (by have := HS'L.out; omega) (by have := HS'L.out; omega) hcA).mono ?_
          rw [AL.out.alloc, ← EX.out]
          rintro e w6 ⟨Ay, cy, rfl, -, hcY, -, -, hb6⟩
          have hB6 := hcB.below hb6
          have hX6 := hcX.below hb6
          have B7 := nxt B6 hb6
          have x0 := (hb6.cell (p := ⟨g, 0, none⟩) (World.block_lt_of_cell? wr _ y0)).trans y0
          have x1 := (hb6.cell (p := ⟨g, 1, none⟩) (World.block_lt_of_cell? wr _ y1)).trans y1
          have x2 := (hb6.cell (p := ⟨g, 2, none⟩) (World.block_lt_of_cell? wr _ y2)).trans y2
          have x3 := (hb6.cell (p := ⟨g, 3, none⟩) (World.block_lt_of_cell? wr _ y3)).trans y3
          have x4 := (hb6.cell (p := ⟨g, 4, none⟩) (World.block_lt_of_cell? wr _ y4)).trans y4
          have x5 := (hb6.cell (p := ⟨g, 5, none⟩) (World.block_lt_of_cell? wr _ y5)).trans y5
          have x6 := (hb6.cell (p := ⟨g, 6, none⟩) (World.block_lt_of_cell? wr _ y6)).trans y6
          have x7 := (hb6.cell (p := ⟨g, 7, none⟩) (World.block_lt_of_cell? wr _ y7)).trans y7
          have x8 := (hb6.cell (p := ⟨g, 8, none⟩) (World.block_lt_of_cell? wr _ y8)).trans y8
          have x9 := (hb6.cell (p := ⟨g, 9, none⟩) (World.block_lt_of_cell? wr _ y9)).trans y9
          have x10 := (hb6.cell (p := ⟨g, 10, none⟩) (World.block_lt_of_cell? wr _ y10)).trans y10
          clear hb6 hcA hcB hcX B6 y0 y1 y2 y3 y4 y5 y6 y7 y8 y9 y10
          rw [show X.length = N from EN.out]
          have hXL : X.length ≤ 9223372036854775807 := by have := EN.out; omega
          rcases HRU.out with rfl | rfl | rfl
          · have hsh : X = shareB (qtys S) Kq := by rw [EX.out]; simp [allocL]
            have HSH := hide hsh
            clear hsh
            go_wp2_with fail
            refine (share_any B _ d (qtys S) Kq _ HQL.out (by rw [HQL.out]; omega) hB6).mono ?_
            rw [← HSH.out]
            rintro e w7 ⟨Az, cz, rfl, -, hcZ, -, -, hb7⟩
            rw [show X.length = N from EN.out]
            have hX7 := hX6.below hb7
            have hY7 := hcY.below hb7
            have B8 := nxt B7 hb7
            clear hb7 hX6 hcY hB6 B7 x0 x1 x2 x3 x4 x5 x6 x7 x8 x9 x10
            go_wp2_with fail
            refine (same_b Ax Az N N cx cz X X _ EN.out EN.out hXL hXL hX7 hcZ).mono ?_
            simp only [decide_true]
            rintro e w8 ⟨rfl, hb8⟩
            have hY8 := hY7.below hb8
            have hZ8 := hcZ.below hb8
            have B9 := nxt B8 hb8
            clear hb8 hX7 hY7 hcZ B8
            go_wp2_with fail
            refine (same_b Ay Az N N cy cz X X _ EN.out EN.out hXL hXL hY8 hZ8).mono ?_
            simp only [decide_true]
            rintro e w9 ⟨rfl, hb9⟩
            have B10 := nxt B9 hb9
            clear hb9 hY8 hZ8 B9
            go_wp2_with fail
            refine (known13_any _).mono ?_
            rintro e w10 ⟨rfl, hb⟩
            have B11 := nxt B10 hb
            go_wp2_with fail
            go_ret
            exact ⟨rfl, B11⟩
          · have hsh : X = shareP (qtys S) (topI S) top2 le2 Kq := by rw [EX.out]; simp [allocL]
            rw [← EI.out] at hsh
            have HSH := hide hsh
            clear hsh
            go_wp2_with fail
            refine (pshare_any B _ d (qtys S) I top2 le2 Kq _ HQL.out (by rw [HQL.out]; omega) hB6).mono ?_
            rw [← HSH.out]
            rintro e w7 ⟨Az, cz, rfl, -, hcZ, -, -, hb7⟩
            rw [show X.length = N from EN.out]
            have hX7 := hX6.below hb7
            have hY7 := hcY.below hb7
            have B8 := nxt B7 hb7
            clear hb7 hX6 hcY hB6 B7 x0 x1 x2 x3 x4 x5 x6 x7 x8 x9 x10
            go_wp2_with fail
            refine (same_b Ax Az N N cx cz X X _ EN.out EN.out hXL hXL hX7 hcZ).mono ?_
            simp only [decide_true]
            rintro e w8 ⟨rfl, hb8⟩
            have hY8 := hY7.below hb8
            have hZ8 := hcZ.below hb8
            have B9 := nxt B8 hb8
            clear hb8 hX7 hY7 hcZ B8
            go_wp2_with fail
            refine (same_b Ay Az N N cy cz X X _ EN.out EN.out hXL hXL hY8 hZ8).mono ?_
            simp only [decide_true]
            rintro e w9 ⟨rfl, hb9⟩
            have B10 := nxt B9 hb9
            clear hb9 hY8 hZ8 B9
            go_wp2_with fail
            refine (known13_any _).mono ?_
            rintro e w10 ⟨rfl, hb⟩
            have B11 := nxt B10 hb
            go_wp2_with fail
            go_ret
            exact ⟨rfl, B11⟩
          · have hsh : X = splitL (qtys S) pa2 le2 Kq := by rw [EX.out]; simp [allocL]
            have HSH := hide hsh
            clear hsh
            go_wp2_with fail
            refine (ssplit_any B _ d (qtys S) pa2 le2 Kq _ HQL.out (by rw [HQL.out]; omega) hB6).mono ?_
            rw [← HSH.out]
            rintro e w7 ⟨Az, cz, rfl, -, hcZ, -, -, hb7⟩
            rw [show X.length = N from EN.out]
            have hX7 := hX6.below hb7
            have hY7 := hcY.below hb7
            have B8 := nxt B7 hb7
            clear hb7 hX6 hcY hB6 B7 x0 x1 x2 x3 x4 x5 x6 x7 x8 x9 x10
            go_wp2_with fail
            refine (same_b Ax Az N N cx cz X X _ EN.out EN.out hXL hXL hX7 hcZ).mono ?_
            simp only [decide_true]
            rintro e w8 ⟨rfl, hb8⟩
            have hY8 := hY7.below hb8
            have hZ8 := hcZ.below hb8
            have B9 := nxt B8 hb8
            clear hb8 hX7 hY7 hcZ B8
            go_wp2_with fail
            refine (same_b Ay Az N N cy cz X X _ EN.out EN.out hXL hXL hY8 hZ8).mono ?_
            simp only [decide_true]
            rintro e w9 ⟨rfl, hb9⟩
            have B10 := nxt B9 hb9
            clear hb9 hY8 hZ8 B9
            go_wp2_with fail
            refine (known13_any _).mono ?_
            rintro e w10 ⟨rfl, hb⟩
            have B11 := nxt B10 hb
            go_wp2_with fail
            go_ret
            exact ⟨rfl, B11⟩
end Go.Proofs.Ytglcdamdjjbjhaa
