/-
  The walk of AllocTells.
-/
import Derived.Test.YtglcdamdjjbjhaaNums13
import Derived.Test.YtglcdamdjjbjhaaProd13
import Derived.Test.YtglcdamdjjbjhaaArgs13
import Derived.Deep.DeepCutAuto
import Derived.Deep.CutBlock
namespace Go.Proofs.Ytglcdamdjjbjhaa
open Go.RowKit
set_option linter.unusedVariables false

theorem flat_take : ∀ (l : List Ord) (k : Nat), flat (l.take k) = (flat l).take (k * 5)
  | [], k => by simp [flat]
  | x :: l, 0 => by simp [flat]
  | x :: l, k + 1 => by
    have h := flat_take l k
    have hx : x.cells.length = 5 := rfl
    simp only [flat, List.take_succ_cons, List.flatMap_cons] at h ⊢
    rw [h, show (k + 1) * 5 = x.cells.length + k * 5 by omega, List.take_length_add_append]
theorem Cells.orders {w : World} {A : Option Addr} {l : List Ord} (h : Cells w A (flat l)) (k : Nat) : Cells w A (flat (l.take k)) := by
  rw [flat_take]
  intro hn
  obtain ⟨b, o, rfl, hb, hc⟩ := h (by rintro h0; rw [h0] at hn; simp at hn)
  refine ⟨b, o, rfl, hb, fun j u hu => hc j u ?_⟩
  rw [List.getElem?_take] at hu
  split at hu
  · exact hu
  · cases hu
theorem someL_qty (l : List Ord) : ∀ n ∈ qtys (someL l), 1 ≤ n ∧ n ≤ 41 := by
  intro n hn
  simp only [qtys, someL, List.mem_map] at hn
  obtain ⟨x, ⟨y, -, rfl⟩, rfl⟩ := hn
  have := within_bd y.qty 0 40 (by omega)
  simp only [someO]
  omega
/-- The sum of the sizes, as the laws make it. -/
theorem stays_w {w1 wr : World} {b k : Nat} {x : Value} (hB : Below w1.heap.size w1 wr) (hb : b < w1.heap.size) (hc : w1.cell? ⟨b, k, none⟩ = some x) : wr.cell? ⟨b, k, none⟩ = some x := (hB.cell (p := ⟨b, k, none⟩) hb).trans hc
set_option maxRecDepth 100000 in
set_option maxHeartbeats 1600000 in
theorem allocTells_walk (p0 : ProductV) (A0 : Option Addr) (n0 c0 : Nat) (q small : Int) (w : World) (hp : p0.Ok w) (h1 : Orders w A0 n0 c0) (_w2 : (Lit.int .i64 q).wf = true) (_w3 : (Lit.int .i64 small).wf = true) :
    Calls Try.prog 4 #[p0.val, .slice A0 n0 c0, .int .i64 q, .int .i64 small] w fun e w' => e = .returned (.bool true) ∧ Below w.heap.size w w' := by
  obtain ⟨pc, ma, mn, mc, ti, lo, hi, wi, ru, top, le, pa, sa, sn, sc⟩ := p0
  have hmn : mn ≤ 9223372036854775807 := by have := hp.1; have := hp.2; simp only at *; unfold maxLen at *; omega
  obtain ⟨l, hll, hL⟩ := h1.row
  have hn0c : n0 ≤ c0 := h1.le
  have hc0m : c0 ≤ 9223372036854775807 := h1.max
  clear hp h1
  show Calls Try.prog 4 #[.agg #[.string pc, .slice ma mn mc, .int .i64 ti, .int .i64 lo, .int .i64 hi, .int .i64 wi, .int .i64 ru, .int .i64 top, .int .i64 le, .int .i64 pa, .slice sa sn sc], .slice A0 n0 c0, .int .i64 q, .int .i64 small] w fun e w' => e = .returned (.bool true) ∧ Below w.heap.size w w'
  have HLL := hide hll
  clear hll
  obtain ⟨w1, ew1⟩ : ∃ w1, w1 = w.alloc (.cells #[.string pc, .slice ma mn mc, .int .i64 ti, .int .i64 lo, .int .i64 hi, .int .i64 wi, .int .i64 ru, .int .i64 top, .int .i64 le, .int .i64 pa, .slice sa sn sc] 28) := ⟨_, rfl⟩
  obtain ⟨g, eg⟩ : ∃ g, g = w.heap.size := ⟨_, rfl⟩
  have k0 : w1.cell? ⟨g, 0, none⟩ = some (.string pc) := by rw [ew1, World.cell?_alloc_at _ _ _ _ eg]; rfl
  have k1 : w1.cell? ⟨g, 1, none⟩ = some (.slice ma mn mc) := by rw [ew1, World.cell?_alloc_at _ _ _ _ eg]; rfl
  have k2 : w1.cell? ⟨g, 2, none⟩ = some (.int .i64 ti) := by rw [ew1, World.cell?_alloc_at _ _ _ _ eg]; rfl
  have k3 : w1.cell? ⟨g, 3, none⟩ = some (.int .i64 lo) := by rw [ew1, World.cell?_alloc_at _ _ _ _ eg]; rfl
  have k4 : w1.cell? ⟨g, 4, none⟩ = some (.int .i64 hi) := by rw [ew1, World.cell?_alloc_at _ _ _ _ eg]; rfl
  have k5 : w1.cell? ⟨g, 5, none⟩ = some (.int .i64 wi) := by rw [ew1, World.cell?_alloc_at _ _ _ _ eg]; rfl
  have k6 : w1.cell? ⟨g, 6, none⟩ = some (.int .i64 ru) := by rw [ew1, World.cell?_alloc_at _ _ _ _ eg]; rfl
  have k7 : w1.cell? ⟨g, 7, none⟩ = some (.int .i64 top) := by rw [ew1, World.cell?_alloc_at _ _ _ _ eg]; rfl
  have k8 : w1.cell? ⟨g, 8, none⟩ = some (.int .i64 le) := by rw [ew1, World.cell?_alloc_at _ _ _ _ eg]; rfl
  have k9 : w1.cell? ⟨g, 9, none⟩ = some (.int .i64 pa) := by rw [ew1, World.cell?_alloc_at _ _ _ _ eg]; rfl
  have k10 : w1.cell? ⟨g, 10, none⟩ = some (.slice sa sn sc) := by rw [ew1, World.cell?_alloc_at _ _ _ _ eg]; rfl
  have B1 : Below w.heap.size w w1 := by rw [ew1]; exact nxt_alloc (Below.refl _ _) _
  have hg : g < w1.heap.size := World.block_lt_of_cell? w1 _ k0
  have hL1 := hL.below B1
  clear hL
  go_enter Try.func4, Try.ntmps4
  go_wp2_with fail
  rw [← ew1, ← eg]
  clear ew1 eg
  refine (some_any A0 n0 c0 l _ HLL.out (by rw [HLL.out]; omega) hL1).mono ?_
  obtain ⟨S, eS⟩ : ∃ S, S = someL l := ⟨_, rfl⟩
  have hS := length_someL l
  have hq := someL_qty l
  rw [← eS] at hS hq ⊢
  clear eS
  have hS30 : S.length ≤ 30 := by omega
  clear hS
  have hql : (qtys S).length = S.length := length_qtys S
  rintro e w2 ⟨A, c, B, d, rfl, -, hA2, hB2, hb⟩
  obtain ⟨m, em⟩ : ∃ m, m = S.length := ⟨_, rfl⟩
  rw [← em] at hS30 hql ⊢
  have EM := hide em
  have HQL := hide hql
  have HQ := hide hq
  clear em hql hq
  have B2 := nxt B1 hb
  have hL2 := hL1.below hb
  have hb2 := hb
  clear hb hL1
  go_wp2_with fail
  go_loop [11, 12] (fun s i => ∃ k : Nat, k ≤ m ∧ i = .int .i64 k ∧ s = .int .i64 ((qtys S).take k).sum) (fun _ i => m - (intOf i).toNat)
  case atStart => exact ⟨0, Nat.zero_le _, rfl, rfl⟩
  case round =>
    obtain ⟨k, hk, rfl, rfl⟩ := hrel
    have hsb := isum_bd (M := 41) ((qtys S).take k) (fun n hn => by have := HQ.out n (List.mem_of_mem_take hn); omega)
    have hsl : (((qtys S).take k).length : Int) ≤ 30 := by simp; omega
    by_cases hlt : k < m
    · obtain ⟨b5, o5, x, rfl, hb5, hc5, hx⟩ := hB2.int_at (k := k) (by rw [HQL.out]; omega)
      have hxb := HQ.out x (mem_of_some hx.out)
      have hsn := sum_take_of hx.out
      have i1 : (k : Int) < m := by omega
      obtain ⟨T, eT⟩ : ∃ T, T = ((qtys S).take k).sum := ⟨_, rfl⟩
      obtain ⟨T', eT'⟩ : ∃ T', T' = ((qtys S).take (k + 1)).sum := ⟨_, rfl⟩
      rw [← eT] at hsb hsn ⊢
      rw [← eT'] at hsn
      have HSN := hide hsn
      have ET' := hide eT'
      have hTb : 0 ≤ T ∧ T ≤ 41 * 30 := by omega
      clear hsb hsl hsn eT eT' hB2
      go_wp2_with fail
      go_round
      case rel => exact ⟨k + 1, by omega, by go_num, by rw [← ET'.out, HSN.out]⟩
      case measure => simp [intOf]; omega
    · obtain rfl : k = m := by omega
      rw [List.take_of_length_le (by rw [HQL.out]; omega)] at hsb ⊢
      rw [HQL.out] at hsb
      obtain ⟨T, eT⟩ : ∃ T, T = (qtys S).sum := ⟨_, rfl⟩
      rw [← eT] at hsb ⊢
      have hTb : 0 ≤ T ∧ T ≤ 1230 := by omega
      clear eT hsb hsl hB2
      go_wp2_with fail
      refine (within_any small 0 T _ (by omega) (by omega) (by omega)).mono ?_
      rintro e u ⟨rfl, rfl⟩
      obtain ⟨Kq, eK⟩ : ∃ Kq, Kq = within small 0 T := ⟨_, rfl⟩
      rw [← eK]
      clear eK
      have e0 := stays_w hb2 hg k0
      have e1 := stays_w hb2 hg k1
      have e2 := stays_w hb2 hg k2
      have e3 := stays_w hb2 hg k3
      have e4 := stays_w hb2 hg k4
      have e5 := stays_w hb2 hg k5
      have e6 := stays_w hb2 hg k6
      have e7 := stays_w hb2 hg k7
      have e8 := stays_w hb2 hg k8
      have e9 := stays_w hb2 hg k9
      have e10 := stays_w hb2 hg k10
      go_wp2_with fail
      refine (product_any _ ma mn mc ti _ _ wi ru top le pa _ _ hmn).mono ?_
      rintro e w3 ⟨⟨pc2, ma2, mn2, mc2, ti2, lo2, hi2, wi2, sa2, sn2, sc2, rfl⟩, hb3⟩
      obtain ⟨ru2, eru⟩ : ∃ v, v = 1 + within ru 0 2 := ⟨_, rfl⟩
      obtain ⟨top2, eto⟩ : ∃ v, v = within top 0 9 := ⟨_, rfl⟩
      obtain ⟨le2, ele⟩ : ∃ v, v = 1 + within le 0 4 := ⟨_, rfl⟩
      obtain ⟨pa2, epa⟩ : ∃ v, v = within pa 0 100 := ⟨_, rfl⟩
      rw [← eru, ← eto, ← ele, ← epa]
      clear eru eto ele epa e0 e1 e2 e3 e4 e5 e6 e7 e8 e9 e10
      have B3 := nxt B2 hb3
      have hL3 := hL2.below hb3
      have hA3 := hA2.below hb3
      have hb23 := nxt hb2 hb3
      clear hL2 hA2 hb3 B2 hb2
      go_upto_if 39 with (fail)
      obtain ⟨w4, ew4⟩ : ∃ w4, w4 = w3.alloc (.cells #[.string pc2, .slice ma2 mn2 mc2, .int .i64 ti2, .int .i64 lo2, .int .i64 hi2, .int .i64 wi2, .int .i64 ru2, .int .i64 top2, .int .i64 le2, .int .i64 pa2, .slice sa2 sn2 sc2] 28) := ⟨_, rfl⟩
      obtain ⟨h, eh⟩ : ∃ h, h = w3.heap.size := ⟨_, rfl⟩
      have r0 : w4.cell? ⟨h, 0, none⟩ = some (.string pc2) := by rw [ew4, World.cell?_alloc_at _ _ _ _ eh]; rfl
      have r1 : w4.cell? ⟨h, 1, none⟩ = some (.slice ma2 mn2 mc2) := by rw [ew4, World.cell?_alloc_at _ _ _ _ eh]; rfl
      have r2 : w4.cell? ⟨h, 2, none⟩ = some (.int .i64 ti2) := by rw [ew4, World.cell?_alloc_at _ _ _ _ eh]; rfl
      have r3 : w4.cell? ⟨h, 3, none⟩ = some (.int .i64 lo2) := by rw [ew4, World.cell?_alloc_at _ _ _ _ eh]; rfl
      have r4 : w4.cell? ⟨h, 4, none⟩ = some (.int .i64 hi2) := by rw [ew4, World.cell?_alloc_at _ _ _ _ eh]; rfl
      have r5 : w4.cell? ⟨h, 5, none⟩ = some (.int .i64 wi2) := by rw [ew4, World.cell?_alloc_at _ _ _ _ eh]; rfl
      have r6 : w4.cell? ⟨h, 6, none⟩ = some (.int .i64 ru2) := by rw [ew4, World.cell?_alloc_at _ _ _ _ eh]; rfl
      have r7 : w4.cell? ⟨h, 7, none⟩ = some (.int .i64 top2) := by rw [ew4, World.cell?_alloc_at _ _ _ _ eh]; rfl
      have r8 : w4.cell? ⟨h, 8, none⟩ = some (.int .i64 le2) := by rw [ew4, World.cell?_alloc_at _ _ _ _ eh]; rfl
      have r9 : w4.cell? ⟨h, 9, none⟩ = some (.int .i64 pa2) := by rw [ew4, World.cell?_alloc_at _ _ _ _ eh]; rfl
      have r10 : w4.cell? ⟨h, 10, none⟩ = some (.slice sa2 sn2 sc2) := by rw [ew4, World.cell?_alloc_at _ _ _ _ eh]; rfl
      have hh : h < w4.heap.size := World.block_lt_of_cell? w4 _ r0
      have hb34 : Below w3.heap.size w3 w4 := by rw [ew4]; exact nxt_alloc (Below.refl _ _) _
      have B4 := nxt B3 hb34
      have hL4 := hL3.below hb34
      have hA4 := hA3.below hb34
      have hb24 := nxt hb23 hb34
      rw [← ew4, ← eh]
      clear ew4 eh hL3 hA3 B3 hb23 hb34

      obtain ⟨n', en⟩ : ∃ n', n' = min n0 60 := ⟨_, rfl⟩
      go_cut [1] (fun s wx => s = .slice A0 n' c0 ∧ w4 = wx)
      case first =>
        by_cases h60 : (60 : Int) < n0
        · obtain rfl : n' = 60 := by omega
          have i1 : (60 : Int) ≤ c0 := by omega
          clear en
          go_wp2
          go_meet
          exact ⟨rfl, rfl⟩
        · obtain rfl : n' = n0 := by omega
          clear en
          go_wp2
          go_meet
          exact ⟨rfl, rfl⟩
      obtain ⟨rfl, rfl⟩ := hcut
      have hL5 := hL4.orders 60
      obtain ⟨L, eL⟩ : ∃ L, L = l.take 60 := ⟨_, rfl⟩
      have hLn : L.length = n' := by rw [eL]; have := HLL.out; simp; omega
      have hLs : L.length ≤ 60 := by rw [eL]; simp; omega
      rw [← eL] at hL5
      clear eL en hL4
      have HLN := hide hLn
      clear hLn
      have hSl : S.length ≤ 30 := by have := EM.out; omega
      have D0 : Below w4.heap.size w4 w4.drew := nxt_drew (Below.refl _ _)
      have hS_0 := hA4.drew
      have hL_0 := hL5.drew
      clear hA4 hL5
      have f0 := stays_k (Below.refl w4.heap.size w4) hh r0
      have f1 := stays_k (Below.refl w4.heap.size w4) hh r1
      have f2 := stays_k (Below.refl w4.heap.size w4) hh r2
      have f3 := stays_k (Below.refl w4.heap.size w4) hh r3
      have f4 := stays_k (Below.refl w4.heap.size w4) hh r4
      have f5 := stays_k (Below.refl w4.heap.size w4) hh r5
      have f6 := stays_k (Below.refl w4.heap.size w4) hh r6
      have f7 := stays_k (Below.refl w4.heap.size w4) hh r7
      have f8 := stays_k (Below.refl w4.heap.size w4) hh r8
      have f9 := stays_k (Below.refl w4.heap.size w4) hh r9
      have f10 := stays_k (Below.refl w4.heap.size w4) hh r10
      clear r0 r1 r2 r3 r4 r5 r6 r7 r8 r9 r10
      go_wp2_with fail
      refine wp_region_grow (R := Stays) 99999 [3, 6, 8, 9, 14, 17, 19, 20, 26, 29, 31, 32, 35] [0, 1, 2, 4, 5, 7, 3, 6, 8, 9, 10, 11, 12, 13, 15, 16, 18, 14, 17, 19, 20, 21, 22, 23, 24, 25, 27, 28, 30, 26, 29, 31, 32, 33, 34, 35, 36, 37] (by kernel_rfl) Stays.tr Stays.rf (by kernel_rfl) (fun _ _ _ _ _ h => h) ?_
      (repeat ((first | (refine grow_skip (by rfl) (by rfl) ?_ (by first | exact Stays.rf _ | exact Lower.rf _ _ | exact Holds.rf _ _)) | (refine grow_take (v := ?_) (by rfl) (by rfl) (by rfl) ?_ ?_; rotate_left 1; focus (intro w' hSw; go_simp; (try (with_reducible rfl)); done))); (try simp only [Act.put, List.setIfInBounds_toArray, List.set_cons_zero, List.set_cons_succ])))
      clear f0 f1 f2 f3 f4 f5 f6 f7 f8 f9 f10
      refine grow_move (by rfl) (by rfl) (by rfl) (fun K hK => ?_); go_simp
      refine (alloc_any _ _ _ _ _ _ _ ru2 top2 le2 pa2 A k c S Kq _ EM.out.symm (by omega) (by omega) hS_0).mono ?_
      rintro e u1 ⟨Ax, cx, rfl, -, hx, -, -, hb⟩
      refine hK.out _ _ (hb) ?_; clear hK K; (try simp only [Act.put, List.setIfInBounds_toArray, List.set_cons_zero, List.set_cons_succ])
      have D1 := nxt D0 hb
      have hS_1 := hS_0.below hb
      have hL_1 := hL_0.below hb
      clear hb hS_0 hL_0 D0 
      (repeat ((first | (refine grow_skip (by rfl) (by rfl) ?_ (by first | exact Stays.rf _ | exact Lower.rf _ _ | exact Holds.rf _ _)) | (refine grow_take (v := ?_) (by rfl) (by rfl) (by rfl) ?_ ?_; rotate_left 1; focus (intro w' hSw; go_simp; (try (with_reducible rfl)); done))); (try simp only [Act.put, List.setIfInBounds_toArray, List.set_cons_zero, List.set_cons_succ])))
      refine grow_move (by rfl) (by rfl) (by rfl) (fun K hK => ?_); go_simp
      refine (in_any A k c S _ EM.out.symm (by omega) hS_1).mono ?_
      rintro e u2 ⟨Ix, dx, rfl, -, kx, -, -, hb⟩
      refine hK.out _ _ (hb) ?_; clear hK K; (try simp only [Act.put, List.setIfInBounds_toArray, List.set_cons_zero, List.set_cons_succ])
      have D2 := nxt D1 hb
      have hS_2 := hS_1.below hb
      have hL_2 := hL_1.below hb
      have hx1 := hx.below hb
      clear hb hS_1 hL_1 D1 hx
      (repeat ((first | (refine grow_skip (by rfl) (by rfl) ?_ (by first | exact Stays.rf _ | exact Lower.rf _ _ | exact Holds.rf _ _)) | (refine grow_take (v := ?_) (by rfl) (by rfl) (by rfl) ?_ ?_; rotate_left 1; focus (intro w' hSw; go_simp; (try (with_reducible rfl)); done))); (try simp only [Act.put, List.setIfInBounds_toArray, List.set_cons_zero, List.set_cons_succ])))
      refine grow_move (by rfl) (by rfl) (by rfl) (fun K hK => ?_); go_simp
      refine (ralloc_any _ _ _ _ _ _ _ ru2 top2 le2 pa2 Ix _ dx S Kq _ rfl (by omega) (by omega) kx).mono ?_
      rintro e u3 ⟨Rx, rx, rfl, -, zx, -, -, hb⟩
      refine hK.out _ _ (hb) ?_; clear hK K; (try simp only [Act.put, List.setIfInBounds_toArray, List.set_cons_zero, List.set_cons_succ])
      have D3 := nxt D2 hb
      have hS_3 := hS_2.below hb
      have hL_3 := hL_2.below hb
      have hx2 := hx1.below hb
      clear hb hS_2 hL_2 D2 hx1 kx
      (repeat ((first | (refine grow_skip (by rfl) (by rfl) ?_ (by first | exact Stays.rf _ | exact Lower.rf _ _ | exact Holds.rf _ _)) | (refine grow_take (v := ?_) (by rfl) (by rfl) (by rfl) ?_ ?_; rotate_left 1; focus (intro w' hSw; go_simp; (try (with_reducible rfl)); done))); (try simp only [Act.put, List.setIfInBounds_toArray, List.set_cons_zero, List.set_cons_succ])))
      refine grow_move (by rfl) (by rfl) (by rfl) (fun K hK => ?_); go_simp
      refine (same_b Ax Rx _ _ cx rx _ _ _ rfl rfl (length_allocL _ _ _ _ _ _) (length_allocL _ _ _ _ _ _) hx2 zx).mono ?_
      simp only [decide_true]
      rintro e u4 ⟨rfl, hb⟩
      refine hK.out _ _ (hb) ?_; clear hK K; (try simp only [Act.put, List.setIfInBounds_toArray, List.set_cons_zero, List.set_cons_succ])
      have D4 := nxt D3 hb
      have hS_4 := hS_3.below hb
      have hL_4 := hL_3.below hb
      clear hb hS_3 hL_3 D3 hx2 zx
      have f0 := stays_q (nxt hb24 D4) hg k0
      have f1 := stays_q (nxt hb24 D4) hg k1
      have f2 := stays_q (nxt hb24 D4) hg k2
      have f3 := stays_q (nxt hb24 D4) hg k3
      have f4 := stays_q (nxt hb24 D4) hg k4
      have f5 := stays_q (nxt hb24 D4) hg k5
      have f6 := stays_q (nxt hb24 D4) hg k6
      have f7 := stays_q (nxt hb24 D4) hg k7
      have f8 := stays_q (nxt hb24 D4) hg k8
      have f9 := stays_q (nxt hb24 D4) hg k9
      have f10 := stays_q (nxt hb24 D4) hg k10
      (repeat ((first | (refine grow_skip (by rfl) (by rfl) ?_ (by first | exact Stays.rf _ | exact Lower.rf _ _ | exact Holds.rf _ _)) | (refine grow_take (v := ?_) (by rfl) (by rfl) (by rfl) ?_ ?_; rotate_left 1; focus (intro w' hSw; go_simp; (try (with_reducible rfl)); done))); (try simp only [Act.put, List.setIfInBounds_toArray, List.set_cons_zero, List.set_cons_succ])))
      clear f0 f1 f2 f3 f4 f5 f6 f7 f8 f9 f10
      refine grow_move (by rfl) (by rfl) (by rfl) (fun K hK => ?_); go_simp
      refine (alloc_any _ _ _ _ _ _ _ ru top le pa A0 n' c0 L q _ HLN.out (by omega) (by omega) hL_4).mono ?_
      rintro e u5 ⟨Ay, cy, rfl, -, hy, -, -, hb⟩
      refine hK.out _ _ (hb) ?_; clear hK K; (try simp only [Act.put, List.setIfInBounds_toArray, List.set_cons_zero, List.set_cons_succ])
      have D5 := nxt D4 hb
      have hS_5 := hS_4.below hb
      have hL_5 := hL_4.below hb
      clear hb hS_4 hL_4 D4 
      (repeat ((first | (refine grow_skip (by rfl) (by rfl) ?_ (by first | exact Stays.rf _ | exact Lower.rf _ _ | exact Holds.rf _ _)) | (refine grow_take (v := ?_) (by rfl) (by rfl) (by rfl) ?_ ?_; rotate_left 1; focus (intro w' hSw; go_simp; (try (with_reducible rfl)); done))); (try simp only [Act.put, List.setIfInBounds_toArray, List.set_cons_zero, List.set_cons_succ])))
      refine grow_move (by rfl) (by rfl) (by rfl) (fun K hK => ?_); go_simp
      refine (in_any A0 n' c0 L _ HLN.out (by omega) hL_5).mono ?_
      rintro e u6 ⟨Iy, dy, rfl, -, ky, -, -, hb⟩
      refine hK.out _ _ (hb) ?_; clear hK K; (try simp only [Act.put, List.setIfInBounds_toArray, List.set_cons_zero, List.set_cons_succ])
      have D6 := nxt D5 hb
      have hS_6 := hS_5.below hb
      have hL_6 := hL_5.below hb
      have hy1 := hy.below hb
      clear hb hS_5 hL_5 D5 hy
      (repeat ((first | (refine grow_skip (by rfl) (by rfl) ?_ (by first | exact Stays.rf _ | exact Lower.rf _ _ | exact Holds.rf _ _)) | (refine grow_take (v := ?_) (by rfl) (by rfl) (by rfl) ?_ ?_; rotate_left 1; focus (intro w' hSw; go_simp; (try (with_reducible rfl)); done))); (try simp only [Act.put, List.setIfInBounds_toArray, List.set_cons_zero, List.set_cons_succ])))
      refine grow_move (by rfl) (by rfl) (by rfl) (fun K hK => ?_); go_simp
      refine (ralloc_any _ _ _ _ _ _ _ ru top le pa Iy _ dy L q _ rfl (by omega) (by omega) ky).mono ?_
      rintro e u7 ⟨Ry, ry, rfl, -, zy, -, -, hb⟩
      refine hK.out _ _ (hb) ?_; clear hK K; (try simp only [Act.put, List.setIfInBounds_toArray, List.set_cons_zero, List.set_cons_succ])
      have D7 := nxt D6 hb
      have hS_7 := hS_6.below hb
      have hL_7 := hL_6.below hb
      have hy2 := hy1.below hb
      clear hb hS_6 hL_6 D6 hy1 ky
      (repeat ((first | (refine grow_skip (by rfl) (by rfl) ?_ (by first | exact Stays.rf _ | exact Lower.rf _ _ | exact Holds.rf _ _)) | (refine grow_take (v := ?_) (by rfl) (by rfl) (by rfl) ?_ ?_; rotate_left 1; focus (intro w' hSw; go_simp; (try (with_reducible rfl)); done))); (try simp only [Act.put, List.setIfInBounds_toArray, List.set_cons_zero, List.set_cons_succ])))
      refine grow_move (by rfl) (by rfl) (by rfl) (fun K hK => ?_); go_simp
      refine (same_b Ay Ry _ _ cy ry _ _ _ rfl rfl (length_allocL _ _ _ _ _ _) (length_allocL _ _ _ _ _ _) hy2 zy).mono ?_
      simp only [decide_true]
      rintro e u8 ⟨rfl, hb⟩
      refine hK.out _ _ (hb) ?_; clear hK K; (try simp only [Act.put, List.setIfInBounds_toArray, List.set_cons_zero, List.set_cons_succ])
      have D8 := nxt D7 hb
      have hS_8 := hS_7.below hb
      have hL_8 := hL_7.below hb
      clear hb hS_7 hL_7 D7 hy2 zy
      have f0 := stays_q (nxt hb24 D8) hg k0
      have f1 := stays_q (nxt hb24 D8) hg k1
      have f2 := stays_q (nxt hb24 D8) hg k2
      have f3 := stays_q (nxt hb24 D8) hg k3
      have f4 := stays_q (nxt hb24 D8) hg k4
      have f5 := stays_q (nxt hb24 D8) hg k5
      have f6 := stays_q (nxt hb24 D8) hg k6
      have f7 := stays_q (nxt hb24 D8) hg k7
      have f8 := stays_q (nxt hb24 D8) hg k8
      have f9 := stays_q (nxt hb24 D8) hg k9
      have f10 := stays_q (nxt hb24 D8) hg k10
      (repeat ((first | (refine grow_skip (by rfl) (by rfl) ?_ (by first | exact Stays.rf _ | exact Lower.rf _ _ | exact Holds.rf _ _)) | (refine grow_take (v := ?_) (by rfl) (by rfl) (by rfl) ?_ ?_; rotate_left 1; focus (intro w' hSw; go_simp; (try (with_reducible rfl)); done))); (try simp only [Act.put, List.setIfInBounds_toArray, List.set_cons_zero, List.set_cons_succ])))
      clear f0 f1 f2 f3 f4 f5 f6 f7 f8 f9 f10
      refine grow_move (by rfl) (by rfl) (by rfl) (fun K hK => ?_); go_simp
      refine (alloc_any _ _ _ _ _ _ _ ru top le pa A k c S Kq _ EM.out.symm (by omega) (by omega) hS_8).mono ?_
      rintro e u9 ⟨Av, cv, rfl, -, hv, -, -, hb⟩
      refine hK.out _ _ (hb) ?_; clear hK K; (try simp only [Act.put, List.setIfInBounds_toArray, List.set_cons_zero, List.set_cons_succ])
      have D9 := nxt D8 hb
      have hS_9 := hS_8.below hb
      have hL_9 := hL_8.below hb
      clear hb hS_8 hL_8 D8 
      (repeat ((first | (refine grow_skip (by rfl) (by rfl) ?_ (by first | exact Stays.rf _ | exact Lower.rf _ _ | exact Holds.rf _ _)) | (refine grow_take (v := ?_) (by rfl) (by rfl) (by rfl) ?_ ?_; rotate_left 1; focus (intro w' hSw; go_simp; (try (with_reducible rfl)); done))); (try simp only [Act.put, List.setIfInBounds_toArray, List.set_cons_zero, List.set_cons_succ])))
      refine grow_move (by rfl) (by rfl) (by rfl) (fun K hK => ?_); go_simp
      refine (in_any A k c S _ EM.out.symm (by omega) hS_9).mono ?_
      rintro e u10 ⟨Iv, dv, rfl, -, kv, -, -, hb⟩
      refine hK.out _ _ (hb) ?_; clear hK K; (try simp only [Act.put, List.setIfInBounds_toArray, List.set_cons_zero, List.set_cons_succ])
      have D10 := nxt D9 hb
      have hS_10 := hS_9.below hb
      have hL_10 := hL_9.below hb
      have hv1 := hv.below hb
      clear hb hS_9 hL_9 D9 hv
      (repeat ((first | (refine grow_skip (by rfl) (by rfl) ?_ (by first | exact Stays.rf _ | exact Lower.rf _ _ | exact Holds.rf _ _)) | (refine grow_take (v := ?_) (by rfl) (by rfl) (by rfl) ?_ ?_; rotate_left 1; focus (intro w' hSw; go_simp; (try (with_reducible rfl)); done))); (try simp only [Act.put, List.setIfInBounds_toArray, List.set_cons_zero, List.set_cons_succ])))
      refine grow_move (by rfl) (by rfl) (by rfl) (fun K hK => ?_); go_simp
      refine (ralloc_any _ _ _ _ _ _ _ ru top le pa Iv _ dv S Kq _ rfl (by omega) (by omega) kv).mono ?_
      rintro e u11 ⟨Rv, rv, rfl, -, zv, -, -, hb⟩
      refine hK.out _ _ (hb) ?_; clear hK K; (try simp only [Act.put, List.setIfInBounds_toArray, List.set_cons_zero, List.set_cons_succ])
      have D11 := nxt D10 hb
      have hS_11 := hS_10.below hb
      have hL_11 := hL_10.below hb
      have hv2 := hv1.below hb
      clear hb hS_10 hL_10 D10 hv1 kv
      (repeat ((first | (refine grow_skip (by rfl) (by rfl) ?_ (by first | exact Stays.rf _ | exact Lower.rf _ _ | exact Holds.rf _ _)) | (refine grow_take (v := ?_) (by rfl) (by rfl) (by rfl) ?_ ?_; rotate_left 1; focus (intro w' hSw; go_simp; (try (with_reducible rfl)); done))); (try simp only [Act.put, List.setIfInBounds_toArray, List.set_cons_zero, List.set_cons_succ])))
      refine grow_move (by rfl) (by rfl) (by rfl) (fun K hK => ?_); go_simp
      refine (same_b Av Rv _ _ cv rv _ _ _ rfl rfl (length_allocL _ _ _ _ _ _) (length_allocL _ _ _ _ _ _) hv2 zv).mono ?_
      simp only [decide_true]
      rintro e u12 ⟨rfl, hb⟩
      refine hK.out _ _ (hb) ?_; clear hK K; (try simp only [Act.put, List.setIfInBounds_toArray, List.set_cons_zero, List.set_cons_succ])
      have D12 := nxt D11 hb
      have hS_12 := hS_11.below hb
      have hL_12 := hL_11.below hb
      clear hb hS_11 hL_11 D11 hv2 zv
      (repeat ((first | (refine grow_skip (by rfl) (by rfl) ?_ (by first | exact Stays.rf _ | exact Lower.rf _ _ | exact Holds.rf _ _)) | (refine grow_take (v := ?_) (by rfl) (by rfl) (by rfl) ?_ ?_; rotate_left 1; focus (intro w' hSw; go_simp; (try (with_reducible rfl)); done))); (try simp only [Act.put, List.setIfInBounds_toArray, List.set_cons_zero, List.set_cons_succ])))
      refine grow_move (by rfl) (by rfl) (by rfl) (fun K hK => ?_); go_simp
      refine (known13_any _).mono ?_
      rintro e u ⟨rfl, hb⟩
      refine hK.out _ _ (hb) ?_; clear hK K; (try simp only [Act.put, List.setIfInBounds_toArray, List.set_cons_zero, List.set_cons_succ])
      have DZ := nxt (nxt B4 D12) hb
      clear hb
      (repeat ((first | (refine grow_skip (by rfl) (by rfl) ?_ (by first | exact Stays.rf _ | exact Lower.rf _ _ | exact Holds.rf _ _)) | (refine grow_take (v := ?_) (by rfl) (by rfl) (by rfl) ?_ ?_; rotate_left 1; focus (intro w' hSw; go_simp; (try (with_reducible rfl)); done))); (try simp only [Act.put, List.setIfInBounds_toArray, List.set_cons_zero, List.set_cons_succ])))
      refine grow_done ?_
      go_wp2_with fail
      go_ret
      exact ⟨rfl, DZ⟩
end Go.Proofs.Ytglcdamdjjbjhaa
