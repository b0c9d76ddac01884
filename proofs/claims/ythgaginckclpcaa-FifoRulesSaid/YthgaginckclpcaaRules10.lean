/-
  The walk of FifoRules.
-/
import Derived.Test.YthgaginckclpcaaFifo
import Derived.Test.YthgaginckclpcaaLaw10
import Derived.StillTailTactics
import Derived.Deep.RegionHeld3
namespace Go.Proofs.Ythgaginckclpcaa
open Go.RowKit
set_option linter.unusedVariables false

/-! ### FifoRules -/
set_option maxRecDepth 100000 in
set_option maxHeartbeats 3200000 in
theorem fifoRules_walk (A0 : Option Addr) (c0 : Nat) (l0 : List Int) (a1 a2 : Int) (w : World) (h0 : ArgI .i64 w A0 c0 l0) (_w1 : (Lit.int .i64 a1).wf = true) (_w2 : (Lit.int .i64 a2).wf = true) :
    Calls Try.prog 5 #[.slice A0 l0.length c0, .int .i64 a1, .int .i64 a2] w fun e w' => e = .returned (.bool true) ∧ Below w.heap.size w w' := by
  have hlen : l0.length ≤ 9223372036854775807 := by have := h0.le; have := h0.max; unfold maxLen at this; omega
  have hA0 := h0.cells
  clear h0
  have hs1 := sizesL_length l0
  have hs2 : ∀ n ∈ sizesL l0, 1 ≤ n ∧ n ≤ 1000000 := sizesL_bd l0
  obtain ⟨s, es⟩ : ∃ s, s = sizesL l0 := ⟨_, rfl⟩
  rw [← es] at hs1 hs2
  have hs4 : ∀ n ∈ s, 0 ≤ n := fun n hn => by have := hs2 n hn; omega
  have hs5 : ∀ n ∈ s, 0 ≤ n ∧ n ≤ 1000000 := fun n hn => by have := hs2 n hn; omega
  have hs3 := isum_bd _ hs5
  have hk := within_bd a1 0 s.sum hs3.1
  obtain ⟨k, ek⟩ : ∃ k, k = within a1 0 s.sum := ⟨_, rfl⟩
  rw [← ek] at hk
  have hm := within_bd a2 0 k (by omega)
  obtain ⟨m, em⟩ : ∃ m, m = within a2 0 k := ⟨_, rfl⟩
  rw [← em] at hm
  have r1 : shareB s k = shareL s k := if_pos ((rightB_iff s k).2 ⟨by omega, by omega, hs2, by omega⟩)
  have r2 : shareB s m = shareL s m := if_pos ((rightB_iff s m).2 ⟨by omega, by omega, hs2, by omega⟩)
  have hl1 := length_shareL s k
  have hl2 := length_shareL s m
  have bd1 : ∀ (i : Nat) (x n : Int), (shareL s k)[i]? = some x → s[i]? = some n → 0 ≤ x ∧ x ≤ n := fun i x n h h' => shareL_bd hs4 (by omega) h h'
  have bd2 : ∀ (i : Nat) (x n : Int), (shareL s m)[i]? = some x → s[i]? = some n → 0 ≤ x ∧ x ≤ n := fun i x n h h' => shareL_bd hs4 (by omega) h h'
  have st1 : ∀ (i : Nat) (x n y : Int), (shareL s k)[i]? = some x → s[i]? = some n → x < n → (shareL s k)[i + 1]? = some y → y = 0 := fun i x n y h h' h'' h3 => shareL_stop hs4 (by omega) h h' h'' h3
  have su1 : (shareL s k).sum = k := shareL_sum hs4 (by omega) (by omega)
  have su2 : (shareL s m).sum = m := shareL_sum hs4 (by omega) (by omega)
  have two := two_goes s m k hs4 (by omega) (by omega)
  obtain ⟨xl, exl⟩ : ∃ xl, xl = shareL s k := ⟨_, rfl⟩
  obtain ⟨al, eal⟩ : ∃ al, al = shareL s m := ⟨_, rfl⟩
  rw [← exl] at r1 hl1 bd1 st1 su1 two
  rw [← eal] at r2 hl2 bd2 two su2
  have al1 : ∀ x ∈ al, 0 ≤ x ∧ x ≤ 1000000 := fun x hx => by
    obtain ⟨i, hi⟩ := List.mem_iff_getElem?.1 hx
    have hi' := lt_of_some hi
    have h1 := bd2 i x s[i] hi (List.getElem?_eq_getElem _)
    have h2 := hs5 s[i] (List.getElem_mem _)
    omega
  have xl1 : ∀ x ∈ xl, 0 ≤ x ∧ x ≤ 1000000 := fun x hx => by
    obtain ⟨i, hi⟩ := List.mem_iff_getElem?.1 hx
    have hi' := lt_of_some hi
    have h1 := bd1 i x s[i] hi (List.getElem?_eq_getElem _)
    have h2 := hs5 s[i] (List.getElem_mem _)
    omega
  have lp : ∀ n ∈ lacks s al, 1 ≤ n ∧ n ≤ 1000000 := lacks_pos s al (fun n hn => (hs5 n hn).2) (fun x hx => (al1 x hx).1)
  have ll := lacks_le s al
  have ls := lacks_sum s al hl2.symm (fun i n x h h' => (bd2 i x n h' h).2)
  have r3 : shareB (lacks s al) (k - m) = shareL (lacks s al) (k - m) := if_pos ((rightB_iff _ _).2 ⟨by omega, by omega, lp, by omega⟩)
  have hl3 := length_shareL (lacks s al) (k - m)
  have bl1 : ∀ y ∈ shareL (lacks s al) (k - m), 0 ≤ y ∧ y ≤ 1000000 := fun y hy => by
    obtain ⟨i, hi⟩ := List.mem_iff_getElem?.1 hy
    have hi' := lt_of_some hi
    have h1 := shareL_bd (fun n hn => by have := lp n hn; omega) (by omega) hi (List.getElem?_eq_getElem (by omega : i < (lacks s al).length))
    have h2 := lp (lacks s al)[i] (List.getElem_mem _)
    omega
  have hat := lacks_length 0 s al
  have hatlt : ∀ p ∈ lackAt 0 s al, p < s.length := fun p hp => by have := lackAt_lt 0 s al p hp; omega
  obtain ⟨bl, ebl⟩ : ∃ bl, bl = shareL (lacks s al) (k - m) := ⟨_, rfl⟩
  rw [← ebl] at r3 hl3 two bl1
  have E1 := hide es; clear es
  have E2 := hide ek; clear ek
  have E3 := hide em; clear em
  have Hs := hide hs5; clear hs2 hs4 hs5 lp
  have R1 := hide r1; clear r1
  have R2 := hide r2; clear r2
  have R3 := hide r3; clear r3
  have L1 := hide hl1; clear hl1
  have L2 := hide hl2; clear hl2
  have L3 := hide hl3; clear hl3
  have BD1 := hide bd1; clear bd1
  have BD2 := hide bd2; clear bd2
  have ST1 := hide st1; clear st1
  have SU1 := hide su1; clear su1
  have TWO := hide two; clear two
  have AL1 := hide al1; clear al1
  have XL1 := hide xl1; clear xl1
  have BL1 := hide bl1; clear bl1
  have LS := hide ls; clear ls su2
  have HAT := hide hat; clear hat
  have HATLT := hide hatlt; clear hatlt
  have EBL := hide ebl; clear ebl
  clear exl eal
  go_enter Try.func5, Try.ntmps5
  go_wp2_with fail
  refine (sizes10_any A0 _ c0 l0 _ rfl hlen hA0).mono ?_
  rw [← E1.out]
  rintro e w1 ⟨A1, c1, rfl, -, hA1, -, -, B1⟩
  clear hA0
  go_wp2_with fail
  refine (sum10_any A1 _ c1 s _ rfl (by omega) Hs.out hA1).mono ?_
  rintro e w2 ⟨rfl, rfl⟩
  go_wp2_with fail
  refine (within_any a1 0 s.sum _ hs3.1 (by omega) (by omega)).mono ?_
  rw [← E2.out]
  rintro e w2 ⟨rfl, rfl⟩
  go_wp2_with fail
  refine (share_any A1 _ c1 s k _ rfl (by omega) hA1).mono ?_
  rw [R1.out]
  intro e w2 h; obtain ⟨A2, c2, rfl, -, hA2, -, -, hb⟩ := h.n L1.out; clear h
  have B2 := nxt B1 hb
  have hA12 := hA1.below hb
  clear hb hA1 B1
  go_wp2_with fail
  refine (sum10_any A2 _ c2 xl _ L1.out (by rw [L1.out]; omega) XL1.out hA2).mono ?_
  rw [SU1.out]
  rintro e w3 ⟨rfl, rfl⟩
  go_wp2_with fail
  go_loopw [10] (fun i wr => ∃ k n : Nat, k ≤ s.length ∧ i = .int .i64 k ∧ wr = w2.drewN n) (fun i _ => s.length - (intOf i).toNat)
  case atStart => exact ⟨0, 0, Nat.zero_le _, rfl, rfl⟩
  case round =>
    obtain ⟨j, nq, hj, rfl, rfl⟩ := hrel
    by_cases hlt : j < s.length
    · obtain ⟨b1, o1, n, rfl, hb1, hc1, hn⟩ := hA12.int_at (k := j) hlt
      obtain ⟨b2, o2, x, rfl, hb2, hc2, hx⟩ := hA2.int_at (k := j) (by rw [L1.out]; exact hlt)
      have hxn := BD1.out j x n hx.out hn.out
      have i1 : (j : Int) < s.length := by omega
      have d1 : decide (x < 0) = false := by simp; omega
      have d2 : decide (n < x) = false := by simp; omega
      by_cases h1 : j + 1 < s.length
      · obtain ⟨b3, o3, y, e3, hb3, hc3, hy⟩ := hA2.int_at (k := j + 1) (by rw [L1.out]; exact h1)
        simp only [Option.some.injEq, Addr.mk.injEq, and_true] at e3
        obtain ⟨rfl, rfl⟩ := e3
        have i2 : (j : Int) + 1 < s.length := by omega
        by_cases h2 : x < n
        · obtain rfl := ST1.out j x n y hx.out hn.out h2 hy.out
          have d3 : decide (x < n) = true := by simp; omega
          clear hA12 hA2
          go_wp2
          go_quiet (fail)
          go_wp2
          go_roundw
          case rel => exact ⟨j + 1, _, by omega, by go_num, by first | rfl | exact World.drewN_drewN _ _ _⟩
          case measure => simp [intOf]; omega
        · have d3 : decide (x < n) = false := by simp; omega
          clear hA12 hA2
          go_wp2
          go_quiet (fail)
          go_wp2
          go_roundw
          case rel => exact ⟨j + 1, _, by omega, by go_num, by first | rfl | exact World.drewN_drewN _ _ _⟩
          case measure => simp [intOf]; omega
      · have i2 : decide ((j : Int) + 1 < s.length) = false := by simp; omega
        clear hA12 hA2
        go_wp2
        go_quiet (fail)
        go_wp2
        go_roundw
        case rel => exact ⟨j + 1, _, by omega, by go_num, by first | rfl | exact World.drewN_drewN _ _ _⟩
        case measure => simp [intOf]; omega
    · have B3 := below_drewN B2 nq
      have hA13 := hA12.drewN nq
      have hA23 := hA2.drewN nq
      clear hA12 hA2 B2
      go_wp2_with fail
      clear hlt hj
      generalize w2.drewN nq = w3 at *
      refine (within_any a2 0 k _ (by omega) (by omega) (by omega)).mono ?_
      rw [← E3.out]
      rintro e w4 ⟨rfl, rfl⟩
      go_wp2_with fail
      refine (share_any A1 _ c1 s m _ rfl (by omega) hA13).mono ?_
      rw [R2.out]
      intro e w4 h; obtain ⟨A4, c4, rfl, own4, hA4, -, -, hb⟩ := h.n L2.out; clear h
      have B4 := nxt B3 hb
      have hA14 := hA13.below hb
      have D4 := hb
      have hlb4 := hb.size
      clear hb hA13
      have hlt0 : ∀ j, j < s.length → lacks s al ≠ [] ∨ True := fun _ _ => .inr trivial
      clear hlt0
      go_wp2_with fail
      go_loopw [13, 14, 15] (fun vl va i wr => ∃ j : Nat, j ≤ s.length ∧ i = .int .i64 j ∧ wr.ownsRow w4.heap.size 2 1 vl (lacks (s.take j) (al.take j)).length (i64s (lacks (s.take j) (al.take j))) ∧
          wr.ownsRow w4.heap.size 3 1 va (lacks (s.take j) (al.take j)).length ((lackAt 0 (s.take j) (al.take j)).map fun p : Nat => Value.int .i64 p) ∧ Below w4.heap.size w4 wr) (fun _ _ i _ => s.length - (intOf i).toNat)
      case atStart => exact ⟨0, Nat.zero_le _, rfl, World.ownsRow_nil _ _ _ _, World.ownsRow_nil _ _ _ _, Below.refl _ _⟩
      case round =>
        obtain ⟨j, hj, rfl, ownl, owna, hbel⟩ := hrel
        have hll : (lacks (s.take j) (al.take j)).length ≤ j := Nat.le_trans (lacks_le _ _) (List.length_take_le _ _)
        have hsz := hbel.size
        by_cases hlt : j < s.length
        · obtain ⟨b1, o1, n, rfl, hb1, hc1', hn⟩ := hA14.int_at (k := j) hlt
          obtain ⟨b2, o2, x, rfl, hb2, hc2', hx⟩ := hA4.int_at (k := j) (by rw [L2.out]; exact hlt)
          have hc1 := (hbel.cell (p := ⟨b1, o1 + j, none⟩) hb1).trans hc1'
          have hc2 := (hbel.cell (p := ⟨b2, o2 + j, none⟩) hb2).trans hc2'
          clear hc1' hc2'
          have hxn := BD2.out j x n hx.out hn.out
          have hnn := Hs.out n (mem_of_some hn.out)
          have i1 : (j : Int) < s.length := by omega
          obtain ⟨t1, t2⟩ := lack_take L2.out.symm hn.out hx.out
          obtain ⟨Al, cl, rfl, _⟩ := own_shape ownl
          obtain ⟨Aa, ca, rfl, _⟩ := own_shape owna
          obtain ⟨N, eN⟩ : ∃ N, N = (lacks (s.take j) (al.take j)).length := ⟨_, rfl⟩
          rw [← eN] at ownl owna hll ⊢
          have EN := hide eN; clear eN
          by_cases h2 : x < n
          · rw [if_pos h2] at t1 t2
            have T1 := hide t1; clear t1
            have T2 := hide t2; clear t2
            have d1 : decide (x < n) = true := by simp; omega
            clear hA14 hA4 hA23
            go_wp2
            go_quiet (fail)
            go_wp2
            have hwr : IntKind.i64.wrap (n - x) = n - x := IntWalk.i64_in _ (by omega)
            go_region_held3 (fun w' => w'.cell? ⟨b1, o1 + j, none⟩ = some (.int .i64 n) ∧ w'.cell? ⟨b2, o2 + j, none⟩ = some (.int .i64 x))
              (first | go_keep | exact ⟨keep_push pk.grown hc1 (own_apart ownl hb1), keep_push pk.grown hc2 (own_apart ownl hb2)⟩)
              ((refine step_app elI64 ((own_drewN ownl _).alloc _) (news := [.int .i64 (n - x)]) (by rfl) _ _ (by rfl) (by rfl) (by rfl) (by rfl) (Cells.lit _ #[.int .i64 (n - x)] _) (by simp [Value.oneCell']) (by omega) (by simp; omega) (N + 1) _ (by rfl) (by rfl) ?_; intro Ak ck wk pk))
            have owna1 := own_grown ((own_drewN owna _).alloc _) pk.grown (own_ne owna ownl (by decide))
            have hbel1 := pk.below w4.heap.size w4 (Nat.le_refl _) (nxt_alloc (below_drewN hbel _) _)
            have hsz1 := hbel1.size
            have ownk := pk.own
            clear pk
            go_wp2_with (at_builtin; refine wpList_push elInt owna1 (.int .i64 (j : Int)) rfl _ _ rfl rfl rfl rfl (by omega) (by omega) ?_; intro Ap cp wp ownp gp bp)
            have ownk1 := own_grown ownk gp (own_ne ownk owna1 (by decide))
            go_roundw
            case rel =>
              refine ⟨j + 1, by omega, by go_num, ?_, ?_, bp _ _ (Nat.le_refl _) hbel1⟩
              · rw [T2.out]; simpa [i64s, EN.out] using ownk1
              · rw [T1.out, T2.out]; simpa [EN.out] using ownp
            case measure => simp [intOf]; omega
          · rw [if_neg h2, List.append_nil] at t1 t2
            have T1 := hide t1; clear t1
            have T2 := hide t2; clear t2
            have d1 : decide (x < n) = false := by simp; omega
            clear hA14 hA4 hA23
            go_wp2
            go_quiet (fail)
            go_wp2
            go_roundw
            case rel => exact ⟨j + 1, by omega, by go_num, by rw [T2.out, ← EN.out]; exact own_drewN ownl _, by rw [T1.out, T2.out, ← EN.out]; exact own_drewN owna _, below_drewN hbel _⟩
            case measure => simp [intOf]; omega
        · obtain ⟨Al, cl, rfl, _⟩ := own_shape ownl
          obtain ⟨Aa, ca, rfl, _⟩ := own_shape owna
          have e1 : s.take j = s := List.take_of_length_le (by omega)
          have e2 : al.take j = al := List.take_of_length_le (by rw [L2.out]; omega)
          rw [e1, e2] at ownl owna ⊢
          clear e1 e2
          obtain ⟨N, eN⟩ : ∃ N, N = (lacks s al).length := ⟨_, rfl⟩
          rw [← eN] at ownl owna ll ⊢
          have EN := hide eN; clear eN
          have B5 := nxt B4 hbel
          have D5 := nxt D4 hbel
          have own5 := own_below own4 hbel
          have hAl := Cells.of_own ownl
          have hAa := Cells.of_own owna
          have apa := fun b (hb : b < w4.heap.size) => own_apart owna hb
          clear hA14 hA4 own4 B4 D4 ownl
          go_wp2_with fail
          refine (share_any Al _ cl (lacks s al) (k - m) _ EN.out.symm (by rw [← EN.out]; omega) hAl).mono ?_
          rw [R3.out]
          intro e w6 h; obtain ⟨A6, c6, rfl, own6, hA6, -, -, hb⟩ := h.n (L3.out.trans EN.out.symm); clear h
          have B6 := nxt B5 hb
          have D6 := nxt D5 hb
          have own46 := own_below own5 hb
          have owna6 := own_below owna hb
          have hlb6 := hb.size
          have hAa6 := hAa.below hb
          have ne1 := own_ne owna6 own46 (by decide)
          have ne2 : ∀ g g', (Value.slice A4 s.length c4).ownBlock = some g → (Value.slice A6 N c6).ownBlock = some g' → g' ≠ g := fun g g' h h' => by
            have := (own5.lt g h).2
            have := (own6.lt g' h').1
            omega
          clear hb own5 owna hAl hAa B5 D5 own6 owna6
          go_wp2_with fail
          go_loopw [17] (fun i wr => ∃ j : Nat, j ≤ N ∧ i = .int .i64 j ∧
              wr.ownsRow w3.heap.size 2 1 (.slice A4 s.length c4) s.length (i64s (layOn al ((lackAt 0 s al).take j) (bl.take j))) ∧ w6.grownBy wr (Value.slice A4 s.length c4).ownBlock ∧
              Hid (∀ x ∈ layOn al ((lackAt 0 s al).take j) (bl.take j), 0 ≤ x ∧ x ≤ 1000000 * ((j : Int) + 1))) (fun i _ => N - (intOf i).toNat)
          case atStart => exact ⟨0, Nat.zero_le _, rfl, by simpa [layOn, i64s] using own46, World.grownBy.refl _ _, by simpa [layOn, Hid] using AL1.out⟩
          case round =>
            obtain ⟨j, hj, rfl, ownr, hgr, Hbd⟩ := hrel
            by_cases hlt : j < N
            · have hpl := HATLT.out
              obtain ⟨b1, o1, pv, rfl, hb1, hc1', hp'⟩ := hAa6.val_at (k := j) (by simp [HAT.out, ← EN.out]; exact hlt)
              obtain ⟨p, hp, rfl⟩ : ∃ p, (lackAt 0 s al)[j]? = some p ∧ Value.int .i64 (p : Int) = pv := by
                have := hp'.out
                rw [List.getElem?_map, Option.map_eq_some_iff] at this
                exact this
              have hps := hpl p (mem_of_some hp)
              clear hp' hpl
              obtain ⟨b2, o2, y, rfl, hb2, hc2', hy⟩ := hA6.int_at (k := j) (by rw [L3.out, ← EN.out]; exact hlt)
              have hyb := BL1.out y (mem_of_some hy.out)
              obtain ⟨g, rfl, hg1, hg2⟩ := own_some own46 (by omega)
              have lt := layOn_take (a := al) (by rw [HAT.out, L3.out]) hp hy.out
              obtain ⟨cur, ecur⟩ : ∃ cur, cur = layOn al ((lackAt 0 s al).take j) (bl.take j) := ⟨_, rfl⟩
              rw [← ecur] at ownr Hbd lt
              have hcl : cur.length = s.length := by rw [ecur, layOn_length]; exact L2.out
              obtain ⟨u, hu⟩ : ∃ u, cur[p]? = some u := ⟨_, List.getElem?_eq_getElem (by omega)⟩
              have hub := Hbd.out u (mem_of_some hu)
              have hgd : cur.getD p 0 = u := by simp [List.getD, hu]
              rw [hgd] at lt
              have hcu : wr.cell? ⟨g, p, none⟩ = some (.int .i64 u) := by
                rw [ownr.cellAt p (by omega)]
                simp [i64s, hu]
              have hfu : wr.frozen? ⟨g, p, none⟩ = false := ownr.frozenAt p
              have hc1 := hgr.cell hc1' (fun h => ne1 b1 rfl (by simpa [Value.ownBlock] using h))
              have hc2 := hgr.cell hc2' (fun h => ne2 g b2 rfl rfl (by simpa [Value.ownBlock] using h))
              have LT := hide lt; clear lt
              have EC := hide ecur; clear ecur
              have HU := hide hu; clear hu hgd
              have HCL := hide hcl; clear hcl
              have i1 : (p : Int) < s.length := by omega
              have i2 : (j : Int) < N := by omega
              have i3 : (0 : Int) ≤ p := by omega
              have hst := ownr.stored p (.int .i64 (u + y))
              have HP := hide hp; clear hp
              clear hA23 hA6 hAa6
              go_wp2
              go_still_tail 18, (by kernel_rfl)
              go_wp2
              go_roundw
              case rel =>
                refine ⟨j + 1, by omega, by go_num, ?_, ?_, ?_⟩
                · rw [LT.out]; simpa [i64s, List.map_set] using hst.1.drew
                · exact grown_drew (hgr.trans hst.2)
                · rw [LT.out]
                  intro x hx
                  rcases List.mem_or_eq_of_mem_set hx with h | rfl
                  · have := Hbd.out x h
                    omega
                  · omega
              case measure => simp [intOf]; omega
            · have ej : j = N := by omega
              have e1 : (lackAt 0 s al).take j = lackAt 0 s al := List.take_of_length_le (by rw [HAT.out, ← EN.out]; omega)
              have e2 : bl.take j = bl := List.take_of_length_le (by rw [L3.out, ← EN.out]; omega)
              rw [e1, e2, TWO.out] at ownr
              clear e1 e2 Hbd
              have hA4r := Cells.of_own ownr
              have B7 : Below w.heap.size w wr := B6.grown hgr (by have := B6.size; omega) (fun g hg => by have := (own46.lt g hg).1; have := B3.size; omega)
              have D7 : Below w3.heap.size w3 wr := D6.grown hgr D6.size (fun g hg => (own46.lt g hg).1)
              have hA2r := hA23.below D7
              clear hA23 hA6 hAa6 D6 D7 ownr own46 hgr B6
              go_wp2_with fail
              refine (same_b A4 A2 _ _ c4 c2 xl xl _ L1.out L1.out (by rw [L1.out]; omega) (by rw [L1.out]; omega) hA4r hA2r).mono ?_
              simp only [decide_true]
              rintro e w8 ⟨rfl, hb⟩
              have B8 := nxt B7 hb
              clear hb hA4r hA2r B7
              go_wp2_with fail
              refine (known10_any _).mono ?_
              rintro e w9 ⟨rfl, hb⟩
              have B9 := nxt B8 hb
              go_wp2
              go_ret
              exact ⟨rfl, B9⟩
end Go.Proofs.Ythgaginckclpcaa
