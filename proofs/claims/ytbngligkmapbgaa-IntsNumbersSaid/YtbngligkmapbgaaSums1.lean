/-
  The walk of IntsSums.
-/
import Derived.Test.YtbngligkmapbgaaLaw1
import Derived.Test.YtbngligkmapbgaaTells1
import Derived.Test.YtbngligkmapbgaaTree
import Derived.Deep.CutBlock
import Derived.Deep.DeepCutAuto
namespace Go.Proofs.Ytbngligkmapbgaa
open Go.RowKit
set_option linter.unusedVariables false

theorem Try.infoI64 : (Try.prog.info? 2).map (fun i => (i.zero, i.size, i.bytes)) = some (some (.int .i64 0), 1, 8) := by kernel_rfl
theorem elI64 : Elem Try.prog 28 2 (.int .i64 0) 8 :=
  ⟨Try.underlying28, let ⟨i, h, h0, h1, h2⟩ := info_parts Try.infoI64; ⟨i, h, h0, h1, h2⟩, rfl, by omega⟩
theorem i64s_one (l : List Int) : ∀ u ∈ i64s l, u.oneCell' = true := by
  intro u hu
  simp only [i64s, List.mem_map] at hu
  obtain ⟨n, _, rfl⟩ := hu
  rfl
theorem cells_drop {w : World} {A : Option Addr} {l : List Int} (h : Cells w A (i64s l)) (n c : Nat) (hc : l.length ≤ c) : Cells w (if c = n then A else A.map (·.add n)) (i64s (l.drop n)) := fun hn => by
  obtain ⟨b, o, rfl, hb, hcell⟩ := h (by intro h0; simp [i64s] at h0; subst h0; simp [i64s] at hn)
  have hlt : n < l.length := by
    rcases Nat.lt_or_ge n l.length with h1 | h1
    · exact h1
    · exfalso; apply hn; simp [i64s, List.drop_eq_nil_of_le h1]
  rw [if_neg (by omega)]
  refine ⟨b, o + n, by simp [Addr.add], hb, fun k u hu => ?_⟩
  rw [show i64s (l.drop n) = (i64s l).drop n by simp [i64s, List.map_drop], List.getElem?_drop] at hu
  rw [Nat.add_assoc]
  exact hcell (n + k) u hu
theorem drop_pred {l : List Int} {i : Nat} {x : Int} (h : l[i]? = some x) : (l.drop i).reverse = (l.drop (i + 1)).reverse ++ [x] := by
  have hlt := lt_of_some h
  rw [List.drop_eq_getElem_cons hlt, List.reverse_cons]
  have : l[i] = x := by rw [List.getElem?_eq_getElem hlt] at h; exact Option.some.inj h
  rw [this]
theorem lit_own {B : Nat} (w : World) (x : Int) (hb : B ≤ w.heap.size) : (w.alloc (.cells #[.int .i64 x] 2)).ownsRow B 2 1 (.slice (some ⟨w.heap.size, 0, none⟩) 1 1) 1 (i64s [x]) :=
  World.ownsRow_lit w #[.int .i64 x] 1 hb (by decide) rfl
theorem stays_lit (w : World) (o : Obj) : Stays w.drew (w.alloc o).drew := by
  have h := (Below.refl w.heap.size w).alloc (Nat.le_refl _) o
  exact ⟨h.os, h.tape, h.output, h.size, h.block⟩
theorem stays_alloc (w : World) (o : Obj) : Stays w (w.alloc o) := (Below.refl w.heap.size w).alloc (Nat.le_refl _) o
theorem lower_lit {B : Nat} {w : World} (hb : B ≤ w.heap.size) (o : Obj) : Below B w.drew (w.alloc o).drew := by
  have h := (Below.refl B w).alloc hb o
  exact ⟨h.os, h.tape, h.output, h.size, h.block⟩
theorem lower_alloc {B : Nat} {w : World} (hb : B ≤ w.heap.size) (o : Obj) : Below B w (w.alloc o) := (Below.refl B w).alloc hb o
theorem own_drew {w : World} {base : Nat} {e : TypeId} {size : Nat} {v : Value} {n : Nat} {xs : List Value} (h : w.ownsRow base e size v n xs) : w.drew.ownsRow base e size v n xs := h
set_option maxRecDepth 100000 in
set_option maxHeartbeats 3200000 in
theorem intsSums_walk (A0 : Option Addr) (c0 : Nat) (l0 : List Int) (a1 a2 : Int) (w : World) (h0 : ArgI .i64 w A0 c0 l0) (w1 : (Lit.int .i64 a1).wf = true) (w2 : (Lit.int .i64 a2).wf = true) :
    Calls Try.prog 6 #[.slice A0 l0.length c0, .int .i64 a1, .int .i64 a2] w fun e w' => e = .returned (.bool true) ∧ Below w.heap.size w w' := by
  have hlen : l0.length ≤ 9223372036854775807 := by have := h0.le; have := h0.max; unfold maxLen at this; omega
  have hle := h0.le
  have hmax := h0.max
  unfold maxLen at hmax
  have b1 := i64_bd w1
  have b2 := i64_bd w2
  obtain ⟨m, l, hm, hc, hn, hw, g1, g2⟩ : ∃ (m : Nat) (l : List Int), l.length = m ∧ Cells w A0 (i64s l) ∧ m ≤ 100 ∧ Hid (∀ n ∈ l, -9223372036854775808 ≤ n ∧ n ≤ 9223372036854775807) ∧ (¬ 100 < l0.length → m = l0.length) ∧ (100 < l0.length → m = 100) :=
    ⟨min 100 l0.length, l0.take 100, by simp, cells_take h0.cells 100, by omega, fun n hn => i64_bd (h0.wf n (List.mem_of_mem_take hn)), by omega, by omega⟩
  have HM := hide hm; have G1 := hide g1; have G2 := hide g2
  have hmc : m ≤ c0 := by
    by_cases h : 100 < l0.length
    · have := g2 h; omega
    · have := g1 h; omega
  clear h0 w1 w2 hm g1 g2
  go_enter Try.func6, Try.ntmps6
  go_upto_if 19 with (fail)
  go_cut [0] (fun t wx => t = .slice A0 m c0 ∧ w = wx)
  case first =>
    by_cases h : 100 < l0.length
    · have e := G2.out h
      go_wp2
      go_meet
      exact ⟨by rw [e], rfl⟩
    · have e := G1.out h
      go_wp2
      go_meet
      exact ⟨by rw [e], rfl⟩
  obtain ⟨rfl, rfl⟩ := hcut
  clear G1 G2 hle hlen
  cases z : (a1 == -9223372036854775808)
  · have hz : a1 ≠ -9223372036854775808 := by simpa using z
    go_wp2_with fail
    refine (sum_any _ _ _ l _ HM.out (by rw [HM.out]; omega) hw.out hc).mono ?_
    rintro e w' ⟨rfl, rfl⟩
    rw [told]
    go_wp2_with fail
    go_loopw [9, 10] (fun v i wr => ∃ (j k : Nat) (A c : _), j + k = m ∧ i = .int .i64 ((j : Int) - 1) ∧ v = .slice A k c ∧ wr.ownsRow w.heap.size 2 1 (.slice A k c) k (i64s (l.drop j).reverse) ∧ Below w.heap.size w wr) (fun _ i _ => (intOf i + 1).toNat)
    case atStart => exact ⟨m, 0, none, 0, by omega, rfl, rfl, by rw [List.drop_eq_nil_of_le (by rw [HM.out]; omega)]; exact World.ownsRow_nil _ _ _ _, Below.refl _ _⟩
    case round =>
      obtain ⟨j, k, A, c, hjk, rfl, rfl, own, B⟩ := hrel
      rcases Nat.eq_zero_or_pos j with h | h
      · subst h
        have e0 : ((0 : Nat) : Int) - 1 = -1 := rfl
        rw [e0, List.drop_zero] at *
        obtain rfl : k = m := by omega
        have hs : l.reverse.sum = l.sum := by simp
        have HS := hide hs
        clear hs e0
        go_wp2_with fail
        refine (sum_any _ _ _ l.reverse _ (by simp [HM.out]) (by simp [HM.out]; omega) (fun n hn => hw.out n (by simpa using hn)) (Cells.of_own own)).mono ?_
        rintro e w' ⟨rfl, rfl⟩
        rw [told, HS.out]
        clear HS
        go_upto_if 50 with (fail)
        go_cut [2] (fun t wx => ∃ at' : Int, t = .int .i64 at' ∧ 0 ≤ at' ∧ at' ≤ 9223372036854775807 ∧ wr = wx)
        case first =>
          rcases dec (a2 < 0) with ⟨h1, d1⟩ | ⟨h1, d1⟩
          · go_wp2
            go_meet
            exact ⟨-(a2 + 1), rfl, by omega, by omega, rfl⟩
          · go_wp2
            go_meet
            exact ⟨a2, rfl, by omega, by omega, rfl⟩
        obtain ⟨at', rfl, p1, p2, rfl⟩ := hcut
        obtain ⟨N, hK⟩ : ∃ N : Nat, at' % ((k : Int) + 1) = (N : Int) := ⟨(at' % ((k : Int) + 1)).toNat, by have := Int.emod_nonneg at' (show (k : Int) + 1 ≠ 0 by omega); omega⟩
        have hKm : N ≤ k := by have := Int.emod_lt_of_pos at' (show 0 < (k : Int) + 1 by omega); omega
        have z3 : ((k : Int) + 1 == 0) = false := by simp; omega
        have p3 : (1 : Int) ≤ (k : Int) + 1 := by omega
        go_upto_region 15 with (fail)
        rw [hK]
        clear hK z3 p1 p2 p3
        have hcw := hc.below B
        have i3 : (N : Int) ≤ c0 := by omega
        have i4 : (N : Int) ≤ k := by omega
        have i5 : (0 : Int) ≤ N := by omega
        have i6 : (k : Int) ≤ c0 := by omega
        obtain ⟨AD, hAD⟩ : ∃ AD, (if c0 = N then A0 else A0.map (·.add N)) = AD := ⟨_, rfl⟩
        have hcd := cells_drop hc N c0 (by have := HM.out; omega)
        rw [hAD] at hcd
        have hneg : IntKind.i64.wrap (-a1) = -a1 := IntWalk.i64_in _ (by omega)
        have hneg2 : wrap64 (-a1) = -a1 := wrap64_eq (by omega)
        have hN2 : (i64s (l.drop N)).length = k - N := by have := HM.out; simp [i64s]; omega
        have hN1 : (i64s (l.take N)).length = N := by have := HM.out; simp [i64s]; omega
        go_cut [14] (fun t wx => ∃ A c, t = .slice A (k + 2) c ∧ Cells wx A (i64s ([a1] ++ l.take N ++ [-a1] ++ l.drop N)) ∧ Below w.heap.size w wx)
        case first =>
          go_wp2_with fail
          refine wp_region_tree (R := Below w.heap.size) 15 (by kernel_rfl) (by kernel_rfl) ?_
          refine from_run [0, 2, 3, 4, 6, 7, 10, 11, 12] 6 (fun _ _ _ _ _ h => h) (by kernel_rfl) (Lower.rf _ _) ?_
          (repeat ((first | (refine takes_skip (by rfl) (by rfl) ?_) | (refine takes_take (v := ?_) (by rfl) (by rfl) ?_ ?_; rotate_left 1; focus (intro w' hSw; go_simp; (try (with_reducible rfl)); done))); (try simp only [Act.put, List.setIfInBounds_toArray, List.set_cons_zero, List.set_cons_succ]))); refine takes_done ?_
          refine from_moves [1, 8] (Lower.tr _) 5 (by kernel_rfl) ?_
          refine moves_one (by rfl) (by rfl) (fun K hK => ?_) ?_
          · go_simp
            have own1 := own_drew (lit_own (B := w.heap.size) wr a1 B.size)
            have B1 := nxt_drew (nxt_alloc B (.cells #[.int .i64 a1] 2))
            refine hK.out _ _ (lower_lit B.size _) ?_; clear hK K; (try simp only [Act.put, List.setIfInBounds_toArray, List.set_cons_zero, List.set_cons_succ])
            generalize (wr.alloc (.cells #[.int .i64 a1] 2)).drew = w1 at own1 B1 ⊢
            refine from_moves [5, 8] (Lower.tr _) 4 (by kernel_rfl) ?_
            refine moves_one (by rfl) (by rfl) (fun K hK => ?_) ?_
            · refine wp_app elI64 own1 (news := i64s (l.take N)) _ _ rfl rfl rfl hN1 (cells_take (hc.below B1) N) (i64s_one _) (by omega) B1.size (1 + N) _ rfl rfl ?_
              intro A2 c2 w2 p2
              have B2 := p2.below _ _ (Nat.le_refl _) B1
              refine hK.out _ _ (p2.below _ _ (Nat.le_refl _) (Below.refl _ _)) ?_; clear hK K; (try simp only [Act.put, List.setIfInBounds_toArray, List.set_cons_zero, List.set_cons_succ])
              refine from_moves [8] (Lower.tr _) 3 (by kernel_rfl) ?_
              refine moves_one (by rfl) (by rfl) (fun K hK => ?_) ?_
              · go_simp
                have own := p2.own.alloc (.cells #[.int .i64 (-a1)] 2)
                have cl := Cells.of_own (lit_own (B := w.heap.size) w2 (-a1) B2.size)
                have Bi := nxt_alloc B2 (.cells #[.int .i64 (-a1)] 2)
                refine hK.out _ _ (lower_alloc B2.size _) ?_; clear hK K; (try simp only [Act.put, List.setIfInBounds_toArray, List.set_cons_zero, List.set_cons_succ])
                refine from_moves [9] (Lower.tr _) 2 (by kernel_rfl) ?_
                refine moves_one (by rfl) (by rfl) (fun K hK => ?_) ?_
                · refine wp_app elI64 own (news := i64s [-a1]) _ _ rfl rfl rfl rfl cl (i64s_one _) (by omega) Bi.size (1 + N + 1) _ rfl rfl ?_
                  intro A3 c3 w3 p3
                  have B3 := p3.below _ _ (Nat.le_refl _) Bi
                  refine hK.out _ _ (p3.below _ _ (Nat.le_refl _) (Below.refl _ _)) ?_; clear hK K; (try simp only [Act.put, List.setIfInBounds_toArray, List.set_cons_zero, List.set_cons_succ])
                  refine from_moves [13] (Lower.tr _) 1 (by kernel_rfl) ?_
                  refine moves_one (by rfl) (by rfl) (fun K hK => ?_) ?_
                  · refine wp_app elI64 p3.own (news := i64s (l.drop N)) _ _ rfl rfl rfl hN2 (hcd.below B3) (i64s_one _) (by omega) B3.size (k + 2) (i64s ([a1] ++ l.take N ++ [-a1] ++ l.drop N)) (by omega) (by simp [i64s]) ?_
                    intro A4 c4 w4 p4
                    have B4 := p4.below _ _ (Nat.le_refl _) B3
                    refine hK.out _ _ (p4.below _ _ (Nat.le_refl _) (Below.refl _ _)) ?_; clear hK K; (try simp only [Act.put, List.setIfInBounds_toArray, List.set_cons_zero, List.set_cons_succ])
                    refine from_run [14] 0 (fun _ _ _ _ _ h => h) (by kernel_rfl) (Lower.rf _ _) ?_
                    (repeat ((first | (refine takes_skip (by rfl) (by rfl) ?_) | (refine takes_take (v := ?_) (by rfl) (by rfl) ?_ ?_; rotate_left 1; focus (intro w' hSw; go_simp; (try (with_reducible rfl)); done))); (try simp only [Act.put, List.setIfInBounds_toArray, List.set_cons_zero, List.set_cons_succ]))); refine takes_done ?_
                    refine from_done (by kernel_rfl) ?_
                    go_wp2
                    go_meet
                    exact ⟨A4, c4, rfl, Cells.of_own p4.own, B4⟩
                  exact moves_end
                exact moves_end
              exact moves_end
            refine moves_one (by rfl) (by rfl) (fun K hK => ?_) ?_
            · go_simp
              have owl := lit_own (B := w.heap.size) w1 (-a1) B1.size
              have own2 := own1.alloc (.cells #[.int .i64 (-a1)] 2)
              have B2 := nxt_alloc B1 (.cells #[.int .i64 (-a1)] 2)
              have hne : w1.heap.size ≠ wr.heap.size := by have := (own1.lt wr.heap.size rfl).2; omega
              refine hK.out _ _ (lower_alloc B1.size _) ?_; clear hK K; (try simp only [Act.put, List.setIfInBounds_toArray, List.set_cons_zero, List.set_cons_succ])
              generalize w1.alloc (.cells #[.int .i64 (-a1)] 2) = w2 at owl own2 B2 ⊢
              refine from_moves [5] (Lower.tr _) 3 (by kernel_rfl) ?_
              refine moves_one (by rfl) (by rfl) (fun K hK => ?_) ?_
              · refine wp_app elI64 own2 (news := i64s (l.take N)) _ _ rfl rfl rfl hN1 (cells_take (hc.below B2) N) (i64s_one _) (by omega) B2.size (1 + N) _ rfl rfl ?_
                intro A2 c2 w3 p2
                have Bi := p2.below _ _ (Nat.le_refl _) B2
                have own := p2.own
                have cl := Cells.of_own (own_grown owl p2.grown (by intro g hg; simp [Value.ownBlock] at hg ⊢; omega))
                refine hK.out _ _ (p2.below _ _ (Nat.le_refl _) (Below.refl _ _)) ?_; clear hK K; (try simp only [Act.put, List.setIfInBounds_toArray, List.set_cons_zero, List.set_cons_succ])
                refine from_moves [9] (Lower.tr _) 2 (by kernel_rfl) ?_
                refine moves_one (by rfl) (by rfl) (fun K hK => ?_) ?_
                · refine wp_app elI64 own (news := i64s [-a1]) _ _ rfl rfl rfl rfl cl (i64s_one _) (by omega) Bi.size (1 + N + 1) _ rfl rfl ?_
                  intro A3 c3 w5 p3
                  have B5 := p3.below _ _ (Nat.le_refl _) Bi
                  refine hK.out _ _ (p3.below _ _ (Nat.le_refl _) (Below.refl _ _)) ?_; clear hK K; (try simp only [Act.put, List.setIfInBounds_toArray, List.set_cons_zero, List.set_cons_succ])
                  refine from_moves [13] (Lower.tr _) 1 (by kernel_rfl) ?_
                  refine moves_one (by rfl) (by rfl) (fun K hK => ?_) ?_
                  · refine wp_app elI64 p3.own (news := i64s (l.drop N)) _ _ rfl rfl rfl hN2 (hcd.below B5) (i64s_one _) (by omega) B5.size (k + 2) (i64s ([a1] ++ l.take N ++ [-a1] ++ l.drop N)) (by omega) (by simp [i64s]) ?_
                    intro A4 c4 w4 p4
                    have B4 := p4.below _ _ (Nat.le_refl _) B5
                    refine hK.out _ _ (p4.below _ _ (Nat.le_refl _) (Below.refl _ _)) ?_; clear hK K; (try simp only [Act.put, List.setIfInBounds_toArray, List.set_cons_zero, List.set_cons_succ])
                    refine from_run [14] 0 (fun _ _ _ _ _ h => h) (by kernel_rfl) (Lower.rf _ _) ?_
                    (repeat ((first | (refine takes_skip (by rfl) (by rfl) ?_) | (refine takes_take (v := ?_) (by rfl) (by rfl) ?_ ?_; rotate_left 1; focus (intro w' hSw; go_simp; (try (with_reducible rfl)); done))); (try simp only [Act.put, List.setIfInBounds_toArray, List.set_cons_zero, List.set_cons_succ]))); refine takes_done ?_
                    refine from_done (by kernel_rfl) ?_
                    go_wp2
                    go_meet
                    exact ⟨A4, c4, rfl, Cells.of_own p4.own, B4⟩
                  exact moves_end
                exact moves_end
              exact moves_end
            exact moves_end
          refine moves_one (by rfl) (by rfl) (fun K hK => ?_) ?_
          · go_simp
            have owl1 := own_drew (lit_own (B := w.heap.size) wr (-a1) B.size)
            have B1 := nxt_drew (nxt_alloc B (.cells #[.int .i64 (-a1)] 2))
            refine hK.out _ _ (lower_lit B.size _) ?_; clear hK K; (try simp only [Act.put, List.setIfInBounds_toArray, List.set_cons_zero, List.set_cons_succ])
            generalize (wr.alloc (.cells #[.int .i64 (-a1)] 2)).drew = w1 at owl1 B1 ⊢
            refine from_moves [1] (Lower.tr _) 4 (by kernel_rfl) ?_
            refine moves_one (by rfl) (by rfl) (fun K hK => ?_) ?_
            · go_simp
              have own2 := lit_own (B := w.heap.size) w1 a1 B1.size
              have owl := owl1.alloc (.cells #[.int .i64 a1] 2)
              have B2 := nxt_alloc B1 (.cells #[.int .i64 a1] 2)
              have hne : w1.heap.size ≠ wr.heap.size := by have := (owl1.lt wr.heap.size rfl).2; omega
              refine hK.out _ _ (lower_alloc B1.size _) ?_; clear hK K; (try simp only [Act.put, List.setIfInBounds_toArray, List.set_cons_zero, List.set_cons_succ])
              generalize w1.alloc (.cells #[.int .i64 a1] 2) = w2 at owl own2 B2 ⊢
              refine from_moves [5] (Lower.tr _) 3 (by kernel_rfl) ?_
              refine moves_one (by rfl) (by rfl) (fun K hK => ?_) ?_
              · refine wp_app elI64 own2 (news := i64s (l.take N)) _ _ rfl rfl rfl hN1 (cells_take (hc.below B2) N) (i64s_one _) (by omega) B2.size (1 + N) _ rfl rfl ?_
                intro A2 c2 w3 p2
                have Bi := p2.below _ _ (Nat.le_refl _) B2
                have own := p2.own
                have cl := Cells.of_own (own_grown owl p2.grown (by intro g hg; simp [Value.ownBlock] at hg ⊢; omega))
                refine hK.out _ _ (p2.below _ _ (Nat.le_refl _) (Below.refl _ _)) ?_; clear hK K; (try simp only [Act.put, List.setIfInBounds_toArray, List.set_cons_zero, List.set_cons_succ])
                refine from_moves [9] (Lower.tr _) 2 (by kernel_rfl) ?_
                refine moves_one (by rfl) (by rfl) (fun K hK => ?_) ?_
                · refine wp_app elI64 own (news := i64s [-a1]) _ _ rfl rfl rfl rfl cl (i64s_one _) (by omega) Bi.size (1 + N + 1) _ rfl rfl ?_
                  intro A3 c3 w5 p3
                  have B5 := p3.below _ _ (Nat.le_refl _) Bi
                  refine hK.out _ _ (p3.below _ _ (Nat.le_refl _) (Below.refl _ _)) ?_; clear hK K; (try simp only [Act.put, List.setIfInBounds_toArray, List.set_cons_zero, List.set_cons_succ])
                  refine from_moves [13] (Lower.tr _) 1 (by kernel_rfl) ?_
                  refine moves_one (by rfl) (by rfl) (fun K hK => ?_) ?_
                  · refine wp_app elI64 p3.own (news := i64s (l.drop N)) _ _ rfl rfl rfl hN2 (hcd.below B5) (i64s_one _) (by omega) B5.size (k + 2) (i64s ([a1] ++ l.take N ++ [-a1] ++ l.drop N)) (by omega) (by simp [i64s]) ?_
                    intro A4 c4 w4 p4
                    have B4 := p4.below _ _ (Nat.le_refl _) B5
                    refine hK.out _ _ (p4.below _ _ (Nat.le_refl _) (Below.refl _ _)) ?_; clear hK K; (try simp only [Act.put, List.setIfInBounds_toArray, List.set_cons_zero, List.set_cons_succ])
                    refine from_run [14] 0 (fun _ _ _ _ _ h => h) (by kernel_rfl) (Lower.rf _ _) ?_
                    (repeat ((first | (refine takes_skip (by rfl) (by rfl) ?_) | (refine takes_take (v := ?_) (by rfl) (by rfl) ?_ ?_; rotate_left 1; focus (intro w' hSw; go_simp; (try (with_reducible rfl)); done))); (try simp only [Act.put, List.setIfInBounds_toArray, List.set_cons_zero, List.set_cons_succ]))); refine takes_done ?_
                    refine from_done (by kernel_rfl) ?_
                    go_wp2
                    go_meet
                    exact ⟨A4, c4, rfl, Cells.of_own p4.own, B4⟩
                  exact moves_end
                exact moves_end
              exact moves_end
            exact moves_end
          exact moves_end
        obtain ⟨A9, c9, rfl, cm, B9⟩ := hcut
        have hsum : ([a1] ++ l.take N ++ [-a1] ++ l.drop N).sum = l.sum := by
          simp only [List.sum_append, List.sum_cons, List.sum_nil]
          have : (l.take N).sum + (l.drop N).sum = l.sum := by rw [← List.sum_append, List.take_append_drop]
          omega
        have hwm : ∀ n ∈ [a1] ++ l.take N ++ [-a1] ++ l.drop N, -9223372036854775808 ≤ n ∧ n ≤ 9223372036854775807 := by
          intro n hn
          simp only [List.mem_append, List.mem_cons, List.not_mem_nil, or_false] at hn
          rcases hn with ((h | h) | h) | h
          · omega
          · exact hw.out n (List.mem_of_mem_take h)
          · omega
          · exact hw.out n (List.mem_of_mem_drop h)
        have HSm := hide hsum; have HWm := hide hwm
        have hlm : ([a1] ++ l.take N ++ [-a1] ++ l.drop N).length = k + 2 := by have := HM.out; simp; omega
        have HLm := hide hlm
        clear hsum hwm hlm
        go_wp2_with fail
        refine (sum_any _ _ _ ([a1] ++ l.take N ++ [-a1] ++ l.drop N) _ HLm.out (by rw [HLm.out]; omega) HWm.out cm).mono ?_
        rintro e w' ⟨rfl, rfl⟩
        rw [told, HSm.out]
        go_wp2_with fail
        refine (known_b _).mono ?_
        rintro e w' ⟨rfl, hb⟩
        go_wp2
        go_ret
        exact ⟨rfl, nxt B9 hb⟩
      · obtain ⟨p, rfl⟩ : ∃ p, j = p + 1 := ⟨j - 1, by omega⟩
        rw [show ((p + 1 : Nat) : Int) - 1 = (p : Int) by omega]
        have hcw := hc.below B
        obtain ⟨b, o, x, rfl, hb, hcell, hx⟩ := hcw.int_at (k := p) (by rw [HM.out]; omega)
        have i1 : (p : Int) < m := by omega
        have hd := hide (drop_pred hx.out)
        have hsz := B.size
        go_wp2_with (at_builtin; refine wpList_push elI64 own (.int .i64 x) rfl _ _ rfl rfl rfl rfl (by omega) hsz ?_; intro A' c' w1 own1 _ hb1)
        go_roundw
        case rel => exact ⟨p, k + 1, A', c', by omega, by go_num, rfl, by rw [hd.out]; simpa [i64s] using own1, hb1 _ _ (Nat.le_refl _) B⟩
        case measure => simp [intOf]
  · go_wp2_with fail
    refine (known_any _).mono ?_
    rintro e w' ⟨rfl, n5, rfl⟩
    go_wp2
    go_ret
    exact ⟨rfl, below_drewN (Below.refl _ _) _⟩
end Go.Proofs.Ytbngligkmapbgaa
