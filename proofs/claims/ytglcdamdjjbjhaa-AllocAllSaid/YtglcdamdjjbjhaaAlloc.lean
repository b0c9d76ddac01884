/-
  What alloc.Share and the reference's compute.
-/
import Derived.Test.YtglcdamdjjbjhaaOrdersP
namespace Go.Proofs.Ytglcdamdjjbjhaa
open Go.RowKit
set_option linter.unusedVariables false

theorem isTop_any (x : Ord) (w : World) : Calls Try.prog 20 #[.agg #[.int .i64 x.id, .int .i64 x.side, .int .i64 x.price, .int .i64 x.qty, .bool x.top]] w fun e w' => e = .returned (.bool x.top) ∧ Below w.heap.size w w' := by
  go_enter Try.func20, Try.ntmps20
  go_wp2_with fail
  go_ret
  exact ⟨rfl, (Below.refl _ _).alloc (Nat.le_refl _) _⟩
set_option maxHeartbeats 800000 in
theorem idx_any (A : Option Addr) (n c : Nat) (l : List Ord) (w : World) (hn : l.length = n) (hl : l.length ≤ 9223372036854775807) (hA : Cells w A (flat l)) :
    Calls Try.prog 19 #[.slice A n c, .func (.func 20) #[] #[]] w fun e w' => e = .returned (.int .i64 (topI l)) ∧ Below w.heap.size w w' := by
  subst hn
  go_enter Try.func19, Try.ntmps19
  go_wp2_with fail
  go_loopw [8] (fun i wr => ∃ k : Nat, k ≤ l.length ∧ i = .int .i64 k ∧ Hid (∀ (i : Nat) (y : Ord), i < k → l[i]? = some y → y.top = false) ∧ Below w.heap.size w wr) (fun i _ => l.length - (intOf i).toNat)
  case atStart => exact ⟨0, Nat.zero_le _, rfl, fun i y h => by omega, Below.refl _ _⟩
  case round =>
    obtain ⟨k, hk, rfl, HN, hbel⟩ := hrel
    by_cases hlt : k < l.length
    · obtain ⟨b, o, x, rfl, hb, c0, c1, c2, c3, c4, hx⟩ := (hA.below hbel).ord_at hlt
      have i1 : (k : Int) < l.length := by omega
      clear hA
      go_wp2_with fail
      refine (isTop_any x wr).mono ?_
      rintro e w1 ⟨rfl, hb1⟩
      have B1 := nxt hbel hb1
      obtain ⟨t, et⟩ : ∃ t, t = x.top := ⟨_, rfl⟩
      rw [← et]
      have ET := hide et
      clear et hb1 c0 c1 c2 c3 c4
      cases t
      · go_wp2_with fail
        go_roundw
        case rel =>
          refine ⟨k + 1, by omega, by go_num, fun i y hi hy => ?_, B1⟩
          by_cases hik : i = k
          · subst hik
            have := hx.out
            rw [hy] at this
            cases this
            exact ET.out.symm
          · exact HN.out i y (by omega) hy
        case measure => simp [intOf]; omega
      · go_wp2_with fail
        go_ret
        exact ⟨ret_int (topI_here hx.out ET.out.symm HN.out).symm, B1⟩
    · obtain rfl : k = l.length := by omega
      go_wp2_with fail
      go_ret
      exact ⟨ret_int (topI_none fun i y hy => HN.out i y (List.getElem?_eq_some_iff.1 hy).1 hy).symm, hbel⟩
theorem sl_alloc (w : World) (o : Obj) : Value.slice (some ⟨w.heap.size + 1, 0, none⟩) 1 1 = .slice (some ⟨(w.alloc o).heap.size, 0, none⟩) 1 1 := by simp
theorem rule_cases (r : Int) : r = 1 ∨ r = 2 ∨ r = 3 ∨ ((r == 1) = false ∧ (r == 2) = false ∧ (r == 3) = false ∧ r ≠ 1 ∧ r ≠ 2 ∧ r ≠ 3) := by
  by_cases h1 : r = 1
  · exact .inl h1
  · by_cases h2 : r = 2
    · exact .inr (.inl h2)
    · by_cases h3 : r = 3
      · exact .inr (.inr (.inl h3))
      · exact .inr (.inr (.inr ⟨by simpa using h1, by simpa using h2, by simpa using h3, h1, h2, h3⟩))
set_option maxRecDepth 100000 in
set_option maxHeartbeats 1600000 in
theorem alloc_any (pc ms ti lo hi wi se : Value) (ru top le pa : Int) (A : Option Addr) (n c : Nat) (l : List Ord) (q : Int) (w : World) (hn : l.length = n) (hl : l.length ≤ 9223372036854775807) (hlm : l.length ≤ 1000000000000) (hA : Cells w A (flat l)) :
    Calls Try.prog 9 #[.agg #[pc, ms, ti, lo, hi, wi, .int .i64 ru, .int .i64 top, .int .i64 le, .int .i64 pa, se], .slice A n c, .int .i64 q] w (FreshI w 2 (allocL ru top le pa l q)) := by
  subst hn
  obtain ⟨w0, ew0⟩ : ∃ w0, w0 = w.alloc (.cells #[pc, ms, ti, lo, hi, wi, .int .i64 ru, .int .i64 top, .int .i64 le, .int .i64 pa, se] 28) := ⟨_, rfl⟩
  obtain ⟨g, eg⟩ : ∃ g, g = w.heap.size := ⟨_, rfl⟩
  have k6 : w0.cell? ⟨g, 6, none⟩ = some (.int .i64 ru) := by rw [ew0, World.cell?_alloc_at _ _ _ _ eg]; rfl
  have k7 : w0.cell? ⟨g, 7, none⟩ = some (.int .i64 top) := by rw [ew0, World.cell?_alloc_at _ _ _ _ eg]; rfl
  have k8 : w0.cell? ⟨g, 8, none⟩ = some (.int .i64 le) := by rw [ew0, World.cell?_alloc_at _ _ _ _ eg]; rfl
  have k9 : w0.cell? ⟨g, 9, none⟩ = some (.int .i64 pa) := by rw [ew0, World.cell?_alloc_at _ _ _ _ eg]; rfl
  have B0 : Below w.heap.size w w0 := by rw [ew0]; exact (Below.refl _ _).alloc (Nat.le_refl _) _
  have hg : g < w0.heap.size := World.block_lt_of_cell? w0 _ k6
  have hA0 := hA.below B0
  have hlq : (qtys l).length = l.length := length_qtys l
  clear hA
  go_enter Try.func9, Try.ntmps9
  go_wp2_with fail
  rw [← ew0, ← eg]
  clear ew0 eg
  go_loopw [7, 13] (fun v i wr => ∃ k : Nat, k ≤ l.length ∧ i = .int .i64 k ∧ wr.ownsRow w0.heap.size 2 1 v k (i64s ((qtys l).take k)) ∧ Below w0.heap.size w0 wr) (fun _ i _ => l.length - (intOf i).toNat)
  case atStart => exact ⟨0, Nat.zero_le _, rfl, World.ownsRow_nil _ _ _ _, Below.refl _ _⟩
  case round =>
    obtain ⟨k, hk, rfl, own, hbel⟩ := hrel
    have hs := hbel.size
    by_cases hlt : k < l.length
    · obtain ⟨b, o, x, rfl, hb, c0, c1, c2, c3, c4, hx⟩ := (hA0.below hbel).ord_at hlt
      have i1 : (k : Int) < l.length := by omega
      have hq := hide (qtys_take hx.out)
      clear hA0 k6 k7 k8 k9
      go_wp2_with (at_builtin; refine wpList_push elI64 (own.alloc _) (.int .i64 x.qty) rfl _ _ rfl rfl (sl_alloc wr _) rfl (by omega) (by simp; omega) ?_; intro A4 c4 w4 own4 _ hb4)
      go_roundw
      case rel => exact ⟨k + 1, by omega, by go_num, by rw [hq.out]; simpa [i64s] using own4, hb4 _ _ (Nat.le_refl _) (nxt_alloc hbel _)⟩
      case measure => simp [intOf]; omega
    · obtain rfl : k = l.length := by omega
      rw [List.take_of_length_le (by omega)] at own
      obtain ⟨A', c', rfl, _⟩ := own_shape own
      have hC := Cells.of_own own
      have hAr := hA0.below hbel
      have e6 := (hbel.cell (p := ⟨g, 6, none⟩) hg).trans k6
      have e7 := (hbel.cell (p := ⟨g, 7, none⟩) hg).trans k7
      have e8 := (hbel.cell (p := ⟨g, 8, none⟩) hg).trans k8
      have e9 := (hbel.cell (p := ⟨g, 9, none⟩) hg).trans k9
      have BR := nxt B0 hbel
      have OWN := hide own
      clear hA0 k6 k7 k8 k9 own
      rcases rule_cases ru with rfl | rfl | rfl | ⟨r1, r2, r3, hr⟩
      · rw [show allocL 1 top le pa l q = shareB (qtys l) q by simp [allocL]]
        go_wp2_with fail
        refine (share_any A' _ c' (qtys l) q _ hlq (by omega) hC).mono ?_
        rintro e w2 ⟨A2, c2, rfl, own2, hA2, h1, h2, hb⟩
        go_wp2_with fail
        go_ret
        exact ⟨A2, c2, rfl, own_base own2 BR.size, hA2, h1, h2, nxt BR hb⟩
      · rw [show allocL 2 top le pa l q = shareP (qtys l) (topI l) top le q by simp [allocL]]
        go_wp2_with fail
        refine (idx_any A _ c l _ rfl hl hAr).mono ?_
        rintro e w1 ⟨rfl, hb1⟩
        have f7 := (hb1.cell (World.block_lt_of_cell? wr _ e7)).trans e7
        have f8 := (hb1.cell (World.block_lt_of_cell? wr _ e8)).trans e8
        have hC1 := hC.below hb1
        have B1 := nxt BR hb1
        clear hC hAr e6 e7 e8 e9 hb1
        go_wp2_with fail
        refine (pshare_any A' _ c' (qtys l) (topI l) top le q _ hlq (by omega) hC1).mono ?_
        rintro e w2 ⟨A2, c2, rfl, own2, hA2, h1, h2, hb⟩
        go_wp2_with fail
        go_ret
        exact ⟨A2, c2, rfl, own_base own2 B1.size, hA2, h1, h2, nxt B1 hb⟩
      · rw [show allocL 3 top le pa l q = splitL (qtys l) pa le q by simp [allocL]]
        go_wp2_with fail
        refine (ssplit_any A' _ c' (qtys l) pa le q _ hlq (by omega) hC).mono ?_
        rintro e w2 ⟨A2, c2, rfl, own2, hA2, h1, h2, hb⟩
        go_wp2_with fail
        go_ret
        exact ⟨A2, c2, rfl, own_base own2 BR.size, hA2, h1, h2, nxt BR hb⟩
      · have ea : allocL ru top le pa l q = [] := by simp [allocL, hr.1, hr.2.1, hr.2.2]
        have EA := hide ea
        clear ea
        have HR := hide hr
        clear hr
        go_wp2_with fail
        go_ret
        have hF : FreshI w 2 [] (.returned (.slice none 0 0)) wr := ⟨none, 0, rfl, World.ownsRow_nil _ _ _ _, Cells.nil _ _, Nat.le_refl _, Nat.zero_le _, BR⟩
        rw [EA.out]
        exact hF
end Go.Proofs.Ytglcdamdjjbjhaa
