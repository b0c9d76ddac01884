/-
  What the reference's chapter 13 share computes, and orders as the document has them.
-/
import Derived.Test.YtglcdamdjjbjhaaAlloc
import Derived.Test.YtglcdamdjjbjhaaGrow
import Derived.Test.YtglcdamdjjbjhaaRest
namespace Go.Proofs.Ytglcdamdjjbjhaa
open Go.RowKit
set_option linter.unusedVariables false

theorem topI_ge (l : List Ord) : -1 ≤ topI l := by
  induction l with
  | nil => decide
  | cons o l ih => simp only [topI]; split; omega; split <;> omega
theorem topI_lt (l : List Ord) : topI l < l.length := by
  induction l with
  | nil => decide
  | cons o l ih => simp only [topI, List.length_cons]; split; omega; split <;> omega
theorem topI_snoc (l : List Ord) (x : Ord) : topI (l ++ [x]) = if topI l < 0 then (if x.top = true then (l.length : Int) else -1) else topI l := by
  induction l with
  | nil => simp [topI]
  | cons o l ih =>
    have h1 := topI_ge l
    simp only [List.cons_append, topI, List.length_cons]
    by_cases ho : o.top = true
    · simp [ho]
    · simp only [ho, if_false, Bool.false_eq_true]
      rw [ih]
      by_cases hl : topI l < 0
      · by_cases hx : x.top = true <;> simp [hl, hx] <;> omega
      · have : ¬ topI l + 1 < 0 := by omega
        simp [hl, this]
theorem take_snoc_ord {l : List Ord} {k : Nat} {x : Ord} (h : l[k]? = some x) : l.take (k + 1) = l.take k ++ [x] := take_succ_of h
set_option maxRecDepth 100000 in
set_option maxHeartbeats 1600000 in
theorem ralloc_any (pc ms ti lo hi wi se : Value) (ru top le pa : Int) (A : Option Addr) (n c : Nat) (l : List Ord) (q : Int) (w : World) (hn : l.length = n) (hl : l.length ≤ 9223372036854775807) (hlm : l.length ≤ 1000000000000) (hA : Cells w A (flat l)) :
    Calls Try.prog 10 #[.agg #[pc, ms, ti, lo, hi, wi, .int .i64 ru, .int .i64 top, .int .i64 le, .int .i64 pa, se], .slice A n c, .int .i64 q] w (FreshI w 2 (allocL ru top le pa l q)) := by
  subst hn
  obtain ⟨w0, ew0⟩ : ∃ w0, w0 = w.alloc (.cells #[pc, ms, ti, lo, hi, wi, .int .i64 ru, .int .i64 top, .int .i64 le, .int .i64 pa, se] 28) := ⟨_, rfl⟩
  obtain ⟨g, eg⟩ : ∃ g, g = w.heap.size := ⟨_, rfl⟩
  have k6 : w0.cell? ⟨g, 6, none⟩ = some (.int .i64 ru) := by rw [ew0, World.cell?_alloc_at _ _ _ _ eg]; rfl
  have k7 : w0.cell? ⟨g, 7, none⟩ = some (.int .i64 top) := by rw [ew0, World.cell?_alloc_at _ _ _ _ eg]; rfl
  have k8 : w0.cell? ⟨g, 8, none⟩ = some (.int .i64 le) := by rw [ew0, World.cell?_alloc_at _ _ _ _ eg]; rfl
  have k9 : w0.cell? ⟨g, 9, none⟩ = some (.int .i64 pa) := by rw [ew0, World.cell?_alloc_at _ _ _ _ eg]; rfl
  have B0 : Below w.heap.size w w0 := by rw [ew0]; exact (Below.refl _ _).alloc (Nat.le_refl _) _
  have hg : g < w0.heap.size := World.block_lt_of_cell? w0 _ k6
  have hA0 := hA.below B0
  have hlq : (qtys l).length = l.length := length_qtys l
  clear hA
  go_enter Try.func10, Try.ntmps10
  go_wp2_with fail
  rw [← ew0, ← eg]
  clear ew0 eg
  go_loopw [7, 8, 9] (fun v t i wr => ∃ k : Nat, k ≤ l.length ∧ i = .int .i64 k ∧ t = .int .i64 (topI (l.take k)) ∧ wr.ownsRow w0.heap.size 2 1 v k (i64s ((qtys l).take k)) ∧ Below w0.heap.size w0 wr) (fun _ _ i _ => l.length - (intOf i).toNat)
  case atStart => exact ⟨0, Nat.zero_le _, rfl, rfl, World.ownsRow_nil _ _ _ _, Below.refl _ _⟩
  case round =>
    obtain ⟨k, hk, rfl, rfl, own, hbel⟩ := hrel
    have hs := hbel.size
    have ht1 := topI_ge (l.take k)
    by_cases hlt : k < l.length
    · obtain ⟨b, o, x, rfl, hb, -, -, -, c3', c4', hx⟩ := hA0.ord_at hlt
      have c3 := (hbel.cell (p := ⟨b, o + k * 5 + 3, none⟩) hb).trans c3'
      have i1 : (k : Int) < l.length := by omega
      have hq := hide (qtys_take hx.out)
      have ht := topI_snoc (l.take k) x
      rw [← take_snoc_ord hx.out, List.length_take, Nat.min_eq_left hk] at ht
      have HT := hide ht
      obtain ⟨T, eT⟩ : ∃ T, T = topI (l.take k) := ⟨_, rfl⟩
      rw [← eT] at ht1 ht ⊢
      obtain ⟨tp, etp⟩ : ∃ t, t = x.top := ⟨_, rfl⟩
      rw [← etp] at ht c4'
      clear c3' hA0 k6 k7 k8 k9 eT HT etp
      have HT := hide ht
      clear ht
      cases tp
      · have e : topI (l.take (k + 1)) = T := by have := HT.out; simp at this; omega
        have E := hide e
        clear e
        go_wp2_with (at_builtin; refine wpList_push elI64 own (.int .i64 x.qty) rfl _ _ rfl rfl rfl rfl (by omega) (by omega) ?_; intro A4 cc4 w4 own4 _ hb4; have B4 := hb4 _ _ (Nat.le_refl _) hbel; have c4 := (B4.cell (p := ⟨b, o + k * 5 + 4, none⟩) hb).trans c4'; clear own hb4)
        go_roundw
        case rel => exact ⟨k + 1, by omega, by go_num, by rw [E.out], by rw [hq.out]; simpa [i64s] using own4, B4⟩
        case measure => simp [intOf]; omega
      · by_cases hT : T < 0
        · have e : topI (l.take (k + 1)) = k := by have := HT.out; simp [hT] at this; omega
          have E := hide e
          clear e
          go_wp2_with (at_builtin; refine wpList_push elI64 own (.int .i64 x.qty) rfl _ _ rfl rfl rfl rfl (by omega) (by omega) ?_; intro A4 cc4 w4 own4 _ hb4; have B4 := hb4 _ _ (Nat.le_refl _) hbel; have c4 := (B4.cell (p := ⟨b, o + k * 5 + 4, none⟩) hb).trans c4'; clear own hb4)
          go_roundw
          case rel => exact ⟨k + 1, by omega, by go_num, by rw [E.out], by rw [hq.out]; simpa [i64s] using own4, B4⟩
          case measure => simp [intOf]; omega
        · have e : topI (l.take (k + 1)) = T := by have := HT.out; simp [hT] at this; omega
          have E := hide e
          clear e
          go_wp2_with (at_builtin; refine wpList_push elI64 own (.int .i64 x.qty) rfl _ _ rfl rfl rfl rfl (by omega) (by omega) ?_; intro A4 cc4 w4 own4 _ hb4; have B4 := hb4 _ _ (Nat.le_refl _) hbel; have c4 := (B4.cell (p := ⟨b, o + k * 5 + 4, none⟩) hb).trans c4'; clear own hb4)
          go_roundw
          case rel => exact ⟨k + 1, by omega, by go_num, by rw [E.out], by rw [hq.out]; simpa [i64s] using own4, B4⟩
          case measure => simp [intOf]; omega
    · obtain rfl : k = l.length := by omega
      rw [List.take_of_length_le (by omega)] at own
      rw [List.take_of_length_le (Nat.le_refl _)]
      obtain ⟨A', c', rfl, _⟩ := own_shape own
      have hC := Cells.of_own own
      have hAr := hA0.below hbel
      have e6 := (hbel.cell (p := ⟨g, 6, none⟩) hg).trans k6
      have e7 := (hbel.cell (p := ⟨g, 7, none⟩) hg).trans k7
      have e8 := (hbel.cell (p := ⟨g, 8, none⟩) hg).trans k8
      have e9 := (hbel.cell (p := ⟨g, 9, none⟩) hg).trans k9
      have BR := nxt B0 hbel
      have OWN := hide own
      clear hA0 k6 k7 k8 k9 own
      rcases rule_cases ru with rfl | rfl | rfl | ⟨r1, r2, r3, hr⟩
      · rw [show allocL 1 top le pa l q = shareB (qtys l) q by simp [allocL]]
        go_wp2_with fail
        refine (refShare_any A' _ c' (qtys l) q _ hlq (by omega) hC).mono ?_
        rintro e w2 ⟨A2, c2, rfl, own2, hA2, h1, h2, hb⟩
        go_wp2_with fail
        go_ret
        exact ⟨A2, c2, rfl, own_base own2 BR.size, hA2, h1, h2, nxt BR hb⟩
      · rw [show allocL 2 top le pa l q = shareP (qtys l) (topI l) top le q by simp [allocL]]
        go_wp2_with fail
        refine (rshare_any A' _ c' (qtys l) (topI l) top le q _ hlq (by omega) hC).mono ?_
        rintro e w2 ⟨A2, c2, rfl, own2, hA2, h1, h2, hb⟩
        go_wp2_with fail
        go_ret
        exact ⟨A2, c2, rfl, own_base own2 BR.size, hA2, h1, h2, nxt BR hb⟩
      · rw [show allocL 3 top le pa l q = splitL (qtys l) pa le q by simp [allocL]]
        go_wp2_with fail
        refine (rsplit_any A' _ c' (qtys l) pa le q _ hlq (by omega) hC).mono ?_
        rintro e w2 ⟨A2, c2, rfl, own2, hA2, h1, h2, hb⟩
        go_wp2_with fail
        go_ret
        exact ⟨A2, c2, rfl, own_base own2 BR.size, hA2, h1, h2, nxt BR hb⟩
      · have ea : allocL ru top le pa l q = [] := by simp [allocL, hr.1, hr.2.1, hr.2.2]
        have EA := hide ea
        clear ea
        have HR := hide hr
        clear hr
        go_wp2_with fail
        go_ret
        have hF : FreshI w 2 [] (.returned (.slice none 0 0)) wr := ⟨none, 0, rfl, World.ownsRow_nil _ _ _ _, Cells.nil _ _, Nat.le_refl _, Nat.zero_le _, BR⟩
        rw [EA.out]
        exact hF
end Go.Proofs.Ytglcdamdjjbjhaa
