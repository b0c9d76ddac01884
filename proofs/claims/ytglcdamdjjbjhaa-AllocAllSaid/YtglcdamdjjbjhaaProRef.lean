/-
  What the document's own shares by size compute: Rest, Both, By, Plain.
-/
import Derived.Test.YtglcdamdjjbjhaaFifo
import Derived.Test.YtglcdamdjjbjhaaProP
import Derived.Test.YtglcdamdjjbjhaaSums
import Derived.Test.YtglcdamdjjbjhaaRShare
import Derived.Test.YtglcdamdjjbjhaaTree
import Derived.Deep.CutBlock
import Derived.Deep.DeepCutAuto
namespace Go.Proofs.Ytglcdamdjjbjhaa
open Go.RowKit
set_option linter.unusedVariables false

theorem lower_at {B : Nat} {w wr : World} {b o : Nat} {x : Value} (hB : Below B w wr) (hs : B ≤ w.heap.size) (hb : b < B) (hc : w.cell? ⟨b, o, none⟩ = some x) : ∀ u, Below B wr.drew u → u.cell? ⟨b, o, none⟩ = some x := fun u hu => by
  have h1 : Below B wr u := ⟨hu.os, hu.tape, hu.output, hu.size, hu.block⟩
  exact ((hB.trans h1).cell (p := ⟨b, o, none⟩) hb).trans hc
theorem lower_lit' {B : Nat} {w : World} (hb : B ≤ w.heap.size) (o : Obj) : Below B w.drew (w.alloc o).drew := by
  have h := (Below.refl B w).alloc hb o
  exact ⟨h.os, h.tape, h.output, h.size, h.block⟩
theorem own_drw {w : World} {base : Nat} {e : TypeId} {size : Nat} {v : Value} {n : Nat} {xs : List Value} (h : w.ownsRow base e size v n xs) : w.drew.ownsRow base e size v n xs := h
theorem i64s_take (l : List Int) (k : Nat) : i64s (l.take k) = (i64s l).take k := by simp [i64s, List.map_take]
theorem i64s_snoc (l : List Int) (x : Int) : i64s l ++ [Value.int .i64 x] = i64s (l ++ [x]) := by simp [i64s]

set_option maxHeartbeats 1600000 in
theorem both_any (A B : Option Addr) (na nb ca cb : Nat) (l m : List Int) (w : World) (hna : l.length = na) (hnb : m.length = nb) (hlm : l.length = m.length) (hl : l.length ≤ 1000000)
    (h1 : ∀ n ∈ l, -1152921504606846976 ≤ n ∧ n ≤ 1152921504606846976) (h2 : ∀ n ∈ m, -1152921504606846976 ≤ n ∧ n ≤ 1152921504606846976) (hA : Cells w A (i64s l)) (hB : Cells w B (i64s m)) :
    Calls Try.prog 29 #[.slice A na ca, .slice B nb cb] w (FreshI w 2 (addL l m)) := by
  subst hna hnb
  have H1 := hide h1; have H2 := hide h2; have HLM := hide hlm
  clear h1 h2 hlm
  go_enter Try.func29, Try.ntmps29
  go_wp2
  go_loopw [5, 6] (fun v i wr => ∃ (k : Nat) (A' c' : _), k ≤ l.length ∧ i = .int .i64 k ∧ v = .slice A' k c' ∧ wr.ownsRow w.heap.size 2 1 (.slice A' k c') k (i64s ((addL l m).take k)) ∧ Below w.heap.size w wr) (fun _ i _ => l.length - (intOf i).toNat)
  case atStart => exact ⟨0, none, 0, Nat.zero_le _, rfl, rfl, World.ownsRow_nil _ _ _ _, Below.refl _ _⟩
  case round =>
    obtain ⟨k, A', c', hk, rfl, rfl, own, hbel⟩ := hrel
    have hs := hbel.size
    by_cases hlt : k < l.length
    · obtain ⟨b1, o1, x, rfl, hb1, hc1, hx⟩ := hA.int_at hlt
      obtain ⟨b2, o2, y, rfl, hb2, hc2, hy⟩ := hB.int_at (k := k) (by rw [← HLM.out]; exact hlt)
      have hxb := H1.out x (mem_of_some hx.out)
      have hyb := H2.out y (mem_of_some hy.out)
      have i1 : (k : Int) < l.length := by omega
      have i2 : (k : Int) < m.length := by have := HLM.out; omega
      have hz := hide (take_succ_of (addL_at hx.out hy.out))
      have e1 : IntKind.i64.wrap (x + y) = x + y := IntWalk.i64_in _ (by omega)
      have f1 := lower_at hbel (Nat.le_refl _) hb1 hc1
      have f2 := lower_at hbel (Nat.le_refl _) hb2 hc2
      go_upto_region 5 with (fail)
      refine wp_region_grow (R := Below w.heap.size) 99999 [10, 11] [0, 1, 2, 3, 4, 5, 6, 7, 8, 9, 10, 11, 12] (by kernel_rfl) (Lower.tr _) (Lower.rf _) (by kernel_rfl) (fun _ _ _ _ _ h => h) ?_
      (repeat ((first | (refine grow_skip (by rfl) (by rfl) ?_ (by first | exact Stays.rf _ | exact Lower.rf _ _ | exact Holds.rf _ _)) | (refine grow_take (v := ?_) (by rfl) (by rfl) (by rfl) ?_ ?_; rotate_left 1; focus (intro w' hSw; go_simp; (try (with_reducible rfl)); done))); (try simp only [Act.put, List.setIfInBounds_toArray, List.set_cons_zero, List.set_cons_succ])))
      clear f1 f2
      refine grow_move (by rfl) (by rfl) (by rfl) (fun K hK => ?_); go_simp
      refine hK.out _ _ (lower_lit' hs _) ?_; clear hK K; (try simp only [Act.put, List.setIfInBounds_toArray, List.set_cons_zero, List.set_cons_succ])
      refine grow_move (by rfl) (by rfl) (by rfl) (fun K hK => ?_)
      refine wp_app elI64 (own_drw (own.alloc _)) (news := [.int .i64 (x + y)]) _ _ rfl rfl rfl rfl (Cells.lit wr #[.int .i64 (x + y)] 2).drew (by simp [Value.oneCell']) (by omega) (by simp; omega) (k + 1) (i64s ((addL l m).take (k + 1))) rfl (by rw [hz.out, i64s_snoc]) ?_
      intro A4 c4 w4 p4
      have B4 := p4.below _ _ (Nat.le_refl _) (nxt_drew (nxt_alloc hbel (.cells #[.int .i64 (x + y)] 2)))
      refine hK.out _ _ (p4.below _ _ (Nat.le_refl _) (Below.refl _ _)) ?_; clear hK K; (try simp only [Act.put, List.setIfInBounds_toArray, List.set_cons_zero, List.set_cons_succ])
      (repeat ((first | (refine grow_skip (by rfl) (by rfl) ?_ (by first | exact Stays.rf _ | exact Lower.rf _ _ | exact Holds.rf _ _)) | (refine grow_take (v := ?_) (by rfl) (by rfl) (by rfl) ?_ ?_; rotate_left 1; focus (intro w' hSw; go_simp; (try (with_reducible rfl)); done))); (try simp only [Act.put, List.setIfInBounds_toArray, List.set_cons_zero, List.set_cons_succ])))
      refine grow_done ?_
      go_wp2
      go_roundw
      case rel => exact ⟨k + 1, A4, c4, by omega, by go_num, rfl, p4.own, B4⟩
      case measure => simp [intOf]; omega
    · have hk' : (addL l m).take k = addL l m := List.take_of_length_le (by rw [length_addL HLM.out]; omega)
      rw [hk'] at own
      obtain rfl : k = l.length := by omega
      have H := hide hk'; clear hk'
      go_wp2
      go_ret
      exact Fresh.mk (by rw [length_addL HLM.out]) own hbel
set_option maxHeartbeats 1600000 in
theorem refRest_any (A B : Option Addr) (na nb ca cb : Nat) (l m : List Int) (w : World) (hna : l.length = na) (hnb : m.length = nb) (hlm : l.length = m.length) (hl : l.length ≤ 1000000)
    (h1 : ∀ n ∈ l, -1152921504606846976 ≤ n ∧ n ≤ 1152921504606846976) (h2 : ∀ n ∈ m, -1152921504606846976 ≤ n ∧ n ≤ 1152921504606846976) (hA : Cells w A (i64s l)) (hB : Cells w B (i64s m)) :
    Calls Try.prog 31 #[.slice A na ca, .slice B nb cb] w (FreshI w 2 (subL l m)) := by
  subst hna hnb
  have H1 := hide h1; have H2 := hide h2; have HLM := hide hlm
  clear h1 h2 hlm
  go_enter Try.func31, Try.ntmps31
  go_wp2
  go_loopw [5, 6] (fun v i wr => ∃ (k : Nat) (A' c' : _), k ≤ l.length ∧ i = .int .i64 k ∧ v = .slice A' k c' ∧ wr.ownsRow w.heap.size 2 1 (.slice A' k c') k (i64s ((subL l m).take k)) ∧ Below w.heap.size w wr) (fun _ i _ => l.length - (intOf i).toNat)
  case atStart => exact ⟨0, none, 0, Nat.zero_le _, rfl, rfl, World.ownsRow_nil _ _ _ _, Below.refl _ _⟩
  case round =>
    obtain ⟨k, A', c', hk, rfl, rfl, own, hbel⟩ := hrel
    have hs := hbel.size
    by_cases hlt : k < l.length
    · obtain ⟨b1, o1, x, rfl, hb1, hc1, hx⟩ := hA.int_at hlt
      obtain ⟨b2, o2, y, rfl, hb2, hc2, hy⟩ := hB.int_at (k := k) (by rw [← HLM.out]; exact hlt)
      have hxb := H1.out x (mem_of_some hx.out)
      have hyb := H2.out y (mem_of_some hy.out)
      have i1 : (k : Int) < l.length := by omega
      have i2 : (k : Int) < m.length := by have := HLM.out; omega
      have hz := hide (take_succ_of (subL_at hx.out hy.out))
      have e1 : IntKind.i64.wrap (x - y) = x - y := IntWalk.i64_in _ (by omega)
      have f1 := lower_at hbel (Nat.le_refl _) hb1 hc1
      have f2 := lower_at hbel (Nat.le_refl _) hb2 hc2
      go_upto_region 5 with (fail)
      refine wp_region_grow (R := Below w.heap.size) 99999 [10, 11] [0, 1, 2, 3, 4, 5, 6, 7, 8, 9, 10, 11, 12] (by kernel_rfl) (Lower.tr _) (Lower.rf _) (by kernel_rfl) (fun _ _ _ _ _ h => h) ?_
      (repeat ((first | (refine grow_skip (by rfl) (by rfl) ?_ (by first | exact Stays.rf _ | exact Lower.rf _ _ | exact Holds.rf _ _)) | (refine grow_take (v := ?_) (by rfl) (by rfl) (by rfl) ?_ ?_; rotate_left 1; focus (intro w' hSw; go_simp; (try (with_reducible rfl)); done))); (try simp only [Act.put, List.setIfInBounds_toArray, List.set_cons_zero, List.set_cons_succ])))
      clear f1 f2
      refine grow_move (by rfl) (by rfl) (by rfl) (fun K hK => ?_); go_simp
      refine hK.out _ _ (lower_lit' hs _) ?_; clear hK K; (try simp only [Act.put, List.setIfInBounds_toArray, List.set_cons_zero, List.set_cons_succ])
      refine grow_move (by rfl) (by rfl) (by rfl) (fun K hK => ?_)
      refine wp_app elI64 (own_drw (own.alloc _)) (news := [.int .i64 (x - y)]) _ _ rfl rfl rfl rfl (Cells.lit wr #[.int .i64 (x - y)] 2).drew (by simp [Value.oneCell']) (by omega) (by simp; omega) (k + 1) (i64s ((subL l m).take (k + 1))) rfl (by rw [hz.out, i64s_snoc]) ?_
      intro A4 c4 w4 p4
      have B4 := p4.below _ _ (Nat.le_refl _) (nxt_drew (nxt_alloc hbel (.cells #[.int .i64 (x - y)] 2)))
      refine hK.out _ _ (p4.below _ _ (Nat.le_refl _) (Below.refl _ _)) ?_; clear hK K; (try simp only [Act.put, List.setIfInBounds_toArray, List.set_cons_zero, List.set_cons_succ])
      (repeat ((first | (refine grow_skip (by rfl) (by rfl) ?_ (by first | exact Stays.rf _ | exact Lower.rf _ _ | exact Holds.rf _ _)) | (refine grow_take (v := ?_) (by rfl) (by rfl) (by rfl) ?_ ?_; rotate_left 1; focus (intro w' hSw; go_simp; (try (with_reducible rfl)); done))); (try simp only [Act.put, List.setIfInBounds_toArray, List.set_cons_zero, List.set_cons_succ])))
      refine grow_done ?_
      go_wp2
      go_roundw
      case rel => exact ⟨k + 1, A4, c4, by omega, by go_num, rfl, p4.own, B4⟩
      case measure => simp [intOf]; omega
    · have hk' : (subL l m).take k = subL l m := List.take_of_length_le (by rw [length_subL HLM.out]; omega)
      rw [hk'] at own
      obtain rfl : k = l.length := by omega
      have H := hide hk'; clear hk'
      go_wp2
      go_ret
      exact Fresh.mk (by rw [length_subL HLM.out]) own hbel

set_option maxHeartbeats 800000 in
theorem fill_any (A : Option Addr) (n cap : Nat) (l : List Int) (q : Int) (w : World) (hn : l.length = n) (hlen : l.length ≤ 1000000) (hb : ∀ n ∈ l, 0 ≤ n ∧ n ≤ 1152921504606846976) (hq : 0 ≤ q) (hq2 : q ≤ 1152921504606846976) (hA : Cells w A (i64s l)) :
    Calls Try.prog 28 #[.slice A n cap, .int .i64 q] w (FreshI w 2 (shareL l q)) := by
  subst hn
  have H3 := hide hb; clear hb
  go_enter Try.func28, Try.ntmps28
  go_wp2_with fail
  go_loopw [1, 5, 6] (fun s v i wr => ∃ k : Nat, k ≤ l.length ∧ i = .int .i64 k ∧ s = .int .i64 (leftL (l.take k) q) ∧ wr.ownsRow w.heap.size 2 1 v k (i64s (shareL (l.take k) q)) ∧ Below w.heap.size w wr)
    (fun _ _ i _ => l.length - (intOf i).toNat)
  case atStart => exact ⟨0, Nat.zero_le _, rfl, rfl, World.ownsRow_nil _ _ _ _, Below.refl _ _⟩
  case round =>
    obtain ⟨k, hk, rfl, rfl, hown, hbel⟩ := hrel
    have hlb := leftL_bd (l.take k) q (fun n hn => (H3.out n (List.mem_of_mem_take hn)).1) hq
    by_cases hlt : k < l.length
    · obtain ⟨b, o, x, rfl, hb, hc0, hx⟩ := hA.int_at hlt
      have hc := (hbel.cell (p := ⟨b, o + k, none⟩) hb).trans hc0
      have hx0 := (H3.out x (mem_of_some hx.out)).1
      have hs := hbel.size
      clear hc0 hA
      obtain ⟨r, er⟩ : ∃ r, r = leftL (l.take k) q := ⟨_, rfl⟩
      rw [← er] at hlb
      obtain ⟨es1, es2⟩ := shareL_take hx.out q
      rw [← er] at es1 es2 ⊢
      have Er := hide er; clear er
      have E1 := hide es1; clear es1
      have E2 := hide es2; clear es2
      obtain ⟨mn, hmn, hm0, hm1⟩ : ∃ mn, mn = min x r ∧ 0 ≤ mn ∧ mn ≤ r := ⟨_, rfl, by omega, by omega⟩
      rw [← hmn] at E1 E2
      have HM := hide hmn; clear hmn
      have e2 : mn = x ∨ (mn = r ∧ r < x) := by have := HM.out; omega
      have hmx : mn ≤ x := by have := HM.out; omega
      rcases e2 with e2 | ⟨e2, e3⟩
      all_goals
        subst e2
        go_wp2_with (at_builtin; refine wpList_push elI64 hown (.int .i64 mn) rfl _ _ rfl rfl rfl rfl (by omega) (by omega) ?_; intro A' c' w1 hown1 _ hb1)
        go_roundw
        case rel => exact ⟨k + 1, by omega, by go_num, val_int (by have := E2.out; omega), by rw [E1.out]; simpa [i64s] using hown1, hb1 _ _ (Nat.le_refl _) hbel⟩
        case measure => simp [intOf]; omega
    · have hk' : l.take k = l := List.take_of_length_le (by omega)
      rw [hk'] at hown
      obtain rfl : k = l.length := by omega
      have H := hide hk'; clear hk'
      obtain ⟨A', c', rfl, _⟩ := own_shape hown
      go_wp2
      go_ret
      exact Fresh.mk (by simp [length_shareL]) hown hbel

theorem share_small {x q all : Int} (hx : 0 ≤ x) (hx2 : x ≤ 1000000) (hq : 0 ≤ q) (hqa : q ≤ all) (ha : 1 ≤ all) : shareEnd x q all = .returned (.tuple #[.int .i64 (x * q / all), .bool true]) := by
  have h := byV_bd (least := 1) hx hq hqa (by omega)
  have h0 : 0 ≤ x * q / all := Int.ediv_nonneg (Int.mul_nonneg hx hq) (by omega)
  have h1 : x * q / all ≤ x := by
    unfold byV at h
    split at h
    · exact h.2.1
    · omega
  rw [shareEnd_ok (by omega), told, fit_yes (inR_yes (by omega)), inR_yes (by omega)]
/-- What a walk needs of the shares by size. -/
theorem first_facts {l : List Int} {q least : Int} (hl : l.length ≤ 1000) (hb : ∀ n ∈ l, 0 ≤ n ∧ n ≤ 1000000) (hq : 0 ≤ q) (hqa : q ≤ l.sum) (h1 : 1 ≤ least) :
    (∀ n ∈ firstL l.sum q least l, 0 ≤ n ∧ n ≤ 1000000) ∧ (∀ k, 0 ≤ ((firstL l.sum q least l).take k).sum ∧ ((firstL l.sum q least l).take k).sum ≤ 1000000000) := by
  have a : ∀ n ∈ firstL l.sum q least l, 0 ≤ n ∧ n ≤ 1000000 := by
    intro n hn
    simp only [firstL, List.mem_map] at hn
    obtain ⟨m, hm, rfl⟩ := hn
    have := hb m hm
    have := byV_bd (all := l.sum) this.1 hq hqa h1
    omega
  refine ⟨a, fun k => ?_⟩
  have h2 := isum_bd ((firstL l.sum q least l).take k) (fun n hn => a n (List.mem_of_mem_take hn))
  have h3 : ((firstL l.sum q least l).take k).length ≤ 1000 := by rw [List.length_take, length_firstL]; omega
  omega
theorem firstL_at {all q least : Int} {l : List Int} {k : Nat} {x : Int} (h : l[k]? = some x) : (firstL all q least l)[k]? = some (byV all q least x) := by simp [firstL, h]

set_option maxHeartbeats 3200000 in
theorem by_any (A : Option Addr) (n c : Nat) (l : List Int) (least q : Int) (w : World) (hn : l.length = n) (hl : l.length ≤ 1000) (hb : ∀ n ∈ l, 0 ≤ n ∧ n ≤ 1000000) (hq : 0 ≤ q) (hqa : q ≤ l.sum) (h1 : 1 ≤ least) (hA : Cells w A (i64s l)) :
    Calls Try.prog 30 #[.slice A n c, .int .i64 least, .int .i64 q] w (FreshI w 2 (byL l least q)) := by
  subst hn
  obtain ⟨ff, fs⟩ := first_facts hl hb hq hqa h1
  have hsb := isum_bd l hb
  have hst := first_sum (fun n hn => (hb n hn).1) hq hqa h1
  have hsub : ∀ x ∈ subL l (firstL l.sum q least l), 0 ≤ x ∧ x ≤ 1000000 := by
    intro x hx
    refine ⟨sub_first_nn (fun n hn => (hb n hn).1) hq hqa h1 x hx, ?_⟩
    obtain ⟨k, hk⟩ := List.getElem?_of_mem hx
    simp only [subL, firstL, List.getElem?_zipWith, List.getElem?_map] at hk
    cases hn : l[k]? with
    | none => simp [hn] at hk
    | some n =>
      simp [hn] at hk
      have := byV_bd (all := l.sum) (hb n (List.mem_of_getElem? hn)).1 hq hqa h1
      have := hb n (List.mem_of_getElem? hn)
      omega
  unfold byL
  obtain ⟨F, hF⟩ : ∃ F, F = firstL l.sum q least l := ⟨_, rfl⟩
  obtain ⟨T, hT⟩ : ∃ T, T = l.sum := ⟨_, rfl⟩
  have hFl : F.length = l.length := by rw [hF, length_firstL]
  have hFat : ∀ (k : Nat) (x : Int), l[k]? = some x → F[k]? = some (byV T q least x) := fun k x h => by rw [hF, hT]; exact firstL_at h
  rw [← hF] at ff fs hst hsub ⊢
  rw [← hT] at hqa hsb
  have HF := hide ff; have HS := hide fs; have HL := hide hFl; have HAT := hide hFat; have HB := hide hb; have HT := hide hT; have HST := hide hst; have HSUB := hide hsub
  clear ff fs hFl hFat hb hT hst hsub hF
  go_enter Try.func30, Try.ntmps30
  go_wp2_with fail
  refine (refSum_any _ _ _ l _ rfl (by omega) (fun n hn => by have := HB.out n hn; omega) hA).mono ?_
  rintro e w' ⟨rfl, rfl⟩
  rw [← HT.out, told, fit_yes (inR_yes (by omega)), inR_yes (by omega)]
  go_wp2_with fail
  go_loopw [9, 10, 11] (fun v s i wr => ∃ (k : Nat) (A' c' : _) (S : Int), k ≤ l.length ∧ i = .int .i64 k ∧ v = .slice A' k c' ∧ s = .int .i64 (q - S) ∧ Hid ((F.take k).sum = S) ∧ wr.ownsRow w.heap.size 2 1 (.slice A' k c') k (i64s (F.take k)) ∧ Below w.heap.size w wr) (fun _ _ i _ => l.length - (intOf i).toNat)
  case atStart => exact ⟨0, none, 0, 0, Nat.zero_le _, rfl, rfl, val_int (by omega), rfl, World.ownsRow_nil _ _ _ _, Below.refl _ _⟩
  case round =>
    obtain ⟨k, A', c', S, hk, rfl, rfl, rfl, hS, own, hbel⟩ := hrel
    have hs := hbel.size
    have hSb := HS.out k
    rw [hS.out] at hSb
    by_cases hlt : k < l.length
    · obtain ⟨b, o, x, rfl, hbb, hc0, hx⟩ := hA.int_at hlt
      have hc := (hbel.cell (p := ⟨b, o + k, none⟩) hbb).trans hc0
      have hxb := HB.out x (mem_of_some hx.out)
      have i1 : (k : Int) < l.length := by omega
      have hfa := HAT.out k x hx.out
      have hzt := take_succ_of hfa
      have hzs := sum_take_of hfa
      rw [hS.out] at hzs
      clear hc0 hA
      rcases dec (0 < T) with ⟨t1, d1⟩ | ⟨t1, d1⟩
      · obtain ⟨V, hV⟩ : ∃ V, V = x * q / T := ⟨_, rfl⟩
        have hsm := share_small hxb.1 hxb.2 hq hqa (by omega : 1 ≤ T)
        have hVb : 0 ≤ V ∧ V ≤ 1000000 := by
          have h := byV_bd (least := 1) (all := T) hxb.1 hq hqa (by omega)
          have h0 : 0 ≤ x * q / T := Int.ediv_nonneg (Int.mul_nonneg hxb.1 hq) (by omega)
          unfold byV at h
          split at h <;> omega
        rw [← hV] at hsm
        have hby : byV T q least x = if least ≤ V then V else 0 := by rw [byV, ← hV]
        rcases dec (V < least) with ⟨t2, d2⟩ | ⟨t2, d2⟩
        · rw [if_neg (by omega)] at hby
          rw [hby] at hzt hzs
          have ZT := hide hzt; have ZS := hide hzs; have SM := hide hsm
          clear hzt hzs hsm hby hV hfa
          go_wp2_with fail
          refine (irefShare_any _ _ _ _ (by omega) (by omega) (by omega)).mono ?_
          rintro e w' ⟨rfl, rfl⟩
          rw [SM.out]
          go_wp2_with (at_builtin; refine wpList_push elI64 own (.int .i64 0) rfl _ _ rfl rfl rfl rfl (by omega) (by omega) ?_; intro A4 c4 w1 own1 _ hb1)
          go_roundw
          case rel => exact ⟨k + 1, A4, c4, S, by omega, by go_num, rfl, val_int (by omega), by have := ZS.out; rw [Int.add_zero] at this; exact this, by rw [ZT.out]; simpa [i64s] using own1, hb1 _ _ (Nat.le_refl _) hbel⟩
          case measure => simp [intOf]; omega
        · rw [if_pos (by omega)] at hby
          rw [hby] at hzt hzs
          have ZT := hide hzt; have ZS := hide hzs; have SM := hide hsm
          clear hzt hzs hsm hby hV hfa
          go_wp2_with fail
          refine (irefShare_any _ _ _ _ (by omega) (by omega) (by omega)).mono ?_
          rintro e w' ⟨rfl, rfl⟩
          rw [SM.out]
          go_wp2_with (at_builtin; refine wpList_push elI64 own (.int .i64 V) rfl _ _ rfl rfl rfl rfl (by omega) (by omega) ?_; intro A4 c4 w1 own1 _ hb1)
          go_roundw
          case rel => exact ⟨k + 1, A4, c4, S + V, by omega, by go_num, rfl, val_int (by omega), ZS.out, by rw [ZT.out]; simpa [i64s] using own1, hb1 _ _ (Nat.le_refl _) hbel⟩
          case measure => simp [intOf]; omega
      · have hby : byV T q least x = 0 := by
          have : q = 0 := by omega
          unfold byV
          rw [this, Int.mul_zero, Int.zero_ediv, if_neg (by omega)]
        rw [hby] at hzt hzs
        have ZT := hide hzt; have ZS := hide hzs
        clear hzt hzs hby hfa
        have d3 : decide ((0 : Int) < least) = true := by simp; omega
        go_wp2_with (at_builtin; refine wpList_push elI64 own (.int .i64 0) rfl _ _ rfl rfl rfl rfl (by omega) (by omega) ?_; intro A4 c4 w1 own1 _ hb1)
        go_roundw
        case rel => exact ⟨k + 1, A4, c4, S, by omega, by go_num, rfl, val_int (by omega), by have := ZS.out; rw [Int.add_zero] at this; exact this, by rw [ZT.out]; simpa [i64s] using own1, hb1 _ _ (Nat.le_refl _) hbel⟩
        case measure => simp [intOf]; omega
    · have hk' : F.take k = F := List.take_of_length_le (by rw [HL.out]; omega)
      rw [hk'] at own hS
      obtain rfl : k = l.length := by omega
      have H := hide hk'; clear hk'
      have hSt := HST.out
      rw [hS.out] at hSt
      have hcF := Cells.of_own own
      have hcA := hA.below hbel
      go_wp2_with fail
      refine (refRest_any _ _ _ _ _ _ l F _ rfl HL.out HL.out.symm (by omega) (fun n hn => by have := HB.out n hn; omega) (fun n hn => by have := HF.out n hn; omega) hcA hcF).mono ?_
      rintro e w2 hf
      obtain ⟨A2, c2, rfl, -, hc2, -, -, b2⟩ := hf.n (length_subL HL.out.symm)
      have hcF2 := hcF.below b2
      have B2 := nxt hbel b2
      clear hcA hA own b2 hcF hbel hf
      go_wp2_with fail
      refine (fill_any _ _ _ (subL l F) _ _ (length_subL HL.out.symm) (by rw [length_subL HL.out.symm]; omega) (fun n hn => by have := HSUB.out n hn; omega) (by omega) (by omega) hc2).mono ?_
      rintro e w3 hf
      obtain ⟨A3, c3, rfl, -, hc3, -, -, b3⟩ := hf.n ((length_shareL _ _).trans (length_subL HL.out.symm))
      have hcF3 := hcF2.below b3
      have B3 := nxt B2 b3
      clear hc2 hcF2 b3 B2 hf
      go_wp2_with fail
      refine (both_any _ _ _ _ _ _ F (shareL (subL l F) (q - S)) _ HL.out ((length_shareL _ _).trans (length_subL HL.out.symm)) (by rw [length_shareL, length_subL HL.out.symm]; exact HL.out) (by rw [HL.out]; omega) (fun n hn => by have := HF.out n hn; omega) (fun n hn => ?_) hcF3 hc3).mono ?_
      · obtain ⟨i, hi⟩ := List.getElem?_of_mem hn
        have hlt := lt_of_some hi
        rw [length_shareL] at hlt
        have := shareL_bd (fun n hn => (HSUB.out n hn).1) (by omega) hi (List.getElem?_eq_getElem hlt)
        have := HSUB.out _ (List.getElem_mem hlt)
        omega
      rintro e w4 ⟨A4, c4, rfl, own4, hc4, h4, h4', b4⟩
      go_wp2
      go_ret
      rw [hS.out]
      exact ⟨A4, c4, rfl, own_base own4 (by have := B3.size; omega), hc4, h4, h4', nxt B3 b4⟩
end Go.Proofs.Ytglcdamdjjbjhaa
