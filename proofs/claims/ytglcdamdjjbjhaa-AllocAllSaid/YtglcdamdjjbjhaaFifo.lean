/-
  What fifo.Right, fifo.Share, the references' Right, Fill, Share, and cornhillbook's Same and Within compute.
-/
import Derived.Test.YtglcdamdjjbjhaaRows
import Derived.Test.YtglcdamdjjbjhaaBase
import Derived.Test.YtglcdamdjjbjhaaPlainA
namespace Go.Proofs.Ytglcdamdjjbjhaa
open Go.RowKit
set_option linter.unusedVariables false

theorem Try.infoI64 : (Try.prog.info? 2).map (fun i => (i.zero, i.size, i.bytes)) = some (some (.int .i64 0), 1, 8) := by kernel_rfl
theorem elI64 : Elem Try.prog 26 2 (.int .i64 0) 8 :=
  ⟨Try.underlying26, let ⟨i, h, h0, h1, h2⟩ := info_parts Try.infoI64; ⟨i, h, h0, h1, h2⟩, rfl, by omega⟩

theorem Try.infoInt : (Try.prog.info? 3).map (fun i => (i.zero, i.size, i.bytes)) = some (some (.int .i64 0), 1, 8) := by kernel_rfl
theorem elInt : Elem Try.prog 25 3 (.int .i64 0) 8 :=
  ⟨Try.underlying25, let ⟨i, h, h0, h1, h2⟩ := info_parts Try.infoInt; ⟨i, h, h0, h1, h2⟩, rfl, by omega⟩

/-! ### fifo.Right and the reference's -/
set_option maxHeartbeats 400000 in
theorem right_any (A : Option Addr) (n cap : Nat) (l : List Int) (q : Int) (w : World) (hn : l.length = n) (hl : l.length ≤ 9223372036854775807) (hA : Cells w A (i64s l)) :
    Calls Try.prog 24 #[.slice A n cap, .int .i64 q] w fun e w' => e = .returned (.bool (rightB l q)) ∧ w = w' := by
  subst hn
  by_cases hlen : l.length ≤ 250
  · by_cases hq : 0 ≤ q
    · go_enter Try.func24, Try.ntmps24
      go_wp2
      go_loop [5, 17] (fun s i => ∃ k : Nat, k ≤ l.length ∧ i = .int .i64 k ∧ s = .int .i64 (l.take k).sum ∧ (l.take k).all qOk = true) (fun _ i => l.length - (intOf i).toNat)
      case atStart => exact ⟨0, Nat.zero_le _, rfl, rfl, rfl⟩
      case round =>
        obtain ⟨k, hk, rfl, rfl, hall⟩ := hrel
        have hbd := sum_bd _ hall
        have hlt' : (l.take k).length ≤ k := List.length_take_le _ _
        by_cases hlt : k < l.length
        · obtain ⟨b, o, x, rfl, hb, hc, hx⟩ := hA.int_at hlt
          go_wp2
          all_goals first
            | (go_ret; exact ⟨ret_bool (rightB_bad hx.out (by omega)).symm, rfl⟩)
            | (go_round
               case rel => exact ⟨k + 1, by omega, by go_num, by rw [sum_take_of hx.out], by rw [all_take_of _ hx.out, hall]; simp [qOk]; omega⟩
               case measure => simp [intOf]; omega)
        · have hk' : l.take k = l := List.take_of_length_le (by omega)
          have H := hide hk'; clear hk'
          go_wp2
          go_ret
          refine ⟨ret_bool ?_, rfl⟩
          rw [H.out] at hall ⊢
          simp [rightB, hall, hlen, hq]
    · have hq' : q < 0 := by omega
      go_enter Try.func24, Try.ntmps24
      go_wp2
      go_ret
      exact ⟨ret_bool (by simp [rightB]; omega), rfl⟩
  · have hl' : ¬ ((l.length : Int) ≤ 250) := by omega
    go_enter Try.func24, Try.ntmps24
    go_wp2
    go_ret
    exact ⟨ret_bool (by simp [rightB, hlen]), rfl⟩

set_option maxHeartbeats 400000 in
theorem refRight_any (A : Option Addr) (n cap : Nat) (l : List Int) (q : Int) (w : World) (hn : l.length = n) (hl : l.length ≤ 9223372036854775807) (hA : Cells w A (i64s l)) :
    Calls Try.prog 27 #[.slice A n cap, .int .i64 q] w fun e w' => e = .returned (.bool (rightB l q)) ∧ w = w' := by
  subst hn
  by_cases hlen : l.length ≤ 250
  · by_cases hq : 0 ≤ q
    · go_enter Try.func27, Try.ntmps27
      go_wp2
      go_loop [5, 6] (fun s i => ∃ k : Nat, k ≤ l.length ∧ i = .int .i64 k ∧ s = .int .i64 (l.take k).sum ∧ (l.take k).all qOk = true) (fun _ i => l.length - (intOf i).toNat)
      case atStart => exact ⟨0, Nat.zero_le _, rfl, rfl, rfl⟩
      case round =>
        obtain ⟨k, hk, rfl, rfl, hall⟩ := hrel
        have hbd := sum_bd _ hall
        have hlt' : (l.take k).length ≤ k := List.length_take_le _ _
        by_cases hlt : k < l.length
        · obtain ⟨b, o, x, rfl, hb, hc, hx⟩ := hA.int_at hlt
          go_wp2
          all_goals first
            | (go_ret; exact ⟨ret_bool (rightB_bad hx.out (by omega)).symm, rfl⟩)
            | (go_round
               case rel => exact ⟨k + 1, by omega, by go_num, by rw [sum_take_of hx.out], by rw [all_take_of _ hx.out, hall]; simp [qOk]; omega⟩
               case measure => simp [intOf]; omega)
        · have hk' : l.take k = l := List.take_of_length_le (by omega)
          have H := hide hk'; clear hk'
          go_wp2
          go_ret
          refine ⟨ret_bool ?_, rfl⟩
          rw [H.out] at hall ⊢
          simp [rightB, hall, hlen, hq]
    · have hq' : q < 0 := by omega
      go_enter Try.func27, Try.ntmps27
      go_wp2
      go_ret
      exact ⟨ret_bool (by simp [rightB]; omega), rfl⟩
  · have hl' : ¬ ((l.length : Int) ≤ 250) := by omega
    go_enter Try.func27, Try.ntmps27
    go_wp2
    go_ret
    exact ⟨ret_bool (by simp [rightB, hlen]), rfl⟩

/-! ### cornhillbook.Same, Within -/
set_option maxHeartbeats 400000 in
theorem same_any (A B : Option Addr) (na nb ca cb : Nat) (l m : List Int) (w : World) (hna : l.length = na) (hnb : m.length = nb) (hl : l.length ≤ 9223372036854775807) (hm : m.length ≤ 9223372036854775807) (hA : Cells w A (i64s l)) (hB : Cells w B (i64s m)) :
    Calls Try.prog 8 #[.slice A na ca, .slice B nb cb] w fun e w' => e = .returned (.bool (decide (l = m))) ∧ ∃ n, w' = w.drewN n := by
  subst hna hnb
  by_cases hlm : l.length = m.length
  · have hlm' : (l.length : Int) = m.length := by omega
    go_enter Try.func8, Try.ntmps8
    go_wp2
    go_loopw [5] (fun i wr => ∃ k n : Nat, k ≤ l.length ∧ i = .int .i64 k ∧ Hid (l.take k = m.take k) ∧ wr = w.drewN n) (fun i _ => l.length - (intOf i).toNat)
    case atStart => exact ⟨0, 0, Nat.zero_le _, rfl, rfl, rfl⟩
    case round =>
      obtain ⟨k, n, hk, rfl, HT, rfl⟩ := hrel
      by_cases hlt : k < l.length
      · have hltm : k < m.length := by omega
        obtain ⟨b, o, x, rfl, hb, hc, hx⟩ := hA.int_at hlt
        obtain ⟨b2, o2, y, rfl, hb2, hc2, hy⟩ := hB.int_at hltm
        have i1 : (k : Int) < l.length := by omega
        have i2 : (k : Int) < m.length := by omega
        by_cases he : x = y
        · subst he
          have he' : (x != x) = false := by simp
          go_wp2
          go_quiet (fail)
          go_wp2
          go_roundw
          case rel => exact ⟨k + 1, _, by omega, by go_num, same_step hx.out hy.out HT.out, by first | rfl | exact World.drewN_drewN _ _ _⟩
          case measure => simp [intOf]; omega
        · have he' : (x != y) = true := by rw [bne_iff_ne]; exact he
          have HE := hide he; clear he
          go_wp2
          go_quiet (fail)
          go_wp2
          go_ret
          refine ⟨ret_bool ?_, _, by first | rfl | exact World.drewN_drewN _ _ _⟩
          symm; rw [decide_eq_false_iff_not]; intro h
          subst h
          exact HE.out (Option.some.inj (hx.out.symm.trans hy.out))
      · go_wp2
        go_ret
        refine ⟨ret_bool ?_, _, rfl⟩
        symm; rw [decide_eq_true_iff]
        have := HT.out
        rwa [List.take_of_length_le (by omega), List.take_of_length_le (by omega)] at this
  · have hlm' : ((l.length : Int) == m.length) = false := by simp; omega
    go_enter Try.func8, Try.ntmps8
    go_wp2
    go_ret
    exact ⟨ret_bool (by symm; rw [decide_eq_false_iff_not]; intro h; rw [h] at hlm; simp at hlm), 0, rfl⟩

theorem same_b (A B : Option Addr) (na nb ca cb : Nat) (l m : List Int) (w : World) (hna : l.length = na) (hnb : m.length = nb) (hl : l.length ≤ 9223372036854775807) (hm : m.length ≤ 9223372036854775807) (hA : Cells w A (i64s l)) (hB : Cells w B (i64s m)) :
    Calls Try.prog 8 #[.slice A na ca, .slice B nb cb] w fun e w' => e = .returned (.bool (decide (l = m))) ∧ Below w.heap.size w w' :=
  (same_any A B na nb ca cb l m w hna hnb hl hm hA hB).mono fun _ _ ⟨he, n, hw⟩ => ⟨he, hw ▸ below_drewN (Below.refl _ _) n⟩

set_option maxHeartbeats 400000 in
theorem within_any (n lo hi : Int) (w : World) (h1 : lo ≤ hi) (h2 : -1099511627776 ≤ lo) (h3 : hi ≤ 1099511627776) :
    Calls Try.prog 14 #[.int .i64 n, .int .i64 lo, .int .i64 hi] w fun e w' => e = .returned (.int .i64 (within n lo hi)) ∧ w = w' := by
  have h0 : (0 : Int) < hi - lo + 1 := by omega
  have hz : ((hi - lo + 1) == 0) = false := by simp; omega
  have ht := tmod_emod n (hi - lo + 1) h0
  have hb1 := Int.emod_nonneg n (show hi - lo + 1 ≠ 0 by omega)
  have hb2 := Int.emod_lt_of_pos n (show 0 < hi - lo + 1 by omega)
  have hb3 : -(hi - lo + 1) ≤ n.tmod (hi - lo + 1) ∧ n.tmod (hi - lo + 1) < hi - lo + 1 := by
    rcases Int.lt_or_le (n.tmod (hi - lo + 1)) 0 with h | h
    · have h4 := ht.1 h
      omega
    · have := ht.2 h
      omega
  have HT := hide ht; clear ht
  unfold within
  go_enter Try.func14, Try.ntmps14
  go_wp2
  · go_ret
    have := HT.out.1 (by assumption)
    refine ⟨ret_int ?_, rfl⟩
    omega
  · go_ret
    have := HT.out.2 (by assumption)
    exact ⟨ret_int (by omega), rfl⟩

/-! ### fifo.Share, the reference's Fill -/
set_option maxHeartbeats 800000 in
theorem share_yes (A : Option Addr) (n cap : Nat) (l : List Int) (q : Int) (w : World) (hn : l.length = n) (hA : Cells w A (i64s l)) (hr : rightB l q = true) :
    Calls Try.prog 16 #[.slice A n cap, .int .i64 q] w (FreshI w 2 (shareL l q)) := by
  subst hn
  have hr' := hr
  simp only [rightB, Bool.and_eq_true, decide_eq_true_eq] at hr'
  obtain ⟨⟨⟨hlen, hq⟩, hall⟩, hqs⟩ := hr'
  have hnn : ∀ n ∈ l, 0 ≤ n := fun n hn => by have := (qOk_iff n).1 (List.all_eq_true.1 hall n hn); omega
  have hq2 := (sum_bd l hall).2
  have H1 := hide hr; clear hr
  have H2 := hide hall; clear hall
  have H3 := hide hnn; clear hnn
  go_enter Try.func16, Try.ntmps16
  go_wp2_with (go_at_call 24; refine (right_any _ _ _ _ _ _ rfl (by omega) hA).mono ?_; rintro e w' ⟨rfl, rfl⟩; rw [H1.out])
  go_loopw [1, 5, 15] (fun s v i wr => ∃ k : Nat, k ≤ l.length ∧ i = .int .i64 k ∧ s = .int .i64 (leftL (l.take k) q) ∧ wr.ownsRow w.heap.size 2 1 v k (i64s (shareL (l.take k) q)) ∧ Below w.heap.size w wr)
    (fun _ _ i _ => l.length - (intOf i).toNat)
  case atStart => exact ⟨0, Nat.zero_le _, rfl, rfl, World.ownsRow_nil _ _ _ _, Below.refl _ _⟩
  case round =>
    obtain ⟨k, hk, rfl, rfl, hown, hbel⟩ := hrel
    have hlb := leftL_bd (l.take k) q (fun n hn => H3.out n (List.mem_of_mem_take hn)) hq
    by_cases hlt : k < l.length
    · obtain ⟨b, o, x, rfl, hb, hc0, hx⟩ := hA.int_at hlt
      have hc := (hbel.cell (p := ⟨b, o + k, none⟩) hb).trans hc0
      have hx0 := H3.out x (mem_of_some hx.out)
      have hs := hbel.size
      clear hc0 hA
      obtain ⟨r, er⟩ : ∃ r, r = leftL (l.take k) q := ⟨_, rfl⟩
      rw [← er] at hlb
      obtain ⟨es1, es2⟩ := shareL_take hx.out q
      rw [← er] at es1 es2 ⊢
      have Er := hide er; clear er
      have E1 := hide es1; clear es1
      have E2 := hide es2; clear es2
      obtain ⟨mn, hmn, hm0, hm1⟩ : ∃ mn, mn = min x r ∧ 0 ≤ mn ∧ mn ≤ r := ⟨_, rfl, by omega, by omega⟩
      rw [← hmn] at E1 E2
      have HM := hide hmn; clear hmn
      have e2 : mn = x ∨ (mn = r ∧ r < x) := by have := HM.out; omega
      have hmx : mn ≤ x := by have := HM.out; omega
      rcases e2 with e2 | ⟨e2, e3⟩
      all_goals
        subst e2
        go_wp2_with (at_builtin; refine wpList_push elI64 hown (.int .i64 mn) rfl _ _ rfl rfl rfl rfl (by omega) (by omega) ?_; intro A' c' w1 hown1 _ hb1)
        go_roundw
        case rel => exact ⟨k + 1, by omega, by go_num, val_int (by have := E2.out; omega), by rw [E1.out]; simpa [i64s] using hown1, hb1 _ _ (Nat.le_refl _) hbel⟩
        case measure => simp [intOf]; omega
    · have hk' : l.take k = l := List.take_of_length_le (by omega)
      rw [hk'] at hown
      obtain rfl : k = l.length := by omega
      have H := hide hk'; clear hk'
      obtain ⟨A', c', rfl, _⟩ := own_shape hown
      go_wp2
      go_ret
      exact Fresh.mk (by simp [length_shareL]) hown hbel
set_option maxHeartbeats 800000 in
theorem refFill_yes (A : Option Addr) (n cap : Nat) (l : List Int) (q : Int) (w : World) (hn : l.length = n) (hA : Cells w A (i64s l)) (hr : rightB l q = true) :
    Calls Try.prog 28 #[.slice A n cap, .int .i64 q] w (FreshI w 2 (shareL l q)) := by
  subst hn
  have hr' := hr
  simp only [rightB, Bool.and_eq_true, decide_eq_true_eq] at hr'
  obtain ⟨⟨⟨hlen, hq⟩, hall⟩, hqs⟩ := hr'
  have hnn : ∀ n ∈ l, 0 ≤ n := fun n hn => by have := (qOk_iff n).1 (List.all_eq_true.1 hall n hn); omega
  have hq2 := (sum_bd l hall).2
  have H1 := hide hr; clear hr
  have H2 := hide hall; clear hall
  have H3 := hide hnn; clear hnn
  go_enter Try.func28, Try.ntmps28
  go_wp2_with fail
  go_loopw [1, 5, 6] (fun s v i wr => ∃ k : Nat, k ≤ l.length ∧ i = .int .i64 k ∧ s = .int .i64 (leftL (l.take k) q) ∧ wr.ownsRow w.heap.size 2 1 v k (i64s (shareL (l.take k) q)) ∧ Below w.heap.size w wr)
    (fun _ _ i _ => l.length - (intOf i).toNat)
  case atStart => exact ⟨0, Nat.zero_le _, rfl, rfl, World.ownsRow_nil _ _ _ _, Below.refl _ _⟩
  case round =>
    obtain ⟨k, hk, rfl, rfl, hown, hbel⟩ := hrel
    have hlb := leftL_bd (l.take k) q (fun n hn => H3.out n (List.mem_of_mem_take hn)) hq
    by_cases hlt : k < l.length
    · obtain ⟨b, o, x, rfl, hb, hc0, hx⟩ := hA.int_at hlt
      have hc := (hbel.cell (p := ⟨b, o + k, none⟩) hb).trans hc0
      have hx0 := H3.out x (mem_of_some hx.out)
      have hs := hbel.size
      clear hc0 hA
      obtain ⟨r, er⟩ : ∃ r, r = leftL (l.take k) q := ⟨_, rfl⟩
      rw [← er] at hlb
      obtain ⟨es1, es2⟩ := shareL_take hx.out q
      rw [← er] at es1 es2 ⊢
      have Er := hide er; clear er
      have E1 := hide es1; clear es1
      have E2 := hide es2; clear es2
      obtain ⟨mn, hmn, hm0, hm1⟩ : ∃ mn, mn = min x r ∧ 0 ≤ mn ∧ mn ≤ r := ⟨_, rfl, by omega, by omega⟩
      rw [← hmn] at E1 E2
      have HM := hide hmn; clear hmn
      have e2 : mn = x ∨ (mn = r ∧ r < x) := by have := HM.out; omega
      have hmx : mn ≤ x := by have := HM.out; omega
      rcases e2 with e2 | ⟨e2, e3⟩
      all_goals
        subst e2
        go_wp2_with (at_builtin; refine wpList_push elI64 hown (.int .i64 mn) rfl _ _ rfl rfl rfl rfl (by omega) (by omega) ?_; intro A' c' w1 hown1 _ hb1)
        go_roundw
        case rel => exact ⟨k + 1, by omega, by go_num, val_int (by have := E2.out; omega), by rw [E1.out]; simpa [i64s] using hown1, hb1 _ _ (Nat.le_refl _) hbel⟩
        case measure => simp [intOf]; omega
    · have hk' : l.take k = l := List.take_of_length_le (by omega)
      rw [hk'] at hown
      obtain rfl : k = l.length := by omega
      have H := hide hk'; clear hk'
      obtain ⟨A', c', rfl, _⟩ := own_shape hown
      go_wp2
      go_ret
      exact Fresh.mk (by simp [length_shareL]) hown hbel
theorem share_any (A : Option Addr) (n cap : Nat) (l : List Int) (q : Int) (w : World) (hn : l.length = n) (hl : l.length ≤ 9223372036854775807) (hA : Cells w A (i64s l)) :
    Calls Try.prog 16 #[.slice A n cap, .int .i64 q] w (FreshI w 2 (shareB l q)) := by
  subst hn
  unfold shareB
  by_cases hr : rightB l q = true
  · rw [if_pos hr]; exact share_yes A _ cap l q w rfl hA hr
  · rw [if_neg hr]
    have hr' : rightB l q = false := by simpa using hr
    have H1 := hide hr'; clear hr' hr
    go_enter Try.func16, Try.ntmps16
    go_wp2_with (go_at_call 24; refine (right_any _ _ _ _ _ _ rfl hl hA).mono ?_; rintro e w' ⟨rfl, rfl⟩; rw [H1.out])
    go_ret
    exact Fresh.nil _ _ _
theorem refShare_any (A : Option Addr) (n cap : Nat) (l : List Int) (q : Int) (w : World) (hn : l.length = n) (hl : l.length ≤ 9223372036854775807) (hA : Cells w A (i64s l)) :
    Calls Try.prog 21 #[.slice A n cap, .int .i64 q] w (FreshI w 2 (shareB l q)) := by
  subst hn
  unfold shareB
  by_cases hr : rightB l q = true
  · rw [if_pos hr]
    have H1 := hide hr; clear hr
    go_enter Try.func21, Try.ntmps21
    go_wp2_with (first
      | (go_at_call 27; refine (refRight_any _ _ _ _ _ _ rfl hl hA).mono ?_; rintro e w' ⟨rfl, rfl⟩; rw [H1.out])
      | (go_at_call 28; refine (refFill_yes _ _ _ _ _ _ rfl hA H1.out).mono ?_; rintro e w' ⟨A', c', rfl, hown⟩))
    go_ret
    exact ⟨_, _, rfl, hown⟩
  · rw [if_neg hr]
    have hr' : rightB l q = false := by simpa using hr
    have H1 := hide hr'; clear hr' hr
    go_enter Try.func21, Try.ntmps21
    go_wp2_with (go_at_call 27; refine (refRight_any _ _ _ _ _ _ rfl hl hA).mono ?_; rintro e w' ⟨rfl, rfl⟩; rw [H1.out])
    go_ret
    exact Fresh.nil _ _ _

/-! ### The laws' own sizes and sum -/
end Go.Proofs.Ytglcdamdjjbjhaa
