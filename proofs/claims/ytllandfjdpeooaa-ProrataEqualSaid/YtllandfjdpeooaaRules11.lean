/-
  The walk of ProrataRules.
-/
import Derived.Test.YtllandfjdpeooaaTells11
namespace Go.Proofs.Ytllandfjdpeooaa
open Go.RowKit
set_option linter.unusedVariables false

/-- What holds of shares by size. -/
structure ByOk (l : List Int) (least q : Int) : Prop where
  len : (byL l least q).length = l.length
  sum : (byL l least q).sum = q
  at_ : ∀ (i : Nat) (n : Int), l[i]? = some n → ∃ x, (byL l least q)[i]? = some x ∧ 0 ≤ x ∧ x ≤ n ∧ byV l.sum q least n ≤ x
theorem by_ok {l : List Int} {least q : Int} (hb : ∀ n ∈ l, 0 ≤ n) (hq : 0 ≤ q) (hqa : q ≤ l.sum) (h1 : 1 ≤ least) : ByOk l least q := by
  have hst := first_sum hb hq hqa h1
  have hnn := sub_first_nn (all := l.sum) hb hq hqa h1
  have hsl : (subL l (firstL l.sum q least l)).length = l.length := length_subL (length_firstL _ _ _ _).symm
  have hss := sum_subL l (firstL l.sum q least l) (length_firstL _ _ _ _).symm
  refine ⟨length_byL _ _ _, ?_, fun i n hn => ?_⟩
  · unfold byL
    rw [sum_addL _ _ (by rw [length_shareL, hsl, length_firstL]), shareL_sum hnn (by omega) (by omega)]
    omega
  · have hf := firstL_at (all := l.sum) (q := q) (least := least) hn
    have hs := subL_at hn hf
    have hlt : i < (shareL (subL l (firstL l.sum q least l)) (q - (firstL l.sum q least l).sum)).length := by rw [length_shareL]; exact lt_of_some hs
    have hz := List.getElem?_eq_getElem hlt
    have hzb := shareL_bd hnn (by omega) hz hs
    have hv := byV_bd (all := l.sum) (hb n (mem_of_some hn)) hq hqa h1
    refine ⟨_, addL_at hf hz, by omega, by omega, by omega⟩
structure ShOk (l : List Int) (top most least q : Int) : Prop where
  len : (shareP l top most least q).length = l.length
  sum : (shareP l top most least q).sum = q
  at_ : ∀ (i : Nat) (n : Int), l[i]? = some n → ∃ x, (shareP l top most least q)[i]? = some x ∧ 0 ≤ x ∧ x ≤ n
  top : ∀ (t : Nat) (n : Int), top = t → l[t]? = some n → ∃ x, (shareP l top most least q)[t]? = some x ∧ min n (min most q) ≤ x
theorem sh_ok {l : List Int} {top most least q : Int} (hr : rightB l q = true) (h1 : 1 ≤ least) (hm : 0 ≤ most) : ShOk l top most least q := by
  obtain ⟨hlen, hq, hb, hqa⟩ := (rightB_iff l q).1 hr
  obtain ⟨k0, kq, kb, bd, sub, sum⟩ := top_ok (top := top) hb hq hm
  have hfl := length_firstTop l top most q
  have hsl := length_subL hfl.symm
  have hby := by_ok (least := least) (q := q - topK l top most q) (fun m hm => (sub m hm).1) (by omega) (by rw [sum]; omega) h1
  have hp : shareP l top most least q = addL (firstTop l top most q) (byL (subL l (firstTop l top most q)) least (q - topK l top most q)) := by rw [shareP, if_pos ⟨hr, h1, hm⟩]
  have hfs : (firstTop l top most q).sum = topK l top most q := by
    have := sum_subL l _ hfl.symm
    omega
  have each : ∀ (i : Nat) (n : Int), l[i]? = some n → ∃ f x, (firstTop l top most q)[i]? = some f ∧ (shareP l top most least q)[i]? = some x ∧ 0 ≤ f ∧ f ≤ x ∧ x ≤ n := by
    intro i n hn
    have hi := lt_of_some hn
    have hf : (firstTop l top most q)[i]? = some (firstTop l top most q)[i] := List.getElem?_eq_getElem (by omega)
    have hfb := bd _ (List.getElem_mem (by omega : i < (firstTop l top most q).length))
    obtain ⟨x, hx, x0, x1, _⟩ := hby.at_ i _ (subL_at hn hf)
    exact ⟨_, _, hf, by rw [hp]; exact addL_at hf hx, hfb.1, by omega, by omega⟩
  refine ⟨?_, ?_, fun i n hn => ?_, fun t n ht hn => ?_⟩
  · rw [hp, length_addL (by rw [hby.len, hsl, hfl]), hfl]
  · rw [hp, sum_addL _ _ (by rw [hby.len, hsl, hfl]), hby.sum, hfs]; omega
  · obtain ⟨f, x, _, hx, h0, h2, h3⟩ := each i n hn
    exact ⟨x, hx, by omega, h3⟩
  · obtain ⟨f, x, hf, hx, h0, h2, h3⟩ := each t n hn
    refine ⟨x, hx, ?_⟩
    have hlt := lt_of_some hn
    have hin : 0 ≤ top ∧ top < l.length := by omega
    have e : topK l top most q = min n (min most q) := by
      rw [topK, if_pos hin, ht]; simp [List.getD, hn]
    have : f = topK l top most q := by
      rw [firstTop, if_pos hin, ht, Int.toNat_natCast, List.getElem?_set_self (by simp; exact hlt)] at hf
      have := Option.some.inj hf
      rw [ht]; exact this.symm
    omega
set_option maxRecDepth 100000 in
set_option maxHeartbeats 3200000 in
theorem prorataRules_walk (A0 : Option Addr) (c0 : Nat) (l0 : List Int) (a1 a2 a3 a4 : Int) (w : World) (h0 : ArgI .i64 w A0 c0 l0) (_w1 : (Lit.int .i64 a1).wf = true) (_w2 : (Lit.int .i64 a2).wf = true) (_w3 : (Lit.int .i64 a3).wf = true) (_w4 : (Lit.int .i64 a4).wf = true) :
    Calls Try.prog 5 #[.slice A0 l0.length c0, .int .i64 a1, .int .i64 a2, .int .i64 a3, .int .i64 a4] w fun e w' => e = .returned (.bool true) ∧ Below w.heap.size w w' := by
  have hlen : l0.length ≤ 9223372036854775807 := by have := h0.le; have := h0.max; unfold maxLen at this; omega
  have hA0 := h0.cells
  clear h0
  have hs1 := sizesL_length l0
  have hs2 : ∀ n ∈ sizesL l0, 1 ≤ n ∧ n ≤ 1000000 := sizesL_bd l0
  have hs3 := isum_bd (sizesL l0) (fun n hn => by have := hs2 n hn; omega : ∀ n ∈ sizesL l0, 0 ≤ n ∧ n ≤ 1000000)
  obtain ⟨s, es⟩ : ∃ s, s = sizesL l0 := ⟨_, rfl⟩
  rw [← es] at hs1 hs2 hs3
  have Es := hide es; have Hs2 := hide hs2
  have hT1 : s.length = 0 ∨ 1 ≤ s.sum := by
    rcases s with _ | ⟨x, s⟩
    · exact .inl rfl
    · refine .inr ?_
      have h0 := hs2 x List.mem_cons_self
      have h2 := isum_nn s fun n hn => by have := hs2 n (List.mem_cons_of_mem _ hn); omega
      simp only [List.sum_cons]; omega
  have HT1 := hide hT1
  clear es hs2 hT1
  go_enter Try.func5, Try.ntmps5
  go_wp2_with fail
  refine (sizes11_any A0 _ c0 l0 _ rfl hlen hA0).mono ?_
  rw [← Es.out]
  rintro e w1 ⟨A, c, rfl, -, hA, -, -, B1⟩
  go_wp2_with fail
  refine (sum11_any A _ c s _ rfl (by omega) (fun n hn => by have := Hs2.out n hn; omega) hA).mono ?_
  rintro e w2 ⟨rfl, rfl⟩
  have hkb := within_bd a3 0 s.sum hs3.1
  go_wp2_with fail
  refine (within_any a3 0 s.sum _ hs3.1 (by omega) (by omega)).mono ?_
  rintro e w2 ⟨rfl, rfl⟩
  obtain ⟨k, ek⟩ : ∃ k, k = within a3 0 s.sum := ⟨_, rfl⟩
  rw [← ek] at hkb ⊢
  clear ek
  have hn := within_bd a4 0 9 (by omega)
  go_wp2_with fail
  refine (within_any a4 0 9 _ (by omega) (by omega) (by omega)).mono ?_
  rintro e w2 ⟨rfl, rfl⟩
  obtain ⟨n, en⟩ : ∃ n, n = within a4 0 9 := ⟨_, rfl⟩
  rw [← en] at hn ⊢
  clear en
  have hr : rightB s k = true := (rightB_iff s k).2 ⟨by omega, hkb.1, Hs2.out, hkb.2⟩
  have hby := by_ok (l := s) (least := 1 + n) (q := k) (fun m hm => by have := Hs2.out m hm; omega) hkb.1 hkb.2 (by omega)
  obtain ⟨X, eX⟩ : ∃ X, X = byL s (1 + n) k := ⟨_, rfl⟩
  have hXl := hby.len
  have hXs := hby.sum
  have hXa := hby.at_
  rw [← eX] at hXl hXs hXa
  obtain ⟨T, eT⟩ : ∃ T, T = s.sum := ⟨_, rfl⟩
  rw [← eT] at hs3 hkb hXa ⊢
  have HR := hide hr; have EX := hide eX; have XL := hide hXl; have XS := hide hXs; have XA := hide hXa; have ET := hide eT
  clear hr hby eX hXl hXs hXa eT
  go_wp2_with fail
  refine (plain_yes A _ c s (1 + n) k _ rfl HR.out (by omega) hA).mono ?_
  rw [← EX.out]
  intro e w2 h
  obtain ⟨A2, c2, rfl, -, hA2, -, -, hb⟩ := h.n XL.out
  have B2 := nxt B1 hb
  have hA1 := hA.below hb
  clear h hb hA B1
  have hXb : ∀ x ∈ X, 0 ≤ x ∧ x ≤ 1000000 := by
    intro x hx
    obtain ⟨i, hi⟩ := List.getElem?_of_mem hx
    have hlt := lt_of_some hi
    rw [XL.out] at hlt
    obtain ⟨y, hy, y0, y1, _⟩ := XA.out i s[i] (List.getElem?_eq_getElem hlt)
    have := Hs2.out _ (List.getElem_mem hlt)
    have : x = y := Option.some.inj (hi.symm.trans hy)
    omega
  have XB := hide hXb
  clear hXb
  go_wp2_with fail
  refine (sum11_any A2 _ c2 X _ XL.out (by rw [XL.out]; omega) XB.out hA2).mono ?_
  rintro e w3 ⟨rfl, rfl⟩
  rw [XS.out]
  go_wp2_with fail
  go_loopw [16] (fun i wr => ∃ j : Nat, j ≤ s.length ∧ i = .int .i64 j ∧ Below w2.heap.size w2 wr) (fun i _ => s.length - (intOf i).toNat)
  case atStart => exact ⟨0, Nat.zero_le _, rfl, Below.refl _ _⟩
  case round =>
    obtain ⟨j, hj, rfl, hbel⟩ := hrel
    by_cases hlt : j < s.length
    · obtain ⟨b1, o1, m, rfl, hb1, hc1', hm⟩ := hA1.int_at (k := j) hlt
      obtain ⟨b2, o2, x, rfl, hb2, hc2', hx⟩ := hA2.int_at (k := j) (by rw [XL.out]; exact hlt)
      have hc1 := (hbel.cell (p := ⟨b1, o1 + j, none⟩) hb1).trans hc1'
      have hc2 := (hbel.cell (p := ⟨b2, o2 + j, none⟩) hb2).trans hc2'
      have hmb := Hs2.out m (mem_of_some hm.out)
      obtain ⟨x', hx', x0, x1, x2⟩ := XA.out j m hm.out
      obtain rfl : x = x' := Option.some.inj (hx.out.symm.trans hx')
      have hT : 1 ≤ T := by rw [ET.out]; have := HT1.out; omega
      have hsm := share_small (x := m) (q := k) (all := T) (by omega) hmb.2 hkb.1 hkb.2 hT
      obtain ⟨V, hV⟩ : ∃ V, V = m * k / T := ⟨_, rfl⟩
      have hv : 1 + n ≤ V → V ≤ x := fun h => by
        unfold byV at x2
        rw [← hV, if_pos h] at x2
        exact x2
      have hVb : 0 ≤ V ∧ V ≤ 1000000 := by
        have h := byV_bd (least := 1) (all := T) (by omega : 0 ≤ m) hkb.1 hkb.2 (by omega)
        have h0 : 0 ≤ m * k / T := Int.ediv_nonneg (Int.mul_nonneg (by omega) hkb.1) (by omega)
        unfold byV at h
        split at h <;> omega
      rw [← hV] at hsm
      have SM := hide hsm; have HV := hide hv
      have i1 : (j : Int) < s.length := by omega
      have d1 : decide (x < 0) = false := by simp; omega
      have d2 : decide (m < x) = false := by simp; omega
      clear hx' x2 hsm hV hv hc1' hc2'
      rcases dec (1 + n ≤ V) with ⟨t1, d3⟩ | ⟨t1, d3⟩
      · have d4 : decide (x < V) = false := by have := HV.out t1; simp; omega
        clear hA1 hA2
        go_wp2_with fail
        refine (ishare_any _ _ _ _ (by omega) (by omega) (by omega)).mono ?_
        rintro e w' ⟨rfl, mm, rfl⟩
        rw [SM.out]
        go_wp2_with fail
        go_quiet (fail)
        go_wp2_with fail
        go_roundw
        case rel => exact ⟨j + 1, by omega, by go_num, below_drewN hbel _⟩
        case measure => simp [intOf]; omega
      · clear hA1 hA2
        go_wp2_with fail
        refine (ishare_any _ _ _ _ (by omega) (by omega) (by omega)).mono ?_
        rintro e w' ⟨rfl, mm, rfl⟩
        rw [SM.out]
        go_wp2_with fail
        go_quiet (fail)
        go_wp2_with fail
        go_roundw
        case rel => exact ⟨j + 1, by omega, by go_num, below_drewN hbel _⟩
        case measure => simp [intOf]; omega
    · have hend := hlt
      clear hlt
      have hA1' := hA1.below hbel
      have B3 := nxt B2 hbel
      clear hA1 hA2
      rcases Nat.eq_zero_or_pos s.length with hz | hz
      · have z1 : ((s.length : Int) == 0) = true := by simp; exact List.eq_nil_of_length_eq_zero hz
        have HZ := hide hz
        clear hz
        go_wp2_with fail
        refine (known11_any _).mono ?_
        rintro e w4 ⟨rfl, hb⟩
        go_wp2
        go_ret
        exact ⟨rfl, nxt B3 hb⟩
      · have z1 : ((s.length : Int) == 0) = false := by simp; rintro rfl; simp at hz
        have ht := within_bd a1 0 ((s.length : Int) - 1) (by omega)
        go_wp2_with fail
        refine (within_any a1 0 ((s.length : Int) - 1) _ (by omega) (by omega) (by omega)).mono ?_
        rintro e w4 ⟨rfl, rfl⟩
        obtain ⟨t, et⟩ : ∃ t : Nat, (t : Int) = within a1 0 ((s.length : Int) - 1) := ⟨(within a1 0 ((s.length : Int) - 1)).toNat, by omega⟩
        rw [← et] at ht ⊢
        clear et
        have hmb := within_bd a2 0 1000000 (by omega)
        go_wp2_with fail
        refine (within_any a2 0 1000000 _ (by omega) (by omega) (by omega)).mono ?_
        rintro e w4 ⟨rfl, rfl⟩
        obtain ⟨m, em⟩ : ∃ m, m = within a2 0 1000000 := ⟨_, rfl⟩
        rw [← em] at hmb ⊢
        clear em
        have hsh := sh_ok (top := (t : Int)) (most := m) HR.out (by omega : 1 ≤ 1 + n) hmb.1
        obtain ⟨Y, eY⟩ : ∃ Y, Y = shareP s t m (1 + n) k := ⟨_, rfl⟩
        have hYl := hsh.len
        have hYs := hsh.sum
        have hYa := hsh.at_
        have htl : t < s.length := by omega
        obtain ⟨ys, hyt, hyt2⟩ := hsh.top t s[t] rfl (List.getElem?_eq_getElem htl)
        rw [← eY] at hYl hYs hYa hyt
        have EY := hide eY; have YL := hide hYl; have YS := hide hYs; have YA := hide hYa; have YT := hide hyt
        clear hsh eY hYl hYs hYa hyt
        go_wp2_with fail
        refine (pshare_any A _ c s t m (1 + n) k _ rfl (by omega) hA1').mono ?_
        rw [← EY.out]
        intro e w4 h
        obtain ⟨A4, c4, rfl, -, hA4, -, -, hb⟩ := h.n YL.out
        have B4 := nxt B3 hb
        have hA14 := hA1'.below hb
        clear h hb hA1' B3
        have hYb : ∀ x ∈ Y, 0 ≤ x ∧ x ≤ 1000000 := by
          intro x hx
          obtain ⟨i, hi⟩ := List.getElem?_of_mem hx
          have hlt := lt_of_some hi
          rw [YL.out] at hlt
          obtain ⟨y, hy, y0, y1⟩ := YA.out i s[i] (List.getElem?_eq_getElem hlt)
          have := Hs2.out _ (List.getElem_mem hlt)
          have : x = y := Option.some.inj (hi.symm.trans hy)
          omega
        have YB := hide hYb
        clear hYb
        go_wp2_with fail
        refine (sum11_any A4 _ c4 Y _ YL.out (by rw [YL.out]; omega) YB.out hA4).mono ?_
        rintro e w5 ⟨rfl, rfl⟩
        rw [YS.out]
        obtain ⟨b1, o1, x, rfl, hb1, hc1, hx⟩ := hA14.int_at (k := t) htl
        have hxt : s[t] = x := by have := hx.out; rw [List.getElem?_eq_getElem htl] at this; exact Option.some.inj this
        rw [hxt] at hyt2
        clear hxt
        have HYT2 := hide hyt2
        have i1 : (t : Int) < s.length := by omega
        clear hyt2
        go_upto_if 129 with (fail)
        go_cut [22] (fun v wx => v = .int .i64 (min m k) ∧ w4 = wx)
        case first =>
          by_cases h : k < m
          · have e : min m k = k := by omega
            go_wp2
            go_meet
            exact ⟨by rw [e], rfl⟩
          · have e : min m k = m := by omega
            go_wp2
            go_meet
            exact ⟨by rw [e], rfl⟩
        obtain ⟨rfl, rfl⟩ := hcut
        obtain ⟨mk, emk⟩ : ∃ mk, mk = min m k := ⟨_, rfl⟩
        have hy2 := HYT2.out
        rw [← emk] at hy2 ⊢
        have HY2 := hide hy2
        clear emk hy2 HYT2
        go_upto_if 136 with (fail)
        go_cut [22] (fun v wx => v = .int .i64 (min x mk) ∧ w4 = wx)
        case first =>
          by_cases h : x < mk
          · have e : min x mk = x := by omega
            go_wp2
            go_meet
            exact ⟨by rw [e], rfl⟩
          · have e : min x mk = mk := by omega
            go_wp2
            go_meet
            exact ⟨by rw [e], rfl⟩
        obtain ⟨rfl, rfl⟩ := hcut
        obtain ⟨fi, efi⟩ : ∃ fi, fi = min x mk := ⟨_, rfl⟩
        have hy2 := HY2.out
        rw [← efi] at hy2 ⊢
        have d7 : decide (fi ≤ ys) = true := by simpa using hy2
        clear efi hy2 HY2 hc1
        go_wp2_with fail
        go_loopw [23] (fun i wr => ∃ j : Nat, j ≤ s.length ∧ i = .int .i64 j ∧ Below w4.heap.size w4 wr) (fun i _ => s.length - (intOf i).toNat)
        case atStart => exact ⟨0, Nat.zero_le _, rfl, Below.refl _ _⟩
        case round =>
          obtain ⟨j, hj, rfl, hbel2⟩ := hrel
          by_cases hlt : j < s.length
          · obtain ⟨b1', o1', m', he, hb1', hc1', hm'⟩ := hA14.int_at (k := j) hlt
            obtain ⟨rfl, rfl⟩ : b1 = b1' ∧ o1 = o1' := by simpa using he
            obtain ⟨b2, o2, y, rfl, hb2, hc2', hy⟩ := hA4.int_at (k := j) (by rw [YL.out]; exact hlt)
            have hc1 := (hbel2.cell (p := ⟨b1, o1 + j, none⟩) hb1).trans hc1'
            have hc2 := (hbel2.cell (p := ⟨b2, o2 + j, none⟩) hb2).trans hc2'
            obtain ⟨y', hy', y0, y1⟩ := YA.out j m' hm'.out
            obtain rfl : y = y' := Option.some.inj (hy.out.symm.trans hy')
            have i2 : (j : Int) < s.length := by omega
            have d5 : decide (y < 0) = false := by simp; omega
            have d6 : decide (m' < y) = false := by simp; omega
            clear hy' hc1' hc2' hA4 hA14 he
            go_wp2_with fail
            go_quiet (fail)
            go_wp2_with fail
            go_roundw
            case rel => exact ⟨j + 1, by omega, by go_num, below_drewN hbel2 _⟩
            case measure => simp [intOf]; omega
          · obtain ⟨b2, o2, y, rfl, hb2, hc2', hy⟩ := hA4.int_at (k := t) (by rw [YL.out]; exact htl)
            obtain rfl : y = ys := Option.some.inj (hy.out.symm.trans YT.out)
            have hc2 := (hbel2.cell (p := ⟨b2, o2 + t, none⟩) hb2).trans hc2'
            have B5 := nxt B4 hbel2
            clear hA4 hA14 hc2'
            go_wp2_with fail
            refine (known11_any _).mono ?_
            rintro e w6 ⟨rfl, hb⟩
            go_wp2
            go_ret
            exact ⟨rfl, nxt B5 hb⟩
end Go.Proofs.Ytllandfjdpeooaa
