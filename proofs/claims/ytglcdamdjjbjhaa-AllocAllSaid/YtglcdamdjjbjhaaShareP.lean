/-
  What prorata.Share and the document's own compute.
-/
import Derived.Test.YtglcdamdjjbjhaaRest
namespace Go.Proofs.Ytglcdamdjjbjhaa
open Go.RowKit
set_option linter.unusedVariables false

/-- What the top order has ahead. -/
def topK (l : List Int) (top most q : Int) : Int := if 0 ≤ top ∧ top < l.length then min (l.getD top.toNat 0) (min most q) else 0
def firstTop (l : List Int) (top most q : Int) : List Int := if 0 ≤ top ∧ top < l.length then (List.replicate l.length 0).set top.toNat (topK l top most q) else List.replicate l.length 0
def shareP (l : List Int) (top most least q : Int) : List Int :=
  if rightB l q = true ∧ 1 ≤ least ∧ 0 ≤ most then addL (firstTop l top most q) (byL (subL l (firstTop l top most q)) least (q - topK l top most q)) else []
theorem length_firstTop (l : List Int) (top most q : Int) : (firstTop l top most q).length = l.length := by unfold firstTop; split <;> simp
structure TopOk (l : List Int) (top most q : Int) : Prop where
  k0 : 0 ≤ topK l top most q
  kq : topK l top most q ≤ q
  kb : topK l top most q ≤ 1000000
  bd : ∀ m ∈ firstTop l top most q, 0 ≤ m ∧ m ≤ 1000000
  sub : ∀ m ∈ subL l (firstTop l top most q), 0 ≤ m ∧ m ≤ 1000000
  sum : (subL l (firstTop l top most q)).sum = l.sum - topK l top most q
theorem sum_set_rep : ∀ (n i : Nat) (v : Int), i < n → ((List.replicate n (0 : Int)).set i v).sum = v
  | 0, i, v, h => by omega
  | n + 1, 0, v, h => by simp [List.replicate_succ]
  | n + 1, i + 1, v, h => by
    have ih := sum_set_rep n i v (by omega)
    simp [List.replicate_succ, ih]
theorem top_ok {l : List Int} {top most q : Int} (hb : ∀ n ∈ l, 1 ≤ n ∧ n ≤ 1000000) (hq : 0 ≤ q) (hm : 0 ≤ most) : TopOk l top most q := by
  by_cases h : 0 ≤ top ∧ top < l.length
  · have hlt : top.toNat < l.length := by omega
    have hg : l.getD top.toNat 0 = l[top.toNat] := by simp [List.getD, List.getElem?_eq_getElem hlt]
    have hgb := hb _ (List.getElem_mem hlt)
    have ek : topK l top most q = min l[top.toNat] (min most q) := by rw [topK, if_pos h, hg]
    have ef : firstTop l top most q = (List.replicate l.length 0).set top.toNat (topK l top most q) := by rw [firstTop, if_pos h]
    have k0 : 0 ≤ topK l top most q := by rw [ek]; omega
    have kb : topK l top most q ≤ 1000000 := by rw [ek]; omega
    have kl : topK l top most q ≤ l[top.toNat] := by rw [ek]; omega
    have kq : topK l top most q ≤ q := by rw [ek]; omega
    have bd : ∀ m ∈ firstTop l top most q, 0 ≤ m ∧ m ≤ 1000000 := by
      rw [ef]
      intro m hm
      rcases List.mem_or_eq_of_mem_set hm with h1 | rfl
      · obtain ⟨_, rfl⟩ := List.mem_replicate.1 h1
        decide
      · exact ⟨k0, kb⟩
    refine ⟨k0, kq, kb, bd, ?_, ?_⟩
    · intro m hm
      obtain ⟨i, hi⟩ := List.getElem?_of_mem hm
      simp only [subL, List.getElem?_zipWith] at hi
      cases hx : l[i]? with
      | none => simp [hx] at hi
      | some x =>
        cases hy : (firstTop l top most q)[i]? with
        | none => simp [hx, hy] at hi
        | some y =>
          simp [hx, hy] at hi
          have hxb := hb x (List.mem_of_getElem? hx)
          rw [ef, List.getElem?_set] at hy
          split at hy
          · rename_i he
            subst he
            split at hy
            · have h1 : l[top.toNat] = x := by rw [List.getElem?_eq_getElem hlt] at hx; exact Option.some.inj hx
              have h2 := Option.some.inj hy
              omega
            · cases hy
          · simp only [List.getElem?_replicate] at hy
            split at hy
            · have h2 := Option.some.inj hy
              omega
            · cases hy
    · rw [sum_subL _ _ (length_firstTop _ _ _ _).symm, ef, sum_set_rep _ _ _ hlt]
  · have ek : topK l top most q = 0 := by rw [topK, if_neg h]
    have ef : firstTop l top most q = List.replicate l.length 0 := by rw [firstTop, if_neg h]
    have z : (List.replicate l.length (0 : Int)).sum = 0 := by simp
    refine ⟨by omega, by omega, by omega, ?_, ?_, ?_⟩
    · rw [ef]
      intro m hm
      obtain ⟨_, rfl⟩ := List.mem_replicate.1 hm
      decide
    · rw [ef]
      intro m hm
      obtain ⟨i, hi⟩ := List.getElem?_of_mem hm
      simp only [subL, List.getElem?_zipWith, List.getElem?_replicate] at hi
      cases hx : l[i]? with
      | none => simp [hx] at hi
      | some x =>
        have hil := lt_of_some hx
        rw [hx, if_pos hil] at hi
        simp only [Option.some.injEq] at hi
        have hxb := hb x (List.mem_of_getElem? hx)
        have hi' : x - 0 = m := by simpa using hi
        omega
    · rw [sum_subL _ _ (length_firstTop _ _ _ _).symm, ef, z, ek]
theorem shareP_length (l : List Int) (top most least q : Int) : (shareP l top most least q).length ≤ 250 := by
  unfold shareP
  split
  · rename_i h
    have := ((rightB_iff l q).1 h.1).1
    rw [length_addL (by rw [length_byL, length_subL (length_firstTop _ _ _ _).symm, length_firstTop]), length_firstTop]
    exact this
  · simp

theorem pshare_no (A : Option Addr) (n c : Nat) (l : List Int) (top most least q : Int) (w : World) (hn : l.length = n) (hl : l.length ≤ 9223372036854775807) (hA : Cells w A (i64s l)) (hno : ¬ (rightB l q = true ∧ 1 ≤ least ∧ 0 ≤ most)) :
    Calls Try.prog 17 #[.slice A n c, .int .i64 top, .int .i64 most, .int .i64 least, .int .i64 q] w (FreshI w 2 []) := by
  subst hn
  cases hr : rightB l q
  · have HR := hide hr
    clear hr hno
    go_enter Try.func17, Try.ntmps17
    go_wp2_with fail
    refine (right_any _ _ _ l q _ rfl hl hA).mono ?_
    rintro e w' ⟨rfl, rfl⟩
    rw [HR.out]
    go_wp2
    go_ret
    exact Fresh.nil _ _ _
  · have HR := hide hr
    rcases dec (least < 1) with ⟨h1, d1⟩ | ⟨h1, d1⟩
    · clear hr hno
      go_enter Try.func17, Try.ntmps17
      go_wp2_with fail
      refine (right_any _ _ _ l q _ rfl hl hA).mono ?_
      rintro e w' ⟨rfl, rfl⟩
      rw [HR.out]
      go_wp2
      go_ret
      exact Fresh.nil _ _ _
    · rcases dec (most < 0) with ⟨h2, d2⟩ | ⟨h2, d2⟩
      · clear hr hno
        go_enter Try.func17, Try.ntmps17
        go_wp2_with fail
        refine (right_any _ _ _ l q _ rfl hl hA).mono ?_
        rintro e w' ⟨rfl, rfl⟩
        rw [HR.out]
        go_wp2
        go_ret
        exact Fresh.nil _ _ _
      · exact (hno ⟨hr, by omega, by omega⟩).elim
theorem rshare_no (A : Option Addr) (n c : Nat) (l : List Int) (top most least q : Int) (w : World) (hn : l.length = n) (hl : l.length ≤ 9223372036854775807) (hA : Cells w A (i64s l)) (hno : ¬ (rightB l q = true ∧ 1 ≤ least ∧ 0 ≤ most)) :
    Calls Try.prog 22 #[.slice A n c, .int .i64 top, .int .i64 most, .int .i64 least, .int .i64 q] w (FreshI w 2 []) := by
  subst hn
  cases hr : rightB l q
  · have HR := hide hr
    clear hr hno
    go_enter Try.func22, Try.ntmps22
    go_wp2_with fail
    refine (refRight_any _ _ _ l q _ rfl hl hA).mono ?_
    rintro e w' ⟨rfl, rfl⟩
    rw [HR.out]
    go_wp2
    go_ret
    exact Fresh.nil _ _ _
  · have HR := hide hr
    rcases dec (least < 1) with ⟨h1, d1⟩ | ⟨h1, d1⟩
    · clear hr hno
      go_enter Try.func22, Try.ntmps22
      go_wp2_with fail
      refine (refRight_any _ _ _ l q _ rfl hl hA).mono ?_
      rintro e w' ⟨rfl, rfl⟩
      rw [HR.out]
      go_wp2
      go_ret
      exact Fresh.nil _ _ _
    · rcases dec (most < 0) with ⟨h2, d2⟩ | ⟨h2, d2⟩
      · clear hr hno
        go_enter Try.func22, Try.ntmps22
        go_wp2_with fail
        refine (refRight_any _ _ _ l q _ rfl hl hA).mono ?_
        rintro e w' ⟨rfl, rfl⟩
        rw [HR.out]
        go_wp2
        go_ret
        exact Fresh.nil _ _ _
      · exact (hno ⟨hr, by omega, by omega⟩).elim
set_option maxHeartbeats 3200000 in
theorem pshare_any (A : Option Addr) (n c : Nat) (l : List Int) (top most least q : Int) (w : World) (hn : l.length = n) (hl : l.length ≤ 9223372036854775807) (hA : Cells w A (i64s l)) :
    Calls Try.prog 17 #[.slice A n c, .int .i64 top, .int .i64 most, .int .i64 least, .int .i64 q] w (FreshI w 2 (shareP l top most least q)) := by
  unfold shareP
  by_cases hok : rightB l q = true ∧ 1 ≤ least ∧ 0 ≤ most
  · rw [if_pos hok]
    subst hn
    obtain ⟨hr, h1, h2⟩ := hok
    obtain ⟨hlen, hq, hb, hqa⟩ := (rightB_iff l q).1 hr
    obtain ⟨k0, kq, kb, bd, sub, sum⟩ := top_ok (top := top) hb hq h2
    have hfl := length_firstTop l top most q
    have hft : 0 ≤ top ∧ top < l.length → ∃ (t : Nat) (x : Int), top = t ∧ t < l.length ∧ l[t]? = some x ∧ topK l top most q = min x (min most q) ∧ firstTop l top most q = (List.replicate l.length 0).set t (topK l top most q) := fun h => by
      have hlt : top.toNat < l.length := by omega
      refine ⟨top.toNat, l[top.toNat], by omega, hlt, List.getElem?_eq_getElem hlt, ?_, by rw [firstTop, if_pos h]⟩
      rw [topK, if_pos h]; simp [List.getD, List.getElem?_eq_getElem hlt]
    have hfn : ¬ (0 ≤ top ∧ top < l.length) → topK l top most q = 0 ∧ firstTop l top most q = List.replicate l.length 0 := fun h => by rw [topK, firstTop, if_neg h, if_neg h]; exact ⟨rfl, rfl⟩
    obtain ⟨F, hF⟩ : ∃ F, F = firstTop l top most q := ⟨_, rfl⟩
    obtain ⟨K, hK⟩ : ∃ K, K = topK l top most q := ⟨_, rfl⟩
    rw [← hF] at bd sub sum hfl hft hfn ⊢
    rw [← hK] at k0 kq kb sum hft hfn ⊢
    have HR := hide hr; have HB := hide hb; have BD := hide bd; have SUB := hide sub; have SUM := hide sum; have HFL := hide hfl; have HFT := hide hft; have HFN := hide hfn
    have hqb : q ≤ 250000000 := by
      have := (isum_bd l (fun n hn => by have := hb n hn; omega : ∀ n ∈ l, 0 ≤ n ∧ n ≤ 1000000)).2
      omega
    have hw : wrap64 (q - K) = q - K := by unfold wrap64; omega
    have hqs : q - K ≤ (subL l F).sum := by rw [sum]; omega
    have HQS := hide hqs
    clear hr hb bd sub sum hfl hft hfn hF hK hqs hqa
    have d1 : decide (least < 1) = false := by simp; omega
    have d2 : decide (most < 0) = false := by simp; omega
    go_enter Try.func17, Try.ntmps17
    go_wp2_with fail
    refine (right_any _ _ _ l q _ rfl hl hA).mono ?_
    rintro e w' ⟨rfl, rfl⟩
    rw [HR.out]
    go_upto_region 3 with (fail)
    go_cut [11] (fun v wx => ∃ g, v = .slice (some ⟨g, 0, none⟩) l.length l.length ∧ g = w.heap.size ∧ g < wx.heap.size ∧ wx.ownsRow w.heap.size 2 1 (.slice (some ⟨g, 0, none⟩) l.length l.length) l.length (i64s (List.replicate l.length 0)) ∧ Below w.heap.size w wx)
    case first =>
      go_wp2_with (at_make; refine wpList_mk elI64 (n := l.length) rfl _ _ rfl rfl rfl rfl (by omega) ?_; intro w1 own1 g1 b1)
      have hg1 := (own1.lt w.heap.size rfl).2
      go_meet
      exact ⟨w.heap.size, rfl, rfl, hg1, by simpa [i64s] using own1, b1 _ _ (Nat.le_refl _) (Below.refl w.heap.size w)⟩
    obtain ⟨g, rfl, hg, hgs, own1, B1⟩ := hcut
    have HG := hide hg
    clear hg
    by_cases ht : 0 ≤ top ∧ top < l.length
    · obtain ⟨t, x, rfl, htl, hx, hk, hf⟩ := HFT.out ht
      obtain ⟨b, o, x', rfl, hbb, hc0, hx'⟩ := hA.int_at htl
      obtain rfl : x = x' := Option.some.inj (hx.symm.trans hx'.out)
      have hc := (B1.cell (p := ⟨b, o + t, none⟩) hbb).trans hc0
      have hcu : wc.cell? ⟨g, t, none⟩ = some (.int .i64 0) := by
        rw [own1.cellAt t (by omega)]
        exact i64s_at (by simp [htl])
      have hfu : wc.frozen? ⟨g, t, none⟩ = false := own1.frozenAt t
      have i1 : (t : Int) < l.length := by omega
      have hst := own1.stored t (.int .i64 K)
      rw [i64s_set, ← hf] at hst
      have hmin : min x (min most q) = K := hk.symm
      have hmin2 : min (min x most) q = K := by rw [hk]; omega
      have hmin3 : (if q < (if most < x then most else x) then q else (if most < x then most else x)) = K := by rw [hk]; split <;> split <;> omega
      have hxb := HB.out x (mem_of_some hx)
      clear hk hf hx hc0 ht
      go_wp2_with fail
      refine (rest_any _ _ _ _ _ l F least (q - K) w.heap.size _ rfl HFL.out hlen HB.out BD.out (fun m hm => (SUB.out m hm).1) (by omega) HQS.out h1 ((hA.below B1).grown hst.2 (fun b' o' h => by cases h; have := HG.out; intro h2; cases h2; omega)) hst.1).mono ?_
      rintro e w4 ⟨rfl, own4, hg4⟩
      go_wp2
      go_ret
      refine Fresh.mk (by rw [length_addL (by rw [length_byL, length_subL HFL.out.symm]; exact HFL.out)]; exact HFL.out.symm) own4 ?_
      exact (B1.grown hst.2 B1.size (fun i hi => by cases hi; have := HG.out; show _ ≤ g; omega)).grown hg4 (by have := B1.size; have := hst.2.size; omega) (fun i hi => by cases hi; have := HG.out; show _ ≤ g; omega)
    · obtain ⟨hk, hf⟩ := HFN.out ht
      rw [← hf] at own1
      have hA1 := hA.below B1
      have hK0 : K = 0 := hk
      have HK0 := hide hK0
      clear hk hf hK0
      have hway : (decide (0 ≤ top) = false) ∨ (decide (0 ≤ top) = true ∧ decide (top < (l.length : Int)) = false) := by
        by_cases h : 0 ≤ top
        · exact .inr ⟨by simpa using h, by simp; omega⟩
        · exact .inl (by simpa using h)
      clear ht
      rcases hway with d3 | ⟨d3, d4⟩
      all_goals
        go_wp2_with fail
        rw [show q = q - K by have := HK0.out; omega]
        refine (rest_any _ _ _ _ _ l F least (q - K) w.heap.size _ rfl HFL.out hlen HB.out BD.out (fun m hm => (SUB.out m hm).1) (by omega) HQS.out h1 hA1 own1).mono ?_
        rintro e w4 ⟨rfl, own4, hg4⟩
        go_wp2
        go_ret
        refine Fresh.mk (by rw [length_addL (by rw [length_byL, length_subL HFL.out.symm]; exact HFL.out)]; exact HFL.out.symm) own4 ?_
        exact B1.grown hg4 B1.size (fun i hi => by cases hi; have := HG.out; show _ ≤ g; omega)
  · rw [if_neg hok]
    exact pshare_no A n c l top most least q w hn hl hA hok
set_option maxHeartbeats 3200000 in
theorem rshare_any (A : Option Addr) (n c : Nat) (l : List Int) (top most least q : Int) (w : World) (hn : l.length = n) (hl : l.length ≤ 9223372036854775807) (hA : Cells w A (i64s l)) :
    Calls Try.prog 22 #[.slice A n c, .int .i64 top, .int .i64 most, .int .i64 least, .int .i64 q] w (FreshI w 2 (shareP l top most least q)) := by
  unfold shareP
  by_cases hok : rightB l q = true ∧ 1 ≤ least ∧ 0 ≤ most
  · rw [if_pos hok]
    subst hn
    obtain ⟨hr, h1, h2⟩ := hok
    obtain ⟨hlen, hq, hb, hqa⟩ := (rightB_iff l q).1 hr
    obtain ⟨k0, kq, kb, bd, sub, sum⟩ := top_ok (top := top) hb hq h2
    have hfl := length_firstTop l top most q
    have hft : 0 ≤ top ∧ top < l.length → ∃ (t : Nat) (x : Int), top = t ∧ t < l.length ∧ l[t]? = some x ∧ topK l top most q = min x (min most q) ∧ firstTop l top most q = (List.replicate l.length 0).set t (topK l top most q) := fun h => by
      have hlt : top.toNat < l.length := by omega
      refine ⟨top.toNat, l[top.toNat], by omega, hlt, List.getElem?_eq_getElem hlt, ?_, by rw [firstTop, if_pos h]⟩
      rw [topK, if_pos h]; simp [List.getD, List.getElem?_eq_getElem hlt]
    have hfn : ¬ (0 ≤ top ∧ top < l.length) → topK l top most q = 0 ∧ firstTop l top most q = List.replicate l.length 0 := fun h => by rw [topK, firstTop, if_neg h, if_neg h]; exact ⟨rfl, rfl⟩
    obtain ⟨F, hF⟩ : ∃ F, F = firstTop l top most q := ⟨_, rfl⟩
    obtain ⟨K, hK⟩ : ∃ K, K = topK l top most q := ⟨_, rfl⟩
    rw [← hF] at bd sub sum hfl hft hfn ⊢
    rw [← hK] at k0 kq kb sum hft hfn ⊢
    have HR := hide hr; have HB := hide hb; have BD := hide bd; have SUB := hide sub; have SUM := hide sum; have HFL := hide hfl; have HFT := hide hft; have HFN := hide hfn
    have hqb : q ≤ 250000000 := by
      have := (isum_bd l (fun n hn => by have := hb n hn; omega : ∀ n ∈ l, 0 ≤ n ∧ n ≤ 1000000)).2
      omega
    have hw : wrap64 (q - K) = q - K := by unfold wrap64; omega
    have hqs : q - K ≤ (subL l F).sum := by rw [sum]; omega
    have HQS := hide hqs
    clear hr hb bd sub sum hfl hft hfn hF hK hqs hqa
    have d1 : decide (least < 1) = false := by simp; omega
    have d2 : decide (most < 0) = false := by simp; omega
    go_enter Try.func22, Try.ntmps22
    go_wp2_with fail
    refine (refRight_any _ _ _ l q _ rfl hl hA).mono ?_
    rintro e w' ⟨rfl, rfl⟩
    rw [HR.out]
    go_upto_region 3 with (fail)
    go_cut [11] (fun v wx => ∃ g, v = .slice (some ⟨g, 0, none⟩) l.length l.length ∧ g = w.heap.size ∧ g < wx.heap.size ∧ wx.ownsRow w.heap.size 2 1 (.slice (some ⟨g, 0, none⟩) l.length l.length) l.length (i64s (List.replicate l.length 0)) ∧ Below w.heap.size w wx)
    case first =>
      go_wp2_with (at_make; refine wpList_mk elI64 (n := l.length) rfl _ _ rfl rfl rfl rfl (by omega) ?_; intro w1 own1 g1 b1)
      have hg1 := (own1.lt w.heap.size rfl).2
      go_meet
      exact ⟨w.heap.size, rfl, rfl, hg1, by simpa [i64s] using own1, b1 _ _ (Nat.le_refl _) (Below.refl w.heap.size w)⟩
    obtain ⟨g, rfl, hg, hgs, own1, B1⟩ := hcut
    have HG := hide hg
    clear hg
    have fin : ∀ (wx : World), Below w.heap.size w wx → wx.ownsRow w.heap.size 2 1 (.slice (some ⟨g, 0, none⟩) l.length l.length) l.length (i64s F) → Hid (Cells wx (some ⟨g, 0, none⟩) (i64s F) ∧ Cells wx A (i64s l)) := fun wx hb ho => ⟨Cells.of_own ho, hA.below hb⟩
    have hlF : (addL F (byL (subL l F) least (q - K))).length = l.length := by rw [length_addL (by rw [length_byL, length_subL HFL.out.symm]; exact HFL.out)]; exact HFL.out
    have HLF := hide hlF
    have hbl : ∀ x ∈ byL (subL l F) least (q - K), 0 ≤ x ∧ x ≤ 1000000 := byL_bd (by rw [length_subL HFL.out.symm]; omega) SUB.out (by omega) HQS.out h1
    have HBL := hide hbl
    clear hlF hbl
    by_cases ht : 0 ≤ top ∧ top < l.length
    · obtain ⟨t, x, rfl, htl, hx, hk, hf⟩ := HFT.out ht
      obtain ⟨b, o, x', rfl, hbb, hc0, hx'⟩ := hA.int_at htl
      obtain rfl : x = x' := Option.some.inj (hx.symm.trans hx'.out)
      have hc := (B1.cell (p := ⟨b, o + t, none⟩) hbb).trans hc0
      have hcu : wc.cell? ⟨g, t, none⟩ = some (.int .i64 0) := by
        rw [own1.cellAt t (by omega)]
        exact i64s_at (by simp [htl])
      have hfu : wc.frozen? ⟨g, t, none⟩ = false := own1.frozenAt t
      have i1 : (t : Int) < l.length := by omega
      have hst := own1.stored t (.int .i64 K)
      rw [i64s_set, ← hf] at hst
      have hxb := HB.out x (mem_of_some hx)
      have HK := hide hk
      have B4 := B1.grown hst.2 B1.size (fun i hi => by cases hi; have := HG.out; show _ ≤ g; omega)
      have FN := hide (fin _ B4 hst.1).out
      clear hk hf hx hc0 ht hst fin own1
      go_upto_if 39 with (fail)
      go_cut [12] (fun v wx => v = .int .i64 (min most q) ∧ wc = wx)
      case first =>
        by_cases h : q < most
        · have e : min most q = q := by omega
          go_wp2
          go_meet
          exact ⟨by rw [e], rfl⟩
        · have e : min most q = most := by omega
          go_wp2
          go_meet
          exact ⟨by rw [e], rfl⟩
      obtain ⟨rfl, rfl⟩ := hcut
      obtain ⟨mq, emq⟩ : ∃ mq, mq = min most q := ⟨_, rfl⟩
      have hk := HK.out
      rw [← emq] at hk ⊢
      have HK := hide hk
      clear emq hk
      go_upto_if 46 with (fail)
      go_cut [12] (fun v wx => v = .int .i64 K ∧ wc = wx)
      case first =>
        by_cases h : x < mq
        · have e : K = x := by have := HK.out; omega
          go_wp2
          go_meet
          exact ⟨by rw [e], rfl⟩
        · have e : K = mq := by have := HK.out; omega
          go_wp2
          go_meet
          exact ⟨by rw [e], rfl⟩
      obtain ⟨rfl, rfl⟩ := hcut
      go_wp2_with fail
      refine (refRest_any _ _ _ _ _ _ l F _ rfl HFL.out HFL.out.symm (by omega) (fun m hm => by have := HB.out m hm; omega) (fun m hm => by have := BD.out m hm; omega) (FN.out).2 (FN.out).1).mono ?_
      rintro e w5 hf
      obtain ⟨A5, c5, rfl, -, hc5, -, -, b5⟩ := hf.n (length_subL HFL.out.symm)
      have hcF := (FN.out).1.below b5
      have B5 := nxt B4 b5
      clear hf b5 FN
      go_wp2_with fail
      refine (by_any _ _ _ (subL l F) least (q - K) _ (length_subL HFL.out.symm) (by rw [length_subL HFL.out.symm]; omega) SUB.out (by omega) HQS.out h1 hc5).mono ?_
      rintro e w6 hf
      obtain ⟨A6, c6, rfl, -, hc6, -, -, b6⟩ := hf.n ((length_byL _ _ _).trans (length_subL HFL.out.symm))
      have hcF6 := hcF.below b6
      have B6 := nxt B5 b6
      clear hf b6 hcF hc5
      go_wp2_with fail
      refine (both_any _ _ _ _ _ _ F (byL (subL l F) least (q - K)) _ HFL.out ((length_byL _ _ _).trans (length_subL HFL.out.symm)) (by rw [length_byL, length_subL HFL.out.symm]; exact HFL.out) (by rw [HFL.out]; omega) (fun m hm => by have := BD.out m hm; omega) (fun m hm => by have := HBL.out m hm; omega) hcF6 hc6).mono ?_
      rintro e w7 ⟨A7, c7, rfl, own7, hc7, g7, g7', b7⟩
      go_wp2
      go_ret
      exact ⟨A7, c7, rfl, own_base own7 (by have := B6.size; omega), hc7, g7, g7', nxt B6 b7⟩
    · obtain ⟨hk, hf⟩ := HFN.out ht
      rw [← hf] at own1
      have HK0 := hide hk
      have B4 := B1
      have FN := hide (fin _ B4 own1).out
      have hway : (decide (0 ≤ top) = false) ∨ (decide (0 ≤ top) = true ∧ decide (top < (l.length : Int)) = false) := by
        by_cases h : 0 ≤ top
        · exact .inr ⟨by simpa using h, by simp; omega⟩
        · exact .inl (by simpa using h)
      clear ht hk hf fin own1
      rcases hway with d3 | ⟨d3, d4⟩
      all_goals
        go_wp2_with fail
        refine (refRest_any _ _ _ _ _ _ l F _ rfl HFL.out HFL.out.symm (by omega) (fun m hm => by have := HB.out m hm; omega) (fun m hm => by have := BD.out m hm; omega) (FN.out).2 (FN.out).1).mono ?_
        rintro e w5 hf
        obtain ⟨A5, c5, rfl, -, hc5, -, -, b5⟩ := hf.n (length_subL HFL.out.symm)
        have hcF := (FN.out).1.below b5
        have B5 := nxt B4 b5
        clear hf b5 FN
        go_wp2_with fail
        rw [show q = q - K by have := HK0.out; omega]
        refine (by_any _ _ _ (subL l F) least (q - K) _ (length_subL HFL.out.symm) (by rw [length_subL HFL.out.symm]; omega) SUB.out (by omega) HQS.out h1 hc5).mono ?_
        rintro e w6 hf
        obtain ⟨A6, c6, rfl, -, hc6, -, -, b6⟩ := hf.n ((length_byL _ _ _).trans (length_subL HFL.out.symm))
        have hcF6 := hcF.below b6
        have B6 := nxt B5 b6
        clear hf b6 hcF hc5
        go_wp2_with fail
        refine (both_any _ _ _ _ _ _ F (byL (subL l F) least (q - K)) _ HFL.out ((length_byL _ _ _).trans (length_subL HFL.out.symm)) (by rw [length_byL, length_subL HFL.out.symm]; exact HFL.out) (by rw [HFL.out]; omega) (fun m hm => by have := BD.out m hm; omega) (fun m hm => by have := HBL.out m hm; omega) hcF6 hc6).mono ?_
        rintro e w7 ⟨A7, c7, rfl, own7, hc7, g7, g7', b7⟩
        go_wp2
        go_ret
        exact ⟨A7, c7, rfl, own_base own7 (by have := B6.size; omega), hc7, g7, g7', nxt B6 b7⟩
  · rw [if_neg hok]
    exact rshare_no A n c l top most least q w hn hl hA hok
end Go.Proofs.Ytglcdamdjjbjhaa
