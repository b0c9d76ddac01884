/-
  What split.Share and the document's own compute.
-/
import Derived.Test.YtglcdamdjjbjhaaRest
namespace Go.Proofs.Ytglcdamdjjbjhaa
open Go.RowKit
set_option linter.unusedVariables false

/-- What goes by arrival. -/
def partK (part q : Int) : Int := q * part / 100
def splitL (l : List Int) (part least q : Int) : List Int :=
  if rightB l q = true ∧ 0 ≤ part ∧ part ≤ 100 ∧ 1 ≤ least then addL (shareL l (partK part q)) (byL (subL l (shareL l (partK part q))) least (q - partK part q)) else []
structure PartOk (l : List Int) (k q : Int) : Prop where
  k0 : 0 ≤ k
  kq : k ≤ q
  right : rightB l k = true
  len : (shareL l k).length = l.length
  bd : ∀ m ∈ shareL l k, 0 ≤ m ∧ m ≤ 1000000
  sub : ∀ m ∈ subL l (shareL l k), 0 ≤ m ∧ m ≤ 1000000
  total : (shareL l k).sum = k
  sum : (subL l (shareL l k)).sum = l.sum - k
theorem part_ok' {l : List Int} {k q : Int} (hr : rightB l q = true) (k0 : 0 ≤ k) (kq : k ≤ q) : PartOk l k q := by
  obtain ⟨hlen, hq, hb, hqa⟩ := (rightB_iff l q).1 hr
  have hnn : ∀ n ∈ l, 0 ≤ n := fun n hn => by have := hb n hn; omega
  have hs := shareL_sum hnn k0 (by omega)
  have hl := length_shareL l k
  have each : ∀ (i : Nat) (x : Int), (shareL l k)[i]? = some x → ∃ n, l[i]? = some n ∧ 0 ≤ x ∧ x ≤ n ∧ n ≤ 1000000 := fun i x hx => by
    have hlt := lt_of_some hx
    rw [hl] at hlt
    have hn := List.getElem?_eq_getElem hlt
    have h1 := shareL_bd hnn k0 hx hn
    have h2 := hb _ (List.getElem_mem hlt)
    exact ⟨_, hn, h1.1, h1.2, h2.2⟩
  refine ⟨k0, kq, (rightB_iff l _).2 ⟨hlen, k0, hb, by omega⟩, hl, ?_, ?_, hs, by rw [sum_subL _ _ hl.symm, hs]⟩
  · intro m hm
    obtain ⟨i, hi⟩ := List.getElem?_of_mem hm
    obtain ⟨n, _, h1, h2, h3⟩ := each i m hi
    omega
  · intro m hm
    obtain ⟨i, hi⟩ := List.getElem?_of_mem hm
    simp only [subL, List.getElem?_zipWith] at hi
    cases hx : l[i]? with
    | none => simp [hx] at hi
    | some n =>
      cases hy : (shareL l k)[i]? with
      | none => simp [hx, hy] at hi
      | some y =>
        simp [hx, hy] at hi
        obtain ⟨n', hn', h1, h2, h3⟩ := each i y hy
        rw [hx] at hn'
        cases hn'
        omega
theorem partK_bd {part q : Int} (hq : 0 ≤ q) (hp0 : 0 ≤ part) (hp1 : part ≤ 100) : 0 ≤ partK part q ∧ partK part q ≤ q := by
  have h0 : 0 ≤ q * part := Int.mul_nonneg hq hp0
  have h1 : q * part ≤ q * 100 := Int.mul_le_mul_of_nonneg_left hp1 hq
  unfold partK; omega
theorem part_ok {l : List Int} {part q : Int} (hr : rightB l q = true) (hp0 : 0 ≤ part) (hp1 : part ≤ 100) : PartOk l (partK part q) q := by
  have hq := ((rightB_iff l q).1 hr).2.1
  have := partK_bd hq hp0 hp1
  exact part_ok' hr this.1 this.2
theorem share_part {part q : Int} (hq : 0 ≤ q) (hq2 : q ≤ 250000000) (hp0 : 0 ≤ part) (hp1 : part ≤ 100) : shareEnd q part 100 = .returned (.tuple #[.int .i64 (partK part q), .bool true]) := by
  have h := partK_bd hq hp0 hp1
  unfold partK at h ⊢
  rw [shareEnd_ok (by omega), told, fit_yes (inR_yes (by omega)), inR_yes (by omega)]
theorem length_splitL_le (l : List Int) (part least q : Int) : (splitL l part least q).length ≤ 250 := by
  unfold splitL
  split
  · rename_i h
    rw [length_addL (by rw [length_byL, length_subL (length_shareL _ _).symm, length_shareL]), length_shareL]
    exact ((rightB_iff l q).1 h.1).1
  · simp

theorem ssplit_no (A : Option Addr) (n c : Nat) (l : List Int) (part least q : Int) (w : World) (hn : l.length = n) (hl : l.length ≤ 9223372036854775807) (hA : Cells w A (i64s l)) (hno : ¬ (rightB l q = true ∧ 0 ≤ part ∧ part ≤ 100 ∧ 1 ≤ least)) :
    Calls Try.prog 18 #[.slice A n c, .int .i64 part, .int .i64 least, .int .i64 q] w (FreshI w 2 []) := by
  subst hn
  have hway : rightB l q = false ∨ (rightB l q = true ∧ (decide (part < 0) = true ∨ (decide (part < 0) = false ∧ (decide (100 < part) = true ∨ (decide (100 < part) = false ∧ decide (least < 1) = true))))) := by
    cases hr : rightB l q
    · exact .inl rfl
    · refine .inr ⟨rfl, ?_⟩
      by_cases h1 : part < 0
      · exact .inl (by simpa using h1)
      · refine .inr ⟨by simpa using h1, ?_⟩
        by_cases h2 : 100 < part
        · exact .inl (by simpa using h2)
        · refine .inr ⟨by simpa using h2, ?_⟩
          by_cases h3 : least < 1
          · simpa using h3
          · exact (hno ⟨hr, by omega, by omega, by omega⟩).elim
  clear hno
  rcases hway with hr | ⟨hr, d | ⟨d1, d | ⟨d2, d3⟩⟩⟩
  all_goals
    have HR := hide hr
    clear hr
    go_enter Try.func18, Try.ntmps18
    go_wp2_with fail
    refine (right_any _ _ _ l q _ rfl hl hA).mono ?_
    rintro e w' ⟨rfl, rfl⟩
    rw [HR.out]
    go_wp2
    go_ret
    exact Fresh.nil _ _ _
theorem rsplit_no (A : Option Addr) (n c : Nat) (l : List Int) (part least q : Int) (w : World) (hn : l.length = n) (hl : l.length ≤ 9223372036854775807) (hA : Cells w A (i64s l)) (hno : ¬ (rightB l q = true ∧ 0 ≤ part ∧ part ≤ 100 ∧ 1 ≤ least)) :
    Calls Try.prog 23 #[.slice A n c, .int .i64 part, .int .i64 least, .int .i64 q] w (FreshI w 2 []) := by
  subst hn
  have hway : rightB l q = false ∨ (rightB l q = true ∧ (decide (part < 0) = true ∨ (decide (part < 0) = false ∧ (decide (100 < part) = true ∨ (decide (100 < part) = false ∧ decide (least < 1) = true))))) := by
    cases hr : rightB l q
    · exact .inl rfl
    · refine .inr ⟨rfl, ?_⟩
      by_cases h1 : part < 0
      · exact .inl (by simpa using h1)
      · refine .inr ⟨by simpa using h1, ?_⟩
        by_cases h2 : 100 < part
        · exact .inl (by simpa using h2)
        · refine .inr ⟨by simpa using h2, ?_⟩
          by_cases h3 : least < 1
          · simpa using h3
          · exact (hno ⟨hr, by omega, by omega, by omega⟩).elim
  clear hno
  rcases hway with hr | ⟨hr, d | ⟨d1, d | ⟨d2, d3⟩⟩⟩
  all_goals
    have HR := hide hr
    clear hr
    go_enter Try.func23, Try.ntmps23
    go_wp2_with fail
    refine (refRight_any _ _ _ l q _ rfl hl hA).mono ?_
    rintro e w' ⟨rfl, rfl⟩
    rw [HR.out]
    go_wp2
    go_ret
    exact Fresh.nil _ _ _
set_option maxHeartbeats 3200000 in
theorem ssplit_any (A : Option Addr) (n c : Nat) (l : List Int) (part least q : Int) (w : World) (hn : l.length = n) (hl : l.length ≤ 9223372036854775807) (hA : Cells w A (i64s l)) :
    Calls Try.prog 18 #[.slice A n c, .int .i64 part, .int .i64 least, .int .i64 q] w (FreshI w 2 (splitL l part least q)) := by
  unfold splitL
  by_cases hok : rightB l q = true ∧ 0 ≤ part ∧ part ≤ 100 ∧ 1 ≤ least
  · rw [if_pos hok]
    subst hn
    obtain ⟨hr, hp0, hp1, h1⟩ := hok
    obtain ⟨hlen, hq, hb, hqa⟩ := (rightB_iff l q).1 hr
    obtain ⟨k0, kq, kr, klen, kbd, ksub, ktot, ksum⟩ := part_ok hr hp0 hp1
    have hqb : q ≤ 250000000 := by
      have := (isum_bd l (fun n hn => by have := hb n hn; omega : ∀ n ∈ l, 0 ≤ n ∧ n ≤ 1000000)).2
      omega
    have hse := share_part hq hqb hp0 hp1
    obtain ⟨K, hK⟩ : ∃ K, K = partK part q := ⟨_, rfl⟩
    rw [← hK] at k0 kq kr klen kbd ksub ktot ksum hse ⊢
    obtain ⟨F, hF⟩ : ∃ F, F = shareL l K := ⟨_, rfl⟩
    rw [← hF] at klen kbd ksub ktot ksum ⊢
    have hqs : q - K ≤ (subL l F).sum := by rw [ksum]; omega
    have HR := hide hr; have HB := hide hb; have KR := hide kr; have KLEN := hide klen; have KBD := hide kbd; have KSUB := hide ksub; have HSE := hide hse; have HF := hide hF; have HQS := hide hqs
    have d1 : decide (part < 0) = false := by simp; omega
    have d2 : decide (100 < part) = false := by simp; omega
    have d3 : decide (least < 1) = false := by simp; omega
    clear hr hb kr klen kbd ksub ktot ksum hse hK hF hqs hqa
    go_enter Try.func18, Try.ntmps18
    go_wp2_with fail
    refine (right_any _ _ _ l q _ rfl hl hA).mono ?_
    rintro e w' ⟨rfl, rfl⟩
    rw [HR.out]
    go_wp2_with fail
    refine (ishare_any _ _ _ _ (by omega) (by omega) (by omega)).mono ?_
    rintro e w' ⟨rfl, m, rfl⟩
    rw [HSE.out]
    go_wp2_with fail
    refine (share_yes A _ c l K _ rfl (hA.drewN m) KR.out).mono ?_
    rw [← HF.out]
    intro e w2 h
    obtain ⟨A2, c2, rfl, own2, -, -, -, hb2⟩ := h.n KLEN.out
    have B2 := nxt (below_drewN (Below.refl w.heap.size w) m) hb2
    have hA2 := hA.below B2
    clear h hA
    go_wp2_with fail
    refine (rest_any _ _ _ _ _ l F least (q - K) _ _ rfl KLEN.out hlen HB.out KBD.out (fun m hm => (KSUB.out m hm).1) (by omega) HQS.out h1 hA2 own2).mono ?_
    rintro e w4 ⟨rfl, own4, hg4⟩
    go_wp2
    go_ret
    refine Fresh.mk (by rw [length_addL (by rw [length_byL, length_subL KLEN.out.symm]; exact KLEN.out)]; exact KLEN.out.symm) own4 ?_
    exact B2.grown hg4 B2.size (fun i hi => (own2.lt i hi).1)
  · rw [if_neg hok]
    exact ssplit_no A n c l part least q w hn hl hA hok
set_option maxHeartbeats 3200000 in
theorem rsplit_any (A : Option Addr) (n c : Nat) (l : List Int) (part least q : Int) (w : World) (hn : l.length = n) (hl : l.length ≤ 9223372036854775807) (hA : Cells w A (i64s l)) :
    Calls Try.prog 23 #[.slice A n c, .int .i64 part, .int .i64 least, .int .i64 q] w (FreshI w 2 (splitL l part least q)) := by
  unfold splitL
  by_cases hok : rightB l q = true ∧ 0 ≤ part ∧ part ≤ 100 ∧ 1 ≤ least
  · rw [if_pos hok]
    subst hn
    obtain ⟨hr, hp0, hp1, h1⟩ := hok
    obtain ⟨hlen, hq, hb, hqa⟩ := (rightB_iff l q).1 hr
    obtain ⟨k0, kq, kr, klen, kbd, ksub, ktot, ksum⟩ := part_ok hr hp0 hp1
    have hqb : q ≤ 250000000 := by
      have := (isum_bd l (fun n hn => by have := hb n hn; omega : ∀ n ∈ l, 0 ≤ n ∧ n ≤ 1000000)).2
      omega
    have hse := share_part hq hqb hp0 hp1
    obtain ⟨K, hK⟩ : ∃ K, K = partK part q := ⟨_, rfl⟩
    rw [← hK] at k0 kq kr klen kbd ksub ktot ksum hse ⊢
    obtain ⟨F, hF⟩ : ∃ F, F = shareL l K := ⟨_, rfl⟩
    rw [← hF] at klen kbd ksub ktot ksum ⊢
    have hqs : q - K ≤ (subL l F).sum := by rw [ksum]; omega
    have hbl : ∀ x ∈ byL (subL l F) least (q - K), 0 ≤ x ∧ x ≤ 1000000 := byL_bd (by rw [length_subL klen.symm]; omega) ksub (by omega) hqs h1
    have HR := hide hr; have HB := hide hb; have KR := hide kr; have KLEN := hide klen; have KBD := hide kbd; have KSUB := hide ksub; have HSE := hide hse; have HF := hide hF; have HQS := hide hqs; have HBL := hide hbl
    have d1 : decide (part < 0) = false := by simp; omega
    have d2 : decide (100 < part) = false := by simp; omega
    have d3 : decide (least < 1) = false := by simp; omega
    clear hr hb kr klen kbd ksub ktot ksum hse hK hF hqs hqa hbl
    go_enter Try.func23, Try.ntmps23
    go_wp2_with fail
    refine (refRight_any _ _ _ l q _ rfl hl hA).mono ?_
    rintro e w' ⟨rfl, rfl⟩
    rw [HR.out]
    go_wp2_with fail
    refine (irefShare_any _ _ _ _ (by omega) (by omega) (by omega)).mono ?_
    rintro e w' ⟨rfl, rfl⟩
    rw [HSE.out]
    go_wp2_with fail
    refine (fill_any A _ c l K _ rfl (by omega) (fun n hn => by have := HB.out n hn; omega) k0 (by omega) hA).mono ?_
    rw [← HF.out]
    intro e w2 h
    obtain ⟨A2, c2, rfl, -, hF2, -, -, B2⟩ := h.n KLEN.out
    have hA2 := hA.below B2
    clear h hA
    go_wp2_with fail
    refine (refRest_any _ _ _ _ _ _ l F _ rfl KLEN.out KLEN.out.symm (by omega) (fun m hm => by have := HB.out m hm; omega) (fun m hm => by have := KBD.out m hm; omega) hA2 hF2).mono ?_
    rintro e w5 hf
    obtain ⟨A5, c5, rfl, -, hc5, -, -, b5⟩ := hf.n (length_subL KLEN.out.symm)
    have hcF := hF2.below b5
    have B5 := nxt B2 b5
    clear hf b5 hF2 hA2
    go_wp2_with fail
    refine (by_any _ _ _ (subL l F) least (q - K) _ (length_subL KLEN.out.symm) (by rw [length_subL KLEN.out.symm]; omega) KSUB.out (by omega) HQS.out h1 hc5).mono ?_
    rintro e w6 hf
    obtain ⟨A6, c6, rfl, -, hc6, -, -, b6⟩ := hf.n ((length_byL _ _ _).trans (length_subL KLEN.out.symm))
    have hcF6 := hcF.below b6
    have B6 := nxt B5 b6
    clear hf b6 hcF hc5
    go_wp2_with fail
    refine (both_any _ _ _ _ _ _ F (byL (subL l F) least (q - K)) _ KLEN.out ((length_byL _ _ _).trans (length_subL KLEN.out.symm)) (by rw [length_byL, length_subL KLEN.out.symm]; exact KLEN.out) (by rw [KLEN.out]; omega) (fun m hm => by have := KBD.out m hm; omega) (fun m hm => by have := HBL.out m hm; omega) hcF6 hc6).mono ?_
    rintro e w7 ⟨A7, c7, rfl, own7, hc7, g7, g7', b7⟩
    go_wp2
    go_ret
    exact ⟨A7, c7, rfl, own_base own7 (by have := B6.size; omega), hc7, g7, g7', nxt B6 b7⟩
  · rw [if_neg hok]
    exact rsplit_no A n c l part least q w hn hl hA hok
end Go.Proofs.Ytglcdamdjjbjhaa
