/-
  Shares by a product's rule: together what is shared, none above its size. Plain laws.
-/
import Derived.Test.YtglcdamdjjbjhaaOrdersP
namespace Go.Proofs.Ytglcdamdjjbjhaa
set_option linter.unusedVariables false

structure ByOk (l : List Int) (least q : Int) : Prop where
  len : (byL l least q).length = l.length
  sum : (byL l least q).sum = q
  at_ : ∀ (i : Nat) (n : Int), l[i]? = some n → ∃ x, (byL l least q)[i]? = some x ∧ 0 ≤ x ∧ x ≤ n ∧ byV l.sum q least n ≤ x
theorem by_ok {l : List Int} {least q : Int} (hb : ∀ n ∈ l, 0 ≤ n) (hq : 0 ≤ q) (hqa : q ≤ l.sum) (h1 : 1 ≤ least) : ByOk l least q := by
  have hst := first_sum hb hq hqa h1
  have hnn := sub_first_nn (all := l.sum) hb hq hqa h1
  have hsl : (subL l (firstL l.sum q least l)).length = l.length := length_subL (length_firstL _ _ _ _).symm
  have hss := sum_subL l (firstL l.sum q least l) (length_firstL _ _ _ _).symm
  refine ⟨length_byL _ _ _, ?_, fun i n hn => ?_⟩
  · unfold byL
    rw [sum_addL _ _ (by rw [length_shareL, hsl, length_firstL]), shareL_sum hnn (by omega) (by omega)]
    omega
  · have hf := firstL_at (all := l.sum) (q := q) (least := least) hn
    have hs := subL_at hn hf
    have hlt : i < (shareL (subL l (firstL l.sum q least l)) (q - (firstL l.sum q least l).sum)).length := by rw [length_shareL]; exact lt_of_some hs
    have hz := List.getElem?_eq_getElem hlt
    have hzb := shareL_bd hnn (by omega) hz hs
    have hv := byV_bd (all := l.sum) (hb n (mem_of_some hn)) hq hqa h1
    refine ⟨_, addL_at hf hz, by omega, by omega, by omega⟩
/-- What holds of shares in two parts. -/
structure SpOk (l : List Int) (part least q : Int) : Prop where
  len : (splitL l part least q).length = l.length
  sum : (splitL l part least q).sum = q
  at_ : ∀ (i : Nat) (n : Int), l[i]? = some n → ∃ f x, (shareL l (partK part q))[i]? = some f ∧ (splitL l part least q)[i]? = some x ∧ 0 ≤ f ∧ f ≤ x ∧ x ≤ n
theorem sp_ok {l : List Int} {part least q : Int} (hr : rightB l q = true) (hp0 : 0 ≤ part) (hp1 : part ≤ 100) (h1 : 1 ≤ least) : SpOk l part least q := by
  obtain ⟨hlen, hq, hb, hqa⟩ := (rightB_iff l q).1 hr
  obtain ⟨k0, kq, kr, klen, kbd, ksub, ktot, ksum⟩ := part_ok hr hp0 hp1
  have hby := by_ok (least := least) (q := q - partK part q) (fun m hm => (ksub m hm).1) (by omega) (by rw [ksum]; omega) h1
  have hsl := length_subL klen.symm
  have hp : splitL l part least q = addL (shareL l (partK part q)) (byL (subL l (shareL l (partK part q))) least (q - partK part q)) := by rw [splitL, if_pos ⟨hr, hp0, hp1, h1⟩]
  refine ⟨?_, ?_, fun i n hn => ?_⟩
  · rw [hp, length_addL (by rw [hby.len, hsl, klen]), klen]
  · rw [hp, sum_addL _ _ (by rw [hby.len, hsl, klen]), hby.sum, ktot]; omega
  · have hi := lt_of_some hn
    have hf : (shareL l (partK part q))[i]? = some (shareL l (partK part q))[i] := List.getElem?_eq_getElem (by omega)
    have hfb := kbd _ (List.getElem_mem (by omega : i < (shareL l (partK part q)).length))
    obtain ⟨x, hx, x0, x1, _⟩ := hby.at_ i _ (subL_at hn hf)
    exact ⟨_, _, hf, by rw [hp]; exact addL_at hf hx, hfb.1, by omega, by omega⟩
theorem all_zero : ∀ (a : List Int), (∀ x ∈ a, 0 ≤ x) → a.sum = 0 → a = List.replicate a.length 0
  | [], _, _ => rfl
  | x :: a, h, hs => by
    have h1 := h x List.mem_cons_self
    have h2 := isum_nn a fun n hn => h n (List.mem_cons_of_mem _ hn)
    rw [List.sum_cons] at hs
    have ih := all_zero a (fun n hn => h n (List.mem_cons_of_mem _ hn)) (by omega)
    rw [List.length_cons, List.replicate_succ, ← ih, show x = 0 by omega]
/-- A part of all goes by arrival. -/
theorem all_of : ∀ (s x : List Int), x.length = s.length → (∀ (i : Nat) (n y : Int), s[i]? = some n → x[i]? = some y → y ≤ n) → s.sum ≤ x.sum → x = s
  | [], x, h, _, _ => List.eq_nil_of_length_eq_zero (by simpa using h)
  | n :: s, [], h, _, _ => by simp at h
  | n :: s, y :: x, h, hle, hs => by
    have h0 := hle 0 n y rfl rfl
    have hle' : ∀ (i : Nat) (n y : Int), s[i]? = some n → x[i]? = some y → y ≤ n := fun i a b h1 h2 => hle (i + 1) a b (by simpa using h1) (by simpa using h2)
    have hsum : x.sum ≤ s.sum := sum_le_of s x (by simpa using h) hle'
    rw [List.sum_cons, List.sum_cons] at hs
    have ih := all_of s x (by simpa using h) hle' (by omega)
    rw [ih, show y = n by omega]
where
  sum_le_of : ∀ (s x : List Int), x.length = s.length → (∀ (i : Nat) (n y : Int), s[i]? = some n → x[i]? = some y → y ≤ n) → x.sum ≤ s.sum
  | [], x, h, _ => by
    obtain rfl : x = [] := List.eq_nil_of_length_eq_zero (by simpa using h)
    exact Int.le_refl _
  | n :: s, [], h, _ => by simp at h
  | n :: s, y :: x, h, hle => by
    have h0 := hle 0 n y rfl rfl
    have := sum_le_of s x (by simpa using h) fun i a b h1 h2 => hle (i + 1) a b (by simpa using h1) (by simpa using h2)
    rw [List.sum_cons, List.sum_cons]
    omega
structure ShOk (l : List Int) (top most least q : Int) : Prop where
  len : (shareP l top most least q).length = l.length
  sum : (shareP l top most least q).sum = q
  at_ : ∀ (i : Nat) (n : Int), l[i]? = some n → ∃ x, (shareP l top most least q)[i]? = some x ∧ 0 ≤ x ∧ x ≤ n
  top : ∀ (t : Nat) (n : Int), top = t → l[t]? = some n → ∃ x, (shareP l top most least q)[t]? = some x ∧ min n (min most q) ≤ x
theorem sh_ok {l : List Int} {top most least q : Int} (hr : rightB l q = true) (h1 : 1 ≤ least) (hm : 0 ≤ most) : ShOk l top most least q := by
  obtain ⟨hlen, hq, hb, hqa⟩ := (rightB_iff l q).1 hr
  obtain ⟨k0, kq, kb, bd, sub, sum⟩ := top_ok (top := top) hb hq hm
  have hfl := length_firstTop l top most q
  have hsl := length_subL hfl.symm
  have hby := by_ok (least := least) (q := q - topK l top most q) (fun m hm => (sub m hm).1) (by omega) (by rw [sum]; omega) h1
  have hp : shareP l top most least q = addL (firstTop l top most q) (byL (subL l (firstTop l top most q)) least (q - topK l top most q)) := by rw [shareP, if_pos ⟨hr, h1, hm⟩]
  have hfs : (firstTop l top most q).sum = topK l top most q := by
    have := sum_subL l _ hfl.symm
    omega
  have each : ∀ (i : Nat) (n : Int), l[i]? = some n → ∃ f x, (firstTop l top most q)[i]? = some f ∧ (shareP l top most least q)[i]? = some x ∧ 0 ≤ f ∧ f ≤ x ∧ x ≤ n := by
    intro i n hn
    have hi := lt_of_some hn
    have hf : (firstTop l top most q)[i]? = some (firstTop l top most q)[i] := List.getElem?_eq_getElem (by omega)
    have hfb := bd _ (List.getElem_mem (by omega : i < (firstTop l top most q).length))
    obtain ⟨x, hx, x0, x1, _⟩ := hby.at_ i _ (subL_at hn hf)
    exact ⟨_, _, hf, by rw [hp]; exact addL_at hf hx, hfb.1, by omega, by omega⟩
  refine ⟨?_, ?_, fun i n hn => ?_, fun t n ht hn => ?_⟩
  · rw [hp, length_addL (by rw [hby.len, hsl, hfl]), hfl]
  · rw [hp, sum_addL _ _ (by rw [hby.len, hsl, hfl]), hby.sum, hfs]; omega
  · obtain ⟨f, x, _, hx, h0, h2, h3⟩ := each i n hn
    exact ⟨x, hx, by omega, h3⟩
  · obtain ⟨f, x, hf, hx, h0, h2, h3⟩ := each t n hn
    refine ⟨x, hx, ?_⟩
    have hlt := lt_of_some hn
    have hin : 0 ≤ top ∧ top < l.length := by omega
    have e : topK l top most q = min n (min most q) := by
      rw [topK, if_pos hin, ht]; simp [List.getD, hn]
    have : f = topK l top most q := by
      rw [firstTop, if_pos hin, ht, Int.toNat_natCast, List.getElem?_set_self (by simp; exact hlt)] at hf
      have := Option.some.inj hf
      rw [ht]; exact this.symm
    omega
/-- Shares that are right. -/
structure AlOk (l : List Int) (X : List Int) (q : Int) : Prop where
  len : X.length = l.length
  sum : X.sum = q
  at_ : ∀ (i : Nat) (n : Int), l[i]? = some n → ∃ x, X[i]? = some x ∧ 0 ≤ x ∧ x ≤ n
theorem al_ok {ru top le pa : Int} {S : List Ord} {q : Int} (hr : rightB (qtys S) q = true) (hru : ru = 1 ∨ ru = 2 ∨ ru = 3) (ht : 0 ≤ top) (hl : 1 ≤ le) (hp0 : 0 ≤ pa) (hp1 : pa ≤ 100) : AlOk (qtys S) (allocL ru top le pa S q) q := by
  obtain ⟨hlen, hq, hb, hqa⟩ := (rightB_iff (qtys S) q).1 hr
  have hnn : ∀ n ∈ qtys S, 0 ≤ n := fun n hn => by have := hb n hn; omega
  rcases hru with rfl | rfl | rfl
  · have e : allocL 1 top le pa S q = shareL (qtys S) q := by simp [allocL, shareB, hr]
    rw [e]
    refine ⟨length_shareL _ _, shareL_sum hnn hq hqa, fun i n hn => ?_⟩
    have hi : i < (shareL (qtys S) q).length := by rw [length_shareL]; exact lt_of_some hn
    have hx := List.getElem?_eq_getElem hi
    exact ⟨_, hx, shareL_bd hnn hq hx hn⟩
  · have e : allocL 2 top le pa S q = shareP (qtys S) (topI S) top le q := by simp [allocL]
    rw [e]
    have h := sh_ok (top := topI S) hr hl ht
    exact ⟨h.len, h.sum, h.at_⟩
  · have e : allocL 3 top le pa S q = splitL (qtys S) pa le q := by simp [allocL]
    rw [e]
    have h := sp_ok (part := pa) hr hp0 hp1 hl
    exact ⟨h.len, h.sum, fun i n hn => by obtain ⟨f, x, _, hx, h1, h2, h3⟩ := h.at_ i n hn; exact ⟨x, hx, by omega, h3⟩⟩
theorem al_all {l X : List Int} (h : AlOk l X l.sum) : X = l :=
  all_of l X h.len (fun i n y hn hy => by obtain ⟨x, hx, _, h2⟩ := h.at_ i n hn; rw [hy] at hx; cases hx; exact h2) (by rw [h.sum]; omega)
theorem al_zero {l X : List Int} (h : AlOk l X 0) : X = List.replicate l.length 0 := by
  have := all_zero X (fun x hx => by
    obtain ⟨i, hi, rfl⟩ := List.getElem_of_mem hx
    obtain ⟨y, hy, h1, _⟩ := h.at_ i (l[i]'(by rw [← h.len]; exact hi)) (List.getElem?_eq_getElem _)
    rw [List.getElem?_eq_getElem hi] at hy
    cases hy; exact h1) h.sum
  rwa [h.len] at this
theorem al_over {ru top le pa : Int} {S : List Ord} {q : Int} (hr : (qtys S).sum < q) : allocL ru top le pa S q = [] := by
  have h0 : rightB (qtys S) q = false := by
    cases h : rightB (qtys S) q
    · rfl
    · have := ((rightB_iff (qtys S) q).1 h).2.2.2
      omega
  unfold allocL shareB shareP splitL
  rw [h0]
  simp
end Go.Proofs.Ytglcdamdjjbjhaa
