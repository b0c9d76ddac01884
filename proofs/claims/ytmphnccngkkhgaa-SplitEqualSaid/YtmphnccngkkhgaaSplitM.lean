/-
  More plain laws of shares in two parts.
-/
import Derived.Test.YtmphnccngkkhgaaTells12
namespace Go.Proofs.Ytmphnccngkkhgaa
open Go.RowKit
set_option linter.unusedVariables false

structure ByOk (l : List Int) (least q : Int) : Prop where
  len : (byL l least q).length = l.length
  sum : (byL l least q).sum = q
  at_ : ∀ (i : Nat) (n : Int), l[i]? = some n → ∃ x, (byL l least q)[i]? = some x ∧ 0 ≤ x ∧ x ≤ n ∧ byV l.sum q least n ≤ x
theorem by_ok {l : List Int} {least q : Int} (hb : ∀ n ∈ l, 0 ≤ n) (hq : 0 ≤ q) (hqa : q ≤ l.sum) (h1 : 1 ≤ least) : ByOk l least q := by
  have hst := first_sum hb hq hqa h1
  have hnn := sub_first_nn (all := l.sum) hb hq hqa h1
  have hsl : (subL l (firstL l.sum q least l)).length = l.length := length_subL (length_firstL _ _ _ _).symm
  have hss := sum_subL l (firstL l.sum q least l) (length_firstL _ _ _ _).symm
  refine ⟨length_byL _ _ _, ?_, fun i n hn => ?_⟩
  · unfold byL
    rw [sum_addL _ _ (by rw [length_shareL, hsl, length_firstL]), shareL_sum hnn (by omega) (by omega)]
    omega
  · have hf := firstL_at (all := l.sum) (q := q) (least := least) hn
    have hs := subL_at hn hf
    have hlt : i < (shareL (subL l (firstL l.sum q least l)) (q - (firstL l.sum q least l).sum)).length := by rw [length_shareL]; exact lt_of_some hs
    have hz := List.getElem?_eq_getElem hlt
    have hzb := shareL_bd hnn (by omega) hz hs
    have hv := byV_bd (all := l.sum) (hb n (mem_of_some hn)) hq hqa h1
    refine ⟨_, addL_at hf hz, by omega, by omega, by omega⟩
/-- What holds of shares in two parts. -/
structure SpOk (l : List Int) (part least q : Int) : Prop where
  len : (splitL l part least q).length = l.length
  sum : (splitL l part least q).sum = q
  at_ : ∀ (i : Nat) (n : Int), l[i]? = some n → ∃ f x, (shareL l (partK part q))[i]? = some f ∧ (splitL l part least q)[i]? = some x ∧ 0 ≤ f ∧ f ≤ x ∧ x ≤ n
theorem sp_ok {l : List Int} {part least q : Int} (hr : rightB l q = true) (hp0 : 0 ≤ part) (hp1 : part ≤ 100) (h1 : 1 ≤ least) : SpOk l part least q := by
  obtain ⟨hlen, hq, hb, hqa⟩ := (rightB_iff l q).1 hr
  obtain ⟨k0, kq, kr, klen, kbd, ksub, ktot, ksum⟩ := part_ok hr hp0 hp1
  have hby := by_ok (least := least) (q := q - partK part q) (fun m hm => (ksub m hm).1) (by omega) (by rw [ksum]; omega) h1
  have hsl := length_subL klen.symm
  have hp : splitL l part least q = addL (shareL l (partK part q)) (byL (subL l (shareL l (partK part q))) least (q - partK part q)) := by rw [splitL, if_pos ⟨hr, hp0, hp1, h1⟩]
  refine ⟨?_, ?_, fun i n hn => ?_⟩
  · rw [hp, length_addL (by rw [hby.len, hsl, klen]), klen]
  · rw [hp, sum_addL _ _ (by rw [hby.len, hsl, klen]), hby.sum, ktot]; omega
  · have hi := lt_of_some hn
    have hf : (shareL l (partK part q))[i]? = some (shareL l (partK part q))[i] := List.getElem?_eq_getElem (by omega)
    have hfb := kbd _ (List.getElem_mem (by omega : i < (shareL l (partK part q)).length))
    obtain ⟨x, hx, x0, x1, _⟩ := hby.at_ i _ (subL_at hn hf)
    exact ⟨_, _, hf, by rw [hp]; exact addL_at hf hx, hfb.1, by omega, by omega⟩
theorem addL_zero (a : List Int) (n : Nat) (h : a.length = n) : addL a (List.replicate n 0) = a := by
  subst h
  induction a with
  | nil => rfl
  | cons x a ih => simp [addL, List.replicate_succ] at ih ⊢; exact ih
theorem zero_addL (a : List Int) (n : Nat) (h : a.length = n) : addL (List.replicate n 0) a = a := by
  subst h
  induction a with
  | nil => rfl
  | cons x a ih => simp [addL, List.replicate_succ] at ih ⊢; exact ih
theorem subL_zero (a : List Int) (n : Nat) (h : a.length = n) : subL a (List.replicate n 0) = a := by
  subst h
  induction a with
  | nil => rfl
  | cons x a ih => simp [subL, List.replicate_succ] at ih ⊢; exact ih
theorem all_zero : ∀ (a : List Int), (∀ x ∈ a, 0 ≤ x) → a.sum = 0 → a = List.replicate a.length 0
  | [], _, _ => rfl
  | x :: a, h, hs => by
    have h1 := h x List.mem_cons_self
    have h2 := isum_nn a fun n hn => h n (List.mem_cons_of_mem _ hn)
    rw [List.sum_cons] at hs
    have ih := all_zero a (fun n hn => h n (List.mem_cons_of_mem _ hn)) (by omega)
    rw [List.length_cons, List.replicate_succ, ← ih, show x = 0 by omega]
/-- A part of all goes by arrival. -/
theorem split_all {l : List Int} {least q : Int} (hr : rightB l q = true) (h1 : 1 ≤ least) : splitL l 100 least q = shareL l q := by
  obtain ⟨hlen, hq, hb, hqa⟩ := (rightB_iff l q).1 hr
  have hk : partK 100 q = q := by unfold partK; omega
  obtain ⟨k0, kq, kr, klen, kbd, ksub, ktot, ksum⟩ := part_ok hr (part := 100) (by omega) (by omega)
  rw [splitL, if_pos ⟨hr, by omega, by omega, h1⟩]
  rw [hk] at klen ksub ksum ⊢
  have hby := by_ok (least := least) (q := q - q) (fun m hm => (ksub m hm).1) (by omega) (by rw [ksum]; omega) h1
  have hz := all_zero (byL (subL l (shareL l q)) least (q - q)) (fun x hx => by
    obtain ⟨i, hi⟩ := List.getElem?_of_mem hx
    have hlt := lt_of_some hi
    rw [hby.len] at hlt
    obtain ⟨y, hy, y0, _⟩ := hby.at_ i _ (List.getElem?_eq_getElem hlt)
    rw [hi] at hy
    cases hy
    exact y0) (by rw [hby.sum]; omega)
  rw [hz]
  exact addL_zero _ _ (by rw [hby.len, length_subL klen.symm, klen])
/-- A part of nothing goes by size. -/
theorem split_none {l : List Int} {least q : Int} (hr : rightB l q = true) (h1 : 1 ≤ least) : splitL l 0 least q = byL l least q := by
  obtain ⟨hlen, hq, hb, hqa⟩ := (rightB_iff l q).1 hr
  have hk : partK 0 q = 0 := by unfold partK; omega
  rw [splitL, if_pos ⟨hr, by omega, by omega, h1⟩, hk, shareL_zero (fun n hn => by have := hb n hn; omega), Int.sub_zero, subL_zero _ _ rfl, zero_addL _ _ (length_byL _ _ _)]
/-- Shares that are together all are all. -/
theorem all_of : ∀ (s x : List Int), x.length = s.length → (∀ (i : Nat) (n y : Int), s[i]? = some n → x[i]? = some y → y ≤ n) → s.sum ≤ x.sum → x = s
  | [], x, h, _, _ => List.eq_nil_of_length_eq_zero (by simpa using h)
  | n :: s, [], h, _, _ => by simp at h
  | n :: s, y :: x, h, hle, hs => by
    have h0 := hle 0 n y rfl rfl
    have hle' : ∀ (i : Nat) (n y : Int), s[i]? = some n → x[i]? = some y → y ≤ n := fun i a b h1 h2 => hle (i + 1) a b (by simpa using h1) (by simpa using h2)
    have hsum : x.sum ≤ s.sum := sum_le_of s x (by simpa using h) hle'
    rw [List.sum_cons, List.sum_cons] at hs
    have ih := all_of s x (by simpa using h) hle' (by omega)
    rw [ih, show y = n by omega]
where
  sum_le_of : ∀ (s x : List Int), x.length = s.length → (∀ (i : Nat) (n y : Int), s[i]? = some n → x[i]? = some y → y ≤ n) → x.sum ≤ s.sum
  | [], x, h, _ => by
    obtain rfl : x = [] := List.eq_nil_of_length_eq_zero (by simpa using h)
    exact Int.le_refl _
  | n :: s, [], h, _ => by simp at h
  | n :: s, y :: x, h, hle => by
    have h0 := hle 0 n y rfl rfl
    have := sum_le_of s x (by simpa using h) fun i a b h1 h2 => hle (i + 1) a b (by simpa using h1) (by simpa using h2)
    rw [List.sum_cons, List.sum_cons]
    omega
theorem split_full {l : List Int} {part least : Int} (hr : rightB l l.sum = true) (hp0 : 0 ≤ part) (hp1 : part ≤ 100) (h1 : 1 ≤ least) : splitL l part least l.sum = l := by
  have h := sp_ok hr hp0 hp1 h1
  refine all_of l _ h.len (fun i n y hn hy => ?_) (by rw [h.sum]; exact Int.le_refl _)
  obtain ⟨f, x, _, hx, _, _, hxn⟩ := h.at_ i n hn
  rw [hy] at hx
  cases hx
  exact hxn
/-- Of two equal orders the first has no less. -/
theorem two_equal {z part least k : Int} (hz : 1 ≤ z) (hz2 : z ≤ 1000000) (hk : 0 ≤ k) (hk2 : k ≤ 2 * z) (hp0 : 0 ≤ part) (hp1 : part ≤ 100) (h1 : 1 ≤ least) :
    ∃ x y, splitL [z, z] part least k = [x, y] ∧ y ≤ x ∧ x + y = k ∧ 0 ≤ y ∧ x ≤ z := by
  have hr : rightB [z, z] k = true := (rightB_iff _ _).2 ⟨by simp, hk, by simp; omega, by simp; omega⟩
  have h := sp_ok hr hp0 hp1 h1
  have hK := partK_bd hk hp0 hp1
  obtain ⟨K, eK⟩ : ∃ K, K = partK part k := ⟨_, rfl⟩
  have hp : splitL [z, z] part least k = addL (shareL [z, z] K) (byL (subL [z, z] (shareL [z, z] K)) least (k - K)) := by rw [splitL, if_pos ⟨hr, hp0, hp1, h1⟩, eK]
  rw [← eK] at hK
  have hs := h.sum
  have ha0 := h.at_ 0 z rfl
  have ha1 := h.at_ 1 z rfl
  obtain ⟨x, y, exy⟩ : ∃ x y, splitL [z, z] part least k = [x, y] := by
    have := h.len
    rcases he : splitL [z, z] part least k with _ | ⟨x, _ | ⟨y, _ | ⟨_, _⟩⟩⟩
    · rw [he] at this; simp at this
    · rw [he] at this; simp at this
    · exact ⟨x, y, rfl⟩
    · rw [he] at this; simp at this
  rw [exy] at hs ha0 ha1 hp
  simp at hs ha0 ha1
  obtain ⟨f0, g0, p1, p2, p3⟩ := ha0
  obtain ⟨f1, g1, q1, q2, q3⟩ := ha1
  refine ⟨x, y, exy, ?_, by omega, by omega, by omega⟩
  -- the first part
  by_cases hKz : z ≤ K
  · -- the first is full
    have e : (shareL [z, z] K) = [z, min z (K - z)] := by simp [shareL, show min z K = z by omega]
    rw [← eK, e] at g0
    simp at g0
    omega
  · have e : shareL [z, z] K = [K, 0] := by simp [shareL, show min z K = K by omega]; omega
    rw [e] at hp
    have ed : subL [z, z] [K, 0] = [z - K, z] := by simp [subL]
    rw [ed] at hp
    obtain ⟨T, eT⟩ : ∃ T, T = ([z - K, z] : List Int).sum := ⟨_, rfl⟩
    have hT : T = 2 * z - K := by rw [eT]; simp; omega
    unfold byL at hp
    rw [← eT] at hp
    obtain ⟨v0, ev0⟩ : ∃ v0, v0 = byV T (k - K) least (z - K) := ⟨_, rfl⟩
    obtain ⟨v1, ev1⟩ : ∃ v1, v1 = byV T (k - K) least z := ⟨_, rfl⟩
    have b0 := byV_bd (all := T) (q := k - K) (least := least) (show 0 ≤ z - K by omega) (by omega) (by omega) h1
    have b1 := byV_bd (all := T) (q := k - K) (least := least) (show 0 ≤ z by omega) (by omega) (by omega) h1
    rw [← ev0] at b0
    rw [← ev1] at b1
    have ef : firstL T (k - K) least [z - K, z] = [v0, v1] := by simp [firstL, ev0, ev1]
    rw [ef] at hp
    have hfs : v0 + v1 ≤ k - K := by
      have := (first_sum (l := [z - K, z]) (q := k - K) (least := least) (by simp; omega) (by omega) (by rw [← eT]; omega) h1).2
      rw [← eT, ef] at this
      simpa using this
    have h2v : 2 * v1 ≤ k := by
      have h5 : v1 * T ≤ z * (k - K) := b1.2.2
      have h6 : 2 * (z * (k - K)) ≤ k * T := by
        rw [hT, Int.mul_sub z k K, Int.mul_sub k (2 * z) K]
        have h7 : k * K ≤ 2 * z * K := Int.mul_le_mul_of_nonneg_right hk2 hK.1
        have h8 : k * (2 * z) = 2 * (z * k) := by rw [Int.mul_left_comm, Int.mul_comm k z]
        have h9 : 2 * z * K = 2 * (z * K) := Int.mul_assoc _ _ _
        omega
      have h7 : 2 * v1 * T ≤ k * T := by
        rw [Int.mul_assoc]; omega
      exact Int.le_of_mul_le_mul_right h7 (by omega)
    simp [addL, subL, shareL] at hp
    obtain ⟨hx, hy⟩ := hp
    omega
end Go.Proofs.Ytmphnccngkkhgaa
