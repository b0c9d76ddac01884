/-
  Texts folded, and the plain laws of chapter 2. No program in sight.
-/
import Derived.Test.YtdginbmannhfnaaDoorRunesW
import Derived.Test.YtdginbmannhfnaaDoorPad2
namespace Go.Proofs.YtdginbmannhfnaaDoor
open Go.RowKit
set_option linter.unusedVariables false

def foldR (r : Nat) : Nat := if lowR r then r - 32 else r
theorem lowR_iff (r : Nat) : lowR r = true ↔ ((97 ≤ r ∧ r ≤ 122) ∨ (945 ≤ r ∧ r ≤ 969 ∧ r ≠ 962)) := by simp [lowR]
/-- A great letter's bytes: one or two, the first of which begins a rune. -/
theorem great_shape {r : Nat} (h : lowR r = true) : ∃ (b0 : UInt8) (u : List UInt8), greatB r = b0 :: u ∧ contB b0 = false ∧ WholeR (r - 32, greatB r) ∧ (greatB r).length = if r < 128 then 1 else 2 := by
  rw [lowR_iff] at h
  rcases h with ⟨h1, h2⟩ | ⟨h1, h2, h3⟩
  · have e : greatB r = [(r - 32).toUInt8] := by
      unfold greatB
      rw [Lib.encodeRuneZ_one (by omega) (by omega)]
      simp only [List.map_cons, List.map_nil]
      rw [show ((r : Int) - 32).toNat = r - 32 by omega]
    have hn : ((r - 32).toUInt8).toNat = r - 32 := by simp; omega
    refine ⟨_, _, e, ?_, ⟨by rw [e]; simp, fun b => ?_⟩, by rw [e, if_pos (by omega)]; rfl⟩
    · simp only [contB, hn, decide_eq_false_iff_not]; omega
    · show headR (greatB r ++ b) = (r - 32, (greatB r).length)
      rw [e]
      unfold headR Lib.decodeN
      simp only [List.cons_append, List.getD_cons_zero, hn]
      rw [if_pos (by omega)]; rfl
  · have e : greatB r = [(192 + (r - 32) / 64).toUInt8, (128 + (r - 32) % 64).toUInt8] := by
      unfold greatB
      rw [Lib.encodeRuneZ_two (by omega) (by omega)]
      simp only [List.map_cons, List.map_nil]
      rw [show (192 + ((r : Int) - 32) / 64).toNat = 192 + (r - 32) / 64 by omega, show (128 + ((r : Int) - 32) % 64).toNat = 128 + (r - 32) % 64 by omega]
    have hn : ((192 + (r - 32) / 64).toUInt8).toNat = 192 + (r - 32) / 64 := by simp; omega
    have hm : ((128 + (r - 32) % 64).toUInt8).toNat = 128 + (r - 32) % 64 := by simp; omega
    have hc : contB ((128 + (r - 32) % 64).toUInt8) = true := by simp only [contB, hm, decide_eq_true_eq]; omega
    refine ⟨_, _, e, ?_, ⟨by rw [e]; simp, fun b => ?_⟩, by rw [e, if_neg (by omega)]; rfl⟩
    · simp only [contB, hn, decide_eq_false_iff_not]; omega
    · show headR (greatB r ++ b) = (r - 32, (greatB r).length)
      rw [e]
      unfold headR Lib.decodeN
      simp only [List.cons_append, List.getD_cons_zero, List.getD_cons_succ, hn, hm, List.length_cons]
      rw [if_neg (by omega), if_pos (by omega), if_pos (by omega)]
      simp only [List.length_nil, Prod.mk.injEq, and_true]
      omega
/-- A small letter begins with a byte that begins a rune. -/
theorem low_head {t : List UInt8} (ht : t ≠ []) (h : lowR (headR t).1 = true) : contP t = [] := by
  rcases t with _ | ⟨b0, u⟩
  · exact absurd rfl ht
  · unfold contP
    rw [List.takeWhile_cons]
    by_cases hc : contB b0 = true
    · rw [headR_cont hc] at h
      exact absurd h (by decide)
    · simp [hc]
theorem foldL_cons {t : List UInt8} (ht : t ≠ []) : foldL t = foldX ((headR t).1, t.take (headR t).2) ++ foldL (t.drop (headR t).2) := by
  unfold foldL
  rw [runesL_cons ht, List.flatMap_cons]
theorem foldL_nil : foldL [] = [] := rfl
theorem contP_fold : ∀ (n : Nat) (t : List UInt8), t.length ≤ n → contP (foldL t) = contP t
  | 0, t, h => by
    have : t = [] := List.eq_nil_of_length_eq_zero (by omega)
    subst this; rfl
  | n + 1, t, h => by
    by_cases h0 : t = []
    · subst h0; rfl
    · have hb := headR_bd t h0
      rw [foldL_cons h0]
      by_cases hl : lowR (headR t).1 = true
      · obtain ⟨b0, u, e, hc, -⟩ := great_shape hl
        rw [low_head h0 hl]
        simp only [foldX, hl, if_true, e, contP, List.cons_append, List.takeWhile_cons, hc]
        rfl
      · simp only [foldX, hl]
        have ih := contP_fold n (t.drop (headR t).2) (by rw [List.length_drop]; omega)
        conv => rhs; rw [← List.take_append_drop (headR t).2 t]
        unfold contP at ih ⊢
        rw [if_neg (by simp), List.takeWhile_append, List.takeWhile_append, ih]
/-- A folded text's runes. -/
theorem runes_fold : ∀ (n : Nat) (t : List UInt8), t.length ≤ n → runesL (foldL t) = (runesL t).map fun x => (foldR x.1, foldX x)
  | 0, t, h => by
    have : t = [] := List.eq_nil_of_length_eq_zero (by omega)
    subst this; rfl
  | n + 1, t, h => by
    by_cases h0 : t = []
    · subst h0; rfl
    · have hb := headR_bd t h0
      have ih := runes_fold n (t.drop (headR t).2) (by rw [List.length_drop]; omega)
      rw [foldL_cons h0, runesL_cons h0, List.map_cons, ← ih]
      by_cases hl : lowR (headR t).1 = true
      · obtain ⟨b0, u, e, hc, hw, -⟩ := great_shape hl
        have hx : foldX ((headR t).1, t.take (headR t).2) = greatB (headR t).1 := by simp only [foldX, hl, if_true]
        have hr : foldR (headR t).1 = (headR t).1 - 32 := by simp only [foldR, hl, if_true]
        rw [hx, hr]
        exact hw.step _
      · have hx : foldX ((headR t).1, t.take (headR t).2) = t.take (headR t).2 := by simp only [foldX, hl]; rfl
        have hr : foldR (headR t).1 = (headR t).1 := by simp only [foldR, hl]; rfl
        rw [hx, hr]
        by_cases hv : (headR t).1 ≠ 65533 ∨ (headR t).2 ≠ 1
        · exact (WholeR.head h0 hv).step _
        · have hv1 : (headR t).1 = 65533 := by omega
          have hv2 : (headR t).2 = 1 := by omega
          rcases t with _ | ⟨b0, u⟩
          · exact absurd rfl h0
          · rw [hv2]
            simp only [List.take_succ_cons, List.take_zero, List.drop_succ_cons, List.drop_zero]
            have hh : headR (b0 :: foldL u) = headR (b0 :: u) := headR_cong b0 (contP_fold u.length u (Nat.le_refl _))
            rw [List.singleton_append, runesL_cons (t := b0 :: foldL u) (by simp), hh, hv2]
            simp only [List.take_succ_cons, List.take_zero, List.drop_succ_cons, List.drop_zero]
theorem runesFold (t : List UInt8) : runesL (foldL t) = (runesL t).map fun x => (foldR x.1, foldX x) := runes_fold t.length t (Nat.le_refl _)
theorem lowR_fold {r : Nat} (h : lowR r = true) : lowR (r - 32) = false := by
  rw [lowR_iff] at h
  rw [← Bool.not_eq_true, lowR_iff]; omega
theorem foldX_fold (x : Nat × List UInt8) : foldX (foldR x.1, foldX x) = foldX x := by
  by_cases h : lowR x.1 = true
  · have := lowR_fold h
    unfold foldX foldR
    simp only [h, if_true, this]; rfl
  · unfold foldX foldR
    simp [h]
theorem fold_fold (t : List UInt8) : foldL (foldL t) = foldL t := by
  show (runesL (foldL t)).flatMap foldX = (runesL t).flatMap foldX
  rw [runesFold, List.flatMap_map]
  congr 1
  funext x
  exact foldX_fold x
theorem count_fold (t : List UInt8) : countL (foldL t) = countL t := by unfold countL; rw [runesFold, List.length_map]
theorem fold_cut (t : List UInt8) (n : Nat) : foldL (cutL t n) = cutL (foldL t) n := by
  show (runesL (joinR ((runesL t).take n))).flatMap foldX = joinR ((runesL (foldL t)).take n)
  rw [runes_cut t.length t n (Nat.le_refl _), runesFold, ← List.map_take]
  unfold joinR
  rw [List.flatMap_map]
theorem foldR_good {r : Nat} (h : goodR r = true) : goodR (foldR r) = true := by
  unfold foldR
  split
  · rename_i hl
    rw [lowR_iff] at hl
    simp [goodR]; omega
  · exact h
theorem labR_iff (t : List UInt8) : labR t = true ↔ (∀ x ∈ runesL t, goodR x.1 = true) ∧ 1 ≤ countL t ∧ countL t ≤ 12 := by simp [labR, countL]
theorem labR_fold {t : List UInt8} (h : labR t = true) : labR (foldL t) = true := by
  rw [labR_iff] at h ⊢
  refine ⟨fun x hx => ?_, by rw [count_fold]; exact h.2⟩
  rw [runesFold] at hx
  obtain ⟨y, hy, rfl⟩ := List.mem_map.1 hx
  exact foldR_good (h.1 y hy)
theorem good_whole {t : List UInt8} (h : labR t = true) : ∀ x ∈ runesL t, WholeR x := fun x hx => runes_whole t x hx (by
  have := (labR_iff t).1 h |>.1 x hx
  simp [goodR] at this; omega)
theorem runes_back {t : List UInt8} (h : labR t = true) : runesL (backL t) = (runesL t).reverse := by
  have := runes_join_whole (l := (runesL t).reverse) (fun x hx => good_whole h x (List.mem_reverse.1 hx)) []
  rw [List.append_nil, runesL_nil, List.append_nil] at this
  exact this
theorem back_back {t : List UInt8} (h : labR t = true) : backL (backL t) = t := by
  show joinR (runesL (backL t)).reverse = t
  rw [runes_back h, List.reverse_reverse, runes_join]
theorem labR_back {t : List UInt8} (h : labR t = true) : labR (backL t) = true := by
  have hb := runes_back h
  rw [labR_iff] at h ⊢
  unfold countL at *
  rw [hb]
  exact ⟨fun x hx => h.1 x (List.mem_reverse.1 hx), by rw [List.length_reverse]; exact h.2⟩
theorem joinR_rev_len (l : List (Nat × List UInt8)) : (joinR l.reverse).length = (joinR l).length := by
  induction l with
  | nil => rfl
  | cons x l ih => rw [List.reverse_cons, joinR_append, joinR_cons, List.length_append, List.length_append, ih]; simp [joinR]; omega
theorem back_len (t : List UInt8) : (backL t).length = t.length := by
  show (joinR (runesL t).reverse).length = _
  rw [joinR_rev_len, runes_join]
theorem runes_joins {s : List UInt8} (h : labR s = true) (t : List UInt8) : runesL (s ++ t) = runesL s ++ runesL t := by
  have := runes_join_whole (good_whole h) t
  rw [runes_join] at this
  exact this
theorem count_joins {s : List UInt8} (h : labR s = true) (t : List UInt8) : countL (s ++ t) = countL s + countL t := by unfold countL; rw [runes_joins h, List.length_append]
theorem fold_joins {s : List UInt8} (h : labR s = true) (t : List UInt8) : foldL (s ++ t) = foldL s ++ foldL t := by unfold foldL; rw [runes_joins h, List.flatMap_append]
theorem back_joins {s : List UInt8} (h : labR s = true) (t : List UInt8) : backL (s ++ t) = backL t ++ backL s := by unfold backL; rw [runes_joins h, List.reverse_append, joinR_append]
theorem cut_joins {s : List UInt8} (h : labR s = true) (t : List UInt8) : cutL (s ++ t) (countL s) = s := by
  unfold cutL countL
  rw [runes_joins h, List.take_left, runes_join]
theorem labR_joins {s t : List UInt8} (h : labR s = true) (h2 : labR t = true) : labR (s ++ t) = decide (countL (s ++ t) ≤ 12) := by
  have hc := count_joins h t
  rw [Bool.eq_iff_iff, labR_iff, decide_eq_true_eq]
  have h1 := (labR_iff s).1 h
  have h3 := (labR_iff t).1 h2
  constructor
  · intro hh; exact hh.2.2
  · intro hh
    refine ⟨fun x hx => ?_, by omega, hh⟩
    rw [runes_joins h] at hx
    rcases List.mem_append.1 hx with hx | hx
    · exact h1.1 x hx
    · exact h3.1 x hx
theorem cut_cut (t : List UInt8) (n m : Nat) : cutL (cutL t n) m = cutL t (min n m) := by
  show joinR ((runesL (joinR ((runesL t).take n))).take m) = joinR ((runesL t).take (min n m))
  rw [runes_cut t.length t n (Nat.le_refl _), List.take_take, Nat.min_comm]
theorem cut_all (t : List UInt8) {n : Nat} (h : countL t ≤ n) : cutL t n = t := by
  unfold cutL countL at *
  rw [List.take_of_length_le h, runes_join]
theorem cut_zero (t : List UInt8) : cutL t 0 = [] := rfl
/-- The next cut: one rune more. -/
theorem cut_succ (t : List UInt8) {i : Nat} (h : i < countL t) : ∃ x : List UInt8, cutL t (i + 1) = cutL t i ++ x ∧ 1 ≤ x.length := by
  have hx : (runesL t)[i]? = some (runesL t)[i] := List.getElem?_eq_getElem h
  refine ⟨(runesL t)[i].2, ?_, (runes_pos t _ (List.getElem_mem h)).1⟩
  unfold cutL
  rw [List.take_add_one, hx, joinR_append]
  simp [joinR]
theorem cut_prefix (t : List UInt8) (n : Nat) : ∃ x, t = cutL t n ++ x := ⟨joinR ((runesL t).drop n), by
  conv => lhs; rw [← runes_join t, ← List.take_append_drop n (runesL t), joinR_append]
  rfl⟩
theorem count_le (t : List UInt8) : countL t ≤ t.length := runesL_len t
/-- What is filled up. -/
def padL (t : List UInt8) (n : Nat) : List UInt8 := cutL t n ++ List.replicate (n - countL (cutL t n)) 32
theorem padI_nat (t : List UInt8) {n : Nat} (h : n ≤ 1000) : padI t (n : Int) = padL t n := by
  unfold padI padL cutI
  rw [show min (n : Int) 1000 = (n : Int) by omega, show ((n : Int)).toNat = n by omega]
theorem padI_neg (t : List UInt8) {n : Int} (h : n < 0) : padI t n = [] := by
  unfold padI cutI
  rw [show (min n 1000).toNat = 0 by omega, cut_zero]; rfl
theorem runes_padL (t : List UInt8) (n : Nat) : runesL (padL t n) = (runesL t).take n ++ List.replicate (n - countL (cutL t n)) (32, [32]) := by
  unfold padL
  rw [runes_pad]
  congr 1
  exact runes_cut t.length t n (Nat.le_refl _)
theorem count_pad (t : List UInt8) (n : Nat) : countL (padL t n) = n := by
  have h1 : (runesL (padL t n)).length = _ := congrArg List.length (runes_padL t n)
  have h2 := count_cut t n
  unfold countL at *
  rw [h1, List.length_append, List.length_take, List.length_replicate, h2]; omega
theorem cut_pad (t : List UInt8) (n : Nat) : cutL (padL t n) (min n (countL t)) = cutL t n := by
  show joinR ((runesL (padL t n)).take (min n (countL t))) = joinR ((runesL t).take n)
  rw [runes_padL]
  have hl : ((runesL t).take n).length = min n (countL t) := by rw [List.length_take]; rfl
  rw [List.take_left' hl]
theorem pad_pad (t : List UInt8) (n : Nat) : padL (padL t n) n = padL t n := by
  have hc := count_pad t n
  have ha : cutL (padL t n) n = padL t n := cut_all _ (by omega)
  show cutL (padL t n) n ++ List.replicate (n - countL (cutL (padL t n) n)) 32 = padL t n
  rw [ha, hc, Nat.sub_self]; simp
theorem pad_self (t : List UInt8) : padL t (countL t) = t := by
  unfold padL
  rw [cut_all t (Nat.le_refl _), Nat.sub_self]; simp
theorem pad_len (t : List UInt8) (n : Nat) : (padL t n).length = (cutL t n).length + (n - countL (cutL t n)) := by unfold padL; simp
end Go.Proofs.YtdginbmannhfnaaDoor
