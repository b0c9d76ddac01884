/-
  The walk of ProrataEqual.
-/
import Derived.Test.YtllandfjdpeooaaProM
namespace Go.Proofs.Ytllandfjdpeooaa
open Go.RowKit
set_option linter.unusedVariables false

theorem rep_snoc (n : Nat) (z : Int) : List.replicate (n + 1) z = List.replicate n z ++ [z] := List.replicate_succ'
set_option maxRecDepth 100000 in
set_option maxHeartbeats 3200000 in
theorem prorataEqual_walk (a0 a1 a2 : Int) (w : World) (_w0 : (Lit.int .i64 a0).wf = true) (_w1 : (Lit.int .i64 a1).wf = true) (_w2 : (Lit.int .i64 a2).wf = true) :
    Calls Try.prog 6 #[.int .i64 a0, .int .i64 a1, .int .i64 a2] w fun e w' => e = .returned (.bool true) ∧ Below w.heap.size w w' := by
  have hzb := within_bd a0 0 999 (by omega)
  have hnb := within_bd a1 0 39 (by omega)
  go_enter Try.func6, Try.ntmps6
  go_wp2_with fail
  refine (within_any a0 0 999 _ (by omega) (by omega) (by omega)).mono ?_
  rintro e w2 ⟨rfl, rfl⟩
  go_wp2_with fail
  refine (within_any a1 0 39 _ (by omega) (by omega) (by omega)).mono ?_
  rintro e w2 ⟨rfl, rfl⟩
  go_wp2_with fail
  obtain ⟨z, ez⟩ : ∃ z, z = 1 + within a0 0 999 := ⟨_, rfl⟩
  obtain ⟨n, en⟩ : ∃ n : Nat, (n : Int) = 1 + within a1 0 39 := ⟨(1 + within a1 0 39).toNat, by omega⟩
  rw [← ez, ← en]
  have hz : 1 ≤ z ∧ z ≤ 1000 := by omega
  have hn : 1 ≤ n ∧ n ≤ 40 := by omega
  clear ez en hzb hnb
  go_loopw [9, 10] (fun v i wr => ∃ (j : Nat) (A c : _), j ≤ n ∧ i = .int .i64 j ∧ v = .slice A j c ∧ wr.ownsRow w.heap.size 2 1 (.slice A j c) j (i64s (List.replicate j z)) ∧ Below w.heap.size w wr) (fun _ i _ => n - (intOf i).toNat)
  case atStart => exact ⟨0, none, 0, Nat.zero_le _, rfl, rfl, World.ownsRow_nil _ _ _ _, Below.refl _ _⟩
  case round =>
    obtain ⟨j, A, c, hj, rfl, rfl, own, hbel⟩ := hrel
    have hs := hbel.size
    by_cases hlt : j < n
    · go_wp2_with (at_builtin; refine wpList_push elI64 own (.int .i64 z) rfl _ _ rfl rfl rfl rfl (by omega) (by omega) ?_; intro A' c' w1 own1 _ hb1)
      go_roundw
      case rel => exact ⟨j + 1, A', c', by omega, by go_num, rfl, by rw [rep_snoc]; simpa [i64s] using own1, hb1 _ _ (Nat.le_refl _) hbel⟩
      case measure => simp [intOf]; omega
    · obtain rfl : j = n := by omega
      have hcA := Cells.of_own own
      obtain ⟨P, eP⟩ : ∃ P, P = z * (j : Int) := ⟨_, rfl⟩
      have hP : 0 ≤ P ∧ P ≤ 40000 := by
        rw [eP]
        have h1 := Int.mul_nonneg (show 0 ≤ z by omega) (show 0 ≤ (j : Int) by omega)
        have h2 := Int.mul_le_mul hz.2 (show (j : Int) ≤ 40 by omega) (by omega) (by omega)
        omega
      have e1 : IntKind.i64.wrap (z * (j : Int)) = P := by rw [IntWalk.i64_in _ (by omega)]; exact eP.symm
      have e2 : wrap64 (z * (j : Int)) = P := by rw [eP]; unfold wrap64; omega
      have e3 : z * (j : Int) = P := eP.symm
      have hk := within_bd a2 0 P hP.1
      have hsum : (List.replicate j z).sum = P := by rw [sum_rep]; exact e3
      have hrb : ∀ q, 0 ≤ q → q ≤ P → rightB (List.replicate j z) q = true := fun q h0 h1 => (rightB_iff _ _).2 ⟨by simp; omega, h0, fun m hm => by rw [(List.mem_replicate.1 hm).2]; omega, by rw [hsum]; exact h1⟩
      obtain ⟨k, ek⟩ : ∃ k, k = within a2 0 P := ⟨_, rfl⟩
      rw [← ek] at hk
      obtain ⟨by', eby⟩ : ∃ by', by' = k / (j : Int) := ⟨_, rfl⟩
      have hq1 := Int.ediv_nonneg hk.1 (show 0 ≤ (j : Int) by omega)
      have hq2 := Int.ediv_mul_le k (show (j : Int) ≠ 0 by omega)
      have hq3 : k / (j : Int) ≤ z := by
        have := Int.ediv_le_ediv (show 0 < (j : Int) by omega) hk.2
        rw [eP, Int.mul_ediv_cancel _ (by omega)] at this
        exact this
      rw [← eby] at hq1 hq2 hq3
      obtain ⟨M, eM⟩ : ∃ M, M = by' * (j : Int) := ⟨_, rfl⟩
      have hM0 : 0 ≤ M := by rw [eM]; exact Int.mul_nonneg hq1 (by omega)
      rw [← eM] at hq2
      have hby := equal_by (k := k) hz.1 hn.1 hk.1
      rw [← eby, ← eM] at hby
      obtain ⟨X, eX⟩ : ∃ X, X = byL (List.replicate j z) 1 k := ⟨_, rfl⟩
      have hXl : X.length = j := by rw [eX, length_byL]; simp
      obtain ⟨D, eD⟩ : ∃ D, D = List.replicate j (z - by') := ⟨_, rfl⟩
      rw [← eX, ← eD] at hby
      have hDl : D.length = j := by rw [eD]; simp
      have hDn : ∀ m ∈ D, 0 ≤ m := fun m hm => by rw [eD] at hm; rw [(List.mem_replicate.1 hm).2]; omega
      have hDat : ∀ i, i < j → D[i]? = some (z - by') := fun i hi => by rw [eD]; simp [hi]
      have hXat : ∀ i y, (shareL D (k - M))[i]? = some y → i < j → X[i]? = some (by' + y) := fun i y hy hi => by
        rw [hby]; exact addL_at (by simp [hi]) hy
      have hsh0 : shareP (List.replicate j z) 0 0 1 k = X := by rw [share_none (hrb k hk.1 hk.2) (by omega) (by omega) (topK_zero (fun m hm => by rw [(List.mem_replicate.1 hm).2]; omega) hk.1), eX]
      have hsh1 : shareP (List.replicate j z) (-1) 9 1 k = X := by rw [share_none (hrb k hk.1 hk.2) (by omega) (by omega) topK_out, eX]
      have hall : byL (List.replicate j z) 1 P = List.replicate j z := by rw [eP]; exact equal_all hz.1 hn.1
      have f1 : k / (j : Int) = by' := eby.symm
      have f2 : IntKind.i64.wrap (by' * (j : Int)) = M := by rw [IntWalk.i64_in _ (by omega)]; exact eM.symm
      have f3 : wrap64 (by' * (j : Int)) = M := by rw [eM]; unfold wrap64; omega
      have HRB := hide hrb; have EX := hide eX; have XL := hide hXl; have DL := hide hDl; have DN := hide hDn; have DAT := hide hDat; have XAT := hide hXat; have SH0 := hide hsh0; have SH1 := hide hsh1; have ALL := hide hall; have EK := hide ek
      obtain ⟨Z, eZ⟩ : ∃ Z, Z = List.replicate j z := ⟨_, rfl⟩
      have hZl : Z.length = j := by rw [eZ]; simp
      rw [← eZ] at hcA HRB EX SH0 SH1 ALL
      have ZL := hide hZl
      have n1 : (1 : Int) ≤ j := by omega
      clear hrb eX hXl hDl hDn hDat hXat hsh0 hsh1 hall ek eZ hZl own hby eD eM eby eP hsum e3
      go_wp2_with fail
      refine (within_any a2 0 P _ hP.1 (by omega) (by omega)).mono ?_
      rintro e w2 ⟨rfl, rfl⟩
      rw [← EK.out]
      go_wp2_with fail
      refine (plain_yes A _ c Z 1 k _ ZL.out (HRB.out k hk.1 hk.2) (by omega) hcA).mono ?_
      rw [← EX.out]
      intro e w2 h
      obtain ⟨A2, c2, rfl, -, hA2, -, -, hb⟩ := h.n XL.out
      have B2 := nxt hbel hb
      have hc2 := hcA.below hb
      clear h hb hcA hbel
      go_wp2_with fail
      go_loop [14, 15] (fun l i => ∃ i' : Nat, i' ≤ j ∧ i = .int .i64 i' ∧ l = .int .i64 (leftL (D.take i') (k - M))) (fun _ i => j - (intOf i).toNat)
      case atStart => exact ⟨0, Nat.zero_le _, rfl, by simp [leftL]⟩
      case round =>
        obtain ⟨i, hi, rfl, rfl⟩ := hrel
        have hlb := leftL_bd (D.take i) (k - M) (fun m hm => DN.out m (List.mem_of_mem_take hm)) (by omega)
        by_cases hlt2 : i < j
        · obtain ⟨b, o, x, rfl, hb, hcx, hx⟩ := hA2.int_at (k := i) (by rw [XL.out]; exact hlt2)
          have hd := DAT.out i hlt2
          obtain ⟨es1, es2⟩ := shareL_take hd (k - M)
          obtain ⟨r, er⟩ : ∃ r, r = leftL (D.take i) (k - M) := ⟨_, rfl⟩
          rw [← er] at hlb es1 es2 ⊢
          obtain ⟨mn, hmn⟩ : ∃ mn, mn = min (z - by') r := ⟨_, rfl⟩
          rw [← hmn] at es1 es2
          have hsj : (shareL D (k - M))[i]? = some mn := by
            have e1 : (shareL D (k - M)).take (i + 1) = shareL (D.take (i + 1)) (k - M) := shareL_prefix D (k - M) (i + 1)
            rw [es1] at e1
            have e2 : ((shareL D (k - M)).take (i + 1))[i]? = some mn := by
              rw [e1, List.getElem?_append_right (by rw [length_shareL, List.length_take]; omega), length_shareL, List.length_take]
              have : i - min i D.length = 0 := by have := DL.out; omega
              rw [this]; rfl
            rwa [List.getElem?_take_of_lt (by omega)] at e2
          have hxe : x = by' + mn := Option.some.inj (hx.out.symm.trans (XAT.out i mn hsj hlt2))
          have ES2 := hide es2
          have i1 : (i : Int) < j := by omega
          have hmb : 0 ≤ mn ∧ mn ≤ 1000 := by omega
          clear es1 es2 hd hsj er
          rcases dec (r < z - by') with ⟨t1, d1⟩ | ⟨t1, d1⟩
          · obtain rfl : mn = r := by omega
            subst hxe
            clear hmn
            go_wp2_with fail
            go_round
            case rel => exact ⟨i + 1, by omega, by go_num, val_int (by have := ES2.out; omega)⟩
            case measure => simp [intOf]; omega
          · obtain rfl : mn = z - by' := by omega
            subst hxe
            clear hmn
            go_wp2_with fail
            go_round
            case rel => exact ⟨i + 1, by omega, by go_num, val_int (by have := ES2.out; omega)⟩
            case measure => simp [intOf]; omega
        · clear hlb
          go_wp2_with fail
          refine (pshare_any A _ c Z 0 0 1 k _ ZL.out (by rw [ZL.out]; omega) hc2).mono ?_
          rw [SH0.out]
          intro e w3 h
          obtain ⟨A3, c3, rfl, -, hA3, -, -, hb⟩ := h.n XL.out
          have B3 := nxt B2 hb
          have hA23 := hA2.below hb
          have hc3 := hc2.below hb
          clear h hb hA2 hc2 B2
          go_wp2_with fail
          refine (same_b A3 A2 _ _ c3 c2 X X _ XL.out XL.out (by rw [XL.out]; omega) (by rw [XL.out]; omega) hA3 hA23).mono ?_
          simp only [decide_true]
          rintro e w4 ⟨rfl, hb⟩
          have B4 := nxt B3 hb
          have hA24 := hA23.below hb
          have hc4 := hc3.below hb
          clear hb hA23 hc3 B3 hA3
          go_wp2_with fail
          refine (pshare_any A _ c Z (-1) 9 1 k _ ZL.out (by rw [ZL.out]; omega) hc4).mono ?_
          rw [SH1.out]
          intro e w5 h
          obtain ⟨A5, c5, rfl, -, hA5, -, -, hb⟩ := h.n XL.out
          have B5 := nxt B4 hb
          have hA25 := hA24.below hb
          have hc5 := hc4.below hb
          clear h hb hA24 hc4 B4
          go_wp2_with fail
          refine (same_b A5 A2 _ _ c5 c2 X X _ XL.out XL.out (by rw [XL.out]; omega) (by rw [XL.out]; omega) hA5 hA25).mono ?_
          simp only [decide_true]
          rintro e w6 ⟨rfl, hb⟩
          have B6 := nxt B5 hb
          have hc6 := hc5.below hb
          clear hb hA25 hc5 B5 hA5
          go_wp2_with fail
          refine (plain_yes A _ c Z 1 P _ ZL.out (HRB.out P hP.1 (Int.le_refl _)) (by omega) hc6).mono ?_
          rw [ALL.out]
          intro e w7 h
          obtain ⟨A7, c7, rfl, -, hA7, -, -, hb⟩ := h.n ZL.out
          have B7 := nxt B6 hb
          have hc7 := hc6.below hb
          clear h hb hc6 B6
          go_wp2_with fail
          refine (same_b A7 A _ _ c7 c Z Z _ ZL.out ZL.out (by rw [ZL.out]; omega) (by rw [ZL.out]; omega) hA7 hc7).mono ?_
          simp only [decide_true]
          rintro e w8 ⟨rfl, hb⟩
          have B8 := nxt B7 hb
          clear hb hc7 hA7 B7
          go_wp2_with fail
          refine (known11_any _).mono ?_
          rintro e w9 ⟨rfl, hb⟩
          go_wp2
          go_ret
          exact ⟨rfl, nxt B8 hb⟩
end Go.Proofs.Ytllandfjdpeooaa
