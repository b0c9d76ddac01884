/-
  The walk of LabelJoins.
-/
import Derived.Test.YtdginbmannhfnaaDoorRules2
namespace Go.Proofs.YtdginbmannhfnaaDoor
open Go.RowKit
set_option linter.unusedVariables false

theorem joinR_le (l : List (Nat × List UInt8)) (h : ∀ x ∈ l, x.2.length ≤ 4) : (joinR l).length ≤ 4 * l.length := by
  induction l with
  | nil => simp [joinR]
  | cons x l ih =>
    have h1 := h x (by simp)
    have h2 := ih fun y hy => h y (by simp [hy])
    rw [joinR_cons, List.length_append, List.length_cons]; omega
theorem labR_len {t : List UInt8} (h : labR t = true) : t.length ≤ 48 := by
  have h1 := joinR_le (runesL t) fun x hx => (runes_pos t x hx).2
  rw [runes_join] at h1
  have h2 := ((labR_iff t).1 h).2.2
  unfold countL at h2
  omega
set_option maxRecDepth 100000 in
set_option maxHeartbeats 1600000 in
theorem labelJoins_walk (a0 a1 : ByteArray) (w : World) (hT : Lib.Utf8Tabs 0 1 w) (h0 : a0.size ≤ maxLen) (h1 : a1.size ≤ maxLen) :
    Calls Tryd.prog 7 #[.string a0, .string a1] w fun e w' => e = .returned (.bool true) ∧ Below w.heap.size w w' := by
  obtain ⟨s, rfl⟩ := to_str a0
  obtain ⟨t, rfl⟩ := to_str a1
  rw [str_size] at h0 h1
  have HT := hide hT
  unfold maxLen at h0 h1
  clear hT
  go_enter Tryd.func7, Tryd.ntmps7
  by_cases hs : labR s = true
  · by_cases ht : labR t = true
    · have hls := labR_len hs
      have hlt := labR_len ht
      obtain ⟨U, eU⟩ : ∃ U, U = s ++ t := ⟨_, rfl⟩
      obtain ⟨cs, ecs⟩ : ∃ c, c = countL s := ⟨_, rfl⟩
      obtain ⟨ct, ect⟩ : ∃ c, c = countL t := ⟨_, rfl⟩
      obtain ⟨cu, ecu⟩ : ∃ c, c = countL U := ⟨_, rfl⟩
      obtain ⟨Fs, eFs⟩ : ∃ c, c = foldL s := ⟨_, rfl⟩
      obtain ⟨Ft, eFt⟩ : ∃ c, c = foldL t := ⟨_, rfl⟩
      obtain ⟨FU, eFU⟩ : ∃ c, c = foldL U := ⟨_, rfl⟩
      obtain ⟨Ks, eKs⟩ : ∃ c, c = backL s := ⟨_, rfl⟩
      obtain ⟨Kt, eKt⟩ : ∃ c, c = backL t := ⟨_, rfl⟩
      obtain ⟨KU, eKU⟩ : ∃ c, c = backL U := ⟨_, rfl⟩
      have hU : U.length ≤ 96 := by rw [eU, List.length_append]; omega
      have hc : cu = cs + ct := by rw [ecu, ecs, ect, eU]; exact count_joins hs t
      have hF : str Fs ++ str Ft = str FU := by rw [str_append, eFU, eU, fold_joins hs, eFs, eFt]
      have hK : str Kt ++ str Ks = str KU := by rw [str_append, eKU, eU, back_joins hs, eKs, eKt]
      have hcut : cutL U cs = s := by rw [eU, ecs]; exact cut_joins hs t
      have hRU : labR U = decide (cu ≤ 12) := by rw [ecu, eU]; exact labR_joins hs ht
      have hss : str s ++ str t = str U := by rw [str_append, eU]
      have z1 : ¬ 9223372036854775807 < (str s).size + (str t).size := by rw [str_size, str_size]; omega
      have z2 : ¬ 9223372036854775807 < (str Fs).size + (str Ft).size := by rw [str_size, str_size, eFs, eFt, fold_len, fold_len]; omega
      have z3 : ¬ 9223372036854775807 < (str Kt).size + (str Ks).size := by rw [str_size, str_size, eKs, eKt, back_len, back_len]; omega
      have hcs12 : cs ≤ 12 := by rw [ecs]; exact ((labR_iff s).1 hs).2.2
      have hct12 : ct ≤ 12 := by rw [ect]; exact ((labR_iff t).1 ht).2.2
      have hw : IntKind.i64.wrap ((cs : Int) + (ct : Int)) = (cu : Int) := by rw [IntWalk.i64_in _ (by omega)]; omega
      have HU := hide eU; have HCs := hide ecs; have HCt := hide ect; have HCu := hide ecu
      have HFs := hide eFs; have HFt := hide eFt; have HFU := hide eFU; have HKs := hide eKs; have HKt := hide eKt; have HKU := hide eKU
      have HCUT := hide hcut; have HRU := hide hRU; have HS := hide hs; have HTT := hide ht
      clear eU ecs ect ecu eFs eFt eFU eKs eKt eKU hcut hRU hs ht hc
      go_wp2_with fail
      refine (labR_any s _ (by omega)).mono ?_
      rw [HS.out]
      rintro e w1 ⟨rfl, b1⟩
      have B1 := b1
      go_wp2_with fail
      refine (labR_any t _ (by omega)).mono ?_
      rw [HTT.out]
      rintro e w2 ⟨rfl, b2⟩
      have B2 := nxt B1 b2
      clear B1 b2
      go_wp2_with fail
      refine (count_any U _ (by omega)).mono ?_
      rw [← HCu.out]
      rintro e w3 ⟨rfl, b3⟩
      have B3 := nxt B2 b3
      clear B2 b3
      go_wp2_with fail
      refine (count_any s _ (by omega)).mono ?_
      rw [← HCs.out]
      rintro e w4 ⟨rfl, b4⟩
      have B4 := nxt B3 b4
      clear B3 b4
      go_wp2_with fail
      refine (count_any t _ (by omega)).mono ?_
      rw [← HCt.out]
      rintro e w5 ⟨rfl, b5⟩
      have B5 := nxt B4 b5
      clear B4 b5
      go_wp2_with fail
      refine (fold_any U _ (by omega) (nxtT HT.out B5)).mono ?_
      rw [← HFU.out]
      rintro e w6 ⟨rfl, b6⟩
      have B6 := nxt B5 b6
      clear B5 b6
      go_wp2_with fail
      refine (fold_any s _ (by omega) (nxtT HT.out B6)).mono ?_
      rw [← HFs.out]
      rintro e w7 ⟨rfl, b7⟩
      have B7 := nxt B6 b7
      clear B6 b7
      go_wp2_with fail
      refine (fold_any t _ (by omega) (nxtT HT.out B7)).mono ?_
      rw [← HFt.out]
      rintro e w8 ⟨rfl, b8⟩
      have B8 := nxt B7 b8
      clear B7 b8
      go_wp2_with fail
      refine (labBack_any U _ (by omega) (nxtT HT.out B8)).mono ?_
      rw [← HKU.out]
      rintro e w9 ⟨rfl, b9⟩
      have B9 := nxt B8 b9
      clear B8 b9
      go_wp2_with fail
      refine (labBack_any t _ (by omega) (nxtT HT.out B9)).mono ?_
      rw [← HKt.out]
      rintro e w10 ⟨rfl, b10⟩
      have B10 := nxt B9 b10
      clear B9 b10
      go_wp2_with fail
      refine (labBack_any s _ (by omega) (nxtT HT.out B10)).mono ?_
      rw [← HKs.out]
      rintro e w11 ⟨rfl, b11⟩
      have B11 := nxt B10 b11
      clear B10 b11
      go_wp2_with fail
      refine (count_any s _ (by omega)).mono ?_
      rw [← HCs.out]
      rintro e w12 ⟨rfl, b12⟩
      have B12 := nxt B11 b12
      clear B11 b12
      go_wp2_with fail
      refine (labCut_any U (cs : Int) _ (by omega) (by omega)).mono ?_
      rw [cutI_nat, HCUT.out]
      rintro e w13 ⟨rfl, b13⟩
      have B13 := nxt B12 b13
      clear B12 b13
      by_cases h12 : cu ≤ 12
      · have hRU : labR U = true := by rw [HRU.out]; simp [h12]
        have i1 : (cu : Int) ≤ 12 := by omega
        go_wp2_with fail
        refine (labR_any U _ (by omega)).mono ?_
        rw [hRU]
        rintro e w14 ⟨rfl, b14⟩
        have B14 := nxt B13 b14
        clear B13 b14
        go_wp2_with fail
        refine (count_any U _ (by omega)).mono ?_
        rw [← HCu.out]
        rintro e w15 ⟨rfl, b15⟩
        have B15 := nxt B14 b15
        clear B14 b15
        go_wp2_with fail
        refine (known2_any _ (hide (nxtT HT.out B15))).mono ?_
        rintro e w16 ⟨rfl, b16⟩
        have B16 := nxt B15 b16
        clear B15 b16
        go_wp2_with fail
        go_ret
        exact ⟨rfl, B16⟩
      · have hRU : labR U = false := by rw [HRU.out]; simp [h12]
        have i1 : ¬ (cu : Int) ≤ 12 := by omega
        go_wp2_with fail
        refine (labR_any U _ (by omega)).mono ?_
        rw [hRU]
        rintro e w14 ⟨rfl, b14⟩
        have B14 := nxt B13 b14
        clear B13 b14
        go_wp2_with fail
        refine (count_any U _ (by omega)).mono ?_
        rw [← HCu.out]
        rintro e w15 ⟨rfl, b15⟩
        have B15 := nxt B14 b15
        clear B14 b15
        go_wp2_with fail
        refine (known2_any _ (hide (nxtT HT.out B15))).mono ?_
        rintro e w16 ⟨rfl, b16⟩
        have B16 := nxt B15 b16
        clear B15 b16
        go_wp2_with fail
        go_ret
        exact ⟨ret_bool (by simp; omega), B16⟩
    · have hs2 : labR t = false := by simpa using ht
      have hs1 : labR s = true := hs
      clear hs
      go_wp2_with fail
      refine (labR_any s _ (by omega)).mono ?_
      rw [hs1]
      rintro e w1 ⟨rfl, b1⟩
      have B1 := b1
      go_wp2_with fail
      refine (labR_any t _ (by omega)).mono ?_
      rw [hs2]
      rintro e w2 ⟨rfl, b2⟩
      have B2 := nxt B1 b2
      clear B1 b2
      go_wp2_with fail
      refine (known2_any _ (hide (nxtT HT.out B2))).mono ?_
      rintro e w3 ⟨rfl, b3⟩
      have B3 := nxt B2 b3
      clear B2 b3
      go_wp2_with fail
      go_ret
      exact ⟨rfl, B3⟩
  · have hs2 : labR s = false := by simpa using hs
    go_wp2_with fail
    refine (labR_any s _ (by omega)).mono ?_
    rw [hs2]
    rintro e w1 ⟨rfl, b1⟩
    have B1 := b1
    go_wp2_with fail
    refine (known2_any _ (hide (nxtT HT.out B1))).mono ?_
    rintro e w2 ⟨rfl, b2⟩
    have B2 := nxt B1 b2
    clear B1 b2
    go_wp2_with fail
    go_ret
    exact ⟨rfl, B2⟩
end Go.Proofs.YtdginbmannhfnaaDoor
