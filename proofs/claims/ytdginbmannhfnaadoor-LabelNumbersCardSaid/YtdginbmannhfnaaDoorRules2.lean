/-
  The walk of LabelRules.
-/
import Derived.Test.YtdginbmannhfnaaDoorPads2
namespace Go.Proofs.YtdginbmannhfnaaDoor
open Go.RowKit
set_option linter.unusedVariables false

set_option maxRecDepth 100000 in
set_option maxHeartbeats 1600000 in
theorem labelRules_walk (a0 : ByteArray) (n : Int) (w : World) (hT : Lib.Utf8Tabs 0 1 w) (h0 : a0.size ≤ maxLen) (h1 : (Lit.int .i64 n).wf = true) :
    Calls Tryd.prog 6 #[.string a0, .int .i64 n] w fun e w' => e = .returned (.bool true) ∧ Below w.heap.size w w' := by
  obtain ⟨l, rfl⟩ := to_str a0
  rw [str_size] at h0
  have hn := i64_bd h1
  have HT := hide hT
  unfold maxLen at h0
  clear h1 hT
  obtain ⟨m, em⟩ : ∃ m, m = if n < 0 then -(n + 1) else n := ⟨_, rfl⟩
  have hm : 0 ≤ m ∧ m ≤ 9223372036854775807 := by rw [em]; split <;> omega
  go_enter Tryd.func6, Tryd.ntmps6
  go_wp2_with fail
  refine (few_any l _ h0).mono ?_
  rintro e u ⟨rfl, rfl⟩
  obtain ⟨M, eM⟩ : ∃ M, M = l.take 300 := ⟨_, rfl⟩
  have hM : M.length ≤ 300 := by rw [eM]; simp; omega
  rw [← eM]
  clear eM h0
  have EM := hide em
  clear em
  go_upto_if 11 with (fail)
  go_cut [1] (fun v wx => v = .int .i64 m ∧ w = wx)
  case first =>
    by_cases h : n < 0
    · have e1 : m = -(n + 1) := by rw [EM.out, if_pos h]
      have e2 : IntKind.i64.wrap (n + 1) = n + 1 := IntWalk.i64_in _ (by omega)
      have e3 : IntKind.i64.wrap (-(n + 1)) = -(n + 1) := IntWalk.i64_in _ (by omega)
      subst e1
      go_wp2_with fail
      go_meet
      exact ⟨rfl, rfl⟩
    · have e1 : m = n := by rw [EM.out, if_neg h]
      subst e1
      go_wp2_with fail
      go_meet
      exact ⟨rfl, rfl⟩
  obtain ⟨rfl, rfl⟩ := hcut
  obtain ⟨k, ek, hk⟩ := tmod_nat (m := m) 50 hm.1 (by omega)
  have ek2 : m.tmod 50 = (k : Int) := ek
  have hkw : IntKind.i64.wrap (m.tmod 50) = (k : Int) := by rw [ek2, IntWalk.i64_in _ (by omega)]
  clear ek
  obtain ⟨C, eC⟩ : ∃ C, C = countL M := ⟨_, rfl⟩
  have hC : C ≤ 300 := by rw [eC]; exact Nat.le_trans (count_le M) hM
  obtain ⟨want, ew⟩ : ∃ want, want = min k C := ⟨_, rfl⟩
  have hcnt := count_cut M k
  have hcp := cut_pad M k
  have hpl := pad_len M k
  obtain ⟨c, ec⟩ : ∃ c, c = cutL M k := ⟨_, rfl⟩
  obtain ⟨p, ep⟩ : ∃ p, p = padL M k := ⟨_, rfl⟩
  obtain ⟨F, eF⟩ : ∃ F, F = foldL M := ⟨_, rfl⟩
  obtain ⟨K, eK⟩ : ∃ K, K = backL M := ⟨_, rfl⟩
  have hpc := count_pad M k
  have hff := fold_fold M
  have hfc := count_fold M
  have hfl := fold_len M
  have hbl := back_len M
  rw [← eC, ← ew, ← ec] at hcnt
  rw [← eC, ← ew, ← ec, ← ep] at hcp
  rw [← ep] at hpc
  rw [← ep, ← ec] at hpl
  rw [← eF] at hff hfc hfl
  rw [← eC] at hfc
  rw [← eK] at hbl
  have hcl : c.length ≤ M.length := by rw [ec]; exact cutI_le M k
  have hplen : p.length ≤ 700 := by rw [hpl]; omega
  have hpre : (str M).extract 0 c.length = str c := by
    obtain ⟨x, hx⟩ := cut_prefix M k
    rw [← ec] at hx
    rw [hx]; exact extract_pre c x
  have hms : (str M).size = M.length := str_size M
  have hcs : (str c).size = c.length := str_size c
  have hks : (str K).size = M.length := by rw [str_size, hbl]
  have i1 : ¬ M.length < c.length := by omega
  have EC := hide eC; have EW := hide ew; have Ec := hide ec; have EP := hide ep; have EF := hide eF; have EK := hide eK
  have HCNT := hide hcnt; have HCP := hide hcp; have HPC := hide hpc; have HFF := hide hff; have HFC := hide hfc; have HFL := hide hfl; have HBL := hide hbl
  clear eC ec ep eF eK hcnt hcp hpc hff hfc hfl hbl hpl
  go_wp2_with fail
  refine (labCut_any M (k : Int) _ (by omega) (by omega)).mono ?_
  rw [cutI_nat, ← Ec.out]
  rintro e w1 ⟨rfl, b1⟩
  have B1 := b1
  clear EM hkw ek2 ew
  go_wp2_with fail
  refine (count_any M _ (by omega)).mono ?_
  rw [← EC.out]
  rintro e w2 ⟨rfl, b2⟩
  have B2 := nxt B1 b2
  clear B1 b2
  go_upto_if 25 with (fail)
  go_cut [7] (fun v wx => v = .int .i64 (want : Int) ∧ w2 = wx)
  case first =>
    by_cases h : C < k
    · have e1 : want = C := by rw [EW.out]; omega
      subst e1
      go_wp2_with fail
      go_meet
      exact ⟨rfl, rfl⟩
    · have e1 : want = k := by rw [EW.out]; omega
      subst e1
      go_wp2_with fail
      go_meet
      exact ⟨rfl, rfl⟩
  obtain ⟨rfl, rfl⟩ := hcut
  have hwl : want ≤ 300 := by rw [EW.out]; omega
  go_wp2_with fail
  refine (count_any c _ (by omega)).mono ?_
  rw [HCNT.out]
  rintro e w3 ⟨rfl, b3⟩
  have B3 := nxt B2 b3
  clear B2 b3
  go_wp2_with fail
  refine (labPad_any M (k : Int) _ (by omega) (by omega)).mono ?_
  rw [padI_nat M (by omega), ← EP.out]
  rintro e w4 ⟨rfl, b4⟩
  have B4 := nxt B3 b4
  clear B3 b4
  go_wp2_with fail
  refine (count_any p _ (by omega)).mono ?_
  rw [HPC.out]
  rintro e w5 ⟨rfl, b5⟩
  have B5 := nxt B4 b5
  clear B4 b5
  go_wp2_with fail
  refine (labPad_any M (k : Int) _ (by omega) (by omega)).mono ?_
  rw [padI_nat M (by omega), ← EP.out]
  rintro e w6 ⟨rfl, b6⟩
  have B6 := nxt B5 b6
  clear B5 b6
  go_wp2_with fail
  refine (labCut_any p (want : Int) _ (by omega) (by omega)).mono ?_
  rw [cutI_nat, HCP.out]
  rintro e w7 ⟨rfl, b7⟩
  have B7 := nxt B6 b7
  clear B6 b7
  go_wp2_with fail
  refine (fold_any M _ (by omega) (nxtT HT.out B7)).mono ?_
  rw [← EF.out]
  rintro e w8 ⟨rfl, b8⟩
  have B8 := nxt B7 b8
  clear B7 b8
  go_wp2_with fail
  refine (fold_any F _ (by rw [HFL.out]; omega) (nxtT HT.out B8)).mono ?_
  rw [HFF.out]
  rintro e w9 ⟨rfl, b9⟩
  have B9 := nxt B8 b9
  clear B8 b9
  go_wp2_with fail
  refine (fold_any M _ (by omega) (nxtT HT.out B9)).mono ?_
  rw [← EF.out]
  rintro e w10 ⟨rfl, b10⟩
  have B10 := nxt B9 b10
  clear B9 b10
  go_wp2_with fail
  refine (fold_any M _ (by omega) (nxtT HT.out B10)).mono ?_
  rw [← EF.out]
  rintro e w11 ⟨rfl, b11⟩
  have B11 := nxt B10 b11
  clear B10 b11
  go_wp2_with fail
  refine (count_any F _ (by rw [HFL.out]; omega)).mono ?_
  rw [HFC.out]
  rintro e w12 ⟨rfl, b12⟩
  have B12 := nxt B11 b12
  clear B11 b12
  go_wp2_with fail
  refine (labBack_any M _ (by omega) (nxtT HT.out B12)).mono ?_
  rw [← EK.out]
  rintro e w13 ⟨rfl, b13⟩
  have B13 := nxt B12 b13
  clear B12 b13
  by_cases hR : labR M = true
  · go_wp2_with fail
    refine (labR_any M _ (by omega)).mono ?_
    rw [hR]
    rintro e w14 ⟨rfl, b14⟩
    have B14 := nxt B13 b14
    clear B13 b14
    have h12 := (labR_iff M).1 hR
    have hC12 : C ≤ 12 := by rw [EC.out]; exact h12.2.2
    have HBB : backL K = M := by rw [EK.out]; exact back_back hR
    have HRB : labR K = true := by rw [EK.out]; exact labR_back hR
    have HRF : labR F = true := by rw [EF.out]; exact labR_fold hR
    have HBB2 := hide HBB; have HRB2 := hide HRB; have HRF2 := hide HRF
    clear h12 HBB HRB HRF hR
    go_wp2_with fail
    refine (labBack_any M _ (by omega) (nxtT HT.out B14)).mono ?_
    rw [← EK.out]
    rintro e w15 ⟨rfl, b15⟩
    have B15 := nxt B14 b15
    clear B14 b15
    go_wp2_with fail
    refine (labBack_any K _ (by rw [HBL.out]; omega) (nxtT HT.out B15)).mono ?_
    rw [HBB2.out]
    rintro e w16 ⟨rfl, b16⟩
    have B16 := nxt B15 b16
    clear B15 b16
    go_wp2_with fail
    refine (labBack_any M _ (by omega) (nxtT HT.out B16)).mono ?_
    rw [← EK.out]
    rintro e w17 ⟨rfl, b17⟩
    have B17 := nxt B16 b17
    clear B16 b17
    go_wp2_with fail
    refine (labR_any K _ (by rw [HBL.out]; omega)).mono ?_
    rw [HRB2.out]
    rintro e w18 ⟨rfl, b18⟩
    have B18 := nxt B17 b18
    clear B17 b18
    go_wp2_with fail
    refine (fold_any M _ (by omega) (nxtT HT.out B18)).mono ?_
    rw [← EF.out]
    rintro e w19 ⟨rfl, b19⟩
    have B19 := nxt B18 b19
    clear B18 b19
    go_wp2_with fail
    refine (labR_any F _ (by rw [HFL.out]; omega)).mono ?_
    rw [HRF2.out]
    rintro e w20 ⟨rfl, b20⟩
    have B20 := nxt B19 b20
    clear B19 b20
    go_wp2_with fail
    refine (known2_any _ (hide (nxtT HT.out B20))).mono ?_
    rintro e w21 ⟨rfl, b21⟩
    have B21 := nxt B20 b21
    clear B20 b21
    go_wp2_with fail
    go_ret
    exact ⟨rfl, B21⟩
  · have hR2 : labR M = false := by simpa using hR
    go_wp2_with fail
    refine (labR_any M _ (by omega)).mono ?_
    rw [hR2]
    rintro e w14 ⟨rfl, b14⟩
    have B14 := nxt B13 b14
    clear B13 b14
    go_wp2_with fail
    refine (known2_any _ (hide (nxtT HT.out B14))).mono ?_
    rintro e w15 ⟨rfl, b15⟩
    have B15 := nxt B14 b15
    clear B14 b15
    go_wp2_with fail
    go_ret
    exact ⟨rfl, B15⟩
end Go.Proofs.YtdginbmannhfnaaDoor
