/-
  The walk of LabelCuts.
-/
import Derived.Test.YtdginbmannhfnaaDoorJoins2
namespace Go.Proofs.YtdginbmannhfnaaDoor
open Go.RowKit
set_option linter.unusedVariables false

set_option maxRecDepth 100000 in
set_option maxHeartbeats 1600000 in
theorem labelCuts_walk (a0 : ByteArray) (n m : Int) (w : World) (hT : Lib.Utf8Tabs 0 1 w) (h0 : a0.size ≤ maxLen) (h1 : (Lit.int .i64 n).wf = true) (h2 : (Lit.int .i64 m).wf = true) :
    Calls Tryd.prog 8 #[.string a0, .int .i64 n, .int .i64 m] w fun e w' => e = .returned (.bool true) ∧ Below w.heap.size w w' := by
  obtain ⟨l, rfl⟩ := to_str a0
  rw [str_size] at h0
  have hn := i64_bd h1
  have hm := i64_bd h2
  have HT := hide hT
  unfold maxLen at h0
  clear h1 h2 hT
  obtain ⟨n1, en⟩ : ∃ m, m = if n < 0 then -(n + 1) else n := ⟨_, rfl⟩
  obtain ⟨m1, em⟩ : ∃ n, n = if m < 0 then -(m + 1) else m := ⟨_, rfl⟩
  have hn1 : 0 ≤ n1 ∧ n1 ≤ 9223372036854775807 := by rw [en]; split <;> omega
  have hm1 : 0 ≤ m1 ∧ m1 ≤ 9223372036854775807 := by rw [em]; split <;> omega
  go_enter Tryd.func8, Tryd.ntmps8
  go_wp2_with fail
  refine (few_any l _ h0).mono ?_
  rintro e u ⟨rfl, rfl⟩
  obtain ⟨M, eM⟩ : ∃ M, M = l.take 300 := ⟨_, rfl⟩
  have hM : M.length ≤ 300 := by rw [eM]; simp; omega
  rw [← eM]
  clear eM h0
  have EN := hide en
  have EM := hide em
  clear en em
  go_upto_if 14 with (fail)
  go_cut [1] (fun v wx => v = .int .i64 n1 ∧ w = wx)
  case first =>
    by_cases h : n < 0
    · have e1 : n1 = -(n + 1) := by rw [EN.out, if_pos h]
      have e2 : IntKind.i64.wrap (n + 1) = n + 1 := IntWalk.i64_in _ (by omega)
      have e3 : IntKind.i64.wrap (-(n + 1)) = -(n + 1) := IntWalk.i64_in _ (by omega)
      subst e1
      go_wp2_with fail
      go_meet
      exact ⟨rfl, rfl⟩
    · have e1 : n1 = n := by rw [EN.out, if_neg h]
      subst e1
      go_wp2_with fail
      go_meet
      exact ⟨rfl, rfl⟩
  obtain ⟨rfl, hwx⟩ := hcut
  subst hwx
  go_upto_if 19 with (fail)
  go_cut [2] (fun v wx => v = .int .i64 m1 ∧ w = wx)
  case first =>
    by_cases h : m < 0
    · have e1 : m1 = -(m + 1) := by rw [EM.out, if_pos h]
      have e2 : IntKind.i64.wrap (m + 1) = m + 1 := IntWalk.i64_in _ (by omega)
      have e3 : IntKind.i64.wrap (-(m + 1)) = -(m + 1) := IntWalk.i64_in _ (by omega)
      subst e1
      go_wp2_with fail
      go_meet
      exact ⟨rfl, rfl⟩
    · have e1 : m1 = m := by rw [EM.out, if_neg h]
      subst e1
      go_wp2_with fail
      go_meet
      exact ⟨rfl, rfl⟩
  obtain ⟨rfl, hwx⟩ := hcut
  subst hwx
  obtain ⟨k, ek, hk⟩ := tmod_nat (m := n1) 60 hn1.1 (by omega)
  obtain ⟨j, ej, hj⟩ := tmod_nat (m := m1) 60 hm1.1 (by omega)
  have ek2 : n1.tmod 60 = (k : Int) := ek
  have ej2 : m1.tmod 60 = (j : Int) := ej
  have hkw : IntKind.i64.wrap (n1.tmod 60) = (k : Int) := by rw [ek2, IntWalk.i64_in _ (by omega)]
  have hjw : IntKind.i64.wrap (m1.tmod 60) = (j : Int) := by rw [ej2, IntWalk.i64_in _ (by omega)]
  clear ek ej
  obtain ⟨q, eq⟩ : ∃ q, q = min k j := ⟨_, rfl⟩
  go_upto_if 30 with (fail)
  clear hkw hjw ek2 ej2 EN EM
  go_cut [7] (fun v wx => v = .int .i64 (q : Int) ∧ w = wx)
  case first =>
    by_cases h : j < k
    · have e1 : q = j := by omega
      subst e1
      go_wp2_with fail
      go_meet
      exact ⟨rfl, rfl⟩
    · have e1 : q = k := by omega
      subst e1
      go_wp2_with fail
      go_meet
      exact ⟨rfl, rfl⟩
  obtain ⟨rfl, hwx⟩ := hcut
  subst hwx
  obtain ⟨C, eC⟩ : ∃ C, C = countL M := ⟨_, rfl⟩
  have hC : C ≤ 300 := by rw [eC]; exact Nat.le_trans (count_le M) hM
  have EC := hide eC
  have EQ := hide eq
  clear eC eq
  have hq : q < 60 := by have := EQ.out; omega
  go_wp2_with fail
  go_loopw [8, 9] (fun a v wr => ∃ i : Nat, a = .string (str (cutL M (i - 1))) ∧ v = .int .i64 (i : Int) ∧ i ≤ C + 1 ∧ Below w.heap.size w wr) (fun _ v _ => C + 1 - (intOf v).toNat)
  case atStart => exact ⟨0, rfl, rfl, by omega, Below.refl _ _⟩
  case round =>
    obtain ⟨i, rfl, rfl, hi, B0⟩ := hrel
    go_wp2_with fail
    refine (count_any M _ (by omega)).mono ?_
    rw [← EC.out]
    rintro e w1 ⟨rfl, b1⟩
    have B1 := nxt B0 b1
    clear B0 b1
    by_cases hle : i ≤ C
    · have i1 : (i : Int) ≤ C := by omega
      obtain ⟨L, eL⟩ : ∃ L, L = cutL M (i - 1) := ⟨_, rfl⟩
      obtain ⟨c, ec⟩ : ∃ c, c = cutL M i := ⟨_, rfl⟩
      have hcL : ∃ x : List UInt8, c = L ++ x ∧ (0 < i → 1 ≤ x.length) := by
        by_cases h0 : 0 < i
        · obtain ⟨x, hx, hx1⟩ := cut_succ M (i := i - 1) (by rw [← EC.out]; omega)
          rw [show i - 1 + 1 = i by omega, ← ec, ← eL] at hx
          exact ⟨x, hx, fun _ => hx1⟩
        · have : i = 0 := by omega
          subst this
          exact ⟨[], by rw [ec, eL]; rfl, fun h => by omega⟩
      obtain ⟨x, hx, hx1⟩ := hcL
      have hcl : c.length ≤ M.length := by rw [ec]; exact cutI_le M i
      have hpre : (str c).extract 0 L.length = str L := by rw [hx]; exact extract_pre L x
      have hlen : c.length = L.length + x.length := by rw [hx, List.length_append]
      have g1 : ¬ c.length < L.length := by omega
      have g2 : L.length ≤ c.length := by omega
      have hcs : (str c).size = c.length := str_size c
      have hls : (str L).size = L.length := str_size L
      have Ec := hide ec
      rw [← eL]
      clear hx ec eL
      go_wp2_with fail
      refine (labCut_any M (i : Int) _ (by omega) (by omega)).mono ?_
      rw [cutI_nat, ← Ec.out]
      rintro e w2 ⟨rfl, b2⟩
      have B2 := nxt B1 b2
      clear B1 b2
      have hwi : IntKind.i64.wrap ((i : Int) + 1) = (i : Int) + 1 := IntWalk.i64_in _ (by omega)
      by_cases hi0 : 0 < i
      · have i2 : (0 : Int) < i := by omega
        have hx2 := hx1 hi0
        have i3 : ((c.length : Int) == (L.length : Int)) = false := by simp; omega
        have i4 : ¬ c.length = L.length := by omega
        clear hlen
        go_wp2_with fail
        go_roundw
        case rel => exact ⟨i + 1, by rw [Nat.add_sub_cancel, Ec.out], by go_num, by omega, B2⟩
        case measure => simp [intOf]; omega
      · have i2 : ¬ (0 : Int) < i := by omega
        clear hlen
        go_wp2_with fail
        go_roundw
        case rel => exact ⟨i + 1, by rw [Nat.add_sub_cancel, Ec.out], by go_num, by omega, B2⟩
        case measure => simp [intOf]; omega
    · have i1 : ¬ (i : Int) ≤ C := by omega
      have hiC : i - 1 = C := by omega
      have hM1 : cutL M (i - 1) = M := by rw [hiC]; exact cut_all M (by rw [EC.out]; exact Nat.le_refl _)
      rw [hM1]
      clear hM1
      obtain ⟨c, ec⟩ : ∃ c, c = cutL M k := ⟨_, rfl⟩
      obtain ⟨F, eF⟩ : ∃ F, F = foldL M := ⟨_, rfl⟩
      obtain ⟨Z, eZ⟩ : ∃ Z, Z = cutL M q := ⟨_, rfl⟩
      obtain ⟨Y, eY⟩ : ∃ Y, Y = cutL F k := ⟨_, rfl⟩
      have hcl : c.length ≤ M.length := by rw [ec]; exact cutI_le M k
      have hfl : F.length = M.length := by rw [eF]; exact fold_len M
      have hcc : cutL c j = Z := by rw [ec, eZ, cut_cut, EQ.out]
      have hfc : foldL c = Y := by rw [ec, fold_cut, eY, eF]
      have Ec := hide ec; have EF := hide eF; have EZ := hide eZ; have EY := hide eY; have HCC := hide hcc; have HFC := hide hfc
      have hneg : cutI M (-1) = [] := rfl
      have k1 : (str []).toList = [] := str_toList _
      clear ec eF eZ eY hcc hfc
      go_wp2_with fail
      refine (labCut_any M (k : Int) _ (by omega) (by omega)).mono ?_
      rw [cutI_nat, ← Ec.out]
      rintro e w2 ⟨rfl, b2⟩
      have B2 := nxt B1 b2
      clear B1 b2
      go_wp2_with fail
      refine (labCut_any c (j : Int) _ (by omega) (by omega)).mono ?_
      rw [cutI_nat, HCC.out]
      rintro e w3 ⟨rfl, b3⟩
      have B3 := nxt B2 b3
      clear B2 b3
      go_wp2_with fail
      refine (labCut_any M (q : Int) _ (by omega) (by omega)).mono ?_
      rw [cutI_nat, ← EZ.out]
      rintro e w4 ⟨rfl, b4⟩
      have B4 := nxt B3 b4
      clear B3 b4
      go_wp2_with fail
      refine (labCut_any M (k : Int) _ (by omega) (by omega)).mono ?_
      rw [cutI_nat, ← Ec.out]
      rintro e w5 ⟨rfl, b5⟩
      have B5 := nxt B4 b5
      clear B4 b5
      go_wp2_with fail
      refine (fold_any c _ (by omega) (nxtT HT.out B5)).mono ?_
      rw [HFC.out]
      rintro e w6 ⟨rfl, b6⟩
      have B6 := nxt B5 b6
      clear B5 b6
      go_wp2_with fail
      refine (fold_any M _ (by omega) (nxtT HT.out B6)).mono ?_
      rw [← EF.out]
      rintro e w7 ⟨rfl, b7⟩
      have B7 := nxt B6 b7
      clear B6 b7
      go_wp2_with fail
      refine (labCut_any F (k : Int) _ (by omega) (by omega)).mono ?_
      rw [cutI_nat, ← EY.out]
      rintro e w8 ⟨rfl, b8⟩
      have B8 := nxt B7 b8
      clear B7 b8
      go_wp2_with fail
      refine (labCut_any M (-1) _ (by omega) (by omega)).mono ?_
      rw [hneg]
      rintro e w9 ⟨rfl, b9⟩
      have B9 := nxt B8 b9
      clear B8 b9
      go_wp2_with fail
      refine (known2_any _ (hide (nxtT HT.out B9))).mono ?_
      rintro e w10 ⟨rfl, b10⟩
      have B10 := nxt B9 b10
      clear B9 b10
      go_wp2_with fail
      go_ret
      exact ⟨rfl, B10⟩
end Go.Proofs.YtdginbmannhfnaaDoor
