/-
  The walk of LabelPads.
-/
import Derived.Test.YtdginbmannhfnaaDoorTells2
import Derived.Deep.Cut
import Derived.Deep.DeepCutAuto
namespace Go.Proofs.YtdginbmannhfnaaDoor
open Go.RowKit
set_option linter.unusedVariables false

theorem tmod_nat {m : Int} (N : Nat) (hm : 0 ≤ m) (hN : 0 < N) : ∃ k : Nat, m.tmod (N : Int) = (k : Int) ∧ k < N := by
  refine ⟨(m % N).toNat, ?_, ?_⟩
  · rw [Int.tmod_eq_emod_of_nonneg hm]
    have := Int.emod_nonneg m (b := (N : Int)) (by omega)
    omega
  · have := Int.emod_nonneg m (b := (N : Int)) (by omega)
    have := Int.emod_lt_of_pos m (b := (N : Int)) (by omega)
    omega
theorem extract_pre (c x : List UInt8) : (str (c ++ x)).extract 0 c.length = str c := by rw [slice_str, List.take_left]
theorem cutI_nat (t : List UInt8) (n : Nat) : cutI t (n : Int) = cutL t n := rfl
set_option maxRecDepth 100000 in
set_option maxHeartbeats 1600000 in
theorem labelPads_walk (a0 : ByteArray) (n : Int) (w : World) (hT : Lib.Utf8Tabs 0 1 w) (h0 : a0.size ≤ maxLen) (h1 : (Lit.int .i64 n).wf = true) :
    Calls Tryd.prog 3 #[.string a0, .int .i64 n] w fun e w' => e = .returned (.bool true) ∧ Below w.heap.size w w' := by
  obtain ⟨l, rfl⟩ := to_str a0
  rw [str_size] at h0
  have hn := i64_bd h1
  have HT := hide hT
  unfold maxLen at h0
  clear h1 hT
  obtain ⟨m, em⟩ : ∃ m, m = if n < 0 then -(n + 1) else n := ⟨_, rfl⟩
  have hm : 0 ≤ m ∧ m ≤ 9223372036854775807 := by rw [em]; split <;> omega
  go_enter Tryd.func3, Tryd.ntmps3
  go_wp2_with fail
  refine (few_any l _ h0).mono ?_
  rintro e u ⟨rfl, rfl⟩
  obtain ⟨M, eM⟩ : ∃ M, M = l.take 300 := ⟨_, rfl⟩
  have hM : M.length ≤ 300 := by rw [eM]; simp; omega
  rw [← eM]
  clear eM h0
  have EM := hide em
  clear em
  go_upto_if 11 with (fail)
  go_cut [1] (fun v wx => v = .int .i64 m ∧ w = wx)
  case first =>
    by_cases h : n < 0
    · have e1 : m = -(n + 1) := by rw [EM.out, if_pos h]
      have e2 : IntKind.i64.wrap (n + 1) = n + 1 := IntWalk.i64_in _ (by omega)
      have e3 : IntKind.i64.wrap (-(n + 1)) = -(n + 1) := IntWalk.i64_in _ (by omega)
      subst e1
      go_wp2_with fail
      go_meet
      exact ⟨rfl, rfl⟩
    · have e1 : m = n := by rw [EM.out, if_neg h]
      subst e1
      go_wp2_with fail
      go_meet
      exact ⟨rfl, rfl⟩
  obtain ⟨rfl, rfl⟩ := hcut
  obtain ⟨k, ek, hk⟩ := tmod_nat (m := m) 400 hm.1 (by omega)
  have ek2 : m.tmod 400 = (k : Int) := ek
  have hkw : IntKind.i64.wrap (m.tmod 400) = (k : Int) := by rw [ek2, IntWalk.i64_in _ (by omega)]
  clear ek
  go_wp2_with fail
  refine (labCut_any M (k : Int) _ (by omega) (by omega)).mono ?_
  rintro e w1 ⟨rfl, B1⟩
  rw [cutI_nat]
  clear EM hkw ek2
  go_wp2_with fail
  refine (labPad_any M (k : Int) _ (by omega) (by omega)).mono ?_
  rintro e w2 ⟨rfl, b2⟩
  rw [padI_nat M (by omega)]
  have B2 := nxt B1 b2
  clear B1 b2
  have hpp := pad_pad M k
  have hcnt := count_cut M k
  obtain ⟨c, ec⟩ : ∃ c, c = cutL M k := ⟨_, rfl⟩
  obtain ⟨sp, esp⟩ : ∃ sp, sp = k - countL c := ⟨_, rfl⟩
  obtain ⟨p, ep⟩ : ∃ p, p = padL M k := ⟨_, rfl⟩
  have hp : p = c ++ List.replicate sp 32 := by rw [ep, esp, ec]; rfl
  rw [← ep] at hpp ⊢
  rw [← ec] at hcnt ⊢
  have hcl : c.length ≤ 300 := Nat.le_trans (by rw [ec]; exact cutI_le M k) hM
  have hpl : p.length = c.length + sp := by rw [hp]; simp
  have hpre : (str p).extract 0 c.length = str c := by rw [hp]; exact extract_pre _ _
  have hat : ∀ i, c.length ≤ i → i < p.length → p[i]? = some 32 := fun i h1 h2 => by
    rw [hp, List.getElem?_append_right h1, List.getElem?_replicate, if_pos (by rw [hpl] at h2; omega)]
  have HAT := hide hat
  have HPP := hide hpp
  have HPRE := hide hpre
  have HSP := hide esp
  have HPL := hide hpl
  obtain ⟨cn, hcn⟩ : ∃ cn, cn = c.length := ⟨_, rfl⟩
  have hps : (str p).size = p.length := str_size p
  have hcs : (str c).size = c.length := str_size c
  have i1 : ¬ p.length < c.length := by omega
  have i2 : c.length ≤ p.length := by omega
  have hpx : p.length ≤ 700 := by omega
  have hspk : sp ≤ 400 := by omega
  clear hat hpp ep ec hp esp hpl
  go_wp2_with fail
  go_loopw [7] (fun v wr => ∃ i : Nat, v = .int .i64 (i : Int) ∧ c.length ≤ i ∧ i ≤ p.length ∧ wr = w2) (fun v _ => p.length - (intOf v).toNat)
  case atStart => exact ⟨c.length, rfl, Nat.le_refl _, i2, rfl⟩
  case round =>
    obtain ⟨i, rfl, hi1, hi2, rfl⟩ := hrel
    by_cases hlt : i < p.length
    · have i3 : (i : Int) < p.length := by omega
      have hx := HAT.out i hi1 hlt
      have hlt2 : i < (str p).size := by rw [hps]; exact hlt
      have hg : ((str p)[i]'hlt2).toNat = 32 := by
        have e1 : (str p)[i]'hlt2 = p[i]'hlt := rfl
        rw [e1, (List.getElem?_eq_some_iff.1 hx).2]; rfl
      clear hx
      go_wp2_with fail
      go_roundw
      case rel => exact ⟨i + 1, by go_num, by omega, by omega, trivial⟩
      case measure => simp [intOf]; omega
    · have i3 : ¬ (i : Int) < p.length := by omega
      obtain ⟨q, eq⟩ : ∃ q, q = countL c := ⟨_, rfl⟩
      obtain ⟨C, eC⟩ : ∃ C, C = countL M := ⟨_, rfl⟩
      rw [← eq, ← eC] at hcnt
      have hC : C ≤ 300 := by rw [eC]; exact Nat.le_trans (count_le M) hM
      have hsp : sp = k - q := by rw [HSP.out, eq]
      have hpl := HPL.out
      have e1 : IntKind.i64.wrap ((p.length : Int) - (c.length : Int)) = (sp : Int) := by rw [IntWalk.i64_in _ (by omega)]; omega
      have e2 : IntKind.i64.wrap ((k : Int) - (q : Int)) = (sp : Int) := by rw [IntWalk.i64_in _ (by omega)]; omega
      have EQ := hide eq
      have EC := hide eC
      clear eq eC hcnt hsp hpl i3 hpre hcn
      go_wp2_with fail
      refine (count_any c _ (by omega)).mono ?_
      rintro e w3 ⟨rfl, b3⟩
      rw [← EQ.out]
      have B3 := nxt B2 b3
      clear B2 b3
      go_wp2_with fail
      refine (count_any M _ (by omega)).mono ?_
      rintro e w4 ⟨rfl, b4⟩
      rw [← EC.out]
      have B4 := nxt B3 b4
      clear B3 b4
      go_wp2_with fail
      refine (labPad_any M (C : Int) _ (by omega) (by omega)).mono ?_
      rw [padI_nat M (by omega), EC.out, pad_self]
      rintro e w5 ⟨rfl, b5⟩
      have B5 := nxt B4 b5
      clear B4 b5
      go_wp2_with fail
      refine (labPad_any p (k : Int) _ (by omega) (by omega)).mono ?_
      rw [padI_nat p (by omega), HPP.out]
      rintro e w6 ⟨rfl, b6⟩
      have B6 := nxt B5 b6
      clear B5 b6
      obtain ⟨z, ez⟩ : ∃ z : Int, z = -(k : Int) - 1 := ⟨_, rfl⟩
      have e3 : IntKind.i64.wrap (-(k : Int)) = -(k : Int) := IntWalk.i64_in _ (by omega)
      have e4 : IntKind.i64.wrap (-(k : Int) - 1) = z := by rw [ez]; exact IntWalk.i64_in _ (by omega)
      have hz : z < 0 ∧ -1000 ≤ z := by omega
      clear ez
      go_wp2_with fail
      refine (labPad_any M z _ (by omega) (by omega)).mono ?_
      rw [padI_neg M hz.1]
      rintro e w7 ⟨rfl, b7⟩
      have B7 := nxt B6 b7
      have k1 : (str []).toList = [] := str_toList _
      clear B6 b7
      go_wp2_with fail
      refine (known2_any _ (hide (nxtT HT.out B7))).mono ?_
      rintro e w8 ⟨rfl, b8⟩
      have B8 := nxt B7 b8
      go_wp2_with fail
      go_ret
      exact ⟨rfl, B8⟩
end Go.Proofs.YtdginbmannhfnaaDoor
