/-
  report.Text, and the document's.
-/
import Derived.Test.YtbfjdhbgpjenbaaDoorTextP
import Derived.Test.YtbfjdhbgpjenbaaDoorRep
import Derived.Test.YtbfjdhbgpjenbaaDoorShelf
import Derived.Lib.AppendIntMem
import Derived.Laws.Runes
import Derived.LoopTactic
namespace Go.Proofs.YtbfjdhbgpjenbaaDoor
set_option linter.unusedSimpArgs false
open Go.RowKit
set_option linter.unusedVariables false

/-- The table of powers of ten lies. -/
def PowTab (w : World) : Prop := Lib.TabIs Tryd.prog w "internal/strconv.uint64pow10" .u64 Lib.pow10Tab
theorem PowTab.below {w w' : World} (h : PowTab w) (hb : Below w.heap.size w w') : PowTab w' := by
  obtain ⟨g, hg⟩ : ∃ g, Tryd.prog.globalNamed "internal/strconv.uint64pow10" = some g := ⟨0, by kernel_rfl⟩
  unfold PowTab Lib.TabIs World.var? at h ⊢
  rw [hg] at h ⊢
  simp only [Option.bind_some] at h ⊢
  have hlt : g < w.heap.size := by
    rcases Nat.lt_or_ge g w.heap.size with h' | h'
    · exact h'
    · rw [Array.getElem?_eq_none h'] at h; cases h
  rw [hb.block g hlt]
  exact h
theorem fmt_any (n : Int) (w : World) (hn : inI n) (hT : PowTab w) : Calls Tryd.prog 23 #[.int .i64 n, .int .i64 10] w fun e w' => e = .returned (.string (str (Lib.itoa n))) ∧ Below w.heap.size w w' := by
  refine (Tryd.strconv_FormatInt_10 n hn.1 hn.2 w hT).mono ?_
  rintro e w' ⟨rfl, k, os, rfl⟩
  exact ⟨rfl, Lib.below_grow _ w (Nat.le_refl _) k os⟩
def txtM : Value → Nat
  | .string b => if b.size = 0 then 1 else 0
  | _ => 0
theorem txtM_str (b : ByteArray) : txtM (.string b) = if b.size = 0 then 1 else 0 := rfl
theorem digsJ_len (u : Nat) (X : List UInt8) : X.length ≤ (digsJ u X).length := by
  unfold digsJ
  split
  · rename_i h; subst h; simp
  · split
    · exact Nat.le_refl _
    · simp
theorem encode_digit {c : Int} {d : Nat} (hd : d < 10) (hc : c = 48 + (d : Int)) : Utf8.encode c = str [UInt8.ofNat (48 + d)] := by
  have hv : Utf8.valid c = true := by simp [Utf8.valid]; omega
  have e : c.toNat = 48 + d := by omega
  simp only [Utf8.encode, hv, if_true, e, if_pos (show 48 + d < 128 by omega)]
  rfl
theorem str_empty {lb : List UInt8} (h : lb = []) : (str lb).toList.isEmpty = true := by subst h; rw [str_toList]; rfl
theorem str_full {lb : List UInt8} (h : lb ≠ []) : (str lb).toList.isEmpty = false := by
  rw [str_toList]
  simpa using h
set_option maxRecDepth 100000 in
set_option maxHeartbeats 1600000 in
theorem digits_any (n : Int) (w : World) (hn : inI n) : Calls Tryd.prog 31 #[.int .i64 n] w fun e w' => e = .returned (.string (str (Lib.itoa n))) ∧ w = w' := by
  obtain ⟨O, eO⟩ : ∃ O, O = Lib.itoa n := ⟨_, rfl⟩
  rw [← eO]
  have HO := hide eO
  clear eO
  unfold inI at hn
  obtain ⟨A, eA⟩ : ∃ A, A = IntKind.u64.wrap n := ⟨_, rfl⟩
  have hA : A = if n < 0 then n + 18446744073709551616 else n := by rw [eA, IntKind.wrap_u64]; split <;> omega
  obtain ⟨U0, eU⟩ : ∃ U0 : Int, U0 = (n.natAbs : Nat) := ⟨_, rfl⟩
  have hU0 : 0 ≤ U0 ∧ U0 ≤ 9223372036854775808 := by omega
  obtain ⟨D, eD⟩ : ∃ D, D = Lib.decDigits n.natAbs := ⟨_, rfl⟩
  have hD : D.length ≤ 19 := by
    rw [eD]
    have : (10 : Nat) ^ (18 + 1) = 10000000000000000000 := by decide
    exact (dec_len 18 n.natAbs (by omega)).2
  have h0 : digsJ U0.toNat [] = D := by rw [digsJ_nil, eD, eU]; rfl
  have H0 := hide h0; have HD := hide eD; have EA := hide eA.symm; have HU := hide eU; have HA := hide hA
  clear h0 eD eA eU hA
  go_enter Tryd.func31, Tryd.ntmps31
  go_upto_if 8 with (fail)
  rw [EA.out]
  go_cut [3] (fun v wx => v = .int .u64 U0 ∧ w = wx)
  case first =>
    by_cases h : n < 0
    · have e1 : IntKind.u64.wrap (-A) = U0 := by
        have := HA.out
        rw [if_pos h] at this
        rw [IntKind.wrap_u64, HU.out]
        omega
      go_wp2_with fail
      go_meet
      exact ⟨rfl, rfl⟩
    · have e1 : A = U0 := by
        have := HA.out
        rw [if_neg h] at this
        rw [HU.out]
        omega
      subst e1
      go_wp2_with fail
      go_meet
      exact ⟨rfl, rfl⟩
  obtain ⟨rfl, rfl⟩ := hcut
  go_wp2_with fail
  go_loopw [3, 4] (fun v s wr => ∃ (U : Int) (X : List UInt8), v = .int .u64 U ∧ s = .string (str X) ∧ 0 ≤ U ∧ U ≤ 9223372036854775808 ∧ Hid (digsJ U.toNat X = D) ∧ wr = w) (fun v s _ => (intOf v).toNat + txtM s)
  case atStart => exact ⟨U0, [], rfl, rfl, hU0.1, hU0.2, H0, rfl⟩
  case round =>
    obtain ⟨U, X, rfl, rfl, hU1, hU2, HX, rfl⟩ := hrel
    have hXl : X.length ≤ 19 := by have := digsJ_len U.toNat X; rw [HX.out] at this; omega
    by_cases hgo : 0 < U ∨ X = []
    · obtain ⟨d, ed⟩ : ∃ d : Nat, d = U.toNat % 10 := ⟨_, rfl⟩
      have hd10 : d < 10 := by omega
      obtain ⟨c, ec⟩ : ∃ c : Int, c = 48 + (d : Int) := ⟨_, rfl⟩
      obtain ⟨R, eR⟩ : ∃ R : Int, R = U % 10 := ⟨_, rfl⟩
      obtain ⟨V, eV⟩ : ∃ V : Int, V = U / 10 := ⟨_, rfl⟩
      have t1 : U.tmod 10 = R := by rw [eR]; exact Int.tmod_eq_emod_of_nonneg hU1
      have t2 : U.tdiv 10 = V := by rw [eV]; exact Int.tdiv_eq_ediv_of_nonneg hU1
      have t3 : IntKind.u64.wrap R = R := by rw [IntKind.wrap_u64]; omega
      have t4 : IntKind.u64.wrap (48 + R) = c := by rw [IntKind.wrap_u64]; omega
      have t5 : IntKind.i32.wrap c = c := IntWalk.i32_in _ (by omega)
      have t6 : IntKind.u64.wrap V = V := by rw [IntKind.wrap_u64]; omega
      have t7 : Utf8.encode c = str [UInt8.ofNat (48 + d)] := encode_digit hd10 ec
      obtain ⟨xb, exb⟩ : ∃ xb, xb = UInt8.ofNat (48 + d) := ⟨_, rfl⟩
      rw [← exb] at t7
      have hst : str [xb] ++ str X = str (xb :: X) := by rw [str_append]; rfl
      have hz : ¬ 9223372036854775807 < (str [xb]).size + (str X).size := by rw [str_size, str_size]; simp; omega
      have hJ : digsJ V.toNat (xb :: X) = D := by
        rw [exb, ← HX.out, ← digsJ_step (u := U.toNat) (by rcases hgo with h | h; exact .inl (by omega); exact .inr h)]
        rw [← ed, show V.toNat = U.toNat / 10 by omega]
      have HJ := hide hJ
      have hV : 0 ≤ V ∧ V ≤ 9223372036854775808 := by omega
      have hVm : V.toNat < U.toNat + (if X = [] then 1 else 0) := by
        rcases hgo with h | h
        · split <;> omega
        · rw [if_pos h]; omega
      have HVM := hide hVm
      clear ed ec eR eV hJ hVm exb
      have mfin : ∀ (P : Prop), P → P := fun _ h => h
      by_cases hU : 0 < U
      · clear hgo
        go_wp2_with fail
        go_roundw
        case rel => exact ⟨V, _, rfl, congrArg Value.string hst, hV.1, hV.2, HJ, trivial⟩
        case measure =>
          have := HVM.out
          have e0 : txtM (.string (str (xb :: X))) = 0 := by
            rw [txtM_str, if_neg (by rw [str_size]; simp)]
          have e1 : txtM (.string (str X)) = if X = [] then 1 else 0 := by
            rw [txtM_str, str_size]
            by_cases hX0 : X = []
            · subst hX0; rfl
            · rw [if_neg hX0, if_neg (by intro h; exact hX0 (List.eq_nil_of_length_eq_zero h))]
          rw [e0, e1]
          simp only [intOf]
          omega
      · have hX0 : X = [] := by rcases hgo with h | h; exact absurd h hU; exact h
        have hE := str_empty hX0
        subst hX0
        clear hgo
        go_wp2_with fail
        go_roundw
        case rel => exact ⟨V, _, rfl, congrArg Value.string hst, hV.1, hV.2, HJ, trivial⟩
        case measure =>
          have := HVM.out
          have e0 : txtM (.string (str [xb])) = 0 := by
            rw [txtM_str, if_neg (by rw [str_size]; simp)]
          have e1 : txtM (.string (str [])) = 1 := rfl
          rw [e0, e1]
          simp only [intOf]
          rw [if_pos rfl] at this
          omega
    · have hU : ¬ 0 < U := fun h => hgo (.inl h)
      have hX0 : X ≠ [] := fun h => hgo (.inr h)
      have hE := str_full hX0
      have hUz : U = 0 := by omega
      have hXD : X = D := by rw [← HX.out, hUz]; exact (digsJ_done hX0).symm
      have HXD := hide hXD
      clear hgo hX0 hUz hXD
      by_cases hneg : n < 0
      · have hst : str [45] ++ str X = str O := by rw [str_append, HO.out, itoa_neg hneg, ← HD.out, HXD.out]; rfl
        have hz : ¬ 9223372036854775807 < (str [45]).size + (str X).size := by rw [str_size, str_size]; simp; omega
        have HST := hide hst
        clear hst
        go_wp2_with fail
        go_ret
        exact ⟨congrArg (fun b => Ending.returned (.string b)) HST.out, rfl⟩
      · have hst : str X = str O := by rw [HO.out, itoa_pos hneg, ← HD.out, HXD.out]
        have HST := hide hst
        clear hst
        go_wp2_with fail
        go_ret
        exact ⟨by rw [HST.out]; rfl, rfl⟩
