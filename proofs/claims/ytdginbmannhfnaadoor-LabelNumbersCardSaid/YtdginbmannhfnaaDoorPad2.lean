/-
  The document's Pad.
-/
import Derived.Test.YtdginbmannhfnaaDoorCount2
import Derived.Deep.Cut
import Derived.Deep.DeepCutAuto
namespace Go.Proofs.YtdginbmannhfnaaDoor
open Go.RowKit
set_option linter.unusedVariables false

/-- The first n runes (at most a thousand), filled up with spaces. -/
def padI (t : List UInt8) (n : Int) : List UInt8 := cutI t (min n 1000) ++ List.replicate ((min n 1000).toNat - countL (cutI t (min n 1000))) 32
theorem cutI_le (t : List UInt8) (n : Int) : (cutI t n).length ≤ t.length := by
  obtain ⟨m, hm, hml, -⟩ := join_prefix t.length t n.toNat (Nat.le_refl _)
  show (joinR ((runesL t).take n.toNat)).length ≤ _
  rw [hm, List.length_take]; omega
set_option maxHeartbeats 800000 in
theorem refPad_any (l : List UInt8) (n : Int) (w : World) (hl : l.length ≤ 4611686018427387904) (hn : -9223372036854775808 ≤ n ∧ n ≤ 9223372036854775807) :
    Calls Tryd.prog 22 #[.string (str l), .int .i64 n] w fun e w' => e = .returned (.string (str (padI l n))) ∧ Below w.heap.size w w' := by
  go_enter Tryd.func22, Tryd.ntmps22
  obtain ⟨m, em⟩ : ∃ m, m = min n 1000 := ⟨_, rfl⟩
  obtain ⟨C, eC⟩ : ∃ C, C = cutI l m := ⟨_, rfl⟩
  obtain ⟨O, eO⟩ : ∃ O, O = padI l n := ⟨_, rfl⟩
  have hO : O = C ++ List.replicate (m.toNat - countL C) 32 := by rw [eO, eC, em]; rfl
  have hC : C.length ≤ 4611686018427387904 := by rw [eC]; exact Nat.le_trans (cutI_le l m) hl
  have hm : -9223372036854775808 ≤ m ∧ m ≤ 1000 := by omega
  have EC := hide eC; have EM := hide em
  rw [← eO]
  have HO := hide hO
  clear eO eC em hO
  go_upto_if 8 with (fail)
  go_cut [1] (fun v wx => v = .int .i64 m ∧ w = wx)
  case first =>
    by_cases h : 1000 < n
    · have : m = 1000 := by rw [EM.out]; omega
      subst this
      go_wp2_with fail
      go_meet
      exact ⟨rfl, rfl⟩
    · have : m = n := by rw [EM.out]; omega
      subst this
      go_wp2_with fail
      go_meet
      exact ⟨rfl, rfl⟩
  obtain ⟨rfl, rfl⟩ := hcut
  go_wp2_with fail
  refine (refCut_any l m _ (by omega) (by omega)).mono ?_
  rintro e w1 ⟨rfl, b1⟩
  rw [← EC.out]
  go_wp2_with fail
  refine (refCount_any C _ (by omega)).mono ?_
  rintro e w2 ⟨rfl, b2⟩
  have B2 := nxt b1 b2
  clear b1 b2
  obtain ⟨k0, ek⟩ : ∃ k0, k0 = countL C := ⟨_, rfl⟩
  have hk0 : k0 ≤ C.length := by rw [ek]; exact runesL_len C
  rw [← ek]
  have HO2 : Hid (O = C ++ List.replicate (m.toNat - k0) 32) := hide (by rw [ek]; exact HO.out)
  clear ek HO EC
  go_wp2_with fail
  go_loopw [5, 6] (fun a v wr => ∃ j : Nat, a = .string (str (C ++ List.replicate j 32)) ∧ v = .int .i64 ((k0 + j : Nat) : Int) ∧ w2 = wr ∧ j ≤ m.toNat - k0) (fun a v wr => m.toNat - (intOf v).toNat)
  case atStart => exact ⟨0, by simp, by go_num, rfl, by omega⟩
  case round =>
    obtain ⟨j, rfl, rfl, rfl, hj⟩ := hrel
    by_cases hlt : ((k0 + j : Nat) : Int) < m
    · have hz : ¬ 9223372036854775807 < (str (C ++ List.replicate j 32)).size + (str [32]).size := by rw [str_size, str_size]; simp; omega
      have hs : str (C ++ List.replicate j 32) ++ str [32] = str (C ++ List.replicate (j + 1) 32) := by rw [str_append, List.append_assoc, List.replicate_succ']
      have hw : IntKind.i64.wrap (((k0 + j : Nat) : Int) + 1) = ((k0 + j : Nat) : Int) + 1 := IntWalk.i64_in _ (by omega)
      trace_state
      go_wp2_with fail
      go_roundw
      case rel => exact ⟨j + 1, congrArg Value.string hs, by go_num, trivial, by omega⟩
      case measure => simp [intOf]; omega
    · have hj2 : j = m.toNat - k0 := by omega
      have hr : str (C ++ List.replicate j 32) = str O := by rw [HO2.out, hj2]
      have HR := hide hr
      clear hr hj2
      go_wp2_with fail
      go_ret
      exact ⟨by rw [HR.out]; rfl, B2⟩
