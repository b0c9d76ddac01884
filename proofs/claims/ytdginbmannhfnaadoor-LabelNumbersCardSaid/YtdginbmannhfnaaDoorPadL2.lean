/-
  label.Pad (over the shelf's strings.Repeat: TrydShelf, written by the kit's lay-shelf and lay-plain).
-/
import Derived.Test.YtdginbmannhfnaaDoorPad2
import Derived.Test.YtdginbmannhfnaaDoorShelf
namespace Go.Proofs.YtdginbmannhfnaaDoor
open Go.RowKit
set_option linter.unusedVariables false

theorem repeatL_space : ∀ c : Nat, Lib.repeatL [32] c = List.replicate c 32
  | 0 => rfl
  | c + 1 => by show [32] ++ Lib.repeatL [32] c = _; rw [repeatL_space c]; rfl
theorem repeat_any (c : Nat) (w : World) (hc : c ≤ 1000) :
    Calls Tryd.prog 23 #[.string (str [32]), .int .i64 (c : Int)] w fun e w' => e = .returned (.string (str (List.replicate c 32))) ∧ Below w.heap.size w w' := by
  refine (Tryd.strings_Repeat (str [32]) c w (by omega) (by rw [str_size]; simp; omega)).mono ?_
  rintro e w' ⟨rfl, h⟩
  refine ⟨?_, h⟩
  have h2 : (str [32]).data.toList = [32] := rfl
  rw [h2, repeatL_space]; rfl
set_option maxHeartbeats 800000 in
theorem labPad_any (l : List UInt8) (n : Int) (w : World) (hl : l.length ≤ 4611686018427387904) (hn : -9223372036854775808 ≤ n ∧ n ≤ 9223372036854775807) :
    Calls Tryd.prog 11 #[.string (str l), .int .i64 n] w fun e w' => e = .returned (.string (str (padI l n))) ∧ Below w.heap.size w w' := by
  go_enter Tryd.func11, Tryd.ntmps11
  obtain ⟨m, em⟩ : ∃ m : Nat, m = (min n 1000).toNat := ⟨_, rfl⟩
  obtain ⟨C, eC⟩ : ∃ C, C = cutI l (m : Int) := ⟨_, rfl⟩
  obtain ⟨k0, ek⟩ : ∃ k0, k0 = countL C := ⟨_, rfl⟩
  have hcut : cutI l (min n 1000) = C := by rw [eC]; unfold cutI; rw [show (m : Int).toNat = (min n 1000).toNat by omega]
  have hO : str (padI l n) = str C ++ str (List.replicate (m - k0) 32) := by
    rw [str_append]
    show str (cutI l (min n 1000) ++ List.replicate ((min n 1000).toNat - countL (cutI l (min n 1000))) 32) = _
    rw [hcut, ← em, ← ek]
  have hk : k0 ≤ m := by
    rw [ek, eC]
    show countL (cutL l (m : Int).toNat) ≤ m
    rw [count_cut]; omega
  have hC : C.length ≤ 4611686018427387904 := by rw [eC]; exact Nat.le_trans (cutI_le l m) hl
  have hm : m ≤ 1000 := by omega
  obtain ⟨O, eO⟩ : ∃ O, O = str (padI l n) := ⟨_, rfl⟩
  rw [← eO]
  rw [← eO] at hO
  have EC := hide eC; have EM := hide em; have EK := hide ek; have HO := hide hO
  clear eC em ek hO eO hcut
  have e2 : min (max n 0) 1000 = (m : Int) := by rw [EM.out]; omega
  go_wp2_with fail
  clear e2
  refine (labCut_any l (m : Int) _ (by omega) (by omega)).mono ?_
  rintro e w1 ⟨rfl, b1⟩
  rw [← EC.out]
  go_wp2_with fail
  refine (count_any C _ (by omega)).mono ?_
  rintro e w2 ⟨rfl, b2⟩
  rw [← EK.out]
  have B2 := nxt b1 b2
  clear b1 b2 EC EK
  have hs : ((m : Int) - (k0 : Int)) = ((m - k0 : Nat) : Int) := by omega
  have hw : IntKind.i64.wrap ((m : Int) - (k0 : Int)) = ((m - k0 : Nat) : Int) := by rw [IntWalk.i64_in _ (by omega), hs]
  have hz : ¬ 9223372036854775807 < (str C).size + (str (List.replicate (m - k0) 32)).size := by rw [str_size, str_size]; simp; omega
  go_wp2_with fail
  refine (repeat_any (m - k0) _ (by omega)).mono ?_
  rintro e w3 ⟨rfl, b3⟩
  have B3 := nxt B2 b3
  have hO2 : str C ++ str (List.replicate (m - k0) 32) = O := HO.out.symm
  clear B2 b3 hs hw
  go_wp2_with fail
  go_ret
  exact ⟨rfl, B3⟩
