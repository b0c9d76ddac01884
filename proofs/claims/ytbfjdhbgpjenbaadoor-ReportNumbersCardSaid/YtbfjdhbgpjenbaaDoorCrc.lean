/-
  What wire.Crc computes.
-/
import Derived.Test.YtbfjdhbgpjenbaaDoorRows
import Derived.Test.YtbfjdhbgpjenbaaDoorWireP
import Derived.Test.YtbfjdhbgpjenbaaDoorElem8
import Derived.Laws.BitsAll
import Derived.Laws.Shifts
import Derived.Laws.ShiftsVar
import Derived.Laws.ShiftsVarLaws
import Derived.Laws.Unary
namespace Go.Proofs.YtbfjdhbgpjenbaaDoor
set_option linter.unusedSimpArgs false
open Go.RowKit
set_option linter.unusedVariables false

/-! ### Numbers of 32 bits -/
theorem ofInt_bv (c : BitVec 32) : BitVec.ofInt 32 ((c.toNat : Nat) : Int) = c := by
  rw [BitVec.ofInt_natCast, BitVec.ofNat_toNat, BitVec.setWidth_eq]
theorem wrap_bv (c : BitVec 32) : IntKind.u32.wrap ((c.toNat : Nat) : Int) = ((c.toNat : Nat) : Int) := by
  rw [IntKind.wrap_u32']
  have := c.isLt
  omega
theorem bits_xor_bv (a b : BitVec 32) : bits .xor .u32 ((a.toNat : Nat) : Int) ((b.toNat : Nat) : Int) = (((a ^^^ b).toNat : Nat) : Int) := by
  show IntKind.u32.wrap ((BitVec.ofInt 32 ((a.toNat : Nat) : Int) ^^^ BitVec.ofInt 32 ((b.toNat : Nat) : Int)).toNat : Int) = _
  rw [ofInt_bv, ofInt_bv, wrap_bv]
theorem wideB_toNat (x : UInt8) : (wideB x).toNat = x.toNat := by
  have := x.toNat_lt
  simp only [wideB, BitVec.toNat_ofNat]
  omega
/-- A byte put in. -/
theorem bits_byte (c : BitVec 32) (x : UInt8) : bits .xor .u32 ((c.toNat : Nat) : Int) ((x.toNat : Int) % 4294967296) = (((c ^^^ wideB x).toNat : Nat) : Int) := by
  have e : (x.toNat : Int) % 4294967296 = (((wideB x).toNat : Nat) : Int) := by
    have := x.toNat_lt
    rw [wideB_toNat]; omega
  rw [e, bits_xor_bv]
theorem shr_bv (c : BitVec 32) : ((c.toNat : Nat) : Int) / (2 : Int) = (((c >>> 1).toNat : Nat) : Int) := by
  rw [BitVec.toNat_ushiftRight, Nat.shiftRight_eq_div_pow]; omega
theorem shr_bv' (c : BitVec 32) : ((c.toNat : Nat) : Int) >>> 1 = (((c >>> 1).toNat : Nat) : Int) := by
  rw [← shr_bv, Int.shiftRight_eq_div_pow]; rfl
theorem and_one (c : BitVec 32) : bits .and .u32 ((c.toNat : Nat) : Int) 1 = if c.getLsbD 0 = true then 1 else 0 := by
  have := c.isLt
  rw [u32_and _ _ (by omega) (by omega) (by omega) (by omega)]
  have e : (c.toNat : Int).toNat &&& (1 : Int).toNat = c.toNat % 2 := nat_mask1 c.toNat
  rw [e]
  have h2 : c.getLsbD 0 = decide (c.toNat % 2 = 1) := by
    rw [BitVec.getLsbD, Nat.testBit_zero]
  rw [h2]
  by_cases h : c.toNat % 2 = 1
  · simp [h]
  · have : c.toNat % 2 = 0 := by omega
    simp [this]
theorem bits_poly (c : BitVec 32) : bits .xor .u32 (((c >>> 1).toNat : Nat) : Int) 3988292384 = (((c >>> 1 ^^^ 0xedb88320#32).toNat : Nat) : Int) :=
  bits_xor_bv _ 0xedb88320#32

set_option maxHeartbeats 800000 in
theorem crc_any (A : Option Addr) (n c : Nat) (l : List UInt8) (w : World) (hn : l.length = n) (hl : n ≤ 9223372036854775807) (hA : Cells w A (u8s l)) :
    Calls Tryd.prog 40 #[.slice A n c] w fun e w' => e = .returned (.int .u32 (crcN l : Nat)) ∧ w = w' := by
  subst hn
  go_enter Tryd.func40, Tryd.ntmps40
  go_wp2
  go_loop [3, 9] (fun c i => ∃ k : Nat, k ≤ l.length ∧ i = .int .i64 k ∧ c = .int .u32 ((crcS (BitVec.allOnes 32) (l.take k)).toNat : Nat)) (fun _ i => l.length - (intOf i).toNat)
  case atStart => exact ⟨0, Nat.zero_le _, rfl, by simp [crcS]⟩
  case round =>
    obtain ⟨k, hk, rfl, rfl⟩ := hrel
    by_cases hlt : k < l.length
    · obtain ⟨b, o, x, rfl, hb, hc, hx⟩ := hA.byte_at hlt
      have i1 : (k : Int) < l.length := by omega
      obtain ⟨d, ed⟩ : ∃ d, d = crcS (BitVec.allOnes 32) (l.take k) := ⟨_, rfl⟩
      rw [← ed]
      have hstep : crcS (BitVec.allOnes 32) (l.take (k + 1)) = byteStep d x := by rw [take_succ_of hx.out, crcS_append, ed]; rfl
      have HSTEP := hide hstep
      clear hstep ed hA
      have hb8 := bits_byte d x
      go_wp2
      clear hb8
      go_loop [3, 6, 17] (fun c _ j => ∃ i : Nat, i ≤ 8 ∧ j = .int .i64 i ∧ c = .int .u32 ((bitSteps i (d ^^^ wideB x)).toNat : Nat)) (fun _ _ j => 8 - (intOf j).toNat)
      case atStart => exact ⟨0, Nat.zero_le _, rfl, rfl⟩
      case round =>
        obtain ⟨i, hi, rfl, rfl⟩ := hrel
        by_cases hi8 : i < 8
        · have hs : bitSteps (i + 1) (d ^^^ wideB x) = bitStep (bitSteps i (d ^^^ wideB x)) := rfl
          obtain ⟨s, es⟩ : ∃ s, s = bitSteps i (d ^^^ wideB x) := ⟨_, rfl⟩
          rw [← es] at hs ⊢
          clear es
          have h1 := and_one s
          have h2 := shr_bv s
          have h3 := bits_poly s
          by_cases hodd : s.getLsbD 0 = true
          · rw [if_pos hodd] at h1
            rw [show bitStep s = s >>> 1 ^^^ 0xedb88320#32 by unfold bitStep; rw [if_pos hodd]] at hs
            rw [← hs] at h3
            have hd := s.isLt
            obtain ⟨n1, e1⟩ : ∃ n1 : Nat, n1 = s.toNat := ⟨_, rfl⟩
            obtain ⟨n2, e2⟩ : ∃ n2 : Nat, n2 = (s >>> 1).toNat := ⟨_, rfl⟩
            obtain ⟨n3, e3⟩ : ∃ n3 : Nat, n3 = (bitSteps (i + 1) (d ^^^ wideB x)).toNat := ⟨_, rfl⟩
            rw [← e1] at h1 h2 hd
            rw [← e2] at h2 h3
            rw [← e3] at h3
            rw [← e1]
            have E3 := hide e3
            clear hs hodd e1 e2 e3
            go_wp2
            go_round
            case rel => exact ⟨i + 1, by omega, by go_num, by rw [← E3.out]⟩
            case measure => simp [intOf]; omega
          · rw [if_neg hodd] at h1
            rw [show bitStep s = s >>> 1 by unfold bitStep; rw [if_neg hodd]] at hs
            rw [← hs] at h2
            have hd := s.isLt
            obtain ⟨n1, e1⟩ : ∃ n1 : Nat, n1 = s.toNat := ⟨_, rfl⟩
            obtain ⟨n3, e3⟩ : ∃ n3 : Nat, n3 = (bitSteps (i + 1) (d ^^^ wideB x)).toNat := ⟨_, rfl⟩
            rw [← e1] at h1 h2 hd
            rw [← e3] at h2
            rw [← e1]
            have E3 := hide e3
            clear hs hodd h3 e1 e3
            go_wp2
            go_round
            case rel => exact ⟨i + 1, by omega, by go_num, by rw [← E3.out]⟩
            case measure => simp [intOf]; omega
        · obtain rfl : i = 8 := by omega
          go_wp2
          go_round
          case rel => exact ⟨k + 1, by omega, by go_num, by rw [HSTEP.out]; rfl⟩
          case measure => simp [intOf]; omega
    · obtain rfl : k = l.length := by omega
      have hfin : bits .xor .u32 IntKind.u32.max (((crcS (BitVec.allOnes 32) l).toNat : Nat) : Int) = ((crcN l : Nat) : Int) := by
        have := bits_xor_bv (BitVec.allOnes 32) (crcS (BitVec.allOnes 32) l)
        rw [BitVec.allOnes_xor] at this
        exact this
      rw [List.take_length]
      obtain ⟨m, em⟩ : ∃ m, m = (crcS (BitVec.allOnes 32) l).toNat := ⟨_, rfl⟩
      rw [← em] at hfin ⊢
      clear em
      have HF := hide hfin
      clear hfin
      go_wp2
      go_ret
      exact ⟨ret_int HF.out, rfl⟩
end Go.Proofs.YtbfjdhbgpjenbaaDoor
