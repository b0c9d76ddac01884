/-
  What wire.Crc computes.
-/
import Derived.Test.YtjahndamfhfjcaaRows
import Derived.Test.YtjahndamfhfjcaaWireP
import Derived.Test.YtjahndamfhfjcaaElem8
import Derived.Laws.BitsAll
import Derived.Laws.Shifts
import Derived.Laws.ShiftsVar
import Derived.Laws.ShiftsVarLaws
import Derived.Laws.Unary
namespace Go.Proofs.Ytjahndamfhfjcaa
open Go.RowKit
set_option linter.unusedVariables false

/-! ### Numbers of 32 bits -/
theorem ofInt_bv (c : BitVec 32) : BitVec.ofInt 32 ((c.toNat : Nat) : Int) = c := by
  rw [BitVec.ofInt_natCast, BitVec.ofNat_toNat, BitVec.setWidth_eq]
theorem wrap_bv (c : BitVec 32) : IntKind.u32.wrap ((c.toNat : Nat) : Int) = ((c.toNat : Nat) : Int) := by
  rw [IntKind.wrap_u32']
  have := c.isLt
  omega
theorem bits_xor_bv (a b : BitVec 32) : bits .xor .u32 ((a.toNat : Nat) : Int) ((b.toNat : Nat) : Int) = (((a ^^^ b).toNat : Nat) : Int) := by
  show IntKind.u32.wrap ((BitVec.ofInt 32 ((a.toNat : Nat) : Int) ^^^ BitVec.ofInt 32 ((b.toNat : Nat) : Int)).toNat : Int) = _
  rw [ofInt_bv, ofInt_bv, wrap_bv]
theorem wideB_toNat (x : UInt8) : (wideB x).toNat = x.toNat := by
  have := x.toNat_lt
  simp only [wideB, BitVec.toNat_ofNat]
  omega
/-- A byte put in. -/
theorem bits_byte (c : BitVec 32) (x : UInt8) : bits .xor .u32 ((c.toNat : Nat) : Int) ((x.toNat : Int) % 4294967296) = (((c ^^^ wideB x).toNat : Nat) : Int) := by
  have e : (x.toNat : Int) % 4294967296 = (((wideB x).toNat : Nat) : Int) := by
    have := x.toNat_lt
    rw [wideB_toNat]; omega
  rw [e, bits_xor_bv]
theorem shr_bv (c : BitVec 32) : ((c.toNat : Nat) : Int) / (2 : Int) = (((c >>> 1).toNat : Nat) : Int) := by
  rw [BitVec.toNat_ushiftRight, Nat.shiftRight_eq_div_pow]; omega
theorem shr_bv' (c : BitVec 32) : ((c.toNat : Nat) : Int) >>> 1 = (((c >>> 1).toNat : Nat) : Int) := by
  rw [← shr_bv, Int.shiftRight_eq_div_pow]; rfl
theorem and_one (c : BitVec 32) : bits .and .u32 ((c.toNat : Nat) : Int) 1 = if c.getLsbD 0 = true then 1 else 0 := by
  have := c.isLt
  rw [u32_and _ _ (by omega) (by omega) (by omega) (by omega)]
  have e : (c.toNat : Int).toNat &&& (1 : Int).toNat = c.toNat % 2 := nat_mask1 c.toNat
  rw [e]
  have h2 : c.getLsbD 0 = decide (c.toNat % 2 = 1) := by
    rw [BitVec.getLsbD, Nat.testBit_zero]
  rw [h2]
  by_cases h : c.toNat % 2 = 1
  · simp [h]
  · have : c.toNat % 2 = 0 := by omega
    simp [this]
theorem bits_poly (c : BitVec 32) : bits .xor .u32 (((c >>> 1).toNat : Nat) : Int) 3988292384 = (((c >>> 1 ^^^ 0xedb88320#32).toNat : Nat) : Int) :=
  bits_xor_bv _ 0xedb88320#32

end Go.Proofs.Ytjahndamfhfjcaa
