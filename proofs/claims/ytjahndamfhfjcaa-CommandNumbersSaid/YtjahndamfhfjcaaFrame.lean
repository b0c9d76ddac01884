/-
  What wire.Frame and wire.Open compute.
-/
import Derived.Test.YtjahndamfhfjcaaReader
import Derived.Laws.DeepNot64
namespace Go.Proofs.Ytjahndamfhfjcaa
open Go.RowKit
set_option linter.unusedVariables false

/-- New bytes and a refusal are answered. -/
def FreshB2 (w : World) (l : List UInt8) (z : Int) (e : Ending) (w' : World) : Prop :=
  ∃ A c, e = .returned (.tuple #[.slice A l.length c, .int .i64 z]) ∧ w'.ownsRow w.heap.size 5 1 (.slice A l.length c) l.length (u8s l) ∧ Cells w' A (u8s l) ∧ l.length ≤ c ∧ c ≤ maxLen ∧ Below w.heap.size w w'
theorem u64_len (n : Nat) (h : n ≤ 255) : le 1 (u64N n) = [lo8 n] := by
  rw [show u64N (n : Int) = n by unfold u64N; omega]; rfl
theorem u64_not (n : Nat) (h : n ≤ 255) : le 1 (u64N (-1 - (n : Int))) = [lo8 (255 - n)] := by
  show [lo8 _] = _
  congr 1
  apply UInt8.toNat_inj.1
  rw [lo8_toNat, lo8_toNat]
  unfold u64N
  omega
/-- What lay before the writer stays. -/
theorem writer_below {w w1 w2 : World} {d : Nat} {r : Option Nat} {l l2 : List UInt8} (hd : w.heap.size ≤ d) (hb : Below w.heap.size w w1) (W : WriterAt w1 d r l) (h : Leaves d r w1 w2) : Below w.heap.size w w2 :=
  hb.trans (h.below hd (fun g hg => by have := (W.row_lt.2 g hg).1; omega) hb.size)
/-! ### Opening -/
/-- What Open answers. -/
def OpenedAt (w : World) (o : Opened) (e : Ending) (w' : World) : Prop :=
  ∃ A c, e = .returned (.tuple #[.slice A o.b.length c, .int .i64 (o.stop : Nat), .int .i64 (o.why : Nat)]) ∧ w'.ownsRow w.heap.size 5 1 (.slice A o.b.length c) o.b.length (u8s o.b) ∧ Cells w' A (u8s o.b) ∧ o.b.length ≤ c ∧ c ≤ maxLen ∧ Below w.heap.size w w'
theorem OpenedAt.fail {w w' : World} {o : Opened} {k : Nat} (ho : o = ⟨[], 0, k⟩) (hb : Below w.heap.size w w') : OpenedAt w o (.returned (.tuple #[.slice none 0 0, .int .i64 0, .int .i64 (k : Int)])) w' := by
  subst ho
  exact ⟨none, 0, rfl, World.ownsRow_nil _ _ _ _, Cells.nil _ _, Nat.le_refl _, Nat.zero_le _, hb⟩
theorem u8_not (n : UInt8) : bits .xor .u8 IntKind.u8.max (n.toNat : Int) = ((255 - n.toNat : Nat) : Int) := by
  have h := n.toNat_lt
  show IntKind.u8.wrap ((BitVec.ofInt 8 255 ^^^ BitVec.ofInt 8 (n.toNat : Int)).toNat : Int) = _
  have h1 : BitVec.ofInt 8 255 = BitVec.allOnes 8 := by decide
  rw [h1, BitVec.allOnes_xor, BitVec.toNat_not, ofInt_u8 _ (by omega), IntKind.wrap_u8']
  omega
end Go.Proofs.Ytjahndamfhfjcaa
