/-
  What cornhillkeep.Cut answers.
-/
import Derived.Test.YtbfjdhbgpjenbaaDoorRows
import Derived.Test.YtbfjdhbgpjenbaaDoorBytes
namespace Go.Proofs.YtbfjdhbgpjenbaaDoor
set_option linter.unusedSimpArgs false
open Go.RowKit
set_option linter.unusedVariables false

theorem Cells.take {w : World} {A : Option Addr} {xs : List Value} (h : Cells w A xs) (n : Nat) : Cells w A (xs.take n) := fun hn => by
  obtain ⟨b, o, rfl, hb, hc⟩ := h (by rintro rfl; simp at hn)
  refine ⟨b, o, rfl, hb, fun k u hu => hc k u ?_⟩
  rw [List.getElem?_take] at hu
  split at hu
  · exact hu
  · cases hu
theorem Cells.takeB {w : World} {A : Option Addr} {l : List UInt8} (h : Cells w A (u8s l)) (n : Nat) : Cells w A (u8s (l.take n)) := by simpa [u8s, List.map_take] using h.take n
theorem Cells.dropB {w : World} {A : Option Addr} {l : List UInt8} (h : Cells w A (u8s l)) (n c : Nat) (hc : l.length ≤ c) : Cells w (if c = n then A else A.map (·.add n)) (u8s (l.drop n)) := by simpa [u8s, List.map_drop] using h.drop n c (by simpa [u8s] using hc)
/-- What is left of an argument when no more than N bytes are taken. -/
theorem ArgI.cutB {w : World} {A : Option Addr} {c : Nat} {l : List Int} (h : ArgI .u8 w A c l) (N : Nat) :
    ∃ (a : List UInt8) (m : Nat), a.length = m ∧ Cells w A (u8s a) ∧ m ≤ N ∧ m ≤ c ∧ (l.length ≤ N → m = l.length) ∧ (N < l.length → m = N) := by
  obtain ⟨b, hb, hc⟩ := h.bytes
  have := h.le
  exact ⟨b.take N, min N l.length, by simp [hb], hc.takeB N, by omega, by omega, fun h => by omega, fun h => by omega⟩
theorem extract_str (l : List UInt8) (k : Nat) : (ByteArray.mk l.toArray).extract 0 k = str (l.take k) := by rw [ByteArray.extract_mk]; simp [str]

theorem cut_any (A : Option Addr) (n c : Nat) (N : Int) (w : World) (hn : n ≤ c) (hc : c ≤ 9223372036854775807) (h0 : 0 ≤ N) (h1 : N ≤ 9223372036854775807) :
    Calls Tryd.prog 17 #[.slice A n c, .int .i64 N] w fun e w' => e = .returned (.slice A (min n N.toNat) c) ∧ w = w' := by
  by_cases h : N < n
  · have e1 : min n N.toNat = N.toNat := by omega
    have b1 : N ≤ c := by omega
    rw [e1]
    go_enter Tryd.func17, Tryd.ntmps17
    go_wp2
    go_ret
    exact ⟨rfl, rfl⟩
  · have e1 : min n N.toNat = n := by omega
    rw [e1]
    go_enter Tryd.func17, Tryd.ntmps17
    go_wp2
    go_ret
    exact ⟨rfl, rfl⟩
end Go.Proofs.YtbfjdhbgpjenbaaDoor
