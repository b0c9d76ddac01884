/-
  Right orders, of some: cornhilllaw13.some.
-/
import Derived.Test.YtglcdamdjjbjhaaIn13
namespace Go.Proofs.Ytglcdamdjjbjhaa
open Go.RowKit
set_option linter.unusedVariables false

def someO (x : Ord) : Ord := { x with qty := 1 + within x.qty 0 40 }
def someL (l : List Ord) : List Ord := (l.take 30).map someO
theorem length_someL (l : List Ord) : (someL l).length = min 30 l.length := by simp [someL]
theorem someL_at {l : List Ord} {k : Nat} {x : Ord} (h : l[k]? = some x) (hk : k < 30) : (someL l)[k]? = some (someO x) := by
  simp [someL, List.getElem?_take_of_lt hk, h]
theorem some_keep {wr w4 : World} {base : Nat} {e : TypeId} {size : Nat} {v : Value} {n : Nat} {xs : List Value} {O : Obj} {j : Nat} {y : Value} (own : wr.ownsRow base e size v n xs) (g4 : (wr.alloc O).grownBy w4 v.ownBlock)
    (hp : (wr.alloc O).cell? ⟨wr.heap.size, j, none⟩ = some y) : w4.cell? ⟨wr.heap.size, j, none⟩ = some y :=
  g4.cell hp (fun h => by have := (own.lt _ h.symm).2; simp at this)
/-- Orders and their sizes, each in new memory. -/
def FreshOS (w : World) (e : TypeId) (l : List Ord) (x : Ending) (w' : World) : Prop :=
  ∃ A c B d, x = .returned (.tuple #[.slice A l.length c, .slice B l.length d]) ∧ (w'.ownsRow w.heap.size e 5 (.slice A l.length c) l.length (flat l) ∧ w'.ownsRow w.heap.size 2 1 (.slice B l.length d) l.length (i64s (qtys l))) ∧ Cells w' A (flat l) ∧ Cells w' B (i64s (qtys l)) ∧ Below w.heap.size w w'
set_option maxRecDepth 100000 in
set_option maxHeartbeats 3200000 in
theorem some_any (A : Option Addr) (n c : Nat) (l : List Ord) (w : World) (hn : l.length = n) (hl : l.length ≤ 9223372036854775807) (hA : Cells w A (flat l)) :
    Calls Try.prog 13 #[.slice A n c] w (FreshOS w 23 (someL l)) := by
  subst hn
  go_enter Try.func13, Try.ntmps13
  go_wp2_with fail
  go_loopw [4, 5, 6] (fun v s i wr => ∃ k : Nat, k ≤ l.length ∧ k ≤ 30 ∧ i = .int .i64 k ∧ wr.ownsRow w.heap.size 23 5 v k (flat ((someL l).take k)) ∧ wr.ownsRow w.heap.size 2 1 s k (i64s (qtys ((someL l).take k))) ∧ Below w.heap.size w wr) (fun _ _ i _ => 30 - (intOf i).toNat)
  case atStart => exact ⟨0, Nat.zero_le _, by omega, rfl, World.ownsRow_nil _ _ _ _, World.ownsRow_nil _ _ _ _, Below.refl _ _⟩
  case round =>
    obtain ⟨k, hk, hk30, rfl, own, ows, hbel⟩ := hrel
    have hs := hbel.size
    by_cases hlt : k < l.length ∧ k < 30
    · obtain ⟨hlt, h30⟩ := hlt
      obtain ⟨b, o, x, rfl, hb, c0, c1, c2, c3, c4, hx⟩ := (hA.below hbel).ord_at hlt
      have i1 : (k : Int) < l.length := by omega
      have i2 : (k : Int) < 30 := by omega
      have hy := someL_at hx.out h30
      have hz := hide (take_snoc_ord hy)
      have hwb := within_bd x.qty 0 40 (by omega)
      clear hA hy
      go_wp2_with fail
      refine (within_any x.qty 0 40 _ (by omega) (by omega) (by omega)).mono ?_
      rintro e w' ⟨rfl, rfl⟩
      have d1 : 2 ≠ 23 := by decide
      go_wp2_with (first
        | (at_builtin
           refine wpList_pushS elBO (own.alloc _) #[.int .i64 x.id, .int .i64 x.side, .int .i64 x.price, .int .i64 (1 + within x.qty 0 40), .bool x.top] rfl _ _ rfl rfl (sl_alloc wr _) rfl (cells_one (someO x)) (by omega) (by simp; omega) ?_
           intro A4 c4' w4 own4 g4 hb4 l4
           have k3 := some_keep own g4 (j := 3) (y := .int .i64 (1 + within x.qty 0 40)) (by rw [World.cell?_alloc_at _ _ _ _ rfl]; rfl)
           have ows4 := own_grown (ows.alloc _) g4 (own_ne ows own d1)
           have z4 := g4.size
           simp at z4)
        | (at_builtin
           refine wpList_push elI64 ows4 (.int .i64 (1 + within x.qty 0 40)) rfl _ _ rfl rfl rfl rfl (by omega) (by omega) ?_
           intro A5 c5 w5 own5 g5 hb5
           have own6 := own_grown own4 g5 (own_ne own4 ows4 d1.symm)
           have B5 := hb5 _ _ (Nat.le_refl _) (hb4 _ _ (Nat.le_refl _) (nxt_alloc hbel _))))
      go_roundw
      case rel => exact ⟨k + 1, by omega, by omega, by go_num, by rw [hz.out, ← flat_snoc]; exact own6, by rw [hz.out]; simpa [qtys, i64s, someO] using own5, B5⟩
      case measure => simp [intOf]; omega
    · have hkl : k = (someL l).length := by rw [length_someL]; omega
      rw [List.take_of_length_le (by omega)] at own ows
      have hc : k = l.length ∨ (k < l.length ∧ k = 30) := by omega
      have HK := hide hkl
      clear hkl hA
      obtain ⟨A', c', rfl, _⟩ := own_shape own
      obtain ⟨B', d', rfl, _⟩ := own_shape ows
      have hF : FreshOS w 23 (someL l) (.returned (.tuple #[.slice A' k c', .slice B' k d'])) wr := by
        have h := HK.out
        rw [h] at own ows ⊢
        exact ⟨A', c', B', d', rfl, ⟨own, ows⟩, CellsS.of_own own, Cells.of_own ows, hbel⟩
      clear own ows HK
      rcases hc with rfl | ⟨h1, rfl⟩
      · go_wp2_with fail
        go_ret2
        exact hF
      · have i1 : ((30 : Nat) : Int) < l.length := by omega
        go_wp2_with fail
        go_ret2
        exact hF
end Go.Proofs.Ytglcdamdjjbjhaa
