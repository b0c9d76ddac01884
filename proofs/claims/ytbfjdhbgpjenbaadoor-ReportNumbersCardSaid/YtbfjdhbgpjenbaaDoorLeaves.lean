/-
  All but two blocks stay as they were; slices.Clone at bytes.
-/
import Derived.Test.YtbfjdhbgpjenbaaDoorRows
import Derived.Test.YtbfjdhbgpjenbaaDoorBytes
import Derived.Test.YtbfjdhbgpjenbaaDoorElem8
import Derived.StillTailTactics
import Derived.WalkSpells
namespace Go.Proofs.YtbfjdhbgpjenbaaDoor
set_option linter.unusedSimpArgs false
open Go.RowKit
set_option linter.unusedVariables false

/-- All but a disk's own two blocks is as it was. -/
structure Leaves (d : Nat) (r : Option Nat) (w w' : World) : Prop where
  os : w'.os = w.os
  tape : w'.tape = w.tape
  output : w'.output = w.output
  size : w.heap.size ≤ w'.heap.size
  block : ∀ k, k < w.heap.size → k ≠ d → some k ≠ r → w'.heap[k]? = w.heap[k]?
theorem Leaves.refl (d : Nat) (r : Option Nat) (w : World) : Leaves d r w w := ⟨rfl, rfl, rfl, Nat.le_refl _, fun _ _ _ _ => rfl⟩
theorem Leaves.of_below {d : Nat} {r : Option Nat} {w w' : World} (h : Below w.heap.size w w') : Leaves d r w w' := ⟨h.os, h.tape, h.output, h.size, fun k hk _ _ => h.block k hk⟩
theorem Leaves.of_grown {d : Nat} {r : Option Nat} {w w' : World} (h : w.grownBy w' r) : Leaves d r w w' := ⟨h.os, h.tape, h.output, h.size, fun k hk _ hr => h.block k hk hr⟩
theorem Leaves.trans {d : Nat} {r r' : Option Nat} {w w' w'' : World} (h : Leaves d r w w') (h' : Leaves d r' w' w'') (hr : r' = r ∨ ∀ g, r' = some g → w.heap.size ≤ g) : Leaves d r w w'' := by
  refine ⟨h'.os.trans h.os, h'.tape.trans h.tape, h'.output.trans h.output, Nat.le_trans h.size h'.size, fun k hk hd hk' => ?_⟩
  refine (h'.block k (Nat.lt_of_lt_of_le hk h.size) hd ?_).trans (h.block k hk hd hk')
  rcases hr with rfl | hr
  · exact hk'
  · intro he
    have := hr k he.symm
    omega
theorem Leaves.setCell {d : Nat} {r : Option Nat} {w w' : World} (h : Leaves d r w w') (i : Nat) (u : Value) : Leaves d r w (w'.setCell ⟨d, i, none⟩ u) :=
  ⟨h.os, h.tape, h.output, by simpa [World.setCell] using h.size, fun k hk hd hr => (Below.heap_setCell _ _ _ _ hd).trans (h.block k hk hd hr)⟩
theorem Leaves.drew {d : Nat} {r : Option Nat} {w w' : World} (h : Leaves d r w w') : Leaves d r w w'.drew := ⟨h.os, h.tape, h.output, h.size, h.block⟩
theorem Leaves.below {d : Nat} {r : Option Nat} {w w' : World} {B : Nat} (h : Leaves d r w w') (hd : B ≤ d) (hr : ∀ g, r = some g → B ≤ g) (hB : B ≤ w.heap.size) : Below B w w' :=
  ⟨h.os, h.tape, h.output, h.size, fun k hk => h.block k (by omega) (by omega) (fun he => by have := hr k he.symm; omega)⟩
theorem Leaves.cells {d : Nat} {r : Option Nat} {w w' : World} (h : Leaves d r w w') {A : Option Addr} {xs : List Value} (hc : Cells w A xs) (hne : ∀ b o, A = some ⟨b, o, none⟩ → b ≠ d ∧ some b ≠ r) : Cells w' A xs :=
  hc.keep h.size fun b o hA hb k => World.cell?_of_block (h.block b hb (hne b o hA).1 (hne b o hA).2)
theorem keep_disk {w w4 : World} {d : Nat} {e : TypeId} {v : Value} {n n' : Nat} {xs L : List Value} {A : Option Addr} {c : Nat} (hd : d < w.heap.size) (ho : w.ownsRow (d + 1) e 1 v n xs) (p : Appended w (d + 1) e v n' L A c w4) :
    w4.heap[d]? = w.heap[d]? := p.grown.block d hd (own_apart ho (by omega))

/-! ### slices.Clone -/
theorem clone_any (A : Option Addr) (n c : Nat) (l : List UInt8) (w : World) (hn : l.length = n) (hl : n ≤ 1099511627776) (hA : Cells w A (u8s l)) :
    Calls Tryd.prog 45 #[.slice A n c] w (FreshB w l) := by
  subst hn
  rcases A with _ | a
  · have hl0 : l = [] := by
      rcases l with _ | ⟨x, l⟩
      · rfl
      · obtain ⟨b, o, h, _⟩ := hA (by simp [u8s])
        cases h
    subst hl0
    have hnil := Lib.run_eql_slice_nil (P := Tryd.prog) w 32 5 none 0 c 0 0 Tryd.underlying32
    go_enter Tryd.func45, Tryd.ntmps45
    go_wp2
    go_ret
    exact Fresh.nil _ _ _
  · have hnil := Lib.run_eql_slice_nil (P := Tryd.prog) w 32 5 (some a) l.length c 0 0 Tryd.underlying32
    go_enter Tryd.func45, Tryd.ntmps45
    go_wp2_with (at_builtin; refine wpList_app elU8 (World.ownsRow_lit (base := w.heap.size) w #[] 0 (Nat.le_refl _) (Nat.zero_le _) rfl) (news := u8s l) rfl _ _ rfl rfl rfl (length_u8s l) (hA.alloc _) (u8s_one l) (by omega) (by simp) l.length (u8s l) (by omega) (by simp) ?_; intro A4 c4 w4 p4)
    go_ret
    exact Fresh.mk rfl p4.own (p4.below _ _ (Nat.le_refl _) ((Below.refl _ _).alloc (Nat.le_refl _) _))

end Go.Proofs.YtbfjdhbgpjenbaaDoor
