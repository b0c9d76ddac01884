/-
  Parts written by both: cornhilllaw4.put.
-/
import Derived.Test.YtagphgpikmlicaaRef4
namespace Go.Proofs.Ytagphgpikmlicaa
open Go.RowKit
set_option linter.unusedVariables false

/-- No more of a text than this. -/
def headS (s : ByteArray) (n : Nat) : ByteArray := if s.size ≤ n then s else s.extract 0 n
theorem headS_size (s : ByteArray) (n : Nat) : (headS s n).size = min s.size n := by
  unfold headS
  split
  · omega
  · rw [ByteArray.size_extract]; omega
theorem headS_list (s : ByteArray) (n : Nat) : (headS s n).data.toList = s.data.toList.take n := by
  unfold headS
  have h1 : s.data.toList.length = s.size := rfl
  split
  · rw [List.take_of_length_le (by omega)]
  · rw [ByteArray.data_extract, Array.toList_extract]; simp [List.extract]
theorem head_any (s : ByteArray) (n : Nat) (N : Int) (w : World) (hN : N = n) (hs : s.size ≤ 9223372036854775807) :
    Calls Try.prog 28 #[.string s, .int .i64 N] w fun e w' => e = .returned (.string (headS s n)) ∧ w = w' := by
  subst hN
  by_cases h : s.size ≤ n
  · have e1 : headS s n = s := by unfold headS; rw [if_pos h]
    rw [e1]
    have i1 : ¬ (n : Int) < s.size := by omega
    go_enter Try.func28, Try.ntmps28
    go_wp2_with fail
    go_ret
    exact ⟨rfl, rfl⟩
  · have e1 : headS s n = s.extract 0 n := by unfold headS; rw [if_neg h]
    rw [e1]
    have i1 : (n : Int) < s.size := by omega
    go_enter Try.func28, Try.ntmps28
    go_wp2_with fail
    go_ret
    exact ⟨rfl, rfl⟩
/-- What a part is written as. -/
def partL (kind num : Int) (s : ByteArray) : List UInt8 := if kind = 1 then le 1 (u64N num) else if kind = 2 then le 8 (u64N num) else textL (headS s 300).data.toList
theorem length_partL (kind num : Int) (s : ByteArray) : (partL kind num s).length ≤ 256 := by
  unfold partL
  split
  · simp [length_le]
  · split
    · simp [length_le]
    · rw [length_textL]; omega
/-- What put answers: both have the part behind what they had. -/
def PutBoth (w : World) (d : Nat) (r : Option Nat) (L : List UInt8) (e : Ending) (w' : World) : Prop :=
  ∃ A c r', e = .returned (.slice A L.length c) ∧ w'.ownsRow w.heap.size 5 1 (.slice A L.length c) L.length (u8s L) ∧ Cells w' A (u8s L) ∧ WriterAt w' d r' L ∧ (r' = r ∨ ∀ g, r' = some g → w.heap.size ≤ g) ∧ (∀ g, (Value.slice A L.length c).ownBlock = some g → some g ≠ r') ∧ Leaves d r w w'
theorem PutBoth.mk {w w1 w2 : World} {d : Nat} {r : Option Nat} {L : List UInt8} {e : Ending} (hW : Wrote w d r L w1) (hF : FreshB w1 L e w2) : PutBoth w d r L e w2 := by
  obtain ⟨⟨r', W, hr⟩, hL⟩ := hW
  obtain ⟨A, c, rfl, own, hA, -, -, hb⟩ := hF
  refine ⟨A, c, r', rfl, own_base own hL.size, hA, W.below hb, hr, fun g hg he => ?_, hL.trans (Leaves.of_below (r := r) hb) (.inl rfl)⟩
  have h1 := (own.lt g hg).1
  have h2 := (W.row_lt.2 g he.symm).2
  omega
set_option maxHeartbeats 1600000 in
theorem put4_any (d : Nat) (r : Option Nat) (A : Option Addr) (n c : Nat) (L : List UInt8) (kind num : Int) (s : ByteArray) (w : World) (hW : WriterAt w d r L) (hn : L.length = n) (hl : n ≤ 1000000) (hs : s.size ≤ 9223372036854775807) (hA : Cells w A (u8s L)) (hne : ∀ b o, A = some ⟨b, o, none⟩ → b ≠ d ∧ some b ≠ r) :
    Calls Try.prog 12 #[.pointer (some ⟨d, 0, none⟩), .slice A n c, .agg #[.int .i64 kind, .int .i64 num, .string s]] w (PutBoth w d r (L ++ partL kind num s)) := by
  subst hn
  obtain ⟨w0, ew0⟩ : ∃ w0, w0 = w.alloc (.cells #[.int .i64 kind, .int .i64 num, .string s] 33) := ⟨_, rfl⟩
  obtain ⟨g, eg⟩ : ∃ g, g = w.heap.size := ⟨_, rfl⟩
  have k0 : w0.cell? ⟨g, 0, none⟩ = some (.int .i64 kind) := by rw [ew0, World.cell?_alloc_at _ _ _ _ eg]; rfl
  have k1 : w0.cell? ⟨g, 1, none⟩ = some (.int .i64 num) := by rw [ew0, World.cell?_alloc_at _ _ _ _ eg]; rfl
  have k2 : w0.cell? ⟨g, 2, none⟩ = some (.string s) := by rw [ew0, World.cell?_alloc_at _ _ _ _ eg]; rfl
  have B0 : Below w.heap.size w w0 := by rw [ew0]; exact nxt_alloc (Below.refl _ _) _
  have hg0 : g < w0.heap.size := World.block_lt_of_cell? w0 _ k0
  have hdw := hW.row_lt.1
  have hgd : g ≠ d := by omega
  have hgr : some g ≠ r := by intro he; have := (hW.row_lt.2 g he.symm).2; omega
  have W0 := hW.below B0
  have hA0 := hA.below B0
  have hsz : w.heap.size ≤ w0.heap.size := B0.size
  have hL0 : Leaves d r w w0 := Leaves.of_below B0
  have hwn : w.heap.size ≤ g := by omega
  by_cases h1 : kind = 1
  · subst h1
    go_enter Try.func12, Try.ntmps12
    go_wp2_with fail
    rw [← ew0, ← eg]
    clear ew0 eg hA hW
    refine (head_any s 300 300 _ rfl hs).mono ?_
    rintro e u ⟨rfl, rfl⟩
    go_wp2_with fail
    refine (byte_any d r L num _ W0 (by omega)).mono ?_
    rintro e w1 ⟨rfl, hWr⟩
    have hA1 := hWr.leaves.cells hA0 hne
    have q0 := (World.cell?_of_block (a := ⟨g, 0, none⟩) (hWr.leaves.block g hg0 hgd hgr)).trans k0
    have q1 := (World.cell?_of_block (a := ⟨g, 1, none⟩) (hWr.leaves.block g hg0 hgd hgr)).trans k1
    have hWW := hide (Wrote.next hL0 (.inl rfl) hWr)
    clear k0 k1 k2 hWr hA0 W0 hne
    go_wp2_with fail
    refine (refByte_any A _ c L num _ rfl (by omega) hA1).mono ?_
    rintro e w2 ⟨A2, c2, rfl, hf⟩
    go_wp2_with fail
    go_ret
    have hfin := PutBoth.mk hWW.out ⟨A2, c2, rfl, hf⟩
    rw [show partL 1 num s = le 1 (u64N num) from rfl]
    rw [List.length_append] at hfin
    exact hfin
  · by_cases h2 : kind = 2
    · subst h2
      go_enter Try.func12, Try.ntmps12
      go_wp2_with fail
      rw [← ew0, ← eg]
      clear ew0 eg hA hW
      refine (head_any s 300 300 _ rfl hs).mono ?_
      rintro e u ⟨rfl, rfl⟩
      go_wp2_with fail
      refine (long_any d r L num _ W0 (by omega)).mono ?_
      rintro e w1 ⟨rfl, hWr⟩
      have hA1 := hWr.leaves.cells hA0 hne
      have q0 := (World.cell?_of_block (a := ⟨g, 0, none⟩) (hWr.leaves.block g hg0 hgd hgr)).trans k0
      have q1 := (World.cell?_of_block (a := ⟨g, 1, none⟩) (hWr.leaves.block g hg0 hgd hgr)).trans k1
      have hWW := hide (Wrote.next hL0 (.inl rfl) hWr)
      clear k0 k1 k2 hWr hA0 W0 hne
      go_wp2_with fail
      refine (refLong_any A _ c L num _ rfl (by omega) hA1).mono ?_
      rintro e w2 ⟨A2, c2, rfl, hf⟩
      go_wp2_with fail
      go_ret
      have hfin := PutBoth.mk hWW.out ⟨A2, c2, rfl, hf⟩
      rw [show partL 2 num s = le 8 (u64N num) from rfl]
      rw [List.length_append] at hfin
      exact hfin
    · have h1' : (kind == 1) = false := by simpa using h1
      have h2' : (kind == 2) = false := by simpa using h2
      have hp : partL kind num s = textL (headS s 300).data.toList := by unfold partL; rw [if_neg h1, if_neg h2]
      have HP := hide hp
      have hts : (headS s 300).size ≤ 9223372036854775807 := by rw [headS_size]; omega
      obtain ⟨t, et⟩ : ∃ t, t = headS s 300 := ⟨_, rfl⟩
      rw [← et] at hts
      have ET := hide et
      clear hp h1 h2 et
      go_enter Try.func12, Try.ntmps12
      go_wp2_with fail
      rw [← ew0, ← eg]
      clear ew0 eg hA hW
      refine (head_any s 300 300 _ rfl hs).mono ?_
      rw [← ET.out]
      rintro e u ⟨rfl, rfl⟩
      go_wp2_with fail
      refine (text_any d r L t _ W0 (by omega) hts).mono ?_
      rintro e w1 ⟨rfl, hWr⟩
      have hA1 := hWr.leaves.cells hA0 hne
      have q0 := (World.cell?_of_block (a := ⟨g, 0, none⟩) (hWr.leaves.block g hg0 hgd hgr)).trans k0
      have q1 := (World.cell?_of_block (a := ⟨g, 1, none⟩) (hWr.leaves.block g hg0 hgd hgr)).trans k1
      have hWW := hide (Wrote.next hL0 (.inl rfl) hWr)
      clear k0 k1 k2 hWr hA0 W0 hne
      go_wp2_with fail
      refine (refText_any A _ c L t _ rfl (by omega) hts hA1).mono ?_
      rintro e w2 ⟨A2, c2, rfl, hf⟩
      go_wp2_with fail
      go_ret
      have hfin := PutBoth.mk hWW.out ⟨A2, c2, rfl, hf⟩
      rw [show partL kind num s = textL t.data.toList from (by rw [HP.out, ET.out])]
      rw [List.length_append] at hfin
      exact hfin
end Go.Proofs.Ytagphgpikmlicaa
