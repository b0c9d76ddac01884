/-
  Writers and readers at or behind a block B.
-/
import Derived.Test.YtbfjdhbgpjenbaaDoorWire
import Derived.Test.YtbfjdhbgpjenbaaDoorReader
import Derived.Test.YtbfjdhbgpjenbaaDoorRReader
namespace Go.Proofs.YtbfjdhbgpjenbaaDoor
set_option linter.unusedSimpArgs false
open Go.RowKit
set_option linter.unusedVariables false

structure WAt (B : Nat) (w : World) (d : Nat) (l : List UInt8) : Prop where
  wr : ∃ r, WriterAt w d r l
  bd : B ≤ d
theorem WAt.below {B : Nat} {w w' : World} {d : Nat} {l : List UInt8} (h : WAt B w d l) (hb : Below w.heap.size w w') : WAt B w' d l := by
  obtain ⟨⟨r, W⟩, hd⟩ := h
  exact ⟨⟨r, W.below hb⟩, hd⟩
theorem WAt.lt {B : Nat} {w : World} {d : Nat} {l : List UInt8} (h : WAt B w d l) : B ≤ w.heap.size := by
  obtain ⟨⟨r, W⟩, hd⟩ := h
  have := W.row_lt.1; omega
theorem WAt.of_wrote {B : Nat} {w w' : World} {d : Nat} {r : Option Nat} {l l' : List UInt8} (W : WriterAt w d r l) (hd : B ≤ d) (h : Wrote w d r l' w') : WAt B w' d l' ∧ Below B w w' := by
  obtain ⟨⟨r', W', _⟩, hL⟩ := h
  have h1 := W.row_lt
  exact ⟨⟨⟨r', W'⟩, hd⟩, hL.below hd (fun g hg => by have := (h1.2 g hg).1; omega) (by omega)⟩
theorem wat_new (w : World) : Calls Tryd.prog 25 #[] w fun e w' => ∃ d, e = .returned (.pointer (some ⟨d, 0, none⟩)) ∧ WAt w.heap.size w' d [] ∧ Below w.heap.size w w' :=
  (newWriter_any w).mono fun e w' ⟨d, h1, h2, h3, h4⟩ => ⟨d, h1, ⟨⟨none, h3⟩, h2⟩, h4⟩
theorem wat_byte (B d : Nat) (l : List UInt8) (n : Int) (w : World) (h : WAt B w d l) (hl : l.length ≤ 1000000000) :
    Calls Tryd.prog 26 #[.pointer (some ⟨d, 0, none⟩), .int .i64 n] w fun e w' => e = .returned (.tuple #[]) ∧ WAt B w' d (l ++ le 1 (u64N n)) ∧ Below B w w' := by
  obtain ⟨⟨r, W⟩, hd⟩ := h
  exact (byte_any d r l n w W hl).mono fun e w' ⟨h1, h2⟩ => ⟨h1, WAt.of_wrote W hd h2⟩
theorem wat_long (B d : Nat) (l : List UInt8) (n : Int) (w : World) (h : WAt B w d l) (hl : l.length ≤ 1000000000) :
    Calls Tryd.prog 27 #[.pointer (some ⟨d, 0, none⟩), .int .i64 n] w fun e w' => e = .returned (.tuple #[]) ∧ WAt B w' d (l ++ le 8 (u64N n)) ∧ Below B w w' := by
  obtain ⟨⟨r, W⟩, hd⟩ := h
  exact (long_any d r l n w W hl).mono fun e w' ⟨h1, h2⟩ => ⟨h1, WAt.of_wrote W hd h2⟩
theorem wat_done (B d : Nat) (l : List UInt8) (w : World) (h : WAt B w d l) (hl : l.length ≤ 1000000000) :
    Calls Tryd.prog 28 #[.pointer (some ⟨d, 0, none⟩)] w (FreshB w l) := by
  obtain ⟨⟨r, W⟩, hd⟩ := h
  exact done_any d r l w W hl
/-- A reader at or behind B. -/
structure RAt (B : Nat) (w : World) (d : Nat) (s : Rd) : Prop where
  rd : ReaderAt w d s
  bd : B ≤ d
theorem RAt.below {B : Nat} {w w' : World} {d : Nat} {s : Rd} (h : RAt B w d s) (hb : Below w.heap.size w w') : RAt B w' d s := ⟨h.rd.below hb, h.bd⟩
theorem RAt.lt {B : Nat} {w : World} {d : Nat} {s : Rd} (h : RAt B w d s) : B ≤ w.heap.size := by
  have := h.rd.lt; have := h.bd; omega
theorem RAt.of_took {B : Nat} {w w' : World} {d : Nat} {s s' : Rd} (h : RAt B w d s) (t : Took w d s' w') : RAt B w' d s' ∧ Below B w w' :=
  ⟨⟨t.at_, h.bd⟩, t.leaves.below h.bd (fun g hg => by cases hg) h.lt⟩
theorem rat_byte (B d : Nat) (s : Rd) (w : World) (h : RAt B w d s) :
    Calls Tryd.prog 36 #[.pointer (some ⟨d, 0, none⟩)] w fun e w' => e = .returned (.int .i64 (s.byteOf : Nat)) ∧ RAt B w' d (s.left 1) ∧ Below B w w' :=
  (rbyte_any d s w h.rd).mono fun e w' ⟨h1, h2⟩ => ⟨h1, h.of_took h2⟩
theorem rat_long (B d : Nat) (s : Rd) (w : World) (h : RAt B w d s) :
    Calls Tryd.prog 37 #[.pointer (some ⟨d, 0, none⟩)] w fun e w' => e = .returned (.int .i64 s.longOf) ∧ RAt B w' d (s.left 8) ∧ Below B w w' :=
  (rlong_any d s w h.rd).mono fun e w' ⟨h1, h2⟩ => ⟨h1, h.of_took h2⟩
theorem rat_end (B d : Nat) (s : Rd) (w : World) (h : RAt B w d s) :
    Calls Tryd.prog 38 #[.pointer (some ⟨d, 0, none⟩)] w fun e w' => e = .returned (.int .i64 s.endOf) ∧ w = w' :=
  (rend_any d s w h.rd).mono fun e w' h => h
/-- The reference's reader at or behind B. -/
structure QAt (B : Nat) (w : World) (d : Nat) (s : Rd) : Prop where
  rd : ∃ m, RefAt w d m s
  bd : B ≤ d
  small : s.l.length ≤ 1000000000000
theorem QAt.below {B : Nat} {w w' : World} {d : Nat} {s : Rd} (h : QAt B w d s) (hb : Below w.heap.size w w') : QAt B w' d s := by
  obtain ⟨⟨m, R⟩, hd, hs⟩ := h
  exact ⟨⟨m, R.below hb⟩, hd, hs⟩
theorem QAt.lt {B : Nat} {w : World} {d : Nat} {s : Rd} (h : QAt B w d s) : B ≤ w.heap.size := by
  obtain ⟨⟨m, R⟩, hd, _⟩ := h
  have := R.lt; omega
theorem qat_byte (B d : Nat) (s : Rd) (w : World) (h : QAt B w d s) :
    Calls Tryd.prog 46 #[.pointer (some ⟨d, 0, none⟩)] w fun e w' => e = .returned (.int .i64 (s.byteOf : Nat)) ∧ QAt B w' d (s.left 1) ∧ Below B w w' := by
  have hs := h.lt
  have hl := s.length_left 1
  obtain ⟨⟨m, R⟩, hd, hsm⟩ := h
  exact (refRByte_any d m s w hsm R).mono fun e w' ⟨h1, h2, h3⟩ => ⟨h1, ⟨⟨m, h2⟩, hd, by omega⟩, h3.below hd (fun g hg => by cases hg) hs⟩
theorem qat_long (B d : Nat) (s : Rd) (w : World) (h : QAt B w d s) :
    Calls Tryd.prog 47 #[.pointer (some ⟨d, 0, none⟩)] w fun e w' => e = .returned (.int .i64 s.longOf) ∧ QAt B w' d (s.left 8) ∧ Below B w w' := by
  have hs := h.lt
  have hl := s.length_left 8
  obtain ⟨⟨m, R⟩, hd, hsm⟩ := h
  exact (refRLong_any d m s w hsm R).mono fun e w' ⟨h1, h2, h3⟩ => ⟨h1, ⟨⟨m, h2⟩, hd, by omega⟩, h3.below hd (fun g hg => by cases hg) hs⟩
theorem qat_end (B d : Nat) (s : Rd) (w : World) (h : QAt B w d s) :
    Calls Tryd.prog 48 #[.pointer (some ⟨d, 0, none⟩)] w fun e w' => e = .returned (.int .i64 s.endOf) ∧ Below w.heap.size w w' := by
  obtain ⟨⟨m, R⟩, hd, hsm⟩ := h
  exact (refREnd_any d m s w R).mono fun e w' h => h
end Go.Proofs.YtbfjdhbgpjenbaaDoor
