/-
  cornhilllaw7.read: both read the same; known.
-/
import Derived.Test.YtbfjdhbgpjenbaaDoorRepS
import Derived.Test.YtbfjdhbgpjenbaaDoorText8
namespace Go.Proofs.YtbfjdhbgpjenbaaDoor
set_option linter.unusedSimpArgs false
open Go.RowKit
set_option linter.unusedVariables false

theorem reads_get {w w' : World} {z : ReadsL} {e : Ending} {N : Nat} (h : ReadsAt w z e w') (hn : z.rows.length = N) :
    ∃ A c, e = .returned (.tuple #[.slice A N c, .int .i64 (z.why : Nat)]) ∧ w'.ownsRow w.heap.size 24 8 (.slice A N c) N (repsV z.rows) ∧ Cells w' A (repsV z.rows) ∧ Below w.heap.size w w' := by
  subst hn
  obtain ⟨A, c, rfl, own, hb⟩ := h
  exact ⟨A, c, rfl, own, CellsS.of_own own, hb⟩
theorem readS_len : ∀ (k : Nat) (t : List UInt8) (p : Nat), (readS k t p).rows.length ≤ k
  | 0, _, _ => Nat.le_refl _
  | k + 1, t, p => by
    unfold readS
    repeat' split
    · simp
    · simp
    · simp
    · simp only [List.length_cons]
      have := readS_len k (t.drop ((openF t p).b.length + 6)) (openF t p).stop
      omega
theorem readL_len (t : List UInt8) (p : Nat) : (readL t p).rows.length ≤ t.length + 1 := readS_len _ _ _
set_option maxRecDepth 100000 in
set_option maxHeartbeats 1600000 in
theorem read7_any (A : Option Addr) (n c : Nat) (b : List UInt8) (w : World) (hn : b.length = n) (hl : n ≤ 1000000) (hc : n ≤ c) (hcm : c ≤ 9223372036854775807) (hA : Cells w A (u8s b)) :
    Calls Tryd.prog 13 #[.slice A n c] w fun e w' => e = .returned (.bool true) ∧ Below w.heap.size w w' := by
  have HN := hide hn
  clear hn
  obtain ⟨⟨Z, Y⟩, hd⟩ : ∃ q, decR b = q := ⟨_, rfl⟩
  have HD := hide hd
  obtain ⟨M, hM⟩ : ∃ M, (readL b 0).rows.length = M := ⟨_, rfl⟩
  have hMl : M ≤ 1000001 := by have := readL_len b 0; rw [hM, HN.out] at this; omega
  obtain ⟨R, hR⟩ : ∃ R, R = readL b 0 := ⟨_, rfl⟩
  rw [← hR] at hM
  have HM := hide hM
  have HR := hide hR
  clear hd hM hR
  go_enter Tryd.func13, Tryd.ntmps13
  go_wp2_with fail
  refine (decode_any A n c b _ HN.out (by omega) hc hcm hA).mono ?_
  intro e w1 h1
  obtain ⟨rfl, b1⟩ := dec_get h1 HD.out
  have hA1 := hA.below b1
  obtain ⟨w2, ew2⟩ : ∃ w2, w2 = w1.alloc (.cells Z.cells 24) := ⟨_, rfl⟩
  obtain ⟨g, eg⟩ : ∃ g, g = w1.heap.size := ⟨_, rfl⟩
  have C2 : RpAt w2 g Z := by rw [ew2, eg]; exact RpAt.new _ _
  have b2 : Below w1.heap.size w1 w2 := by rw [ew2]; exact nxt_alloc (Below.refl _ _) _
  change w2 = w1.alloc (.cells #[.int .i64 Z.kind, .int .i64 Z.id, .int .i64 Z.inst, .int .i64 Z.side, .int .i64 Z.price, .int .i64 Z.qty, .int .i64 Z.left, .int .i64 Z.why] 24) at ew2
  go_upto_region 2 with (fail)
  rw [← ew2, ← eg]
  clear ew2 eg h1
  have hA2 := hA1.below b2
  have B2 := nxt b1 b2
  clear hA hA1 b1 b2
  go_wp2_with fail
  refine (refDecode_any A n c b _ HN.out (by omega) hc hcm hA2).mono ?_
  intro e w3 h3
  obtain ⟨rfl, b3⟩ := dec_get h3 HD.out
  have C3 := C2.below b3
  have hA3 := hA2.below b3
  have B3 := nxt B2 b3
  obtain ⟨w4, ew4⟩ : ∃ w4, w4 = w3.alloc (.cells Z.cells 24) := ⟨_, rfl⟩
  obtain ⟨g4, eg4⟩ : ∃ g4, g4 = w3.heap.size := ⟨_, rfl⟩
  have D4 : RpAt w4 g4 Z := by rw [ew4, eg4]; exact RpAt.new _ _
  have b4 : Below w3.heap.size w3 w4 := by rw [ew4]; exact nxt_alloc (Below.refl _ _) _
  change w4 = w3.alloc (.cells #[.int .i64 Z.kind, .int .i64 Z.id, .int .i64 Z.inst, .int .i64 Z.side, .int .i64 Z.price, .int .i64 Z.qty, .int .i64 Z.left, .int .i64 Z.why] 24) at ew4
  go_upto_region 3 with (fail)
  rw [← ew4, ← eg4]
  have C4 := C3.below b4
  have hA4 := hA3.below b4
  have B4 := nxt B3 b4
  clear ew4 eg4 h3 C2 C3 B2 B3 b3 b4 hA2 hA3
  go_wp2_with fail
  refine (read_any A n c b _ HN.out hl hc hcm hA4).mono ?_
  rw [← HR.out]
  intro e w5 h5
  obtain ⟨A5, c5, rfl, -, hR5, b5⟩ := reads_get h5 HM.out
  have C5 := C4.below b5
  have D5 := D4.below b5
  have hA5 := hA4.below b5
  have B5 := nxt B4 b5
  clear h5 C4 D4 hA4 B4 b5
  go_wp2_with fail
  refine (refRead_any A n c b _ HN.out hl hc hcm hA5).mono ?_
  rw [← HR.out]
  intro e w6 h6
  obtain ⟨A6, c6, rfl, -, hR6, b6⟩ := reads_get h6 HM.out
  have C6 := C5.below b6
  have D6 := D5.below b6
  have hR56 := hR5.below b6
  have B6 := nxt B5 b6
  clear h6 C5 D5 hA5 B5 b6 hR5
  obtain ⟨f0, f1, f2, f3, f4, f5, f6, f7⟩ := C6.reads'
  obtain ⟨r0, r1, r2, r3, r4, r5, r6, r7⟩ := D6.reads'
  obtain ⟨Rr, hRr⟩ : ∃ Rr, Rr = R.rows := ⟨_, rfl⟩
  rw [← hRr] at hR56 hR6
  have hRl : Rr.length = M := by rw [hRr]; exact HM.out
  have HRL := hide hRl
  clear hRr hRl
  go_wp2_with fail
  refine (sameR_any A5 A6 M M c5 c6 Rr Rr _ HRL.out HRL.out (by rw [HRL.out]; omega) (by rw [HRL.out]; omega) hR56 hR6).mono ?_
  rintro e w7 ⟨rfl, b7⟩
  rw [decide_eq_true (rfl : Rr = Rr)]
  have B7 := nxt B6 b7
  clear f0 f1 f2 f3 f4 f5 f6 f7 r0 r1 r2 r3 r4 r5 r6 r7 hR56 hR6 C6 D6 B6 b7
  go_wp2_with fail
  go_ret
  exact ⟨rfl, B7⟩
set_option maxRecDepth 100000 in
set_option maxHeartbeats 1600000 in
theorem known7_any (w : World) (hT : Hid (PowTab w)) : Calls Tryd.prog 9 #[] w fun e w' => e = .returned (.bool true) ∧ Below w.heap.size w w' := by
  have hw : (⟨3, 7, 0, 1, 100, 5, 2, 0⟩ : Rep).wf := ⟨⟨by decide, by decide⟩, ⟨by decide, by decide⟩, ⟨by decide, by decide⟩, ⟨by decide, by decide⟩, ⟨by decide, by decide⟩, ⟨by decide, by decide⟩, ⟨by decide, by decide⟩, ⟨by decide, by decide⟩⟩
  have ht : textR ⟨3, 7, 0, 1, 100, 5, 2, 0⟩ = [116, 114, 97, 100, 101, 32, 55, 32, 48, 32, 49, 32, 49, 48, 48, 32, 53, 32, 50, 32, 48] := by
    have i7 : Lib.itoa 7 = [55] := by rw [itoa_pos (by omega)]; exact dec_small (by decide)
    have i0 : Lib.itoa 0 = [48] := by rw [itoa_pos (by omega)]; exact dec_small (by decide)
    have i1 : Lib.itoa 1 = [49] := by rw [itoa_pos (by omega)]; exact dec_small (by decide)
    have i5 : Lib.itoa 5 = [53] := by rw [itoa_pos (by omega)]; exact dec_small (by decide)
    have i2 : Lib.itoa 2 = [50] := by rw [itoa_pos (by omega)]; exact dec_small (by decide)
    have i100 : Lib.itoa 100 = [49, 48, 48] := by
      rw [itoa_pos (by omega)]
      show Lib.decDigits 100 = _
      rw [dec_big (by decide), dec_big (by decide), dec_small (by decide)]
      rfl
    show joinW (wordR 3) [Lib.itoa 7, Lib.itoa 0, Lib.itoa 1, Lib.itoa 100, Lib.itoa 5, Lib.itoa 2, Lib.itoa 0] = _
    rw [i7, i0, i1, i100, i5, i2]
    rfl
  have k1 : (str [116, 114, 97, 100, 101, 32, 55, 32, 48, 32, 49, 32, 49, 48, 48, 32, 53, 32, 50, 32, 48]).toList = [116, 114, 97, 100, 101, 32, 55, 32, 48, 32, 49, 32, 49, 48, 48, 32, 53, 32, 50, 32, 48] := str_toList _
  go_enter Tryd.func9, Tryd.ntmps9
  go_wp2_with fail
  refine (text_any ⟨3, 7, 0, 1, 100, 5, 2, 0⟩ _ hw hT.out).mono ?_
  rw [ht]
  rintro e w1 ⟨rfl, b1⟩
  go_wp2_with fail
  go_ret
  exact ⟨rfl, b1⟩
end Go.Proofs.YtbfjdhbgpjenbaaDoor
