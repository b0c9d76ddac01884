/-
  report.Decode, and the document's. (Printed by tools/gen7d.py.)
-/
import Derived.Test.YtbfjdhbgpjenbaaDoorRepE
import Derived.Test.YtbfjdhbgpjenbaaDoorAppB
import Derived.Test.YtbfjdhbgpjenbaaDoorRReader
namespace Go.Proofs.YtbfjdhbgpjenbaaDoor
set_option linter.unusedSimpArgs false
open Go.RowKit
set_option linter.unusedVariables false

/-- A reader behind an empty report. -/
structure Dr (R : World → Nat → Rd → Prop) (w0 w : World) (g2 d : Nat) (s : Rd) : Prop where
  r : R w d s
  zero : RpAt w g2 Rep.zero
  lt : w0.heap.size ≤ g2 ∧ g2 < d ∧ d < w.heap.size
  bel : Below w0.heap.size w0 w
theorem Dr.read {R : World → Nat → Rd → Prop} {w0 w w' : World} {g2 d : Nat} {s s' : Rd} (h : Dr R w0 w g2 d s) (hr : R w' d s') (L : Leaves d none w w') : Dr R w0 w' g2 d s' := by
  have hl := h.lt
  exact ⟨hr, h.zero.block (L.block g2 h.zero.lt (by omega) (by simp)), ⟨hl.1, hl.2.1, Nat.lt_of_lt_of_le hl.2.2 L.size⟩, Leaves.below0 h.bel L (by omega)⟩
theorem Dr.below {R : World → Nat → Rd → Prop} {w0 w w' : World} {g2 d : Nat} {s : Rd} (h : Dr R w0 w g2 d s) (hr : R w' d s) (hb : Below w.heap.size w w') : Dr R w0 w' g2 d s := by
  have hl := h.lt
  exact ⟨hr, h.zero.below hb, ⟨hl.1, hl.2.1, Nat.lt_of_lt_of_le hl.2.2 hb.size⟩, h.bel.trans (hb.mono h.bel.size)⟩
def QRef (w : World) (d : Nat) (s : Rd) : Prop := (∃ m, RefAt w d m s) ∧ s.l.length ≤ 1000000000000
theorem QRef.below {w w' : World} {d : Nat} {s : Rd} (h : QRef w d s) (hb : Below w.heap.size w w') : QRef w' d s := by
  obtain ⟨⟨m, R⟩, hs⟩ := h
  exact ⟨⟨m, R.below hb⟩, hs⟩
theorem rd1_byte (d : Nat) (s : Rd) (w : World) (h : ReaderAt w d s) :
    Calls Tryd.prog 36 #[.pointer (some ⟨d, 0, none⟩)] w fun e w' => e = .returned (.int .i64 (s.byteOf : Nat)) ∧ ReaderAt w' d (s.left 1) ∧ Leaves d none w w' :=
  (rbyte_any d s w h).mono fun e w' ⟨h1, h2⟩ => ⟨h1, h2.at_, h2.leaves⟩
theorem rd1_long (d : Nat) (s : Rd) (w : World) (h : ReaderAt w d s) :
    Calls Tryd.prog 37 #[.pointer (some ⟨d, 0, none⟩)] w fun e w' => e = .returned (.int .i64 s.longOf) ∧ ReaderAt w' d (s.left 8) ∧ Leaves d none w w' :=
  (rlong_any d s w h).mono fun e w' ⟨h1, h2⟩ => ⟨h1, h2.at_, h2.leaves⟩
theorem rd1_end (d : Nat) (s : Rd) (w : World) (h : ReaderAt w d s) :
    Calls Tryd.prog 38 #[.pointer (some ⟨d, 0, none⟩)] w fun e w' => e = .returned (.int .i64 s.endOf) ∧ Below w.heap.size w w' :=
  (rend_any d s w h).mono fun e w' ⟨h1, h2⟩ => ⟨h1, h2 ▸ Below.refl _ _⟩
theorem rd2_byte (d : Nat) (s : Rd) (w : World) (h : QRef w d s) :
    Calls Tryd.prog 46 #[.pointer (some ⟨d, 0, none⟩)] w fun e w' => e = .returned (.int .i64 (s.byteOf : Nat)) ∧ QRef w' d (s.left 1) ∧ Leaves d none w w' := by
  have hl := s.length_left 1
  obtain ⟨⟨m, R⟩, hs⟩ := h
  exact (refRByte_any d m s w hs R).mono fun e w' ⟨h1, h2, h3⟩ => ⟨h1, ⟨⟨m, h2⟩, by omega⟩, h3⟩
theorem rd2_long (d : Nat) (s : Rd) (w : World) (h : QRef w d s) :
    Calls Tryd.prog 47 #[.pointer (some ⟨d, 0, none⟩)] w fun e w' => e = .returned (.int .i64 s.longOf) ∧ QRef w' d (s.left 8) ∧ Leaves d none w w' := by
  have hl := s.length_left 8
  obtain ⟨⟨m, R⟩, hs⟩ := h
  exact (refRLong_any d m s w hs R).mono fun e w' ⟨h1, h2, h3⟩ => ⟨h1, ⟨⟨m, h2⟩, by omega⟩, h3⟩
theorem rd2_end (d : Nat) (s : Rd) (w : World) (h : QRef w d s) :
    Calls Tryd.prog 48 #[.pointer (some ⟨d, 0, none⟩)] w fun e w' => e = .returned (.int .i64 s.endOf) ∧ Below w.heap.size w w' := by
  obtain ⟨⟨m, R⟩, hs⟩ := h
  exact (refREnd_any d m s w R).mono fun e w' h => h
/-- What Decode answers. -/
def DecAt (w : World) (b : List UInt8) (e : Ending) (w' : World) : Prop := e = .returned (.tuple #[(decR b).1.val, .int .i64 ((decR b).2 : Nat)]) ∧ Below w.heap.size w w'
set_option maxRecDepth 100000 in
set_option maxHeartbeats 1600000 in
theorem decode_any (A : Option Addr) (n c : Nat) (b : List UInt8) (w : World) (hn : b.length = n) (hl : n ≤ 140737488355328) (hc : n ≤ c) (hcm : c ≤ 9223372036854775807) (hA : Cells w A (u8s b)) :
    Calls Tryd.prog 19 #[.slice A n c] w (DecAt w b) := by
  obtain ⟨Z, eZ⟩ : ∃ Z, Z = (decR b).1 := ⟨_, rfl⟩
  obtain ⟨Y, eY⟩ : ∃ Y, Y = (decR b).2 := ⟨_, rfl⟩
  have hZ : decR b = (Z, Y) := by rw [eZ, eY]
  have HP : DecAt w b = fun e w' => e = .returned (.tuple #[Z.val, .int .i64 (Y : Nat)]) ∧ Below w.heap.size w w' := by rw [eZ, eY]; rfl
  rw [HP]
  unfold decR at hZ
  obtain ⟨t0, e0⟩ : ∃ t, t = rd0 b := ⟨_, rfl⟩
  rw [← e0] at hZ
  obtain ⟨t1, e1⟩ : ∃ t, t = t0.left 1 := ⟨_, rfl⟩
  obtain ⟨v0, ev0⟩ : ∃ v : Int, v = (t0.byteOf : Nat) := ⟨_, rfl⟩
  obtain ⟨t2, e2⟩ : ∃ t, t = t1.left 8 := ⟨_, rfl⟩
  obtain ⟨v1, ev1⟩ : ∃ v : Int, v = t1.longOf := ⟨_, rfl⟩
  obtain ⟨t3, e3⟩ : ∃ t, t = t2.left 1 := ⟨_, rfl⟩
  obtain ⟨v2, ev2⟩ : ∃ v : Int, v = (t2.byteOf : Nat) := ⟨_, rfl⟩
  obtain ⟨t4, e4⟩ : ∃ t, t = t3.left 1 := ⟨_, rfl⟩
  obtain ⟨v3, ev3⟩ : ∃ v : Int, v = (t3.byteOf : Nat) := ⟨_, rfl⟩
  obtain ⟨t5, e5⟩ : ∃ t, t = t4.left 8 := ⟨_, rfl⟩
  obtain ⟨v4, ev4⟩ : ∃ v : Int, v = t4.longOf := ⟨_, rfl⟩
  obtain ⟨t6, e6⟩ : ∃ t, t = t5.left 8 := ⟨_, rfl⟩
  obtain ⟨v5, ev5⟩ : ∃ v : Int, v = t5.longOf := ⟨_, rfl⟩
  obtain ⟨t7, e7⟩ : ∃ t, t = t6.left 8 := ⟨_, rfl⟩
  obtain ⟨v6, ev6⟩ : ∃ v : Int, v = t6.longOf := ⟨_, rfl⟩
  obtain ⟨t8, e8⟩ : ∃ t, t = t7.left 1 := ⟨_, rfl⟩
  obtain ⟨v7, ev7⟩ : ∃ v : Int, v = (t7.byteOf : Nat) := ⟨_, rfl⟩
  have hs : s8 t0 = t8 := by rw [e8, e7, e6, e5, e4, e3, e2, e1]; rfl
  have hf : fieldsR t0 = ⟨v0, v1, v2, v3, v4, v5, v6, v7⟩ := by rw [ev0, ev1, ev2, ev3, ev4, ev5, ev6, ev7, e7, e6, e5, e4, e3, e2, e1]; rfl
  rw [hs, hf] at hZ
  have HZ := hide hZ
  have HN := hide hn
  have E0 := hide e0
  have E1 := hide e1
  have E2 := hide e2
  have E3 := hide e3
  have E4 := hide e4
  have E5 := hide e5
  have E6 := hide e6
  have E7 := hide e7
  have E8 := hide e8
  have HV0 := hide ev0
  have HV1 := hide ev1
  have HV2 := hide ev2
  have HV3 := hide ev3
  have HV4 := hide ev4
  have HV5 := hide ev5
  have HV6 := hide ev6
  have HV7 := hide ev7
  clear HP eZ eY hZ hn hs hf e0 e1 e2 e3 e4 e5 e6 e7 e8 ev0 ev1 ev2 ev3 ev4 ev5 ev6 ev7
  go_enter Tryd.func19, Tryd.ntmps19
  obtain ⟨wa, ewa⟩ : ∃ wa, wa = w.alloc (.cells Rep.zero.cells 24) := ⟨_, rfl⟩
  obtain ⟨g2, eg2⟩ : ∃ g2, g2 = w.heap.size := ⟨_, rfl⟩
  have hC2 : RpAt wa g2 Rep.zero := by rw [ewa, eg2]; exact RpAt.new _ _
  have Ba : Below w.heap.size w wa := by rw [ewa]; exact nxt_alloc (Below.refl _ _) _
  change wa = w.alloc (.cells #[.int .i64 0, .int .i64 0, .int .i64 0, .int .i64 0, .int .i64 0, .int .i64 0, .int .i64 0, .int .i64 0] 24) at ewa
  go_upto_region 1 with (fail)
  rw [← ewa, ← eg2]
  have hA1 := hA.below Ba
  have EG := hide eg2
  clear ewa eg2 hA
  go_wp2_with fail
  refine (newReader_big A n c b _ HN.out (by omega) hA1).mono ?_
  rintro e w1 ⟨d, rfl, hd, R1, B1⟩
  have hC1 := hC2.below B1
  have hlt := hC2.lt
  have BB := nxt Ba B1
  have D0 : Hid (Dr ReaderAt w w1 g2 d t0) := hide ⟨by rw [E0.out]; exact R1, hC1, ⟨by have := EG.out; omega, by omega, R1.lt⟩, BB⟩
  clear hA1 Ba B1 hC2 hC1 BB R1 hd hlt
  go_wp2_with fail
  refine (rd1_byte d t0 _ D0.out.r).mono ?_
  rw [← HV0.out]
  rintro e w2 ⟨rfl, R', L'⟩
  have D1 := hide (D0.out.read (show ReaderAt w2 d t1 by rw [E1.out]; exact R') L')
  clear D0 R' L'
  go_wp2_with fail
  refine (rd1_long d t1 _ D1.out.r).mono ?_
  rw [← HV1.out]
  rintro e w3 ⟨rfl, R', L'⟩
  have D2 := hide (D1.out.read (show ReaderAt w3 d t2 by rw [E2.out]; exact R') L')
  clear D1 R' L'
  go_wp2_with fail
  refine (rd1_byte d t2 _ D2.out.r).mono ?_
  rw [← HV2.out]
  rintro e w4 ⟨rfl, R', L'⟩
  have D3 := hide (D2.out.read (show ReaderAt w4 d t3 by rw [E3.out]; exact R') L')
  clear D2 R' L'
  go_wp2_with fail
  refine (rd1_byte d t3 _ D3.out.r).mono ?_
  rw [← HV3.out]
  rintro e w5 ⟨rfl, R', L'⟩
  have D4 := hide (D3.out.read (show ReaderAt w5 d t4 by rw [E4.out]; exact R') L')
  clear D3 R' L'
  go_wp2_with fail
  refine (rd1_long d t4 _ D4.out.r).mono ?_
  rw [← HV4.out]
  rintro e w6 ⟨rfl, R', L'⟩
  have D5 := hide (D4.out.read (show ReaderAt w6 d t5 by rw [E5.out]; exact R') L')
  clear D4 R' L'
  go_wp2_with fail
  refine (rd1_long d t5 _ D5.out.r).mono ?_
  rw [← HV5.out]
  rintro e w7 ⟨rfl, R', L'⟩
  have D6 := hide (D5.out.read (show ReaderAt w7 d t6 by rw [E6.out]; exact R') L')
  clear D5 R' L'
  go_wp2_with fail
  refine (rd1_long d t6 _ D6.out.r).mono ?_
  rw [← HV6.out]
  rintro e w8 ⟨rfl, R', L'⟩
  have D7 := hide (D6.out.read (show ReaderAt w8 d t7 by rw [E7.out]; exact R') L')
  clear D6 R' L'
  go_wp2_with fail
  refine (rd1_byte d t7 _ D7.out.r).mono ?_
  rw [← HV7.out]
  rintro e w9 ⟨rfl, R', L'⟩
  have D8 := hide (D7.out.read (show ReaderAt w9 d t8 by rw [E8.out]; exact R') L')
  clear D7 R' L'
  obtain ⟨wf, ewf⟩ : ∃ wf, wf = w9.alloc (.cells (Rep.cells ⟨v0, v1, v2, v3, v4, v5, v6, v7⟩) 24) := ⟨_, rfl⟩
  obtain ⟨g5, eg5⟩ : ∃ g5, g5 = w9.heap.size := ⟨_, rfl⟩
  have F5 : RpAt wf g5 ⟨v0, v1, v2, v3, v4, v5, v6, v7⟩ := by rw [ewf, eg5]; exact RpAt.new _ _
  have bf : Below w9.heap.size w9 wf := by rw [ewf]; exact nxt_alloc (Below.refl _ _) _
  have D9 := hide (D8.out.below (D8.out.r.below bf) bf)
  change wf = w9.alloc (.cells #[.int .i64 v0, .int .i64 v1, .int .i64 v2, .int .i64 v3, .int .i64 v4, .int .i64 v5, .int .i64 v6, .int .i64 v7] 24) at ewf
  go_upto_region 3 with (fail)
  rw [← ewf, ← eg5]
  have hg5 : g2 < g5 := by have := D8.out.lt; omega
  clear ewf eg5 bf D8
  go_wp2_with fail
  refine (rd1_end d t8 _ D9.out.r).mono ?_
  obtain ⟨x, ex⟩ : ∃ x, x = t8.endOf := ⟨_, rfl⟩
  rw [← ex] at HZ ⊢
  rintro e wg ⟨rfl, bg⟩
  have F6 := F5.below bg
  have D10 := hide (D9.out.below (D9.out.r.below bg) bg)
  clear ex F5 D9 bg
  by_cases hx : x = 0
  rotate_left
  · obtain ⟨rfl, rfl⟩ : Z = Rep.zero ∧ Y = 12 := by
      have := HZ.out
      rw [if_neg (fun h => hx h.1)] at this
      injection this with h1 h2
      exact ⟨h1.symm, h2.symm⟩
    have i1 : (x != 0) = true := by simpa using hx
    clear HZ hx F6
    obtain ⟨z0, z1, z2, z3, z4, z5, z6, z7⟩ := D10.out.zero.reads'
    obtain ⟨y0, y1, y2, y3, y4, y5, y6, y7⟩ : wg.frozen? ⟨g2, 0, none⟩ = false ∧ wg.frozen? ⟨g2, 1, none⟩ = false ∧ wg.frozen? ⟨g2, 2, none⟩ = false ∧ wg.frozen? ⟨g2, 3, none⟩ = false ∧ wg.frozen? ⟨g2, 4, none⟩ = false ∧ wg.frozen? ⟨g2, 5, none⟩ = false ∧ wg.frozen? ⟨g2, 6, none⟩ = false ∧ wg.frozen? ⟨g2, 7, none⟩ = false := ⟨D10.out.zero.frozen 0, D10.out.zero.frozen 1, D10.out.zero.frozen 2, D10.out.zero.frozen 3, D10.out.zero.frozen 4, D10.out.zero.frozen 5, D10.out.zero.frozen 6, D10.out.zero.frozen 7⟩
    go_wp2_with fail
    have hf := fill_at D10.out.zero Rep.zero
    obtain ⟨wz, ewz⟩ : ∃ wz, wz = fillR wg g2 Rep.zero := ⟨_, rfl⟩
    rw [← ewz] at hf
    (try simp only [Exit.inBlock, Exit.then])
    refine post_at ewz ?_
    obtain ⟨r0, r1, r2, r3, r4, r5, r6, r7⟩ := hf.1.reads'
    refine bodyPost_ret (v := .tuple #[Rep.val Rep.zero, .int .i64 (12 : Nat)]) (by simp [results, Tryd.results19, go_sem, r0, r1, r2, r3, r4, r5, r6, r7]; try rfl) rfl ?_
    exact ⟨rfl, Leaves.below0 D10.out.bel hf.2 (by have := EG.out; omega)⟩
  subst hx
  obtain ⟨q0, q1, q2, q3, q4, q5, q6, q7⟩ := F6.reads
  go_wp2_with fail
  clear q0 q1 q2 q3 q4 q5 q6 q7
  refine (right_any ⟨v0, v1, v2, v3, v4, v5, v6, v7⟩ _).mono ?_
  rintro e wh ⟨rfl, bh⟩
  have F7 := F6.below bh
  have D11 := hide (D10.out.below (D10.out.r.below bh) bh)
  clear F6 D10 bh
  by_cases hr : rightP ⟨v0, v1, v2, v3, v4, v5, v6, v7⟩
  rotate_left
  · obtain ⟨rfl, rfl⟩ : Z = Rep.zero ∧ Y = 12 := by
      have := HZ.out
      rw [if_neg (fun h => hr h.2)] at this
      injection this with h1 h2
      exact ⟨h1.symm, h2.symm⟩
    rw [decide_eq_false hr]
    clear HZ hr F7
    obtain ⟨z0, z1, z2, z3, z4, z5, z6, z7⟩ := D11.out.zero.reads'
    obtain ⟨y0, y1, y2, y3, y4, y5, y6, y7⟩ : wh.frozen? ⟨g2, 0, none⟩ = false ∧ wh.frozen? ⟨g2, 1, none⟩ = false ∧ wh.frozen? ⟨g2, 2, none⟩ = false ∧ wh.frozen? ⟨g2, 3, none⟩ = false ∧ wh.frozen? ⟨g2, 4, none⟩ = false ∧ wh.frozen? ⟨g2, 5, none⟩ = false ∧ wh.frozen? ⟨g2, 6, none⟩ = false ∧ wh.frozen? ⟨g2, 7, none⟩ = false := ⟨D11.out.zero.frozen 0, D11.out.zero.frozen 1, D11.out.zero.frozen 2, D11.out.zero.frozen 3, D11.out.zero.frozen 4, D11.out.zero.frozen 5, D11.out.zero.frozen 6, D11.out.zero.frozen 7⟩
    go_wp2_with fail
    have hf := fill_at D11.out.zero Rep.zero
    obtain ⟨wz, ewz⟩ : ∃ wz, wz = fillR wh g2 Rep.zero := ⟨_, rfl⟩
    rw [← ewz] at hf
    (try simp only [Exit.inBlock, Exit.then])
    refine post_at ewz ?_
    obtain ⟨r0, r1, r2, r3, r4, r5, r6, r7⟩ := hf.1.reads'
    refine bodyPost_ret (v := .tuple #[Rep.val Rep.zero, .int .i64 (12 : Nat)]) (by simp [results, Tryd.results19, go_sem, r0, r1, r2, r3, r4, r5, r6, r7]; try rfl) rfl ?_
    exact ⟨rfl, Leaves.below0 D11.out.bel hf.2 (by have := EG.out; omega)⟩
  obtain ⟨rfl, rfl⟩ : Z = ⟨v0, v1, v2, v3, v4, v5, v6, v7⟩ ∧ Y = 0 := by
    have := HZ.out
    rw [if_pos ⟨by first | rfl | trivial, hr⟩] at this
    injection this with h1 h2
    exact ⟨h1.symm, h2.symm⟩
  rw [decide_eq_true hr]
  clear HZ hr
  obtain ⟨z0, z1, z2, z3, z4, z5, z6, z7⟩ := D11.out.zero.reads'
  obtain ⟨y0, y1, y2, y3, y4, y5, y6, y7⟩ : wh.frozen? ⟨g2, 0, none⟩ = false ∧ wh.frozen? ⟨g2, 1, none⟩ = false ∧ wh.frozen? ⟨g2, 2, none⟩ = false ∧ wh.frozen? ⟨g2, 3, none⟩ = false ∧ wh.frozen? ⟨g2, 4, none⟩ = false ∧ wh.frozen? ⟨g2, 5, none⟩ = false ∧ wh.frozen? ⟨g2, 6, none⟩ = false ∧ wh.frozen? ⟨g2, 7, none⟩ = false := ⟨D11.out.zero.frozen 0, D11.out.zero.frozen 1, D11.out.zero.frozen 2, D11.out.zero.frozen 3, D11.out.zero.frozen 4, D11.out.zero.frozen 5, D11.out.zero.frozen 6, D11.out.zero.frozen 7⟩
  obtain ⟨x0, x1, x2, x3, x4, x5, x6, x7⟩ := F7.reads
  go_wp2_with fail
  have hf := fill_at D11.out.zero ⟨v0, v1, v2, v3, v4, v5, v6, v7⟩
  obtain ⟨wz, ewz⟩ : ∃ wz, wz = fillR wh g2 ⟨v0, v1, v2, v3, v4, v5, v6, v7⟩ := ⟨_, rfl⟩
  rw [← ewz] at hf
  (try simp only [Exit.inBlock, Exit.then])
  refine post_at ewz ?_
  obtain ⟨r0, r1, r2, r3, r4, r5, r6, r7⟩ := hf.1.reads'
  refine bodyPost_ret (v := .tuple #[Rep.val ⟨v0, v1, v2, v3, v4, v5, v6, v7⟩, .int .i64 (0 : Nat)]) (by simp [results, Tryd.results19, go_sem, r0, r1, r2, r3, r4, r5, r6, r7]; try rfl) rfl ?_
  exact ⟨rfl, Leaves.below0 D11.out.bel hf.2 (by have := EG.out; omega)⟩
set_option maxRecDepth 100000 in
set_option maxHeartbeats 1600000 in
theorem refDecode_any (A : Option Addr) (n c : Nat) (b : List UInt8) (w : World) (hn : b.length = n) (hl : n ≤ 1000000000) (hc : n ≤ c) (hcm : c ≤ 9223372036854775807) (hA : Cells w A (u8s b)) :
    Calls Tryd.prog 32 #[.slice A n c] w (DecAt w b) := by
  obtain ⟨Z, eZ⟩ : ∃ Z, Z = (decR b).1 := ⟨_, rfl⟩
  obtain ⟨Y, eY⟩ : ∃ Y, Y = (decR b).2 := ⟨_, rfl⟩
  have hZ : decR b = (Z, Y) := by rw [eZ, eY]
  have HP : DecAt w b = fun e w' => e = .returned (.tuple #[Z.val, .int .i64 (Y : Nat)]) ∧ Below w.heap.size w w' := by rw [eZ, eY]; rfl
  rw [HP]
  unfold decR at hZ
  obtain ⟨t0, e0⟩ : ∃ t, t = rd0 b := ⟨_, rfl⟩
  rw [← e0] at hZ
  obtain ⟨t1, e1⟩ : ∃ t, t = t0.left 1 := ⟨_, rfl⟩
  obtain ⟨v0, ev0⟩ : ∃ v : Int, v = (t0.byteOf : Nat) := ⟨_, rfl⟩
  obtain ⟨t2, e2⟩ : ∃ t, t = t1.left 8 := ⟨_, rfl⟩
  obtain ⟨v1, ev1⟩ : ∃ v : Int, v = t1.longOf := ⟨_, rfl⟩
  obtain ⟨t3, e3⟩ : ∃ t, t = t2.left 1 := ⟨_, rfl⟩
  obtain ⟨v2, ev2⟩ : ∃ v : Int, v = (t2.byteOf : Nat) := ⟨_, rfl⟩
  obtain ⟨t4, e4⟩ : ∃ t, t = t3.left 1 := ⟨_, rfl⟩
  obtain ⟨v3, ev3⟩ : ∃ v : Int, v = (t3.byteOf : Nat) := ⟨_, rfl⟩
  obtain ⟨t5, e5⟩ : ∃ t, t = t4.left 8 := ⟨_, rfl⟩
  obtain ⟨v4, ev4⟩ : ∃ v : Int, v = t4.longOf := ⟨_, rfl⟩
  obtain ⟨t6, e6⟩ : ∃ t, t = t5.left 8 := ⟨_, rfl⟩
  obtain ⟨v5, ev5⟩ : ∃ v : Int, v = t5.longOf := ⟨_, rfl⟩
  obtain ⟨t7, e7⟩ : ∃ t, t = t6.left 8 := ⟨_, rfl⟩
  obtain ⟨v6, ev6⟩ : ∃ v : Int, v = t6.longOf := ⟨_, rfl⟩
  obtain ⟨t8, e8⟩ : ∃ t, t = t7.left 1 := ⟨_, rfl⟩
  obtain ⟨v7, ev7⟩ : ∃ v : Int, v = (t7.byteOf : Nat) := ⟨_, rfl⟩
  have hs : s8 t0 = t8 := by rw [e8, e7, e6, e5, e4, e3, e2, e1]; rfl
  have hf : fieldsR t0 = ⟨v0, v1, v2, v3, v4, v5, v6, v7⟩ := by rw [ev0, ev1, ev2, ev3, ev4, ev5, ev6, ev7, e7, e6, e5, e4, e3, e2, e1]; rfl
  rw [hs, hf] at hZ
  have HZ := hide hZ
  have HN := hide hn
  have E0 := hide e0
  have E1 := hide e1
  have E2 := hide e2
  have E3 := hide e3
  have E4 := hide e4
  have E5 := hide e5
  have E6 := hide e6
  have E7 := hide e7
  have E8 := hide e8
  have HV0 := hide ev0
  have HV1 := hide ev1
  have HV2 := hide ev2
  have HV3 := hide ev3
  have HV4 := hide ev4
  have HV5 := hide ev5
  have HV6 := hide ev6
  have HV7 := hide ev7
  clear HP eZ eY hZ hn hs hf e0 e1 e2 e3 e4 e5 e6 e7 e8 ev0 ev1 ev2 ev3 ev4 ev5 ev6 ev7
  go_enter Tryd.func32, Tryd.ntmps32
  obtain ⟨wa, ewa⟩ : ∃ wa, wa = w.alloc (.cells Rep.zero.cells 24) := ⟨_, rfl⟩
  obtain ⟨g2, eg2⟩ : ∃ g2, g2 = w.heap.size := ⟨_, rfl⟩
  have hC2 : RpAt wa g2 Rep.zero := by rw [ewa, eg2]; exact RpAt.new _ _
  have Ba : Below w.heap.size w wa := by rw [ewa]; exact nxt_alloc (Below.refl _ _) _
  change wa = w.alloc (.cells #[.int .i64 0, .int .i64 0, .int .i64 0, .int .i64 0, .int .i64 0, .int .i64 0, .int .i64 0, .int .i64 0] 24) at ewa
  go_upto_region 1 with (fail)
  rw [← ewa, ← eg2]
  have hA1 := hA.below Ba
  have EG := hide eg2
  clear ewa eg2 hA
  have hR0 : QRef (wa.alloc (.cells #[.slice A n c, .int .i64 0, .int .i64 0] 83)) wa.heap.size ⟨b, false⟩ :=
    ⟨⟨wa.heap.size, RefAt.new' HN.out hA1 hc hcm⟩, by show b.length ≤ _; rw [HN.out]; omega⟩
  obtain ⟨w1, ew1⟩ : ∃ w1, w1 = wa.alloc (.cells #[.slice A n c, .int .i64 0, .int .i64 0] 83) := ⟨_, rfl⟩
  obtain ⟨d, ed⟩ : ∃ d, d = wa.heap.size := ⟨_, rfl⟩
  have B1 : Below wa.heap.size wa w1 := by rw [ew1]; exact nxt_alloc (Below.refl _ _) _
  have hd1 : d < w1.heap.size := by rw [ed, ew1]; simp
  rw [← ew1, ← ed] at hR0
  have hd : wa.heap.size ≤ d := by omega
  go_upto_region 2 with (fail)
  rw [← ew1, ← ed]
  clear ew1 ed
  have hC1 := hC2.below B1
  have hlt := hC2.lt
  have BB := nxt Ba B1
  have D0 : Hid (Dr QRef w w1 g2 d t0) := hide ⟨by rw [E0.out]; exact hR0, hC1, ⟨by have := EG.out; omega, by omega, hd1⟩, BB⟩
  clear hA1 Ba B1 hC2 hC1 BB hR0 hd hlt hd1
  go_wp2_with fail
  refine (rd2_byte d t0 _ D0.out.r).mono ?_
  rw [← HV0.out]
  rintro e w2 ⟨rfl, R', L'⟩
  have D1 := hide (D0.out.read (show QRef w2 d t1 by rw [E1.out]; exact R') L')
  clear D0 R' L'
  go_wp2_with fail
  refine (rd2_long d t1 _ D1.out.r).mono ?_
  rw [← HV1.out]
  rintro e w3 ⟨rfl, R', L'⟩
  have D2 := hide (D1.out.read (show QRef w3 d t2 by rw [E2.out]; exact R') L')
  clear D1 R' L'
  go_wp2_with fail
  refine (rd2_byte d t2 _ D2.out.r).mono ?_
  rw [← HV2.out]
  rintro e w4 ⟨rfl, R', L'⟩
  have D3 := hide (D2.out.read (show QRef w4 d t3 by rw [E3.out]; exact R') L')
  clear D2 R' L'
  go_wp2_with fail
  refine (rd2_byte d t3 _ D3.out.r).mono ?_
  rw [← HV3.out]
  rintro e w5 ⟨rfl, R', L'⟩
  have D4 := hide (D3.out.read (show QRef w5 d t4 by rw [E4.out]; exact R') L')
  clear D3 R' L'
  go_wp2_with fail
  refine (rd2_long d t4 _ D4.out.r).mono ?_
  rw [← HV4.out]
  rintro e w6 ⟨rfl, R', L'⟩
  have D5 := hide (D4.out.read (show QRef w6 d t5 by rw [E5.out]; exact R') L')
  clear D4 R' L'
  go_wp2_with fail
  refine (rd2_long d t5 _ D5.out.r).mono ?_
  rw [← HV5.out]
  rintro e w7 ⟨rfl, R', L'⟩
  have D6 := hide (D5.out.read (show QRef w7 d t6 by rw [E6.out]; exact R') L')
  clear D5 R' L'
  go_wp2_with fail
  refine (rd2_long d t6 _ D6.out.r).mono ?_
  rw [← HV6.out]
  rintro e w8 ⟨rfl, R', L'⟩
  have D7 := hide (D6.out.read (show QRef w8 d t7 by rw [E7.out]; exact R') L')
  clear D6 R' L'
  go_wp2_with fail
  refine (rd2_byte d t7 _ D7.out.r).mono ?_
  rw [← HV7.out]
  rintro e w9 ⟨rfl, R', L'⟩
  have D8 := hide (D7.out.read (show QRef w9 d t8 by rw [E8.out]; exact R') L')
  clear D7 R' L'
  obtain ⟨wf, ewf⟩ : ∃ wf, wf = w9.alloc (.cells (Rep.cells ⟨v0, v1, v2, v3, v4, v5, v6, v7⟩) 24) := ⟨_, rfl⟩
  obtain ⟨g5, eg5⟩ : ∃ g5, g5 = w9.heap.size := ⟨_, rfl⟩
  have F5 : RpAt wf g5 ⟨v0, v1, v2, v3, v4, v5, v6, v7⟩ := by rw [ewf, eg5]; exact RpAt.new _ _
  have bf : Below w9.heap.size w9 wf := by rw [ewf]; exact nxt_alloc (Below.refl _ _) _
  have D9 := hide (D8.out.below (D8.out.r.below bf) bf)
  change wf = w9.alloc (.cells #[.int .i64 v0, .int .i64 v1, .int .i64 v2, .int .i64 v3, .int .i64 v4, .int .i64 v5, .int .i64 v6, .int .i64 v7] 24) at ewf
  go_upto_region 3 with (fail)
  rw [← ewf, ← eg5]
  have hg5 : g2 < g5 := by have := D8.out.lt; omega
  clear ewf eg5 bf D8
  obtain ⟨q0, q1, q2, q3, q4, q5, q6, q7⟩ := F5.reads
  go_wp2_with fail
  clear q0 q1 q2 q3 q4 q5 q6 q7
  refine (refEncode_any ⟨v0, v1, v2, v3, v4, v5, v6, v7⟩ _).mono ?_
  rintro e wg ⟨A2, c2, rfl, -, -, -, -, bg⟩
  have F6 := F5.below bg
  have D10 := hide (D9.out.below (D9.out.r.below bg) bg)
  clear F5 D9 bg
  by_cases hr : rightP ⟨v0, v1, v2, v3, v4, v5, v6, v7⟩
  rotate_left
  · obtain ⟨rfl, rfl⟩ : Z = Rep.zero ∧ Y = 12 := by
      have := HZ.out
      rw [if_neg (fun h => hr h.2)] at this
      injection this with h1 h2
      exact ⟨h1.symm, h2.symm⟩
    rw [show encY ⟨v0, v1, v2, v3, v4, v5, v6, v7⟩ = 12 from if_neg hr]
    clear HZ hr F6
    obtain ⟨z0, z1, z2, z3, z4, z5, z6, z7⟩ := D10.out.zero.reads'
    obtain ⟨y0, y1, y2, y3, y4, y5, y6, y7⟩ : wg.frozen? ⟨g2, 0, none⟩ = false ∧ wg.frozen? ⟨g2, 1, none⟩ = false ∧ wg.frozen? ⟨g2, 2, none⟩ = false ∧ wg.frozen? ⟨g2, 3, none⟩ = false ∧ wg.frozen? ⟨g2, 4, none⟩ = false ∧ wg.frozen? ⟨g2, 5, none⟩ = false ∧ wg.frozen? ⟨g2, 6, none⟩ = false ∧ wg.frozen? ⟨g2, 7, none⟩ = false := ⟨D10.out.zero.frozen 0, D10.out.zero.frozen 1, D10.out.zero.frozen 2, D10.out.zero.frozen 3, D10.out.zero.frozen 4, D10.out.zero.frozen 5, D10.out.zero.frozen 6, D10.out.zero.frozen 7⟩
    go_wp2_with fail
    have hf := fill_at D10.out.zero Rep.zero
    obtain ⟨wz, ewz⟩ : ∃ wz, wz = fillR wg g2 Rep.zero := ⟨_, rfl⟩
    rw [← ewz] at hf
    (try simp only [Exit.inBlock, Exit.then])
    refine post_at ewz ?_
    obtain ⟨r0, r1, r2, r3, r4, r5, r6, r7⟩ := hf.1.reads'
    refine bodyPost_ret (v := .tuple #[Rep.val Rep.zero, .int .i64 (12 : Nat)]) (by simp [results, Tryd.results32, go_sem, r0, r1, r2, r3, r4, r5, r6, r7]; try rfl) rfl ?_
    exact ⟨rfl, Leaves.below0 D10.out.bel hf.2 (by have := EG.out; omega)⟩
  rw [show encY ⟨v0, v1, v2, v3, v4, v5, v6, v7⟩ = 0 from if_pos hr]
  go_wp2_with fail
  refine (rd2_end d t8 _ D10.out.r).mono ?_
  obtain ⟨x, ex⟩ : ∃ x, x = t8.endOf := ⟨_, rfl⟩
  rw [← ex] at HZ ⊢
  rintro e wh ⟨rfl, bh⟩
  have F7 := F6.below bh
  have D11 := hide (D10.out.below (D10.out.r.below bh) bh)
  clear ex F6 D10 bh
  have HR := hide hr
  clear hr
  by_cases hx : x = 0
  rotate_left
  · obtain ⟨rfl, rfl⟩ : Z = Rep.zero ∧ Y = 12 := by
      have := HZ.out
      rw [if_neg (fun h => hx h.1)] at this
      injection this with h1 h2
      exact ⟨h1.symm, h2.symm⟩
    have i1 : (x != 0) = true := by simpa using hx
    clear HZ hx F7
    obtain ⟨z0, z1, z2, z3, z4, z5, z6, z7⟩ := D11.out.zero.reads'
    obtain ⟨y0, y1, y2, y3, y4, y5, y6, y7⟩ : wh.frozen? ⟨g2, 0, none⟩ = false ∧ wh.frozen? ⟨g2, 1, none⟩ = false ∧ wh.frozen? ⟨g2, 2, none⟩ = false ∧ wh.frozen? ⟨g2, 3, none⟩ = false ∧ wh.frozen? ⟨g2, 4, none⟩ = false ∧ wh.frozen? ⟨g2, 5, none⟩ = false ∧ wh.frozen? ⟨g2, 6, none⟩ = false ∧ wh.frozen? ⟨g2, 7, none⟩ = false := ⟨D11.out.zero.frozen 0, D11.out.zero.frozen 1, D11.out.zero.frozen 2, D11.out.zero.frozen 3, D11.out.zero.frozen 4, D11.out.zero.frozen 5, D11.out.zero.frozen 6, D11.out.zero.frozen 7⟩
    go_wp2_with fail
    have hf := fill_at D11.out.zero Rep.zero
    obtain ⟨wz, ewz⟩ : ∃ wz, wz = fillR wh g2 Rep.zero := ⟨_, rfl⟩
    rw [← ewz] at hf
    (try simp only [Exit.inBlock, Exit.then])
    refine post_at ewz ?_
    obtain ⟨r0, r1, r2, r3, r4, r5, r6, r7⟩ := hf.1.reads'
    refine bodyPost_ret (v := .tuple #[Rep.val Rep.zero, .int .i64 (12 : Nat)]) (by simp [results, Tryd.results32, go_sem, r0, r1, r2, r3, r4, r5, r6, r7]; try rfl) rfl ?_
    exact ⟨rfl, Leaves.below0 D11.out.bel hf.2 (by have := EG.out; omega)⟩
  subst hx
  obtain ⟨rfl, rfl⟩ : Z = ⟨v0, v1, v2, v3, v4, v5, v6, v7⟩ ∧ Y = 0 := by
    have := HZ.out
    rw [if_pos ⟨by first | rfl | trivial, HR.out⟩] at this
    injection this with h1 h2
    exact ⟨h1.symm, h2.symm⟩
  clear HZ
  obtain ⟨z0, z1, z2, z3, z4, z5, z6, z7⟩ := D11.out.zero.reads'
  obtain ⟨y0, y1, y2, y3, y4, y5, y6, y7⟩ : wh.frozen? ⟨g2, 0, none⟩ = false ∧ wh.frozen? ⟨g2, 1, none⟩ = false ∧ wh.frozen? ⟨g2, 2, none⟩ = false ∧ wh.frozen? ⟨g2, 3, none⟩ = false ∧ wh.frozen? ⟨g2, 4, none⟩ = false ∧ wh.frozen? ⟨g2, 5, none⟩ = false ∧ wh.frozen? ⟨g2, 6, none⟩ = false ∧ wh.frozen? ⟨g2, 7, none⟩ = false := ⟨D11.out.zero.frozen 0, D11.out.zero.frozen 1, D11.out.zero.frozen 2, D11.out.zero.frozen 3, D11.out.zero.frozen 4, D11.out.zero.frozen 5, D11.out.zero.frozen 6, D11.out.zero.frozen 7⟩
  obtain ⟨x0, x1, x2, x3, x4, x5, x6, x7⟩ := F7.reads
  go_wp2_with fail
  have hf := fill_at D11.out.zero ⟨v0, v1, v2, v3, v4, v5, v6, v7⟩
  obtain ⟨wz, ewz⟩ : ∃ wz, wz = fillR wh g2 ⟨v0, v1, v2, v3, v4, v5, v6, v7⟩ := ⟨_, rfl⟩
  rw [← ewz] at hf
  (try simp only [Exit.inBlock, Exit.then])
  refine post_at ewz ?_
  obtain ⟨r0, r1, r2, r3, r4, r5, r6, r7⟩ := hf.1.reads'
  refine bodyPost_ret (v := .tuple #[Rep.val ⟨v0, v1, v2, v3, v4, v5, v6, v7⟩, .int .i64 (0 : Nat)]) (by simp [results, Tryd.results32, go_sem, r0, r1, r2, r3, r4, r5, r6, r7]; try rfl) rfl ?_
  exact ⟨rfl, Leaves.below0 D11.out.bel hf.2 (by have := EG.out; omega)⟩
end Go.Proofs.YtbfjdhbgpjenbaaDoor
