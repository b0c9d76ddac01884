/-
  command.Decode, and the document's. (Printed by tools/gen6d.py.)
-/
import Derived.Test.YtjahndamfhfjcaaCmd
import Derived.Test.YtjahndamfhfjcaaWAt
import Derived.Test.YtjahndamfhfjcaaAppB
namespace Go.Proofs.Ytjahndamfhfjcaa
open Go.RowKit
set_option linter.unusedVariables false

/-- A reader, and a command that is being filled behind it. -/
structure Dk (R : World → Nat → Rd → Prop) (w0 w : World) (g2 d g5 : Nat) (z : Cmd) (s : Rd) : Prop where
  r : R w d s
  zero : CAt w g2 Cmd.zero
  cmd : CAt w g5 z
  lt : w0.heap.size ≤ g2 ∧ g2 < d ∧ d < g5
  bel : Below w0.heap.size w0 w
theorem CAt.block {w w' : World} {g : Nat} {c : Cmd} (h : CAt w g c) (hb : w'.heap[g]? = w.heap[g]?) : CAt w' g c := hb.trans h
theorem CAt.frozen {w : World} {g : Nat} {c : Cmd} (h : CAt w g c) (i : Nat) : w.frozen? ⟨g, i, none⟩ = false := by
  unfold CAt at h
  simp [World.frozen?, h]
theorem CAt.set {w : World} {g : Nat} {c : Cmd} (h : CAt w g c) (i : Nat) (u : Value) (c' : Cmd) (hc : c.cells.setIfInBounds i u = c'.cells) : CAt (w.setCell ⟨g, i, none⟩ u) g c' := by
  unfold CAt at *
  rw [heap_setCell_same _ _ _ _ _ _ h, hc]
theorem Leaves.below0 {w0 w w' : World} {d : Nat} (hb : Below w0.heap.size w0 w) (L : Leaves d none w w') (hd : w0.heap.size ≤ d) : Below w0.heap.size w0 w' :=
  hb.trans (L.below hd (fun g hg => by cases hg) hb.size)
theorem Dk.read {R : World → Nat → Rd → Prop} {w0 w w' : World} {g2 d g5 : Nat} {z : Cmd} {s s' : Rd} (h : Dk R w0 w g2 d g5 z s) (hr : R w' d s') (L : Leaves d none w w') : Dk R w0 w' g2 d g5 z s' := by
  have hl := h.lt
  exact ⟨hr, h.zero.block (L.block g2 h.zero.lt (by omega) (by simp)), h.cmd.block (L.block g5 h.cmd.lt (by omega) (by simp)), hl, Leaves.below0 h.bel L (by omega)⟩
theorem Dk.store {R : World → Nat → Rd → Prop} (hR : ∀ (w w' : World) (d d' : Nat) (s : Rd), R w d s → Leaves d' none w w' → d < d' → R w' d s) {w0 w : World} {g2 d g5 : Nat} {z : Cmd} {s : Rd} (h : Dk R w0 w g2 d g5 z s) (i : Nat) (u : Value) (z' : Cmd) (hz : z.cells.setIfInBounds i u = z'.cells) :
    Dk R w0 (w.setCell ⟨g5, i, none⟩ u) g2 d g5 z' s := by
  have hl := h.lt
  have L : Leaves g5 none w (w.setCell ⟨g5, i, none⟩ u) := (Leaves.refl g5 none w).setCell i u
  exact ⟨hR _ _ _ _ _ h.r L hl.2.2, h.zero.block (L.block g2 h.zero.lt (by omega) (by simp)), h.cmd.set i u z' hz, hl, Leaves.below0 h.bel L (by omega)⟩
theorem Dk.below {R : World → Nat → Rd → Prop} {w0 w w' : World} {g2 d g5 : Nat} {z : Cmd} {s : Rd} (h : Dk R w0 w g2 d g5 z s) (hr : R w' d s) (hb : Below w.heap.size w w') : Dk R w0 w' g2 d g5 z s :=
  ⟨hr, h.zero.below hb, h.cmd.below hb, h.lt, h.bel.trans (hb.mono h.bel.size)⟩
theorem rd1_other (w w' : World) (d d' : Nat) (s : Rd) (h : ReaderAt w d s) (L : Leaves d' none w w') (hd : d < d') : ReaderAt w' d s := h.other L hd
def QRef (w : World) (d : Nat) (s : Rd) : Prop := (∃ m, RefAt w d m s) ∧ s.l.length ≤ 1000000000000
theorem rd2_other (w w' : World) (d d' : Nat) (s : Rd) (h : QRef w d s) (L : Leaves d' none w w') (hd : d < d') : QRef w' d s := by
  obtain ⟨⟨m, h⟩, hs⟩ := h
  exact ⟨⟨m, h.other L (by omega) (by have := h.le; omega)⟩, hs⟩
theorem QRef.below {w w' : World} {d : Nat} {s : Rd} (h : QRef w d s) (hb : Below w.heap.size w w') : QRef w' d s := by
  obtain ⟨⟨m, R⟩, hs⟩ := h
  exact ⟨⟨m, R.below hb⟩, hs⟩
theorem rd1_byte (d : Nat) (s : Rd) (w : World) (h : ReaderAt w d s) :
    Calls Try.prog 43 #[.pointer (some ⟨d, 0, none⟩)] w fun e w' => e = .returned (.int .i64 (s.byteOf : Nat)) ∧ ReaderAt w' d (s.left 1) ∧ Leaves d none w w' :=
  (rbyte_any d s w h).mono fun e w' ⟨h1, h2⟩ => ⟨h1, h2.at_, h2.leaves⟩
theorem rd1_long (d : Nat) (s : Rd) (w : World) (h : ReaderAt w d s) :
    Calls Try.prog 44 #[.pointer (some ⟨d, 0, none⟩)] w fun e w' => e = .returned (.int .i64 s.longOf) ∧ ReaderAt w' d (s.left 8) ∧ Leaves d none w w' :=
  (rlong_any d s w h).mono fun e w' ⟨h1, h2⟩ => ⟨h1, h2.at_, h2.leaves⟩
theorem rd1_text (d : Nat) (s : Rd) (w : World) (h : ReaderAt w d s) :
    Calls Try.prog 45 #[.pointer (some ⟨d, 0, none⟩)] w fun e w' => e = .returned (.string (str s.textOf)) ∧ ReaderAt w' d s.pastText ∧ Leaves d none w w' :=
  (rtext_any d s w h).mono fun e w' ⟨h1, h2⟩ => ⟨h1, h2.at_, h2.leaves⟩
theorem rd1_end (d : Nat) (s : Rd) (w : World) (h : ReaderAt w d s) :
    Calls Try.prog 46 #[.pointer (some ⟨d, 0, none⟩)] w fun e w' => e = .returned (.int .i64 s.endOf) ∧ Below w.heap.size w w' :=
  (rend_any d s w h).mono fun e w' ⟨h1, h2⟩ => ⟨h1, h2 ▸ Below.refl _ _⟩
theorem rd2_byte (d : Nat) (s : Rd) (w : World) (h : QRef w d s) :
    Calls Try.prog 51 #[.pointer (some ⟨d, 0, none⟩)] w fun e w' => e = .returned (.int .i64 (s.byteOf : Nat)) ∧ QRef w' d (s.left 1) ∧ Leaves d none w w' := by
  have hl := s.length_left 1
  obtain ⟨⟨m, R⟩, hs⟩ := h
  exact (refRByte_any d m s w hs R).mono fun e w' ⟨h1, h2, h3⟩ => ⟨h1, ⟨⟨m, h2⟩, by omega⟩, h3⟩
theorem rd2_long (d : Nat) (s : Rd) (w : World) (h : QRef w d s) :
    Calls Try.prog 52 #[.pointer (some ⟨d, 0, none⟩)] w fun e w' => e = .returned (.int .i64 s.longOf) ∧ QRef w' d (s.left 8) ∧ Leaves d none w w' := by
  have hl := s.length_left 8
  obtain ⟨⟨m, R⟩, hs⟩ := h
  exact (refRLong_any d m s w hs R).mono fun e w' ⟨h1, h2, h3⟩ => ⟨h1, ⟨⟨m, h2⟩, by omega⟩, h3⟩
theorem rd2_text (d : Nat) (s : Rd) (w : World) (h : QRef w d s) :
    Calls Try.prog 53 #[.pointer (some ⟨d, 0, none⟩)] w fun e w' => e = .returned (.string (str s.textOf)) ∧ QRef w' d s.pastText ∧ Leaves d none w w' := by
  have hl := s.length_left 1
  have hl2 := (s.left 1).length_left s.byteOf
  obtain ⟨⟨m, R⟩, hs⟩ := h
  exact (refRText_any d m s w hs R).mono fun e w' ⟨h1, h2, h3⟩ => ⟨h1, ⟨⟨m, h2⟩, by unfold Rd.pastText; omega⟩, h3⟩
theorem rd2_end (d : Nat) (s : Rd) (w : World) (h : QRef w d s) :
    Calls Try.prog 54 #[.pointer (some ⟨d, 0, none⟩)] w fun e w' => e = .returned (.int .i64 s.endOf) ∧ Below w.heap.size w w' := by
  obtain ⟨⟨m, R⟩, hs⟩ := h
  exact (refREnd_any d m s w R).mono fun e w' h => h
theorem end_cases (s : Rd) : s.endOf = 0 ∨ s.endOf ≠ 0 := by omega
/-- What Decode answers. -/
def DecAt (w : World) (b : List UInt8) (e : Ending) (w' : World) : Prop := e = .returned (.tuple #[(decC b).1.val, .int .i64 ((decC b).2 : Nat)]) ∧ Below w.heap.size w w'
/-- A command written over another. -/
def fillC (w : World) (g : Nat) (c : Cmd) : World :=
  ((((((((w.setCell ⟨g, 0, none⟩ (.int .i64 c.kind)).setCell ⟨g, 1, none⟩ (.int .i64 c.id)).setCell ⟨g, 2, none⟩ (.int .i64 c.inst)).setCell ⟨g, 3, none⟩ (.int .i64 c.side)).setCell ⟨g, 4, none⟩ (.int .i64 c.price)).setCell ⟨g, 5, none⟩ (.int .i64 c.qty)).setCell ⟨g, 6, none⟩ (.int .i64 c.least)).setCell ⟨g, 7, none⟩ (.int .i64 c.time)).setCell ⟨g, 8, none⟩ (.string (str c.lab))
theorem fill_at {w : World} {g : Nat} {c : Cmd} (h : CAt w g c) (c' : Cmd) : CAt (fillC w g c') g c' ∧ Leaves g none w (fillC w g c') := by
  refine ⟨?_, ((((((((((Leaves.refl g none w).setCell 0 _).setCell 1 _).setCell 2 _).setCell 3 _).setCell 4 _).setCell 5 _).setCell 6 _).setCell 7 _).setCell 8 _)⟩
  unfold CAt at h ⊢
  unfold fillC
  rw [heap_setCell_same _ _ _ _ _ _ (heap_setCell_same _ _ _ _ _ _ (heap_setCell_same _ _ _ _ _ _ (heap_setCell_same _ _ _ _ _ _ (heap_setCell_same _ _ _ _ _ _ (heap_setCell_same _ _ _ _ _ _ (heap_setCell_same _ _ _ _ _ _ (heap_setCell_same _ _ _ _ _ _ (heap_setCell_same _ _ _ _ _ _ h))))))))]
  simp [Cmd.cells]
theorem CAt.reads' {w : World} {g : Nat} {c : Cmd} (h : CAt w g c) :
    w.cell? ⟨g, 0, none⟩ = some (.int .i64 c.kind) ∧ w.cell? ⟨g, 1, none⟩ = some (.int .i64 c.id) ∧ w.cell? ⟨g, 2, none⟩ = some (.int .i64 c.inst) ∧ w.cell? ⟨g, 3, none⟩ = some (.int .i64 c.side) ∧ w.cell? ⟨g, 4, none⟩ = some (.int .i64 c.price) ∧
    w.cell? ⟨g, 5, none⟩ = some (.int .i64 c.qty) ∧ w.cell? ⟨g, 6, none⟩ = some (.int .i64 c.least) ∧ w.cell? ⟨g, 7, none⟩ = some (.int .i64 c.time) ∧ w.cell? ⟨g, 8, none⟩ = some (.string (str c.lab)) :=
  ⟨h.cell 0, h.cell 1, h.cell 2, h.cell 3, h.cell 4, h.cell 5, h.cell 6, h.cell 7, h.cell 8⟩
theorem took_small (s : Rd) : s.textOf.length ≤ 9223372036854775807 := by
  have h1 := s.byteOf_lt
  have h2 := (s.left 1).length_took s.byteOf
  unfold Rd.textOf
  omega
theorem post_at {P : Program} {fn : Func} {R : Ending → World → Prop} {x : Exit} {a : Act} {w w' : World} (h : w' = w) (k : bodyPost P fn R x a w') : bodyPost P fn R x a w := h ▸ k
set_option maxRecDepth 100000 in
set_option maxHeartbeats 3200000 in
theorem decode_any (A : Option Addr) (n c : Nat) (b : List UInt8) (w : World) (hn : b.length = n) (hl : n ≤ 140737488355328) (hc : n ≤ c) (hcm : c ≤ 9223372036854775807) (hA : Cells w A (u8s b)) :
    Calls Try.prog 27 #[.slice A n c] w (DecAt w b) := by
  obtain ⟨Z, eZ⟩ : ∃ Z, Z = (decC b).1 := ⟨_, rfl⟩
  obtain ⟨Y, eY⟩ : ∃ Y, Y = (decC b).2 := ⟨_, rfl⟩
  have hZ : decC b = (Z, Y) := by rw [eZ, eY]
  have HP : DecAt w b = fun e w' => e = .returned (.tuple #[Z.val, .int .i64 (Y : Nat)]) ∧ Below w.heap.size w w' := by rw [eZ, eY]; rfl
  rw [HP]
  unfold decC at hZ
  obtain ⟨s0, es0⟩ : ∃ s0, s0 = rd0 b := ⟨_, rfl⟩
  rw [← es0] at hZ
  have HS := hide es0
  have HZ := hide hZ
  have HN := hide hn
  clear es0
  clear HP eZ eY hZ hn
  go_enter Try.func27, Try.ntmps27
  obtain ⟨wa, ewa⟩ : ∃ wa, wa = w.alloc (.cells Cmd.zero.cells 23) := ⟨_, rfl⟩
  obtain ⟨g2, eg2⟩ : ∃ g2, g2 = w.heap.size := ⟨_, rfl⟩
  have hC2 : CAt wa g2 Cmd.zero := by rw [ewa, eg2]; exact CAt.new _ _
  have Ba : Below w.heap.size w wa := by rw [ewa]; exact nxt_alloc (Below.refl _ _) _
  change wa = w.alloc (.cells #[.int .i64 0, .int .i64 0, .int .i64 0, .int .i64 0, .int .i64 0, .int .i64 0, .int .i64 0, .int .i64 0, .string { data := #[] }] 23) at ewa
  go_upto_region 1 with (fail)
  rw [← ewa, ← eg2]
  have hA1 := hA.below Ba
  have EG := hide eg2
  clear ewa eg2 hA
  go_wp2_with fail
  refine (newReader_big A n c b _ HN.out (by omega) hA1).mono ?_
  rintro e w1 ⟨d, rfl, hd, R1, B1⟩
  have hC1 := hC2.below B1
  have hlt := hC2.lt
  have BB := nxt Ba B1
  clear hA1 Ba B1 hC2
  go_wp2_with fail
  replace R1 : ReaderAt w1 d s0 := by rw [HS.out]; exact R1
  refine (rd1_byte d s0 _ R1).mono ?_
  rintro e w2 ⟨rfl, R2, L2⟩
  have hC2 := hC1.block (L2.block g2 hC1.lt (by omega) (by simp))
  have B2 := Leaves.below0 BB L2 (by have := EG.out; omega)

  obtain ⟨kb, ekb⟩ : ∃ kb, kb = s0.byteOf := ⟨_, rfl⟩
  obtain ⟨s1, es1⟩ : ∃ s1, s1 = s0.left 1 := ⟨_, rfl⟩
  rw [← es1] at R2
  replace HZ := HZ.out
  rw [← ekb, ← es1] at HZ
  rw [← ekb]
  have hkb : kb < 256 := by rw [ekb]; exact s0.byteOf_lt
  obtain ⟨id, eid⟩ : ∃ id, id = s1.longOf := ⟨_, rfl⟩
  obtain ⟨s2, es2⟩ : ∃ s2, s2 = s1.left 8 := ⟨_, rfl⟩
  rw [← eid, ← es2] at HZ
  have EID := hide eid
  have ES2 := hide es2
  replace HZ := hide HZ
  clear ekb es1 eid es2 R1 HS BB L2 hC1
  obtain ⟨w3, ew3⟩ : ∃ w3, w3 = w2.alloc (.cells (Cmd.cells { Cmd.zero with kind := kb }) 23) := ⟨_, rfl⟩
  obtain ⟨g5, eg5⟩ : ∃ g5, g5 = w2.heap.size := ⟨_, rfl⟩
  have B3 : Below w2.heap.size w2 w3 := by rw [ew3]; exact nxt_alloc (Below.refl _ _) _
  have D3 : Dk ReaderAt w w3 g2 d g5 ⟨kb, 0, 0, 0, 0, 0, 0, 0, []⟩ s1 := by
    refine ⟨R2.below B3, hC2.below B3, by rw [ew3, eg5]; exact CAt.new _ _, ⟨by have := EG.out; omega, by omega, ?_⟩, nxt B2 B3⟩
    rw [eg5]
    exact R2.lt
  change w3 = w2.alloc (.cells #[.int .i64 kb, .int .i64 0, .int .i64 0, .int .i64 0, .int .i64 0, .int .i64 0, .int .i64 0, .int .i64 0, .string { data := #[] }] 23) at ew3
  go_upto_region 3 with (fail)
  rw [← ew3, ← eg5]
  have D3 := hide D3
  clear ew3 eg5 B3 R2 hC2 B2
  have x0 : w3.cell? ⟨g5, 0, none⟩ = some (.int .i64 kb) := D3.out.cmd.cell 0
  by_cases hk : kb < 1 ∨ 4 < kb
  · obtain ⟨rfl, rfl⟩ : Z = Cmd.zero ∧ Y = 31 := by
      have := HZ.out
      rw [if_pos hk] at this
      injection this with h1 h2
      exact ⟨h1.symm, h2.symm⟩
    obtain ⟨z0, z1, z2, z3, z4, z5, z6, z7, z8⟩ := D3.out.zero.reads'
    have y0 := D3.out.zero.frozen 0; have y1 := D3.out.zero.frozen 1; have y2 := D3.out.zero.frozen 2; have y3 := D3.out.zero.frozen 3; have y4 := D3.out.zero.frozen 4; have y5 := D3.out.zero.frozen 5; have y6 := D3.out.zero.frozen 6; have y7 := D3.out.zero.frozen 7; have y8 := D3.out.zero.frozen 8
    clear HZ
    rcases hk with h1 | h1
    · have i1 : (kb : Int) < 1 := by omega
      go_wp2_with fail
      have hf := fill_at D3.out.zero Cmd.zero
      obtain ⟨wz, ewz⟩ : ∃ wz, wz = fillC w3 g2 Cmd.zero := ⟨_, rfl⟩
      rw [← ewz] at hf
      (try simp only [Exit.inBlock, Exit.then])
      refine post_at ewz ?_
      obtain ⟨r0, r1, r2, r3, r4, r5, r6, r7, r8⟩ := hf.1.reads'
      refine bodyPost_ret (v := .tuple #[Cmd.val Cmd.zero, .int .i64 (31 : Nat)]) (by simp [results, Try.results27, go_sem, r0, r1, r2, r3, r4, r5, r6, r7, r8]; try rfl) rfl ?_
      exact ⟨rfl, Leaves.below0 D3.out.bel hf.2 (by have := EG.out; omega)⟩
    · have i1 : ¬ (kb : Int) < 1 := by omega
      have i2 : (4 : Int) < kb := by omega
      go_wp2_with fail
      have hf := fill_at D3.out.zero Cmd.zero
      obtain ⟨wz, ewz⟩ : ∃ wz, wz = fillC w3 g2 Cmd.zero := ⟨_, rfl⟩
      rw [← ewz] at hf
      (try simp only [Exit.inBlock, Exit.then])
      refine post_at ewz ?_
      obtain ⟨r0, r1, r2, r3, r4, r5, r6, r7, r8⟩ := hf.1.reads'
      refine bodyPost_ret (v := .tuple #[Cmd.val Cmd.zero, .int .i64 (31 : Nat)]) (by simp [results, Try.results27, go_sem, r0, r1, r2, r3, r4, r5, r6, r7, r8]; try rfl) rfl ?_
      exact ⟨rfl, Leaves.below0 D3.out.bel hf.2 (by have := EG.out; omega)⟩
  replace HZ := hide (HZ.out)
  have HZ' := hide ((if_neg hk).symm.trans HZ.out)
  clear HZ
  have i1 : ¬ (kb : Int) < 1 := by omega
  have i2 : ¬ (4 : Int) < kb := by omega
  go_upto_region 5 with (fail)
  clear x0 i1 i2
  go_wp2_with fail
  refine (rd1_long d s1 _ D3.out.r).mono ?_
  rintro e w4 ⟨rfl, r, L⟩
  rw [← ES2.out] at r
  rw [← EID.out]
  have D4 := hide (D3.out.read r L)
  clear r L D3
  have y1 := D4.out.cmd.frozen 1
  have x1 := D4.out.cmd.reads'.2.1
  go_upto_region 6 with (fail)
  have D5 := (D4.out.store rd1_other 1 (.int .i64 id) ⟨(kb : Int), id, 0, 0, 0, 0, 0, 0, []⟩ rfl)
  obtain ⟨w5, ew⟩ : ∃ w', w' = (w4.setCell ⟨g5, 1, none⟩ (.int .i64 id)) := ⟨_, rfl⟩
  rw [← ew] at D5 ⊢
  have D5 := hide D5
  clear ew D4 y1 x1
  have x0 := D5.out.cmd.reads'.1
  simp only at x0
  by_cases h1 : (kb : Int) = 1
  · have d1 : ((kb : Int) == 1) = true := by simpa using h1
    have HK := hide h1
    clear h1
    go_wp2_with fail
    refine (rd1_byte d s2 _ D5.out.r).mono ?_
    rintro e w6 ⟨rfl, r, L⟩
    obtain ⟨v2, ev⟩ : ∃ v, v = s2.byteOf := ⟨_, rfl⟩
    obtain ⟨s3, es⟩ : ∃ s, s = s2.left 1 := ⟨_, rfl⟩
    rw [← es] at r
    rw [← ev]
    have EV2 := hide ev
    have ES3 := hide es
    clear ev es
    have D6 := hide (D5.out.read r L)
    clear r L D5
    go_wp2_with fail
    refine (rd1_byte d s3 _ D6.out.r).mono ?_
    rintro e w7 ⟨rfl, r, L⟩
    obtain ⟨v3, ev⟩ : ∃ v, v = s3.byteOf := ⟨_, rfl⟩
    obtain ⟨s4, es⟩ : ∃ s, s = s3.left 1 := ⟨_, rfl⟩
    rw [← es] at r
    rw [← ev]
    have EV3 := hide ev
    have ES4 := hide es
    clear ev es
    have D7 := hide (D6.out.read r L)
    clear r L D6
    go_wp2_with fail
    refine (rd1_byte d s4 _ D7.out.r).mono ?_
    rintro e w8 ⟨rfl, r, L⟩
    obtain ⟨v4, ev⟩ : ∃ v, v = s4.byteOf := ⟨_, rfl⟩
    obtain ⟨s5, es⟩ : ∃ s, s = s4.left 1 := ⟨_, rfl⟩
    rw [← es] at r
    rw [← ev]
    have EV4 := hide ev
    have ES5 := hide es
    clear ev es
    have D8 := hide (D7.out.read r L)
    clear r L D7
    have y2 := D8.out.cmd.frozen 2
    have x2 := D8.out.cmd.reads'.2.2.1
    have y3 := D8.out.cmd.frozen 3
    have x3 := D8.out.cmd.reads'.2.2.2.1
    have y7 := D8.out.cmd.frozen 7
    have x7 := D8.out.cmd.reads'.2.2.2.2.2.2.2.1
    go_upto_region 9 with (fail)
    have D9 := (((D8.out.store rd1_other 2 (.int .i64 ((v2 : Nat) : Int)) ⟨(kb : Int), id, ((v2 : Nat) : Int), 0, 0, 0, 0, 0, []⟩ rfl).store rd1_other 3 (.int .i64 ((v3 : Nat) : Int)) ⟨(kb : Int), id, ((v2 : Nat) : Int), ((v3 : Nat) : Int), 0, 0, 0, 0, []⟩ rfl).store rd1_other 7 (.int .i64 ((v4 : Nat) : Int)) ⟨(kb : Int), id, ((v2 : Nat) : Int), ((v3 : Nat) : Int), 0, 0, 0, ((v4 : Nat) : Int), []⟩ rfl)
    obtain ⟨w9, ew⟩ : ∃ w', w' = (((w8.setCell ⟨g5, 2, none⟩ (.int .i64 ((v2 : Nat) : Int))).setCell ⟨g5, 3, none⟩ (.int .i64 ((v3 : Nat) : Int))).setCell ⟨g5, 7, none⟩ (.int .i64 ((v4 : Nat) : Int))) := ⟨_, rfl⟩
    rw [← ew] at D9 ⊢
    have D9 := hide D9
    clear ew D8 y2 x2 y3 x3 y7 x7
    go_wp2_with fail
    refine (rd1_long d s5 _ D9.out.r).mono ?_
    rintro e w10 ⟨rfl, r, L⟩
    obtain ⟨v5, ev⟩ : ∃ v, v = s5.longOf := ⟨_, rfl⟩
    obtain ⟨s6, es⟩ : ∃ s, s = s5.left 8 := ⟨_, rfl⟩
    rw [← es] at r
    rw [← ev]
    have EV5 := hide ev
    have ES6 := hide es
    clear ev es
    have D10 := hide (D9.out.read r L)
    clear r L D9
    go_wp2_with fail
    refine (rd1_long d s6 _ D10.out.r).mono ?_
    rintro e w11 ⟨rfl, r, L⟩
    obtain ⟨v6, ev⟩ : ∃ v, v = s6.longOf := ⟨_, rfl⟩
    obtain ⟨s7, es⟩ : ∃ s, s = s6.left 8 := ⟨_, rfl⟩
    rw [← es] at r
    rw [← ev]
    have EV6 := hide ev
    have ES7 := hide es
    clear ev es
    have D11 := hide (D10.out.read r L)
    clear r L D10
    go_wp2_with fail
    refine (rd1_long d s7 _ D11.out.r).mono ?_
    rintro e w12 ⟨rfl, r, L⟩
    obtain ⟨v7, ev⟩ : ∃ v, v = s7.longOf := ⟨_, rfl⟩
    obtain ⟨s8, es⟩ : ∃ s, s = s7.left 8 := ⟨_, rfl⟩
    rw [← es] at r
    rw [← ev]
    have EV7 := hide ev
    have ES8 := hide es
    clear ev es
    have D12 := hide (D11.out.read r L)
    clear r L D11
    have y4 := D12.out.cmd.frozen 4
    have x4 := D12.out.cmd.reads'.2.2.2.2.1
    have y5 := D12.out.cmd.frozen 5
    have x5 := D12.out.cmd.reads'.2.2.2.2.2.1
    have y6 := D12.out.cmd.frozen 6
    have x6 := D12.out.cmd.reads'.2.2.2.2.2.2.1
    go_upto_region 10 with (fail)
    have D13 := (((D12.out.store rd1_other 4 (.int .i64 v5) ⟨(kb : Int), id, ((v2 : Nat) : Int), ((v3 : Nat) : Int), v5, 0, 0, ((v4 : Nat) : Int), []⟩ rfl).store rd1_other 5 (.int .i64 v6) ⟨(kb : Int), id, ((v2 : Nat) : Int), ((v3 : Nat) : Int), v5, v6, 0, ((v4 : Nat) : Int), []⟩ rfl).store rd1_other 6 (.int .i64 v7) ⟨(kb : Int), id, ((v2 : Nat) : Int), ((v3 : Nat) : Int), v5, v6, v7, ((v4 : Nat) : Int), []⟩ rfl)
    obtain ⟨w13, ew⟩ : ∃ w', w' = (((w12.setCell ⟨g5, 4, none⟩ (.int .i64 v5)).setCell ⟨g5, 5, none⟩ (.int .i64 v6)).setCell ⟨g5, 6, none⟩ (.int .i64 v7)) := ⟨_, rfl⟩
    rw [← ew] at D13 ⊢
    have D13 := hide D13
    clear ew D12 y4 x4 y5 x5 y6 x6
    go_wp2_with fail
    refine (rd1_text d s8 _ D13.out.r).mono ?_
    rintro e w14 ⟨rfl, r, L⟩
    obtain ⟨v8, ev⟩ : ∃ v, v = s8.textOf := ⟨_, rfl⟩
    obtain ⟨s9, es⟩ : ∃ s, s = s8.pastText := ⟨_, rfl⟩
    rw [← es] at r
    rw [← ev]
    have hlab : v8.length ≤ 9223372036854775807 := by rw [ev]; exact took_small _
    have EV8 := hide ev
    have ES9 := hide es
    clear ev es
    have D14 := hide (D13.out.read r L)
    clear r L D13
    have y8 := D14.out.cmd.frozen 8
    have x8 := D14.out.cmd.reads'.2.2.2.2.2.2.2.2
    go_upto_region 15 with (fail)
    have D15 := (D14.out.store rd1_other 8 (.string (str v8)) ⟨(kb : Int), id, ((v2 : Nat) : Int), ((v3 : Nat) : Int), v5, v6, v7, ((v4 : Nat) : Int), v8⟩ rfl)
    obtain ⟨w15, ew⟩ : ∃ w', w' = (w14.setCell ⟨g5, 8, none⟩ (.string (str v8))) := ⟨_, rfl⟩
    rw [← ew] at D15 ⊢
    have D15 := hide D15
    clear ew D14 y8 x8
    have hF : fieldsC kb id s2 = (⟨(kb : Int), id, ((v2 : Nat) : Int), ((v3 : Nat) : Int), v5, v6, v7, ((v4 : Nat) : Int), v8⟩, s9) := by
      simp only [fieldsC, if_pos HK.out, EV2.out, ES3.out, EV3.out, ES4.out, EV4.out, ES5.out, EV5.out, ES6.out, EV6.out, ES7.out, EV7.out, ES8.out, EV8.out, ES9.out]
    replace HZ' := HZ'.out
    rw [hF] at HZ'
    simp only at HZ'
    clear hF
    obtain ⟨z, ez⟩ : ∃ z : Cmd, z = ⟨(kb : Int), id, ((v2 : Nat) : Int), ((v3 : Nat) : Int), v5, v6, v7, ((v4 : Nat) : Int), v8⟩ := ⟨_, rfl⟩
    have hzl : z.lab.length ≤ 9223372036854775807 := by rw [ez]; exact hlab
    have HR := hide (fun w => right_any z hzl w)
    rw [← ez] at HZ'
    obtain ⟨Rz, eR⟩ : ∃ Rz, Rz = rightC z := ⟨_, rfl⟩
    obtain ⟨E, eE⟩ : ∃ E, E = s9.endOf := ⟨_, rfl⟩
    rw [← eE, ← eR] at HZ'
    replace HZ' := hide HZ'
    replace HR := HR.out
    rw [← eR] at HR
    have HR := hide HR
    have EZ := hide ez
    go_wp2_with fail
    refine (rd1_end d s9 _ D15.out.r).mono ?_
    rw [← eE]
    clear eE eR
    rintro e wE ⟨rfl, bE⟩
    have DE := D15.out.below (ReaderAt.below D15.out.r bE) bE
    clear bE D15
    obtain ⟨q0, q1, q2, q3, q4, q5, q6, q7, q8⟩ := DE.cmd.reads'
    have CC := DE.cmd
    rw [← ez] at CC
    clear ez
    simp only at q0 q1 q2 q3 q4 q5 q6 q7 q8
    have DE := hide DE
    have CC := hide CC
    by_cases hE : E = 0
    rotate_left
    · have i1 : (E != 0) = true := by simpa using hE
      obtain ⟨rfl, rfl⟩ : Z = Cmd.zero ∧ Y = 12 := by
        have := HZ'.out
        rw [if_pos hE] at this
        injection this with h1 h2
        exact ⟨h1.symm, h2.symm⟩
      obtain ⟨z0, z1, z2, z3, z4, z5, z6, z7, z8⟩ := DE.out.zero.reads'
      have y0 := DE.out.zero.frozen 0; have y1 := DE.out.zero.frozen 1; have y2 := DE.out.zero.frozen 2; have y3 := DE.out.zero.frozen 3; have y4 := DE.out.zero.frozen 4; have y5 := DE.out.zero.frozen 5; have y6 := DE.out.zero.frozen 6; have y7 := DE.out.zero.frozen 7; have y8 := DE.out.zero.frozen 8
      clear hE HZ' HR
      go_wp2_with fail
      have hf := fill_at DE.out.zero Cmd.zero
      obtain ⟨wz, ewz⟩ : ∃ wz, wz = fillC wE g2 Cmd.zero := ⟨_, rfl⟩
      rw [← ewz] at hf
      (try simp only [Exit.inBlock, Exit.then])
      refine post_at ewz ?_
      obtain ⟨r0, r1, r2, r3, r4, r5, r6, r7, r8⟩ := hf.1.reads'
      refine bodyPost_ret (v := .tuple #[Cmd.val Cmd.zero, .int .i64 (12 : Nat)]) (by simp [results, Try.results27, go_sem, r0, r1, r2, r3, r4, r5, r6, r7, r8]; try rfl) rfl ?_
      exact ⟨rfl, Leaves.below0 DE.out.bel hf.2 (by have := EG.out; omega)⟩
    · subst hE
      replace HZ' := hide ((if_neg (by simp)).symm.trans HZ'.out)
      go_wp2_with fail
      have HR2 := HR.out wE
      rw [EZ.out] at HR2
      refine HR2.mono ?_
      clear HR2 q0 q1 q2 q3 q4 q5 q6 q7 q8 HR
      rintro e wR ⟨rfl, bR⟩
      have CR := CC.out.below bR
      have ZR := DE.out.zero.below bR
      have BR := nxt DE.out.bel bR
      have hg2 := DE.out.lt.1
      clear bR CC DE
      by_cases hR : Rz = 0
      rotate_left
      · have i1 : ((Rz : Int) != 0) = true := by simp; omega
        obtain ⟨rfl, rfl⟩ : Z = Cmd.zero ∧ Y = Rz := by
          have := HZ'.out
          rw [if_pos hR] at this
          injection this with h1 h2
          exact ⟨h1.symm, h2.symm⟩
        obtain ⟨z0, z1, z2, z3, z4, z5, z6, z7, z8⟩ := ZR.reads'
        have y0 := ZR.frozen 0; have y1 := ZR.frozen 1; have y2 := ZR.frozen 2; have y3 := ZR.frozen 3; have y4 := ZR.frozen 4; have y5 := ZR.frozen 5; have y6 := ZR.frozen 6; have y7 := ZR.frozen 7; have y8 := ZR.frozen 8
        have ZR := hide ZR
        clear HZ' hR CR EZ
        go_wp2_with fail
        have hf := fill_at ZR.out Cmd.zero
        obtain ⟨wz, ewz⟩ : ∃ wz, wz = fillC wR g2 Cmd.zero := ⟨_, rfl⟩
        rw [← ewz] at hf
        (try simp only [Exit.inBlock, Exit.then])
        refine post_at ewz ?_
        obtain ⟨r0, r1, r2, r3, r4, r5, r6, r7, r8⟩ := hf.1.reads'
        refine bodyPost_ret (v := .tuple #[Cmd.val Cmd.zero, .int .i64 (Y : Nat)]) (by simp [results, Try.results27, go_sem, r0, r1, r2, r3, r4, r5, r6, r7, r8]; try rfl) rfl ?_
        exact ⟨rfl, Leaves.below0 BR hf.2 (by have := EG.out; omega)⟩
      · subst hR
        obtain ⟨rfl, rfl⟩ : Z = z ∧ Y = 0 := by
          have := HZ'.out
          rw [if_neg (by simp)] at this
          injection this with h1 h2
          exact ⟨h1.symm, h2.symm⟩
        obtain ⟨q0, q1, q2, q3, q4, q5, q6, q7, q8⟩ := CR.reads'
        obtain ⟨z0, z1, z2, z3, z4, z5, z6, z7, z8⟩ := ZR.reads'
        have y0 := ZR.frozen 0; have y1 := ZR.frozen 1; have y2 := ZR.frozen 2; have y3 := ZR.frozen 3; have y4 := ZR.frozen 4; have y5 := ZR.frozen 5; have y6 := ZR.frozen 6; have y7 := ZR.frozen 7; have y8 := ZR.frozen 8
        have ZR := hide ZR
        clear HZ' CR EZ
        go_wp2_with fail
        have hf := fill_at ZR.out Z
        obtain ⟨wz, ewz⟩ : ∃ wz, wz = fillC wR g2 Z := ⟨_, rfl⟩
        rw [← ewz] at hf
        (try simp only [Exit.inBlock, Exit.then])
        refine post_at ewz ?_
        obtain ⟨r0, r1, r2, r3, r4, r5, r6, r7, r8⟩ := hf.1.reads'
        refine bodyPost_ret (v := .tuple #[Cmd.val Z, .int .i64 (0 : Nat)]) (by simp [results, Try.results27, go_sem, r0, r1, r2, r3, r4, r5, r6, r7, r8]; try rfl) rfl ?_
        exact ⟨rfl, Leaves.below0 BR hf.2 (by have := EG.out; omega)⟩
  have d1 : ((kb : Int) == 1) = false := by simpa using h1
  by_cases h3 : (kb : Int) = 3
  · have d3 : ((kb : Int) == 3) = true := by simpa using h3
    have HK := hide h3
    clear h3
    go_wp2_with fail
    refine (rd1_long d s2 _ D5.out.r).mono ?_
    rintro e w6 ⟨rfl, r, L⟩
    obtain ⟨v2, ev⟩ : ∃ v, v = s2.longOf := ⟨_, rfl⟩
    obtain ⟨s3, es⟩ : ∃ s, s = s2.left 8 := ⟨_, rfl⟩
    rw [← es] at r
    rw [← ev]
    have EV2 := hide ev
    have ES3 := hide es
    clear ev es
    have D6 := hide (D5.out.read r L)
    clear r L D5
    have y5 := D6.out.cmd.frozen 5
    have x5 := D6.out.cmd.reads'.2.2.2.2.2.1
    go_upto_region 15 with (fail)
    have D7 := (D6.out.store rd1_other 5 (.int .i64 v2) ⟨(kb : Int), id, 0, 0, 0, v2, 0, 0, []⟩ rfl)
    obtain ⟨w7, ew⟩ : ∃ w', w' = (w6.setCell ⟨g5, 5, none⟩ (.int .i64 v2)) := ⟨_, rfl⟩
    rw [← ew] at D7 ⊢
    have D7 := hide D7
    clear ew D6 y5 x5
    have hF : fieldsC kb id s2 = (⟨(kb : Int), id, 0, 0, 0, v2, 0, 0, []⟩, s3) := by
      simp [fieldsC, HK.out, EV2.out, ES3.out, Cmd.zero]
    replace HZ' := HZ'.out
    rw [hF] at HZ'
    simp only at HZ'
    clear hF
    obtain ⟨z, ez⟩ : ∃ z : Cmd, z = ⟨(kb : Int), id, 0, 0, 0, v2, 0, 0, []⟩ := ⟨_, rfl⟩
    have hzl : z.lab.length ≤ 9223372036854775807 := by rw [ez]; simp
    have HR := hide (fun w => right_any z hzl w)
    rw [← ez] at HZ'
    obtain ⟨Rz, eR⟩ : ∃ Rz, Rz = rightC z := ⟨_, rfl⟩
    obtain ⟨E, eE⟩ : ∃ E, E = s3.endOf := ⟨_, rfl⟩
    rw [← eE, ← eR] at HZ'
    replace HZ' := hide HZ'
    replace HR := HR.out
    rw [← eR] at HR
    have HR := hide HR
    have EZ := hide ez
    go_wp2_with fail
    refine (rd1_end d s3 _ D7.out.r).mono ?_
    rw [← eE]
    clear eE eR
    rintro e wE ⟨rfl, bE⟩
    have DE := D7.out.below (ReaderAt.below D7.out.r bE) bE
    clear bE D7
    obtain ⟨q0, q1, q2, q3, q4, q5, q6, q7, q8⟩ := DE.cmd.reads'
    have CC := DE.cmd
    rw [← ez] at CC
    clear ez
    simp only at q0 q1 q2 q3 q4 q5 q6 q7 q8
    have DE := hide DE
    have CC := hide CC
    by_cases hE : E = 0
    rotate_left
    · have i1 : (E != 0) = true := by simpa using hE
      obtain ⟨rfl, rfl⟩ : Z = Cmd.zero ∧ Y = 12 := by
        have := HZ'.out
        rw [if_pos hE] at this
        injection this with h1 h2
        exact ⟨h1.symm, h2.symm⟩
      obtain ⟨z0, z1, z2, z3, z4, z5, z6, z7, z8⟩ := DE.out.zero.reads'
      have y0 := DE.out.zero.frozen 0; have y1 := DE.out.zero.frozen 1; have y2 := DE.out.zero.frozen 2; have y3 := DE.out.zero.frozen 3; have y4 := DE.out.zero.frozen 4; have y5 := DE.out.zero.frozen 5; have y6 := DE.out.zero.frozen 6; have y7 := DE.out.zero.frozen 7; have y8 := DE.out.zero.frozen 8
      clear hE HZ' HR
      go_wp2_with fail
      have hf := fill_at DE.out.zero Cmd.zero
      obtain ⟨wz, ewz⟩ : ∃ wz, wz = fillC wE g2 Cmd.zero := ⟨_, rfl⟩
      rw [← ewz] at hf
      (try simp only [Exit.inBlock, Exit.then])
      refine post_at ewz ?_
      obtain ⟨r0, r1, r2, r3, r4, r5, r6, r7, r8⟩ := hf.1.reads'
      refine bodyPost_ret (v := .tuple #[Cmd.val Cmd.zero, .int .i64 (12 : Nat)]) (by simp [results, Try.results27, go_sem, r0, r1, r2, r3, r4, r5, r6, r7, r8]; try rfl) rfl ?_
      exact ⟨rfl, Leaves.below0 DE.out.bel hf.2 (by have := EG.out; omega)⟩
    · subst hE
      replace HZ' := hide ((if_neg (by simp)).symm.trans HZ'.out)
      go_wp2_with fail
      have HR2 := HR.out wE
      rw [EZ.out] at HR2
      refine HR2.mono ?_
      clear HR2 q0 q1 q2 q3 q4 q5 q6 q7 q8 HR
      rintro e wR ⟨rfl, bR⟩
      have CR := CC.out.below bR
      have ZR := DE.out.zero.below bR
      have BR := nxt DE.out.bel bR
      have hg2 := DE.out.lt.1
      clear bR CC DE
      by_cases hR : Rz = 0
      rotate_left
      · have i1 : ((Rz : Int) != 0) = true := by simp; omega
        obtain ⟨rfl, rfl⟩ : Z = Cmd.zero ∧ Y = Rz := by
          have := HZ'.out
          rw [if_pos hR] at this
          injection this with h1 h2
          exact ⟨h1.symm, h2.symm⟩
        obtain ⟨z0, z1, z2, z3, z4, z5, z6, z7, z8⟩ := ZR.reads'
        have y0 := ZR.frozen 0; have y1 := ZR.frozen 1; have y2 := ZR.frozen 2; have y3 := ZR.frozen 3; have y4 := ZR.frozen 4; have y5 := ZR.frozen 5; have y6 := ZR.frozen 6; have y7 := ZR.frozen 7; have y8 := ZR.frozen 8
        have ZR := hide ZR
        clear HZ' hR CR EZ
        go_wp2_with fail
        have hf := fill_at ZR.out Cmd.zero
        obtain ⟨wz, ewz⟩ : ∃ wz, wz = fillC wR g2 Cmd.zero := ⟨_, rfl⟩
        rw [← ewz] at hf
        (try simp only [Exit.inBlock, Exit.then])
        refine post_at ewz ?_
        obtain ⟨r0, r1, r2, r3, r4, r5, r6, r7, r8⟩ := hf.1.reads'
        refine bodyPost_ret (v := .tuple #[Cmd.val Cmd.zero, .int .i64 (Y : Nat)]) (by simp [results, Try.results27, go_sem, r0, r1, r2, r3, r4, r5, r6, r7, r8]; try rfl) rfl ?_
        exact ⟨rfl, Leaves.below0 BR hf.2 (by have := EG.out; omega)⟩
      · subst hR
        obtain ⟨rfl, rfl⟩ : Z = z ∧ Y = 0 := by
          have := HZ'.out
          rw [if_neg (by simp)] at this
          injection this with h1 h2
          exact ⟨h1.symm, h2.symm⟩
        obtain ⟨q0, q1, q2, q3, q4, q5, q6, q7, q8⟩ := CR.reads'
        obtain ⟨z0, z1, z2, z3, z4, z5, z6, z7, z8⟩ := ZR.reads'
        have y0 := ZR.frozen 0; have y1 := ZR.frozen 1; have y2 := ZR.frozen 2; have y3 := ZR.frozen 3; have y4 := ZR.frozen 4; have y5 := ZR.frozen 5; have y6 := ZR.frozen 6; have y7 := ZR.frozen 7; have y8 := ZR.frozen 8
        have ZR := hide ZR
        clear HZ' CR EZ
        go_wp2_with fail
        have hf := fill_at ZR.out Z
        obtain ⟨wz, ewz⟩ : ∃ wz, wz = fillC wR g2 Z := ⟨_, rfl⟩
        rw [← ewz] at hf
        (try simp only [Exit.inBlock, Exit.then])
        refine post_at ewz ?_
        obtain ⟨r0, r1, r2, r3, r4, r5, r6, r7, r8⟩ := hf.1.reads'
        refine bodyPost_ret (v := .tuple #[Cmd.val Z, .int .i64 (0 : Nat)]) (by simp [results, Try.results27, go_sem, r0, r1, r2, r3, r4, r5, r6, r7, r8]; try rfl) rfl ?_
        exact ⟨rfl, Leaves.below0 BR hf.2 (by have := EG.out; omega)⟩
  have d3 : ((kb : Int) == 3) = false := by simpa using h3
  by_cases h4 : (kb : Int) = 4
  · have d4 : ((kb : Int) == 4) = true := by simpa using h4
    have HK := hide h4
    clear h4
    go_wp2_with fail
    refine (rd1_long d s2 _ D5.out.r).mono ?_
    rintro e w6 ⟨rfl, r, L⟩
    obtain ⟨v2, ev⟩ : ∃ v, v = s2.longOf := ⟨_, rfl⟩
    obtain ⟨s3, es⟩ : ∃ s, s = s2.left 8 := ⟨_, rfl⟩
    rw [← es] at r
    rw [← ev]
    have EV2 := hide ev
    have ES3 := hide es
    clear ev es
    have D6 := hide (D5.out.read r L)
    clear r L D5
    go_wp2_with fail
    refine (rd1_long d s3 _ D6.out.r).mono ?_
    rintro e w7 ⟨rfl, r, L⟩
    obtain ⟨v3, ev⟩ : ∃ v, v = s3.longOf := ⟨_, rfl⟩
    obtain ⟨s4, es⟩ : ∃ s, s = s3.left 8 := ⟨_, rfl⟩
    rw [← es] at r
    rw [← ev]
    have EV3 := hide ev
    have ES4 := hide es
    clear ev es
    have D7 := hide (D6.out.read r L)
    clear r L D6
    have y4 := D7.out.cmd.frozen 4
    have x4 := D7.out.cmd.reads'.2.2.2.2.1
    have y5 := D7.out.cmd.frozen 5
    have x5 := D7.out.cmd.reads'.2.2.2.2.2.1
    go_upto_region 15 with (fail)
    have D8 := ((D7.out.store rd1_other 4 (.int .i64 v2) ⟨(kb : Int), id, 0, 0, v2, 0, 0, 0, []⟩ rfl).store rd1_other 5 (.int .i64 v3) ⟨(kb : Int), id, 0, 0, v2, v3, 0, 0, []⟩ rfl)
    obtain ⟨w8, ew⟩ : ∃ w', w' = ((w7.setCell ⟨g5, 4, none⟩ (.int .i64 v2)).setCell ⟨g5, 5, none⟩ (.int .i64 v3)) := ⟨_, rfl⟩
    rw [← ew] at D8 ⊢
    have D8 := hide D8
    clear ew D7 y4 x4 y5 x5
    have hF : fieldsC kb id s2 = (⟨(kb : Int), id, 0, 0, v2, v3, 0, 0, []⟩, s4) := by
      simp [fieldsC, HK.out, EV2.out, ES3.out, EV3.out, ES4.out, Cmd.zero]
    replace HZ' := HZ'.out
    rw [hF] at HZ'
    simp only at HZ'
    clear hF
    obtain ⟨z, ez⟩ : ∃ z : Cmd, z = ⟨(kb : Int), id, 0, 0, v2, v3, 0, 0, []⟩ := ⟨_, rfl⟩
    have hzl : z.lab.length ≤ 9223372036854775807 := by rw [ez]; simp
    have HR := hide (fun w => right_any z hzl w)
    rw [← ez] at HZ'
    obtain ⟨Rz, eR⟩ : ∃ Rz, Rz = rightC z := ⟨_, rfl⟩
    obtain ⟨E, eE⟩ : ∃ E, E = s4.endOf := ⟨_, rfl⟩
    rw [← eE, ← eR] at HZ'
    replace HZ' := hide HZ'
    replace HR := HR.out
    rw [← eR] at HR
    have HR := hide HR
    have EZ := hide ez
    go_wp2_with fail
    refine (rd1_end d s4 _ D8.out.r).mono ?_
    rw [← eE]
    clear eE eR
    rintro e wE ⟨rfl, bE⟩
    have DE := D8.out.below (ReaderAt.below D8.out.r bE) bE
    clear bE D8
    obtain ⟨q0, q1, q2, q3, q4, q5, q6, q7, q8⟩ := DE.cmd.reads'
    have CC := DE.cmd
    rw [← ez] at CC
    clear ez
    simp only at q0 q1 q2 q3 q4 q5 q6 q7 q8
    have DE := hide DE
    have CC := hide CC
    by_cases hE : E = 0
    rotate_left
    · have i1 : (E != 0) = true := by simpa using hE
      obtain ⟨rfl, rfl⟩ : Z = Cmd.zero ∧ Y = 12 := by
        have := HZ'.out
        rw [if_pos hE] at this
        injection this with h1 h2
        exact ⟨h1.symm, h2.symm⟩
      obtain ⟨z0, z1, z2, z3, z4, z5, z6, z7, z8⟩ := DE.out.zero.reads'
      have y0 := DE.out.zero.frozen 0; have y1 := DE.out.zero.frozen 1; have y2 := DE.out.zero.frozen 2; have y3 := DE.out.zero.frozen 3; have y4 := DE.out.zero.frozen 4; have y5 := DE.out.zero.frozen 5; have y6 := DE.out.zero.frozen 6; have y7 := DE.out.zero.frozen 7; have y8 := DE.out.zero.frozen 8
      clear hE HZ' HR
      go_wp2_with fail
      have hf := fill_at DE.out.zero Cmd.zero
      obtain ⟨wz, ewz⟩ : ∃ wz, wz = fillC wE g2 Cmd.zero := ⟨_, rfl⟩
      rw [← ewz] at hf
      (try simp only [Exit.inBlock, Exit.then])
      refine post_at ewz ?_
      obtain ⟨r0, r1, r2, r3, r4, r5, r6, r7, r8⟩ := hf.1.reads'
      refine bodyPost_ret (v := .tuple #[Cmd.val Cmd.zero, .int .i64 (12 : Nat)]) (by simp [results, Try.results27, go_sem, r0, r1, r2, r3, r4, r5, r6, r7, r8]; try rfl) rfl ?_
      exact ⟨rfl, Leaves.below0 DE.out.bel hf.2 (by have := EG.out; omega)⟩
    · subst hE
      replace HZ' := hide ((if_neg (by simp)).symm.trans HZ'.out)
      go_wp2_with fail
      have HR2 := HR.out wE
      rw [EZ.out] at HR2
      refine HR2.mono ?_
      clear HR2 q0 q1 q2 q3 q4 q5 q6 q7 q8 HR
      rintro e wR ⟨rfl, bR⟩
      have CR := CC.out.below bR
      have ZR := DE.out.zero.below bR
      have BR := nxt DE.out.bel bR
      have hg2 := DE.out.lt.1
      clear bR CC DE
      by_cases hR : Rz = 0
      rotate_left
      · have i1 : ((Rz : Int) != 0) = true := by simp; omega
        obtain ⟨rfl, rfl⟩ : Z = Cmd.zero ∧ Y = Rz := by
          have := HZ'.out
          rw [if_pos hR] at this
          injection this with h1 h2
          exact ⟨h1.symm, h2.symm⟩
        obtain ⟨z0, z1, z2, z3, z4, z5, z6, z7, z8⟩ := ZR.reads'
        have y0 := ZR.frozen 0; have y1 := ZR.frozen 1; have y2 := ZR.frozen 2; have y3 := ZR.frozen 3; have y4 := ZR.frozen 4; have y5 := ZR.frozen 5; have y6 := ZR.frozen 6; have y7 := ZR.frozen 7; have y8 := ZR.frozen 8
        have ZR := hide ZR
        clear HZ' hR CR EZ
        go_wp2_with fail
        have hf := fill_at ZR.out Cmd.zero
        obtain ⟨wz, ewz⟩ : ∃ wz, wz = fillC wR g2 Cmd.zero := ⟨_, rfl⟩
        rw [← ewz] at hf
        (try simp only [Exit.inBlock, Exit.then])
        refine post_at ewz ?_
        obtain ⟨r0, r1, r2, r3, r4, r5, r6, r7, r8⟩ := hf.1.reads'
        refine bodyPost_ret (v := .tuple #[Cmd.val Cmd.zero, .int .i64 (Y : Nat)]) (by simp [results, Try.results27, go_sem, r0, r1, r2, r3, r4, r5, r6, r7, r8]; try rfl) rfl ?_
        exact ⟨rfl, Leaves.below0 BR hf.2 (by have := EG.out; omega)⟩
      · subst hR
        obtain ⟨rfl, rfl⟩ : Z = z ∧ Y = 0 := by
          have := HZ'.out
          rw [if_neg (by simp)] at this
          injection this with h1 h2
          exact ⟨h1.symm, h2.symm⟩
        obtain ⟨q0, q1, q2, q3, q4, q5, q6, q7, q8⟩ := CR.reads'
        obtain ⟨z0, z1, z2, z3, z4, z5, z6, z7, z8⟩ := ZR.reads'
        have y0 := ZR.frozen 0; have y1 := ZR.frozen 1; have y2 := ZR.frozen 2; have y3 := ZR.frozen 3; have y4 := ZR.frozen 4; have y5 := ZR.frozen 5; have y6 := ZR.frozen 6; have y7 := ZR.frozen 7; have y8 := ZR.frozen 8
        have ZR := hide ZR
        clear HZ' CR EZ
        go_wp2_with fail
        have hf := fill_at ZR.out Z
        obtain ⟨wz, ewz⟩ : ∃ wz, wz = fillC wR g2 Z := ⟨_, rfl⟩
        rw [← ewz] at hf
        (try simp only [Exit.inBlock, Exit.then])
        refine post_at ewz ?_
        obtain ⟨r0, r1, r2, r3, r4, r5, r6, r7, r8⟩ := hf.1.reads'
        refine bodyPost_ret (v := .tuple #[Cmd.val Z, .int .i64 (0 : Nat)]) (by simp [results, Try.results27, go_sem, r0, r1, r2, r3, r4, r5, r6, r7, r8]; try rfl) rfl ?_
        exact ⟨rfl, Leaves.below0 BR hf.2 (by have := EG.out; omega)⟩
  have d4 : ((kb : Int) == 4) = false := by simpa using h4
  have HK1 := hide h1
  have HK3 := hide h3
  have HK4 := hide h4
  clear h1 h3 h4
  go_upto_region 15 with (fail)
  have hF : fieldsC kb id s2 = (⟨(kb : Int), id, 0, 0, 0, 0, 0, 0, []⟩, s2) := by
    simp [fieldsC, HK1.out, HK3.out, HK4.out, Cmd.zero]
  replace HZ' := HZ'.out
  rw [hF] at HZ'
  simp only at HZ'
  clear hF
  obtain ⟨z, ez⟩ : ∃ z : Cmd, z = ⟨(kb : Int), id, 0, 0, 0, 0, 0, 0, []⟩ := ⟨_, rfl⟩
  have hzl : z.lab.length ≤ 9223372036854775807 := by rw [ez]; simp
  have HR := hide (fun w => right_any z hzl w)
  rw [← ez] at HZ'
  obtain ⟨Rz, eR⟩ : ∃ Rz, Rz = rightC z := ⟨_, rfl⟩
  obtain ⟨E, eE⟩ : ∃ E, E = s2.endOf := ⟨_, rfl⟩
  rw [← eE, ← eR] at HZ'
  replace HZ' := hide HZ'
  replace HR := HR.out
  rw [← eR] at HR
  have HR := hide HR
  have EZ := hide ez
  go_wp2_with fail
  refine (rd1_end d s2 _ D5.out.r).mono ?_
  rw [← eE]
  clear eE eR
  rintro e wE ⟨rfl, bE⟩
  have DE := D5.out.below (ReaderAt.below D5.out.r bE) bE
  clear bE D5
  obtain ⟨q0, q1, q2, q3, q4, q5, q6, q7, q8⟩ := DE.cmd.reads'
  have CC := DE.cmd
  rw [← ez] at CC
  clear ez
  simp only at q0 q1 q2 q3 q4 q5 q6 q7 q8
  have DE := hide DE
  have CC := hide CC
  by_cases hE : E = 0
  rotate_left
  · have i1 : (E != 0) = true := by simpa using hE
    obtain ⟨rfl, rfl⟩ : Z = Cmd.zero ∧ Y = 12 := by
      have := HZ'.out
      rw [if_pos hE] at this
      injection this with h1 h2
      exact ⟨h1.symm, h2.symm⟩
    obtain ⟨z0, z1, z2, z3, z4, z5, z6, z7, z8⟩ := DE.out.zero.reads'
    have y0 := DE.out.zero.frozen 0; have y1 := DE.out.zero.frozen 1; have y2 := DE.out.zero.frozen 2; have y3 := DE.out.zero.frozen 3; have y4 := DE.out.zero.frozen 4; have y5 := DE.out.zero.frozen 5; have y6 := DE.out.zero.frozen 6; have y7 := DE.out.zero.frozen 7; have y8 := DE.out.zero.frozen 8
    clear hE HZ' HR
    go_wp2_with fail
    have hf := fill_at DE.out.zero Cmd.zero
    obtain ⟨wz, ewz⟩ : ∃ wz, wz = fillC wE g2 Cmd.zero := ⟨_, rfl⟩
    rw [← ewz] at hf
    (try simp only [Exit.inBlock, Exit.then])
    refine post_at ewz ?_
    obtain ⟨r0, r1, r2, r3, r4, r5, r6, r7, r8⟩ := hf.1.reads'
    refine bodyPost_ret (v := .tuple #[Cmd.val Cmd.zero, .int .i64 (12 : Nat)]) (by simp [results, Try.results27, go_sem, r0, r1, r2, r3, r4, r5, r6, r7, r8]; try rfl) rfl ?_
    exact ⟨rfl, Leaves.below0 DE.out.bel hf.2 (by have := EG.out; omega)⟩
  · subst hE
    replace HZ' := hide ((if_neg (by simp)).symm.trans HZ'.out)
    go_wp2_with fail
    have HR2 := HR.out wE
    rw [EZ.out] at HR2
    refine HR2.mono ?_
    clear HR2 q0 q1 q2 q3 q4 q5 q6 q7 q8 HR
    rintro e wR ⟨rfl, bR⟩
    have CR := CC.out.below bR
    have ZR := DE.out.zero.below bR
    have BR := nxt DE.out.bel bR
    have hg2 := DE.out.lt.1
    clear bR CC DE
    by_cases hR : Rz = 0
    rotate_left
    · have i1 : ((Rz : Int) != 0) = true := by simp; omega
      obtain ⟨rfl, rfl⟩ : Z = Cmd.zero ∧ Y = Rz := by
        have := HZ'.out
        rw [if_pos hR] at this
        injection this with h1 h2
        exact ⟨h1.symm, h2.symm⟩
      obtain ⟨z0, z1, z2, z3, z4, z5, z6, z7, z8⟩ := ZR.reads'
      have y0 := ZR.frozen 0; have y1 := ZR.frozen 1; have y2 := ZR.frozen 2; have y3 := ZR.frozen 3; have y4 := ZR.frozen 4; have y5 := ZR.frozen 5; have y6 := ZR.frozen 6; have y7 := ZR.frozen 7; have y8 := ZR.frozen 8
      have ZR := hide ZR
      clear HZ' hR CR EZ
      go_wp2_with fail
      have hf := fill_at ZR.out Cmd.zero
      obtain ⟨wz, ewz⟩ : ∃ wz, wz = fillC wR g2 Cmd.zero := ⟨_, rfl⟩
      rw [← ewz] at hf
      (try simp only [Exit.inBlock, Exit.then])
      refine post_at ewz ?_
      obtain ⟨r0, r1, r2, r3, r4, r5, r6, r7, r8⟩ := hf.1.reads'
      refine bodyPost_ret (v := .tuple #[Cmd.val Cmd.zero, .int .i64 (Y : Nat)]) (by simp [results, Try.results27, go_sem, r0, r1, r2, r3, r4, r5, r6, r7, r8]; try rfl) rfl ?_
      exact ⟨rfl, Leaves.below0 BR hf.2 (by have := EG.out; omega)⟩
    · subst hR
      obtain ⟨rfl, rfl⟩ : Z = z ∧ Y = 0 := by
        have := HZ'.out
        rw [if_neg (by simp)] at this
        injection this with h1 h2
        exact ⟨h1.symm, h2.symm⟩
      obtain ⟨q0, q1, q2, q3, q4, q5, q6, q7, q8⟩ := CR.reads'
      obtain ⟨z0, z1, z2, z3, z4, z5, z6, z7, z8⟩ := ZR.reads'
      have y0 := ZR.frozen 0; have y1 := ZR.frozen 1; have y2 := ZR.frozen 2; have y3 := ZR.frozen 3; have y4 := ZR.frozen 4; have y5 := ZR.frozen 5; have y6 := ZR.frozen 6; have y7 := ZR.frozen 7; have y8 := ZR.frozen 8
      have ZR := hide ZR
      clear HZ' CR EZ
      go_wp2_with fail
      have hf := fill_at ZR.out Z
      obtain ⟨wz, ewz⟩ : ∃ wz, wz = fillC wR g2 Z := ⟨_, rfl⟩
      rw [← ewz] at hf
      (try simp only [Exit.inBlock, Exit.then])
      refine post_at ewz ?_
      obtain ⟨r0, r1, r2, r3, r4, r5, r6, r7, r8⟩ := hf.1.reads'
      refine bodyPost_ret (v := .tuple #[Cmd.val Z, .int .i64 (0 : Nat)]) (by simp [results, Try.results27, go_sem, r0, r1, r2, r3, r4, r5, r6, r7, r8]; try rfl) rfl ?_
      exact ⟨rfl, Leaves.below0 BR hf.2 (by have := EG.out; omega)⟩
set_option maxRecDepth 100000 in
set_option maxHeartbeats 3200000 in
theorem refDecode_any (A : Option Addr) (n c : Nat) (b : List UInt8) (w : World) (hn : b.length = n) (hl : n ≤ 1000000000) (hc : n ≤ c) (hcm : c ≤ 9223372036854775807) (hA : Cells w A (u8s b)) :
    Calls Try.prog 41 #[.slice A n c] w (DecAt w b) := by
  obtain ⟨Z, eZ⟩ : ∃ Z, Z = (decC b).1 := ⟨_, rfl⟩
  obtain ⟨Y, eY⟩ : ∃ Y, Y = (decC b).2 := ⟨_, rfl⟩
  have hZ : decC b = (Z, Y) := by rw [eZ, eY]
  have HP : DecAt w b = fun e w' => e = .returned (.tuple #[Z.val, .int .i64 (Y : Nat)]) ∧ Below w.heap.size w w' := by rw [eZ, eY]; rfl
  rw [HP]
  unfold decC at hZ
  obtain ⟨s0, es0⟩ : ∃ s0, s0 = rd0 b := ⟨_, rfl⟩
  rw [← es0] at hZ
  have HS := hide es0
  have HZ := hide hZ
  have HN := hide hn
  clear es0
  clear HP eZ eY hZ hn
  go_enter Try.func41, Try.ntmps41
  obtain ⟨wa, ewa⟩ : ∃ wa, wa = w.alloc (.cells Cmd.zero.cells 23) := ⟨_, rfl⟩
  obtain ⟨g2, eg2⟩ : ∃ g2, g2 = w.heap.size := ⟨_, rfl⟩
  have hC2 : CAt wa g2 Cmd.zero := by rw [ewa, eg2]; exact CAt.new _ _
  have Ba : Below w.heap.size w wa := by rw [ewa]; exact nxt_alloc (Below.refl _ _) _
  change wa = w.alloc (.cells #[.int .i64 0, .int .i64 0, .int .i64 0, .int .i64 0, .int .i64 0, .int .i64 0, .int .i64 0, .int .i64 0, .string { data := #[] }] 23) at ewa
  go_upto_region 1 with (fail)
  rw [← ewa, ← eg2]
  have hA1 := hA.below Ba
  have EG := hide eg2
  clear ewa eg2 hA
  have hR0 : QRef (wa.alloc (.cells #[.slice A n c, .int .i64 0, .int .i64 0] 98)) wa.heap.size ⟨b, false⟩ :=
    ⟨⟨wa.heap.size, RefAt.new' HN.out hA1 hc hcm⟩, by show b.length ≤ _; rw [HN.out]; omega⟩
  obtain ⟨w1, ew1⟩ : ∃ w1, w1 = wa.alloc (.cells #[.slice A n c, .int .i64 0, .int .i64 0] 98) := ⟨_, rfl⟩
  obtain ⟨d, ed⟩ : ∃ d, d = wa.heap.size := ⟨_, rfl⟩
  have B1 : Below wa.heap.size wa w1 := by rw [ew1]; exact nxt_alloc (Below.refl _ _) _
  rw [← ew1, ← ed] at hR0
  have hd : wa.heap.size ≤ d := by omega
  go_upto_region 2 with (fail)
  rw [← ew1, ← ed]
  clear ew1 ed
  have hC1 := hC2.below B1
  have hlt := hC2.lt
  have BB := nxt Ba B1
  clear hA1 Ba B1 hC2
  go_wp2_with fail
  replace hR0 : QRef w1 d s0 := by rw [HS.out]; exact hR0
  refine (rd2_byte d s0 _ hR0).mono ?_
  rintro e w2 ⟨rfl, R2, L2⟩
  have hC2 := hC1.block (L2.block g2 hC1.lt (by omega) (by simp))
  have B2 := Leaves.below0 BB L2 (by have := EG.out; omega)

  obtain ⟨kb, ekb⟩ : ∃ kb, kb = s0.byteOf := ⟨_, rfl⟩
  obtain ⟨s1, es1⟩ : ∃ s1, s1 = s0.left 1 := ⟨_, rfl⟩
  rw [← es1] at R2
  replace HZ := HZ.out
  rw [← ekb, ← es1] at HZ
  rw [← ekb]
  have hkb : kb < 256 := by rw [ekb]; exact s0.byteOf_lt
  obtain ⟨id, eid⟩ : ∃ id, id = s1.longOf := ⟨_, rfl⟩
  obtain ⟨s2, es2⟩ : ∃ s2, s2 = s1.left 8 := ⟨_, rfl⟩
  rw [← eid, ← es2] at HZ
  have EID := hide eid
  have ES2 := hide es2
  replace HZ := hide HZ
  clear ekb es1 eid es2 hR0 HS BB L2 hC1
  obtain ⟨w3, ew3⟩ : ∃ w3, w3 = w2.alloc (.cells (Cmd.cells { Cmd.zero with kind := kb }) 23) := ⟨_, rfl⟩
  obtain ⟨g5, eg5⟩ : ∃ g5, g5 = w2.heap.size := ⟨_, rfl⟩
  have B3 : Below w2.heap.size w2 w3 := by rw [ew3]; exact nxt_alloc (Below.refl _ _) _
  have D3 : Dk QRef w w3 g2 d g5 ⟨kb, 0, 0, 0, 0, 0, 0, 0, []⟩ s1 := by
    refine ⟨R2.below B3, hC2.below B3, by rw [ew3, eg5]; exact CAt.new _ _, ⟨by have := EG.out; omega, by omega, ?_⟩, nxt B2 B3⟩
    rw [eg5]
    obtain ⟨⟨m, R2⟩, _⟩ := R2
    exact R2.lt
  change w3 = w2.alloc (.cells #[.int .i64 kb, .int .i64 0, .int .i64 0, .int .i64 0, .int .i64 0, .int .i64 0, .int .i64 0, .int .i64 0, .string { data := #[] }] 23) at ew3
  go_upto_region 3 with (fail)
  rw [← ew3, ← eg5]
  have D3 := hide D3
  clear ew3 eg5 B3 R2 hC2 B2
  have x0 : w3.cell? ⟨g5, 0, none⟩ = some (.int .i64 kb) := D3.out.cmd.cell 0
  by_cases hk : kb < 1 ∨ 4 < kb
  · obtain ⟨rfl, rfl⟩ : Z = Cmd.zero ∧ Y = 31 := by
      have := HZ.out
      rw [if_pos hk] at this
      injection this with h1 h2
      exact ⟨h1.symm, h2.symm⟩
    obtain ⟨z0, z1, z2, z3, z4, z5, z6, z7, z8⟩ := D3.out.zero.reads'
    have y0 := D3.out.zero.frozen 0; have y1 := D3.out.zero.frozen 1; have y2 := D3.out.zero.frozen 2; have y3 := D3.out.zero.frozen 3; have y4 := D3.out.zero.frozen 4; have y5 := D3.out.zero.frozen 5; have y6 := D3.out.zero.frozen 6; have y7 := D3.out.zero.frozen 7; have y8 := D3.out.zero.frozen 8
    clear HZ
    rcases hk with h1 | h1
    · have i1 : (kb : Int) < 1 := by omega
      go_wp2_with fail
      have hf := fill_at D3.out.zero Cmd.zero
      obtain ⟨wz, ewz⟩ : ∃ wz, wz = fillC w3 g2 Cmd.zero := ⟨_, rfl⟩
      rw [← ewz] at hf
      (try simp only [Exit.inBlock, Exit.then])
      refine post_at ewz ?_
      obtain ⟨r0, r1, r2, r3, r4, r5, r6, r7, r8⟩ := hf.1.reads'
      refine bodyPost_ret (v := .tuple #[Cmd.val Cmd.zero, .int .i64 (31 : Nat)]) (by simp [results, Try.results41, go_sem, r0, r1, r2, r3, r4, r5, r6, r7, r8]; try rfl) rfl ?_
      exact ⟨rfl, Leaves.below0 D3.out.bel hf.2 (by have := EG.out; omega)⟩
    · have i1 : ¬ (kb : Int) < 1 := by omega
      have i2 : (4 : Int) < kb := by omega
      go_wp2_with fail
      have hf := fill_at D3.out.zero Cmd.zero
      obtain ⟨wz, ewz⟩ : ∃ wz, wz = fillC w3 g2 Cmd.zero := ⟨_, rfl⟩
      rw [← ewz] at hf
      (try simp only [Exit.inBlock, Exit.then])
      refine post_at ewz ?_
      obtain ⟨r0, r1, r2, r3, r4, r5, r6, r7, r8⟩ := hf.1.reads'
      refine bodyPost_ret (v := .tuple #[Cmd.val Cmd.zero, .int .i64 (31 : Nat)]) (by simp [results, Try.results41, go_sem, r0, r1, r2, r3, r4, r5, r6, r7, r8]; try rfl) rfl ?_
      exact ⟨rfl, Leaves.below0 D3.out.bel hf.2 (by have := EG.out; omega)⟩
  replace HZ := hide (HZ.out)
  have HZ' := hide ((if_neg hk).symm.trans HZ.out)
  clear HZ
  have i1 : ¬ (kb : Int) < 1 := by omega
  have i2 : ¬ (4 : Int) < kb := by omega
  go_upto_region 5 with (fail)
  clear x0 i1 i2
  go_wp2_with fail
  refine (rd2_long d s1 _ D3.out.r).mono ?_
  rintro e w4 ⟨rfl, r, L⟩
  rw [← ES2.out] at r
  rw [← EID.out]
  have D4 := hide (D3.out.read r L)
  clear r L D3
  have y1 := D4.out.cmd.frozen 1
  have x1 := D4.out.cmd.reads'.2.1
  go_upto_region 6 with (fail)
  have D5 := (D4.out.store rd2_other 1 (.int .i64 id) ⟨(kb : Int), id, 0, 0, 0, 0, 0, 0, []⟩ rfl)
  obtain ⟨w5, ew⟩ : ∃ w', w' = (w4.setCell ⟨g5, 1, none⟩ (.int .i64 id)) := ⟨_, rfl⟩
  rw [← ew] at D5 ⊢
  have D5 := hide D5
  clear ew D4 y1 x1
  have x0 := D5.out.cmd.reads'.1
  simp only at x0
  by_cases h1 : (kb : Int) = 1
  · have d1 : ((kb : Int) == 1) = true := by simpa using h1
    have HK := hide h1
    clear h1
    go_wp2_with fail
    refine (rd2_byte d s2 _ D5.out.r).mono ?_
    rintro e w6 ⟨rfl, r, L⟩
    obtain ⟨v2, ev⟩ : ∃ v, v = s2.byteOf := ⟨_, rfl⟩
    obtain ⟨s3, es⟩ : ∃ s, s = s2.left 1 := ⟨_, rfl⟩
    rw [← es] at r
    rw [← ev]
    have EV2 := hide ev
    have ES3 := hide es
    clear ev es
    have D6 := hide (D5.out.read r L)
    clear r L D5
    have y2 := D6.out.cmd.frozen 2
    have x2 := D6.out.cmd.reads'.2.2.1
    go_upto_region 9 with (fail)
    have D7 := (D6.out.store rd2_other 2 (.int .i64 ((v2 : Nat) : Int)) ⟨(kb : Int), id, ((v2 : Nat) : Int), 0, 0, 0, 0, 0, []⟩ rfl)
    obtain ⟨w7, ew⟩ : ∃ w', w' = (w6.setCell ⟨g5, 2, none⟩ (.int .i64 ((v2 : Nat) : Int))) := ⟨_, rfl⟩
    rw [← ew] at D7 ⊢
    have D7 := hide D7
    clear ew D6 y2 x2
    go_wp2_with fail
    refine (rd2_byte d s3 _ D7.out.r).mono ?_
    rintro e w8 ⟨rfl, r, L⟩
    obtain ⟨v3, ev⟩ : ∃ v, v = s3.byteOf := ⟨_, rfl⟩
    obtain ⟨s4, es⟩ : ∃ s, s = s3.left 1 := ⟨_, rfl⟩
    rw [← es] at r
    rw [← ev]
    have EV3 := hide ev
    have ES4 := hide es
    clear ev es
    have D8 := hide (D7.out.read r L)
    clear r L D7
    have y3 := D8.out.cmd.frozen 3
    have x3 := D8.out.cmd.reads'.2.2.2.1
    go_upto_region 10 with (fail)
    have D9 := (D8.out.store rd2_other 3 (.int .i64 ((v3 : Nat) : Int)) ⟨(kb : Int), id, ((v2 : Nat) : Int), ((v3 : Nat) : Int), 0, 0, 0, 0, []⟩ rfl)
    obtain ⟨w9, ew⟩ : ∃ w', w' = (w8.setCell ⟨g5, 3, none⟩ (.int .i64 ((v3 : Nat) : Int))) := ⟨_, rfl⟩
    rw [← ew] at D9 ⊢
    have D9 := hide D9
    clear ew D8 y3 x3
    go_wp2_with fail
    refine (rd2_byte d s4 _ D9.out.r).mono ?_
    rintro e w10 ⟨rfl, r, L⟩
    obtain ⟨v4, ev⟩ : ∃ v, v = s4.byteOf := ⟨_, rfl⟩
    obtain ⟨s5, es⟩ : ∃ s, s = s4.left 1 := ⟨_, rfl⟩
    rw [← es] at r
    rw [← ev]
    have EV4 := hide ev
    have ES5 := hide es
    clear ev es
    have D10 := hide (D9.out.read r L)
    clear r L D9
    have y7 := D10.out.cmd.frozen 7
    have x7 := D10.out.cmd.reads'.2.2.2.2.2.2.2.1
    go_upto_region 11 with (fail)
    have D11 := (D10.out.store rd2_other 7 (.int .i64 ((v4 : Nat) : Int)) ⟨(kb : Int), id, ((v2 : Nat) : Int), ((v3 : Nat) : Int), 0, 0, 0, ((v4 : Nat) : Int), []⟩ rfl)
    obtain ⟨w11, ew⟩ : ∃ w', w' = (w10.setCell ⟨g5, 7, none⟩ (.int .i64 ((v4 : Nat) : Int))) := ⟨_, rfl⟩
    rw [← ew] at D11 ⊢
    have D11 := hide D11
    clear ew D10 y7 x7
    go_wp2_with fail
    refine (rd2_long d s5 _ D11.out.r).mono ?_
    rintro e w12 ⟨rfl, r, L⟩
    obtain ⟨v5, ev⟩ : ∃ v, v = s5.longOf := ⟨_, rfl⟩
    obtain ⟨s6, es⟩ : ∃ s, s = s5.left 8 := ⟨_, rfl⟩
    rw [← es] at r
    rw [← ev]
    have EV5 := hide ev
    have ES6 := hide es
    clear ev es
    have D12 := hide (D11.out.read r L)
    clear r L D11
    have y4 := D12.out.cmd.frozen 4
    have x4 := D12.out.cmd.reads'.2.2.2.2.1
    go_upto_region 12 with (fail)
    have D13 := (D12.out.store rd2_other 4 (.int .i64 v5) ⟨(kb : Int), id, ((v2 : Nat) : Int), ((v3 : Nat) : Int), v5, 0, 0, ((v4 : Nat) : Int), []⟩ rfl)
    obtain ⟨w13, ew⟩ : ∃ w', w' = (w12.setCell ⟨g5, 4, none⟩ (.int .i64 v5)) := ⟨_, rfl⟩
    rw [← ew] at D13 ⊢
    have D13 := hide D13
    clear ew D12 y4 x4
    go_wp2_with fail
    refine (rd2_long d s6 _ D13.out.r).mono ?_
    rintro e w14 ⟨rfl, r, L⟩
    obtain ⟨v6, ev⟩ : ∃ v, v = s6.longOf := ⟨_, rfl⟩
    obtain ⟨s7, es⟩ : ∃ s, s = s6.left 8 := ⟨_, rfl⟩
    rw [← es] at r
    rw [← ev]
    have EV6 := hide ev
    have ES7 := hide es
    clear ev es
    have D14 := hide (D13.out.read r L)
    clear r L D13
    have y5 := D14.out.cmd.frozen 5
    have x5 := D14.out.cmd.reads'.2.2.2.2.2.1
    go_upto_region 13 with (fail)
    have D15 := (D14.out.store rd2_other 5 (.int .i64 v6) ⟨(kb : Int), id, ((v2 : Nat) : Int), ((v3 : Nat) : Int), v5, v6, 0, ((v4 : Nat) : Int), []⟩ rfl)
    obtain ⟨w15, ew⟩ : ∃ w', w' = (w14.setCell ⟨g5, 5, none⟩ (.int .i64 v6)) := ⟨_, rfl⟩
    rw [← ew] at D15 ⊢
    have D15 := hide D15
    clear ew D14 y5 x5
    go_wp2_with fail
    refine (rd2_long d s7 _ D15.out.r).mono ?_
    rintro e w16 ⟨rfl, r, L⟩
    obtain ⟨v7, ev⟩ : ∃ v, v = s7.longOf := ⟨_, rfl⟩
    obtain ⟨s8, es⟩ : ∃ s, s = s7.left 8 := ⟨_, rfl⟩
    rw [← es] at r
    rw [← ev]
    have EV7 := hide ev
    have ES8 := hide es
    clear ev es
    have D16 := hide (D15.out.read r L)
    clear r L D15
    have y6 := D16.out.cmd.frozen 6
    have x6 := D16.out.cmd.reads'.2.2.2.2.2.2.1
    go_upto_region 14 with (fail)
    have D17 := (D16.out.store rd2_other 6 (.int .i64 v7) ⟨(kb : Int), id, ((v2 : Nat) : Int), ((v3 : Nat) : Int), v5, v6, v7, ((v4 : Nat) : Int), []⟩ rfl)
    obtain ⟨w17, ew⟩ : ∃ w', w' = (w16.setCell ⟨g5, 6, none⟩ (.int .i64 v7)) := ⟨_, rfl⟩
    rw [← ew] at D17 ⊢
    have D17 := hide D17
    clear ew D16 y6 x6
    go_wp2_with fail
    refine (rd2_text d s8 _ D17.out.r).mono ?_
    rintro e w18 ⟨rfl, r, L⟩
    obtain ⟨v8, ev⟩ : ∃ v, v = s8.textOf := ⟨_, rfl⟩
    obtain ⟨s9, es⟩ : ∃ s, s = s8.pastText := ⟨_, rfl⟩
    rw [← es] at r
    rw [← ev]
    have hlab : v8.length ≤ 9223372036854775807 := by rw [ev]; exact took_small _
    have EV8 := hide ev
    have ES9 := hide es
    clear ev es
    have D18 := hide (D17.out.read r L)
    clear r L D17
    have y8 := D18.out.cmd.frozen 8
    have x8 := D18.out.cmd.reads'.2.2.2.2.2.2.2.2
    go_upto_region 20 with (fail)
    have D19 := (D18.out.store rd2_other 8 (.string (str v8)) ⟨(kb : Int), id, ((v2 : Nat) : Int), ((v3 : Nat) : Int), v5, v6, v7, ((v4 : Nat) : Int), v8⟩ rfl)
    obtain ⟨w19, ew⟩ : ∃ w', w' = (w18.setCell ⟨g5, 8, none⟩ (.string (str v8))) := ⟨_, rfl⟩
    rw [← ew] at D19 ⊢
    have D19 := hide D19
    clear ew D18 y8 x8
    have hF : fieldsC kb id s2 = (⟨(kb : Int), id, ((v2 : Nat) : Int), ((v3 : Nat) : Int), v5, v6, v7, ((v4 : Nat) : Int), v8⟩, s9) := by
      simp only [fieldsC, if_pos HK.out, EV2.out, ES3.out, EV3.out, ES4.out, EV4.out, ES5.out, EV5.out, ES6.out, EV6.out, ES7.out, EV7.out, ES8.out, EV8.out, ES9.out]
    replace HZ' := HZ'.out
    rw [hF] at HZ'
    simp only at HZ'
    clear hF
    obtain ⟨z, ez⟩ : ∃ z : Cmd, z = ⟨(kb : Int), id, ((v2 : Nat) : Int), ((v3 : Nat) : Int), v5, v6, v7, ((v4 : Nat) : Int), v8⟩ := ⟨_, rfl⟩
    have hzl : z.lab.length ≤ 9223372036854775807 := by rw [ez]; exact hlab
    have HR := hide (fun w => refRight_any z hzl w)
    rw [← ez] at HZ'
    obtain ⟨Rz, eR⟩ : ∃ Rz, Rz = rightC z := ⟨_, rfl⟩
    obtain ⟨E, eE⟩ : ∃ E, E = s9.endOf := ⟨_, rfl⟩
    rw [← eE, ← eR] at HZ'
    replace HZ' := hide HZ'
    replace HR := HR.out
    rw [← eR] at HR
    have HR := hide HR
    have EZ := hide ez
    go_wp2_with fail
    refine (rd2_end d s9 _ D19.out.r).mono ?_
    rw [← eE]
    clear eE eR
    rintro e wE ⟨rfl, bE⟩
    have DE := D19.out.below (QRef.below D19.out.r bE) bE
    clear bE D19
    obtain ⟨q0, q1, q2, q3, q4, q5, q6, q7, q8⟩ := DE.cmd.reads'
    have CC := DE.cmd
    rw [← ez] at CC
    clear ez
    simp only at q0 q1 q2 q3 q4 q5 q6 q7 q8
    have DE := hide DE
    have CC := hide CC
    by_cases hE : E = 0
    rotate_left
    · have i1 : (E != 0) = true := by simpa using hE
      obtain ⟨rfl, rfl⟩ : Z = Cmd.zero ∧ Y = 12 := by
        have := HZ'.out
        rw [if_pos hE] at this
        injection this with h1 h2
        exact ⟨h1.symm, h2.symm⟩
      obtain ⟨z0, z1, z2, z3, z4, z5, z6, z7, z8⟩ := DE.out.zero.reads'
      have y0 := DE.out.zero.frozen 0; have y1 := DE.out.zero.frozen 1; have y2 := DE.out.zero.frozen 2; have y3 := DE.out.zero.frozen 3; have y4 := DE.out.zero.frozen 4; have y5 := DE.out.zero.frozen 5; have y6 := DE.out.zero.frozen 6; have y7 := DE.out.zero.frozen 7; have y8 := DE.out.zero.frozen 8
      clear hE HZ' HR
      go_wp2_with fail
      have hf := fill_at DE.out.zero Cmd.zero
      obtain ⟨wz, ewz⟩ : ∃ wz, wz = fillC wE g2 Cmd.zero := ⟨_, rfl⟩
      rw [← ewz] at hf
      (try simp only [Exit.inBlock, Exit.then])
      refine post_at ewz ?_
      obtain ⟨r0, r1, r2, r3, r4, r5, r6, r7, r8⟩ := hf.1.reads'
      refine bodyPost_ret (v := .tuple #[Cmd.val Cmd.zero, .int .i64 (12 : Nat)]) (by simp [results, Try.results41, go_sem, r0, r1, r2, r3, r4, r5, r6, r7, r8]; try rfl) rfl ?_
      exact ⟨rfl, Leaves.below0 DE.out.bel hf.2 (by have := EG.out; omega)⟩
    · subst hE
      replace HZ' := hide ((if_neg (by simp)).symm.trans HZ'.out)
      go_wp2_with fail
      have HR2 := HR.out wE
      rw [EZ.out] at HR2
      refine HR2.mono ?_
      clear HR2 q0 q1 q2 q3 q4 q5 q6 q7 q8 HR
      rintro e wR ⟨rfl, bR⟩
      have CR := CC.out.below bR
      have ZR := DE.out.zero.below bR
      have BR := nxt DE.out.bel bR
      have hg2 := DE.out.lt.1
      clear bR CC DE
      by_cases hR : Rz = 0
      rotate_left
      · have i1 : ((Rz : Int) != 0) = true := by simp; omega
        obtain ⟨rfl, rfl⟩ : Z = Cmd.zero ∧ Y = Rz := by
          have := HZ'.out
          rw [if_pos hR] at this
          injection this with h1 h2
          exact ⟨h1.symm, h2.symm⟩
        obtain ⟨z0, z1, z2, z3, z4, z5, z6, z7, z8⟩ := ZR.reads'
        have y0 := ZR.frozen 0; have y1 := ZR.frozen 1; have y2 := ZR.frozen 2; have y3 := ZR.frozen 3; have y4 := ZR.frozen 4; have y5 := ZR.frozen 5; have y6 := ZR.frozen 6; have y7 := ZR.frozen 7; have y8 := ZR.frozen 8
        have ZR := hide ZR
        clear HZ' hR CR EZ
        go_wp2_with fail
        have hf := fill_at ZR.out Cmd.zero
        obtain ⟨wz, ewz⟩ : ∃ wz, wz = fillC wR g2 Cmd.zero := ⟨_, rfl⟩
        rw [← ewz] at hf
        (try simp only [Exit.inBlock, Exit.then])
        refine post_at ewz ?_
        obtain ⟨r0, r1, r2, r3, r4, r5, r6, r7, r8⟩ := hf.1.reads'
        refine bodyPost_ret (v := .tuple #[Cmd.val Cmd.zero, .int .i64 (Y : Nat)]) (by simp [results, Try.results41, go_sem, r0, r1, r2, r3, r4, r5, r6, r7, r8]; try rfl) rfl ?_
        exact ⟨rfl, Leaves.below0 BR hf.2 (by have := EG.out; omega)⟩
      · subst hR
        obtain ⟨rfl, rfl⟩ : Z = z ∧ Y = 0 := by
          have := HZ'.out
          rw [if_neg (by simp)] at this
          injection this with h1 h2
          exact ⟨h1.symm, h2.symm⟩
        obtain ⟨q0, q1, q2, q3, q4, q5, q6, q7, q8⟩ := CR.reads'
        obtain ⟨z0, z1, z2, z3, z4, z5, z6, z7, z8⟩ := ZR.reads'
        have y0 := ZR.frozen 0; have y1 := ZR.frozen 1; have y2 := ZR.frozen 2; have y3 := ZR.frozen 3; have y4 := ZR.frozen 4; have y5 := ZR.frozen 5; have y6 := ZR.frozen 6; have y7 := ZR.frozen 7; have y8 := ZR.frozen 8
        have ZR := hide ZR
        clear HZ' CR EZ
        go_wp2_with fail
        have hf := fill_at ZR.out Z
        obtain ⟨wz, ewz⟩ : ∃ wz, wz = fillC wR g2 Z := ⟨_, rfl⟩
        rw [← ewz] at hf
        (try simp only [Exit.inBlock, Exit.then])
        refine post_at ewz ?_
        obtain ⟨r0, r1, r2, r3, r4, r5, r6, r7, r8⟩ := hf.1.reads'
        refine bodyPost_ret (v := .tuple #[Cmd.val Z, .int .i64 (0 : Nat)]) (by simp [results, Try.results41, go_sem, r0, r1, r2, r3, r4, r5, r6, r7, r8]; try rfl) rfl ?_
        exact ⟨rfl, Leaves.below0 BR hf.2 (by have := EG.out; omega)⟩
  have d1 : ((kb : Int) == 1) = false := by simpa using h1
  by_cases h3 : (kb : Int) = 3
  · have d3 : ((kb : Int) == 3) = true := by simpa using h3
    have HK := hide h3
    clear h3
    go_wp2_with fail
    refine (rd2_long d s2 _ D5.out.r).mono ?_
    rintro e w6 ⟨rfl, r, L⟩
    obtain ⟨v2, ev⟩ : ∃ v, v = s2.longOf := ⟨_, rfl⟩
    obtain ⟨s3, es⟩ : ∃ s, s = s2.left 8 := ⟨_, rfl⟩
    rw [← es] at r
    rw [← ev]
    have EV2 := hide ev
    have ES3 := hide es
    clear ev es
    have D6 := hide (D5.out.read r L)
    clear r L D5
    have y5 := D6.out.cmd.frozen 5
    have x5 := D6.out.cmd.reads'.2.2.2.2.2.1
    go_upto_region 20 with (fail)
    have D7 := (D6.out.store rd2_other 5 (.int .i64 v2) ⟨(kb : Int), id, 0, 0, 0, v2, 0, 0, []⟩ rfl)
    obtain ⟨w7, ew⟩ : ∃ w', w' = (w6.setCell ⟨g5, 5, none⟩ (.int .i64 v2)) := ⟨_, rfl⟩
    rw [← ew] at D7 ⊢
    have D7 := hide D7
    clear ew D6 y5 x5
    have hF : fieldsC kb id s2 = (⟨(kb : Int), id, 0, 0, 0, v2, 0, 0, []⟩, s3) := by
      simp [fieldsC, HK.out, EV2.out, ES3.out, Cmd.zero]
    replace HZ' := HZ'.out
    rw [hF] at HZ'
    simp only at HZ'
    clear hF
    obtain ⟨z, ez⟩ : ∃ z : Cmd, z = ⟨(kb : Int), id, 0, 0, 0, v2, 0, 0, []⟩ := ⟨_, rfl⟩
    have hzl : z.lab.length ≤ 9223372036854775807 := by rw [ez]; simp
    have HR := hide (fun w => refRight_any z hzl w)
    rw [← ez] at HZ'
    obtain ⟨Rz, eR⟩ : ∃ Rz, Rz = rightC z := ⟨_, rfl⟩
    obtain ⟨E, eE⟩ : ∃ E, E = s3.endOf := ⟨_, rfl⟩
    rw [← eE, ← eR] at HZ'
    replace HZ' := hide HZ'
    replace HR := HR.out
    rw [← eR] at HR
    have HR := hide HR
    have EZ := hide ez
    go_wp2_with fail
    refine (rd2_end d s3 _ D7.out.r).mono ?_
    rw [← eE]
    clear eE eR
    rintro e wE ⟨rfl, bE⟩
    have DE := D7.out.below (QRef.below D7.out.r bE) bE
    clear bE D7
    obtain ⟨q0, q1, q2, q3, q4, q5, q6, q7, q8⟩ := DE.cmd.reads'
    have CC := DE.cmd
    rw [← ez] at CC
    clear ez
    simp only at q0 q1 q2 q3 q4 q5 q6 q7 q8
    have DE := hide DE
    have CC := hide CC
    by_cases hE : E = 0
    rotate_left
    · have i1 : (E != 0) = true := by simpa using hE
      obtain ⟨rfl, rfl⟩ : Z = Cmd.zero ∧ Y = 12 := by
        have := HZ'.out
        rw [if_pos hE] at this
        injection this with h1 h2
        exact ⟨h1.symm, h2.symm⟩
      obtain ⟨z0, z1, z2, z3, z4, z5, z6, z7, z8⟩ := DE.out.zero.reads'
      have y0 := DE.out.zero.frozen 0; have y1 := DE.out.zero.frozen 1; have y2 := DE.out.zero.frozen 2; have y3 := DE.out.zero.frozen 3; have y4 := DE.out.zero.frozen 4; have y5 := DE.out.zero.frozen 5; have y6 := DE.out.zero.frozen 6; have y7 := DE.out.zero.frozen 7; have y8 := DE.out.zero.frozen 8
      clear hE HZ' HR
      go_wp2_with fail
      have hf := fill_at DE.out.zero Cmd.zero
      obtain ⟨wz, ewz⟩ : ∃ wz, wz = fillC wE g2 Cmd.zero := ⟨_, rfl⟩
      rw [← ewz] at hf
      (try simp only [Exit.inBlock, Exit.then])
      refine post_at ewz ?_
      obtain ⟨r0, r1, r2, r3, r4, r5, r6, r7, r8⟩ := hf.1.reads'
      refine bodyPost_ret (v := .tuple #[Cmd.val Cmd.zero, .int .i64 (12 : Nat)]) (by simp [results, Try.results41, go_sem, r0, r1, r2, r3, r4, r5, r6, r7, r8]; try rfl) rfl ?_
      exact ⟨rfl, Leaves.below0 DE.out.bel hf.2 (by have := EG.out; omega)⟩
    · subst hE
      replace HZ' := hide ((if_neg (by simp)).symm.trans HZ'.out)
      go_wp2_with fail
      have HR2 := HR.out wE
      rw [EZ.out] at HR2
      refine HR2.mono ?_
      clear HR2 q0 q1 q2 q3 q4 q5 q6 q7 q8 HR
      rintro e wR ⟨rfl, bR⟩
      have CR := CC.out.below bR
      have ZR := DE.out.zero.below bR
      have BR := nxt DE.out.bel bR
      have hg2 := DE.out.lt.1
      clear bR CC DE
      by_cases hR : Rz = 0
      rotate_left
      · have i1 : ((Rz : Int) != 0) = true := by simp; omega
        obtain ⟨rfl, rfl⟩ : Z = Cmd.zero ∧ Y = Rz := by
          have := HZ'.out
          rw [if_pos hR] at this
          injection this with h1 h2
          exact ⟨h1.symm, h2.symm⟩
        obtain ⟨z0, z1, z2, z3, z4, z5, z6, z7, z8⟩ := ZR.reads'
        have y0 := ZR.frozen 0; have y1 := ZR.frozen 1; have y2 := ZR.frozen 2; have y3 := ZR.frozen 3; have y4 := ZR.frozen 4; have y5 := ZR.frozen 5; have y6 := ZR.frozen 6; have y7 := ZR.frozen 7; have y8 := ZR.frozen 8
        have ZR := hide ZR
        clear HZ' hR CR EZ
        go_wp2_with fail
        have hf := fill_at ZR.out Cmd.zero
        obtain ⟨wz, ewz⟩ : ∃ wz, wz = fillC wR g2 Cmd.zero := ⟨_, rfl⟩
        rw [← ewz] at hf
        (try simp only [Exit.inBlock, Exit.then])
        refine post_at ewz ?_
        obtain ⟨r0, r1, r2, r3, r4, r5, r6, r7, r8⟩ := hf.1.reads'
        refine bodyPost_ret (v := .tuple #[Cmd.val Cmd.zero, .int .i64 (Y : Nat)]) (by simp [results, Try.results41, go_sem, r0, r1, r2, r3, r4, r5, r6, r7, r8]; try rfl) rfl ?_
        exact ⟨rfl, Leaves.below0 BR hf.2 (by have := EG.out; omega)⟩
      · subst hR
        obtain ⟨rfl, rfl⟩ : Z = z ∧ Y = 0 := by
          have := HZ'.out
          rw [if_neg (by simp)] at this
          injection this with h1 h2
          exact ⟨h1.symm, h2.symm⟩
        obtain ⟨q0, q1, q2, q3, q4, q5, q6, q7, q8⟩ := CR.reads'
        obtain ⟨z0, z1, z2, z3, z4, z5, z6, z7, z8⟩ := ZR.reads'
        have y0 := ZR.frozen 0; have y1 := ZR.frozen 1; have y2 := ZR.frozen 2; have y3 := ZR.frozen 3; have y4 := ZR.frozen 4; have y5 := ZR.frozen 5; have y6 := ZR.frozen 6; have y7 := ZR.frozen 7; have y8 := ZR.frozen 8
        have ZR := hide ZR
        clear HZ' CR EZ
        go_wp2_with fail
        have hf := fill_at ZR.out Z
        obtain ⟨wz, ewz⟩ : ∃ wz, wz = fillC wR g2 Z := ⟨_, rfl⟩
        rw [← ewz] at hf
        (try simp only [Exit.inBlock, Exit.then])
        refine post_at ewz ?_
        obtain ⟨r0, r1, r2, r3, r4, r5, r6, r7, r8⟩ := hf.1.reads'
        refine bodyPost_ret (v := .tuple #[Cmd.val Z, .int .i64 (0 : Nat)]) (by simp [results, Try.results41, go_sem, r0, r1, r2, r3, r4, r5, r6, r7, r8]; try rfl) rfl ?_
        exact ⟨rfl, Leaves.below0 BR hf.2 (by have := EG.out; omega)⟩
  have d3 : ((kb : Int) == 3) = false := by simpa using h3
  by_cases h4 : (kb : Int) = 4
  · have d4 : ((kb : Int) == 4) = true := by simpa using h4
    have HK := hide h4
    clear h4
    go_wp2_with fail
    refine (rd2_long d s2 _ D5.out.r).mono ?_
    rintro e w6 ⟨rfl, r, L⟩
    obtain ⟨v2, ev⟩ : ∃ v, v = s2.longOf := ⟨_, rfl⟩
    obtain ⟨s3, es⟩ : ∃ s, s = s2.left 8 := ⟨_, rfl⟩
    rw [← es] at r
    rw [← ev]
    have EV2 := hide ev
    have ES3 := hide es
    clear ev es
    have D6 := hide (D5.out.read r L)
    clear r L D5
    have y4 := D6.out.cmd.frozen 4
    have x4 := D6.out.cmd.reads'.2.2.2.2.1
    go_upto_region 19 with (fail)
    have D7 := (D6.out.store rd2_other 4 (.int .i64 v2) ⟨(kb : Int), id, 0, 0, v2, 0, 0, 0, []⟩ rfl)
    obtain ⟨w7, ew⟩ : ∃ w', w' = (w6.setCell ⟨g5, 4, none⟩ (.int .i64 v2)) := ⟨_, rfl⟩
    rw [← ew] at D7 ⊢
    have D7 := hide D7
    clear ew D6 y4 x4
    go_wp2_with fail
    refine (rd2_long d s3 _ D7.out.r).mono ?_
    rintro e w8 ⟨rfl, r, L⟩
    obtain ⟨v3, ev⟩ : ∃ v, v = s3.longOf := ⟨_, rfl⟩
    obtain ⟨s4, es⟩ : ∃ s, s = s3.left 8 := ⟨_, rfl⟩
    rw [← es] at r
    rw [← ev]
    have EV3 := hide ev
    have ES4 := hide es
    clear ev es
    have D8 := hide (D7.out.read r L)
    clear r L D7
    have y5 := D8.out.cmd.frozen 5
    have x5 := D8.out.cmd.reads'.2.2.2.2.2.1
    go_upto_region 20 with (fail)
    have D9 := (D8.out.store rd2_other 5 (.int .i64 v3) ⟨(kb : Int), id, 0, 0, v2, v3, 0, 0, []⟩ rfl)
    obtain ⟨w9, ew⟩ : ∃ w', w' = (w8.setCell ⟨g5, 5, none⟩ (.int .i64 v3)) := ⟨_, rfl⟩
    rw [← ew] at D9 ⊢
    have D9 := hide D9
    clear ew D8 y5 x5
    have hF : fieldsC kb id s2 = (⟨(kb : Int), id, 0, 0, v2, v3, 0, 0, []⟩, s4) := by
      simp [fieldsC, HK.out, EV2.out, ES3.out, EV3.out, ES4.out, Cmd.zero]
    replace HZ' := HZ'.out
    rw [hF] at HZ'
    simp only at HZ'
    clear hF
    obtain ⟨z, ez⟩ : ∃ z : Cmd, z = ⟨(kb : Int), id, 0, 0, v2, v3, 0, 0, []⟩ := ⟨_, rfl⟩
    have hzl : z.lab.length ≤ 9223372036854775807 := by rw [ez]; simp
    have HR := hide (fun w => refRight_any z hzl w)
    rw [← ez] at HZ'
    obtain ⟨Rz, eR⟩ : ∃ Rz, Rz = rightC z := ⟨_, rfl⟩
    obtain ⟨E, eE⟩ : ∃ E, E = s4.endOf := ⟨_, rfl⟩
    rw [← eE, ← eR] at HZ'
    replace HZ' := hide HZ'
    replace HR := HR.out
    rw [← eR] at HR
    have HR := hide HR
    have EZ := hide ez
    go_wp2_with fail
    refine (rd2_end d s4 _ D9.out.r).mono ?_
    rw [← eE]
    clear eE eR
    rintro e wE ⟨rfl, bE⟩
    have DE := D9.out.below (QRef.below D9.out.r bE) bE
    clear bE D9
    obtain ⟨q0, q1, q2, q3, q4, q5, q6, q7, q8⟩ := DE.cmd.reads'
    have CC := DE.cmd
    rw [← ez] at CC
    clear ez
    simp only at q0 q1 q2 q3 q4 q5 q6 q7 q8
    have DE := hide DE
    have CC := hide CC
    by_cases hE : E = 0
    rotate_left
    · have i1 : (E != 0) = true := by simpa using hE
      obtain ⟨rfl, rfl⟩ : Z = Cmd.zero ∧ Y = 12 := by
        have := HZ'.out
        rw [if_pos hE] at this
        injection this with h1 h2
        exact ⟨h1.symm, h2.symm⟩
      obtain ⟨z0, z1, z2, z3, z4, z5, z6, z7, z8⟩ := DE.out.zero.reads'
      have y0 := DE.out.zero.frozen 0; have y1 := DE.out.zero.frozen 1; have y2 := DE.out.zero.frozen 2; have y3 := DE.out.zero.frozen 3; have y4 := DE.out.zero.frozen 4; have y5 := DE.out.zero.frozen 5; have y6 := DE.out.zero.frozen 6; have y7 := DE.out.zero.frozen 7; have y8 := DE.out.zero.frozen 8
      clear hE HZ' HR
      go_wp2_with fail
      have hf := fill_at DE.out.zero Cmd.zero
      obtain ⟨wz, ewz⟩ : ∃ wz, wz = fillC wE g2 Cmd.zero := ⟨_, rfl⟩
      rw [← ewz] at hf
      (try simp only [Exit.inBlock, Exit.then])
      refine post_at ewz ?_
      obtain ⟨r0, r1, r2, r3, r4, r5, r6, r7, r8⟩ := hf.1.reads'
      refine bodyPost_ret (v := .tuple #[Cmd.val Cmd.zero, .int .i64 (12 : Nat)]) (by simp [results, Try.results41, go_sem, r0, r1, r2, r3, r4, r5, r6, r7, r8]; try rfl) rfl ?_
      exact ⟨rfl, Leaves.below0 DE.out.bel hf.2 (by have := EG.out; omega)⟩
    · subst hE
      replace HZ' := hide ((if_neg (by simp)).symm.trans HZ'.out)
      go_wp2_with fail
      have HR2 := HR.out wE
      rw [EZ.out] at HR2
      refine HR2.mono ?_
      clear HR2 q0 q1 q2 q3 q4 q5 q6 q7 q8 HR
      rintro e wR ⟨rfl, bR⟩
      have CR := CC.out.below bR
      have ZR := DE.out.zero.below bR
      have BR := nxt DE.out.bel bR
      have hg2 := DE.out.lt.1
      clear bR CC DE
      by_cases hR : Rz = 0
      rotate_left
      · have i1 : ((Rz : Int) != 0) = true := by simp; omega
        obtain ⟨rfl, rfl⟩ : Z = Cmd.zero ∧ Y = Rz := by
          have := HZ'.out
          rw [if_pos hR] at this
          injection this with h1 h2
          exact ⟨h1.symm, h2.symm⟩
        obtain ⟨z0, z1, z2, z3, z4, z5, z6, z7, z8⟩ := ZR.reads'
        have y0 := ZR.frozen 0; have y1 := ZR.frozen 1; have y2 := ZR.frozen 2; have y3 := ZR.frozen 3; have y4 := ZR.frozen 4; have y5 := ZR.frozen 5; have y6 := ZR.frozen 6; have y7 := ZR.frozen 7; have y8 := ZR.frozen 8
        have ZR := hide ZR
        clear HZ' hR CR EZ
        go_wp2_with fail
        have hf := fill_at ZR.out Cmd.zero
        obtain ⟨wz, ewz⟩ : ∃ wz, wz = fillC wR g2 Cmd.zero := ⟨_, rfl⟩
        rw [← ewz] at hf
        (try simp only [Exit.inBlock, Exit.then])
        refine post_at ewz ?_
        obtain ⟨r0, r1, r2, r3, r4, r5, r6, r7, r8⟩ := hf.1.reads'
        refine bodyPost_ret (v := .tuple #[Cmd.val Cmd.zero, .int .i64 (Y : Nat)]) (by simp [results, Try.results41, go_sem, r0, r1, r2, r3, r4, r5, r6, r7, r8]; try rfl) rfl ?_
        exact ⟨rfl, Leaves.below0 BR hf.2 (by have := EG.out; omega)⟩
      · subst hR
        obtain ⟨rfl, rfl⟩ : Z = z ∧ Y = 0 := by
          have := HZ'.out
          rw [if_neg (by simp)] at this
          injection this with h1 h2
          exact ⟨h1.symm, h2.symm⟩
        obtain ⟨q0, q1, q2, q3, q4, q5, q6, q7, q8⟩ := CR.reads'
        obtain ⟨z0, z1, z2, z3, z4, z5, z6, z7, z8⟩ := ZR.reads'
        have y0 := ZR.frozen 0; have y1 := ZR.frozen 1; have y2 := ZR.frozen 2; have y3 := ZR.frozen 3; have y4 := ZR.frozen 4; have y5 := ZR.frozen 5; have y6 := ZR.frozen 6; have y7 := ZR.frozen 7; have y8 := ZR.frozen 8
        have ZR := hide ZR
        clear HZ' CR EZ
        go_wp2_with fail
        have hf := fill_at ZR.out Z
        obtain ⟨wz, ewz⟩ : ∃ wz, wz = fillC wR g2 Z := ⟨_, rfl⟩
        rw [← ewz] at hf
        (try simp only [Exit.inBlock, Exit.then])
        refine post_at ewz ?_
        obtain ⟨r0, r1, r2, r3, r4, r5, r6, r7, r8⟩ := hf.1.reads'
        refine bodyPost_ret (v := .tuple #[Cmd.val Z, .int .i64 (0 : Nat)]) (by simp [results, Try.results41, go_sem, r0, r1, r2, r3, r4, r5, r6, r7, r8]; try rfl) rfl ?_
        exact ⟨rfl, Leaves.below0 BR hf.2 (by have := EG.out; omega)⟩
  have d4 : ((kb : Int) == 4) = false := by simpa using h4
  have HK1 := hide h1
  have HK3 := hide h3
  have HK4 := hide h4
  clear h1 h3 h4
  go_upto_region 20 with (fail)
  have hF : fieldsC kb id s2 = (⟨(kb : Int), id, 0, 0, 0, 0, 0, 0, []⟩, s2) := by
    simp [fieldsC, HK1.out, HK3.out, HK4.out, Cmd.zero]
  replace HZ' := HZ'.out
  rw [hF] at HZ'
  simp only at HZ'
  clear hF
  obtain ⟨z, ez⟩ : ∃ z : Cmd, z = ⟨(kb : Int), id, 0, 0, 0, 0, 0, 0, []⟩ := ⟨_, rfl⟩
  have hzl : z.lab.length ≤ 9223372036854775807 := by rw [ez]; simp
  have HR := hide (fun w => refRight_any z hzl w)
  rw [← ez] at HZ'
  obtain ⟨Rz, eR⟩ : ∃ Rz, Rz = rightC z := ⟨_, rfl⟩
  obtain ⟨E, eE⟩ : ∃ E, E = s2.endOf := ⟨_, rfl⟩
  rw [← eE, ← eR] at HZ'
  replace HZ' := hide HZ'
  replace HR := HR.out
  rw [← eR] at HR
  have HR := hide HR
  have EZ := hide ez
  go_wp2_with fail
  refine (rd2_end d s2 _ D5.out.r).mono ?_
  rw [← eE]
  clear eE eR
  rintro e wE ⟨rfl, bE⟩
  have DE := D5.out.below (QRef.below D5.out.r bE) bE
  clear bE D5
  obtain ⟨q0, q1, q2, q3, q4, q5, q6, q7, q8⟩ := DE.cmd.reads'
  have CC := DE.cmd
  rw [← ez] at CC
  clear ez
  simp only at q0 q1 q2 q3 q4 q5 q6 q7 q8
  have DE := hide DE
  have CC := hide CC
  by_cases hE : E = 0
  rotate_left
  · have i1 : (E != 0) = true := by simpa using hE
    obtain ⟨rfl, rfl⟩ : Z = Cmd.zero ∧ Y = 12 := by
      have := HZ'.out
      rw [if_pos hE] at this
      injection this with h1 h2
      exact ⟨h1.symm, h2.symm⟩
    obtain ⟨z0, z1, z2, z3, z4, z5, z6, z7, z8⟩ := DE.out.zero.reads'
    have y0 := DE.out.zero.frozen 0; have y1 := DE.out.zero.frozen 1; have y2 := DE.out.zero.frozen 2; have y3 := DE.out.zero.frozen 3; have y4 := DE.out.zero.frozen 4; have y5 := DE.out.zero.frozen 5; have y6 := DE.out.zero.frozen 6; have y7 := DE.out.zero.frozen 7; have y8 := DE.out.zero.frozen 8
    clear hE HZ' HR
    go_wp2_with fail
    have hf := fill_at DE.out.zero Cmd.zero
    obtain ⟨wz, ewz⟩ : ∃ wz, wz = fillC wE g2 Cmd.zero := ⟨_, rfl⟩
    rw [← ewz] at hf
    (try simp only [Exit.inBlock, Exit.then])
    refine post_at ewz ?_
    obtain ⟨r0, r1, r2, r3, r4, r5, r6, r7, r8⟩ := hf.1.reads'
    refine bodyPost_ret (v := .tuple #[Cmd.val Cmd.zero, .int .i64 (12 : Nat)]) (by simp [results, Try.results41, go_sem, r0, r1, r2, r3, r4, r5, r6, r7, r8]; try rfl) rfl ?_
    exact ⟨rfl, Leaves.below0 DE.out.bel hf.2 (by have := EG.out; omega)⟩
  · subst hE
    replace HZ' := hide ((if_neg (by simp)).symm.trans HZ'.out)
    go_wp2_with fail
    have HR2 := HR.out wE
    rw [EZ.out] at HR2
    refine HR2.mono ?_
    clear HR2 q0 q1 q2 q3 q4 q5 q6 q7 q8 HR
    rintro e wR ⟨rfl, bR⟩
    have CR := CC.out.below bR
    have ZR := DE.out.zero.below bR
    have BR := nxt DE.out.bel bR
    have hg2 := DE.out.lt.1
    clear bR CC DE
    by_cases hR : Rz = 0
    rotate_left
    · have i1 : ((Rz : Int) != 0) = true := by simp; omega
      obtain ⟨rfl, rfl⟩ : Z = Cmd.zero ∧ Y = Rz := by
        have := HZ'.out
        rw [if_pos hR] at this
        injection this with h1 h2
        exact ⟨h1.symm, h2.symm⟩
      obtain ⟨z0, z1, z2, z3, z4, z5, z6, z7, z8⟩ := ZR.reads'
      have y0 := ZR.frozen 0; have y1 := ZR.frozen 1; have y2 := ZR.frozen 2; have y3 := ZR.frozen 3; have y4 := ZR.frozen 4; have y5 := ZR.frozen 5; have y6 := ZR.frozen 6; have y7 := ZR.frozen 7; have y8 := ZR.frozen 8
      have ZR := hide ZR
      clear HZ' hR CR EZ
      go_wp2_with fail
      have hf := fill_at ZR.out Cmd.zero
      obtain ⟨wz, ewz⟩ : ∃ wz, wz = fillC wR g2 Cmd.zero := ⟨_, rfl⟩
      rw [← ewz] at hf
      (try simp only [Exit.inBlock, Exit.then])
      refine post_at ewz ?_
      obtain ⟨r0, r1, r2, r3, r4, r5, r6, r7, r8⟩ := hf.1.reads'
      refine bodyPost_ret (v := .tuple #[Cmd.val Cmd.zero, .int .i64 (Y : Nat)]) (by simp [results, Try.results41, go_sem, r0, r1, r2, r3, r4, r5, r6, r7, r8]; try rfl) rfl ?_
      exact ⟨rfl, Leaves.below0 BR hf.2 (by have := EG.out; omega)⟩
    · subst hR
      obtain ⟨rfl, rfl⟩ : Z = z ∧ Y = 0 := by
        have := HZ'.out
        rw [if_neg (by simp)] at this
        injection this with h1 h2
        exact ⟨h1.symm, h2.symm⟩
      obtain ⟨q0, q1, q2, q3, q4, q5, q6, q7, q8⟩ := CR.reads'
      obtain ⟨z0, z1, z2, z3, z4, z5, z6, z7, z8⟩ := ZR.reads'
      have y0 := ZR.frozen 0; have y1 := ZR.frozen 1; have y2 := ZR.frozen 2; have y3 := ZR.frozen 3; have y4 := ZR.frozen 4; have y5 := ZR.frozen 5; have y6 := ZR.frozen 6; have y7 := ZR.frozen 7; have y8 := ZR.frozen 8
      have ZR := hide ZR
      clear HZ' CR EZ
      go_wp2_with fail
      have hf := fill_at ZR.out Z
      obtain ⟨wz, ewz⟩ : ∃ wz, wz = fillC wR g2 Z := ⟨_, rfl⟩
      rw [← ewz] at hf
      (try simp only [Exit.inBlock, Exit.then])
      refine post_at ewz ?_
      obtain ⟨r0, r1, r2, r3, r4, r5, r6, r7, r8⟩ := hf.1.reads'
      refine bodyPost_ret (v := .tuple #[Cmd.val Z, .int .i64 (0 : Nat)]) (by simp [results, Try.results41, go_sem, r0, r1, r2, r3, r4, r5, r6, r7, r8]; try rfl) rfl ?_
      exact ⟨rfl, Leaves.below0 BR hf.2 (by have := EG.out; omega)⟩
end Go.Proofs.Ytjahndamfhfjcaa
