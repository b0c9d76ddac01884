/-
  The walk of DiskPlays.
-/
import Derived.Test.YtfdilhoeikkhoaaRef22
import Derived.Test.YtfdilhoeikkhoaaArgs
import Derived.Test.YtfdilhoeikkhoaaTwo22
import Derived.Test.YtfdilhoeikkhoaaRoom
import Derived.Test.YtfdilhoeikkhoaaStrs
import Derived.Deep.CutBlock
namespace Go.Proofs.Ytfdilhoeikkhoaa
open Go.RowKit
set_option linter.unusedVariables false

theorem stays_cell {w u : World} {p : Addr} {x : Value} (h : Stays w u) (hc : w.cell? p = some x) : u.cell? p = some x := (Below.cell h (World.block_lt_of_cell? w p hc)).trans hc
theorem RefAt.far {w w' : World} {d e : Nat} {r s : Option Nat} {l : List UInt8} {n : Nat} (h : RefAt w d r l n) (hb : Leaves e s w w') (hf : Far d r e s) : RefAt w' d r l n :=
  h.other hb hf.ne hf.row fun g hg => ⟨fun he => hf.other (by rw [hg, he]), hf.rows g hg⟩
theorem DiskAt.farQ {w w' : World} {d e : Nat} {r s : Option Nat} {l : List UInt8} {n : Nat} (h : DiskAt w d r l n) (hb : Leaves e none w w') (hf : Far d r e s) : DiskAt w' d r l n :=
  h.other hb hf.ne (by simp) fun g hg => ⟨fun he => hf.other (by rw [hg, he]), by simp⟩
theorem RefAt.farQ {w w' : World} {d e : Nat} {r s : Option Nat} {l : List UInt8} {n : Nat} (h : RefAt w d r l n) (hb : Leaves e none w w') (hf : Far d r e s) : RefAt w' d r l n :=
  h.other hb hf.ne (by simp) fun g hg => ⟨fun he => hf.other (by rw [hg, he]), by simp⟩
theorem Far.growR {w : World} {d e : Nat} {r s s' : Option Nat} {l : List UInt8} {n : Nat} (h : Far d r e s) (D : RefAt w d r l n) (hs : s' = s ∨ ∀ g, s' = some g → w.heap.size ≤ g) : Far d r e s' := by
  rcases hs with rfl | hs
  · exact h
  · refine ⟨h.ne, fun he => ?_, h.other, fun g hg he => ?_⟩
    · have := hs d he.symm; have := D.row_lt.1; omega
    · have := hs g he.symm; have := (D.row_lt.2 g hg).2; omega

/-- A list of asks: each a kind, a number, bytes. -/
structure Asks (w : World) (A : Option Addr) (n c : Nat) : Prop where
  le : n ≤ c
  max : c ≤ maxLen
  at_ : ∀ i, i < n → ∃ (b o : Nat) (kind num : Int) (A' : Option Addr) (c' : Nat) (l' : List Int), A = some ⟨b, o, none⟩ ∧ b < w.heap.size ∧ w.cell? ⟨b, o + i * 3, none⟩ = some (.int .i64 kind) ∧ w.cell? ⟨b, o + i * 3 + 1, none⟩ = some (.int .i64 num) ∧
    w.cell? ⟨b, o + i * 3 + 2, none⟩ = some (.slice A' l'.length c') ∧ (Lit.int .i64 kind).wf = true ∧ (Lit.int .i64 num).wf = true ∧ ArgI .u8 w A' c' l'

theorem of_args_Ask {H : Type} {enc : TypeId × Value → H} {base : Nat} {held : Bool} {fs : Array Field} {w : World} {A : Option Addr} {n c : Nat} (h : ArgS enc Try.prog base held fs w A n c) (hfs : Try.prog.underlying 42 = some (.struct fs)) : Asks w A n c := by
  have hu := Try.underlying42
  rw [hu] at hfs
  injection hfs with hfs
  injection hfs with hfs
  subst hfs
  refine ⟨h.le, h.max, fun i hi => ?_⟩
  obtain ⟨b, o, vs, rfl, hb, hlen, hcell, hf⟩ := h.at_ i hi
  obtain ⟨v0, h0, f0⟩ := hf 0 _ rfl
  obtain ⟨v1, h1, f1⟩ := hf 1 _ rfl
  obtain ⟨v2, h2, f2⟩ := hf 2 _ rfl
  obtain ⟨kind, rfl, w0⟩ := f0.int Try.underlying3
  obtain ⟨num, rfl, w1⟩ := f1.int Try.underlying3
  obtain ⟨A', c', l', rfl, ha⟩ := f2.ints Try.underlying26 Try.underlying5 (by kernel_rfl)
  exact ⟨b, o, kind, num, A', c', l', rfl, hb, hcell 0 _ h0, hcell 1 _ h1, hcell 2 _ h2, w0, w1, ha⟩

set_option maxRecDepth 100000 in
set_option maxHeartbeats 3200000 in
theorem diskPlays_walk (A0 : Option Addr) (n0 c0 : Nat) (w : World) (h0 : Asks w A0 n0 c0) :
    Calls Try.prog 6 #[.slice A0 n0 c0] w fun e w' => e = .returned (.bool true) ∧ Below w.heap.size w w' := by
  have hn0 : n0 ≤ 9223372036854775807 := by have := h0.le; have := h0.max; unfold maxLen at this; omega
  go_enter Try.func6, Try.ntmps6
  go_wp2_with fail
  refine (new_any _).mono ?_
  rintro e w1 ⟨d, rfl, hd, D1, B1⟩
  go_wp2_with fail
  have hdw := D1.row_lt
  obtain ⟨w2, hw2⟩ : ∃ w2, w2 = w1.alloc (.cells #[.slice none 0 0, .int .i64 0] 40) := ⟨_, rfl⟩
  obtain ⟨q, hq⟩ : ∃ q, q = w1.heap.size := ⟨_, rfl⟩
  have R2 : RefAt w2 q none [] 0 := by subst hw2; subst hq; exact ⟨⟨none, 0, heap_alloc_new _ _, World.ownsRow_nil _ _ _ _, rfl, Nat.le_refl _⟩, Nat.le_refl _, by simp⟩
  have D2 : DiskAt w2 d none [] 0 := by subst hw2; exact D1.below ((Below.refl _ _).alloc (Nat.le_refl _) _)
  have B2 : Below w.heap.size w w2 := by subst hw2; exact nxt_alloc B1 _
  have F2 : Far d none q none := ⟨by omega, by simp, by simp, by simp⟩
  have hq0 : w.heap.size ≤ q := by have := B1.size; omega
  rw [← hw2, ← hq]
  clear hw2 hq D1 B1 hdw
  go_loopw [5] (fun i wr => ∃ (k : Nat) (r s : Option Nat) (l : List UInt8) (n : Nat), k ≤ n0 ∧ k ≤ 80 ∧ i = .int .i64 k ∧ DiskAt wr d r l n ∧ RefAt wr q s l n ∧ l.length ≤ 100 * k ∧ Far d r q s ∧ Below w.heap.size w wr) (fun i _ => n0 - (intOf i).toNat)
  case atStart => exact ⟨0, none, none, [], 0, Nat.zero_le _, by omega, rfl, D2, R2, by simp, F2, B2⟩
  case round =>
    obtain ⟨k, r, s, l, n, hk, hk80, rfl, D, R, hll, F, B⟩ := hrel
    clear D2 R2 F2 B2
    by_cases hlt : k < n0 ∧ k < 80
    · obtain ⟨hlt, hlt80⟩ := hlt
      obtain ⟨b, o, kind, num, Ax, cx, lx, rfl, hbb, e0, e1, e2, -, -, hax⟩ := h0.at_ k hlt
      have i1 : (k : Int) < n0 := by omega
      have c0' := (B.cell (p := ⟨b, o + k * 3, none⟩) hbb).trans e0
      have c1' := (B.cell (p := ⟨b, o + k * 3 + 1, none⟩) hbb).trans e1
      have c2' := (B.cell (p := ⟨b, o + k * 3 + 2, none⟩) hbb).trans e2
      clear e0 e1 e2
      obtain ⟨x, m, hxm, hxc, hm100, hmc, pm, qm⟩ := hax.cutB 100
      have hlc := hax.le
      have hlx := hax.max
      unfold maxLen at hlx
      have HXM := hide hxm; have PM := hide pm; have QM := hide qm
      clear hax hxm pm qm h0
      go_upto_if 30 with (fail)
      go_cut [] (fun wx => wx = wr.alloc (.cells #[.int .i64 kind, .int .i64 num, .slice Ax m cx] 42))
      case first =>
        by_cases h : lx.length ≤ 100
        · have e1 := PM.out h
          go_wp2_with fail
          go_meet
          rw [e1]
        · have e1 := QM.out (by omega)
          go_wp2_with fail
          go_meet
          rw [e1]
      have bv : Below wr.heap.size wr wc := by rw [hcut]; exact (Below.refl _ _).alloc (Nat.le_refl _) _
      obtain ⟨v, hv⟩ : ∃ v, v = wr.heap.size := ⟨_, rfl⟩
      have hb0 : wc.heap[v]? = some (.cells #[.int .i64 kind, .int .i64 num, .slice Ax m cx] 42 (0, 0)) := by rw [hcut, hv]; exact heap_alloc_new _ _
      have hvw : w.heap.size ≤ v := by rw [hv]; exact B.size
      have hdv := D.row_lt
      have hqv := R.row_lt
      have D1 := D.below bv
      have R1 := R.below bv
      have B1 := nxt B bv
      have hvc : v < wc.heap.size := (Array.getElem?_eq_some_iff.1 hb0).1
      rw [← hv] at hdv hqv ⊢
      clear hcut bv D R B c0' c1' c2' hv PM QM hlc
      have v0 : ∀ u : World, u.heap[v]? = wc.heap[v]? → u.cell? ⟨v, 0, none⟩ = some (.int .i64 kind) := fun u h => by simp [World.cell?, h, hb0]
      have v1 : ∀ u : World, u.heap[v]? = wc.heap[v]? → u.cell? ⟨v, 1, none⟩ = some (.int .i64 num) := fun u h => by simp [World.cell?, h, hb0]
      have v2 : ∀ u : World, u.heap[v]? = wc.heap[v]? → u.cell? ⟨v, 2, none⟩ = some (.slice Ax m cx) := fun u h => by simp [World.cell?, h, hb0]
      have V0 := hide v0; have V1 := hide v1; have V2 := hide v2
      clear v0 v1 v2 hb0
      have k2 := V2.out wc rfl
      go_wp2_with fail
      refine (roomy_any Ax m cx x 165 _ HXM.out (by omega) (hxc.below B1)).mono ?_
      rintro e w4 ⟨Af, cf, rfl, ownf, -, hlef, hmf, hb⟩
      rw [length_roomy, HXM.out] at ownf hlef ⊢
      have D4 := D1.below hb
      have R4 := R1.below hb
      have B4 := nxt B1 hb
      have hv4 : w4.heap[v]? = wc.heap[v]? := hb.block v hvc
      have k0 := V0.out w4 hv4
      have hvf : v < wc.heap.size := hvc
      have hds : d < wc.heap.size ∧ q < wc.heap.size := ⟨D1.row_lt.1, R1.row_lt.1⟩
      have cfull : Cells w4 Af (u8s (roomy x 165)) := Cells.of_own ownf
      have AF : ∀ b o, Af = some ⟨b, o, none⟩ → wc.heap.size ≤ b := fun b o h => (ownf.lt b (by rw [h]; rfl)).1
      have hv4l : v < w4.heap.size := by have := hb.size; omega
      clear D1 R1 B1 k2 hb ownf
      go_upto_block 2 with (fail)
      go_cut [] (fun wx => ∃ (r' s' : Option Nat) (l' : List UInt8) (n' : Nat), DiskAt wx d r' l' n' ∧ RefAt wx q s' l' n' ∧ l'.length ≤ 100 * (k + 1) ∧ Far d r' q s' ∧ Below w.heap.size w wx ∧ wx.heap[v]? = wc.heap[v]? ∧ Cells wx Af (u8s (roomy x 165)))
      case first =>
        by_cases t1 : kind = 1
        · subst t1
          have l2 : ∀ u, Holds v w4.drew u → u.cell? ⟨v, 2, none⟩ = some (.slice Ax m cx) := fun u h => V2.out u (Eq.trans h hv4)
          have i4 : (m : Int) ≤ cf := by omega
          go_wp2_with fail
          refine wp_region_grow (R := Holds v) 99999 [6, 10] [0, 1, 2, 3, 4, 5, 7, 8, 9, 6, 10, 11] (by kernel_rfl) (Holds.tr v) (Holds.rf v) (by kernel_rfl) (fun _ _ _ _ _ h => h) ?_
          (repeat ((first | (refine grow_skip (by rfl) (by rfl) ?_ (by first | exact Stays.rf _ | exact Lower.rf _ _ | exact Holds.rf _ _)) | (refine grow_take (v := ?_) (by rfl) (by rfl) (by rfl) ?_ ?_; rotate_left 1; focus (intro w' hSw; go_simp; (try (with_reducible rfl)); done))); (try simp only [Act.put, List.setIfInBounds_toArray, List.set_cons_zero, List.set_cons_succ])))
          clear l2
          refine grow_move (by rfl) (by rfl) (by rfl) (fun K hK => ?_); go_simp
          refine (append_any d r l x n Af m cf _ D4.drew HXM.out (by rw [HXM.out]; omega) (by have := cfull.drew.takeB x.length; rwa [take_roomy] at this)).mono ?_
          rintro e w5 ⟨rfl, r5, D5, hr5, L5⟩
          have hv5 : w5.heap[v]? = w4.heap[v]? := L5.block v hv4l (by omega) (fun he => by have := (hdv.2 v he.symm).2; omega)
          refine hK.out _ _ (hv5) ?_; clear hK K; (try simp only [Act.put, List.setIfInBounds_toArray, List.set_cons_zero, List.set_cons_succ])
          have R5 := R4.drew.far L5 F.symm
          have F5 := (F.symm.growR R4.drew hr5).symm
          have B5 := nxtD hd (nxt_drew B4) D4.drew L5 (.inl rfl)
          have cf5 := L5.cells cfull.drew (fun b o h => ⟨by have := AF b o h; omega, fun he => by have := AF b o h; have := (hdv.2 b he.symm).2; omega⟩)
          have hs5 := L5.size
          clear D4 R4 B4 L5 cfull hr5
          (repeat ((first | (refine grow_skip (by rfl) (by rfl) ?_ (by first | exact Stays.rf _ | exact Lower.rf _ _ | exact Holds.rf _ _)) | (refine grow_take (v := ?_) (by rfl) (by rfl) (by rfl) ?_ ?_; rotate_left 1; focus (intro w' hSw; go_simp; (try (with_reducible rfl)); done))); (try simp only [Act.put, List.setIfInBounds_toArray, List.set_cons_zero, List.set_cons_succ])))
          refine grow_move (by rfl) (by rfl) (by rfl) (fun K hK => ?_); go_simp
          refine (refAppend_any q s l x n Ax m cx _ R5 HXM.out (by rw [HXM.out]; omega) (hxc.below B5)).mono ?_
          rintro e w6 ⟨rfl, s6, R6, hs6, L6⟩
          have hv6 : w6.heap[v]? = w5.heap[v]? := L6.block v (by simp at hs5; omega) (by omega) (by simp)
          refine hK.out _ _ (hv6) ?_; clear hK K; (try simp only [Act.put, List.setIfInBounds_toArray, List.set_cons_zero, List.set_cons_succ])
          have D6 := D5.farQ L6 F5
          have F6 := F5.grow D5 (.inr hs6)
          have B6 := nxtR hq0 B5 R5 L6 (.inr rfl)
          have cf6 := L6.cells cf5 (fun b o h => ⟨by have := AF b o h; omega, by simp⟩)
          clear D5 R5 B5 L6 hs6
          (repeat ((first | (refine grow_skip (by rfl) (by rfl) ?_ (by first | exact Stays.rf _ | exact Lower.rf _ _ | exact Holds.rf _ _)) | (refine grow_take (v := ?_) (by rfl) (by rfl) (by rfl) ?_ ?_; rotate_left 1; focus (intro w' hSw; go_simp; (try (with_reducible rfl)); done))); (try simp only [Act.put, List.setIfInBounds_toArray, List.set_cons_zero, List.set_cons_succ])))
          refine grow_done ?_
          go_wp2_with fail
          go_meet
          exact ⟨r5, s6, l ++ x, n, D6, R6, by simp [HXM.out]; omega, F6, B6, hv6.trans (hv5.trans hv4), cf6⟩
        · by_cases t2 : kind = 2
          · subst t2
            have t1' : ((2 : Int) == 1) = false := by decide
            go_wp2_with fail
            refine (sync_any d r l n _ D4).mono ?_
            rintro e w5 ⟨rfl, D5, L5⟩
            have hv5 : w5.heap[v]? = w4.heap[v]? := L5.block v hv4l (by omega) (fun he => by have := (hdv.2 v he.symm).2; omega)
            have R5 := R4.far L5 F.symm
            have B5 := nxtD hd B4 D4 L5 (.inl rfl)
            have cf5 := L5.cells cfull (fun b o h => ⟨by have := AF b o h; omega, fun he => by have := AF b o h; have := (hdv.2 b he.symm).2; omega⟩)
            have hs5 := L5.size
            clear D4 R4 B4 L5 cfull
            go_wp2_with fail
            refine (refSync_any q s l n _ R5).mono ?_
            rintro e w6 ⟨rfl, R6, L6⟩
            have hv6 : w6.heap[v]? = w5.heap[v]? := L6.block v (by omega) (by omega) (fun he => by have := (hqv.2 v he.symm).2; omega)
            have D6 := D5.far L6 F
            have B6 := nxtR hq0 B5 R5 L6 (.inl rfl)
            have cf6 := L6.cells cf5 (fun b o h => ⟨by have := AF b o h; omega, fun he => by have := AF b o h; have := (hqv.2 b he.symm).2; omega⟩)
            go_wp2_with fail
            go_meet
            exact ⟨r, s, l, l.length, D6, R6, by omega, F, B6, hv6.trans (hv5.trans hv4), cf6⟩
          · by_cases t3 : kind = 3
            · subst t3
              have t1' : ((3 : Int) == 1) = false := by decide
              have t2' : ((3 : Int) == 2) = false := by decide
              have l2 : ∀ u, Holds v w4.drew u → u.cell? ⟨v, 2, none⟩ = some (.slice Ax m cx) := fun u h => V2.out u (Eq.trans h hv4)
              have i4 : (m : Int) ≤ cf := by omega
              go_wp2_with fail
              refine wp_region_grow (R := Holds v) 99999 [6, 10] [0, 1, 2, 3, 4, 5, 7, 8, 9, 6, 10, 11] (by kernel_rfl) (Holds.tr v) (Holds.rf v) (by kernel_rfl) (fun _ _ _ _ _ h => h) ?_
              (repeat ((first | (refine grow_skip (by rfl) (by rfl) ?_ (by first | exact Stays.rf _ | exact Lower.rf _ _ | exact Holds.rf _ _)) | (refine grow_take (v := ?_) (by rfl) (by rfl) (by rfl) ?_ ?_; rotate_left 1; focus (intro w' hSw; go_simp; (try (with_reducible rfl)); done))); (try simp only [Act.put, List.setIfInBounds_toArray, List.set_cons_zero, List.set_cons_succ])))
              clear l2
              refine grow_move (by rfl) (by rfl) (by rfl) (fun K hK => ?_); go_simp
              refine (swap_any d r l x n Af m cf _ D4.drew HXM.out (by rw [HXM.out]; omega) (by have := cfull.drew.takeB x.length; rwa [take_roomy] at this)).mono ?_
              rintro e w5 ⟨rfl, r5, D5, hr5, L5⟩
              have hv5 : w5.heap[v]? = w4.heap[v]? := L5.block v hv4l (by omega) (by simp)
              refine hK.out _ _ (hv5) ?_; clear hK K; (try simp only [Act.put, List.setIfInBounds_toArray, List.set_cons_zero, List.set_cons_succ])
              have R5 := R4.drew.farQ L5 F.symm
              have F5 := (F.symm.growR R4.drew (.inr hr5)).symm
              have B5 := nxtD hd (nxt_drew B4) D4.drew L5 (.inr rfl)
              have cf5 := L5.cells cfull.drew (fun b o h => ⟨by have := AF b o h; omega, by simp⟩)
              have hs5 := L5.size
              clear D4 R4 B4 L5 cfull hr5
              (repeat ((first | (refine grow_skip (by rfl) (by rfl) ?_ (by first | exact Stays.rf _ | exact Lower.rf _ _ | exact Holds.rf _ _)) | (refine grow_take (v := ?_) (by rfl) (by rfl) (by rfl) ?_ ?_; rotate_left 1; focus (intro w' hSw; go_simp; (try (with_reducible rfl)); done))); (try simp only [Act.put, List.setIfInBounds_toArray, List.set_cons_zero, List.set_cons_succ])))
              refine grow_move (by rfl) (by rfl) (by rfl) (fun K hK => ?_); go_simp
              refine (refSwap_any q s l x n Ax m cx _ R5 HXM.out (by rw [HXM.out]; omega) (hxc.below B5)).mono ?_
              rintro e w6 ⟨rfl, s6, R6, hs6, L6⟩
              have hv6 : w6.heap[v]? = w5.heap[v]? := L6.block v (by simp at hs5; omega) (by omega) (by simp)
              refine hK.out _ _ (hv6) ?_; clear hK K; (try simp only [Act.put, List.setIfInBounds_toArray, List.set_cons_zero, List.set_cons_succ])
              have D6 := D5.farQ L6 F5
              have F6 := F5.grow D5 (.inr hs6)
              have B6 := nxtR hq0 B5 R5 L6 (.inr rfl)
              have cf6 := L6.cells cf5 (fun b o h => ⟨by have := AF b o h; omega, by simp⟩)
              clear D5 R5 B5 L6 hs6
              (repeat ((first | (refine grow_skip (by rfl) (by rfl) ?_ (by first | exact Stays.rf _ | exact Lower.rf _ _ | exact Holds.rf _ _)) | (refine grow_take (v := ?_) (by rfl) (by rfl) (by rfl) ?_ ?_; rotate_left 1; focus (intro w' hSw; go_simp; (try (with_reducible rfl)); done))); (try simp only [Act.put, List.setIfInBounds_toArray, List.set_cons_zero, List.set_cons_succ])))
              refine grow_done ?_
              go_wp2_with fail
              go_meet
              exact ⟨r5, s6, x, x.length, D6, R6, by rw [HXM.out]; omega, F6, B6, hv6.trans (hv5.trans hv4), cf6⟩
            · have t1' : (kind == 1) = false := by simpa using t1
              have t2' : (kind == 2) = false := by simpa using t2
              have t3' : (kind == 3) = false := by simpa using t3
              have kn := V1.out w4 hv4
              have hcb := crashLen_bd l.length n num D4.le
              go_wp2_with fail
              refine (crash_any d r l n num _ D4).mono ?_
              rintro e w5 ⟨rfl, D5, L5⟩
              have hv5 : w5.heap[v]? = w4.heap[v]? := L5.block v hv4l (by omega) (fun he => by have := (hdv.2 v he.symm).2; omega)
              have R5 := R4.far L5 F.symm
              have B5 := nxtD hd B4 D4 L5 (.inl rfl)
              have cf5 := L5.cells cfull (fun b o h => ⟨by have := AF b o h; omega, fun he => by have := AF b o h; have := (hdv.2 b he.symm).2; omega⟩)
              have hs5 := L5.size
              clear D4 R4 B4 L5 cfull kn
              have kn := V1.out w5 (hv5.trans hv4)
              go_wp2_with fail
              refine (refCrash_any q s l n num _ R5).mono ?_
              rintro e w6 ⟨rfl, s6, R6, hs6, L6⟩
              have hv6 : w6.heap[v]? = w5.heap[v]? := L6.block v (by omega) (by omega) (by simp)
              have D6 := D5.farQ L6 F
              have F6 := F.grow D5 (.inr hs6)
              have B6 := nxtR hq0 B5 R5 L6 (.inr rfl)
              have cf6 := L6.cells cf5 (fun b o h => ⟨by have := AF b o h; omega, by simp⟩)
              go_wp2_with fail
              go_meet
              exact ⟨r, s6, _, _, D6, R6, by simp; omega, F6, B6, hv6.trans (hv5.trans hv4), cf6⟩
      obtain ⟨r', s', l', n', D', R', hll', F', B', hv', cf'⟩ := hcut
      clear D4 R4 B4 cfull k0 F
      obtain ⟨Aq, cq, q0, q1, -, -, qown, -, -, -, -, -⟩ := R'.reads
      have qc : Cells wc Aq (u8s l') := Cells.of_own qown
      have m2 := V2.out wc hv'
      clear qown
      go_wp2_with fail
      have a0 := fun u (hS : Stays wc.drew u) => stays_cell hS (show wc.drew.cell? ⟨q, 0, none⟩ = some _ from q0)
      have a1 := qc.drew.strs (P := Try.prog) Try.underlying26 Try.underlying5 Try.underlying9 rfl
      refine wp_region_grow (R := Stays) 99999 [1, 11, 22] [0, 3, 4, 5, 6, 7, 1, 2, 8, 9, 10, 12, 13, 14, 15, 11, 16, 17, 18, 19, 20, 21, 22, 23, 24] (by kernel_rfl) Stays.tr Stays.rf (by kernel_rfl) (fun _ _ _ _ _ h => h) ?_
      (repeat ((first | (refine grow_skip (by rfl) (by rfl) ?_ (by first | exact Stays.rf _ | exact Lower.rf _ _ | exact Holds.rf _ _)) | (refine grow_take (v := ?_) (by rfl) (by rfl) (by rfl) ?_ ?_; rotate_left 1; focus (intro w' hSw; go_simp; (try (with_reducible rfl)); done))); (try simp only [Act.put, List.setIfInBounds_toArray, List.set_cons_zero, List.set_cons_succ])))
      clear a0 a1
      refine grow_move (by rfl) (by rfl) (by rfl) (fun K hK => ?_); go_simp
      refine (bytes_any d _ _ _ _ D'.drew).mono ?_
      rintro e wi ⟨Ai, ci, rfl, -, hAi, -, -, hb⟩
      refine hK.out _ _ (hb) ?_; clear hK K; (try simp only [Act.put, List.setIfInBounds_toArray, List.set_cons_zero, List.set_cons_succ])
      have Di := D'.drew.below hb
      have Ri := R'.drew.below hb
      have Bi := nxt (nxt_drew B') hb
      have cfi := cf'.drew.below hb
      have a1 := hAi.strs (P := Try.prog) Try.underlying26 Try.underlying5 Try.underlying9 rfl
      have a2 := fun u (hS : Stays wi u) => stays_cell hS (stays_cell hb (show wc.drew.cell? ⟨q, 1, none⟩ = some _ from q1))
      have a3 := fun u (hS : Stays wi u) => stays_cell hS (stays_cell hb (show wc.drew.cell? ⟨v, 2, none⟩ = some _ from m2))
      clear D' R' B' cf' hb qc
      (repeat ((first | (refine grow_skip (by rfl) (by rfl) ?_ (by first | exact Stays.rf _ | exact Lower.rf _ _ | exact Holds.rf _ _)) | (refine grow_take (v := ?_) (by rfl) (by rfl) (by rfl) ?_ ?_; rotate_left 1; focus (intro w' hSw; go_simp; (try (with_reducible rfl)); done))); (try simp only [Act.put, List.setIfInBounds_toArray, List.set_cons_zero, List.set_cons_succ])))
      refine grow_move (by rfl) (by rfl) (by rfl) (fun K hK => ?_); go_simp
      refine (safe_any d _ _ _ _ Di).mono ?_
      rintro e wh ⟨rfl, rfl⟩
      have hb := Below.refl wi.heap.size wi
      refine hK.out _ _ (hb) ?_; clear hK K; (try simp only [Act.put, List.setIfInBounds_toArray, List.set_cons_zero, List.set_cons_succ])
      (repeat ((first | (refine grow_skip (by rfl) (by rfl) ?_ (by first | exact Stays.rf _ | exact Lower.rf _ _ | exact Holds.rf _ _)) | (refine grow_take (v := ?_) (by rfl) (by rfl) (by rfl) ?_ ?_; rotate_left 1; focus (intro w' hSw; go_simp; (try (with_reducible rfl)); done))); (try simp only [Act.put, List.setIfInBounds_toArray, List.set_cons_zero, List.set_cons_succ])))
      clear a1 a2 a3 hb
      refine grow_move (by rfl) (by rfl) (by rfl) (fun K hK => ?_); go_simp
      refine (intact_true Af Ax (m + 80) cf m cx x 165 _ rfl (by omega) (by unfold maxLen at hmf; omega) HXM.out (by omega) cfi (hxc.below Bi)).mono ?_
      rintro e wk ⟨rfl, hb⟩
      refine hK.out _ _ (hb) ?_; clear hK K; (try simp only [Act.put, List.setIfInBounds_toArray, List.set_cons_zero, List.set_cons_succ])
      (repeat ((first | (refine grow_skip (by rfl) (by rfl) ?_ (by first | exact Stays.rf _ | exact Lower.rf _ _ | exact Holds.rf _ _)) | (refine grow_take (v := ?_) (by rfl) (by rfl) (by rfl) ?_ ?_; rotate_left 1; focus (intro w' hSw; go_simp; (try (with_reducible rfl)); done))); (try simp only [Act.put, List.setIfInBounds_toArray, List.set_cons_zero, List.set_cons_succ])))
      refine grow_done ?_
      go_wp2_with fail
      go_roundw
      case rel => exact ⟨k + 1, r', s', l', n', by omega, by omega, by go_num, Di.below hb, Ri.below hb, hll', F', nxt Bi hb⟩
      case measure => simp [intOf]; omega
    · have hlt' : ¬ k < n0 ∨ (k < n0 ∧ ¬ k < 80) := by omega
      clear hlt h0
      rcases hlt' with hlt | ⟨hlt, hlt80⟩
      all_goals
        go_wp2_with fail
        refine (known22_any _).mono ?_
        rintro e w7 ⟨rfl, hb7⟩
        go_wp2
        go_ret
        exact ⟨rfl, nxt B hb7⟩
end Go.Proofs.Ytfdilhoeikkhoaa
