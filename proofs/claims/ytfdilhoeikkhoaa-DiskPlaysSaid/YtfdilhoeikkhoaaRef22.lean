/-
  The reference's disk of chapter 22: in memory, and each of its methods.
-/
import Derived.Test.YtfdilhoeikkhoaaDisk
import Derived.Test.YtfdilhoeikkhoaaGrow
import Derived.Test.YtfdilhoeikkhoaaCut
import Derived.Deep.DeepCutAuto
namespace Go.Proofs.Ytfdilhoeikkhoaa
open Go.RowKit
set_option linter.unusedVariables false

/-- Block d is the reference's disk of the bytes l, of which the first s are safe; its bytes lie in row r. -/
structure RefAt (w : World) (d : Nat) (r : Option Nat) (l : List UInt8) (s : Nat) : Prop where
  blk : ∃ A c, w.heap[d]? = some (.cells #[.slice A l.length c, .int .i64 (s : Int)] 40 (0, 0)) ∧ w.ownsRow (d + 1) 5 1 (.slice A l.length c) l.length (u8s l) ∧ (Value.slice A l.length c).ownBlock = r ∧ l.length ≤ c
  le : s ≤ l.length
  small : l.length ≤ 1048576
theorem RefAt.row_lt {w : World} {d : Nat} {r : Option Nat} {l : List UInt8} {s : Nat} (h : RefAt w d r l s) : d < w.heap.size ∧ ∀ g, r = some g → d < g ∧ g < w.heap.size := by
  obtain ⟨A, c, hb, ho, hr, _⟩ := h.blk
  refine ⟨(Array.getElem?_eq_some_iff.1 hb).1, fun g hg => ?_⟩
  have := ho.lt g (hr.trans hg)
  omega
theorem RefAt.keep {w w' : World} {d : Nat} {r : Option Nat} {l : List UInt8} {s : Nat} (h : RefAt w d r l s) (hd : w'.heap[d]? = w.heap[d]?) (hr : ∀ g, r = some g → w'.heap[g]? = w.heap[g]?) (hs : w.heap.size ≤ w'.heap.size) : RefAt w' d r l s := by
  obtain ⟨A, c, hb, ho, hrow, hc⟩ := h.blk
  refine ⟨⟨A, c, hd.trans hb, ?_, hrow, hc⟩, h.le, h.small⟩
  refine ⟨ho.1, ?_⟩
  rcases ho.2 with h0 | ⟨g, cap, cur, hv, hg, hh, rest⟩
  · exact .inl h0
  · refine .inr ⟨g, cap, cur, hv, hg, ?_, rest⟩
    have : r = some g := by rw [← hrow, hv]; rfl
    rw [hr g this]; exact hh
theorem RefAt.drew {w : World} {d : Nat} {r : Option Nat} {l : List UInt8} {s : Nat} (h : RefAt w d r l s) : RefAt w.drew d r l s := h.keep rfl (fun _ _ => rfl) (Nat.le_refl _)
theorem RefAt.drewN {w : World} {d : Nat} {r : Option Nat} {l : List UInt8} {s : Nat} (h : RefAt w d r l s) (n : Nat) : RefAt (w.drewN n) d r l s := h.keep rfl (fun _ _ => rfl) (Nat.le_refl _)
theorem RefAt.below {w w' : World} {d : Nat} {r : Option Nat} {l : List UInt8} {s : Nat} (h : RefAt w d r l s) (hb : Below w.heap.size w w') : RefAt w' d r l s :=
  h.keep (hb.block d h.row_lt.1) (fun g hg => hb.block g (h.row_lt.2 g hg).2) hb.size
theorem RefAt.other {w w' : World} {d d' : Nat} {r r' : Option Nat} {l : List UInt8} {s : Nat} (h : RefAt w d r l s) (hb : Leaves d' r' w w') (h1 : d ≠ d') (h2 : some d ≠ r') (h3 : ∀ g, r = some g → g ≠ d' ∧ some g ≠ r') : RefAt w' d r l s :=
  h.keep (hb.block d h.row_lt.1 h1 h2) (fun g hg => hb.block g (h.row_lt.2 g hg).2 (h3 g hg).1 (h3 g hg).2) hb.size

theorem RefAt.reads {w : World} {d : Nat} {r : Option Nat} {l : List UInt8} {s : Nat} (h : RefAt w d r l s) :
    ∃ A c, w.cell? ⟨d, 0, none⟩ = some (.slice A l.length c) ∧ w.cell? ⟨d, 1, none⟩ = some (.int .i64 (s : Int)) ∧ w.frozen? ⟨d, 0, none⟩ = false ∧ w.frozen? ⟨d, 1, none⟩ = false ∧
      w.ownsRow (d + 1) 5 1 (.slice A l.length c) l.length (u8s l) ∧ (Value.slice A l.length c).ownBlock = r ∧ l.length ≤ c ∧ d < w.heap.size ∧ s ≤ l.length ∧ l.length ≤ 1048576 := by
  obtain ⟨A, c, hb, ho, hr, hc⟩ := h.blk
  refine ⟨A, c, by simp [World.cell?, hb], by simp [World.cell?, hb], by simp [World.frozen?, hb], by simp [World.frozen?, hb], ho, hr, hc, h.row_lt.1, h.le, h.small⟩

theorem RefAt.block {w : World} {d : Nat} {r : Option Nat} {l : List UInt8} {s : Nat} (h : RefAt w d r l s) {A : Option Addr} {c : Nat} (h0 : w.cell? ⟨d, 0, none⟩ = some (.slice A l.length c)) :
    w.heap[d]? = some (.cells #[.slice A l.length c, .int .i64 (s : Int)] 40 (0, 0)) := by
  obtain ⟨A', c', hb, _⟩ := h.blk
  simp only [World.cell?, hb] at h0
  simp at h0
  obtain ⟨rfl, rfl⟩ := h0
  exact hb
theorem RefAt.set0 {w : World} {d : Nat} {v : Value} {l : List UInt8} {s n : Nat} {A : Option Addr} {c : Nat} (hb : w.heap[d]? = some (.cells #[v, .int .i64 (s : Int)] 40 (0, 0))) (hn : l.length = n)
    (ho : w.ownsRow (d + 1) 5 1 (.slice A n c) n (u8s l)) (hc : n ≤ c) (hs : s ≤ n) (hsm : n ≤ 1048576) : RefAt (w.setCell ⟨d, 0, none⟩ (.slice A n c)) d (Value.slice A n c).ownBlock l s := by
  subst hn
  refine ⟨⟨A, c, ?_, ownsRow_setCell_below ho (by show d < d + 1; omega) _, rfl, hc⟩, hs, hsm⟩
  rw [heap_setCell_same _ _ _ _ _ _ hb]; rfl
theorem RefAt.set1 {w : World} {d : Nat} {r : Option Nat} {l : List UInt8} {s s' : Nat} (h : RefAt w d r l s) (hs : s' ≤ l.length) : RefAt (w.setCell ⟨d, 1, none⟩ (.int .i64 (s' : Int))) d r l s' := by
  obtain ⟨A, c, hb, ho, hr, hc⟩ := h.blk
  refine ⟨⟨A, c, ?_, ownsRow_setCell_below ho (by show d < d + 1; omega) _, hr, hc⟩, hs, h.small⟩
  rw [heap_setCell_same _ _ _ _ _ _ hb]; rfl
theorem nxtR {w wa w2 : World} {d : Nat} {r r0 : Option Nat} {l : List UInt8} {s : Nat} (hd : w.heap.size ≤ d) (h : Below w.heap.size w wa) (D : RefAt wa d r0 l s) (hL : Leaves d r wa w2) (hr : r = r0 ∨ r = none) : Below w.heap.size w w2 :=
  h.trans (hL.below hd (fun g hg => by
    rcases hr with rfl | rfl
    · have := (D.row_lt.2 g hg).1; omega
    · cases hg) h.size)

theorem refSync_any (d : Nat) (r : Option Nat) (l : List UInt8) (s : Nat) (w : World) (h : RefAt w d r l s) :
    Calls Try.prog 21 #[.pointer (some ⟨d, 0, none⟩)] w fun e w' => e = .returned (.tuple #[]) ∧ RefAt w' d r l l.length ∧ Leaves d r w w' := by
  obtain ⟨A, c, h0, h1, f0, f1, ho, hr, hc, hd, hs, hsm⟩ := h.reads
  go_enter Try.func21, Try.ntmps21
  go_wp2
  go_end0
  exact ⟨rfl, h.set1 (Nat.le_refl _), (Leaves.refl _ _ _).setCell _ _⟩
theorem refAppend_full (d : Nat) (r : Option Nat) (l x : List UInt8) (s : Nat) (A : Option Addr) (n c : Nat) (w : World) (h : RefAt w d r l s) (hn : x.length = n) (hbig : 1048576 < l.length + x.length) (hx : x.length ≤ 1099511627776) :
    Calls Try.prog 20 #[.pointer (some ⟨d, 0, none⟩), .slice A n c] w fun e w' => e = .returned (.int .i64 13) ∧ w = w' := by
  subst hn
  obtain ⟨A1, c1, h0, h1, f0, f1, ho, hr, hc, hd, hs, hsm⟩ := h.reads
  go_enter Try.func20, Try.ntmps20
  go_wp2
  go_ret
  exact ⟨rfl, rfl⟩
theorem refAppend_any (d : Nat) (r : Option Nat) (l x : List UInt8) (s : Nat) (A : Option Addr) (n c : Nat) (w : World) (h : RefAt w d r l s) (hn : x.length = n) (hfit : l.length + x.length ≤ 1048576) (hA : Cells w A (u8s x)) :
    Calls Try.prog 20 #[.pointer (some ⟨d, 0, none⟩), .slice A n c] w fun e w' => e = .returned (.int .i64 0) ∧ ∃ r', RefAt w' d r' (l ++ x) s ∧ (∀ g, r' = some g → w.heap.size ≤ g) ∧ Leaves d none w w' := by
  subst hn
  obtain ⟨A1, c1, h0, h1, f0, f1, ho, hr, hc, hd, hs, hsm⟩ := h.reads
  have hB : ∀ w2, Below w.heap.size w w2 → w2.cell? ⟨d, 0, none⟩ = some (.slice A1 l.length c1) ∧ w2.frozen? ⟨d, 0, none⟩ = false := fun w2 hb => ⟨(World.cell?_of_block (a := ⟨d, 0, none⟩) (hb.block d hd)).trans h0, (World.frozen?_of_block (a := ⟨d, 0, none⟩) (hb.block d hd)).trans f0⟩
  have HB := hide hB; clear hB
  have hx : ∀ w2, Below w.heap.size w w2 → Cells w2 A (u8s x) := fun w2 hb => hA.below hb
  have HXX := hide hx; clear hx
  have HBLK := hide (h.block h0)
  have cl : Cells w A1 (u8s l) := Cells.of_own ho
  clear h hA ho
  go_enter Try.func20, Try.ntmps20
  go_wp2_with (first
    | (at_builtin
       refine wpList_app elU8 (World.ownsRow_lit (base := w.heap.size) w #[] 0 (Nat.le_refl _) (Nat.zero_le _) rfl) (news := u8s l) rfl _ _ rfl rfl rfl (length_u8s l) (cl.alloc _) (u8s_one l) (by omega) (by simp) l.length (u8s l) (by omega) (by simp) ?_
       intro A4 c4 w4 p4
       have own4 := p4.own
       have b4 := p4.below w.heap.size w (Nat.le_refl _) ((Below.refl _ _).alloc (Nat.le_refl _) _)
       have s4 := b4.size
       clear p4)
    | (at_builtin
       refine wpList_app elU8 own4 (news := u8s x) rfl _ _ rfl rfl rfl (length_u8s x) (HXX.out _ b4) (u8s_one x) (by omega) (by omega) (l.length + x.length) (u8s (l ++ x)) rfl (by simp [u8s]) ?_
       intro A5 c5 w5 p5
       have own5 := p5.own
       have b5 := p5.below w.heap.size w (Nat.le_refl _) b4
       have k0 := (HB.out _ b5).1
       have kf := (HB.out _ b5).2
       clear p5 own4 b4 s4))
  go_ret
  have own5' : w5.ownsRow (d + 1) 5 1 (.slice A5 (l.length + x.length) c5) (l.length + x.length) (u8s (l ++ x)) := own_base own5 (by omega)
  refine ⟨rfl, _, RefAt.set0 ((b5.block d hd).trans HBLK.out) (by simp) own5' (own_shape_le own5') (by omega) (by omega), fun g hg => (own5.lt g hg).1, (Leaves.of_below b5).setCell _ _⟩
theorem refSwap_full (d : Nat) (r : Option Nat) (l x : List UInt8) (s : Nat) (A : Option Addr) (n c : Nat) (w : World) (h : RefAt w d r l s) (hn : x.length = n) (hbig : 1048576 < x.length) :
    Calls Try.prog 22 #[.pointer (some ⟨d, 0, none⟩), .slice A n c] w fun e w' => e = .returned (.int .i64 13) ∧ w = w' := by
  subst hn
  go_enter Try.func22, Try.ntmps22
  go_wp2
  go_ret
  exact ⟨rfl, rfl⟩
theorem refSwap_any (d : Nat) (r : Option Nat) (l x : List UInt8) (s : Nat) (A : Option Addr) (n c : Nat) (w : World) (h : RefAt w d r l s) (hn : x.length = n) (hfit : x.length ≤ 1048576) (hA : Cells w A (u8s x)) :
    Calls Try.prog 22 #[.pointer (some ⟨d, 0, none⟩), .slice A n c] w fun e w' => e = .returned (.int .i64 0) ∧ ∃ r', RefAt w' d r' x x.length ∧ (∀ g, r' = some g → w.heap.size ≤ g) ∧ Leaves d none w w' := by
  subst hn
  obtain ⟨A1, c1, h0, h1, f0, f1, ho, hr, hc, hd, hs, hsm⟩ := h.reads
  have hB : ∀ w2, Below w.heap.size w w2 → w2.cell? ⟨d, 0, none⟩ = some (.slice A1 l.length c1) ∧ w2.frozen? ⟨d, 0, none⟩ = false ∧ w2.cell? ⟨d, 1, none⟩ = some (.int .i64 s) ∧ w2.frozen? ⟨d, 1, none⟩ = false := fun w2 hb =>
    ⟨(World.cell?_of_block (a := ⟨d, 0, none⟩) (hb.block d hd)).trans h0, (World.frozen?_of_block (a := ⟨d, 0, none⟩) (hb.block d hd)).trans f0, (World.cell?_of_block (a := ⟨d, 1, none⟩) (hb.block d hd)).trans h1, (World.frozen?_of_block (a := ⟨d, 1, none⟩) (hb.block d hd)).trans f1⟩
  have HB := hide hB; clear hB
  have HBLK := hide (h.block h0)
  clear h ho
  go_enter Try.func22, Try.ntmps22
  go_wp2_with (at_builtin
               refine wpList_app elU8 (World.ownsRow_lit (base := w.heap.size) w #[] 0 (Nat.le_refl _) (Nat.zero_le _) rfl) (news := u8s x) rfl _ _ rfl rfl rfl (length_u8s x) (hA.alloc _) (u8s_one x) (by omega) (by simp) x.length (u8s x) (by omega) (by simp) ?_
               intro A4 c4 w4 p4
               have own4 := p4.own
               have b4 := p4.below w.heap.size w (Nat.le_refl _) ((Below.refl _ _).alloc (Nat.le_refl _) _)
               have s4 := b4.size
               have k0 := (HB.out _ b4).1
               have kf := (HB.out _ b4).2.1
               have k1 := (HB.out _ b4).2.2.1
               have kf1 := (HB.out _ b4).2.2.2
               clear p4)
  go_ret
  have own5 : w4.ownsRow (d + 1) 5 1 (.slice A4 x.length c4) x.length (u8s x) := own_base own4 (by omega)
  have hle := own_shape_le own5
  refine ⟨rfl, (Value.slice A4 x.length c4).ownBlock, ?_, fun g hg => (own4.lt g hg).1, ((Leaves.of_below b4).setCell _ _).setCell _ _⟩
  refine ⟨⟨A4, c4, ?_, ownsRow_setCell_below (ownsRow_setCell_below own5 (by show d < d + 1; omega) _) (by show d < d + 1; omega) _, rfl, hle⟩, Nat.le_refl _, hfit⟩
  rw [heap_setCell_same _ _ _ _ _ _ (heap_setCell_same _ _ _ _ _ _ ((b4.block d hd).trans HBLK.out))]; rfl

set_option maxHeartbeats 1600000 in
theorem refCrash_any (d : Nat) (r : Option Nat) (l : List UInt8) (s : Nat) (keep : Int) (w : World) (h : RefAt w d r l s) :
    Calls Try.prog 23 #[.pointer (some ⟨d, 0, none⟩), .int .i64 keep] w fun e w' => e = .returned (.tuple #[]) ∧ ∃ r', RefAt w' d r' (l.take (crashLen l.length s keep)) (crashLen l.length s keep) ∧ (∀ g, r' = some g → w.heap.size ≤ g) ∧ Leaves d none w w' := by
  obtain ⟨A, c, h0, h1, f0, f1, ho, hr, hc, hd, hs, hsm⟩ := h.reads
  obtain ⟨kn, k1, K, HK, hKe, hkn, hKn, hk1⟩ : ∃ (kn : Nat) (k1 : Int) (K : Nat), Hid ((keep < 0 → k1 = 0) ∧ (¬ keep < 0 → k1 = keep) ∧ (((l.length : Int) - s) < k1 → (kn : Int) = (l.length : Int) - s) ∧ (k1 ≤ (l.length : Int) - s → (kn : Int) = k1)) ∧ crashLen l.length s keep = K ∧ s + kn = K ∧ K ≤ l.length ∧ 0 ≤ k1 := by
    by_cases c1 : keep < 0
    · exact ⟨0, 0, s, ⟨fun _ => rfl, fun h => by omega, fun h => by omega, fun _ => rfl⟩, by unfold crashLen; rw [if_pos c1], by omega, hs, by omega⟩
    · by_cases c2 : keep ≤ (l.length : Int) - s
      · exact ⟨keep.toNat, keep, s + keep.toNat, ⟨fun h => by omega, fun _ => rfl, fun h => by omega, fun _ => by omega⟩, by unfold crashLen; rw [if_neg c1, if_pos c2], rfl, by omega, by omega⟩
      · exact ⟨l.length - s, keep, l.length, ⟨fun h => by omega, fun _ => rfl, fun h => by omega, fun h => by omega⟩, by unfold crashLen; rw [if_neg c1, if_neg c2], by omega, by omega, by omega⟩
  have hw1 : IntKind.i64.wrap ((l.length : Int) - s) = (l.length : Int) - s := IntWalk.i64_in _ (by omega)
  rw [hKe]; clear hKe
  have HBLK := hide (h.block h0)
  have cl : Cells w A (u8s l) := Cells.of_own ho
  clear h ho
  go_enter Try.func23, Try.ntmps23
  go_upto_if 5 with (fail)
  go_cut [1] (fun s1 wx => s1 = .int .i64 k1 ∧ w = wx)
  case first =>
    by_cases h : keep < 0
    · have e1 := HK.out.1 h
      go_wp2_with fail
      go_meet
      exact ⟨by rw [e1], rfl⟩
    · have e1 := HK.out.2.1 h
      go_wp2_with fail
      go_meet
      exact ⟨by rw [e1], rfl⟩
  obtain ⟨rfl, rfl⟩ := hcut
  go_wp2_with fail
  go_quiet (fail)
  go_upto_if 17 with (fail)
  go_cut [1] (fun s1 wx => s1 = .int .i64 kn ∧ ∃ n, wx = w.drewN n)
  case first =>
    by_cases h : ((l.length : Int) - s) < k1
    · have e1 := HK.out.2.2.1 h
      go_wp2_with fail
      go_quiet (fail)
      go_wp2_with fail
      go_meet
      exact ⟨by rw [e1], _, by first | rfl | exact World.drewN_drewN _ _ _⟩
    · have e1 := HK.out.2.2.2 (by omega)
      go_wp2_with fail
      go_meet
      exact ⟨by rw [e1], _, rfl⟩
  obtain ⟨rfl, nd, hwd⟩ := hcut
  clear HK hw1
  have hhp : wc.heap = w.heap := by rw [hwd]; rfl
  have bw : Below w.heap.size w wc := by rw [hwd]; exact below_drewN (Below.refl _ _) _
  have cl2 : Cells wc A (u8s (l.take K)) := (cl.below bw).takeB K
  clear cl hwd
  have g0 : ∀ u, Below w.heap.size w u → u.heap[d]? = w.heap[d]? := fun u hb => hb.block d hd
  have l0 : ∀ u, Below w.heap.size wc.drew u → u.cell? ⟨d, 0, none⟩ = some (.slice A l.length c) := fun u hb => (World.cell?_of_block (a := ⟨d, 0, none⟩) (g0 u (bw.drew.trans hb))).trans h0
  have l1 : ∀ u, Below w.heap.size wc.drew u → u.cell? ⟨d, 1, none⟩ = some (.int .i64 s) := fun u hb => (World.cell?_of_block (a := ⟨d, 1, none⟩) (g0 u (bw.drew.trans hb))).trans h1
  go_wp2_with fail
  have hw3 : IntKind.i64.wrap ((s : Int) + kn) = s + kn := IntWalk.i64_in _ (by omega)
  have i1 : (0 : Int) ≤ s + kn := by omega
  have i2 : (s : Int) + kn ≤ c := by omega
  have i3 : ((s : Int) + kn).toNat = K := by omega
  have hsz : wc.heap.size = w.heap.size := by rw [hhp]
  refine wp_region_grow (R := Below w.heap.size) 16 [1, 13, 16] [0, 2, 3, 4, 5, 6, 7, 8, 9, 10, 11, 12, 1, 13, 14, 15, 16] (by kernel_rfl) (Lower.tr _) (Lower.rf _) (by kernel_rfl) (fun _ _ _ _ _ h => h) ?_
  (repeat ((first | (refine grow_skip (by rfl) (by rfl) ?_ (by first | exact Stays.rf _ | exact Lower.rf _ _ | exact Holds.rf _ _)) | (refine grow_take (v := ?_) (by rfl) (by rfl) (by rfl) ?_ ?_; rotate_left 1; focus (intro w' hSw; go_simp; (try (with_reducible rfl)); done))); (try simp only [Act.put, List.setIfInBounds_toArray, List.set_cons_zero, List.set_cons_succ])))
  refine grow_move (by rfl) (by rfl) (by rfl) (fun K' hK => ?_); go_simp
  refine hK.out _ _ (Below.alloc (Lower.rf _ _) (by rw [← hsz]; exact Nat.le_refl _) _) ?_; clear hK K'
  (try simp only [Act.put, List.setIfInBounds_toArray, List.set_cons_zero, List.set_cons_succ])
  refine grow_move (by rfl) (by rfl) (by rfl) (fun K' hK => ?_)
  have own0 : (wc.alloc (.cells #[] 5)).ownsRow w.heap.size 5 1 (.slice (some ⟨w.heap.size, 0, none⟩) 0 0) 0 [] := by rw [← hsz]; exact World.ownsRow_lit wc #[] 0 (Nat.le_refl _) (Nat.zero_le _) rfl
  have ba : Below w.heap.size w ((wc.alloc (.cells #[] 5)).drew) := (bw.alloc (by omega) _).drew
  refine wp_app elU8 (w := (wc.alloc (.cells #[] 5)).drew) own0 (news := u8s (l.take K)) _ _ rfl rfl rfl (by simp [u8s]; omega) (cl2.alloc _) (u8s_one _) (by omega) (by show w.heap.size ≤ (wc.alloc (.cells #[] 5)).heap.size; simp; omega) K (u8s (l.take K)) (by omega) (by simp) ?_
  intro A4 c4 w4 p4
  have b4 := p4.below w.heap.size _ (Nat.le_refl _) (Below.refl _ _)
  have b5 : Below w.heap.size w w4 := ba.trans b4
  refine hK.out _ _ b4 ?_; clear hK K'
  (try simp only [Act.put, List.setIfInBounds_toArray, List.set_cons_zero, List.set_cons_succ])
  have own4 := p4.own
  clear p4 b4 ba own0 l0 l1 cl2
  have hblk := (g0 _ b5).trans HBLK.out
  have e0 := (World.cell?_of_block (a := ⟨d, 0, none⟩) (g0 _ b5)).trans h0
  have e1 := (World.cell?_of_block (a := ⟨d, 1, none⟩) (g0 _ b5)).trans h1
  have e2 := (World.frozen?_of_block (a := ⟨d, 0, none⟩) (g0 _ b5)).trans f0
  have e3 := (World.frozen?_of_block (a := ⟨d, 1, none⟩) (g0 _ b5)).trans f1
  have HBL := hide hblk
  clear hblk g0 h0 h1 f0 f1
  (repeat ((first | (refine grow_skip (by rfl) (by rfl) ?_ (by first | exact Stays.rf _ | exact Lower.rf _ _ | exact Holds.rf _ _)) | (refine grow_take (v := ?_) (by rfl) (by rfl) (by rfl) ?_ ?_; rotate_left 1; focus (intro w' hSw; go_simp; (try (with_reducible rfl)); done))); (try simp only [Act.put, List.setIfInBounds_toArray, List.set_cons_zero, List.set_cons_succ])))
  refine grow_last (by rfl) (by rfl) (by rfl) (by rfl) (fun K hK => ?_); go_simp; refine hK.out _ _ ?_; clear hK K; (try simp only [Act.put, List.setIfInBounds_toArray, List.set_cons_zero, List.set_cons_succ]); refine grow_done ?_
  go_wp2_with fail
  go_end0
  have own5 : w4.ownsRow (d + 1) 5 1 (.slice A4 K c4) K (u8s (l.take K)) := own_base own4 (by omega)
  have hle := own_shape_le own5
  have hlk : (l.take K).length = K := by simp; omega
  refine ⟨rfl, (Value.slice A4 K c4).ownBlock, ?_, fun g hg => (own4.lt g hg).1, ((Leaves.of_below b5).setCell _ _).setCell _ _⟩
  refine ⟨⟨A4, c4, ?_, ?_, by rw [hlk], by omega⟩, by omega, by omega⟩
  · rw [hlk, heap_setCell_same _ _ _ _ _ _ (heap_setCell_same _ _ _ _ _ _ HBL.out)]; rfl
  · rw [hlk]; exact ownsRow_setCell_below (ownsRow_setCell_below own5 (by show d < d + 1; omega) _) (by show d < d + 1; omega) _
end Go.Proofs.Ytfdilhoeikkhoaa
