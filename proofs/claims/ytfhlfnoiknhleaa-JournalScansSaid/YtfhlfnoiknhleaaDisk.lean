/-
  What the package disk computes: a disk in memory, and each of its methods.
-/
import Derived.Test.YtfhlfnoiknhleaaRows
import Derived.Test.YtfhlfnoiknhleaaBytes
import Derived.Test.YtfhlfnoiknhleaaElem8
import Derived.Test.YtfhlfnoiknhleaaLeaves
import Derived.StillTailTactics
import Derived.WalkSpells
namespace Go.Proofs.Ytfhlfnoiknhleaa
open Go.RowKit
set_option linter.unusedVariables false

/-! ### A disk in memory -/
/-- Block d is a disk of the bytes l, of which the first s are safe; its bytes lie in row r. -/
structure DiskAt (w : World) (d : Nat) (r : Option Nat) (l : List UInt8) (s : Nat) : Prop where
  blk : ∃ A c, w.heap[d]? = some (.cells #[.slice A l.length c, .int .i64 (s : Int)] 56 (0, 0)) ∧ w.ownsRow (d + 1) 5 1 (.slice A l.length c) l.length (u8s l) ∧ (Value.slice A l.length c).ownBlock = r ∧ l.length ≤ c
  le : s ≤ l.length
  small : l.length ≤ 1048576
theorem DiskAt.row_lt {w : World} {d : Nat} {r : Option Nat} {l : List UInt8} {s : Nat} (h : DiskAt w d r l s) : d < w.heap.size ∧ ∀ g, r = some g → d < g ∧ g < w.heap.size := by
  obtain ⟨A, c, hb, ho, hr, _⟩ := h.blk
  refine ⟨(Array.getElem?_eq_some_iff.1 hb).1, fun g hg => ?_⟩
  have := ho.lt g (hr.trans hg)
  omega
theorem DiskAt.keep {w w' : World} {d : Nat} {r : Option Nat} {l : List UInt8} {s : Nat} (h : DiskAt w d r l s) (hd : w'.heap[d]? = w.heap[d]?) (hr : ∀ g, r = some g → w'.heap[g]? = w.heap[g]?) (hs : w.heap.size ≤ w'.heap.size) : DiskAt w' d r l s := by
  obtain ⟨A, c, hb, ho, hrow, hc⟩ := h.blk
  refine ⟨⟨A, c, hd.trans hb, ?_, hrow, hc⟩, h.le, h.small⟩
  refine ⟨ho.1, ?_⟩
  rcases ho.2 with h0 | ⟨g, cap, cur, hv, hg, hh, rest⟩
  · exact .inl h0
  · refine .inr ⟨g, cap, cur, hv, hg, ?_, rest⟩
    have : r = some g := by rw [← hrow, hv]; rfl
    rw [hr g this]; exact hh
theorem DiskAt.drew {w : World} {d : Nat} {r : Option Nat} {l : List UInt8} {s : Nat} (h : DiskAt w d r l s) : DiskAt w.drew d r l s := h.keep rfl (fun _ _ => rfl) (Nat.le_refl _)
theorem DiskAt.drewN {w : World} {d : Nat} {r : Option Nat} {l : List UInt8} {s : Nat} (h : DiskAt w d r l s) (n : Nat) : DiskAt (w.drewN n) d r l s := h.keep rfl (fun _ _ => rfl) (Nat.le_refl _)
theorem DiskAt.below {w w' : World} {d : Nat} {r : Option Nat} {l : List UInt8} {s : Nat} (h : DiskAt w d r l s) (hb : Below w.heap.size w w') : DiskAt w' d r l s :=
  h.keep (hb.block d h.row_lt.1) (fun g hg => hb.block g (h.row_lt.2 g hg).2) hb.size
/-- Another disk is left alone. -/
theorem DiskAt.other {w w' : World} {d d' : Nat} {r r' : Option Nat} {l : List UInt8} {s : Nat} (h : DiskAt w d r l s) (hb : Leaves d' r' w w') (h1 : d ≠ d') (h2 : some d ≠ r') (h3 : ∀ g, r = some g → g ≠ d' ∧ some g ≠ r') : DiskAt w' d r l s :=
  h.keep (hb.block d h.row_lt.1 h1 h2) (fun g hg => hb.block g (h.row_lt.2 g hg).2 (h3 g hg).1 (h3 g hg).2) hb.size

/-- What lay before the disk stays. -/
theorem nxtD {w wa w2 : World} {d : Nat} {r r0 : Option Nat} {l : List UInt8} {s : Nat} (hd : w.heap.size ≤ d) (h : Below w.heap.size w wa) (D : DiskAt wa d r0 l s) (hL : Leaves d r wa w2) (hr : r = r0 ∨ r = none) : Below w.heap.size w w2 :=
  h.trans (hL.below hd (fun g hg => by
    rcases hr with rfl | rfl
    · have := (D.row_lt.2 g hg).1; omega
    · cases hg) h.size)
/-- What a walk reads of a disk. -/
theorem DiskAt.reads {w : World} {d : Nat} {r : Option Nat} {l : List UInt8} {s : Nat} (h : DiskAt w d r l s) :
    ∃ A c, w.cell? ⟨d, 0, none⟩ = some (.slice A l.length c) ∧ w.cell? ⟨d, 1, none⟩ = some (.int .i64 (s : Int)) ∧ w.frozen? ⟨d, 0, none⟩ = false ∧ w.frozen? ⟨d, 1, none⟩ = false ∧
      w.ownsRow (d + 1) 5 1 (.slice A l.length c) l.length (u8s l) ∧ (Value.slice A l.length c).ownBlock = r ∧ l.length ≤ c ∧ d < w.heap.size ∧ s ≤ l.length ∧ l.length ≤ 1048576 := by
  obtain ⟨A, c, hb, ho, hr, hc⟩ := h.blk
  refine ⟨A, c, by simp [World.cell?, hb], by simp [World.cell?, hb], by simp [World.frozen?, hb], by simp [World.frozen?, hb], ho, hr, hc, h.row_lt.1, h.le, h.small⟩

theorem DiskAt.block {w : World} {d : Nat} {r : Option Nat} {l : List UInt8} {s : Nat} (h : DiskAt w d r l s) {A : Option Addr} {c : Nat} (h0 : w.cell? ⟨d, 0, none⟩ = some (.slice A l.length c)) :
    w.heap[d]? = some (.cells #[.slice A l.length c, .int .i64 (s : Int)] 56 (0, 0)) := by
  obtain ⟨A', c', hb, _⟩ := h.blk
  simp only [World.cell?, hb] at h0
  simp at h0
  obtain ⟨rfl, rfl⟩ := h0
  exact hb
/-- The first field is stored. -/
theorem DiskAt.set0 {w : World} {d : Nat} {v : Value} {l : List UInt8} {s n : Nat} {A : Option Addr} {c : Nat} (hb : w.heap[d]? = some (.cells #[v, .int .i64 (s : Int)] 56 (0, 0))) (hn : l.length = n)
    (ho : w.ownsRow (d + 1) 5 1 (.slice A n c) n (u8s l)) (hc : n ≤ c) (hs : s ≤ n) (hsm : n ≤ 1048576) : DiskAt (w.setCell ⟨d, 0, none⟩ (.slice A n c)) d (Value.slice A n c).ownBlock l s := by
  subst hn
  refine ⟨⟨A, c, ?_, ownsRow_setCell_below ho (by show d < d + 1; omega) _, rfl, hc⟩, hs, hsm⟩
  rw [heap_setCell_same _ _ _ _ _ _ hb]; rfl
/-- The second field is stored. -/
theorem DiskAt.set1 {w : World} {d : Nat} {r : Option Nat} {l : List UInt8} {s s' : Nat} (h : DiskAt w d r l s) (hs : s' ≤ l.length) : DiskAt (w.setCell ⟨d, 1, none⟩ (.int .i64 (s' : Int))) d r l s' := by
  obtain ⟨A, c, hb, ho, hr, hc⟩ := h.blk
  refine ⟨⟨A, c, ?_, ownsRow_setCell_below ho (by show d < d + 1; omega) _, hr, hc⟩, hs, h.small⟩
  rw [heap_setCell_same _ _ _ _ _ _ hb]; rfl
/-! ### The methods -/
theorem new_any (w : World) : Calls Try.prog 10 #[] w fun e w' => ∃ d, e = .returned (.pointer (some ⟨d, 0, none⟩)) ∧ w.heap.size ≤ d ∧ DiskAt w' d none [] 0 ∧ Below w.heap.size w w' := by
  go_enter Try.func10, Try.ntmps10
  go_wp2
  go_ret
  refine ⟨_, rfl, Nat.le_refl _, ⟨⟨none, 0, heap_alloc_new _ _, World.ownsRow_nil _ _ _ _, rfl, Nat.le_refl _⟩, Nat.le_refl _, by simp⟩, (Below.refl _ _).alloc (Nat.le_refl _) _⟩
theorem sync_any (d : Nat) (r : Option Nat) (l : List UInt8) (s : Nat) (w : World) (h : DiskAt w d r l s) :
    Calls Try.prog 34 #[.pointer (some ⟨d, 0, none⟩)] w fun e w' => e = .returned (.tuple #[]) ∧ DiskAt w' d r l l.length ∧ Leaves d r w w' := by
  obtain ⟨A, c, h0, h1, f0, f1, ho, hr, hc, hd, hs, hsm⟩ := h.reads
  go_enter Try.func34, Try.ntmps34
  go_wp2
  go_end0
  exact ⟨rfl, h.set1 (Nat.le_refl _), (Leaves.refl _ _ _).setCell _ _⟩
theorem bytes_any (d : Nat) (r : Option Nat) (l : List UInt8) (s : Nat) (w : World) (h : DiskAt w d r l s) :
    Calls Try.prog 12 #[.pointer (some ⟨d, 0, none⟩)] w (FreshB w l) := by
  obtain ⟨A, c, h0, h1, f0, f1, ho, hr, hc, hd, hs, hsm⟩ := h.reads
  go_enter Try.func12, Try.ntmps12
  go_wp2_with (go_at_call 29; refine (clone_any A l.length c l _ rfl (by omega) (Cells.of_own ho)).mono ?_; rintro e w' ⟨A', c', rfl, hf⟩)
  go_ret
  exact ⟨_, _, rfl, hf⟩
theorem append_full (d : Nat) (r : Option Nat) (l x : List UInt8) (s : Nat) (A : Option Addr) (n c : Nat) (w : World) (h : DiskAt w d r l s) (hn : x.length = n) (hbig : 1048576 < l.length + x.length) (hx : x.length ≤ 1099511627776) :
    Calls Try.prog 13 #[.pointer (some ⟨d, 0, none⟩), .slice A n c] w fun e w' => e = .returned (.int .i64 13) ∧ w = w' := by
  subst hn
  obtain ⟨A1, c1, h0, h1, f0, f1, ho, hr, hc, hd, hs, hsm⟩ := h.reads
  go_enter Try.func13, Try.ntmps13
  go_wp2
  go_ret
  exact ⟨rfl, rfl⟩
theorem append_any (d : Nat) (r : Option Nat) (l x : List UInt8) (s : Nat) (A : Option Addr) (n c : Nat) (w : World) (h : DiskAt w d r l s) (hn : x.length = n) (hfit : l.length + x.length ≤ 1048576) (hA : Cells w A (u8s x)) :
    Calls Try.prog 13 #[.pointer (some ⟨d, 0, none⟩), .slice A n c] w fun e w' => e = .returned (.int .i64 0) ∧ ∃ r', DiskAt w' d r' (l ++ x) s ∧ (r' = r ∨ ∀ g, r' = some g → w.heap.size ≤ g) ∧ Leaves d r w w' := by
  subst hn
  obtain ⟨A1, c1, h0, h1, f0, f1, ho, hr, hc, hd, hs, hsm⟩ := h.reads
  go_enter Try.func13, Try.ntmps13
  go_wp2_with (at_builtin; refine wpList_app elU8 ho (news := u8s x) rfl _ _ rfl rfl rfl (length_u8s x) hA (u8s_one x) (by omega) (by omega) (l.length + x.length) (u8s (l ++ x)) rfl (by simp [u8s]) ?_; intro A4 c4 w4 p4; have kd := keep_disk hd ho p4; have k0 := (World.cell?_of_block (a := ⟨d, 0, none⟩) kd).trans h0; have kf := (World.frozen?_of_block (a := ⟨d, 0, none⟩) kd).trans f0)
  go_ret
  refine ⟨rfl, _, DiskAt.set0 (kd.trans (h.block h0)) (by simp) p4.own (own_shape_le p4.own) (by omega) (by omega), ?_, (Leaves.of_grown (by rw [← hr]; exact p4.grown)).setCell _ _⟩
  rcases p4.lies with h1 | h1
  · exact .inl (h1.trans hr)
  · exact .inr fun g hg => by rw [h1] at hg; injection hg with hg; omega
theorem swap_full (d : Nat) (r : Option Nat) (l x : List UInt8) (s : Nat) (A : Option Addr) (n c : Nat) (w : World) (h : DiskAt w d r l s) (hn : x.length = n) (hbig : 1048576 < x.length) :
    Calls Try.prog 27 #[.pointer (some ⟨d, 0, none⟩), .slice A n c] w fun e w' => e = .returned (.int .i64 13) ∧ w = w' := by
  subst hn
  obtain ⟨A1, c1, h0, h1, f0, f1, ho, hr, hc, hd, hs, hsm⟩ := h.reads
  go_enter Try.func27, Try.ntmps27
  go_wp2
  go_ret
  exact ⟨rfl, rfl⟩
theorem swap_any (d : Nat) (r : Option Nat) (l x : List UInt8) (s : Nat) (A : Option Addr) (n c : Nat) (w : World) (h : DiskAt w d r l s) (hn : x.length = n) (hfit : x.length ≤ 1048576) (hA : Cells w A (u8s x)) :
    Calls Try.prog 27 #[.pointer (some ⟨d, 0, none⟩), .slice A n c] w fun e w' => e = .returned (.int .i64 0) ∧ ∃ r', DiskAt w' d r' x x.length ∧ (∀ g, r' = some g → w.heap.size ≤ g) ∧ Leaves d none w w' := by
  subst hn
  obtain ⟨A1, c1, h0, h1, f0, f1, ho, hr, hc, hd, hs, hsm⟩ := h.reads
  go_enter Try.func27, Try.ntmps27
  go_wp2_with (go_at_call 29; refine (clone_any A x.length c x _ rfl (by omega) hA).mono ?_; rintro e w4 ⟨A', c', rfl, own4, -, hle, -, hb⟩; have kd := hb.block d hd; have k0 := (World.cell?_of_block (a := ⟨d, 0, none⟩) kd).trans h0; have k1 := (World.cell?_of_block (a := ⟨d, 1, none⟩) kd).trans h1; have kf := (World.frozen?_of_block (a := ⟨d, 0, none⟩) kd).trans f0; have kf1 := (World.frozen?_of_block (a := ⟨d, 1, none⟩) kd).trans f1)
  go_ret
  have own4' : w4.ownsRow (d + 1) 5 1 (.slice A' x.length c') x.length (u8s x) := own_base own4 (by omega)
  have hbk : w4.heap[d]? = some (.cells #[.slice A1 l.length c1, .int .i64 (s : Int)] 56 (0, 0)) := kd.trans (h.block h0)
  refine ⟨rfl, (Value.slice A' x.length c').ownBlock, ?_, fun g hg => (own4.lt g hg).1, ((Leaves.of_below hb).setCell _ _).setCell _ _⟩
  refine ⟨⟨A', c', ?_, ownsRow_setCell_below (ownsRow_setCell_below own4' (by show d < d + 1; omega) _) (by show d < d + 1; omega) _, rfl, hle⟩, Nat.le_refl _, hfit⟩
  rw [heap_setCell_same _ _ _ _ _ _ (heap_setCell_same _ _ _ _ _ _ hbk)]; rfl

/-- How many bytes a crash leaves. -/
def crashLen (n s : Nat) (keep : Int) : Nat := if keep < 0 then s else if keep ≤ (n : Int) - s then s + keep.toNat else n
theorem crashLen_bd (n s : Nat) (keep : Int) (h : s ≤ n) : s ≤ crashLen n s keep ∧ crashLen n s keep ≤ n := by
  unfold crashLen; split
  · omega
  · split <;> omega
theorem crash_end {w : World} {d : Nat} {r : Option Nat} {l : List UInt8} {s K : Nat} {A : Option Addr} {c : Nat} (h : DiskAt w d r l s) (h0 : w.cell? ⟨d, 0, none⟩ = some (.slice A l.length c))
    (ho : w.ownsRow (d + 1) 5 1 (.slice A l.length c) l.length (u8s l)) (hr : (Value.slice A l.length c).ownBlock = r) (hK : K ≤ l.length) (hc : l.length ≤ c) :
    DiskAt ((w.setCell ⟨d, 0, none⟩ (.slice A K c)).setCell ⟨d, 1, none⟩ (.int .i64 (K : Int))) d r (l.take K) K := by
  have ho' : w.ownsRow (d + 1) 5 1 (.slice A K c) K (u8s (l.take K)) := by
    refine ⟨by simp [u8s]; omega, ?_⟩
    rcases ho.2 with ⟨hv, h2⟩ | ⟨g, cap, cur, hv, hg, hh, h1, h2, h3, h4⟩
    · injection hv with hA hn hcc
      subst hA; subst hcc
      exact .inl ⟨by rw [show K = 0 by omega], by omega⟩
    · injection hv with hA hn hcc
      subst hA; subst hcc
      refine .inr ⟨g, c, cur, rfl, hg, hh, by omega, h2, h3, ?_⟩
      rw [Nat.mul_one] at h4 ⊢
      rw [show u8s (l.take K) = (u8s l).take K by simp [u8s, List.map_take], ← h4, List.take_take, Nat.min_eq_left hK]
  have e1 : (l.take K).length = K := by simp; omega
  have hD := DiskAt.set0 (s := 0) (v := .slice A l.length c) (w := w.setCell ⟨d, 1, none⟩ (.int .i64 0)) (l := l.take K) (n := K) (A := A) (c := c) (d := d)
    (by rw [heap_setCell_same _ _ _ _ _ _ (h.block h0)]; rfl) e1 (ownsRow_setCell_below ho' (by show d < d + 1; omega) _) (by omega) (by omega) (by have := h.small; omega)
  refine ⟨⟨A, c, ?_, ?_, ?_, by omega⟩, by omega, by have := h.small; omega⟩
  · rw [heap_setCell_same _ _ _ _ _ _ (heap_setCell_same _ _ _ _ _ _ (h.block h0)), e1]; rfl
  · rw [e1]; exact ownsRow_setCell_below (ownsRow_setCell_below ho' (by show d < d + 1; omega) _) (by show d < d + 1; omega) _
  · rw [e1, ← hr]; cases A <;> rfl
set_option maxHeartbeats 1600000 in
theorem crash_any (d : Nat) (r : Option Nat) (l : List UInt8) (s : Nat) (keep : Int) (w : World) (h : DiskAt w d r l s) :
    Calls Try.prog 25 #[.pointer (some ⟨d, 0, none⟩), .int .i64 keep] w fun e w' => e = .returned (.tuple #[]) ∧ DiskAt w' d r (l.take (crashLen l.length s keep)) (crashLen l.length s keep) ∧ Leaves d r w w' := by
  obtain ⟨A, c, h0, h1, f0, f1, ho, hr, hc, hd, hs, hsm⟩ := h.reads
  have hcb := crashLen_bd l.length s keep hs
  have hw1 : IntKind.i64.wrap ((l.length : Int) - s) = (l.length : Int) - s := IntWalk.i64_in _ (by omega)
  have hw2 : IntKind.i64.wrap (s : Int) = s := IntWalk.i64_in _ (by omega)
  have hw3 : IntKind.i64.wrap ((s : Int) + ((l.length : Int) - s)) = l.length := by rw [IntWalk.i64_in _ (by omega)]; omega
  have b1 : (0 : Int) ≤ s := by omega
  have b2 : (s : Int) ≤ c := by omega
  have b3 : (l.length : Int) ≤ c := by omega
  have b4 : (0 : Int) ≤ l.length := by omega
  by_cases c1 : keep < 0
  · have e1 : crashLen l.length s keep = s := by unfold crashLen; rw [if_pos c1]
    have n1 : (if (l.length : Int) - s < 0 then (l.length : Int) - s else 0) = 0 := if_neg (by omega)
    have fin := crash_end (K := s) h h0 ho hr hs hc
    rw [e1]
    go_enter Try.func25, Try.ntmps25
    go_wp2
    go_still_tail 26, (by kernel_rfl)
    change wpList _ _ _ _ _ w.drew
    clear hw1 hw2 hw3
    go_wp2
    go_end0
    exact ⟨rfl, fin.drew, (((Leaves.refl _ _ _).setCell _ _).setCell _ _).drew⟩
  · by_cases c2 : keep ≤ (l.length : Int) - s
    · obtain ⟨k, rfl⟩ := Int.eq_ofNat_of_zero_le (by omega : 0 ≤ keep)
      have e1 : crashLen l.length s (k : Int) = s + k := by unfold crashLen; rw [if_neg c1, if_pos c2]; omega
      have n0 : (if (k : Int) < 0 then (0 : Int) else k) = k := if_neg (by omega)
      have n1 : (if (l.length : Int) - s < k then (l.length : Int) - s else k) = k := if_neg (by omega)
      have hw4 : IntKind.i64.wrap ((s : Int) + k) = s + k := IntWalk.i64_in _ (by omega)
      have b5 : (0 : Int) ≤ s + k := by omega
      have b6 : (s : Int) + k ≤ c := by omega
      have b7 : ((s : Int) + k).toNat = s + k := by omega
      have fin := crash_end (K := s + k) h h0 ho hr (by omega) hc
      rw [e1]
      go_enter Try.func25, Try.ntmps25
      go_wp2
      go_still_tail 26, (by kernel_rfl)
      change wpList _ _ _ _ _ w.drew
      clear hw1 hw2 hw3 hw4
      go_wp2
      go_end0
      exact ⟨rfl, by simpa using fin.drew, (((Leaves.refl _ _ _).setCell _ _).setCell _ _).drew⟩
    · have e1 : crashLen l.length s keep = l.length := by unfold crashLen; rw [if_neg c1, if_neg c2]
      have n0 : (if keep < 0 then (0 : Int) else keep) = keep := if_neg (by omega)
      have n1 : (if (l.length : Int) - s < keep then (l.length : Int) - s else keep) = (l.length : Int) - s := if_pos (by omega)
      have fin := crash_end (K := l.length) h h0 ho hr (Nat.le_refl _) hc
      rw [e1]
      go_enter Try.func25, Try.ntmps25
      go_wp2
      go_still_tail 26, (by kernel_rfl)
      change wpList _ _ _ _ _ w.drew
      clear hw1 hw2 hw3
      go_wp2
      go_end0
      exact ⟨rfl, fin.drew, (((Leaves.refl _ _ _).setCell _ _).setCell _ _).drew⟩
theorem crash_k (d : Nat) (r : Option Nat) (l : List UInt8) (s : Nat) (keep : Int) (w : World) (K : Nat) (l' : List UInt8) (h : DiskAt w d r l s) (hK : crashLen l.length s keep = K) (hl : l.take K = l') :
    Calls Try.prog 25 #[.pointer (some ⟨d, 0, none⟩), .int .i64 keep] w fun e w' => e = .returned (.tuple #[]) ∧ DiskAt w' d r l' K ∧ Leaves d r w w' := by
  subst hK; subst hl
  exact crash_any d r l s keep w h
end Go.Proofs.Ytfhlfnoiknhleaa
