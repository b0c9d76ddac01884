/-
  The walk of WireCrc.
-/
import Derived.Test.YtagphgpikmlicaaKnown4
import Derived.Test.YtagphgpikmlicaaGrow
import Derived.Test.YtagphgpikmlicaaRoom
import Derived.StillTailTactics
import Derived.Deep.DeepCutAuto
import Derived.Deep.CutBlock
import Derived.Laws.OwnMore
namespace Go.Proofs.Ytagphgpikmlicaa
open Go.RowKit
set_option linter.unusedVariables false

def ramp (x : UInt8) (n : Nat) : List UInt8 := (List.range n).map fun i => lo8 (x.toNat + i)
theorem length_ramp (x : UInt8) (n : Nat) : (ramp x n).length = n := by simp [ramp]
theorem ramp_succ (x : UInt8) (n : Nat) : ramp x (n + 1) = ramp x n ++ [lo8 (x.toNat + n)] := by simp [ramp, List.range_succ]
theorem xor3_snoc : ∀ {l m n : List UInt8} (a b c : UInt8), l.length = m.length → m.length = n.length → xor3 (l ++ [a]) (m ++ [b]) (n ++ [c]) = xor3 l m n ++ [a ^^^ b ^^^ c]
  | [], [], [], _, _, _, _, _ => rfl
  | x :: l, y :: m, z :: n, a, b, c, h1, h2 => by
    have := xor3_snoc (l := l) (m := m) (n := n) a b c (by simpa using h1) (by simpa using h2)
    simp only [List.cons_append, xor3, this]
  | [], _ :: _, _, _, _, _, h1, _ => by simp at h1
  | _ :: _, [], _, _, _, _, h1, _ => by simp at h1
  | _ :: _, _ :: _, [], _, _, _, _, h2 => by simp at h2
  | [], [], _ :: _, _, _, _, _, h2 => by simp at h2
theorem length_xor3 : ∀ {l m n : List UInt8}, l.length = m.length → m.length = n.length → (xor3 l m n).length = l.length
  | [], [], [], _, _ => rfl
  | x :: l, y :: m, z :: n, h1, h2 => by
    have := length_xor3 (l := l) (m := m) (n := n) (by simpa using h1) (by simpa using h2)
    simp [xor3, this]
  | [], _ :: _, _, h1, _ => by simp at h1
  | _ :: _, [], _, h1, _ => by simp at h1
  | _ :: _, _ :: _, [], _, h2 => by simp at h2
  | [], [], _ :: _, _, h2 => by simp at h2
theorem crcN_xor3 {l m n : List UInt8} (h1 : l.length = m.length) (h2 : m.length = n.length) :
    bits .xor .u32 (bits .xor .u32 (crcN l : Nat) (crcN m : Nat)) (crcN n : Nat) = (crcN (xor3 l m n) : Nat) := by
  unfold crcN
  rw [bits_xor_bv, bits_xor_bv, crcV_xor3 h1 h2]
theorem xor_u8 (a b : UInt8) : bits .xor .u8 (a.toNat : Int) (b.toNat : Int) = ((a ^^^ b).toNat : Int) := by
  have h1 := a.toNat_lt
  have h2 := b.toNat_lt
  rw [u8_xor_nat _ _ (by omega) (by omega), UInt8.toNat_xor]
/-- Part of a row of bytes, the rest of it still nothing. -/
def partB (l : List UInt8) (n : Nat) : List Value := u8s l ++ List.replicate (n - l.length) (.int .u8 0)
theorem partB_set (l : List UInt8) (n : Nat) (c : UInt8) (h : l.length < n) : (partB l n).set l.length (.int .u8 (c.toNat : Int)) = partB (l ++ [c]) n := by
  unfold partB
  rw [List.set_append_right _ _ (by simp [u8s]), length_u8s, Nat.sub_self]
  obtain ⟨j, hj⟩ : ∃ j, n - l.length = j + 1 := ⟨n - l.length - 1, by omega⟩
  have hj' : n - (l ++ [c]).length = j := by simp; omega
  rw [hj, hj', List.replicate_succ, List.set_cons_zero]
  simp [u8s]
theorem cells_of_heap {w : World} {g : Nat} {xs : List Value} {e : TypeId} (h : w.heap[g]? = some (.cells xs.toArray e (0, 0))) : Cells w (some ⟨g, 0, none⟩) xs := fun hn =>
  ⟨g, 0, rfl, (Array.getElem?_eq_some_iff.1 h).1, fun k u hu => by rw [Nat.zero_add]; simp [World.cell?, h, hu]⟩
theorem byte_of {n : Int} (h : (Lit.int .u8 n).wf = true) : ∃ x : UInt8, n = (x.toNat : Int) := by
  have := u8_bd h
  exact ⟨lo8 n.toNat, by rw [lo8_toNat]; omega⟩
set_option maxRecDepth 100000 in
set_option maxHeartbeats 3200000 in
theorem wireCrc_walk (A0 : Option Addr) (c0 : Nat) (l0 : List Int) (A1 : Option Addr) (c1 : Nat) (l1 : List Int) (a2 : Int) (w : World) (h0 : ArgI .u8 w A0 c0 l0) (h1 : ArgI .u8 w A1 c1 l1) (w2 : (Lit.int .u8 a2).wf = true) :
    Calls Try.prog 3 #[.slice A0 l0.length c0, .slice A1 l1.length c1, .int .u8 a2] w fun e w' => e = .returned (.bool true) ∧ Below w.heap.size w w' := by
  obtain ⟨x, rfl⟩ := byte_of w2
  obtain ⟨a, ha, hA0⟩ := h0.bytes
  obtain ⟨b, hb, hB0⟩ := h1.bytes
  have hm0 : c0 ≤ 9223372036854775807 := h0.max
  have hm1 : c1 ≤ 9223372036854775807 := h1.max
  have hl0 := h0.le
  have hl1 := h1.le
  clear h0 h1 w2
  obtain ⟨n0, e0⟩ : ∃ n0, n0 = l0.length := ⟨_, rfl⟩
  obtain ⟨n1, e1⟩ : ∃ n1, n1 = l1.length := ⟨_, rfl⟩
  rw [← e0] at hl0 ha ⊢
  rw [← e1] at hl1 hb ⊢
  clear e0 e1
  have HA := hide ha
  have HB := hide hb
  clear ha hb
  obtain ⟨n, hn⟩ : ∃ n, n = min (min n0 n1) 500 := ⟨_, rfl⟩
  go_enter Try.func3, Try.ntmps3
  go_upto_if 16 with (fail)
  go_cut [7] (fun s wx => s = .int .i64 ((min n0 n1 : Nat) : Int) ∧ w = wx)
  case first =>
    clear hn
    by_cases h : (n1 : Int) < n0
    · have HE : Hid (n1 = min n0 n1) := hide (by omega)
      go_wp2
      go_meet
      exact ⟨val_int (congrArg Int.ofNat HE.out), rfl⟩
    · have HE : Hid (n0 = min n0 n1) := hide (by omega)
      go_wp2
      go_meet
      exact ⟨val_int (congrArg Int.ofNat HE.out), rfl⟩
  obtain ⟨rfl, rfl⟩ := hcut
  go_upto_if 20 with (fail)
  go_cut [7] (fun s wx => s = .int .i64 (n : Int) ∧ w = wx)
  case first =>
    obtain ⟨m, em⟩ : ∃ m, m = min n0 n1 := ⟨_, rfl⟩
    rw [← em] at hn ⊢
    clear em
    by_cases h : (500 : Int) < m
    · have HE : Hid (500 = n) := hide (by omega)
      clear hn
      go_wp2
      go_meet
      exact ⟨val_int (congrArg Int.ofNat HE.out), rfl⟩
    · have HE : Hid (m = n) := hide (by omega)
      clear hn
      go_wp2
      go_meet
      exact ⟨val_int (congrArg Int.ofNat HE.out), rfl⟩
  obtain ⟨rfl, rfl⟩ := hcut
  have i0 : n ≤ n0 := by omega
  have i1 : n ≤ n1 := by omega
  have i5 : n ≤ 500 := by omega
  clear hn
  go_wp2_with (first
    | (fail_if_success (have := ownc)
       at_make
       refine wpList_mk elU8 (n := n) rfl _ _ rfl rfl rfl rfl (by omega) ?_
       intro wc ownc gc bc)
    | (at_make
       refine wpList_mk elU8 (n := n) rfl _ _ rfl rfl rfl rfl (by omega) ?_
       intro wd ownd gd bd))
  have Bc := bc _ _ (Nat.le_refl _) (Below.refl _ _)
  have hc0 := (own_row ownc).1
  have hcs : w.heap.size < wc.heap.size := (Array.getElem?_eq_some_iff.1 hc0).1
  have hd0 := (own_row ownd).1
  have Bd := bd _ _ (Nat.le_refl _) (Below.refl _ _)
  have hc1 := (Bd.block w.heap.size hcs).trans hc0
  have BD := nxt Bc Bd
  obtain ⟨gc', egc⟩ : ∃ g, g = w.heap.size := ⟨_, rfl⟩
  obtain ⟨gd', egd⟩ : ∃ g, g = wc.heap.size := ⟨_, rfl⟩
  rw [← egc] at hc1
  rw [← egd] at hd0
  rw [← egc, ← egd]
  have hne : gc' ≠ gd' := by omega
  have hlc : w.heap.size ≤ gc' := by omega
  have hld : w.heap.size ≤ gd' := by omega
  clear ownc ownd gc gd bc bd Bc hc0 Bd egc egd hcs
  go_loopw [10] (fun i wr => ∃ k : Nat, k ≤ n ∧ i = .int .i64 k ∧ Hid (wr.heap[gc']? = some (.cells (partB (ramp x k) n).toArray 5 (0, 0))) ∧ Hid (wr.heap[gd']? = some (.cells (partB (xor3 (a.take k) (b.take k) (ramp x k)) n).toArray 5 (0, 0))) ∧ Below w.heap.size w wr) (fun i _ => n - (intOf i).toNat)
  case atStart => exact ⟨0, Nat.zero_le _, rfl, by simpa [Hid, partB, ramp, u8s] using hc1, by simpa [Hid, partB, ramp, u8s, xor3] using hd0, BD⟩
  case round =>
    obtain ⟨k, hk, rfl, HC, HD, B⟩ := hrel
    clear hc1 hd0 BD
    by_cases hlt : k < n
    · have hra := length_ramp x k
      have hxl : (xor3 (a.take k) (b.take k) (ramp x k)).length = k := by
        have h1 := HA.out
        have h2 := HB.out
        rw [length_xor3 (by simp; omega) (by simp; omega)]; simp; omega
      obtain ⟨b5, o5, p, rfl, hb5, hca', hp⟩ := hA0.byte_at (k := k) (by rw [HA.out]; omega)
      obtain ⟨b6, o6, q, rfl, hb6, hcb', hq⟩ := hB0.byte_at (k := k) (by rw [HB.out]; omega)
      have hca := (B.cell (p := ⟨b5, o5 + k, none⟩) hb5).trans hca'
      have hcb := (B.cell (p := ⟨b6, o6 + k, none⟩) hb6).trans hcb'
      have j1 : (k : Int) < n := by omega
      have j2 : (k : Int) < n0 := by omega
      have j3 : (k : Int) < n1 := by omega
      have hck : wr.cell? ⟨gc', k, none⟩ = some (.int .u8 0) := by
        obtain ⟨b', o', hA', _, hc'⟩ := cells_of_heap HC.out (by simp [partB, ramp]; omega)
        injection hA' with hA'
        injection hA' with e1 e2
        subst e1; subst e2
        have := hc' k (.int .u8 0) (by unfold partB; rw [List.getElem?_append_right (by rw [length_u8s, hra]; omega), length_u8s, hra, List.getElem?_replicate, if_pos (by omega)])
        rwa [Nat.zero_add] at this
      have hcf : wr.frozen? ⟨gc', k, none⟩ = false := by simp [World.frozen?, HC.out]
      have hv : ((x.toNat : Int) + k) % 256 = ((lo8 (x.toNat + k)).toNat : Int) := by rw [lo8_toNat]; omega
      go_upto_region 12 with (fail)
      have hC2 : (wr.setCell ⟨gc', k, none⟩ (.int .u8 ((lo8 (x.toNat + k)).toNat : Int))).heap[gc']? = some (.cells (partB (ramp x (k + 1)) n).toArray 5 (0, 0)) := by
        rw [heap_setCell_same _ _ _ _ _ _ HC.out]
        have := partB_set (ramp x k) n (lo8 (x.toNat + k)) (by omega)
        rw [hra] at this
        rw [ramp_succ, ← this]
        simp
      have hD2 : (wr.setCell ⟨gc', k, none⟩ (.int .u8 ((lo8 (x.toNat + k)).toNat : Int))).heap[gd']? = some (.cells (partB (xor3 (a.take k) (b.take k) (ramp x k)) n).toArray 5 (0, 0)) :=
        (Below.heap_setCell _ _ _ _ (by show gd' ≠ gc'; omega)).trans HD.out
      have B2 : Below w.heap.size w (wr.setCell ⟨gc', k, none⟩ (.int .u8 ((lo8 (x.toNat + k)).toNat : Int))) := B.setCell (by exact hlc) _
      generalize wr.setCell ⟨gc', k, none⟩ (.int .u8 ((lo8 (x.toNat + k)).toNat : Int)) = w2 at *
      clear hca hcb hck hcf hv HC HD B
      have hca := (B2.cell (p := ⟨b5, o5 + k, none⟩) hb5).trans hca'
      have hcb := (B2.cell (p := ⟨b6, o6 + k, none⟩) hb6).trans hcb'
      clear hca' hcb'
      have hck : w2.cell? ⟨gc', k, none⟩ = some (.int .u8 ((lo8 (x.toNat + k)).toNat : Int)) := by
        obtain ⟨b', o', hA', _, hc'⟩ := cells_of_heap hC2 (by simp [partB, ramp_succ, u8s])
        injection hA' with hA'
        injection hA' with e1 e2
        subst e1; subst e2
        have := hc' k (.int .u8 ((lo8 (x.toNat + k)).toNat : Int)) (by unfold partB; rw [ramp_succ, List.getElem?_append_left (by rw [length_u8s]; simp [ramp]), u8s, List.map_append, List.getElem?_append_right (by simp [ramp])]; simp [ramp])
        rwa [Nat.zero_add] at this
      have hdk : w2.cell? ⟨gd', k, none⟩ = some (.int .u8 0) := by
        obtain ⟨b', o', hA', _, hc'⟩ := cells_of_heap hD2 (by intro h0; have := congrArg List.length h0; simp [partB, u8s, hxl] at this; omega)
        injection hA' with hA'
        injection hA' with e1 e2
        subst e1; subst e2
        have := hc' k (.int .u8 0) (by unfold partB; rw [List.getElem?_append_right (by rw [length_u8s, hxl]; omega), length_u8s, hxl, List.getElem?_replicate, if_pos (by omega)])
        rwa [Nat.zero_add] at this
      have hdf : w2.frozen? ⟨gd', k, none⟩ = false := by simp [World.frozen?, hD2]
      have x1 := xor_u8 p q
      have x2 := xor_u8 (p ^^^ q) (lo8 (x.toNat + k))
      have hC3 : (w2.setCell ⟨gd', k, none⟩ (.int .u8 ((p ^^^ q ^^^ lo8 (x.toNat + k)).toNat : Int))).heap[gc']? = some (.cells (partB (ramp x (k + 1)) n).toArray 5 (0, 0)) :=
        (Below.heap_setCell _ _ _ _ (by show gc' ≠ gd'; omega)).trans hC2
      have hD3 : (w2.setCell ⟨gd', k, none⟩ (.int .u8 ((p ^^^ q ^^^ lo8 (x.toNat + k)).toNat : Int))).heap[gd']? = some (.cells (partB (xor3 (a.take (k + 1)) (b.take (k + 1)) (ramp x (k + 1))) n).toArray 5 (0, 0)) := by
        rw [heap_setCell_same _ _ _ _ _ _ hD2]
        have := partB_set (xor3 (a.take k) (b.take k) (ramp x k)) n (p ^^^ q ^^^ lo8 (x.toNat + k)) (by omega)
        rw [hxl] at this
        rw [take_succ_of hp.out, take_succ_of hq.out, ramp_succ, xor3_snoc _ _ _ (by have h1 := HA.out; have h2 := HB.out; simp; omega) (by have h2 := HB.out; simp [ramp]; omega), ← this]
        simp
      have B3 : Below w.heap.size w (w2.setCell ⟨gd', k, none⟩ (.int .u8 ((p ^^^ q ^^^ lo8 (x.toNat + k)).toNat : Int))) := B2.setCell (by exact hld) _
      obtain ⟨P, eP⟩ : ∃ P, P = (p ^^^ q).toNat := ⟨_, rfl⟩
      obtain ⟨R, eR⟩ : ∃ R, R = (p ^^^ q ^^^ lo8 (x.toNat + k)).toNat := ⟨_, rfl⟩
      rw [← eP] at x1 x2
      rw [← eR] at x2 hC3 hD3 B3
      clear eP eR
      have HC3 := hide hC3
      have HD3 := hide hD3
      clear hC2 hD2 hC3 hD3 B2
      go_still_tail 17, (by kernel_rfl)
      change wpList _ _ _ _ _ w2.drew
      go_wp2
      go_roundw
      case rel => exact ⟨k + 1, by omega, by go_num, HC3, HD3, B3.drew⟩
      case measure => simp [intOf]; omega
    · obtain rfl : k = n := by omega
      have hC := cells_of_heap HC.out
      have hD := cells_of_heap HD.out
      have hxl : (xor3 (a.take k) (b.take k) (ramp x k)).length = k := by
        have h1 := HA.out
        have h2 := HB.out
        rw [length_xor3 (by simp; omega) (by simp [ramp]; omega)]; simp; omega
      rw [show partB (ramp x k) k = u8s (ramp x k) by simp [partB, ramp]] at hC
      rw [show partB (xor3 (a.take k) (b.take k) (ramp x k)) k = u8s (xor3 (a.take k) (b.take k) (ramp x k)) by unfold partB; rw [hxl]; simp] at hD
      have hA := (hA0.below B).takeB k
      have hB := (hB0.below B).takeB k
      have la : (a.take k).length = k := by have := HA.out; simp; omega
      have lb : (b.take k).length = k := by have := HB.out; simp; omega
      have hx := crcN_xor3 (l := a.take k) (m := b.take k) (n := ramp x k) (by omega) (by rw [lb, length_ramp])
      obtain ⟨ta, eta⟩ : ∃ t, t = a.take k := ⟨_, rfl⟩
      obtain ⟨tb, etb⟩ : ∃ t, t = b.take k := ⟨_, rfl⟩
      obtain ⟨tc, etc⟩ : ∃ t, t = ramp x k := ⟨_, rfl⟩
      have lc : tc.length = k := by rw [etc]; exact length_ramp x k
      rw [← eta, ← etb, ← etc] at hD hx hxl
      rw [← eta] at hA la
      rw [← etb] at hB lb
      rw [← etc] at hC
      obtain ⟨td, etd⟩ : ∃ t, t = xor3 ta tb tc := ⟨_, rfl⟩
      rw [← etd] at hD hx hxl
      clear eta etb etc etd HC HD
      have LA := hide la
      have LB := hide lb
      have LC := hide lc
      have LD := hide hxl
      clear la lb lc hxl
      have i6 : (k : Int) ≤ c0 := by omega
      have i7 : (k : Int) ≤ c1 := by omega
      have hx1 : ∃ T, bits .xor .u32 (crcN ta : Nat) (crcN tb : Nat) = T := ⟨_, rfl⟩
      obtain ⟨T, hT⟩ := hx1
      rw [hT] at hx
      go_wp2_with fail
      refine wp_region_grow (R := Stays) 99999 [3, 7, 10, 13, 16] [0, 1, 2, 4, 5, 6, 9, 12, 3, 7, 8, 10, 11, 13, 14, 15, 16, 17, 18] (by kernel_rfl) Stays.tr Stays.rf (by kernel_rfl) (fun _ _ _ _ _ h => h) ?_
      (repeat ((first | (refine grow_skip (by rfl) (by rfl) ?_ (by first | exact Stays.rf _ | exact Lower.rf _ _ | exact Holds.rf _ _)) | (refine grow_take (v := ?_) (by rfl) (by rfl) (by rfl) ?_ ?_; rotate_left 1; focus (intro w' hSw; go_simp; (try (with_reducible rfl)); done))); (try simp only [Act.put, List.setIfInBounds_toArray, List.set_cons_zero, List.set_cons_succ])))
      refine grow_move (by rfl) (by rfl) (by rfl) (fun K hK => ?_); go_simp
      refine (crc_any A0 k c0 ta _ LA.out (by omega) hA.drew).mono ?_
      rintro e u1 ⟨rfl, rfl⟩
      refine hK.out _ _ (Stays.rf _) ?_; clear hK K; (try simp only [Act.put, List.setIfInBounds_toArray, List.set_cons_zero, List.set_cons_succ])
      (repeat ((first | (refine grow_skip (by rfl) (by rfl) ?_ (by first | exact Stays.rf _ | exact Lower.rf _ _ | exact Holds.rf _ _)) | (refine grow_take (v := ?_) (by rfl) (by rfl) (by rfl) ?_ ?_; rotate_left 1; focus (intro w' hSw; go_simp; (try (with_reducible rfl)); done))); (try simp only [Act.put, List.setIfInBounds_toArray, List.set_cons_zero, List.set_cons_succ])))
      refine grow_move (by rfl) (by rfl) (by rfl) (fun K hK => ?_); go_simp
      refine (crc_any A1 k c1 tb _ LB.out (by omega) hB.drew).mono ?_
      rintro e u1 ⟨rfl, rfl⟩
      refine hK.out _ _ (Stays.rf _) ?_; clear hK K; (try simp only [Act.put, List.setIfInBounds_toArray, List.set_cons_zero, List.set_cons_succ])
      (repeat ((first | (refine grow_skip (by rfl) (by rfl) ?_ (by first | exact Stays.rf _ | exact Lower.rf _ _ | exact Holds.rf _ _)) | (refine grow_take (v := ?_) (by rfl) (by rfl) (by rfl) ?_ ?_; rotate_left 1; focus (intro w' hSw; go_simp; (try (with_reducible rfl)); done))); (try simp only [Act.put, List.setIfInBounds_toArray, List.set_cons_zero, List.set_cons_succ])))
      refine grow_move (by rfl) (by rfl) (by rfl) (fun K hK => ?_); go_simp
      refine (crc_any _ k k tc _ LC.out (by omega) hC.drew).mono ?_
      rintro e u1 ⟨rfl, rfl⟩
      refine hK.out _ _ (Stays.rf _) ?_; clear hK K; (try simp only [Act.put, List.setIfInBounds_toArray, List.set_cons_zero, List.set_cons_succ])
      (repeat ((first | (refine grow_skip (by rfl) (by rfl) ?_ (by first | exact Stays.rf _ | exact Lower.rf _ _ | exact Holds.rf _ _)) | (refine grow_take (v := ?_) (by rfl) (by rfl) (by rfl) ?_ ?_; rotate_left 1; focus (intro w' hSw; go_simp; (try (with_reducible rfl)); done))); (try simp only [Act.put, List.setIfInBounds_toArray, List.set_cons_zero, List.set_cons_succ])))
      refine grow_move (by rfl) (by rfl) (by rfl) (fun K hK => ?_); go_simp
      refine (crc_any _ k k td _ LD.out (by omega) hD.drew).mono ?_
      rintro e u1 ⟨rfl, rfl⟩
      refine hK.out _ _ (Stays.rf _) ?_; clear hK K; (try simp only [Act.put, List.setIfInBounds_toArray, List.set_cons_zero, List.set_cons_succ])
      (repeat ((first | (refine grow_skip (by rfl) (by rfl) ?_ (by first | exact Stays.rf _ | exact Lower.rf _ _ | exact Holds.rf _ _)) | (refine grow_take (v := ?_) (by rfl) (by rfl) (by rfl) ?_ ?_; rotate_left 1; focus (intro w' hSw; go_simp; (try (with_reducible rfl)); done))); (try simp only [Act.put, List.setIfInBounds_toArray, List.set_cons_zero, List.set_cons_succ])))
      refine grow_move (by rfl) (by rfl) (by rfl) (fun K hK => ?_); go_simp
      refine (known4_any _).mono ?_
      rintro e u1 ⟨rfl, hb⟩
      refine hK.out _ _ (hb) ?_; clear hK K; (try simp only [Act.put, List.setIfInBounds_toArray, List.set_cons_zero, List.set_cons_succ])
      have BZ := nxt B.drew hb
      clear hb B
      (repeat ((first | (refine grow_skip (by rfl) (by rfl) ?_ (by first | exact Stays.rf _ | exact Lower.rf _ _ | exact Holds.rf _ _)) | (refine grow_take (v := ?_) (by rfl) (by rfl) (by rfl) ?_ ?_; rotate_left 1; focus (intro w' hSw; go_simp; (try (with_reducible rfl)); done))); (try simp only [Act.put, List.setIfInBounds_toArray, List.set_cons_zero, List.set_cons_succ])))
      refine grow_done ?_
      go_wp2_with fail
      go_ret
      exact ⟨rfl, BZ⟩
end Go.Proofs.Ytagphgpikmlicaa
