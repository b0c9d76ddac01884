/-
  What the reference's reader computes.
-/
import Derived.Test.YtbfjdhbgpjenbaaDoorReader
namespace Go.Proofs.YtbfjdhbgpjenbaaDoor
set_option linter.unusedSimpArgs false
open Go.RowKit
set_option linter.unusedVariables false

/-- Block d is the reference's reader; its bytes lie before block m. -/
structure RefAt (w : World) (d m : Nat) (s : Rd) : Prop where
  blk : ∃ A c B k why, w.heap[d]? = some (.cells #[.slice A (List.length B) c, .int .i64 ((k : Nat) : Int), .int .i64 why] 83 (0, 0)) ∧ Cells w A (u8s B) ∧ (B ≠ [] → ∀ a, A = some a → a.block < m) ∧ B.length ≤ c ∧ c ≤ 9223372036854775807 ∧ k ≤ B.length ∧ s.l = B.drop k ∧ why = (if s.bad = true then (10 : Int) else 0)
  le : m ≤ d
theorem RefAt.lt {w : World} {d m : Nat} {s : Rd} (h : RefAt w d m s) : d < w.heap.size := by
  obtain ⟨A, c, B, k, why, h0, _⟩ := h.blk
  exact (Array.getElem?_eq_some_iff.1 h0).1
theorem RefAt.below {w w' : World} {d m : Nat} {s : Rd} (h : RefAt w d m s) (hb : Below w.heap.size w w') : RefAt w' d m s := by
  obtain ⟨A, c, B, k, why, h0, h1, h2, h3⟩ := h.blk
  exact ⟨⟨A, c, B, k, why, (hb.block d h.lt).trans h0, h1.below hb, h2, h3⟩, h.le⟩
theorem RefAt.other {w w' : World} {d m d' : Nat} {s : Rd} (h : RefAt w d m s) (hb : Leaves d' none w w') (hne : d ≠ d') (hm : m ≤ d') : RefAt w' d m s := by
  obtain ⟨A, c, B, k, why, h0, h1, h2, h3⟩ := h.blk
  refine ⟨⟨A, c, B, k, why, (hb.block d h.lt hne (by simp)).trans h0, ?_, h2, h3⟩, h.le⟩
  by_cases hB : B = []
  · subst hB; exact Cells.nil _ _
  · exact hb.cells h1 (fun b o hA => ⟨by have := h2 hB _ hA; simp only at this; omega, by simp⟩)
theorem Cells.setB {w : World} {A : Option Addr} {l : List UInt8} (h : Cells w A (u8s l)) {d : Nat} (hne : l ≠ [] → ∀ a, A = some a → a.block < d) (i : Nat) (u : Value) : Cells (w.setCell ⟨d, i, none⟩ u) A (u8s l) := by
  by_cases hl : l = []
  · subst hl; exact Cells.nil _ _
  · exact h.set (hne hl) i u
/-- A new one. -/
theorem RefAt.new {w : World} {A : Option Addr} {n c m : Nat} {l : List UInt8} (hn : l.length = n) (hA : Cells w A (u8s l)) (hlt : ∀ a, A = some a → a.block < m) (hm : m ≤ w.heap.size) (h1 : n ≤ c) (h2 : c ≤ 9223372036854775807) :
    RefAt (w.alloc (.cells #[.slice A n c, .int .i64 0, .int .i64 0] 83)) w.heap.size m ⟨l, false⟩ := by
  subst hn
  exact ⟨⟨A, c, l, 0, 0, heap_alloc_new _ _, hA.alloc _, fun _ => hlt, h1, h2, Nat.zero_le _, rfl, rfl⟩, hm⟩
theorem RefAt.new' {w : World} {A : Option Addr} {n c : Nat} {l : List UInt8} (hn : l.length = n) (hA : Cells w A (u8s l)) (h1 : n ≤ c) (h2 : c ≤ 9223372036854775807) :
    RefAt (w.alloc (.cells #[.slice A n c, .int .i64 0, .int .i64 0] 83)) w.heap.size w.heap.size ⟨l, false⟩ := by
  subst hn
  refine ⟨⟨A, c, l, 0, 0, heap_alloc_new _ _, hA.alloc _, fun hl a ha => ?_, h1, h2, Nat.zero_le _, rfl, rfl⟩, Nat.le_refl _⟩
  obtain ⟨b, o, hb, hlt, _⟩ := hA (by simpa [u8s] using hl)
  rw [ha] at hb
  injection hb with hb
  subst hb
  exact hlt
/-- What the reference's take answers. -/
def RTaken (w : World) (d m0 n : Nat) (s : Rd) (e : Ending) (w' : World) : Prop :=
  (∃ A m c, e = .returned (.slice A m c) ∧ (s.took n).length = m ∧ m ≤ c ∧ Cells w' A (u8s (s.took n))) ∧ RefAt w' d m0 (s.left n) ∧ Leaves d none w w'
theorem Leaves.drewN {d : Nat} {r : Option Nat} {w w' : World} (h : Leaves d r w w') (n : Nat) : Leaves d r w (w'.drewN n) := ⟨h.os, h.tape, h.output, h.size, h.block⟩
theorem refTake_end {w : World} {d m0 n k : Nat} {l B : List UInt8} {A A' : Option Addr} {c c' : Nat} (nn : Nat) (hb : w.heap[d]? = some (.cells #[.slice A B.length c, .int .i64 (k : Int), .int .i64 0] 83 (0, 0)))
    (hT : Rd.took ⟨l, false⟩ n = l.take n ∧ Rd.left ⟨l, false⟩ n = ⟨l.drop n, false⟩) (hA : Cells w A (u8s B)) (hne0 : B ≠ [] → ∀ a, A = some a → a.block < m0) (hmd : m0 ≤ d) (hcut : Cells w A' (u8s (l.take n))) (hne' : l.take n ≠ [] → ∀ a, A' = some a → a.block < d) (hlc : B.length ≤ c) (hcm : c ≤ 9223372036854775807) (hk : k + n ≤ B.length)
    (hle : (l.take n).length = n) (hld : l.drop n = B.drop (k + n)) (hc' : n ≤ c') :
    RTaken w d m0 n ⟨l, false⟩ (.returned (.slice A' (k + n - k) c')) ((w.drewN nn).setCell ⟨d, 1, none⟩ (.int .i64 ((k : Int) + (n : Int)))) := by
  have hb1 : (w.drewN nn).heap[d]? = _ := hb
  have hne : B ≠ [] → ∀ a, A = some a → a.block < d := fun hB a h => Nat.lt_of_lt_of_le (hne0 hB a h) hmd
  unfold RTaken
  rw [hT.1, hT.2]
  refine ⟨⟨A', n, c', by rw [show k + n - k = n by omega], hle, hc', (hcut.drewN nn).setB hne' _ _⟩, ⟨⟨A, c, B, k + n, 0, ?_, (hA.drewN nn).setB hne _ _, hne0, hlc, hcm, hk, hld, rfl⟩, hmd⟩, ((Leaves.refl _ _ _).drewN nn).setCell _ _⟩
  rw [heap_setCell_same _ _ _ _ _ _ hb1, Int.natCast_add]
  rfl
set_option maxHeartbeats 1600000 in
theorem refTake_any (d m0 n : Nat) (N : Int) (s : Rd) (w : World) (hN : N = n) (hnb : n ≤ 255) (hlb : s.l.length ≤ 1000000000000) (h : RefAt w d m0 s) :
    Calls Tryd.prog 56 #[.pointer (some ⟨d, 0, none⟩), .int .i64 N] w (RTaken w d m0 n s) := by
  subst hN
  obtain ⟨A, c, B, k, why, hb, hA, hne0, hlc, hcm, hk, hl, hw⟩ := h.blk
  have hmd := h.le
  have hne : B ≠ [] → ∀ a, A = some a → a.block < d := fun hB a h => Nat.lt_of_lt_of_le (hne0 hB a h) hmd
  obtain ⟨l, bad⟩ := s
  simp only at hl hw hlb
  have c0 : w.cell? ⟨d, 0, none⟩ = some (.slice A B.length c) := by simp [World.cell?, hb]
  have c1 : w.cell? ⟨d, 1, none⟩ = some (.int .i64 (k : Int)) := by simp [World.cell?, hb]
  have c2 : w.cell? ⟨d, 2, none⟩ = some (.int .i64 why) := by simp [World.cell?, hb]
  have f1 : w.frozen? ⟨d, 1, none⟩ = false := by simp [World.frozen?, hb]
  have f2 : w.frozen? ⟨d, 2, none⟩ = false := by simp [World.frozen?, hb]
  have hBl : B.length = k + l.length := by rw [hl]; simp; omega
  have HB := hide hb
  have H := hide h
  have HL := hide hl
  clear hb h hl
  cases bad
  · have hw' : why = 0 := by rw [hw]; rfl
    subst hw'
    clear hw
    by_cases hn : l.length < n
    · have HT := hide (take_bad (s := ⟨l, false⟩) (.inr hn))
      have i1 : (B.length : Int) - k < n := by omega
      have HA := hide hA
      have HBL := hide hBl
      clear hA hBl
      go_enter Tryd.func56, Tryd.ntmps56
      go_wp2_with fail
      go_quiet (fail)
      go_wp2_with fail
      go_ret
      unfold RTaken
      rw [HT.out.1, HT.out.2]
      have hb1 : (w.drewN nq).heap[d]? = _ := HB.out
      exact ⟨⟨none, 0, 0, rfl, rfl, Nat.le_refl _, Cells.nil _ _⟩, ⟨⟨A, c, B, k, 10, by rw [heap_setCell_same _ _ _ _ _ _ hb1]; rfl, (HA.out.drewN nq).setB hne _ _, hne0, hlc, hcm, hk, HL.out, rfl⟩, hmd⟩, ((Leaves.refl _ _ _).drewN nq).setCell _ _⟩
    · have HT := hide (take_get (s := ⟨l, false⟩) (n := n) (by simp; omega))
      have i1 : ¬ (B.length : Int) - k < n := by omega
      have i2 : k + n ≤ B.length := by omega
      have hw1 : IntKind.i64.wrap ((k : Int) + n) = ((k + n : Nat) : Int) := by rw [IntWalk.i64_in _ (by omega)]; omega
      have i3 : ((k + n : Nat) : Int) ≤ c := by omega
      have i4 : (k : Int) ≤ ((k + n : Nat) : Int) := by omega
      have hle : (l.take n).length = n := by simp; omega
      have hld : l.drop n = B.drop (k + n) := by rw [HL.out, List.drop_drop]
      have hBne : l.take n ≠ [] → B ≠ [] := by rintro h rfl; apply h; rw [HL.out]; simp
      have hcut := (hA.dropB k c hlc).takeB n
      rw [← HL.out] at hcut
      have HCUT := hide hcut
      have HA := hide hA
      have HBL := hide hBl
      have HLE := hide hle
      have HLD := hide hld
      clear hcut hle hBl hA hld
      by_cases hck : c = k
      · have hcut : Cells w A (u8s (l.take n)) := by have := HCUT.out; rwa [if_pos hck] at this
        subst hck
        go_enter Tryd.func56, Tryd.ntmps56
        go_wp2_with fail
        go_quiet (fail)
        go_wp2_with fail
        go_quiet (fail)
        go_wp2_with fail
        go_ret
        exact refTake_end _ HB.out HT.out HA.out hne0 hmd hcut (fun h => hne (hBne h)) hlc hcm i2 HLE.out HLD.out (by omega)
      · have hcut : Cells w (A.map (·.add k)) (u8s (l.take n)) := by have := HCUT.out; rwa [if_neg hck] at this
        go_enter Tryd.func56, Tryd.ntmps56
        go_wp2_with fail
        go_quiet (fail)
        go_wp2_with fail
        go_quiet (fail)
        go_wp2_with fail
        go_ret
        refine refTake_end _ HB.out HT.out HA.out hne0 hmd hcut ?_ hlc hcm i2 HLE.out HLD.out (by omega)
        intro hnl a ha
        have hne := hne (hBne hnl)
        rcases A with _ | a0
        · simp at ha
        · simp at ha; subst ha
          have := hne a0 rfl
          unfold Addr.add
          split <;> exact this
  · have hw' : why = 10 := by rw [hw]; rfl
    subst hw'
    have HT := hide (take_bad (s := ⟨l, true⟩) (n := n) (.inl rfl))
    have HA := hide hA
    have HBL := hide hBl
    clear hA hBl hw
    go_enter Tryd.func56, Tryd.ntmps56
    go_wp2_with fail
    go_ret
    unfold RTaken
    rw [HT.out.1, HT.out.2]
    exact ⟨⟨none, 0, 0, rfl, rfl, Nat.le_refl _, Cells.nil _ _⟩, H.out, Leaves.refl _ _ _⟩
/-- What the reference's methods answer. -/
def RGot (v : Value) (w : World) (d m0 : Nat) (s' : Rd) (e : Ending) (w' : World) : Prop := e = .returned v ∧ RefAt w' d m0 s' ∧ Leaves d none w w'
theorem ofLe_one (x : UInt8) : ofLe [x] = x.toNat := by simp [ofLe]
theorem refRByte_any (d m0 : Nat) (s : Rd) (w : World) (hlb : s.l.length ≤ 1000000000000) (h : RefAt w d m0 s) :
    Calls Tryd.prog 46 #[.pointer (some ⟨d, 0, none⟩)] w (RGot (.int .i64 (s.byteOf : Nat)) w d m0 (s.left 1)) := by
  go_enter Tryd.func46, Tryd.ntmps46
  go_wp2_with fail
  refine (refTake_any d m0 1 1 s _ rfl (by omega) hlb h).mono ?_
  rintro e w1 ⟨⟨A, m, c, rfl, hm, hmc, hA⟩, hR, hL⟩
  have hl := s.length_took 1
  obtain ⟨t, et⟩ : ∃ t, t = s.took 1 := ⟨_, rfl⟩
  have hbo : s.byteOf = ofLe t := by rw [et]; rfl
  rw [← et] at hm hA hl
  have HB := hide hbo
  clear et hbo h
  subst hm
  rcases t with _ | ⟨x, t⟩
  · go_wp2_with fail
    go_ret
    exact ⟨by rw [HB.out]; rfl, hR, hL⟩
  · obtain rfl : t = [] := by
      rcases t with _ | ⟨y, t⟩
      · rfl
      · simp at hl
    obtain ⟨b, o, y, rfl, hb, hc, hy⟩ := hA.byte_at (k := 0) (by simp)
    obtain rfl : x = y := by have := hy.out; simpa using this
    rw [Nat.add_zero] at hc
    have hx8 := x.toNat_lt
    have hwx : wrap64 (x.toNat : Int) = (x.toNat : Int) := by unfold wrap64; omega
    clear hA
    go_wp2_with fail
    go_ret
    refine ⟨?_, hR, hL⟩
    rw [HB.out, ofLe_one]
    rfl
set_option maxHeartbeats 800000 in
theorem refRLong_any (d m0 : Nat) (s : Rd) (w : World) (hlb : s.l.length ≤ 1000000000000) (h : RefAt w d m0 s) :
    Calls Tryd.prog 47 #[.pointer (some ⟨d, 0, none⟩)] w (RGot (.int .i64 s.longOf) w d m0 (s.left 8)) := by
  have hlen8 := s.length_took 8
  go_enter Tryd.func47, Tryd.ntmps47
  go_wp2_with fail
  refine (refTake_any d m0 8 8 s _ rfl (by omega) hlb h).mono ?_
  rintro e w1 ⟨⟨A, m, c, rfl, hm, hmc, hA⟩, hR, hL⟩
  obtain ⟨l, el⟩ : ∃ l, l = s.took 8 := ⟨_, rfl⟩
  rw [← el] at hm hA hlen8
  subst hm
  have HEL := hide el
  clear el h
  go_wp2_with fail
  go_loop [4, 5] (fun v i => ∃ k : Nat, k ≤ l.length ∧ i = .int .i64 k ∧ v = .int .u64 (ofLe (l.take k) : Nat)) (fun _ i => l.length - (intOf i).toNat)
  case atStart => exact ⟨0, Nat.zero_le _, rfl, rfl⟩
  case round =>
    obtain ⟨k, hk, rfl, rfl⟩ := hrel
    by_cases hlt : k < l.length
    · obtain ⟨b, o, x, rfl, hb, hc, hx⟩ := hA.byte_at hlt
      have i1 : (k : Int) < l.length := by omega
      have HS := ofLe_take_succ hx.out
      have hacc := ofLe_lt (l.take k)
      rw [List.length_take, Nat.min_eq_left hk] at hacc
      have hor := or_step _ k x (by omega) hacc
      rw [← HS] at hor
      clear hA HS hacc
      go_wp2_with fail
      go_round
      case rel => exact ⟨k + 1, by omega, by go_num, rfl⟩
      case measure => simp [intOf]; omega
    · obtain rfl : k = l.length := by omega
      rw [List.take_length]
      obtain ⟨m, em⟩ : ∃ m, m = ofLe l := ⟨_, rfl⟩
      rw [← em]
      have EM := hide em
      clear em
      go_wp2_with fail
      go_ret
      exact ⟨by unfold Rd.longOf; rw [← HEL.out, ← EM.out]; rfl, hR, hL⟩
theorem refREnd_any (d m0 : Nat) (s : Rd) (w : World) (h : RefAt w d m0 s) :
    Calls Tryd.prog 48 #[.pointer (some ⟨d, 0, none⟩)] w fun e w' => e = .returned (.int .i64 s.endOf) ∧ Below w.heap.size w w' := by
  obtain ⟨A, c, B, k, why, hb, hA, hne, hlc, hcm, hk, hl, hw⟩ := h.blk
  obtain ⟨l, bad⟩ := s
  simp only at hl hw
  have c0 : w.cell? ⟨d, 0, none⟩ = some (.slice A B.length c) := by simp [World.cell?, hb]
  have c1 : w.cell? ⟨d, 1, none⟩ = some (.int .i64 (k : Int)) := by simp [World.cell?, hb]
  have c2 : w.cell? ⟨d, 2, none⟩ = some (.int .i64 why) := by simp [World.cell?, hb]
  have hBl : B.length = k + l.length := by rw [hl]; simp; omega
  clear hb h hl hA
  cases bad
  · have hw' : why = 0 := by rw [hw]; rfl
    subst hw'
    clear hw
    rcases l with _ | ⟨x, l⟩
    · have i1 : ¬ ((k : Int) < B.length) := by simp at hBl; omega
      have HBL := hide hBl
      clear hBl
      go_enter Tryd.func48, Tryd.ntmps48
      go_wp2_with fail
      go_quiet (fail)
      go_wp2_with fail
      go_ret
      exact ⟨rfl, below_drewN (Below.refl _ _) _⟩
    · have i1 : (k : Int) < B.length := by simp at hBl; omega
      have HBL := hide hBl
      clear hBl
      go_enter Tryd.func48, Tryd.ntmps48
      go_wp2_with fail
      go_quiet (fail)
      go_wp2_with fail
      go_ret
      exact ⟨rfl, below_drewN (Below.refl _ _) _⟩
  · have hw' : why = 10 := by rw [hw]; rfl
    subst hw'
    have HBL := hide hBl
    clear hBl hw
    go_enter Tryd.func48, Tryd.ntmps48
    go_wp2_with fail
    go_ret
    exact ⟨rfl, Below.refl _ _⟩
end Go.Proofs.YtbfjdhbgpjenbaaDoor
