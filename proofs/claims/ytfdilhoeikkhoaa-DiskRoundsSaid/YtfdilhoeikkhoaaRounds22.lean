/-
  The walk of DiskRounds.
-/
import Derived.Test.YtfdilhoeikkhoaaKnown22
import Derived.Test.YtfdilhoeikkhoaaWithin
namespace Go.Proofs.Ytfdilhoeikkhoaa
open Go.RowKit
set_option linter.unusedVariables false

def lost : List UInt8 := [108, 111, 115, 116]
theorem Cells.take {w : World} {A : Option Addr} {xs : List Value} (h : Cells w A xs) (n : Nat) : Cells w A (xs.take n) := fun hn => by
  obtain ⟨b, o, rfl, hb, hc⟩ := h (by rintro rfl; simp at hn)
  refine ⟨b, o, rfl, hb, fun k u hu => hc k u ?_⟩
  rw [List.getElem?_take] at hu
  split at hu
  · exact hu
  · cases hu
theorem extract_str (l : List UInt8) (k : Nat) : (ByteArray.mk l.toArray).extract 0 k = str (l.take k) := by rw [ByteArray.extract_mk]; simp [str]

set_option maxRecDepth 100000 in
set_option maxHeartbeats 3200000 in
theorem diskRounds_walk (A0 : Option Addr) (n0 c0 : Nat) (ls : List (List Int)) (A1 : Option Addr) (c1 : Nat) (ks : List Int) (w : World) (h0 : ArgLL .u8 w A0 n0 c0 ls) (h1 : ArgI .i64 w A1 c1 ks) :
    Calls Try.prog 3 #[.slice A0 n0 c0, .slice A1 ks.length c1] w fun e w' => e = .returned (.bool true) ∧ Below w.heap.size w w' := by
  have hn0 : n0 ≤ 9223372036854775807 := by have := h0.le; have := h0.max; unfold maxLen at this; omega
  have hks : ks.length ≤ 9223372036854775807 := by have := h1.le; have := h1.max; unfold maxLen at this; omega
  have kc := fun (w : World) (C : Array Value) (n c : Nat) => Lib.run_convert_bytes_const (P := Try.prog) w 26 5 C n c Try.underlying26 Try.underlying5
  go_enter Try.func3, Try.ntmps3
  go_wp2_with fail
  refine (new_any _).mono ?_
  rintro e w1 ⟨d, rfl, hd, D1, B1⟩
  go_wp2_with fail
  go_loopw [6, 7] (fun want i wr => ∃ (k : Nat) (r : Option Nat) (l : List UInt8), k ≤ n0 ∧ k ≤ 12 ∧ i = .int .i64 k ∧ want = .string (str l) ∧ DiskAt wr d r l l.length ∧ l.length ≤ 104 * k ∧ Below w.heap.size w wr) (fun _ i _ => n0 - (intOf i).toNat)
  case atStart => exact ⟨0, none, [], Nat.zero_le _, by omega, rfl, rfl, D1, by simp, B1⟩
  case round =>
    obtain ⟨k, r, l, hk, hk12, rfl, rfl, D, hl, B⟩ := hrel
    clear D1 B1
    by_cases hlt : k < n0 ∧ k < 12
    · obtain ⟨hlt, hlt12⟩ := hlt
      obtain ⟨bb, oo, Ax, cx, bl, rfl, hbb, hcell, hax, -⟩ := h0.at_ B hlt
      obtain ⟨x, hxl, hxc⟩ := hax.bytes
      have hbl : bl.length ≤ cx := hax.le
      have HX := hide hxl; clear hxl
      clear hax h0
      have i1 : (k : Int) < n0 := by omega
      -- the piece, cut to 100 bytes
      obtain ⟨m, x', hm, hm100, hx'c, hcut⟩ : ∃ (m : Nat) (x' : List UInt8), x'.length = m ∧ m ≤ 100 ∧ Cells w Ax (u8s x') ∧ ((bl.length ≤ 100 ∧ m = bl.length) ∨ (100 < bl.length ∧ m = 100)) := by
        by_cases h100 : bl.length ≤ 100
        · exact ⟨_, x, HX.out, h100, hxc, .inl ⟨h100, rfl⟩⟩
        · exact ⟨100, x.take 100, by simp [HX.out]; omega, by omega, by simpa [u8s, List.map_take] using hxc.take 100, .inr ⟨by omega, rfl⟩⟩
      have HM := hide hm; clear hm
      have hkeep : ∃ keep : Int, 0 ≤ keep ∧ keep ≤ 4 ∧ Hid (keep = if k < ks.length then within (ks.getD k 0) 0 4 else 0) := by
        refine ⟨_, ?_, ?_, rfl⟩
        · split
          · exact (within_bd _ 0 4 (by omega)).1
          · omega
        · split
          · exact (within_bd _ 0 4 (by omega)).2
          · omega
      obtain ⟨keep, hkp0, hkp4, HKP⟩ := hkeep
      obtain ⟨kn, rfl⟩ := Int.eq_ofNat_of_zero_le hkp0
      have hkn4 : kn ≤ 4 := by omega
      clear hxc
      rcases hcut with ⟨h100, rfl⟩ | ⟨h100, rfl⟩
      all_goals
        go_wp2_with fail
        refine (append_any d r l x' l.length Ax _ cx _ D HM.out (by rw [HM.out]; omega) (hx'c.below B)).mono ?_
        rintro e w2 ⟨rfl, r2, D2, -, L2⟩
        have B2 := nxtD hd B D L2 (.inl rfl)
        go_wp2_with fail
        refine (sync_any d r2 _ _ _ D2).mono ?_
        rintro e w3 ⟨rfl, D3, L3⟩
        have B3 := nxtD hd B2 D2 L3 (.inl rfl)
        have hx3 : Cells w3 Ax (u8s x') := hx'c.below B3
        clear L2 L3 D2 B2
        have k3 := run_str (P := Try.prog) Try.underlying26 Try.underlying5 Try.underlying9 cx HM.out hx3
        have z3 : (str l).size + (str x').size ≤ 9223372036854775807 := by rw [str_size, str_size, HM.out]; omega
        have q3 : str l ++ str x' = str (l ++ x') := str_append l x'
        go_wp2_with fail
        clear k3 z3 q3
        refine (append_any d r2 (l ++ x') lost (l ++ x').length _ _ 4 _ (D3.below ((Below.refl _ _).alloc (Nat.le_refl _) _)) (by decide) (by simp [HM.out, lost]; omega) (Cells.litm w3 #[.int .u8 108, .int .u8 111, .int .u8 115, .int .u8 116] _ _)).mono ?_
        rintro e w4 ⟨rfl, r4, D4, -, L4⟩
        have B4 := nxtD hd (nxt_alloc B3 _) (D3.below ((Below.refl _ _).alloc (Nat.le_refl _) _)) L4 (.inl rfl)
        clear D3 L4 B3 hx3
      all_goals
        obtain ⟨l2, hl2⟩ : ∃ l2, l2 = l ++ x' ++ lost.take kn := ⟨_, rfl⟩
        have hn2 : l2.length = (l ++ x').length + kn := by rw [hl2]; simp [lost]; omega
        have hn2' : l2.length ≤ 104 * (k + 1) := by rw [hn2]; simp [HM.out]; omega
        have hcr : crashLen (l ++ x' ++ lost).length (l ++ x').length (kn : Int) = l2.length := by
          rw [hn2]; unfold crashLen
          rw [if_neg (by omega), if_pos (by simp [lost]; omega)]; simp
        have hlt4 : (l ++ x' ++ lost).take l2.length = l2 := by rw [hn2, hl2, List.take_length_add_append]
        have HCR := hide hcr; clear hcr
        have HLT := hide hlt4; clear hlt4
        have hex : (ByteArray.mk #[108, 111, 115, 116]).extract 0 kn = str (lost.take kn) := extract_str lost kn
        have z5 : (str (l ++ x')).size + (str (lost.take kn)).size ≤ 9223372036854775807 := by rw [str_size, str_size]; simp [HM.out, lost]; omega
        have q5 : str (l ++ x') ++ str (lost.take kn) = str l2 := by rw [hl2]; exact str_append _ _
        have HL2 := hide hl2; clear hl2
        have HN2 := hide hn2; clear hn2
        by_cases hki : k < ks.length
        · rw [if_pos hki] at HKP
          obtain ⟨b5, o5, y, rfl, hb5, hc5', hy⟩ := (h1.cells).int_at (k := k) hki
          have hc5 := (B4.cell (p := ⟨b5, o5 + k, none⟩) hb5).trans hc5'
          have i5 : (k : Int) < ks.length := by omega
          go_wp2_with fail
          refine (within_any y 0 4 _ (by omega) (by omega) (by omega)).mono ?_
          rw [show within y 0 4 = (kn : Int) by have := HKP.out; rw [this]; simp [List.getD, hy.out]]
          rintro e w5 ⟨rfl, rfl⟩
          go_wp2_with fail
          refine (crash_k d r4 _ _ _ _ _ _ D4 HCR.out HLT.out).mono ?_
          rintro e w5 ⟨rfl, D5, L5⟩
          have B5 := nxtD hd B4 D4 L5 (.inl rfl)
          clear hc5 hc5' L5 D4 B4 h1
          go_wp2_with fail
          clear z5 q5 hex
          refine (bytes_any d _ _ _ _ D5).mono ?_
          rintro e w6 ⟨A6, c6, rfl, -, hA6, -, -, hb⟩
          have B6 := nxt B5 hb
          have D6 := D5.below hb
          clear B5 D5 hb
          have k6 := run_str (P := Try.prog) Try.underlying26 Try.underlying5 Try.underlying9 c6 rfl hA6
          have z6 : (str l2).size = l2.length := str_size l2
          go_wp2_with fail
          refine (safe_any d _ _ _ _ D6).mono ?_
          rintro e w7 ⟨rfl, rfl⟩
          go_wp2
          go_roundw
          case rel => exact ⟨k + 1, r4, l2, by omega, by omega, by go_num, rfl, D6, hn2', B6⟩
          case measure => simp [intOf]; omega
        · rw [if_neg hki] at HKP
          obtain rfl : kn = 0 := by have := HKP.out; omega
          go_wp2_with fail
          refine (crash_k d r4 _ _ _ _ _ _ D4 HCR.out HLT.out).mono ?_
          rintro e w5 ⟨rfl, D5, L5⟩
          have B5 := nxtD hd B4 D4 L5 (.inl rfl)
          clear L5 D4 B4 h1
          go_wp2_with fail
          obtain rfl : l2 = l ++ x' := by rw [HL2.out]; simp
          clear z5 q5 hex HL2 HN2 HCR HLT
          generalize l ++ x' = lx at *
          refine (bytes_any d _ _ _ _ D5).mono ?_
          rintro e w6 ⟨A6, c6, rfl, -, hA6, -, -, hb⟩
          have B6 := nxt B5 hb
          have D6 := D5.below hb
          clear B5 D5 hb
          have k6 := run_str (P := Try.prog) Try.underlying26 Try.underlying5 Try.underlying9 c6 rfl hA6
          have z6 : (str lx).size = lx.length := str_size lx
          go_wp2_with fail
          refine (safe_any d _ _ _ _ D6).mono ?_
          rintro e w7 ⟨rfl, rfl⟩
          go_wp2
          go_roundw
          case rel => exact ⟨k + 1, r4, lx, by omega, by omega, by go_num, rfl, D6, hn2', B6⟩
          case measure => simp [intOf]; omega
    · have hlt' : ¬ k < n0 ∨ (k < n0 ∧ ¬ k < 12) := by omega
      clear hlt h0 h1
      rcases hlt' with hlt | ⟨hlt, hlt12⟩
      all_goals
        go_wp2_with fail
        refine (bytes_any d _ _ _ _ D).mono ?_
        rintro e w6 ⟨A6, c6, rfl, -, hA6, -, -, hb⟩
        have B6 := nxt B hb
        have k6 := run_str (P := Try.prog) Try.underlying26 Try.underlying5 Try.underlying9 c6 rfl hA6
        go_wp2_with fail
        refine (known22_any _).mono ?_
        rintro e w7 ⟨rfl, hb7⟩
        have B7 := nxt B6 hb7
        go_wp2
        go_ret
        exact ⟨rfl, B7⟩
end Go.Proofs.Ytfdilhoeikkhoaa
