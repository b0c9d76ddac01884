/-
  Chapter 23's records, and their frames.
-/
import Derived.Test.YtfhlfnoiknhleaaJd
import Derived.Test.YtfhlfnoiknhleaaCut
import Derived.Test.YtfhlfnoiknhleaaRef4
import Derived.Test.YtfhlfnoiknhleaaWithin
namespace Go.Proofs.Ytfhlfnoiknhleaa
open Go.RowKit
set_option linter.unusedVariables false

/-- A slice of slices of bytes that came in. -/
structure Recs (w : World) (A : Option Addr) (n c : Nat) (rs : List (List UInt8)) : Prop where
  len : rs.length = n
  le : n ≤ c
  row : ∀ i, i < n → ∃ b o A' c' l, A = some ⟨b, o, none⟩ ∧ b < w.heap.size ∧ w.cell? ⟨b, o + i, none⟩ = some (.slice A' (l : List UInt8).length c') ∧ Cells w A' (u8s l) ∧ l.length ≤ c' ∧ c' ≤ 9223372036854775807 ∧ rs[i]? = some l
theorem Recs.at_ {w w' : World} {A : Option Addr} {n c : Nat} {rs : List (List UInt8)} (h : Recs w A n c rs) (hb : Below w.heap.size w w') {i : Nat} (hi : i < n) :
    ∃ b o A' c' m l, A = some ⟨b, o, none⟩ ∧ b < w.heap.size ∧ w'.cell? ⟨b, o + i, none⟩ = some (.slice A' m c') ∧ Cells w A' (u8s l) ∧ m ≤ c' ∧ c' ≤ 9223372036854775807 ∧ Hid (l.length = m) ∧ Hid (rs[i]? = some l) := by
  obtain ⟨b, o, A', c', l, rfl, hlt, hc, ha, h1, h2, hl⟩ := h.row i hi
  exact ⟨b, o, A', c', l.length, l, rfl, hlt, (hb.cell (p := ⟨b, o + i, none⟩) hlt).trans hc, ha, h1, h2, rfl, hl⟩
def toB (l : List Int) : List UInt8 := l.map fun n => UInt8.ofNat n.toNat
theorem length_toB (l : List Int) : (toB l).length = l.length := by simp [toB]
theorem ArgI.bytesE {w : World} {A : Option Addr} {c : Nat} {l : List Int} (h : ArgI .u8 w A c l) : Cells w A (u8s (toB l)) := by
  have : u8s (toB l) = l.map (Value.int .u8) := by
    simp only [u8s, toB, List.map_map]
    apply List.map_congr_left
    intro n hn
    have := u8_bd (h.wf n hn)
    simp only [Function.comp]
    congr 1
    have h2 : (UInt8.ofNat n.toNat).toNat = n.toNat := by
      rw [UInt8.toNat_ofNat']
      exact Nat.mod_eq_of_lt (by omega)
    rw [h2]; omega
  rw [this]
  exact h.cells
theorem Recs.of_arg {w : World} {A : Option Addr} {n c : Nat} {ls : List (List Int)} (h : ArgLL .u8 w A n c ls) : Recs w A n c (ls.map toB) := by
  refine ⟨by rw [List.length_map]; exact h.len, h.le, fun i hi => ?_⟩
  obtain ⟨b, o, A', c', l, rfl, hlt, hc, ha, hl⟩ := h.row i hi
  exact ⟨b, o, A', c', toB l, rfl, hlt, by rw [length_toB]; exact hc, ha.bytesE, by rw [length_toB]; exact ha.le, ha.max, by rw [List.getElem?_map, hl]; rfl⟩
/-- The first k records, cut. -/
def cutR (rs : List (List UInt8)) (k : Nat) : List (List UInt8) := (rs.take k).map (·.take 60)
theorem cutR_succ {rs : List (List UInt8)} {k : Nat} {l : List UInt8} (h : rs[k]? = some l) : cutR rs (k + 1) = cutR rs k ++ [l.take 60] := by
  unfold cutR
  rw [take_succ_of h, List.map_append]
  rfl
theorem cutR_le (rs : List (List UInt8)) (k : Nat) : ∀ b ∈ cutR rs k, b.length ≤ 255 := by
  intro b hb
  simp only [cutR, List.mem_map] at hb
  obtain ⟨a, _, rfl⟩ := hb
  rw [List.length_take]; omega
theorem framesC_succ {rs : List (List UInt8)} {k : Nat} {l : List UInt8} (h : rs[k]? = some l) : framesC (cutR rs (k + 1)) = framesC (cutR rs k) ++ frameL (l.take 60) := by
  rw [cutR_succ h, framesC_append]
  simp [framesC]
/-- One byte of some frames is turned. -/
theorem scan_turned : ∀ (ls : List (List UInt8)) (p j : Nat) (y z : UInt8), (∀ b ∈ ls, b.length ≤ 255) → (framesC ls)[j]? = some y → z ≠ y → (scanL ((framesC ls).set j z) p).why = 14
  | [], p, j, y, z, _, hy, _ => by simp [framesC] at hy
  | b :: ls, p, j, y, z, h, hy, hz => by
    have hb := h b (by simp)
    have hls : ∀ x ∈ ls, x.length ≤ 255 := fun x hx => h x (by simp [hx])
    show (scanL ((frameL b ++ framesC ls).set j z) p).why = 14
    rw [set_cases]
    have hy' : (frameL b ++ framesC ls)[j]? = some y := hy
    split
    · rename_i hj
      rw [List.getElem?_append_left hj] at hy'
      have ho := openF_turned b hb (framesC ls) j y z hy' hz p
      rw [scan_bad]
      · intro h0
        have := congrArg List.length h0
        rw [List.length_append, List.length_set, length_frameL] at this
        simp at this
      · rw [ho]; decide
      · rw [ho]; decide
    · rename_i hj
      rw [List.getElem?_append_right (by omega)] at hy'
      have hf : openF (frameL b ++ (framesC ls).set (j - (frameL b).length) z) p = ⟨b, p + b.length + 6, 0⟩ := openF_frame b hb _ p
      rw [scan_ok (by simp [frameL]) hf]
      show (scanL _ _).why = 14
      rw [← length_frameL b, List.drop_left]
      exact scan_turned ls _ _ y z hls hy' hz
theorem length_frames (rs : List (List UInt8)) : ∀ k, (framesC (cutR rs k)).length ≤ 66 * k
  | 0 => by simp [cutR, framesC]
  | k + 1 => by
    have ih := length_frames rs k
    by_cases hk : k < rs.length
    · rw [framesC_succ (List.getElem?_eq_getElem hk), List.length_append, length_frameL, List.length_take]; omega
    · have : cutR rs (k + 1) = cutR rs k := by unfold cutR; rw [List.take_of_length_le (by omega), List.take_of_length_le (by omega)]
      rw [this]; omega
theorem length_frames20 (rs : List (List UInt8)) : (framesC (cutR rs 20)).length ≤ 1320 := length_frames rs 20
theorem few_any (A : Option Addr) (n c : Nat) (w : World) (hn : n ≤ c) (hc : c ≤ 9223372036854775807) :
    Calls Try.prog 23 #[.slice A n c] w fun e w' => e = .returned (.slice A (min n 60) c) ∧ w = w' := by
  go_enter Try.func23, Try.ntmps23
  go_wp2_with fail
  refine (cut_any A n c 60 _ hn hc (by omega) (by omega)).mono ?_
  rintro e u ⟨rfl, rfl⟩
  go_wp2_with fail
  go_ret
  exact ⟨rfl, rfl⟩
set_option maxHeartbeats 1600000 in
theorem frames_any (A0 : Option Addr) (n0 c0 : Nat) (rs : List (List UInt8)) (w : World) (h0 : Recs w A0 n0 c0 rs) (hn0 : n0 ≤ 9223372036854775807) :
    Calls Try.prog 14 #[.slice A0 n0 c0] w (FreshB w (framesC (cutR rs 20))) := by
  have hlen := hide h0.len
  go_enter Try.func14, Try.ntmps14
  go_wp2_with fail
  go_loopw [3, 4] (fun v i wr => ∃ (k N : Nat) (A : Option Addr) (c : Nat), k ≤ n0 ∧ k ≤ 20 ∧ i = .int .i64 k ∧ v = .slice A N c ∧ Hid (N = (framesC (cutR rs k)).length) ∧ N ≤ 66 * k ∧
    Hid (wr.ownsRow w.heap.size 5 1 (.slice A N c) N (u8s (framesC (cutR rs k)))) ∧ Below w.heap.size w wr) (fun _ i _ => 20 - (intOf i).toNat)
  case atStart => exact ⟨0, 0, none, 0, Nat.zero_le _, by omega, rfl, rfl, rfl, by omega, World.ownsRow_nil _ _ _ _, Below.refl _ _⟩
  case round =>
    obtain ⟨k, N, A, c, hk, hk20, rfl, rfl, HN, hNk, HO, B⟩ := hrel
    by_cases hlt : k < n0 ∧ k < 20
    · obtain ⟨hlt, hlt20⟩ := hlt
      obtain ⟨bb, oo, Ax, cx, m0, bl, rfl, hbb, hcell, hax, hm0, hcx, hml, hbl⟩ := h0.at_ B hlt
      have i1 : (k : Int) < n0 := by omega
      have i2 : (k : Int) < 20 := by omega
      have hst := framesC_succ hbl.out
      obtain ⟨m, em⟩ : ∃ m, m = min m0 60 := ⟨_, rfl⟩
      have hPl : (bl.take 60).length = m := by rw [List.length_take, hml.out, em]; omega
      have hPc : Cells w Ax (u8s (bl.take 60)) := hax.takeB 60
      obtain ⟨P, eP⟩ : ∃ P, P = bl.take 60 := ⟨_, rfl⟩
      rw [← eP] at hPl hPc hst
      have hm60 : m ≤ 60 := by omega
      have HPL := hide hPl
      have HM := hide em
      have HST := hide hst
      have hPc' := hPc.below B
      clear hax eP hPl em hst hPc
      go_wp2_with fail
      refine (few_any Ax m0 cx _ hm0 hcx).mono ?_
      rw [← HM.out]
      rintro e u ⟨rfl, rfl⟩
      go_wp2_with fail
      refine (refFrame_ok Ax m cx P _ HPL.out (by omega) hPc').mono ?_
      have hfl : (frameL P).length = m + 6 := by rw [length_frameL, HPL.out]
      obtain ⟨G, eG⟩ : ∃ G, G = frameL P := ⟨_, rfl⟩
      rw [← eG] at hfl ⊢
      have HFL := hide hfl
      have EG := hide eG
      clear eG
      rintro e w2 ⟨AF, cF, rfl, -, hF, -, -, hb⟩
      rw [hfl]
      have B2 := nxt B hb
      have own2 := own_below HO.out hb
      clear hb B hfl hPc'
      go_wp2_with (at_builtin; refine wpList_app elU8 own2 (news := u8s G) rfl _ _ rfl rfl rfl (by rw [length_u8s]; exact HFL.out) hF (u8s_one G) (by omega) B2.size (N + (m + 6)) _ rfl rfl ?_; intro A4 c4 w4 p4)
      have B4 := p4.below _ _ (Nat.le_refl _) B2
      have hN' : Hid (N + (m + 6) = (framesC (cutR rs (k + 1))).length) := hide (by rw [HST.out, List.length_append, ← HN.out, ← EG.out, HFL.out])
      have HOB : Hid (w4.ownsRow w.heap.size 5 1 (.slice A4 (N + (m + 6)) c4) (N + (m + 6)) (u8s (framesC (cutR rs (k + 1))))) := by
        have := p4.own
        rw [HST.out, ← EG.out]
        simpa [u8s, Hid] using this
      clear p4 own2 B2 hF
      go_roundw
      case rel => exact ⟨k + 1, N + (m + 6), A4, c4, by omega, by omega, by go_num, rfl, hN', by omega, HOB, B4⟩
      case measure => simp [intOf]; omega
    · have hkk : ¬ (k : Int) < n0 ∨ ((k : Int) < n0 ∧ ¬ (k : Int) < 20) := by omega
      have hcut : cutR rs k = cutR rs 20 := by
        unfold cutR
        by_cases hkn : k < n0
        · rw [show k = 20 by omega]
        · rw [List.take_of_length_le (by rw [hlen.out]; omega), List.take_of_length_le (by rw [hlen.out]; omega)]
      rw [hcut] at HO HN
      clear hcut hlt
      rcases hkk with i1 | ⟨i1, i2⟩
      all_goals
        go_wp2_with fail
        go_ret
        exact Fresh.mk HN.out HO.out B
end Go.Proofs.Ytfhlfnoiknhleaa
