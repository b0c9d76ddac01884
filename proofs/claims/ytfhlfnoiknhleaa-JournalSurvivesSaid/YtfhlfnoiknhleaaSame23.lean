/-
  The walk of JournalSame.
-/
import Derived.Test.YtfhlfnoiknhleaaFr23
import Derived.Test.YtfhlfnoiknhleaaStrs
import Derived.Test.YtfhlfnoiknhleaaGrow
import Derived.Test.YtfhlfnoiknhleaaBools
import Derived.Deep.DeepCutAuto
import Derived.Deep.CutBlock
import Derived.StillTailTactics
namespace Go.Proofs.Ytfhlfnoiknhleaa
open Go.RowKit
set_option linter.unusedVariables false

theorem ArgB.case {w : World} {A : Option Addr} {c : Nat} {l : List Bool} (h : ArgB w A c l) (k : Nat) :
    ∃ B : Bool, (k < l.length ∧ ∃ b o, A = some ⟨b, o, none⟩ ∧ b < w.heap.size ∧ w.cell? ⟨b, o + k, none⟩ = some (.bool B)) ∨ (¬ (k : Int) < l.length ∧ B = false) := by
  by_cases hk : k < l.length
  · obtain ⟨b, o, x, h1, h2, h3⟩ := h.at_ hk
    exact ⟨x, .inl ⟨hk, b, o, h1, h2, h3⟩⟩
  · exact ⟨false, .inr ⟨by omega, rfl⟩⟩
theorem Recs.below {w w' : World} {A : Option Addr} {n c : Nat} {rs : List (List UInt8)} (h : Recs w A n c rs) (hb : Below w.heap.size w w') : Recs w' A n c rs := by
  refine ⟨h.len, h.le, fun i hi => ?_⟩
  obtain ⟨b, o, A', c', l, rfl, hlt, hc, ha, h1, h2, hl⟩ := h.row i hi
  exact ⟨b, o, A', c', l, rfl, Nat.lt_of_lt_of_le hlt hb.size, (hb.cell (p := ⟨b, o + i, none⟩) hlt).trans hc, ha.below hb, h1, h2, hl⟩
theorem dk_bytes' (B d : Nat) (l : List UInt8) (s : Nat) (w : World) (h : DK B w d l s) :
    Calls Try.prog 12 #[.pointer (some ⟨d, 0, none⟩)] w (FreshB w l) := by
  obtain ⟨⟨r, D⟩, hd⟩ := h
  exact bytes_any d r l s w D
set_option maxRecDepth 100000 in
set_option maxHeartbeats 1600000 in
theorem journalSame_walk (A0 : Option Addr) (n0 c0 : Nat) (ls : List (List Int)) (A1 : Option Addr) (c1 : Nat) (l1 : List Bool) (A2 : Option Addr) (c2 : Nat) (l2 : List Bool) (w : World) (h0 : ArgLL .u8 w A0 n0 c0 ls) (h1 : ArgB w A1 c1 l1) (h2 : ArgB w A2 c2 l2) :
    Calls Try.prog 8 #[.slice A0 n0 c0, .slice A1 l1.length c1, .slice A2 l2.length c2] w fun e w' => e = .returned (.bool true) ∧ Below w.heap.size w w' := by
  have hn0 : n0 ≤ 9223372036854775807 := by have := h0.le; have := h0.max; unfold maxLen at this; omega
  have hR := Recs.of_arg h0
  obtain ⟨rs, ers⟩ : ∃ rs, rs = ls.map toB := ⟨_, rfl⟩
  rw [← ers] at hR
  have HRL := hide hR.len
  have C1 := h1.case
  have C2 := h2.case
  obtain ⟨m1, e1⟩ : ∃ m1, m1 = l1.length := ⟨_, rfl⟩
  obtain ⟨m2, e2⟩ : ∃ m2, m2 = l2.length := ⟨_, rfl⟩
  rw [← e1] at C1 ⊢
  rw [← e2] at C2 ⊢
  have C1 := hide C1
  have C2 := hide C2
  clear h0 h1 h2 ers e1 e2
  go_enter Try.func8, Try.ntmps8
  go_wp2_with fail
  refine (dk_new _).mono ?_
  rintro e w1 ⟨d, rfl, D1, B1⟩
  go_wp2_with fail
  refine (jd_open _ d _ _ _ [] 0 0 D1 rfl rfl).mono ?_
  rintro e w2 ⟨j, A3, c3, vs3, rfl, J2, -, -, -, b2⟩
  have B2 := B1.trans b2
  have hlen := length_frames rs
  have J2' : JD w.heap.size w2 d j (framesC (cutR rs 0)) 0 0 := J2
  have HLEN := hide hlen
  clear D1 B1 b2 J2 hlen
  go_wp2_with fail
  go_loopw [8, 11] (fun vj vi wr => ∃ (k j s : Nat), k ≤ n0 ∧ k ≤ 20 ∧ vi = .int .i64 k ∧ vj = .pointer (some ⟨j, 0, none⟩) ∧ Hid (JD w.heap.size wr d j (framesC (cutR rs k)) s k) ∧ Below w.heap.size w wr) (fun _ vi _ => 20 - (intOf vi).toNat)
  case atStart => exact ⟨0, j, 0, Nat.zero_le _, by omega, rfl, rfl, J2', B2⟩
  case round =>
    obtain ⟨k, j, s, hk, hk20, rfl, rfl, J, B⟩ := hrel
    clear J2' B2
    by_cases hlt : k < n0 ∧ k < 20
    · obtain ⟨hlt, hlt20⟩ := hlt
      obtain ⟨bb, oo, Ax, cx, m0, bl, rfl, hbb, hcell, hax, hm0, hcx, hml, hbl⟩ := hR.at_ B hlt
      have i1 : (k : Int) < n0 := by omega
      have i2 : (k : Int) < 20 := by omega
      have hst := framesC_succ hbl.out
      have hlk := HLEN.out k
      obtain ⟨m, em⟩ : ∃ m, m = min m0 60 := ⟨_, rfl⟩
      have hPl : (bl.take 60).length = m := by rw [List.length_take, hml.out, em]; omega
      have hPc : Cells w Ax (u8s (bl.take 60)) := hax.takeB 60
      obtain ⟨P, eP⟩ : ∃ P, P = bl.take 60 := ⟨_, rfl⟩
      rw [← eP] at hPl hPc hst
      have hm60 : m ≤ 60 := by omega
      have HPL := hide hPl
      have HM := hide em
      have HST := hide hst
      have hPc' := hPc.below B
      clear hax eP hPl em hst hPc
      go_wp2_with fail
      refine (few_any Ax m0 cx _ hm0 hcx).mono ?_
      rw [← HM.out]
      rintro e u ⟨rfl, rfl⟩
      go_wp2_with fail
      refine (jd_append _ d j _ P s k Ax m cx _ J.out HPL.out (by omega) (by omega) (by omega) hPc').mono ?_
      rw [← HST.out]
      rintro e w3 ⟨rfl, J3, b3⟩
      have B3 := B.trans b3
      have HJ3 := hide J3
      have hc3 := J3.jour
      clear J B b3 J3 hPc' HST
      go_wp2_with fail
      refine (count_any j d (k + 1) _ hc3).mono ?_
      rintro e u ⟨rfl, rfl⟩
      obtain ⟨b2, h2⟩ := C2.out k
      obtain ⟨b1, h1⟩ := C1.out k
      go_upto_region 10 with (fail)
      go_cut [66] (fun t wx => t = .bool b2 ∧ w3 = wx)
      case first =>
        rcases h2 with ⟨hk2, b, o, rfl, hb, hc⟩ | ⟨hk2, rfl⟩
        · have i5 : (k : Int) < m2 := by omega
          have hc' := (B3.cell (p := ⟨b, o + k, none⟩) hb).trans hc
          clear hc h1
          go_wp2_with fail
          go_meet
          exact ⟨rfl, rfl⟩
        · go_wp2_with fail
          go_meet
          exact ⟨rfl, rfl⟩
      obtain ⟨rfl, rfl⟩ := hcut
      go_upto_if 66 with (fail)
      go_cut [] (fun wx => ∃ s', Hid (JD w.heap.size wx d j (framesC (cutR rs (k + 1))) s' (k + 1)) ∧ Below w.heap.size w wx)
      case first =>
        cases b2
        · go_wp2_with fail
          go_meet
          exact ⟨s, HJ3, B3⟩
        · go_wp2_with fail
          refine (jd_sync _ d j _ _ _ _ HJ3.out).mono ?_
          rintro e w4 ⟨rfl, J4, b4⟩
          go_wp2_with fail
          go_meet
          exact ⟨_, J4, B3.trans b4⟩
      obtain ⟨s', J4, B4⟩ := hcut
      clear HJ3 B3 h2 hc3
      go_upto_region 12 with (fail)
      obtain ⟨w4, ew4⟩ : ∃ w4, w4 = wc := ⟨_, rfl⟩
      rw [← ew4] at J4 B4 ⊢
      clear ew4
      go_cut [78] (fun t wx => t = .bool b1 ∧ w4 = wx)
      case first =>
        rcases h1 with ⟨hk1, b, o, rfl, hb, hc⟩ | ⟨hk1, rfl⟩
        · have i5 : (k : Int) < m1 := by omega
          have hc' := (B4.cell (p := ⟨b, o + k, none⟩) hb).trans hc
          clear hc
          go_wp2_with fail
          go_meet
          exact ⟨rfl, rfl⟩
        · go_wp2_with fail
          go_meet
          exact ⟨rfl, rfl⟩
      obtain ⟨rfl, rfl⟩ := hcut
      have hk1 : k + 1 ≤ rs.length := by have := HRL.out; omega
      have hlen' : (cutR rs (k + 1)).length = k + 1 := by unfold cutR; rw [List.length_map, List.length_take]; omega
      have hscan := scan_all (cutR rs (k + 1)) (cutR_le rs (k + 1))
      have HLEN' := hide hlen'
      have HSC := hide hscan
      clear hlen' hscan hk1
      clear h1
      cases b1
      · go_wp2_with fail
        go_roundw
        case rel => exact ⟨k + 1, j, s', by omega, by omega, by go_num, rfl, J4, B4⟩
        case measure => simp [intOf]; omega
      · have D4 := J4.out.dk
        go_wp2_with fail
        refine (jd_open _ d _ _ _ _ _ (k + 1) D4 HSC.out HLEN'.out).mono ?_
        rintro e w5 ⟨j5, A5, c5, vs5, rfl, J5, -, -, -, b5⟩
        rw [List.take_length] at J5
        have B5 := B4.trans b5
        clear J4 B4 D4 b5
        go_wp2_with fail
        go_roundw
        case rel => exact ⟨k + 1, j5, _, by omega, by omega, by go_num, rfl, J5, B5⟩
        case measure => simp [intOf]; omega
    · have hkk : ¬ (k : Int) < n0 ∨ ((k : Int) < n0 ∧ ¬ (k : Int) < 20) := by omega
      have hcut : cutR rs k = cutR rs 20 := by
        unfold cutR
        by_cases hkn : k < n0
        · rw [show k = 20 by omega]
        · rw [List.take_of_length_le (by rw [HRL.out]; omega), List.take_of_length_le (by rw [HRL.out]; omega)]
      rw [hcut] at J
      obtain ⟨L, eL⟩ : ∃ L, L = framesC (cutR rs 20) := ⟨_, rfl⟩
      rw [← eL] at J
      obtain ⟨N, eN⟩ : ∃ N, L.length = N := ⟨_, rfl⟩
      have HN := hide eN
      have D := J.out.dk
      have HL := hide eL
      clear hcut hlt J eN eL
      rcases hkk with i1 | ⟨i1, i2⟩
      all_goals
        go_wp2_with fail
        refine wp_region_grow (R := Stays) 99999 [1, 4, 8] [0, 3, 1, 2, 4, 5, 6, 7, 8, 9, 10] (by kernel_rfl) Stays.tr Stays.rf (by kernel_rfl) (fun _ _ _ _ _ h => h) ?_
        (repeat ((first | (refine grow_skip (by rfl) (by rfl) ?_ (by first | exact Stays.rf _ | exact Lower.rf _ _ | exact Holds.rf _ _)) | (refine grow_take (v := ?_) (by rfl) (by rfl) (by rfl) ?_ ?_; rotate_left 1; focus (intro w' hSw; go_simp; (try (with_reducible rfl)); done))); (try simp only [Act.put, List.setIfInBounds_toArray, List.set_cons_zero, List.set_cons_succ])))
        refine grow_move (by rfl) (by rfl) (by rfl) (fun K hK => ?_); go_simp
        refine (dk_bytes' _ d L s _ (D.below (below_drewN (Below.refl _ _) 1))).mono ?_
        intro e w5 h5
        obtain ⟨A5, c5, rfl, -, hA5, -, -, b5⟩ := h5.n HN.out
        refine hK.out _ _ (b5) ?_; clear hK K; (try simp only [Act.put, List.setIfInBounds_toArray, List.set_cons_zero, List.set_cons_succ])
        have B5 := nxt (nxt_drew B) b5
        have k5 := Cells.strs (P := Try.prog) Try.underlying30 Try.underlying5 Try.underlying9 HN.out hA5 c5
        clear h5 b5 D
        (repeat ((first | (refine grow_skip (by rfl) (by rfl) ?_ (by first | exact Stays.rf _ | exact Lower.rf _ _ | exact Holds.rf _ _)) | (refine grow_take (v := ?_) (by rfl) (by rfl) (by rfl) ?_ ?_; rotate_left 1; focus (intro w' hSw; go_simp; (try (with_reducible rfl)); done))); (try simp only [Act.put, List.setIfInBounds_toArray, List.set_cons_zero, List.set_cons_succ])))
        clear k5
        refine grow_move (by rfl) (by rfl) (by rfl) (fun K hK => ?_); go_simp
        refine (frames_any A0 n0 c0 rs _ (hR.below B5) hn0).mono ?_
        rw [← HL.out]
        intro e w6 h6
        obtain ⟨A6, c6, rfl, -, hA6, -, -, b6⟩ := h6.n HN.out
        refine hK.out _ _ (b6) ?_; clear hK K; (try simp only [Act.put, List.setIfInBounds_toArray, List.set_cons_zero, List.set_cons_succ])
        have B6 := nxt B5 b6
        have k6 := Cells.strs (P := Try.prog) Try.underlying30 Try.underlying5 Try.underlying9 HN.out hA6 c6
        clear h6 b6
        have e6 : ((str L).toList == (str L).toList) = true := by simp
        (repeat ((first | (refine grow_skip (by rfl) (by rfl) ?_ (by first | exact Stays.rf _ | exact Lower.rf _ _ | exact Holds.rf _ _)) | (refine grow_take (v := ?_) (by rfl) (by rfl) (by rfl) ?_ ?_; rotate_left 1; focus (intro w' hSw; go_simp; (try (with_reducible rfl)); done))); (try simp only [Act.put, List.setIfInBounds_toArray, List.set_cons_zero, List.set_cons_succ])))
        clear k6
        refine grow_move (by rfl) (by rfl) (by rfl) (fun K hK => ?_); go_simp
        refine (known23_any _).mono ?_
        rintro e w7 ⟨rfl, b7⟩
        refine hK.out _ _ (b7) ?_; clear hK K; (try simp only [Act.put, List.setIfInBounds_toArray, List.set_cons_zero, List.set_cons_succ])
        (repeat ((first | (refine grow_skip (by rfl) (by rfl) ?_ (by first | exact Stays.rf _ | exact Lower.rf _ _ | exact Holds.rf _ _)) | (refine grow_take (v := ?_) (by rfl) (by rfl) (by rfl) ?_ ?_; rotate_left 1; focus (intro w' hSw; go_simp; (try (with_reducible rfl)); done))); (try simp only [Act.put, List.setIfInBounds_toArray, List.set_cons_zero, List.set_cons_succ])))
        refine grow_done ?_
        go_wp2_with fail
        go_ret
        exact ⟨rfl, nxt B6 b7⟩
end Go.Proofs.Ytfhlfnoiknhleaa
