/-
  The walk of JournalCuts.
-/
import Derived.Test.YtfhlfnoiknhleaaCutsP23
import Derived.Test.YtfhlfnoiknhleaaStrs
import Derived.Test.YtfhlfnoiknhleaaGrow
namespace Go.Proofs.Ytfhlfnoiknhleaa
open Go.RowKit
set_option linter.unusedVariables false

set_option maxRecDepth 100000 in
set_option maxHeartbeats 1600000 in
theorem journalCuts_walk (A0 : Option Addr) (n0 c0 : Nat) (ls : List (List Int)) (a1 : Int) (A2 : Option Addr) (c2 : Nat) (l2 : List Int) (w : World) (h0 : ArgLL .u8 w A0 n0 c0 ls) (_w1 : (Lit.int .i64 a1).wf = true) (h2 : ArgI .u8 w A2 c2 l2) :
    Calls Try.prog 7 #[.slice A0 n0 c0, .int .i64 a1, .slice A2 l2.length c2] w fun e w' => e = .returned (.bool true) ∧ Below w.heap.size w w' := by
  have hn0 : n0 ≤ 9223372036854775807 := by have := h0.le; have := h0.max; unfold maxLen at this; omega
  have hR := Recs.of_arg h0
  obtain ⟨rs, ers⟩ : ∃ rs, rs = ls.map toB := ⟨_, rfl⟩
  rw [← ers] at hR
  have hB0 := h2.bytesE
  have hl2 := h2.le
  have hm2 : c2 ≤ 9223372036854775807 := h2.max
  have hbl := length_toB l2
  obtain ⟨n2, e2⟩ : ∃ n2, n2 = l2.length := ⟨_, rfl⟩
  rw [← e2] at hl2 hbl ⊢
  obtain ⟨m2, em2⟩ : ∃ m, m = min n2 60 := ⟨_, rfl⟩
  obtain ⟨M, eM⟩ : ∃ M, M = (toB l2).take 60 := ⟨_, rfl⟩
  have hM : M.length = m2 := by rw [eM, List.length_take, hbl, em2]; omega
  have hMc : Cells w A2 (u8s M) := by rw [eM]; exact hB0.takeB 60
  have hm60 : m2 ≤ 60 := by omega
  have HML := hide hM
  have E2 := hide em2
  have HRL := hide hR.len
  clear hB0 h2 h0 _w1 ers e2 eM em2 hM hbl
  go_enter Try.func7, Try.ntmps7
  go_wp2_with fail
  refine (frames_any A0 n0 c0 rs _ hR hn0).mono ?_
  obtain ⟨L, eL⟩ : ∃ L, L = framesC (cutR rs 20) := ⟨_, rfl⟩
  have hlen := length_frames20 rs
  rw [← eL] at hlen ⊢
  have HL := hide eL
  obtain ⟨N, eN⟩ : ∃ N, N = L.length := ⟨_, rfl⟩
  rw [← eN] at hlen
  have HN := hide eN
  intro e w1 hx
  obtain ⟨AF, cF, rfl, -, hF, hFc, hFm, B1⟩ := hx.n HN.out.symm
  have hFm' : cF ≤ 9223372036854775807 := hFm
  have hwb := within_bd a1 0 N (by omega)
  obtain ⟨K, hK⟩ : ∃ K : Nat, within a1 0 N = K := ⟨(within a1 0 N).toNat, by omega⟩
  rw [hK] at hwb
  have HK := hide hK
  have hKN : K ≤ N := by omega
  have i1 : (K : Int) ≤ cF := by omega
  have hFK := hF.takeB K
  have hLK : (L.take K).length = K := by rw [List.length_take, ← HN.out]; omega
  have HLK := hide hLK
  clear hx eL eN hF hFm hwb hK hLK
  go_wp2_with fail
  refine (within_any a1 0 N _ (by omega) (by omega) (by omega)).mono ?_
  rw [HK.out]
  rintro e u ⟨rfl, rfl⟩
  go_wp2_with fail
  refine (dk_new _).mono ?_
  rintro e w2 ⟨d, rfl, D2, b2⟩
  have hF2 := hFK.below b2
  have hs1 := B1.size
  have B2 := nxt B1 b2
  clear hFK b2
  go_wp2_with fail
  refine (dk_append _ d [] (L.take K) 0 _ K cF _ D2 HLK.out (by simp; omega) hF2).mono ?_
  rintro e w3 ⟨rfl, D3, b3⟩
  have B3 := B2.trans (b3.mono hs1)
  rw [List.nil_append] at D3
  have hd : w.heap.size ≤ d := Nat.le_trans hs1 D3.bd
  clear D2 b3 hF2 B1 B2
  go_wp2_with fail
  go_loopw [10, 11, 12] (fun vn ve vi wr => ∃ (k E : Nat), k ≤ n0 ∧ k ≤ 20 ∧ vn = .int .i64 k ∧ ve = .int .i64 E ∧ vi = .int .i64 k ∧ Hid (E = (framesC (cutR rs k)).length) ∧ E ≤ K ∧ wr = w3) (fun _ _ vi _ => 20 - (intOf vi).toNat)
  case atStart => exact ⟨0, 0, Nat.zero_le _, by omega, rfl, rfl, rfl, rfl, by omega, rfl⟩
  case round =>
    obtain ⟨k, E, hk, hk20, rfl, rfl, rfl, HE, hEK, rfl⟩ := hrel
    have hcases : (k < n0 ∧ k < 20 ∧ ∃ l, rs[k]? = some l ∧ E + (l.take 60).length + 6 ≤ K) ∨ ((¬ (k : Int) < n0 ∨ ((k : Int) < n0 ∧ ¬ (k : Int) < 20) ∨ (k < n0 ∧ k < 20 ∧ ∃ l, rs[k]? = some l ∧ K < E + (l.take 60).length + 6)) ∧ (cutR rs k = cutR rs 20 ∨ ∃ l, rs[k]? = some l ∧ k < 20 ∧ K < (framesC (cutR rs (k + 1))).length)) := by
      by_cases hkn : k < n0
      · by_cases hkt : k < 20
        · have hkl : k < rs.length := by rw [HRL.out]; exact hkn
          by_cases hfit : E + (rs[k].take 60).length + 6 ≤ K
          · exact .inl ⟨hkn, hkt, rs[k], List.getElem?_eq_getElem hkl, hfit⟩
          · refine .inr ⟨.inr (.inr ⟨hkn, hkt, rs[k], List.getElem?_eq_getElem hkl, by omega⟩), .inr ⟨rs[k], List.getElem?_eq_getElem hkl, hkt, ?_⟩⟩
            rw [framesC_succ (List.getElem?_eq_getElem hkl), List.length_append, length_frameL, ← HE.out]
            omega
        · refine .inr ⟨.inr (.inl (by omega)), .inl ?_⟩
          rw [show k = 20 by omega]
      · exact .inr ⟨.inl (by omega), .inl (cutR_over (show rs.length ≤ k by rw [HRL.out]; omega) hk20).symm⟩
    rcases hcases with ⟨hkn, hkt, l, hl, hfit⟩ | ⟨hkk, hst⟩
    · obtain ⟨bb, oo, Ax, cx, m0, bl, rfl, hbb, hcell, hax, hm0, hcx, hml, hbl⟩ := hR.at_ B3 hkn
      obtain rfl : bl = l := by have := hbl.out; rw [hl] at this; exact (Option.some.inj this).symm
      have j1 : (k : Int) < n0 := by omega
      have j2 : (k : Int) < 20 := by omega
      obtain ⟨m, em⟩ : ∃ m, m = min m0 60 := ⟨_, rfl⟩
      have hPl : (bl.take 60).length = m := by rw [List.length_take, hml.out, em]; omega
      rw [hPl] at hfit
      have hE' : Hid (E + m + 6 = (framesC (cutR rs (k + 1))).length) := hide (by rw [framesC_succ hl, List.length_append, length_frameL, ← HE.out, hPl]; omega)
      have HM := hide em
      have j3 : ¬ (K : Int) < (E : Int) + m + 6 := by omega
      clear hPl em hax hml hbl hl
      go_wp2_with fail
      refine (few_any Ax m0 cx _ hm0 hcx).mono ?_
      rw [← HM.out]
      rintro e u ⟨rfl, rfl⟩
      go_wp2_with fail
      go_roundw
      case rel => exact ⟨k + 1, E + m + 6, by omega, by omega, by go_num, by go_num, by go_num, hE', by omega, trivial⟩
      case measure => simp [intOf]; omega
    · have hcs := cut_scan (rs := rs) (k := k) (K := K) hk20 (by rw [← HE.out]; exact hEK) (by rw [← HL.out, ← HN.out]; exact hKN) hst
      rw [← HE.out, ← HL.out] at hcs
      have HC := hide hcs.1
      have HT := hide hcs.2
      have HNK : Hid ((cutR rs k).length = k) := hide (by unfold cutR; rw [List.length_map, List.length_take, HRL.out]; omega)
      have hrow : ∀ (q : Nat) (l : List UInt8), q < k → rs[q]? = some l → (cutR rs k)[q]? = some (l.take 60) := fun q l hq hl => by
        unfold cutR; rw [List.getElem?_map, List.getElem?_take_of_lt hq, hl]; rfl
      have HROW := hide hrow
      have hnext : scanL (framesC (cutR rs k) ++ frameL M) 0 = ⟨cutR rs k ++ [M], E + (m2 + 6), 0⟩ := by
        have e : framesC (cutR rs k) ++ frameL M = framesC (cutR rs k ++ [M]) := by rw [framesC_append]; simp [framesC]
        have e2 : (framesC (cutR rs k) ++ frameL M).length = E + (m2 + 6) := by rw [List.length_append, ← HE.out, length_frameL, HML.out]
        rw [← e2, e, scan_all]
        intro b hb
        rcases List.mem_append.1 hb with hb | hb
        · exact cutR_le rs k b hb
        · rw [List.mem_singleton] at hb; subst hb; rw [HML.out]; omega
      have HNX := hide hnext
      clear hcs hst hrow hnext
      rcases hkk with j1 | ⟨j1, j2⟩ | ⟨hkn, hkt, l, hl, hbig⟩
      rotate_left 2
      obtain ⟨bb, oo, Ax, cx, m0, bl, rfl, hbb, hcell, hax, hm0, hcx, hml, hbl⟩ := hR.at_ B3 hkn
      obtain rfl : bl = l := by have := hbl.out; rw [hl] at this; exact (Option.some.inj this).symm
      have j1 : (k : Int) < n0 := by omega
      have j2 : (k : Int) < 20 := by omega
      obtain ⟨m, em⟩ : ∃ m, m = min m0 60 := ⟨_, rfl⟩
      have hPl : (bl.take 60).length = m := by rw [List.length_take, hml.out, em]; omega
      rw [hPl] at hbig
      have hmb : m ≤ 60 := by omega
      have HM := hide em
      obtain ⟨E9, hsum⟩ : ∃ E9 : Int, (E : Int) + m + 6 = E9 := ⟨_, rfl⟩
      have j3 : (K : Int) < E9 := by omega
      clear hPl em hax hml hbl hl
      go_wp2_with fail
      refine (few_any Ax m0 cx _ hm0 hcx).mono ?_
      rw [← HM.out]
      rintro e u ⟨rfl, rfl⟩
      all_goals
        go_wp2_with fail
        refine (jd_open2 _ d (L.take K) 0 _ (cutR rs k) E k D3 HC.out HNK.out).mono ?_
        rintro e w4 ⟨j, A4, c4, vs, r, rfl, D4, hjr, J4, hj, hjd, b4, hkc, own4, hB4, hoff⟩
        rw [HT.out] at D4
        have B4 := B3.trans (b4.mono hs1)
        have HB4 := hide hB4
        have HOFF := hide hoff
        clear hB4 hoff b4
        go_wp2_with fail
        refine (count_any j d k _ J4).mono ?_
        rintro e u ⟨rfl, rfl⟩
        go_wp2_with fail
        refine (few_any A2 n2 c2 _ hl2 hm2).mono ?_
        rw [← E2.out]
        rintro e u ⟨rfl, rfl⟩
        go_wp2_with fail
        refine (jappend_any j d k r _ M _ A2 m2 c2 _ J4 D4 hjd hjr HML.out (by omega) (by omega) (by rw [← HE.out]; omega) (hMc.below B4)).mono ?_
        rintro e w5 ⟨rfl, r5, D5, hr5, J5, L5⟩
        have own5 := own_apart2 own4 J4 D4 (Nat.lt_succ_self d) L5
        have HB5 := hide (HB4.out.keep (Q := fun g => g ≠ d ∧ g ≠ j ∧ some g ≠ r) HOFF.out L5.size (fun b hq hb => L5.block b hb hq.1 hq.2.1 hq.2.2) (Nat.le_refl _))
        have b5 : Below w.heap.size w4 w5 := L5.below hd (Nat.le_trans hs1 hj) (fun g hg => by have := (D4.row_lt.2 g hg).1; omega) B4.size
        have B5 := B4.trans b5
        have DK5 : DK w.heap.size w5 d _ _ := ⟨⟨r5, D5⟩, hd⟩
        have hJ4 : HN = HN := rfl
        clear hJ4 D5 J5 L5 hr5 b5 own4 HB4 HOFF D4 J4 hjr hjd B4 D3 B3 HC HT
        (try clear hsum j3 hcell hm0 hcx HM)
        go_wp2_with fail
        go_loopw [16] (fun i wr => ∃ q, q ≤ k ∧ i = .int .i64 q ∧ Below w5.heap.size w5 wr) (fun i _ => k - (intOf i).toNat)
        case atStart => exact ⟨0, Nat.zero_le _, rfl, Below.refl _ _⟩
        case round =>
          obtain ⟨q, hq, rfl, BB⟩ := hrel
          have BW := nxt B5 BB
          by_cases hqk : q < k
          · obtain ⟨bb, oo, Ax, cx, m0, bl, hA0e, hbb, hcell, hax, hm0, hcx, hml, hbl⟩ := hR.at_ BW (i := q) (by omega)
            first
              | subst hA0e
              | (injection hA0e with hA0e; injection hA0e with e1 e2; subst e1; subst e2)
            have hcq := HROW.out q bl hqk hbl.out
            obtain ⟨Am, cm, hv, hAm⟩ := HB5.out.at_ q _ hcq
            obtain ⟨b9, o9, u9, rfl, hb9, hc9, hu9⟩ := (Cells.of_own own5).val_at (k := q) (by rw [HB5.out.len, HNK.out]; exact hqk)
            obtain ⟨m, em⟩ : ∃ m, m = min m0 60 := ⟨_, rfl⟩
            have hPl : (bl.take 60).length = m := by rw [List.length_take, hml.out, em]; omega
            rw [hPl] at hv
            obtain rfl : u9 = .slice Am m cm := by
              have := hu9.out
              rw [hv] at this
              injection this with this
              exact this.symm
            have hxc := hax.takeB 60
            obtain ⟨P, eP⟩ : ∃ P, P = bl.take 60 := ⟨_, rfl⟩
            rw [← eP] at hPl hAm hxc
            have HM := hide em
            have f9 : ∀ u, Stays wr.drew u → u.cell? ⟨b9, o9 + q, none⟩ = some (.slice Am m cm) := fun u hu => ((BB.drew.trans (hu.mono BB.size)).cell (p := ⟨b9, _, none⟩) hb9).trans hc9
            have f3 : ∀ u, Stays wr.drew u → u.cell? ⟨bb, oo + q, none⟩ = some (.slice Ax m0 cx) := fun u hu => (hu.cell (p := ⟨bb, _, none⟩) (World.block_lt_of_cell? wr _ hcell)).trans hcell
            have ks := Cells.strs (P := Try.prog) Try.underlying30 Try.underlying5 Try.underlying9 hPl (hAm.cells.below BB).drew cm
            have ks2 := Cells.strs (P := Try.prog) Try.underlying30 Try.underlying5 Try.underlying9 hPl (hxc.below BW).drew cx
            have B9 := nxt_drew BB
            have q1 : (q : Int) < k := by omega
            have q2 : (q : Int) < n0 := by omega
            clear hv hu9 hc9 hcell hax hxc hAm eP em hcq hbl hml BW
            have HPP := hide hPl
            clear hPl
            go_wp2_with fail
            refine wp_region_grow (R := Stays) 99999 [9] [0, 1, 2, 3, 4, 5, 6, 7, 8, 9, 10, 11] (by kernel_rfl) Stays.tr Stays.rf (by kernel_rfl) (fun _ _ _ _ _ h => h) ?_
            (repeat ((first | (refine grow_skip (by rfl) (by rfl) ?_ (by first | exact Stays.rf _ | exact Lower.rf _ _ | exact Holds.rf _ _)) | (refine grow_take (v := ?_) (by rfl) (by rfl) (by rfl) ?_ ?_; rotate_left 1; focus (intro w' hSw; go_simp; (try (with_reducible rfl)); done))); (try simp only [Act.put, List.setIfInBounds_toArray, List.set_cons_zero, List.set_cons_succ])))
            refine grow_move (by rfl) (by rfl) (by rfl) (fun K hK => ?_); go_simp
            refine (few_any Ax m0 cx _ hm0 hcx).mono ?_
            rw [← HM.out]
            rintro e u ⟨rfl, rfl⟩
            refine hK.out _ _ (Stays.rf _) ?_; clear hK K; (try simp only [Act.put, List.setIfInBounds_toArray, List.set_cons_zero, List.set_cons_succ])
            (repeat ((first | (refine grow_skip (by rfl) (by rfl) ?_ (by first | exact Stays.rf _ | exact Lower.rf _ _ | exact Holds.rf _ _)) | (refine grow_take (v := ?_) (by rfl) (by rfl) (by rfl) ?_ ?_; rotate_left 1; focus (intro w' hSw; go_simp; (try (with_reducible rfl)); done))); (try simp only [Act.put, List.setIfInBounds_toArray, List.set_cons_zero, List.set_cons_succ])))
            refine grow_done ?_
            clear f9 f3 ks ks2
            go_wp2_with fail
            go_roundw
            case rel => exact ⟨q + 1, by omega, by go_num, B9⟩
            case measure => simp [intOf]; omega
          · obtain rfl : k = q := by omega
            have q1 : ¬ (k : Int) < k := by omega
            have D9 := DK5.below BB
            clear hqk own5 HB5 DK5 BB
            go_wp2_with fail
            obtain ⟨k1, ek1⟩ : ∃ k1, k1 = k + 1 := ⟨_, rfl⟩
            have t3 : ((k1 : Int) == (k : Int) + 1) = true := by rw [ek1]; simp
            have t4 : decide ((k1 : Int) = (k : Int) + 1) = true := by rw [ek1]; simp
            have t5 : decide (k1 = k + 1) = true := by rw [ek1]; simp
            have t6 : (k1 == k + 1) = true := by rw [ek1]; simp
            have hw : IntKind.i64.wrap ((k : Int) + 1) = (k : Int) + 1 := IntWalk.i64_in _ (by omega)
            have q3 : (k : Int) < k1 := by omega
            have q4 : k < k1 := by omega
            refine (jd_open _ d _ _ _ _ _ k1 D9 HNX.out (by rw [List.length_append, HNK.out, ek1]; rfl)).mono ?_
            rintro e w10 ⟨j9, A9, c9, vs9, rfl, -, hc9, hB9, hn9, b10⟩
            have B10 := BW.trans b10
            obtain ⟨Am, cm, hv, hAm⟩ := hB9.at_ k M (by rw [List.getElem?_append_right (by rw [HNK.out]; exact Nat.le_refl _), HNK.out, Nat.sub_self]; rfl)
            obtain ⟨b9, o9, u9, rfl, hb9, hc9', hu9⟩ := hc9.val_at (k := k) (by rw [hB9.len, List.length_append, HNK.out]; simp)
            rw [HML.out] at hv
            obtain rfl : u9 = .slice Am m2 cm := by
              have := hu9.out
              rw [hv] at this
              injection this with this
              exact this.symm
            have f9 : ∀ u, Stays w10.drew u → u.cell? ⟨b9, o9 + k, none⟩ = some (.slice Am m2 cm) := fun u hu => (hu.cell (p := ⟨b9, _, none⟩) (World.block_lt_of_cell? w10 _ hc9')).trans hc9'
            have ks := Cells.strs (P := Try.prog) Try.underlying30 Try.underlying5 Try.underlying9 HML.out hAm.cells.drew cm
            have ks2 := Cells.strs (P := Try.prog) Try.underlying30 Try.underlying5 Try.underlying9 HML.out (hMc.below B10).drew c2
            have B11 := nxt_drew B10
            clear hv hu9 hc9' hc9 hB9 hAm b10 B10 BW D9 ek1
            go_wp2_with fail
            refine wp_region_grow (R := Stays) 99999 [16, 21] [0, 1, 2, 3, 4, 5, 6, 7, 8, 9, 10, 11, 12, 13, 14, 15, 16, 17, 18, 19, 20, 21, 22, 23] (by kernel_rfl) Stays.tr Stays.rf (by kernel_rfl) (fun _ _ _ _ _ h => h) ?_
            (repeat ((first | (refine grow_skip (by rfl) (by rfl) ?_ (by first | exact Stays.rf _ | exact Lower.rf _ _ | exact Holds.rf _ _)) | (refine grow_take (v := ?_) (by rfl) (by rfl) (by rfl) ?_ ?_; rotate_left 1; focus (intro w' hSw; go_simp; (try (with_reducible rfl)); done))); (try simp only [Act.put, List.setIfInBounds_toArray, List.set_cons_zero, List.set_cons_succ])))
            refine grow_move (by rfl) (by rfl) (by rfl) (fun K hK => ?_); go_simp
            refine (few_any A2 n2 c2 _ hl2 hm2).mono ?_
            rw [← E2.out]
            rintro e u ⟨rfl, rfl⟩
            refine hK.out _ _ (Stays.rf _) ?_; clear hK K; (try simp only [Act.put, List.setIfInBounds_toArray, List.set_cons_zero, List.set_cons_succ])
            (repeat ((first | (refine grow_skip (by rfl) (by rfl) ?_ (by first | exact Stays.rf _ | exact Lower.rf _ _ | exact Holds.rf _ _)) | (refine grow_take (v := ?_) (by rfl) (by rfl) (by rfl) ?_ ?_; rotate_left 1; focus (intro w' hSw; go_simp; (try (with_reducible rfl)); done))); (try simp only [Act.put, List.setIfInBounds_toArray, List.set_cons_zero, List.set_cons_succ])))
            refine grow_move (by rfl) (by rfl) (by rfl) (fun K hK => ?_); go_simp
            refine (known23_any _).mono ?_
            rintro e w11 ⟨rfl, hb⟩
            have B12 := nxt B11 hb
            refine hK.out _ _ (hb) ?_; clear hK K; (try simp only [Act.put, List.setIfInBounds_toArray, List.set_cons_zero, List.set_cons_succ])
            (repeat ((first | (refine grow_skip (by rfl) (by rfl) ?_ (by first | exact Stays.rf _ | exact Lower.rf _ _ | exact Holds.rf _ _)) | (refine grow_take (v := ?_) (by rfl) (by rfl) (by rfl) ?_ ?_; rotate_left 1; focus (intro w' hSw; go_simp; (try (with_reducible rfl)); done))); (try simp only [Act.put, List.setIfInBounds_toArray, List.set_cons_zero, List.set_cons_succ])))
            refine grow_done ?_
            go_wp2_with fail
            go_ret
            exact ⟨rfl, B12⟩
end Go.Proofs.Ytfhlfnoiknhleaa
