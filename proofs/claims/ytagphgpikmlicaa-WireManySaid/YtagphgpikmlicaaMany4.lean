/-
  The walk of WireMany.
-/
import Derived.Test.YtagphgpikmlicaaFrames4
import Derived.Test.YtagphgpikmlicaaStrs
import Derived.Test.YtagphgpikmlicaaManyP
namespace Go.Proofs.Ytagphgpikmlicaa
open Go.RowKit
set_option linter.unusedVariables false

theorem Try.infoInt : (Try.prog.info? 3).map (fun i => (i.zero, i.size, i.bytes)) = some (some (.int .i64 0), 1, 8) := by kernel_rfl
theorem elInt : Elem Try.prog 28 3 (.int .i64 0) 8 :=
  ⟨Try.underlying28, let ⟨i, h, h0, h1, h2⟩ := info_parts Try.infoInt; ⟨i, h, h0, h1, h2⟩, rfl, by omega⟩
theorem OpenedAt.get {w w' : World} {P : List UInt8} {s y m : Nat} {e : Ending} (h : OpenedAt w ⟨P, s, y⟩ e w') (hn : P.length = m) :
    ∃ A c, e = .returned (.tuple #[.slice A m c, .int .i64 (s : Nat), .int .i64 (y : Nat)]) ∧ Cells w' A (u8s P) ∧ m ≤ c ∧ Below w.heap.size w w' := by
  subst hn
  obtain ⟨A, c, rfl, -, hA, hc, -, hb⟩ := h
  exact ⟨A, c, rfl, hA, hc, hb⟩
set_option maxRecDepth 100000 in
set_option maxHeartbeats 1600000 in
theorem wireMany_walk (A0 : Option Addr) (n0 c0 : Nat) (ls : List (List Int)) (a1 : Int) (w : World) (h0 : ArgLL .u8 w A0 n0 c0 ls) (_w1 : (Lit.int .i64 a1).wf = true) :
    Calls Try.prog 6 #[.slice A0 n0 c0, .int .i64 a1] w fun e w' => e = .returned (.bool true) ∧ Below w.heap.size w w' := by
  have hn0 : n0 ≤ 9223372036854775807 := by have := h0.le; have := h0.max; unfold maxLen at this; omega
  have hnl : ls.length = n0 := h0.len
  have HNL := hide hnl
  clear hnl _w1
  go_enter Try.func6, Try.ntmps6
  go_wp2_with fail
  go_loopw [5, 6, 7] (fun v s i wr => ∃ (k N : Nat) (A : Option Addr) (c : Nat) (Ae : Option Addr) (ce : Nat), k ≤ n0 ∧ k ≤ 12 ∧ i = .int .i64 k ∧ v = .slice A N c ∧ s = .slice Ae k ce ∧ Hid (N = (framesL (ls.take k)).length) ∧ N ≤ 106 * k ∧
    Hid (wr.ownsRow w.heap.size 5 1 (.slice A N c) N (u8s (framesL (ls.take k)))) ∧ Hid (wr.ownsRow w.heap.size 3 1 (.slice Ae k ce) k (i64s (endsL ls k))) ∧ Below w.heap.size w wr) (fun _ _ i _ => 12 - (intOf i).toNat)
  case atStart => exact ⟨0, 0, none, 0, none, 0, Nat.zero_le _, by omega, rfl, rfl, rfl, rfl, by omega, World.ownsRow_nil _ _ _ _, World.ownsRow_nil _ _ _ _, Below.refl _ _⟩
  case round =>
    obtain ⟨k, N, A, c, Ae, ce, hk, hk12, rfl, rfl, rfl, HN, hNk, HO, HE, B⟩ := hrel
    by_cases hlt : k < n0 ∧ k < 12
    · obtain ⟨hlt, hlt12⟩ := hlt
      obtain ⟨bb, oo, Ax, cx, bl, rfl, hbb, hcell, hax, hbl⟩ := h0.at_ B hlt
      have hxc := hax.bytesE
      have hblc : bl.length ≤ cx := hax.le
      have hcxm : cx ≤ 9223372036854775807 := hax.max
      have hPl := length_cutB bl
      have hPc : Cells w Ax (u8s (cutB bl)) := hxc.takeB 100
      have hst := framesL_succ hbl.out
      have hes := endsL_succ hbl.out
      obtain ⟨P, eP⟩ : ∃ P, P = cutB bl := ⟨_, rfl⟩
      rw [← eP] at hPl hPc hst
      have i1 : (k : Int) < n0 := by omega
      have i2 : (k : Int) < 12 := by omega
      obtain ⟨m, em⟩ : ∃ m, m = min bl.length 100 := ⟨_, rfl⟩
      rw [← em] at hPl
      have hm100 : m ≤ 100 := by omega
      have HPL := hide hPl
      have HM := hide em
      have HST := hide hst
      have HES := hide hes
      have hPc' := hPc.below B
      clear hax hxc eP hPl em hst hes hPc
      go_wp2_with fail
      refine (cut_any Ax bl.length cx 100 _ hblc hcxm (by omega) (by omega)).mono ?_
      rw [show min bl.length (100 : Int).toNat = m from HM.out.symm]
      rintro e u ⟨rfl, rfl⟩
      go_wp2_with fail
      refine (frame_ok Ax m cx P _ HPL.out (by omega) hPc').mono ?_
      have hfl : (frameL P).length = m + 6 := by rw [length_frameL, HPL.out]
      obtain ⟨G, eG⟩ : ∃ G, G = frameL P := ⟨_, rfl⟩
      rw [← eG] at hfl ⊢
      have HFL := hide hfl
      have EG := hide eG
      clear eG
      rintro e w2 ⟨AF, cF, rfl, -, hF, -, -, hb⟩
      rw [hfl]
      have B2 := nxt B hb
      have own2 := own_below HO.out hb
      have ends2 := own_below HE.out hb
      clear hb B hfl hPc'
      go_wp2_with (first
        | (fail_if_success (have := p4)
           at_builtin
           refine wpList_app elU8 own2 (news := u8s G) rfl _ _ rfl rfl rfl (by rw [length_u8s]; exact HFL.out) hF (u8s_one G) (by omega) B2.size (N + (m + 6)) _ rfl rfl ?_
           intro A4 c4 w4 p4
           have B4 := p4.below _ _ (Nat.le_refl _) B2
           have ends4 := own_grown ends2 p4.grown (own_ne ends2 own2 (by decide)))
        | (at_builtin
           refine wpList_push elInt ends4 (.int .i64 ((N + (m + 6) : Nat) : Int)) rfl _ _ rfl rfl rfl rfl (by omega) B4.size ?_
           intro A5 c5 w5 own5 g5 b5))
      have hN' : N + (m + 6) = (framesL (ls.take (k + 1))).length := by rw [HST.out, List.length_append, ← HN.out, ← EG.out, HFL.out]
      have HN' := hide hN'
      have HOB : Hid (w5.ownsRow w.heap.size 5 1 (.slice A4 (N + (m + 6)) c4) (N + (m + 6)) (u8s (framesL (ls.take (k + 1))))) := by
        have := own_grown p4.own g5 (own_ne p4.own ends4 (by decide))
        rw [HST.out, ← EG.out]
        simpa [u8s, Hid] using this
      have HEB : Hid (w5.ownsRow w.heap.size 3 1 (.slice A5 (k + 1) c5) (k + 1) (i64s (endsL ls (k + 1)))) := by
        rw [HES.out, ← hN']
        simpa [i64s, Hid] using own5
      have B5 := b5 _ _ (Nat.le_refl _) B4
      clear hN' own5 g5 b5 p4 ends4 B4 own2 ends2 B2 hF
      go_roundw
      case rel => exact ⟨k + 1, N + (m + 6), A4, c4, A5, c5, by omega, by omega, by go_num, rfl, rfl, HN', by omega, HOB, HEB, B5⟩
      case measure => simp [intOf]; omega
    · have hkk : ¬ (k : Int) < n0 ∨ ((k : Int) < n0 ∧ ¬ (k : Int) < 12) := by omega
      have hle := own_shape_le HO.out
      have hcm : c ≤ 9223372036854775807 := by
        obtain ⟨A', c', hv', _, hm'⟩ := own_shape HO.out
        injection hv' with _ _ hcc
        subst hcc
        exact hm'
      have hcO := Cells.of_own HO.out
      have hcE := Cells.of_own HE.out
      have hwb := within_bd a1 0 N (by omega)
      obtain ⟨K, hK⟩ : ∃ K : Nat, within a1 0 N = K := ⟨(within a1 0 N).toNat, by omega⟩
      rw [hK] at hwb
      have HK := hide hK
      have hKN : K ≤ N := by omega
      have hiK : (K : Int) ≤ c := by omega
      clear hK hwb hlt HO HE
      rcases hkk with i1 | ⟨i1, i2⟩
      all_goals
        go_wp2_with fail
        refine (within_any a1 0 N _ (by omega) (by omega) (by omega)).mono ?_
        rw [HK.out]
        rintro e u ⟨rfl, rfl⟩
        obtain ⟨wo, rfl⟩ : ∃ wo, wo = wr := ⟨_, rfl⟩
        go_wp2_with fail
        go_loopw [11, 12] (fun p i wr => ∃ (j q : Nat), j ≤ k ∧ i = .int .i64 j ∧ p = .int .i64 q ∧ Hid (q = (framesL (ls.take j)).length) ∧ Below wo.heap.size wo wr) (fun _ i _ => k - (intOf i).toNat)
        case atStart => exact ⟨0, 0, Nat.zero_le _, rfl, rfl, rfl, Below.refl _ _⟩
        case round =>
          obtain ⟨j, q, hj, rfl, rfl, HQ, BB⟩ := hrel
          by_cases hlj : j < k
          · have BW := nxt B BB
            obtain ⟨bb, oo, Ax, cx, bl, rfl, hbb, hcell, hax, hbl⟩ := h0.at_ BW (i := j) (by omega)
            have hxc := hax.bytesE
            have hblc : bl.length ≤ cx := hax.le
            have hcxm : cx ≤ 9223372036854775807 := hax.max
            have hPl := length_cutB bl
            have hPc : Cells w Ax (u8s (cutB bl)) := hxc.takeB 100
            obtain ⟨rest, hsp⟩ := framesL_split hbl.out hlj
            have hsq := framesL_succ hbl.out
            have hea := endsL_at ls hlj
            obtain ⟨P, eP⟩ : ∃ P, P = cutB bl := ⟨_, rfl⟩
            rw [← eP] at hPl hPc hsp hsq
            obtain ⟨m, em⟩ : ∃ m, m = min bl.length 100 := ⟨_, rfl⟩
            rw [← em] at hPl
            have hm100 : m ≤ 100 := by omega
            obtain ⟨Z, eZ⟩ : ∃ Z, Z = framesL (ls.take k) := ⟨_, rfl⟩
            have hZN : Z.length = N := by rw [eZ]; exact HN.out.symm
            have hq2 : (framesL (ls.take (j + 1))).length = q + m + 6 := by rw [hsq, List.length_append, length_frameL, ← HQ.out, hPl]; omega
            rw [hq2] at hea
            rw [← eZ] at hsp
            have hqN : q + m + 6 ≤ N := by rw [← hZN, hsp]; simp only [List.length_append, length_frameL, ← HQ.out, hPl]; omega
            have hop1 : openL Z q = ⟨P, q + m + 6, 0⟩ := by rw [hsp, HQ.out, openL_frame _ P rest (by omega), hPl]
            have hop2 : openL (Z.take K) q = if K < q then ⟨[], 0, 1⟩ else if q + m + 6 ≤ K then ⟨P, q + m + 6, 0⟩ else ⟨[], 0, 10⟩ := by
              split
              · exact open_cut1 (by omega) (by omega)
              · split
                · rw [hsp, HQ.out, open_cut2 (by omega) (by rw [← HQ.out, hPl]; omega), hPl]
                · rw [hsp, HQ.out, open_cut3 (by omega) (by rw [← HQ.out]; omega) (by rw [← HQ.out, hPl]; omega)]
            have hcZ : Cells wr A (u8s Z) := by rw [eZ]; exact hcO.below BB
            obtain ⟨b7, o7, y, rfl, hb7, hc7, hy⟩ := (hcE.below BB).int_at (k := j) (by rw [length_endsL]; exact hlj)
            obtain rfl : y = ((q + m + 6 : Nat) : Int) := by have := hy.out; rw [hea] at this; exact (Option.some.inj this).symm
            obtain ⟨E, eE⟩ : ∃ E, E = q + m + 6 := ⟨_, rfl⟩
            rw [← eE] at hop1 hop2 hqN hq2 hc7
            have HEE := hide eE
            have HPL := hide hPl
            have HM := hide em
            have HZN := hide hZN
            have HO1 := hide hop1
            have HO2 := hide hop2
            have hPw := hPc.below BW
            have HSQ := hide hq2
            clear hax hxc eP hPl em hsp hsq hea eZ hZN hop1 hop2 hPc hq2 hy hbl BW eE
            go_wp2_with fail
            refine (open_any A N c Z q _ HZN.out (by omega) hle hcm hcZ).mono ?_
            rw [HO1.out]
            intro e x1 hx1
            obtain ⟨AX, cX, rfl, hX, -, hb⟩ := hx1.get HPL.out
            have D1 := nxt BB hb
            have f7 : ∀ u, Stays x1.drew u → u.cell? ⟨b7, o7 + j, none⟩ = some (.int .i64 (E : Int)) := fun u hu => ((hb.drew.trans (hu.mono hb.size)).cell (p := ⟨b7, _, none⟩) (World.block_lt_of_cell? wr _ hc7)).trans hc7
            have f16 : ∀ u, Stays x1.drew u → u.cell? ⟨bb, oo + j, none⟩ = some (.slice Ax bl.length cx) := fun u hu => ((hb.drew.trans (hu.mono hb.size)).cell (p := ⟨bb, _, none⟩) (World.block_lt_of_cell? wr _ hcell)).trans hcell
            have ks := Cells.strs (P := Try.prog) Try.underlying22 Try.underlying5 Try.underlying9 HPL.out hX.drew cX
            have ks2 := Cells.strs (P := Try.prog) Try.underlying22 Try.underlying5 Try.underlying9 HPL.out (hPw.below hb).drew cx
            have hcZ1 := (hcZ.below hb).takeB K
            have f21 := fun (u : World) (hu : Below x1.heap.size x1.drew u) => ((hb.drew.trans (hu.mono hb.size)).cell (p := ⟨b7, o7 + j, none⟩) (World.block_lt_of_cell? wr _ hc7)).trans hc7
            have hX1 := hX.drew
            clear hx1 hb hc7 hcell hX hPw hcZ BB
            have j1 : (j : Int) < k := by omega
            have j2 : (j : Int) < n0 := by omega
            go_wp2_with fail
            refine wp_region_grow (R := Stays) 99999 [17] [0, 1, 2, 3, 4, 5, 6, 7, 8, 9, 10, 11, 12, 13, 14, 15, 16, 17, 18, 19, 20] (by kernel_rfl) Stays.tr Stays.rf (by kernel_rfl) (fun _ _ _ _ _ h => h) ?_
            (repeat ((first | (refine grow_skip (by rfl) (by rfl) ?_ (by first | exact Stays.rf _ | exact Lower.rf _ _ | exact Holds.rf _ _)) | (refine grow_take (v := ?_) (by rfl) (by rfl) (by rfl) ?_ ?_; rotate_left 1; focus (intro w' hSw; go_simp; (try (with_reducible rfl)); done))); (try simp only [Act.put, List.setIfInBounds_toArray, List.set_cons_zero, List.set_cons_succ])))
            clear f7 f16 ks
            refine grow_move (by rfl) (by rfl) (by rfl) (fun K hK => ?_); go_simp
            refine (cut_any Ax bl.length cx 100 _ hblc hcxm (by omega) (by omega)).mono ?_
            rw [show min bl.length (100 : Int).toNat = m from HM.out.symm]
            rintro e u ⟨rfl, rfl⟩
            refine hK.out _ _ (Stays.rf _) ?_; clear hK K; (try simp only [Act.put, List.setIfInBounds_toArray, List.set_cons_zero, List.set_cons_succ])
            (repeat ((first | (refine grow_skip (by rfl) (by rfl) ?_ (by first | exact Stays.rf _ | exact Lower.rf _ _ | exact Holds.rf _ _)) | (refine grow_take (v := ?_) (by rfl) (by rfl) (by rfl) ?_ ?_; rotate_left 1; focus (intro w' hSw; go_simp; (try (with_reducible rfl)); done))); (try simp only [Act.put, List.setIfInBounds_toArray, List.set_cons_zero, List.set_cons_succ])))
            refine grow_done ?_
            clear ks2
            have hlK : (Z.take K).length = K := by have := HZN.out; simp; omega
            have HLK := hide hlK
            have hKc : K ≤ c := by omega
            clear hlK
            have hNext : Hid (E = (framesL (ls.take (j + 1))).length) := HSQ.out.symm
            have f7 := f21 x1.drew (Below.refl _ _)
            have hcZ2 := hcZ1.drew
            clear hcZ1
            clear f21
            have BA := nxt_drew D1
            clear D1
            generalize x1.drew = x2 at *
            by_cases h1 : K < q
            · have ho : openL (Z.take K) q = ⟨[], 0, 1⟩ := by rw [HO2.out, if_pos h1]
              have HO3 := hide ho
              clear ho
              go_wp2_with fail
              refine (open_any A K c (Z.take K) q _ HLK.out (by omega) hKc hcm hcZ2).mono ?_
              rw [HO3.out]
              intro e x3 hx3
              obtain ⟨AY, cY, rfl, -, -, hb⟩ := hx3.get (rfl : ([] : List UInt8).length = 0)
              have D2 := nxt BA hb
              clear hx3 hb f7 hcZ2 hX1
              go_wp2_with fail
              refine (known4_any _).mono ?_
              rintro e x4 ⟨rfl, hb⟩
              go_wp2_with fail
              go_ret
              exact ⟨rfl, nxt (nxt B D2) hb⟩
            · by_cases h2 : E ≤ K
              · have ho : openL (Z.take K) q = ⟨P, E, 0⟩ := by rw [HO2.out, if_neg h1, if_pos h2]
                have HO3 := hide ho
                clear ho
                go_wp2_with fail
                refine (open_any A K c (Z.take K) q _ HLK.out (by omega) hKc hcm hcZ2).mono ?_
                rw [HO3.out]
                intro e x3 hx3
                obtain ⟨AY, cY, rfl, hY, -, hb⟩ := hx3.get HPL.out
                have D2 := nxt BA hb
                have g7 := (hb.cell (World.block_lt_of_cell? x2 _ f7)).trans f7
                have k1 := run_str (P := Try.prog) Try.underlying22 Try.underlying5 Try.underlying9 cX HPL.out (hX1.below hb)
                have k2 := run_str (P := Try.prog) Try.underlying22 Try.underlying5 Try.underlying9 cY HPL.out hY
                clear hx3 hb f7 hcZ2 hX1
                go_wp2_with fail
                go_roundw
                case rel => exact ⟨j + 1, E, by omega, by go_num, rfl, hNext, D2⟩
                case measure => simp [intOf]; omega
              · have ho : openL (Z.take K) q = ⟨[], 0, 10⟩ := by rw [HO2.out, if_neg h1, if_neg h2]
                have HO3 := hide ho
                clear ho
                go_wp2_with fail
                refine (open_any A K c (Z.take K) q _ HLK.out (by omega) hKc hcm hcZ2).mono ?_
                rw [HO3.out]
                intro e x3 hx3
                obtain ⟨AY, cY, rfl, -, -, hb⟩ := hx3.get (rfl : ([] : List UInt8).length = 0)
                have D2 := nxt BA hb
                have g7 := (hb.cell (World.block_lt_of_cell? x2 _ f7)).trans f7
                clear hx3 hb f7 hcZ2 hX1
                go_wp2_with fail
                go_roundw
                case rel => exact ⟨j + 1, E, by omega, by go_num, rfl, hNext, D2⟩
                case measure => simp [intOf]; omega
          · have i9 : ¬ (j : Int) < k := by omega
            go_wp2_with fail
            refine (known4_any _).mono ?_
            rintro e x4 ⟨rfl, hb⟩
            go_wp2_with fail
            go_ret
            exact ⟨rfl, nxt (nxt B BB) hb⟩
end Go.Proofs.Ytagphgpikmlicaa
