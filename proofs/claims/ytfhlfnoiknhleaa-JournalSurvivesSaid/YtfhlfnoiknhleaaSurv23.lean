/-
  The walk of JournalSurvives.
-/
import Derived.Test.YtfhlfnoiknhleaaSurvP23
import Derived.Test.YtfhlfnoiknhleaaSame23
namespace Go.Proofs.Ytfhlfnoiknhleaa
open Go.RowKit
set_option linter.unusedVariables false

/-- A list's rows, as they came in. -/
def OldRows (w : World) (vs : List Value) (R : List (List UInt8)) : Prop := vs.length = R.length ∧ ∀ (i : Nat) (l : List UInt8), R[i]? = some l → l.length ≤ 60 ∧ ∃ A c, vs[i]? = some (.slice A l.length c) ∧ Cells w A (u8s l)
theorem OldRows.nil (w : World) : OldRows w [] [] := ⟨rfl, fun i l h => by simp at h⟩
theorem OldRows.snoc {w : World} {vs : List Value} {R : List (List UInt8)} (h : OldRows w vs R) {A : Option Addr} {m c : Nat} {l : List UInt8} (hm : l.length = m) (h60 : m ≤ 60) (hA : Cells w A (u8s l)) : OldRows w (vs ++ [.slice A m c]) (R ++ [l]) := by
  subst hm
  refine ⟨by simp [h.1], fun i x hx => ?_⟩
  by_cases hi : i < R.length
  · rw [List.getElem?_append_left hi] at hx
    obtain ⟨k0, A', c', k1, k2⟩ := h.2 i x hx
    exact ⟨k0, A', c', by rw [List.getElem?_append_left (by rw [h.1]; exact hi)]; exact k1, k2⟩
  · rw [List.getElem?_append_right (by omega)] at hx
    obtain ⟨hz, hxe⟩ : i - R.length = 0 ∧ x = l := by
      rcases hk : i - R.length with _ | k
      · rw [hk] at hx; simp at hx; exact ⟨rfl, hx.symm⟩
      · rw [hk] at hx; simp at hx
    subst hxe
    exact ⟨h60, A, c, by rw [List.getElem?_append_right (by rw [h.1]; omega), h.1, hz]; rfl, hA⟩
theorem OldRows.take {w : World} {vs : List Value} {R : List (List UInt8)} (h : OldRows w vs R) (m : Nat) : OldRows w (vs.take m) (R.take m) := by
  refine ⟨by simp [h.1], fun i l hl => ?_⟩
  rw [List.getElem?_take] at hl
  split at hl
  · rename_i hi
    obtain ⟨k0, A, c, k1, k2⟩ := h.2 i l hl
    exact ⟨k0, A, c, by rw [List.getElem?_take_of_lt hi]; exact k1, k2⟩
  · cases hl
theorem OldRows.le {w : World} {vs : List Value} {R : List (List UInt8)} (h : OldRows w vs R) : ∀ b ∈ R, b.length ≤ 60 := by
  intro b hb
  obtain ⟨i, hi⟩ := List.mem_iff_getElem?.1 hb
  exact (h.2 i b hi).1
theorem OldRows.rows {w w' : World} {base n c : Nat} {A : Option Addr} {vs : List Value} {R : List (List UInt8)} (h : OldRows w vs R) (hb : Below w.heap.size w w') (ho : w'.ownsRow base 30 1 (.slice A n c) n vs) : RowsB w' A R :=
  RowsB.of (Cells.of_own ho) fun i l hl => by
    obtain ⟨_, A', c', h1, h2⟩ := h.2 i l hl
    exact ⟨A', c', h1, h2.below hb⟩
/-- What the walk holds of all that was written: the records R, the first q of them safe. -/
structure Holds23 (w wr : World) (d j q r : Nat) (A : Option Addr) (c : Nat) (vs : List Value) (R : List (List UInt8)) : Prop where
  jd : JD w.heap.size wr d j (framesC R) (framesC (R.take q)).length r
  own : wr.ownsRow w.heap.size 30 1 (.slice A r c) r vs
  old : OldRows w vs R
  len : R.length = r
  q : q ≤ r
  bel : Below w.heap.size w wr
theorem Holds23.bytes {w wr : World} {d j q r : Nat} {A : Option Addr} {c : Nat} {vs : List Value} {R : List (List UInt8)} (h : Holds23 w wr d j q r A c vs R) : (framesC R).length ≤ 66 * r := by
  have := frames_bd R h.old.le
  rw [h.len] at this
  exact this
theorem Holds23.le255 {w wr : World} {d j q r : Nat} {A : Option Addr} {c : Nat} {vs : List Value} {R : List (List UInt8)} (h : Holds23 w wr d j q r A c vs R) : ∀ b ∈ R, b.length ≤ 255 := fun b hb => by have := h.old.le b hb; omega
set_option maxRecDepth 100000 in
set_option maxHeartbeats 1600000 in
theorem journalSurvives_walk (A0 : Option Addr) (n0 c0 : Nat) (ls : List (List Int)) (A1 : Option Addr) (c1 : Nat) (l1 : List Bool) (A2 : Option Addr) (c2 : Nat) (l2 : List Bool) (A3 : Option Addr) (c3 : Nat) (l3 : List Int) (w : World) (h0 : ArgLL .u8 w A0 n0 c0 ls) (h1 : ArgB w A1 c1 l1) (h2 : ArgB w A2 c2 l2) (h3 : ArgI .i64 w A3 c3 l3) :
    Calls Try.prog 5 #[.slice A0 n0 c0, .slice A1 l1.length c1, .slice A2 l2.length c2, .slice A3 l3.length c3] w fun e w' => e = .returned (.bool true) ∧ Below w.heap.size w w' := by
  have hn0 : n0 ≤ 9223372036854775807 := by have := h0.le; have := h0.max; unfold maxLen at this; omega
  have hR := Recs.of_arg h0
  obtain ⟨rs, ers⟩ : ∃ rs, rs = ls.map toB := ⟨_, rfl⟩
  rw [← ers] at hR
  have C1 := h1.case
  have C2 := h2.case
  have C3 : ∀ k, k < l3.length → ∃ b o x, A3 = some ⟨b, o, none⟩ ∧ b < w.heap.size ∧ w.cell? ⟨b, o + k, none⟩ = some (.int .i64 x) := fun k hk => by
    obtain ⟨b, o, x, e1, e2, e3, _⟩ := h3.cells.int_at (k := k) hk
    exact ⟨b, o, x, e1, e2, e3⟩
  obtain ⟨m1, e1⟩ : ∃ m1, m1 = l1.length := ⟨_, rfl⟩
  obtain ⟨m2, e2⟩ : ∃ m2, m2 = l2.length := ⟨_, rfl⟩
  obtain ⟨m3, e3⟩ : ∃ m3, m3 = l3.length := ⟨_, rfl⟩
  rw [← e1] at C1 ⊢
  rw [← e2] at C2 ⊢
  rw [← e3] at C3 ⊢
  have C1 := hide C1
  have C2 := hide C2
  have C3 := hide C3
  clear h0 h1 h2 h3 ers e1 e2 e3
  go_enter Try.func5, Try.ntmps5
  go_wp2_with fail
  refine (dk_new _).mono ?_
  rintro e w1 ⟨d, rfl, D1, B1⟩
  go_wp2_with fail
  refine (jd_open _ d _ _ _ [] 0 0 D1 rfl rfl).mono ?_
  rintro e w2 ⟨j, A4, c4, vs4, rfl, J2, -, -, -, b2⟩
  have B2 := B1.trans b2
  have H2 : Holds23 w w2 d j 0 0 none 0 [] [] := ⟨J2, World.ownsRow_nil _ _ _ _, OldRows.nil _, rfl, Nat.le_refl _, B2⟩
  clear D1 B1 b2 J2 B2
  go_wp2_with fail
  go_loopw [10, 13, 14, 15] (fun vj va vq vi wr => ∃ (k j q r : Nat) (A : Option Addr) (c : Nat) (vs : List Value) (R : List (List UInt8)), k ≤ n0 ∧ k ≤ 40 ∧ r ≤ 2 * k ∧ vi = .int .i64 k ∧ vj = .pointer (some ⟨j, 0, none⟩) ∧ va = .slice A r c ∧ vq = .int .i64 q ∧ Hid (Holds23 w wr d j q r A c vs R)) (fun _ _ _ vi _ => 40 - (intOf vi).toNat)
  case atStart => exact ⟨0, j, 0, 0, none, 0, [], [], Nat.zero_le _, by omega, by omega, rfl, rfl, rfl, rfl, H2⟩
  case round =>
    obtain ⟨k, j, q, r, A, c, vs, R, hk, hk40, hr2, rfl, rfl, rfl, rfl, H⟩ := hrel
    clear H2
    by_cases hlt : k < n0 ∧ k < 40
    · obtain ⟨hlt, hlt40⟩ := hlt
      have B := H.out.bel
      obtain ⟨bb, oo, Ax, cx, m0, bl, rfl, hbb, hcell, hax, hm0, hcx, hml, hbl⟩ := hR.at_ B hlt
      have i1 : (k : Int) < n0 := by omega
      have i2 : (k : Int) < 40 := by omega
      have hfb := H.out.bytes
      have hrc := own_shape_le H.out.own
      obtain ⟨m, em⟩ : ∃ m, m = min m0 60 := ⟨_, rfl⟩
      have hPl : (bl.take 60).length = m := by rw [List.length_take, hml.out, em]; omega
      have hPc : Cells w Ax (u8s (bl.take 60)) := hax.takeB 60
      obtain ⟨P, eP⟩ : ∃ P, P = bl.take 60 := ⟨_, rfl⟩
      rw [← eP] at hPl hPc
      have hm60 : m ≤ 60 := by omega
      have HPL := hide hPl
      have HM := hide em
      have hPc' := hPc.below B
      have hJ := H.out.jd
      clear hax eP hPl em hml hbl
      go_wp2_with fail
      refine (few_any Ax m0 cx _ hm0 hcx).mono ?_
      rw [← HM.out]
      rintro e u ⟨rfl, rfl⟩
      go_wp2_with fail
      refine (jd_appendR _ d j _ P _ r Ax m cx _ hJ HPL.out (by omega) (by omega) (by omega) hPc').mono ?_
      rintro e w3 ⟨rfl, J3, b3, K3⟩
      have own3 := K3.own H.out.own
      have B3 := B.trans b3
      have hcell3 : w3.cell? ⟨bb, oo + k, none⟩ = some (.slice Ax m0 cx) := (b3.cell (p := ⟨bb, oo + k, none⟩) hbb).trans hcell
      have HJ3 := hide J3
      clear B b3 J3 K3 hPc' hJ hcell
      go_wp2_with fail
      refine (few_any Ax m0 cx _ hm0 hcx).mono ?_
      rw [← HM.out]
      rintro e u ⟨rfl, rfl⟩
      go_upto_region 13 with (at_builtin; refine wpList_push elBB own3 (.slice Ax m cx) rfl _ _ rfl rfl rfl rfl (by omega) B3.size ?_; intro A5 c5 w5 own5 g5 b5)
      have B5 := b5 _ _ (Nat.le_refl _) B3
      obtain ⟨VS, eVS⟩ : ∃ VS, VS = vs ++ [Value.slice Ax m cx] := ⟨_, rfl⟩
      obtain ⟨RR, eRR⟩ : ∃ RR, RR = R ++ [P] := ⟨_, rfl⟩
      have H5 : Hid (Holds23 w w5 d j q (r + 1) A5 c5 VS RR) := by
        have hq := H.out.q
        have hlen := H.out.len
        have J5 := HJ3.out.grown own3 g5
        rw [← framesC_snoc, ← eRR] at J5
        refine ⟨?_, by rw [eVS]; exact own5, by rw [eVS, eRR]; exact H.out.old.snoc HPL.out hm60 hPc, by rw [eRR, List.length_append, hlen]; rfl, by omega, B5⟩
        rw [show RR.take q = R.take q by rw [eRR, List.take_append_of_le_length (by omega)]]
        exact J5
      clear own5 g5 b5 B5 eVS eRR HJ3 B3 own3 H hPc hcell3 HPL HM hfb hrc hm0 hcx hm60
      obtain ⟨b1, h1⟩ := C1.out k
      obtain ⟨b2, h2⟩ := C2.out k
      obtain ⟨r1, er1⟩ : ∃ r1, r1 = r + 1 := ⟨_, rfl⟩
      rw [← er1] at H5 ⊢
      have hr2' : r1 ≤ 2 * k + 1 := by omega
      clear er1 hr2
      go_cut [75] (fun t wx => t = .bool b1 ∧ w5 = wx)
      case first =>
        rcases h1 with ⟨hk1, b, o, rfl, hb, hc⟩ | ⟨hk1, rfl⟩
        · have i5 : (k : Int) < m1 := by omega
          have hc' := (H5.out.bel.cell (p := ⟨b, o + k, none⟩) hb).trans hc
          clear hc h2
          go_wp2_with fail
          go_meet
          exact ⟨rfl, rfl⟩
        · go_wp2_with fail
          go_meet
          exact ⟨rfl, rfl⟩
      obtain ⟨rfl, rfl⟩ := hcut
      clear h1
      go_upto_if 75 with (fail)
      go_cut [14] (fun vq wx => ∃ q', vq = .int .i64 (q' : Nat) ∧ Hid (Holds23 w wx d j q' r1 A5 c5 VS RR))
      case first =>
        cases b1
        · go_wp2_with fail
          go_meet
          exact ⟨q, rfl, H5⟩
        · have J5 := H5.out.jd
          go_wp2_with fail
          refine (jd_syncR _ d j _ _ _ _ J5).mono ?_
          rintro e w6 ⟨rfl, J6, b6, K6⟩
          have hlen := H5.out.len
          have H6 : Holds23 w w6 d j r1 r1 A5 c5 VS RR := ⟨by rw [List.take_of_length_le (by omega)]; exact J6, K6.own H5.out.own, H5.out.old, hlen, Nat.le_refl _, H5.out.bel.trans b6⟩
          have H6 := hide H6
          clear H5 J5 J6 hlen K6 b6
          go_wp2_with fail
          go_meet
          exact ⟨r1, rfl, H6⟩
      obtain ⟨q', rfl, H6⟩ := hcut
      clear H5
      go_upto_region 16 with (fail)
      obtain ⟨w6, ew6⟩ : ∃ w6, w6 = wc := ⟨_, rfl⟩
      rw [← ew6] at H6 ⊢
      clear ew6
      go_cut [90] (fun t wx => t = .bool (!b2) ∧ w6 = wx)
      case first =>
        rcases h2 with ⟨hk1, b, o, rfl, hb, hc⟩ | ⟨hk1, rfl⟩
        · have i5 : ¬ (m2 : Int) ≤ k := by omega
          have i6 : (k : Int) < m2 := by omega
          have hc' := (H6.out.bel.cell (p := ⟨b, o + k, none⟩) hb).trans hc
          clear hc
          go_wp2_with fail
          go_meet
          exact ⟨rfl, rfl⟩
        · have i5 : (m2 : Int) ≤ k := by omega
          go_wp2_with fail
          go_meet
          exact ⟨rfl, rfl⟩
      obtain ⟨rfl, rfl⟩ := hcut
      clear h2
      cases b2
      · go_wp2_with fail
        go_roundw
        case rel => exact ⟨k + 1, j, q', r1, A5, c5, VS, RR, by omega, by omega, by omega, by go_num, rfl, rfl, rfl, H6⟩
        case measure => simp [intOf]; omega
      · go_upto_if 94 with (fail)
        go_cut [16] (fun vk wx => ∃ K : Int, vk = .int .i64 K ∧ w6 = wx)
        case first =>
          by_cases h3 : k < m3
          · obtain ⟨b, o, x, rfl, hb, hc⟩ := C3.out k h3
            have i5 : (k : Int) < m3 := by omega
            have hc' := (H6.out.bel.cell (p := ⟨b, o + k, none⟩) hb).trans hc
            clear hc
            go_wp2_with fail
            refine (within_any x 0 300 _ (by omega) (by omega) (by omega)).mono ?_
            rintro e u ⟨rfl, rfl⟩
            go_wp2_with fail
            go_meet
            exact ⟨_, rfl, rfl⟩
          · have i5 : ¬ (k : Int) < m3 := by omega
            go_wp2_with fail
            go_meet
            exact ⟨5, rfl, rfl⟩
        obtain ⟨K, rfl, rfl⟩ := hcut
        have D6 := H6.out.jd.dk
        have hq' := H6.out.q
        have hlen := H6.out.len
        have hfb := H6.out.bytes
        obtain ⟨k1, k2⟩ := crashLen_bd (framesC RR).length (framesC (RR.take q')).length K (by have := frames_mono RR (show q' ≤ RR.length by omega); rwa [List.take_length] at this)
        obtain ⟨KK, eKK⟩ : ∃ KK, KK = crashLen (framesC RR).length (framesC (RR.take q')).length K := ⟨_, rfl⟩
        rw [← eKK] at k1 k2
        obtain ⟨m, hqm, hmr, hsc, htk, hle⟩ := crash_scan RR KK q' H6.out.le255 (by omega) k1 k2
        have hlm : (RR.take m).length = m := by rw [List.length_take]; omega
        rw [hlen] at hmr
        have HKK := hide eKK; have HSC := hide hsc; have HTK := hide htk; have HLM := hide hlm; have HLEN := hide hlen
        have hle' : (if (framesC (RR.take m)).length < ((framesC RR).take KK).length then (framesC (RR.take m)).length else KK) = (framesC (RR.take m)).length := by
          rw [List.length_take]; split <;> omega
        have HLE := hide hle'
        have hfm : (framesC (RR.take m)).length ≤ 66 * r1 := by omega
        clear eKK hsc htk hlm hlen k1 k2 hle hle'
        go_wp2_with fail
        refine (dk_crashR _ d _ _ K _ D6).mono ?_
        rw [← HKK.out]
        rintro e w7 ⟨rfl, D7, b7, K7⟩
        have B7 := H6.out.bel.trans b7
        have own7 := K7.own H6.out.own
        have old7 := H6.out.old
        clear D6 b7 K7 H6
        go_wp2_with fail
        refine (jd_openR _ d _ _ _ _ _ m D7 HSC.out HLM.out).mono ?_
        rintro e w8 ⟨⟨j8, A8, c8, vs8, rfl, J8, hc8, hB8, hn8, b8⟩, K8⟩
        rw [HTK.out, HLE.out] at J8
        have B8 := B7.trans b8
        have own8 := K8.own own7
        have R8 := RowsB.row hc8 hB8
        have S8 := (old7.rows B8 own8).take m
        have hnil8 : A5 = none → m = 0 ∧ c5 = 0 := fun h => by
          have := own8.2
          rcases this with ⟨h0, h1⟩ | ⟨g, cap, cur, hv, _⟩
          · injection h0 with _ _ h0; exact ⟨by omega, by omega⟩
          · injection hv with hv _ _; rw [h] at hv; cases hv
        have hT8 := own_take own8 hmr hnil8
        have hrc8 := own_shape_le own8
        have O8 := old7.take m
        have HS := hide S8
        have J8' := J8.jour
        have HO8 := hide O8
        clear D7 own7 B7 K8 b8 hc8 hB8 hn8 own8 old7 S8 O8 hnil8
        have i7 : ¬ (m : Int) < q' := by omega
        have i8 : ¬ (r1 : Int) < m := by omega
        have i9 : (m : Int) ≤ c5 := by omega
        go_wp2_with fail
        refine (keepBytes_same _ _ m _ _ (RR.take m) _ HLM.out (by omega) R8 HS.out).mono ?_
        rintro e w9 ⟨rfl, b9⟩
        have J9 := J8.below b9
        have J9' := J8'.below b9
        have B9 := nxt B8 b9
        have own9 := own_below hT8 b9
        clear J8 J8' B8 b9 hT8 R8 HS
        go_wp2_with fail
        refine (count_any j8 d m _ J9').mono ?_
        rintro e u ⟨rfl, rfl⟩
        go_wp2_with fail
        refine (jd_appendR _ d j8 _ [] _ m none 0 0 _ J9 rfl (by omega) (by omega) (by omega) (Cells.nil _ _)).mono ?_
        rintro e w10 ⟨rfl, J10, b10, K10⟩
        have B10 := B9.trans b10
        have own10 := K10.own own9
        clear J9 J9' B9 own9 b10 K10
        go_upto_region 30 with (at_builtin; refine wpList_push elBB own10 (.slice none 0 0) rfl _ _ rfl rfl rfl rfl (by omega) B10.size ?_; intro A11 c11 w11 own11 g11 b11)
        have B11 := b11 _ _ (Nat.le_refl _) B10
        have J11 := J10.grown own10 g11
        clear own10 g11 b11 B10 J10
        go_wp2_with fail
        refine (jd_syncR _ d j8 _ _ _ _ J11).mono ?_
        rintro e w12 ⟨rfl, J12, b12, K12⟩
        have H12 : Hid (Holds23 w w12 d j8 (m + 1) (m + 1) A11 c11 (VS.take m ++ [Value.slice none 0 0]) (RR.take m ++ [[]])) := by
          have hlm := HLM.out
          have hl1 : (RR.take m ++ [[]]).length = m + 1 := by rw [List.length_append, hlm]; rfl
          refine ⟨?_, K12.own own11, HO8.out.snoc rfl (by omega) (Cells.nil _ _), hl1, Nat.le_refl _, B11.trans b12⟩
          have e1 : (RR.take m ++ [[]]).take (m + 1) = RR.take m ++ [[]] := List.take_of_length_le (by omega)
          rw [e1, framesC_snoc]
          exact J12
        clear J12 K12 own11 b12 J11 B11 HO8
        go_wp2_with fail
        go_roundw
        case rel => exact ⟨k + 1, j8, m + 1, m + 1, A11, c11, _, _, by omega, by omega, by omega, by go_num, rfl, rfl, rfl, H12⟩
        case measure => simp [intOf]; omega
    · have hkk : ¬ (k : Int) < n0 ∨ ((k : Int) < n0 ∧ ¬ (k : Int) < 40) := by omega
      have D := H.out.jd.dk
      have hlen := hide H.out.len
      have hsc := hide (scan_all R H.out.le255)
      have hrc := own_shape_le H.out.own
      have own := H.out.own
      have old := hide H.out.old
      have B := H.out.bel
      clear H hlt
      rcases hkk with i1 | ⟨i1, i2⟩
      all_goals
        go_wp2_with fail
        refine (jd_openR _ d _ _ _ _ _ r D hsc.out hlen.out).mono ?_
        rintro e w8 ⟨⟨j8, A8, c8, vs8, rfl, J8, hc8, hB8, hn8, b8⟩, K8⟩
        have R8 := RowsB.row hc8 hB8
        have B8 := B.trans b8
        have S8 := old.out.rows B8 (K8.own own)
        clear D J8 hc8 hB8 b8 K8 own B
        go_wp2_with fail
        refine (keepBytes_same _ _ r _ _ R _ hlen.out (by omega) R8 S8).mono ?_
        rintro e w9 ⟨rfl, b9⟩
        have B9 := nxt B8 b9
        go_wp2_with fail
        refine (known23_any _).mono ?_
        rintro e w6 ⟨rfl, hb⟩
        go_wp2_with fail
        go_ret
        exact ⟨rfl, nxt B9 hb⟩
end Go.Proofs.Ytfhlfnoiknhleaa
