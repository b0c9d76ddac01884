/-
  The walk of ReportFrames.
-/
import Derived.Test.YtbfjdhbgpjenbaaDoorArgs7
import Derived.Test.YtbfjdhbgpjenbaaDoorRead7
namespace Go.Proofs.YtbfjdhbgpjenbaaDoor
set_option linter.unusedSimpArgs false
open Go.RowKit
set_option linter.unusedVariables false

theorem someL_right (l : List Rep) : ∀ r ∈ someL l, rightP r := fun r hr => by
  have := (List.mem_filter.1 hr).2
  exact of_decide_eq_true this
theorem someL_mem {l : List Rep} {r : Rep} (h : r ∈ someL l) : r ∈ l := (List.mem_filter.1 h).1
theorem allL_right : ∀ {l : List Rep}, (∀ r ∈ l, rightP r) → (allL l).length = 42 * l.length
  | [], _ => rfl
  | r :: l, h => by
    simp only [allL, if_pos (h r (by simp)), List.length_append, length_frameL, length_encR, List.length_cons]
    rw [allL_right fun x hx => h x (by simp [hx])]
    omega
theorem allL_split {l : List Rep} {j : Nat} {r : Rep} (h : ∀ r ∈ l, rightP r) (hr : l[j]? = some r) : allL l = allL (l.take j) ++ (frameL (encR r) ++ allL (l.drop (j + 1))) := by
  have h1 : l = l.take j ++ (r :: l.drop (j + 1)) := by
    have hlt := lt_of_some hr
    conv => lhs; rw [← List.take_append_drop j l, List.drop_eq_getElem_cons hlt]
    rw [(List.getElem?_eq_some_iff.1 hr).2]
  conv => lhs; rw [h1]
  rw [allL_append]
  simp only [allL, if_pos (h r (mem_of_some hr))]
/-- A frame of a right report, in its place. -/
theorem open_right {l : List Rep} {j : Nat} {r : Rep} (h : ∀ r ∈ l, rightP r) (hr : l[j]? = some r) : openL (allL l) ((42 * j : Nat) : Int) = ⟨encR r, 42 * (j + 1), 0⟩ := by
  have hl : (allL (l.take j)).length = 42 * j := by
    rw [allL_right fun x hx => h x (List.mem_of_mem_take hx), List.length_take]
    have := lt_of_some hr
    omega
  have := openL_frame (allL (l.take j)) (encR r) (allL (l.drop (j + 1))) (by rw [length_encR]; omega)
  rw [← allL_split h hr, hl, length_encR] at this
  rw [this]
  congr 1
theorem fresh_get {w w' : World} {l : List UInt8} {e : Ending} {n : Nat} (h : FreshB w l e w') (hn : l.length = n) :
    ∃ A c, e = .returned (.slice A n c) ∧ w'.ownsRow w.heap.size 5 1 (.slice A n c) n (u8s l) ∧ Cells w' A (u8s l) ∧ n ≤ c ∧ c ≤ maxLen ∧ Below w.heap.size w w' := by
  subst hn; exact h
theorem min_take (l : List Rep) (m : Nat) : (l.take m).length = min l.length m := by rw [List.length_take]; omega
set_option maxRecDepth 100000 in
set_option maxHeartbeats 1600000 in
theorem reportFrames_walk (A0 : Option Addr) (n0 c0 : Nat) (A1 : Option Addr) (c1 : Nat) (l1 : List Int) (w : World) (hT : PowTab w) (h0 : Reports w A0 n0 c0) (h1 : ArgI .u8 w A1 c1 l1) :
    Calls Tryd.prog 7 #[.slice A0 n0 c0, .slice A1 l1.length c1] w fun e w' => e = .returned (.bool true) ∧ Below w.heap.size w w' := by
  obtain ⟨bb, hbl, hB0⟩ := h1.bytes
  have hm2 : c1 ≤ 9223372036854775807 := h1.max
  have hl2 := h1.le
  obtain ⟨l, hl, hR, hwf⟩ := h0.row
  have hn0 : n0 ≤ 9223372036854775807 := by have := h0.le; have := h0.max; unfold maxLen at this; omega
  have hn0c := h0.le
  have hc0 : c0 ≤ 9223372036854775807 := h0.max
  obtain ⟨m, em⟩ : ∃ m, m = min n0 10 := ⟨_, rfl⟩
  obtain ⟨L, eL⟩ : ∃ L, L = l.take m := ⟨_, rfl⟩
  have hL : L.length = m := by rw [eL, List.length_take, hl]; omega
  have hRL : Cells w A0 (repsV L) := by rw [eL]; exact hR.takeR m
  have hwL : wfAll L := by rw [eL]; exact hwf.take m
  obtain ⟨n2, en2⟩ : ∃ n2, n2 = l1.length := ⟨_, rfl⟩
  rw [← en2] at hl2 hbl ⊢
  obtain ⟨q, eq⟩ : ∃ q, q = min n2 20 := ⟨_, rfl⟩
  obtain ⟨T, eT⟩ : ∃ T, T = bb.take q := ⟨_, rfl⟩
  have hTl : T.length = q := by rw [eT]; simp; omega
  have hTc : Cells w A1 (u8s T) := by rw [eT]; exact hB0.takeB q
  have hq20 : q ≤ 20 := by omega
  have HT := hide hT
  have EM := hide em
  have EQ := hide eq
  obtain ⟨S, eS⟩ : ∃ S, S = someL L := ⟨_, rfl⟩
  have hSr : ∀ r ∈ S, rightP r := by rw [eS]; exact someL_right L
  have hSw : wfAll S := by rw [eS]; exact fun r hr => hwL r (someL_mem hr)
  obtain ⟨X, eX⟩ : ∃ X, X = allL L := ⟨_, rfl⟩
  have hXS : X = allL S := by rw [eX, eS, allL_some]
  obtain ⟨K, eK⟩ : ∃ K, K = S.length := ⟨_, rfl⟩
  obtain ⟨M, eMM⟩ : ∃ M, M = 42 * K := ⟨_, rfl⟩
  have hX : X.length = M := by rw [hXS, allL_right hSr, eMM, eK]
  have hK : K ≤ m := by rw [eK, eS, ← hL]; exact List.length_filter_le _ _
  have hm10 : m ≤ 10 := by omega
  have hM420 : M ≤ 420 := by omega
  have EMM := hide eMM
  have hend : ∀ r y, decR T = (r, y) → y ≠ 0 → readL (X ++ (frameL T ++ X)) 0 = ⟨S, 12⟩ := fun r y hd hy => by
    rw [eX, eS]; exact read_ends hwL (by rw [hTl]; omega) (by rw [hd]; exact hy)
  have hop : ∀ j r, S[j]? = some r → openL X ((42 * j : Nat) : Int) = ⟨encR r, 42 * (j + 1), 0⟩ := fun j r hj => by rw [hXS]; exact open_right hSr hj
  have hde : ∀ j r, S[j]? = some r → decR (encR r) = (r, 0) := fun j r hj => dec_enc (hSr r (mem_of_some hj)) (hSw r (mem_of_some hj))
  have HL := hide hL; have HTL := hide hTl; have EXA := hide eX; have EK := hide eK; have HX := hide hX; have HEND := hide hend; have HOP := hide hop; have HDE := hide hde
  clear h0 h1 hR hwf hB0 eL en2 eT hT em eq eS eX eK eMM hX hend hop hde hXS hSr hSw hwL hl hbl hL hTl
  go_enter Tryd.func7, Tryd.ntmps7
  go_upto_if 21 with (fail)
  go_cut [0] (fun v wx => v = .slice A0 m c0 ∧ w = wx)
  case first =>
    by_cases h : 10 < n0
    · have e1 : m = 10 := by have := EM.out; omega
      have i1 : (10 : Int) < n0 := by omega
      have i2 : 10 ≤ c0 := by omega
      subst e1
      go_wp2_with fail
      go_meet
      exact ⟨rfl, rfl⟩
    · have e1 : m = n0 := by have := EM.out; omega
      have i1 : ¬ (10 : Int) < n0 := by omega
      subst e1
      go_wp2_with fail
      go_meet
      exact ⟨rfl, rfl⟩
  obtain ⟨rfl, hwx⟩ := hcut
  subst hwx
  go_wp2_with fail
  refine (all_any A0 m c0 L _ HL.out (by omega) hRL).mono ?_
  rw [← EXA.out]
  intro e w1 h1
  obtain ⟨AX, cX, rfl, ownX, hAX, k1, k2, B1⟩ := fresh_get h1 HX.out
  have hTc1 := hTc.below B1
  have k2' : cX ≤ 9223372036854775807 := by unfold maxLen at k2; omega
  clear h1 ownX hTc hRL k2
  go_wp2_with fail
  go_loopw [6, 7] (fun v a wr => ∃ j : Nat, j ≤ K ∧ v = .int .i64 (j : Int) ∧ ∃ p : Nat, a = .int .i64 (p : Int) ∧ Hid (p = 42 * j) ∧ p ≤ M ∧ Below w1.heap.size w1 wr) (fun v _ _ => K - (intOf v).toNat)
  case atStart => exact ⟨0, Nat.zero_le _, rfl, 0, rfl, rfl, Nat.zero_le _, Below.refl _ _⟩
  case round =>
    obtain ⟨j, hj, rfl, p, rfl, EP, hpM, B⟩ := hrel
    by_cases hlt : j < K
    · obtain ⟨r, hr⟩ : ∃ r, S[j]? = some r := ⟨S[j]'(by rw [← EK.out]; exact hlt), List.getElem?_eq_getElem _⟩
      have hop := HOP.out j r hr
      have hde := HDE.out j r hr
      obtain ⟨p2, ep2⟩ : ∃ p : Nat, p = 42 * (j + 1) := ⟨_, rfl⟩
      rw [← EP.out, ← ep2] at hop
      have i1' : p < M := by have := EP.out; have := EMM.out; omega
      have i1 : (p : Int) < (M : Int) := by omega
      have hp2 : p2 ≤ M := by have := EMM.out; omega
      have hpp : p < p2 := by have := EP.out; omega
      have i2 : ¬ (p2 : Int) ≤ p := by omega
      have i3 : ¬ p2 ≤ p := by omega
      have hwj : IntKind.i64.wrap ((j : Int) + 1) = (j : Int) + 1 := IntWalk.i64_in _ (by omega)
      have hAXr := hAX.below B
      have HOp := hide hop
      have HDe := hide hde
      have EP2 := hide ep2
      clear hop hde hr ep2 hAX hTc1
      go_wp2_with fail
      refine (open_any AX (M) cX X _ _ HX.out (by omega) k1 k2' hAXr).mono ?_
      rw [HOp.out]
      intro e w2 h2
      obtain ⟨A2, c2, rfl, hA2, q1, q2, b2⟩ := opened_get h2 (length_encR r)
      have B2 := nxt B b2
      clear h2 B b2 hAXr
      go_wp2_with fail
      refine (decode_any A2 36 c2 (encR r) _ (length_encR r) (by omega) q1 (by unfold maxLen at q2; omega) hA2).mono ?_
      intro e w3 h3
      obtain ⟨rfl, b3⟩ := dec_get h3 HDe.out
      have B3 := nxt (nxt B2 b3) (nxt_alloc (Below.refl w3.heap.size w3) (.cells r.cells 24))
      clear h3 B2 b3 hA2
      go_wp2_with fail
      go_roundw
      case rel => exact ⟨j + 1, by omega, by go_num, p2, rfl, EP2, hp2, B3⟩
      case measure => simp [intOf]; omega
    · have hjK : K = j := by omega
      subst hjK
      have hpM2 : p = M := by rw [EP.out, EMM.out]
      have i0 : ¬ p < M := by omega
      have i0b : ¬ (p : Int) < (M : Int) := by omega
      clear hpM2
      have hTc2 := hTc1.below B
      have hAX2 := hAX.below B
      have BB := nxt B1 B
      obtain ⟨wr2, ewr⟩ : ∃ wr2, wr2 = wr := ⟨_, rfl⟩
      obtain ⟨⟨r, y⟩, hd⟩ : ∃ q, decR T = q := ⟨_, rfl⟩
      have HD := hide hd
      clear hTc1 hAX B B1 hd ewr
      go_wp2_with fail
      refine (cut_any A1 n2 c1 20 _ hl2 hm2 (by omega) (by omega)).mono ?_
      rw [show min n2 (20 : Int).toNat = q from EQ.out.symm]
      rintro e u ⟨rfl, rfl⟩
      go_wp2_with fail
      refine (decode_any A1 q c1 T _ HTL.out (by omega) (by have := EQ.out; omega) hm2 hTc2).mono ?_
      intro e w3 h3
      obtain ⟨rfl, b3⟩ := dec_get h3 HD.out
      have b4 := nxt b3 (nxt_alloc (Below.refl w3.heap.size w3) (.cells r.cells 24))
      obtain ⟨w4, ew4⟩ : ∃ w4, w4 = w3.alloc (.cells r.cells 24) := ⟨_, rfl⟩
      rw [← ew4] at b4
      have hTc4 := hTc2.below b4
      have hAX4 := hAX2.below b4
      have B4 := nxt BB b4
      change w4 = w3.alloc (.cells #[.int .i64 r.kind, .int .i64 r.id, .int .i64 r.inst, .int .i64 r.side, .int .i64 r.price, .int .i64 r.qty, .int .i64 r.left, .int .i64 r.why] 24) at ew4
      go_upto_region 13 with (fail)
      rw [← ew4]
      clear ew4 h3 b3 b4 hTc2 hAX2 BB
      go_wp2_with fail
      refine (cut_any A1 n2 c1 20 _ hl2 hm2 (by omega) (by omega)).mono ?_
      rw [show min n2 (20 : Int).toNat = q from EQ.out.symm]
      rintro e u ⟨rfl, rfl⟩
      go_wp2_with fail
      refine (frame_ok A1 q c1 T _ HTL.out (by omega) hTc4).mono ?_
      have hfl : (frameL T).length = q + 6 := by rw [length_frameL, HTL.out]
      obtain ⟨G, eG⟩ : ∃ G, G = frameL T := ⟨_, rfl⟩
      rw [← eG] at hfl ⊢
      have HFL := hide hfl
      have EG := hide eG
      clear eG
      intro e w5 h5
      obtain ⟨AF, cF, rfl, -, hF, -, -, b5⟩ := h5.get HFL.out
      have hAX5 := hAX4.below b5
      have B5 := nxt B4 b5
      clear h5 hTc4 hAX4 B4 b5 hfl
      go_wp2_with (first
        | (fail_if_success (have := p6)
           at_builtin
           refine wpList_app elU8 (World.ownsRow_lit (base := w5.heap.size) w5 #[] 0 (Nat.le_refl _) (Nat.zero_le _) rfl) (news := u8s X) rfl _ _ rfl rfl rfl (by rw [length_u8s]; exact HX.out) (hAX5.alloc _) (u8s_one X) (by omega) (by simp) (M) (u8s X) (by omega) (by simp) ?_
           intro A6 c6 w6 p6
           have b6 := p6.below _ _ (Nat.le_refl _) (nxt_alloc (Below.refl w5.heap.size w5) _)
           have hF6 := hF.below b6)
        | (fail_if_success (have := p7)
           at_builtin
           refine wpList_app elU8 p6.own (news := u8s G) rfl _ _ rfl rfl rfl (by rw [length_u8s]; exact HFL.out) hF6 (u8s_one G) (by omega) b6.size (M + (q + 6)) _ rfl rfl ?_
           intro A7 c7 w7 p7
           have b7 := p7.below _ _ (Nat.le_refl _) b6
           have hAX7 := hAX5.below b7)
        | (fail_if_success (have := p8)
           at_builtin
           refine wpList_app elU8 p7.own (news := u8s X) rfl _ _ rfl rfl rfl (by rw [length_u8s]; exact HX.out) hAX7 (u8s_one X) (by omega) b7.size (M + (q + 6) + M) _ rfl rfl ?_
           intro A8 c8 w8 p8
           have b8 := p8.below _ _ (Nat.le_refl _) b7))
      have hq8 := own_shape_le p8.own
      have hc8 : c8 ≤ 9223372036854775807 := by
        obtain ⟨A', c', hv', _, hm'⟩ := own_shape p8.own
        injection hv' with _ _ hcc
        subst hcc
        exact hm'
      have hcells : Cells w8 A8 (u8s (X ++ (G ++ X))) := by
        have := Cells.of_own p8.own
        rw [show u8s (X ++ (G ++ X)) = u8s X ++ u8s G ++ u8s X by simp [u8s]]
        exact this
      have hlen8 : (X ++ (G ++ X)).length = M + (q + 6) + M := by rw [List.length_append, List.length_append, HX.out, HFL.out]; omega
      have B8 := nxt B5 b8
      have HLEN8 := hide hlen8
      obtain ⟨N8, eN8⟩ : ∃ N, N = M + (q + 6) + M := ⟨_, rfl⟩
      rw [← eN8] at hq8 HLEN8 ⊢
      have hN8 : N8 ≤ 1000 := by omega
      clear p6 p7 p8 b6 b7 b8 hF6 hAX7 hF hAX5 B5 hlen8 eN8
      go_wp2_with fail
      refine (read_any A8 N8 c8 _ _ HLEN8.out (by omega) hq8 hc8 hcells).mono ?_
      obtain ⟨Z, eZ⟩ : ∃ Z, Z = readL (X ++ (G ++ X)) 0 := ⟨_, rfl⟩
      rw [← eZ]
      intro e w9 h9
      obtain ⟨A9, c9, rfl, -, -, b9⟩ := reads_get (N := Z.rows.length) h9 rfl
      have B9 := nxt B8 b9
      by_cases hy : y = 0
      · subst hy
        clear hcells B8 b9 h9 eZ
        go_wp2_with fail
        refine (known7_any _ (hide (HT.out.below B9))).mono ?_
        rintro e w10 ⟨rfl, b10⟩
        go_wp2_with fail
        go_ret
        exact ⟨rfl, nxt B9 b10⟩
      · have hZ : Z = ⟨S, 12⟩ := by rw [eZ, EG.out]; exact HEND.out r y HD.out hy
        have i4 : ((y : Int) == 0) = false := by simp; omega
        have hZr : Z.rows.length = K := by rw [hZ]; exact EK.out.symm
        have hZw : Z.why = 12 := by rw [hZ]
        clear hcells B8 b9 h9 eZ hZ hy
        rw [hZr, hZw]
        clear hZr hZw
        go_wp2_with fail
        refine (known7_any _ (hide (HT.out.below B9))).mono ?_
        rintro e w10 ⟨rfl, b10⟩
        go_wp2_with fail
        go_ret
        exact ⟨rfl, nxt B9 b10⟩
end Go.Proofs.YtbfjdhbgpjenbaaDoor
