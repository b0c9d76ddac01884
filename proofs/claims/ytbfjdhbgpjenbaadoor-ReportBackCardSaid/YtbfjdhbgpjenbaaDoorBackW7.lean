/-
  The walk of ReportBack.
-/
import Derived.Test.YtbfjdhbgpjenbaaDoorTellsW7
import Derived.Test.YtbfjdhbgpjenbaaDoorRepS
import Derived.Test.YtbfjdhbgpjenbaaDoorTree
namespace Go.Proofs.YtbfjdhbgpjenbaaDoor
set_option linter.unusedSimpArgs false
open Go.RowKit
set_option linter.unusedVariables false

theorem someL_snoc {l : List Rep} {k : Nat} {r : Rep} (h : l[k]? = some r) : someL (l.take (k + 1)) = someL (l.take k) ++ (if rightP r then [r] else []) := by
  rw [take_succ_of h]
  simp only [someL, List.filter_append]
  congr 1
  by_cases hr : rightP r <;> simp [hr]
theorem rep_ne' {s r : Rep} (h : s ≠ r) : (s.kind ≠ r.kind) ∨ (s.kind = r.kind ∧ s.id ≠ r.id) ∨ (s.kind = r.kind ∧ s.id = r.id ∧ s.inst ≠ r.inst) ∨ (s.kind = r.kind ∧ s.id = r.id ∧ s.inst = r.inst ∧ s.side ≠ r.side) ∨ (s.kind = r.kind ∧ s.id = r.id ∧ s.inst = r.inst ∧ s.side = r.side ∧ s.price ≠ r.price) ∨ (s.kind = r.kind ∧ s.id = r.id ∧ s.inst = r.inst ∧ s.side = r.side ∧ s.price = r.price ∧ s.qty ≠ r.qty) ∨ (s.kind = r.kind ∧ s.id = r.id ∧ s.inst = r.inst ∧ s.side = r.side ∧ s.price = r.price ∧ s.qty = r.qty ∧ s.left ≠ r.left) ∨ (s.kind = r.kind ∧ s.id = r.id ∧ s.inst = r.inst ∧ s.side = r.side ∧ s.price = r.price ∧ s.qty = r.qty ∧ s.left = r.left ∧ s.why ≠ r.why) := by
  obtain ⟨x0, x1, x2, x3, x4, x5, x6, x7⟩ := s
  obtain ⟨y0, y1, y2, y3, y4, y5, y6, y7⟩ := r
  exact rep_ne h
set_option maxHeartbeats 1600000 in
theorem eqR_run (s r : Rep) : ∀ w, (binOp .eql 24 (.agg #[.int .i64 s.kind, .int .i64 s.id, .int .i64 s.inst, .int .i64 s.side, .int .i64 s.price, .int .i64 s.qty, .int .i64 s.left, .int .i64 s.why]) (.agg #[.int .i64 r.kind, .int .i64 r.id, .int .i64 r.inst, .int .i64 r.side, .int .i64 r.price, .int .i64 r.qty, .int .i64 r.left, .int .i64 r.why])).run Tryd.prog w = .ok (.bool (decide (s = r))) w := by
  intro w
  by_cases h : s = r
  · subst h
    rw [decide_eq_true rfl]
    go_simp
  · rw [decide_eq_false h]
    rcases rep_ne' h with hd | ⟨e0, hd⟩ | ⟨e0, e1, hd⟩ | ⟨e0, e1, e2, hd⟩ | ⟨e0, e1, e2, e3, hd⟩ | ⟨e0, e1, e2, e3, e4, hd⟩ | ⟨e0, e1, e2, e3, e4, e5, hd⟩ | ⟨e0, e1, e2, e3, e4, e5, e6, hd⟩
    all_goals
      clear h
      go_simp
theorem str_ne {a b : List UInt8} (h : a ≠ b) : ((str a).toList == (str b).toList) = false := by rw [str_toList, str_toList]; simpa using h
set_option maxRecDepth 100000 in
set_option maxHeartbeats 3200000 in
theorem reportBack_walk (A0 : Option Addr) (n0 c0 : Nat) (a1 : Int) (w : World) (hT : PowTab w) (h0 : Reports w A0 n0 c0) (_w1 : (Lit.int .i64 a1).wf = true) :
    Calls Tryd.prog 6 #[.slice A0 n0 c0, .int .i64 a1] w fun e w' => e = .returned (.bool true) ∧ Below w.heap.size w w' := by
  obtain ⟨l, hl, hR, hwf⟩ := h0.row
  have hn0 : n0 ≤ 9223372036854775807 := by have := h0.le; have := h0.max; unfold maxLen at this; omega
  have hn0c := h0.le
  have hc0 : c0 ≤ 9223372036854775807 := h0.max
  obtain ⟨m, em⟩ : ∃ m, m = min n0 15 := ⟨_, rfl⟩
  obtain ⟨L, eL⟩ : ∃ L, L = l.take m := ⟨_, rfl⟩
  have hL : L.length = m := by rw [eL, List.length_take, hl]; omega
  have hRL : Cells w A0 (repsV L) := by rw [eL]; exact hR.takeR m
  have hwL : wfAll L := by rw [eL]; exact hwf.take m
  have hm15 : m ≤ 15 := by omega
  obtain ⟨X, eX⟩ : ∃ X, X = allL L := ⟨_, rfl⟩
  obtain ⟨N, eN⟩ : ∃ N, X.length = N := ⟨_, rfl⟩
  have hN : N ≤ 630 := by have := length_allL L; rw [← eX, eN, hL] at this; omega
  have HT := hide hT
  have EM := hide em; have HL := hide hL; have HWL := hide hwL; have EX := hide eX; have EN := hide eN
  clear h0 hR hwf eL hT em hl hL hwL eX eN _w1
  go_enter Tryd.func6, Tryd.ntmps6
  go_upto_if 22 with (fail)
  go_cut [0] (fun v wx => v = .slice A0 m c0 ∧ w = wx)
  case first =>
    by_cases h : 15 < n0
    · have e1 : m = 15 := by have := EM.out; omega
      have i1 : (15 : Int) < n0 := by omega
      have i2 : 15 ≤ c0 := by omega
      subst e1
      go_wp2_with fail
      go_meet
      exact ⟨rfl, rfl⟩
    · have e1 : m = n0 := by have := EM.out; omega
      have i1 : ¬ (15 : Int) < n0 := by omega
      subst e1
      go_wp2_with fail
      go_meet
      exact ⟨rfl, rfl⟩
  obtain ⟨rfl, hwx⟩ := hcut
  subst hwx
  go_wp2_with fail
  go_loopw [5, 6] (fun v i wr => ∃ (k K : Nat) (A' : Option Addr) (c' : Nat), k ≤ m ∧ i = .int .i64 (k : Int) ∧ v = .slice A' K c' ∧ K ≤ k ∧ Hid (K = (someL (L.take k)).length) ∧
    Hid (wr.ownsRow w.heap.size 24 8 (.slice A' K c') K (repsV (someL (L.take k)))) ∧ Below w.heap.size w wr) (fun _ i _ => m - (intOf i).toNat)
  case atStart => exact ⟨0, 0, none, 0, Nat.zero_le _, rfl, rfl, Nat.zero_le _, rfl, World.ownsRow_nil _ _ _ _, Below.refl _ _⟩
  case round =>
    obtain ⟨k, K, A', c', hk, rfl, rfl, hKk, HK, HO, B⟩ := hrel
    obtain ⟨wo, rfl⟩ : ∃ wo, wo = wr := ⟨_, rfl⟩
    by_cases hlt : k < m
    · obtain ⟨r, hr⟩ : ∃ r, L[k]? = some r := ⟨L[k]'(by rw [HL.out]; exact hlt), List.getElem?_eq_getElem _⟩
      have hrw : r.wf := HWL.out r (mem_of_some hr)
      obtain ⟨b, o, rfl, hb, q0, q1, q2, q3, q4, q5, q6, q7⟩ := reps_at hRL hr
      have hb1 : b < wo.heap.size := Nat.lt_of_lt_of_le hb B.size
      replace q0 := (B.cell (p := ⟨b, _, none⟩) hb).trans q0
      replace q1 := (B.cell (p := ⟨b, _, none⟩) hb).trans q1
      replace q2 := (B.cell (p := ⟨b, _, none⟩) hb).trans q2
      replace q3 := (B.cell (p := ⟨b, _, none⟩) hb).trans q3
      replace q4 := (B.cell (p := ⟨b, _, none⟩) hb).trans q4
      replace q5 := (B.cell (p := ⟨b, _, none⟩) hb).trans q5
      replace q6 := (B.cell (p := ⟨b, _, none⟩) hb).trans q6
      replace q7 := (B.cell (p := ⟨b, _, none⟩) hb).trans q7
      have i1 : (k : Int) < m := by omega
      have hwk : IntKind.i64.wrap ((k : Int) + 1) = (k : Int) + 1 := IntWalk.i64_in _ (by omega)
      have hsn := someL_snoc hr
      have hmem : ∀ s ∈ someL (L.take k), rightP s ∧ s.wf := fun s hs => ⟨someL_right _ s hs, HWL.out s (List.mem_of_mem_take (someL_mem hs))⟩
      have HSN := hide hsn; have HMEM := hide hmem; have HW := hide hrw
      clear hr hRL hsn hmem hrw
      go_wp2_with fail
      refine (encode_any r _).mono ?_
      intro e w1 h1
      by_cases hri : rightP r
      rotate_left
      · obtain ⟨hE, hY⟩ := encO_wrong hri
        rw [hE, hY] at h1
        replace HSN := hide (HSN.out.trans (by rw [if_neg hri, List.append_nil]))
        obtain ⟨A1, c1, rfl, -, -, -, -, b1⟩ := h1.get (n := 0) rfl
        have HO2 := hide (own_below HO.out b1)
        have B2 := nxt B b1
        clear HO B b1 hri hE hY q0 q1 q2 q3 q4 q5 q6 q7 h1
        go_wp2_with fail
        go_roundw
        case rel => exact ⟨k + 1, K, A', c', by omega, by go_num, rfl, by omega, by rw [HSN.out]; exact HK, by rw [HSN.out]; exact HO2, B2⟩
        case measure => simp [intOf]; omega
      obtain ⟨hE, hY⟩ := encO_right hri
      rw [hE, hY] at h1
      replace HSN := hide (HSN.out.trans (by rw [if_pos hri]))
      obtain ⟨A1, c1, rfl, -, hA1, k1, k2, b1⟩ := h1.get (length_encR r)
      have k2' : c1 ≤ 9223372036854775807 := by unfold maxLen at k2; omega
      have HDE := hide (dec_enc hri HW.out)
      have HRI := hide hri
      have HO2 := hide (own_below HO.out b1)
      have B2 := nxt B b1
      replace q0 := (b1.cell (p := ⟨b, _, none⟩) hb1).trans q0
      replace q1 := (b1.cell (p := ⟨b, _, none⟩) hb1).trans q1
      replace q2 := (b1.cell (p := ⟨b, _, none⟩) hb1).trans q2
      replace q3 := (b1.cell (p := ⟨b, _, none⟩) hb1).trans q3
      replace q4 := (b1.cell (p := ⟨b, _, none⟩) hb1).trans q4
      replace q5 := (b1.cell (p := ⟨b, _, none⟩) hb1).trans q5
      replace q6 := (b1.cell (p := ⟨b, _, none⟩) hb1).trans q6
      replace q7 := (b1.cell (p := ⟨b, _, none⟩) hb1).trans q7
      have hb2 : b < w1.heap.size := Nat.lt_of_lt_of_le hb1 b1.size
      clear HO B b1 hri hE hY h1 k2 hb1
      go_wp2_with fail
      refine (decode_any A1 36 c1 (encR r) _ (length_encR r) (by omega) k1 k2' hA1).mono ?_
      intro e w2 h2
      obtain ⟨rfl, b2⟩ := dec_get h2 HDE.out
      obtain ⟨wg, ewg⟩ : ∃ wg, wg = w2.alloc (.cells r.cells 24) := ⟨_, rfl⟩
      obtain ⟨g, eg⟩ : ∃ g, g = w2.heap.size := ⟨_, rfl⟩
      have F5 : RpAt wg g r := by rw [ewg, eg]; exact RpAt.new _ _
      have b3 : Below w1.heap.size w1 wg := by rw [ewg]; exact nxt_alloc b2 _
      have hA3 := hA1.below b3
      have HO3 := hide (own_below HO2.out b3)
      have B3 := nxt B2 b3
      replace q0 := (b3.cell (p := ⟨b, _, none⟩) hb2).trans q0
      replace q1 := (b3.cell (p := ⟨b, _, none⟩) hb2).trans q1
      replace q2 := (b3.cell (p := ⟨b, _, none⟩) hb2).trans q2
      replace q3 := (b3.cell (p := ⟨b, _, none⟩) hb2).trans q3
      replace q4 := (b3.cell (p := ⟨b, _, none⟩) hb2).trans q4
      replace q5 := (b3.cell (p := ⟨b, _, none⟩) hb2).trans q5
      replace q6 := (b3.cell (p := ⟨b, _, none⟩) hb2).trans q6
      replace q7 := (b3.cell (p := ⟨b, _, none⟩) hb2).trans q7
      change wg = w2.alloc (.cells #[.int .i64 r.kind, .int .i64 r.id, .int .i64 r.inst, .int .i64 r.side, .int .i64 r.price, .int .i64 r.qty, .int .i64 r.left, .int .i64 r.why] 24) at ewg
      go_upto_region 10 with (fail)
      rw [← ewg, ← eg]
      clear ewg eg h2 b2 b3 HO2 B2 hb2 hA1
      obtain ⟨f0, f1, f2, f3, f4, f5, f6, f7⟩ := F5.reads'
      go_quiet (fail)
      go_upto_block 2 with (fail)
      obtain ⟨wq, ewq⟩ : ∃ wq, wq = wg.drewN nq := ⟨_, rfl⟩
      rw [← ewq]
      have F6 : RpAt wq g r := by rw [ewq]; exact F5
      have hA4 : Cells wq A1 (u8s (encR r)) := by rw [ewq]; exact hA3
      have HO4 : Hid (wq.ownsRow w.heap.size 24 8 (.slice A' K c') K (repsV (someL (L.take k)))) := hide (by rw [ewq]; exact HO3.out)
      have B4 : Below w.heap.size w wq := by rw [ewq]; exact below_drewN B3 nq
      obtain ⟨S, eS⟩ : ∃ S, S = someL (L.take k) := ⟨_, rfl⟩
      rw [← eS] at HO4 HK HSN HMEM
      clear ewq F5 hA3 HO3 B3 f0 f1 f2 f3 f4 f5 f6 f7 q0 q1 q2 q3 q4 q5 q6 q7 eS
      go_wp2_with fail
      go_loopw [11] (fun v wi => ∃ j : Nat, j ≤ K ∧ v = .int .i64 (j : Int) ∧ Below wq.heap.size wq wi) (fun v _ => K - (intOf v).toNat)
      case atStart => exact ⟨0, Nat.zero_le _, rfl, Below.refl _ _⟩
      case round =>
        obtain ⟨j, hj, rfl, B5⟩ := hrel
        by_cases hjl : j < K
        · obtain ⟨s, hs⟩ : ∃ s, S[j]? = some s := ⟨S[j]'(by rw [← HK.out]; exact hjl), List.getElem?_eq_getElem _⟩
          obtain ⟨hsr, hsw⟩ := HMEM.out s (mem_of_some hs)
          have hcO := (CellsS.of_own HO4.out).below B5
          obtain ⟨b2, o2, rfl, hb2, p0, p1, p2, p3, p4, p5, p6, p7⟩ := reps_at hcO hs
          have i2 : (j : Int) < K := by omega
          have hwj : IntKind.i64.wrap ((j : Int) + 1) = (j : Int) + 1 := IntWalk.i64_in _ (by omega)
          have F7 := F6.below B5
          have hA5 := hA4.below B5
          have HSW := hide hsw
          have HSR := hide hsr
          clear hcO hs hsw hsr
          go_wp2_with fail
          refine (encode_any s _).mono ?_
          intro e w5 h5
          obtain ⟨hE, hY⟩ := encO_right HSR.out
          rw [hE, hY] at h5
          obtain ⟨A6, c6, rfl, -, hA6, -, -, b6⟩ := h5.get (length_encR s)
          have B7 := nxt B5 b6
          have F8 := F7.below b6
          have hA7 := hA5.below b6
          have hb3 : b2 < w5.heap.size := Nat.lt_of_lt_of_le hb2 b6.size
          have x0 := later hb3 ((b6.cell (p := ⟨b2, _, none⟩) hb2).trans p0)
          have x1 := later hb3 ((b6.cell (p := ⟨b2, _, none⟩) hb2).trans p1)
          have x2 := later hb3 ((b6.cell (p := ⟨b2, _, none⟩) hb2).trans p2)
          have x3 := later hb3 ((b6.cell (p := ⟨b2, _, none⟩) hb2).trans p3)
          have x4 := later hb3 ((b6.cell (p := ⟨b2, _, none⟩) hb2).trans p4)
          have x5 := later hb3 ((b6.cell (p := ⟨b2, _, none⟩) hb2).trans p5)
          have x6 := later hb3 ((b6.cell (p := ⟨b2, _, none⟩) hb2).trans p6)
          have x7 := later hb3 ((b6.cell (p := ⟨b2, _, none⟩) hb2).trans p7)
          have y0 := later F8.lt (F8.cell 0); have y1 := later F8.lt (F8.cell 1); have y2 := later F8.lt (F8.cell 2); have y3 := later F8.lt (F8.cell 3); have y4 := later F8.lt (F8.cell 4); have y5 := later F8.lt (F8.cell 5); have y6 := later F8.lt (F8.cell 6); have y7 := later F8.lt (F8.cell 7)
          change ∀ u, Stays w5.drew u → u.cell? ⟨g, 0, none⟩ = some (.int .i64 r.kind) at y0
          change ∀ u, Stays w5.drew u → u.cell? ⟨g, 1, none⟩ = some (.int .i64 r.id) at y1
          change ∀ u, Stays w5.drew u → u.cell? ⟨g, 2, none⟩ = some (.int .i64 r.inst) at y2
          change ∀ u, Stays w5.drew u → u.cell? ⟨g, 3, none⟩ = some (.int .i64 r.side) at y3
          change ∀ u, Stays w5.drew u → u.cell? ⟨g, 4, none⟩ = some (.int .i64 r.price) at y4
          change ∀ u, Stays w5.drew u → u.cell? ⟨g, 5, none⟩ = some (.int .i64 r.qty) at y5
          change ∀ u, Stays w5.drew u → u.cell? ⟨g, 6, none⟩ = some (.int .i64 r.left) at y6
          change ∀ u, Stays w5.drew u → u.cell? ⟨g, 7, none⟩ = some (.int .i64 r.why) at y7
          have ks1 := Cells.strs (P := Tryd.prog) Tryd.underlying32 Tryd.underlying5 Tryd.underlying9 (length_encR r) hA7.drew c1
          have ks2 := Cells.strs (P := Tryd.prog) Tryd.underlying32 Tryd.underlying5 Tryd.underlying9 (length_encR s) hA6.drew c6
          clear h5 b6 hA5 hA6 hA7 F7 F8 hb2 hb3 p0 p1 p2 p3 p4 p5 p6 p7 hE hY B5
          obtain ⟨D, eD⟩ : ∃ D, D = decide (s = r) := ⟨_, rfl⟩
          have hEq := eqR_run s r
          rw [← eD] at hEq
          have z1 : ((str (encR r)).toList == (str (encR s)).toList) = D := by
            rw [eD]
            by_cases hsr : s = r
            · subst hsr; simp
            · rw [decide_eq_false hsr]; exact str_ne fun h => hsr (enc_inj HSR.out HRI.out HSW.out HW.out h.symm)
          have z2 : ((str (textR r)).toList == (str (textR s)).toList) = D := by
            rw [eD]
            by_cases hsr : s = r
            · subst hsr; simp
            · rw [decide_eq_false hsr]; exact str_ne fun h => hsr (text_inj HSR.out HRI.out h.symm)
          clear eD
          go_wp2_with fail
          refine wp_region_grow (R := Stays) 99999 [14, 19] [0, 1, 2, 3, 4, 5, 6, 7, 8, 9, 10, 11, 12, 13, 15, 16, 17, 18, 21, 22, 23, 24, 25, 26, 14, 19, 20, 27, 28] (by kernel_rfl) Stays.tr Stays.rf (by kernel_rfl) (fun _ _ _ _ _ h => h) ?_
          (repeat ((first | (refine grow_skip (by rfl) (by rfl) ?_ (by first | exact Stays.rf _ | exact Lower.rf _ _ | exact Holds.rf _ _)) | (refine grow_take (v := ?_) (by rfl) (by rfl) (by rfl) ?_ ?_; rotate_left 1; focus (intro w' hSw; go_simp; (try (with_reducible rfl)); done))); (try simp only [Act.put, List.setIfInBounds_toArray, List.set_cons_zero, List.set_cons_succ])))
          
          
          clear y0 y1 y2 y3 y4 y5 y6 y7 x0 x1 x2 x3 x4 x5 x6 x7 ks1 ks2
          refine grow_move (by rfl) (by rfl) (by rfl) (fun K hK => ?_); go_simp
          refine (text_any r _ HW.out (HT.out.below (nxt_drew (nxt B4 B7)))).mono ?_
          rintro e u1 ⟨rfl, d1⟩
          refine hK.out _ _ (d1) ?_; clear hK K; (try simp only [Act.put, List.setIfInBounds_toArray, List.set_cons_zero, List.set_cons_succ])
          have U1 := nxt (nxt_drew B7) d1
          clear d1
          (repeat ((first | (refine grow_skip (by rfl) (by rfl) ?_ (by first | exact Stays.rf _ | exact Lower.rf _ _ | exact Holds.rf _ _)) | (refine grow_take (v := ?_) (by rfl) (by rfl) (by rfl) ?_ ?_; rotate_left 1; focus (intro w' hSw; go_simp; (try (with_reducible rfl)); done))); (try simp only [Act.put, List.setIfInBounds_toArray, List.set_cons_zero, List.set_cons_succ])))
          refine grow_move (by rfl) (by rfl) (by rfl) (fun K hK => ?_); go_simp
          refine (text_any s _ HSW.out (HT.out.below (nxt B4 U1))).mono ?_
          rintro e u2 ⟨rfl, d2⟩
          refine hK.out _ _ (d2) ?_; clear hK K; (try simp only [Act.put, List.setIfInBounds_toArray, List.set_cons_zero, List.set_cons_succ])
          have U2 := nxt U1 d2
          clear d2 U1
          (repeat ((first | (refine grow_skip (by rfl) (by rfl) ?_ (by first | exact Stays.rf _ | exact Lower.rf _ _ | exact Holds.rf _ _)) | (refine grow_take (v := ?_) (by rfl) (by rfl) (by rfl) ?_ ?_; rotate_left 1; focus (intro w' hSw; go_simp; (try (with_reducible rfl)); done))); (try simp only [Act.put, List.setIfInBounds_toArray, List.set_cons_zero, List.set_cons_succ])))
          refine grow_done ?_
          go_wp2_with fail
          go_roundw
          case rel => exact ⟨j + 1, by omega, by go_num, U2⟩
          case measure => simp [intOf]; omega
        · have i2 : ¬ (j : Int) < K := by omega
          have B6 := nxt B4 B5
          have own4 := own_below HO4.out B5
          have F7 := F6.below B5
          obtain ⟨f0, f1, f2, f3, f4, f5, f6, f7⟩ := F7.reads'
          clear HO4 hA4 F6 B4 B5
          go_wp2_with (at_builtin
                       refine wpList_pushS elRp own4 r.cells rfl _ _ rfl rfl rfl rfl (by intro u hu; exact reps_one [r] u (by simpa [repsV] using hu)) (by omega) B6.size ?_
                       intro A9 c9 w9 own9 g9 b9 l9
                       have B9 := b9 _ _ (Nat.le_refl _) B6)
          have HOB : Hid (w9.ownsRow w.heap.size 24 8 (.slice A9 (K + 1) c9) (K + 1) (repsV (someL (L.take (k + 1))))) := by
            have := own9
            rw [HSN.out, repsV_append]
            simpa [repsV, Hid] using this
          have HK2 : Hid (K + 1 = (someL (L.take (k + 1))).length) := hide (by rw [HSN.out, List.length_append, ← HK.out]; rfl)
          clear f0 f1 f2 f3 f4 f5 f6 f7 own4 own9 g9 b9 l9 B6 F7
          go_wp2_with fail
          go_roundw
          case rel => exact ⟨k + 1, K + 1, A9, c9, by omega, by go_num, rfl, by omega, HK2, HOB, B9⟩
          case measure => simp [intOf]; omega
    · have i1 : ¬ (k : Int) < m := by omega
      have hkm : k = m := by omega
      have ht : L.take k = L := List.take_of_length_le (by rw [HL.out]; omega)
      rw [ht] at HO HK
      obtain ⟨S, eS⟩ : ∃ S, S = someL L := ⟨_, rfl⟩
      rw [← eS] at HO HK
      have hra : readL X 0 = ⟨S, 0⟩ := by rw [EX.out, eS]; exact read_all HWL.out
      have hrc : ∀ q, ∃ j e, readL (X.take q) 0 = ⟨S.take j, e⟩ ∧ (e = 0 ∨ e = 10) ∧ j ≤ S.length := fun q => by rw [EX.out, eS]; exact read_cut L q 0 HWL.out
      have hRL1 := hRL.below B
      have HRA := hide hra; have HRC := hide hrc
      clear hRL ht hkm hra hrc eS
      go_wp2_with fail
      refine (all_any A0 m c0 L _ HL.out (by omega) hRL1).mono ?_
      rw [← EX.out]
      intro e w1 h1
      obtain ⟨A3, c3, rfl, -, hA3, k1, k2, b1⟩ := fresh_get h1 EN.out
      have k2' : c3 ≤ 9223372036854775807 := by unfold maxLen at k2; omega
      have HO1 := hide (own_below HO.out b1)
      have B1 := nxt B b1
      clear h1 hRL1 HO B b1 k2
      go_wp2_with fail
      refine (read_any A3 N c3 X _ EN.out (by omega) k1 k2' hA3).mono ?_
      rw [HRA.out]
      intro e w2 h2
      obtain ⟨A5, c5, rfl, -, hR5, b2⟩ := reads_get (z := ⟨S, 0⟩) h2 HK.out.symm
      have HO2 := hide (own_below HO1.out b2)
      have hA3' := hA3.below b2
      have B2 := nxt B1 b2
      clear h2 hA3 HO1 B1 b2
      go_wp2_with fail
      refine (within_any a1 0 _ _ (by omega) (by omega) (by omega)).mono ?_
      have hwb := within_bd a1 0 (N : Int) (by omega)
      obtain ⟨q, hq⟩ : ∃ q : Nat, within a1 0 (N : Int) = q := ⟨(within a1 0 (N : Int)).toNat, by omega⟩
      rw [hq] at hwb ⊢
      rintro e u ⟨rfl, rfl⟩
      obtain ⟨j, e2, hj, he2, hjS⟩ := HRC.out q
      have hqN : q ≤ N := by omega
      have hqc : q ≤ c3 := by omega
      have hql : (X.take q).length = q := by rw [List.length_take, EN.out]; omega
      have hAq := hA3'.takeB q
      have HJ := hide hj
      have HQL := hide hql
      have hjK : j ≤ K := by rw [HK.out]; exact hjS
      clear hq hwb hA3' hj hql hjS
      go_wp2_with fail
      refine (read_any A3 q c3 (X.take q) _ HQL.out (by omega) hqc k2' hAq).mono ?_
      rw [HJ.out]
      intro e w3 h3
      have hSj : (S.take j).length = j := by rw [List.length_take, ← HK.out]; omega
      obtain ⟨A6, c6, rfl, -, hR6, b3⟩ := reads_get (z := ⟨S.take j, e2⟩) h3 hSj
      have hR5' := hR5.below b3
      have own3 := own_below HO2.out b3
      have hcS := CellsS.of_own own3
      have hKc := own_shape_le own3
      have B3 := nxt B2 b3
      have HSJ := hide hSj
      have hcSj := hcS.takeR j
      have hjc : j ≤ c' := by omega
      have i3 : ¬ K < j := by omega
      clear h3 hAq hR5 HO2 B2 b3 own3 hSj
      go_wp2_with fail
      refine (sameR_any A5 A' K K c5 c' S S _ HK.out.symm HK.out.symm (by rw [← HK.out]; omega) (by rw [← HK.out]; omega) hR5' hcS).mono ?_
      rw [decide_eq_true (rfl : S = S)]
      rintro e w4 ⟨rfl, b4⟩
      have hR6' := hR6.below b4
      have hcSj' := hcSj.below b4
      have B4 := nxt B3 b4
      clear hR5' hcS hR6 hcSj B3 b4
      go_wp2_with fail
      refine (sameR_any A6 A' j j c6 c' (S.take j) (S.take j) _ HSJ.out HSJ.out (by rw [HSJ.out]; omega) (by rw [HSJ.out]; omega) hR6' hcSj').mono ?_
      rw [decide_eq_true (rfl : S.take j = S.take j)]
      rintro e w5 ⟨rfl, b5⟩
      have B5 := nxt B4 b5
      clear hR6' hcSj' B4 b5
      rcases he2 with rfl | rfl
      all_goals
        go_wp2_with fail
        refine (known7_any _ (hide (HT.out.below B5))).mono ?_
        rintro e w10 ⟨rfl, b10⟩
        go_wp2_with fail
        go_ret
        exact ⟨rfl, nxt B5 b10⟩
end Go.Proofs.YtbfjdhbgpjenbaaDoor
