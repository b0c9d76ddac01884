/-
  The walk of ProrataTop.
-/
import Derived.Test.YtllandfjdpeooaaProM
import Derived.StillTailTactics
namespace Go.Proofs.Ytllandfjdpeooaa
open Go.RowKit
set_option linter.unusedVariables false

set_option maxRecDepth 100000 in
set_option maxHeartbeats 6400000 in
theorem prorataTop_walk (A0 : Option Addr) (c0 : Nat) (l0 : List Int) (a1 a2 a3 a4 : Int) (w : World) (h0 : ArgI .i64 w A0 c0 l0) (_w1 : (Lit.int .i64 a1).wf = true) (_w2 : (Lit.int .i64 a2).wf = true) (_w3 : (Lit.int .i64 a3).wf = true) (_w4 : (Lit.int .i64 a4).wf = true) :
    Calls Try.prog 8 #[.slice A0 l0.length c0, .int .i64 a1, .int .i64 a2, .int .i64 a3, .int .i64 a4] w fun e w' => e = .returned (.bool true) ∧ Below w.heap.size w w' := by
  have hlen : l0.length ≤ 9223372036854775807 := by have := h0.le; have := h0.max; unfold maxLen at this; omega
  have hA0 := h0.cells
  clear h0
  have hs1 := sizesL_length l0
  have hs2 : ∀ n ∈ sizesL l0, 1 ≤ n ∧ n ≤ 1000000 := sizesL_bd l0
  have hs3 := isum_bd (sizesL l0) (fun n hn => by have := hs2 n hn; omega : ∀ n ∈ sizesL l0, 0 ≤ n ∧ n ≤ 1000000)
  obtain ⟨s, es⟩ : ∃ s, s = sizesL l0 := ⟨_, rfl⟩
  rw [← es] at hs1 hs2 hs3
  have Es := hide es; have HB := hide hs2
  clear es hs2
  go_enter Try.func8, Try.ntmps8
  go_wp2_with fail
  refine (sizes11_any A0 _ c0 l0 _ rfl hlen hA0).mono ?_
  rw [← Es.out]
  rintro e w1 ⟨A, c, rfl, -, hA, -, -, B1⟩
  rcases Nat.eq_zero_or_pos s.length with hz | hz
  · have z1 : ((s.length : Int) == 0) = true := by simp; exact List.eq_nil_of_length_eq_zero hz
    have HZ := hide hz
    clear hz
    go_wp2_with fail
    refine (known11_any _).mono ?_
    rintro e w4 ⟨rfl, hb⟩
    go_wp2
    go_ret
    exact ⟨rfl, nxt B1 hb⟩
  have z1 : ((s.length : Int) == 0) = false := by simp; rintro rfl; simp at hz
  go_wp2_with fail
  refine (sum11_any A _ c s _ rfl (by omega) (fun n hn => by have := HB.out n hn; omega) hA).mono ?_
  rintro e w2 ⟨rfl, rfl⟩
  have hkb := within_bd a3 0 s.sum hs3.1
  go_wp2_with fail
  refine (within_any a3 0 s.sum _ hs3.1 (by omega) (by omega)).mono ?_
  rintro e w2 ⟨rfl, rfl⟩
  obtain ⟨k, ek⟩ : ∃ k, k = within a3 0 s.sum := ⟨_, rfl⟩
  rw [← ek] at hkb ⊢
  clear ek
  have hn := within_bd a4 0 9 (by omega)
  go_wp2_with fail
  refine (within_any a4 0 9 _ (by omega) (by omega) (by omega)).mono ?_
  rintro e w2 ⟨rfl, rfl⟩
  obtain ⟨nn, en⟩ : ∃ nn, nn = 1 + within a4 0 9 := ⟨_, rfl⟩
  have hnn : 1 ≤ nn ∧ nn ≤ 10 := by omega
  have een : 1 + within a4 0 9 = nn := en.symm
  have EN0 := hide een
  clear en hn een
  go_wp2_with fail
  rw [EN0.out, show wrap64 nn = nn by unfold wrap64; omega]
  have ht := within_bd a1 0 ((s.length : Int) - 1) (by omega)
  refine (within_any a1 0 ((s.length : Int) - 1) _ (by omega) (by omega) (by omega)).mono ?_
  rintro e w4 ⟨rfl, rfl⟩
  obtain ⟨t, et⟩ : ∃ t : Nat, (t : Int) = within a1 0 ((s.length : Int) - 1) := ⟨(within a1 0 ((s.length : Int) - 1)).toNat, by omega⟩
  rw [← et] at ht ⊢
  clear et
  have hmb := within_bd a2 0 50 (by omega)
  go_wp2_with fail
  refine (within_any a2 0 50 _ (by omega) (by omega) (by omega)).mono ?_
  rintro e w4 ⟨rfl, rfl⟩
  obtain ⟨m, em⟩ : ∃ m, m = within a2 0 50 := ⟨_, rfl⟩
  rw [← em] at hmb ⊢
  clear em
  have hr : rightB s k = true := (rightB_iff s k).2 ⟨by omega, hkb.1, HB.out, hkb.2⟩
  have htl : t < s.length := by omega
  obtain ⟨k0, kq, kb, bd, sub, sum⟩ := top_ok (top := (t : Int)) HB.out hkb.1 hmb.1
  have hfl := length_firstTop s t m k
  obtain ⟨b1, o1, x, rfl, hb1, hcx, hx⟩ := hA.int_at (k := t) htl
  have hk : topK s t m k = min x (min m k) := by
    rw [topK, if_pos (by omega)]; simp [List.getD, hx.out]
  have hf : firstTop s t m k = (List.replicate s.length 0).set t (topK s t m k) := by rw [firstTop, if_pos (by omega)]; simp
  have hsp : shareP s t m nn k = addL (firstTop s t m k) (byL (subL s (firstTop s t m k)) nn (k - topK s t m k)) := by rw [shareP, if_pos ⟨hr, hnn.1, hmb.1⟩]
  obtain ⟨F, hF⟩ : ∃ F, F = firstTop s t m k := ⟨_, rfl⟩
  obtain ⟨K, hK⟩ : ∃ K, K = topK s t m k := ⟨_, rfl⟩
  rw [← hF] at bd sub sum hfl hf hsp
  rw [← hK] at k0 kq kb sum hk hf hsp
  have hqa : k - K ≤ (subL s F).sum := by rw [sum]; omega
  have hlp := lacks_pos' s F hfl.symm
  have hls : (lacks s F).sum = (subL s F).sum := by rw [hlp, posL_sum _ (fun m hm => (sub m hm).1)]
  have hll := lacks_le s F
  have hlb := lacks_pos s F (fun m hm => (HB.out m hm).2) (fun m hm => (bd m hm).1)
  have hrl : rightB (lacks s F) (k - K) = true := (rightB_iff _ _).2 ⟨by omega, by omega, hlb, by rw [hls]; exact hqa⟩
  have hres := rest_plain (least := nn) hfl.symm (fun m hm => (sub m hm).1) (by omega) hqa hnn.1
  rw [← hsp] at hres
  have hbl := length_byL (lacks s F) nn (k - K)
  have hbb : ∀ x ∈ byL (lacks s F) nn (k - K), 0 ≤ x ∧ x ≤ 1000000 := byL_bd (by omega) (fun m hm => by have := hlb m hm; omega) (by omega) (by rw [hls]; exact hqa) hnn.1
  obtain ⟨bl, ebl⟩ : ∃ bl, bl = byL (lacks s F) nn (k - K) := ⟨_, rfl⟩
  have hatl := lacks_length 0 s F
  have hatp := lackAt_lt 0 s F
  rw [← ebl] at hres hbl hbb
  have hFat : ∀ i, i < s.length → F[i]? = some (if i = t then K else 0) := fun i hi => by
    rw [hf, List.getElem?_set]
    by_cases h : t = i
    · subst h; simp [hi]
    · rw [if_neg h, if_neg (fun h' => h h'.symm)]; simp [hi]
  have hspl : (shareP s t m nn k).length = s.length := by rw [← hres, layOn_length, hfl]
  have L2 := hide hfl; have HA := hide bd; have HRL := hide hrl; have EBL := hide ebl; have HBL := hide hbl; have HBB := hide hbb; have HATL := hide hatl; have HATP := hide hatp; have FAT := hide hFat; have RES := hide hres; have HFS := hide hf; have HKK := hide hk; have SPL := hide hspl
  clear hlp hls hlb hrl hres hbl hbb hatl hatp hfl bd sub sum hqa ebl hf hk hF hK hsp hFat hr hspl
  go_upto_if 47 with (fail)
  go_cut [16] (fun v wx => v = .int .i64 (min m k) ∧ w1 = wx)
  case first =>
    by_cases h : k < m
    · have e : min m k = k := by omega
      go_wp2
      go_meet
      exact ⟨by rw [e], rfl⟩
    · have e : min m k = m := by omega
      go_wp2
      go_meet
      exact ⟨by rw [e], rfl⟩
  obtain ⟨rfl, rfl⟩ := hcut
  obtain ⟨mk, emk⟩ : ∃ mk, mk = min m k := ⟨_, rfl⟩
  have hy2 := HKK.out
  rw [← emk] at hy2 ⊢
  have HY2 := hide hy2
  have i0 : (t : Int) < s.length := by omega
  clear emk hy2 HKK
  go_upto_if 54 with (fail)
  go_cut [16] (fun v wx => v = .int .i64 K ∧ w1 = wx)
  case first =>
    by_cases h : x < mk
    · have e : K = x := by have := HY2.out; omega
      go_wp2
      go_meet
      exact ⟨by rw [e], rfl⟩
    · have e : K = mk := by have := HY2.out; omega
      go_wp2
      go_meet
      exact ⟨by rw [e], rfl⟩
  obtain ⟨rfl, rfl⟩ := hcut
  have hxb := HB.out x (mem_of_some hx.out)
  have hKx : K ≤ x := by have := HY2.out; omega
  clear hcx HY2
  go_wp2_with fail
  go_loopw [17, 18, 19] (fun vl va i wr => ∃ (j N : Nat) (Al Aa cl ca : _), j ≤ s.length ∧ i = .int .i64 j ∧ vl = .slice Al N cl ∧ va = .slice Aa N ca ∧ Hid (N = (lacks (s.take j) (F.take j)).length) ∧ wr.ownsRow w1.heap.size 2 1 (.slice Al N cl) N (i64s (lacks (s.take j) (F.take j))) ∧
      wr.ownsRow w1.heap.size 3 1 (.slice Aa N ca) N (ats (lackAt 0 (s.take j) (F.take j))) ∧ Below w1.heap.size w1 wr) (fun _ _ i _ => s.length - (intOf i).toNat)
  case atStart => exact ⟨0, 0, none, none, 0, 0, Nat.zero_le _, rfl, rfl, rfl, rfl, World.ownsRow_nil _ _ _ _, World.ownsRow_nil _ _ _ _, Below.refl _ _⟩
  case round =>
    obtain ⟨j, N, Al, Aa, cl, ca, hj, rfl, rfl, rfl, EN, ownl, owna, hbel⟩ := hrel
    have hlj : (lacks (s.take j) (F.take j)).length ≤ j := Nat.le_trans (lacks_le _ _) (List.length_take_le _ _)
    have hNj : N ≤ j := by rw [EN.out]; exact hlj
    have hsz := hbel.size
    clear hlj
    by_cases hlt : j < s.length
    · obtain ⟨b1', o1', n, he, hb1', hc1', hn⟩ := hA.int_at (k := j) hlt
      obtain ⟨rfl, rfl⟩ : b1 = b1' ∧ o1 = o1' := by simpa using he
      have hc1 := (hbel.cell (p := ⟨b1, o1 + j, none⟩) hb1).trans hc1'
      have hnb := HB.out n (mem_of_some hn.out)
      have hfj := FAT.out j hlt
      obtain ⟨f, ef⟩ : ∃ f, f = if j = t then K else 0 := ⟨_, rfl⟩
      rw [← ef] at hfj
      have i1 : (j : Int) < s.length := by omega
      obtain ⟨t1, t2⟩ := lack_take L2.out.symm hn.out hfj
      have T1 := hide t1; have T2 := hide t2; have EF := hide ef
      clear t1 t2 hfj ef he hc1' hA
      go_upto_if 71 with (fail)
      go_cut [20] (fun v wx => v = .int .i64 (n - f) ∧ wr = wx)
      case first =>
        by_cases h : j = t
        · have e : f = K := by rw [EF.out, if_pos h]
          have hxn : x = n := by rw [h] at hn; exact Option.some.inj (hx.out.symm.trans hn.out)
          have d1 : ((j : Int) == (t : Int)) = true := by rw [beq_iff_eq]; omega
          have bK : K ≤ n := by omega
          clear hxn h
          go_wp2
          go_meet
          exact ⟨by rw [e], rfl⟩
        · have e : f = 0 := by rw [EF.out, if_neg h]
          have d1 : ((j : Int) == (t : Int)) = false := by rw [beq_eq_false_iff_ne]; omega
          clear h
          go_wp2
          go_meet
          exact ⟨by rw [e, Int.sub_zero], rfl⟩
      obtain ⟨rfl, rfl⟩ := hcut
      have hfb : 0 ≤ f ∧ f ≤ 1000000 := by
        rw [EF.out]; split <;> omega
      obtain ⟨y, ey⟩ : ∃ y, y = n - f := ⟨_, rfl⟩
      rw [← ey]
      by_cases h2 : f < n
      · have t1 := T1.out
        have t2 := T2.out
        rw [if_pos h2] at t1 t2
        rw [← ey] at t2
        have T1' := hide t1; have T2' := hide t2
        have d1 : decide (0 < y) = true := by simp; omega
        clear t1 t2 T1 T2 hc1 ey h2
        go_upto_region 23 with (at_builtin; refine wpList_push elI64 ownl (.int .i64 y) rfl _ _ rfl rfl rfl rfl (by omega) (by omega) ?_; intro A4 c4 w4 own4 g4 b4)
        have owna4 := own_grown owna g4 (own_ne owna ownl (by decide))
        have B4 := b4 _ _ (Nat.le_refl _) hbel
        have hsz4 := B4.size
        go_wp2_with (at_builtin; refine wpList_push elInt owna4 (.int .i64 (j : Int)) rfl _ _ rfl rfl rfl rfl (by omega) hsz4 ?_; intro Ap cp wp ownp gp bp)
        have ownl5 := own_grown own4 gp (own_ne own4 owna4 (by decide))
        go_roundw
        case rel => exact ⟨j + 1, N + 1, A4, Ap, c4, cp, by omega, by go_num, rfl, rfl, by have := EN.out; rw [T2'.out]; simp [Hid]; exact this, by rw [T2'.out]; simpa [i64s] using ownl5, by rw [T1'.out]; simpa [ats] using ownp, bp _ _ (Nat.le_refl _) B4⟩
        case measure => simp [intOf]; omega
      · have t1 := T1.out
        have t2 := T2.out
        rw [if_neg h2, List.append_nil] at t1 t2
        have T1' := hide t1; have T2' := hide t2
        have d1 : decide (0 < y) = false := by simp; omega
        clear t1 t2 T1 T2 hc1 ey h2
        go_wp2_with fail
        go_roundw
        case rel => exact ⟨j + 1, N, Al, Aa, cl, ca, by omega, by go_num, rfl, rfl, by rw [T2'.out]; exact EN, by rw [T2'.out]; exact ownl, by rw [T1'.out]; exact owna, hbel⟩
        case measure => simp [intOf]; omega
    · have e1 : s.take j = s := List.take_of_length_le (by omega)
      have e2 : F.take j = F := List.take_of_length_le (by rw [L2.out]; omega)
      rw [e1, e2] at ownl owna EN
      clear e1 e2
      have hend := hlt
      clear hlt
      have HNL := EN
      have hAl := Cells.of_own ownl
      have hAa := Cells.of_own owna
      have hAj := hA.below hbel
      have Bj := nxt B1 hbel
      clear hA EN
      obtain ⟨wo, rfl⟩ : ∃ wo : World, wo = wr := ⟨_, rfl⟩
      go_upto_region 24 with (fail)
      go_cut [21] (fun v wx => ∃ g, v = .slice (some ⟨g, 0, none⟩) s.length s.length ∧ g = wo.heap.size ∧ g < wx.heap.size ∧ wx.ownsRow wo.heap.size 2 1 (.slice (some ⟨g, 0, none⟩) s.length s.length) s.length (i64s (List.replicate s.length 0)) ∧ Below wo.heap.size wo wx)
      case first =>
        go_wp2_with (at_make; refine wpList_mk elI64 (n := s.length) rfl _ _ rfl rfl rfl rfl (by omega) ?_; intro w1 own1 g1 b1)
        have hg1 := (own1.lt wo.heap.size rfl).2
        go_meet
        exact ⟨wo.heap.size, rfl, rfl, hg1, by simpa [i64s] using own1, b1 _ _ (Nat.le_refl _) (Below.refl wo.heap.size wo)⟩
      obtain ⟨g, rfl, hg, hgs, ownG, BG⟩ := hcut
      have HG := hide hg
      clear hg
      have hcu : wc.cell? ⟨g, t, none⟩ = some (.int .i64 0) := by
        rw [ownG.cellAt t (by omega)]
        exact i64s_at (by simp [htl])
      have hfu : wc.frozen? ⟨g, t, none⟩ = false := ownG.frozenAt t
      have hst := ownG.stored t (.int .i64 K)
      rw [i64s_set, ← HFS.out] at hst
      have hrow : ∀ i, some g = some i → wo.heap.size ≤ i := fun i hi => by cases hi; have := HG.out; omega
      have BS := BG.grown hst.2 BG.size hrow
      have hAl2 := hAl.below BS
      have hAa2 := hAa.below BS
      have hAj2 := hAj.below BS
      have owna2 := own_below owna BS
      have Bw := nxt Bj BS
      have ownF := hst.1
      clear hst hAl hAa hAj owna ownl Bj hrow ownG
      have hKk : wrap64 (k - K) = k - K := by unfold wrap64; omega
      go_upto_region 26 with (fail)
      generalize wc.setCell ⟨g, t, none⟩ (.int .i64 K) = ws at *
      go_wp2_with fail
      refine (plain_yes Al _ cl (lacks s F) nn (k - K) _ HNL.out.symm HRL.out hnn.1 hAl2).mono ?_
      rw [← EBL.out]
      intro e w6 h
      obtain ⟨A6, c6, rfl, own6, hA6, -, -, hb6⟩ := h.n (HBL.out.trans HNL.out.symm)
      clear h
      have B6 := nxt Bw hb6
      have ownF6 := own_below ownF hb6
      have hAa6 := hAa2.below hb6
      have hAj6 := hAj2.below hb6
      have owna6 := own_below owna2 hb6
      have ne1 := own_ne owna6 ownF6 (by decide)
      have gws := (ownF.lt g rfl).2
      have ne2 : ∀ g', (Value.slice A6 N c6).ownBlock = some g' → g' ≠ g := fun g' h' h => by
        have := (own6.lt g' h').1
        omega
      have hgw : w.heap.size ≤ g := by have := HG.out; have := B1.size; have := hbel.size; omega
      have hgl : w1.heap.size ≤ g := by have := HG.out; have := hbel.size; omega
      clear hb6 hAl2 hAa2 hAj2 owna2 Bw own6 owna6 ownF
      go_wp2_with fail
      go_loopw [23] (fun i wr => ∃ i' : Nat, i' ≤ N ∧ i = .int .i64 i' ∧ wr.ownsRow wo.heap.size 2 1 (.slice (some ⟨g, 0, none⟩) s.length s.length) s.length (i64s (layOn F ((lackAt 0 s F).take i') (bl.take i'))) ∧
          w6.grownBy wr (some g) ∧ Hid (∀ x ∈ layOn F ((lackAt 0 s F).take i') (bl.take i'), 0 ≤ x ∧ x ≤ 1000000 * ((i' : Int) + 1))) (fun i _ => N - (intOf i).toNat)
      case atStart => exact ⟨0, Nat.zero_le _, rfl, by simpa [layOn] using ownF6, World.grownBy.refl _ _, by simpa [layOn, Hid] using HA.out⟩
      case round =>
        obtain ⟨i', hi', rfl, ownr, hgr, Hbd⟩ := hrel
        clear ownF6
        by_cases hlt : i' < N
        · obtain ⟨b1', o1', p, rfl, hb1', hc1', hp⟩ := ats_at hAa6 (k := i') (by rw [HATL.out, ← HNL.out]; exact hlt)
          have hps := HATP.out p (mem_of_some hp.out)
          obtain ⟨b2, o2, y, rfl, hb2, hc2', hy⟩ := hA6.int_at (k := i') (by rw [HBL.out, ← HNL.out]; exact hlt)
          have hyb := HBB.out y (mem_of_some hy.out)
          have hpl : p < s.length := by have := L2.out; omega
          have lt := layOn_take (a := F) (by rw [HATL.out, HBL.out]) hp.out hy.out
          obtain ⟨cur, ecur⟩ : ∃ cur, cur = layOn F ((lackAt 0 s F).take i') (bl.take i') := ⟨_, rfl⟩
          rw [← ecur] at ownr Hbd lt
          have hcl : cur.length = s.length := by rw [ecur, layOn_length]; exact L2.out
          obtain ⟨u, hu⟩ : ∃ u, cur[p]? = some u := ⟨_, List.getElem?_eq_getElem (by omega)⟩
          have hub := Hbd.out u (mem_of_some hu)
          have hgd : cur.getD p 0 = u := by simp [List.getD, hu]
          rw [hgd] at lt
          have hcu2 : wr.cell? ⟨g, p, none⟩ = some (.int .i64 u) := by
            rw [ownr.cellAt p (by omega)]
            exact i64s_at hu
          have hfu2 : wr.frozen? ⟨g, p, none⟩ = false := ownr.frozenAt p
          have hc1 := hgr.cell hc1' (fun h => ne1 b1' rfl (by simpa [Value.ownBlock] using h))
          have hc2 := hgr.cell hc2' (fun h => ne2 b2 rfl (by simpa using h))
          have LT := hide lt
          have i1 : (p : Int) < s.length := by omega
          have i2 : (i' : Int) < N := by omega
          have i3 : (0 : Int) ≤ p := by omega
          have hst := ownr.stored p (.int .i64 (u + y))
          clear lt ecur hu hgd hcl hAa6 hA6 hAj6 hcu hfu
          go_wp2
          go_still_tail 18, (by kernel_rfl)
          go_wp2
          go_roundw
          case rel =>
            refine ⟨i' + 1, by omega, by go_num, ?_, grown_drew (hgr.trans hst.2), ?_⟩
            · rw [LT.out]; simpa [i64s, List.map_set] using hst.1.drew
            · rw [LT.out]
              intro x hx
              rcases List.mem_or_eq_of_mem_set hx with h | rfl
              · have := Hbd.out x h
                omega
              · omega
          case measure => simp [intOf]; omega
        · have e1 : (lackAt 0 s F).take i' = lackAt 0 s F := List.take_of_length_le (by rw [HATL.out, ← HNL.out]; omega)
          have e2 : bl.take i' = bl := List.take_of_length_le (by rw [HBL.out, ← HNL.out]; omega)
          rw [e1, e2, RES.out] at ownr
          clear e1 e2 Hbd hAa6 hA6 hcu hfu
          have B7 : Below w.heap.size w wr := B6.grown hgr B6.size (fun i hi => by cases hi; exact hgw)
          have hAj7 := hAj6.grown hgr (fun b o h => by cases h; intro h2; cases h2; omega)
          have hR := Cells.of_own ownr
          clear hgr B6 hAj6 ownr
          go_wp2_with fail
          refine (pshare_any _ _ c s t m nn k _ rfl (by omega) hAj7).mono ?_
          intro e w8 h
          obtain ⟨A8, c8, rfl, -, hA8, -, -, hb⟩ := h.n SPL.out
          have B8 := nxt B7 hb
          have hR8 := hR.below hb
          clear h hb hAj7 hR B7
          go_wp2_with fail
          refine (same_b A8 _ _ _ c8 _ _ _ _ SPL.out SPL.out (by rw [SPL.out]; omega) (by rw [SPL.out]; omega) hA8 hR8).mono ?_
          simp only [decide_true]
          rintro e w9 ⟨rfl, hb⟩
          have B9 := nxt B8 hb
          clear hb hA8 hR8 B8
          go_wp2_with fail
          refine (known11_any _).mono ?_
          rintro e w10 ⟨rfl, hb⟩
          go_wp2
          go_ret
          exact ⟨rfl, nxt B9 hb⟩
end Go.Proofs.Ytllandfjdpeooaa
