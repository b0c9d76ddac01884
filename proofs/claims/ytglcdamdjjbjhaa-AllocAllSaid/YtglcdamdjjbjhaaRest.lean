/-
  What prorata.Rest computes.
-/
import Derived.Test.YtglcdamdjjbjhaaPro
namespace Go.Proofs.Ytglcdamdjjbjhaa
open Go.RowKit
set_option linter.unusedVariables false

theorem pplain_any (A : Option Addr) (n c : Nat) (l : List Int) (least q : Int) (w : World) (hn : l.length = n) (hl : l.length ≤ 9223372036854775807) (hA : Cells w A (i64s l)) :
    Calls Try.prog 33 #[.slice A n c, .int .i64 least, .int .i64 q] w (FreshI w 2 (plainB l least q)) := by
  unfold plainB
  cases hr : rightB l q
  · rw [if_neg (by simp)]
    subst hn
    have HR := hide hr
    clear hr
    go_enter Try.func33, Try.ntmps33
    go_wp2_with fail
    refine (right_any _ _ _ l q _ rfl hl hA).mono ?_
    rintro e w' ⟨rfl, rfl⟩
    rw [HR.out]
    go_wp2
    go_ret
    exact Fresh.nil _ _ _
  · by_cases h1 : 1 ≤ least
    · rw [if_pos ⟨rfl, h1⟩]
      exact plain_yes A n c l least q w hn hr h1 hA
    · rw [if_neg (fun h => h1 h.2)]
      subst hn
      have HR := hide hr
      clear hr
      have d1 : decide (least < 1) = true := by simp; omega
      go_enter Try.func33, Try.ntmps33
      go_wp2_with fail
      refine (right_any _ _ _ l q _ rfl hl hA).mono ?_
      rintro e w' ⟨rfl, rfl⟩
      rw [HR.out]
      go_wp2
      go_ret
      exact Fresh.nil _ _ _
/-- The places that lack something, as Go has them. -/
def ats (ps : List Nat) : List Value := ps.map fun p : Nat => Value.int .i64 p
theorem ats_at {w : World} {A : Option Addr} {ps : List Nat} (h : Cells w A (ats ps)) {k : Nat} (hk : k < ps.length) :
    ∃ (b o p : Nat), A = some ⟨b, o, none⟩ ∧ b < w.heap.size ∧ w.cell? ⟨b, o + k, none⟩ = some (.int .i64 (p : Int)) ∧ Hid (ps[k]? = some p) := by
  obtain ⟨b, o, u, rfl, hb, hc, hu⟩ := h.val_at (k := k) (by simp [ats]; exact hk)
  have := hu.out
  simp only [ats, List.getElem?_map, Option.map_eq_some_iff] at this
  obtain ⟨p, hp, rfl⟩ := this
  exact ⟨b, o, p, rfl, hb, hc, hp⟩
set_option maxRecDepth 100000 in
set_option maxHeartbeats 3200000 in
theorem rest_any (A1 A2 : Option Addr) (n c1 c2 : Nat) (l a : List Int) (least q : Int) (B : Nat) (w : World) (hn : l.length = n) (hn' : a.length = n) (hlen : n ≤ 250) (hb : ∀ m ∈ l, 1 ≤ m ∧ m ≤ 1000000) (ha : ∀ m ∈ a, 0 ≤ m ∧ m ≤ 1000000) (hge : ∀ m ∈ subL l a, 0 ≤ m)
    (hq : 0 ≤ q) (hqa : q ≤ (subL l a).sum) (h1 : 1 ≤ least) (hA : Cells w A1 (i64s l)) (own : w.ownsRow B 2 1 (.slice A2 n c2) n (i64s a)) :
    Calls Try.prog 25 #[.slice A1 n c1, .slice A2 n c2, .int .i64 least, .int .i64 q] w fun e w' =>
      e = .returned (.slice A2 n c2) ∧ w'.ownsRow B 2 1 (.slice A2 n c2) n (i64s (addL a (byL (subL l a) least q))) ∧ w.grownBy w' (Value.slice A2 n c2).ownBlock := by
  subst hn
  have hlp := lacks_pos' l a hn'.symm
  have hls : (lacks l a).sum = (subL l a).sum := by rw [hlp, posL_sum _ hge]
  have hll := lacks_le l a
  have hlb := lacks_pos l a (fun m hm => (hb m hm).2) (fun m hm => (ha m hm).1)
  have hr : rightB (lacks l a) q = true := (rightB_iff _ _).2 ⟨by omega, hq, hlb, by rw [hls]; exact hqa⟩
  have hres := rest_plain hn'.symm hge hq hqa h1
  have hbl := length_byL (lacks l a) least q
  have hbb : ∀ x ∈ byL (lacks l a) least q, 0 ≤ x ∧ x ≤ 1000000 := byL_bd (by omega) (fun m hm => by have := hlb m hm; omega) hq (by rw [hls]; exact hqa) h1
  obtain ⟨bl, ebl⟩ : ∃ bl, bl = byL (lacks l a) least q := ⟨_, rfl⟩
  have hatl := lacks_length 0 l a
  have hatp := lackAt_lt 0 l a
  rw [← ebl] at hres hbl hbb
  rw [← hres]
  have hcA := Cells.of_own own
  have L2 := hide hn'; have HB := hide hb; have HA := hide ha; have HR := hide hr; have EBL := hide ebl; have HBL := hide hbl; have HBB := hide hbb; have HATL := hide hatl; have HATP := hide hatp
  clear hlp hls hlb hr hres hbl hbb hatl hatp hn' hb ha hge ebl hqa
  go_enter Try.func25, Try.ntmps25
  go_wp2_with fail
  go_loopw [9, 10, 16] (fun vl va i wr => ∃ (j N : Nat) (Al Aa cl ca : _), j ≤ l.length ∧ i = .int .i64 j ∧ vl = .slice Al N cl ∧ va = .slice Aa N ca ∧ Hid (N = (lacks (l.take j) (a.take j)).length) ∧ wr.ownsRow w.heap.size 2 1 (.slice Al N cl) N (i64s (lacks (l.take j) (a.take j))) ∧
      wr.ownsRow w.heap.size 3 1 (.slice Aa N ca) N (ats (lackAt 0 (l.take j) (a.take j))) ∧ Below w.heap.size w wr) (fun _ _ i _ => l.length - (intOf i).toNat)
  case atStart => exact ⟨0, 0, none, none, 0, 0, Nat.zero_le _, rfl, rfl, rfl, rfl, World.ownsRow_nil _ _ _ _, World.ownsRow_nil _ _ _ _, Below.refl _ _⟩
  case round =>
    obtain ⟨j, N, Al, Aa, cl, ca, hj, rfl, rfl, rfl, EN, ownl, owna, hbel⟩ := hrel
    have hlj : (lacks (l.take j) (a.take j)).length ≤ j := Nat.le_trans (lacks_le _ _) (List.length_take_le _ _)
    have hNj : N ≤ j := by rw [EN.out]; exact hlj
    have hsz := hbel.size
    clear hlj
    by_cases hlt : j < l.length
    · obtain ⟨b1, o1, n, rfl, hb1, hc1', hn⟩ := hA.int_at (k := j) hlt
      obtain ⟨b2, o2, x, he2, hb2, hc2', hx⟩ := hcA.int_at (k := j) (by rw [L2.out]; exact hlt)
      subst he2
      have hc1 := (hbel.cell (p := ⟨b1, o1 + j, none⟩) hb1).trans hc1'
      have hc2 := (hbel.cell (p := ⟨b2, o2 + j, none⟩) hb2).trans hc2'
      have hnb := HB.out n (mem_of_some hn.out)
      have hxb := HA.out x (mem_of_some hx.out)
      have i1 : (j : Int) < l.length := by omega
      obtain ⟨t1, t2⟩ := lack_take L2.out.symm hn.out hx.out
      by_cases h2 : x < n
      · rw [if_pos h2] at t1 t2
        have T1 := hide t1; have T2 := hide t2
        have d1 : decide (x < n) = true := by simp; omega
        have hwr : IntKind.i64.wrap (n - x) = n - x := IntWalk.i64_in _ (by omega)
        have g1 := lower_at hbel (Nat.le_refl _) hb1 hc1'
        have g2 := lower_at hbel (Nat.le_refl _) hb2 hc2'
        clear t1 t2
        go_wp2_with fail
        go_quiet (fail)
        have g3 := fun u (hu : Below w.heap.size (wr.drewN nq).drew u) => g1 u ⟨hu.os, hu.tape, hu.output, hu.size, hu.block⟩
        have g4 := fun u (hu : Below w.heap.size (wr.drewN nq).drew u) => g2 u ⟨hu.os, hu.tape, hu.output, hu.size, hu.block⟩
        clear g1 g2
        have hbn := below_drewN hbel nq
        have ownl1 := own_drewN ownl nq
        have owna1 := own_drewN owna nq
        have hszn : w.heap.size ≤ (wr.drewN nq).heap.size := hsz
        clear hbel ownl owna hsz
        generalize wr.drewN nq = wn at *
        go_upto_region 7 with (fail)
        refine wp_region_grow (R := Below w.heap.size) 99999 [10, 11] [0, 1, 2, 3, 4, 5, 6, 7, 8, 9, 10, 11, 12] (by kernel_rfl) (Lower.tr _) (Lower.rf _) (by kernel_rfl) (fun _ _ _ _ _ h => h) ?_
        (repeat ((first | (refine grow_skip (by rfl) (by rfl) ?_ (by first | exact Stays.rf _ | exact Lower.rf _ _ | exact Holds.rf _ _)) | (refine grow_take (v := ?_) (by rfl) (by rfl) (by rfl) ?_ ?_; rotate_left 1; focus (intro w' hSw; go_simp; (try (with_reducible rfl)); done))); (try simp only [Act.put, List.setIfInBounds_toArray, List.set_cons_zero, List.set_cons_succ])))
        clear g3 g4
        refine grow_move (by rfl) (by rfl) (by rfl) (fun K hK => ?_); go_simp
        refine hK.out _ _ (lower_lit' hszn _) ?_; clear hK K; (try simp only [Act.put, List.setIfInBounds_toArray, List.set_cons_zero, List.set_cons_succ])
        refine grow_move (by rfl) (by rfl) (by rfl) (fun K hK => ?_)
        refine wp_app elI64 (own_drw (ownl1.alloc _)) (news := [.int .i64 (n - x)]) _ _ rfl rfl rfl rfl (Cells.lit wn #[.int .i64 (n - x)] 2).drew (by simp [Value.oneCell']) (by omega) (by simp; omega) (N + 1) (i64s (lacks (l.take (j + 1)) (a.take (j + 1)))) rfl (by rw [T2.out]; simp [i64s]) ?_
        intro A4 c4 w4 p4
        have B4 := p4.below _ _ (Nat.le_refl _) (nxt_drew (nxt_alloc hbn (.cells #[.int .i64 (n - x)] 2)))
        have owna4 := own_grown (own_drw (owna1.alloc (.cells #[.int .i64 (n - x)] 2))) p4.grown (own_ne owna1 ownl1 (by decide))
        refine hK.out _ _ (p4.below _ _ (Nat.le_refl _) (Below.refl _ _)) ?_; clear hK K; (try simp only [Act.put, List.setIfInBounds_toArray, List.set_cons_zero, List.set_cons_succ])
        (repeat ((first | (refine grow_skip (by rfl) (by rfl) ?_ (by first | exact Stays.rf _ | exact Lower.rf _ _ | exact Holds.rf _ _)) | (refine grow_take (v := ?_) (by rfl) (by rfl) (by rfl) ?_ ?_; rotate_left 1; focus (intro w' hSw; go_simp; (try (with_reducible rfl)); done))); (try simp only [Act.put, List.setIfInBounds_toArray, List.set_cons_zero, List.set_cons_succ])))
        refine grow_done ?_
        have ownl4 := p4.own
        have hsz4 := B4.size
        clear p4 ownl1 owna1 hbn
        go_wp2_with (at_builtin; refine wpList_push elInt owna4 (.int .i64 (j : Int)) rfl _ _ rfl rfl rfl rfl (by omega) hsz4 ?_; intro Ap cp wp ownp gp bp)
        have ownl5 := own_grown ownl4 gp (own_ne ownl4 owna4 (by decide))
        go_roundw
        case rel => exact ⟨j + 1, N + 1, A4, Ap, c4, cp, by omega, by go_num, rfl, rfl, by have := EN.out; rw [T2.out]; simp [Hid]; exact this, ownl5, by rw [T1.out]; simpa [ats] using ownp, bp _ _ (Nat.le_refl _) B4⟩
        case measure => simp [intOf]; omega
      · rw [if_neg h2, List.append_nil] at t1 t2
        have T1 := hide t1; have T2 := hide t2
        have d1 : decide (x < n) = false := by simp; omega
        clear t1 t2
        go_wp2_with fail
        go_quiet (fail)
        go_wp2_with fail
        go_roundw
        case rel => exact ⟨j + 1, N, Al, Aa, cl, ca, by omega, by go_num, rfl, rfl, by rw [T2.out]; exact EN, by rw [T2.out]; exact own_drewN ownl _, by rw [T1.out]; exact own_drewN owna _, below_drewN hbel _⟩
        case measure => simp [intOf]; omega
    · have e1 : l.take j = l := List.take_of_length_le (by omega)
      have e2 : a.take j = a := List.take_of_length_le (by rw [L2.out]; omega)
      rw [e1, e2] at ownl owna EN
      clear e1 e2
      have hend := hlt
      clear hlt
      have hNl : N = (lacks l a).length := EN.out
      have hAl := Cells.of_own ownl
      have hAa := Cells.of_own owna
      have ownA := own_below own hbel
      have apa := fun b (hb : b < w.heap.size) => own_apart owna hb
      have ownlt := own.lt
      clear ownl own
      have HNL := hide hNl
      clear hNl
      go_wp2_with fail
      refine (plain_yes Al _ cl (lacks l a) least q _ HNL.out.symm HR.out h1 hAl).mono ?_
      rw [← EBL.out]
      intro e w6 h
      obtain ⟨A6, c6, rfl, own6, hA6, -, -, hb6⟩ := h.n (HBL.out.trans HNL.out.symm)
      clear h
      have B6 := nxt hbel hb6
      have ownA6 := own_below ownA hb6
      have hAa6 := hAa.below hb6
      have owna6 := own_below owna hb6
      have ne1 := own_ne owna6 ownA6 (by decide)
      have ne2 : ∀ g', (Value.slice A6 N c6).ownBlock = some g' → some g' ≠ (Value.slice A2 l.length c2).ownBlock := fun g' h' h => by
        have := (ownlt g' h.symm).2
        have := (own6.lt g' h').1
        omega
      have hg6 : w.grownBy w6 (Value.slice A2 l.length c2).ownBlock := ⟨B6.os, B6.tape, B6.output, B6.size, fun k hk _ => B6.block k hk⟩
      clear ownA hb6 hbel hAl hAa owna own6
      go_wp2_with fail
      go_loopw [50] (fun i wr => ∃ j : Nat, j ≤ N ∧ i = .int .i64 j ∧ wr.ownsRow B 2 1 (.slice A2 l.length c2) l.length (i64s (layOn a ((lackAt 0 l a).take j) (bl.take j))) ∧
          w6.grownBy wr (Value.slice A2 l.length c2).ownBlock ∧ Hid (∀ x ∈ layOn a ((lackAt 0 l a).take j) (bl.take j), 0 ≤ x ∧ x ≤ 1000000 * ((j : Int) + 1))) (fun i _ => N - (intOf i).toNat)
      case atStart => exact ⟨0, Nat.zero_le _, rfl, by simpa [layOn] using ownA6, World.grownBy.refl _ _, by simpa [layOn, Hid] using HA.out⟩
      case round =>
        obtain ⟨j, hj, rfl, ownr, hgr, Hbd⟩ := hrel
        clear ownA6
        by_cases hlt : j < N
        · obtain ⟨b1, o1, p, rfl, hb1, hc1', hp⟩ := ats_at hAa6 (k := j) (by rw [HATL.out, ← HNL.out]; exact hlt)
          have hps := HATP.out p (mem_of_some hp.out)
          obtain ⟨b2, o2, y, rfl, hb2, hc2', hy⟩ := hA6.int_at (k := j) (by rw [HBL.out, ← HNL.out]; exact hlt)
          have hyb := HBB.out y (mem_of_some hy.out)
          have hpl : p < l.length := by have := L2.out; omega
          obtain ⟨g, rfl, hg1, hg2⟩ := own_some ownr (by omega)
          have lt := layOn_take (a := a) (by rw [HATL.out, HBL.out]) hp.out hy.out
          obtain ⟨cur, ecur⟩ : ∃ cur, cur = layOn a ((lackAt 0 l a).take j) (bl.take j) := ⟨_, rfl⟩
          rw [← ecur] at ownr Hbd lt
          have hcl : cur.length = l.length := by rw [ecur, layOn_length]; exact L2.out
          obtain ⟨u, hu⟩ : ∃ u, cur[p]? = some u := ⟨_, List.getElem?_eq_getElem (by omega)⟩
          have hub := Hbd.out u (mem_of_some hu)
          have hgd : cur.getD p 0 = u := by simp [List.getD, hu]
          rw [hgd] at lt
          have hcu : wr.cell? ⟨g, p, none⟩ = some (.int .i64 u) := by
            rw [ownr.cellAt p (by omega)]
            exact i64s_at hu
          have hfu : wr.frozen? ⟨g, p, none⟩ = false := ownr.frozenAt p
          have hc1 := hgr.cell hc1' (fun h => ne1 b1 rfl (by simpa [Value.ownBlock] using h))
          have hc2 := hgr.cell hc2' (fun h => ne2 b2 rfl (by simpa [Value.ownBlock] using h))
          have LT := hide lt
          have i1 : (p : Int) < l.length := by omega
          have i2 : (j : Int) < N := by omega
          have i3 : (0 : Int) ≤ p := by omega
          have hst := ownr.stored p (.int .i64 (u + y))
          clear lt ecur hu hgd hcl hAa6 hA6 hA hcA
          go_wp2_with fail
          go_roundw
          case rel =>
            refine ⟨j + 1, by omega, by go_num, ?_, hgr.trans hst.2, ?_⟩
            · rw [LT.out]; simpa [i64s, List.map_set] using hst.1
            · rw [LT.out]
              intro x hx
              rcases List.mem_or_eq_of_mem_set hx with h | rfl
              · have := Hbd.out x h
                omega
              · omega
          case measure => simp [intOf]; omega
        · have e1 : (lackAt 0 l a).take j = lackAt 0 l a := List.take_of_length_le (by rw [HATL.out, ← HNL.out]; omega)
          have e2 : bl.take j = bl := List.take_of_length_le (by rw [HBL.out, ← HNL.out]; omega)
          rw [e1, e2] at ownr
          clear e1 e2 Hbd
          go_wp2_with fail
          go_ret
          exact ⟨rfl, ownr, hg6.trans hgr⟩
end Go.Proofs.Ytglcdamdjjbjhaa
