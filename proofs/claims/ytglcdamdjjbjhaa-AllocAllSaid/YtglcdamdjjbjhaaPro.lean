/-
  What the package prorata computes.
-/
import Derived.Test.YtglcdamdjjbjhaaProRef
import Derived.Test.YtglcdamdjjbjhaaDiv
import Derived.StillTailTactics
import Derived.WalkLawsBesides
namespace Go.Proofs.Ytglcdamdjjbjhaa
open Go.RowKit
set_option linter.unusedVariables false

/-! ### Lists that are laid over one another -/
theorem mix_set {X Y : List Int} {k : Nat} {v : Int} (hx : X[k]? = some v) (hl : X.length = Y.length) : (X.take k ++ Y.drop k).set k v = X.take (k + 1) ++ Y.drop (k + 1) := by
  have hk := lt_of_some hx
  rw [take_succ_of hx, List.drop_eq_getElem_cons (show k < Y.length by omega), List.set_append_right (s := X.take k) k v (by simp; omega)]
  have : k - (X.take k).length = 0 := by simp; omega
  rw [this, List.set_cons_zero, List.append_assoc]; rfl
theorem mix_at {X Y : List Int} {k : Nat} (hk : k < X.length) (hl : X.length = Y.length) : (X.take k ++ Y.drop k)[k]? = Y[k]? := by
  rw [List.getElem?_append_right (by simp; omega)]
  have : k - (X.take k).length = 0 := by simp; omega
  rw [this]; simp
theorem mix_end {X Y : List Int} {k : Nat} (hx : X.length ≤ k) (hy : Y.length ≤ k) : X.take k ++ Y.drop k = X := by
  rw [List.take_of_length_le hx, List.drop_eq_nil_of_le hy, List.append_nil]
theorem i64s_set (l : List Int) (k : Nat) (v : Int) : (i64s l).set k (.int .i64 v) = i64s (l.set k v) := by simp [i64s, List.map_set]
theorem i64s_at {l : List Int} {k : Nat} {v : Int} (h : l[k]? = some v) : (i64s l)[k]? = some (.int .i64 v) := by simp [i64s, h]
theorem mix_keep {X Y : List Int} {k : Nat} {v : Int} (hx : X[k]? = some v) (hy : Y[k]? = some v) : X.take (k + 1) ++ Y.drop (k + 1) = X.take k ++ Y.drop k := by
  have hk := lt_of_some hy
  rw [take_succ_of hx, List.drop_eq_getElem_cons hk]
  have : Y[k] = v := by rw [List.getElem?_eq_getElem hk] at hy; exact Option.some.inj hy
  rw [this]; simp

theorem shareL_prefix : ∀ (l : List Int) (q : Int) (k : Nat), (shareL l q).take k = shareL (l.take k) q
  | [], q, k => by simp [shareL]
  | n :: l, q, 0 => by simp [shareL]
  | n :: l, q, k + 1 => by simp [shareL, shareL_prefix l _ k]
set_option maxRecDepth 100000 in
set_option maxHeartbeats 3200000 in
theorem plain_yes (A : Option Addr) (n c : Nat) (l : List Int) (least q : Int) (w : World) (hn : l.length = n) (hr : rightB l q = true) (h1 : 1 ≤ least) (hA : Cells w A (i64s l)) :
    Calls Try.prog 33 #[.slice A n c, .int .i64 least, .int .i64 q] w (FreshI w 2 (byL l least q)) := by
  subst hn
  obtain ⟨hlen, hq, hb1, hqa⟩ := (rightB_iff l q).1 hr
  have hb : ∀ n ∈ l, 0 ≤ n ∧ n ≤ 1000000 := fun n hn => by have := hb1 n hn; omega
  obtain ⟨ff, fs⟩ := first_facts (by omega : l.length ≤ 1000) hb hq hqa h1
  have hsb := isum_bd l hb
  have hst := first_sum (fun n hn => (hb n hn).1) hq hqa h1
  have hsub : ∀ x ∈ subL l (firstL l.sum q least l), 0 ≤ x ∧ x ≤ 1000000 := by
    intro x hx
    refine ⟨sub_first_nn (fun n hn => (hb n hn).1) hq hqa h1 x hx, ?_⟩
    obtain ⟨k, hk⟩ := List.getElem?_of_mem hx
    simp only [subL, firstL, List.getElem?_zipWith, List.getElem?_map] at hk
    cases hn : l[k]? with
    | none => simp [hn] at hk
    | some n =>
      simp [hn] at hk
      have := byV_bd (all := l.sum) (hb n (List.mem_of_getElem? hn)).1 hq hqa h1
      have := hb n (List.mem_of_getElem? hn)
      omega
  have hRl : (byL l least q).length = l.length := length_byL l least q
  have hT1 : l.length = 0 ∨ 1 ≤ l.sum := by
    rcases l with _ | ⟨x, l⟩
    · exact .inl rfl
    · refine .inr ?_
      have h0 := hb1 x List.mem_cons_self
      have h2 := isum_nn l fun n hn => (hb n (List.mem_cons_of_mem _ hn)).1
      simp only [List.sum_cons]; omega
  obtain ⟨F, hF⟩ : ∃ F, F = firstL l.sum q least l := ⟨_, rfl⟩
  obtain ⟨R, hR⟩ : ∃ R, R = byL l least q := ⟨_, rfl⟩
  obtain ⟨T, hT⟩ : ∃ T, T = l.sum := ⟨_, rfl⟩
  have hFl : F.length = l.length := by rw [hF, length_firstL]
  have hFat : ∀ (k : Nat) (x : Int), l[k]? = some x → F[k]? = some (byV T q least x) := fun k x h => by rw [hF, hT]; exact firstL_at h
  have hRe : R = addL F (shareL (subL l F) (q - F.sum)) := by rw [hR, hF]; rfl
  rw [← hR] at hRl ⊢
  rw [← hF] at ff fs hst hsub
  rw [← hT] at hqa hsb hT1
  have HF := hide ff; have HS := hide fs; have HL := hide hFl; have HAT := hide hFat; have HB := hide hb; have HT := hide hT; have HST := hide hst; have HSUB := hide hsub
  have HR := hide hr; have HRE := hide hRe; have HRL := hide hRl; have HT1 := hide hT1
  clear ff fs hFl hFat hb hT hst hsub hF hr hRe hRl hT1 hb1 hR
  have d0 : decide (least < 1) = false := by simp; omega
  go_enter Try.func33, Try.ntmps33
  go_wp2_with fail
  refine (right_any _ _ _ l q _ rfl (by omega) hA).mono ?_
  rintro e w' ⟨rfl, rfl⟩
  rw [HR.out]
  go_wp2_with fail
  refine (sum_any _ _ _ l _ rfl (by omega) (fun n hn => by have := HB.out n hn; omega) hA).mono ?_
  rintro e w' ⟨rfl, rfl⟩
  rw [← HT.out, told, fit_yes (inR_yes (by omega)), inR_yes (by omega)]
  go_wp2_with (at_make; refine wpList_mk elI64 (n := l.length) rfl _ _ rfl rfl rfl rfl (by omega) ?_; intro w1 own1 g1 b1)
  have B1 := b1 _ _ (Nat.le_refl _) (Below.refl w.heap.size w)
  have hg1 := (own1.lt w.heap.size rfl).2
  obtain ⟨g, hg⟩ : ∃ g, g = w.heap.size := ⟨_, rfl⟩
  rw [show (⟨w.heap.size, 0, none⟩ : Addr) = ⟨g, 0, none⟩ by rw [hg]] at own1 ⊢
  have HG := hide hg
  rw [show List.replicate l.length (Value.int .i64 0) = i64s (List.replicate l.length 0) by simp [i64s]] at own1
  clear g1 b1 hg
  have own1' : w1.ownsRow w.heap.size 2 1 (.slice (some ⟨g, 0, none⟩) l.length l.length) l.length (i64s (F.take 0 ++ (List.replicate l.length 0).drop 0)) := by simpa using own1
  clear own1
  go_loopw [36] (fun i wr => ∃ k : Nat, k ≤ l.length ∧ i = .int .i64 k ∧ wr.ownsRow w.heap.size 2 1 (.slice (some ⟨g, 0, none⟩) l.length l.length) l.length (i64s (F.take k ++ (List.replicate l.length 0).drop k)) ∧ Below w.heap.size w wr) (fun i _ => l.length - (intOf i).toNat)
  case atStart => exact ⟨0, Nat.zero_le _, rfl, own1', B1⟩
  case round =>
    obtain ⟨k, hk, rfl, own, hbel⟩ := hrel
    by_cases hlt : k < l.length
    · obtain ⟨b, o, x, rfl, hbb, hc0, hx⟩ := hA.int_at hlt
      have hc := (hbel.cell (p := ⟨b, o + k, none⟩) hbb).trans hc0
      have hxb := HB.out x (mem_of_some hx.out)
      have i1 : (k : Int) < l.length := by omega
      have hfa := HAT.out k x hx.out
      have hT := HT1.out
      have hT1 : 1 ≤ T := by omega
      obtain ⟨V, hV⟩ : ∃ V, V = x * q / T := ⟨_, rfl⟩
      have hsm := share_small hxb.1 hxb.2 hq hqa hT1
      have hVb : 0 ≤ V ∧ V ≤ 1000000 := by
        have h := byV_bd (least := 1) (all := T) hxb.1 hq hqa (by omega)
        have h0 : 0 ≤ x * q / T := Int.ediv_nonneg (Int.mul_nonneg hxb.1 hq) (by omega)
        unfold byV at h
        split at h <;> omega
      rw [← hV] at hsm
      have hby : byV T q least x = if least ≤ V then V else 0 := by rw [byV, ← hV]
      have hrep : (List.replicate l.length (0 : Int))[k]? = some 0 := by simp [hlt]
      have hFr : F.length = (List.replicate l.length (0 : Int)).length := by rw [HL.out]; simp
      have hcu : wr.cell? ⟨g, k, none⟩ = some (.int .i64 0) := by
        rw [own.cellAt k (by omega)]
        exact i64s_at (by rw [mix_at (by rw [HL.out]; exact hlt) hFr, hrep])
      have hfu : wr.frozen? ⟨g, k, none⟩ = false := own.frozenAt k
      have SM := hide hsm
      rcases dec (least ≤ V) with ⟨t2, d2⟩ | ⟨t2, d2⟩
      · rw [if_pos t2] at hby
        rw [hby] at hfa
        have hms := hide (mix_set hfa hFr)
        have hst := own.stored k (.int .i64 V)
        clear hsm hby hV hfa hrep hFr hc0 hA hT
        go_wp2_with fail
        refine (ishare_any _ _ _ _ (by omega) (by omega) (by omega)).mono ?_
        rintro e w' ⟨rfl, m, rfl⟩
        rw [SM.out]
        go_wp2_with fail
        go_roundw
        case rel => exact ⟨k + 1, by omega, by go_num, by rw [← hms.out, ← i64s_set]; exact own_drewN hst.1 m, below_drewN (hbel.grown hst.2 hbel.size (fun j hj => by cases hj; have := HG.out; omega)) m⟩
        case measure => simp [intOf]; omega
      · rw [if_neg t2] at hby
        rw [hby] at hfa
        have hms := hide (mix_keep hfa hrep)
        clear hsm hby hV hfa hrep hFr hc0 hA hT
        go_wp2_with fail
        refine (ishare_any _ _ _ _ (by omega) (by omega) (by omega)).mono ?_
        rintro e w' ⟨rfl, m, rfl⟩
        rw [SM.out]
        go_wp2_with fail
        go_roundw
        case rel => exact ⟨k + 1, by omega, by go_num, by rw [hms.out]; exact own_drewN own m, below_drewN hbel m⟩
        case measure => simp [intOf]; omega
    · obtain rfl : k = l.length := by omega
      rw [mix_end (by rw [HL.out]; exact Nat.le_refl _) (by simp)] at own
      clear own1' B1
      go_wp2_with fail
      obtain ⟨wo, rfl⟩ : ∃ wo, wo = wr := ⟨_, rfl⟩
      go_loop [2, 58] (fun s i => ∃ (k : Nat) (S : Int), k ≤ l.length ∧ i = .int .i64 k ∧ s = .int .i64 (q - S) ∧ Hid ((F.take k).sum = S)) (fun _ i => l.length - (intOf i).toNat)
      case atStart => exact ⟨0, 0, Nat.zero_le _, rfl, val_int (by omega), rfl⟩
      case round =>
        obtain ⟨k, S, hk2, rfl, rfl, hS⟩ := hrel
        have hSb := HS.out k
        rw [hS.out] at hSb
        by_cases hlt2 : k < l.length
        · obtain ⟨x, hx⟩ : ∃ x, F[k]? = some x := ⟨_, List.getElem?_eq_getElem (by rw [HL.out]; exact hlt2)⟩
          have hxb := HF.out x (mem_of_some hx)
          have hcu : wo.cell? ⟨g, k, none⟩ = some (.int .i64 x) := by
            rw [own.cellAt k (by omega)]
            exact i64s_at hx
          have hzs := sum_take_of hx
          rw [hS.out] at hzs
          have ZS := hide hzs
          have i1 : (k : Int) < l.length := by omega
          clear hzs hx
          go_wp2_with fail
          go_round
          case rel => exact ⟨k + 1, S + x, by omega, by go_num, val_int (by omega), ZS.out⟩
          case measure => simp [intOf]; omega
        · have hkf : F.take k = F := List.take_of_length_le (by rw [HL.out]; omega)
          rw [hkf] at hS
          have hSt := HST.out
          rw [hS.out] at hSt
          have hre := HRE.out
          rw [hS.out] at hre
          obtain ⟨D, hD⟩ : ∃ D, D = subL l F := ⟨_, rfl⟩
          have hDl : D.length = l.length := by rw [hD, length_subL HL.out.symm]
          have hDat : ∀ (k : Nat) (x y : Int), l[k]? = some x → F[k]? = some y → D[k]? = some (x - y) := fun k x y h h' => by rw [hD]; exact subL_at h h'
          have hDb := HSUB.out
          rw [← hD] at hre hDb
          have HRE' := hide hre; have HDL := hide hDl; have HDAT := hide hDat; have HDB := hide hDb
          have own' : wo.ownsRow w.heap.size 2 1 (.slice (some ⟨g, 0, none⟩) l.length l.length) l.length (i64s (R.take 0 ++ F.drop 0)) := by simpa using own
          obtain ⟨r, hr⟩ : ∃ r, r = q - S := ⟨_, rfl⟩
          have hrb : 0 ≤ r ∧ r ≤ q := by omega
          rw [← hr] at HRE' ⊢
          clear hkf hre hDl hDat hDb hD hSt hSb hS hr own
          go_wp2_with fail
          go_loopw [2, 68] (fun s i wr => ∃ k : Nat, k ≤ l.length ∧ i = .int .i64 k ∧ s = .int .i64 (leftL (D.take k) r) ∧ wr.ownsRow w.heap.size 2 1 (.slice (some ⟨g, 0, none⟩) l.length l.length) l.length (i64s (R.take k ++ F.drop k)) ∧ Below w.heap.size w wr) (fun _ i _ => l.length - (intOf i).toNat)
          case atStart => exact ⟨0, Nat.zero_le _, rfl, rfl, own', hbel⟩
          case round =>
            obtain ⟨j, hj, rfl, rfl, ownr, hbr⟩ := hrel
            clear own'
            have hlb := leftL_bd (D.take j) r (fun n hn => (HDB.out n (List.mem_of_mem_take hn)).1) hrb.1
            by_cases hlt3 : j < l.length
            · obtain ⟨b, o, x, rfl, hbb, hc0, hx⟩ := hA.int_at hlt3
              have hc := (hbr.cell (p := ⟨b, o + j, none⟩) hbb).trans hc0
              have hxb := HB.out x (mem_of_some hx.out)
              obtain ⟨y, hy⟩ : ∃ y, F[j]? = some y := ⟨_, List.getElem?_eq_getElem (by rw [HL.out]; exact hlt3)⟩
              have hyb := HF.out y (mem_of_some hy)
              have hdj := HDAT.out j x y hx.out hy
              have hdb := HDB.out _ (mem_of_some hdj)
              have hcu : wr.cell? ⟨g, j, none⟩ = some (.int .i64 y) := by
                rw [ownr.cellAt j (by omega)]
                exact i64s_at (by rw [mix_at (by rw [HRL.out]; exact hlt3) (HRL.out.trans HL.out.symm), hy])
              have hfu : wr.frozen? ⟨g, j, none⟩ = false := ownr.frozenAt j
              have i1 : (j : Int) < l.length := by omega
              obtain ⟨z, ez⟩ : ∃ z, z = leftL (D.take j) r := ⟨_, rfl⟩
              rw [← ez] at hlb
              obtain ⟨es1, es2⟩ := shareL_take hdj r
              rw [← ez] at es1 es2 ⊢
              obtain ⟨mn, hmn, hm0, hm1⟩ : ∃ mn, mn = min (x - y) z ∧ 0 ≤ mn ∧ mn ≤ z := ⟨_, rfl, by omega, by omega⟩
              rw [← hmn] at es1 es2
              have hsj : (shareL D r)[j]? = some mn := by
                have e1 : (shareL D r).take (j + 1) = shareL (D.take (j + 1)) r := shareL_prefix D r (j + 1)
                rw [es1] at e1
                have e2 : ((shareL D r).take (j + 1))[j]? = some mn := by
                  rw [e1, List.getElem?_append_right (by rw [length_shareL, List.length_take]; omega), length_shareL, List.length_take]
                  have : j - min j D.length = 0 := by have := HDL.out; omega
                  rw [this]; rfl
                rwa [List.getElem?_take_of_lt (by omega)] at e2
              have hrj : R[j]? = some (y + mn) := by rw [HRE'.out]; exact addL_at hy hsj
              have hms := hide (mix_set hrj (HRL.out.trans HL.out.symm))
              have E2 := hide es2
              have hmin : min (x - y) z = mn := hmn.symm
              clear es1 es2 hsj hrj hy hdj ez hmn hc0 hA
              have bmn : mn ≤ 1000000 := by omega
              go_wp2_with fail
              go_quiet (fail)
              have hst := (own_drewN ownr nq).stored j (.int .i64 (y + mn))
              have hbn := below_drewN hbr nq
              go_wp2_with fail
              go_roundw
              case rel => exact ⟨j + 1, by omega, by go_num, val_int (by have := E2.out; omega), by rw [← hms.out, ← i64s_set]; exact hst.1, hbn.grown hst.2 hbr.size (fun i hi => by cases hi; have := HG.out; omega)⟩
              case measure => simp [intOf]; omega
            · have ej : R.take j ++ F.drop j = R := mix_end (by rw [HRL.out]; omega) (by rw [HL.out]; omega)
              rw [ej] at ownr
              clear ej
              go_wp2_with fail
              go_ret
              exact Fresh.mk HRL.out.symm ownr hbr
end Go.Proofs.Ytglcdamdjjbjhaa
