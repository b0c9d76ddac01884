/-
  The walk of ProrataScale.
-/
import Derived.Test.YtllandfjdpeooaaProM
namespace Go.Proofs.Ytllandfjdpeooaa
open Go.RowKit
set_option linter.unusedVariables false

def wantOf (n : Int) : Int := 1 + within n 0 99
theorem wantOf_bd (n : Int) : 1 ≤ wantOf n ∧ wantOf n ≤ 100 := by
  have := within_bd n 0 99 (by omega)
  unfold wantOf; omega
set_option maxRecDepth 100000 in
set_option maxHeartbeats 3200000 in
theorem prorataScale_walk (A0 : Option Addr) (c0 : Nat) (l0 : List Int) (a1 a2 : Int) (w : World) (h0 : ArgI .i64 w A0 c0 l0) (_w1 : (Lit.int .i64 a1).wf = true) (_w2 : (Lit.int .i64 a2).wf = true) :
    Calls Try.prog 7 #[.slice A0 l0.length c0, .int .i64 a1, .int .i64 a2] w fun e w' => e = .returned (.bool true) ∧ Below w.heap.size w w' := by
  have hlen : l0.length ≤ 9223372036854775807 := by have := h0.le; have := h0.max; unfold maxLen at this; omega
  have hA0 := h0.cells
  clear h0
  have hkb := within_bd a1 0 7 (by omega)
  go_enter Try.func7, Try.ntmps7
  go_wp2_with fail
  refine (within_any a1 0 7 _ (by omega) (by omega) (by omega)).mono ?_
  rintro e w2 ⟨rfl, rfl⟩
  go_wp2_with fail
  obtain ⟨k, ek⟩ : ∃ k, k = 2 + within a1 0 7 := ⟨_, rfl⟩
  rw [← ek]
  have hk1 : 2 ≤ k ∧ k ≤ 9 := by omega
  clear ek hkb
  go_loopw [8, 9, 10] (fun vs vw i wr => ∃ (j : Nat) (As Aw cs cw : _), j ≤ l0.length ∧ j ≤ 30 ∧ i = .int .i64 j ∧ vs = .slice As j cs ∧ vw = .slice Aw j cw ∧ wr.ownsRow w.heap.size 2 1 (.slice As j cs) j (i64s (((l0.take j).map wantOf).map (k * ·))) ∧
      wr.ownsRow w.heap.size 2 1 (.slice Aw j cw) j (i64s ((l0.take j).map wantOf)) ∧ Apart (.slice As j cs) (.slice Aw j cw) ∧ Below w.heap.size w wr) (fun _ _ i _ => l0.length - (intOf i).toNat)
  case atStart => exact ⟨0, none, none, 0, 0, Nat.zero_le _, Nat.zero_le _, rfl, rfl, rfl, World.ownsRow_nil _ _ _ _, World.ownsRow_nil _ _ _ _, fun g h => by simp [Value.ownBlock] at h, Below.refl _ _⟩
  case round =>
    obtain ⟨j, As, Aw, cs, cw, hj, hj30, rfl, rfl, rfl, owns, ownw, HNE, hbel⟩ := hrel
    have hs := hbel.size
    by_cases hlt : j < l0.length ∧ j < 30
    · obtain ⟨hlt, hlt30⟩ := hlt
      obtain ⟨b, o, x, rfl, hb, hc0, hx⟩ := hA0.int_at hlt
      have hc := (hbel.cell (p := ⟨b, o + j, none⟩) hb).trans hc0
      have hxb := within_bd x 0 99 (by omega)
      have i1 : (j : Int) < l0.length := by omega
      have ht := hide (map_take_of wantOf hx.out)
      clear hc0 hA0
      go_wp2_with fail
      refine (within_any x 0 99 _ (by omega) (by omega) (by omega)).mono ?_
      rintro e w2 ⟨rfl, rfl⟩
      obtain ⟨y, ey⟩ : ∃ y, y = 1 + within x 0 99 := ⟨_, rfl⟩
      have hy : y = wantOf x := ey
      have hyb : 1 ≤ y ∧ y ≤ 100 := by omega
      have hp1 : 1 ≤ k * y := by have := Int.mul_le_mul (show 1 ≤ k by omega) hyb.1 (by omega) (by omega); omega
      have hp2 : k * y ≤ 900 := by have := Int.mul_le_mul hk1.2 hyb.2 (by omega) (by omega); omega
      obtain ⟨P, eP⟩ : ∃ P, P = k * y := ⟨_, rfl⟩
      have e1 : IntKind.i64.wrap (k * y) = P := by rw [IntWalk.i64_in _ (by omega)]; exact eP.symm
      have e2 : wrap64 (k * y) = P := by rw [eP]; unfold wrap64; omega
      have e3 : k * y = P := eP.symm
      have HY := hide hy; have HP := hide eP
      have eyx : 1 + within x 0 99 = y := ey.symm
      clear ey hy eP
      have HNE2 := hide HNE
      clear HNE
      go_upto_region 8 with (at_builtin; refine wpList_push2 elI64 owns (.int .i64 P) rfl _ _ rfl rfl rfl rfl (by omega) (by omega) ?_; intro A4 c4 w4 own4 g4 b4 l4)
      have ownw4 := own_grown ownw g4 HNE2.out.symm.grown
      have ap4 := hide (HNE2.out.push ownw (by omega) l4)
      have B4 := b4 _ _ (Nat.le_refl _) hbel
      have hs4 := B4.size
      clear g4 b4 l4 HNE2 owns ownw
      go_wp2_with (at_builtin; refine wpList_push2 elI64 ownw4 (.int .i64 y) rfl _ _ rfl rfl rfl rfl (by omega) (by omega) ?_; intro A5 c5 w5 own5 g5 b5 l5)
      have own45 := own_grown own4 g5 ap4.out.grown
      have ap5 := (ap4.out.symm.push own4 (by omega) l5).symm
      have B5 := b5 _ _ (Nat.le_refl _) B4
      go_roundw
      case rel => exact ⟨j + 1, A4, A5, c4, c5, by omega, by omega, by go_num, rfl, rfl, by rw [ht.out]; simpa [i64s, ← HY.out, HP.out] using own45, by rw [ht.out]; simpa [i64s, ← HY.out] using own5, ap5, B5⟩
      case measure => simp [intOf]; omega
    · obtain ⟨W, eW⟩ : ∃ W, W = (l0.take j).map wantOf := ⟨_, rfl⟩
      have hWl : W.length = j := by rw [eW]; simp; omega
      have hWb : ∀ n ∈ W, 1 ≤ n ∧ n ≤ 100 := by
        intro n hn
        rw [eW] at hn
        obtain ⟨m, _, rfl⟩ := List.mem_map.1 hn
        exact wantOf_bd m
      have hq := isum_bd W (fun n hn => by have := hWb n hn; omega : ∀ n ∈ W, 0 ≤ n ∧ n ≤ 100)
      obtain ⟨hr, hby⟩ := scale_ok (k := k) (by omega) hk1.2 (by omega) hWb
      rw [← eW] at owns ownw
      obtain ⟨Sx, eS⟩ : ∃ Sx, Sx = W.map (k * ·) := ⟨_, rfl⟩
      rw [← eS] at owns hr hby
      have hSl : Sx.length = j := by rw [eS]; simpa using hWl
      have hcs := Cells.of_own owns
      have hcw := Cells.of_own ownw
      have WL := hide hWl; have WB := hide hWb; have HR := hide hr; have HBY := hide hby; have SL := hide hSl
      clear eW eS hWl hWb hr hby hSl owns ownw HNE hA0
      have hway : (decide (j < l0.length) = false) ∨ (decide (j < l0.length) = true ∧ decide ((j : Int) < 30) = false) := by
        by_cases h : j < l0.length
        · exact .inr ⟨by simpa using h, by simp; omega⟩
        · exact .inl (by simpa using h)
      clear hlt
      rcases hway with d1 | ⟨d1, d2⟩
      all_goals
        go_wp2_with fail
        refine (sum11_any Aw _ cw W _ WL.out (by rw [WL.out]; omega) (fun n hn => by have := WB.out n hn; omega) hcw).mono ?_
        rintro e w2 ⟨rfl, rfl⟩
        obtain ⟨q, eq⟩ : ∃ q, q = W.sum := ⟨_, rfl⟩
        have hr := HR.out
        have hby := HBY.out
        rw [← eq] at hr hby hq ⊢
        have HR1 := hide hr; have HBY1 := hide hby
        clear eq hr hby HR HBY
        have htb := within_bd a2 0 40 (by omega)
        go_wp2_with fail
        refine (within_any a2 0 40 _ (by omega) (by omega) (by omega)).mono ?_
        rintro e w2 ⟨rfl, rfl⟩
        obtain ⟨t, et⟩ : ∃ t, t = within a2 0 40 := ⟨_, rfl⟩
        rw [← et] at htb ⊢
        clear et
        have hsh : shareP Sx (t - 1) 0 1 q = W := by
          obtain ⟨_, hq0, hbb, _⟩ := (rightB_iff _ _).1 HR1.out
          rw [share_none HR1.out (by omega) (by omega) (topK_zero hbb hq0)]
          exact HBY1.out
        have HSH := hide hsh
        clear hsh
        go_wp2_with fail
        refine (plain_yes As _ cs Sx 1 q _ SL.out HR1.out (by omega) hcs).mono ?_
        rw [HBY1.out]
        intro e w2 h
        obtain ⟨A2, c2, rfl, -, hA2, -, -, hb⟩ := h.n WL.out
        have B2 := nxt hbel hb
        have hcs2 := hcs.below hb
        have hcw2 := hcw.below hb
        clear h hb hcs hcw hbel
        go_wp2_with fail
        refine (same_b A2 Aw _ _ c2 cw W W _ WL.out WL.out (by rw [WL.out]; omega) (by rw [WL.out]; omega) hA2 hcw2).mono ?_
        simp only [decide_true]
        rintro e w3 ⟨rfl, hb⟩
        have B3 := nxt B2 hb
        have hcs3 := hcs2.below hb
        have hcw3 := hcw2.below hb
        clear hb hcs2 hcw2 B2 hA2
        go_wp2_with fail
        refine (pshare_any As _ cs Sx (t - 1) 0 1 q _ SL.out (by rw [SL.out]; omega) hcs3).mono ?_
        rw [HSH.out]
        intro e w4 h
        obtain ⟨A4, c4, rfl, -, hA4, -, -, hb⟩ := h.n WL.out
        have B4 := nxt B3 hb
        have hcw4 := hcw3.below hb
        clear h hb hcs3 hcw3 B3
        go_wp2_with fail
        refine (same_b A4 Aw _ _ c4 cw W W _ WL.out WL.out (by rw [WL.out]; omega) (by rw [WL.out]; omega) hA4 hcw4).mono ?_
        simp only [decide_true]
        rintro e w5 ⟨rfl, hb⟩
        have B5 := nxt B4 hb
        clear hb hcw4 hA4 B4
        go_wp2_with fail
        refine (known11_any _).mono ?_
        rintro e w6 ⟨rfl, hb⟩
        go_wp2
        go_ret
        exact ⟨rfl, nxt B5 hb⟩
end Go.Proofs.Ytllandfjdpeooaa
