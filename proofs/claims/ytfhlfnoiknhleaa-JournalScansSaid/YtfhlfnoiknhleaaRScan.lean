/-
  cornhillref23.Scan.
-/
import Derived.Test.YtfhlfnoiknhleaaScan
import Derived.Test.YtfhlfnoiknhleaaROpen
namespace Go.Proofs.Ytfhlfnoiknhleaa
open Go.RowKit
set_option linter.unusedVariables false

set_option maxHeartbeats 1600000 in
theorem refScan_any (A0 : Option Addr) (n c0 : Nat) (l : List UInt8) (w : World) (hn : l.length = n) (hl : n ≤ 1000000000000) (hc : n ≤ c0) (hcm : c0 ≤ 9223372036854775807) (hA : Cells w A0 (u8s l)) :
    Calls Try.prog 20 #[.slice A0 n c0] w (ScanAt w (scanL l 0)) := by
  obtain ⟨O, eO⟩ : ∃ O, O = scanL l 0 := ⟨_, rfl⟩
  rw [← eO]
  have HO := hide eO
  have HN := hide hn
  clear eO hn
  go_enter Try.func20, Try.ntmps20
  go_wp2_with fail
  go_loopw [5, 6] (fun v i wr => ∃ (p k : Nat) (rows : List (List UInt8)) (A : Option Addr) (c : Nat) (vs : List Value), p ≤ n ∧ k ≤ p ∧ i = .int .i64 p ∧ v = .slice A k c ∧ Hid (rows.length = k) ∧ Hid (O = ⟨rows ++ (scanL (l.drop p) p).rows, (scanL (l.drop p) p).stop, (scanL (l.drop p) p).why⟩) ∧
    Hid (wr.ownsRow w.heap.size 30 1 (.slice A k c) k vs) ∧ Hid (BRow wr 0 vs rows) ∧ Hid (∀ v ∈ vs, ∀ g, v.ownBlock = some g → w.heap.size ≤ g ∧ g < wr.heap.size) ∧ Below w.heap.size w wr) (fun _ i _ => n - (intOf i).toNat)
  case atStart => exact ⟨0, 0, [], none, 0, [], Nat.zero_le _, by omega, rfl, rfl, rfl, by rw [HO.out]; rfl, World.ownsRow_nil _ _ _ _, BRow.nil _ _, hide (fun v hv => absurd hv (by simp)), Below.refl _ _⟩
  case round =>
    obtain ⟨p, k, rows, A, c, vs, hp, hkp, rfl, rfl, HK, HP, HW, HB, HF, B⟩ := hrel
    have hle := own_shape_le HW.out
    by_cases hlt : p < n
    · have i1 : (p : Int) < n := by omega
      have hne : l.drop p ≠ [] := by
        intro h; have := congrArg List.length h; rw [List.length_drop, HN.out] at this; simp at this; omega
      have hod := openL_drop (l := l) (p := p) (by rw [HN.out]; omega)
      go_wp2_with fail
      refine (refOpen_any A0 n c0 l p _ HN.out hl hc hcm (hA.below B)).mono ?_
      rw [hod]
      obtain ⟨o, eo⟩ : ∃ o, o = openF (l.drop p) p := ⟨_, rfl⟩
      rw [← eo]
      intro e w2 h2
      obtain ⟨AX, m, cX, rfl, hm, hX0, hlt9, hb⟩ := h2.getS
      have hF2 : Hid (∀ v ∈ vs, ∀ g, v.ownBlock = some g → w.heap.size ≤ g ∧ g < w2.heap.size) := hide fun v hv g hg => ⟨(HF.out v hv g hg).1, Nat.lt_of_lt_of_le (HF.out v hv g hg).2 hb.size⟩
      have hlt8 : Hid (∀ g, (Value.slice AX m cX).ownBlock = some g → w.heap.size ≤ g ∧ g < w2.heap.size) := hide fun g hg => ⟨Nat.le_trans B.size (hlt9 g hg).1, (hlt9 g hg).2⟩
      clear HF hlt9
      have hX := hX0 0
      have B2 := nxt B hb
      have own2 := own_below HW.out hb
      have HB2 := hide (HB.out.below hb)
      obtain ⟨P, s, y⟩ := o
      simp only at hm hX
      by_cases hy : y = 0
      · subst hy
        obtain ⟨e1, e2, e3⟩ := open_bd eo.symm
        rw [hm] at e1 e2 e3
        rw [List.length_drop, HN.out] at e2
        have hsc := scan_ok hne eo.symm
        rw [hm, List.drop_drop, show p + (m + 6) = s by omega] at hsc
        have hP' : Hid (O = ⟨(rows ++ [P]) ++ (scanL (l.drop s) s).rows, (scanL (l.drop s) s).stop, (scanL (l.drop s) s).why⟩) := by
          show _ = _
          rw [HP.out, hsc]; simp
        have hK' : Hid ((rows ++ [P]).length = k + 1) := by show _ = _; rw [List.length_append, HK.out]; rfl
        have hs : s ≤ n := by omega
        have hps : p < s := by omega
        have hks : k + 1 ≤ s := by omega
        have HM := hide hm
        clear hsc e1 e2 e3 eo hod hne HB HW B hb h2 hm HP HK
        go_wp2_with (at_builtin; refine wpList_push elBB own2 (.slice AX m cX) rfl _ _ rfl rfl rfl rfl (by omega) B2.size ?_; intro A4 c4 w4 own4 g4 b4)
        have HK2 := hide hK'
        have HB4 := hide ((HB2.out.grown (own_base own2 (Nat.zero_le _)) g4).snoc HM.out (hX.grown (own_base own2 (Nat.zero_le _)) g4))
        have B4 := b4 _ _ (Nat.le_refl _) B2
        have HF4 : Hid (∀ v ∈ vs ++ [Value.slice AX m cX], ∀ g, v.ownBlock = some g → w.heap.size ≤ g ∧ g < w4.heap.size) := hide fun v hv g hg => by
          have hs4 := g4.size
          rcases List.mem_append.1 hv with hv | hv
          · have := hF2.out v hv g hg; omega
          · rw [List.mem_singleton] at hv; subst hv; have := hlt8.out g hg; omega
        clear g4 b4 own2 hX hX0 HB2 hK' hF2 hlt8
        go_roundw
        case rel => exact ⟨s, k + 1, _, A4, c4, _, hs, hks, rfl, rfl, HK2.out, hP', own4, HB4, HF4, B4⟩
        case measure => simp [intOf]; omega
      · by_cases hy2 : y = 10
        · subst hy2
          have hsc := scan_end hne (by rw [← eo])
          have hO : O = ⟨rows, p, 0⟩ := by rw [HP.out, hsc]; simp
          have HO2 := hide hO
          clear hsc hO eo hod hne HP HW HB hb h2 hm HO
          go_wp2_with fail
          go_ret3
          rw [HO2.out]
          exact ⟨A, k, c, vs, rfl, HK.out, own2, HB2.out, hle, hF2.out, B2⟩
        · have hsc := scan_bad hne (by rw [← eo]; exact hy) (by rw [← eo]; exact hy2)
          have hO : O = ⟨rows, p, 14⟩ := by rw [HP.out, hsc]; simp
          have HO2 := hide hO
          have d1 : ((y : Int) == 0) = false := by simp; omega
          have d2 : ((y : Int) == 10) = false := by simp; omega
          clear hsc hO eo hod hne HP HW HB hb h2 hm HO
          go_wp2_with fail
          go_ret3
          rw [HO2.out]
          exact ⟨A, k, c, vs, rfl, HK.out, own2, HB2.out, hle, hF2.out, B2⟩
    · have hpn : l.drop p = [] := List.eq_nil_of_length_eq_zero (by rw [List.length_drop, HN.out]; omega)
      have hO : O = ⟨rows, p, 0⟩ := by rw [HP.out, hpn, scan_nil]; simp
      have HO2 := hide hO
      have i1 : ¬ (p : Int) < n := by omega
      clear hpn hO HP HO
      go_wp2_with fail
      go_ret3
      rw [HO2.out]
      exact ⟨A, k, c, vs, rfl, HK.out, HW.out, HB.out, hle, HF.out, B⟩
end Go.Proofs.Ytfhlfnoiknhleaa
