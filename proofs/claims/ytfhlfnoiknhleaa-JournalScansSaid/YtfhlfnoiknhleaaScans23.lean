/-
  The walk of JournalScans.
-/
import Derived.Test.YtfhlfnoiknhleaaRScan
import Derived.Test.YtfhlfnoiknhleaaKeepB
import Derived.Test.YtfhlfnoiknhleaaTurned23
import Derived.Test.YtfhlfnoiknhleaaRoom
import Derived.Deep.DeepCutAuto
import Derived.Deep.CutBlock
namespace Go.Proofs.Ytfhlfnoiknhleaa
open Go.RowKit
set_option linter.unusedVariables false

theorem own_room {w : World} {base : Nat} {e : TypeId} {size : Nat} {A : Option Addr} {n c : Nat} {xs : List Value} (h : w.ownsRow base e size (.slice A n c) n xs) : n ≤ c ∧ c ≤ 9223372036854775807 := by
  obtain ⟨A', c', hv, h1, h2⟩ := own_shape h
  injection hv with _ _ hc
  subst hc
  exact ⟨h1, h2⟩
/-- A slice of slices of bytes that may be read, with room told. -/
def RowsC (w : World) (A : Option Addr) (ls : List (List UInt8)) : Prop :=
  ∀ (i : Nat) (l : List UInt8), ls[i]? = some l → ∃ b o A' c', A = some ⟨b, o, none⟩ ∧ b < w.heap.size ∧ w.cell? ⟨b, o + i, none⟩ = some (.slice A' l.length c') ∧ Cells w A' (u8s l) ∧ l.length ≤ c' ∧ c' ≤ 9223372036854775807
theorem RowsC.below {w w' : World} {A : Option Addr} {ls : List (List UInt8)} (h : RowsC w A ls) (hb : Below w.heap.size w w') : RowsC w' A ls := by
  intro i l hl
  obtain ⟨b, o, A', c', rfl, h1, h2, h3, h4⟩ := h i l hl
  exact ⟨b, o, A', c', rfl, Nat.lt_of_lt_of_le h1 hb.size, (hb.cell (p := ⟨b, o + i, none⟩) h1).trans h2, h3.below hb, h4⟩
theorem rows_lit (w : World) (A1 A2 A3 : Option Addr) (n1 n2 n3 c1 c2 c3 : Nat) (a b c : List UInt8) (ha : a.length = n1) (hb : b.length = n2) (hc : c.length = n3) (hA : Cells w A1 (u8s a)) (hB : Cells w A2 (u8s b)) (hC : Cells w A3 (u8s c))
    (k1 : n1 ≤ c1 ∧ c1 ≤ 9223372036854775807) (k2 : n2 ≤ c2 ∧ c2 ≤ 9223372036854775807) (k3 : n3 ≤ c3 ∧ c3 ≤ 9223372036854775807) (e : TypeId) :
    RowsC (w.alloc (.cells #[.slice A1 n1 c1, .slice A2 n2 c2, .slice A3 n3 c3] e)) (some ⟨w.heap.size, 0, none⟩) [a, b, c] := by
  subst ha hb hc
  have hL := Cells.lit w #[.slice A1 a.length c1, .slice A2 b.length c2, .slice A3 c.length c3] e
  obtain ⟨b', o', hA', hb', hc'⟩ := hL (by simp)
  injection hA' with hA'
  injection hA' with e1 e2
  subst e1; subst e2
  intro i l hl
  match i, hl with
  | 0, hl => simp at hl; subst hl; exact ⟨_, _, A1, c1, rfl, hb', hc' 0 _ rfl, hA.alloc _, k1⟩
  | 1, hl => simp at hl; subst hl; exact ⟨_, _, A2, c2, rfl, hb', hc' 1 _ rfl, hB.alloc _, k2⟩
  | 2, hl => simp at hl; subst hl; exact ⟨_, _, A3, c3, rfl, hb', hc' 2 _ rfl, hC.alloc _, k3⟩
  | i + 3, hl => simp at hl
set_option maxRecDepth 100000 in
set_option maxHeartbeats 1600000 in
theorem journalScans_walk (A0 : Option Addr) (n0 c0 : Nat) (ls : List (List Int)) (A1 : Option Addr) (c1 : Nat) (l1 : List Int) (a2 a3 : Int) (a4 : Bool) (w : World) (h0 : ArgLL .u8 w A0 n0 c0 ls) (h1 : ArgI .u8 w A1 c1 l1) (_w2 : (Lit.int .i64 a2).wf = true) (w3 : (Lit.int .u8 a3).wf = true) :
    Calls Try.prog 4 #[.slice A0 n0 c0, .slice A1 l1.length c1, .int .i64 a2, .int .u8 a3, .bool a4] w fun e w' => e = .returned (.bool true) ∧ Below w.heap.size w w' := by
  obtain ⟨x, rfl⟩ := byte_of' w3
  have hn0 : n0 ≤ 9223372036854775807 := by have := h0.le; have := h0.max; unfold maxLen at this; omega
  have hR := Recs.of_arg h0
  obtain ⟨rs, ers⟩ : ∃ rs, rs = ls.map toB := ⟨_, rfl⟩
  rw [← ers] at hR
  have hB0 := h1.bytesE
  have hl1 := h1.le
  have hm1 : c1 ≤ 9223372036854775807 := h1.max
  have hbl := length_toB l1
  obtain ⟨n1, e1⟩ : ∃ n1, n1 = l1.length := ⟨_, rfl⟩
  rw [← e1] at hl1 hbl ⊢
  obtain ⟨m1, em1⟩ : ∃ m, m = min n1 100 := ⟨_, rfl⟩
  obtain ⟨M, eM⟩ : ∃ M, M = (toB l1).take 100 := ⟨_, rfl⟩
  have hM : M.length = m1 := by rw [eM, List.length_take, hbl, em1]; omega
  have hMc : Cells w A1 (u8s M) := by rw [eM]; exact hB0.takeB 100
  have hm100 : m1 ≤ 100 := by omega
  have HML := hide hM
  have E1 := hide em1
  clear hB0 h1 h0 _w2 w3 ers e1 eM em1 hM hbl
  go_enter Try.func4, Try.ntmps4
  go_wp2_with fail
  refine (frames_any A0 n0 c0 rs _ hR hn0).mono ?_
  obtain ⟨L, eL⟩ : ∃ L, L = framesC (cutR rs 20) := ⟨_, rfl⟩
  have hlen := length_frames20 rs
  rw [← eL] at hlen ⊢
  obtain ⟨N, eN⟩ : ∃ N, N = L.length := ⟨_, rfl⟩
  rw [← eN] at hlen
  have HN := hide eN
  intro e w1 hx
  obtain ⟨AF, cF, rfl, own1, hF, hFc, hFm, B1⟩ := hx.n HN.out.symm
  change w1.ownsRow w.heap.size 5 1 (.slice AF N cF) N (u8s L) at own1
  have hFm' : cF ≤ 9223372036854775807 := hFm
  clear hx eL eN hFm
  go_upto_if 26 with (fail)
  go_cut [11] (fun v wx => ∃ (n : Nat) (X : List UInt8), v = .slice AF n cF ∧ Hid (X.length = n) ∧ n ≤ N ∧ Hid (Cells wx AF (u8s X)) ∧ Below w.heap.size w wx)
  case first =>
    by_cases hz : 0 < N
    · obtain ⟨gx, rfl, hgx, hgl⟩ := own_some own1 hz
      have hwb := within_bd a2 0 ((N : Int) - 1) (by omega)
      obtain ⟨j, hj⟩ : ∃ j : Nat, within a2 0 ((N : Int) - 1) = j := ⟨(within a2 0 ((N : Int) - 1)).toNat, by omega⟩
      have hjl : j < N := by omega
      have HWJ := hide hj
      clear hj hwb
      obtain ⟨b5, o5, y, hA5, hb5, hc5, hy⟩ := (Cells.of_own own1).byte_at (k := j) (by rw [← HN.out]; exact hjl)
      injection hA5 with hA5
      injection hA5 with e1 e2
      subst e1; subst e2
      rw [Nat.zero_add] at hc5
      have hf5 := own1.frozenAt j
      have hxr := xor_u8' y x
      have st := own1.stored j (.int .u8 ((y ^^^ x).toNat : Int))
      have hset : (u8s L).set j (.int .u8 ((y ^^^ x).toNat : Int)) = u8s (L.set j (y ^^^ x)) := by simp [u8s, List.map_set]
      rw [hset] at st
      obtain ⟨V, eV⟩ : ∃ V, V = (y ^^^ x).toNat := ⟨_, rfl⟩
      obtain ⟨X, eX⟩ : ∃ X, X = L.set j (y ^^^ x) := ⟨_, rfl⟩
      have hXl : X.length = N := by rw [eX, List.length_set]; exact HN.out.symm
      rw [← eV] at hxr st
      rw [← eX] at st
      have BX : Below w.heap.size w (w1.setCell ⟨gx, j, none⟩ (.int .u8 (V : Int))) := B1.setCell (by exact hgx) _
      have HXC := hide (Cells.of_own st.1)
      have HXL := hide hXl
      clear st eV eX hset hXl own1 hy B1 hF
      have i1 : (0 : Int) < (N : Int) := by omega
      have i2 : (j : Int) < (N : Int) := by omega
      have i3 : (j : Int) ≤ cF := by omega
      go_wp2_with fail
      refine (within_any a2 0 _ _ (by omega) (by omega) (by omega)).mono ?_
      rw [HWJ.out]
      rintro e u ⟨rfl, rfl⟩
      cases a4
      · go_wp2_with fail
        go_meet
        exact ⟨N, X, rfl, HXL, Nat.le_refl _, HXC, BX⟩
      · go_wp2_with fail
        go_meet
        exact ⟨j, X.take j, rfl, by show _ = _; rw [List.length_take, HXL.out]; omega, by omega, HXC.out.takeB j, BX⟩
    · obtain rfl : N = 0 := by omega
      go_wp2_with fail
      go_meet
      exact ⟨0, L, rfl, HN.out.symm, Nat.le_refl _, hF, B1⟩
  obtain ⟨n, X, rfl, HXL, hnN, HXC, BX⟩ := hcut
  obtain ⟨w2, ew2⟩ : ∃ w2, w2 = wc := ⟨_, rfl⟩
  rw [← ew2] at HXC BX ⊢
  clear ew2 own1 hF B1
  go_wp2_with fail
  refine (cut_any A1 n1 c1 100 _ hl1 hm1 (by omega) (by omega)).mono ?_
  rw [show min n1 (100 : Int).toNat = m1 from E1.out.symm]
  rintro e u ⟨rfl, rfl⟩
  have hMc2 := hMc.below BX
  go_wp2_with (at_builtin; refine wpList_app elU8 (World.ownsRow_lit (base := w2.heap.size) w2 #[] 0 (Nat.le_refl _) (Nat.zero_le _) rfl) (news := u8s X) rfl _ _ rfl rfl rfl (by rw [length_u8s]; exact HXL.out) (HXC.out.alloc _) (u8s_one X) (by omega) (by simp) n (u8s X) (by omega) (by simp) ?_; intro A4 c4 w4 p4)
  have B4 := p4.below _ _ (Nat.le_refl _) (nxt_alloc (Below.refl _ _) _)
  have own4 := p4.own
  clear p4
  refine (cut_any A1 n1 c1 100 _ hl1 hm1 (by omega) (by omega)).mono ?_
  rw [show min n1 (100 : Int).toNat = m1 from E1.out.symm]
  rintro e u ⟨rfl, rfl⟩
  go_upto_block 0 with (at_builtin; refine wpList_app elU8 own4 (news := u8s M) rfl _ _ rfl rfl rfl (by rw [length_u8s]; exact HML.out) (hMc2.below B4) (u8s_one M) (by omega) B4.size (n + m1) (u8s (X ++ M)) rfl (by simp [u8s]) ?_; intro A5 c5 w5 p5)
  have B5 := p5.below _ _ (Nat.le_refl _) B4
  have own5 := p5.own
  have hXM : (X ++ M).length = n + m1 := by rw [List.length_append, HXL.out, HML.out]
  have RL := fun e => rows_lit w5 AF A1 A5 n m1 (n + m1) cF c1 c5 X M (X ++ M) HXL.out HML.out hXM (HXC.out.below B5) (hMc2.below B5) (Cells.of_own own5) ⟨by omega, hFm'⟩ ⟨by have := E1.out; omega, hm1⟩ (own_room own5) e
  have B7 := nxt BX B5
  have hrow : ∀ (i : Nat) (l : List UInt8), ([X, M, X ++ M] : List (List UInt8))[i]? = some l → l.length ≤ 10000 := by
    have hx := HXL.out; have hm := HML.out
    intro i l hl
    match i, hl with
    | 0, hl => simp at hl; subst hl; omega
    | 1, hl => simp at hl; subst hl; omega
    | 2, hl => simp at hl; subst hl; omega
    | i + 3, hl => simp at hl
  obtain ⟨LL, eLL⟩ : ∃ LL, LL = ([X, M, X ++ M] : List (List UInt8)) := ⟨_, rfl⟩
  have hLL : LL.length = 3 := by rw [eLL]; rfl
  rw [← eLL] at RL hrow
  have HLL := hide hLL
  have HROW := hide hrow
  clear p5 own4 B4 hMc2 own5 eLL hLL hrow HXC hXM
  have RL := RL 30
  obtain ⟨wL, ewL⟩ : ∃ wL, wL = w5.alloc (.cells #[.slice AF n cF, .slice A1 m1 c1, .slice A5 (n + m1) c5] 30) := ⟨_, rfl⟩
  have BL : Below w.heap.size w wL := by rw [ewL]; exact nxt_alloc B7 _
  rw [← ewL] at RL ⊢
  obtain ⟨g, eg⟩ : ∃ g, g = w5.heap.size := ⟨_, rfl⟩
  rw [← eg] at RL ⊢
  have RL := hide RL
  clear ewL eg B7 B5 BX
  go_wp2_with fail
  go_loopw [56] (fun i wr => ∃ k : Nat, k ≤ 3 ∧ i = .int .i64 k ∧ Below wL.heap.size wL wr) (fun i _ => 3 - (intOf i).toNat)
  case atStart => exact ⟨0, by omega, rfl, Below.refl _ _⟩
  case round =>
    obtain ⟨k, hk, rfl, BB⟩ := hrel
    by_cases hlt : k < 3
    · have i1 : (k : Int) < 3 := by omega
      obtain ⟨l, hll⟩ : ∃ l, LL[k]? = some l := ⟨LL[k]'(by rw [HLL.out]; exact hlt), List.getElem?_eq_getElem _⟩
      obtain ⟨b, o, A', c', hA, hb, hc, hC, hcm'⟩ := (RL.out.below BB) k l hll
      injection hA with hA
      injection hA with e1 e2
      subst e1; subst e2
      rw [Nat.zero_add] at hc
      have hl4 := HROW.out k l hll
      obtain ⟨m, hm⟩ : ∃ m, l.length = m := ⟨_, rfl⟩
      rw [hm] at hc hl4 hcm'
      have HM := hide hm
      clear hm hll
      go_wp2_with fail
      refine (roomy_any A' m c' l 165 _ HM.out (by omega) hC).mono ?_
      intro e w8 h8
      obtain ⟨A8, c8, rfl, own8, hF8, hle8, hmx8, b8⟩ := h8.n (n := m + 80) (by rw [length_roomy, HM.out])
      have hmx8' : c8 ≤ 9223372036854775807 := hmx8
      have B8 := BB.trans (b8.mono BB.size)
      have hC8 := hC.below b8
      have hT8 : Cells w8 A8 (u8s l) := by have := hF8.takeB l.length; rwa [take_roomy] at this
      have i2 : (m : Int) ≤ c8 := by omega
      clear hc h8 own8 hC b8
      go_wp2_with fail
      refine (scan_any A8 m c8 l _ HM.out (by omega) (by omega) hmx8' hT8).mono ?_
      obtain ⟨O, eO⟩ : ∃ O, O = scanL l 0 := ⟨_, rfl⟩
      rw [← eO]
      have EO := hide eO
      clear eO
      rintro e w9 ⟨Ap, np, cp, vp, rfl, hnp, ownp, hBp, hcp, -, b9⟩
      have B9 := B8.trans (b9.mono B8.size)
      have Rp := RowsB.row (Cells.of_own ownp) hBp
      have hnpl : np ≤ 9223372036854775807 := Nat.le_trans (own_room ownp).1 (own_room ownp).2
      have hC9 := hC8.below b9
      have hF9 := hF8.below b9
      clear ownp hBp b9 hC8 hF8 hT8 B8
      go_wp2_with fail
      refine (refScan_any A' m c' l _ HM.out (by omega) hcm'.1 hcm'.2 hC9).mono ?_
      rw [← EO.out]
      rintro e w10 ⟨Aq, nq, cq, vq, rfl, hnq, ownq, hBq, hcq, -, b10⟩
      obtain rfl : np = nq := hnp.symm.trans hnq
      have B10 := B9.trans (b10.mono B9.size)
      have Rq := RowsB.row (Cells.of_own ownq) hBq
      have Rp10 := Rp.below b10
      have hC10 := hC9.below b10
      have hF10 := hF9.below b10
      obtain ⟨rows, stop, why⟩ := O
      simp only at hnp Rp10 Rq ⊢
      have HNP := hide hnp
      clear ownq hBq b10 hC9 hF9 Rp B9 hnp hnq EO
      go_wp2_with fail
      refine (keepBytes_same _ _ np _ _ rows _ HNP.out (by omega) Rp10 Rq).mono ?_
      rintro e w11 ⟨rfl, b11⟩
      have B11 := B10.trans (b11.mono B10.size)
      have hC11 := hC10.below b11
      have hF11 := hF10.below b11
      clear Rp10 Rq b11 hC10 hF10 B10
      go_wp2_with fail
      refine (intact_true A8 A' (m + 80) c8 m c' l 165 _ rfl hle8 hmx8' HM.out (by omega) hF11 hC11).mono ?_
      rintro e w12 ⟨rfl, b12⟩
      have B12 := B11.trans (b12.mono B11.size)
      clear B11 b12 hC11 hF11
      go_wp2_with fail
      go_roundw
      case rel => exact ⟨k + 1, by omega, by go_num, B12⟩
      case measure => simp [intOf]; omega
    · obtain rfl : k = 3 := by omega
      go_wp2_with fail
      refine (known23_any _).mono ?_
      rintro e w6 ⟨rfl, hb⟩
      go_wp2_with fail
      go_ret
      exact ⟨rfl, nxt (nxt BL BB) hb⟩
end Go.Proofs.Ytfhlfnoiknhleaa
