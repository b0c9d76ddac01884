/-
  report.Read, and the document's. (Printed by tools/gen7l.py.)
-/
import Derived.Test.YtbfjdhbgpjenbaaDoorRepA
import Derived.Test.YtbfjdhbgpjenbaaDoorRepD
import Derived.Test.YtbfjdhbgpjenbaaDoorROpen
namespace Go.Proofs.YtbfjdhbgpjenbaaDoor
set_option linter.unusedSimpArgs false
open Go.RowKit
set_option linter.unusedVariables false

theorem Tryd.infoRp : (Tryd.prog.info? 24).map (fun i => (i.zero, i.size, i.bytes)) = some (some Rep.zero.val, 8, 64) := by kernel_rfl
theorem elRp : ElemS Tryd.prog 38 24 Rep.zero.val 8 64 :=
  ⟨Tryd.underlying38, let ⟨i, h, h0, h1, h2⟩ := info_parts Tryd.infoRp; ⟨i, h, h0, h1, h2⟩, rfl, by omega, by omega⟩
/-- What Read answers. -/
def ReadsAt (w : World) (z : ReadsL) (e : Ending) (w' : World) : Prop :=
  ∃ A c, e = .returned (.tuple #[.slice A z.rows.length c, .int .i64 (z.why : Nat)]) ∧ w'.ownsRow w.heap.size 24 8 (.slice A z.rows.length c) z.rows.length (repsV z.rows) ∧ Below w.heap.size w w'
theorem ReadsAt.of {w w' : World} {z : ReadsL} {A : Option Addr} {N c : Nat} {X : List Rep} {y : Nat} (hz : z = ⟨X, y⟩) (hN : X.length = N) (h : w'.ownsRow w.heap.size 24 8 (.slice A N c) N (repsV X)) (hb : Below w.heap.size w w') :
    ReadsAt w z (.returned (.tuple #[.slice A N c, .int .i64 (y : Nat)])) w' := by
  subst hz; subst hN
  exact ⟨A, c, rfl, h, hb⟩
theorem openL_at {b : List UInt8} {p : Nat} (h : p ≤ b.length) : openL b (p : Int) = openF (b.drop p) p := by
  unfold openL
  rw [if_neg (by omega)]
  rfl
theorem openF_bd {t b : List UInt8} {p e : Nat} (h : openF t p = ⟨b, e, 0⟩) : e = p + (b.length + 6) ∧ b.length + 6 ≤ t.length ∧ b.length ≤ 255 := by
  obtain ⟨rest, h1, h2, h3⟩ := openF_ok h rfl
  have h4 : e = p + b.length + 6 := h3
  refine ⟨by omega, ?_, h2⟩
  rw [h1]
  simp [length_frameL]
theorem opened_get {w w' : World} {P : List UInt8} {s y m : Nat} {e : Ending} (h : OpenedAt w ⟨P, s, y⟩ e w') (hn : P.length = m) :
    ∃ A c, e = .returned (.tuple #[.slice A m c, .int .i64 (s : Nat), .int .i64 (y : Nat)]) ∧ Cells w' A (u8s P) ∧ m ≤ c ∧ c ≤ maxLen ∧ Below w.heap.size w w' := by
  subst hn
  obtain ⟨A, c, rfl, -, hA, hc, hm, hb⟩ := h
  exact ⟨A, c, rfl, hA, hc, hm, hb⟩
theorem dec_get {w w' : World} {b : List UInt8} {e : Ending} {r : Rep} {y : Nat} (h : DecAt w b e w') (hd : decR b = (r, y)) :
    e = .returned (.tuple #[.agg #[.int .i64 r.kind, .int .i64 r.id, .int .i64 r.inst, .int .i64 r.side, .int .i64 r.price, .int .i64 r.qty, .int .i64 r.left, .int .i64 r.why], .int .i64 (y : Nat)]) ∧ Below w.heap.size w w' := by
  unfold DecAt at h
  rw [hd] at h
  exact h
set_option maxRecDepth 100000 in
set_option maxHeartbeats 1600000 in
theorem read_any (A : Option Addr) (n c : Nat) (b : List UInt8) (w : World) (hn : b.length = n) (hl : n ≤ 1000000) (hc : n ≤ c) (hcm : c ≤ 9223372036854775807) (hA : Cells w A (u8s b)) :
    Calls Tryd.prog 14 #[.slice A n c] w (ReadsAt w (readL b 0)) := by
  obtain ⟨Z, eZ⟩ : ∃ Z, Z = readL b 0 := ⟨_, rfl⟩
  rw [← eZ]
  have HZ := hide eZ
  have HN := hide hn
  clear eZ hn
  go_enter Tryd.func14, Tryd.ntmps14
  go_wp2_with fail
  go_loopw [4, 5] (fun v a wr => ∃ (p N : Nat) (X : List Rep) (A' : Option Addr) (c' : Nat), a = .int .i64 (p : Int) ∧ p ≤ n ∧ v = .slice A' N c' ∧ N ≤ p ∧ Hid (X.length = N) ∧ Hid (Z = ⟨X ++ (readL (b.drop p) p).rows, (readL (b.drop p) p).why⟩) ∧
    Hid (wr.ownsRow w.heap.size 24 8 (.slice A' N c') N (repsV X)) ∧ Below w.heap.size w wr) (fun _ a _ => n - (intOf a).toNat)
  case atStart => exact ⟨0, 0, [], none, 0, rfl, Nat.zero_le _, rfl, by omega, rfl, by rw [HZ.out]; rfl, World.ownsRow_nil _ _ _ _, Below.refl _ _⟩
  case round =>
    obtain ⟨p, N, X, A', c', rfl, hp, rfl, hNp, HX, HS, HO, B⟩ := hrel
    by_cases hlt : p < n
    · have i1 : (p : Int) < n := by omega
      have hol := openL_at (b := b) (p := p) (by rw [HN.out]; omega)
      have htl : (b.drop p).length = n - p := by rw [List.length_drop, HN.out]
      obtain ⟨t, et⟩ : ∃ t, t = b.drop p := ⟨_, rfl⟩
      have ht : t ≠ [] := by
        intro h0
        have := congrArg List.length h0
        rw [et, htl] at this
        simp at this; omega
      have hdd : ∀ k, t.drop k = b.drop (p + k) := fun k => by rw [et, List.drop_drop]
      rw [← et] at hol htl
      rw [← et] at HS
      obtain ⟨⟨x, e, y⟩, hx⟩ : ∃ q, openF t p = q := ⟨_, rfl⟩
      obtain ⟨m, hm⟩ : ∃ m, x.length = m := ⟨_, rfl⟩
      rw [hx] at hol
      have HM := hide hm
      have hA1 := hA.below B
      have H1 := hide ht
      have H2 := hide hx
      have H3 := hide htl
      have H4 := hide hdd
      have H5 := hide hol
      clear ht hx htl hdd hol et hm hA
      go_wp2_with fail
      refine (open_any A n c b _ _ HN.out (by omega) hc hcm hA1).mono ?_
      rw [H5.out]
      intro e1 w1 h1
      obtain ⟨A1, c1, rfl, hA2, k1, k2, b1⟩ := opened_get h1 HM.out
      have HO2 := hide (own_below HO.out b1)
      have B1 := nxt B b1
      clear h1 HO B b1 hA1
      by_cases hy : y = 0
      rotate_left
      · have hZ : Z = ⟨X, y⟩ := by
          have hw : (openF t p).why ≠ 0 := by rw [H2.out]; exact hy
          rw [HS.out, read_bad H1.out hw, H2.out]; simp
        have d0 : ((y : Int) != 0) = true := by simp; omega
        have HZ2 := hide hZ
        clear hZ hy
        go_wp2_with fail
        go_ret2
        exact ReadsAt.of HZ2.out HX.out HO2.out B1
      subst hy
      obtain ⟨hes, hxl, hx255⟩ := openF_bd H2.out
      rw [HM.out] at hes hxl hx255
      rw [H3.out] at hxl
      obtain ⟨⟨r, y⟩, hd⟩ : ∃ q, decR x = q := ⟨_, rfl⟩
      have HD := hide hd
      clear hd
      go_wp2_with fail
      refine (decode_any A1 m c1 x _ HM.out (by omega) k1 (by unfold maxLen at k2; omega) hA2).mono ?_
      intro e2 w2 h2
      obtain ⟨rfl, b2⟩ := dec_get h2 HD.out
      have HO3 := hide (own_below HO2.out b2)
      have B2 := nxt B1 b2
      obtain ⟨wg, ewg⟩ : ∃ wg, wg = w2.alloc (.cells r.cells 24) := ⟨_, rfl⟩
      obtain ⟨g, eg⟩ : ∃ g, g = w2.heap.size := ⟨_, rfl⟩
      have F5 : RpAt wg g r := by rw [ewg, eg]; exact RpAt.new _ _
      have bg : Below w2.heap.size w2 wg := by rw [ewg]; exact nxt_alloc (Below.refl _ _) _
      have HO4 := hide (own_below HO3.out bg)
      have B3 := nxt B2 bg
      change wg = w2.alloc (.cells #[.int .i64 r.kind, .int .i64 r.id, .int .i64 r.inst, .int .i64 r.side, .int .i64 r.price, .int .i64 r.qty, .int .i64 r.left, .int .i64 r.why] 24) at ewg
      go_upto_region 8 with (fail)
      rw [← ewg, ← eg]
      clear ewg eg bg HO2 B1 h2 HO3 B2 b2 hA2
      by_cases hy : y = 0
      rotate_left
      · have hZ : Z = ⟨X, y⟩ := by
          have hw : (decR x).2 ≠ 0 := by rw [HD.out]; exact hy
          rw [HS.out, read_not H1.out H2.out hw, HD.out]; simp
        have d0 : ((y : Int) != 0) = true := by simp; omega
        have HZ2 := hide hZ
        clear hZ hy
        go_wp2_with fail
        go_ret2
        exact ReadsAt.of HZ2.out HX.out HO4.out B3
      subst hy
      have hS : Z = ⟨(X ++ [r]) ++ (readL (b.drop e) e).rows, (readL (b.drop e) e).why⟩ := by
        rw [HS.out, read_ok H1.out H2.out HD.out, H4.out, HM.out, ← hes]; simp
      have HS2 := hide hS
      have HES := hide hes
      have he1 : e ≤ n := by omega
      have he2 : N + 1 ≤ e := by omega
      have he3 : p < e := by omega
      clear hS hes HS
      obtain ⟨q0, q1, q2, q3, q4, q5, q6, q7⟩ := F5.reads'
      have own4 := HO4.out
      go_wp2_with (at_builtin
                   refine wpList_pushS elRp own4 r.cells rfl _ _ rfl rfl rfl rfl (by intro u hu; exact reps_one [r] u (by simpa [repsV] using hu)) (by omega) B3.size ?_
                   intro A5 c5 w5 own5 g5 b5 l5
                   have B4 := b5 _ _ (Nat.le_refl _) B3)
      have HOB : Hid (w5.ownsRow w.heap.size 24 8 (.slice A5 (N + 1) c5) (N + 1) (repsV (X ++ [r]))) := by
        have := own5
        rw [repsV_append]
        simpa [repsV, Hid] using this
      have HX2 : Hid ((X ++ [r]).length = N + 1) := hide (by rw [List.length_append, HX.out]; rfl)
      clear q0 q1 q2 q3 q4 q5 q6 q7 own4 own5 g5 b5 l5 B3 HO4 F5
      go_wp2_with fail
      go_roundw
      case rel => exact ⟨e, N + 1, X ++ [r], A5, c5, val_int (by have := HES.out; omega), he1, rfl, he2, HX2, HS2, HOB, B4⟩
      case measure => simp [intOf]; omega
    · have i1 : ¬ (p : Int) < n := by omega
      have hd : b.drop p = [] := List.eq_nil_of_length_eq_zero (by rw [List.length_drop, HN.out]; omega)
      have hZ : Z = ⟨X, 0⟩ := by rw [HS.out, hd, read_nil]; simp
      have HZ2 := hide hZ
      clear hZ hd hA
      go_wp2_with fail
      go_ret2
      exact ReadsAt.of (y := 0) HZ2.out HX.out HO.out B
set_option maxRecDepth 100000 in
set_option maxHeartbeats 1600000 in
theorem refRead_any (A : Option Addr) (n c : Nat) (b : List UInt8) (w : World) (hn : b.length = n) (hl : n ≤ 1000000) (hc : n ≤ c) (hcm : c ≤ 9223372036854775807) (hA : Cells w A (u8s b)) :
    Calls Tryd.prog 33 #[.slice A n c] w (ReadsAt w (readL b 0)) := by
  obtain ⟨Z, eZ⟩ : ∃ Z, Z = readL b 0 := ⟨_, rfl⟩
  rw [← eZ]
  have HZ := hide eZ
  have HN := hide hn
  clear eZ hn
  go_enter Tryd.func33, Tryd.ntmps33
  go_wp2_with fail
  go_loopw [4, 5] (fun v a wr => ∃ (p N : Nat) (X : List Rep) (A' : Option Addr) (c' : Nat), a = .int .i64 (p : Int) ∧ p ≤ n ∧ v = .slice A' N c' ∧ N ≤ p ∧ Hid (X.length = N) ∧ Hid (Z = ⟨X ++ (readL (b.drop p) p).rows, (readL (b.drop p) p).why⟩) ∧
    Hid (wr.ownsRow w.heap.size 24 8 (.slice A' N c') N (repsV X)) ∧ Below w.heap.size w wr) (fun _ a _ => n - (intOf a).toNat)
  case atStart => exact ⟨0, 0, [], none, 0, rfl, Nat.zero_le _, rfl, by omega, rfl, by rw [HZ.out]; rfl, World.ownsRow_nil _ _ _ _, Below.refl _ _⟩
  case round =>
    obtain ⟨p, N, X, A', c', rfl, hp, rfl, hNp, HX, HS, HO, B⟩ := hrel
    by_cases hlt : p < n
    · have i1 : (p : Int) < n := by omega
      have hol := openL_at (b := b) (p := p) (by rw [HN.out]; omega)
      have htl : (b.drop p).length = n - p := by rw [List.length_drop, HN.out]
      obtain ⟨t, et⟩ : ∃ t, t = b.drop p := ⟨_, rfl⟩
      have ht : t ≠ [] := by
        intro h0
        have := congrArg List.length h0
        rw [et, htl] at this
        simp at this; omega
      have hdd : ∀ k, t.drop k = b.drop (p + k) := fun k => by rw [et, List.drop_drop]
      rw [← et] at hol htl
      rw [← et] at HS
      obtain ⟨⟨x, e, y⟩, hx⟩ : ∃ q, openF t p = q := ⟨_, rfl⟩
      obtain ⟨m, hm⟩ : ∃ m, x.length = m := ⟨_, rfl⟩
      rw [hx] at hol
      have HM := hide hm
      have hA1 := hA.below B
      have H1 := hide ht
      have H2 := hide hx
      have H3 := hide htl
      have H4 := hide hdd
      have H5 := hide hol
      clear ht hx htl hdd hol et hm hA
      go_wp2_with fail
      refine (refOpen_any A n c b _ _ HN.out (by omega) hc hcm hA1).mono ?_
      rw [H5.out]
      intro e1 w1 h1
      obtain ⟨A1, c1, rfl, hA2, k1, k2, b1⟩ := opened_get h1 HM.out
      have HO2 := hide (own_below HO.out b1)
      have B1 := nxt B b1
      clear h1 HO B b1 hA1
      by_cases hy : y = 0
      rotate_left
      · have hZ : Z = ⟨X, y⟩ := by
          have hw : (openF t p).why ≠ 0 := by rw [H2.out]; exact hy
          rw [HS.out, read_bad H1.out hw, H2.out]; simp
        have d0 : ((y : Int) != 0) = true := by simp; omega
        have HZ2 := hide hZ
        clear hZ hy
        go_wp2_with fail
        go_ret2
        exact ReadsAt.of HZ2.out HX.out HO2.out B1
      subst hy
      obtain ⟨hes, hxl, hx255⟩ := openF_bd H2.out
      rw [HM.out] at hes hxl hx255
      rw [H3.out] at hxl
      obtain ⟨⟨r, y⟩, hd⟩ : ∃ q, decR x = q := ⟨_, rfl⟩
      have HD := hide hd
      clear hd
      go_wp2_with fail
      refine (refDecode_any A1 m c1 x _ HM.out (by omega) k1 (by unfold maxLen at k2; omega) hA2).mono ?_
      intro e2 w2 h2
      obtain ⟨rfl, b2⟩ := dec_get h2 HD.out
      have HO3 := hide (own_below HO2.out b2)
      have B2 := nxt B1 b2
      obtain ⟨wg, ewg⟩ : ∃ wg, wg = w2.alloc (.cells r.cells 24) := ⟨_, rfl⟩
      obtain ⟨g, eg⟩ : ∃ g, g = w2.heap.size := ⟨_, rfl⟩
      have F5 : RpAt wg g r := by rw [ewg, eg]; exact RpAt.new _ _
      have bg : Below w2.heap.size w2 wg := by rw [ewg]; exact nxt_alloc (Below.refl _ _) _
      have HO4 := hide (own_below HO3.out bg)
      have B3 := nxt B2 bg
      change wg = w2.alloc (.cells #[.int .i64 r.kind, .int .i64 r.id, .int .i64 r.inst, .int .i64 r.side, .int .i64 r.price, .int .i64 r.qty, .int .i64 r.left, .int .i64 r.why] 24) at ewg
      go_upto_region 8 with (fail)
      rw [← ewg, ← eg]
      clear ewg eg bg HO2 B1 h2 HO3 B2 b2 hA2
      by_cases hy : y = 0
      rotate_left
      · have hZ : Z = ⟨X, y⟩ := by
          have hw : (decR x).2 ≠ 0 := by rw [HD.out]; exact hy
          rw [HS.out, read_not H1.out H2.out hw, HD.out]; simp
        have d0 : ((y : Int) != 0) = true := by simp; omega
        have HZ2 := hide hZ
        clear hZ hy
        go_wp2_with fail
        go_ret2
        exact ReadsAt.of HZ2.out HX.out HO4.out B3
      subst hy
      have hS : Z = ⟨(X ++ [r]) ++ (readL (b.drop e) e).rows, (readL (b.drop e) e).why⟩ := by
        rw [HS.out, read_ok H1.out H2.out HD.out, H4.out, HM.out, ← hes]; simp
      have HS2 := hide hS
      have HES := hide hes
      have he1 : e ≤ n := by omega
      have he2 : N + 1 ≤ e := by omega
      have he3 : p < e := by omega
      clear hS hes HS
      obtain ⟨q0, q1, q2, q3, q4, q5, q6, q7⟩ := F5.reads'
      have own4 := HO4.out
      go_wp2_with (at_builtin
                   refine wpList_pushS elRp own4 r.cells rfl _ _ rfl rfl rfl rfl (by intro u hu; exact reps_one [r] u (by simpa [repsV] using hu)) (by omega) B3.size ?_
                   intro A5 c5 w5 own5 g5 b5 l5
                   have B4 := b5 _ _ (Nat.le_refl _) B3)
      have HOB : Hid (w5.ownsRow w.heap.size 24 8 (.slice A5 (N + 1) c5) (N + 1) (repsV (X ++ [r]))) := by
        have := own5
        rw [repsV_append]
        simpa [repsV, Hid] using this
      have HX2 : Hid ((X ++ [r]).length = N + 1) := hide (by rw [List.length_append, HX.out]; rfl)
      clear q0 q1 q2 q3 q4 q5 q6 q7 own4 own5 g5 b5 l5 B3 HO4 F5
      go_wp2_with fail
      go_roundw
      case rel => exact ⟨e, N + 1, X ++ [r], A5, c5, val_int (by have := HES.out; omega), he1, rfl, he2, HX2, HS2, HOB, B4⟩
      case measure => simp [intOf]; omega
    · have i1 : ¬ (p : Int) < n := by omega
      have hd : b.drop p = [] := List.eq_nil_of_length_eq_zero (by rw [List.length_drop, HN.out]; omega)
      have hZ : Z = ⟨X, 0⟩ := by rw [HS.out, hd, read_nil]; simp
      have HZ2 := hide hZ
      clear hZ hd hA
      go_wp2_with fail
      go_ret2
      exact ReadsAt.of (y := 0) HZ2.out HX.out HO.out B
end Go.Proofs.YtbfjdhbgpjenbaaDoor
