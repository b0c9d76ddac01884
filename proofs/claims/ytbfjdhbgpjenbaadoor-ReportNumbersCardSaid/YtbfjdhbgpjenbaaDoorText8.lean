/-
  report.Text, and the document's. (Printed by tools/gen7t.py.)
-/
import Derived.Test.YtbfjdhbgpjenbaaDoorText7
namespace Go.Proofs.YtbfjdhbgpjenbaaDoor
set_option linter.unusedSimpArgs false
open Go.RowKit
set_option linter.unusedVariables false

set_option maxRecDepth 100000 in
set_option maxHeartbeats 1600000 in
theorem text_any (r : Rep) (w : World) (hw : r.wf) (hT : PowTab w) : Calls Tryd.prog 8 #[r.val] w fun e w' => e = .returned (.string (str (textR r))) ∧ Below w.heap.size w w' := by
  have hlen := textJ_len hw
  have hin := nums_in hw
  have h0 := textJ_zero r
  have hall := textJ_all r
  have hsuc : ∀ j x, (numsR r)[j]? = some x → textJ r (j + 1) = textJ r j ++ (32 :: Lib.itoa x) := fun j x h => textJ_succ h
  obtain ⟨k, i, n, s, p, q, l, y⟩ := r
  obtain ⟨w0, ew0⟩ : ∃ w0, w0 = w.alloc (.cells (Rep.cells ⟨k, i, n, s, p, q, l, y⟩) 24) := ⟨_, rfl⟩
  obtain ⟨g, eg⟩ : ∃ g, g = w.heap.size := ⟨_, rfl⟩
  have hC : RpAt w0 g ⟨k, i, n, s, p, q, l, y⟩ := by rw [ew0, eg]; exact RpAt.new _ _
  have B0 : Below w.heap.size w w0 := by rw [ew0]; exact nxt_alloc (Below.refl _ _) _
  obtain ⟨L, eL⟩ : ∃ L, L = numsR ⟨k, i, n, s, p, q, l, y⟩ := ⟨_, rfl⟩
  have hL7 : L.length = 7 := by rw [eL]; rfl
  obtain ⟨J, eJ⟩ : ∃ J, J = textJ ⟨k, i, n, s, p, q, l, y⟩ := ⟨_, rfl⟩
  obtain ⟨O, eO⟩ : ∃ O, O = textR ⟨k, i, n, s, p, q, l, y⟩ := ⟨_, rfl⟩
  rw [← eL] at hin hsuc
  rw [← eJ] at hlen h0 hall hsuc
  rw [← eO] at hall ⊢
  replace h0 : J 0 = wordR k := h0
  have HIN := hide hin; have HSUC := hide hsuc; have HLEN := hide hlen; have H0 := hide h0; have HALL := hide hall; have HL7 := hide hL7
  clear hin hsuc hlen h0 hall eJ eO hw hL7
  have HT := hide hT
  clear hT
  show Calls Tryd.prog 8 #[.agg #[.int .i64 k, .int .i64 i, .int .i64 n, .int .i64 s, .int .i64 p, .int .i64 q, .int .i64 l, .int .i64 y]] w _
  change w0 = w.alloc (.cells #[.int .i64 k, .int .i64 i, .int .i64 n, .int .i64 s, .int .i64 p, .int .i64 q, .int .i64 l, .int .i64 y] 24) at ew0
  go_enter Tryd.func8, Tryd.ntmps8
  go_upto_region 1 with (fail)
  rw [← ew0, ← eg]
  clear ew0 eg
  obtain ⟨f0, f1, f2, f3, f4, f5, f6, f7⟩ := hC.reads
  go_upto_block 0 with (fail)
  go_cut [3] (fun v wx => v = .string (str (wordR k)) ∧ w0 = wx)
  case first =>
    clear eL
    by_cases h1 : k = 1
    · subst h1
      go_wp2_with fail
      go_meet
      exact ⟨rfl, rfl⟩
    by_cases h2 : k = 2
    · subst h2
      go_wp2_with fail
      go_meet
      exact ⟨rfl, rfl⟩
    by_cases h3 : k = 3
    · subst h3
      go_wp2_with fail
      go_meet
      exact ⟨rfl, rfl⟩
    by_cases h4 : k = 4
    · subst h4
      go_wp2_with fail
      go_meet
      exact ⟨rfl, rfl⟩
    by_cases h5 : k = 5
    · subst h5
      go_wp2_with fail
      go_meet
      exact ⟨rfl, rfl⟩
    have e : wordR k = [63] := by unfold wordR; rw [if_neg h1, if_neg h2, if_neg h3, if_neg h4, if_neg h5]
    have E := hide e
    have d1 : (k == 1) = false := by simpa using h1
    have d2 : (k == 2) = false := by simpa using h2
    have d3 : (k == 3) = false := by simpa using h3
    have d4 : (k == 4) = false := by simpa using h4
    have d5 : (k == 5) = false := by simpa using h5
    clear e h1 h2 h3 h4 h5
    go_wp2_with fail
    go_meet
    exact ⟨by rw [E.out]; rfl, rfl⟩
  obtain ⟨rfl, hwx⟩ := hcut
  subst hwx
  rw [← H0.out]
  obtain ⟨w1, ew1⟩ : ∃ w1, w1 = w0.alloc (.cells (i64s L).toArray 2) := ⟨_, rfl⟩
  obtain ⟨g1, eg1⟩ : ∃ g1, g1 = w0.heap.size := ⟨_, rfl⟩
  have hc : Cells w1 (some ⟨g1, 0, none⟩) (i64s L) := by rw [ew1, eg1]; exact Cells.lit w0 (i64s L).toArray _
  have B1 : Below w.heap.size w w1 := by rw [ew1]; exact nxt_alloc B0 _
  rw [eL] at ew1
  replace ew1 : w1 = w0.alloc (.cells #[.int .i64 i, .int .i64 n, .int .i64 s, .int .i64 p, .int .i64 q, .int .i64 l, .int .i64 y] 2) := ew1
  go_wp2_with fail
  rw [← ew1, ← eg1]
  clear ew1 eg1 eL f0 f1 f2 f3 f4 f5 f6 f7 B0 hC
  go_loopw [3, 34] (fun v a wr => ∃ j : Nat, j ≤ 7 ∧ v = .string (str (J j)) ∧ a = .int .i64 (j : Int) ∧ Below w1.heap.size w1 wr) (fun _ a _ => 7 - (intOf a).toNat)
  case atStart => exact ⟨0, by omega, rfl, rfl, Below.refl _ _⟩
  case round =>
    obtain ⟨j, hj, rfl, rfl, B⟩ := hrel
    by_cases hlt : j < 7
    · obtain ⟨b, o, x, hA, hb, hcx, hx⟩ := hc.int_at (k := j) (by rw [HL7.out]; exact hlt)
      injection hA with hA
      injection hA with hA1 hA2
      subst hA1; subst hA2
      have hcw : wr.cell? ⟨g1, 0 + j, none⟩ = some (.int .i64 x) := (B.cell (p := ⟨g1, 0 + j, none⟩) hb).trans hcx
      rw [Nat.zero_add] at hcw
      have i1 : (j : Int) < 7 := by omega
      have hxin := HIN.out x (mem_of_some hx.out)
      have hs := HSUC.out j x hx.out
      have hjl := HLEN.out j hj
      have hil := (itoa_len hxin).2
      have hwj : IntKind.i64.wrap ((j : Int) + 1) = (j : Int) + 1 := IntWalk.i64_in _ (by omega)
      have hst1 : str [32] ++ str (Lib.itoa x) = str (32 :: Lib.itoa x) := by rw [str_append]; rfl
      have hst2 : str (J j) ++ str (32 :: Lib.itoa x) = str (J (j + 1)) := by rw [str_append, hs]
      have hz1 : ¬ 9223372036854775807 < (str [32]).size + (str (Lib.itoa x)).size := by rw [str_size, str_size]; simp; omega
      have hz2 : ¬ 9223372036854775807 < (str (J j)).size + (str (32 :: Lib.itoa x)).size := by rw [str_size, str_size]; simp; omega
      have hz3 : ¬ 9223372036854775807 < 1 + (str (Lib.itoa x)).size := by rw [str_size]; omega
      have hz4 : ¬ 9223372036854775807 < (str (J j)).size + (1 + (str (Lib.itoa x)).size) := by rw [str_size, str_size]; omega
      have hst3 : str (J j) ++ (str [32] ++ str (Lib.itoa x)) = str (J (j + 1)) := by rw [hst1, hst2]
      have HS3 := hide hst3
      clear hcx hs hst3
      go_wp2_with fail
      refine (fmt_any x _ hxin (HT.out.below (nxt B1 B))).mono ?_
      rintro e w2 ⟨rfl, b2⟩
      have B2 := nxt B b2
      clear B b2
      go_wp2_with fail
      go_roundw
      case rel => exact ⟨j + 1, by omega, by first | rfl | exact congrArg Value.string hst2 | exact congrArg Value.string HS3.out, by go_num, B2⟩
      case measure => simp [intOf]; omega
    · have i1 : ¬ (j : Int) < 7 := by omega
      have hj7 : j = 7 := by omega
      have hO : str (J j) = str O := by rw [hj7, HALL.out]
      have HO := hide hO
      clear hj7 hO hc
      go_wp2_with fail
      go_ret
      exact ⟨by rw [HO.out]; rfl, nxt B1 B⟩
set_option maxRecDepth 100000 in
set_option maxHeartbeats 1600000 in
theorem refText_any7 (r : Rep) (w : World) (hw : r.wf) : Calls Tryd.prog 12 #[r.val] w fun e w' => e = .returned (.string (str (textR r))) ∧ Below w.heap.size w w' := by
  have hlen := textJ_len hw
  have hin := nums_in hw
  have h0 := textJ_zero r
  have hall := textJ_all r
  have hsuc : ∀ j x, (numsR r)[j]? = some x → textJ r (j + 1) = textJ r j ++ (32 :: Lib.itoa x) := fun j x h => textJ_succ h
  obtain ⟨k, i, n, s, p, q, l, y⟩ := r
  obtain ⟨w0, ew0⟩ : ∃ w0, w0 = w.alloc (.cells (Rep.cells ⟨k, i, n, s, p, q, l, y⟩) 24) := ⟨_, rfl⟩
  obtain ⟨g, eg⟩ : ∃ g, g = w.heap.size := ⟨_, rfl⟩
  have hC : RpAt w0 g ⟨k, i, n, s, p, q, l, y⟩ := by rw [ew0, eg]; exact RpAt.new _ _
  have B0 : Below w.heap.size w w0 := by rw [ew0]; exact nxt_alloc (Below.refl _ _) _
  obtain ⟨L, eL⟩ : ∃ L, L = numsR ⟨k, i, n, s, p, q, l, y⟩ := ⟨_, rfl⟩
  have hL7 : L.length = 7 := by rw [eL]; rfl
  obtain ⟨J, eJ⟩ : ∃ J, J = textJ ⟨k, i, n, s, p, q, l, y⟩ := ⟨_, rfl⟩
  obtain ⟨O, eO⟩ : ∃ O, O = textR ⟨k, i, n, s, p, q, l, y⟩ := ⟨_, rfl⟩
  rw [← eL] at hin hsuc
  rw [← eJ] at hlen h0 hall hsuc
  rw [← eO] at hall ⊢
  replace h0 : J 0 = wordR k := h0
  have HIN := hide hin; have HSUC := hide hsuc; have HLEN := hide hlen; have H0 := hide h0; have HALL := hide hall; have HL7 := hide hL7
  clear hin hsuc hlen h0 hall eJ eO hw hL7
  show Calls Tryd.prog 12 #[.agg #[.int .i64 k, .int .i64 i, .int .i64 n, .int .i64 s, .int .i64 p, .int .i64 q, .int .i64 l, .int .i64 y]] w _
  change w0 = w.alloc (.cells #[.int .i64 k, .int .i64 i, .int .i64 n, .int .i64 s, .int .i64 p, .int .i64 q, .int .i64 l, .int .i64 y] 24) at ew0
  go_enter Tryd.func12, Tryd.ntmps12
  go_upto_region 1 with (fail)
  rw [← ew0, ← eg]
  clear ew0 eg
  obtain ⟨f0, f1, f2, f3, f4, f5, f6, f7⟩ := hC.reads
  go_upto_block 0 with (fail)
  go_cut [3] (fun v wx => v = .string (str (wordR k)) ∧ w0 = wx)
  case first =>
    clear eL
    by_cases h1 : k = 1
    · subst h1
      go_wp2_with fail
      go_meet
      exact ⟨rfl, rfl⟩
    by_cases h2 : k = 2
    · subst h2
      go_wp2_with fail
      go_meet
      exact ⟨rfl, rfl⟩
    by_cases h3 : k = 3
    · subst h3
      go_wp2_with fail
      go_meet
      exact ⟨rfl, rfl⟩
    by_cases h4 : k = 4
    · subst h4
      go_wp2_with fail
      go_meet
      exact ⟨rfl, rfl⟩
    by_cases h5 : k = 5
    · subst h5
      go_wp2_with fail
      go_meet
      exact ⟨rfl, rfl⟩
    have e : wordR k = [63] := by unfold wordR; rw [if_neg h1, if_neg h2, if_neg h3, if_neg h4, if_neg h5]
    have E := hide e
    have d1 : (k == 1) = false := by simpa using h1
    have d2 : (k == 2) = false := by simpa using h2
    have d3 : (k == 3) = false := by simpa using h3
    have d4 : (k == 4) = false := by simpa using h4
    have d5 : (k == 5) = false := by simpa using h5
    clear e h1 h2 h3 h4 h5
    go_wp2_with fail
    go_meet
    exact ⟨by rw [E.out]; rfl, rfl⟩
  obtain ⟨rfl, hwx⟩ := hcut
  subst hwx
  rw [← H0.out]
  obtain ⟨w1, ew1⟩ : ∃ w1, w1 = w0.alloc (.cells (i64s L).toArray 2) := ⟨_, rfl⟩
  obtain ⟨g1, eg1⟩ : ∃ g1, g1 = w0.heap.size := ⟨_, rfl⟩
  have hc : Cells w1 (some ⟨g1, 0, none⟩) (i64s L) := by rw [ew1, eg1]; exact Cells.lit w0 (i64s L).toArray _
  have B1 : Below w.heap.size w w1 := by rw [ew1]; exact nxt_alloc B0 _
  rw [eL] at ew1
  replace ew1 : w1 = w0.alloc (.cells #[.int .i64 i, .int .i64 n, .int .i64 s, .int .i64 p, .int .i64 q, .int .i64 l, .int .i64 y] 2) := ew1
  go_wp2_with fail
  rw [← ew1, ← eg1]
  clear ew1 eg1 eL f0 f1 f2 f3 f4 f5 f6 f7 B0 hC
  go_loopw [3, 34] (fun v a wr => ∃ j : Nat, j ≤ 7 ∧ v = .string (str (J j)) ∧ a = .int .i64 (j : Int) ∧ Below w1.heap.size w1 wr) (fun _ a _ => 7 - (intOf a).toNat)
  case atStart => exact ⟨0, by omega, rfl, rfl, Below.refl _ _⟩
  case round =>
    obtain ⟨j, hj, rfl, rfl, B⟩ := hrel
    by_cases hlt : j < 7
    · obtain ⟨b, o, x, hA, hb, hcx, hx⟩ := hc.int_at (k := j) (by rw [HL7.out]; exact hlt)
      injection hA with hA
      injection hA with hA1 hA2
      subst hA1; subst hA2
      have hcw : wr.cell? ⟨g1, 0 + j, none⟩ = some (.int .i64 x) := (B.cell (p := ⟨g1, 0 + j, none⟩) hb).trans hcx
      rw [Nat.zero_add] at hcw
      have i1 : (j : Int) < 7 := by omega
      have hxin := HIN.out x (mem_of_some hx.out)
      have hs := HSUC.out j x hx.out
      have hjl := HLEN.out j hj
      have hil := (itoa_len hxin).2
      have hwj : IntKind.i64.wrap ((j : Int) + 1) = (j : Int) + 1 := IntWalk.i64_in _ (by omega)
      have hst1 : str (J j) ++ str [32] = str (J j ++ [32]) := str_append _ _
      have hst2 : str (J j ++ [32]) ++ str (Lib.itoa x) = str (J (j + 1)) := by rw [str_append, hs]; simp
      have hz1 : ¬ 9223372036854775807 < (str (J j)).size + (str [32]).size := by rw [str_size, str_size]; simp; omega
      have hz2 : ¬ 9223372036854775807 < (str (J j ++ [32])).size + (str (Lib.itoa x)).size := by rw [str_size, str_size]; simp; omega
      have hz3 : ¬ 9223372036854775807 < (str (J j)).size + 1 := by rw [str_size]; omega
      have hz4 : ¬ 9223372036854775807 < (str (J j)).size + 1 + (str (Lib.itoa x)).size := by rw [str_size, str_size]; omega
      have hst3 : (str (J j) ++ str [32]) ++ str (Lib.itoa x) = str (J (j + 1)) := by rw [hst1, hst2]
      have HS3 := hide hst3
      clear hcx hs hst3
      go_wp2_with fail
      refine (digits_any x _ hxin).mono ?_
      rintro e w2 ⟨rfl, rfl⟩
      go_wp2_with fail
      go_roundw
      case rel => exact ⟨j + 1, by omega, by first | rfl | exact congrArg Value.string hst2 | exact congrArg Value.string HS3.out, by go_num, B⟩
      case measure => simp [intOf]; omega
    · have i1 : ¬ (j : Int) < 7 := by omega
      have hj7 : j = 7 := by omega
      have hO : str (J j) = str O := by rw [hj7, HALL.out]
      have HO := hide hO
      clear hj7 hO hc
      go_wp2_with fail
      go_ret
      exact ⟨by rw [HO.out]; rfl, nxt B1 B⟩
end Go.Proofs.YtbfjdhbgpjenbaaDoor
