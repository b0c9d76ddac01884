/-
  Commands by value: command.Right, and the document's.
-/
import Derived.Test.YtjahndamfhfjcaaCmdP
import Derived.Test.YtjahndamfhfjcaaLabR
import Derived.Deep.DeepCutAuto
import Derived.Deep.CutBlock
import Derived.StillTailTactics
namespace Go.Proofs.Ytjahndamfhfjcaa
open Go.RowKit
set_option linter.unusedVariables false

def Cmd.cells (c : Cmd) : Array Value := #[.int .i64 c.kind, .int .i64 c.id, .int .i64 c.inst, .int .i64 c.side, .int .i64 c.price, .int .i64 c.qty, .int .i64 c.least, .int .i64 c.time, .string (str c.lab)]
def Cmd.val (c : Cmd) : Value := .agg c.cells
/-- Block g holds a command. -/
def CAt (w : World) (g : Nat) (c : Cmd) : Prop := w.heap[g]? = some (.cells c.cells 23 (0, 0))
theorem CAt.below {w w' : World} {g : Nat} {c : Cmd} (h : CAt w g c) (hb : Below w.heap.size w w') : CAt w' g c :=
  (hb.block g (Array.getElem?_eq_some_iff.1 h).1).trans h
theorem CAt.lt {w : World} {g : Nat} {c : Cmd} (h : CAt w g c) : g < w.heap.size := (Array.getElem?_eq_some_iff.1 h).1
theorem CAt.new (w : World) (c : Cmd) : CAt (w.alloc (.cells c.cells 23)) w.heap.size c := heap_alloc_new _ _
theorem CAt.cell {w : World} {g : Nat} {c : Cmd} (h : CAt w g c) (i : Nat) : w.cell? ⟨g, i, none⟩ = c.cells[i]? := by
  unfold CAt at h
  simp [World.cell?, h]
theorem CAt.reads {w : World} {g : Nat} {k i n s p q l t : Int} {lb : List UInt8} (h : CAt w g ⟨k, i, n, s, p, q, l, t, lb⟩) :
    w.cell? ⟨g, 0, none⟩ = some (.int .i64 k) ∧ w.cell? ⟨g, 1, none⟩ = some (.int .i64 i) ∧ w.cell? ⟨g, 2, none⟩ = some (.int .i64 n) ∧ w.cell? ⟨g, 3, none⟩ = some (.int .i64 s) ∧ w.cell? ⟨g, 4, none⟩ = some (.int .i64 p) ∧
    w.cell? ⟨g, 5, none⟩ = some (.int .i64 q) ∧ w.cell? ⟨g, 6, none⟩ = some (.int .i64 l) ∧ w.cell? ⟨g, 7, none⟩ = some (.int .i64 t) ∧ w.cell? ⟨g, 8, none⟩ = some (.string (str lb)) :=
  ⟨h.cell 0, h.cell 1, h.cell 2, h.cell 3, h.cell 4, h.cell 5, h.cell 6, h.cell 7, h.cell 8⟩
theorem quantity_any (n : Int) (w : World) : Calls Try.prog 35 #[.int .i64 n] w fun e w' => e = .returned (.bool (decide (qtyOk n))) ∧ w = w' := by
  obtain ⟨b, hb⟩ : ∃ b, b = decide (qtyOk n) := ⟨_, rfl⟩
  rw [← hb]
  by_cases h1 : 1 ≤ n
  · by_cases h2 : n ≤ 1000000
    · have e : b = true := by rw [hb]; exact decide_eq_true ⟨h1, h2⟩
      clear hb
      subst e
      go_enter Try.func35, Try.ntmps35
      go_wp2
      go_ret
      exact ⟨rfl, rfl⟩
    · have e : b = false := by rw [hb]; exact decide_eq_false fun h => h2 h.2
      clear hb
      subst e
      go_enter Try.func35, Try.ntmps35
      go_wp2
      go_ret
      exact ⟨rfl, rfl⟩
  · have e : b = false := by rw [hb]; exact decide_eq_false fun h => h1 h.1
    clear hb
    subst e
    go_enter Try.func35, Try.ntmps35
    go_wp2
    go_ret
    exact ⟨rfl, rfl⟩
theorem price_any (n : Int) (w : World) : Calls Try.prog 36 #[.int .i64 n] w fun e w' => e = .returned (.bool (decide (priceOk n))) ∧ w = w' := by
  obtain ⟨b, hb⟩ : ∃ b, b = decide (priceOk n) := ⟨_, rfl⟩
  rw [← hb]
  by_cases h1 : -2000000 ≤ n
  · by_cases h2 : n ≤ 2000000
    · have e : b = true := by rw [hb]; exact decide_eq_true ⟨h1, h2⟩
      clear hb
      subst e
      go_enter Try.func36, Try.ntmps36
      go_wp2
      go_ret
      exact ⟨rfl, rfl⟩
    · have e : b = false := by rw [hb]; exact decide_eq_false fun h => h2 h.2
      clear hb
      subst e
      go_enter Try.func36, Try.ntmps36
      go_wp2
      go_ret
      exact ⟨rfl, rfl⟩
  · have e : b = false := by rw [hb]; exact decide_eq_false fun h => h1 h.1
    clear hb
    subst e
    go_enter Try.func36, Try.ntmps36
    go_wp2
    go_ret
    exact ⟨rfl, rfl⟩
theorem str_empty {lb : List UInt8} (h : lb = []) : (str lb).toList.isEmpty = true := by subst h; rw [str_toList]; rfl
theorem str_full {lb : List UInt8} (h : lb ≠ []) : (str lb).toList.isEmpty = false := by
  rw [str_toList]
  simpa using h
--GEN6R (printed by tools/gen6r.py)
set_option maxRecDepth 100000 in
set_option maxHeartbeats 3200000 in
theorem order_any (c : Cmd) (hl : c.lab.length ≤ 9223372036854775807) (w : World) : Calls Try.prog 34 #[c.val] w fun e w' => e = .returned (.int .i64 (orderC c : Nat)) ∧ Below w.heap.size w w' := by
  obtain ⟨O, eO⟩ : ∃ O, O = orderC c := ⟨_, rfl⟩
  rw [← eO]
  obtain ⟨k, i, n, s, p, q, l, t, lb⟩ := c
  unfold orderC at eO
  simp only at eO hl
  obtain ⟨w0, ew0⟩ : ∃ w0, w0 = w.alloc (.cells (Cmd.cells ⟨k, i, n, s, p, q, l, t, lb⟩) 23) := ⟨_, rfl⟩
  obtain ⟨g, eg⟩ : ∃ g, g = w.heap.size := ⟨_, rfl⟩
  have hC : CAt w0 g ⟨k, i, n, s, p, q, l, t, lb⟩ := by rw [ew0, eg]; exact CAt.new _ _
  have B0 : Below w.heap.size w w0 := by rw [ew0]; exact nxt_alloc (Below.refl _ _) _
  have HO := hide eO
  clear eO
  show Calls Try.prog 34 #[.agg #[.int .i64 k, .int .i64 i, .int .i64 n, .int .i64 s, .int .i64 p, .int .i64 q, .int .i64 l, .int .i64 t, .string (str lb)]] w _
  change w0 = w.alloc (.cells #[.int .i64 k, .int .i64 i, .int .i64 n, .int .i64 s, .int .i64 p, .int .i64 q, .int .i64 l, .int .i64 t, .string (str lb)] 23) at ew0
  go_enter Try.func34, Try.ntmps34
  go_upto_region 1 with (fail)
  rw [← ew0, ← eg]
  clear ew0 eg
  obtain ⟨f0, f1, f2, f3, f4, f5, f6, f7, f8⟩ := hC.reads
  have BB := B0
  obtain ⟨b, hb⟩ : ∃ b, b = decide (s ≠ 1 ∧ s ≠ 2) := ⟨_, rfl⟩
  have HB := hide hb
  clear hb
  go_cut [3] (fun v wx => v = .bool b ∧ w0 = wx)
  case first =>
    clear HO
    have hw : (s = 1) ∨ (¬ s = 1 ∧ s = 2) ∨ (¬ s = 1 ∧ ¬ s = 2) := by omega
    rcases hw with g0 | ⟨g0, g1⟩ | ⟨g0, g1⟩
    · have e : b = false := by rw [HB.out]; first | (exact decide_eq_true (by omega)) | (exact decide_eq_false (by omega))
      clear HB
      subst e
      have d0 : (s == 1) = true := by simp; omega
      have c0 : (s != 1) = false := by simp; omega
      clear g0
      go_wp2_with fail
      go_meet
      exact ⟨rfl, rfl⟩
    · have e : b = false := by rw [HB.out]; first | (exact decide_eq_true (by omega)) | (exact decide_eq_false (by omega))
      clear HB
      subst e
      have d0 : (s == 1) = false := by simp; omega
      have c0 : (s != 1) = true := by simp; omega
      clear g0
      have d1 : (s == 2) = true := by simp; omega
      have c1 : (s != 2) = false := by simp; omega
      clear g1
      go_wp2_with fail
      go_meet
      exact ⟨rfl, rfl⟩
    · have e : b = true := by rw [HB.out]; first | (exact decide_eq_true (by omega)) | (exact decide_eq_false (by omega))
      clear HB
      subst e
      have d0 : (s == 1) = false := by simp; omega
      have c0 : (s != 1) = true := by simp; omega
      clear g0
      have d1 : (s == 2) = false := by simp; omega
      have c1 : (s != 2) = true := by simp; omega
      clear g1
      go_wp2_with fail
      go_meet
      exact ⟨rfl, rfl⟩
  obtain ⟨rfl, rfl⟩ := hcut
  by_cases h : s ≠ 1 ∧ s ≠ 2
  · have e : b = true := by rw [HB.out]; exact decide_eq_true h
    have eO : Hid (O = 21) := hide (by have := HO.out; rw [if_pos h] at this; exact this)
    clear HO HB
    subst e
    clear h
    go_wp2_with fail
    go_ret
    exact ⟨by rw [eO.out]; rfl, BB⟩
  replace HO := hide (HO.out.trans (if_neg h))
  have e : b = false := by rw [HB.out]; exact decide_eq_false h
  clear HB h
  subst e
  go_upto_region 3 with (fail)
  obtain ⟨b, hb⟩ : ∃ b, b = decide (t < 1 ∨ 3 < t) := ⟨_, rfl⟩
  have HB := hide hb
  clear hb
  go_cut [12] (fun v wx => v = .bool b ∧ w0 = wx)
  case first =>
    clear HO
    have hw : (t < 1) ∨ (¬ t < 1 ∧ 3 < t) ∨ (¬ t < 1 ∧ ¬ 3 < t) := by omega
    rcases hw with g0 | ⟨g0, g1⟩ | ⟨g0, g1⟩
    · have e : b = true := by rw [HB.out]; first | (exact decide_eq_true (by omega)) | (exact decide_eq_false (by omega))
      clear HB
      subst e
      go_wp2_with fail
      go_meet
      exact ⟨rfl, rfl⟩
    · have e : b = true := by rw [HB.out]; first | (exact decide_eq_true (by omega)) | (exact decide_eq_false (by omega))
      clear HB
      subst e
      go_wp2_with fail
      go_meet
      exact ⟨rfl, rfl⟩
    · have e : b = false := by rw [HB.out]; first | (exact decide_eq_true (by omega)) | (exact decide_eq_false (by omega))
      clear HB
      subst e
      go_wp2_with fail
      go_meet
      exact ⟨rfl, rfl⟩
  obtain ⟨rfl, rfl⟩ := hcut
  by_cases h : t < 1 ∨ 3 < t
  · have e : b = true := by rw [HB.out]; exact decide_eq_true h
    have eO : Hid (O = 27) := hide (by have := HO.out; rw [if_pos h] at this; exact this)
    clear HO HB
    subst e
    clear h
    go_wp2_with fail
    go_ret
    exact ⟨by rw [eO.out]; rfl, BB⟩
  replace HO := hide (HO.out.trans (if_neg h))
  have e : b = false := by rw [HB.out]; exact decide_eq_false h
  clear HB h
  subst e
  go_upto_region 5 with (fail)
  obtain ⟨b, hb⟩ : ∃ b, b = decide (¬ qtyOk q) := ⟨_, rfl⟩
  have HB := hide hb
  clear hb
  go_cut [21] (fun v wx => v = .bool b ∧ w0 = wx)
  case first =>
    clear HO
    go_wp2_with fail
    refine (quantity_any q _).mono ?_
    rintro e u ⟨rfl, rfl⟩
    obtain ⟨b', hb'⟩ : ∃ b', b' = decide (qtyOk q) := ⟨_, rfl⟩
    have hb2 : b = !b' := by rw [HB.out, hb']; by_cases h : qtyOk q <;> simp [h]
    rw [← hb']
    clear hb' HB
    subst hb2
    cases b'
    · go_wp2_with fail
      go_meet
      exact ⟨rfl, rfl⟩
    · go_wp2_with fail
      go_meet
      exact ⟨rfl, rfl⟩
  obtain ⟨rfl, rfl⟩ := hcut
  by_cases h : ¬ qtyOk q
  · have e : b = true := by rw [HB.out]; exact decide_eq_true h
    have eO : Hid (O = 24) := hide (by have := HO.out; rw [if_pos h] at this; exact this)
    clear HO HB
    subst e
    clear h
    go_wp2_with fail
    go_ret
    exact ⟨by rw [eO.out]; rfl, BB⟩
  replace HO := hide (HO.out.trans (if_neg h))
  have e : b = false := by rw [HB.out]; exact decide_eq_false h
  clear HB h
  subst e
  go_upto_region 7 with (fail)
  obtain ⟨b, hb⟩ : ∃ b, b = decide (l < 0 ∨ q < l) := ⟨_, rfl⟩
  have HB := hide hb
  clear hb
  go_cut [26] (fun v wx => v = .bool b ∧ w0 = wx)
  case first =>
    clear HO
    have hw : (l < 0) ∨ (¬ l < 0 ∧ q < l) ∨ (¬ l < 0 ∧ ¬ q < l) := by omega
    rcases hw with g0 | ⟨g0, g1⟩ | ⟨g0, g1⟩
    · have e : b = true := by rw [HB.out]; first | (exact decide_eq_true (by omega)) | (exact decide_eq_false (by omega))
      clear HB
      subst e
      go_wp2_with fail
      go_meet
      exact ⟨rfl, rfl⟩
    · have e : b = true := by rw [HB.out]; first | (exact decide_eq_true (by omega)) | (exact decide_eq_false (by omega))
      clear HB
      subst e
      go_wp2_with fail
      go_meet
      exact ⟨rfl, rfl⟩
    · have e : b = false := by rw [HB.out]; first | (exact decide_eq_true (by omega)) | (exact decide_eq_false (by omega))
      clear HB
      subst e
      go_wp2_with fail
      go_meet
      exact ⟨rfl, rfl⟩
  obtain ⟨rfl, rfl⟩ := hcut
  by_cases h : l < 0 ∨ q < l
  · have e : b = true := by rw [HB.out]; exact decide_eq_true h
    have eO : Hid (O = 28) := hide (by have := HO.out; rw [if_pos h] at this; exact this)
    clear HO HB
    subst e
    clear h
    go_wp2_with fail
    go_ret
    exact ⟨by rw [eO.out]; rfl, BB⟩
  replace HO := hide (HO.out.trans (if_neg h))
  have e : b = false := by rw [HB.out]; exact decide_eq_false h
  clear HB h
  subst e
  go_upto_region 9 with (fail)
  obtain ⟨b, hb⟩ : ∃ b, b = decide (lb ≠ [] ∧ labR lb = false) := ⟨_, rfl⟩
  have HB := hide hb
  clear hb
  go_cut [37] (fun v wx => v = .bool b ∧ Below w0.heap.size w0 wx)
  case first =>
    clear HO
    by_cases h0 : lb = []
    · have e : b = false := by rw [HB.out]; exact decide_eq_false fun h => h.1 h0
      have d0 := str_empty h0
      clear HB h0
      subst e
      go_wp2_with fail
      go_meet
      exact ⟨rfl, Below.refl _ _⟩
    · obtain ⟨b', hb'⟩ : ∃ b', b' = labR lb := ⟨_, rfl⟩
      have e : b = !b' := by rw [HB.out, hb']; cases hR : labR lb <;> simp [h0]
      have d0 := str_full h0
      have HB' := hide hb'
      clear HB h0 hb'
      subst e
      go_wp2_with fail
      refine (labR_any lb _ (by omega)).mono ?_
      rw [← HB'.out]
      rintro e w1 ⟨rfl, b1⟩
      go_wp2_with fail
      go_meet
      exact ⟨rfl, b1⟩
  obtain ⟨rfl, b1⟩ := hcut
  have hC1 := hC.below b1
  have BB := nxt B0 b1
  obtain ⟨w1, ew1⟩ : ∃ w1, w1 = wc := ⟨_, rfl⟩
  rw [← ew1] at hC1 BB ⊢
  clear ew1 f0 f1 f2 f3 f4 f5 f6 f7 f8
  obtain ⟨f0, f1, f2, f3, f4, f5, f6, f7, f8⟩ := hC1.reads
  by_cases h : lb ≠ [] ∧ labR lb = false
  · have e : b = true := by rw [HB.out]; exact decide_eq_true h
    have eO : Hid (O = 29) := hide (by have := HO.out; rw [if_pos h] at this; exact this)
    clear HO HB
    subst e
    clear h
    go_wp2_with fail
    go_ret
    exact ⟨by rw [eO.out]; rfl, BB⟩
  replace HO := hide (HO.out.trans (if_neg h))
  have e : b = false := by rw [HB.out]; exact decide_eq_false h
  clear HB h
  subst e
  go_upto_region 11 with (fail)
  obtain ⟨b, hb⟩ : ∃ b, b = decide (¬ priceOk p) := ⟨_, rfl⟩
  have HB := hide hb
  clear hb
  go_cut [47] (fun v wx => v = .bool b ∧ w1 = wx)
  case first =>
    clear HO
    go_wp2_with fail
    refine (price_any p _).mono ?_
    rintro e u ⟨rfl, rfl⟩
    obtain ⟨b', hb'⟩ : ∃ b', b' = decide (priceOk p) := ⟨_, rfl⟩
    have hb2 : b = !b' := by rw [HB.out, hb']; by_cases h : priceOk p <;> simp [h]
    rw [← hb']
    clear hb' HB
    subst hb2
    cases b'
    · go_wp2_with fail
      go_meet
      exact ⟨rfl, rfl⟩
    · go_wp2_with fail
      go_meet
      exact ⟨rfl, rfl⟩
  obtain ⟨rfl, rfl⟩ := hcut
  by_cases h : ¬ priceOk p
  · have e : b = true := by rw [HB.out]; exact decide_eq_true h
    have eO : Hid (O = 23) := hide (by have := HO.out; rw [if_pos h] at this; exact this)
    clear HO HB
    subst e
    clear h
    go_wp2_with fail
    go_ret
    exact ⟨by rw [eO.out]; rfl, BB⟩
  replace HO := hide (HO.out.trans (if_neg h))
  have e : b = false := by rw [HB.out]; exact decide_eq_false h
  clear HB h
  subst e
  go_upto_region 13 with (fail)
  obtain ⟨b, hb⟩ : ∃ b, b = decide (n < 0 ∨ 255 < n) := ⟨_, rfl⟩
  have HB := hide hb
  clear hb
  go_cut [52] (fun v wx => v = .bool b ∧ w1 = wx)
  case first =>
    clear HO
    have hw : (n < 0) ∨ (¬ n < 0 ∧ 255 < n) ∨ (¬ n < 0 ∧ ¬ 255 < n) := by omega
    rcases hw with g0 | ⟨g0, g1⟩ | ⟨g0, g1⟩
    · have e : b = true := by rw [HB.out]; first | (exact decide_eq_true (by omega)) | (exact decide_eq_false (by omega))
      clear HB
      subst e
      go_wp2_with fail
      go_meet
      exact ⟨rfl, rfl⟩
    · have e : b = true := by rw [HB.out]; first | (exact decide_eq_true (by omega)) | (exact decide_eq_false (by omega))
      clear HB
      subst e
      go_wp2_with fail
      go_meet
      exact ⟨rfl, rfl⟩
    · have e : b = false := by rw [HB.out]; first | (exact decide_eq_true (by omega)) | (exact decide_eq_false (by omega))
      clear HB
      subst e
      go_wp2_with fail
      go_meet
      exact ⟨rfl, rfl⟩
  obtain ⟨rfl, rfl⟩ := hcut
  by_cases h : n < 0 ∨ 255 < n
  · have e : b = true := by rw [HB.out]; exact decide_eq_true h
    have eO : Hid (O = 20) := hide (by have := HO.out; rw [if_pos h] at this; exact this)
    clear HO HB
    subst e
    clear h
    go_wp2_with fail
    go_ret
    exact ⟨by rw [eO.out]; rfl, BB⟩
  replace HO := hide (HO.out.trans (if_neg h))
  have e : b = false := by rw [HB.out]; exact decide_eq_false h
  clear HB h
  subst e
  go_wp2_with fail
  go_ret
  exact ⟨by rw [HO.out]; rfl, BB⟩
set_option maxRecDepth 100000 in
set_option maxHeartbeats 3200000 in
theorem right_any (c : Cmd) (hl : c.lab.length ≤ 9223372036854775807) (w : World) : Calls Try.prog 12 #[c.val] w fun e w' => e = .returned (.int .i64 (rightC c : Nat)) ∧ Below w.heap.size w w' := by
  obtain ⟨O, eO⟩ : ∃ O, O = rightC c := ⟨_, rfl⟩
  rw [← eO]
  obtain ⟨k, i, n, s, p, q, l, t, lb⟩ := c
  unfold rightC at eO
  simp only at eO hl
  obtain ⟨w0, ew0⟩ : ∃ w0, w0 = w.alloc (.cells (Cmd.cells ⟨k, i, n, s, p, q, l, t, lb⟩) 23) := ⟨_, rfl⟩
  obtain ⟨g, eg⟩ : ∃ g, g = w.heap.size := ⟨_, rfl⟩
  have hC : CAt w0 g ⟨k, i, n, s, p, q, l, t, lb⟩ := by rw [ew0, eg]; exact CAt.new _ _
  have B0 : Below w.heap.size w w0 := by rw [ew0]; exact nxt_alloc (Below.refl _ _) _
  have HO := hide eO
  clear eO
  show Calls Try.prog 12 #[.agg #[.int .i64 k, .int .i64 i, .int .i64 n, .int .i64 s, .int .i64 p, .int .i64 q, .int .i64 l, .int .i64 t, .string (str lb)]] w _
  change w0 = w.alloc (.cells #[.int .i64 k, .int .i64 i, .int .i64 n, .int .i64 s, .int .i64 p, .int .i64 q, .int .i64 l, .int .i64 t, .string (str lb)] 23) at ew0
  go_enter Try.func12, Try.ntmps12
  go_upto_region 1 with (fail)
  rw [← ew0, ← eg]
  clear ew0 eg
  obtain ⟨f0, f1, f2, f3, f4, f5, f6, f7, f8⟩ := hC.reads
  have BB := B0
  obtain ⟨b, hb⟩ : ∃ b, b = decide (k < 1 ∨ 4 < k) := ⟨_, rfl⟩
  have HB := hide hb
  clear hb
  go_cut [3] (fun v wx => v = .bool b ∧ w0 = wx)
  case first =>
    clear HO
    have hw : (k < 1) ∨ (¬ k < 1 ∧ 4 < k) ∨ (¬ k < 1 ∧ ¬ 4 < k) := by omega
    rcases hw with g0 | ⟨g0, g1⟩ | ⟨g0, g1⟩
    · have e : b = true := by rw [HB.out]; first | (exact decide_eq_true (by omega)) | (exact decide_eq_false (by omega))
      clear HB
      subst e
      go_wp2_with fail
      go_meet
      exact ⟨rfl, rfl⟩
    · have e : b = true := by rw [HB.out]; first | (exact decide_eq_true (by omega)) | (exact decide_eq_false (by omega))
      clear HB
      subst e
      go_wp2_with fail
      go_meet
      exact ⟨rfl, rfl⟩
    · have e : b = false := by rw [HB.out]; first | (exact decide_eq_true (by omega)) | (exact decide_eq_false (by omega))
      clear HB
      subst e
      go_wp2_with fail
      go_meet
      exact ⟨rfl, rfl⟩
  obtain ⟨rfl, rfl⟩ := hcut
  by_cases h : k < 1 ∨ 4 < k
  · have e : b = true := by rw [HB.out]; exact decide_eq_true h
    have eO : Hid (O = 31) := hide (by have := HO.out; rw [if_pos h] at this; exact this)
    clear HO HB
    subst e
    clear h
    go_wp2_with fail
    go_ret
    exact ⟨by rw [eO.out]; rfl, BB⟩
  replace HO := hide (HO.out.trans (if_neg h))
  have e : b = false := by rw [HB.out]; exact decide_eq_false h
  clear HB h
  subst e
  go_upto_region 3 with (fail)
  obtain ⟨b, hb⟩ : ∃ b, b = decide (i < 1 ∨ 1099511627776 < i) := ⟨_, rfl⟩
  have HB := hide hb
  clear hb
  go_cut [12] (fun v wx => v = .bool b ∧ w0 = wx)
  case first =>
    clear HO
    have hw : (i < 1) ∨ (¬ i < 1 ∧ 1099511627776 < i) ∨ (¬ i < 1 ∧ ¬ 1099511627776 < i) := by omega
    rcases hw with g0 | ⟨g0, g1⟩ | ⟨g0, g1⟩
    · have e : b = true := by rw [HB.out]; first | (exact decide_eq_true (by omega)) | (exact decide_eq_false (by omega))
      clear HB
      subst e
      go_wp2_with fail
      go_meet
      exact ⟨rfl, rfl⟩
    · have e : b = true := by rw [HB.out]; first | (exact decide_eq_true (by omega)) | (exact decide_eq_false (by omega))
      clear HB
      subst e
      go_wp2_with fail
      go_meet
      exact ⟨rfl, rfl⟩
    · have e : b = false := by rw [HB.out]; first | (exact decide_eq_true (by omega)) | (exact decide_eq_false (by omega))
      clear HB
      subst e
      go_wp2_with fail
      go_meet
      exact ⟨rfl, rfl⟩
  obtain ⟨rfl, rfl⟩ := hcut
  by_cases h : i < 1 ∨ 1099511627776 < i
  · have e : b = true := by rw [HB.out]; exact decide_eq_true h
    have eO : Hid (O = 1) := hide (by have := HO.out; rw [if_pos h] at this; exact this)
    clear HO HB
    subst e
    clear h
    go_wp2_with fail
    go_ret
    exact ⟨by rw [eO.out]; rfl, BB⟩
  replace HO := hide (HO.out.trans (if_neg h))
  have e : b = false := by rw [HB.out]; exact decide_eq_false h
  clear HB h
  subst e
  by_cases hk : k = 1
  · have eO := hide (HO.out.trans (if_pos hk))
    have hd : (k == 1) = true := by simpa using hk
    clear HO hk
    go_wp2_with fail
    refine (order_any ⟨k, i, n, s, p, q, l, t, lb⟩ hl _).mono ?_
    rw [← eO.out]
    rintro e u ⟨rfl, b1⟩
    go_wp2_with fail
    go_ret
    exact ⟨rfl, nxt BB b1⟩
  replace HO := hide (HO.out.trans (if_neg hk))
  have hd : (k == 1) = false := by simpa using hk
  clear hk
  go_upto_region 7 with (fail)
  obtain ⟨b, hb⟩ : ∃ b, b = decide (k ≠ 2 ∧ ¬ qtyOk q) := ⟨_, rfl⟩
  have HB := hide hb
  clear hb
  go_cut [27] (fun v wx => v = .bool b ∧ w0 = wx)
  case first =>
    clear HO
    have hw : (k = 2) ∨ (¬ k = 2) := by omega
    rcases hw with g0 | g0
    · have e : b = false := by rw [HB.out]; exact decide_eq_false fun h => h.1 g0
      clear HB
      subst e
      have d0 : (k == 2) = true := by simp; omega
      have c0 : (k != 2) = false := by simp; omega
      clear g0
      go_wp2_with fail
      go_meet
      exact ⟨rfl, rfl⟩
    · obtain ⟨b2, hb2⟩ : ∃ b2, b2 = decide (qtyOk q) := ⟨_, rfl⟩
      have HB2 := hide hb2
      clear hb2
      have e : b = !b2 := by rw [HB.out]; rw [HB2.out]; by_cases h : qtyOk q <;> simp [h, g0]
      clear HB
      subst e
      have d0 : (k == 2) = false := by simp; omega
      have c0 : (k != 2) = true := by simp; omega
      clear g0
      go_wp2_with fail
      refine (quantity_any q _).mono ?_
      rw [← HB2.out]
      rintro e u ⟨rfl, rfl⟩
      go_wp2_with fail
      go_meet
      exact ⟨rfl, rfl⟩
  obtain ⟨rfl, rfl⟩ := hcut
  by_cases h : k ≠ 2 ∧ ¬ qtyOk q
  · have e : b = true := by rw [HB.out]; exact decide_eq_true h
    have eO : Hid (O = 24) := hide (by have := HO.out; rw [if_pos h] at this; exact this)
    clear HO HB
    subst e
    clear h
    go_wp2_with fail
    go_ret
    exact ⟨by rw [eO.out]; rfl, BB⟩
  replace HO := hide (HO.out.trans (if_neg h))
  have e : b = false := by rw [HB.out]; exact decide_eq_false h
  clear HB h
  subst e
  go_upto_region 9 with (fail)
  obtain ⟨b, hb⟩ : ∃ b, b = decide (k = 4 ∧ ¬ priceOk p) := ⟨_, rfl⟩
  have HB := hide hb
  clear hb
  go_cut [37] (fun v wx => v = .bool b ∧ w0 = wx)
  case first =>
    clear HO
    have hw : (¬ k = 4) ∨ (k = 4) := by omega
    rcases hw with g0 | g0
    · have e : b = false := by rw [HB.out]; exact decide_eq_false fun h => g0 h.1
      clear HB
      subst e
      have d0 : (k == 4) = false := by simp; omega
      have c0 : (k != 4) = true := by simp; omega
      clear g0
      go_wp2_with fail
      go_meet
      exact ⟨rfl, rfl⟩
    · obtain ⟨b2, hb2⟩ : ∃ b2, b2 = decide (priceOk p) := ⟨_, rfl⟩
      have HB2 := hide hb2
      clear hb2
      have e : b = !b2 := by rw [HB.out]; rw [HB2.out]; by_cases h : priceOk p <;> simp [h, g0]
      clear HB
      subst e
      have d0 : (k == 4) = true := by simp; omega
      have c0 : (k != 4) = false := by simp; omega
      clear g0
      go_wp2_with fail
      refine (price_any p _).mono ?_
      rw [← HB2.out]
      rintro e u ⟨rfl, rfl⟩
      go_wp2_with fail
      go_meet
      exact ⟨rfl, rfl⟩
  obtain ⟨rfl, rfl⟩ := hcut
  by_cases h : k = 4 ∧ ¬ priceOk p
  · have e : b = true := by rw [HB.out]; exact decide_eq_true h
    have eO : Hid (O = 23) := hide (by have := HO.out; rw [if_pos h] at this; exact this)
    clear HO HB
    subst e
    clear h
    go_wp2_with fail
    go_ret
    exact ⟨by rw [eO.out]; rfl, BB⟩
  replace HO := hide (HO.out.trans (if_neg h))
  have e : b = false := by rw [HB.out]; exact decide_eq_false h
  clear HB h
  subst e
  go_wp2_with fail
  go_ret
  exact ⟨by rw [HO.out]; rfl, BB⟩
set_option maxRecDepth 100000 in
set_option maxHeartbeats 3200000 in
theorem refRight_any (c : Cmd) (hl : c.lab.length ≤ 9223372036854775807) (w : World) : Calls Try.prog 24 #[c.val] w fun e w' => e = .returned (.int .i64 (rightC c : Nat)) ∧ Below w.heap.size w w' := by
  obtain ⟨O, eO⟩ : ∃ O, O = rightC c := ⟨_, rfl⟩
  rw [← eO]
  obtain ⟨k, i, n, s, p, q, l, t, lb⟩ := c
  unfold rightC at eO
  simp only at eO hl
  obtain ⟨w0, ew0⟩ : ∃ w0, w0 = w.alloc (.cells (Cmd.cells ⟨k, i, n, s, p, q, l, t, lb⟩) 23) := ⟨_, rfl⟩
  obtain ⟨g, eg⟩ : ∃ g, g = w.heap.size := ⟨_, rfl⟩
  have hC : CAt w0 g ⟨k, i, n, s, p, q, l, t, lb⟩ := by rw [ew0, eg]; exact CAt.new _ _
  have B0 : Below w.heap.size w w0 := by rw [ew0]; exact nxt_alloc (Below.refl _ _) _
  have HO := hide eO
  clear eO
  show Calls Try.prog 24 #[.agg #[.int .i64 k, .int .i64 i, .int .i64 n, .int .i64 s, .int .i64 p, .int .i64 q, .int .i64 l, .int .i64 t, .string (str lb)]] w _
  change w0 = w.alloc (.cells #[.int .i64 k, .int .i64 i, .int .i64 n, .int .i64 s, .int .i64 p, .int .i64 q, .int .i64 l, .int .i64 t, .string (str lb)] 23) at ew0
  go_enter Try.func24, Try.ntmps24
  go_upto_region 1 with (fail)
  rw [← ew0, ← eg]
  clear ew0 eg
  obtain ⟨f0, f1, f2, f3, f4, f5, f6, f7, f8⟩ := hC.reads
  have BB := B0
  obtain ⟨b, hb⟩ : ∃ b, b = decide (k < 1 ∨ 4 < k) := ⟨_, rfl⟩
  have HB := hide hb
  clear hb
  go_cut [10] (fun v wx => v = .bool b ∧ w0 = wx)
  case first =>
    clear HO
    have hw : (k < 1) ∨ (¬ k < 1 ∧ 4 < k) ∨ (¬ k < 1 ∧ ¬ 4 < k) := by omega
    rcases hw with g0 | ⟨g0, g1⟩ | ⟨g0, g1⟩
    · have e : b = true := by rw [HB.out]; first | (exact decide_eq_true (by omega)) | (exact decide_eq_false (by omega))
      clear HB
      subst e
      go_wp2_with fail
      go_meet
      exact ⟨rfl, rfl⟩
    · have e : b = true := by rw [HB.out]; first | (exact decide_eq_true (by omega)) | (exact decide_eq_false (by omega))
      clear HB
      subst e
      go_wp2_with fail
      go_meet
      exact ⟨rfl, rfl⟩
    · have e : b = false := by rw [HB.out]; first | (exact decide_eq_true (by omega)) | (exact decide_eq_false (by omega))
      clear HB
      subst e
      go_wp2_with fail
      go_meet
      exact ⟨rfl, rfl⟩
  obtain ⟨rfl, rfl⟩ := hcut
  by_cases h : k < 1 ∨ 4 < k
  · have e : b = true := by rw [HB.out]; exact decide_eq_true h
    have eO : Hid (O = 31) := hide (by have := HO.out; rw [if_pos h] at this; exact this)
    clear HO HB
    subst e
    clear h
    go_wp2_with fail
    go_ret
    exact ⟨by rw [eO.out]; rfl, BB⟩
  replace HO := hide (HO.out.trans (if_neg h))
  have e : b = false := by rw [HB.out]; exact decide_eq_false h
  clear HB h
  subst e
  go_upto_region 3 with (fail)
  obtain ⟨b, hb⟩ : ∃ b, b = decide (i < 1 ∨ 1099511627776 < i) := ⟨_, rfl⟩
  have HB := hide hb
  clear hb
  go_cut [18] (fun v wx => v = .bool b ∧ w0 = wx)
  case first =>
    clear HO
    have hw : (i < 1) ∨ (¬ i < 1 ∧ 1099511627776 < i) ∨ (¬ i < 1 ∧ ¬ 1099511627776 < i) := by omega
    rcases hw with g0 | ⟨g0, g1⟩ | ⟨g0, g1⟩
    · have e : b = true := by rw [HB.out]; first | (exact decide_eq_true (by omega)) | (exact decide_eq_false (by omega))
      clear HB
      subst e
      go_wp2_with fail
      go_meet
      exact ⟨rfl, rfl⟩
    · have e : b = true := by rw [HB.out]; first | (exact decide_eq_true (by omega)) | (exact decide_eq_false (by omega))
      clear HB
      subst e
      go_wp2_with fail
      go_meet
      exact ⟨rfl, rfl⟩
    · have e : b = false := by rw [HB.out]; first | (exact decide_eq_true (by omega)) | (exact decide_eq_false (by omega))
      clear HB
      subst e
      go_wp2_with fail
      go_meet
      exact ⟨rfl, rfl⟩
  obtain ⟨rfl, rfl⟩ := hcut
  by_cases h : i < 1 ∨ 1099511627776 < i
  · have e : b = true := by rw [HB.out]; exact decide_eq_true h
    have eO : Hid (O = 1) := hide (by have := HO.out; rw [if_pos h] at this; exact this)
    clear HO HB
    subst e
    clear h
    go_wp2_with fail
    go_ret
    exact ⟨by rw [eO.out]; rfl, BB⟩
  replace HO := hide (HO.out.trans (if_neg h))
  have e : b = false := by rw [HB.out]; exact decide_eq_false h
  clear HB h
  subst e
  by_cases hk : k = 1
  · subst hk
    have HO1 := hide (HO.out.trans (if_pos rfl))
    clear HO
    have HO : Hid (O = if s ≠ 1 ∧ s ≠ 2 then 21 else if t < 1 ∨ 3 < t then 27 else if ¬ qtyOk q then 24 else if l < 0 ∨ q < l then 28
      else if lb ≠ [] ∧ labR lb = false then 29 else if ¬ priceOk p then 23 else if n < 0 ∨ 255 < n then 20 else 0) := HO1
    clear HO1
    go_upto_region 6 with (fail)
    obtain ⟨b, hb⟩ : ∃ b, b = decide (s ≠ 1 ∧ s ≠ 2) := ⟨_, rfl⟩
    have HB := hide hb
    clear hb
    go_cut [29] (fun v wx => v = .bool b ∧ w0 = wx)
    case first =>
      clear HO
      have hw : (s = 1) ∨ (¬ s = 1 ∧ s = 2) ∨ (¬ s = 1 ∧ ¬ s = 2) := by omega
      rcases hw with g0 | ⟨g0, g1⟩ | ⟨g0, g1⟩
      · have e : b = false := by rw [HB.out]; first | (exact decide_eq_true (by omega)) | (exact decide_eq_false (by omega))
        clear HB
        subst e
        have d0 : (s == 1) = true := by simp; omega
        have c0 : (s != 1) = false := by simp; omega
        clear g0
        go_wp2_with fail
        go_meet
        exact ⟨rfl, rfl⟩
      · have e : b = false := by rw [HB.out]; first | (exact decide_eq_true (by omega)) | (exact decide_eq_false (by omega))
        clear HB
        subst e
        have d0 : (s == 1) = false := by simp; omega
        have c0 : (s != 1) = true := by simp; omega
        clear g0
        have d1 : (s == 2) = true := by simp; omega
        have c1 : (s != 2) = false := by simp; omega
        clear g1
        go_wp2_with fail
        go_meet
        exact ⟨rfl, rfl⟩
      · have e : b = true := by rw [HB.out]; first | (exact decide_eq_true (by omega)) | (exact decide_eq_false (by omega))
        clear HB
        subst e
        have d0 : (s == 1) = false := by simp; omega
        have c0 : (s != 1) = true := by simp; omega
        clear g0
        have d1 : (s == 2) = false := by simp; omega
        have c1 : (s != 2) = true := by simp; omega
        clear g1
        go_wp2_with fail
        go_meet
        exact ⟨rfl, rfl⟩
    obtain ⟨rfl, rfl⟩ := hcut
    by_cases h : s ≠ 1 ∧ s ≠ 2
    · have e : b = true := by rw [HB.out]; exact decide_eq_true h
      have eO : Hid (O = 21) := hide (by have := HO.out; rw [if_pos h] at this; exact this)
      clear HO HB
      subst e
      clear h
      go_wp2_with fail
      go_ret
      exact ⟨by rw [eO.out]; rfl, BB⟩
    replace HO := hide (HO.out.trans (if_neg h))
    have e : b = false := by rw [HB.out]; exact decide_eq_false h
    clear HB h
    subst e
    go_upto_region 8 with (fail)
    obtain ⟨b, hb⟩ : ∃ b, b = decide (t < 1 ∨ 3 < t) := ⟨_, rfl⟩
    have HB := hide hb
    clear hb
    go_cut [37] (fun v wx => v = .bool b ∧ w0 = wx)
    case first =>
      clear HO
      have hw : (t < 1) ∨ (¬ t < 1 ∧ 3 < t) ∨ (¬ t < 1 ∧ ¬ 3 < t) := by omega
      rcases hw with g0 | ⟨g0, g1⟩ | ⟨g0, g1⟩
      · have e : b = true := by rw [HB.out]; first | (exact decide_eq_true (by omega)) | (exact decide_eq_false (by omega))
        clear HB
        subst e
        go_wp2_with fail
        go_meet
        exact ⟨rfl, rfl⟩
      · have e : b = true := by rw [HB.out]; first | (exact decide_eq_true (by omega)) | (exact decide_eq_false (by omega))
        clear HB
        subst e
        go_wp2_with fail
        go_meet
        exact ⟨rfl, rfl⟩
      · have e : b = false := by rw [HB.out]; first | (exact decide_eq_true (by omega)) | (exact decide_eq_false (by omega))
        clear HB
        subst e
        go_wp2_with fail
        go_meet
        exact ⟨rfl, rfl⟩
    obtain ⟨rfl, rfl⟩ := hcut
    by_cases h : t < 1 ∨ 3 < t
    · have e : b = true := by rw [HB.out]; exact decide_eq_true h
      have eO : Hid (O = 27) := hide (by have := HO.out; rw [if_pos h] at this; exact this)
      clear HO HB
      subst e
      clear h
      go_wp2_with fail
      go_ret
      exact ⟨by rw [eO.out]; rfl, BB⟩
    replace HO := hide (HO.out.trans (if_neg h))
    have e : b = false := by rw [HB.out]; exact decide_eq_false h
    clear HB h
    subst e
    go_upto_region 10 with (fail)
    obtain ⟨b, hb⟩ : ∃ b, b = decide (¬ qtyOk q) := ⟨_, rfl⟩
    have HB := hide hb
    clear hb
    go_cut [50] (fun v wx => v = .bool b ∧ w0 = wx)
    case first =>
      clear HO
      have hw : (q < 1) ∨ (¬ q < 1 ∧ 1000000 < q) ∨ (¬ q < 1 ∧ ¬ 1000000 < q) := by omega
      rcases hw with g0 | ⟨g0, g1⟩ | ⟨g0, g1⟩
      · have e : b = true := by rw [HB.out]; first | exact decide_eq_true (by unfold qtyOk; omega) | exact decide_eq_false (by unfold qtyOk; omega)
        clear HB
        subst e
        go_wp2_with fail
        go_meet
        exact ⟨rfl, rfl⟩
      · have e : b = true := by rw [HB.out]; first | exact decide_eq_true (by unfold qtyOk; omega) | exact decide_eq_false (by unfold qtyOk; omega)
        clear HB
        subst e
        go_wp2_with fail
        go_meet
        exact ⟨rfl, rfl⟩
      · have e : b = false := by rw [HB.out]; first | exact decide_eq_true (by unfold qtyOk; omega) | exact decide_eq_false (by unfold qtyOk; omega)
        clear HB
        subst e
        go_wp2_with fail
        go_meet
        exact ⟨rfl, rfl⟩
    obtain ⟨rfl, rfl⟩ := hcut
    by_cases h : ¬ qtyOk q
    · have e : b = true := by rw [HB.out]; exact decide_eq_true h
      have eO : Hid (O = 24) := hide (by have := HO.out; rw [if_pos h] at this; exact this)
      clear HO HB
      subst e
      clear h
      go_wp2_with fail
      go_ret
      exact ⟨by rw [eO.out]; rfl, BB⟩
    replace HO := hide (HO.out.trans (if_neg h))
    have e : b = false := by rw [HB.out]; exact decide_eq_false h
    clear HB h
    subst e
    go_upto_region 13 with (fail)
    obtain ⟨b, hb⟩ : ∃ b, b = decide (l < 0 ∨ q < l) := ⟨_, rfl⟩
    have HB := hide hb
    clear hb
    go_cut [63] (fun v wx => v = .bool b ∧ w0 = wx)
    case first =>
      clear HO
      have hw : (l < 0) ∨ (¬ l < 0 ∧ q < l) ∨ (¬ l < 0 ∧ ¬ q < l) := by omega
      rcases hw with g0 | ⟨g0, g1⟩ | ⟨g0, g1⟩
      · have e : b = true := by rw [HB.out]; first | (exact decide_eq_true (by omega)) | (exact decide_eq_false (by omega))
        clear HB
        subst e
        go_wp2_with fail
        go_meet
        exact ⟨rfl, rfl⟩
      · have e : b = true := by rw [HB.out]; first | (exact decide_eq_true (by omega)) | (exact decide_eq_false (by omega))
        clear HB
        subst e
        go_wp2_with fail
        go_meet
        exact ⟨rfl, rfl⟩
      · have e : b = false := by rw [HB.out]; first | (exact decide_eq_true (by omega)) | (exact decide_eq_false (by omega))
        clear HB
        subst e
        go_wp2_with fail
        go_meet
        exact ⟨rfl, rfl⟩
    obtain ⟨rfl, rfl⟩ := hcut
    by_cases h : l < 0 ∨ q < l
    · have e : b = true := by rw [HB.out]; exact decide_eq_true h
      have eO : Hid (O = 28) := hide (by have := HO.out; rw [if_pos h] at this; exact this)
      clear HO HB
      subst e
      clear h
      go_wp2_with fail
      go_ret
      exact ⟨by rw [eO.out]; rfl, BB⟩
    replace HO := hide (HO.out.trans (if_neg h))
    have e : b = false := by rw [HB.out]; exact decide_eq_false h
    clear HB h
    subst e
    go_upto_region 15 with (fail)
    obtain ⟨b, hb⟩ : ∃ b, b = decide (lb ≠ [] ∧ labR lb = false) := ⟨_, rfl⟩
    have HB := hide hb
    clear hb
    go_cut [72] (fun v wx => v = .bool b ∧ Below w0.heap.size w0 wx)
    case first =>
      clear HO
      by_cases h0 : lb = []
      · have e : b = false := by rw [HB.out]; exact decide_eq_false fun h => h.1 h0
        have d0 := str_empty h0
        clear HB h0
        subst e
        go_wp2_with fail
        go_meet
        exact ⟨rfl, Below.refl _ _⟩
      · obtain ⟨b', hb'⟩ : ∃ b', b' = labR lb := ⟨_, rfl⟩
        have e : b = !b' := by rw [HB.out, hb']; cases hR : labR lb <;> simp [h0]
        have d0 := str_full h0
        have HB' := hide hb'
        clear HB h0 hb'
        subst e
        go_wp2_with fail
        refine (refLabR_any lb _ (by omega)).mono ?_
        rw [← HB'.out]
        rintro e w1 ⟨rfl, b1⟩
        go_wp2_with fail
        go_meet
        exact ⟨rfl, b1⟩
    obtain ⟨rfl, b1⟩ := hcut
    have hC1 := hC.below b1
    have BB := nxt B0 b1
    obtain ⟨w1, ew1⟩ : ∃ w1, w1 = wc := ⟨_, rfl⟩
    rw [← ew1] at hC1 BB ⊢
    clear ew1 f0 f1 f2 f3 f4 f5 f6 f7 f8
    obtain ⟨f0, f1, f2, f3, f4, f5, f6, f7, f8⟩ := hC1.reads
    by_cases h : lb ≠ [] ∧ labR lb = false
    · have e : b = true := by rw [HB.out]; exact decide_eq_true h
      have eO : Hid (O = 29) := hide (by have := HO.out; rw [if_pos h] at this; exact this)
      clear HO HB
      subst e
      clear h
      go_wp2_with fail
      go_ret
      exact ⟨by rw [eO.out]; rfl, BB⟩
    replace HO := hide (HO.out.trans (if_neg h))
    have e : b = false := by rw [HB.out]; exact decide_eq_false h
    clear HB h
    subst e
    go_upto_region 17 with (fail)
    obtain ⟨b, hb⟩ : ∃ b, b = decide (¬ priceOk p) := ⟨_, rfl⟩
    have HB := hide hb
    clear hb
    go_cut [90] (fun v wx => v = .bool b ∧ w1 = wx)
    case first =>
      clear HO
      have hw : (p < -2000000) ∨ (¬ p < -2000000 ∧ 2000000 < p) ∨ (¬ p < -2000000 ∧ ¬ 2000000 < p) := by omega
      rcases hw with g0 | ⟨g0, g1⟩ | ⟨g0, g1⟩
      · have e : b = true := by rw [HB.out]; first | exact decide_eq_true (by unfold priceOk; omega) | exact decide_eq_false (by unfold priceOk; omega)
        clear HB
        subst e
        go_wp2_with fail
        go_meet
        exact ⟨rfl, rfl⟩
      · have e : b = true := by rw [HB.out]; first | exact decide_eq_true (by unfold priceOk; omega) | exact decide_eq_false (by unfold priceOk; omega)
        clear HB
        subst e
        go_wp2_with fail
        go_meet
        exact ⟨rfl, rfl⟩
      · have e : b = false := by rw [HB.out]; first | exact decide_eq_true (by unfold priceOk; omega) | exact decide_eq_false (by unfold priceOk; omega)
        clear HB
        subst e
        go_wp2_with fail
        go_meet
        exact ⟨rfl, rfl⟩
    obtain ⟨rfl, rfl⟩ := hcut
    by_cases h : ¬ priceOk p
    · have e : b = true := by rw [HB.out]; exact decide_eq_true h
      have eO : Hid (O = 23) := hide (by have := HO.out; rw [if_pos h] at this; exact this)
      clear HO HB
      subst e
      clear h
      go_wp2_with fail
      go_ret
      exact ⟨by rw [eO.out]; rfl, BB⟩
    replace HO := hide (HO.out.trans (if_neg h))
    have e : b = false := by rw [HB.out]; exact decide_eq_false h
    clear HB h
    subst e
    go_upto_region 19 with (fail)
    obtain ⟨b, hb⟩ : ∃ b, b = decide (n < 0 ∨ 255 < n) := ⟨_, rfl⟩
    have HB := hide hb
    clear hb
    go_cut [103] (fun v wx => v = .bool b ∧ w1 = wx)
    case first =>
      clear HO
      have hw : (n < 0) ∨ (¬ n < 0 ∧ 255 < n) ∨ (¬ n < 0 ∧ ¬ 255 < n) := by omega
      rcases hw with g0 | ⟨g0, g1⟩ | ⟨g0, g1⟩
      · have e : b = true := by rw [HB.out]; first | (exact decide_eq_true (by omega)) | (exact decide_eq_false (by omega))
        clear HB
        subst e
        go_wp2_with fail
        go_meet
        exact ⟨rfl, rfl⟩
      · have e : b = true := by rw [HB.out]; first | (exact decide_eq_true (by omega)) | (exact decide_eq_false (by omega))
        clear HB
        subst e
        go_wp2_with fail
        go_meet
        exact ⟨rfl, rfl⟩
      · have e : b = false := by rw [HB.out]; first | (exact decide_eq_true (by omega)) | (exact decide_eq_false (by omega))
        clear HB
        subst e
        go_wp2_with fail
        go_meet
        exact ⟨rfl, rfl⟩
    obtain ⟨rfl, rfl⟩ := hcut
    by_cases h : n < 0 ∨ 255 < n
    · have e : b = true := by rw [HB.out]; exact decide_eq_true h
      have eO : Hid (O = 20) := hide (by have := HO.out; rw [if_pos h] at this; exact this)
      clear HO HB
      subst e
      clear h
      go_wp2_with fail
      go_ret
      exact ⟨by rw [eO.out]; rfl, BB⟩
    replace HO := hide (HO.out.trans (if_neg h))
    have e : b = false := by rw [HB.out]; exact decide_eq_false h
    clear HB h
    subst e
    go_wp2_with fail
    go_ret
    exact ⟨by rw [HO.out]; rfl, BB⟩
  replace HO := hide (HO.out.trans (if_neg hk))
  have hd : (k == 1) = false := by simpa using hk
  go_upto_region 10 with (fail)
  obtain ⟨b, hb⟩ : ∃ b, b = decide (k ≠ 2 ∧ ¬ qtyOk q) := ⟨_, rfl⟩
  have HB := hide hb
  clear hb
  go_cut [50] (fun v wx => v = .bool b ∧ w0 = wx)
  case first =>
    clear HO
    have hw : (k = 2) ∨ (¬ k = 2 ∧ q < 1) ∨ (¬ k = 2 ∧ ¬ q < 1 ∧ 1000000 < q) ∨ (¬ k = 2 ∧ ¬ q < 1 ∧ ¬ 1000000 < q) := by omega
    rcases hw with g0 | ⟨g0, g1⟩ | ⟨g0, g1, g2⟩ | ⟨g0, g1, g2⟩
    · have e : b = false := by rw [HB.out]; first | exact decide_eq_true (by unfold qtyOk; omega) | exact decide_eq_false (by unfold qtyOk; omega)
      clear HB
      subst e
      have d0 : (k == 2) = true := by simp; omega
      have c0 : (k != 2) = false := by simp; omega
      clear g0
      go_wp2_with fail
      go_meet
      exact ⟨rfl, rfl⟩
    · have e : b = true := by rw [HB.out]; first | exact decide_eq_true (by unfold qtyOk; omega) | exact decide_eq_false (by unfold qtyOk; omega)
      clear HB
      subst e
      have d0 : (k == 2) = false := by simp; omega
      have c0 : (k != 2) = true := by simp; omega
      clear g0
      go_wp2_with fail
      go_meet
      exact ⟨rfl, rfl⟩
    · have e : b = true := by rw [HB.out]; first | exact decide_eq_true (by unfold qtyOk; omega) | exact decide_eq_false (by unfold qtyOk; omega)
      clear HB
      subst e
      have d0 : (k == 2) = false := by simp; omega
      have c0 : (k != 2) = true := by simp; omega
      clear g0
      go_wp2_with fail
      go_meet
      exact ⟨rfl, rfl⟩
    · have e : b = false := by rw [HB.out]; first | exact decide_eq_true (by unfold qtyOk; omega) | exact decide_eq_false (by unfold qtyOk; omega)
      clear HB
      subst e
      have d0 : (k == 2) = false := by simp; omega
      have c0 : (k != 2) = true := by simp; omega
      clear g0
      go_wp2_with fail
      go_meet
      exact ⟨rfl, rfl⟩
  obtain ⟨rfl, rfl⟩ := hcut
  by_cases h : k ≠ 2 ∧ ¬ qtyOk q
  · have e : b = true := by rw [HB.out]; exact decide_eq_true h
    have eO : Hid (O = 24) := hide (by have := HO.out; rw [if_pos h] at this; exact this)
    clear HO HB
    subst e
    clear h
    go_wp2_with fail
    go_ret
    exact ⟨by rw [eO.out]; rfl, BB⟩
  replace HO := hide (HO.out.trans (if_neg h))
  have e : b = false := by rw [HB.out]; exact decide_eq_false h
  clear HB h
  subst e
  go_upto_region 17 with (fail)
  obtain ⟨b, hb⟩ : ∃ b, b = decide (k = 4 ∧ ¬ priceOk p) := ⟨_, rfl⟩
  have HB := hide hb
  clear hb
  go_cut [90] (fun v wx => v = .bool b ∧ w0 = wx)
  case first =>
    clear HO
    have hw : (¬ k = 4) ∨ (k = 4 ∧ p < -2000000) ∨ (k = 4 ∧ ¬ p < -2000000 ∧ 2000000 < p) ∨ (k = 4 ∧ ¬ p < -2000000 ∧ ¬ 2000000 < p) := by omega
    rcases hw with g0 | ⟨g0, g1⟩ | ⟨g0, g1, g2⟩ | ⟨g0, g1, g2⟩
    · have e : b = false := by rw [HB.out]; first | exact decide_eq_true (by unfold priceOk; omega) | exact decide_eq_false (by unfold priceOk; omega)
      clear HB
      subst e
      have d0 : (k == 4) = false := by simp; omega
      have c0 : (k != 4) = true := by simp; omega
      clear g0
      go_wp2_with fail
      go_meet
      exact ⟨rfl, rfl⟩
    · have e : b = true := by rw [HB.out]; first | exact decide_eq_true (by unfold priceOk; omega) | exact decide_eq_false (by unfold priceOk; omega)
      clear HB
      subst e
      have d0 : (k == 4) = true := by simp; omega
      have c0 : (k != 4) = false := by simp; omega
      clear g0
      go_wp2_with fail
      go_meet
      exact ⟨rfl, rfl⟩
    · have e : b = true := by rw [HB.out]; first | exact decide_eq_true (by unfold priceOk; omega) | exact decide_eq_false (by unfold priceOk; omega)
      clear HB
      subst e
      have d0 : (k == 4) = true := by simp; omega
      have c0 : (k != 4) = false := by simp; omega
      clear g0
      go_wp2_with fail
      go_meet
      exact ⟨rfl, rfl⟩
    · have e : b = false := by rw [HB.out]; first | exact decide_eq_true (by unfold priceOk; omega) | exact decide_eq_false (by unfold priceOk; omega)
      clear HB
      subst e
      have d0 : (k == 4) = true := by simp; omega
      have c0 : (k != 4) = false := by simp; omega
      clear g0
      go_wp2_with fail
      go_meet
      exact ⟨rfl, rfl⟩
  obtain ⟨rfl, rfl⟩ := hcut
  by_cases h : k = 4 ∧ ¬ priceOk p
  · have e : b = true := by rw [HB.out]; exact decide_eq_true h
    have eO : Hid (O = 23) := hide (by have := HO.out; rw [if_pos h] at this; exact this)
    clear HO HB
    subst e
    clear h
    go_wp2_with fail
    go_ret
    exact ⟨by rw [eO.out]; rfl, BB⟩
  replace HO := hide (HO.out.trans (if_neg h))
  have e : b = false := by rw [HB.out]; exact decide_eq_false h
  clear HB h
  subst e
  go_wp2_with fail
  go_ret
  exact ⟨by rw [HO.out]; rfl, BB⟩
--END6R
end Go.Proofs.Ytjahndamfhfjcaa
