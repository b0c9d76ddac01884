/-
  command.Encode, and the document's. (Printed by tools/gen6e.py.)
-/
import Derived.Test.YtjahndamfhfjcaaCmd
import Derived.Test.YtjahndamfhfjcaaWAt
import Derived.Test.YtjahndamfhfjcaaFrame
import Derived.Test.YtjahndamfhfjcaaRef4
import Derived.Test.YtjahndamfhfjcaaGrow
namespace Go.Proofs.Ytjahndamfhfjcaa
open Go.RowKit
set_option linter.unusedVariables false

theorem FreshB2.none (w : World) (w' : World) (z : Int) (h : Below w.heap.size w w') : FreshB2 w [] z (.returned (.tuple #[.slice none 0 0, .int .i64 z])) w' :=
  ⟨Option.none, 0, rfl, World.ownsRow_nil _ _ _ _, Cells.nil _ _, Nat.le_refl _, Nat.zero_le _, h⟩
theorem FreshB2.of {w w1 w2 : World} {A : Option Addr} {n c : Nat} {l : List UInt8} (hn : l.length = n) (hB : Below w.heap.size w w1) (h : w2.ownsRow w1.heap.size 5 1 (.slice A n c) n (u8s l)) (hA : Cells w2 A (u8s l)) (h1 : n ≤ c) (h2 : c ≤ maxLen) (hb : Below w1.heap.size w1 w2) :
    FreshB2 w l ((0 : Nat) : Int) (.returned (.tuple #[.slice A n c, .int .i64 0])) w2 := by
  subst hn
  exact ⟨A, c, rfl, own_base h hB.size, hA, h1, h2, nxt hB hb⟩
set_option maxRecDepth 100000 in
set_option maxHeartbeats 1600000 in
theorem encode_any (c : Cmd) (hl : c.lab.length ≤ 9223372036854775807) (w : World) : Calls Try.prog 11 #[c.val] w (FreshB2 w (encO c) (rightC c : Nat)) := by
  obtain ⟨O, eO⟩ : ∃ O, O = rightC c := ⟨_, rfl⟩
  have hEO : encO c = if O = 0 then encC c else [] := by rw [eO]; rfl
  rw [← eO]
  obtain ⟨L, eL⟩ : ∃ L, L = encO c := ⟨_, rfl⟩
  rw [← eL]
  have HL := hide (eL.trans hEO)
  clear hEO eL
  have hR := fun w => right_any c hl w
  rw [← eO] at hR
  obtain ⟨k, i, n, s, p, q, l, t, lb⟩ := c
  simp only at hl
  obtain ⟨w0, ew0⟩ : ∃ w0, w0 = w.alloc (.cells (Cmd.cells ⟨k, i, n, s, p, q, l, t, lb⟩) 23) := ⟨_, rfl⟩
  obtain ⟨g, eg⟩ : ∃ g, g = w.heap.size := ⟨_, rfl⟩
  have hC : CAt w0 g ⟨k, i, n, s, p, q, l, t, lb⟩ := by rw [ew0, eg]; exact CAt.new _ _
  have B0 : Below w.heap.size w w0 := by rw [ew0]; exact nxt_alloc (Below.refl _ _) _
  clear eO
  change ∀ w, Calls Try.prog _ #[.agg #[.int .i64 k, .int .i64 i, .int .i64 n, .int .i64 s, .int .i64 p, .int .i64 q, .int .i64 l, .int .i64 t, .string (str lb)]] w _ at hR
  have HR := hide hR
  clear hR
  show Calls Try.prog 11 #[.agg #[.int .i64 k, .int .i64 i, .int .i64 n, .int .i64 s, .int .i64 p, .int .i64 q, .int .i64 l, .int .i64 t, .string (str lb)]] w _
  change w0 = w.alloc (.cells #[.int .i64 k, .int .i64 i, .int .i64 n, .int .i64 s, .int .i64 p, .int .i64 q, .int .i64 l, .int .i64 t, .string (str lb)] 23) at ew0
  go_enter Try.func11, Try.ntmps11
  go_upto_region 1 with (fail)
  rw [← ew0, ← eg]
  clear ew0 eg
  obtain ⟨f0, f1, f2, f3, f4, f5, f6, f7, f8⟩ := hC.reads
  have hg := hC.lt
  go_wp2_with fail
  refine (HR.out _).mono ?_
  rintro e w1 ⟨rfl, b1⟩
  have hC1 := hC.below b1
  have BB := nxt B0 b1
  have hg1 : g < w1.heap.size := hC1.lt
  have HC := hide hC1
  clear f0 f1 f2 f3 f4 f5 f6 f7 f8 hC B0 b1 hg hC1
  by_cases hO : O = 0
  rotate_left
  · have d0 : ((O : Int) != 0) = true := by simp; omega
    replace HL := hide (HL.out.trans (if_neg hO))
    clear hO
    go_wp2_with fail
    go_ret2
    rw [HL.out]
    exact FreshB2.none _ _ _ BB
  · subst hO
    replace HL := hide (HL.out.trans (if_pos rfl))
    go_wp2_with fail
    refine (wat_new _).mono ?_
    rintro e w2 ⟨d, rfl, W2, b2⟩
    have bb : Below (g + 1) w1 w2 := b2.mono hg1
    have B2 := nxt BB b2
    have hB := W2.bd
    clear b2
    have x0 := (bb.cell (p := ⟨g, 0, none⟩) (Nat.lt_succ_self g)).trans (HC.out.cell 0)
    change w2.cell? ⟨g, 0, none⟩ = some (.int .i64 k) at x0
    go_wp2_with fail
    refine (wat_byte _ d _ k _ W2 (by simp [length_le])).mono ?_
    rintro e w3 ⟨rfl, W3, b3⟩
    replace bb := bb.trans (b3.mono hg1)
    have B3 := B2.trans (b3.mono BB.size)
    clear x0 W2 b3 B2
    have x1 := (bb.cell (p := ⟨g, 1, none⟩) (Nat.lt_succ_self g)).trans (HC.out.cell 1)
    change w3.cell? ⟨g, 1, none⟩ = some (.int .i64 i) at x1
    go_wp2_with fail
    refine (wat_long _ d _ i _ W3 (by simp [length_le])).mono ?_
    rintro e w4 ⟨rfl, W4, b4⟩
    replace bb := bb.trans (b4.mono hg1)
    have B4 := B3.trans (b4.mono BB.size)
    clear x1 W3 b4 B3
    have z0 := (bb.cell (p := ⟨g, 0, none⟩) (Nat.lt_succ_self g)).trans (HC.out.cell 0)
    change w4.cell? ⟨g, 0, none⟩ = some (.int .i64 k) at z0
    by_cases h1 : k = 1
    · have d1 : (k == 1) = true := by simpa using h1
      have he : encC ⟨k, i, n, s, p, q, l, t, lb⟩ = [] ++ le 1 (u64N k) ++ le 8 (u64N i) ++ le 1 (u64N n) ++ le 1 (u64N s) ++ le 1 (u64N t) ++ le 8 (u64N p) ++ le 8 (u64N q) ++ le 8 (u64N l) ++ textL lb := by
        simp [encC, tailC, h1]
      replace HL := hide (HL.out.trans he)
      clear he h1
      have x2 := (bb.cell (p := ⟨g, 2, none⟩) (Nat.lt_succ_self g)).trans (HC.out.cell 2)
      change w4.cell? ⟨g, 2, none⟩ = some (.int .i64 n) at x2
      go_wp2_with fail
      refine (wat_byte _ d _ n _ W4 (by simp [length_le])).mono ?_
      rintro e w5 ⟨rfl, W5, b5⟩
      replace bb := bb.trans (b5.mono hg1)
      have B5 := B4.trans (b5.mono BB.size)
      clear x2 W4 b5 B4
      clear z0
      have x3 := (bb.cell (p := ⟨g, 3, none⟩) (Nat.lt_succ_self g)).trans (HC.out.cell 3)
      change w5.cell? ⟨g, 3, none⟩ = some (.int .i64 s) at x3
      go_wp2_with fail
      refine (wat_byte _ d _ s _ W5 (by simp [length_le])).mono ?_
      rintro e w6 ⟨rfl, W6, b6⟩
      replace bb := bb.trans (b6.mono hg1)
      have B6 := B5.trans (b6.mono BB.size)
      clear x3 W5 b6 B5
      have x7 := (bb.cell (p := ⟨g, 7, none⟩) (Nat.lt_succ_self g)).trans (HC.out.cell 7)
      change w6.cell? ⟨g, 7, none⟩ = some (.int .i64 t) at x7
      go_wp2_with fail
      refine (wat_byte _ d _ t _ W6 (by simp [length_le])).mono ?_
      rintro e w7 ⟨rfl, W7, b7⟩
      replace bb := bb.trans (b7.mono hg1)
      have B7 := B6.trans (b7.mono BB.size)
      clear x7 W6 b7 B6
      have x4 := (bb.cell (p := ⟨g, 4, none⟩) (Nat.lt_succ_self g)).trans (HC.out.cell 4)
      change w7.cell? ⟨g, 4, none⟩ = some (.int .i64 p) at x4
      go_wp2_with fail
      refine (wat_long _ d _ p _ W7 (by simp [length_le])).mono ?_
      rintro e w8 ⟨rfl, W8, b8⟩
      replace bb := bb.trans (b8.mono hg1)
      have B8 := B7.trans (b8.mono BB.size)
      clear x4 W7 b8 B7
      have x5 := (bb.cell (p := ⟨g, 5, none⟩) (Nat.lt_succ_self g)).trans (HC.out.cell 5)
      change w8.cell? ⟨g, 5, none⟩ = some (.int .i64 q) at x5
      go_wp2_with fail
      refine (wat_long _ d _ q _ W8 (by simp [length_le])).mono ?_
      rintro e w9 ⟨rfl, W9, b9⟩
      replace bb := bb.trans (b9.mono hg1)
      have B9 := B8.trans (b9.mono BB.size)
      clear x5 W8 b9 B8
      have x6 := (bb.cell (p := ⟨g, 6, none⟩) (Nat.lt_succ_self g)).trans (HC.out.cell 6)
      change w9.cell? ⟨g, 6, none⟩ = some (.int .i64 l) at x6
      go_wp2_with fail
      refine (wat_long _ d _ l _ W9 (by simp [length_le])).mono ?_
      rintro e w10 ⟨rfl, W10, b10⟩
      replace bb := bb.trans (b10.mono hg1)
      have B10 := B9.trans (b10.mono BB.size)
      clear x6 W9 b10 B9
      have x8 := (bb.cell (p := ⟨g, 8, none⟩) (Nat.lt_succ_self g)).trans (HC.out.cell 8)
      change w10.cell? ⟨g, 8, none⟩ = some (.string (str lb)) at x8
      go_wp2_with fail
      refine (wat_text _ d _ lb _ W10 (by simp [length_le]) (by omega)).mono ?_
      rintro e w11 ⟨rfl, W11, b11⟩
      replace bb := bb.trans (b11.mono hg1)
      have B11 := B10.trans (b11.mono BB.size)
      clear x8 W10 b11 B10
      have hLl : L.length ≤ 1000 := by rw [HL.out]; simp [length_le, length_textL]; try omega
      rw [← HL.out] at W11
      obtain ⟨N, eN⟩ : ∃ N, L.length = N := ⟨_, rfl⟩
      have HN := hide eN
      clear eN
      go_wp2_with fail
      refine (wat_done _ d L _ W11 (by omega)).mono ?_
      intro e wz hz
      obtain ⟨A, c, rfl, own, hA, h1, h2, b⟩ := hz.n HN.out
      go_wp2_with fail
      go_ret2
      exact FreshB2.of HN.out B11 own hA h1 h2 b
    have d1 : (k == 1) = false := by simpa using h1
    by_cases h3 : k = 3
    · have d3 : (k == 3) = true := by simpa using h3
      have he : encC ⟨k, i, n, s, p, q, l, t, lb⟩ = [] ++ le 1 (u64N k) ++ le 8 (u64N i) ++ le 8 (u64N q) := by
        simp [encC, tailC, h3]
      replace HL := hide (HL.out.trans he)
      clear he h3
      have x5 := (bb.cell (p := ⟨g, 5, none⟩) (Nat.lt_succ_self g)).trans (HC.out.cell 5)
      change w4.cell? ⟨g, 5, none⟩ = some (.int .i64 q) at x5
      go_wp2_with fail
      refine (wat_long _ d _ q _ W4 (by simp [length_le])).mono ?_
      rintro e w5 ⟨rfl, W5, b5⟩
      replace bb := bb.trans (b5.mono hg1)
      have B5 := B4.trans (b5.mono BB.size)
      clear x5 W4 b5 B4
      clear z0
      have hLl : L.length ≤ 1000 := by rw [HL.out]; simp [length_le, length_textL]; try omega
      rw [← HL.out] at W5
      obtain ⟨N, eN⟩ : ∃ N, L.length = N := ⟨_, rfl⟩
      have HN := hide eN
      clear eN
      go_wp2_with fail
      refine (wat_done _ d L _ W5 (by omega)).mono ?_
      intro e wz hz
      obtain ⟨A, c, rfl, own, hA, h1, h2, b⟩ := hz.n HN.out
      go_wp2_with fail
      go_ret2
      exact FreshB2.of HN.out B5 own hA h1 h2 b
    have d3 : (k == 3) = false := by simpa using h3
    by_cases h4 : k = 4
    · have d4 : (k == 4) = true := by simpa using h4
      have he : encC ⟨k, i, n, s, p, q, l, t, lb⟩ = [] ++ le 1 (u64N k) ++ le 8 (u64N i) ++ le 8 (u64N p) ++ le 8 (u64N q) := by
        simp [encC, tailC, h4]
      replace HL := hide (HL.out.trans he)
      clear he h4
      have x4 := (bb.cell (p := ⟨g, 4, none⟩) (Nat.lt_succ_self g)).trans (HC.out.cell 4)
      change w4.cell? ⟨g, 4, none⟩ = some (.int .i64 p) at x4
      go_wp2_with fail
      refine (wat_long _ d _ p _ W4 (by simp [length_le])).mono ?_
      rintro e w5 ⟨rfl, W5, b5⟩
      replace bb := bb.trans (b5.mono hg1)
      have B5 := B4.trans (b5.mono BB.size)
      clear x4 W4 b5 B4
      clear z0
      have x5 := (bb.cell (p := ⟨g, 5, none⟩) (Nat.lt_succ_self g)).trans (HC.out.cell 5)
      change w5.cell? ⟨g, 5, none⟩ = some (.int .i64 q) at x5
      go_wp2_with fail
      refine (wat_long _ d _ q _ W5 (by simp [length_le])).mono ?_
      rintro e w6 ⟨rfl, W6, b6⟩
      replace bb := bb.trans (b6.mono hg1)
      have B6 := B5.trans (b6.mono BB.size)
      clear x5 W5 b6 B5
      have hLl : L.length ≤ 1000 := by rw [HL.out]; simp [length_le, length_textL]; try omega
      rw [← HL.out] at W6
      obtain ⟨N, eN⟩ : ∃ N, L.length = N := ⟨_, rfl⟩
      have HN := hide eN
      clear eN
      go_wp2_with fail
      refine (wat_done _ d L _ W6 (by omega)).mono ?_
      intro e wz hz
      obtain ⟨A, c, rfl, own, hA, h1, h2, b⟩ := hz.n HN.out
      go_wp2_with fail
      go_ret2
      exact FreshB2.of HN.out B6 own hA h1 h2 b
    have d4 : (k == 4) = false := by simpa using h4
    have he : encC ⟨k, i, n, s, p, q, l, t, lb⟩ = [] ++ le 1 (u64N k) ++ le 8 (u64N i) := by
      simp [encC, tailC, h1, h3, h4]
    replace HL := hide (HL.out.trans he)
    clear he h1 h3 h4
    have hLl : L.length ≤ 1000 := by rw [HL.out]; simp [length_le, length_textL]; try omega
    rw [← HL.out] at W4
    obtain ⟨N, eN⟩ : ∃ N, L.length = N := ⟨_, rfl⟩
    have HN := hide eN
    clear eN
    go_wp2_with fail
    refine (wat_done _ d L _ W4 (by omega)).mono ?_
    intro e wz hz
    obtain ⟨A, c, rfl, own, hA, h1, h2, b⟩ := hz.n HN.out
    go_wp2_with fail
    go_ret2
    exact FreshB2.of HN.out B4 own hA h1 h2 b
end Go.Proofs.Ytjahndamfhfjcaa
