/-
  Same, of reports.
-/
import Derived.Test.YtbfjdhbgpjenbaaDoorRepL
namespace Go.Proofs.YtbfjdhbgpjenbaaDoor
set_option linter.unusedSimpArgs false
open Go.RowKit
set_option linter.unusedVariables false

theorem sameR_step {l m : List Rep} {k : Nat} {x : Rep} (hx : l[k]? = some x) (hy : m[k]? = some x) (h : l.take k = m.take k) : l.take (k + 1) = m.take (k + 1) := by
  rw [take_succ_of hx, take_succ_of hy, h]
/-- The first field in which two reports differ. -/
theorem rep_ne {x0 x1 x2 x3 x4 x5 x6 x7 y0 y1 y2 y3 y4 y5 y6 y7 : Int} (h : (⟨x0, x1, x2, x3, x4, x5, x6, x7⟩ : Rep) ≠ ⟨y0, y1, y2, y3, y4, y5, y6, y7⟩) :
    (x0 ≠ y0) ∨ (x0 = y0 ∧ x1 ≠ y1) ∨ (x0 = y0 ∧ x1 = y1 ∧ x2 ≠ y2) ∨ (x0 = y0 ∧ x1 = y1 ∧ x2 = y2 ∧ x3 ≠ y3) ∨ (x0 = y0 ∧ x1 = y1 ∧ x2 = y2 ∧ x3 = y3 ∧ x4 ≠ y4) ∨ (x0 = y0 ∧ x1 = y1 ∧ x2 = y2 ∧ x3 = y3 ∧ x4 = y4 ∧ x5 ≠ y5) ∨ (x0 = y0 ∧ x1 = y1 ∧ x2 = y2 ∧ x3 = y3 ∧ x4 = y4 ∧ x5 = y5 ∧ x6 ≠ y6) ∨ (x0 = y0 ∧ x1 = y1 ∧ x2 = y2 ∧ x3 = y3 ∧ x4 = y4 ∧ x5 = y5 ∧ x6 = y6 ∧ x7 ≠ y7) := by
  rcases Decidable.em (x0 = y0) with h0 | e
  rotate_left
  · exact .inl (e)
  rcases Decidable.em (x1 = y1) with h1 | e
  rotate_left
  · exact .inr (.inl (⟨h0, e⟩))
  rcases Decidable.em (x2 = y2) with h2 | e
  rotate_left
  · exact .inr (.inr (.inl (⟨h0, h1, e⟩)))
  rcases Decidable.em (x3 = y3) with h3 | e
  rotate_left
  · exact .inr (.inr (.inr (.inl (⟨h0, h1, h2, e⟩))))
  rcases Decidable.em (x4 = y4) with h4 | e
  rotate_left
  · exact .inr (.inr (.inr (.inr (.inl (⟨h0, h1, h2, h3, e⟩)))))
  rcases Decidable.em (x5 = y5) with h5 | e
  rotate_left
  · exact .inr (.inr (.inr (.inr (.inr (.inl (⟨h0, h1, h2, h3, h4, e⟩))))))
  rcases Decidable.em (x6 = y6) with h6 | e
  rotate_left
  · exact .inr (.inr (.inr (.inr (.inr (.inr (.inl (⟨h0, h1, h2, h3, h4, h5, e⟩)))))))
  rcases Decidable.em (x7 = y7) with h7 | e
  rotate_left
  · exact .inr (.inr (.inr (.inr (.inr (.inr (.inr ((⟨h0, h1, h2, h3, h4, h5, h6, e⟩))))))))
  subst h0 h1 h2 h3 h4 h5 h6 h7
  exact absurd rfl h
set_option maxRecDepth 100000 in
set_option maxHeartbeats 1600000 in
theorem sameR_any (A B : Option Addr) (na nb ca cb : Nat) (l m : List Rep) (w : World) (hna : l.length = na) (hnb : m.length = nb) (hl : l.length ≤ 1000000000) (hm : m.length ≤ 1000000000) (hA : Cells w A (repsV l)) (hB : Cells w B (repsV m)) :
    Calls Tryd.prog 20 #[.slice A na ca, .slice B nb cb] w fun e w' => e = .returned (.bool (decide (l = m))) ∧ Below w.heap.size w w' := by
  refine Calls.mono (R := fun e w' => e = .returned (.bool (decide (l = m))) ∧ ∃ n, w' = w.drewN n) ?_ fun _ _ ⟨he, n, hw⟩ => ⟨he, hw ▸ below_drewN (Below.refl _ _) n⟩
  subst hna hnb
  by_cases hlm : l.length = m.length
  · have hlm' : (l.length : Int) = m.length := by omega
    go_enter Tryd.func20, Tryd.ntmps20
    go_wp2
    go_loopw [5] (fun i wr => ∃ k n : Nat, k ≤ l.length ∧ i = .int .i64 k ∧ Hid (l.take k = m.take k) ∧ wr = w.drewN n) (fun i _ => l.length - (intOf i).toNat)
    case atStart => exact ⟨0, 0, Nat.zero_le _, rfl, rfl, rfl⟩
    case round =>
      obtain ⟨k, n, hk, rfl, HT, rfl⟩ := hrel
      by_cases hlt : k < l.length
      · have hltm : k < m.length := by omega
        have hx : l[k]? = some l[k] := List.getElem?_eq_getElem hlt
        have hy : m[k]? = some m[k] := List.getElem?_eq_getElem hltm
        obtain ⟨b, o, rfl, hb, p0, p1, p2, p3, p4, p5, p6, p7⟩ := reps_at hA hx
        obtain ⟨b2, o2, rfl, hb2, q0, q1, q2, q3, q4, q5, q6, q7⟩ := reps_at hB hy
        generalize hr : l[k] = r at hx p0 p1 p2 p3 p4 p5 p6 p7
        generalize hq : m[k] = q at hy q0 q1 q2 q3 q4 q5 q6 q7
        obtain ⟨x0, x1, x2, x3, x4, x5, x6, x7⟩ := r
        obtain ⟨y0, y1, y2, y3, y4, y5, y6, y7⟩ := q
        simp only at p0 p1 p2 p3 p4 p5 p6 p7 q0 q1 q2 q3 q4 q5 q6 q7
        have HX := hide hx
        have HY := hide hy
        have i1 : (k : Int) < l.length := by omega
        have i2 : (k : Int) < m.length := by omega
        clear hx hy hr hq hA hB
        by_cases he : (⟨x0, x1, x2, x3, x4, x5, x6, x7⟩ : Rep) = ⟨y0, y1, y2, y3, y4, y5, y6, y7⟩
        · rw [Rep.mk.injEq] at he
          obtain ⟨rfl, rfl, rfl, rfl, rfl, rfl, rfl, rfl⟩ := he
          go_wp2
          go_quiet (fail)
          go_wp2
          go_roundw
          case rel => exact ⟨k + 1, _, by omega, by go_num, sameR_step HX.out HY.out HT.out, by first | rfl | exact World.drewN_drewN _ _ _⟩
          case measure => simp [intOf]; omega
        · have hne : decide (l = m) = false := by
            rw [decide_eq_false_iff_not]
            intro h
            subst h
            exact he (Option.some.inj (HX.out.symm.trans HY.out))
          have HNE := hide hne
          have hcs := rep_ne he
          clear he hne HX HY
          rcases hcs with hd | ⟨rfl, hd⟩ | ⟨rfl, rfl, hd⟩ | ⟨rfl, rfl, rfl, hd⟩ | ⟨rfl, rfl, rfl, rfl, hd⟩ | ⟨rfl, rfl, rfl, rfl, rfl, hd⟩ | ⟨rfl, rfl, rfl, rfl, rfl, rfl, hd⟩ | ⟨rfl, rfl, rfl, rfl, rfl, rfl, rfl, hd⟩
          all_goals
            go_wp2
            go_quiet (fail)
            go_wp2
            go_ret
            exact ⟨ret_bool HNE.out.symm, _, by first | rfl | exact World.drewN_drewN _ _ _⟩
      · go_wp2
        go_ret
        refine ⟨ret_bool ?_, _, rfl⟩
        symm; rw [decide_eq_true_iff]
        have := HT.out
        rwa [List.take_of_length_le (by omega), List.take_of_length_le (by omega)] at this
  · have hlm' : ((l.length : Int) == m.length) = false := by simp; omega
    go_enter Tryd.func20, Tryd.ntmps20
    go_wp2
    go_ret
    exact ⟨ret_bool (by symm; rw [decide_eq_false_iff_not]; intro h; rw [h] at hlm; simp at hlm), 0, rfl⟩
end Go.Proofs.YtbfjdhbgpjenbaaDoor
