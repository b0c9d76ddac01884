/-
  report.All, and the document's. (Printed by tools/gen7a.py.)
-/
import Derived.Test.YtbfjdhbgpjenbaaDoorRepE
import Derived.Test.YtbfjdhbgpjenbaaDoorElemS
namespace Go.Proofs.YtbfjdhbgpjenbaaDoor
set_option linter.unusedSimpArgs false
open Go.RowKit
set_option linter.unusedVariables false

/-- Reports as cells, one behind the other. -/
def repsV (l : List Rep) : List Value := l.flatMap fun r => r.cells.toList
theorem repsV_cons (r : Rep) (l : List Rep) : repsV (r :: l) = r.cells.toList ++ repsV l := rfl
theorem repsV_append (a b : List Rep) : repsV (a ++ b) = repsV a ++ repsV b := by simp [repsV]
theorem length_cellsR (r : Rep) : r.cells.toList.length = 8 := rfl
theorem length_repsV : ∀ l : List Rep, (repsV l).length = l.length * 8
  | [] => rfl
  | r :: l => by rw [repsV_cons, List.length_append, length_cellsR, length_repsV l, List.length_cons]; omega
theorem repsV_at : ∀ {l : List Rep} {i : Nat} {r : Rep} (j : Nat), j < 8 → l[i]? = some r → (repsV l)[i * 8 + j]? = r.cells.toList[j]?
  | [], i, r, j, _, h => by simp at h
  | x :: l, 0, r, j, hj, h => by
    simp at h
    subst h
    rw [repsV_cons, List.getElem?_append_left (by rw [length_cellsR]; omega), Nat.zero_mul, Nat.zero_add]
  | x :: l, i + 1, r, j, hj, h => by
    have ih := repsV_at (l := l) (i := i) j hj (by simpa using h)
    rw [repsV_cons, List.getElem?_append_right (by rw [length_cellsR]; omega), length_cellsR, ← ih]
    congr 1
    omega
theorem reps_one (l : List Rep) : ∀ u ∈ repsV l, u.oneCell' = true := by
  intro u hu
  simp only [repsV, List.mem_flatMap] at hu
  obtain ⟨r, _, hr⟩ := hu
  simp [Rep.cells] at hr
  rcases hr with rfl | rfl | rfl | rfl | rfl | rfl | rfl | rfl <;> rfl
theorem reps_at {w : World} {A : Option Addr} {l : List Rep} {i : Nat} {r : Rep} (h : Cells w A (repsV l)) (hr : l[i]? = some r) :
    ∃ b o, A = some ⟨b, o, none⟩ ∧ b < w.heap.size ∧ w.cell? ⟨b, o + i * 8, none⟩ = some (.int .i64 r.kind) ∧ w.cell? ⟨b, o + i * 8 + 1, none⟩ = some (.int .i64 r.id) ∧ w.cell? ⟨b, o + i * 8 + 2, none⟩ = some (.int .i64 r.inst) ∧ w.cell? ⟨b, o + i * 8 + 3, none⟩ = some (.int .i64 r.side) ∧
      w.cell? ⟨b, o + i * 8 + 4, none⟩ = some (.int .i64 r.price) ∧ w.cell? ⟨b, o + i * 8 + 5, none⟩ = some (.int .i64 r.qty) ∧ w.cell? ⟨b, o + i * 8 + 6, none⟩ = some (.int .i64 r.left) ∧ w.cell? ⟨b, o + i * 8 + 7, none⟩ = some (.int .i64 r.why) := by
  have hl : i < l.length := lt_of_some hr
  obtain ⟨b, o, rfl, hb, hc⟩ := h (by
    intro h0
    have := congrArg List.length h0
    rw [length_repsV] at this
    simp at this; omega)
  have key : ∀ j, j < 8 → ∀ u, r.cells.toList[j]? = some u → w.cell? ⟨b, o + i * 8 + j, none⟩ = some u := fun j hj u hu => by
    rw [Nat.add_assoc]
    exact hc (i * 8 + j) u ((repsV_at j hj hr).trans hu)
  exact ⟨b, o, rfl, hb, key 0 (by omega) _ rfl, key 1 (by omega) _ rfl, key 2 (by omega) _ rfl, key 3 (by omega) _ rfl, key 4 (by omega) _ rfl, key 5 (by omega) _ rfl, key 6 (by omega) _ rfl, key 7 (by omega) _ rfl⟩
theorem encO_right {r : Rep} (h : rightP r) : encO r = encR r ∧ encY r = 0 := ⟨if_pos h, if_pos h⟩
theorem encO_wrong {r : Rep} (h : ¬ rightP r) : encO r = [] ∧ encY r = 12 := ⟨if_neg h, if_neg h⟩
theorem allL_snoc {l : List Rep} {k : Nat} {r : Rep} (h : l[k]? = some r) : allL (l.take (k + 1)) = allL (l.take k) ++ (if rightP r then frameL (encR r) else []) := by
  rw [take_succ_of h, allL_append]; simp [allL]
theorem FreshB2.get {w w' : World} {l : List UInt8} {z : Int} {e : Ending} {n : Nat} (h : FreshB2 w l z e w') (hn : l.length = n) :
    ∃ A c, e = .returned (.tuple #[.slice A n c, .int .i64 z]) ∧ w'.ownsRow w.heap.size 5 1 (.slice A n c) n (u8s l) ∧ Cells w' A (u8s l) ∧ n ≤ c ∧ c ≤ maxLen ∧ Below w.heap.size w w' := by
  subst hn; exact h
set_option maxRecDepth 100000 in
set_option maxHeartbeats 1600000 in
theorem all_any (A : Option Addr) (n c : Nat) (l : List Rep) (w : World) (hn : l.length = n) (hl : n ≤ 1000000) (hA : Cells w A (repsV l)) :
    Calls Tryd.prog 15 #[.slice A n c] w (FreshB w (allL l)) := by
  have HN := hide hn
  clear hn
  go_enter Tryd.func15, Tryd.ntmps15
  go_wp2_with fail
  go_loopw [3, 12] (fun v i wr => ∃ (k N : Nat) (A' : Option Addr) (c' : Nat), k ≤ n ∧ i = .int .i64 (k : Int) ∧ v = .slice A' N c' ∧ N ≤ 42 * k ∧ Hid (N = (allL (l.take k)).length) ∧
    Hid (wr.ownsRow w.heap.size 5 1 (.slice A' N c') N (u8s (allL (l.take k)))) ∧ Below w.heap.size w wr) (fun _ i _ => n - (intOf i).toNat)
  case atStart => exact ⟨0, 0, none, 0, Nat.zero_le _, rfl, rfl, by omega, rfl, World.ownsRow_nil _ _ _ _, Below.refl _ _⟩
  case round =>
    obtain ⟨k, N, A', c', hk, rfl, rfl, hNk, HNN, HO, B⟩ := hrel
    by_cases hlt : k < n
    · obtain ⟨r, hr⟩ : ∃ r, l[k]? = some r := ⟨l[k]'(by rw [HN.out]; exact hlt), List.getElem?_eq_getElem _⟩
      obtain ⟨b, o, rfl, hb, q0, q1, q2, q3, q4, q5, q6, q7⟩ := reps_at (hA.below B) hr
      have i1 : (k : Int) < n := by omega
      have hst := allL_snoc hr
      have HST := hide hst
      have hwk : IntKind.i64.wrap ((k : Int) + 1) = (k : Int) + 1 := IntWalk.i64_in _ (by omega)
      clear hst hr hA
      obtain ⟨wg, ewg⟩ : ∃ wg, wg = wr.alloc (.cells r.cells 24) := ⟨_, rfl⟩
      obtain ⟨g5, eg5⟩ : ∃ g5, g5 = wr.heap.size := ⟨_, rfl⟩
      have F5 : RpAt wg g5 r := by rw [ewg, eg5]; exact RpAt.new _ _
      have bg : Below wr.heap.size wr wg := by rw [ewg]; exact nxt_alloc (Below.refl _ _) _
      have HO2 := hide (own_below HO.out bg)
      have B1 := nxt B bg
      change wg = wr.alloc (.cells #[.int .i64 r.kind, .int .i64 r.id, .int .i64 r.inst, .int .i64 r.side, .int .i64 r.price, .int .i64 r.qty, .int .i64 r.left, .int .i64 r.why] 24) at ewg
      go_upto_region 5 with (fail)
      rw [← ewg, ← eg5]
      clear ewg eg5 q0 q1 q2 q3 q4 q5 q6 q7 bg HO B
      obtain ⟨f0, f1, f2, f3, f4, f5, f6, f7⟩ := F5.reads'
      go_wp2_with fail
      clear f0 f1 f2 f3 f4 f5 f6 f7
      refine (encode_any r _).mono ?_
      intro e w1 h1
      by_cases hri : rightP r
      · obtain ⟨hE, hY⟩ := encO_right hri
        rw [hE, hY] at h1
        replace HST := hide (HST.out.trans (by rw [if_pos hri]))
        obtain ⟨A1, c1, rfl, -, hA1, -, -, b1⟩ := h1.get (length_encR r)
        have HO3 := hide (own_below HO2.out b1)
        have B2 := nxt B1 b1
        obtain ⟨E, eE⟩ : ∃ E, E = encR r := ⟨_, rfl⟩
        have hEl : E.length = 36 := by rw [eE]; exact length_encR r
        rw [← eE] at hA1 HST
        have HE := hide eE
        have HEl := hide hEl
        clear HO2 B1 b1 eE hEl hri hE hY
        go_wp2_with fail
        refine (frame_ok A1 36 c1 E _ HEl.out (by omega) hA1).mono ?_
        have hfl : (frameL E).length = 42 := by rw [length_frameL, HEl.out]
        obtain ⟨G, eG⟩ : ∃ G, G = frameL E := ⟨_, rfl⟩
        rw [← eG] at hfl HST ⊢
        have HFL := hide hfl
        clear eG
        intro e w2 h2
        obtain ⟨AF, cF, rfl, -, hF, -, -, b2⟩ := h2.get HFL.out
        have own2 := own_below HO3.out b2
        have B3 := nxt B2 b2
        clear h2 hfl HO3 B2 b2 hA1
        go_wp2_with (at_builtin
                     refine wpList_app elU8 own2 (news := u8s G) rfl _ _ rfl rfl rfl (by rw [length_u8s]; exact HFL.out) hF (u8s_one G) (by omega) B3.size (N + 42) _ rfl rfl ?_
                     intro A4 c4 w4 p4
                     have B4 := p4.below _ _ (Nat.le_refl _) B3)
        have hN' : N + 42 = (allL (l.take (k + 1))).length := by rw [HST.out, List.length_append, ← HNN.out, HFL.out]
        have HN' := hide hN'
        have HOB : Hid (w4.ownsRow w.heap.size 5 1 (.slice A4 (N + 42) c4) (N + 42) (u8s (allL (l.take (k + 1))))) := by
          have := p4.own
          rw [HST.out]
          simpa [u8s, Hid] using this
        clear hN' p4 own2 B3 hF
        go_roundw
        case rel => exact ⟨k + 1, N + 42, A4, c4, by omega, by go_num, rfl, by omega, HN', HOB, B4⟩
        case measure => simp [intOf]; omega
      · obtain ⟨hE, hY⟩ := encO_wrong hri
        rw [hE, hY] at h1
        replace HST := hide (HST.out.trans (by rw [if_neg hri, List.append_nil]))
        obtain ⟨A1, c1, rfl, -, -, -, -, b1⟩ := h1.get (n := 0) rfl
        have HO3 := hide (own_below HO2.out b1)
        have B2 := nxt B1 b1
        clear HO2 B1 b1 hri hE hY
        go_wp2_with fail
        go_roundw
        case rel => exact ⟨k + 1, N, A', c', by omega, by go_num, rfl, by omega, by rw [HST.out]; exact HNN, by rw [HST.out]; exact HO3, B2⟩
        case measure => simp [intOf]; omega
    · have i1 : ¬ (k : Int) < n := by omega
      have hkn : k = n := by omega
      have ht : l.take k = l := List.take_of_length_le (by rw [HN.out]; omega)
      rw [ht] at HO HNN
      clear hA ht hkn
      go_wp2_with fail
      go_ret
      exact Fresh.mk HNN.out HO.out B
set_option maxRecDepth 100000 in
set_option maxHeartbeats 1600000 in
theorem refAll_any (A : Option Addr) (n c : Nat) (l : List Rep) (w : World) (hn : l.length = n) (hl : n ≤ 1000000) (hA : Cells w A (repsV l)) :
    Calls Tryd.prog 16 #[.slice A n c] w (FreshB w (allL l)) := by
  have HN := hide hn
  clear hn
  go_enter Tryd.func16, Tryd.ntmps16
  go_wp2_with fail
  go_loopw [3, 4] (fun v i wr => ∃ (k N : Nat) (A' : Option Addr) (c' : Nat), k ≤ n ∧ i = .int .i64 (k : Int) ∧ v = .slice A' N c' ∧ N ≤ 42 * k ∧ Hid (N = (allL (l.take k)).length) ∧
    Hid (wr.ownsRow w.heap.size 5 1 (.slice A' N c') N (u8s (allL (l.take k)))) ∧ Below w.heap.size w wr) (fun _ i _ => n - (intOf i).toNat)
  case atStart => exact ⟨0, 0, none, 0, Nat.zero_le _, rfl, rfl, by omega, rfl, World.ownsRow_nil _ _ _ _, Below.refl _ _⟩
  case round =>
    obtain ⟨k, N, A', c', hk, rfl, rfl, hNk, HNN, HO, B⟩ := hrel
    by_cases hlt : k < n
    · obtain ⟨r, hr⟩ : ∃ r, l[k]? = some r := ⟨l[k]'(by rw [HN.out]; exact hlt), List.getElem?_eq_getElem _⟩
      obtain ⟨b, o, rfl, hb, q0, q1, q2, q3, q4, q5, q6, q7⟩ := reps_at (hA.below B) hr
      have i1 : (k : Int) < n := by omega
      have hst := allL_snoc hr
      have HST := hide hst
      have hwk : IntKind.i64.wrap ((k : Int) + 1) = (k : Int) + 1 := IntWalk.i64_in _ (by omega)
      clear hst hr hA
      have HO2 := HO
      have B1 := B
      obtain ⟨wg, ewg⟩ : ∃ wg, wg = wr := ⟨_, rfl⟩
      rw [← ewg] at HO2 B1 q0 q1 q2 q3 q4 q5 q6 q7 ⊢
      clear ewg HO B
      go_wp2_with fail
      clear q0 q1 q2 q3 q4 q5 q6 q7
      refine (refEncode_any r _).mono ?_
      intro e w1 h1
      by_cases hri : rightP r
      · obtain ⟨hE, hY⟩ := encO_right hri
        rw [hE, hY] at h1
        replace HST := hide (HST.out.trans (by rw [if_pos hri]))
        obtain ⟨A1, c1, rfl, -, hA1, -, -, b1⟩ := h1.get (length_encR r)
        have HO3 := hide (own_below HO2.out b1)
        have B2 := nxt B1 b1
        obtain ⟨E, eE⟩ : ∃ E, E = encR r := ⟨_, rfl⟩
        have hEl : E.length = 36 := by rw [eE]; exact length_encR r
        rw [← eE] at hA1 HST
        have HE := hide eE
        have HEl := hide hEl
        clear HO2 B1 b1 eE hEl hri hE hY
        go_wp2_with fail
        refine (refFrame_ok A1 36 c1 E _ HEl.out (by omega) hA1).mono ?_
        have hfl : (frameL E).length = 42 := by rw [length_frameL, HEl.out]
        obtain ⟨G, eG⟩ : ∃ G, G = frameL E := ⟨_, rfl⟩
        rw [← eG] at hfl HST ⊢
        have HFL := hide hfl
        clear eG
        intro e w2 h2
        obtain ⟨AF, cF, rfl, -, hF, -, -, b2⟩ := h2.get HFL.out
        have own2 := own_below HO3.out b2
        have B3 := nxt B2 b2
        clear h2 hfl HO3 B2 b2 hA1
        go_wp2_with (at_builtin
                     refine wpList_app elU8 own2 (news := u8s G) rfl _ _ rfl rfl rfl (by rw [length_u8s]; exact HFL.out) hF (u8s_one G) (by omega) B3.size (N + 42) _ rfl rfl ?_
                     intro A4 c4 w4 p4
                     have B4 := p4.below _ _ (Nat.le_refl _) B3)
        have hN' : N + 42 = (allL (l.take (k + 1))).length := by rw [HST.out, List.length_append, ← HNN.out, HFL.out]
        have HN' := hide hN'
        have HOB : Hid (w4.ownsRow w.heap.size 5 1 (.slice A4 (N + 42) c4) (N + 42) (u8s (allL (l.take (k + 1))))) := by
          have := p4.own
          rw [HST.out]
          simpa [u8s, Hid] using this
        clear hN' p4 own2 B3 hF
        go_roundw
        case rel => exact ⟨k + 1, N + 42, A4, c4, by omega, by go_num, rfl, by omega, HN', HOB, B4⟩
        case measure => simp [intOf]; omega
      · obtain ⟨hE, hY⟩ := encO_wrong hri
        rw [hE, hY] at h1
        replace HST := hide (HST.out.trans (by rw [if_neg hri, List.append_nil]))
        obtain ⟨A1, c1, rfl, -, -, -, -, b1⟩ := h1.get (n := 0) rfl
        have HO3 := hide (own_below HO2.out b1)
        have B2 := nxt B1 b1
        clear HO2 B1 b1 hri hE hY
        go_wp2_with fail
        go_roundw
        case rel => exact ⟨k + 1, N, A', c', by omega, by go_num, rfl, by omega, by rw [HST.out]; exact HNN, by rw [HST.out]; exact HO3, B2⟩
        case measure => simp [intOf]; omega
    · have i1 : ¬ (k : Int) < n := by omega
      have hkn : k = n := by omega
      have ht : l.take k = l := List.take_of_length_le (by rw [HN.out]; omega)
      rw [ht] at HO HNN
      clear hA ht hkn
      go_wp2_with fail
      go_ret
      exact Fresh.mk HNN.out HO.out B
end Go.Proofs.YtbfjdhbgpjenbaaDoor
