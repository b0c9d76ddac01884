/-
  Orders as the document has them: cornhilllaw13.in.
-/
import Derived.Test.YtglcdamdjjbjhaaRAlloc
namespace Go.Proofs.Ytglcdamdjjbjhaa
open Go.RowKit
set_option linter.unusedVariables false

def FreshO (w : World) (e : TypeId) (l : List Ord) (x : Ending) (w' : World) : Prop :=
  ∃ A c, x = .returned (.slice A l.length c) ∧ w'.ownsRow w.heap.size e 5 (.slice A l.length c) l.length (flat l) ∧ Cells w' A (flat l) ∧ l.length ≤ c ∧ c ≤ maxLen ∧ Below w.heap.size w w'
theorem Try.infoRO : (Try.prog.info? 47).map (fun i => (i.zero, i.size, i.bytes)) = some (some (.agg #[.int .i64 0, .int .i64 0, .int .i64 0, .int .i64 0, .bool false]), 5, 40) := by kernel_rfl
theorem elRO : ElemS Try.prog 33 47 (.agg #[.int .i64 0, .int .i64 0, .int .i64 0, .int .i64 0, .bool false]) 5 40 :=
  ⟨Try.underlying33, let ⟨i, h, h0, h1, h2⟩ := info_parts Try.infoRO; ⟨i, h, h0, h1, h2⟩, rfl, by omega, by omega⟩
theorem Try.infoBO : (Try.prog.info? 23).map (fun i => (i.zero, i.size, i.bytes)) = some (some (.agg #[.int .i64 0, .int .i64 0, .int .i64 0, .int .i64 0, .bool false]), 5, 40) := by kernel_rfl
theorem elBO : ElemS Try.prog 24 23 (.agg #[.int .i64 0, .int .i64 0, .int .i64 0, .int .i64 0, .bool false]) 5 40 :=
  ⟨Try.underlying24, let ⟨i, h, h0, h1, h2⟩ := info_parts Try.infoBO; ⟨i, h, h0, h1, h2⟩, rfl, by omega, by omega⟩
theorem cells_one (x : Ord) : ∀ u ∈ x.cells, u.oneCell' = true := by
  intro u hu
  simp only [Ord.cells, List.mem_cons, List.not_mem_nil, or_false] at hu
  rcases hu with rfl | rfl | rfl | rfl | rfl <;> rfl
set_option maxRecDepth 100000 in
set_option maxHeartbeats 3200000 in
theorem in_any (A : Option Addr) (n c : Nat) (l : List Ord) (w : World) (hn : l.length = n) (hl : l.length ≤ 1000000000) (hA : Cells w A (flat l)) :
    Calls Try.prog 11 #[.slice A n c] w (FreshO w 47 l) := by
  subst hn
  go_enter Try.func11, Try.ntmps11
  go_wp2_with fail
  go_loopw [3, 4] (fun v i wr => ∃ (k : Nat) (A' : Option Addr) (c' : Nat), k ≤ l.length ∧ i = .int .i64 k ∧ v = .slice A' k c' ∧ wr.ownsRow w.heap.size 47 5 (.slice A' k c') k (flat (l.take k)) ∧ Below w.heap.size w wr) (fun _ i _ => l.length - (intOf i).toNat)
  case atStart => exact ⟨0, none, 0, Nat.zero_le _, rfl, rfl, World.ownsRow_nil _ _ _ _, Below.refl _ _⟩
  case round =>
    obtain ⟨k, A', c', hk, rfl, rfl, own, hbel⟩ := hrel
    have hs := hbel.size
    by_cases hlt : k < l.length
    · obtain ⟨b, o, x, rfl, hb, c0, c1, c2, c3, c4, hx⟩ := hA.ord_at hlt
      have i1 : (k : Int) < l.length := by omega
      have hz := hide (take_snoc_ord hx.out)
      have f0 := lower_at hbel (Nat.le_refl _) hb c0
      have f1 := lower_at hbel (Nat.le_refl _) hb c1
      have f2 := lower_at hbel (Nat.le_refl _) hb c2
      have f3 := lower_at hbel (Nat.le_refl _) hb c3
      have f4 := lower_at hbel (Nat.le_refl _) hb c4
      clear c0 c1 c2 c3 c4
      go_upto_region 5 with (fail)
      refine wp_region_grow (R := Below w.heap.size) 99999 [27, 28] [0, 1, 2, 3, 4, 5, 6, 7, 8, 9, 10, 11, 12, 13, 14, 15, 16, 17, 18, 19, 20, 21, 22, 23, 24, 25, 26, 27, 28, 29] (by kernel_rfl) (Lower.tr _) (Lower.rf _) (by kernel_rfl) (fun _ _ _ _ _ h => h) ?_
      (repeat ((first | (refine grow_skip (by rfl) (by rfl) ?_ (by first | exact Stays.rf _ | exact Lower.rf _ _ | exact Holds.rf _ _)) | (refine grow_take (v := ?_) (by rfl) (by rfl) (by rfl) ?_ ?_; rotate_left 1; focus (intro w' hSw; go_simp; (try (with_reducible rfl)); done))); (try simp only [Act.put, List.setIfInBounds_toArray, List.set_cons_zero, List.set_cons_succ])))
      clear f0 f1 f2 f3 f4
      refine grow_move (by rfl) (by rfl) (by rfl) (fun K hK => ?_); go_simp
      refine hK.out _ _ (lower_lit' hs _) ?_; clear hK K; (try simp only [Act.put, List.setIfInBounds_toArray, List.set_cons_zero, List.set_cons_succ])
      refine grow_move (by rfl) (by rfl) (by rfl) (fun K hK => ?_)
      refine wp_appS elRO (own_drw (own.alloc _)) (news := x.cells) (m := 1) _ _ rfl rfl rfl rfl (by simp [Ord.cells]) (Cells.lit wr #[.int .i64 x.id, .int .i64 x.side, .int .i64 x.price, .int .i64 x.qty, .bool x.top] 47).drew (cells_one x) (by omega) (by simp; omega) (k + 1) (flat (l.take (k + 1))) rfl (by rw [hz.out, flat_snoc]) ?_
      intro A4 c4 w4 p4
      have B4 := p4.below _ _ (Nat.le_refl _) (nxt_drew (nxt_alloc hbel (.cells #[.int .i64 x.id, .int .i64 x.side, .int .i64 x.price, .int .i64 x.qty, .bool x.top] 47)))
      refine hK.out _ _ (p4.below _ _ (Nat.le_refl _) (Below.refl _ _)) ?_; clear hK K; (try simp only [Act.put, List.setIfInBounds_toArray, List.set_cons_zero, List.set_cons_succ])
      (repeat ((first | (refine grow_skip (by rfl) (by rfl) ?_ (by first | exact Stays.rf _ | exact Lower.rf _ _ | exact Holds.rf _ _)) | (refine grow_take (v := ?_) (by rfl) (by rfl) (by rfl) ?_ ?_; rotate_left 1; focus (intro w' hSw; go_simp; (try (with_reducible rfl)); done))); (try simp only [Act.put, List.setIfInBounds_toArray, List.set_cons_zero, List.set_cons_succ])))
      refine grow_done ?_
      go_wp2
      go_roundw
      case rel => exact ⟨k + 1, A4, c4, by omega, by go_num, rfl, p4.own, B4⟩
      case measure => simp [intOf]; omega
    · obtain rfl : k = l.length := by omega
      rw [List.take_of_length_le (Nat.le_refl _)] at own
      go_wp2
      go_ret
      obtain ⟨A2, c2, hv, h1, h2⟩ := own_shape own
      obtain ⟨rfl, rfl⟩ : A' = A2 ∧ c' = c2 := by simpa using hv
      exact ⟨A', c', rfl, own, CellsS.of_own own, h1, h2, hbel⟩
end Go.Proofs.Ytglcdamdjjbjhaa
