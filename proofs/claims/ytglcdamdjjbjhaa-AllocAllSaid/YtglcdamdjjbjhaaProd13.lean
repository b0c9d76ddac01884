/-
  cornhillkeep.Product.
-/
import Derived.Test.YtglcdamdjjbjhaaKeep13
import Derived.Test.YtglcdamdjjbjhaaTree
import Derived.Deep.DeepCutAuto
import Derived.Deep.CutBlock
namespace Go.Proofs.Ytglcdamdjjbjhaa
open Go.RowKit
set_option linter.unusedVariables false

theorem lower_al {G : Nat} {W : World} (h : G ≤ W.heap.size) (o : Obj) : Below G W.drew (W.alloc o).drew := by
  have := ((Lower.rf G W).alloc h o).drew
  exact ⟨this.os, this.tape, this.output, this.size, this.block⟩
theorem lower_two {G : Nat} {W : World} (h : G ≤ W.heap.size) (o o' : Obj) : Below G (W.alloc o).drew (W.alloc o').drew :=
  ⟨rfl, rfl, rfl, by show (W.alloc o).heap.size ≤ (W.alloc o').heap.size; simp, fun k hk => by
    show (W.alloc o').heap[k]? = (W.alloc o).heap[k]?
    rw [Below.heap_alloc W o' k (by omega), Below.heap_alloc W o k (by omega)]⟩
theorem cut_end {G : Nat} {W : World} (hG : W.heap.size = G) (o : Obj) : Below G W (W.alloc o).drew ∧ (W.alloc o).drew.heap[G]? = some o := by
  subst hG
  exact ⟨((Below.refl _ _).alloc (Nat.le_refl _) o).drew, heap_alloc_new _ _⟩
/-- What Product answers. -/
def ProdR (w : World) (ru top le pa : Int) (e : Ending) (w' : World) : Prop :=
  (∃ (pc : ByteArray) (m : Option Addr) (mn mc : Nat) (ti lo hi wi : Int) (sa : Option Addr) (sn sc : Nat), e = .returned (.agg #[.string pc, .slice m mn mc, .int .i64 ti, .int .i64 lo, .int .i64 hi, .int .i64 wi, .int .i64 ru, .int .i64 top, .int .i64 le, .int .i64 pa, .slice sa sn sc])) ∧ Below w.heap.size w w'
set_option maxRecDepth 100000 in
set_option maxHeartbeats 3200000 in
theorem product_any (pc : Value) (ma : Option Addr) (mn mc : Nat) (ti : Int) (lo hi : Value) (wi ru top le pa : Int) (se : Value) (w : World) (hmn : mn ≤ 9223372036854775807) :
    Calls Try.prog 15 #[.agg #[pc, .slice ma mn mc, .int .i64 ti, lo, hi, .int .i64 wi, .int .i64 ru, .int .i64 top, .int .i64 le, .int .i64 pa, se]] w (ProdR w (1 + within ru 0 2) (within top 0 9) (1 + within le 0 4) (within pa 0 100)) := by
  have b1 := within_bd (mn : Int) 0 3 (by omega)
  have b2 := within_bd ti 0 9 (by omega)
  have b3 := within_bd ru 0 2 (by omega)
  have b4 := within_bd top 0 9 (by omega)
  have b5 := within_bd le 0 4 (by omega)
  have b6 := within_bd pa 0 100 (by omega)
  have b7 := within_bd wi 0 60 (by omega)
  obtain ⟨n', en⟩ : ∃ n', n' = within (mn : Int) 0 3 := ⟨_, rfl⟩
  obtain ⟨t', et⟩ : ∃ t', t' = within ti 0 9 := ⟨_, rfl⟩
  obtain ⟨r', er⟩ : ∃ r', r' = within ru 0 2 := ⟨_, rfl⟩
  obtain ⟨p', ep⟩ : ∃ p', p' = within top 0 9 := ⟨_, rfl⟩
  obtain ⟨l', el⟩ : ∃ l', l' = within le 0 4 := ⟨_, rfl⟩
  obtain ⟨a', ea⟩ : ∃ a', a' = within pa 0 100 := ⟨_, rfl⟩
  obtain ⟨i', ei⟩ : ∃ i', i' = within wi 0 60 := ⟨_, rfl⟩
  rw [← en] at b1; rw [← et] at b2; rw [← er] at b3 ⊢; rw [← ep] at b4 ⊢; rw [← el] at b5 ⊢; rw [← ea] at b6 ⊢; rw [← ei] at b7
  have EN := hide en; have ET := hide et; have ER := hide er; have EP := hide ep; have EL := hide el; have EA := hide ea; have EI := hide ei
  clear en et er ep el ea ei
  obtain ⟨W0, eW0⟩ : ∃ W0, W0 = (w.alloc (.cells #[pc, .slice ma mn mc, .int .i64 ti, lo, hi, .int .i64 wi, .int .i64 ru, .int .i64 top, .int .i64 le, .int .i64 pa, se] 28)).alloc (.cells #[.string ⟨#[]⟩, .slice none 0 0, .int .i64 0, .int .i64 0, .int .i64 0, .int .i64 0, .int .i64 0, .int .i64 0, .int .i64 0, .int .i64 0, .slice none 0 0] 28) := ⟨_, rfl⟩
  obtain ⟨g, eg⟩ : ∃ g, g = w.heap.size := ⟨_, rfl⟩
  have hs0 : W0.heap.size = g + 2 := by rw [eW0, eg]; simp
  have hg1 : W0.heap[g]? = some (.cells #[pc, .slice ma mn mc, .int .i64 ti, lo, hi, .int .i64 wi, .int .i64 ru, .int .i64 top, .int .i64 le, .int .i64 pa, se] 28 (0, 0)) := by
    rw [eW0, eg, heap_alloc_old _ _ (by simp)]; exact heap_alloc_new _ _
  have hg2 : W0.heap[g + 1]? = some (.cells #[.string ⟨#[]⟩, .slice none 0 0, .int .i64 0, .int .i64 0, .int .i64 0, .int .i64 0, .int .i64 0, .int .i64 0, .int .i64 0, .int .i64 0, .slice none 0 0] 28 (0, 0)) := by
    have h := heap_alloc_new (w.alloc (.cells #[pc, .slice ma mn mc, .int .i64 ti, lo, hi, .int .i64 wi, .int .i64 ru, .int .i64 top, .int .i64 le, .int .i64 pa, se] 28)) (.cells #[.string ⟨#[]⟩, .slice none 0 0, .int .i64 0, .int .i64 0, .int .i64 0, .int .i64 0, .int .i64 0, .int .i64 0, .int .i64 0, .int .i64 0, .slice none 0 0] 28)
    rw [World.size_alloc] at h
    rw [eW0, eg]; exact h
  have BW : Below w.heap.size w W0 := by rw [eW0]; exact nxt_alloc (nxt_alloc (Below.refl _ _) _) _
  go_enter Try.func15, Try.ntmps15
  go_wp2_with fail
  refine (within_any (mn : Int) 0 3 _ (by omega) (by omega) (by omega)).mono ?_
  rw [← EN.out]
  rintro e u ⟨rfl, rfl⟩
  go_wp2_with fail
  refine (within_any ti 0 9 _ (by omega) (by omega) (by omega)).mono ?_
  rw [← ET.out]
  rintro e u ⟨rfl, rfl⟩
  go_upto_region 3 with (fail)
  rw [← eW0, ← eg]
  have EG := hide eg
  clear eW0 eg
  obtain ⟨G, eG⟩ : ∃ G, G = g + 2 := ⟨_, rfl⟩
  rw [← eG] at hs0
  have hgG : g < G := by omega
  have hg1G : g + 1 < G := by omega
  have EGG := hide eG
  have HS0 := hide hs0
  clear eG hs0
  have HG1 := hide hg1
  have HG2 := hide hg2
  go_cut [5] (fun s wx => s = .pointer (some ⟨G, 0, none⟩) ∧ Below G W0 wx ∧ Hid (∃ (pc' : ByteArray) (t1 t2 t3 : Int), wx.heap[G]? = some (.cells #[.string pc', .slice none 0 0, .int .i64 t1, .int .i64 t2, .int .i64 t3, .int .i64 0, .int .i64 (1 + r'), .int .i64 p', .int .i64 (1 + l'), .int .i64 a', .slice none 0 0] 28 (0, 0))))
  case first =>
    have l6 : ∀ u, Below G W0.drew u → u.cell? ⟨g, 6, none⟩ = some (.int .i64 ru) := fun u hu => (hu.cell (p := ⟨g, 6, none⟩) (hgG)).trans (by show W0.cell? ⟨g, 6, none⟩ = _; simp [World.cell?, hg1])
    have l7 : ∀ u, Below G W0.drew u → u.cell? ⟨g, 7, none⟩ = some (.int .i64 top) := fun u hu => (hu.cell (p := ⟨g, 7, none⟩) (hgG)).trans (by show W0.cell? ⟨g, 7, none⟩ = _; simp [World.cell?, hg1])
    have l8 : ∀ u, Below G W0.drew u → u.cell? ⟨g, 8, none⟩ = some (.int .i64 le) := fun u hu => (hu.cell (p := ⟨g, 8, none⟩) (hgG)).trans (by show W0.cell? ⟨g, 8, none⟩ = _; simp [World.cell?, hg1])
    have l9 : ∀ u, Below G W0.drew u → u.cell? ⟨g, 9, none⟩ = some (.int .i64 pa) := fun u hu => (hu.cell (p := ⟨g, 9, none⟩) (hgG)).trans (by show W0.cell? ⟨g, 9, none⟩ = _; simp [World.cell?, hg1])
    clear hg1 hg2
    have s1 : IntKind.i64.wrap (1 + r') = 1 + r' := IntWalk.i64_in _ (by omega)
    have s2 : IntKind.i64.wrap (1 + l') = 1 + l' := IntWalk.i64_in _ (by omega)
    refine wp_region_tree (R := Below G) 22 (by kernel_rfl) (by kernel_rfl) ?_
    refine from_run [0, 1, 2, 3, 4, 5, 6, 9, 10, 12, 13, 16, 17] 9 (fun _ _ _ _ _ h => h) (by kernel_rfl) (Lower.rf _ _) ?_
    (repeat ((first | (refine takes_skip (by rfl) (by rfl) ?_) | (refine takes_take (v := ?_) (by rfl) (by rfl) ?_ ?_; rotate_left 1; focus (intro w' hSw; go_simp; (try (with_reducible rfl)); done))); (try simp only [Act.put, List.setIfInBounds_toArray, List.set_cons_zero, List.set_cons_succ]))); refine takes_done ?_
    clear l6 l7 l8 l9
    refine from_moves [7, 20] (Lower.tr _) 8 (by kernel_rfl) ?_
    refine moves_one (by rfl) (by rfl) (fun K hK => ?_) ?_
    · go_simp
      refine (within_any ru 0 2 _ (by omega) (by omega) (by omega)).mono ?_
      rw [← ER.out]
      rintro e u ⟨rfl, rfl⟩
      refine hK.out _ _ (Lower.rf _ _) ?_; clear hK K; (try simp only [Act.put, List.setIfInBounds_toArray, List.set_cons_zero, List.set_cons_succ])
      refine from_run [8] 7 (fun _ _ _ _ _ h => h) (by kernel_rfl) (Lower.rf _ _) ?_
      (repeat ((first | (refine takes_skip (by rfl) (by rfl) ?_) | (refine takes_take (v := ?_) (by rfl) (by rfl) ?_ ?_; rotate_left 1; focus (intro w' hSw; go_simp; (try (with_reducible rfl)); done))); (try simp only [Act.put, List.setIfInBounds_toArray, List.set_cons_zero, List.set_cons_succ]))); refine takes_done ?_
      refine from_moves [11, 20] (Lower.tr _) 6 (by kernel_rfl) ?_
      refine moves_one (by rfl) (by rfl) (fun K hK => ?_) ?_
      · go_simp
        refine (within_any top 0 9 _ (by omega) (by omega) (by omega)).mono ?_
        rw [← EP.out]
        rintro e u ⟨rfl, rfl⟩
        refine hK.out _ _ (Lower.rf _ _) ?_; clear hK K; (try simp only [Act.put, List.setIfInBounds_toArray, List.set_cons_zero, List.set_cons_succ])
        refine from_moves [14, 20] (Lower.tr _) 5 (by kernel_rfl) ?_
        refine moves_one (by rfl) (by rfl) (fun K hK => ?_) ?_
        · go_simp
          refine (within_any le 0 4 _ (by omega) (by omega) (by omega)).mono ?_
          rw [← EL.out]
          rintro e u ⟨rfl, rfl⟩
          refine hK.out _ _ (Lower.rf _ _) ?_; clear hK K; (try simp only [Act.put, List.setIfInBounds_toArray, List.set_cons_zero, List.set_cons_succ])
          refine from_run [15] 4 (fun _ _ _ _ _ h => h) (by kernel_rfl) (Lower.rf _ _) ?_
          (repeat ((first | (refine takes_skip (by rfl) (by rfl) ?_) | (refine takes_take (v := ?_) (by rfl) (by rfl) ?_ ?_; rotate_left 1; focus (intro w' hSw; go_simp; (try (with_reducible rfl)); done))); (try simp only [Act.put, List.setIfInBounds_toArray, List.set_cons_zero, List.set_cons_succ]))); refine takes_done ?_
          refine from_moves [18, 20] (Lower.tr _) 3 (by kernel_rfl) ?_
          refine moves_one (by rfl) (by rfl) (fun K hK => ?_) ?_
          · go_simp
            refine (within_any pa 0 100 _ (by omega) (by omega) (by omega)).mono ?_
            rw [← EA.out]
            rintro e u ⟨rfl, rfl⟩
            refine hK.out _ _ (Lower.rf _ _) ?_; clear hK K; (try simp only [Act.put, List.setIfInBounds_toArray, List.set_cons_zero, List.set_cons_succ])
            refine from_run [19] 2 (fun _ _ _ _ _ h => h) (by kernel_rfl) (Lower.rf _ _) ?_
            (repeat ((first | (refine takes_skip (by rfl) (by rfl) ?_) | (refine takes_take (v := ?_) (by rfl) (by rfl) ?_ ?_; rotate_left 1; focus (intro w' hSw; go_simp; (try (with_reducible rfl)); done))); (try simp only [Act.put, List.setIfInBounds_toArray, List.set_cons_zero, List.set_cons_succ]))); refine takes_done ?_
            refine from_moves [20] (Lower.tr _) 1 (by kernel_rfl) ?_
            refine moves_one (by rfl) (by rfl) (fun K hK => ?_) ?_
            · go_simp
              refine hK.out _ _ (lower_al (Nat.le_of_eq HS0.out.symm) _) ?_; clear hK K; (try simp only [Act.put, List.setIfInBounds_toArray, List.set_cons_zero, List.set_cons_succ])
              refine from_moves [21] (Lower.tr _) 0 (by kernel_rfl) ?_
              refine moves_one (by rfl) (by rfl) (fun K hK => ?_) ?_
              · go_simp
                refine hK.out _ _ (lower_two (Nat.le_of_eq HS0.out.symm) _ _) ?_; clear hK K; (try simp only [Act.put, List.setIfInBounds_toArray, List.set_cons_zero, List.set_cons_succ])
                refine from_done (by kernel_rfl) ?_
                go_wp2_with fail
                go_meet
                exact ⟨by rw [HS0.out], (cut_end HS0.out _).1, _, _, _, _, (cut_end HS0.out _).2⟩
              exact moves_end
            exact moves_end
          refine moves_one (by rfl) (by rfl) (fun K hK => ?_) ?_
          · go_simp
            refine hK.out _ _ (lower_al (Nat.le_of_eq HS0.out.symm) _) ?_; clear hK K; (try simp only [Act.put, List.setIfInBounds_toArray, List.set_cons_zero, List.set_cons_succ])
            refine from_moves [18] (Lower.tr _) 2 (by kernel_rfl) ?_
            refine moves_one (by rfl) (by rfl) (fun K hK => ?_) ?_
            · go_simp
              refine (within_any pa 0 100 _ (by omega) (by omega) (by omega)).mono ?_
              rw [← EA.out]
              rintro e u ⟨rfl, rfl⟩
              refine hK.out _ _ (Lower.rf _ _) ?_; clear hK K; (try simp only [Act.put, List.setIfInBounds_toArray, List.set_cons_zero, List.set_cons_succ])
              refine from_run [19] 1 (fun _ _ _ _ _ h => h) (by kernel_rfl) (Lower.rf _ _) ?_
              (repeat ((first | (refine takes_skip (by rfl) (by rfl) ?_) | (refine takes_take (v := ?_) (by rfl) (by rfl) ?_ ?_; rotate_left 1; focus (intro w' hSw; go_simp; (try (with_reducible rfl)); done))); (try simp only [Act.put, List.setIfInBounds_toArray, List.set_cons_zero, List.set_cons_succ]))); refine takes_done ?_
              refine from_moves [21] (Lower.tr _) 0 (by kernel_rfl) ?_
              refine moves_one (by rfl) (by rfl) (fun K hK => ?_) ?_
              · go_simp
                refine hK.out _ _ (lower_two (Nat.le_of_eq HS0.out.symm) _ _) ?_; clear hK K; (try simp only [Act.put, List.setIfInBounds_toArray, List.set_cons_zero, List.set_cons_succ])
                refine from_done (by kernel_rfl) ?_
                go_wp2_with fail
                go_meet
                exact ⟨by rw [HS0.out], (cut_end HS0.out _).1, _, _, _, _, (cut_end HS0.out _).2⟩
              exact moves_end
            exact moves_end
          exact moves_end
        refine moves_one (by rfl) (by rfl) (fun K hK => ?_) ?_
        · go_simp
          refine hK.out _ _ (lower_al (Nat.le_of_eq HS0.out.symm) _) ?_; clear hK K; (try simp only [Act.put, List.setIfInBounds_toArray, List.set_cons_zero, List.set_cons_succ])
          refine from_moves [14] (Lower.tr _) 4 (by kernel_rfl) ?_
          refine moves_one (by rfl) (by rfl) (fun K hK => ?_) ?_
          · go_simp
            refine (within_any le 0 4 _ (by omega) (by omega) (by omega)).mono ?_
            rw [← EL.out]
            rintro e u ⟨rfl, rfl⟩
            refine hK.out _ _ (Lower.rf _ _) ?_; clear hK K; (try simp only [Act.put, List.setIfInBounds_toArray, List.set_cons_zero, List.set_cons_succ])
            refine from_run [15] 3 (fun _ _ _ _ _ h => h) (by kernel_rfl) (Lower.rf _ _) ?_
            (repeat ((first | (refine takes_skip (by rfl) (by rfl) ?_) | (refine takes_take (v := ?_) (by rfl) (by rfl) ?_ ?_; rotate_left 1; focus (intro w' hSw; go_simp; (try (with_reducible rfl)); done))); (try simp only [Act.put, List.setIfInBounds_toArray, List.set_cons_zero, List.set_cons_succ]))); refine takes_done ?_
            refine from_moves [18] (Lower.tr _) 2 (by kernel_rfl) ?_
            refine moves_one (by rfl) (by rfl) (fun K hK => ?_) ?_
            · go_simp
              refine (within_any pa 0 100 _ (by omega) (by omega) (by omega)).mono ?_
              rw [← EA.out]
              rintro e u ⟨rfl, rfl⟩
              refine hK.out _ _ (Lower.rf _ _) ?_; clear hK K; (try simp only [Act.put, List.setIfInBounds_toArray, List.set_cons_zero, List.set_cons_succ])
              refine from_run [19] 1 (fun _ _ _ _ _ h => h) (by kernel_rfl) (Lower.rf _ _) ?_
              (repeat ((first | (refine takes_skip (by rfl) (by rfl) ?_) | (refine takes_take (v := ?_) (by rfl) (by rfl) ?_ ?_; rotate_left 1; focus (intro w' hSw; go_simp; (try (with_reducible rfl)); done))); (try simp only [Act.put, List.setIfInBounds_toArray, List.set_cons_zero, List.set_cons_succ]))); refine takes_done ?_
              refine from_moves [21] (Lower.tr _) 0 (by kernel_rfl) ?_
              refine moves_one (by rfl) (by rfl) (fun K hK => ?_) ?_
              · go_simp
                refine hK.out _ _ (lower_two (Nat.le_of_eq HS0.out.symm) _ _) ?_; clear hK K; (try simp only [Act.put, List.setIfInBounds_toArray, List.set_cons_zero, List.set_cons_succ])
                refine from_done (by kernel_rfl) ?_
                go_wp2_with fail
                go_meet
                exact ⟨by rw [HS0.out], (cut_end HS0.out _).1, _, _, _, _, (cut_end HS0.out _).2⟩
              exact moves_end
            exact moves_end
          exact moves_end
        exact moves_end
      refine moves_one (by rfl) (by rfl) (fun K hK => ?_) ?_
      · go_simp
        refine hK.out _ _ (lower_al (Nat.le_of_eq HS0.out.symm) _) ?_; clear hK K; (try simp only [Act.put, List.setIfInBounds_toArray, List.set_cons_zero, List.set_cons_succ])
        refine from_moves [11] (Lower.tr _) 5 (by kernel_rfl) ?_
        refine moves_one (by rfl) (by rfl) (fun K hK => ?_) ?_
        · go_simp
          refine (within_any top 0 9 _ (by omega) (by omega) (by omega)).mono ?_
          rw [← EP.out]
          rintro e u ⟨rfl, rfl⟩
          refine hK.out _ _ (Lower.rf _ _) ?_; clear hK K; (try simp only [Act.put, List.setIfInBounds_toArray, List.set_cons_zero, List.set_cons_succ])
          refine from_moves [14] (Lower.tr _) 4 (by kernel_rfl) ?_
          refine moves_one (by rfl) (by rfl) (fun K hK => ?_) ?_
          · go_simp
            refine (within_any le 0 4 _ (by omega) (by omega) (by omega)).mono ?_
            rw [← EL.out]
            rintro e u ⟨rfl, rfl⟩
            refine hK.out _ _ (Lower.rf _ _) ?_; clear hK K; (try simp only [Act.put, List.setIfInBounds_toArray, List.set_cons_zero, List.set_cons_succ])
            refine from_run [15] 3 (fun _ _ _ _ _ h => h) (by kernel_rfl) (Lower.rf _ _) ?_
            (repeat ((first | (refine takes_skip (by rfl) (by rfl) ?_) | (refine takes_take (v := ?_) (by rfl) (by rfl) ?_ ?_; rotate_left 1; focus (intro w' hSw; go_simp; (try (with_reducible rfl)); done))); (try simp only [Act.put, List.setIfInBounds_toArray, List.set_cons_zero, List.set_cons_succ]))); refine takes_done ?_
            refine from_moves [18] (Lower.tr _) 2 (by kernel_rfl) ?_
            refine moves_one (by rfl) (by rfl) (fun K hK => ?_) ?_
            · go_simp
              refine (within_any pa 0 100 _ (by omega) (by omega) (by omega)).mono ?_
              rw [← EA.out]
              rintro e u ⟨rfl, rfl⟩
              refine hK.out _ _ (Lower.rf _ _) ?_; clear hK K; (try simp only [Act.put, List.setIfInBounds_toArray, List.set_cons_zero, List.set_cons_succ])
              refine from_run [19] 1 (fun _ _ _ _ _ h => h) (by kernel_rfl) (Lower.rf _ _) ?_
              (repeat ((first | (refine takes_skip (by rfl) (by rfl) ?_) | (refine takes_take (v := ?_) (by rfl) (by rfl) ?_ ?_; rotate_left 1; focus (intro w' hSw; go_simp; (try (with_reducible rfl)); done))); (try simp only [Act.put, List.setIfInBounds_toArray, List.set_cons_zero, List.set_cons_succ]))); refine takes_done ?_
              refine from_moves [21] (Lower.tr _) 0 (by kernel_rfl) ?_
              refine moves_one (by rfl) (by rfl) (fun K hK => ?_) ?_
              · go_simp
                refine hK.out _ _ (lower_two (Nat.le_of_eq HS0.out.symm) _ _) ?_; clear hK K; (try simp only [Act.put, List.setIfInBounds_toArray, List.set_cons_zero, List.set_cons_succ])
                refine from_done (by kernel_rfl) ?_
                go_wp2_with fail
                go_meet
                exact ⟨by rw [HS0.out], (cut_end HS0.out _).1, _, _, _, _, (cut_end HS0.out _).2⟩
              exact moves_end
            exact moves_end
          exact moves_end
        exact moves_end
      exact moves_end
    refine moves_one (by rfl) (by rfl) (fun K hK => ?_) ?_
    · go_simp
      refine hK.out _ _ (lower_al (Nat.le_of_eq HS0.out.symm) _) ?_; clear hK K; (try simp only [Act.put, List.setIfInBounds_toArray, List.set_cons_zero, List.set_cons_succ])
      refine from_moves [7] (Lower.tr _) 7 (by kernel_rfl) ?_
      refine moves_one (by rfl) (by rfl) (fun K hK => ?_) ?_
      · go_simp
        refine (within_any ru 0 2 _ (by omega) (by omega) (by omega)).mono ?_
        rw [← ER.out]
        rintro e u ⟨rfl, rfl⟩
        refine hK.out _ _ (Lower.rf _ _) ?_; clear hK K; (try simp only [Act.put, List.setIfInBounds_toArray, List.set_cons_zero, List.set_cons_succ])
        refine from_run [8] 6 (fun _ _ _ _ _ h => h) (by kernel_rfl) (Lower.rf _ _) ?_
        (repeat ((first | (refine takes_skip (by rfl) (by rfl) ?_) | (refine takes_take (v := ?_) (by rfl) (by rfl) ?_ ?_; rotate_left 1; focus (intro w' hSw; go_simp; (try (with_reducible rfl)); done))); (try simp only [Act.put, List.setIfInBounds_toArray, List.set_cons_zero, List.set_cons_succ]))); refine takes_done ?_
        refine from_moves [11] (Lower.tr _) 5 (by kernel_rfl) ?_
        refine moves_one (by rfl) (by rfl) (fun K hK => ?_) ?_
        · go_simp
          refine (within_any top 0 9 _ (by omega) (by omega) (by omega)).mono ?_
          rw [← EP.out]
          rintro e u ⟨rfl, rfl⟩
          refine hK.out _ _ (Lower.rf _ _) ?_; clear hK K; (try simp only [Act.put, List.setIfInBounds_toArray, List.set_cons_zero, List.set_cons_succ])
          refine from_moves [14] (Lower.tr _) 4 (by kernel_rfl) ?_
          refine moves_one (by rfl) (by rfl) (fun K hK => ?_) ?_
          · go_simp
            refine (within_any le 0 4 _ (by omega) (by omega) (by omega)).mono ?_
            rw [← EL.out]
            rintro e u ⟨rfl, rfl⟩
            refine hK.out _ _ (Lower.rf _ _) ?_; clear hK K; (try simp only [Act.put, List.setIfInBounds_toArray, List.set_cons_zero, List.set_cons_succ])
            refine from_run [15] 3 (fun _ _ _ _ _ h => h) (by kernel_rfl) (Lower.rf _ _) ?_
            (repeat ((first | (refine takes_skip (by rfl) (by rfl) ?_) | (refine takes_take (v := ?_) (by rfl) (by rfl) ?_ ?_; rotate_left 1; focus (intro w' hSw; go_simp; (try (with_reducible rfl)); done))); (try simp only [Act.put, List.setIfInBounds_toArray, List.set_cons_zero, List.set_cons_succ]))); refine takes_done ?_
            refine from_moves [18] (Lower.tr _) 2 (by kernel_rfl) ?_
            refine moves_one (by rfl) (by rfl) (fun K hK => ?_) ?_
            · go_simp
              refine (within_any pa 0 100 _ (by omega) (by omega) (by omega)).mono ?_
              rw [← EA.out]
              rintro e u ⟨rfl, rfl⟩
              refine hK.out _ _ (Lower.rf _ _) ?_; clear hK K; (try simp only [Act.put, List.setIfInBounds_toArray, List.set_cons_zero, List.set_cons_succ])
              refine from_run [19] 1 (fun _ _ _ _ _ h => h) (by kernel_rfl) (Lower.rf _ _) ?_
              (repeat ((first | (refine takes_skip (by rfl) (by rfl) ?_) | (refine takes_take (v := ?_) (by rfl) (by rfl) ?_ ?_; rotate_left 1; focus (intro w' hSw; go_simp; (try (with_reducible rfl)); done))); (try simp only [Act.put, List.setIfInBounds_toArray, List.set_cons_zero, List.set_cons_succ]))); refine takes_done ?_
              refine from_moves [21] (Lower.tr _) 0 (by kernel_rfl) ?_
              refine moves_one (by rfl) (by rfl) (fun K hK => ?_) ?_
              · go_simp
                refine hK.out _ _ (lower_two (Nat.le_of_eq HS0.out.symm) _ _) ?_; clear hK K; (try simp only [Act.put, List.setIfInBounds_toArray, List.set_cons_zero, List.set_cons_succ])
                refine from_done (by kernel_rfl) ?_
                go_wp2_with fail
                go_meet
                exact ⟨by rw [HS0.out], (cut_end HS0.out _).1, _, _, _, _, (cut_end HS0.out _).2⟩
              exact moves_end
            exact moves_end
          exact moves_end
        exact moves_end
      exact moves_end
    exact moves_end
  obtain ⟨rfl, BX, HX⟩ := hcut
  obtain ⟨pc', t1, t2, t3, hX⟩ := HX.out
  have c5 : wc.cell? ⟨G, 5, none⟩ = some (.int .i64 0) := by simp [World.cell?, hX]
  have f5 : wc.frozen? ⟨G, 5, none⟩ = false := by simp [World.frozen?, hX]
  have l5 : wc.cell? ⟨g, 5, none⟩ = some (.int .i64 wi) := (BX.cell (p := ⟨g, 5, none⟩) hgG).trans (by simp [World.cell?, HG1.out])
  have HX' := hide hX
  clear HX hX hg1 hg2
  go_wp2_with fail
  refine (within_any wi 0 60 _ (by omega) (by omega) (by omega)).mono ?_
  rw [← EI.out]
  rintro e u ⟨rfl, rfl⟩
  go_upto_region 5 with (fail)
  obtain ⟨T4, eT4⟩ : ∃ T4, T4 = wrap64 ((1 + t') * (5 + i')) := ⟨_, rfl⟩
  rw [← eT4]
  clear eT4
  have hX3 : (wc.setCell ⟨G, 5, none⟩ (.int .i64 T4)).heap[G]? = some (.cells #[.string pc', .slice none 0 0, .int .i64 t1, .int .i64 t2, .int .i64 t3, .int .i64 T4, .int .i64 (1 + r'), .int .i64 p', .int .i64 (1 + l'), .int .i64 a', .slice none 0 0] 28 (0, 0)) := by
    rw [heap_setCell_same _ _ _ _ _ _ HX'.out]; rfl
  have B3 : Below G W0 (wc.setCell ⟨G, 5, none⟩ (.int .i64 T4)) := BX.setCell (by exact Nat.le_refl _) _
  have HX3 := hide hX3
  generalize wc.setCell ⟨G, 5, none⟩ (.int .i64 T4) = w3 at *
  clear hX3 c5 f5 l5 HX' BX b7 b3 b4 b5 b6
  go_wp2_with fail
  go_loopw [6] (fun i wr => ∃ (k : Nat) (Am : Option Addr) (cm : Nat) (As : Option Addr) (cs : Nat), (k : Int) ≤ 2 + n' ∧ i = .int .i64 k ∧
    Hid (wr.heap[G]? = some (.cells #[.string pc', .slice Am k cm, .int .i64 t1, .int .i64 t2, .int .i64 t3, .int .i64 T4, .int .i64 (1 + r'), .int .i64 p', .int .i64 (1 + l'), .int .i64 a', .slice As k cs] 28 (0, 0))) ∧
    Hid (∃ xs, wr.ownsRow (G + 1) 3 1 (.slice Am k cm) k xs) ∧ Hid (∃ xs, wr.ownsRow (G + 1) 2 1 (.slice As k cs) k xs) ∧ Below G W0 wr) (fun i _ => (2 + n' - intOf i).toNat)
  case atStart => exact ⟨0, none, 0, none, 0, by omega, rfl, HX3, ⟨[], World.ownsRow_nil _ _ _ _⟩, ⟨[], World.ownsRow_nil _ _ _ _⟩, B3⟩
  case round =>
    obtain ⟨k, Am, cm, As, cs, hk, rfl, HR, HM, HS, B⟩ := hrel
    clear B3 HX3
    obtain ⟨xs, ownm⟩ := HM.out
    obtain ⟨ys, owns⟩ := HS.out
    have hGl : G < wr.heap.size := (Array.getElem?_eq_some_iff.1 HR.out).1
    by_cases hlt : (k : Int) < 2 + n'
    · have c1 : wr.cell? ⟨G, 1, none⟩ = some (.slice Am k cm) := by simp [World.cell?, HR.out]
      have f1 : wr.frozen? ⟨G, 1, none⟩ = false := by simp [World.frozen?, HR.out]
      clear HM HS
      go_upto_region 9 with (at_builtin; refine wpList_push elInt ownm _ rfl _ _ rfl rfl rfl rfl (by omega) (by omega) ?_; intro A4 c4 w4 own4 g4 b4; have kd := g4.block G hGl (own_apart ownm (by omega)); have k1 := (World.cell?_of_block (a := ⟨G, 1, none⟩) kd).trans c1; have kf1 := (World.frozen?_of_block (a := ⟨G, 1, none⟩) kd).trans f1; have KD := hide kd; clear kd)
      have owns4 := own_grown owns g4 (own_ne owns ownm (by decide))
      have hr4 : (w4.setCell ⟨G, 1, none⟩ (.slice A4 (k + 1) c4)).heap[G]? = some (.cells #[.string pc', .slice A4 (k + 1) c4, .int .i64 t1, .int .i64 t2, .int .i64 t3, .int .i64 T4, .int .i64 (1 + r'), .int .i64 p', .int .i64 (1 + l'), .int .i64 a', .slice As k cs] 28 (0, 0)) := by
        rw [heap_setCell_same _ _ _ _ _ _ (KD.out.trans HR.out)]; rfl
      have own5 := ownsRow_setCell_below (a := ⟨G, 1, none⟩) own4 (by show G < G + 1; omega) (.slice A4 (k + 1) c4)
      have owns5 := ownsRow_setCell_below (a := ⟨G, 1, none⟩) owns4 (by show G < G + 1; omega) (.slice A4 (k + 1) c4)
      have B5 : Below G W0 (w4.setCell ⟨G, 1, none⟩ (.slice A4 (k + 1) c4)) := (b4 G W0 (by omega) B).setCell (by exact Nat.le_refl _) _
      generalize w4.setCell ⟨G, 1, none⟩ (.slice A4 (k + 1) c4) = w5 at *
      have c10 : w5.cell? ⟨G, 10, none⟩ = some (.slice As k cs) := by simp [World.cell?, hr4]
      have f10 : w5.frozen? ⟨G, 10, none⟩ = false := by simp [World.frozen?, hr4]
      have hG5 : G < w5.heap.size := (Array.getElem?_eq_some_iff.1 hr4).1
      have HR4 := hide hr4
      clear own4 g4 b4 owns4 owns ownm k1 kf1 KD c1 f1 HR B hr4
      go_wp2_with (at_builtin; refine wpList_push elI64 owns5 _ rfl _ _ rfl rfl rfl rfl (by omega) (by omega) ?_; intro A6 c6 w6 own6 g6 b6; have kd := g6.block G hG5 (own_apart owns5 (by omega)); have k1 := (World.cell?_of_block (a := ⟨G, 10, none⟩) kd).trans c10; have kf1 := (World.frozen?_of_block (a := ⟨G, 10, none⟩) kd).trans f10; have KD := hide kd; clear kd)
      have owns6 := own_grown own5 g6 (own_ne own5 owns5 (by decide))
      have hr6 : (w6.setCell ⟨G, 10, none⟩ (.slice A6 (k + 1) c6)).heap[G]? = some (.cells #[.string pc', .slice A4 (k + 1) c4, .int .i64 t1, .int .i64 t2, .int .i64 t3, .int .i64 T4, .int .i64 (1 + r'), .int .i64 p', .int .i64 (1 + l'), .int .i64 a', .slice A6 (k + 1) c6] 28 (0, 0)) := by
        rw [heap_setCell_same _ _ _ _ _ _ (KD.out.trans HR4.out)]; rfl
      have own7 := ownsRow_setCell_below (a := ⟨G, 10, none⟩) own6 (by show G < G + 1; omega) (.slice A6 (k + 1) c6)
      have owns7 := ownsRow_setCell_below (a := ⟨G, 10, none⟩) owns6 (by show G < G + 1; omega) (.slice A6 (k + 1) c6)
      have B7 : Below G W0 (w6.setCell ⟨G, 10, none⟩ (.slice A6 (k + 1) c6)) := (b6 G W0 (by omega) B5).setCell (by exact Nat.le_refl _) _
      go_roundw
      case rel => exact ⟨k + 1, A4, c4, A6, c6, by omega, by go_num, hr6, ⟨_, owns7⟩, ⟨_, own7⟩, B7⟩
      case measure => simp [intOf]; omega
    · have hz := (B.block (g + 1) hg1G).trans HG2.out
      have k0 : wr.cell? ⟨G, 0, none⟩ = some (.string pc') := by simp [World.cell?, HR.out]
      have k1 : wr.cell? ⟨G, 1, none⟩ = some (.slice Am k cm) := by simp [World.cell?, HR.out]
      have k2 : wr.cell? ⟨G, 2, none⟩ = some (.int .i64 t1) := by simp [World.cell?, HR.out]
      have k3 : wr.cell? ⟨G, 3, none⟩ = some (.int .i64 t2) := by simp [World.cell?, HR.out]
      have k4 : wr.cell? ⟨G, 4, none⟩ = some (.int .i64 t3) := by simp [World.cell?, HR.out]
      have k5 : wr.cell? ⟨G, 5, none⟩ = some (.int .i64 T4) := by simp [World.cell?, HR.out]
      have k6 : wr.cell? ⟨G, 6, none⟩ = some (.int .i64 (1 + r')) := by simp [World.cell?, HR.out]
      have k7 : wr.cell? ⟨G, 7, none⟩ = some (.int .i64 p') := by simp [World.cell?, HR.out]
      have k8 : wr.cell? ⟨G, 8, none⟩ = some (.int .i64 (1 + l')) := by simp [World.cell?, HR.out]
      have k9 : wr.cell? ⟨G, 9, none⟩ = some (.int .i64 a') := by simp [World.cell?, HR.out]
      have k10 : wr.cell? ⟨G, 10, none⟩ = some (.slice As k cs) := by simp [World.cell?, HR.out]
      have z0 : wr.cell? ⟨g + 1, 0, none⟩ = some (.string ⟨#[]⟩) := by simp [World.cell?, hz]
      have z1 : wr.cell? ⟨g + 1, 1, none⟩ = some (.slice none 0 0) := by simp [World.cell?, hz]
      have z2 : wr.cell? ⟨g + 1, 2, none⟩ = some (.int .i64 0) := by simp [World.cell?, hz]
      have z3 : wr.cell? ⟨g + 1, 3, none⟩ = some (.int .i64 0) := by simp [World.cell?, hz]
      have z4 : wr.cell? ⟨g + 1, 4, none⟩ = some (.int .i64 0) := by simp [World.cell?, hz]
      have z5 : wr.cell? ⟨g + 1, 5, none⟩ = some (.int .i64 0) := by simp [World.cell?, hz]
      have z6 : wr.cell? ⟨g + 1, 6, none⟩ = some (.int .i64 0) := by simp [World.cell?, hz]
      have z7 : wr.cell? ⟨g + 1, 7, none⟩ = some (.int .i64 0) := by simp [World.cell?, hz]
      have z8 : wr.cell? ⟨g + 1, 8, none⟩ = some (.int .i64 0) := by simp [World.cell?, hz]
      have z9 : wr.cell? ⟨g + 1, 9, none⟩ = some (.int .i64 0) := by simp [World.cell?, hz]
      have z10 : wr.cell? ⟨g + 1, 10, none⟩ = some (.slice none 0 0) := by simp [World.cell?, hz]
      have f0 : wr.frozen? ⟨g + 1, 0, none⟩ = false := by simp [World.frozen?, hz]
      have f1 : wr.frozen? ⟨g + 1, 1, none⟩ = false := by simp [World.frozen?, hz]
      have f2 : wr.frozen? ⟨g + 1, 2, none⟩ = false := by simp [World.frozen?, hz]
      have f3 : wr.frozen? ⟨g + 1, 3, none⟩ = false := by simp [World.frozen?, hz]
      have f4 : wr.frozen? ⟨g + 1, 4, none⟩ = false := by simp [World.frozen?, hz]
      have f5 : wr.frozen? ⟨g + 1, 5, none⟩ = false := by simp [World.frozen?, hz]
      have f6 : wr.frozen? ⟨g + 1, 6, none⟩ = false := by simp [World.frozen?, hz]
      have f7 : wr.frozen? ⟨g + 1, 7, none⟩ = false := by simp [World.frozen?, hz]
      have f8 : wr.frozen? ⟨g + 1, 8, none⟩ = false := by simp [World.frozen?, hz]
      have f9 : wr.frozen? ⟨g + 1, 9, none⟩ = false := by simp [World.frozen?, hz]
      have f10 : wr.frozen? ⟨g + 1, 10, none⟩ = false := by simp [World.frozen?, hz]
      have BZ : Below w.heap.size w wr := BW.trans (B.mono (by have := EG.out; omega))
      have HZ := hide hz
      clear HM HS ownm owns HR B hz hGl
      go_wp2_with fail
      have hg : w.heap.size ≤ g + 1 := by have := EG.out; omega
      have h0 := HZ.out
      have b0 := BZ
      obtain ⟨v0, e0⟩ : ∃ v, v = wr.setCell ⟨g + 1, 0, none⟩ (.string pc') := ⟨_, rfl⟩
      rw [← e0]
      have h1 : v0.heap[g + 1]? = some (.cells #[.string pc', .slice none 0 0, .int .i64 0, .int .i64 0, .int .i64 0, .int .i64 0, .int .i64 0, .int .i64 0, .int .i64 0, .int .i64 0, .slice none 0 0] 28 (0, 0)) := by rw [e0, heap_setCell_same _ _ _ _ _ _ h0]; rfl
      have b1 : Below w.heap.size w v0 := by rw [e0]; exact b0.setCell (by exact hg) _
      clear e0 h0 b0
      obtain ⟨v1, e1⟩ : ∃ v, v = v0.setCell ⟨g + 1, 1, none⟩ (.slice Am k cm) := ⟨_, rfl⟩
      rw [← e1]
      have h2 : v1.heap[g + 1]? = some (.cells #[.string pc', .slice Am k cm, .int .i64 0, .int .i64 0, .int .i64 0, .int .i64 0, .int .i64 0, .int .i64 0, .int .i64 0, .int .i64 0, .slice none 0 0] 28 (0, 0)) := by rw [e1, heap_setCell_same _ _ _ _ _ _ h1]; rfl
      have b2 : Below w.heap.size w v1 := by rw [e1]; exact b1.setCell (by exact hg) _
      clear e1 h1 b1
      obtain ⟨v2, e2⟩ : ∃ v, v = v1.setCell ⟨g + 1, 2, none⟩ (.int .i64 t1) := ⟨_, rfl⟩
      rw [← e2]
      have h3 : v2.heap[g + 1]? = some (.cells #[.string pc', .slice Am k cm, .int .i64 t1, .int .i64 0, .int .i64 0, .int .i64 0, .int .i64 0, .int .i64 0, .int .i64 0, .int .i64 0, .slice none 0 0] 28 (0, 0)) := by rw [e2, heap_setCell_same _ _ _ _ _ _ h2]; rfl
      have b3 : Below w.heap.size w v2 := by rw [e2]; exact b2.setCell (by exact hg) _
      clear e2 h2 b2
      obtain ⟨v3, e3⟩ : ∃ v, v = v2.setCell ⟨g + 1, 3, none⟩ (.int .i64 t2) := ⟨_, rfl⟩
      rw [← e3]
      have h4 : v3.heap[g + 1]? = some (.cells #[.string pc', .slice Am k cm, .int .i64 t1, .int .i64 t2, .int .i64 0, .int .i64 0, .int .i64 0, .int .i64 0, .int .i64 0, .int .i64 0, .slice none 0 0] 28 (0, 0)) := by rw [e3, heap_setCell_same _ _ _ _ _ _ h3]; rfl
      have b4 : Below w.heap.size w v3 := by rw [e3]; exact b3.setCell (by exact hg) _
      clear e3 h3 b3
      obtain ⟨v4, e4⟩ : ∃ v, v = v3.setCell ⟨g + 1, 4, none⟩ (.int .i64 t3) := ⟨_, rfl⟩
      rw [← e4]
      have h5 : v4.heap[g + 1]? = some (.cells #[.string pc', .slice Am k cm, .int .i64 t1, .int .i64 t2, .int .i64 t3, .int .i64 0, .int .i64 0, .int .i64 0, .int .i64 0, .int .i64 0, .slice none 0 0] 28 (0, 0)) := by rw [e4, heap_setCell_same _ _ _ _ _ _ h4]; rfl
      have b5 : Below w.heap.size w v4 := by rw [e4]; exact b4.setCell (by exact hg) _
      clear e4 h4 b4
      obtain ⟨v5, e5⟩ : ∃ v, v = v4.setCell ⟨g + 1, 5, none⟩ (.int .i64 T4) := ⟨_, rfl⟩
      rw [← e5]
      have h6 : v5.heap[g + 1]? = some (.cells #[.string pc', .slice Am k cm, .int .i64 t1, .int .i64 t2, .int .i64 t3, .int .i64 T4, .int .i64 0, .int .i64 0, .int .i64 0, .int .i64 0, .slice none 0 0] 28 (0, 0)) := by rw [e5, heap_setCell_same _ _ _ _ _ _ h5]; rfl
      have b6 : Below w.heap.size w v5 := by rw [e5]; exact b5.setCell (by exact hg) _
      clear e5 h5 b5
      obtain ⟨v6, e6⟩ : ∃ v, v = v5.setCell ⟨g + 1, 6, none⟩ (.int .i64 (1 + r')) := ⟨_, rfl⟩
      rw [← e6]
      have h7 : v6.heap[g + 1]? = some (.cells #[.string pc', .slice Am k cm, .int .i64 t1, .int .i64 t2, .int .i64 t3, .int .i64 T4, .int .i64 (1 + r'), .int .i64 0, .int .i64 0, .int .i64 0, .slice none 0 0] 28 (0, 0)) := by rw [e6, heap_setCell_same _ _ _ _ _ _ h6]; rfl
      have b7 : Below w.heap.size w v6 := by rw [e6]; exact b6.setCell (by exact hg) _
      clear e6 h6 b6
      obtain ⟨v7, e7⟩ : ∃ v, v = v6.setCell ⟨g + 1, 7, none⟩ (.int .i64 p') := ⟨_, rfl⟩
      rw [← e7]
      have h8 : v7.heap[g + 1]? = some (.cells #[.string pc', .slice Am k cm, .int .i64 t1, .int .i64 t2, .int .i64 t3, .int .i64 T4, .int .i64 (1 + r'), .int .i64 p', .int .i64 0, .int .i64 0, .slice none 0 0] 28 (0, 0)) := by rw [e7, heap_setCell_same _ _ _ _ _ _ h7]; rfl
      have b8 : Below w.heap.size w v7 := by rw [e7]; exact b7.setCell (by exact hg) _
      clear e7 h7 b7
      obtain ⟨v8, e8⟩ : ∃ v, v = v7.setCell ⟨g + 1, 8, none⟩ (.int .i64 (1 + l')) := ⟨_, rfl⟩
      rw [← e8]
      have h9 : v8.heap[g + 1]? = some (.cells #[.string pc', .slice Am k cm, .int .i64 t1, .int .i64 t2, .int .i64 t3, .int .i64 T4, .int .i64 (1 + r'), .int .i64 p', .int .i64 (1 + l'), .int .i64 0, .slice none 0 0] 28 (0, 0)) := by rw [e8, heap_setCell_same _ _ _ _ _ _ h8]; rfl
      have b9 : Below w.heap.size w v8 := by rw [e8]; exact b8.setCell (by exact hg) _
      clear e8 h8 b8
      obtain ⟨v9, e9⟩ : ∃ v, v = v8.setCell ⟨g + 1, 9, none⟩ (.int .i64 a') := ⟨_, rfl⟩
      rw [← e9]
      have h10 : v9.heap[g + 1]? = some (.cells #[.string pc', .slice Am k cm, .int .i64 t1, .int .i64 t2, .int .i64 t3, .int .i64 T4, .int .i64 (1 + r'), .int .i64 p', .int .i64 (1 + l'), .int .i64 a', .slice none 0 0] 28 (0, 0)) := by rw [e9, heap_setCell_same _ _ _ _ _ _ h9]; rfl
      have b10 : Below w.heap.size w v9 := by rw [e9]; exact b9.setCell (by exact hg) _
      clear e9 h9 b9
      obtain ⟨wz, e10⟩ : ∃ v, v = v9.setCell ⟨g + 1, 10, none⟩ (.slice As k cs) := ⟨_, rfl⟩
      rw [← e10]
      have h11 : wz.heap[g + 1]? = some (.cells #[.string pc', .slice Am k cm, .int .i64 t1, .int .i64 t2, .int .i64 t3, .int .i64 T4, .int .i64 (1 + r'), .int .i64 p', .int .i64 (1 + l'), .int .i64 a', .slice As k cs] 28 (0, 0)) := by rw [e10, heap_setCell_same _ _ _ _ _ _ h10]; rfl
      have b11 : Below w.heap.size w wz := by rw [e10]; exact b10.setCell (by exact hg) _
      clear e10 h10 b10
      have hzz := h11
      have BY := b11
      have y0 : wz.cell? ⟨g + 1, 0, none⟩ = some (.string pc') := by simp [World.cell?, hzz]
      have y1 : wz.cell? ⟨g + 1, 1, none⟩ = some (.slice Am k cm) := by simp [World.cell?, hzz]
      have y2 : wz.cell? ⟨g + 1, 2, none⟩ = some (.int .i64 t1) := by simp [World.cell?, hzz]
      have y3 : wz.cell? ⟨g + 1, 3, none⟩ = some (.int .i64 t2) := by simp [World.cell?, hzz]
      have y4 : wz.cell? ⟨g + 1, 4, none⟩ = some (.int .i64 t3) := by simp [World.cell?, hzz]
      have y5 : wz.cell? ⟨g + 1, 5, none⟩ = some (.int .i64 T4) := by simp [World.cell?, hzz]
      have y6 : wz.cell? ⟨g + 1, 6, none⟩ = some (.int .i64 (1 + r')) := by simp [World.cell?, hzz]
      have y7 : wz.cell? ⟨g + 1, 7, none⟩ = some (.int .i64 p') := by simp [World.cell?, hzz]
      have y8 : wz.cell? ⟨g + 1, 8, none⟩ = some (.int .i64 (1 + l')) := by simp [World.cell?, hzz]
      have y9 : wz.cell? ⟨g + 1, 9, none⟩ = some (.int .i64 a') := by simp [World.cell?, hzz]
      have y10 : wz.cell? ⟨g + 1, 10, none⟩ = some (.slice As k cs) := by simp [World.cell?, hzz]
      clear hzz h11 BZ b11
      refine bodyPost_ret (v := .agg #[.string pc', .slice Am k cm, .int .i64 t1, .int .i64 t2, .int .i64 t3, .int .i64 T4, .int .i64 (1 + r'), .int .i64 p', .int .i64 (1 + l'), .int .i64 a', .slice As k cs]) (by simp [results, Try.results15, go_sem, y0, y1, y2, y3, y4, y5, y6, y7, y8, y9, y10]; try rfl) rfl ?_
      exact ⟨⟨_, _, _, _, _, _, _, _, _, _, _, rfl⟩, BY⟩
end Go.Proofs.Ytglcdamdjjbjhaa
