/-
  The walk of DiskKept.
-/
import Derived.Test.YtfdilhoeikkhoaaKnown22
import Derived.Test.YtfdilhoeikkhoaaCut
import Derived.Test.YtfdilhoeikkhoaaStrs
import Derived.Deep.DeepCutAuto
import Derived.Laws.OwnMore
namespace Go.Proofs.Ytfdilhoeikkhoaa
open Go.RowKit
set_option linter.unusedVariables false

/-- A row of one's own bytes, turned as one likes since the world ws. -/
def Mine (base : Nat) (ws : World) (A : Option Addr) (n c : Nat) (wr : World) : Prop :=
  (∃ ys : List Int, ys.length = n ∧ wr.ownsRow base 5 1 (.slice A n c) n (ys.map (Value.int .u8))) ∧ ws.grownBy wr (Value.slice A n c).ownBlock
theorem Mine.start {base : Nat} {ws : World} {A : Option Addr} {n c : Nat} {l : List UInt8} (h : ws.ownsRow base 5 1 (.slice A n c) n (u8s l)) (hn : l.length = n) : Mine base ws A n c ws :=
  ⟨⟨l.map fun x => (x.toNat : Int), by simp [hn], by simpa [u8s, List.map_map, Function.comp_def] using h⟩, ⟨rfl, rfl, rfl, Nat.le_refl _, fun _ _ _ => rfl⟩⟩
theorem Mine.at_ {base : Nat} {ws wr : World} {A : Option Addr} {n c k : Nat} (h : Mine base ws A n c wr) (hk : k < n) :
    ∃ (g : Nat) (y : Int), A = some ⟨g, 0, none⟩ ∧ wr.cell? ⟨g, k, none⟩ = some (.int .u8 y) ∧ wr.frozen? ⟨g, k, none⟩ = false ∧ ∀ z : Int, Mine base ws A n c (wr.setCell ⟨g, k, none⟩ (.int .u8 z)) := by
  obtain ⟨⟨ys, hys, ho⟩, hg⟩ := h
  obtain ⟨g, rfl, hg1, hg2⟩ := own_some ho (by omega)
  obtain ⟨b, o, u, hA, -, hc, hu⟩ := (Cells.of_own ho).val_at (k := k) (by simp [hys]; exact hk)
  injection hA with hA
  injection hA with hb hoo
  subst hb; subst hoo
  rw [Nat.zero_add] at hc
  have hu' := hu.out
  simp only [List.getElem?_map, Option.map_eq_some_iff] at hu'
  obtain ⟨y, hy, rfl⟩ := hu'
  refine ⟨g, y, rfl, hc, ho.frozenAt k, fun z => ?_⟩
  have hs := ho.stored k (.int .u8 z)
  refine ⟨⟨ys.set k z, by simp [hys], by simpa [List.map_set] using hs.1⟩, ?_⟩
  exact ⟨hs.2.os.trans hg.os, hs.2.tape.trans hg.tape, hs.2.output.trans hg.output, Nat.le_trans hg.size hs.2.size, fun k' hk' hne => (hs.2.block k' (Nat.lt_of_lt_of_le hk' hg.size) hne).trans (hg.block k' hk' hne)⟩
theorem own_leaves {w w' : World} {base d : Nat} {r : Option Nat} {e : TypeId} {size : Nat} {v : Value} {n : Nat} {xs : List Value} (h : w.ownsRow base e size v n xs) (hb : Leaves d r w w') (h1 : d < base) (h2 : ∀ g, r = some g → v.ownBlock ≠ some g) : w'.ownsRow base e size v n xs := by
  refine ⟨h.1, ?_⟩
  rcases h.2 with h0 | ⟨g, cap, cur, hv, hg, hh, rest⟩
  · exact .inl h0
  · refine .inr ⟨g, cap, cur, hv, hg, ?_, rest⟩
    rw [hb.block g (Array.getElem?_eq_some_iff.1 hh).1 (by omega) (fun he => h2 g he.symm (by rw [hv]; rfl))]; exact hh
/-- The disk is as it was when one's own row is turned. -/
theorem DiskAt.mine {base : Nat} {ws wr : World} {A : Option Addr} {n c d : Nat} {r : Option Nat} {l : List UInt8} {s : Nat} (h : DiskAt ws d r l s) (m : Mine base ws A n c wr) (hd : d < base) (hr : ∀ g, r = some g → (Value.slice A n c).ownBlock ≠ some g) : DiskAt wr d r l s := by
  obtain ⟨⟨ys, hys, ho⟩, hg⟩ := m
  refine h.keep (hg.block d h.row_lt.1 (own_apart ho hd)) (fun g hg' => hg.block g (h.row_lt.2 g hg').2 (fun he => hr g hg' he.symm)) hg.size
theorem Mine.below {base : Nat} {ws wr : World} {A : Option Addr} {n c B : Nat} (m : Mine base ws A n c wr) (hB : B ≤ base) (hs : B ≤ ws.heap.size) : Below B ws wr := by
  obtain ⟨⟨ys, hys, ho⟩, hg⟩ := m
  exact ⟨hg.os, hg.tape, hg.output, hg.size, fun k hk => hg.block k (by omega) (own_apart ho (by omega))⟩

set_option maxRecDepth 100000 in
set_option maxHeartbeats 3200000 in
theorem diskKept_walk (A0 : Option Addr) (c0 : Nat) (l0 : List Int) (w : World) (h0 : ArgI .u8 w A0 c0 l0) :
    Calls Try.prog 8 #[.slice A0 l0.length c0] w fun e w' => e = .returned (.bool true) ∧ Below w.heap.size w w' := by
  have hm0 := h0.max; have hle0 := h0.le; unfold maxLen at hm0
  obtain ⟨b, n, eb, cb, lb, lcb, pb, qb⟩ := h0.cutB 500
  have EB := hide eb; have PB := hide pb; have QB := hide qb
  clear eb pb qb h0
  go_enter Try.func8, Try.ntmps8
  go_wp2_with fail
  refine (new_any _).mono ?_
  rintro e w1 ⟨d, rfl, hd, D1, B1⟩
  go_upto_if 15 with (fail)
  go_cut [0] (fun s wx => s = .slice A0 n c0 ∧ wx = w1)
  case first =>
    by_cases h : l0.length ≤ 500
    · have e1 := PB.out h
      go_wp2_with fail
      go_meet
      exact ⟨by rw [e1], rfl⟩
    · have e1 := QB.out (by omega)
      go_wp2_with fail
      go_meet
      exact ⟨by rw [e1], rfl⟩
  obtain ⟨rfl, rfl⟩ := hcut
  clear PB QB
  have hdw := D1.row_lt.1
  go_wp2_with (at_builtin; refine wpList_app elU8 (World.ownsRow_lit (base := wc.heap.size) wc #[] 0 (Nat.le_refl _) (Nat.zero_le _) rfl) (news := u8s b) rfl _ _ rfl rfl rfl (by rw [length_u8s]; exact EB.out) ((cb.below B1).alloc _) (u8s_one b) (by omega) (by simp) n (u8s b) (by omega) (by simp) ?_; intro A3 c3 w3 p3)
  have own3 := p3.own
  have hb3 := p3.below wc.heap.size wc (Nat.le_refl _) ((Below.refl _ _).alloc (Nat.le_refl _) _)
  have D3 := D1.below hb3
  have B3 := nxt B1 hb3
  clear p3 D1 B1
  have hsz3 := hb3.size
  clear hb3
  generalize wc.heap.size = base3 at *
  go_wp2_with fail
  refine (append_any d none [] b 0 A3 n c3 _ D3 EB.out (by rw [EB.out]; simp; omega) (Cells.of_own own3)).mono ?_
  rintro e w4 ⟨rfl, r4, D4', hr4, L4⟩
  have D4 : DiskAt w4 d r4 b 0 := D4'
  have own4 := own_leaves own3 L4 hdw (fun g hg => by cases hg)
  have B4 := nxtD hd B3 D3 L4 (.inl rfl)
  have far4 : ∀ g, r4 = some g → (Value.slice A3 n c3).ownBlock ≠ some g := by
    intro g hg he
    rcases hr4 with rfl | hr4
    · cases hg
    · have := hr4 g hg; have := (own3.lt g he).2; omega
  clear D3 own3 L4 B3 D4' hr4
  go_wp2_with fail
  go_loopw [5] (fun i wr => ∃ k : Nat, k ≤ n ∧ i = .int .i64 k ∧ Mine base3 w4 A3 n c3 wr) (fun i _ => n - (intOf i).toNat)
  case atStart => exact ⟨0, Nat.zero_le _, rfl, Mine.start own4 EB.out⟩
  case round =>
    obtain ⟨k, hk, rfl, M⟩ := hrel
    by_cases hlt : k < n
    · obtain ⟨g, y, hA, hc, hf, M2⟩ := M.at_ hlt
      subst hA
      have i1 : (k : Int) < n := by omega
      go_wp2
      go_roundw
      case rel => exact ⟨k + 1, by omega, by go_num, M2 _⟩
      case measure => simp [intOf]; omega
    · obtain rfl : n = k := by omega
      have D5 := D4.mine M hdw far4
      have B5 := B4.trans (M.below (by omega) (by have := B4.size; omega))
      clear M D4 B4 own4 hlt hk
      go_wp2_with fail
      refine (bytes_any d _ _ _ _ D5).mono ?_
      rintro e w6 ⟨A6, c6, rfl, own6', -, hle6, hm6, hb⟩
      have D6 := D5.below hb
      have B6 := nxt B5 hb
      have own6 : w6.ownsRow wr.heap.size 5 1 (.slice A6 n c6) n (u8s b) := by have := own6'; rw [EB.out] at this; exact this
      have far6 : ∀ g, r4 = some g → (Value.slice A6 n c6).ownBlock ≠ some g := by
        intro g hg he
        have := (D5.row_lt.2 g hg).2; have := (own6.lt g he).1; omega
      have hd6 : d < wr.heap.size := D5.row_lt.1
      clear own6' D5 B5
      have hs6 := hb.size
      clear hb
      have hwr := B6.size
      generalize wr.heap.size = base6 at *
      rw [EB.out]
      go_wp2_with fail
      go_loopw [7] (fun i wr => ∃ k : Nat, k ≤ n ∧ i = .int .i64 k ∧ Mine base6 w6 A6 n c6 wr) (fun i _ => n - (intOf i).toNat)
      case atStart => exact ⟨0, Nat.zero_le _, rfl, Mine.start own6 EB.out⟩
      case round =>
        obtain ⟨k, hk, rfl, M⟩ := hrel
        by_cases hlt : k < n
        · obtain ⟨g, y, hA, hc, hf, M2⟩ := M.at_ hlt
          subst hA
          have i1 : (k : Int) < n := by omega
          go_wp2
          go_roundw
          case rel => exact ⟨k + 1, by omega, by go_num, M2 _⟩
          case measure => simp [intOf]; omega
        · obtain rfl : n = k := by omega
          have D7 := D6.mine M hd6 far6
          have B7 := B6.trans (M.below (by omega) (by omega))
          clear M D6 B6 own6 hlt hk
          go_wp2_with fail
          have k1 := (cb.below (nxt_drew B7)).strs (P := Try.prog) Try.underlying26 Try.underlying5 Try.underlying9 EB.out
          refine wp_region_grow (R := Stays) [1] [0, 3, 4, 1, 2, 5] (by kernel_rfl) Stays.tr Stays.rf (by kernel_rfl) (fun _ _ _ _ _ h => h) ?_
          (repeat ((first | (refine grow_skip (by rfl) (by rfl) ?_ (Stays.rf _)) | (refine grow_take (v := ?_) (by rfl) (by rfl) (by rfl) ?_ ?_; rotate_left 1; focus (intro w' hSw; go_simp; (try (with_reducible rfl)); done))); (try simp only [Act.put, List.setIfInBounds_toArray, List.set_cons_zero, List.set_cons_succ])))
          clear k1
          refine grow_move (by rfl) (by rfl) (by rfl) (fun K hK => ?_); go_simp
          refine (bytes_any d _ _ _ _ D7.drew).mono ?_
          rintro e wi ⟨Ai, ci, rfl, -, hAi, -, -, hb⟩
          refine hK.out _ _ (hb) ?_; clear hK K; (try simp only [Act.put, List.setIfInBounds_toArray, List.set_cons_zero, List.set_cons_succ])
          have D8 := D7.drew.below hb
          have B8 := nxt (nxt_drew B7) hb
          have ki := hAi.strs (P := Try.prog) Try.underlying26 Try.underlying5 Try.underlying9 rfl
          clear D7 B7 hb
          (repeat ((first | (refine grow_skip (by rfl) (by rfl) ?_ (Stays.rf _)) | (refine grow_take (v := ?_) (by rfl) (by rfl) (by rfl) ?_ ?_; rotate_left 1; focus (intro w' hSw; go_simp; (try (with_reducible rfl)); done))); (try simp only [Act.put, List.setIfInBounds_toArray, List.set_cons_zero, List.set_cons_succ])))
          clear ki
          refine grow_done ?_
          have hdi := D8.row_lt.1
          go_wp2_with (at_builtin; refine wpList_app elU8 (World.ownsRow_lit (base := wi.heap.size) wi #[] 0 (Nat.le_refl _) (Nat.zero_le _) rfl) (news := u8s b) rfl _ _ rfl rfl rfl (by rw [length_u8s]; exact EB.out) ((cb.below B8).alloc _) (u8s_one b) (by omega) (by simp) n (u8s b) (by omega) (by simp) ?_; intro A9 c9 w9 p9)
          have own9 := p9.own
          have hb9 := p9.below wi.heap.size wi (Nat.le_refl _) ((Below.refl _ _).alloc (Nat.le_refl _) _)
          have D9 := D8.below hb9
          have B9 := nxt B8 hb9
          have hsz9 := hb9.size
          clear p9 D8 B8 hb9
          generalize wi.heap.size = base9 at *
          go_wp2_with fail
          refine (swap_any d _ _ b _ A9 n c9 _ D9 EB.out (by rw [EB.out]; omega) (Cells.of_own own9)).mono ?_
          rintro e w10 ⟨rfl, r10, D10, hr10, L10⟩
          have own10 := own_leaves own9 L10 hdi (fun g hg => by cases hg)
          have B10 := nxtD hd B9 D9 L10 (.inr rfl)
          have far10 : ∀ g, r10 = some g → (Value.slice A9 n c9).ownBlock ≠ some g := by
            intro g hg he
            have := hr10 g hg; have := (own9.lt g he).2; omega
          clear D9 own9 L10 B9 hr10
          have hs10 := B10.size
          go_wp2_with fail
          go_loopw [9] (fun i wr => ∃ k : Nat, k ≤ n ∧ i = .int .i64 k ∧ Mine base9 w10 A9 n c9 wr) (fun i _ => n - (intOf i).toNat)
          case atStart => exact ⟨0, Nat.zero_le _, rfl, Mine.start own10 EB.out⟩
          case round =>
            obtain ⟨k, hk, rfl, M⟩ := hrel
            by_cases hlt : k < n
            · obtain ⟨g, y, hA, hc, hf, M2⟩ := M.at_ hlt
              subst hA
              have i1 : (k : Int) < n := by omega
              go_wp2
              go_roundw
              case rel => exact ⟨k + 1, by omega, by go_num, M2 _⟩
              case measure => simp [intOf]; omega
            · obtain rfl : n = k := by omega
              have D11 := D10.mine M hdi far10
              have B11 := B10.trans (M.below (by omega) (by omega))
              clear M D10 B10 own10 hlt hk
              go_wp2_with fail
              have k1 := (cb.below (nxt_drew B11)).strs (P := Try.prog) Try.underlying26 Try.underlying5 Try.underlying9 EB.out
              refine wp_region_grow (R := Stays) [1, 7] [0, 3, 4, 1, 2, 5, 6, 7, 8, 9] (by kernel_rfl) Stays.tr Stays.rf (by kernel_rfl) (fun _ _ _ _ _ h => h) ?_
              (repeat ((first | (refine grow_skip (by rfl) (by rfl) ?_ (Stays.rf _)) | (refine grow_take (v := ?_) (by rfl) (by rfl) (by rfl) ?_ ?_; rotate_left 1; focus (intro w' hSw; go_simp; (try (with_reducible rfl)); done))); (try simp only [Act.put, List.setIfInBounds_toArray, List.set_cons_zero, List.set_cons_succ])))
              clear k1
              refine grow_move (by rfl) (by rfl) (by rfl) (fun K hK => ?_); go_simp
              refine (bytes_any d _ _ _ _ D11.drew).mono ?_
              rintro e wi ⟨Ai, ci, rfl, -, hAi, -, -, hb⟩
              refine hK.out _ _ (hb) ?_; clear hK K; (try simp only [Act.put, List.setIfInBounds_toArray, List.set_cons_zero, List.set_cons_succ])
              have B12 := nxt (nxt_drew B11) hb
              have ki := hAi.strs (P := Try.prog) Try.underlying26 Try.underlying5 Try.underlying9 rfl
              clear D11 B11 hb
              (repeat ((first | (refine grow_skip (by rfl) (by rfl) ?_ (Stays.rf _)) | (refine grow_take (v := ?_) (by rfl) (by rfl) (by rfl) ?_ ?_; rotate_left 1; focus (intro w' hSw; go_simp; (try (with_reducible rfl)); done))); (try simp only [Act.put, List.setIfInBounds_toArray, List.set_cons_zero, List.set_cons_succ])))
              clear ki
              refine grow_move (by rfl) (by rfl) (by rfl) (fun K hK => ?_); go_simp
              refine (known22_any _).mono ?_
              rintro e wk ⟨rfl, hb⟩
              refine hK.out _ _ (hb) ?_; clear hK K; (try simp only [Act.put, List.setIfInBounds_toArray, List.set_cons_zero, List.set_cons_succ])
              (repeat ((first | (refine grow_skip (by rfl) (by rfl) ?_ (Stays.rf _)) | (refine grow_take (v := ?_) (by rfl) (by rfl) (by rfl) ?_ ?_; rotate_left 1; focus (intro w' hSw; go_simp; (try (with_reducible rfl)); done))); (try simp only [Act.put, List.setIfInBounds_toArray, List.set_cons_zero, List.set_cons_succ])))
              refine grow_done ?_
              go_wp2
              go_ret
              exact ⟨rfl, nxt B12 hb⟩
end Go.Proofs.Ytfdilhoeikkhoaa
