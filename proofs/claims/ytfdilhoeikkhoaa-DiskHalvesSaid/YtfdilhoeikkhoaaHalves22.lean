/-
  The walk of DiskHalves.
-/
import Derived.Test.YtfdilhoeikkhoaaTwo22
import Derived.Test.YtfdilhoeikkhoaaCut
import Derived.Test.YtfdilhoeikkhoaaStrs
namespace Go.Proofs.Ytfdilhoeikkhoaa
open Go.RowKit
set_option linter.unusedVariables false

set_option maxRecDepth 100000 in
set_option maxHeartbeats 3200000 in
theorem diskHalves_walk (A0 : Option Addr) (c0 : Nat) (l0 : List Int) (A1 : Option Addr) (c1 : Nat) (l1 : List Int) (cut : Int) (w : World) (h0 : ArgI .u8 w A0 c0 l0) (h1 : ArgI .u8 w A1 c1 l1) (hcut : (Lit.int .i64 cut).wf = true) :
    Calls Try.prog 4 #[.slice A0 l0.length c0, .slice A1 l1.length c1, .int .i64 cut] w fun e w' => e = .returned (.bool true) ∧ Below w.heap.size w w' := by
  have hm0 := h0.max; have hle0 := h0.le; unfold maxLen at hm0
  have hm1 := h1.max; have hle1 := h1.le; unfold maxLen at hm1
  obtain ⟨cb0, cb1⟩ := i64_bd hcut
  obtain ⟨a0, ha0, hA0⟩ := h0.bytes
  obtain ⟨b0, hb0, hA1⟩ := h1.bytes
  obtain ⟨a, ea⟩ : ∃ a, a = a0.take 200 := ⟨_, rfl⟩
  obtain ⟨b, eb⟩ : ∃ b, b = b0.take 200 := ⟨_, rfl⟩
  have ca : Cells w A0 (u8s a) := by subst ea; exact hA0.takeB 200
  have cb : Cells w A1 (u8s b) := by subst eb; exact hA1.takeB 200
  have la : min l0.length (200 : Int).toNat = a.length := by subst ea; simp [ha0]; omega
  have lb : min l1.length (200 : Int).toNat = b.length := by subst eb; simp [hb0]; omega
  have la2 : a.length ≤ 200 := by subst ea; simp; omega
  have lb2 : b.length ≤ 200 := by subst eb; simp; omega
  have lca : a.length ≤ c0 := by omega
  have lcb : b.length ≤ c1 := by omega
  have HA := hide ea; have HB := hide eb
  clear ea eb hA0 hA1 ha0 hb0 h0 h1
  have LA := hide la; have LB := hide lb; clear la lb
  have kc := fun (w : World) (C : Array Value) (n c : Nat) => Lib.run_convert_bytes_const (P := Try.prog) w 26 5 C n c Try.underlying26 Try.underlying5
  go_enter Try.func4, Try.ntmps4
  go_wp2_with fail
  refine (cut_any A0 _ c0 200 _ hle0 (by omega) (by omega) (by omega)).mono ?_
  rintro e w' ⟨rfl, rfl⟩
  rw [LA.out]
  go_wp2_with fail
  refine (cut_any A1 _ c1 200 _ hle1 (by omega) (by omega) (by omega)).mono ?_
  rintro e w' ⟨rfl, rfl⟩
  rw [LB.out]
  clear LA LB
  go_wp2_with fail
  refine (new_any _).mono ?_
  rintro e w1 ⟨d, rfl, hd, D1, B1⟩
  go_wp2_with fail
  refine (new_any _).mono ?_
  rintro e w2 ⟨x, rfl, hx, E2, B2'⟩
  have F2 : Far d none x none := ⟨by have := D1.row_lt.1; have := hx; omega, by simp, by simp, by simp⟩
  have B2 := nxt B1 B2'
  have hx' : w.heap.size ≤ x := by have := B1.size; omega
  have D2 := D1.below B2'
  clear D1 B1 B2'
  go_wp2_with fail
  obtain ⟨k, hk⟩ : ∃ k : Nat, (k : Int) = within cut 0 b.length := ⟨(within cut 0 b.length).toNat, by have := (within_bd cut 0 b.length (by omega)).1; omega⟩
  have hkb : k ≤ b.length := by have := (within_bd cut 0 b.length (by omega)).2; omega
  refine (within_any cut 0 b.length _ (by omega) (by omega) (by omega)).mono ?_
  rw [← hk]
  have HK := hide hk; clear hk
  rintro e w' ⟨rfl, rfl⟩
  go_wp2_with fail
  refine (append_any d none [] a 0 A0 _ c0 _ D2 rfl (by simp; omega) (ca.below B2)).mono ?_
  rintro e w3 ⟨rfl, r3, D3, hr3, L3⟩
  have E3 := E2.far L3 F2.symm
  have F3 := (F2.symm.grow E2 hr3).symm
  have B3 := nxtD hd B2 D2 L3 (.inl rfl)
  clear D2 E2 L3 hr3 F2 B2
  go_wp2_with fail
  refine (sync_any d r3 _ _ _ D3).mono ?_
  rintro e w4 ⟨rfl, D4, L4⟩
  have E4 := E3.far L4 F3.symm
  have B4 := nxtD hd B3 D3 L4 (.inl rfl)
  clear D3 E3 L4 B3
  go_wp2_with fail
  refine (append_any d r3 ([] ++ a) b _ A1 _ c1 _ D4 rfl (by simp; omega) (cb.below B4)).mono ?_
  rintro e w5 ⟨rfl, r5, D5, hr5, L5⟩
  have E5 := E4.far L5 F3.symm
  have F5 := (F3.symm.grow E4 hr5).symm
  have B5 := nxtD hd B4 D4 L5 (.inl rfl)
  clear D4 E4 L5 hr5 F3 B4
  go_wp2_with fail
  refine (append_any x none [] a 0 A0 _ c0 _ E5 rfl (by simp; omega) (ca.below B5)).mono ?_
  rintro e w6 ⟨rfl, s6, E6, hs6, L6⟩
  have D6 := D5.far L6 F5
  have F6 := F5.grow D5 hs6
  have B6 := nxtD hx' B5 E5 L6 (.inl rfl)
  clear D5 E5 L6 hs6 F5 B5
  go_wp2_with fail
  refine (sync_any x s6 _ _ _ E6).mono ?_
  rintro e w7 ⟨rfl, E7, L7⟩
  have D7 := D6.far L7 F6
  have B7 := nxtD hx' B6 E6 L7 (.inl rfl)
  clear D6 E6 L7 B6
  have i1 : (k : Int) ≤ c1 := by omega
  have i2 : (k : Int) ≤ b.length := by omega
  go_wp2_with fail
  refine (append_any x s6 ([] ++ a) (b.take k) _ A1 k c1 _ E7 (by simp; omega) (by simp; omega) ((cb.below B7).takeB k)).mono ?_
  rintro e w8 ⟨rfl, s8, E8, hs8, L8⟩
  have D8 := D7.far L8 F6
  have F8 := F6.grow D7 hs8
  have B8 := nxtD hx' B7 E7 L8 (.inl rfl)
  clear D7 E7 L8 hs8 F6 B7
  have cd := (cb.below B8).dropB k c1 lcb
  have q1 : [] ++ a ++ b.take k ++ b.drop k = [] ++ a ++ b := by rw [List.append_assoc, List.take_append_drop]
  have q2 : (b.drop k).length = b.length - k := by simp
  obtain ⟨m, hm⟩ : ∃ m, m = b.length - k := ⟨_, rfl⟩
  obtain ⟨p, hp⟩ : ∃ p, p = [] ++ a ++ b := ⟨_, rfl⟩
  have q3 : p.take a.length = a := by simp [hp]
  have q4 := hide (show p.length = a.length + b.length by simp [hp])
  have q5 : str a ++ str b = str p := by rw [str_append, hp]; rfl
  rw [← hp] at D8
  by_cases hck : c1 = k
  case' pos => (rw [if_pos hck] at cd; have hck' := hck.symm; subst hck')
  case' neg => rw [if_neg hck] at cd
  all_goals
    go_wp2_with fail
    refine (append_any x s8 ([] ++ a ++ b.take k) (b.drop k) _ _ _ _ _ E8 (by simp <;> omega) (by simp; omega) cd).mono ?_
    rintro e w9 ⟨rfl, s9, E9, hs9, L9⟩
    have D9 := D8.far L9 F8
    have F9 := F8.grow D8 hs9
    have B9 := nxtD hx' B8 E8 L9 (.inl rfl)
    rw [q1, ← hp] at E9
    clear D8 E8 L9 hs9 F8 B8 cd
    have HP := hide hp; clear hp q1 q2
    go_wp2
    refine wp_region_grow (R := Stays) [1, 4, 9, 16] [0, 3, 1, 2, 4, 5, 6, 7, 8, 10, 11, 9, 12, 13, 14, 15, 17, 18, 16, 19, 20] (by kernel_rfl) Stays.tr Stays.rf (by kernel_rfl) (fun _ _ _ _ _ h => h) ?_
    (repeat ((first | (refine grow_skip (by rfl) (by rfl) ?_ (Stays.rf _)) | (refine grow_take (v := ?_) (by rfl) (by rfl) (by rfl) ?_ ?_; rotate_left 1; focus (intro w' hSw; go_simp; (try (with_reducible rfl)); done))); (try simp only [Act.put, List.setIfInBounds_toArray, List.set_cons_zero, List.set_cons_succ])))
    refine grow_move (by rfl) (by rfl) (by rfl) (fun K hK => ?_); go_simp
    refine (bytes_any d _ _ _ _ D9.drew).mono ?_
    rintro e wa ⟨Aa, ca', rfl, -, hAa, -, -, hb⟩
    refine hK.out _ _ (hb) ?_; clear hK K; (try simp only [Act.put, List.setIfInBounds_toArray, List.set_cons_zero, List.set_cons_succ])
    have Da := D9.drew.below hb
    have Ea := E9.drew.below hb
    have Ba := nxt (nxt_drew B9) hb
    have ka := hAa.strs (P := Try.prog) Try.underlying26 Try.underlying5 Try.underlying9 rfl
    clear D9 E9 B9 hb
    (repeat ((first | (refine grow_skip (by rfl) (by rfl) ?_ (Stays.rf _)) | (refine grow_take (v := ?_) (by rfl) (by rfl) (by rfl) ?_ ?_; rotate_left 1; focus (intro w' hSw; go_simp; (try (with_reducible rfl)); done))); (try simp only [Act.put, List.setIfInBounds_toArray, List.set_cons_zero, List.set_cons_succ])))
    clear ka
    refine grow_move (by rfl) (by rfl) (by rfl) (fun K hK => ?_); go_simp
    refine (bytes_any x _ _ _ _ Ea).mono ?_
    rintro e wb ⟨Ab, cb', rfl, -, hAb, -, -, hb⟩
    refine hK.out _ _ (hb) ?_; clear hK K; (try simp only [Act.put, List.setIfInBounds_toArray, List.set_cons_zero, List.set_cons_succ])
    have Db := Da.below hb
    have Eb := Ea.below hb
    have Bb := nxt Ba hb
    have kb := hAb.strs (P := Try.prog) Try.underlying26 Try.underlying5 Try.underlying9 rfl
    clear Da Ea Ba hb
    (repeat ((first | (refine grow_skip (by rfl) (by rfl) ?_ (Stays.rf _)) | (refine grow_take (v := ?_) (by rfl) (by rfl) (by rfl) ?_ ?_; rotate_left 1; focus (intro w' hSw; go_simp; (try (with_reducible rfl)); done))); (try simp only [Act.put, List.setIfInBounds_toArray, List.set_cons_zero, List.set_cons_succ])))
    clear kb
    refine grow_move (by rfl) (by rfl) (by rfl) (fun K hK => ?_); go_simp
    refine (safe_any d _ _ _ _ Db).mono ?_
    rintro e wc ⟨rfl, rfl⟩
    have hb := Below.refl wb.heap.size wb
    refine hK.out _ _ (hb) ?_; clear hK K; (try simp only [Act.put, List.setIfInBounds_toArray, List.set_cons_zero, List.set_cons_succ])
    (repeat ((first | (refine grow_skip (by rfl) (by rfl) ?_ (Stays.rf _)) | (refine grow_take (v := ?_) (by rfl) (by rfl) (by rfl) ?_ ?_; rotate_left 1; focus (intro w' hSw; go_simp; (try (with_reducible rfl)); done))); (try simp only [Act.put, List.setIfInBounds_toArray, List.set_cons_zero, List.set_cons_succ])))
    refine grow_move (by rfl) (by rfl) (by rfl) (fun K hK => ?_); go_simp
    refine (safe_any x _ _ _ _ Eb).mono ?_
    rintro e wc ⟨rfl, rfl⟩
    have hb := Below.refl wb.heap.size wb
    refine hK.out _ _ (hb) ?_; clear hK K; (try simp only [Act.put, List.setIfInBounds_toArray, List.set_cons_zero, List.set_cons_succ])
    (repeat ((first | (refine grow_skip (by rfl) (by rfl) ?_ (Stays.rf _)) | (refine grow_take (v := ?_) (by rfl) (by rfl) (by rfl) ?_ ?_; rotate_left 1; focus (intro w' hSw; go_simp; (try (with_reducible rfl)); done))); (try simp only [Act.put, List.setIfInBounds_toArray, List.set_cons_zero, List.set_cons_succ])))
    refine grow_done ?_
    go_wp2_with fail
    refine (crash_k d _ _ _ _ _ p.length p Db (by unfold crashLen; rw [if_neg (by omega), if_pos (by rw [q4.out]; simp; omega)]; rw [q4.out]; simp) (by simp)).mono ?_
    rintro e wd ⟨rfl, Dd, Ld⟩
    have Ed := Eb.far Ld F9.symm
    have Bd := nxtD hd Bb Db Ld (.inl rfl)
    clear Db Eb Ld Bb
    go_wp2_with fail
    refine (crash_k x _ _ _ _ _ a.length a Ed (by unfold crashLen; rw [if_neg (by omega), if_pos (by rw [q4.out]; simp; omega)]; simp) q3).mono ?_
    rintro e we ⟨rfl, Ee, Le⟩
    have De := Dd.far Le F9
    have Be := nxtD hx' Bd Ed Le (.inl rfl)
    clear Dd Ed Le Bd q3
    go_wp2
    have k1 := (ca.below (nxt_drew Be)).strs (P := Try.prog) Try.underlying26 Try.underlying5 Try.underlying9 rfl
    have k2 := (cb.below (nxt_drew Be)).strs (P := Try.prog) Try.underlying26 Try.underlying5 Try.underlying9 rfl
    have z5 : ¬ 9223372036854775807 < (str a).size + (str b).size := by rw [str_size, str_size]; omega
    refine wp_region_grow (R := Stays) [1, 11, 19, 25] [0, 3, 4, 5, 6, 7, 1, 2, 8, 9, 10, 13, 14, 11, 12, 15, 16, 17, 18, 20, 21, 19, 22, 23, 24, 25, 26, 27] (by kernel_rfl) Stays.tr Stays.rf (by kernel_rfl) (fun _ _ _ _ _ h => h) ?_
    (repeat ((first | (refine grow_skip (by rfl) (by rfl) ?_ (Stays.rf _)) | (refine grow_take (v := ?_) (by rfl) (by rfl) (by rfl) ?_ ?_; rotate_left 1; focus (intro w' hSw; go_simp; (try (with_reducible rfl)); done))); (try simp only [Act.put, List.setIfInBounds_toArray, List.set_cons_zero, List.set_cons_succ])))
    clear k1 k2 z5
    refine grow_move (by rfl) (by rfl) (by rfl) (fun K hK => ?_); go_simp
    refine (bytes_any d _ _ _ _ De.drew).mono ?_
    rintro e wf ⟨Af, cf, rfl, -, hAf, -, -, hb⟩
    refine hK.out _ _ (hb) ?_; clear hK K; (try simp only [Act.put, List.setIfInBounds_toArray, List.set_cons_zero, List.set_cons_succ])
    have Ef := Ee.drew.below hb
    have Bf := nxt (nxt_drew Be) hb
    have kf := hAf.strs (P := Try.prog) Try.underlying26 Try.underlying5 Try.underlying9 rfl
    have k3 := (ca.below Bf).strs (P := Try.prog) Try.underlying26 Try.underlying5 Try.underlying9 rfl
    clear De Ee Be hb
    (repeat ((first | (refine grow_skip (by rfl) (by rfl) ?_ (Stays.rf _)) | (refine grow_take (v := ?_) (by rfl) (by rfl) (by rfl) ?_ ?_; rotate_left 1; focus (intro w' hSw; go_simp; (try (with_reducible rfl)); done))); (try simp only [Act.put, List.setIfInBounds_toArray, List.set_cons_zero, List.set_cons_succ])))
    clear kf k3
    refine grow_move (by rfl) (by rfl) (by rfl) (fun K hK => ?_); go_simp
    refine (bytes_any x _ _ _ _ Ef).mono ?_
    rintro e wg ⟨Ag, cg, rfl, -, hAg, -, -, hb⟩
    refine hK.out _ _ (hb) ?_; clear hK K; (try simp only [Act.put, List.setIfInBounds_toArray, List.set_cons_zero, List.set_cons_succ])
    have Eg := Ef.below hb
    have Bg := nxt Bf hb
    have kg := hAg.strs (P := Try.prog) Try.underlying26 Try.underlying5 Try.underlying9 rfl
    have k3 := (ca.below Bg).strs (P := Try.prog) Try.underlying26 Try.underlying5 Try.underlying9 rfl
    clear Ef Bf hb
    (repeat ((first | (refine grow_skip (by rfl) (by rfl) ?_ (Stays.rf _)) | (refine grow_take (v := ?_) (by rfl) (by rfl) (by rfl) ?_ ?_; rotate_left 1; focus (intro w' hSw; go_simp; (try (with_reducible rfl)); done))); (try simp only [Act.put, List.setIfInBounds_toArray, List.set_cons_zero, List.set_cons_succ])))
    clear kg k3
    refine grow_move (by rfl) (by rfl) (by rfl) (fun K hK => ?_); go_simp
    refine (safe_any x _ _ _ _ Eg).mono ?_
    rintro e wh ⟨rfl, rfl⟩
    have hb := Below.refl wg.heap.size wg
    refine hK.out _ _ (hb) ?_; clear hK K; (try simp only [Act.put, List.setIfInBounds_toArray, List.set_cons_zero, List.set_cons_succ])
    (repeat ((first | (refine grow_skip (by rfl) (by rfl) ?_ (Stays.rf _)) | (refine grow_take (v := ?_) (by rfl) (by rfl) (by rfl) ?_ ?_; rotate_left 1; focus (intro w' hSw; go_simp; (try (with_reducible rfl)); done))); (try simp only [Act.put, List.setIfInBounds_toArray, List.set_cons_zero, List.set_cons_succ])))
    refine grow_move (by rfl) (by rfl) (by rfl) (fun K hK => ?_); go_simp
    refine (known22_any _).mono ?_
    rintro e wi ⟨rfl, hb⟩
    refine hK.out _ _ (hb) ?_; clear hK K; (try simp only [Act.put, List.setIfInBounds_toArray, List.set_cons_zero, List.set_cons_succ])
    (repeat ((first | (refine grow_skip (by rfl) (by rfl) ?_ (Stays.rf _)) | (refine grow_take (v := ?_) (by rfl) (by rfl) (by rfl) ?_ ?_; rotate_left 1; focus (intro w' hSw; go_simp; (try (with_reducible rfl)); done))); (try simp only [Act.put, List.setIfInBounds_toArray, List.set_cons_zero, List.set_cons_succ])))
    refine grow_done ?_
    go_wp2
    go_ret
    exact ⟨rfl, nxt Bg hb⟩
end Go.Proofs.Ytfdilhoeikkhoaa
