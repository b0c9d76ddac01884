/-
  The walk of DiskSafe.
-/
import Derived.Test.YtfdilhoeikkhoaaKnown22
import Derived.Test.YtfdilhoeikkhoaaCut
import Derived.Test.YtfdilhoeikkhoaaStrs
import Derived.Deep.DeepCutAuto
namespace Go.Proofs.Ytfdilhoeikkhoaa
open Go.RowKit
set_option linter.unusedVariables false

/-- What is left of an argument when no more than N bytes are taken. -/
theorem ArgI.cutB {w : World} {A : Option Addr} {c : Nat} {l : List Int} (h : ArgI .u8 w A c l) (N : Nat) :
    ∃ (a : List UInt8) (m : Nat), a.length = m ∧ Cells w A (u8s a) ∧ m ≤ N ∧ m ≤ c ∧ (l.length ≤ N → m = l.length) ∧ (N < l.length → m = N) := by
  obtain ⟨b, hb, hc⟩ := h.bytes
  have := h.le
  exact ⟨b.take N, min N l.length, by simp [hb], hc.takeB N, by omega, by omega, fun h => by omega, fun h => by omega⟩

set_option maxRecDepth 100000 in
set_option maxHeartbeats 3200000 in
theorem diskSafe_walk (A0 : Option Addr) (c0 : Nat) (l0 : List Int) (A1 : Option Addr) (c1 : Nat) (l1 : List Int) (A2 : Option Addr) (c2 : Nat) (l2 : List Int) (keep : Int) (w : World) (h0 : ArgI .u8 w A0 c0 l0) (h1 : ArgI .u8 w A1 c1 l1) (h2 : ArgI .u8 w A2 c2 l2) (hkw : (Lit.int .i64 keep).wf = true) :
    Calls Try.prog 7 #[.slice A0 l0.length c0, .slice A1 l1.length c1, .slice A2 l2.length c2, .int .i64 keep] w fun e w' => e = .returned (.bool true) ∧ Below w.heap.size w w' := by
  have hm0 := h0.max; have hle0 := h0.le; unfold maxLen at hm0
  have hm1 := h1.max; have hle1 := h1.le; unfold maxLen at hm1
  have hm2 := h2.max; have hle2 := h2.le; unfold maxLen at hm2
  obtain ⟨cb0, cb1⟩ := i64_bd hkw
  obtain ⟨a, na, ea, ca, la, lca, pa, qa⟩ := h0.cutB 500
  obtain ⟨b, nb, eb, cb, lb, lcb, pb, qb⟩ := h1.cutB 500
  obtain ⟨c, nc, ec, cc, lc, lcc, pc, qc⟩ := h2.cutB 500
  have EA := hide ea; have EB := hide eb; have EC := hide ec
  have PA := hide pa; have PB := hide pb; have PC := hide pc
  have QA := hide qa; have QB := hide qb; have QC := hide qc
  clear ea eb ec pa pb pc qa qb qc h0 h1 h2
  have kc := fun (w : World) (C : Array Value) (n c : Nat) => Lib.run_convert_bytes_const (P := Try.prog) w 26 5 C n c Try.underlying26 Try.underlying5
  go_enter Try.func7, Try.ntmps7
  go_wp2_with fail
  refine (new_any _).mono ?_
  rintro e w1 ⟨d, rfl, hd, D1, B1⟩
  go_upto_if 15 with (fail)
  go_cut [0] (fun s wx => s = .slice A0 na c0 ∧ wx = w1)
  case first =>
    by_cases h : l0.length ≤ 500
    · have e1 := PA.out h
      go_wp2_with fail
      go_meet
      exact ⟨by rw [e1], rfl⟩
    · have e1 := QA.out (by omega)
      go_wp2_with fail
      go_meet
      exact ⟨by rw [e1], rfl⟩
  obtain ⟨rfl, rfl⟩ := hcut
  go_upto_if 20 with (fail)
  go_cut [1] (fun s wx => s = .slice A1 nb c1 ∧ wx = wc)
  case first =>
    by_cases h : l1.length ≤ 500
    · have e1 := PB.out h
      go_wp2_with fail
      go_meet
      exact ⟨by rw [e1], rfl⟩
    · have e1 := QB.out (by omega)
      go_wp2_with fail
      go_meet
      exact ⟨by rw [e1], rfl⟩
  obtain ⟨rfl, rfl⟩ := hcut
  go_upto_if 25 with (fail)
  go_cut [2] (fun s wx => s = .slice A2 nc c2 ∧ wx = wc)
  case first =>
    by_cases h : l2.length ≤ 500
    · have e1 := PC.out h
      go_wp2_with fail
      go_meet
      exact ⟨by rw [e1], rfl⟩
    · have e1 := QC.out (by omega)
      go_wp2_with fail
      go_meet
      exact ⟨by rw [e1], rfl⟩
  obtain ⟨rfl, rfl⟩ := hcut
  clear PA PB PC QA QB QC
  go_wp2_with fail
  refine (append_any d none [] a 0 A0 _ c0 _ D1 EA.out (by rw [EA.out]; simp; omega) (ca.below B1)).mono ?_
  rintro e w3 ⟨rfl, r3, D3, -, L3⟩
  have B3 := nxtD hd B1 D1 L3 (.inl rfl)
  clear D1 L3 B1
  go_wp2_with fail
  refine (sync_any d r3 _ _ _ D3).mono ?_
  rintro e w4 ⟨rfl, D4, L4⟩
  have B4 := nxtD hd B3 D3 L4 (.inl rfl)
  clear D3 L4 B3
  have D4' : DiskAt w4 d r3 a na := by have := D4; rw [← EA.out]; simpa using this
  clear D4
  go_wp2_with fail
  refine (append_any d r3 a b na A1 _ c1 _ D4' EB.out (by rw [EA.out, EB.out]; omega) (cb.below B4)).mono ?_
  rintro e w5 ⟨rfl, r5, D5, -, L5⟩
  have B5 := nxtD hd B4 D4' L5 (.inl rfl)
  clear D4' L5 B4
  obtain ⟨k1, HK1⟩ : ∃ k1 : Int, Hid ((keep < 0 → k1 = 0) ∧ (0 ≤ keep → k1 = keep) ∧ 0 ≤ k1 ∧ k1 ≤ 9223372036854775807) := by
    by_cases h : keep < 0
    · exact ⟨0, fun _ => rfl, fun h' => by omega, by omega, by omega⟩
    · exact ⟨keep, fun h' => by omega, fun _ => rfl, by omega, by omega⟩
  obtain ⟨kn, HK2⟩ : ∃ kn : Nat, Hid (((nb : Int) < k1 → kn = nb) ∧ (k1 ≤ nb → (kn : Int) = k1) ∧ kn ≤ nb) := ⟨if (nb : Int) < k1 then nb else k1.toNat, by have := HK1.out; split <;> refine ⟨fun h => by omega, fun h => by omega, by omega⟩⟩
  obtain ⟨p, hp⟩ : ∃ p, p = a ++ b.take kn := ⟨_, rfl⟩
  have hpl : p.length = na + kn := by have := HK2.out; have := EA.out; have := EB.out; rw [hp]; simp; omega
  have htk : (a ++ b).take (na + kn) = p := by rw [hp, ← EA.out, List.take_length_add_append]
  have HP := hide hp; clear hp
  have HPL := hide hpl; clear hpl
  have HTK := hide htk; clear htk
  have hcr : crashLen (a ++ b).length na keep = na + kn := by
    have h1 := HK1.out; have h2 := HK2.out; have := EA.out; have := EB.out
    unfold crashLen; simp only [List.length_append]
    split
    · omega
    · split <;> omega
  have HCR := hide hcr; clear hcr
  go_wp2_with fail
  refine (crash_k d r5 _ _ _ _ _ p D5 HCR.out HTK.out).mono ?_
  rintro e w6 ⟨rfl, D6, L6⟩
  have B6 := nxtD hd B5 D5 L6 (.inl rfl)
  clear D5 L6 B5 HCR HTK
  go_upto_if 40 with (fail)
  go_cut [3] (fun s wx => s = .int .i64 k1 ∧ wx = w6)
  case first =>
    by_cases h : keep < 0
    · have e1 := HK1.out.1 h
      go_wp2_with fail
      go_meet
      exact ⟨by rw [e1], rfl⟩
    · have e1 := HK1.out.2.1 (by omega)
      go_wp2_with fail
      go_meet
      exact ⟨by rw [e1], rfl⟩
  obtain ⟨rfl, rfl⟩ := hcut
  go_upto_if 44 with (fail)
  go_cut [3] (fun s wx => s = .int .i64 kn ∧ wx = wc)
  case first =>
    by_cases h : (nb : Int) < k1
    · have e1 := HK2.out.1 h
      go_wp2_with fail
      go_meet
      exact ⟨by rw [e1], rfl⟩
    · have e1 := HK2.out.2.1 (by omega)
      go_wp2_with fail
      go_meet
      exact ⟨by rw [e1], rfl⟩
  obtain ⟨rfl, rfl⟩ := hcut
  have hkn := HK2.out.2.2
  clear HK1 HK2
  go_wp2_with fail
  have k1 := (ca.below (nxt_drew B6)).strs (P := Try.prog) Try.underlying26 Try.underlying5 Try.underlying9 EA.out
  have k2 := ((cb.below (nxt_drew B6)).takeB kn).strs (P := Try.prog) Try.underlying26 Try.underlying5 Try.underlying9 (n := kn) (by have := EB.out; simp; omega)
  have z5 : ¬ 9223372036854775807 < (str a).size + (str (b.take kn)).size := by rw [str_size, str_size, EA.out]; simp; omega
  have q5 : str a ++ str (b.take kn) = str p := by rw [str_append, HP.out]
  have i1 : (kn : Int) ≤ c1 := by omega
  have i2 : (0 : Int) ≤ kn := by omega
  have i3 : IntKind.i64.wrap ((na : Int) + kn) = na + kn := IntWalk.i64_in _ (by omega)
  refine wp_region_grow (R := Stays) [1, 13] [0, 3, 4, 5, 6, 7, 8, 9, 1, 2, 10, 11, 12, 14, 15, 16, 17, 13, 18, 19] (by kernel_rfl) Stays.tr Stays.rf (by kernel_rfl) (fun _ _ _ _ _ h => h) ?_
  (repeat ((first | (refine grow_skip (by rfl) (by rfl) ?_ (Stays.rf _)) | (refine grow_take (v := ?_) (by rfl) (by rfl) (by rfl) ?_ ?_; rotate_left 1; focus (intro w' hSw; go_simp; (try (with_reducible rfl)); done))); (try simp only [Act.put, List.setIfInBounds_toArray, List.set_cons_zero, List.set_cons_succ])))
  clear k1 k2 z5 q5
  refine grow_move (by rfl) (by rfl) (by rfl) (fun K hK => ?_); go_simp
  refine (bytes_any d _ _ _ _ D6.drew).mono ?_
  rintro e wf ⟨Af, cf, rfl, -, hAf, -, -, hb⟩
  refine hK.out _ _ (hb) ?_; clear hK K; (try simp only [Act.put, List.setIfInBounds_toArray, List.set_cons_zero, List.set_cons_succ])
  have Df := D6.drew.below hb
  have Bf := nxt (nxt_drew B6) hb
  have kf := hAf.strs (P := Try.prog) Try.underlying26 Try.underlying5 Try.underlying9 rfl
  clear D6 B6 hb
  (repeat ((first | (refine grow_skip (by rfl) (by rfl) ?_ (Stays.rf _)) | (refine grow_take (v := ?_) (by rfl) (by rfl) (by rfl) ?_ ?_; rotate_left 1; focus (intro w' hSw; go_simp; (try (with_reducible rfl)); done))); (try simp only [Act.put, List.setIfInBounds_toArray, List.set_cons_zero, List.set_cons_succ])))
  clear kf
  refine grow_move (by rfl) (by rfl) (by rfl) (fun K hK => ?_); go_simp
  refine (safe_any d _ _ _ _ Df).mono ?_
  rintro e wh ⟨rfl, rfl⟩
  have hb := Below.refl wf.heap.size wf
  refine hK.out _ _ (hb) ?_; clear hK K; (try simp only [Act.put, List.setIfInBounds_toArray, List.set_cons_zero, List.set_cons_succ])
  (repeat ((first | (refine grow_skip (by rfl) (by rfl) ?_ (Stays.rf _)) | (refine grow_take (v := ?_) (by rfl) (by rfl) (by rfl) ?_ ?_; rotate_left 1; focus (intro w' hSw; go_simp; (try (with_reducible rfl)); done))); (try simp only [Act.put, List.setIfInBounds_toArray, List.set_cons_zero, List.set_cons_succ])))
  refine grow_done ?_
  clear i3
  go_wp2_with fail
  refine (append_any d r5 p [108, 111, 115, 116] _ _ 4 4 _ (Df.below ((Below.refl _ _).alloc (Nat.le_refl _) _)) (by decide) (by rw [HPL.out]; simp; omega) (Cells.litm wf #[.int .u8 108, .int .u8 111, .int .u8 115, .int .u8 116] _ _)).mono ?_
  rintro e w7 ⟨rfl, r7, D7, -, L7⟩
  have B7 := nxtD hd (nxt_alloc Bf _) (Df.below ((Below.refl _ _).alloc (Nat.le_refl _) _)) L7 (.inl rfl)
  clear Df L7 Bf
  go_wp2_with fail
  refine (swap_any d r7 _ c _ A2 nc c2 _ D7 EC.out (by rw [EC.out]; omega) (cc.below B7)).mono ?_
  rintro e w8 ⟨rfl, r8, D8, hr8, L8⟩
  have B8 := nxtD hd B7 D7 L8 (.inr rfl)
  clear D7 L8 B7
  go_wp2_with fail
  refine (crash_k d r8 c _ _ _ nc c D8 (by unfold crashLen; rw [if_neg (by omega), EC.out, if_pos (by simp)]; simp) (by rw [← EC.out]; simp)).mono ?_
  rintro e w9 ⟨rfl, D9, L9⟩
  have B9 := nxtD hd B8 D8 L9 (.inl rfl)
  clear D8 L9 B8
  go_wp2_with fail
  have k1 := (cc.below (nxt_drew B9)).strs (P := Try.prog) Try.underlying26 Try.underlying5 Try.underlying9 EC.out
  refine wp_region_grow (R := Stays) [1, 8, 14] [0, 3, 4, 1, 2, 5, 6, 7, 9, 10, 8, 11, 12, 13, 14, 15, 16] (by kernel_rfl) Stays.tr Stays.rf (by kernel_rfl) (fun _ _ _ _ _ h => h) ?_
  (repeat ((first | (refine grow_skip (by rfl) (by rfl) ?_ (Stays.rf _)) | (refine grow_take (v := ?_) (by rfl) (by rfl) (by rfl) ?_ ?_; rotate_left 1; focus (intro w' hSw; go_simp; (try (with_reducible rfl)); done))); (try simp only [Act.put, List.setIfInBounds_toArray, List.set_cons_zero, List.set_cons_succ])))
  clear k1
  refine grow_move (by rfl) (by rfl) (by rfl) (fun K hK => ?_); go_simp
  refine (bytes_any d _ _ _ _ D9.drew).mono ?_
  rintro e wi ⟨Ai, ci, rfl, -, hAi, -, -, hb⟩
  refine hK.out _ _ (hb) ?_; clear hK K; (try simp only [Act.put, List.setIfInBounds_toArray, List.set_cons_zero, List.set_cons_succ])
  have Di := D9.drew.below hb
  have Bi := nxt (nxt_drew B9) hb
  have ki := hAi.strs (P := Try.prog) Try.underlying26 Try.underlying5 Try.underlying9 rfl
  clear D9 B9 hb
  (repeat ((first | (refine grow_skip (by rfl) (by rfl) ?_ (Stays.rf _)) | (refine grow_take (v := ?_) (by rfl) (by rfl) (by rfl) ?_ ?_; rotate_left 1; focus (intro w' hSw; go_simp; (try (with_reducible rfl)); done))); (try simp only [Act.put, List.setIfInBounds_toArray, List.set_cons_zero, List.set_cons_succ])))
  clear ki
  refine grow_move (by rfl) (by rfl) (by rfl) (fun K hK => ?_); go_simp
  refine (safe_any d _ _ _ _ Di).mono ?_
  rintro e wh ⟨rfl, rfl⟩
  have hb := Below.refl wi.heap.size wi
  refine hK.out _ _ (hb) ?_; clear hK K; (try simp only [Act.put, List.setIfInBounds_toArray, List.set_cons_zero, List.set_cons_succ])
  (repeat ((first | (refine grow_skip (by rfl) (by rfl) ?_ (Stays.rf _)) | (refine grow_take (v := ?_) (by rfl) (by rfl) (by rfl) ?_ ?_; rotate_left 1; focus (intro w' hSw; go_simp; (try (with_reducible rfl)); done))); (try simp only [Act.put, List.setIfInBounds_toArray, List.set_cons_zero, List.set_cons_succ])))
  refine grow_move (by rfl) (by rfl) (by rfl) (fun K hK => ?_); go_simp
  refine (known22_any _).mono ?_
  rintro e wk ⟨rfl, hb⟩
  refine hK.out _ _ (hb) ?_; clear hK K; (try simp only [Act.put, List.setIfInBounds_toArray, List.set_cons_zero, List.set_cons_succ])
  (repeat ((first | (refine grow_skip (by rfl) (by rfl) ?_ (Stays.rf _)) | (refine grow_take (v := ?_) (by rfl) (by rfl) (by rfl) ?_ ?_; rotate_left 1; focus (intro w' hSw; go_simp; (try (with_reducible rfl)); done))); (try simp only [Act.put, List.setIfInBounds_toArray, List.set_cons_zero, List.set_cons_succ])))
  refine grow_done ?_
  go_wp2
  go_ret
  exact ⟨rfl, nxt Bi hb⟩
end Go.Proofs.Ytfdilhoeikkhoaa
