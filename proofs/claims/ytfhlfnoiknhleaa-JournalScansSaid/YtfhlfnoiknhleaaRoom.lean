/-
  Bytes: Same, Roomy, Intact.
-/
import Derived.Test.YtfhlfnoiknhleaaRows
import Derived.Test.YtfhlfnoiknhleaaCut
import Derived.Test.YtfhlfnoiknhleaaElem8
import Derived.Laws.OwnMore
import Derived.Laws.CopyOwn
namespace Go.Proofs.Ytfhlfnoiknhleaa
open Go.RowKit
set_option linter.unusedVariables false

theorem sameB_step {l m : List UInt8} {k : Nat} {x : UInt8} (hx : l[k]? = some x) (hy : m[k]? = some x) (h : l.take k = m.take k) : l.take (k + 1) = m.take (k + 1) := by
  rw [take_succ_of hx, take_succ_of hy, h]
set_option maxHeartbeats 400000 in
theorem sameB_any (A B : Option Addr) (na nb ca cb : Nat) (l m : List UInt8) (w : World) (hna : l.length = na) (hnb : m.length = nb) (hl : l.length ≤ 9223372036854775807) (hm : m.length ≤ 9223372036854775807) (hA : Cells w A (u8s l)) (hB : Cells w B (u8s m)) :
    Calls Try.prog 33 #[.slice A na ca, .slice B nb cb] w fun e w' => e = .returned (.bool (decide (l = m))) ∧ Below w.heap.size w w' := by
  refine Calls.mono (R := fun e w' => e = .returned (.bool (decide (l = m))) ∧ ∃ n, w' = w.drewN n) ?_ fun _ _ ⟨he, n, hw⟩ => ⟨he, hw ▸ below_drewN (Below.refl _ _) n⟩
  subst hna hnb
  by_cases hlm : l.length = m.length
  · have hlm' : (l.length : Int) = m.length := by omega
    go_enter Try.func33, Try.ntmps33
    go_wp2
    go_loopw [5] (fun i wr => ∃ k n : Nat, k ≤ l.length ∧ i = .int .i64 k ∧ Hid (l.take k = m.take k) ∧ wr = w.drewN n) (fun i _ => l.length - (intOf i).toNat)
    case atStart => exact ⟨0, 0, Nat.zero_le _, rfl, rfl, rfl⟩
    case round =>
      obtain ⟨k, n, hk, rfl, HT, rfl⟩ := hrel
      by_cases hlt : k < l.length
      · have hltm : k < m.length := by omega
        obtain ⟨b, o, x, rfl, hb, hc, hx⟩ := hA.byte_at hlt
        obtain ⟨b2, o2, y, rfl, hb2, hc2, hy⟩ := hB.byte_at hltm
        have i1 : (k : Int) < l.length := by omega
        have i2 : (k : Int) < m.length := by omega
        by_cases he : x = y
        · subst he
          have he' : ((x.toNat : Int) != x.toNat) = false := by simp
          go_wp2
          go_quiet (fail)
          go_wp2
          go_roundw
          case rel => exact ⟨k + 1, _, by omega, by go_num, sameB_step hx.out hy.out HT.out, by first | rfl | exact World.drewN_drewN _ _ _⟩
          case measure => simp [intOf]; omega
        · have he' : ((x.toNat : Int) != y.toNat) = true := by
            rw [bne_iff_ne]
            intro h
            exact he (UInt8.toNat_inj.1 (by omega))
          have HE := hide he; clear he
          go_wp2
          go_quiet (fail)
          go_wp2
          go_ret
          refine ⟨ret_bool ?_, _, by first | rfl | exact World.drewN_drewN _ _ _⟩
          symm; rw [decide_eq_false_iff_not]; intro h
          subst h
          exact HE.out (Option.some.inj (hx.out.symm.trans hy.out))
      · go_wp2
        go_ret
        refine ⟨ret_bool ?_, _, rfl⟩
        symm; rw [decide_eq_true_iff]
        have := HT.out
        rwa [List.take_of_length_le (by omega), List.take_of_length_le (by omega)] at this
  · have hlm' : ((l.length : Int) == m.length) = false := by simp; omega
    go_enter Try.func33, Try.ntmps33
    go_wp2
    go_ret
    exact ⟨ret_bool (by symm; rw [decide_eq_false_iff_not]; intro h; rw [h] at hlm; simp at hlm), 0, rfl⟩

/-- A list with room behind it. -/
def roomy (l : List UInt8) (m : UInt8) : List UInt8 := l ++ List.replicate 80 m
theorem length_roomy (l : List UInt8) (m : UInt8) : (roomy l m).length = l.length + 80 := by simp [roomy]
theorem take_roomy (l : List UInt8) (m : UInt8) : (roomy l m).take l.length = l := by simp [roomy]
theorem roomy_at (l : List UInt8) (m : UInt8) (k : Nat) (h1 : l.length ≤ k) (h2 : k < l.length + 80) : (roomy l m)[k]? = some m := by
  unfold roomy
  rw [List.getElem?_append_right h1, List.getElem?_replicate, if_pos (by omega)]
theorem room_step (xs : List Value) (i j : Nat) (m z : Value) : (xs ++ List.replicate i m ++ List.replicate (j + 1) z).set (xs.length + i) m = xs ++ List.replicate (i + 1) m ++ List.replicate j z := by
  rw [List.set_append_right _ _ (by simp)]
  have e1 : (xs ++ List.replicate i m).length = xs.length + i := by simp
  rw [e1, Nat.sub_self, List.replicate_succ, List.set_cons_zero, List.replicate_succ']
  simp
theorem own_row {w : World} {base g N : Nat} {e : TypeId} {xs : List Value} (h : w.ownsRow base e 1 (.slice (some ⟨g, 0, none⟩) N N) N xs) : w.heap[g]? = some (.cells xs.toArray e (0, 0)) ∧ xs.length = N ∧ N ≤ maxLen ∧ base ≤ g := by
  rcases h.2 with ⟨h', _⟩ | ⟨g', cap', cur, h', hb, hg, hnc, hcm, hcs, htake⟩
  · simp at h'
  · simp only [Value.slice.injEq, Option.some.injEq, Addr.mk.injEq, and_true, true_and] at h'
    obtain ⟨rfl, rfl⟩ := h'
    have hl := h.1
    have : cur.toList = xs := by rw [← htake, List.take_of_length_le (by simp; omega)]
    subst this
    exact ⟨by simpa using hg, by omega, hcm, hb⟩
theorem row_own {w : World} {base g N : Nat} {e : TypeId} {xs : List Value} (h : w.heap[g]? = some (.cells xs.toArray e (0, 0))) (hn : xs.length = N) (hm : N ≤ maxLen) (hb : base ≤ g) : w.ownsRow base e 1 (.slice (some ⟨g, 0, none⟩) N N) N xs :=
  ⟨by omega, .inr ⟨g, N, xs.toArray, rfl, hb, h, Nat.le_refl _, hm, by simp [hn], by simp [← hn]⟩⟩
theorem Cells.src {w : World} {A : Option Addr} {X : List Value} (h : Cells w A X) : 0 < X.length → ∃ ad, A = some ad ∧ ∀ (j : Nat) (v : Value), X[j]? = some v → w.cell? (ad.add j) = some v := fun hp => by
  obtain ⟨b, o, rfl, hb, hc⟩ := h (by rintro rfl; simp at hp)
  refine ⟨_, rfl, fun j v hj => ?_⟩
  have := hc j v hj
  by_cases h0 : j = 0
  · subst h0; simpa [Addr.add] using this
  · simpa [Addr.add, h0] using this
theorem splice_room (X : List Value) (n : Nat) (z : Value) (hX : X.length = n) : splice (List.replicate (n + 80) z) 0 X = X ++ List.replicate 0 z ++ List.replicate 80 z := by
  unfold splice
  rw [hX, List.take_zero, List.nil_append, List.drop_replicate]
  simp
set_option maxHeartbeats 1600000 in
theorem roomy_any (A : Option Addr) (n c : Nat) (l : List UInt8) (m : UInt8) (w : World) (hn : l.length = n) (hl : n ≤ 1000000) (hA : Cells w A (u8s l)) :
    Calls Try.prog 19 #[.slice A n c, .int .u8 (m.toNat : Int)] w (FreshB w (roomy l m)) := by
  have hmk : IntKind.i64.wrap ((n : Int) + 80) = ((n + 80 : Nat) : Int) := by rw [IntWalk.i64_in _ (by omega)]; omega
  have hlen : (u8s l).length = n := by rw [length_u8s]; exact hn
  obtain ⟨X, hX⟩ : ∃ X, X = u8s l := ⟨_, rfl⟩
  rw [← hX] at hlen hA
  have hone : ∀ v ∈ X, v.oneCell' = true := by rw [hX]; exact u8s_one l
  have HX := hide hX; clear hX
  have HLEN := hide hlen; clear hlen
  have HN := hide hn; clear hn
  go_enter Try.func19, Try.ntmps19
  go_wp2_with (first
    | (at_make
       refine wpList_mk elU8 (n := n + 80) rfl _ _ rfl rfl rfl rfl (by omega) ?_
       intro w1 own1 g1 b1
       have B1 := b1 _ _ (Nat.le_refl _) (Below.refl _ _)
       have HR1 := hide (own_row own1).1
       have HPOS := hide (Cells.src (hA.below B1))
       clear hmk b1 g1 hA own1)
    | (refine wpList_copy_splice (o := ⟨some 13, _, _, _, _, _⟩) rfl (.tmp 11) (.tmp 12) 30 30 rfl _ Try.underlying30 Try.sizeU8 _ _ _ _ _ _ rfl rfl w.heap.size 0 _ _ HR1.out X (by have := HLEN.out; show X.length = min n (n + 80); omega) (fun hp => ⟨rfl, HPOS.out hp⟩) (by rw [HLEN.out]; simp) hone w.heap.size w B1 (Nat.le_refl _) ?_
       intro w2 row2 B2))
  have own2 : w2.ownsRow w.heap.size 5 1 (.slice (some ⟨w.heap.size, 0, none⟩) (n + 80) (n + 80)) (n + 80) (X ++ List.replicate 0 (.int .u8 m.toNat) ++ List.replicate 80 (.int .u8 0)) := by
    refine row_own ?_ (by simp [HLEN.out]) (by unfold maxLen; omega) (Nat.le_refl _)
    have := row2.out
    rw [splice_room X n _ HLEN.out] at this
    simpa using this
  clear HR1 HPOS row2 B1 hone
  go_wp2_with fail
  go_loopw [6] (fun i wr => ∃ k : Nat, k ≤ 80 ∧ i = .int .i64 ((n + k : Nat) : Int) ∧ Hid (wr.ownsRow w.heap.size 5 1 (.slice (some ⟨w.heap.size, 0, none⟩) (n + 80) (n + 80)) (n + 80) (X ++ List.replicate k (.int .u8 m.toNat) ++ List.replicate (80 - k) (.int .u8 0))) ∧ Below w.heap.size w wr) (fun i _ => n + 80 - (intOf i).toNat)
  case atStart => exact ⟨0, Nat.zero_le _, by go_num, own2, B2⟩
  case round =>
    obtain ⟨k, hk, rfl, OWN, B⟩ := hrel
    clear own2 B2
    by_cases hlt : k < 80
    · have i1 : ((n + k : Nat) : Int) < n + 80 := by omega
      have hf := OWN.out.frozenAt (n + k)
      obtain ⟨b, o, u, hA', -, hc, -⟩ := (Cells.of_own OWN.out).val_at (k := n + k) (by have := HLEN.out; simp; omega)
      injection hA' with hA'
      injection hA' with hb ho
      subst hb; subst ho
      rw [Nat.zero_add] at hc
      go_wp2
      go_roundw
      case rel =>
        have st := OWN.out.stored (n + k) (.int .u8 m.toNat)
        refine ⟨k + 1, by omega, by go_num, ?_, B.trans ⟨st.2.os, st.2.tape, st.2.output, st.2.size, fun k' hk' => st.2.block k' (by have := B.size; omega) (by intro h; injection h with h; omega)⟩⟩
        have h1 := st.1
        have e1 : 80 - k = (80 - (k + 1)) + 1 := by omega
        rw [e1, show n + k = X.length + k by rw [HLEN.out], room_step] at h1
        rw [HLEN.out] at h1
        exact h1
      case measure => simp [intOf]; omega
    · obtain rfl : k = 80 := by omega
      go_wp2
      go_ret
      have hX := HX.out
      have h1 := OWN.out
      rw [Nat.sub_self, List.replicate_zero, List.append_nil, hX] at h1
      refine Fresh.mk (by rw [length_roomy, HN.out]) ?_ B
      simpa [roomy, u8s] using h1

set_option maxHeartbeats 1600000 in
theorem intact_true (F A : Option Addr) (nf cf n c : Nat) (l : List UInt8) (m : UInt8) (w : World) (hnf : nf = n + 80) (hcf : nf ≤ cf) (hcm : cf ≤ 9223372036854775807) (hn : l.length = n) (hl : n ≤ 1000000) (hF : Cells w F (u8s (roomy l m))) (hA : Cells w A (u8s l)) :
    Calls Try.prog 22 #[.slice F nf cf, .slice A n c, .int .u8 (m.toNat : Int)] w fun e w' => e = .returned (.bool true) ∧ Below w.heap.size w w' := by
  subst hnf
  have hw1 : IntKind.i64.wrap ((n : Int) + 80) = (n : Int) + 80 := IntWalk.i64_in _ (by omega)
  have hcut : Cells w F (u8s l) := by have := hF.takeB l.length; rwa [take_roomy] at this
  have i0 : (n : Int) ≤ cf := by omega
  have HN := hide hn; clear hn
  go_enter Try.func22, Try.ntmps22
  go_wp2_with fail
  refine (sameB_any F A n n cf c l l _ HN.out HN.out (by rw [HN.out]; omega) (by rw [HN.out]; omega) hcut hA).mono ?_
  rintro e w1 ⟨rfl, hb⟩
  have hF1 := hF.below hb
  simp only [decide_true]
  go_wp2_with fail
  go_loopw [7] (fun i wr => ∃ k : Nat, k ≤ 80 ∧ i = .int .i64 ((n + k : Nat) : Int) ∧ wr = w1) (fun i _ => n + 80 - (intOf i).toNat)
  case atStart => exact ⟨0, Nat.zero_le _, by go_num, rfl⟩
  case round =>
    obtain ⟨k, hk, rfl, rfl⟩ := hrel
    by_cases hlt : k < 80
    · have i1 : ((n + k : Nat) : Int) < n + 80 := by omega
      obtain ⟨b, o, x, rfl, hb', hc, hx⟩ := hF1.byte_at (k := n + k) (by rw [length_roomy, HN.out]; omega)
      obtain rfl : x = m := by
        have h1 := hx.out
        rw [roomy_at l m (n + k) (by rw [HN.out]; omega) (by rw [HN.out]; omega)] at h1
        exact (Option.some.inj h1).symm
      go_wp2
      go_roundw
      case rel => exact ⟨k + 1, by omega, by go_num, by first | rfl | trivial⟩
      case measure => simp [intOf]; omega
    · obtain rfl : k = 80 := by omega
      go_wp2
      go_ret
      exact ⟨rfl, hb⟩
end Go.Proofs.Ytfhlfnoiknhleaa
