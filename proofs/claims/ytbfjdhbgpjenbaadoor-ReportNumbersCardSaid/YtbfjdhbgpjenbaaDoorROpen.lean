/-
  What the reference opens.
-/
import Derived.Test.YtbfjdhbgpjenbaaDoorRef4
namespace Go.Proofs.YtbfjdhbgpjenbaaDoor
set_option linter.unusedSimpArgs false
open Go.RowKit
set_option linter.unusedVariables false

theorem or32_step (acc : Nat) (x : UInt8) (i : Nat) (m : Int) (hm : m = ((2 ^ i : Nat) : Int)) (hi : i ≤ 24) (h : acc < 2 ^ i) :
    bits .or .u32 (acc : Int) (IntKind.u32.wrap (IntKind.u32.wrap (x.toNat : Int) * m)) = ((acc + x.toNat * 2 ^ i : Nat) : Int) := by
  have hx := x.toNat_lt
  have e1 : IntKind.u32.wrap (x.toNat : Int) = ((x.toNat : Nat) : Int) := by rw [IntKind.wrap_u32']; omega
  have h7 : (2 : Nat) ^ i ≤ 2 ^ 24 := Nat.pow_le_pow_right (by omega) hi
  have hp : x.toNat * 2 ^ i ≤ 255 * 2 ^ i := Nat.mul_le_mul_right _ (by omega)
  rw [e1, hm, ← Int.natCast_mul]
  have e4 : IntKind.u32.wrap ((x.toNat * 2 ^ i : Nat) : Int) = ((x.toNat * 2 ^ i : Nat) : Int) := by
    rw [IntKind.wrap_u32']; omega
  rw [e4, u32_or_nat _ _ (by omega) (by omega)]
  have e5 : acc ||| x.toNat * 2 ^ i = acc + x.toNat * 2 ^ i := by
    rw [Nat.or_comm, nat_join i _ _ (Nat.mul_mod_left _ _) h, Nat.add_comm]
  rw [e5]
theorem or4 (a b c d : UInt8) : bits .or .u32 (bits .or .u32 (bits .or .u32 (IntKind.u32.wrap (a.toNat : Int)) (IntKind.u32.wrap (IntKind.u32.wrap (b.toNat : Int) * 256))) (IntKind.u32.wrap (IntKind.u32.wrap (c.toNat : Int) * 65536))) (IntKind.u32.wrap (IntKind.u32.wrap (d.toNat : Int) * 16777216)) = ((ofLe [a, b, c, d] : Nat) : Int) := by
  have ha := a.toNat_lt
  have hb := b.toNat_lt
  have hc := c.toNat_lt
  have e1 : IntKind.u32.wrap (a.toNat : Int) = ((a.toNat : Nat) : Int) := by rw [IntKind.wrap_u32']; omega
  rw [e1, or32_step a.toNat b 8 256 rfl (by omega) (by omega), or32_step _ c 16 65536 rfl (by omega) (by omega), or32_step _ d 24 16777216 rfl (by omega) (by omega)]
  simp only [ofLe]
  congr 1
  omega
set_option maxHeartbeats 1600000 in
theorem refOpen_any (A : Option Addr) (n c : Nat) (l : List UInt8) (at_ : Int) (w : World) (hn : l.length = n) (hl : n ≤ 1000000000000) (hc : n ≤ c) (hcm : c ≤ 9223372036854775807) (hA : Cells w A (u8s l)) :
    Calls Tryd.prog 49 #[.slice A n c, .int .i64 at_] w (OpenedAt w (openL l at_)) := by
  subst hn
  by_cases h0 : at_ < 0
  · have e1 : openL l at_ = ⟨[], 0, 1⟩ := by unfold openL; rw [if_pos (.inl h0)]
    have E1 := hide e1
    clear e1
    go_enter Tryd.func49, Tryd.ntmps49
    go_wp2_with fail
    go_ret3
    exact OpenedAt.fail E1.out (Below.refl _ _)
  · by_cases h1 : (l.length : Int) < at_
    · have e1 : openL l at_ = ⟨[], 0, 1⟩ := by unfold openL; rw [if_pos (.inr h1)]
      have E1 := hide e1
      clear e1
      go_enter Tryd.func49, Tryd.ntmps49
      go_wp2_with fail
      go_ret3
      exact OpenedAt.fail E1.out (Below.refl _ _)
    · obtain ⟨k, rfl⟩ : ∃ k : Nat, at_ = k := ⟨at_.toNat, by omega⟩
      have hk : k ≤ l.length := by omega
      have e1 : openL l k = openF (l.drop k) k := by
        unfold openL
        rw [if_neg (by omega)]
        rfl
      rw [e1]
      clear e1 h0 h1
      by_cases h2 : l.length - k < 2
      · have e2 : openF (l.drop k) k = ⟨[], 0, 10⟩ := by
          rcases hl' : l.drop k with _ | ⟨x, _ | ⟨y, t⟩⟩
          · rfl
          · rfl
          · have := congrArg List.length hl'
            simp at this
            omega
        have E2 := hide e2
        clear e2
        have i1 : ((l.length - k : Nat) : Int) < 2 := by omega
        have i3 : (k : Int) ≤ l.length := by omega
        by_cases hck : c = k
        · subst hck
          go_enter Tryd.func49, Tryd.ntmps49
          go_wp2_with fail
          go_ret3
          exact OpenedAt.fail E2.out (Below.refl _ _)
        · go_enter Tryd.func49, Tryd.ntmps49
          go_wp2_with fail
          go_ret3
          exact OpenedAt.fail E2.out (Below.refl _ _)
      · obtain ⟨x, y, t, hl'⟩ : ∃ x y t, l.drop k = x :: y :: t := by
          rcases hl' : l.drop k with _ | ⟨x, _ | ⟨y, t⟩⟩
          · have := congrArg List.length hl'
            simp at this
            omega
          · have := congrArg List.length hl'
            simp at this
            omega
          · exact ⟨x, y, t, rfl⟩
        have ht : l.length = k + 2 + t.length := by
          have := congrArg List.length hl'
          simp at this
          omega
        obtain ⟨b, o, rfl, hb, hcell⟩ := hA (by intro h0; simp [u8s] at h0; subst h0; simp at ht; omega)
        have hlk : ∀ j v, (x :: y :: t)[j]? = some v → l[k + j]? = some v := fun j v hj => by rw [← hl', List.getElem?_drop] at hj; exact hj
        have q0 : w.cell? ⟨b, o + k, none⟩ = some (.int .u8 (x.toNat : Int)) := hcell k _ (by have := hlk 0 x rfl; simp at this; simp [u8s, this])
        have q1 : w.cell? ⟨b, o + (k + 1), none⟩ = some (.int .u8 (y.toNat : Int)) := hcell (k + 1) (.int .u8 (y.toNat : Int)) (by have := hlk 1 y rfl; simp [u8s, this])
        have hT : Cells w (some ⟨b, o + k + 2, none⟩) (u8s t) := fun _ => ⟨b, _, rfl, hb, fun j v hj => by
          have := hcell (k + 2 + j) v (by
            simp only [u8s, List.getElem?_map] at hj ⊢
            rw [Nat.add_assoc]
            rcases hj' : t[j]? with _ | z
            · rw [hj'] at hj; simp at hj
            · rw [hj'] at hj
              have := hlk (2 + j) z (by rw [Nat.add_comm]; simpa using hj')
              rw [this]
              exact hj)
          rwa [← Nat.add_assoc, ← Nat.add_assoc] at this⟩
        rw [hl']
        obtain ⟨L, eL⟩ : ∃ L, L = l.length := ⟨_, rfl⟩
        rw [← eL] at ht hl hc hk ⊢
        clear hcell hlk hA hl' h2 eL
        have hx := x.toNat_lt
        have hy := y.toNat_lt
        obtain ⟨m, em⟩ : ∃ m, m = 255 - x.toNat := ⟨_, rfl⟩
        have i1 : (k : Int) ≤ L := by omega
        have i11 : (k : Int) + 1 < L := by omega
        have i12 : ((k : Int) + 1).toNat = k + 1 := by omega
        have i2 : ¬ c = k := by omega
        have i4 : ¬ ((L - k : Nat) : Int) < 2 := by omega
        by_cases hm : y.toNat = m
        · have d1 : ((y.toNat : Int) != 255 - (x.toNat : Int)) = false := by simp; omega
          obtain ⟨N, eN⟩ : ∃ N, N = x.toNat := ⟨_, rfl⟩
          have hop : openF (x :: y :: t) k = if t.length < N + 4 then ⟨[], 0, 10⟩ else if ofLe ((t.drop N).take 4) ≠ crcN (t.take N) then ⟨[], 0, 14⟩ else ⟨t.take N, k + N + 6, 0⟩ := by
            simp only [openF]
            rw [if_neg (by omega), ← eN]
          rw [hop]
          rw [← eN] at q0 d1 hx
          have HT := hide ht
          clear hop ht eN em hm
          by_cases hs : t.length < N + 4
          · rw [if_pos hs]
            have i5 : L - k < N + 6 := by have := HT.out; omega
            clear hs
            go_enter Tryd.func49, Tryd.ntmps49
            go_wp2_with fail
            go_ret3
            exact OpenedAt.fail rfl (Below.refl _ _)
          · rw [if_neg hs]
            have i5 : N + 6 ≤ L - k := by have := HT.out; omega
            have hTl : N + 4 ≤ t.length := by omega
            have hT1 : Cells w (some ⟨b, o + k + 2, none⟩) (u8s (t.take N)) := hT.takeB N
            have hT2 : Cells w (some ⟨b, o + (k + 2 + N), none⟩) (u8s ((t.drop N).take 4)) := by
              have h1 := hT.dropB N (t.length + 1) (by omega)
              rw [if_neg (by omega)] at h1
              simp only [Option.map_some, Addr.add_lit] at h1
              have h2 := h1.takeB 4
              rwa [Nat.add_assoc, Nat.add_assoc, ← Nat.add_assoc k] at h2
            have ul : ((t.drop N).take 4).length = 4 := by simp; omega
            have vl : (t.take N).length = N := by simp; omega
            obtain ⟨u, eu⟩ : ∃ u, u = (t.drop N).take 4 := ⟨_, rfl⟩
            obtain ⟨v, ev⟩ : ∃ v, v = t.take N := ⟨_, rfl⟩
            rw [← eu, ← ev]
            rw [← eu] at hT2 ul
            rw [← ev] at hT1 vl
            clear eu ev hT hs hTl HT
            obtain ⟨O, eO⟩ : ∃ O : Opened, O = if ofLe u ≠ crcN v then ⟨[], 0, 14⟩ else ⟨v, k + N + 6, 0⟩ := ⟨_, rfl⟩
            rw [← eO]
            have EO := hide eO
            have UL := hide ul
            have VL := hide vl
            clear eO ul vl
            obtain ⟨u0, u1, u2, u3, rfl⟩ : ∃ u0 u1 u2 u3, u = [u0, u1, u2, u3] := by
              have := UL.out
              rcases u with _ | ⟨u0, _ | ⟨u1, _ | ⟨u2, _ | ⟨u3, _ | ⟨u4, u⟩⟩⟩⟩⟩ <;> simp at this
              exact ⟨u0, u1, u2, u3, rfl⟩
            have e0 : w.cell? ⟨b, o + (k + 2 + N), none⟩ = some (.int .u8 (u0.toNat : Int)) := by obtain ⟨b', o', hA', _, hc'⟩ := hT2 (by simp [u8s]); injection hA' with hA'; injection hA' with h1 h2; subst h1; subst h2; exact hc' 0 _ rfl
            have e1 : w.cell? ⟨b, o + (k + 2 + N) + 1, none⟩ = some (.int .u8 (u1.toNat : Int)) := by obtain ⟨b', o', hA', _, hc'⟩ := hT2 (by simp [u8s]); injection hA' with hA'; injection hA' with h1 h2; subst h1; subst h2; exact hc' 1 _ rfl
            have e2 : w.cell? ⟨b, o + (k + 2 + N) + 2, none⟩ = some (.int .u8 (u2.toNat : Int)) := by obtain ⟨b', o', hA', _, hc'⟩ := hT2 (by simp [u8s]); injection hA' with hA'; injection hA' with h1 h2; subst h1; subst h2; exact hc' 2 _ rfl
            have e3 : w.cell? ⟨b, o + (k + 2 + N) + 3, none⟩ = some (.int .u8 (u3.toNat : Int)) := by obtain ⟨b', o', hA', _, hc'⟩ := hT2 (by simp [u8s]); injection hA' with hA'; injection hA' with h1 h2; subst h1; subst h2; exact hc' 3 _ rfl
            have i5' : (k : Int) + 2 + N ≤ L := by omega
            have i6 : ((k : Int) + 2 + N).toNat = k + 2 + N := by omega
            have i7 : ((k : Int) + 2).toNat = k + 2 := by omega
            have i8 : ¬ c = k + 2 := by omega
            have i9 : ¬ c = k + 2 + N := by omega
            have i10 : (k : Int) + 2 + N ≤ c := by omega
            clear hT2 UL
            go_enter Tryd.func49, Tryd.ntmps49
            go_wp2_with (at_builtin; refine wpList_app elU8 (World.ownsRow_lit (base := w.heap.size) w #[] 0 (Nat.le_refl _) (Nat.zero_le _) rfl) (news := u8s v) rfl _ _ rfl rfl rfl (by rw [length_u8s]; exact VL.out) (hT1.alloc _) (u8s_one v) (by omega) (by simp) N (u8s v) (by omega) (by simp) ?_; intro A4 c4 w4 p4)
            have B4 := p4.below _ _ (Nat.le_refl _) (nxt_alloc (Below.refl _ _) _)
            have hT4 := Cells.of_own p4.own
            have i13 : k + 2 + N < L := by omega
            have i17 : 0 < L - (k + 2 + N) := by omega
            have i14 : (1 : Int) < ((L - (k + 2 + N) : Nat) : Int) := by omega
            have i15 : (2 : Int) < ((L - (k + 2 + N) : Nat) : Int) := by omega
            have i16 : (3 : Int) < ((L - (k + 2 + N) : Nat) : Int) := by omega
            clear hT1 q0 q1 d1
            have g0 : ∀ u, Stays w4.drew u → u.cell? ⟨b, o + (k + 2 + N), none⟩ = some (.int .u8 (u0.toNat : Int)) := fun u hu => ((B4.drew.trans (hu.mono B4.size)).cell (p := ⟨b, _, none⟩) hb).trans e0
            have g1 : ∀ u, Stays w4.drew u → u.cell? ⟨b, o + (k + 2 + N) + 1, none⟩ = some (.int .u8 (u1.toNat : Int)) := fun u hu => ((B4.drew.trans (hu.mono B4.size)).cell (p := ⟨b, _, none⟩) hb).trans e1
            have g2 : ∀ u, Stays w4.drew u → u.cell? ⟨b, o + (k + 2 + N) + 2, none⟩ = some (.int .u8 (u2.toNat : Int)) := fun u hu => ((B4.drew.trans (hu.mono B4.size)).cell (p := ⟨b, _, none⟩) hb).trans e2
            have g3 : ∀ u, Stays w4.drew u → u.cell? ⟨b, o + (k + 2 + N) + 3, none⟩ = some (.int .u8 (u3.toNat : Int)) := fun u hu => ((B4.drew.trans (hu.mono B4.size)).cell (p := ⟨b, _, none⟩) hb).trans e3
            clear e0 e1 e2 e3
            go_wp2_with fail
            refine wp_region_grow (R := Stays) 99999 [1] [0, 2, 3, 4, 5, 6, 7, 8, 9, 10, 11, 12, 13, 14, 15, 16, 17, 18, 19, 20, 21, 22, 23, 1, 24] (by kernel_rfl) Stays.tr Stays.rf (by kernel_rfl) (fun _ _ _ _ _ h => h) ?_
            (repeat ((first | (refine grow_skip (by rfl) (by rfl) ?_ (by first | exact Stays.rf _ | exact Lower.rf _ _ | exact Holds.rf _ _)) | (refine grow_take (v := ?_) (by rfl) (by rfl) (by rfl) ?_ ?_; rotate_left 1; focus (intro w' hSw; go_simp; (try (with_reducible rfl)); done))); (try simp only [Act.put, List.setIfInBounds_toArray, List.set_cons_zero, List.set_cons_succ])))
            rw [or4 u0 u1 u2 u3]
            clear g0 g1 g2 g3
            have hult := ofLe_lt [u0, u1, u2, u3]
            have hvm := crcN_lt v
            obtain ⟨U, eU⟩ : ∃ U, U = ofLe [u0, u1, u2, u3] := ⟨_, rfl⟩
            obtain ⟨V, eV⟩ : ∃ V, V = crcN v := ⟨_, rfl⟩
            rw [← eU] at hult ⊢
            rw [← eV] at hvm
            have EU := hide eU
            have EV := hide eV
            clear eU
            refine grow_move (by rfl) (by rfl) (by rfl) (fun K hK => ?_); go_simp
            refine (rcrc_any A4 N c4 v _ VL.out (by omega) hT4.drew).mono ?_
            rw [← eV]
            clear eV
            rintro e w5 ⟨rfl, rfl⟩
            refine hK.out _ _ (Stays.rf _) ?_; clear hK K; (try simp only [Act.put, List.setIfInBounds_toArray, List.set_cons_zero, List.set_cons_succ])
            (repeat ((first | (refine grow_skip (by rfl) (by rfl) ?_ (by first | exact Stays.rf _ | exact Lower.rf _ _ | exact Holds.rf _ _)) | (refine grow_take (v := ?_) (by rfl) (by rfl) (by rfl) ?_ ?_; rotate_left 1; focus (intro w' hSw; go_simp; (try (with_reducible rfl)); done))); (try simp only [Act.put, List.setIfInBounds_toArray, List.set_cons_zero, List.set_cons_succ])))
            refine grow_done ?_
            by_cases hUV : V = U
            · have hO : O = ⟨v, k + N + 6, 0⟩ := by
                rw [EO.out, if_neg (by rw [← EU.out, ← EV.out]; simp [hUV])]
              have HO := hide hO
              subst hUV
              clear hO
              go_wp2_with fail
              go_ret3
              have hsum : (k : Int) + 6 + (N : Int) = ((k + N + 6 : Nat) : Int) := by omega
              rw [HO.out]
              refine ⟨A4, c4, ?_, ?_, hT4, ?_, ?_, B4.drew⟩
              · show Ending.returned (.tuple #[.slice A4 N c4, .int .i64 ((k : Int) + 6 + (N : Int)), .int .i64 0]) = _
                rw [hsum, VL.out]; rfl
              · rw [VL.out]; exact p4.own
              · rw [VL.out]; exact own_shape_le p4.own
              · obtain ⟨A', c', hv', _, hm'⟩ := own_shape p4.own
                injection hv' with _ _ hcc
                omega
            · have hO : O = ⟨[], 0, 14⟩ := by
                rw [EO.out, if_pos (by rw [← EU.out, ← EV.out]; exact fun h => hUV h.symm)]
              have HO := hide hO
              clear hO
              have dS : ((V : Int) != (U : Int)) = true := by simp; omega
              go_wp2_with fail
              go_ret3
              exact OpenedAt.fail HO.out B4.drew
        · have e2 : openF (x :: y :: t) k = ⟨[], 0, 14⟩ := by
            simp only [openF]
            rw [if_pos (by omega)]
          have E2 := hide e2
          have d1 : ((y.toNat : Int) != 255 - (x.toNat : Int)) = true := by simp; omega
          have HT := hide ht
          clear e2 em ht
          go_enter Tryd.func49, Tryd.ntmps49
          go_wp2_with fail
          go_ret3
          exact OpenedAt.fail E2.out (Below.refl _ _)
end Go.Proofs.YtbfjdhbgpjenbaaDoor
