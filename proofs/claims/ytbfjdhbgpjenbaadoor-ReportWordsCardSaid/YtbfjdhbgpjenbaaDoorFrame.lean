/-
  What wire.Frame and wire.Open compute.
-/
import Derived.Test.YtbfjdhbgpjenbaaDoorReader
import Derived.Laws.DeepNot64
namespace Go.Proofs.YtbfjdhbgpjenbaaDoor
set_option linter.unusedSimpArgs false
open Go.RowKit
set_option linter.unusedVariables false

/-- New bytes and a refusal are answered. -/
def FreshB2 (w : World) (l : List UInt8) (z : Int) (e : Ending) (w' : World) : Prop :=
  ∃ A c, e = .returned (.tuple #[.slice A l.length c, .int .i64 z]) ∧ w'.ownsRow w.heap.size 5 1 (.slice A l.length c) l.length (u8s l) ∧ Cells w' A (u8s l) ∧ l.length ≤ c ∧ c ≤ maxLen ∧ Below w.heap.size w w'
theorem u64_len (n : Nat) (h : n ≤ 255) : le 1 (u64N n) = [lo8 n] := by
  rw [show u64N (n : Int) = n by unfold u64N; omega]; rfl
theorem u64_not (n : Nat) (h : n ≤ 255) : le 1 (u64N (-1 - (n : Int))) = [lo8 (255 - n)] := by
  show [lo8 _] = _
  congr 1
  apply UInt8.toNat_inj.1
  rw [lo8_toNat, lo8_toNat]
  unfold u64N
  omega
theorem frame_long (A : Option Addr) (n c : Nat) (w : World) (hn : 255 < n) (hl : n ≤ 9223372036854775807) :
    Calls Tryd.prog 22 #[.slice A n c] w fun e w' => e = .returned (.tuple #[.slice none 0 0, .int .i64 3]) ∧ w = w' := by
  have i1 : (255 : Int) < n := by omega
  go_enter Tryd.func22, Tryd.ntmps22
  go_wp2_with fail
  go_ret2
  exact ⟨rfl, rfl⟩
/-- What lay before the writer stays. -/
theorem writer_below {w w1 w2 : World} {d : Nat} {r : Option Nat} {l l2 : List UInt8} (hd : w.heap.size ≤ d) (hb : Below w.heap.size w w1) (W : WriterAt w1 d r l) (h : Leaves d r w1 w2) : Below w.heap.size w w2 :=
  hb.trans (h.below hd (fun g hg => by have := (W.row_lt.2 g hg).1; omega) hb.size)
set_option maxHeartbeats 1600000 in
theorem frame_ok (A : Option Addr) (n c : Nat) (l : List UInt8) (w : World) (hn : l.length = n) (hl : n ≤ 255) (hA : Cells w A (u8s l)) :
    Calls Tryd.prog 22 #[.slice A n c] w (FreshB2 w (frameL l) 0) := by
  subst hn
  have U1 := hide (u64_len l.length hl)
  have U2 := hide (u64_not l.length hl)
  have HL := hide (length_frameL l)
  have CR := crcN_lt l
  have hnot := i64_not l.length (by omega)
  go_enter Tryd.func22, Tryd.ntmps22
  go_wp2_with fail
  refine (newWriter_any _).mono ?_
  rintro e w1 ⟨d, rfl, hd, W1, B1⟩
  go_wp2_with fail
  refine (byte_any d _ _ _ _ W1 (by simp)).mono ?_
  rintro e w2 ⟨rfl, ⟨r2, W2, hr2⟩, L2⟩
  have B2 := writer_below (l2 := []) hd B1 W1 L2
  rw [U1.out] at W2
  clear W1 L2 hr2 B1
  go_wp2_with fail
  refine (byte_any d _ _ _ _ W2 (by simp)).mono ?_
  rintro e w3 ⟨rfl, ⟨r3, W3, hr3⟩, L3⟩
  have B3 := writer_below (l2 := []) hd B2 W2 L3
  rw [U2.out] at W3
  clear W2 L3 hr3 B2 hnot
  obtain ⟨p, ep⟩ : ∃ p, p = ([] ++ [lo8 l.length]) ++ [lo8 (255 - l.length)] := ⟨_, rfl⟩
  have hp : p.length = 2 := by rw [ep]; rfl
  rw [← ep] at W3
  have EP := hide ep
  have HP := hide hp
  clear ep hp
  obtain ⟨A1, c1, k0, f0, own, hrow, hlc, hdw⟩ := W3.reads
  have HROW := hide hrow
  have hA3 := hA.below B3
  clear hrow
  go_wp2_with (at_builtin; refine wpList_app elU8 own (news := u8s l) rfl _ _ rfl rfl rfl (length_u8s l) hA3 (u8s_one l) (by have := HP.out; omega) (by omega) (p.length + l.length) (u8s (p ++ l)) rfl (by simp [u8s]) ?_; intro A4 c4 w4 p4; have kd : w4.heap[d]? = w3.heap[d]? := p4.grown.block d hdw (own_apart own (by omega)); have q0 := (World.cell?_of_block (a := ⟨d, 0, none⟩) kd).trans k0; have qf := (World.frozen?_of_block (a := ⟨d, 0, none⟩) kd).trans f0; clear kd)
  obtain ⟨r5, W5, hr5, L5⟩ := W3.grow (l' := p ++ l) (N := p.length + l.length) k0 (by simp) p4.own (by rw [← HROW.out]; exact p4.grown) (by
    rcases p4.lies with h1 | h1
    · exact .inl (h1.trans HROW.out)
    · exact .inr fun g hg => by rw [h1] at hg; simp at hg; omega)
  have B5 := writer_below (l2 := []) hd B3 W3 L5
  have hA5 := hA.below B5
  clear p4 q0 qf own k0 f0 W3 L5 hr5 B3 hA3 HROW hA
  generalize w4.setCell ⟨d, 0, none⟩ (.slice A4 (p.length + l.length) c4) = wx at *
  go_wp2_with fail
  refine (crc_any A _ c l _ rfl (by omega) hA5).mono ?_
  rintro e w6 ⟨rfl, rfl⟩
  go_wp2_with fail
  refine (sum_any d _ _ (crcN l) _ W5 (by have := HP.out; simp; omega) CR).mono ?_
  rintro e w6 ⟨rfl, ⟨r6, W6, hr6⟩, L6⟩
  have B6 := writer_below (l2 := []) hd B5 W5 L6
  have hfin : (p ++ l) ++ le 4 (crcN l) = frameL l := by rw [EP.out]; rfl
  rw [hfin] at W6
  clear W5 L6 hr6 B5 hA5 hfin CR
  go_wp2_with fail
  refine (done_any d _ _ _ W6 (by rw [HL.out]; omega)).mono ?_
  rintro e w7 ⟨A7, c7, rfl, own7, hA7, h1, h2, hb⟩
  obtain ⟨m, em⟩ : ∃ m, m = (frameL l).length := ⟨_, rfl⟩
  have EM := hide em
  rw [← em] at own7 h1 ⊢
  clear em
  go_wp2_with fail
  go_ret2
  exact ⟨A7, c7, by rw [← EM.out]; rfl, by rw [← EM.out]; exact own_base own7 B6.size, hA7, by rw [← EM.out]; exact h1, h2, nxt B6 hb⟩

/-! ### Opening -/
/-- What Open answers. -/
def OpenedAt (w : World) (o : Opened) (e : Ending) (w' : World) : Prop :=
  ∃ A c, e = .returned (.tuple #[.slice A o.b.length c, .int .i64 (o.stop : Nat), .int .i64 (o.why : Nat)]) ∧ w'.ownsRow w.heap.size 5 1 (.slice A o.b.length c) o.b.length (u8s o.b) ∧ Cells w' A (u8s o.b) ∧ o.b.length ≤ c ∧ c ≤ maxLen ∧ Below w.heap.size w w'
theorem OpenedAt.fail {w w' : World} {o : Opened} {k : Nat} (ho : o = ⟨[], 0, k⟩) (hb : Below w.heap.size w w') : OpenedAt w o (.returned (.tuple #[.slice none 0 0, .int .i64 0, .int .i64 (k : Int)])) w' := by
  subst ho
  exact ⟨none, 0, rfl, World.ownsRow_nil _ _ _ _, Cells.nil _ _, Nat.le_refl _, Nat.zero_le _, hb⟩
theorem u8_not (n : UInt8) : bits .xor .u8 IntKind.u8.max (n.toNat : Int) = ((255 - n.toNat : Nat) : Int) := by
  have h := n.toNat_lt
  show IntKind.u8.wrap ((BitVec.ofInt 8 255 ^^^ BitVec.ofInt 8 (n.toNat : Int)).toNat : Int) = _
  have h1 : BitVec.ofInt 8 255 = BitVec.allOnes 8 := by decide
  rw [h1, BitVec.allOnes_xor, BitVec.toNat_not, ofInt_u8 _ (by omega), IntKind.wrap_u8']
  omega
set_option maxHeartbeats 1600000 in
theorem open_any (A : Option Addr) (n c : Nat) (l : List UInt8) (at_ : Int) (w : World) (hn : l.length = n) (hl : n ≤ 1000000000000) (hc : n ≤ c) (hcm : c ≤ 9223372036854775807) (hA : Cells w A (u8s l)) :
    Calls Tryd.prog 21 #[.slice A n c, .int .i64 at_] w (OpenedAt w (openL l at_)) := by
  subst hn
  by_cases h0 : at_ < 0
  · have e1 : openL l at_ = ⟨[], 0, 1⟩ := by unfold openL; rw [if_pos (.inl h0)]
    have E1 := hide e1
    clear e1
    go_enter Tryd.func21, Tryd.ntmps21
    go_wp2_with fail
    go_ret3
    exact OpenedAt.fail E1.out (Below.refl _ _)
  · by_cases h1 : (l.length : Int) < at_
    · have e1 : openL l at_ = ⟨[], 0, 1⟩ := by unfold openL; rw [if_pos (.inr h1)]
      have E1 := hide e1
      clear e1
      go_enter Tryd.func21, Tryd.ntmps21
      go_wp2_with fail
      go_ret3
      exact OpenedAt.fail E1.out (Below.refl _ _)
    · obtain ⟨k, rfl⟩ : ∃ k : Nat, at_ = k := ⟨at_.toNat, by omega⟩
      have hk : k ≤ l.length := by omega
      have e1 : openL l k = openF (l.drop k) k := by
        unfold openL
        rw [if_neg (by omega)]
        rfl
      rw [e1]
      clear e1 h0 h1
      by_cases h2 : l.length - k < 2
      · have e2 : openF (l.drop k) k = ⟨[], 0, 10⟩ := by
          rcases hl' : l.drop k with _ | ⟨x, _ | ⟨y, t⟩⟩
          · rfl
          · rfl
          · have := congrArg List.length hl'
            simp at this
            omega
        have E2 := hide e2
        clear e2
        have i1 : ((l.length - k : Nat) : Int) < 2 := by omega
        have i3 : (k : Int) ≤ l.length := by omega
        by_cases hck : c = k
        · subst hck
          go_enter Tryd.func21, Tryd.ntmps21
          go_wp2_with fail
          go_ret3
          exact OpenedAt.fail E2.out (Below.refl _ _)
        · go_enter Tryd.func21, Tryd.ntmps21
          go_wp2_with fail
          go_ret3
          exact OpenedAt.fail E2.out (Below.refl _ _)
      · obtain ⟨x, y, t, hl'⟩ : ∃ x y t, l.drop k = x :: y :: t := by
          rcases hl' : l.drop k with _ | ⟨x, _ | ⟨y, t⟩⟩
          · have := congrArg List.length hl'
            simp at this
            omega
          · have := congrArg List.length hl'
            simp at this
            omega
          · exact ⟨x, y, t, rfl⟩
        have ht : l.length = k + 2 + t.length := by
          have := congrArg List.length hl'
          simp at this
          omega
        obtain ⟨b, o, rfl, hb, hcell⟩ := hA (by intro h0; simp [u8s] at h0; subst h0; simp at ht; omega)
        have hlk : ∀ j v, (x :: y :: t)[j]? = some v → l[k + j]? = some v := fun j v hj => by rw [← hl', List.getElem?_drop] at hj; exact hj
        have q0 : w.cell? ⟨b, o + k, none⟩ = some (.int .u8 (x.toNat : Int)) := hcell k _ (by have := hlk 0 x rfl; simp at this; simp [u8s, this])
        have q1 : w.cell? ⟨b, o + k + 1, none⟩ = some (.int .u8 (y.toNat : Int)) := by
          have := hcell (k + 1) (.int .u8 (y.toNat : Int)) (by have := hlk 1 y rfl; simp [u8s, this])
          rwa [← Nat.add_assoc] at this
        have hT : Cells w (some ⟨b, o + k + 2, none⟩) (u8s t) := fun _ => ⟨b, _, rfl, hb, fun j v hj => by
          have := hcell (k + 2 + j) v (by
            simp only [u8s, List.getElem?_map] at hj ⊢
            rw [Nat.add_assoc]
            rcases hj' : t[j]? with _ | z
            · rw [hj'] at hj; simp at hj
            · rw [hj'] at hj
              have := hlk (2 + j) z (by rw [Nat.add_comm]; simpa using hj')
              rw [this]
              exact hj)
          rwa [← Nat.add_assoc, ← Nat.add_assoc] at this⟩
        rw [hl']
        obtain ⟨L, eL⟩ : ∃ L, L = l.length := ⟨_, rfl⟩
        rw [← eL] at ht hl hc hk ⊢
        clear hcell hlk hA hl' h2 eL
        have hx := x.toNat_lt
        have hy := y.toNat_lt
        have hnot := u8_not x
        obtain ⟨m, em⟩ : ∃ m, m = 255 - x.toNat := ⟨_, rfl⟩
        rw [← em] at hnot
        have i1 : (k : Int) ≤ L := by omega
        have i2 : ¬ c = k := by omega
        have i4 : ¬ ((L - k : Nat) : Int) < 2 := by omega
        have hspell : bits .xor .u8 (if IntKind.u8.signed = true then -1 else IntKind.u8.max) (x.toNat : Int) = (m : Int) := hnot
        by_cases hm : y.toNat = m
        · have d1 : ((y.toNat : Int) != bits .xor .u8 (if IntKind.u8.signed = true then -1 else IntKind.u8.max) (x.toNat : Int)) = false := by rw [hspell]; simp; omega
          obtain ⟨N, eN⟩ : ∃ N, N = x.toNat := ⟨_, rfl⟩
          have hop : openF (x :: y :: t) k = if t.length < N + 4 then ⟨[], 0, 10⟩ else if ofLe ((t.drop N).take 4) ≠ crcN (t.take N) then ⟨[], 0, 14⟩ else ⟨t.take N, k + N + 6, 0⟩ := by
            simp only [openF]
            rw [if_neg (by omega), ← eN]
          rw [hop]
          rw [← eN] at q0 d1 hx
          have HT := hide ht
          clear hop hspell hnot ht eN em hm
          by_cases hs : t.length < N + 4
          · rw [if_pos hs]
            have i5 : L - k < N + 6 := by have := HT.out; omega
            clear hs
            go_enter Tryd.func21, Tryd.ntmps21
            go_wp2_with fail
            go_quiet (fail)
            go_wp2_with fail
            go_ret3
            exact OpenedAt.fail rfl (below_drewN (Below.refl _ _) _)
          · rw [if_neg hs]
            have i5 : N + 6 ≤ L - k := by have := HT.out; omega
            have hTl : N + 4 ≤ t.length := by omega
            have hT1 : Cells w (some ⟨b, o + k + 2, none⟩) (u8s (t.take N)) := hT.takeB N
            have hT2 : Cells w (some ⟨b, o + k + (2 + N), none⟩) (u8s ((t.drop N).take 4)) := by
              have h1 := hT.dropB N (t.length + 1) (by omega)
              rw [if_neg (by omega)] at h1
              simp only [Option.map_some, Addr.add_lit, Nat.add_assoc] at h1
              have h2 := h1.takeB 4
              rwa [← Nat.add_assoc] at h2
            have ul : ((t.drop N).take 4).length = 4 := by simp; omega
            have vl : (t.take N).length = N := by simp; omega
            obtain ⟨u, eu⟩ : ∃ u, u = (t.drop N).take 4 := ⟨_, rfl⟩
            obtain ⟨v, ev⟩ : ∃ v, v = t.take N := ⟨_, rfl⟩
            rw [← eu, ← ev]
            rw [← eu] at hT2 ul
            rw [← ev] at hT1 vl
            clear eu ev hT hs hTl HT
            obtain ⟨O, eO⟩ : ∃ O : Opened, O = if ofLe u ≠ crcN v then ⟨[], 0, 14⟩ else ⟨v, k + N + 6, 0⟩ := ⟨_, rfl⟩
            rw [← eO]
            have EO := hide eO
            have UL := hide ul
            have VL := hide vl
            clear eO ul vl
            go_enter Tryd.func21, Tryd.ntmps21
            go_wp2_with fail
            go_quiet (fail)
            go_wp2_with fail
            have hT1q := hT1.drewN nq
            have hT2q := hT2.drewN nq
            have BQ := below_drewN (Below.refl w.heap.size w) nq
            clear hT1 hT2 q0 q1 d1
            generalize w.drewN nq = wq at *
            refine (newReader_any _ _ _ u _ UL.out (by omega) hT2q).mono ?_
            rintro e w1 ⟨d, rfl, hd, R1, B1⟩
            have hT1' := hT1q.below B1
            have htk : (⟨u, false⟩ : Rd).took 4 = u := by
              have := UL.out
              rw [(take_get (s := ⟨u, false⟩) (n := 4) (by simp; omega)).1]
              exact List.take_of_length_le (by show u.length ≤ 4; omega)
            have hult := ofLe_lt u
            rw [UL.out] at hult
            have HTK := hide htk
            clear hT2q htk
            have i6 : 2 + N ≤ c - k := by omega
            have i7 : ¬ c - k = 2 := by omega
            have i8 : (2 : Int) + N ≤ ((c - k : Nat) : Int) := by omega
            have i9 : ((2 : Int) + N).toNat = 2 + N := by omega
            have i10 : (2 : Int) ≤ 2 + N := by omega
            go_wp2_with fail
            refine wp_region_grow (R := Below wq.heap.size) 99999 [1, 6] [0, 3, 4, 5, 1, 2, 6, 7] (by kernel_rfl) (Lower.tr _) (Lower.rf _) (by kernel_rfl) (fun _ _ _ _ _ h => h) ?_
            (repeat ((first | (refine grow_skip (by rfl) (by rfl) ?_ (by first | exact Stays.rf _ | exact Lower.rf _ _ | exact Holds.rf _ _)) | (refine grow_take (v := ?_) (by rfl) (by rfl) (by rfl) ?_ ?_; rotate_left 1; focus (intro w' hSw; go_simp; (try (with_reducible rfl)); done))); (try simp only [Act.put, List.setIfInBounds_toArray, List.set_cons_zero, List.set_cons_succ])))
            refine grow_move (by rfl) (by rfl) (by rfl) (fun K hK => ?_); go_simp
            refine (get_any d 4 4 ⟨u, false⟩ _ rfl (by omega) (R1.below (nxt_drew (Below.refl _ _)))).mono ?_
            rw [HTK.out]
            rintro e w2 ⟨rfl, T2⟩
            have B2 : Below wq.heap.size w1.drew w2 := T2.leaves.below hd (by simp) B1.size
            have hT1'' := hT1q.below (B1.drew.trans B2)
            have B3 : Below w.heap.size w w2 := nxt BQ (B1.drew.trans B2)
            clear R1 hT1' hT1q B1 T2 HTK
            refine hK.out _ _ (B2) ?_; clear hK K; (try simp only [Act.put, List.setIfInBounds_toArray, List.set_cons_zero, List.set_cons_succ])
            clear B2
            (repeat ((first | (refine grow_skip (by rfl) (by rfl) ?_ (by first | exact Stays.rf _ | exact Lower.rf _ _ | exact Holds.rf _ _)) | (refine grow_take (v := ?_) (by rfl) (by rfl) (by rfl) ?_ ?_; rotate_left 1; focus (intro w' hSw; go_simp; (try (with_reducible rfl)); done))); (try simp only [Act.put, List.setIfInBounds_toArray, List.set_cons_zero, List.set_cons_succ])))
            refine grow_move (by rfl) (by rfl) (by rfl) (fun K hK => ?_); go_simp
            refine (crc_any _ _ _ v _ VL.out (by omega) hT1'').mono ?_
            rintro e w3 ⟨rfl, rfl⟩
            refine hK.out _ _ (Lower.rf _ _) ?_; clear hK K; (try simp only [Act.put, List.setIfInBounds_toArray, List.set_cons_zero, List.set_cons_succ])
            (repeat ((first | (refine grow_skip (by rfl) (by rfl) ?_ (by first | exact Stays.rf _ | exact Lower.rf _ _ | exact Holds.rf _ _)) | (refine grow_take (v := ?_) (by rfl) (by rfl) (by rfl) ?_ ?_; rotate_left 1; focus (intro w' hSw; go_simp; (try (with_reducible rfl)); done))); (try simp only [Act.put, List.setIfInBounds_toArray, List.set_cons_zero, List.set_cons_succ])))
            refine grow_done ?_
            have hvm := crcN_lt v
            obtain ⟨U, eU⟩ : ∃ U, U = ofLe u := ⟨_, rfl⟩
            obtain ⟨V, eV⟩ : ∃ V, V = crcN v := ⟨_, rfl⟩
            rw [← eU] at hult ⊢
            rw [← eV] at hvm ⊢
            have EU := hide eU
            have EV := hide eV
            clear eU eV
            have HVL := hide (by have := VL.out; omega : v.length ≤ 1099511627776)
            have hwr : IntKind.u32.wrap (U : Int) = (U : Int) := by rw [IntKind.wrap_u32']; omega
            by_cases hUV : U = V
            · have hO : O = ⟨v, k + N + 6, 0⟩ := by
                rw [EO.out, if_neg (by rw [← EU.out, ← EV.out]; simp [hUV])]
              subst hUV
              have HO := hide hO
              clear hO
              go_wp2_with (at_builtin; refine wpList_app elU8 (World.ownsRow_lit (base := w2.heap.size) w2 #[] 0 (Nat.le_refl _) (Nat.zero_le _) rfl) (news := u8s v) rfl _ _ rfl rfl rfl (by rw [length_u8s]; exact VL.out) (hT1''.alloc _) (u8s_one v) (by omega) (by simp) N (u8s v) (by omega) (by simp) ?_; intro A4 c4 w4 p4)
              go_ret3
              have hsum : (k : Int) + (2 + (N : Int)) + 4 = ((k + N + 6 : Nat) : Int) := by omega
              rw [HO.out]
              refine ⟨A4, c4, ?_, ?_, Cells.of_own p4.own, ?_, ?_, p4.below _ _ (by have := B3.size; omega) (nxt_alloc B3 _)⟩
              · show Ending.returned (.tuple #[.slice A4 N c4, .int .i64 ((k : Int) + (2 + (N : Int)) + 4), .int .i64 0]) = _
                rw [hsum, VL.out]; rfl
              · rw [VL.out]; exact own_base p4.own B3.size
              · rw [VL.out]; exact own_shape_le p4.own
              · obtain ⟨A', c', hv', _, hm'⟩ := own_shape p4.own
                injection hv' with _ _ hcc
                omega
            · have hO : O = ⟨[], 0, 14⟩ := by
                rw [EO.out, if_pos (by rw [← EU.out, ← EV.out]; exact hUV)]
              have HO := hide hO
              clear hO
              have dS : ((U : Int) != (V : Int)) = true := by simp; omega
              go_wp2_with fail
              go_ret3
              exact OpenedAt.fail HO.out B3
        · have e2 : openF (x :: y :: t) k = ⟨[], 0, 14⟩ := by
            simp only [openF]
            rw [if_pos (by omega)]
          have E2 := hide e2
          have d1 : ((y.toNat : Int) != bits .xor .u8 (if IntKind.u8.signed = true then -1 else IntKind.u8.max) (x.toNat : Int)) = true := by rw [hspell]; simp; omega
          have HT := hide ht
          clear e2 em hspell hnot ht
          go_enter Tryd.func21, Tryd.ntmps21
          go_wp2_with fail
          go_quiet (fail)
          go_wp2_with fail
          go_ret3
          exact OpenedAt.fail E2.out (below_drewN (Below.refl _ _) _)
end Go.Proofs.YtbfjdhbgpjenbaaDoor
