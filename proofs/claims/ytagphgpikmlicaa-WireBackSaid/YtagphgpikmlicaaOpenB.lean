/-
  wire.Open on rows of any length within reach; and an append of bytes within reach.
-/
import Derived.Test.YtagphgpikmlicaaFrame
namespace Go.Proofs.Ytagphgpikmlicaa
open Go.RowKit
set_option linter.unusedVariables false

theorem run_appB {P : Program} {t e : TypeId} {z : Value} (H : Elem P t e z 1) {w : World} {base : Nat} {v : Value} {n : Nat} {xs : List Value} (hown : w.ownsRow base e 1 v n xs) (ty : TypeId) {A : Option Addr} {m c : Nat} {news : List Value}
    (hm : news.length = m) (hc : Cells w A news) (h1 : ∀ u ∈ news, u.oneCell' = true) (hn : n + m ≤ 140737488355328) (hb : base ≤ w.heap.size) :
    ∃ A' c' w', (Builtin.append_ #[t, t] ty #[v, .slice A m c]).run P w = .ok (.slice A' (n + m) c') w' ∧ Appended w base e v (n + m) (xs ++ news) A' c' w' := by
  obtain ⟨i, hi, hz, hsz, hby⟩ := H.info
  by_cases hm0 : news = []
  · subst hm0
    obtain rfl : m = 0 := by simpa using hm.symm
    obtain ⟨A', c', rfl, _⟩ := own_shape hown
    refine ⟨A', c', w, run_append_zero H hown _ _ _, ?_, World.grownBy.refl _ _, .inl rfl, fun _ _ _ h => h⟩
    simpa using hown
  · obtain ⟨b, off, rfl, hbl, hcell⟩ := hc hm0
    obtain ⟨v', w', hr, h2, h3, _, h5⟩ := run_append_own_at (P := P) w base t ty e i z 1 1 H.under hi hz hsz hby H.one (by decide) v n xs hown ⟨b, off, none⟩ m c news (by omega)
      (fun j u hu => by rw [Addr.add_lit]; exact hcell j u hu) h1 (by unfold maxLen; omega) (by omega) hb
    obtain ⟨A', c', rfl, _⟩ := own_shape h2
    exact ⟨A', c', w', hr, h2, h3, h5, fun B W hB hbel => hbel.grown h3 (Nat.le_trans hB hb) fun k hk => by have := (hown.lt k hk).1; omega⟩
theorem wpList_appB {P : Program} {t e : TypeId} {z : Value} (H : Elem P t e z 1) {ops : Array Oper} {rest : List Oper} {o : Oper} {a : Act} {Q : Exit → Act → World → Prop} {w : World}
    {base : Nat} {v : Value} {n : Nat} {xs : List Value} (hown : w.ownsRow base e 1 v n xs) {A : Option Addr} {m c : Nat} {news : List Value}
    (hgd : o.guard = none) (s x : Operand) (ho : o.op = .call { callee := .builtin .append, args := #[s, x], argTypes := #[t, t] })
    (hs : a.eval s = v) (hx : a.eval x = .slice A m c) (hm : news.length = m) (hc : Cells w A news)
    (h1 : ∀ u ∈ news, u.oneCell' = true) (hn : n + m ≤ 140737488355328) (hb : base ≤ w.heap.size) (N : Nat) (L : List Value) (hN : N = n + m) (hL : L = xs ++ news)
    (h : ∀ A' c' w', Appended w base e v N L A' c' w' → wpList P ops Q rest (a.put o.dst (.slice A' N c')) w') :
    wpList P ops Q (o :: rest) a w := by
  refine wpList_plain hgd fun K hK => ?_
  subst hN
  subst hL
  obtain ⟨A', c', w', hr, hA⟩ := run_appB H hown o.type (c := c) hm hc h1 hn hb
  unfold Oper.wp execOp
  simp only [ho, resolve, invoke, builtin, Sem.run_bind, Sem.run_pure, Result.andThen_ok, List.map_toArray, List.map_cons, List.map_nil, hs, hx, hr]
  exact hK _ _ (h A' c' w' hA)
set_option maxHeartbeats 1600000 in
theorem open_big (A : Option Addr) (n c : Nat) (l : List UInt8) (at_ : Int) (w : World) (hn : l.length = n) (hl : n ≤ 140737488355328) (hc : n ≤ c) (hcm : c ≤ 9223372036854775807) (hA : Cells w A (u8s l)) :
    Calls Try.prog 23 #[.slice A n c, .int .i64 at_] w (OpenedAt w (openL l at_)) := by
  subst hn
  by_cases h0 : at_ < 0
  · have e1 : openL l at_ = ⟨[], 0, 1⟩ := by unfold openL; rw [if_pos (.inl h0)]
    have E1 := hide e1
    clear e1
    go_enter Try.func23, Try.ntmps23
    go_wp2_with fail
    go_ret3
    exact OpenedAt.fail E1.out (Below.refl _ _)
  · by_cases h1 : (l.length : Int) < at_
    · have e1 : openL l at_ = ⟨[], 0, 1⟩ := by unfold openL; rw [if_pos (.inr h1)]
      have E1 := hide e1
      clear e1
      go_enter Try.func23, Try.ntmps23
      go_wp2_with fail
      go_ret3
      exact OpenedAt.fail E1.out (Below.refl _ _)
    · obtain ⟨k, rfl⟩ : ∃ k : Nat, at_ = k := ⟨at_.toNat, by omega⟩
      have hk : k ≤ l.length := by omega
      have e1 : openL l k = openF (l.drop k) k := by
        unfold openL
        rw [if_neg (by omega)]
        rfl
      rw [e1]
      clear e1 h0 h1
      by_cases h2 : l.length - k < 2
      · have e2 : openF (l.drop k) k = ⟨[], 0, 10⟩ := by
          rcases hl' : l.drop k with _ | ⟨x, _ | ⟨y, t⟩⟩
          · rfl
          · rfl
          · have := congrArg List.length hl'
            simp at this
            omega
        have E2 := hide e2
        clear e2
        have i1 : ((l.length - k : Nat) : Int) < 2 := by omega
        have i3 : (k : Int) ≤ l.length := by omega
        by_cases hck : c = k
        · subst hck
          go_enter Try.func23, Try.ntmps23
          go_wp2_with fail
          go_ret3
          exact OpenedAt.fail E2.out (Below.refl _ _)
        · go_enter Try.func23, Try.ntmps23
          go_wp2_with fail
          go_ret3
          exact OpenedAt.fail E2.out (Below.refl _ _)
      · obtain ⟨x, y, t, hl'⟩ : ∃ x y t, l.drop k = x :: y :: t := by
          rcases hl' : l.drop k with _ | ⟨x, _ | ⟨y, t⟩⟩
          · have := congrArg List.length hl'
            simp at this
            omega
          · have := congrArg List.length hl'
            simp at this
            omega
          · exact ⟨x, y, t, rfl⟩
        have ht : l.length = k + 2 + t.length := by
          have := congrArg List.length hl'
          simp at this
          omega
        obtain ⟨b, o, rfl, hb, hcell⟩ := hA (by intro h0; simp [u8s] at h0; subst h0; simp at ht; omega)
        have hlk : ∀ j v, (x :: y :: t)[j]? = some v → l[k + j]? = some v := fun j v hj => by rw [← hl', List.getElem?_drop] at hj; exact hj
        have q0 : w.cell? ⟨b, o + k, none⟩ = some (.int .u8 (x.toNat : Int)) := hcell k _ (by have := hlk 0 x rfl; simp at this; simp [u8s, this])
        have q1 : w.cell? ⟨b, o + k + 1, none⟩ = some (.int .u8 (y.toNat : Int)) := by
          have := hcell (k + 1) (.int .u8 (y.toNat : Int)) (by have := hlk 1 y rfl; simp [u8s, this])
          rwa [← Nat.add_assoc] at this
        have hT : Cells w (some ⟨b, o + k + 2, none⟩) (u8s t) := fun _ => ⟨b, _, rfl, hb, fun j v hj => by
          have := hcell (k + 2 + j) v (by
            simp only [u8s, List.getElem?_map] at hj ⊢
            rw [Nat.add_assoc]
            rcases hj' : t[j]? with _ | z
            · rw [hj'] at hj; simp at hj
            · rw [hj'] at hj
              have := hlk (2 + j) z (by rw [Nat.add_comm]; simpa using hj')
              rw [this]
              exact hj)
          rwa [← Nat.add_assoc, ← Nat.add_assoc] at this⟩
        rw [hl']
        obtain ⟨L, eL⟩ : ∃ L, L = l.length := ⟨_, rfl⟩
        rw [← eL] at ht hl hc hk ⊢
        clear hcell hlk hA hl' h2 eL
        have hx := x.toNat_lt
        have hy := y.toNat_lt
        have hnot := u8_not x
        obtain ⟨m, em⟩ : ∃ m, m = 255 - x.toNat := ⟨_, rfl⟩
        rw [← em] at hnot
        have i1 : (k : Int) ≤ L := by omega
        have i2 : ¬ c = k := by omega
        have i4 : ¬ ((L - k : Nat) : Int) < 2 := by omega
        have hspell : bits .xor .u8 (if IntKind.u8.signed = true then -1 else IntKind.u8.max) (x.toNat : Int) = (m : Int) := hnot
        by_cases hm : y.toNat = m
        · have d1 : ((y.toNat : Int) != bits .xor .u8 (if IntKind.u8.signed = true then -1 else IntKind.u8.max) (x.toNat : Int)) = false := by rw [hspell]; simp; omega
          obtain ⟨N, eN⟩ : ∃ N, N = x.toNat := ⟨_, rfl⟩
          have hop : openF (x :: y :: t) k = if t.length < N + 4 then ⟨[], 0, 10⟩ else if ofLe ((t.drop N).take 4) ≠ crcN (t.take N) then ⟨[], 0, 14⟩ else ⟨t.take N, k + N + 6, 0⟩ := by
            simp only [openF]
            rw [if_neg (by omega), ← eN]
          rw [hop]
          rw [← eN] at q0 d1 hx
          have HT := hide ht
          clear hop hspell hnot ht eN em hm
          by_cases hs : t.length < N + 4
          · rw [if_pos hs]
            have i5 : L - k < N + 6 := by have := HT.out; omega
            clear hs
            go_enter Try.func23, Try.ntmps23
            go_wp2_with fail
            go_quiet (fail)
            go_wp2_with fail
            go_ret3
            exact OpenedAt.fail rfl (below_drewN (Below.refl _ _) _)
          · rw [if_neg hs]
            have i5 : N + 6 ≤ L - k := by have := HT.out; omega
            have hTl : N + 4 ≤ t.length := by omega
            have hT1 : Cells w (some ⟨b, o + k + 2, none⟩) (u8s (t.take N)) := hT.takeB N
            have hT2 : Cells w (some ⟨b, o + k + (2 + N), none⟩) (u8s ((t.drop N).take 4)) := by
              have h1 := hT.dropB N (t.length + 1) (by omega)
              rw [if_neg (by omega)] at h1
              simp only [Option.map_some, Addr.add_lit, Nat.add_assoc] at h1
              have h2 := h1.takeB 4
              rwa [← Nat.add_assoc] at h2
            have ul : ((t.drop N).take 4).length = 4 := by simp; omega
            have vl : (t.take N).length = N := by simp; omega
            obtain ⟨u, eu⟩ : ∃ u, u = (t.drop N).take 4 := ⟨_, rfl⟩
            obtain ⟨v, ev⟩ : ∃ v, v = t.take N := ⟨_, rfl⟩
            rw [← eu, ← ev]
            rw [← eu] at hT2 ul
            rw [← ev] at hT1 vl
            clear eu ev hT hs hTl HT
            obtain ⟨O, eO⟩ : ∃ O : Opened, O = if ofLe u ≠ crcN v then ⟨[], 0, 14⟩ else ⟨v, k + N + 6, 0⟩ := ⟨_, rfl⟩
            rw [← eO]
            have EO := hide eO
            have UL := hide ul
            have VL := hide vl
            clear eO ul vl
            go_enter Try.func23, Try.ntmps23
            go_wp2_with fail
            go_quiet (fail)
            go_wp2_with fail
            have hT1q := hT1.drewN nq
            have hT2q := hT2.drewN nq
            have BQ := below_drewN (Below.refl w.heap.size w) nq
            clear hT1 hT2 q0 q1 d1
            generalize w.drewN nq = wq at *
            refine (newReader_any _ _ _ u _ UL.out (by omega) hT2q).mono ?_
            rintro e w1 ⟨d, rfl, hd, R1, B1⟩
            have hT1' := hT1q.below B1
            have htk : (⟨u, false⟩ : Rd).took 4 = u := by
              have := UL.out
              rw [(take_get (s := ⟨u, false⟩) (n := 4) (by simp; omega)).1]
              exact List.take_of_length_le (by show u.length ≤ 4; omega)
            have hult := ofLe_lt u
            rw [UL.out] at hult
            have HTK := hide htk
            clear hT2q htk
            have i6 : 2 + N ≤ c - k := by omega
            have i7 : ¬ c - k = 2 := by omega
            have i8 : (2 : Int) + N ≤ ((c - k : Nat) : Int) := by omega
            have i9 : ((2 : Int) + N).toNat = 2 + N := by omega
            have i10 : (2 : Int) ≤ 2 + N := by omega
            go_wp2_with fail
            refine wp_region_grow (R := Below wq.heap.size) 99999 [1, 6] [0, 3, 4, 5, 1, 2, 6, 7] (by kernel_rfl) (Lower.tr _) (Lower.rf _) (by kernel_rfl) (fun _ _ _ _ _ h => h) ?_
            (repeat ((first | (refine grow_skip (by rfl) (by rfl) ?_ (by first | exact Stays.rf _ | exact Lower.rf _ _ | exact Holds.rf _ _)) | (refine grow_take (v := ?_) (by rfl) (by rfl) (by rfl) ?_ ?_; rotate_left 1; focus (intro w' hSw; go_simp; (try (with_reducible rfl)); done))); (try simp only [Act.put, List.setIfInBounds_toArray, List.set_cons_zero, List.set_cons_succ])))
            refine grow_move (by rfl) (by rfl) (by rfl) (fun K hK => ?_); go_simp
            refine (get_any d 4 4 ⟨u, false⟩ _ rfl (by omega) (R1.below (nxt_drew (Below.refl _ _)))).mono ?_
            rw [HTK.out]
            rintro e w2 ⟨rfl, T2⟩
            have B2 : Below wq.heap.size w1.drew w2 := T2.leaves.below hd (by simp) B1.size
            have hT1'' := hT1q.below (B1.drew.trans B2)
            have B3 : Below w.heap.size w w2 := nxt BQ (B1.drew.trans B2)
            clear R1 hT1' hT1q B1 T2 HTK
            refine hK.out _ _ (B2) ?_; clear hK K; (try simp only [Act.put, List.setIfInBounds_toArray, List.set_cons_zero, List.set_cons_succ])
            clear B2
            (repeat ((first | (refine grow_skip (by rfl) (by rfl) ?_ (by first | exact Stays.rf _ | exact Lower.rf _ _ | exact Holds.rf _ _)) | (refine grow_take (v := ?_) (by rfl) (by rfl) (by rfl) ?_ ?_; rotate_left 1; focus (intro w' hSw; go_simp; (try (with_reducible rfl)); done))); (try simp only [Act.put, List.setIfInBounds_toArray, List.set_cons_zero, List.set_cons_succ])))
            refine grow_move (by rfl) (by rfl) (by rfl) (fun K hK => ?_); go_simp
            refine (crc_any _ _ _ v _ VL.out (by omega) hT1'').mono ?_
            rintro e w3 ⟨rfl, rfl⟩
            refine hK.out _ _ (Lower.rf _ _) ?_; clear hK K; (try simp only [Act.put, List.setIfInBounds_toArray, List.set_cons_zero, List.set_cons_succ])
            (repeat ((first | (refine grow_skip (by rfl) (by rfl) ?_ (by first | exact Stays.rf _ | exact Lower.rf _ _ | exact Holds.rf _ _)) | (refine grow_take (v := ?_) (by rfl) (by rfl) (by rfl) ?_ ?_; rotate_left 1; focus (intro w' hSw; go_simp; (try (with_reducible rfl)); done))); (try simp only [Act.put, List.setIfInBounds_toArray, List.set_cons_zero, List.set_cons_succ])))
            refine grow_done ?_
            have hvm := crcN_lt v
            obtain ⟨U, eU⟩ : ∃ U, U = ofLe u := ⟨_, rfl⟩
            obtain ⟨V, eV⟩ : ∃ V, V = crcN v := ⟨_, rfl⟩
            rw [← eU] at hult ⊢
            rw [← eV] at hvm ⊢
            have EU := hide eU
            have EV := hide eV
            clear eU eV
            have HVL := hide (by have := VL.out; omega : v.length ≤ 1099511627776)
            have hwr : IntKind.u32.wrap (U : Int) = (U : Int) := by rw [IntKind.wrap_u32']; omega
            by_cases hUV : U = V
            · have hO : O = ⟨v, k + N + 6, 0⟩ := by
                rw [EO.out, if_neg (by rw [← EU.out, ← EV.out]; simp [hUV])]
              subst hUV
              have HO := hide hO
              clear hO
              go_wp2_with (at_builtin; refine wpList_app elU8 (World.ownsRow_lit (base := w2.heap.size) w2 #[] 0 (Nat.le_refl _) (Nat.zero_le _) rfl) (news := u8s v) rfl _ _ rfl rfl rfl (by rw [length_u8s]; exact VL.out) (hT1''.alloc _) (u8s_one v) (by omega) (by simp) N (u8s v) (by omega) (by simp) ?_; intro A4 c4 w4 p4)
              go_ret3
              have hsum : (k : Int) + (2 + (N : Int)) + 4 = ((k + N + 6 : Nat) : Int) := by omega
              rw [HO.out]
              refine ⟨A4, c4, ?_, ?_, Cells.of_own p4.own, ?_, ?_, p4.below _ _ (by have := B3.size; omega) (nxt_alloc B3 _)⟩
              · show Ending.returned (.tuple #[.slice A4 N c4, .int .i64 ((k : Int) + (2 + (N : Int)) + 4), .int .i64 0]) = _
                rw [hsum, VL.out]; rfl
              · rw [VL.out]; exact own_base p4.own B3.size
              · rw [VL.out]; exact own_shape_le p4.own
              · obtain ⟨A', c', hv', _, hm'⟩ := own_shape p4.own
                injection hv' with _ _ hcc
                omega
            · have hO : O = ⟨[], 0, 14⟩ := by
                rw [EO.out, if_pos (by rw [← EU.out, ← EV.out]; exact hUV)]
              have HO := hide hO
              clear hO
              have dS : ((U : Int) != (V : Int)) = true := by simp; omega
              go_wp2_with fail
              go_ret3
              exact OpenedAt.fail HO.out B3
        · have e2 : openF (x :: y :: t) k = ⟨[], 0, 14⟩ := by
            simp only [openF]
            rw [if_pos (by omega)]
          have E2 := hide e2
          have d1 : ((y.toNat : Int) != bits .xor .u8 (if IntKind.u8.signed = true then -1 else IntKind.u8.max) (x.toNat : Int)) = true := by rw [hspell]; simp; omega
          have HT := hide ht
          clear e2 em hspell hnot ht
          go_enter Try.func23, Try.ntmps23
          go_wp2_with fail
          go_quiet (fail)
          go_wp2_with fail
          go_ret3
          exact OpenedAt.fail E2.out (below_drewN (Below.refl _ _) _)
end Go.Proofs.Ytagphgpikmlicaa
