/-
  journal.Scan.
-/
import Derived.Test.YtfhlfnoiknhleaaFrame
import Derived.Test.YtfhlfnoiknhleaaScanP
namespace Go.Proofs.Ytfhlfnoiknhleaa
open Go.RowKit
set_option linter.unusedVariables false

theorem Try.infoBB : (Try.prog.info? 30).map (fun i => (i.zero, i.size, i.bytes)) = some (some (.slice none 0 0), 1, 24) := by kernel_rfl
theorem elBB : Elem Try.prog 23 30 (.slice none 0 0) 24 :=
  ⟨Try.underlying23, let ⟨i, h, h0, h1, h2⟩ := info_parts Try.infoBB; ⟨i, h, h0, h1, h2⟩, rfl, by omega⟩
/-- Bytes that lie in a block of bytes, or before base. -/
structure BAt (w : World) (base : Nat) (A : Option Addr) (c : Nat) (l : List UInt8) : Prop where
  cells : Cells w A (u8s l)
  le : l.length ≤ c
  max : c ≤ 9223372036854775807
  sep : ∀ b o, A = some ⟨b, o, none⟩ → l ≠ [] → b < w.heap.size ∧ (b < base ∨ ∃ cs x, w.heap[b]? = some (.cells cs 5 x))
theorem BAt.below {w w' : World} {base : Nat} {A : Option Addr} {c : Nat} {l : List UInt8} (h : BAt w base A c l) (hb : Below w.heap.size w w') : BAt w' base A c l := by
  refine ⟨h.cells.below hb, h.le, h.max, fun b o ha hl => ?_⟩
  obtain ⟨h1, h2⟩ := h.sep b o ha hl
  refine ⟨Nat.lt_of_lt_of_le h1 hb.size, ?_⟩
  rcases h2 with h2 | ⟨cs, x, h2⟩
  · exact .inl h2
  · exact .inr ⟨cs, x, (hb.block b h1).trans h2⟩
theorem BAt.of_own {w : World} {base base' : Nat} {A : Option Addr} {c : Nat} {l : List UInt8} (h : w.ownsRow base 5 1 (.slice A l.length c) l.length (u8s l)) : BAt w base' A c l := by
  obtain ⟨A', c', hv, h1, h2⟩ := own_shape h
  injection hv with _ _ hc
  subst hc
  refine ⟨Cells.of_own h, h1, h2, fun b o ha hl => ?_⟩
  rcases h.2 with ⟨h0, _⟩ | ⟨g, cap, cur, hv, _, hg, _⟩
  · injection h0 with h0 _ _; rw [ha] at h0; cases h0
  · injection hv with hA _ _
    rw [ha] at hA
    injection hA with hA
    injection hA with hA
    subst hA
    exact ⟨(Array.getElem?_eq_some_iff.1 hg).1, .inr ⟨_, _, hg⟩⟩
/-- What lies before base lies apart. -/
theorem BAt.of_old {w : World} {base : Nat} {A : Option Addr} {c : Nat} {l : List UInt8} (h : Cells w A (u8s l)) (h1 : l.length ≤ c) (h2 : c ≤ 9223372036854775807) (h3 : l ≠ [] → ∀ b o, A = some ⟨b, o, none⟩ → b < base) : BAt w base A c l := by
  refine ⟨h, h1, h2, fun b o ha hl => ?_⟩
  obtain ⟨b', o', ha', hb', _⟩ := h (by intro h0; apply hl; have := congrArg List.length h0; rw [length_u8s] at this; exact List.eq_nil_of_length_eq_zero this)
  rw [ha] at ha'
  injection ha' with ha'
  injection ha' with ha'
  subst ha'
  exact ⟨hb', .inl (h3 hl b o ha)⟩
/-- A row of slices grows: the bytes stay. -/
theorem BAt.grown {w w' : World} {base : Nat} {A : Option Addr} {c : Nat} {l : List UInt8} (h : BAt w base A c l) {v : Value} {n : Nat} {xs : List Value} (hown : w.ownsRow base 30 1 v n xs) (hg : w.grownBy w' v.ownBlock) : BAt w' base A c l := by
  have key : ∀ b o, A = some ⟨b, o, none⟩ → l ≠ [] → w'.heap[b]? = w.heap[b]? := by
    intro b o ha hl
    obtain ⟨h1, h2⟩ := h.sep b o ha hl
    refine hg.block b h1 ?_
    rcases hown.2 with ⟨rfl, _⟩ | ⟨g, cap, cur, rfl, hgb, hgh, _⟩
    · simp [Value.ownBlock]
    · simp only [Value.ownBlock, ne_eq, Option.some.injEq]
      intro e
      subst e
      rcases h2 with h2 | ⟨cs, x, h2⟩
      · omega
      · rw [hgh] at h2
        injection h2 with h2
        injection h2 with _ h2
        exact absurd h2 (by decide)
  refine ⟨?_, h.le, h.max, fun b o ha hl => ?_⟩
  · intro hne
    obtain ⟨b, o, ha, hb, hc⟩ := h.cells hne
    have hl : l ≠ [] := by rintro rfl; exact hne rfl
    refine ⟨b, o, ha, Nat.lt_of_lt_of_le hb hg.size, fun k u hu => ?_⟩
    have := hc k u hu
    simp only [World.cell?] at this ⊢
    rw [key b o ha hl]
    exact this
  · obtain ⟨h1, h2⟩ := h.sep b o ha hl
    refine ⟨Nat.lt_of_lt_of_le h1 hg.size, ?_⟩
    rw [key b o ha hl]
    exact h2
/-- A row of slices of bytes. -/
structure BRow (w : World) (base : Nat) (vs : List Value) (ls : List (List UInt8)) : Prop where
  len : vs.length = ls.length
  at_ : ∀ (i : Nat) (l : List UInt8), ls[i]? = some l → ∃ A c, vs[i]? = some (.slice A l.length c) ∧ BAt w base A c l
theorem BRow.nil (w : World) (base : Nat) : BRow w base [] [] := ⟨rfl, fun i l h => by simp at h⟩
theorem BRow.below {w w' : World} {base : Nat} {vs : List Value} {ls : List (List UInt8)} (h : BRow w base vs ls) (hb : Below w.heap.size w w') : BRow w' base vs ls := by
  refine ⟨h.len, fun i l hl => ?_⟩
  obtain ⟨A, c, h1, h2⟩ := h.at_ i l hl
  exact ⟨A, c, h1, h2.below hb⟩
theorem BRow.grown {w w' : World} {base : Nat} {vs : List Value} {ls : List (List UInt8)} (h : BRow w base vs ls) {v : Value} {n : Nat} {xs : List Value} (hown : w.ownsRow base 30 1 v n xs) (hg : w.grownBy w' v.ownBlock) : BRow w' base vs ls := by
  refine ⟨h.len, fun i l hl => ?_⟩
  obtain ⟨A, c, h1, h2⟩ := h.at_ i l hl
  exact ⟨A, c, h1, h2.grown hown hg⟩
theorem BRow.snoc {w : World} {base : Nat} {vs : List Value} {ls : List (List UInt8)} (h : BRow w base vs ls) {A : Option Addr} {m c : Nat} {l : List UInt8} (hm : l.length = m) (hA : BAt w base A c l) : BRow w base (vs ++ [.slice A m c]) (ls ++ [l]) := by
  subst hm
  refine ⟨by simp [h.len], fun i x hx => ?_⟩
  by_cases hi : i < ls.length
  · rw [List.getElem?_append_left hi] at hx
    obtain ⟨A', c', k1, k2⟩ := h.at_ i x hx
    exact ⟨A', c', by rw [List.getElem?_append_left (by rw [h.len]; exact hi)]; exact k1, k2⟩
  · rw [List.getElem?_append_right (by omega)] at hx
    obtain ⟨hz, hxe⟩ : i - ls.length = 0 ∧ x = l := by
      rcases hk : i - ls.length with _ | k
      · rw [hk] at hx; simp at hx; exact ⟨rfl, hx.symm⟩
      · rw [hk] at hx; simp at hx
    subst hxe
    exact ⟨A, c, by rw [List.getElem?_append_right (by rw [h.len]; omega), h.len, hz]; rfl, hA⟩
theorem BRow.keep {w w' : World} {base base' : Nat} {vs : List Value} {ls : List (List UInt8)} (h : BRow w base vs ls) {Q : Nat → Prop} (ho : ∀ v ∈ vs, ∀ g, v.ownBlock = some g → Q g) (hs : w.heap.size ≤ w'.heap.size) (hk : ∀ b, Q b → b < w.heap.size → w'.heap[b]? = w.heap[b]?) (hb : base ≤ base') : BRow w' base' vs ls := by
  refine ⟨h.len, fun i l hl => ?_⟩
  obtain ⟨A, c, h1, h2⟩ := h.at_ i l hl
  have hq := ho _ (List.mem_of_getElem? h1)
  refine ⟨A, c, h1, ?_, h2.le, h2.max, fun b o ha hl' => ?_⟩
  · intro hne
    obtain ⟨b, o, ha, hb, hc⟩ := h2.cells hne
    refine ⟨b, o, ha, Nat.lt_of_lt_of_le hb hs, fun k u hu => ?_⟩
    have := hc k u hu
    simp only [World.cell?] at this ⊢
    rw [hk b (hq b (by rw [ha]; rfl)) hb]
    exact this
  · obtain ⟨k1, k2⟩ := h2.sep b o ha hl'
    refine ⟨Nat.lt_of_lt_of_le k1 hs, ?_⟩
    rw [hk b (hq b (by rw [ha]; rfl)) k1]
    rcases k2 with k2 | k2
    · exact .inl (Nat.lt_of_lt_of_le k2 hb)
    · exact .inr k2
/-- What Scan answers. -/
def ScanAt (w : World) (o : Scanned) (e : Ending) (w' : World) : Prop :=
  ∃ A n c vs, e = .returned (.tuple #[.slice A n c, .int .i64 (o.stop : Nat), .int .i64 (o.why : Nat)]) ∧ o.rows.length = n ∧ w'.ownsRow w.heap.size 30 1 (.slice A n c) n vs ∧ BRow w' 0 vs o.rows ∧ n ≤ c ∧ (∀ v ∈ vs, ∀ g, v.ownBlock = some g → w.heap.size ≤ g ∧ g < w'.heap.size) ∧ Below w.heap.size w w'
theorem OpenedAt.getS {w w' : World} {o : Opened} {e : Ending} (h : OpenedAt w o e w') :
    ∃ A m c, e = .returned (.tuple #[.slice A m c, .int .i64 (o.stop : Nat), .int .i64 (o.why : Nat)]) ∧ o.b.length = m ∧ (∀ base, BAt w' base A c o.b) ∧ (∀ g, (Value.slice A m c).ownBlock = some g → w.heap.size ≤ g ∧ g < w'.heap.size) ∧ Below w.heap.size w w' := by
  obtain ⟨A, c, rfl, own, hA, hc, hm, hb⟩ := h
  exact ⟨A, _, c, rfl, rfl, fun base => BAt.of_own own, own.lt, hb⟩
theorem openL_drop {l : List UInt8} {p : Nat} (h : p ≤ l.length) : openL l (p : Nat) = openF (l.drop p) p := by
  unfold openL
  rw [if_neg (by omega)]
  rfl
set_option maxHeartbeats 1600000 in
theorem scan_any (A0 : Option Addr) (n c0 : Nat) (l : List UInt8) (w : World) (hn : l.length = n) (hl : n ≤ 1000000000000) (hc : n ≤ c0) (hcm : c0 ≤ 9223372036854775807) (hA : Cells w A0 (u8s l)) :
    Calls Try.prog 15 #[.slice A0 n c0] w (ScanAt w (scanL l 0)) := by
  obtain ⟨O, eO⟩ : ∃ O, O = scanL l 0 := ⟨_, rfl⟩
  rw [← eO]
  have HO := hide eO
  have HN := hide hn
  clear eO hn
  go_enter Try.func15, Try.ntmps15
  go_wp2_with fail
  go_loopw [5, 6] (fun v i wr => ∃ (p k : Nat) (rows : List (List UInt8)) (A : Option Addr) (c : Nat) (vs : List Value), p ≤ n ∧ k ≤ p ∧ i = .int .i64 p ∧ v = .slice A k c ∧ Hid (rows.length = k) ∧ Hid (O = ⟨rows ++ (scanL (l.drop p) p).rows, (scanL (l.drop p) p).stop, (scanL (l.drop p) p).why⟩) ∧
    Hid (wr.ownsRow w.heap.size 30 1 (.slice A k c) k vs) ∧ Hid (BRow wr 0 vs rows) ∧ Hid (∀ v ∈ vs, ∀ g, v.ownBlock = some g → w.heap.size ≤ g ∧ g < wr.heap.size) ∧ Below w.heap.size w wr) (fun _ i _ => n - (intOf i).toNat)
  case atStart => exact ⟨0, 0, [], none, 0, [], Nat.zero_le _, by omega, rfl, rfl, rfl, by rw [HO.out]; rfl, World.ownsRow_nil _ _ _ _, BRow.nil _ _, hide (fun v hv => absurd hv (by simp)), Below.refl _ _⟩
  case round =>
    obtain ⟨p, k, rows, A, c, vs, hp, hkp, rfl, rfl, HK, HP, HW, HB, HF, B⟩ := hrel
    have hle := own_shape_le HW.out
    by_cases hlt : p < n
    · have i1 : (p : Int) < n := by omega
      have hne : l.drop p ≠ [] := by
        intro h; have := congrArg List.length h; rw [List.length_drop, HN.out] at this; simp at this; omega
      have hod := openL_drop (l := l) (p := p) (by rw [HN.out]; omega)
      go_wp2_with fail
      refine (open_any A0 n c0 l p _ HN.out hl hc hcm (hA.below B)).mono ?_
      rw [hod]
      obtain ⟨o, eo⟩ : ∃ o, o = openF (l.drop p) p := ⟨_, rfl⟩
      rw [← eo]
      intro e w2 h2
      obtain ⟨AX, m, cX, rfl, hm, hX0, hlt9, hb⟩ := h2.getS
      have hF2 : Hid (∀ v ∈ vs, ∀ g, v.ownBlock = some g → w.heap.size ≤ g ∧ g < w2.heap.size) := hide fun v hv g hg => ⟨(HF.out v hv g hg).1, Nat.lt_of_lt_of_le (HF.out v hv g hg).2 hb.size⟩
      have hlt8 : Hid (∀ g, (Value.slice AX m cX).ownBlock = some g → w.heap.size ≤ g ∧ g < w2.heap.size) := hide fun g hg => ⟨Nat.le_trans B.size (hlt9 g hg).1, (hlt9 g hg).2⟩
      clear HF hlt9
      have hX := hX0 0
      have B2 := nxt B hb
      have own2 := own_below HW.out hb
      have HB2 := hide (HB.out.below hb)
      obtain ⟨P, s, y⟩ := o
      simp only at hm hX
      by_cases hy : y = 0
      · subst hy
        obtain ⟨e1, e2, e3⟩ := open_bd eo.symm
        rw [hm] at e1 e2 e3
        rw [List.length_drop, HN.out] at e2
        have hsc := scan_ok hne eo.symm
        rw [hm, List.drop_drop, show p + (m + 6) = s by omega] at hsc
        have hP' : Hid (O = ⟨(rows ++ [P]) ++ (scanL (l.drop s) s).rows, (scanL (l.drop s) s).stop, (scanL (l.drop s) s).why⟩) := by
          show _ = _
          rw [HP.out, hsc]; simp
        have hK' : Hid ((rows ++ [P]).length = k + 1) := by show _ = _; rw [List.length_append, HK.out]; rfl
        have hs : s ≤ n := by omega
        have hps : p < s := by omega
        have hks : k + 1 ≤ s := by omega
        have HM := hide hm
        clear hsc e1 e2 e3 eo hod hne HB HW B hb h2 hm HP HK
        go_wp2_with (at_builtin; refine wpList_push elBB own2 (.slice AX m cX) rfl _ _ rfl rfl rfl rfl (by omega) B2.size ?_; intro A4 c4 w4 own4 g4 b4)
        have HK2 := hide hK'
        have HB4 := hide ((HB2.out.grown (own_base own2 (Nat.zero_le _)) g4).snoc HM.out (hX.grown (own_base own2 (Nat.zero_le _)) g4))
        have B4 := b4 _ _ (Nat.le_refl _) B2
        have HF4 : Hid (∀ v ∈ vs ++ [Value.slice AX m cX], ∀ g, v.ownBlock = some g → w.heap.size ≤ g ∧ g < w4.heap.size) := hide fun v hv g hg => by
          have hs4 := g4.size
          rcases List.mem_append.1 hv with hv | hv
          · have := hF2.out v hv g hg; omega
          · rw [List.mem_singleton] at hv; subst hv; have := hlt8.out g hg; omega
        clear g4 b4 own2 hX hX0 HB2 hK' hF2 hlt8
        go_roundw
        case rel => exact ⟨s, k + 1, _, A4, c4, _, hs, hks, rfl, rfl, HK2.out, hP', own4, HB4, HF4, B4⟩
        case measure => simp [intOf]; omega
      · by_cases hy2 : y = 10
        · subst hy2
          have hsc := scan_end hne (by rw [← eo])
          have hO : O = ⟨rows, p, 0⟩ := by rw [HP.out, hsc]; simp
          have HO2 := hide hO
          clear hsc hO eo hod hne HP HW HB hb h2 hm HO
          go_wp2_with fail
          go_ret3
          rw [HO2.out]
          exact ⟨A, k, c, vs, rfl, HK.out, own2, HB2.out, hle, hF2.out, B2⟩
        · have hsc := scan_bad hne (by rw [← eo]; exact hy) (by rw [← eo]; exact hy2)
          have hO : O = ⟨rows, p, 14⟩ := by rw [HP.out, hsc]; simp
          have HO2 := hide hO
          have d1 : ((y : Int) == 0) = false := by simp; omega
          have d2 : ((y : Int) == 10) = false := by simp; omega
          clear hsc hO eo hod hne HP HW HB hb h2 hm HO
          go_wp2_with fail
          go_ret3
          rw [HO2.out]
          exact ⟨A, k, c, vs, rfl, HK.out, own2, HB2.out, hle, hF2.out, B2⟩
    · have hpn : l.drop p = [] := List.eq_nil_of_length_eq_zero (by rw [List.length_drop, HN.out]; omega)
      have hO : O = ⟨rows, p, 0⟩ := by rw [HP.out, hpn, scan_nil]; simp
      have HO2 := hide hO
      have i1 : ¬ (p : Int) < n := by omega
      clear hpn hO HP HO
      go_wp2_with fail
      go_ret3
      rw [HO2.out]
      exact ⟨A, k, c, vs, rfl, HK.out, HW.out, HB.out, hle, HF.out, B⟩
end Go.Proofs.Ytfhlfnoiknhleaa
