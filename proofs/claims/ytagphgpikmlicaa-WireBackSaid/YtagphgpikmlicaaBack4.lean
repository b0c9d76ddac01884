/-
  The walk of WireBack.
-/
import Derived.Test.YtagphgpikmlicaaFrames4
import Derived.Test.YtagphgpikmlicaaBackP
import Derived.Test.YtagphgpikmlicaaOpenB
import Derived.Test.YtagphgpikmlicaaArgs
import Derived.Test.YtagphgpikmlicaaStrs
namespace Go.Proofs.Ytagphgpikmlicaa
open Go.RowKit Go.ChangeShapes Go.WideShapes Go.Deep
set_option linter.unusedVariables false

/-- A slice of parts that came in, with the numbers and texts that they have. -/
structure Parts (w : World) (A : Option Addr) (n c : Nat) : Prop where
  le : n ≤ c
  max : c ≤ maxLen
  row : ∃ f : Nat → Int × ByteArray, ∀ i, i < n → ∃ (b o : Nat), A = some ⟨b, o, none⟩ ∧ b < w.heap.size ∧ w.cell? ⟨b, o + i * 3 + 1, none⟩ = some (.int .i64 (f i).1) ∧ w.cell? ⟨b, o + i * 3 + 2, none⟩ = some (.string (f i).2) ∧ (f i).2.size ≤ 9223372036854775807 ∧ -9223372036854775808 ≤ (f i).1 ∧ (f i).1 ≤ 9223372036854775807
theorem of_args_Part {H : Type} {enc : TypeId × Value → H} {base : Nat} {held : Bool} {fs : Array Field} {w : World} {A : Option Addr} {n c : Nat} (h : ArgS enc Try.prog base held fs w A n c) (hfs : Try.prog.underlying 33 = some (.struct fs)) : Parts w A n c := by
  have hu := Try.underlying33
  rw [hu] at hfs
  injection hfs with hfs
  injection hfs with hfs
  subst hfs
  refine ⟨h.le, h.max, ?_⟩
  have each : ∀ i, ∃ p : Int × ByteArray, i < n → ∃ (b o : Nat), A = some ⟨b, o, none⟩ ∧ b < w.heap.size ∧ w.cell? ⟨b, o + i * 3 + 1, none⟩ = some (.int .i64 p.1) ∧ w.cell? ⟨b, o + i * 3 + 2, none⟩ = some (.string p.2) ∧ p.2.size ≤ 9223372036854775807 ∧ -9223372036854775808 ≤ p.1 ∧ p.1 ≤ 9223372036854775807 := by
    intro i
    by_cases hi : i < n
    · obtain ⟨b, o, vs, rfl, hb, hlen, hcell, hf⟩ := h.at_ i hi
      obtain ⟨v1, h1, f1⟩ := hf 1 _ rfl
      obtain ⟨v2, h2, f2⟩ := hf 2 _ rfl
      obtain ⟨num, rfl, w1⟩ := f1.int Try.underlying2
      obtain ⟨s, rfl, hs⟩ := f2.string Try.underlying9
      obtain ⟨b1, b2⟩ := i64_bd w1
      exact ⟨(num, s), fun _ => ⟨b, o, rfl, hb, hcell 1 _ h1, hcell 2 _ h2, hs, b1, b2⟩⟩
    · exact ⟨(0, .empty), fun h => absurd h hi⟩
  exact ⟨fun i => (each i).choose, fun i => (each i).choose_spec⟩
theorem OpenedAt.get {w w' : World} {P : List UInt8} {s y m : Nat} {e : Ending} (h : OpenedAt w ⟨P, s, y⟩ e w') (hn : P.length = m) :
    ∃ A c, e = .returned (.tuple #[.slice A m c, .int .i64 (s : Nat), .int .i64 (y : Nat)]) ∧ Cells w' A (u8s P) ∧ m ≤ c ∧ Below w.heap.size w w' := by
  subst hn
  obtain ⟨A, c, rfl, -, hA, hc, -, hb⟩ := h
  exact ⟨A, c, rfl, hA, hc, hb⟩
set_option maxRecDepth 100000 in
set_option maxHeartbeats 1600000 in
theorem wireBack_walk (A0 : Option Addr) (n0 c0 : Nat) (A1 : Option Addr) (c1 : Nat) (l1 : List Int) (A2 : Option Addr) (c2 : Nat) (l2 : List Int) (a3 a4 : Int) (w : World) (h0 : Parts w A0 n0 c0) (h1 : ArgI .u8 w A1 c1 l1) (h2 : ArgI .u8 w A2 c2 l2) (_w3 : (Lit.int .i64 a3).wf = true) (w4 : (Lit.int .u8 a4).wf = true) (r1 : l1.length ≤ 140737488351232) :
    Calls Try.prog 8 #[.slice A0 n0 c0, .slice A1 l1.length c1, .slice A2 l2.length c2, .int .i64 a3, .int .u8 a4] w fun e w' => e = .returned (.bool true) ∧ Below w.heap.size w w' := by
  obtain ⟨x, rfl⟩ := byte_of w4
  obtain ⟨b, hb, hB0⟩ := h2.bytes
  obtain ⟨ah, hah, hAH⟩ := h1.bytes
  have hn0 : n0 ≤ 9223372036854775807 := by have := h0.le; have := h0.max; unfold maxLen at this; omega
  have hm2 : c2 ≤ 9223372036854775807 := h2.max
  have hl2 := h2.le
  clear h1 h2 w4 _w3
  obtain ⟨n2, e2⟩ : ∃ n2, n2 = l2.length := ⟨_, rfl⟩
  rw [← e2] at hl2 hb ⊢
  clear e2
  obtain ⟨n1, e1⟩ : ∃ n1, n1 = l1.length := ⟨_, rfl⟩
  rw [← e1] at hah r1 ⊢
  clear e1
  obtain ⟨m2, em2⟩ : ∃ m, m = min n2 255 := ⟨_, rfl⟩
  obtain ⟨M, eM⟩ : ∃ M, M = b.take m2 := ⟨_, rfl⟩
  have hM : M.length = m2 := by rw [eM]; simp; omega
  have hMc : Cells w A2 (u8s M) := by rw [eM]; exact hB0.takeB m2
  have hm2' : m2 ≤ 255 := by omega
  have hm2c : m2 ≤ c2 := by omega
  have HML := hide hM
  have HAL := hide hah
  have E2 := hide em2
  obtain ⟨f, hf⟩ := h0.row
  clear hb hB0 eM hM em2 h0 hah
  go_enter Try.func8, Try.ntmps8
  go_wp2_with fail
  refine (newWriter_any _).mono ?_
  rintro e w1 ⟨d, rfl, hd, W1, B1⟩
  go_wp2_with fail
  go_loopw [12] (fun i wr => ∃ (k : Nat) (r : Option Nat), k ≤ n0 ∧ k ≤ 20 ∧ i = .int .i64 k ∧ Hid (WriterAt wr d r (partsL f k)) ∧ Below w.heap.size w wr) (fun i _ => 20 - (intOf i).toNat)
  case atStart => exact ⟨0, none, Nat.zero_le _, by omega, rfl, W1, B1⟩
  case round =>
    obtain ⟨k, r, hk, hk20, rfl, HW, B⟩ := hrel
    clear W1 B1
    have hLk := length_partsL f k
    by_cases hlt : k < n0 ∧ k < 20
    · obtain ⟨hlt, hlt20⟩ := hlt
      obtain ⟨b5, o5, rfl, hb5, q1, q2, hs, hnl, hnh⟩ := hf k hlt
      have i1 : (k : Int) < n0 := by omega
      have i2 : (k : Int) < 20 := by omega
      have hnext : Hid (partsL f (k + 1) = partsL f k ++ (le 1 (u64N (f k).1) ++ (le 8 (u64N (f k).1) ++ textL (headS (f k).2 255).data.toList))) := rfl
      have hsz := headS_size (f k).2 255
      obtain ⟨num, en⟩ : ∃ num, num = (f k).1 := ⟨_, rfl⟩
      obtain ⟨s, es⟩ : ∃ s, s = (f k).2 := ⟨_, rfl⟩
      rw [← en] at q1 hnl hnh hnext
      rw [← es] at q2 hs hnext hsz
      obtain ⟨S, eS⟩ : ∃ S, S = headS s 255 := ⟨_, rfl⟩
      rw [← eS] at hnext hsz
      have HS := hide eS
      obtain ⟨L, eL⟩ : ∃ L, L = partsL f k := ⟨_, rfl⟩
      have HWL : Hid (WriterAt wr d r L) := by rw [eL]; exact HW
      rw [← eL] at hLk hnext
      have p1 := (B.cell (p := ⟨b5, o5 + k * 3 + 1, none⟩) hb5).trans q1
      have hSz : S.size ≤ 9223372036854775807 := by omega
      have hSl : S.data.toList.length ≤ 255 := by show S.size ≤ 255; omega
      clear en es eS eL HW hsz hf
      go_wp2_with fail
      refine (byte_any d r L num _ HWL.out (by omega)).mono ?_
      rintro e w2 ⟨rfl, ⟨r2, W2, -⟩, L2⟩
      have B2 := writer_below (l2 := []) hd B HWL.out L2
      have p2 := (B2.cell (p := ⟨b5, o5 + k * 3 + 1, none⟩) hb5).trans q1
      clear L2 p1
      go_wp2_with fail
      refine (long_any d r2 _ num _ W2 (by simp [length_le]; omega)).mono ?_
      rintro e w3 ⟨rfl, ⟨r3, W3, -⟩, L3⟩
      have B3 := writer_below (l2 := []) hd B2 W2 L3
      have p3 := (B3.cell (p := ⟨b5, o5 + k * 3 + 2, none⟩) hb5).trans q2
      clear L3 p2 W2 B2 B HWL
      go_wp2_with fail
      refine (head_any s 255 255 _ rfl hs).mono ?_
      rw [← HS.out]
      rintro e u ⟨rfl, rfl⟩
      go_wp2_with fail
      refine (text_any d r3 _ S _ W3 (by simp [length_le]; omega) hSz).mono ?_
      rintro e w4 ⟨rfl, ⟨r4, W4, -⟩, L4⟩
      have B4 := writer_below (l2 := []) hd B3 W3 L4
      have HW4 : Hid (WriterAt w4 d r4 (partsL f (k + 1))) := by
        rw [hnext.out]
        simpa only [List.append_assoc] using hide W4
      clear L4 p3 W3 W4 B3 hnext q1 q2
      go_wp2_with fail
      go_roundw
      case rel => exact ⟨k + 1, r4, by omega, by omega, by go_num, HW4, B4⟩
      case measure => simp [intOf]; omega
    · have hkk : ¬ (k : Int) < n0 ∨ ((k : Int) < n0 ∧ ¬ (k : Int) < 20) := by omega
      have hkn : ∀ j : Nat, j < k → (j : Int) < n0 ∧ (j : Int) < 20 := fun j hj => by omega
      obtain ⟨N, eN⟩ : ∃ N, N = (partsL f k).length := ⟨_, rfl⟩
      have hN : N ≤ 5300 := by omega
      have HN := hide eN
      have HK := hide hkn
      clear eN hLk hlt hkn
      rcases hkk with i1 | ⟨i1, i2⟩
      all_goals
        go_wp2_with fail
        refine (done_any d r _ _ HW.out (by have := HN.out; omega)).mono ?_
        intro e w2 hx2
        obtain ⟨A3, c3, rfl, -, h3, -, -, hb2⟩ := hx2.n HN.out.symm
        have B2 := nxt B hb2
        clear hx2 hb2 HW
        go_wp2_with fail
        refine (newReader_any A3 N c3 _ _ HN.out.symm (by omega) h3).mono ?_
        rintro e w3 ⟨d1, rfl, hd1, R1, hb3⟩
        have hd1w : w.heap.size ≤ d1 := by have := B2.size; omega
        have B3 := nxt B2 hb3
        have HR1 := hide R1
        clear hd1 R1 hb3 B2 B h3
        go_wp2_with fail
        go_loopw [14] (fun i wr => ∃ (k' : Nat) (R : List UInt8), k' ≤ k ∧ i = .int .i64 k' ∧ Hid (partsL f k = partsL f k' ++ R) ∧ Hid (ReaderAt wr d1 ⟨R, false⟩) ∧ Below w.heap.size w wr) (fun i _ => k - (intOf i).toNat)
        case atStart => exact ⟨0, _, Nat.zero_le _, rfl, rfl, HR1, B3⟩
        case round =>
          obtain ⟨k', R, hk', rfl, HP, HR, BB⟩ := hrel
          clear HR1 B3
          by_cases hlk : k' < k
          · obtain ⟨j1, j2⟩ := HK.out k' hlk
            obtain ⟨b5, o5, rfl, hb5, q1, q2, hs, hnl, hnh⟩ := hf k' (by omega)
            obtain ⟨R', hR'⟩ := partsL_split f hlk
            have hRe : R = pieceL (f k') ++ R' := List.append_cancel_left (HP.out.symm.trans hR')
            have hP' : Hid (partsL f k = partsL f (k' + 1) ++ R') := by show _ = _; rw [hR']; simp [partsL]
            have hpl : pieceL (f k') = le 1 (u64N (f k').1) ++ (le 8 (u64N (f k').1) ++ textL (headS (f k').2 255).data.toList) := rfl
            have hsz := headS_size (f k').2 255
            obtain ⟨num, en⟩ : ∃ num, num = (f k').1 := ⟨_, rfl⟩
            obtain ⟨s, es⟩ : ∃ s, s = (f k').2 := ⟨_, rfl⟩
            rw [← en, ← es] at hpl
            rw [← en] at q1 hnl hnh
            rw [← es] at q2 hs hsz
            obtain ⟨S, eS⟩ : ∃ S, S = headS s 255 := ⟨_, rfl⟩
            rw [← eS] at hpl hsz
            have HS := hide eS
            rw [hpl, List.append_assoc, List.append_assoc] at hRe
            obtain ⟨g1, g2⟩ := back_byte num (le 8 (u64N num) ++ (textL S.data.toList ++ R'))
            obtain ⟨g3, g4⟩ := back_long num (textL S.data.toList ++ R') hnl hnh
            obtain ⟨g5, g6⟩ := back_text S R' (by omega)
            have hu8 := u8_u64N num
            obtain ⟨V, eV⟩ : ∃ V, V = u64N num % 256 := ⟨_, rfl⟩
            have hV : V < 256 := by omega
            have hwV : IntKind.i64.wrap (V : Int) = (V : Int) := IntWalk.i64_in _ (by omega)
            rw [← eV] at hu8 g1
            obtain ⟨X1, eX1⟩ : ∃ X1, X1 = le 8 (u64N num) ++ (textL S.data.toList ++ R') := ⟨_, rfl⟩
            obtain ⟨X2, eX2⟩ : ∃ X2, X2 = textL S.data.toList ++ R' := ⟨_, rfl⟩
            rw [← eX1] at g1 g2 hRe
            rw [← eX2] at g3 g4 g5 g6 eX1
            rw [← hRe] at g1 g2
            rw [← eX1] at g3 g4
            have G1 := hide g1
            have G2 := hide g2
            have G3 := hide g3
            have G4 := hide g4
            have G5 := hide g5
            have G6 := hide g6
            have fa1 : ∀ w0, Below w.heap.size w w0 → ∀ u, Below d1 w0 u → u.cell? ⟨b5, o5 + k' * 3 + 1, none⟩ = some (.int .i64 num) := fun w0 b0 u hu => ((b0.trans (hu.mono hd1w)).cell (p := ⟨b5, _, none⟩) hb5).trans q1
            have fa2 : ∀ w0, Below w.heap.size w w0 → ∀ u, Below d1 w0 u → u.cell? ⟨b5, o5 + k' * 3 + 2, none⟩ = some (.string s) := fun w0 b0 u hu => ((b0.trans (hu.mono hd1w)).cell (p := ⟨b5, _, none⟩) hb5).trans q2
            have FA1 := hide fa1
            have FA2 := hide fa2
            have f1 := FA1.out wr.drew BB.drew
            have hRd : ReaderAt wr.drew d1 ⟨R, false⟩ := HR.out.below (nxt_drew (Below.refl _ _))
            have HRd := hide hRd
            clear g1 g2 g3 g4 g5 g6 eX1 eX2 hRe hpl eS en es eV hR' hRd fa1 fa2 q1 q2 HP HR hsz hf
            go_wp2_with fail
            refine wp_region_grow (R := Below d1) 99999 [1, 12, 22, 28] [0, 2, 3, 4, 5, 6, 7, 8, 1, 9, 10, 11, 13, 14, 15, 16, 17, 12, 18, 19, 20, 21, 23, 24, 25, 26, 27, 22, 28, 29, 30] (by kernel_rfl) (Lower.tr _) (Lower.rf _) (by kernel_rfl) (fun _ _ _ _ _ h => h) ?_
            (repeat ((first | (refine grow_skip (by rfl) (by rfl) ?_ (by first | exact Stays.rf _ | exact Lower.rf _ _ | exact Holds.rf _ _)) | (refine grow_take (v := ?_) (by rfl) (by rfl) (by rfl) ?_ ?_; rotate_left 1; focus (intro w' hSw; go_simp; (try (with_reducible rfl)); done))); (try simp only [Act.put, List.setIfInBounds_toArray, List.set_cons_zero, List.set_cons_succ])))
            refine grow_move (by rfl) (by rfl) (by rfl) (fun K hK => ?_); go_simp
            refine (rbyte_any d1 _ _ HRd.out).mono ?_
            rw [G1.out, G2.out]
            rintro e w4 ⟨rfl, T4⟩
            have b4 : Below d1 wr.drew w4 := T4.leaves.below (Nat.le_refl _) (by simp) (by have := HRd.out.lt; omega)
            have B4 := BB.drew.trans (b4.mono hd1w)
            clear f1
            have f1 := FA1.out w4 B4
            have HT4 := hide T4.at_
            clear T4
            refine hK.out _ _ (b4) ?_; clear hK K; (try simp only [Act.put, List.setIfInBounds_toArray, List.set_cons_zero, List.set_cons_succ])
            clear b4
            (repeat ((first | (refine grow_skip (by rfl) (by rfl) ?_ (by first | exact Stays.rf _ | exact Lower.rf _ _ | exact Holds.rf _ _)) | (refine grow_take (v := ?_) (by rfl) (by rfl) (by rfl) ?_ ?_; rotate_left 1; focus (intro w' hSw; go_simp; (try (with_reducible rfl)); done))); (try simp only [Act.put, List.setIfInBounds_toArray, List.set_cons_zero, List.set_cons_succ])))
            refine grow_move (by rfl) (by rfl) (by rfl) (fun K hK => ?_); go_simp
            refine (rlong_any d1 _ _ HT4.out).mono ?_
            rw [G3.out, G4.out]
            rintro e w5 ⟨rfl, T5⟩
            have b5' : Below d1 w4 w5 := T5.leaves.below (Nat.le_refl _) (by simp) (by have := HT4.out.lt; omega)
            have B5 := B4.trans (b5'.mono hd1w)
            clear f1
            have f1 := FA2.out w5 B5
            have HT5 := hide T5.at_
            clear T5
            refine hK.out _ _ (b5') ?_; clear hK K; (try simp only [Act.put, List.setIfInBounds_toArray, List.set_cons_zero, List.set_cons_succ])
            clear b5'
            (repeat ((first | (refine grow_skip (by rfl) (by rfl) ?_ (by first | exact Stays.rf _ | exact Lower.rf _ _ | exact Holds.rf _ _)) | (refine grow_take (v := ?_) (by rfl) (by rfl) (by rfl) ?_ ?_; rotate_left 1; focus (intro w' hSw; go_simp; (try (with_reducible rfl)); done))); (try simp only [Act.put, List.setIfInBounds_toArray, List.set_cons_zero, List.set_cons_succ])))
            refine grow_move (by rfl) (by rfl) (by rfl) (fun K hK => ?_); go_simp
            refine (rtext_any d1 _ _ HT5.out).mono ?_
            unfold GotText
            rw [G5.out, G6.out]
            rintro e w6 ⟨rfl, T6⟩
            have b6 : Below d1 w5 w6 := T6.leaves.below (Nat.le_refl _) (by simp) (by have := HT5.out.lt; omega)
            have B6 := B5.trans (b6.mono hd1w)
            clear f1
            have HT6 := hide T6.at_
            clear T6
            refine hK.out _ _ (b6) ?_; clear hK K; (try simp only [Act.put, List.setIfInBounds_toArray, List.set_cons_zero, List.set_cons_succ])
            clear b6
            (repeat ((first | (refine grow_skip (by rfl) (by rfl) ?_ (by first | exact Stays.rf _ | exact Lower.rf _ _ | exact Holds.rf _ _)) | (refine grow_take (v := ?_) (by rfl) (by rfl) (by rfl) ?_ ?_; rotate_left 1; focus (intro w' hSw; go_simp; (try (with_reducible rfl)); done))); (try simp only [Act.put, List.setIfInBounds_toArray, List.set_cons_zero, List.set_cons_succ])))
            refine grow_move (by rfl) (by rfl) (by rfl) (fun K hK => ?_); go_simp
            refine (head_any s 255 255 _ rfl hs).mono ?_
            rw [← HS.out]
            rintro e u ⟨rfl, rfl⟩
            refine hK.out _ _ (Lower.rf _ _) ?_; clear hK K; (try simp only [Act.put, List.setIfInBounds_toArray, List.set_cons_zero, List.set_cons_succ])
            (repeat ((first | (refine grow_skip (by rfl) (by rfl) ?_ (by first | exact Stays.rf _ | exact Lower.rf _ _ | exact Holds.rf _ _)) | (refine grow_take (v := ?_) (by rfl) (by rfl) (by rfl) ?_ ?_; rotate_left 1; focus (intro w' hSw; go_simp; (try (with_reducible rfl)); done))); (try simp only [Act.put, List.setIfInBounds_toArray, List.set_cons_zero, List.set_cons_succ])))
            refine grow_done ?_
            go_wp2_with fail
            go_roundw
            case rel => exact ⟨k' + 1, R', by omega, by go_num, hP', HT6, B6⟩
            case measure => simp [intOf]; omega
          · obtain rfl : k = k' := by omega
            have hR0 : R = [] := by
              have h2 := congrArg List.length HP.out
              rw [List.length_append] at h2
              exact List.eq_nil_of_length_eq_zero (by omega)
            subst hR0
            clear HP HK hf hlk hk' HN hN
            go_wp2_with fail
            refine (cut_any A2 n2 c2 255 _ hl2 hm2 (by omega) (by omega)).mono ?_
            rw [show min n2 (255 : Int).toNat = m2 from E2.out.symm]
            rintro e u ⟨rfl, rfl⟩
            go_wp2_with fail
            refine (frame_ok A2 m2 c2 M _ HML.out hm2' (hMc.below BB)).mono ?_
            obtain ⟨N6, eN6⟩ : ∃ N6, N6 = m2 + 6 := ⟨_, rfl⟩
            have hfl : (frameL M).length = N6 := by rw [length_frameL, HML.out, eN6]
            have hop : openL (ah ++ frameL M) (n1 : Nat) = ⟨M, n1 + N6, 0⟩ := by
              have := back_frame ah M (by rw [HML.out]; exact hm2')
              rw [HAL.out, HML.out] at this
              rw [this, eN6, Nat.add_assoc]
            have htu := fun (j : Nat) (y : UInt8) (hy : (frameL M)[j]? = some y) => back_turned M (by rw [HML.out]; exact hm2') j y x hy
            obtain ⟨G, eG⟩ : ∃ G, G = frameL M := ⟨_, rfl⟩
            rw [← eG] at hfl hop htu ⊢
            have HFL := hide hfl
            have HOP := hide hop
            have HTU := hide htu
            rintro e w5 ⟨AF, cF, rfl, ownF0, hF, hFc, hFm, hb⟩
            rw [hfl] at ownF0 hFc ⊢
            have hcFm : cF ≤ 9223372036854775807 := hFm
            have B5 := nxt BB hb
            have HR5 := hide (HR.out.below hb)
            have ownF := own_base ownF0 BB.size
            have hA5 := hAH.below B5
            have hN6 : N6 ≤ 300 := by omega
            have t1 : ((N6 : Int) != (m2 : Int) + 6) = false := by rw [eN6]; simp
            have i6 : 6 ≤ N6 := by omega
            clear eG hfl hop htu hb HR BB ownF0 hFm eN6 hAH
            go_wp2_with (first
              | (fail_if_success (have := p6)
                 at_builtin
                 refine wpList_appB elU8 (World.ownsRow_lit (base := w5.heap.size) w5 #[] 0 (Nat.le_refl _) (Nat.zero_le _) rfl) (news := u8s ah) rfl _ _ rfl rfl rfl (by rw [length_u8s]; exact HAL.out) (hA5.alloc _) (u8s_one ah) (by omega) (by simp) n1 (u8s ah) (by omega) (by simp) ?_
                 intro A6 c6 w6 p6
                 have B6 := p6.below _ _ (Nat.le_refl _) (nxt_alloc (Below.refl _ _) _)
                 have own6 := p6.own)
              | (at_builtin
                 refine wpList_appB elU8 own6 (news := u8s G) rfl _ _ rfl rfl rfl (by rw [length_u8s]; exact HFL.out) (hF.below B6) (u8s_one G) (by omega) B6.size (n1 + N6) (u8s (ah ++ G)) rfl (by simp [u8s]) ?_
                 intro A7 c7 w7 p7))
            have B7 := p7.below _ _ (Nat.le_refl _) B6
            have own7 := p7.own
            have hle7 := own_shape_le own7
            have hcm7 : c7 ≤ 9223372036854775807 := by
              obtain ⟨A', c', hv', _, hm'⟩ := own_shape own7
              injection hv' with _ _ hcc
              subst hcc
              exact hm'
            have hl7 : (ah ++ G).length = n1 + N6 := by rw [List.length_append, HAL.out, HFL.out]
            have hc7 := Cells.of_own own7
            obtain ⟨Z, eZ⟩ : ∃ Z, Z = ah ++ G := ⟨_, rfl⟩
            rw [← eZ] at hl7 hc7
            have HL7 := hide hl7
            have HZ := hide eZ
            clear p6 p7 own6 own7 B6 hl7 eZ hA5 hF
            refine (open_big A7 (n1 + N6) c7 Z n1 _ HL7.out (by omega) hle7 hcm7 hc7).mono ?_
            rw [HZ.out, HOP.out]
            intro e w8 hx8
            obtain ⟨AX, cX, rfl, hX, -, hb8⟩ := hx8.get HML.out
            have B58 := B7.trans (hb8.mono B7.size)
            have B8 := nxt B5 B58
            have HR8 := hide (HR5.out.below B58)
            have own8 := own_below ownF (B58.mono (Nat.le_refl _))
            have k1 := run_str (P := Try.prog) Try.underlying22 Try.underlying5 Try.underlying9 cX HML.out hX
            have k2 := run_str (P := Try.prog) Try.underlying22 Try.underlying5 Try.underlying9 c2 HML.out (hMc.below B8)
            have t2 : (((n1 + N6 : Nat) : Int) != (n1 : Int) + N6) = false := by simp
            clear hx8 hb8 B58 B7 hc7 HR5 ownF B5 HL7 HZ hle7 hcm7
            go_wp2_with fail
            refine (rend_any d1 _ _ HR8.out).mono ?_
            rw [show Rd.endOf ⟨[], false⟩ = 0 from rfl]
            rintro e u ⟨rfl, rfl⟩
            obtain ⟨gx, rfl, hgx, hgl⟩ := own_some own8 (show 0 < N6 by omega)
            have hwb := within_bd a3 0 ((N6 : Int) - 1) (by omega)
            obtain ⟨j, hj⟩ : ∃ j : Nat, within a3 0 ((N6 : Int) - 1) = j := ⟨(within a3 0 ((N6 : Int) - 1)).toNat, by omega⟩
            have hjl : j < N6 := by omega
            have HWJ := hide hj
            clear hj hwb
            obtain ⟨b5, o5, y, hA5, hb5, hc5, hy⟩ := (Cells.of_own own8).byte_at (k := j) (by rw [HFL.out]; exact hjl)
            injection hA5 with hA5
            injection hA5 with e1 e2
            subst e1; subst e2
            rw [Nat.zero_add] at hc5
            have hf5 := own8.frozenAt j
            have hxr := xor_u8 y x
            have st := own8.stored j (.int .u8 ((y ^^^ x).toNat : Int))
            have hset : (u8s G).set j (.int .u8 ((y ^^^ x).toNat : Int)) = u8s (G.set j (y ^^^ x)) := by simp [u8s, List.map_set]
            rw [hset] at st
            have hut := HTU.out j y hy
            obtain ⟨V, eV⟩ : ∃ V, V = (y ^^^ x).toNat := ⟨_, rfl⟩
            obtain ⟨X, eX⟩ : ∃ X, X = G.set j (y ^^^ x) := ⟨_, rfl⟩
            have hXl : X.length = N6 := by rw [eX, List.length_set]; exact HFL.out
            rw [← eV] at hxr st
            rw [← eX] at hut st
            have BX : Below w.heap.size w (w8.setCell ⟨gx, j, none⟩ (.int .u8 (V : Int))) := B8.setCell (by exact hgx) _
            have HXC := hide (Cells.of_own st.1)
            have HXL := hide hXl
            have HUT := hide hut
            have j1 : (0 : Int) < N6 := by omega
            have j2 : (j : Int) < N6 := by omega
            clear st eV eX hset hXl hut own8 hy HTU HOP
            go_wp2_with fail
            refine (within_any a3 0 _ _ (by omega) (by omega) (by omega)).mono ?_
            rw [HWJ.out]
            rintro e u ⟨rfl, rfl⟩
            clear k1 k2 t1 t2
            go_wp2_with fail
            refine (open_big (some ⟨gx, 0, none⟩) N6 cF X 0 _ HXL.out (by omega) hFc hcFm HXC.out).mono ?_
            rw [show openL X 0 = _ from HUT.out]
            by_cases hx0 : x = 0
            · rw [if_pos hx0]
              have hT : (x.toNat : Int) = 0 := by rw [hx0]; rfl
              intro e w9 hx9
              obtain ⟨AY, cY, rfl, -, -, hb9⟩ := hx9.get HML.out
              have B9 := nxt BX hb9
              clear hx9 hb9 hxr
              go_wp2_with fail
              refine (known4_any _).mono ?_
              rintro e w10 ⟨rfl, hb⟩
              go_wp2_with fail
              go_ret
              exact ⟨rfl, nxt B9 hb⟩
            · rw [if_neg hx0]
              have hT0 : x.toNat ≠ 0 := fun h => hx0 (UInt8.toNat_inj.1 (by rw [h]; rfl))
              have hT : ((x.toNat : Int) == 0) = false := by simp; omega
              intro e w9 hx9
              obtain ⟨AY, cY, rfl, -, -, hb9⟩ := hx9.get (rfl : ([] : List UInt8).length = 0)
              have B9 := nxt BX hb9
              clear hx9 hb9 hxr hT0
              go_wp2_with fail
              refine (known4_any _).mono ?_
              rintro e w10 ⟨rfl, hb⟩
              go_wp2_with fail
              go_ret
              exact ⟨rfl, nxt B9 hb⟩
end Go.Proofs.Ytagphgpikmlicaa
