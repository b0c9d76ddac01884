/-
  The walk of WireTells.
-/
import Derived.Test.YtagphgpikmlicaaFrames4
import Derived.Test.YtagphgpikmlicaaGet4
import Derived.Test.YtagphgpikmlicaaPut4
import Derived.Test.YtagphgpikmlicaaArgs
import Derived.Test.YtagphgpikmlicaaStrs
namespace Go.Proofs.Ytagphgpikmlicaa
open Go.RowKit Go.ChangeShapes Go.WideShapes Go.Deep
set_option linter.unusedVariables false

/-- A slice of parts that came in. -/
structure Parts (w : World) (A : Option Addr) (n c : Nat) : Prop where
  le : n ≤ c
  max : c ≤ maxLen
  row : ∀ i, i < n → ∃ (b o : Nat) (kind num : Int) (s : ByteArray), A = some ⟨b, o, none⟩ ∧ b < w.heap.size ∧ w.cell? ⟨b, o + i * 3, none⟩ = some (.int .i64 kind) ∧ w.cell? ⟨b, o + i * 3 + 1, none⟩ = some (.int .i64 num) ∧ w.cell? ⟨b, o + i * 3 + 2, none⟩ = some (.string s) ∧ s.size ≤ 9223372036854775807
theorem Parts.at_ {w w' : World} {A : Option Addr} {n c : Nat} (h : Parts w A n c) (hb : Below w.heap.size w w') {i : Nat} (hi : i < n) :
    ∃ (b o : Nat) (kind num : Int) (s : ByteArray), A = some ⟨b, o, none⟩ ∧ b < w.heap.size ∧ w'.cell? ⟨b, o + i * 3, none⟩ = some (.int .i64 kind) ∧ w'.cell? ⟨b, o + i * 3 + 1, none⟩ = some (.int .i64 num) ∧ w'.cell? ⟨b, o + i * 3 + 2, none⟩ = some (.string s) ∧ s.size ≤ 9223372036854775807 := by
  obtain ⟨b, o, kind, num, s, rfl, hlt, h0, h1, h2, hs⟩ := h.row i hi
  exact ⟨b, o, kind, num, s, rfl, hlt, (hb.cell (p := ⟨b, _, none⟩) hlt).trans h0, (hb.cell (p := ⟨b, _, none⟩) hlt).trans h1, (hb.cell (p := ⟨b, _, none⟩) hlt).trans h2, hs⟩
theorem of_args_Part {H : Type} {enc : TypeId × Value → H} {base : Nat} {held : Bool} {fs : Array Field} {w : World} {A : Option Addr} {n c : Nat} (h : ArgS enc Try.prog base held fs w A n c) (hfs : Try.prog.underlying 33 = some (.struct fs)) : Parts w A n c := by
  have hu := Try.underlying33
  rw [hu] at hfs
  injection hfs with hfs
  injection hfs with hfs
  subst hfs
  refine ⟨h.le, h.max, fun i hi => ?_⟩
  obtain ⟨b, o, vs, rfl, hb, hlen, hcell, hf⟩ := h.at_ i hi
  obtain ⟨v0, h0, f0⟩ := hf 0 _ rfl
  obtain ⟨v1, h1, f1⟩ := hf 1 _ rfl
  obtain ⟨v2, h2, f2⟩ := hf 2 _ rfl
  obtain ⟨kind, rfl, w0⟩ := f0.int Try.underlying3
  obtain ⟨num, rfl, w1⟩ := f1.int Try.underlying2
  obtain ⟨s, rfl, hs⟩ := f2.string Try.underlying9
  exact ⟨b, o, kind, num, s, rfl, hb, hcell 0 _ h0, hcell 1 _ h1, hcell 2 _ h2, hs⟩
theorem own_addr {w : World} {base : Nat} {e : TypeId} {size : Nat} {A : Option Addr} {n c : Nat} {xs : List Value} (h : w.ownsRow base e size (.slice A n c) n xs) {b o : Nat} (hA : A = some ⟨b, o, none⟩) : (Value.slice A n c).ownBlock = some b := by
  subst hA; rfl
set_option maxRecDepth 100000 in
set_option maxHeartbeats 1600000 in
theorem wireTells_walk (A0 : Option Addr) (n0 c0 : Nat) (A1 : Option Addr) (c1 : Nat) (l1 : List Int) (A2 : Option Addr) (c2 : Nat) (l2 : List Int) (a3 a4 : Int) (w : World) (h0 : Parts w A0 n0 c0) (h1 : ArgI .i64 w A1 c1 l1) (h2 : ArgI .u8 w A2 c2 l2) (_w3 : (Lit.int .i64 a3).wf = true) (w4 : (Lit.int .u8 a4).wf = true) :
    Calls Try.prog 4 #[.slice A0 n0 c0, .slice A1 l1.length c1, .slice A2 l2.length c2, .int .i64 a3, .int .u8 a4] w fun e w' => e = .returned (.bool true) ∧ Below w.heap.size w w' := by
  obtain ⟨x, rfl⟩ := byte_of w4
  obtain ⟨b, hb, hB0⟩ := h2.bytes
  have hn0 : n0 ≤ 9223372036854775807 := by have := h0.le; have := h0.max; unfold maxLen at this; omega
  have hm1 : l1.length ≤ 9223372036854775807 := by have := h1.le; have := h1.max; unfold maxLen at this; omega
  have hm2 : c2 ≤ 9223372036854775807 := h2.max
  have hl2 := h2.le
  have hA1 := h1.cells
  clear h1 h2 w4 _w3
  obtain ⟨n2, e2⟩ : ∃ n2, n2 = l2.length := ⟨_, rfl⟩
  rw [← e2] at hl2 hb ⊢
  clear e2
  obtain ⟨m2, em2⟩ : ∃ m, m = min n2 100 := ⟨_, rfl⟩
  obtain ⟨M, eM⟩ : ∃ M, M = b.take m2 := ⟨_, rfl⟩
  have hM : M.length = m2 := by rw [eM]; simp; omega
  have hMc : Cells w A2 (u8s M) := by rw [eM]; exact hB0.takeB m2
  have hm2' : m2 ≤ 100 := by omega
  have hME := hide hM
  have E2 := hide em2
  clear hb hB0 eM hM em2
  go_enter Try.func4, Try.ntmps4
  go_wp2_with fail
  refine (newWriter_any _).mono ?_
  rintro e w1 ⟨d, rfl, hd, W1, B1⟩
  go_wp2_with fail
  go_loopw [12, 13] (fun v i wr => ∃ (k : Nat) (r : Option Nat) (L : List UInt8) (A : Option Addr) (c : Nat), k ≤ n0 ∧ k ≤ 20 ∧ i = .int .i64 k ∧ v = .slice A L.length c ∧ L.length ≤ 256 * k ∧ Hid (WriterAt wr d r L) ∧ Hid (wr.ownsRow w.heap.size 5 1 (.slice A L.length c) L.length (u8s L)) ∧
    Hid (∀ g, (Value.slice A L.length c).ownBlock = some g → g ≠ d ∧ some g ≠ r) ∧ Below w.heap.size w wr) (fun _ i _ => 20 - (intOf i).toNat)
  case atStart => exact ⟨0, none, [], none, 0, Nat.zero_le _, by omega, rfl, rfl, by simp, W1, World.ownsRow_nil _ _ _ _, fun g hg => by simp [Value.ownBlock] at hg, B1⟩
  case round =>
    obtain ⟨k, r, L, A, c, hk, hk20, rfl, rfl, hLk, HW, HO, HN, B⟩ := hrel
    clear W1 B1
    by_cases hlt : k < n0 ∧ k < 20
    · obtain ⟨hlt, hlt20⟩ := hlt
      obtain ⟨b5, o5, kind, num, s, rfl, hb5, q0, q1, q2, hs⟩ := h0.at_ B hlt
      have i1 : (k : Int) < n0 := by omega
      have i2 : (k : Int) < 20 := by omega
      have hcA := Cells.of_own HO.out
      clear h0
      go_wp2_with fail
      refine (put4_any d r A L.length c L kind num s _ HW.out rfl (by omega) hs hcA (fun b' o' hA' => HN.out _ (own_addr HO.out hA'))).mono ?_
      have hpl := length_partL kind num s
      obtain ⟨L', eL'⟩ : ∃ L', L' = L ++ partL kind num s := ⟨_, rfl⟩
      have hL' : L'.length ≤ 256 * (k + 1) := by rw [eL', List.length_append]; omega
      rw [← eL']
      clear eL'
      rintro e w2 ⟨A', c', r', rfl, own', -, W', -, hne', hL⟩
      have B' := writer_below (l2 := L) hd B HW.out hL
      have ownB := own_base own' (show w.heap.size ≤ wr.heap.size from B.size)
      have hnd : Hid (∀ g, (Value.slice A' L'.length c').ownBlock = some g → g ≠ d ∧ some g ≠ r') := hide fun g hg => ⟨by have := (own'.lt g hg).1; have := HW.out.row_lt.1; omega, hne' g hg⟩
      have HOB := hide ownB
      have HW' := hide W'
      clear ownB own' W' hne' hL q0 q1 q2 hcA B
      go_wp2_with fail
      go_roundw
      case rel => exact ⟨k + 1, r', L', A', c', by omega, by omega, by go_num, rfl, hL', HW', HOB, hnd, B'⟩
      case measure => simp [intOf]; omega
    · clear h0
      obtain ⟨N, eN⟩ : ∃ N, N = L.length := ⟨_, rfl⟩
      have hN : N ≤ 5120 := by omega
      have hown := HO.out
      rw [← eN] at hown ⊢
      have HOc := Cells.of_own hown
      have EN := hide eN
      have ks := Cells.strs (P := Try.prog) Try.underlying22 Try.underlying5 Try.underlying9 eN.symm HOc.drew c
      have HO2 := hide hown
      clear hLk HO hown eN
      have hkk : ¬ (k : Int) < n0 ∨ ((k : Int) < n0 ∧ ¬ (k : Int) < 20) := by omega
      clear hlt hk hk20
      rcases hkk with i1 | ⟨i1, i2⟩
      all_goals
        go_wp2_with fail
        refine wp_region_grow (R := Stays) 99999 [1] [0, 3, 4, 1, 2, 5] (by kernel_rfl) Stays.tr Stays.rf (by kernel_rfl) (fun _ _ _ _ _ h => h) ?_
        (repeat ((first | (refine grow_skip (by rfl) (by rfl) ?_ (by first | exact Stays.rf _ | exact Lower.rf _ _ | exact Holds.rf _ _)) | (refine grow_take (v := ?_) (by rfl) (by rfl) (by rfl) ?_ ?_; rotate_left 1; focus (intro w' hSw; go_simp; (try (with_reducible rfl)); done))); (try simp only [Act.put, List.setIfInBounds_toArray, List.set_cons_zero, List.set_cons_succ])))
        refine grow_move (by rfl) (by rfl) (by rfl) (fun K hK => ?_); go_simp
        refine (done_any d r L _ (HW.out.below (nxt_drew (Below.refl _ _))) (by have := EN.out; omega)).mono ?_
        rintro e w2 ⟨A3, c3, rfl, -, h3, -, -, hb⟩
        refine hK.out _ _ (hb) ?_; clear hK K; (try simp only [Act.put, List.setIfInBounds_toArray, List.set_cons_zero, List.set_cons_succ])
        have ks2 := Cells.strs (P := Try.prog) Try.underlying22 Try.underlying5 Try.underlying9 rfl h3 c3
        have b2 := nxt_drew (Below.refl wr.heap.size wr)
        have B2 := nxt B.drew hb
        have own2 := own_below HO2.out (b2.trans (hb.mono (Nat.le_refl _)))
        clear hb b2
        (repeat ((first | (refine grow_skip (by rfl) (by rfl) ?_ (by first | exact Stays.rf _ | exact Lower.rf _ _ | exact Holds.rf _ _)) | (refine grow_take (v := ?_) (by rfl) (by rfl) (by rfl) ?_ ?_; rotate_left 1; focus (intro w' hSw; go_simp; (try (with_reducible rfl)); done))); (try simp only [Act.put, List.setIfInBounds_toArray, List.set_cons_zero, List.set_cons_succ])))
        refine grow_done ?_
        clear ks ks2 HW HO2 HN B HOc h3
        go_upto_if 46 with (fail)
        go_cut [47] (fun s wx => Hid (∃ X : List UInt8, X.length = N ∧ wx.ownsRow w.heap.size 5 1 (.slice A N c) N (u8s X)) ∧ Below w.heap.size w wx)
        case first =>
          by_cases hz : 0 < N
          · obtain ⟨gx, rfl, hgx, hgl⟩ := own_some own2 hz
            have hwb := within_bd a3 0 ((N : Nat) - 1 : Int) (by omega)
            obtain ⟨j, hj⟩ : ∃ j : Nat, within a3 0 ((N : Nat) - 1 : Int) = j := ⟨(within a3 0 ((N : Nat) - 1 : Int)).toNat, by omega⟩
            have hjl : j < N := by omega
            have HWJ := hide hj
            clear hj hwb
            obtain ⟨b5, o5, y, hA5, hb5, hc5, hy⟩ := (Cells.of_own own2).byte_at (k := j) (by rw [← EN.out]; exact hjl)
            injection hA5 with hA5
            injection hA5 with e1 e2
            subst e1; subst e2
            rw [Nat.zero_add] at hc5
            have hf5 := own2.frozenAt j
            have hxr := xor_u8 y x
            have st := own2.stored j (.int .u8 ((y ^^^ x).toNat : Int))
            have hset : (u8s L).set j (.int .u8 ((y ^^^ x).toNat : Int)) = u8s (L.set j (y ^^^ x)) := by simp [u8s, List.map_set]
            rw [hset] at st
            obtain ⟨V, eV⟩ : ∃ V, V = (y ^^^ x).toNat := ⟨_, rfl⟩
            rw [← eV] at hxr st
            have BX : Below w.heap.size w (w2.setCell ⟨gx, j, none⟩ (.int .u8 (V : Int))) := B2.setCell (by exact hgx) _
            have HX := hide st.1
            have hlx : (L.set j (y ^^^ x)).length = N := by rw [List.length_set]; exact EN.out.symm
            have HLX := hide hlx
            clear st eV own2 hy hset hlx
            have j1 : (0 : Int) < N := by omega
            have j2 : (j : Int) < N := by omega
            go_wp2_with fail
            refine (within_any a3 0 _ _ (by omega) (by omega) (by omega)).mono ?_
            rw [HWJ.out]
            rintro e u ⟨rfl, rfl⟩
            go_wp2_with fail
            go_meet
            exact ⟨⟨_, HLX.out, HX.out⟩, BX⟩
          · obtain rfl : N = 0 := by omega
            go_wp2_with fail
            go_meet
            exact ⟨⟨L, EN.out.symm, own2⟩, B2⟩
        obtain ⟨HX, BX⟩ := hcut
        obtain ⟨X, hXl, ownx⟩ := HX.out
        have HXL := hide hXl
        clear HX own2 B2 hXl
        go_wp2_with fail
        refine (cut_any A2 n2 c2 100 _ hl2 hm2 (by omega) (by omega)).mono ?_
        rw [show min n2 (100 : Int).toNat = m2 from E2.out.symm]
        rintro e u ⟨rfl, rfl⟩
        go_wp2_with (at_builtin; refine wpList_app elU8 ownx (news := u8s M) rfl _ _ rfl rfl rfl (by rw [length_u8s]; exact hME.out) (hMc.below BX) (u8s_one M) (by omega) BX.size (N + m2) (u8s (X ++ M)) rfl (by simp [u8s]) ?_; intro A5 c5 w5 p5)
        have B5 := p5.below _ _ (Nat.le_refl _) BX
        have own5 := p5.own
        have hle5 := own_shape_le own5
        have hcm5 : c5 ≤ 9223372036854775807 := by
          obtain ⟨A', c', hv', _, hm'⟩ := own_shape own5
          injection hv' with _ _ hcc
          subst hcc
          exact hm'
        have hXM : (X ++ M).length = N + m2 := by rw [List.length_append, HXL.out, hME.out]
        obtain ⟨Z, eZ⟩ : ∃ Z, Z = X ++ M := ⟨_, rfl⟩
        obtain ⟨n5, en5⟩ : ∃ n5, n5 = N + m2 := ⟨_, rfl⟩
        rw [← eZ, ← en5] at hXM
        rw [← eZ, ← en5] at own5
        rw [← en5] at hle5 ⊢
        have hn5 : n5 ≤ 5220 := by omega
        have hcZ := Cells.of_own own5
        have hlZ : ∀ a, A5 = some a → a.block < w5.heap.size := by
          rintro ⟨bz, oz, sz⟩ hz
          exact (own5.lt bz (by rw [hz]; rfl)).2
        have HZL := hide hXM
        have HLZ := hide hlZ
        clear p5 ownx BX own5 HXL eZ en5 hXM hlZ
        refine (roomy_any A5 n5 c5 Z 165 _ HZL.out (by omega) hcZ).mono ?_
        intro e w6 h6
        obtain ⟨F, cF, rfl, -, hF, hleF, hmF, hb6⟩ := h6.n (show (roomy Z 165).length = n5 + 80 by rw [length_roomy, HZL.out])
        have hFt : Cells w6 F (u8s Z) := by have := hF.takeB Z.length; rwa [take_roomy] at this
        have hcFm : cF ≤ 9223372036854775807 := hmF
        have B6 := nxt B5 hb6
        have hcZ6 := hcZ.below hb6
        have hlt6 : ∀ a, A5 = some a → a.block < w6.heap.size := fun a ha => Nat.lt_of_lt_of_le (HLZ.out a ha) hb6.size
        have HLT := hide hlt6
        have i9 : (n5 : Int) ≤ cF := by omega
        clear h6 hb6 hcZ hlt6 hmF B5
        go_wp2_with fail
        refine (newReader_any F n5 cF Z _ HZL.out (by omega) hFt).mono ?_
        rintro e w7 ⟨d1, rfl, hd1, R1, hb7⟩
        obtain ⟨w8, ew8⟩ : ∃ w8, w8 = w7.alloc (.cells #[.slice A5 n5 c5, .int .i64 0, .int .i64 0] 42) := ⟨_, rfl⟩
        obtain ⟨d2, ed2⟩ : ∃ d, d = w7.heap.size := ⟨_, rfl⟩
        have hd12 : d1 < d2 := by have := R1.lt; omega
        have hb78 : Below w7.heap.size w7 w8 := by rw [ew8]; exact nxt_alloc (Below.refl _ _) _
        have hBoth : Hid (Both w8 d1 d2 w6.heap.size ⟨Z, false⟩) := by
          refine ⟨R1.below hb78, ?_, hd12, hd1, by show Z.length ≤ _; have := HZL.out; omega⟩
          rw [ew8, ed2]
          exact RefAt.new HZL.out (hcZ6.below hb7) HLT.out hb7.size hle5 hcm5
        have hb68 : Below w6.heap.size w6 w8 := nxt hb7 hb78
        clear R1 hb7 hb78 HLT
        go_wp2_with fail
        rw [← ew8, ← ed2]
        clear ew8 ed2
        go_loopw [17] (fun i wr => ∃ (k : Nat) (s : Rd), k ≤ l1.length ∧ k ≤ 30 ∧ i = .int .i64 k ∧ Hid (Both wr d1 d2 w6.heap.size s) ∧ Below w6.heap.size w6 wr) (fun i _ => 30 - (intOf i).toNat)
        case atStart => exact ⟨0, _, Nat.zero_le _, by omega, rfl, hBoth, hb68⟩
        case round =>
          obtain ⟨k', s, hk, hk30, rfl, HB, BB⟩ := hrel
          clear hBoth hb68
          by_cases hlt : k' < l1.length ∧ k' < 30
          · obtain ⟨hlt, hlt30⟩ := hlt
            have BW := nxt B6 BB
            obtain ⟨b5, o5, y, rfl, hb5, hc5', hy⟩ := hA1.int_at (k := k') hlt
            have hc5 := (BW.cell (p := ⟨b5, o5 + k', none⟩) hb5).trans hc5'
            have hwb := within_bd y 0 2 (by omega)
            have j1 : (k' : Int) < l1.length := by omega
            have j2 : (k' : Int) < 30 := by omega
            clear hc5' hA1
            go_wp2_with fail
            refine (within_any y 0 2 _ (by omega) (by omega) (by omega)).mono ?_
            rintro e u ⟨rfl, rfl⟩
            obtain ⟨kd, ekd⟩ : ∃ kd, kd = within y 0 2 := ⟨_, rfl⟩
            rw [← ekd] at hwb ⊢
            clear ekd
            go_wp2_with fail
            refine (get4_any d1 d2 w6.heap.size s _ _ HB.out).mono ?_
            rintro e w9 ⟨rfl, hBoth', hb9⟩
            have HB' := hide hBoth'
            have BB' := BB.trans (hb9.mono hd1)
            clear hBoth' hb9 BB
            go_wp2_with fail
            go_roundw
            case rel => exact ⟨k' + 1, _, by omega, by omega, by go_num, HB', BB'⟩
            case measure => simp [intOf]; omega
          · have hkk : ¬ (k' : Int) < l1.length ∨ ((k' : Int) < l1.length ∧ ¬ (k' : Int) < 30) := by omega
            have hF9 := hF.below BB
            have hZ9 := hcZ6.below BB
            have BW := nxt B6 BB
            clear hlt hk hk30 HB BB hF hFt hcZ6 hA1
            rcases hkk with j1 | ⟨j1, j2⟩
            all_goals
              go_wp2_with fail
              refine (intact_true F A5 _ cF n5 c5 Z 165 _ rfl hleF hcFm HZL.out (by omega) hF9 hZ9).mono ?_
              rintro e w9 ⟨rfl, hb9⟩
              go_wp2_with fail
              refine (known4_any _).mono ?_
              rintro e w10 ⟨rfl, hb10⟩
              go_wp2_with fail
              go_ret
              exact ⟨rfl, nxt (nxt BW hb9) hb10⟩
end Go.Proofs.Ytagphgpikmlicaa
