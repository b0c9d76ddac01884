/-
  The walk of ReportWords.
-/
import Derived.Test.YtbfjdhbgpjenbaaDoorArgs7
import Derived.Test.YtbfjdhbgpjenbaaDoorRead7
import Derived.Test.YtbfjdhbgpjenbaaDoorText8
namespace Go.Proofs.YtbfjdhbgpjenbaaDoor
set_option linter.unusedSimpArgs false
open Go.RowKit
set_option linter.unusedVariables false

theorem Tryd.infoStr : (Tryd.prog.info? 9).map (fun i => (i.zero, i.size, i.bytes)) = some (some (.string .empty), 1, 16) := by kernel_rfl
theorem elStr : Elem Tryd.prog 26 9 (.string .empty) 16 :=
  ⟨Tryd.underlying26, let ⟨i, h, h0, h1, h2⟩ := info_parts Tryd.infoStr; ⟨i, h, h0, h1, h2⟩, rfl, by omega⟩
theorem extract_mid7 (l : List UInt8) (i j : Nat) : (str l).extract i j = str ((l.drop i).take (j - i)) := by
  show (ByteArray.mk l.toArray).extract i j = _
  rw [ByteArray.extract_mk]; simp [str]
def strsV (l : List (List UInt8)) : List Value := l.map fun x => .string (str x)
theorem strsV_snoc (l : List (List UInt8)) (x : List UInt8) : strsV (l ++ [x]) = strsV l ++ [.string (str x)] := by simp [strsV]
theorem word_at {w : World} {A : Option Addr} {W : List (List UInt8)} (h : Cells w A (strsV W)) {k : Nat} {x : List UInt8} (hx : W[k]? = some x) : ∃ b o, A = some ⟨b, o, none⟩ ∧ b < w.heap.size ∧ w.cell? ⟨b, o + k, none⟩ = some (.string (str x)) := by
  have hk : k < W.length := lt_of_some hx
  obtain ⟨b, o, u, hA, hb, hc, hu⟩ := h.val_at (k := k) (by simp [strsV]; exact hk)
  have hu2 := hu.out
  simp only [strsV, List.getElem?_map, hx, Option.map_some, Option.some.injEq] at hu2
  subst hu2
  exact ⟨b, o, hA, hb, hc⟩
theorem char_at {T : List UInt8} {i : Nat} {x : UInt8} (h : T[i]? = some x) (hlt : i < (str T).size) : (((str T)[i]'hlt).toNat : Int) = (x.toNat : Int) := by
  have hl : i < T.length := lt_of_some h
  have e1 : (str T)[i]'hlt = T[i]'hl := rfl
  rw [e1, (List.getElem?_eq_some_iff.1 h).2]
theorem cur_step {T : List UInt8} {f i : Nat} {x : UInt8} (h : T[i]? = some x) (hf : f ≤ i) : (T.drop f).take (i + 1 - f) = (T.drop f).take (i - f) ++ [x] := by
  rw [show i + 1 - f = (i - f) + 1 by omega, List.take_add_one, List.getElem?_drop, show f + (i - f) = i by omega, h]
  rfl
theorem drop_at {T : List UInt8} {i : Nat} {x : UInt8} (h : T[i]? = some x) : T.drop i = x :: T.drop (i + 1) := by
  have hl : i < T.length := lt_of_some h
  rw [List.drop_eq_getElem_cons hl, (List.getElem?_eq_some_iff.1 h).2]
/-- The digits behind the sign. -/
def signN (x : Int) : Nat := if x < 0 then 1 else 0
theorem itoa_drop (x : Int) : (Lib.itoa x).drop (signN x) = Lib.decDigits x.natAbs := by
  unfold signN
  by_cases h : x < 0
  · rw [itoa_neg h, if_pos h]; rfl
  · rw [itoa_pos h, if_neg h]; rfl
theorem valD_take (u j : Nat) : valD ((Lib.decDigits u).take j) ≤ u := by
  have := valD_ge ((Lib.decDigits u).take j) ((Lib.decDigits u).drop j)
  rw [List.take_append_drop, valD_dec] at this
  exact this
theorem sign_le (x : Int) : signN x ≤ 1 := by unfold signN; split <;> omega
theorem itoa_at0 {x : Int} {c : UInt8} (h : (Lib.itoa x)[0]? = some c) : c = 45 ↔ x < 0 := by
  by_cases hx : x < 0
  · rw [itoa_neg hx] at h
    have : c = 45 := by simpa using h.symm
    exact ⟨fun _ => hx, fun _ => this⟩
  · rw [itoa_pos hx] at h
    have hm := dec_digits _ c (mem_of_some h)
    refine ⟨fun hc => ?_, fun hc => absurd hc hx⟩
    subst hc
    exact absurd hm.1 (by decide)
theorem itoa_digit {x : Int} {q : Nat} {c : UInt8} (h : (Lib.itoa x)[q]? = some c) (hq : signN x ≤ q) : isDigit c ∧ valD ((Lib.decDigits x.natAbs).take (q + 1 - signN x)) = 10 * valD ((Lib.decDigits x.natAbs).take (q - signN x)) + (c.toNat - 48) := by
  have e : (Lib.decDigits x.natAbs)[q - signN x]? = some c := by
    rw [← itoa_drop, List.getElem?_drop, show signN x + (q - signN x) = q by omega, h]
  refine ⟨dec_digits _ c (mem_of_some e), ?_⟩
  rw [show q + 1 - signN x = (q - signN x) + 1 by omega, List.take_add_one, e]
  exact valD_snoc _ _
theorem itoa_all (x : Int) : valD ((Lib.decDigits x.natAbs).take ((Lib.itoa x).length - signN x)) = x.natAbs := by
  have : (Lib.decDigits x.natAbs).length = (Lib.itoa x).length - signN x := by rw [← itoa_drop, List.length_drop]
  rw [← this, List.take_length, valD_dec]
set_option maxRecDepth 100000 in
set_option maxHeartbeats 3200000 in
theorem reportWords_walk (r : ReportV) (w : World) (hT : PowTab w) (h0 : r.Ok w) : Calls Tryd.prog 3 #[r.val] w fun e w' => e = .returned (.bool true) ∧ Below w.heap.size w w' := by
  have HW : Hid (Rep.wf r) := hide h0
  have HT := hide hT
  obtain ⟨T, eT⟩ : ∃ T, T = textR r := ⟨_, rfl⟩
  have hTl : T.length ≤ 152 := by rw [eT]; exact text_len HW.out
  have hsp : splitW [] T = wordR r.kind :: (numsR r).map Lib.itoa := by rw [eT]; exact split_text r
  have ET := hide eT
  have HSP := hide hsp
  clear h0 hT eT hsp
  obtain ⟨w0, ew0⟩ : ∃ w0, w0 = w.alloc (.cells r.cells 24) := ⟨_, rfl⟩
  obtain ⟨g, eg⟩ : ∃ g, g = w.heap.size := ⟨_, rfl⟩
  have hC : RpAt w0 g r := by rw [ew0, eg]; exact RpAt.new _ _
  have B0 : Below w.heap.size w w0 := by rw [ew0]; exact nxt_alloc (Below.refl _ _) _
  show Calls Tryd.prog 3 #[.agg #[.int .i64 r.kind, .int .i64 r.id, .int .i64 r.inst, .int .i64 r.side, .int .i64 r.price, .int .i64 r.qty, .int .i64 r.left, .int .i64 r.why]] w _
  change w0 = w.alloc (.cells #[.int .i64 r.kind, .int .i64 r.id, .int .i64 r.inst, .int .i64 r.side, .int .i64 r.price, .int .i64 r.qty, .int .i64 r.left, .int .i64 r.why] 24) at ew0
  go_enter Tryd.func3, Tryd.ntmps3
  go_upto_region 1 with (fail)
  rw [← ew0, ← eg]
  clear ew0 eg
  obtain ⟨f0, f1, f2, f3, f4, f5, f6, f7⟩ := hC.reads'
  go_wp2_with fail
  refine (text_any r _ HW.out (HT.out.below B0)).mono ?_
  rw [← ET.out]
  rintro e w1 ⟨rfl, b1⟩
  have C1 := hide (hC.below b1)
  have B1 := nxt B0 b1
  have hsz : (str T).size = T.length := str_size T
  clear f0 f1 f2 f3 f4 f5 f6 f7 hC B0 b1
  go_wp2_with fail
  go_loopw [4, 5, 6] (fun v f i wr => ∃ (I F K : Nat) (W : List (List UInt8)) (A : Option Addr) (c : Nat), i = .int .i64 (I : Int) ∧ f = .int .i64 (F : Int) ∧ v = .slice A K c ∧ K ≤ I ∧ I ≤ T.length + 1 ∧ Hid (W.length = K) ∧ F ≤ I ∧
    Hid ((I ≤ T.length ∧ splitW [] T = W ++ splitW ((T.drop F).take (I - F)) (T.drop I)) ∨ (I = T.length + 1 ∧ splitW [] T = W)) ∧ Hid (wr.ownsRow w1.heap.size 9 1 (.slice A K c) K (strsV W)) ∧ Below w1.heap.size w1 wr) (fun _ _ i _ => T.length + 1 - (intOf i).toNat)
  case atStart => exact ⟨0, 0, 0, [], none, 0, rfl, rfl, rfl, Nat.le_refl _, by omega, rfl, Nat.le_refl _, .inl ⟨Nat.zero_le _, by simp⟩, World.ownsRow_nil _ _ _ _, Below.refl _ _⟩
  case round =>
    obtain ⟨I, F, K, W, A, c, rfl, rfl, rfl, hKI, hIT, HWL, hFI, HS, HO, B⟩ := hrel
    by_cases hle : I ≤ T.length
    · have hs1 : splitW [] T = W ++ splitW ((T.drop F).take (I - F)) (T.drop I) := by
        rcases HS.out with h | h
        · exact h.2
        · omega
      have i1 : (I : Int) ≤ T.length := by omega
      have hwI : IntKind.i64.wrap ((I : Int) + 1) = (I : Int) + 1 := IntWalk.i64_in _ (by omega)
      have hex : (str T).extract F I = str ((T.drop F).take (I - F)) := extract_mid7 T F I
      obtain ⟨cur, ecur⟩ : ∃ cur, cur = (T.drop F).take (I - F) := ⟨_, rfl⟩
      rw [← ecur] at hex hs1
      have own := HO.out
      by_cases hlt : I < T.length
      · obtain ⟨x, hx⟩ : ∃ x, T[I]? = some x := ⟨T[I], List.getElem?_eq_getElem hlt⟩
        have hlt2 : I < (str T).size := by rw [hsz]; exact hlt
        have hg := char_at hx hlt2
        have hdr := drop_at hx
        have hcs := cur_step hx hFI
        rw [← ecur] at hcs
        have i2 : ¬ I = T.length := by omega
        have i3 : ((I : Int) == (T.length : Int)) = false := by simp; omega
        by_cases h32 : x = 32
        · subst h32
          have hg2 : (((str T)[I]'hlt2).toNat : Int) = 32 := hg
          have hs2 : splitW [] T = (W ++ [cur]) ++ splitW [] (T.drop (I + 1)) := by rw [hs1, hdr, splitW, if_pos rfl]; simp
          have HS2 := hide hs2
          clear hg hdr hcs hs1 hs2 hx ecur HS
          go_wp2_with (at_builtin
                       refine wpList_push elStr own (.string (str cur)) rfl _ _ rfl rfl rfl rfl (by omega) B.size ?_
                       intro A2 c2 w2 own2 g2 b2
                       have B2 := b2 _ _ (Nat.le_refl _) B)
          have HO2 : Hid (w2.ownsRow w1.heap.size 9 1 (.slice A2 (K + 1) c2) (K + 1) (strsV (W ++ [cur]))) := hide (by rw [strsV_snoc]; exact own2)
          clear own own2 g2 b2 B HO
          go_wp2_with fail
          go_roundw
          case rel => exact ⟨I + 1, I + 1, K + 1, W ++ [cur], A2, c2, by go_num, by go_num, rfl, by omega, by omega, hide (by rw [List.length_append, HWL.out]; rfl), Nat.le_refl _, hide (.inl ⟨by omega, by rw [HS2.out]; simp⟩), HO2, B2⟩
          case measure => simp [intOf]; omega
        · have hxn : x.toNat ≠ 32 := fun h => h32 (UInt8.toNat_inj.1 (by rw [h]; rfl))
          obtain ⟨Yv, eYv⟩ : ∃ Yv : Int, Yv = (x.toNat : Int) := ⟨_, rfl⟩
          rw [← eYv] at hg
          have i4 : (Yv == 32) = false := by simp; omega
          have hs2 : splitW [] T = W ++ splitW ((T.drop F).take (I + 1 - F)) (T.drop (I + 1)) := by rw [hs1, hdr, splitW, if_neg h32, hcs]
          have HS2 := hide hs2
          clear hdr hcs hs1 hs2 hx ecur HS eYv hxn h32 hex
          go_wp2_with fail
          go_roundw
          case rel => exact ⟨I + 1, F, K, W, A, c, by go_num, rfl, rfl, by omega, by omega, HWL, by omega, hide (.inl ⟨by omega, HS2.out⟩), HO, B⟩
          case measure => simp [intOf]; omega
      · have hIe : I = T.length := by omega
        have hs2 : splitW [] T = W ++ [cur] := by rw [hs1, hIe, List.drop_length]; rfl
        have i3 : ((I : Int) == (T.length : Int)) = true := by simp; omega
        have HS2 := hide hs2
        have HIE := hide hIe
        clear hs1 hs2 ecur HS hlt hIe
        go_wp2_with (at_builtin
                     refine wpList_push elStr own (.string (str cur)) rfl _ _ rfl rfl rfl rfl (by omega) B.size ?_
                     intro A2 c2 w2 own2 g2 b2
                     have B2 := b2 _ _ (Nat.le_refl _) B)
        have HO2 : Hid (w2.ownsRow w1.heap.size 9 1 (.slice A2 (K + 1) c2) (K + 1) (strsV (W ++ [cur]))) := hide (by rw [strsV_snoc]; exact own2)
        clear own own2 g2 b2 B HO
        go_wp2_with fail
        go_roundw
        case rel => exact ⟨I + 1, I + 1, K + 1, W ++ [cur], A2, c2, by go_num, by go_num, rfl, by omega, by omega, hide (by rw [List.length_append, HWL.out]; rfl), Nat.le_refl _, hide (.inr ⟨by rw [HIE.out], HS2.out⟩), HO2, B2⟩
        case measure => simp [intOf]; omega
    · have hW : W = wordR r.kind :: (numsR r).map Lib.itoa := by
        rcases HS.out with h | h
        · omega
        · rw [← h.2]; exact HSP.out
      have hK8 : K = 8 := by rw [← HWL.out, hW]; rfl
      have i1 : ¬ (I : Int) ≤ T.length := by omega
      subst hK8
      have hcW := Cells.of_own HO.out
      have C2 := hide (C1.out.below B)
      have B2 := nxt B1 B
      have hw0 : W[0]? = some (wordR r.kind) := by rw [hW]; rfl
      have hwn : ∀ (j : Nat) (x : Int), (numsR r)[j]? = some x → W[j + 1]? = some (Lib.itoa x) := fun j x h => by rw [hW, List.getElem?_cons_succ, List.getElem?_map, h]; rfl
      have HWN := hide hwn
      obtain ⟨gb, go, hA, hgb, p0⟩ := word_at hcW hw0
      subst hA
      rw [Nat.add_zero] at p0
      clear hwn hw0 hW HS HWL HO hKI hIT hFI hle HSP
      go_upto_region 10 with (fail)
      obtain ⟨f0, f1, f2, f3, f4, f5, f6, f7⟩ := C2.out.reads'
      go_cut [57] (fun v wx => v = .bool false ∧ ∃ nn : Nat, wx = wr.drewN nn)
      case first =>
        by_cases hk1 : r.kind < 1
        · have e1 : ((str (wordR r.kind)).toList == [63]) = true := by rw [str_toList, (word_none r.kind).2 (by omega)]; rfl
          go_quiet (fail)
          go_wp2_with fail
          go_meet
          exact ⟨rfl, _, rfl⟩
        · by_cases hk5 : 5 < r.kind
          · have e1 : ((str (wordR r.kind)).toList == [63]) = true := by rw [str_toList, (word_none r.kind).2 (by omega)]; rfl
            go_quiet (fail)
            go_wp2_with fail
            go_meet
            exact ⟨rfl, _, rfl⟩
          · have e1 : ((str (wordR r.kind)).toList == [63]) = false := by
              rw [str_toList]
              have : wordR r.kind ≠ [63] := fun h => (word_none r.kind).1 h (by omega)
              simpa using this
            go_quiet (fail)
            go_wp2_with fail
            go_meet
            exact ⟨rfl, _, rfl⟩
      obtain ⟨rfl, nn, hwx⟩ := hcut
      have ewd := hwx
      have Bd : Below w1.heap.size w1 wc := by rw [ewd]; exact below_drewN B nn
      have Bd0 : Below wr.heap.size wr wc := by rw [ewd]; exact below_drewN (Below.refl _ _) nn
      have hcW2 := hcW.below Bd0
      have hC2 := C2.out.below Bd0
      clear hwx f0 f1 f2 f3 f4 f5 f6 f7 ewd B2 C2 hcW p0 hgb
      obtain ⟨f0, f1, f2, f3, f4, f5, f6, f7⟩ := hC2.reads'
      obtain ⟨L, eL⟩ : ∃ L, L = numsR r := ⟨_, rfl⟩
      obtain ⟨w2, ew2⟩ : ∃ w2, w2 = wc.alloc (.cells (i64s L).toArray 2) := ⟨_, rfl⟩
      obtain ⟨g2, eg2⟩ : ∃ g2, g2 = wc.heap.size := ⟨_, rfl⟩
      have hc : Cells w2 (some ⟨g2, 0, none⟩) (i64s L) := by rw [ew2, eg2]; exact Cells.lit wc (i64s L).toArray _
      have b2 : Below wc.heap.size wc w2 := by rw [ew2]; exact nxt_alloc (Below.refl _ _) _
      have B2 := hide (nxt (nxt B1 Bd) b2)
      have HCW := hide (hcW2.below b2)
      have HL7 : Hid (L.length = 7) := hide (by rw [eL]; rfl)
      have HIN : Hid (∀ x ∈ L, inI x) := hide (by rw [eL]; exact nums_in HW.out)
      have HWN2 : Hid (∀ (j : Nat) (x : Int), L[j]? = some x → W[j + 1]? = some (Lib.itoa x)) := hide (by rw [eL]; exact HWN.out)
      rw [eL] at ew2
      replace ew2 : w2 = wc.alloc (.cells #[.int .i64 r.id, .int .i64 r.inst, .int .i64 r.side, .int .i64 r.price, .int .i64 r.qty, .int .i64 r.left, .int .i64 r.why] 2) := ew2
      clear HWN eL b2 Bd Bd0 B
      go_wp2_with fail
      rw [← ew2, ← eg2]
      clear ew2 eg2 f0 f1 f2 f3 f4 f5 f6 f7 hC2 hcW2
      go_loopw [8] (fun v wr => ∃ j : Nat, j ≤ 7 ∧ v = .int .i64 (j : Int) ∧ Below w2.heap.size w2 wr) (fun v _ => 7 - (intOf v).toNat)
      case atStart => exact ⟨0, by omega, rfl, Below.refl _ _⟩
      case round =>
        obtain ⟨j, hj, rfl, B⟩ := hrel
        by_cases hlt : j < 7
        · obtain ⟨b, o, x, hA, hb, hcx, hx⟩ := hc.int_at (k := j) (by rw [HL7.out]; exact hlt)
          injection hA with hA
          injection hA with hA1 hA2
          subst hA1; subst hA2
          have HX : Hid (wr.cell? ⟨g2, 0 + j, none⟩ = some (.int .i64 x)) := hide ((B.cell (p := ⟨g2, 0 + j, none⟩) hb).trans hcx)
          have hxin := HIN.out x (mem_of_some hx.out)
          obtain ⟨J, eJ⟩ : ∃ J, J = j + 1 := ⟨_, rfl⟩
          obtain ⟨gb2, go2, hA, hgb, p0⟩ := word_at HCW.out (HWN2.out j x hx.out)
          injection hA with hA
          injection hA with hA1 hA2
          subst hA1; subst hA2
          rw [← eJ] at p0
          have p1 : wr.cell? ⟨gb, go + J, none⟩ = some (.string (str (Lib.itoa x))) := (B.cell (p := ⟨gb, go + J, none⟩) hgb).trans p0
          have i1 : (j : Int) < 7 := by omega
          have i2 : J < 8 := by omega
          have hwj : IntKind.i64.wrap ((j : Int) + 1) = (J : Int) := by rw [IntWalk.i64_in _ (by omega)]; omega
          obtain ⟨X, eX⟩ : ∃ X, X = Lib.itoa x := ⟨_, rfl⟩
          obtain ⟨sg, esg⟩ : ∃ sg, sg = signN x := ⟨_, rfl⟩
          obtain ⟨V, eV⟩ : ∃ V : Nat → Nat, V = fun k => valD ((Lib.decDigits x.natAbs).take k) := ⟨_, rfl⟩
          have hXl := itoa_len hxin
          have hxs : (str X).size = X.length := str_size X
          have hsg := sign_le x
          have hdig : ∀ (q : Nat) (c : UInt8), X[q]? = some c → sg ≤ q → isDigit c ∧ V (q + 1 - sg) = 10 * V (q - sg) + (c.toNat - 48) := by rw [eX, esg, eV]; exact fun q c => itoa_digit
          have hhead : ∀ c : UInt8, X[0]? = some c → (c = 45 ↔ x < 0) := by rw [eX]; exact fun c => itoa_at0
          have hVle : ∀ k, V k ≤ x.natAbs := by rw [eV]; exact fun k => valD_take _ _
          have hVall : V (X.length - sg) = x.natAbs := by rw [eX, esg, eV]; exact itoa_all x
          have hV0 : V 0 = 0 := by rw [eV]; rfl
          have hna : x.natAbs ≤ 9223372036854775808 := by have := hxin; unfold inI at this; omega
          rw [← eX] at p1 hXl
          rw [← esg] at hsg
          have hsg2 : sg = if x < 0 then 1 else 0 := esg
          have HSG := hide hsg2; have HDIG := hide hdig; have HHEAD := hide hhead; have HV := hide hVle; have HVA := hide hVall; have HV0 := hide hV0; have HNA := hide hna; have HJ := hide eJ; have HXI := hide hxin
          clear hcx hb hx p0 hgb eX esg eV hsg2 hdig hhead hVle hVall hV0 hna eJ hxin
          obtain ⟨wo, rfl⟩ : ∃ wo, wo = wr := ⟨_, rfl⟩
          go_wp2_with fail
          go_loopw [10, 11] (fun n k wq => ∃ q : Nat, k = .int .i64 (q : Int) ∧ q ≤ X.length ∧ n = .int .u64 (V (q - sg) : Int) ∧ wq = wo) (fun _ k _ => X.length - (intOf k).toNat)
          case atStart => exact ⟨0, rfl, Nat.zero_le _, by rw [Nat.zero_sub, HV0.out]; rfl, rfl⟩
          case round =>
            obtain ⟨q, rfl, hq, rfl, rfl⟩ := hrel
            by_cases hql : q < X.length
            · obtain ⟨c, hcq⟩ : ∃ c, X[q]? = some c := ⟨X[q], List.getElem?_eq_getElem hql⟩
              have hql2 : q < (str X).size := by rw [hxs]; exact hql
              have hg := char_at hcq hql2
              have hwq : IntKind.i64.wrap ((q : Int) + 1) = (q : Int) + 1 := IntWalk.i64_in _ (by omega)
              obtain ⟨Yv, eYv⟩ : ∃ Yv : Int, Yv = (c.toNat : Int) := ⟨_, rfl⟩
              rw [← eYv] at hg
              by_cases hsn : q = 0 ∧ x < 0
              · obtain ⟨hq0, hx0⟩ := hsn
                subst hq0
                have hc45 := (HHEAD.out c hcq).2 hx0
                have hY : Yv = 45 := by rw [eYv, hc45]; rfl
                subst hY
                have hs1 : sg = 1 := by rw [HSG.out, if_pos hx0]
                have HQ := hide hcq
                clear eYv hc45 hcq
                go_wp2_with fail
                go_roundw
                case rel => exact ⟨1, rfl, by omega, by rw [hs1], trivial⟩
                case measure => simp [intOf]; omega
              · have hsq : sg ≤ q := by rw [HSG.out]; split <;> omega
                obtain ⟨hd, hv⟩ := HDIG.out q c hcq hsq
                have hd1 := hd.1
                have hd2 := hd.2
                have hb1 := HV.out (q + 1 - sg)
                have hb2 := HNA.out
                obtain ⟨N, eN⟩ : ∃ N : Int, N = (V (q - sg) : Int) := ⟨_, rfl⟩
                obtain ⟨M, eM⟩ : ∃ M : Int, M = (V (q + 1 - sg) : Int) := ⟨_, rfl⟩
                obtain ⟨D, eD⟩ : ∃ D : Int, D = Yv - 48 := ⟨_, rfl⟩
                have hNM : 10 * N + D = M := by rw [eN, eM, eD, eYv, hv]; omega
                have n1 : ¬ Yv < 48 := by omega
                have n2 : ¬ 57 < Yv := by omega
                have n3 : IntKind.u8.wrap (Yv - 48) = D := by rw [eD]; exact IntWalk.u8_in _ (by omega)
                have n4 : IntKind.u64.wrap D = D := IntWalk.u64_in _ (by omega)
                have n5 : IntKind.u64.wrap (10 * N) = 10 * N := IntWalk.u64_in _ (by omega)
                have n6 : IntKind.u64.wrap (10 * N + D) = M := by rw [hNM]; exact IntWalk.u64_in _ (by omega)
                have n7 : ¬ 20 < X.length := by omega
                have n8 : ¬ (20 : Int) < X.length := by omega
                have HM := hide eM
                have n9 : ((q : Int) == 0 && Yv == 45) = false := by
                  by_cases h0 : q = 0
                  · subst h0
                    have : ¬ Yv = 45 := by omega
                    simp [this]
                  · simp [h0]
                have HQ := hide hcq
                clear hcq hd hv hd1 hd2 hb1 hb2 hNM eM eD eYv hsn
                rw [← eN]
                clear eN
                have n10 : (Yv == 45) = false := by simp; omega
                by_cases h0 : q = 0
                · subst h0
                  go_wp2_with fail
                  go_roundw
                  case rel => exact ⟨1, rfl, by omega, by rw [HM.out], trivial⟩
                  case measure => simp [intOf]; omega
                · have n11 : ((q : Int) == 0) = false := by simp; omega
                  go_wp2_with fail
                  go_roundw
                  case rel => exact ⟨q + 1, by go_num, by omega, by rw [HM.out], trivial⟩
                  case measure => simp [intOf]; omega
            · have hqe : q = X.length := by omega
              have hval : V (q - sg) = x.natAbs := by rw [hqe]; exact HVA.out
              rw [hval]
              have i3 : ¬ (q : Int) < X.length := by omega
              have hx1 := HX.out
              rw [Nat.zero_add] at hx1
              obtain ⟨c, hc0⟩ : ∃ c, X[0]? = some c := ⟨X[0]'(by omega), List.getElem?_eq_getElem (by omega)⟩
              have h0l : 0 < (str X).size := by omega
              have hg := char_at hc0 h0l
              have hl0 : (0 : Int) < X.length := by omega
              obtain ⟨Yv, eYv⟩ : ∃ Yv : Int, Yv = (c.toNat : Int) := ⟨_, rfl⟩
              rw [← eYv] at hg
              obtain ⟨N, eN⟩ : ∃ N : Int, N = (x.natAbs : Int) := ⟨_, rfl⟩
              rw [← eN]
              have hinx := HXI.out
              unfold inI at hinx
              by_cases hx0 : x < 0
              · have hY : Yv = 45 := by rw [eYv, (HHEAD.out c hc0).2 hx0]; rfl
                subst hY
                have hNx : -N = x := by omega
                obtain ⟨Z, eZ⟩ : ∃ Z, Z = IntKind.u64.wrap x := ⟨_, rfl⟩
                have z1 : IntKind.u64.wrap (-N) = Z := by rw [hNx, eZ]
                have z2 := eZ.symm
                have i5 : (x < 0) := hx0
                clear eYv hc0 hval hqe hinx eN hNx eZ
                go_wp2_with fail
                go_roundw
                case rel => exact ⟨J, by have := HJ.out; omega, rfl, B⟩
                case measure => have := HJ.out; simp [intOf]; omega
              · have hY : (Yv == 45) = false := by
                  have : ¬ c = 45 := fun h => hx0 ((HHEAD.out c hc0).1 h)
                  have h2 : c.toNat ≠ 45 := fun h => this (UInt8.toNat_inj.1 (by rw [h]; rfl))
                  simp; omega
                have hNx : N = x := by omega
                subst hNx
                have z2 : IntKind.u64.wrap N = N := IntWalk.u64_in _ (by omega)
                clear eYv hc0 hval hqe hinx eN
                go_wp2_with fail
                go_roundw
                case rel => exact ⟨J, by have := HJ.out; omega, rfl, B⟩
                case measure => have := HJ.out; simp [intOf]; omega
        · have i1 : ¬ (j : Int) < 7 := by omega
          have B3 := nxt B2.out B
          clear B
          go_wp2_with fail
          refine (known7_any _ (hide (HT.out.below B3))).mono ?_
          rintro e w10 ⟨rfl, b10⟩
          go_wp2_with fail
          go_ret
          exact ⟨rfl, nxt B3 b10⟩
end Go.Proofs.YtbfjdhbgpjenbaaDoor
