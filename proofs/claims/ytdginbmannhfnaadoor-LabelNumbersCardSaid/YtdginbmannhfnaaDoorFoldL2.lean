/-
  label.Fold: a text written rune by rune.
-/
import Derived.Test.YtdginbmannhfnaaDoorFoldR2
import Derived.Test.YtdginbmannhfnaaDoorBuild2
import Derived.Test.YtdginbmannhfnaaDoorRaw2
namespace Go.Proofs.YtdginbmannhfnaaDoor
open Go.RowKit
set_option linter.unusedVariables false

theorem built_below {B b : Nat} {l : List UInt8} {w w' : World} (h : BuiltAt B b l w) (hb : Below w.heap.size w w') : BuiltAt B b l w' := by
  have one : ∀ p, Lib.BuilderAtF 35 5 B b p (Lib.byteCells l) w → Lib.BuilderAtF 35 5 B b p (Lib.byteCells l) w' := fun p ⟨hB, v, hv, hown, hne⟩ => by
    have hlt : b < w.heap.size := (Array.getElem?_eq_some_iff.1 hv).1
    exact ⟨hB, v, (hb.block b hlt).trans hv, hown.kept (row := none) ⟨hb.os, hb.tape, hb.output, hb.size, fun k hk _ => hb.block k hk⟩ (Classical.em _), hne⟩
  exact h.elim (fun x => .inl (one _ x)) (fun x => .inr (one _ x))
theorem iter_below {w w' : World} {k pos : Nat} {s : ByteArray} (h : w.heap[k]? = some (.stringIter s pos)) (hb : Below w.heap.size w w') : w'.heap[k]? = some (.stringIter s pos) :=
  (hb.block k (Array.getElem?_eq_some_iff.1 h).1).trans h
theorem next_at {P : Program} (wr : World) (K : Nat) (l : List UInt8) (pos : Nat) (hit : wr.heap[K]? = some (.stringIter (str l) pos)) (h : pos < l.length) : ∀ ty, (Instr.next (.pointer (some ⟨K, 0, none⟩)) true ty).run P wr =
      .ok (.tuple #[.bool true, .int .i64 pos, .int .i32 ((headR (l.drop pos)).1 : Nat)]) (wr.iterAt K (str l) (pos + (headR (l.drop pos)).2)) := by
  intro ty
  have := Lib.run_next_any_at (P := P) wr K (str l) pos ty hit (by rw [str_size]; exact h)
  rw [decode_str] at this
  exact this
theorem next_at_end {P : Program} (wr : World) (K : Nat) (l : List UInt8) (pos : Nat) (hit : wr.heap[K]? = some (.stringIter (str l) pos)) (h : ¬ pos < l.length) : ∀ ty, (Instr.next (.pointer (some ⟨K, 0, none⟩)) true ty).run P wr = .ok (.tuple #[.bool false]) wr := by
  intro ty
  exact Lib.run_next_end_at (P := P) wr K (str l) pos ty hit (by rw [str_size]; exact h)
set_option maxHeartbeats 1600000 in
theorem fold_any (l : List UInt8) (w : World) (hl : l.length ≤ 35184372088832) (hT : Lib.Utf8Tabs 0 1 w) :
    Calls Tryd.prog 17 #[.string (str l)] w fun e w' => e = .returned (.string (str (foldL l))) ∧ Below w.heap.size w w' := by
  obtain ⟨O, eO⟩ : ∃ O, O = foldL l := ⟨_, rfl⟩
  rw [← eO]
  have HO := hide eO
  clear eO
  have HT := hide hT
  clear hT
  go_enter Tryd.func17, Tryd.ntmps17
  go_wp2
  go_loopw [] (fun wr => ∃ (pos k : Nat) (X : List UInt8), Hid (BuiltAt w.heap.size w.heap.size X wr) ∧ Hid (wr.heap[w.heap.size + 1]? = some (.stringIter (str l) pos)) ∧ Below w.heap.size w wr ∧ AtR l k pos ∧ Hid (X = foldK l k)) (fun wr => l.length - wr.iterPos (w.heap.size + 1))
  case atStart =>
    refine ⟨0, 0, [], hide ((Lib.IsBuilderF.of (Lib.fresh_isBuilder 35 5 w)).alloc _), hide ?_, ((Below.refl _ w).alloc (Nat.le_refl _) _).alloc (by simp) _, AtR.zero l, hide (foldK_zero l).symm⟩
    have := World.iter_heap (w.alloc (.cells #[.pointer none, .slice none 0 0] 35)) (str l) 0
    simpa using this
  case round =>
    obtain ⟨pos, k, X, hI, hit, hbw, A, HX⟩ := hrel
    have hsz : w.heap.size + 1 < wr.heap.size := (Array.getElem?_eq_some_iff.1 hit.out).1
    have hp := A.le
    have hfl := foldK_len A
    by_cases hlt : pos < l.length
    · obtain ⟨A2, hx, hb1, hb2⟩ := A.step hlt
      have hfl2 := foldK_len A2
      have hne : l.drop pos ≠ [] := by
        intro h; have := congrArg List.length h; rw [List.length_drop] at this; simp at this; omega
      have hnx := next_at (P := Tryd.prog) wr (w.heap.size + 1) l pos hit.out hlt
      have hst := foldK_step hx
      have hrl := headR_le (l.drop pos)
      have hraw : rawL l pos = (l.drop pos).take (headR (l.drop pos)).2 := rfl
      have hgr : lowR (headR (l.drop pos)).1 = true → foldX ((headR (l.drop pos)).1, (l.drop pos).take (headR (l.drop pos)).2) = Lib.encodeRune (((headR (l.drop pos)).1 : Int) - 32) := fun h => by simp only [foldX, h, if_true]; rfl
      have hlow3 : lowR (headR (l.drop pos)).1 = false → foldX ((headR (l.drop pos)).1, (l.drop pos).take (headR (l.drop pos)).2) = (l.drop pos).take (headR (l.drop pos)).2 := fun h => by simp only [foldX, h]; rfl
      obtain ⟨wd, ewd⟩ : ∃ wd, wd = (headR (l.drop pos)).2 := ⟨_, rfl⟩
      obtain ⟨r, er⟩ : ∃ r, r = (headR (l.drop pos)).1 := ⟨_, rfl⟩
      obtain ⟨W, eW⟩ : ∃ W, W = wr.iterAt (w.heap.size + 1) (str l) (pos + wd) := ⟨_, rfl⟩
      rw [← ewd] at A2 hb1 hb2 hnx hst hfl2 hraw hgr hlow3
      rw [← er] at hnx hrl hst hgr hlow3
      rw [← eW] at hnx
      have hI2 : Hid (BuiltAt w.heap.size w.heap.size X W) := hide (by rw [eW]; exact Lib.IsBuilderF.iterAt hI.out hit.out (pos + wd))
      have hit2 : Hid (W.heap[w.heap.size + 1]? = some (.stringIter (str l) (pos + wd))) := hide (by rw [eW]; exact Lib.iterAt_heap wr (w.heap.size + 1) (str l) pos (pos + wd) hit.out)
      have hbw2 : Below w.heap.size w W := by rw [eW]; exact Lib.below_iterAt hbw (k := w.heap.size + 1) (by omega) (str l) (pos + wd)
      have hsz2 : w.heap.size ≤ W.heap.size := hbw2.size
      have hme : wr.iterPos (w.heap.size + 1) = pos := by simp [World.iterPos, hit.out]
      have hXl : X.length = pos := by rw [HX.out]; exact hfl
      have HM := hide hme
      clear hit eW hI hbw hsz ewd er hne hx hfl hme
      by_cases hlow : lowR r = true
      · have hg := hgr hlow
        rw [hg] at hst
        rw [lowR_iff] at hlow
        obtain ⟨R, eR⟩ : ∃ R : Int, R = (r : Int) := ⟨_, rfl⟩
        rw [← eR] at hnx hst
        obtain ⟨G, eG⟩ : ∃ G : Int, G = R - 32 := ⟨_, rfl⟩
        rw [← eG] at hst
        have hwr : IntKind.i32.wrap (R - 32) = G := by rw [eG]; exact IntWalk.i32_in _ (by omega)
        have hlow2 : (97 ≤ R ∧ R ≤ 122) ∨ (945 ≤ R ∧ R ≤ 969 ∧ R ≠ 962) := by omega
        have hG : -2147483648 ≤ G ∧ G ≤ 2147483647 := by omega
        have HS := hide hst
        clear hst eG hlow hrl eR hgr hlow3 hg hraw
        rcases hlow2 with ⟨g1, g2⟩ | ⟨g1, g2, g3⟩
        · go_wp2_with fail
          refine (buildRune_any w.heap.size w.heap.size X G hG.1 hG.2 W hI2.out (by omega) hsz2).mono ?_
          rintro e W1 ⟨rfl, h1, b1, k1⟩
          have hit3 := hide (k1.iter hit2.out (by omega))
          have hB3 : Hid (BuiltAt w.heap.size w.heap.size (X ++ Lib.encodeRune G) W1) := hide (by
            show Lib.IsBuilderF _ _ _ _ _ _
            rw [Lib.byteCells_append, Lib.byteCells_encodeRune]; exact Or.inr h1)
          clear h1 k1 hI2 hit2
          go_wp2
          go_roundw
          case rel => exact ⟨pos + wd, k + 1, _, hB3, hit3, hbw2.trans b1, A2, hide (by rw [HS.out, HX.out])⟩
          case measure => rw [HM.out]; simp [World.iterPos, hit3.out]; omega
        · have g4 : ¬ R ≤ 122 := by omega
          have g5 : 97 ≤ R := by omega
          have g6 : (R == 962) = false := by simpa using g3
          go_wp2_with fail
          refine (buildRune_any w.heap.size w.heap.size X G hG.1 hG.2 W hI2.out (by omega) hsz2).mono ?_
          rintro e W1 ⟨rfl, h1, b1, k1⟩
          have hit3 := hide (k1.iter hit2.out (by omega))
          have hB3 : Hid (BuiltAt w.heap.size w.heap.size (X ++ Lib.encodeRune G) W1) := hide (by
            show Lib.IsBuilderF _ _ _ _ _ _
            rw [Lib.byteCells_append, Lib.byteCells_encodeRune]; exact Or.inr h1)
          clear h1 k1 hI2 hit2
          go_wp2
          go_roundw
          case rel => exact ⟨pos + wd, k + 1, _, hB3, hit3, hbw2.trans b1, A2, hide (by rw [HS.out, HX.out])⟩
          case measure => rw [HM.out]; simp [World.iterPos, hit3.out]; omega
      · have hg := hlow3 (by simpa using hlow)
        rw [hg, ← hraw] at hst
        rw [lowR_iff] at hlow
        obtain ⟨R, eR⟩ : ∃ R : Int, R = (r : Int) := ⟨_, rfl⟩
        rw [← eR] at hnx
        have hlow2 : R < 97 ∨ (122 < R ∧ R < 945) ∨ 969 < R ∨ R = 962 := by omega
        have hrl2 : (rawL l pos).length ≤ 4 := by
          have := headR_bd (l.drop pos) (by intro h; have := congrArg List.length h; rw [List.length_drop] at this; simp at this; omega)
          unfold rawL
          rw [List.length_take]; omega
        have hlr : X.length + (str (rawL l pos)).size ≤ 140737488355328 := by rw [str_size]; omega
        have hsc : Lib.byteCells X ++ Lib.strCells (str (rawL l pos)) = Lib.byteCells (X ++ rawL l pos) := by
          rw [Lib.byteCells_append]; rfl
        have HS := hide hst
        have HC := hide hsc
        clear hst hlow hrl eR hgr hlow3 hg hraw hsc hrl2
        rcases hlow2 with g1 | ⟨g1, g2⟩ | g1 | rfl
        · have g4 : ¬ 97 ≤ R := by omega
          have g5 : ¬ 945 ≤ R := by omega
          go_wp2_with fail
          refine (raw_any l pos W (by omega) hlt (Utf8Tabs_below HT.out hbw2)).mono ?_
          rintro e W0 ⟨rfl, b0⟩
          have hI3 := built_below hI2.out b0
          have hit3 := iter_below hit2.out b0
          have hbw3 := nxt hbw2 b0
          go_wp2_with fail
          refine (buildText_any w.heap.size w.heap.size X (str (rawL l pos)) W0 hI3 hlr hbw3.size).mono ?_
          rintro e W1 ⟨rfl, h1, b1, k1⟩
          have hit4 := hide (k1.iter hit3 (by omega))
          have hB4 : Hid (BuiltAt w.heap.size w.heap.size (X ++ rawL l pos) W1) := hide (by
            show Lib.IsBuilderF _ _ _ _ _ _
            rw [← HC.out]; exact Or.inr h1)
          clear h1 k1 hI2 hit2 hI3 hit3
          go_wp2
          go_roundw
          case rel => exact ⟨pos + wd, k + 1, _, hB4, hit4, hbw3.trans b1, A2, hide (by rw [HS.out, HX.out])⟩
          case measure => rw [HM.out]; simp [World.iterPos, hit4.out]; omega
        · have g4 : ¬ R ≤ 122 := by omega
          have g5 : ¬ 945 ≤ R := by omega
          have g6 : 97 ≤ R := by omega
          go_wp2_with fail
          refine (raw_any l pos W (by omega) hlt (Utf8Tabs_below HT.out hbw2)).mono ?_
          rintro e W0 ⟨rfl, b0⟩
          have hI3 := built_below hI2.out b0
          have hit3 := iter_below hit2.out b0
          have hbw3 := nxt hbw2 b0
          go_wp2_with fail
          refine (buildText_any w.heap.size w.heap.size X (str (rawL l pos)) W0 hI3 hlr hbw3.size).mono ?_
          rintro e W1 ⟨rfl, h1, b1, k1⟩
          have hit4 := hide (k1.iter hit3 (by omega))
          have hB4 : Hid (BuiltAt w.heap.size w.heap.size (X ++ rawL l pos) W1) := hide (by
            show Lib.IsBuilderF _ _ _ _ _ _
            rw [← HC.out]; exact Or.inr h1)
          clear h1 k1 hI2 hit2 hI3 hit3
          go_wp2
          go_roundw
          case rel => exact ⟨pos + wd, k + 1, _, hB4, hit4, hbw3.trans b1, A2, hide (by rw [HS.out, HX.out])⟩
          case measure => rw [HM.out]; simp [World.iterPos, hit4.out]; omega
        · have g4 : ¬ R ≤ 122 := by omega
          have g5 : 945 ≤ R := by omega
          have g6 : 97 ≤ R := by omega
          have g7 : ¬ R ≤ 969 := by omega
          go_wp2_with fail
          refine (raw_any l pos W (by omega) hlt (Utf8Tabs_below HT.out hbw2)).mono ?_
          rintro e W0 ⟨rfl, b0⟩
          have hI3 := built_below hI2.out b0
          have hit3 := iter_below hit2.out b0
          have hbw3 := nxt hbw2 b0
          go_wp2_with fail
          refine (buildText_any w.heap.size w.heap.size X (str (rawL l pos)) W0 hI3 hlr hbw3.size).mono ?_
          rintro e W1 ⟨rfl, h1, b1, k1⟩
          have hit4 := hide (k1.iter hit3 (by omega))
          have hB4 : Hid (BuiltAt w.heap.size w.heap.size (X ++ rawL l pos) W1) := hide (by
            show Lib.IsBuilderF _ _ _ _ _ _
            rw [← HC.out]; exact Or.inr h1)
          clear h1 k1 hI2 hit2 hI3 hit3
          go_wp2
          go_roundw
          case rel => exact ⟨pos + wd, k + 1, _, hB4, hit4, hbw3.trans b1, A2, hide (by rw [HS.out, HX.out])⟩
          case measure => rw [HM.out]; simp [World.iterPos, hit4.out]; omega
        · go_wp2_with fail
          refine (raw_any l pos W (by omega) hlt (Utf8Tabs_below HT.out hbw2)).mono ?_
          rintro e W0 ⟨rfl, b0⟩
          have hI3 := built_below hI2.out b0
          have hit3 := iter_below hit2.out b0
          have hbw3 := nxt hbw2 b0
          go_wp2_with fail
          refine (buildText_any w.heap.size w.heap.size X (str (rawL l pos)) W0 hI3 hlr hbw3.size).mono ?_
          rintro e W1 ⟨rfl, h1, b1, k1⟩
          have hit4 := hide (k1.iter hit3 (by omega))
          have hB4 : Hid (BuiltAt w.heap.size w.heap.size (X ++ rawL l pos) W1) := hide (by
            show Lib.IsBuilderF _ _ _ _ _ _
            rw [← HC.out]; exact Or.inr h1)
          clear h1 k1 hI2 hit2 hI3 hit3
          go_wp2
          go_roundw
          case rel => exact ⟨pos + wd, k + 1, _, hB4, hit4, hbw3.trans b1, A2, hide (by rw [HS.out, HX.out])⟩
          case measure => rw [HM.out]; simp [World.iterPos, hit4.out]; omega
    · have hnx := next_at_end (P := Tryd.prog) wr (w.heap.size + 1) l pos hit.out hlt
      obtain ⟨hk, hpe⟩ := A.end_ hlt
      have hXO : X = O := by rw [HX.out, HO.out, ← foldK_all, ← hk]
      have HXO := hide hXO
      clear A hk hpe hXO hfl HX HO
      go_wp2_with fail
      refine (buildString_any w.heap.size w.heap.size X wr hI.out (by omega)).mono ?_
      rintro e W1 ⟨rfl, h1, b1, k1⟩
      clear h1 k1 hit hI
      go_wp2
      go_ret
      exact ⟨by rw [← HXO.out]; rfl, hbw.trans b1⟩
end Go.Proofs.YtdginbmannhfnaaDoor
