/-
  The document's Fold.
-/
import Derived.Test.YtdginbmannhfnaaDoorFoldQ2
import Derived.Laws.Runes
namespace Go.Proofs.YtdginbmannhfnaaDoor
open Go.RowKit
set_option linter.unusedVariables false

theorem valid_of {r : Int} (h0 : 0 ≤ r) (h1 : r < 55296) : Utf8.valid r = true := by simp [Utf8.valid]; omega
/-- A small letter's own bytes, and its great one's. -/
theorem encode_low {r : Nat} (h : lowR r = true) : (Utf8.encode (r : Int)).size = (if r < 128 then 1 else 2) ∧ Utf8.encode ((r : Int) - 32) = str (greatB r) := by
  rw [lowR_iff] at h
  have hv : Utf8.valid (r : Int) = true := valid_of (by omega) (by omega)
  have hv2 : Utf8.valid ((r : Int) - 32) = true := valid_of (by omega) (by omega)
  have e1 : ((r : Int)).toNat = r := by omega
  have e2 : ((r : Int) - 32).toNat = r - 32 := by omega
  unfold greatB
  rcases h with ⟨h1, h2⟩ | ⟨h1, h2, h3⟩
  · refine ⟨?_, ?_⟩
    · simp only [Utf8.encode, hv, if_true, e1, if_pos (show r < 128 by omega)]; rfl
    · rw [Lib.encodeRuneZ_one (by omega) (by omega)]
      simp only [Utf8.encode, hv2, if_true, e2, if_pos (show r - 32 < 128 by omega)]
      simp [str, e2]
  · refine ⟨?_, ?_⟩
    · simp only [Utf8.encode, hv, if_true, e1, if_neg (show ¬ r < 128 by omega), if_pos (show r < 2048 by omega)]; rfl
    · rw [Lib.encodeRuneZ_two (by omega) (by omega)]
      simp only [Utf8.encode, hv2, if_true, e2, if_neg (show ¬ r - 32 < 128 by omega), if_pos (show r - 32 < 2048 by omega)]
      have f1 : (192 + ((r : Int) - 32) / 64).toNat = 192 + (r - 32) / 64 := by omega
      have f2 : (128 + ((r : Int) - 32) % 64).toNat = 128 + (r - 32) % 64 := by omega
      simp [str, f1, f2]
/-- The first k runes folded. -/
def foldK (t : List UInt8) (k : Nat) : List UInt8 := ((runesL t).take k).flatMap foldX
theorem foldK_zero (t : List UInt8) : foldK t 0 = [] := by simp [foldK]
theorem foldK_all (t : List UInt8) : foldK t (runesL t).length = foldL t := by unfold foldK foldL; rw [List.take_length]
theorem foldK_step {t : List UInt8} {k : Nat} {x : Nat × List UInt8} (h : (runesL t)[k]? = some x) : foldK t (k + 1) = foldK t k ++ foldX x := by
  unfold foldK
  rw [List.take_add_one, h]
  simp
theorem foldX_len (t : List UInt8) : ∀ x ∈ runesL t, (foldX x).length = x.2.length := runes_ind (p := fun x => (foldX x).length = x.2.length) (fun t ht => by
  have hb := headR_bd t ht
  show (foldX _).length = (t.take (headR t).2).length
  by_cases hl : lowR (headR t).1 = true
  · obtain ⟨b0, u, e, hc, hw, hn⟩ := great_shape hl
    simp only [foldX, hl, if_true]
    rw [hn, ← headR_low ht hl, List.length_take]; omega
  · simp only [foldX, hl]; rfl) t
theorem flat_len {l : List (Nat × List UInt8)} (h : ∀ x ∈ l, (foldX x).length = x.2.length) : (l.flatMap foldX).length = (joinR l).length := by
  induction l with
  | nil => rfl
  | cons x l ih => rw [List.flatMap_cons, joinR_cons, List.length_append, List.length_append, h x (by simp), ih fun y hy => h y (by simp [hy])]
theorem foldK_len {t : List UInt8} {k pos : Nat} (A : AtR t k pos) : (foldK t k).length = pos := by
  unfold foldK
  rw [flat_len fun x hx => foldX_len t x (List.mem_of_mem_take hx), ← A.done, List.length_take]
  have := A.le; omega
theorem fold_len (t : List UInt8) : (foldL t).length = t.length := by
  unfold foldL
  rw [flat_len (foldX_len t), runes_join]
set_option maxHeartbeats 1600000 in
theorem refFold_any (l : List UInt8) (w : World) (hl : l.length ≤ 4611686018427387904) :
    Calls Tryd.prog 18 #[.string (str l)] w fun e w' => e = .returned (.string (str (foldL l))) ∧ Below w.heap.size w w' := by
  obtain ⟨O, eO⟩ : ∃ O, O = foldL l := ⟨_, rfl⟩
  rw [← eO]
  have HO := hide eO
  clear eO
  have hsz : (str l).size = l.length := str_size l
  go_enter Tryd.func18, Tryd.ntmps18
  go_wp2
  go_loopw [3, 4] (fun a v wr => ∃ (pos k q : Nat) (X : List UInt8), wr = w.iter (str l) pos ∧ AtR l k pos ∧ a = .string (str X) ∧ v = .int .i64 q ∧ q ≤ pos ∧ X.length ≤ q ∧ Hid (X ++ (l.drop q).take (pos - q) = foldK l k)) (fun _ _ wr => l.length - wr.iterPos w.heap.size)
  case atStart => exact ⟨0, 0, 0, [], rfl, AtR.zero l, rfl, rfl, by omega, by simp, hide (by simp [foldK_zero])⟩
  case round =>
    obtain ⟨pos, k, q, X, rfl, A, rfl, rfl, hq, hX, HX⟩ := hrel
    have hp := A.le
    have hfl := foldK_len A
    by_cases hlt : pos < l.length
    · obtain ⟨A2, hx, hb1, hb2⟩ := A.step hlt
      have hfl2 := foldK_len A2
      have hne : l.drop pos ≠ [] := by
        intro h; have := congrArg List.length h; rw [List.length_drop] at this; simp at this; omega
      have hnx := next_str (P := Tryd.prog) w l pos hlt
      have hst := foldK_step hx
      have hrl := headR_le (l.drop pos)
      by_cases hlow : lowR (headR (l.drop pos)).1 = true
      · have hw2 := headR_low hne hlow
        obtain ⟨he1, he2⟩ := encode_low hlow
        rw [← hw2] at he1
        have hgx : foldX ((headR (l.drop pos)).1, (l.drop pos).take (headR (l.drop pos)).2) = greatB (headR (l.drop pos)).1 := by simp only [foldX, hlow, if_true]
        rw [hgx] at hst
        obtain ⟨gb, egb⟩ : ∃ gb, gb = greatB (headR (l.drop pos)).1 := ⟨_, rfl⟩
        rw [← egb] at hst he2
        clear egb hw2 hgx hx
        rw [lowR_iff] at hlow
        obtain ⟨wd, ewd⟩ : ∃ wd, wd = (headR (l.drop pos)).2 := ⟨_, rfl⟩
        obtain ⟨r, er⟩ : ∃ r, r = (headR (l.drop pos)).1 := ⟨_, rfl⟩
        rw [← ewd] at A2 hb1 hb2 hnx he1 hfl2
        rw [← er] at hnx hrl hlow he1 he2
        clear er ewd A hne
        obtain ⟨R, eR⟩ : ∃ R : Int, R = (r : Int) := ⟨_, rfl⟩
        rw [← eR] at hnx he1 he2
        obtain ⟨G, eG⟩ : ∃ G : Int, G = R - 32 := ⟨_, rfl⟩
        rw [← eG] at he2
        have hwr : IntKind.i32.wrap (R - 32) = G := by rw [eG]; exact IntWalk.i32_in _ (by omega)
        have hlow2 : (97 ≤ R ∧ R ≤ 122) ∨ (945 ≤ R ∧ R ≤ 969 ∧ R ≠ 962) := by omega
        have e1 : (str l).extract q pos = str ((l.drop q).take (pos - q)) := extract_mid l q pos
        have hs1 : str X ++ (str l).extract q pos = str (foldK l k) := by rw [e1, str_append, HX.out]
        have hz1 : ¬ 9223372036854775807 < (str X).size + ((str l).extract q pos).size := by rw [e1, str_size, str_size, List.length_take, List.length_drop]; omega
        have hs2 : str (foldK l k) ++ str gb = str (foldK l (k + 1)) := by rw [str_append, hst]
        have hgl : (foldK l (k + 1)).length = (foldK l k).length + gb.length := by rw [hst, List.length_append]
        have hz2 : ¬ 9223372036854775807 < (str (foldK l k)).size + (str gb).size := by rw [str_size, str_size]; omega
        have hwp : IntKind.i64.wrap ((pos : Int) + (wd : Int)) = ((pos + wd : Nat) : Int) := by rw [IntWalk.i64_in _ (by omega)]; omega
        have H2 := hide hs2
        clear hst e1 HX eG hgl hlow hrl eR
        rcases hlow2 with ⟨g1, g2⟩ | ⟨g1, g2, g3⟩
        · go_wp2
          go_roundw
          case rel => exact ⟨pos + wd, k + 1, pos + wd, foldK l (k + 1), rfl, A2, rfl, by go_num, by omega, by omega, hide (by simp)⟩
          case measure => simp; omega
        · have g4 : ¬ R ≤ 122 := by omega
          have g5 : 97 ≤ R := by omega
          have g6 : (R == 962) = false := by simpa using g3
          go_wp2
          go_roundw
          case rel => exact ⟨pos + wd, k + 1, pos + wd, foldK l (k + 1), rfl, A2, rfl, by go_num, by omega, by omega, hide (by simp)⟩
          case measure => simp; omega
      · have hgx : foldX ((headR (l.drop pos)).1, (l.drop pos).take (headR (l.drop pos)).2) = (l.drop pos).take (headR (l.drop pos)).2 := by simp only [foldX, hlow]; rfl
        rw [hgx] at hst
        clear hgx hx
        rw [lowR_iff] at hlow
        obtain ⟨wd, ewd⟩ : ∃ wd, wd = (headR (l.drop pos)).2 := ⟨_, rfl⟩
        obtain ⟨r, er⟩ : ∃ r, r = (headR (l.drop pos)).1 := ⟨_, rfl⟩
        rw [← ewd] at A2 hb1 hb2 hnx hst hfl2
        rw [← er] at hnx hrl hlow
        clear er ewd A hne
        obtain ⟨R, eR⟩ : ∃ R : Int, R = (r : Int) := ⟨_, rfl⟩
        rw [← eR] at hnx
        have hlow2 : R < 97 ∨ (122 < R ∧ R < 945) ∨ 969 < R ∨ R = 962 := by omega
        have hj : X ++ (l.drop q).take (pos + wd - q) = foldK l (k + 1) := by
          rw [hst, ← HX.out, List.append_assoc, show pos + wd - q = (pos - q) + wd by omega, List.take_add, List.drop_drop, show q + (pos - q) = pos by omega]
        have HJ := hide hj
        clear hst HX hlow hrl eR hj
        rcases hlow2 with g1 | ⟨g1, g2⟩ | g1 | rfl
        · have g4 : ¬ 97 ≤ R := by omega
          have g5 : ¬ 945 ≤ R := by omega
          go_wp2
          go_roundw
          case rel => exact ⟨pos + wd, k + 1, q, X, rfl, A2, rfl, rfl, by omega, hX, HJ⟩
          case measure => simp; omega
        · have g4 : ¬ R ≤ 122 := by omega
          have g5 : ¬ 945 ≤ R := by omega
          have g6 : 97 ≤ R := by omega
          go_wp2
          go_roundw
          case rel => exact ⟨pos + wd, k + 1, q, X, rfl, A2, rfl, rfl, by omega, hX, HJ⟩
          case measure => simp; omega
        · have g4 : ¬ R ≤ 122 := by omega
          have g5 : 945 ≤ R := by omega
          have g6 : 97 ≤ R := by omega
          have g7 : ¬ R ≤ 969 := by omega
          go_wp2
          go_roundw
          case rel => exact ⟨pos + wd, k + 1, q, X, rfl, A2, rfl, rfl, by omega, hX, HJ⟩
          case measure => simp; omega
        · go_wp2
          go_roundw
          case rel => exact ⟨pos + wd, k + 1, q, X, rfl, A2, rfl, rfl, by omega, hX, HJ⟩
          case measure => simp; omega
    · have hnx := next_str_end (P := Tryd.prog) w l pos hlt
      obtain ⟨hk, hpe⟩ := A.end_ hlt
      have e1 : (str l).extract q l.length = str ((l.drop q).take (l.length - q)) := extract_mid l q l.length
      have hz : ¬ 9223372036854775807 < (str X).size + ((str l).extract q l.length).size := by rw [e1, str_size, str_size, List.length_take, List.length_drop]; omega
      have hs : str X ++ (str l).extract q l.length = str O := by rw [e1, str_append, HO.out, ← foldK_all, ← hk, ← HX.out, hpe]
      have HS := hide hs
      have i4 : q ≤ l.length := by omega
      clear A hk hpe e1 HX hs hfl
      go_wp2
      go_ret
      exact ⟨by rw [← HS.out]; rfl, nxt_alloc (Below.refl _ _) _⟩
end Go.Proofs.YtdginbmannhfnaaDoor
