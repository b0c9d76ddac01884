/-
  label.Back: a text laid from its end on.
-/
import Derived.Test.YtdginbmannhfnaaDoorFoldL2
import Derived.Test.YtdginbmannhfnaaDoorElem8
import Derived.Laws.OwnMore
import Derived.Laws.CopyOwn
import Derived.Lib.BufferWrite
namespace Go.Proofs.YtdginbmannhfnaaDoor
open Go.RowKit
set_option linter.unusedVariables false

/-- copy(dst, s), s a text: one step of a walk. -/
theorem wpList_copy_text {P : Program} {w : World} {ops : Array Oper} {rest : List Oper} {o : Oper} {a : Act} {Q : Exit → Act → World → Prop} (hgd : o.guard = none) (d s : Operand) (dT sT : TypeId)
    (ho : o.op = .call { callee := .builtin .copy, args := #[d, s], argTypes := #[dT, sT] }) (elem : TypeId) (hu : P.underlying dT = some (.slice elem)) (hsz : (P.info? elem).map (·.size) = some 1)
    (g off dLen dCap : Nat) (hd : a.eval d = .slice (some ⟨g, off, none⟩) dLen dCap) (x : List UInt8) (hs : a.eval s = .string (str x))
    (cur : List Value) (t : TypeId) (hg : w.heap[g]? = some (.cells cur.toArray t (0, 0))) (hle : x.length ≤ dLen) (hfit : off + x.length ≤ cur.length)
    (h : ∀ w', Hid (w'.heap[g]? = some (.cells (splice cur off (u8s x)).toArray t (0, 0))) → w'.heap.size = w.heap.size → (∀ k, k ≠ g → w'.heap[k]? = w.heap[k]?) → Below g w w' → wpList P ops Q rest (a.put o.dst (goInt x.length)) w') :
    wpList P ops Q (o :: rest) a w := by
  refine wpList_plain hgd fun K hK => ?_
  have hrun := Lib.run_copy_row_string (P := P) w dT sT o.type elem g off dLen dCap (str x) cur.toArray t hu hsz hg (by rw [str_size]; exact hle) (by rw [str_size]; simpa using hfit)
  rw [str_size] at hrun
  have hsp : ((cur.toArray.toList.take off ++ Lib.byteCells (str x).data.toList ++ cur.toArray.toList.drop (off + x.length))) = splice cur off (u8s x) := by
    unfold splice
    rw [length_u8s]
    simp [Lib.byteCells, u8s, str]
  rw [hsp] at hrun
  unfold Oper.wp
  simp [execOp, ho, resolve, invoke, builtin, hd, hs, hrun, Result.andThen]
  exact hK _ _ (h _ (hide (setRow_heap w g _ _ t _ hg)) (by simp [World.setRow]) (fun k hk => setRow_other w g k _ hk) (below_setRow (Below.refl _ _) (Nat.le_refl _) _))
theorem own_row2 {w : World} {base g N : Nat} {e : TypeId} {xs : List Value} (h : w.ownsRow base e 1 (.slice (some ⟨g, 0, none⟩) N N) N xs) : w.heap[g]? = some (.cells xs.toArray e (0, 0)) := by
  rcases h.2 with ⟨h', _⟩ | ⟨g', cap', cur, h', hb, hg, hnc, hcm, hcs, htake⟩
  · simp at h'
  · simp only [Value.slice.injEq, Option.some.injEq, Addr.mk.injEq, and_true, true_and] at h'
    obtain ⟨rfl, rfl⟩ := h'
    have hl := h.1
    have : cur.toList = xs := by rw [← htake, List.take_of_length_le (by simp; omega)]
    subst this
    simpa using hg
theorem cells_row {w : World} {g : Nat} {X : List Value} {e : TypeId} {m : Nat × Nat} (h : w.heap[g]? = some (.cells X.toArray e m)) : Cells w (some ⟨g, 0, none⟩) X := fun _ => by
  refine ⟨g, 0, rfl, (Array.getElem?_eq_some_iff.1 h).1, fun k u hu => ?_⟩
  simp only [World.cell?, h]
  simpa using hu
/-- What is laid when k runes are. -/
theorem back_splice (l : List UInt8) (E wd : Nat) (x b : List UInt8) (hx : x.length = wd) : splice (u8s (List.replicate (E + wd) 0 ++ b)) E (u8s x) = u8s (List.replicate E 0 ++ (x ++ b)) := by
  unfold splice u8s
  rw [← List.map_take, ← List.map_drop, ← List.map_append, ← List.map_append, List.length_map, hx]
  congr 1
  rw [List.take_append_of_le_length (by simp), List.take_replicate, show min E (E + wd) = E by omega]
  congr 2
  rw [List.drop_left' (by simp)]
set_option maxHeartbeats 1600000 in
theorem labBack_any (l : List UInt8) (w : World) (hl : l.length ≤ 1000000) (hT : Lib.Utf8Tabs 0 1 w) :
    Calls Tryd.prog 19 #[.string (str l)] w fun e w' => e = .returned (.string (str (backL l))) ∧ Below w.heap.size w w' := by
  obtain ⟨O, eO⟩ : ∃ O, O = backL l := ⟨_, rfl⟩
  rw [← eO]
  have HO := hide eO
  clear eO
  have HT := hide hT
  clear hT
  have hsz : (str l).size = l.length := str_size l
  go_enter Tryd.func19, Tryd.ntmps19
  go_wp2_with (at_make
               refine wpList_mk elU8 (n := l.length) rfl _ _ rfl rfl rfl rfl (by omega) ?_
               intro w1 own1 g1 b1
               have B1 := b1 _ _ (Nat.le_refl _) (Below.refl _ _)
               have HR1 := hide (own_row2 own1)
               have hgl := (own1.lt _ rfl).2
               clear b1 g1 own1)
  go_wp2_with fail
  go_loopw [4] (fun v wr => ∃ (pos k E : Nat), v = .int .i64 (E : Int) ∧ pos + E = l.length ∧ Hid (wr.heap[w.heap.size]? = some (.cells (u8s (List.replicate E 0 ++ backK l k)).toArray 5 (0, 0))) ∧ Hid (wr.heap[w1.heap.size]? = some (.stringIter (str l) pos)) ∧ Below w.heap.size w wr ∧ AtR l k pos) (fun _ wr => l.length - wr.iterPos w1.heap.size)
  case atStart =>
    refine ⟨0, 0, l.length, rfl, by omega, hide ?_, hide ?_, nxt_alloc B1 _, AtR.zero l⟩
    · have h1 := HR1.out
      show (w1.alloc _).heap[w.heap.size]? = _
      rw [Lib.alloc_old w1 _ w.heap.size (by omega), h1]
      simp [backK, joinR, u8s]
    · exact World.iter_heap w1 (str l) 0
  case round =>
    obtain ⟨pos, k, E, rfl, hpE, HR, hit, hbw, A⟩ := hrel
    have hsK : w1.heap.size < wr.heap.size := (Array.getElem?_eq_some_iff.1 hit.out).1
    have hp := A.le
    clear HR1 B1
    by_cases hlt : pos < l.length
    · obtain ⟨A2, hx, hb1, hb2⟩ := A.step hlt
      have hnx := next_at (P := Tryd.prog) wr w1.heap.size l pos hit.out hlt
      have hst := backK_step hx
      have hraw : rawL l pos = (l.drop pos).take (headR (l.drop pos)).2 := rfl
      obtain ⟨wd, ewd⟩ : ∃ wd, wd = (headR (l.drop pos)).2 := ⟨_, rfl⟩
      obtain ⟨r, er⟩ : ∃ r, r = (headR (l.drop pos)).1 := ⟨_, rfl⟩
      obtain ⟨W, eW⟩ : ∃ W, W = wr.iterAt w1.heap.size (str l) (pos + wd) := ⟨_, rfl⟩
      rw [← ewd] at A2 hb1 hb2 hnx hst hraw
      rw [← er] at hnx hst
      rw [← eW] at hnx
      rw [← hraw] at hst
      have hrl : (rawL l pos).length = wd := by rw [hraw, List.length_take, List.length_drop]; omega
      have HR2 : Hid (W.heap[w.heap.size]? = some (.cells (u8s (List.replicate E 0 ++ backK l k)).toArray 5 (0, 0))) := hide (by rw [eW, Lib.iterAt_other wr w1.heap.size w.heap.size _ _ (by omega)]; exact HR.out)
      have hit2 : Hid (W.heap[w1.heap.size]? = some (.stringIter (str l) (pos + wd))) := hide (by rw [eW]; exact Lib.iterAt_heap wr w1.heap.size (str l) pos (pos + wd) hit.out)
      have hbw2 : Below w.heap.size w W := by rw [eW]; exact Lib.below_iterAt hbw (k := w1.heap.size) (by omega) (str l) (pos + wd)
      have hme : wr.iterPos w1.heap.size = pos := by simp [World.iterPos, hit.out]
      have HM := hide hme
      obtain ⟨E2, hE2⟩ : ∃ E2, E = E2 + wd := ⟨E - wd, by omega⟩
      subst hE2
      have hsub : IntKind.i64.wrap (((E2 + wd : Nat) : Int) - (wd : Int)) = (E2 : Int) := by rw [IntWalk.i64_in _ (by omega)]; omega
      have hrs : (str (rawL l pos)).size = wd := by rw [str_size, hrl]
      have i1 : E2 ≤ l.length := by omega
      have i2 : ¬ l.length = E2 := by omega
      have HS := hide hst
      have HL := hide hrl
      clear hit eW hbw hsK ewd er hx hme hst HR hraw hrl
      go_wp2_with fail
      refine (raw_any l pos W (by omega) hlt (Utf8Tabs_below HT.out hbw2)).mono ?_
      rintro e W0 ⟨rfl, b0⟩
      have HR3 := hide ((b0.block w.heap.size (Array.getElem?_eq_some_iff.1 HR2.out).1).trans HR2.out)
      have hit3 := hide (iter_below hit2.out b0)
      have hbw3 := nxt hbw2 b0
      clear HR2 hit2 hbw2 b0
      go_wp2_with (refine wpList_copy_text rfl _ _ 33 9 rfl 5 Tryd.underlying33 Tryd.sizeU8 w.heap.size E2 (l.length - E2) (l.length - E2) rfl (rawL l pos) rfl _ 5 HR3.out (by rw [HL.out]; omega) (by rw [length_u8s, List.length_append, List.length_replicate, HL.out]; omega) ?_
                   intro W1 HR4 hsz4 ho4 hb4)
      have HR5 : Hid (W1.heap[w.heap.size]? = some (.cells (u8s (List.replicate E2 0 ++ backK l (k + 1))).toArray 5 (0, 0))) := hide (by rw [HR4.out, back_splice l E2 wd _ _ HL.out, HS.out])
      have hit5 : Hid (W1.heap[w1.heap.size]? = some (.stringIter (str l) (pos + wd))) := hide ((ho4 w1.heap.size (by omega)).trans hit3.out)
      have hbw5 : Below w.heap.size w W1 := hbw3.trans hb4
      clear HR4 HR3 hit3 ho4 hb4 hbw3
      (try simp only [Act.put, List.setIfInBounds_toArray, List.set_cons_zero, List.set_cons_succ])
      go_wp2_with fail
      go_roundw
      case rel => exact ⟨pos + wd, k + 1, E2, rfl, by omega, HR5, hit5, hbw5, A2⟩
      case measure => rw [HM.out]; simp [World.iterPos, hit5.out]; omega
    · have hnx := next_at_end (P := Tryd.prog) wr w1.heap.size l pos hit.out hlt
      obtain ⟨hk, hpe⟩ := A.end_ hlt
      have hE : E = 0 := by omega
      subst hE
      have hX : List.replicate 0 0 ++ backK l k = O := by rw [HO.out, ← backK_all, ← hk]; rfl
      have h5 := HR.out
      rw [hX] at h5
      have hOl : O.length = l.length := by rw [HO.out]; show (joinR (runesL l).reverse).length = _; rw [joinR_rev_len, runes_join]
      have hcv := run_str (P := Tryd.prog) Tryd.underlying33 Tryd.underlying5 Tryd.underlying9 l.length hOl (cells_row h5)
      clear A hk hpe HR hX h5 hOl hit
      go_wp2_with fail
      go_ret
      exact ⟨rfl, hbw⟩
end Go.Proofs.YtdginbmannhfnaaDoor
