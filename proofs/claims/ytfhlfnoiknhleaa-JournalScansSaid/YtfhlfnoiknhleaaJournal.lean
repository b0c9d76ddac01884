/-
  The package journal: Open, and a journal's methods.
-/
import Derived.Test.YtfhlfnoiknhleaaScan
import Derived.Test.YtfhlfnoiknhleaaDisk
namespace Go.Proofs.Ytfhlfnoiknhleaa
open Go.RowKit
set_option linter.unusedVariables false

/-- Block j is a journal on disk d that counts k records. -/
def JourAt (w : World) (j d k : Nat) : Prop := w.heap[j]? = some (.cells #[.pointer (some ⟨d, 0, none⟩), .int .i64 (k : Int)] 54 (0, 0))
theorem JourAt.keep {w w' : World} {j d k : Nat} (h : JourAt w j d k) (hd : w'.heap[j]? = w.heap[j]?) : JourAt w' j d k := hd.trans h
theorem JourAt.lt {w : World} {j d k : Nat} (h : JourAt w j d k) : j < w.heap.size := (Array.getElem?_eq_some_iff.1 h).1
theorem JourAt.below {w w' : World} {j d k : Nat} (h : JourAt w j d k) (hb : Below w.heap.size w w') : JourAt w' j d k := h.keep (hb.block j h.lt)
theorem JourAt.reads {w : World} {j d k : Nat} (h : JourAt w j d k) : w.cell? ⟨j, 0, none⟩ = some (.pointer (some ⟨d, 0, none⟩)) ∧ w.cell? ⟨j, 1, none⟩ = some (.int .i64 (k : Int)) ∧ w.frozen? ⟨j, 1, none⟩ = false := by
  unfold JourAt at h
  exact ⟨by simp [World.cell?, h], by simp [World.cell?, h], by simp [World.frozen?, h]⟩
theorem JourAt.leaves {w w' : World} {j d d' k : Nat} {r : Option Nat} (h : JourAt w j d k) (hL : Leaves d' r w w') (h1 : j ≠ d') (h2 : some j ≠ r) : JourAt w' j d k := h.keep (hL.block j h.lt h1 h2)
theorem count_any (j d k : Nat) (w : World) (h : JourAt w j d k) :
    Calls Try.prog 26 #[.pointer (some ⟨j, 0, none⟩)] w fun e w' => e = .returned (.int .i64 (k : Int)) ∧ w = w' := by
  obtain ⟨c0, c1, f1⟩ := h.reads
  go_enter Try.func26, Try.ntmps26
  go_wp2_with fail
  go_ret
  exact ⟨rfl, rfl⟩
theorem jsync_any (j d k : Nat) (r : Option Nat) (l : List UInt8) (s : Nat) (w : World) (h : JourAt w j d k) (D : DiskAt w d r l s) (hjd : j ≠ d) (hjr : some j ≠ r) :
    Calls Try.prog 24 #[.pointer (some ⟨j, 0, none⟩)] w fun e w' => e = .returned (.tuple #[]) ∧ DiskAt w' d r l l.length ∧ JourAt w' j d k ∧ Leaves d r w w' := by
  obtain ⟨c0, c1, f1⟩ := h.reads
  go_enter Try.func24, Try.ntmps24
  go_wp2_with fail
  refine (sync_any d r l s _ D).mono ?_
  rintro e w2 ⟨rfl, D2, L2⟩
  go_wp2_with fail
  go_end0
  exact ⟨rfl, D2, h.leaves L2 hjd hjr, L2⟩
/-- Block d, block j and row r may have turned; all else is as it was. -/
structure Leaves2 (d j : Nat) (r : Option Nat) (w w' : World) : Prop where
  os : w'.os = w.os
  tape : w'.tape = w.tape
  output : w'.output = w.output
  size : w.heap.size ≤ w'.heap.size
  block : ∀ k, k < w.heap.size → k ≠ d → k ≠ j → some k ≠ r → w'.heap[k]? = w.heap[k]?
theorem Leaves2.below {d j : Nat} {r : Option Nat} {w w' : World} (h : Leaves2 d j r w w') {B : Nat} (hd : B ≤ d) (hj : B ≤ j) (hr : ∀ g, r = some g → B ≤ g) (hs : B ≤ w.heap.size) : Below B w w' :=
  ⟨h.os, h.tape, h.output, h.size, fun k hk => h.block k (by omega) (by omega) (by omega) (fun e => by have := hr k e.symm; omega)⟩
set_option maxHeartbeats 1600000 in
theorem jappend_any (j d k : Nat) (r : Option Nat) (l x : List UInt8) (s : Nat) (A : Option Addr) (n c : Nat) (w : World) (h : JourAt w j d k) (D : DiskAt w d r l s) (hjd : j ≠ d) (hjr : some j ≠ r) (hn : x.length = n) (h255 : n ≤ 255) (hk : k ≤ 1000000000) (hfit : l.length + n + 6 ≤ 1048576) (hA : Cells w A (u8s x)) :
    Calls Try.prog 11 #[.pointer (some ⟨j, 0, none⟩), .slice A n c] w fun e w' => e = .returned (.int .i64 0) ∧ ∃ r', DiskAt w' d r' (l ++ frameL x) s ∧ (r' = r ∨ ∀ g, r' = some g → w.heap.size ≤ g) ∧ JourAt w' j d (k + 1) ∧ Leaves2 d j r w w' := by
  obtain ⟨c0, c1, f1⟩ := h.reads
  have hjl := h.lt
  go_enter Try.func11, Try.ntmps11
  go_wp2_with fail
  refine (frame_ok A n c x _ hn h255 hA).mono ?_
  have hfl : (frameL x).length = n + 6 := by rw [length_frameL, hn]
  obtain ⟨G, eG⟩ : ∃ G, G = frameL x := ⟨_, rfl⟩
  rw [← eG] at hfl ⊢
  have HFL := hide hfl
  have EG := hide eG
  rintro e w2 ⟨AF, cF, rfl, -, hF, hFc, hFm, hb⟩
  rw [hfl]
  have h2 := h.below hb
  have D2 := D.below hb
  obtain ⟨c02, c12, f12⟩ := h2.reads
  clear c0 c1 f1 hfl hFc hFm eG
  go_wp2_with fail
  refine (append_any d r l G s AF (n + 6) cF _ D2 HFL.out (by rw [HFL.out]; omega) hF).mono ?_
  rintro e w3 ⟨rfl, r', D3, hr', L3⟩
  have h3 := h2.leaves L3 hjd hjr
  obtain ⟨c03, c13, f13⟩ := h3.reads
  have hjr' : some j ≠ r' := by
    rcases hr' with rfl | hr'
    · exact hjr
    · intro e; have := hr' j e.symm; have := hb.size; omega
  have HR := hide hr'
  clear c02 c12 f12 hr'
  go_wp2_with fail
  go_ret
  rw [EG.out] at D3
  have hset : (w3.setCell ⟨j, 1, none⟩ (.int .i64 ((k : Int) + 1))).heap[j]? = some (.cells #[.pointer (some ⟨d, 0, none⟩), .int .i64 ((k + 1 : Nat) : Int)] 54 (0, 0)) := by
    rw [heap_setCell_same _ _ _ _ _ _ h3]; rfl
  have hLs : Leaves j none w3 (w3.setCell ⟨j, 1, none⟩ (.int .i64 ((k : Int) + 1))) := (Leaves.refl _ _ _).setCell _ _
  refine ⟨rfl, r', D3.other hLs (Ne.symm hjd) (by simp) (fun g hg => ⟨by rintro rfl; exact hjr' hg.symm, by simp⟩), ?_, hset, ?_⟩
  · rcases HR.out with rfl | h9
    · exact .inl rfl
    · exact .inr fun g hg => Nat.le_trans hb.size (h9 g hg)
  · refine ⟨hLs.os.trans (L3.os.trans hb.os), hLs.tape.trans (L3.tape.trans hb.tape), hLs.output.trans (L3.output.trans hb.output), Nat.le_trans hb.size (Nat.le_trans L3.size hLs.size), fun b hb1 hd1 hj1 hr1 => ?_⟩
    have h1 := hb.block b hb1
    have h2 := L3.block b (Nat.lt_of_lt_of_le hb1 hb.size) hd1 hr1
    have h3 := hLs.block b (Nat.lt_of_lt_of_le hb1 (Nat.le_trans hb.size L3.size)) hj1 (by simp)
    exact h3.trans (h2.trans h1)
/-- What Open leaves of a disk: the bytes up to a place. -/
def openSafe (l : List UInt8) (s : Nat) : Nat := if (scanL l 0).stop < l.length then (scanL l 0).stop else s
/-- A journal is answered, with its records. -/
def Opens (w : World) (d : Nat) (r : Option Nat) (l : List UInt8) (s : Nat) (e : Ending) (w' : World) : Prop :=
  ∃ j A n c vs r', e = .returned (.tuple #[.pointer (some ⟨j, 0, none⟩), .slice A n c, .int .i64 0]) ∧ (scanL l 0).rows.length = n ∧ w'.ownsRow w.heap.size 30 1 (.slice A n c) n vs ∧ BRow w' 0 vs (scanL l 0).rows ∧ n ≤ c ∧
    (∀ v ∈ vs, ∀ g, v.ownBlock = some g → w.heap.size ≤ g ∧ g ≠ j ∧ some g ≠ r') ∧ JourAt w' j d n ∧ w.heap.size ≤ j ∧ some j ≠ r' ∧ DiskAt w' d r' (l.take (scanL l 0).stop) (openSafe l s) ∧ (r' = r ∨ ∀ g, r' = some g → w.heap.size ≤ g) ∧ Leaves d r w w'
theorem scanS_stop : ∀ (k : Nat) (t : List UInt8) (p : Nat), (scanS k t p).stop ≤ p + t.length
  | 0, t, p => by simp [scanS]
  | k + 1, t, p => by
    unfold scanS
    split
    · simp
    · split
      · rename_i h
        have ho : openF t p = ⟨(openF t p).b, (openF t p).stop, 0⟩ := by rw [← h]
        obtain ⟨h1, h2, _⟩ := open_bd ho
        have := scanS_stop k (t.drop ((openF t p).b.length + 6)) (openF t p).stop
        rw [List.length_drop] at this
        show (scanS k _ _).stop ≤ _
        omega
      · split <;> simp
end Go.Proofs.Ytfhlfnoiknhleaa
