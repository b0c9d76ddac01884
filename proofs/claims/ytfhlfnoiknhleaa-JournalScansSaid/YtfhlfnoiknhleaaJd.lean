/-
  A journal and its disk, as the laws use them; chapter 23's known.
-/
import Derived.Test.YtfhlfnoiknhleaaJOpen
namespace Go.Proofs.Ytfhlfnoiknhleaa
open Go.RowKit
set_option linter.unusedVariables false

theorem Leaves.belowD {w w' : World} {d B : Nat} {r : Option Nat} {l : List UInt8} {s : Nat} (h : Leaves d r w w') (D : DiskAt w d r l s) (hd : B ≤ d) (hs : B ≤ w.heap.size) : Below B w w' :=
  h.below hd (fun g hg => by have := (D.row_lt.2 g hg).1; omega) hs
/-- A disk at or behind B. -/
structure DK (B : Nat) (w : World) (d : Nat) (l : List UInt8) (s : Nat) : Prop where
  disk : ∃ r, DiskAt w d r l s
  bd : B ≤ d
theorem DK.below {B : Nat} {w w' : World} {d : Nat} {l : List UInt8} {s : Nat} (h : DK B w d l s) (hb : Below w.heap.size w w') : DK B w' d l s := by
  obtain ⟨⟨r, D⟩, hd⟩ := h
  exact ⟨⟨r, D.below hb⟩, hd⟩
theorem DK.lt {B : Nat} {w : World} {d : Nat} {l : List UInt8} {s : Nat} (h : DK B w d l s) : B ≤ w.heap.size := by
  obtain ⟨⟨r, D⟩, hd⟩ := h
  have := D.row_lt.1; omega
/-- A journal on a disk, both at or behind B. -/
structure JD (B : Nat) (w : World) (d j : Nat) (l : List UInt8) (s k : Nat) : Prop where
  disk : ∃ r, DiskAt w d r l s ∧ some j ≠ r
  jour : JourAt w j d k
  ne : j ≠ d
  bd : B ≤ d
  bj : B ≤ j
theorem JD.dk {B : Nat} {w : World} {d j : Nat} {l : List UInt8} {s k : Nat} (h : JD B w d j l s k) : DK B w d l s := by
  obtain ⟨⟨r, D, _⟩, _, _, hd, _⟩ := h
  exact ⟨⟨r, D⟩, hd⟩
theorem JD.below {B : Nat} {w w' : World} {d j : Nat} {l : List UInt8} {s k : Nat} (h : JD B w d j l s k) (hb : Below w.heap.size w w') : JD B w' d j l s k := by
  obtain ⟨⟨r, D, hr⟩, hj, hne, hd, hj'⟩ := h
  exact ⟨⟨r, D.below hb, hr⟩, hj.below hb, hne, hd, hj'⟩
theorem dk_new (w : World) : Calls Try.prog 10 #[] w fun e w' => ∃ d, e = .returned (.pointer (some ⟨d, 0, none⟩)) ∧ DK w.heap.size w' d [] 0 ∧ Below w.heap.size w w' :=
  (new_any w).mono fun e w' ⟨d, h1, h2, h3, h4⟩ => ⟨d, h1, ⟨⟨none, h3⟩, h2⟩, h4⟩
theorem dk_append (B d : Nat) (l x : List UInt8) (s : Nat) (A : Option Addr) (n c : Nat) (w : World) (h : DK B w d l s) (hn : x.length = n) (hfit : l.length + n ≤ 1048576) (hA : Cells w A (u8s x)) :
    Calls Try.prog 13 #[.pointer (some ⟨d, 0, none⟩), .slice A n c] w fun e w' => e = .returned (.int .i64 0) ∧ DK B w' d (l ++ x) s ∧ Below B w w' := by
  have hs := h.lt
  obtain ⟨⟨r, D⟩, hd⟩ := h
  refine (append_any d r l x s A n c w D hn (by omega) hA).mono ?_
  rintro e w' ⟨rfl, r', D', _, L⟩
  exact ⟨rfl, ⟨⟨r', D'⟩, hd⟩, L.belowD D hd hs⟩
theorem dk_crash (B d : Nat) (l : List UInt8) (s : Nat) (keep : Int) (w : World) (h : DK B w d l s) :
    Calls Try.prog 25 #[.pointer (some ⟨d, 0, none⟩), .int .i64 keep] w fun e w' => e = .returned (.tuple #[]) ∧ DK B w' d (l.take (crashLen l.length s keep)) (crashLen l.length s keep) ∧ Below B w w' := by
  have hs := h.lt
  obtain ⟨⟨r, D⟩, hd⟩ := h
  refine (crash_k d r l s keep w _ _ D rfl rfl).mono ?_
  rintro e w' ⟨rfl, D', L⟩
  exact ⟨rfl, ⟨⟨r, D'⟩, hd⟩, L.belowD D hd hs⟩
theorem jd_append (B d j : Nat) (l x : List UInt8) (s k : Nat) (A : Option Addr) (n c : Nat) (w : World) (h : JD B w d j l s k) (hn : x.length = n) (h255 : n ≤ 255) (hk : k ≤ 1000000000) (hfit : l.length + n + 6 ≤ 1048576) (hA : Cells w A (u8s x)) :
    Calls Try.prog 11 #[.pointer (some ⟨j, 0, none⟩), .slice A n c] w fun e w' => e = .returned (.int .i64 0) ∧ JD B w' d j (l ++ frameL x) s (k + 1) ∧ Below B w w' := by
  have hs := h.dk.lt
  obtain ⟨⟨r, D, hr⟩, hj, hne, hd, hj'⟩ := h
  refine (jappend_any j d k r l x s A n c w hj D hne hr hn h255 hk hfit hA).mono ?_
  rintro e w' ⟨rfl, r', D', hr', J', L⟩
  refine ⟨rfl, ⟨⟨r', D', ?_⟩, J', hne, hd, hj'⟩, L.below hd hj' (fun g hg => by have := (D.row_lt.2 g hg).1; omega) hs⟩
  rcases hr' with rfl | hr'
  · exact hr
  · intro e; have := hr' j e.symm; have := hj.lt; omega
theorem jd_sync (B d j : Nat) (l : List UInt8) (s k : Nat) (w : World) (h : JD B w d j l s k) :
    Calls Try.prog 24 #[.pointer (some ⟨j, 0, none⟩)] w fun e w' => e = .returned (.tuple #[]) ∧ JD B w' d j l l.length k ∧ Below B w w' := by
  have hs := h.dk.lt
  obtain ⟨⟨r, D, hr⟩, hj, hne, hd, hj'⟩ := h
  refine (jsync_any j d k r l s w hj D hne hr).mono ?_
  rintro e w' ⟨rfl, D', J', L⟩
  exact ⟨rfl, ⟨⟨r, D', hr⟩, J', hne, hd, hj'⟩, L.belowD D hd hs⟩
/-- What Open answers of a disk whose bytes are records and what is left of a last one. -/
def OpenK (B : Nat) (w : World) (d : Nat) (l : List UInt8) (s : Nat) (rows : List (List UInt8)) (P n : Nat) (e : Ending) (w' : World) : Prop :=
  ∃ j A c vs, e = .returned (.tuple #[.pointer (some ⟨j, 0, none⟩), .slice A n c, .int .i64 0]) ∧ JD B w' d j (l.take P) (if P < l.length then P else s) n ∧ Cells w' A vs ∧ BRow w' 0 vs rows ∧ n ≤ c ∧ Below B w w'
theorem jd_open (B d : Nat) (l : List UInt8) (s : Nat) (w : World) (rows : List (List UInt8)) (P n : Nat) (h : DK B w d l s) (hy : scanL l 0 = ⟨rows, P, 0⟩) (hn : rows.length = n) :
    Calls Try.prog 9 #[.pointer (some ⟨d, 0, none⟩)] w (OpenK B w d l s rows P n) := by
  have hs := h.lt
  obtain ⟨⟨r, D⟩, hd⟩ := h
  refine (jopen_any d r l s w D (by rw [hy])).mono ?_
  rintro e w' ⟨j, A, n', c, vs, r', rfl, hn', own, hB, hc, hoff, hJ, hj, hjr, D', hr', L⟩
  rw [hy] at hn' hB D'
  simp only at hn' hB D'
  obtain rfl : n = n' := hn.symm.trans hn'
  have hdl := D.row_lt.1
  refine ⟨j, A, c, vs, rfl, ⟨⟨r', ?_, hjr⟩, hJ, by omega, hd, by omega⟩, Cells.of_own own, hB, hc, L.belowD D hd hs⟩
  have : openSafe l s = if P < l.length then P else s := by unfold openSafe; rw [hy]
  rw [← this]
  exact D'
/-- A last record that is cut off ends what is scanned. -/
theorem scan_cut (ls : List (List UInt8)) (b : List UInt8) (k : Nat) (h : ∀ b ∈ ls, b.length ≤ 255) (hb : b.length ≤ 255) (hk : k < b.length + 6) : scanL (framesC ls ++ (frameL b).take k) 0 = ⟨ls, (framesC ls).length, 0⟩ := by
  rw [scan_frames ls _ 0 h, Nat.zero_add]
  by_cases hk0 : k = 0
  · subst hk0
    simp [scan_nil]
  · rw [scan_end]
    · simp
    · intro h0
      have := congrArg List.length h0
      rw [List.length_take, length_frameL] at this
      simp at this
      omega
    · rw [openF_cut b hb k hk]
set_option maxHeartbeats 1600000 in
theorem known23_any (w : World) : Calls Try.prog 16 #[] w fun e w' => e = .returned (.bool true) ∧ Below w.heap.size w w' := by
  have kc := fun (w : World) (C : Array Value) (n c : Nat) => Lib.run_convert_bytes_const (P := Try.prog) w 30 5 C n c Try.underlying30 Try.underlying5
  go_enter Try.func16, Try.ntmps16
  go_wp2_with fail
  refine (dk_new _).mono ?_
  rintro e w1 ⟨d, rfl, D1, B1⟩
  go_wp2_with fail
  refine (jd_open _ d _ _ _ [] 0 0 D1 rfl rfl).mono ?_
  rintro e w2 ⟨j, A2, c2, vs2, rfl, J2, -, -, -, b2⟩
  have B2 := B1.trans b2
  clear D1 B1 b2
  go_wp2_with fail
  refine (jd_append _ d j _ [97] _ _ _ 1 1 _ (J2.below (nxt_alloc (Below.refl _ _) _)) rfl (by omega) (by omega) (by simp) (Cells.litm w2 #[.int .u8 97] _ _)).mono ?_
  rintro e w3 ⟨rfl, J3, b3⟩
  have B3 := (nxt_alloc B2 _).trans b3
  clear J2 B2 b3
  go_wp2_with fail
  refine (jd_sync _ d j _ _ _ _ J3).mono ?_
  rintro e w4 ⟨rfl, J4, b4⟩
  have B4 := B3.trans b4
  clear J3 B3 b4
  go_wp2_with fail
  refine (jd_append _ d j _ [98] _ _ _ 1 1 _ (J4.below (nxt_alloc (Below.refl _ _) _)) rfl (by omega) (by omega) (by simp [length_frameL]) (Cells.litm w4 #[.int .u8 98] _ _)).mono ?_
  rintro e w5 ⟨rfl, J5, b5⟩
  have B5 := (nxt_alloc B4 _).trans b5
  have D5 := J5.dk
  clear J4 B4 b5 J5
  go_wp2_with fail
  refine (dk_crash _ d _ _ 3 _ D5).mono ?_
  rintro e w6 ⟨rfl, D6, b6⟩
  have B6 := B5.trans b6
  clear D5 B5 b6
  have hl6 : (List.take (crashLen (List.take 0 ([] : List UInt8) ++ frameL [97] ++ frameL [98]).length (List.take 0 ([] : List UInt8) ++ frameL [97]).length 3) (List.take 0 ([] : List UInt8) ++ frameL [97] ++ frameL [98])) = framesC [[97]] ++ (frameL [98]).take 3 := by
    rw [show crashLen (List.take 0 ([] : List UInt8) ++ frameL [97] ++ frameL [98]).length (List.take 0 ([] : List UInt8) ++ frameL [97]).length 3 = 10 by simp [length_frameL, crashLen]]
    simp [framesC, List.take_append, length_frameL, List.take_of_length_le]
  rw [hl6] at D6
  have hsc := scan_cut [[97]] [98] 3 (by simp) (by simp) (by simp)
  clear hl6
  go_wp2_with fail
  refine (jd_open _ d _ _ _ _ _ 1 D6 hsc rfl).mono ?_
  rintro e w7 ⟨k, A7, c7, vs7, rfl, J7, hc7, hB7, hn7, b7⟩
  have B7 := B6.trans b7
  clear D6 B6 b7 hsc
  obtain ⟨A8, c8, hv8, hA8⟩ := hB7.at_ 0 [97] rfl
  obtain ⟨b9, o9, u9, rfl, hb9, hc9, hu9⟩ := hc7.val_at (k := 0) (by rw [hB7.len]; simp)
  obtain rfl : u9 = .slice A8 1 c8 := by
    have := hu9.out
    rw [hv8] at this
    injection this with this
    exact this.symm
  rw [Nat.add_zero] at hc9
  have k6 := run_str (P := Try.prog) Try.underlying30 Try.underlying5 Try.underlying9 c8 (n := 1) (l := [97]) rfl hA8.cells
  have e6 : ((str [97]).toList == [97]) = true := by rw [str_toList]; decide
  have JJ := J7.jour
  clear hB7 hc7 hu9 hv8 hA8 J7
  go_wp2_with fail
  refine (count_any k d 1 _ JJ).mono ?_
  rintro e w8 ⟨rfl, rfl⟩
  go_wp2_with fail
  go_ret
  exact ⟨rfl, B7⟩
end Go.Proofs.Ytfhlfnoiknhleaa
