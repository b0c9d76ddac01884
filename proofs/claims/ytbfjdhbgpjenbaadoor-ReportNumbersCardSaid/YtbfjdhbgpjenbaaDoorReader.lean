/-
  What a reader of the package wire computes.
-/
import Derived.Test.YtbfjdhbgpjenbaaDoorWire
import Derived.Test.YtbfjdhbgpjenbaaDoorStrs
namespace Go.Proofs.YtbfjdhbgpjenbaaDoor
set_option linter.unusedSimpArgs false
open Go.RowKit
set_option linter.unusedVariables false

/-- What is left to read; was more asked than there was? -/
structure Rd where
  l : List UInt8
  bad : Bool
/-- So many bytes are taken. -/
def Rd.took (s : Rd) (n : Nat) : List UInt8 := if s.bad = true ∨ s.l.length < n then [] else s.l.take n
def Rd.left (s : Rd) (n : Nat) : Rd := if s.bad = true ∨ s.l.length < n then ⟨s.l, true⟩ else ⟨s.l.drop n, false⟩
theorem Rd.length_took (s : Rd) (n : Nat) : (s.took n).length ≤ n := by
  unfold Rd.took
  split <;> simp
  omega
theorem Rd.took_lt (s : Rd) (n : Nat) : ofLe (s.took n) < 256 ^ n := Nat.lt_of_lt_of_le (ofLe_lt _) (Nat.pow_le_pow_right (by omega) (s.length_took n))
theorem Rd.length_left (s : Rd) (n : Nat) : (s.left n).l.length ≤ s.l.length := by
  unfold Rd.left
  split <;> simp
/-- Block d is a reader. -/
structure ReaderAt (w : World) (d : Nat) (s : Rd) : Prop where
  blk : ∃ A c, w.heap[d]? = some (.cells #[.slice A s.l.length c, .bool s.bad] 87 (0, 0)) ∧ Cells w A (u8s s.l) ∧ (∀ a, A = some a → a.block < d) ∧ s.l.length ≤ c ∧ c ≤ 9223372036854775807
theorem ReaderAt.keep {w w' : World} {d : Nat} {s : Rd} (h : ReaderAt w d s) (hd : w'.heap[d]? = w.heap[d]?) (hb : w.heap.size ≤ w'.heap.size) (hc : ∀ b, b < w.heap.size → b ≠ d → ∀ A c k, w.heap[d]? = some (.cells #[.slice (some ⟨b, k, none⟩) s.l.length c, A] 87 (0, 0)) → w'.heap[b]? = w.heap[b]?) : ReaderAt w' d s := by
  obtain ⟨A, c, h0, h1, h2, h3, h4⟩ := h.blk
  refine ⟨⟨A, c, hd.trans h0, h1.keep hb fun b o hA hlt k => World.cell?_of_block (hc b hlt (Nat.ne_of_lt (h2 ⟨b, o, none⟩ hA)) _ c o (by rw [h0, hA])), h2, h3, h4⟩⟩
theorem ReaderAt.lt {w : World} {d : Nat} {s : Rd} (h : ReaderAt w d s) : d < w.heap.size := by
  obtain ⟨A, c, h0, _⟩ := h.blk
  exact (Array.getElem?_eq_some_iff.1 h0).1
theorem ReaderAt.below {w w' : World} {d : Nat} {s : Rd} (h : ReaderAt w d s) (hb : Below w.heap.size w w') : ReaderAt w' d s :=
  h.keep (hb.block d h.lt) hb.size fun b hlt _ _ _ _ _ => hb.block b hlt
theorem ReaderAt.other {w w' : World} {d d' : Nat} {s : Rd} (h : ReaderAt w d s) (hb : Leaves d' none w w') (hlt : d < d') : ReaderAt w' d s := by
  obtain ⟨A, c, h0, h1, h2, h3, h4⟩ := h.blk
  exact ⟨⟨A, c, (hb.block d h.lt (by omega) (by simp)).trans h0, hb.cells h1 (fun b o hA => ⟨by have := h2 _ hA; simp only at this; omega, by simp⟩), h2, h3, h4⟩⟩
theorem ReaderAt.reads {w : World} {d : Nat} {s : Rd} (h : ReaderAt w d s) :
    ∃ A c, w.heap[d]? = some (.cells #[.slice A s.l.length c, .bool s.bad] 87 (0, 0)) ∧ w.cell? ⟨d, 0, none⟩ = some (.slice A s.l.length c) ∧ w.cell? ⟨d, 1, none⟩ = some (.bool s.bad) ∧ w.frozen? ⟨d, 0, none⟩ = false ∧ w.frozen? ⟨d, 1, none⟩ = false ∧
      Cells w A (u8s s.l) ∧ (∀ a, A = some a → a.block < d) ∧ s.l.length ≤ c ∧ c ≤ 9223372036854775807 := by
  obtain ⟨A, c, h0, h1, h2, h3, h4⟩ := h.blk
  exact ⟨A, c, h0, by simp [World.cell?, h0], by simp [World.cell?, h0], by simp [World.frozen?, h0], by simp [World.frozen?, h0], h1, h2, h3, h4⟩
theorem Cells.set {w : World} {A : Option Addr} {xs : List Value} (h : Cells w A xs) {d : Nat} (hne : ∀ a, A = some a → a.block < d) (i : Nat) (u : Value) : Cells (w.setCell ⟨d, i, none⟩ u) A xs :=
  h.keep (by simp [World.setCell]) fun b o hA _ k => World.cell?_of_block (Below.heap_setCell _ _ _ _ (Nat.ne_of_lt (hne ⟨b, o, none⟩ hA)))
theorem newReader_any (A : Option Addr) (n c : Nat) (l : List UInt8) (w : World) (hn : l.length = n) (hl : n ≤ 1099511627776) (hA : Cells w A (u8s l)) :
    Calls Tryd.prog 35 #[.slice A n c] w fun e w' => ∃ d, e = .returned (.pointer (some ⟨d, 0, none⟩)) ∧ w.heap.size ≤ d ∧ ReaderAt w' d ⟨l, false⟩ ∧ Below w.heap.size w w' := by
  subst hn
  go_enter Tryd.func35, Tryd.ntmps35
  go_wp2_with fail
  refine (clone_any A _ c l _ rfl hl hA).mono ?_
  rintro e w1 ⟨A1, c1, rfl, own, hA1, h1, h2, hb⟩
  go_wp2_with fail
  go_ret
  refine ⟨_, rfl, hb.size, ⟨⟨A1, c1, heap_alloc_new _ _, hA1.alloc _, ?_, h1, by unfold maxLen at h2; omega⟩⟩, hb.alloc hb.size _⟩
  rintro ⟨b, o, sp⟩ hA'
  have h3 := own.lt b (by rw [hA']; rfl)
  show b < _
  omega
theorem take_get {s : Rd} {n : Nat} (h : ¬ (s.bad = true ∨ s.l.length < n)) : s.took n = s.l.take n ∧ s.left n = ⟨s.l.drop n, false⟩ := by
  unfold Rd.took Rd.left; rw [if_neg h, if_neg h]; exact ⟨rfl, rfl⟩
theorem take_bad {s : Rd} {n : Nat} (h : s.bad = true ∨ s.l.length < n) : s.took n = [] ∧ s.left n = ⟨s.l, true⟩ := by
  unfold Rd.took Rd.left; rw [if_pos h, if_pos h]; exact ⟨rfl, rfl⟩
/-- What a reader's method leaves. -/
structure Took (w : World) (d : Nat) (s' : Rd) (w' : World) : Prop where
  at_ : ReaderAt w' d s'
  leaves : Leaves d none w w'
theorem Took.next {w w1 w2 : World} {d : Nat} {s1 s2 : Rd} (h : Took w d s1 w1) (h' : Took w1 d s2 w2) : Took w d s2 w2 := ⟨h'.at_, h.leaves.trans h'.leaves (.inl rfl)⟩
/-- What take answers. -/
def Taken (w : World) (d n : Nat) (s : Rd) (e : Ending) (w' : World) : Prop :=
  (∃ A m c, e = .returned (.slice A m c) ∧ (s.took n).length = m ∧ m ≤ c ∧ Cells w' A (u8s (s.took n)) ∧ (∀ a, A = some a → a.block < d)) ∧ Took w d (s.left n) w'
/-- The reader's fields are stored. -/
theorem ReaderAt.stored {w : World} {d : Nat} {v0 v1 : Value} {s : Rd} {A : Option Addr} {c m : Nat} (h0 : w.heap[d]? = some (.cells #[v0, v1] 87 (0, 0))) (hm : s.l.length = m) (hA : Cells w A (u8s s.l)) (h1 : ∀ a, A = some a → a.block < d) (h2 : m ≤ c) (h3 : c ≤ 9223372036854775807) :
    ((v1 = .bool s.bad → ReaderAt (w.setCell ⟨d, 0, none⟩ (.slice A m c)) d s) ∧ (v0 = .slice A m c → ReaderAt (w.setCell ⟨d, 1, none⟩ (.bool s.bad)) d s)) := by
  subst hm
  constructor
  · rintro rfl
    exact ⟨⟨A, c, by rw [heap_setCell_same _ _ _ _ _ _ h0]; rfl, hA.set h1 _ _, h1, h2, h3⟩⟩
  · rintro rfl
    exact ⟨⟨A, c, by rw [heap_setCell_same _ _ _ _ _ _ h0]; rfl, hA.set h1 _ _, h1, h2, h3⟩⟩
set_option maxHeartbeats 800000 in
theorem take_any (d n : Nat) (N : Int) (s : Rd) (w : World) (hN : N = n) (h : ReaderAt w d s) :
    Calls Tryd.prog 51 #[.pointer (some ⟨d, 0, none⟩), .int .i64 N] w (Taken w d n s) := by
  subst hN
  obtain ⟨A, c, hb, c0, c1, f0, f1, hA, hne, hlc, hc⟩ := h.reads
  obtain ⟨l, bad⟩ := s
  simp only at hb c0 c1 hA hlc
  cases bad
  · by_cases hn : l.length < n
    · have fin := (ReaderAt.stored (s := ⟨l, true⟩) hb rfl hA hne hlc hc).2 rfl
      have i1 : (l.length : Int) < n := by omega
      have HA := hide hA
      clear h hA
      go_enter Tryd.func51, Tryd.ntmps51
      go_wp2_with fail
      go_ret
      unfold Taken
      rw [(take_bad (s := ⟨l, false⟩) (.inr hn)).1, (take_bad (s := ⟨l, false⟩) (.inr hn)).2]
      exact ⟨⟨none, 0, 0, rfl, rfl, Nat.le_refl _, Cells.nil _ _, by simp⟩, fin, (Leaves.refl _ _ _).setCell _ _⟩
    · have hn' : ¬ ((⟨l, false⟩ : Rd).bad = true ∨ (⟨l, false⟩ : Rd).l.length < n) := by simp; omega
      have i1 : ¬ (l.length : Int) < n := by omega
      have hl' : (⟨l.drop n, false⟩ : Rd).l.length = l.length - n := by simp
      have hcn := hA.dropB n c hlc
      have htn := hA.takeB n
      have hlen : (l.take n).length = n := by simp; omega
      have T1 := (take_get hn').1
      have T2 := (take_get hn').2
      have HT1 := hide T1
      have HT2 := hide T2
      have HL := hide hl'
      have HLEN := hide hlen
      have HB := hide hb
      clear hl' T1 T2 hlen h hb hA
      have i2 : n ≤ l.length := by omega
      by_cases hcc : c = n
      · have hcn' : Cells w A (u8s (l.drop n)) := by rwa [if_pos hcc] at hcn
        subst hcc
        have HC := hide hcn
        clear hcn
        go_enter Tryd.func51, Tryd.ntmps51
        go_wp2_with fail
        go_ret
        unfold Taken
        rw [HT1.out, HT2.out]
        have hb1 : (w.setCell ⟨d, 1, none⟩ (.bool false)).heap[d]? = some (.cells #[.slice A l.length c, .bool false] 87 (0, 0)) := by rw [heap_setCell_same _ _ _ _ _ _ HB.out]; rfl
        have fin := (ReaderAt.stored (s := ⟨l.drop c, false⟩) (c := 0) hb1 (m := 0) (by rw [HL.out]; omega) (hcn'.set hne _ _) hne (Nat.le_refl _) (by omega)).1 rfl
        exact ⟨⟨A, c, c, rfl, HLEN.out, Nat.le_refl _, (htn.set hne _ _).set hne _ _, hne⟩, fin, ((Leaves.refl _ _ _).setCell _ _).setCell _ _⟩
      · have hcn' : Cells w (A.map (·.add n)) (u8s (l.drop n)) := by rwa [if_neg hcc] at hcn
        have HC := hide hcn
        clear hcn
        go_enter Tryd.func51, Tryd.ntmps51
        go_wp2_with fail
        go_ret
        unfold Taken
        rw [HT1.out, HT2.out]
        have hb1 : (w.setCell ⟨d, 1, none⟩ (.bool false)).heap[d]? = some (.cells #[.slice A l.length c, .bool false] 87 (0, 0)) := by rw [heap_setCell_same _ _ _ _ _ _ HB.out]; rfl
        have hne' : ∀ a, A.map (·.add n) = some a → a.block < d := by
          intro a ha
          rcases A with _ | a0
          · simp at ha
          · simp at ha; subst ha
            have := hne a0 rfl
            unfold Addr.add
            split <;> exact this
        have fin := (ReaderAt.stored (s := ⟨l.drop n, false⟩) (c := c - n) hb1 (m := l.length - n) HL.out (hcn'.set hne' _ _) hne' (by omega) (by omega)).1 rfl
        exact ⟨⟨A, n, c, rfl, HLEN.out, by omega, (htn.set hne _ _).set hne _ _, hne⟩, fin, ((Leaves.refl _ _ _).setCell _ _).setCell _ _⟩
  · have fin := (ReaderAt.stored (s := ⟨l, true⟩) hb rfl hA hne hlc hc).2 rfl
    have HA := hide hA
    clear h hA
    go_enter Tryd.func51, Tryd.ntmps51
    go_wp2_with fail
    go_ret
    unfold Taken
    rw [(take_bad (s := ⟨l, true⟩) (n := n) (.inl rfl)).1, (take_bad (s := ⟨l, true⟩) (n := n) (.inl rfl)).2]
    exact ⟨⟨none, 0, 0, rfl, rfl, Nat.le_refl _, Cells.nil _ _, by simp⟩, fin, (Leaves.refl _ _ _).setCell _ _⟩
theorem or_step (acc k : Nat) (x : UInt8) (hk : k < 8) (h : acc < 256 ^ k) :
    bits .or .u64 (acc : Int) (IntKind.u64.wrap (IntKind.u64.wrap (x.toNat : Int) * 2 ^ (8 * k))) = ((acc + x.toNat * 256 ^ k : Nat) : Int) := by
  have hx := x.toNat_lt
  have e1 : IntKind.u64.wrap (x.toNat : Int) = ((x.toNat : Nat) : Int) := by rw [IntKind.wrap_u64]; omega
  have e2 : (256 : Nat) ^ k = 2 ^ (8 * k) := by rw [Nat.pow_mul]
  have h7 : (256 : Nat) ^ k ≤ 256 ^ 7 := Nat.pow_le_pow_right (by omega) (by omega)
  have h7' : (256 : Nat) ^ 7 = 72057594037927936 := by decide
  have hp : x.toNat * 256 ^ k ≤ 255 * 256 ^ k := Nat.mul_le_mul_right _ (by omega)
  have e3 : ((x.toNat : Nat) : Int) * 2 ^ (8 * k) = ((x.toNat * 256 ^ k : Nat) : Int) := by
    rw [e2]; push_cast; rfl
  rw [e1, e3]
  have e4 : IntKind.u64.wrap ((x.toNat * 256 ^ k : Nat) : Int) = ((x.toNat * 256 ^ k : Nat) : Int) := by
    rw [IntKind.wrap_u64]; omega
  rw [e4, u64_or_nat _ _ (by omega) (by omega)]
  have e5 : acc ||| x.toNat * 256 ^ k = acc + x.toNat * 256 ^ k := by
    rw [Nat.or_comm, nat_join (8 * k) _ _ (by rw [e2]; exact Nat.mul_mod_left _ _) (by rw [← e2]; exact h), Nat.add_comm]
  rw [e5]
/-- What get answers: the number that the bytes make. -/
def Got (k : IntKind) (w : World) (d : Nat) (n : Int) (s' : Rd) (e : Ending) (w' : World) : Prop := e = .returned (.int k n) ∧ Took w d s' w'
set_option maxHeartbeats 800000 in
theorem get_any (d size : Nat) (sz : Int) (s : Rd) (w : World) (hsz : sz = size) (hs : size ≤ 8) (h : ReaderAt w d s) :
    Calls Tryd.prog 39 #[.pointer (some ⟨d, 0, none⟩), .int .i64 sz] w (Got .u64 w d (ofLe (s.took size) : Nat) (s.left size)) := by
  subst hsz
  have hlt8 := s.took_lt size
  have hlen8 := s.length_took size
  go_enter Tryd.func39, Tryd.ntmps39
  go_wp2_with fail
  refine (take_any d size size s _ rfl h).mono ?_
  rintro e w1 ⟨⟨A, m, c, rfl, hm, hmc, hA, hne⟩, hT⟩
  obtain ⟨l, el⟩ : ∃ l, l = s.took size := ⟨_, rfl⟩
  rw [← el] at hm hA hlt8 hlen8 ⊢
  subst hm
  have HEL := hide el
  clear el h
  go_wp2_with fail
  go_loop [5, 6, 7, 12] (fun v _ _ i => ∃ k : Nat, k ≤ l.length ∧ i = .int .i64 k ∧ v = .int .u64 (ofLe (l.take k) : Nat)) (fun _ _ _ i => l.length - (intOf i).toNat)
  case atStart => exact ⟨0, Nat.zero_le _, rfl, rfl⟩
  case round =>
    obtain ⟨k, hk, rfl, rfl⟩ := hrel
    by_cases hlt : k < l.length
    · obtain ⟨b, o, x, rfl, hb, hc, hx⟩ := hA.byte_at hlt
      have i1 : (k : Int) < l.length := by omega
      have HS := ofLe_take_succ hx.out
      have hacc := ofLe_lt (l.take k)
      rw [List.length_take, Nat.min_eq_left hk] at hacc
      have hor := or_step _ k x (by omega) hacc
      rw [← HS] at hor
      clear hA HS hacc
      go_wp2_with fail
      go_round
      case rel => exact ⟨k + 1, by omega, by go_num, rfl⟩
      case measure => simp [intOf]; omega
    · obtain rfl : k = l.length := by omega
      rw [List.take_length]
      go_wp2_with fail
      go_ret
      exact ⟨by rw [← HEL.out]; rfl, hT⟩
def Rd.byteOf (s : Rd) : Nat := ofLe (s.took 1)
theorem Rd.byteOf_lt (s : Rd) : s.byteOf < 256 := s.took_lt 1
def Rd.longOf (s : Rd) : Int := wrap64 (ofLe (s.took 8) : Nat)
def Rd.textOf (s : Rd) : List UInt8 := (s.left 1).took s.byteOf
def Rd.pastText (s : Rd) : Rd := (s.left 1).left s.byteOf
def Rd.endOf (s : Rd) : Int := if s.bad = true then 10 else if s.l = [] then 0 else 15
theorem rbyte_any (d : Nat) (s : Rd) (w : World) (h : ReaderAt w d s) :
    Calls Tryd.prog 36 #[.pointer (some ⟨d, 0, none⟩)] w (Got .i64 w d (s.byteOf : Nat) (s.left 1)) := by
  have hb := s.byteOf_lt
  go_enter Tryd.func36, Tryd.ntmps36
  go_wp2_with fail
  refine (get_any d 1 1 s _ rfl (by omega) h).mono ?_
  change ∀ e w', Got .u64 w d (s.byteOf : Nat) (s.left 1) e w' → _
  rintro e w1 ⟨rfl, hT⟩
  obtain ⟨m, em⟩ : ∃ m, m = s.byteOf := ⟨_, rfl⟩
  rw [← em] at hb ⊢
  have EM := hide em
  clear em
  go_wp2_with fail
  go_ret
  exact ⟨by rw [← EM.out]; rfl, hT⟩
theorem rlong_any (d : Nat) (s : Rd) (w : World) (h : ReaderAt w d s) :
    Calls Tryd.prog 37 #[.pointer (some ⟨d, 0, none⟩)] w (Got .i64 w d s.longOf (s.left 8)) := by
  go_enter Tryd.func37, Tryd.ntmps37
  go_wp2_with fail
  refine (get_any d 8 8 s _ rfl (by omega) h).mono ?_
  rintro e w1 ⟨rfl, hT⟩
  obtain ⟨m, em⟩ : ∃ m, m = ofLe (s.took 8) := ⟨_, rfl⟩
  rw [← em]
  have EM := hide em
  clear em
  go_wp2_with fail
  go_ret
  exact ⟨by unfold Rd.longOf; rw [← EM.out]; rfl, hT⟩
/-- What Text answers. -/
def GotText (w : World) (d : Nat) (s : Rd) (e : Ending) (w' : World) : Prop := e = .returned (.string (str s.textOf)) ∧ Took w d s.pastText w'
theorem rend_any (d : Nat) (s : Rd) (w : World) (h : ReaderAt w d s) :
    Calls Tryd.prog 38 #[.pointer (some ⟨d, 0, none⟩)] w fun e w' => e = .returned (.int .i64 s.endOf) ∧ w = w' := by
  obtain ⟨A, c, hb, c0, c1, f0, f1, hA, hne, hlc, hc⟩ := h.reads
  obtain ⟨l, bad⟩ := s
  simp only at hb c0 c1 hA hlc
  cases bad
  · rcases l with _ | ⟨x, l⟩
    · go_enter Tryd.func38, Tryd.ntmps38
      go_wp2_with fail
      go_ret
      exact ⟨rfl, rfl⟩
    · have i1 : 0 < (x :: l).length := by simp
      obtain ⟨m, em⟩ : ∃ m, m = (x :: l).length := ⟨_, rfl⟩
      rw [← em] at hb c0 hlc i1
      clear em hb hA
      go_enter Tryd.func38, Tryd.ntmps38
      go_wp2_with fail
      go_ret
      exact ⟨rfl, rfl⟩
  · go_enter Tryd.func38, Tryd.ntmps38
    go_wp2_with fail
    go_ret
    exact ⟨rfl, rfl⟩
end Go.Proofs.YtbfjdhbgpjenbaaDoor
