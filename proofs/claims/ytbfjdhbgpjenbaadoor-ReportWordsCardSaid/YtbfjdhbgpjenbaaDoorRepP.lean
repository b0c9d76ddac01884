/-
  Reports in plain Lean: what may be, what is written, what is read.
-/
import Derived.Test.YtbfjdhbgpjenbaaDoorBackP
namespace Go.Proofs.YtbfjdhbgpjenbaaDoor
set_option linter.unusedSimpArgs false
open Go.RowKit
set_option linter.unusedVariables false

@[ext] structure Rep where
  kind : Int
  id : Int
  inst : Int
  side : Int
  price : Int
  qty : Int
  left : Int
  why : Int
deriving DecidableEq
def Rep.zero : Rep := ⟨0, 0, 0, 0, 0, 0, 0, 0⟩
def inI (n : Int) : Prop := -9223372036854775808 ≤ n ∧ n ≤ 9223372036854775807
structure Rep.wf (r : Rep) : Prop where
  kind : inI r.kind
  id : inI r.id
  inst : inI r.inst
  side : inI r.side
  price : inI r.price
  qty : inI r.qty
  left : inI r.left
  why : inI r.why
theorem Rep.wf0 : Rep.zero.wf := ⟨⟨by decide, by decide⟩, ⟨by decide, by decide⟩, ⟨by decide, by decide⟩, ⟨by decide, by decide⟩, ⟨by decide, by decide⟩, ⟨by decide, by decide⟩, ⟨by decide, by decide⟩, ⟨by decide, by decide⟩⟩
def rightP (r : Rep) : Prop := 1 ≤ r.kind ∧ r.kind ≤ 5 ∧ 0 ≤ r.inst ∧ r.inst ≤ 255 ∧ 0 ≤ r.side ∧ r.side ≤ 2 ∧ 0 ≤ r.why ∧ r.why ≤ 255
instance (r : Rep) : Decidable (rightP r) := inferInstanceAs (Decidable (_ ∧ _))
/-- The bytes of a right report. -/
def encR (r : Rep) : List UInt8 := le 1 (u64N r.kind) ++ (le 8 (u64N r.id) ++ (le 1 (u64N r.inst) ++ (le 1 (u64N r.side) ++ (le 8 (u64N r.price) ++ (le 8 (u64N r.qty) ++ (le 8 (u64N r.left) ++ le 1 (u64N r.why)))))))
def encO (r : Rep) : List UInt8 := if rightP r then encR r else []
/-- What Encode tells. -/
def encY (r : Rep) : Nat := if rightP r then 0 else 12
theorem length_encR (r : Rep) : (encR r).length = 36 := by simp [encR, length_le]
theorem length_encO (r : Rep) : (encO r).length ≤ 36 := by
  unfold encO
  split
  · rw [length_encR]; omega
  · simp
/-- The bytes of the first k fields (for walks). -/
def rd0 (b : List UInt8) : Rd := ⟨b, false⟩
/-- The fields, and what is left. -/
def s1 (s : Rd) : Rd := s.left 1
def s2 (s : Rd) : Rd := (s1 s).left 8
def s3 (s : Rd) : Rd := (s2 s).left 1
def s4 (s : Rd) : Rd := (s3 s).left 1
def s5 (s : Rd) : Rd := (s4 s).left 8
def s6 (s : Rd) : Rd := (s5 s).left 8
def s7 (s : Rd) : Rd := (s6 s).left 8
def s8 (s : Rd) : Rd := (s7 s).left 1
def fieldsR (s : Rd) : Rep := ⟨s.byteOf, (s1 s).longOf, (s2 s).byteOf, (s3 s).byteOf, (s4 s).longOf, (s5 s).longOf, (s6 s).longOf, (s7 s).byteOf⟩
/-- What is read of bytes. -/
def decR (b : List UInt8) : Rep × Nat := if (s8 (rd0 b)).endOf = 0 ∧ rightP (fieldsR (rd0 b)) then (fieldsR (rd0 b), 0) else (Rep.zero, 12)
theorem decR_le (b : List UInt8) : (decR b).2 = 0 ∨ (decR b).2 = 12 := by unfold decR; split <;> simp
theorem long_bd (s : Rd) : inI s.longOf := by unfold inI Rd.longOf wrap64; omega
theorem byte_bd (s : Rd) : inI (s.byteOf : Int) := by have := s.byteOf_lt; unfold inI; omega
theorem fields_wf (s : Rd) : (fieldsR s).wf := ⟨byte_bd _, long_bd _, byte_bd _, byte_bd _, long_bd _, long_bd _, long_bd _, byte_bd _⟩
theorem decR_wf (b : List UInt8) : (decR b).1.wf := by
  unfold decR
  split
  · exact fields_wf _
  · exact Rep.wf0
theorem back_byte' (n : Int) (X : List UInt8) (h0 : 0 ≤ n) (h1 : n ≤ 255) : (((⟨le 1 (u64N n) ++ X, false⟩ : Rd).byteOf : Nat) : Int) = n ∧ (⟨le 1 (u64N n) ++ X, false⟩ : Rd).left 1 = ⟨X, false⟩ := by
  obtain ⟨a, b⟩ := back_byte n X
  refine ⟨?_, b⟩
  rw [a]
  unfold u64N
  omega
theorem dec_enc {r : Rep} (h : rightP r) (hw : r.wf) : decR (encR r) = (r, 0) := by
  obtain ⟨k1, k2, i1, i2, d1, d2, y1, y2⟩ := h
  obtain ⟨x1, z1⟩ := back_byte' r.kind (le 8 (u64N r.id) ++ (le 1 (u64N r.inst) ++ (le 1 (u64N r.side) ++ (le 8 (u64N r.price) ++ (le 8 (u64N r.qty) ++ (le 8 (u64N r.left) ++ le 1 (u64N r.why))))))) (by omega) (by omega)
  obtain ⟨x2, z2⟩ := back_long r.id (le 1 (u64N r.inst) ++ (le 1 (u64N r.side) ++ (le 8 (u64N r.price) ++ (le 8 (u64N r.qty) ++ (le 8 (u64N r.left) ++ le 1 (u64N r.why)))))) hw.id.1 hw.id.2
  obtain ⟨x3, z3⟩ := back_byte' r.inst (le 1 (u64N r.side) ++ (le 8 (u64N r.price) ++ (le 8 (u64N r.qty) ++ (le 8 (u64N r.left) ++ le 1 (u64N r.why))))) i1 i2
  obtain ⟨x4, z4⟩ := back_byte' r.side (le 8 (u64N r.price) ++ (le 8 (u64N r.qty) ++ (le 8 (u64N r.left) ++ le 1 (u64N r.why)))) d1 (by omega)
  obtain ⟨x5, z5⟩ := back_long r.price (le 8 (u64N r.qty) ++ (le 8 (u64N r.left) ++ le 1 (u64N r.why))) hw.price.1 hw.price.2
  obtain ⟨x6, z6⟩ := back_long r.qty (le 8 (u64N r.left) ++ le 1 (u64N r.why)) hw.qty.1 hw.qty.2
  obtain ⟨x7, z7⟩ := back_long r.left (le 1 (u64N r.why)) hw.left.1 hw.left.2
  obtain ⟨x8, z8⟩ := back_byte' r.why [] y1 y2
  rw [List.append_nil] at x8 z8
  have e1 : s1 (rd0 (encR r)) = _ := z1
  have e2 : s2 (rd0 (encR r)) = _ := (congrArg (fun s => Rd.left s 8) e1).trans z2
  have e3 : s3 (rd0 (encR r)) = _ := (congrArg (fun s => Rd.left s 1) e2).trans z3
  have e4 : s4 (rd0 (encR r)) = _ := (congrArg (fun s => Rd.left s 1) e3).trans z4
  have e5 : s5 (rd0 (encR r)) = _ := (congrArg (fun s => Rd.left s 8) e4).trans z5
  have e6 : s6 (rd0 (encR r)) = _ := (congrArg (fun s => Rd.left s 8) e5).trans z6
  have e7 : s7 (rd0 (encR r)) = _ := (congrArg (fun s => Rd.left s 8) e6).trans z7
  have e8 : s8 (rd0 (encR r)) = _ := (congrArg (fun s => Rd.left s 1) e7).trans z8
  have hf : fieldsR (rd0 (encR r)) = r := by
    unfold fieldsR
    rw [e1, e2, e3, e4, e5, e6, e7]
    ext
    · exact x1
    · exact x2
    · exact x3
    · exact x4
    · exact x5
    · exact x6
    · exact x7
    · exact x8
  unfold decR
  rw [hf, e8, if_pos ⟨rfl, k1, k2, i1, i2, d1, d2, y1, y2⟩]
theorem left_ok {s : Rd} {n : Nat} (h : (s.left n).bad = false) : s.bad = false ∧ n ≤ s.l.length ∧ s.took n = s.l.take n ∧ s.left n = ⟨s.l.drop n, false⟩ := by
  by_cases hb : s.bad = true ∨ s.l.length < n
  · rw [(take_bad hb).2] at h; cases h
  · obtain ⟨h1, h2⟩ := take_get hb
    rw [not_or] at hb
    exact ⟨by simpa using hb.1, by omega, h1, h2⟩
theorem read_byte {s : Rd} (h : (s.left 1).bad = false) : s.bad = false ∧ s.l = le 1 (u64N s.byteOf) ++ (s.left 1).l := by
  obtain ⟨h1, h2, h3, h4⟩ := left_ok h
  refine ⟨h1, ?_⟩
  have hl : (s.l.take 1).length = 1 := by rw [List.length_take]; omega
  have e : le 1 (u64N s.byteOf) = s.l.take 1 := by
    have hb := s.byteOf_lt
    have := le_ofLe (s.l.take 1)
    rw [hl] at this
    unfold Rd.byteOf at hb ⊢
    rw [h3] at hb ⊢
    rw [show u64N ((ofLe (s.l.take 1) : Nat) : Int) = ofLe (s.l.take 1) by unfold u64N; omega]
    exact this
  rw [e, h4]
  exact (List.take_append_drop 1 s.l).symm
theorem read_long {s : Rd} (h : (s.left 8).bad = false) : s.bad = false ∧ s.l = le 8 (u64N s.longOf) ++ (s.left 8).l := by
  obtain ⟨h1, h2, h3, h4⟩ := left_ok h
  refine ⟨h1, ?_⟩
  have hl : (s.l.take 8).length = 8 := by rw [List.length_take]; omega
  have e : le 8 (u64N s.longOf) = s.l.take 8 := by
    have hb := ofLe_lt (s.l.take 8)
    have := le_ofLe (s.l.take 8)
    rw [hl] at this hb
    unfold Rd.longOf
    rw [h3]
    rw [show u64N (wrap64 ((ofLe (s.l.take 8) : Nat) : Int)) = ofLe (s.l.take 8) by unfold u64N wrap64; omega]
    exact this
  rw [e, h4]
  exact (List.take_append_drop 8 s.l).symm
theorem end_ok {s : Rd} (h : s.endOf = 0) : s.bad = false ∧ s.l = [] := by
  unfold Rd.endOf at h
  split at h
  · cases h
  · rename_i hb
    split at h
    · rename_i hl; exact ⟨by simpa using hb, hl⟩
    · cases h
/-- What was read, with its bytes. -/
theorem dec_back {b : List UInt8} {z : Rep} (h : decR b = (z, 0)) : rightP z ∧ encR z = b := by
  unfold decR at h
  split at h
  · rename_i hc
    injection h with h _
    obtain ⟨he, hr⟩ := hc
    rw [h] at hr
    refine ⟨hr, ?_⟩
    obtain ⟨b8, l8⟩ := end_ok he
    obtain ⟨b7, l7⟩ := read_byte b8
    obtain ⟨b6, l6⟩ := read_long b7
    obtain ⟨b5, l5⟩ := read_long b6
    obtain ⟨b4, l4⟩ := read_long b5
    obtain ⟨b3, l3⟩ := read_byte b4
    obtain ⟨b2, l2⟩ := read_byte b3
    obtain ⟨b1, l1⟩ := read_long b2
    obtain ⟨b0, l0⟩ := read_byte b1
    have k8 : ((s7 (rd0 b)).left 1).l = [] := l8
    rw [k8, List.append_nil] at l7
    rw [← h]
    show le 1 (u64N ((rd0 b).byteOf : Nat)) ++ (le 8 (u64N (s1 (rd0 b)).longOf) ++ (le 1 (u64N ((s2 (rd0 b)).byteOf : Nat)) ++ (le 1 (u64N ((s3 (rd0 b)).byteOf : Nat)) ++ (le 8 (u64N (s4 (rd0 b)).longOf) ++ (le 8 (u64N (s5 (rd0 b)).longOf) ++ (le 8 (u64N (s6 (rd0 b)).longOf) ++ le 1 (u64N ((s7 (rd0 b)).byteOf : Nat)))))))) = b
    rw [← l7]
    have g6 : (s6 (rd0 b)).l = le 8 (u64N (s6 (rd0 b)).longOf) ++ (s7 (rd0 b)).l := l6
    have g5 : (s5 (rd0 b)).l = le 8 (u64N (s5 (rd0 b)).longOf) ++ (s6 (rd0 b)).l := l5
    have g4 : (s4 (rd0 b)).l = le 8 (u64N (s4 (rd0 b)).longOf) ++ (s5 (rd0 b)).l := l4
    have g3 : (s3 (rd0 b)).l = le 1 (u64N (s3 (rd0 b)).byteOf) ++ (s4 (rd0 b)).l := l3
    have g2 : (s2 (rd0 b)).l = le 1 (u64N (s2 (rd0 b)).byteOf) ++ (s3 (rd0 b)).l := l2
    have g1 : (s1 (rd0 b)).l = le 8 (u64N (s1 (rd0 b)).longOf) ++ (s2 (rd0 b)).l := l1
    have g0 : (rd0 b).l = le 1 (u64N (rd0 b).byteOf) ++ (s1 (rd0 b)).l := l0
    rw [← g6, ← g5, ← g4, ← g3, ← g2, ← g1, ← g0]
    rfl
  · injection h with _ h
    cases h
theorem dec_bad {b : List UInt8} {z : Rep} {y : Nat} (h : decR b = (z, y)) (hy : y ≠ 0) : z = Rep.zero ∧ y = 12 := by
  unfold decR at h
  split at h
  · injection h with _ h; exact absurd h.symm hy
  · injection h with h1 h2; exact ⟨h1.symm, h2.symm⟩
theorem enc_inj {r q : Rep} (hr : rightP r) (hq : rightP q) (wr : r.wf) (wq : q.wf) (h : encR r = encR q) : r = q := by
  have h1 := dec_enc hr wr
  rw [h, dec_enc hq wq] at h1
  injection h1 with h1 _
  exact h1.symm

/-! ### Frames of reports -/
/-- The right ones' frames, one behind the other. -/
def allL : List Rep → List UInt8
  | [] => []
  | r :: rs => (if rightP r then frameL (encR r) else []) ++ allL rs
theorem allL_append (a b : List Rep) : allL (a ++ b) = allL a ++ allL b := by
  induction a with
  | nil => rfl
  | cons x a ih => simp [allL, ih]
theorem length_allL (l : List Rep) : (allL l).length ≤ 42 * l.length := by
  induction l with
  | nil => simp [allL]
  | cons x a ih =>
    simp only [allL, List.length_append, List.length_cons]
    split
    · rw [length_frameL, length_encR]; omega
    · simp; omega
/-- The right ones. -/
def someL (l : List Rep) : List Rep := l.filter fun r => decide (rightP r)
theorem allL_some (l : List Rep) : allL (someL l) = allL l := by
  induction l with
  | nil => rfl
  | cons x a ih =>
    by_cases h : rightP x
    · simp [someL, allL, h]; exact ih
    · simp [someL, allL, h]; exact ih
structure ReadsL where
  rows : List Rep
  why : Nat
def readS : Nat → List UInt8 → Nat → ReadsL
  | 0, _, _ => ⟨[], 0⟩
  | k + 1, t, p =>
    if t = [] then ⟨[], 0⟩
    else if (openF t p).why ≠ 0 then ⟨[], (openF t p).why⟩
    else if (decR (openF t p).b).2 ≠ 0 then ⟨[], (decR (openF t p).b).2⟩
    else ⟨(decR (openF t p).b).1 :: (readS k (t.drop ((openF t p).b.length + 6)) (openF t p).stop).rows, (readS k (t.drop ((openF t p).b.length + 6)) (openF t p).stop).why⟩
theorem readS_fuel : ∀ (k k' : Nat) (t : List UInt8) (p : Nat), t.length < k → t.length < k' → readS k t p = readS k' t p
  | 0, _, t, p, h, _ => absurd h (by omega)
  | _, 0, t, p, _, h => absurd h (by omega)
  | k + 1, k' + 1, t, p, h, h' => by
    unfold readS
    by_cases ht : t = []
    · rw [if_pos ht, if_pos ht]
    · have hl : 0 < t.length := List.length_pos_iff.2 ht
      have : (t.drop ((openF t p).b.length + 6)).length < t.length := by rw [List.length_drop]; omega
      rw [readS_fuel k k' (t.drop ((openF t p).b.length + 6)) (openF t p).stop (by omega) (by omega)]
/-- The reports at the beginning of t, which stands at place p. -/
def readL (t : List UInt8) (p : Nat) : ReadsL := readS (t.length + 1) t p
theorem read_nil (p : Nat) : readL [] p = ⟨[], 0⟩ := rfl
theorem read_ok {t b : List UInt8} {p e : Nat} {r : Rep} (ht : t ≠ []) (h : openF t p = ⟨b, e, 0⟩) (hd : decR b = (r, 0)) : readL t p = ⟨r :: (readL (t.drop (b.length + 6)) e).rows, (readL (t.drop (b.length + 6)) e).why⟩ := by
  have hl : 0 < t.length := List.length_pos_iff.2 ht
  have hf := readS_fuel t.length ((t.drop (b.length + 6)).length + 1) (t.drop (b.length + 6)) e (by rw [List.length_drop]; omega) (by omega)
  unfold readL
  rw [← hf]
  conv => lhs; unfold readS
  rw [if_neg ht, h, if_neg (by simp)]
  simp only [hd]
  rw [if_neg (by simp)]
theorem read_bad {t : List UInt8} {p : Nat} (ht : t ≠ []) (h : (openF t p).why ≠ 0) : readL t p = ⟨[], (openF t p).why⟩ := by
  unfold readL readS
  rw [if_neg ht, if_pos h]
theorem read_not {t b : List UInt8} {p e : Nat} (ht : t ≠ []) (h : openF t p = ⟨b, e, 0⟩) (hd : (decR b).2 ≠ 0) : readL t p = ⟨[], (decR b).2⟩ := by
  unfold readL readS
  rw [if_neg ht, h, if_neg (by simp), if_pos hd]
def wfAll (l : List Rep) : Prop := ∀ r ∈ l, r.wf
/-- Frames are read one behind the other. -/
theorem read_frames : ∀ (l : List Rep) (t : List UInt8) (p : Nat), wfAll l →
    readL (allL l ++ t) p = ⟨someL l ++ (readL t (p + (allL l).length)).rows, (readL t (p + (allL l).length)).why⟩
  | [], t, p, _ => by simp [allL, someL]
  | r :: l, t, p, h => by
    have ih := fun p => read_frames l t p (fun x hx => h x (by simp [hx]))
    by_cases hr : rightP r
    · have e0 : allL (r :: l) = frameL (encR r) ++ allL l := by simp [allL, hr]
      have e1 : someL (r :: l) = r :: someL l := by simp [someL, hr]
      have hf : openF (frameL (encR r) ++ (allL l ++ t)) p = ⟨encR r, p + (encR r).length + 6, 0⟩ := openF_frame (encR r) (by rw [length_encR]; omega) _ p
      have hne : frameL (encR r) ++ (allL l ++ t) ≠ [] := by simp [frameL]
      have hd : (frameL (encR r) ++ (allL l ++ t)).drop ((encR r).length + 6) = allL l ++ t := by
        rw [← length_frameL (encR r), List.drop_left]
      rw [e0, e1, List.append_assoc, read_ok hne hf (dec_enc hr (h r (by simp))), hd, ih, List.length_append, length_frameL]
      have e2 : p + (encR r).length + 6 + (allL l).length = p + ((encR r).length + 6 + (allL l).length) := by omega
      rw [e2]
      rfl
    · have e0 : allL (r :: l) = allL l := by simp [allL, hr]
      have e1 : someL (r :: l) = someL l := by simp [someL, hr]
      rw [e0, e1]
      exact ih p
theorem read_all {l : List Rep} (h : wfAll l) : readL (allL l) 0 = ⟨someL l, 0⟩ := by
  have := read_frames l [] 0 h
  simpa [read_nil] using this
/-- Cut off anywhere the first ones are read. -/
theorem read_cut : ∀ (l : List Rep) (k p : Nat), wfAll l → ∃ j e, readL ((allL l).take k) p = ⟨(someL l).take j, e⟩ ∧ (e = 0 ∨ e = 10) ∧ j ≤ (someL l).length
  | [], k, p, _ => ⟨0, 0, by simp [allL, someL, read_nil], Or.inl rfl, Nat.zero_le _⟩
  | r :: l, k, p, h => by
    by_cases hr : rightP r
    · have e0 : allL (r :: l) = frameL (encR r) ++ allL l := by simp [allL, hr]
      have e1 : someL (r :: l) = r :: someL l := by simp [someL, hr]
      rw [e0, e1]
      by_cases hk : k < (encR r).length + 6
      · have ht : (frameL (encR r) ++ allL l).take k = (frameL (encR r)).take k := by
          rw [List.take_append_of_le_length (by rw [length_frameL]; omega)]
        rw [ht]
        by_cases hk0 : k = 0
        · subst hk0
          exact ⟨0, 0, by simp [read_nil], Or.inl rfl, Nat.zero_le _⟩
        · have hne : (frameL (encR r)).take k ≠ [] := by
            intro h0
            have := congrArg List.length h0
            rw [List.length_take, length_frameL] at this
            simp at this; omega
          have ho := openF_cut (encR r) (by rw [length_encR]; omega) k hk p
          refine ⟨0, 10, ?_, Or.inr rfl, Nat.zero_le _⟩
          rw [read_bad hne (by rw [ho]; simp), ho]; simp
      · obtain ⟨j, e, hj, he, hjl⟩ := read_cut l (k - ((encR r).length + 6)) (p + (encR r).length + 6) (fun x hx => h x (by simp [hx]))
        have ht : (frameL (encR r) ++ allL l).take k = frameL (encR r) ++ (allL l).take (k - ((encR r).length + 6)) := by
          rw [List.take_append, length_frameL, List.take_of_length_le (by rw [length_frameL]; omega)]
        have hf : openF (frameL (encR r) ++ (allL l).take (k - ((encR r).length + 6))) p = ⟨encR r, p + (encR r).length + 6, 0⟩ := openF_frame (encR r) (by rw [length_encR]; omega) _ p
        have hne : frameL (encR r) ++ (allL l).take (k - ((encR r).length + 6)) ≠ [] := by simp [frameL]
        have hd : (frameL (encR r) ++ (allL l).take (k - ((encR r).length + 6))).drop ((encR r).length + 6) = (allL l).take (k - ((encR r).length + 6)) := by
          rw [← length_frameL (encR r), List.drop_left]
        refine ⟨j + 1, e, ?_, he, by simp; omega⟩
        rw [ht, read_ok hne hf (dec_enc hr (h r (by simp))), hd, hj]
        simp
    · have e0 : allL (r :: l) = allL l := by simp [allL, hr]
      have e1 : someL (r :: l) = someL l := by simp [someL, hr]
      rw [e0, e1]
      exact read_cut l k p (fun x hx => h x (by simp [hx]))
/-- A frame that holds no report ends what is read. -/
theorem read_ends {l : List Rep} {b t : List UInt8} (h : wfAll l) (hb : b.length ≤ 255) (hd : (decR b).2 ≠ 0) : readL (allL l ++ (frameL b ++ t)) 0 = ⟨someL l, 12⟩ := by
  have h12 : (decR b).2 = 12 := by rcases decR_le b with h' | h'; exact absurd h' hd; exact h'
  have hf := openF_frame b hb t (0 + (allL l).length)
  have hne : frameL b ++ t ≠ [] := by simp [frameL]
  rw [read_frames l (frameL b ++ t) 0 h, read_not hne hf hd, h12]
  simp
end Go.Proofs.YtbfjdhbgpjenbaaDoor
