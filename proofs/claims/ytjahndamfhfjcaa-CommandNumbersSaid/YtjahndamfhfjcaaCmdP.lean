/-
  Commands in plain Lean: what may be, what is written, what is read.
-/
import Derived.Test.YtjahndamfhfjcaaRunesP
import Derived.Test.YtjahndamfhfjcaaBackP
namespace Go.Proofs.Ytjahndamfhfjcaa
open Go.RowKit
set_option linter.unusedVariables false

@[ext] structure Cmd where
  kind : Int
  id : Int
  inst : Int
  side : Int
  price : Int
  qty : Int
  least : Int
  time : Int
  lab : List UInt8
deriving DecidableEq
def Cmd.zero : Cmd := ⟨0, 0, 0, 0, 0, 0, 0, 0, []⟩
def inI (n : Int) : Prop := -9223372036854775808 ≤ n ∧ n ≤ 9223372036854775807
structure Cmd.wf (c : Cmd) : Prop where
  kind : inI c.kind
  id : inI c.id
  inst : inI c.inst
  side : inI c.side
  price : inI c.price
  qty : inI c.qty
  least : inI c.least
  time : inI c.time
  lab : c.lab.length ≤ 9223372036854775807
def qtyOk (n : Int) : Prop := 1 ≤ n ∧ n ≤ 1000000
def priceOk (n : Int) : Prop := -2000000 ≤ n ∧ n ≤ 2000000
instance (n : Int) : Decidable (qtyOk n) := inferInstanceAs (Decidable (_ ∧ _))
instance (n : Int) : Decidable (priceOk n) := inferInstanceAs (Decidable (_ ∧ _))
def orderC (c : Cmd) : Nat :=
  if c.side ≠ 1 ∧ c.side ≠ 2 then 21 else if c.time < 1 ∨ 3 < c.time then 27 else if ¬ qtyOk c.qty then 24 else if c.least < 0 ∨ c.qty < c.least then 28
  else if c.lab ≠ [] ∧ labR c.lab = false then 29 else if ¬ priceOk c.price then 23 else if c.inst < 0 ∨ 255 < c.inst then 20 else 0
def rightC (c : Cmd) : Nat :=
  if c.kind < 1 ∨ 4 < c.kind then 31 else if c.id < 1 ∨ 1099511627776 < c.id then 1 else if c.kind = 1 then orderC c
  else if c.kind ≠ 2 ∧ ¬ qtyOk c.qty then 24 else if c.kind = 4 ∧ ¬ priceOk c.price then 23 else 0
theorem rightC_le (c : Cmd) : rightC c ≤ 31 := by
  unfold rightC orderC
  repeat' split
  all_goals omega
/-- What a command's kind asks. -/
def askedC (c : Cmd) : Cmd :=
  if c.kind = 1 then c else if c.kind = 2 then { Cmd.zero with kind := c.kind, id := c.id } else if c.kind = 3 then { Cmd.zero with kind := c.kind, id := c.id, qty := c.qty }
  else if c.kind = 4 then { Cmd.zero with kind := c.kind, id := c.id, price := c.price, qty := c.qty } else Cmd.zero
def tailC (c : Cmd) : List UInt8 :=
  if c.kind = 1 then le 1 (u64N c.inst) ++ (le 1 (u64N c.side) ++ (le 1 (u64N c.time) ++ (le 8 (u64N c.price) ++ (le 8 (u64N c.qty) ++ (le 8 (u64N c.least) ++ textL c.lab)))))
  else if c.kind = 3 then le 8 (u64N c.qty) else if c.kind = 4 then le 8 (u64N c.price) ++ le 8 (u64N c.qty) else []
/-- The bytes of a right command. -/
def encC (c : Cmd) : List UInt8 := le 1 (u64N c.kind) ++ (le 8 (u64N c.id) ++ tailC c)
def encO (c : Cmd) : List UInt8 := if rightC c = 0 then encC c else []
theorem length_encC (c : Cmd) : (encC c).length ≤ 292 := by
  unfold encC tailC
  repeat' split
  all_goals (simp only [List.length_append, length_le, length_textL, List.length_nil]; omega)
theorem length_encO (c : Cmd) : (encO c).length ≤ 292 := by
  unfold encO
  split
  · exact length_encC c
  · simp
/-- What is read behind the ID, by kind. -/
def fieldsC (kind id : Int) (s : Rd) : Cmd × Rd :=
  if kind = 1 then
    let s1 := s.left 1
    let s2 := s1.left 1
    let s3 := s2.left 1
    let s4 := s3.left 8
    let s5 := s4.left 8
    let s6 := s5.left 8
    (⟨kind, id, s.byteOf, s1.byteOf, s3.longOf, s4.longOf, s5.longOf, s2.byteOf, s6.textOf⟩, s6.pastText)
  else if kind = 3 then ({ Cmd.zero with kind := kind, id := id, qty := s.longOf }, s.left 8)
  else if kind = 4 then ({ Cmd.zero with kind := kind, id := id, price := s.longOf, qty := (s.left 8).longOf }, (s.left 8).left 8)
  else ({ Cmd.zero with kind := kind, id := id }, s)
def rd0 (b : List UInt8) : Rd := ⟨b, false⟩
/-- What is read of bytes. -/
def decC (b : List UInt8) : Cmd × Nat :=
  if (rd0 b).byteOf < 1 ∨ 4 < (rd0 b).byteOf then (Cmd.zero, 31)
  else if (fieldsC (rd0 b).byteOf ((rd0 b).left 1).longOf (((rd0 b).left 1).left 8)).2.endOf ≠ 0 then (Cmd.zero, 12)
  else if rightC (fieldsC (rd0 b).byteOf ((rd0 b).left 1).longOf (((rd0 b).left 1).left 8)).1 ≠ 0 then (Cmd.zero, rightC (fieldsC (rd0 b).byteOf ((rd0 b).left 1).longOf (((rd0 b).left 1).left 8)).1)
  else ((fieldsC (rd0 b).byteOf ((rd0 b).left 1).longOf (((rd0 b).left 1).left 8)).1, 0)

/-! ### What right commands are -/
theorem right_kind {c : Cmd} (h : rightC c = 0) : 1 ≤ c.kind ∧ c.kind ≤ 4 ∧ 1 ≤ c.id ∧ c.id ≤ 1099511627776 := by
  unfold rightC at h
  split at h
  · cases h
  · split at h
    · cases h
    · omega
theorem labR_len {l : List UInt8} (h : labR l = true) : l.length ≤ 48 := by
  simp only [labR, Bool.and_eq_true, decide_eq_true_eq] at h
  have key : ∀ (n : Nat) (t : List UInt8), t.length ≤ n → t.length ≤ 4 * (runesL t).length := by
    intro n
    induction n with
    | zero => intro t ht; omega
    | succ n ih =>
      intro t ht
      by_cases h0 : t = []
      · subst h0; simp
      · have hb := headR_bd t h0
        have := ih (t.drop (headR t).2) (by rw [List.length_drop]; omega)
        rw [runesL_cons h0, List.length_cons]
        rw [List.length_drop] at this
        omega
  have := key l.length l (Nat.le_refl _)
  omega
theorem right_new {c : Cmd} (h : rightC c = 0) (hk : c.kind = 1) : (c.side = 1 ∨ c.side = 2) ∧ 1 ≤ c.time ∧ c.time ≤ 3 ∧ qtyOk c.qty ∧ 0 ≤ c.least ∧ c.least ≤ c.qty ∧ c.lab.length ≤ 48 ∧ priceOk c.price ∧ 0 ≤ c.inst ∧ c.inst ≤ 255 := by
  have hr := right_kind h
  unfold rightC at h
  rw [if_neg (by omega), if_neg (by omega), if_pos hk] at h
  unfold orderC at h
  split at h
  · cases h
  rename_i h1
  split at h
  · cases h
  rename_i h2
  split at h
  · cases h
  rename_i h3
  split at h
  · cases h
  rename_i h4
  split at h
  · cases h
  rename_i h5
  split at h
  · cases h
  rename_i h6
  split at h
  · cases h
  rename_i h7
  refine ⟨by omega, by omega, by omega, by simpa using h3, by omega, by omega, ?_, by simpa using h6, by omega, by omega⟩
  by_cases h0 : c.lab = []
  · rw [h0]; simp
  · have : labR c.lab = true := by
      cases hl : labR c.lab
      · exact absurd ⟨h0, hl⟩ h5
      · rfl
    exact labR_len this
/-- What is not asked changes nothing. -/
theorem asked_kind (c : Cmd) (h : 1 ≤ c.kind ∧ c.kind ≤ 4) : (askedC c).kind = c.kind ∧ (askedC c).id = c.id := by
  unfold askedC
  repeat' split
  all_goals first | exact ⟨rfl, rfl⟩ | omega
theorem enc_asked (c : Cmd) (h : 1 ≤ c.kind ∧ c.kind ≤ 4) : encC (askedC c) = encC c := by
  obtain ⟨h1, h2⟩ := asked_kind c h
  unfold encC tailC
  rw [h1, h2]
  unfold askedC
  congr 2
  repeat' split
  all_goals first | rfl | omega
theorem right_asked (c : Cmd) (h : 1 ≤ c.kind ∧ c.kind ≤ 4) : rightC (askedC c) = rightC c := by
  have hk : c.kind = 1 ∨ c.kind = 2 ∨ c.kind = 3 ∨ c.kind = 4 := by omega
  rcases hk with hk | hk | hk | hk
  · rw [show askedC c = c by unfold askedC; rw [if_pos hk]]
  all_goals simp [rightC, askedC, hk]
/-- A right command comes back. -/
theorem dec_enc {c : Cmd} (h : rightC c = 0) (hw : c.wf) : decC (encC c) = (askedC c, 0) := by
  have hr := right_kind h
  obtain ⟨b1, b2⟩ := back_byte c.kind (le 8 (u64N c.id) ++ tailC c)
  have hb : ((rd0 (encC c)).byteOf : Int) = c.kind := by
    show ((⟨le 1 (u64N c.kind) ++ (le 8 (u64N c.id) ++ tailC c), false⟩ : Rd).byteOf : Int) = _
    rw [b1]; unfold u64N; omega
  obtain ⟨l1, l2⟩ := back_long c.id (tailC c) hw.id.1 hw.id.2
  have hl : (rd0 (encC c)).left 1 = ⟨le 8 (u64N c.id) ++ tailC c, false⟩ := b2
  have key : (fieldsC c.kind c.id ⟨tailC c, false⟩) = (askedC c, ⟨[], false⟩) := by
    have hk : c.kind = 1 ∨ c.kind = 2 ∨ c.kind = 3 ∨ c.kind = 4 := by omega
    rcases hk with hk | hk | hk | hk
    · obtain ⟨n1, n2, n3, n4, n5, n6, n7, n8, n9, n10⟩ := right_new h hk
      unfold fieldsC askedC tailC
      rw [if_pos hk, if_pos hk, if_pos hk]
      obtain ⟨x1, y1⟩ := back_byte c.inst (le 1 (u64N c.side) ++ (le 1 (u64N c.time) ++ (le 8 (u64N c.price) ++ (le 8 (u64N c.qty) ++ (le 8 (u64N c.least) ++ textL c.lab)))))
      obtain ⟨x2, y2⟩ := back_byte c.side (le 1 (u64N c.time) ++ (le 8 (u64N c.price) ++ (le 8 (u64N c.qty) ++ (le 8 (u64N c.least) ++ textL c.lab))))
      obtain ⟨x3, y3⟩ := back_byte c.time (le 8 (u64N c.price) ++ (le 8 (u64N c.qty) ++ (le 8 (u64N c.least) ++ textL c.lab)))
      obtain ⟨x4, y4⟩ := back_long c.price (le 8 (u64N c.qty) ++ (le 8 (u64N c.least) ++ textL c.lab)) hw.price.1 hw.price.2
      obtain ⟨x5, y5⟩ := back_long c.qty (le 8 (u64N c.least) ++ textL c.lab) hw.qty.1 hw.qty.2
      obtain ⟨x6, y6⟩ := back_long c.least (textL c.lab) hw.least.1 hw.least.2
      obtain ⟨x7, y7⟩ := back_text (str c.lab) [] (by rw [str_size]; omega)
      rw [show (str c.lab).data.toList = c.lab by simp [str], List.append_nil] at x7 y7
      have x7' : (⟨textL c.lab, false⟩ : Rd).textOf = c.lab := by
        have := congrArg (fun s : ByteArray => s.data.toList) x7
        simpa [str] using this
      simp only [y1, y2, y3, y4, y5, y6, y7, x1, x2, x3, x4, x5, x6, x7']
      refine Prod.ext ?_ rfl
      ext1 <;> first | rfl | exact hk | (simp only [u64N]; omega)
    · unfold fieldsC askedC tailC
      simp [hk]
    · unfold fieldsC askedC tailC
      obtain ⟨x1, y1⟩ := back_long c.qty [] hw.qty.1 hw.qty.2
      rw [List.append_nil] at x1 y1
      simp [hk, x1, y1]
    · unfold fieldsC askedC tailC
      obtain ⟨x1, y1⟩ := back_long c.price (le 8 (u64N c.qty)) hw.price.1 hw.price.2
      obtain ⟨x2, y2⟩ := back_long c.qty [] hw.qty.1 hw.qty.2
      rw [List.append_nil] at x2 y2
      simp [hk, x1, y1, x2, y2]
  have hra : rightC (askedC c) = 0 := by rw [right_asked c ⟨hr.1, hr.2.1⟩]; exact h
  unfold decC
  rw [hl, l1, l2, hb, key]
  rw [if_neg (by omega)]
  simp only [Rd.endOf]
  simp [hra]

/-! ### What is read is what is written -/
theorem left_ok {s : Rd} {n : Nat} (h : (s.left n).bad = false) : s.bad = false ∧ n ≤ s.l.length ∧ s.took n = s.l.take n ∧ s.left n = ⟨s.l.drop n, false⟩ := by
  by_cases hb : s.bad = true ∨ s.l.length < n
  · rw [(take_bad hb).2] at h; cases h
  · obtain ⟨h1, h2⟩ := take_get hb
    rw [not_or] at hb
    exact ⟨by simpa using hb.1, by omega, h1, h2⟩
theorem read_byte {s : Rd} (h : (s.left 1).bad = false) : s.bad = false ∧ s.l = le 1 (u64N s.byteOf) ++ (s.left 1).l := by
  obtain ⟨h1, h2, h3, h4⟩ := left_ok h
  refine ⟨h1, ?_⟩
  have hl : (s.l.take 1).length = 1 := by rw [List.length_take]; omega
  have e : le 1 (u64N s.byteOf) = s.l.take 1 := by
    have hb := s.byteOf_lt
    have := le_ofLe (s.l.take 1)
    rw [hl] at this
    unfold Rd.byteOf at hb ⊢
    rw [h3] at hb ⊢
    rw [show u64N ((ofLe (s.l.take 1) : Nat) : Int) = ofLe (s.l.take 1) by unfold u64N; omega]
    exact this
  rw [e, h4]
  exact (List.take_append_drop 1 s.l).symm
theorem read_long {s : Rd} (h : (s.left 8).bad = false) : s.bad = false ∧ s.l = le 8 (u64N s.longOf) ++ (s.left 8).l := by
  obtain ⟨h1, h2, h3, h4⟩ := left_ok h
  refine ⟨h1, ?_⟩
  have hl : (s.l.take 8).length = 8 := by rw [List.length_take]; omega
  have e : le 8 (u64N s.longOf) = s.l.take 8 := by
    have hb := ofLe_lt (s.l.take 8)
    have := le_ofLe (s.l.take 8)
    rw [hl] at this hb
    unfold Rd.longOf
    rw [h3]
    rw [show u64N (wrap64 ((ofLe (s.l.take 8) : Nat) : Int)) = ofLe (s.l.take 8) by unfold u64N wrap64; omega]
    exact this
  rw [e, h4]
  exact (List.take_append_drop 8 s.l).symm
theorem read_text {s : Rd} (h : s.pastText.bad = false) : s.bad = false ∧ s.l = textL s.textOf ++ s.pastText.l ∧ s.textOf.length ≤ 255 := by
  unfold Rd.pastText at h
  obtain ⟨h1, h2, h3, h4⟩ := left_ok h
  obtain ⟨b1, b2⟩ := read_byte h1
  have hb := s.byteOf_lt
  have ht : s.textOf = (s.left 1).l.take s.byteOf := h3
  have hl : s.textOf.length = s.byteOf := by rw [ht, List.length_take]; omega
  refine ⟨b1, ?_, by omega⟩
  have e : textL s.textOf = le 1 (u64N s.byteOf) ++ s.textOf := by
    unfold textL
    rw [hl, List.take_of_length_le (by omega), Nat.min_eq_left (by omega)]
    rw [show u64N (s.byteOf : Int) = s.byteOf by unfold u64N; omega]
    rfl
  rw [e, List.append_assoc, b2]
  congr 1
  show _ = s.textOf ++ ((s.left 1).left s.byteOf).l
  rw [h4, ht]
  exact (List.take_append_drop _ _).symm
theorem end_ok {s : Rd} (h : s.endOf = 0) : s.bad = false ∧ s.l = [] := by
  unfold Rd.endOf at h
  split at h
  · cases h
  · rename_i hb
    split at h
    · rename_i hl; exact ⟨by simpa using hb, hl⟩
    · cases h
theorem long_bd (s : Rd) : inI s.longOf := by unfold inI Rd.longOf wrap64; omega
theorem byte_bd (s : Rd) : inI (s.byteOf : Int) := by have := s.byteOf_lt; unfold inI; omega
/-- What was read, with its bytes. -/
theorem dec_back {b : List UInt8} {z : Cmd} (h : decC b = (z, 0)) : rightC z = 0 ∧ encC z = b ∧ askedC z = z ∧ z.wf := by
  unfold decC at h
  split at h
  · cases h
  rename_i hk
  split at h
  · cases h
  rename_i he
  split at h
  · rename_i hr
    injection h with _ h
    exact absurd h hr
  rename_i hr
  injection h with h _
  rw [h] at hr
  have hr0 : rightC z = 0 := by omega
  have he0 : (fieldsC (rd0 b).byteOf ((rd0 b).left 1).longOf (((rd0 b).left 1).left 8)).2.endOf = 0 := by omega
  obtain ⟨e1, e2⟩ := end_ok he0
  have hp : ∀ {s : Rd}, s.bad = false → s.l = (s.l : List UInt8) := fun _ => rfl
  have main : ∀ (k i : Int) (s : Rd), inI k → inI i → (1 ≤ k ∧ k ≤ 4) → (fieldsC k i s).2.bad = false → (fieldsC k i s).2.l = [] → s.bad = false ∧ tailC (fieldsC k i s).1 = s.l ∧ (fieldsC k i s).1.kind = k ∧ (fieldsC k i s).1.id = i ∧ askedC (fieldsC k i s).1 = (fieldsC k i s).1 ∧ (fieldsC k i s).1.wf := by
    intro k i s hki hii hkk f1 f2
    have i0 : inI 0 := by unfold inI; omega
    have hk4 : k = 1 ∨ k = 2 ∨ k = 3 ∨ k = 4 := by omega
    rcases hk4 with rfl | rfl | rfl | rfl
    · simp only [fieldsC, if_true] at f1 f2 ⊢
      obtain ⟨t1, t2, t3⟩ := read_text f1
      rw [f2, List.append_nil] at t2
      obtain ⟨l6, m6⟩ := read_long t1
      obtain ⟨l5, m5⟩ := read_long l6
      obtain ⟨l4, m4⟩ := read_long l5
      obtain ⟨l3, m3⟩ := read_byte l4
      obtain ⟨l2, m2⟩ := read_byte l3
      obtain ⟨l1, m1⟩ := read_byte l2
      refine ⟨l1, ?_, trivial, trivial, rfl, ⟨hki, hii, byte_bd _, byte_bd _, long_bd _, long_bd _, long_bd _, byte_bd _, by simp only; omega⟩⟩
      unfold tailC
      rw [if_pos rfl, ← t2, ← m6, ← m5, ← m4, ← m3, ← m2, ← m1]
    · simp [fieldsC] at f1 f2 ⊢
      refine ⟨f1, ?_, rfl, ⟨hki, hii, i0, i0, i0, i0, i0, i0, by simp [Cmd.zero]⟩⟩
      simp [tailC, f2]
    · simp [fieldsC] at f1 f2 ⊢
      obtain ⟨l1, m1⟩ := read_long f1
      rw [f2, List.append_nil] at m1
      refine ⟨l1, ?_, rfl, ⟨hki, hii, i0, i0, i0, long_bd _, i0, i0, by simp [Cmd.zero]⟩⟩
      simp [tailC, ← m1]
    · simp [fieldsC] at f1 f2 ⊢
      obtain ⟨l1, m1⟩ := read_long f1
      rw [f2, List.append_nil] at m1
      obtain ⟨l2, m2⟩ := read_long l1
      refine ⟨l2, ?_, rfl, ⟨hki, hii, i0, i0, long_bd _, long_bd _, i0, i0, by simp [Cmd.zero]⟩⟩
      simp [tailC, ← m1, ← m2]
  obtain ⟨g1, g2, g3, g4, g5, g6⟩ := main _ _ _ (byte_bd _) (long_bd _) (by omega) e1 e2
  rw [h] at g2 g3 g4 g5 g6
  obtain ⟨l1, m1⟩ := read_long g1
  obtain ⟨l2, m2⟩ := read_byte l1
  refine ⟨hr0, ?_, g5, g6⟩
  unfold encC
  rw [g2, g3, g4, ← m1, ← m2]
  rfl
theorem dec_bad {b : List UInt8} {z : Cmd} {y : Nat} (h : decC b = (z, y)) (hy : y ≠ 0) : z = Cmd.zero := by
  unfold decC at h
  repeat' split at h
  all_goals first | (injection h with h1 h2; exact h1.symm) | (injection h with h1 h2; exact absurd h2.symm hy)
/-- Unlike commands have unlike bytes. -/
theorem enc_inj {c d : Cmd} (hc : rightC c = 0) (hd : rightC d = 0) (wc : c.wf) (wd : d.wf) : encC c = encC d ↔ askedC c = askedC d := by
  constructor
  · intro h
    have h1 := dec_enc hc wc
    rw [h, dec_enc hd wd] at h1
    injection h1 with h1 _
    exact h1.symm
  · intro h
    rw [← enc_asked c ⟨(right_kind hc).1, (right_kind hc).2.1⟩, h, enc_asked d ⟨(right_kind hd).1, (right_kind hd).2.1⟩]
end Go.Proofs.Ytjahndamfhfjcaa
