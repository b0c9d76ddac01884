/-
  Numbers as bytes, checksums and frames: plain words.
-/
import Derived.Test.YtbfjdhbgpjenbaaDoorBytes
namespace Go.Proofs.YtbfjdhbgpjenbaaDoor
set_option linter.unusedSimpArgs false
set_option linter.unusedVariables false

/-! ### Numbers as bytes, the lowest first -/
def lo8 (n : Nat) : UInt8 := UInt8.ofNat (n % 256)
theorem lo8_toNat (n : Nat) : (lo8 n).toNat = n % 256 := by
  unfold lo8
  rw [UInt8.toNat_ofNat']
  exact Nat.mod_eq_of_lt (by omega)
theorem lo8_of_toNat (x : UInt8) : lo8 x.toNat = x := by
  apply UInt8.toNat_inj.1
  rw [lo8_toNat]
  have := x.toNat_lt
  omega
def le : Nat → Nat → List UInt8
  | 0, _ => []
  | k + 1, n => lo8 n :: le k (n / 256)
def ofLe : List UInt8 → Nat
  | [] => 0
  | x :: l => x.toNat + 256 * ofLe l
theorem length_le : ∀ (k n : Nat), (le k n).length = k
  | 0, _ => rfl
  | k + 1, n => by simp [le, length_le k]
theorem ofLe_le : ∀ (k n : Nat), ofLe (le k n) = n % 256 ^ k
  | 0, n => by simp [le, ofLe, Nat.mod_one]
  | k + 1, n => by
    simp only [le, ofLe, ofLe_le k, lo8_toNat]
    rw [Nat.pow_succ, Nat.mul_comm (256 ^ k) 256, Nat.mod_mul]
theorem ofLe_lt : ∀ (l : List UInt8), ofLe l < 256 ^ l.length
  | [] => by simp [ofLe]
  | x :: l => by
    have h1 := ofLe_lt l
    have h2 := x.toNat_lt
    simp only [ofLe, List.length_cons, Nat.pow_succ]
    omega
theorem le_ofLe : ∀ (l : List UInt8), le l.length (ofLe l) = l
  | [] => rfl
  | x :: l => by
    have h2 := x.toNat_lt
    have e1 : (x.toNat + 256 * ofLe l) / 256 = ofLe l := by omega
    have e2 : lo8 (x.toNat + 256 * ofLe l) = x := by
      apply UInt8.toNat_inj.1
      rw [lo8_toNat]; omega
    simp only [List.length_cons, le, ofLe, e1, e2, le_ofLe l]
theorem le_snoc : ∀ (k n : Nat), le (k + 1) n = le k n ++ [lo8 (n / 256 ^ k)]
  | 0, n => by simp [le]
  | k + 1, n => by
    rw [le, le_snoc k, le, Nat.div_div_eq_div_mul, Nat.pow_succ, Nat.mul_comm 256]
    rfl
theorem le_mod (k n : Nat) : le k (n % 256 ^ k) = le k n := by
  have h1 := le_ofLe (le k n)
  rw [length_le, ofLe_le] at h1
  exact h1
theorem le_inj {k a b : Nat} (h : le k a = le k b) : a % 256 ^ k = b % 256 ^ k := by
  rw [← ofLe_le, ← ofLe_le, h]
theorem ofLe_snoc (x : UInt8) : ∀ (l : List UInt8), ofLe (l ++ [x]) = ofLe l + x.toNat * 256 ^ l.length
  | [] => by simp [ofLe]
  | y :: l => by
    simp only [List.cons_append, ofLe, ofLe_snoc x l, List.length_cons, Nat.pow_succ]
    rw [Nat.mul_add, Nat.mul_left_comm, ← Nat.mul_assoc, Nat.add_assoc, Nat.mul_comm 256, Nat.mul_assoc, Nat.mul_comm 256]
theorem ofLe_take_succ {l : List UInt8} {k : Nat} {x : UInt8} (h : l[k]? = some x) : ofLe (l.take (k + 1)) = ofLe (l.take k) + x.toNat * 256 ^ k := by
  have hk := (List.getElem?_eq_some_iff.1 h).1
  rw [take_succ_of h, ofLe_snoc, List.length_take, Nat.min_eq_left (by omega)]

/-! ### Checksums -/
def bitStep (c : BitVec 32) : BitVec 32 := if c.getLsbD 0 = true then (c >>> 1) ^^^ 0xedb88320#32 else c >>> 1
def bitSteps : Nat → BitVec 32 → BitVec 32
  | 0, c => c
  | k + 1, c => bitStep (bitSteps k c)
def wideB (x : UInt8) : BitVec 32 := BitVec.ofNat 32 x.toNat
def byteStep (c : BitVec 32) (x : UInt8) : BitVec 32 := bitSteps 8 (c ^^^ wideB x)
def crcS (c : BitVec 32) (l : List UInt8) : BitVec 32 := l.foldl byteStep c
def crcV (l : List UInt8) : BitVec 32 := ~~~ (crcS (BitVec.allOnes 32) l)
def crcN (l : List UInt8) : Nat := (crcV l).toNat
theorem crcN_lt (l : List UInt8) : crcN l < 4294967296 := (crcV l).isLt
theorem xor_swap (a b x y : BitVec 32) : (a ^^^ x) ^^^ (b ^^^ y) = (a ^^^ b) ^^^ (x ^^^ y) := by
  rw [BitVec.xor_assoc, BitVec.xor_assoc, ← BitVec.xor_assoc x, BitVec.xor_comm x b, BitVec.xor_assoc]
theorem bitStep_xor (a b : BitVec 32) : bitStep (a ^^^ b) = bitStep a ^^^ bitStep b := by
  unfold bitStep
  rw [BitVec.getLsbD_xor, BitVec.ushiftRight_xor_distrib]
  cases ha : a.getLsbD 0 <;> cases hb : b.getLsbD 0 <;> simp
  · rw [BitVec.xor_assoc]
  · rw [BitVec.xor_assoc, BitVec.xor_assoc, BitVec.xor_comm (b >>> 1)]
  · rw [xor_swap, BitVec.xor_self, BitVec.xor_zero]
theorem bitSteps_xor (k : Nat) (a b : BitVec 32) : bitSteps k (a ^^^ b) = bitSteps k a ^^^ bitSteps k b := by
  induction k with
  | zero => rfl
  | succ k ih => simp only [bitSteps, ih, bitStep_xor]
theorem bitStep_zero {d : BitVec 32} (h : bitStep d = 0#32) : d = 0#32 := by
  unfold bitStep at h
  split at h
  · have h31 := congrArg (fun x => x.getLsbD 31) h
    simp only [BitVec.getLsbD_xor, BitVec.getLsbD_ushiftRight] at h31
    have e : d.getLsbD (1 + 31) = false := BitVec.getLsbD_of_ge d 32 (by omega)
    rw [e] at h31
    exact absurd h31 (by decide)
  · rename_i h0
    apply BitVec.eq_of_getLsbD_eq
    intro i hi
    rcases i with _ | i
    · simpa using h0
    · have := congrArg (fun x => x.getLsbD i) h
      simp only [BitVec.getLsbD_ushiftRight] at this
      rw [Nat.add_comm 1 i] at this
      rw [this]; simp
theorem xor_zero_eq {a b : BitVec 32} (h : a ^^^ b = 0#32) : a = b := by
  have : (a ^^^ b) ^^^ b = 0#32 ^^^ b := by rw [h]
  rwa [BitVec.xor_assoc, BitVec.xor_self, BitVec.xor_zero, BitVec.zero_xor] at this
theorem bitStep_inj {a b : BitVec 32} (h : bitStep a = bitStep b) : a = b := by
  apply xor_zero_eq
  apply bitStep_zero
  rw [bitStep_xor, h, BitVec.xor_self]
theorem bitSteps_inj (k : Nat) {a b : BitVec 32} (h : bitSteps k a = bitSteps k b) : a = b := by
  induction k with
  | zero => exact h
  | succ k ih => exact ih (bitStep_inj h)
theorem xor_left_inj {a b c : BitVec 32} (h : a ^^^ c = b ^^^ c) : a = b := by
  have : (a ^^^ c) ^^^ c = (b ^^^ c) ^^^ c := by rw [h]
  rwa [BitVec.xor_assoc, BitVec.xor_assoc, BitVec.xor_self, BitVec.xor_zero, BitVec.xor_zero] at this
theorem wideB_inj {x y : UInt8} (h : wideB x = wideB y) : x = y := by
  have := congrArg BitVec.toNat h
  simp only [wideB, BitVec.toNat_ofNat] at this
  have h1 := x.toNat_lt
  have h2 := y.toNat_lt
  exact UInt8.toNat_inj.1 (by omega)
theorem wideB_xor (x y : UInt8) : wideB (x ^^^ y) = wideB x ^^^ wideB y := by
  apply BitVec.eq_of_toNat_eq
  have h1 := x.toNat_lt
  have h2 := y.toNat_lt
  have h3 : x.toNat ^^^ y.toNat < 2 ^ 32 := Nat.xor_lt_two_pow (by omega) (by omega)
  simp only [wideB, BitVec.toNat_xor, BitVec.toNat_ofNat, UInt8.toNat_xor]
  rw [Nat.mod_eq_of_lt h3, Nat.mod_eq_of_lt (by omega), Nat.mod_eq_of_lt (by omega)]
theorem crcS_state_inj {a b : BitVec 32} : ∀ {l : List UInt8}, crcS a l = crcS b l → a = b
  | [], h => h
  | x :: l, h => by
    have h1 : byteStep a x = byteStep b x := crcS_state_inj (l := l) h
    exact xor_left_inj (bitSteps_inj 8 h1)
theorem crcS_append (c : BitVec 32) (l m : List UInt8) : crcS c (l ++ m) = crcS (crcS c l) m := List.foldl_append ..
/-- One byte is turned: the sum is another. -/
theorem crcV_turn {l m : List UInt8} {x y : UInt8} (h : crcV (l ++ x :: m) = crcV (l ++ y :: m)) : x = y := by
  unfold crcV at h
  have h1 : crcS (BitVec.allOnes 32) (l ++ x :: m) = crcS (BitVec.allOnes 32) (l ++ y :: m) := by
    have := congrArg (fun a => ~~~ a) h
    simpa using this
  rw [crcS_append, crcS_append] at h1
  have h2 : byteStep _ x = byteStep _ y := crcS_state_inj (l := m) h1
  have h3 := bitSteps_inj 8 h2
  rw [BitVec.xor_comm, BitVec.xor_comm (crcS _ l)] at h3
  exact wideB_inj (xor_left_inj h3)
/-- Three rows of one length, and the one that all three make together. -/
def xor3 : List UInt8 → List UInt8 → List UInt8 → List UInt8
  | a :: l, b :: m, c :: n => (a ^^^ b ^^^ c) :: xor3 l m n
  | _, _, _ => []
theorem byteStep_xor (a b : BitVec 32) (x y : UInt8) : byteStep a x ^^^ byteStep b y = byteStep (a ^^^ b) (x ^^^ y) := by
  unfold byteStep
  rw [← bitSteps_xor, wideB_xor, xor_swap]
theorem crcS_xor3 : ∀ {l m n : List UInt8} (a b c : BitVec 32), l.length = m.length → m.length = n.length → crcS a l ^^^ crcS b m ^^^ crcS c n = crcS (a ^^^ b ^^^ c) (xor3 l m n)
  | [], [], [], _, _, _, _, _ => rfl
  | x :: l, y :: m, z :: n, a, b, c, h1, h2 => by
    have ih := crcS_xor3 (l := l) (m := m) (n := n) (byteStep a x) (byteStep b y) (byteStep c z) (by simpa using h1) (by simpa using h2)
    rw [byteStep_xor, byteStep_xor] at ih
    exact ih
  | [], _ :: _, _, _, _, _, h1, _ => by simp at h1
  | _ :: _, [], _, _, _, _, h1, _ => by simp at h1
  | _ :: _, _ :: _, [], _, _, _, _, h2 => by simp at h2
  | [], [], _ :: _, _, _, _, _, h2 => by simp at h2
theorem xor_four (o x y z : BitVec 32) : (o ^^^ x) ^^^ (o ^^^ y) ^^^ (o ^^^ z) = o ^^^ (x ^^^ y ^^^ z) := by
  rw [xor_swap o o x y, BitVec.xor_self, BitVec.zero_xor, ← BitVec.xor_assoc, BitVec.xor_comm (x ^^^ y) o, BitVec.xor_assoc]
theorem crcV_xor3 {l m n : List UInt8} (h1 : l.length = m.length) (h2 : m.length = n.length) : crcV l ^^^ crcV m ^^^ crcV n = crcV (xor3 l m n) := by
  unfold crcV
  rw [← BitVec.allOnes_xor (x := crcS _ l), ← BitVec.allOnes_xor (x := crcS _ m), ← BitVec.allOnes_xor (x := crcS _ n), ← BitVec.allOnes_xor (x := crcS _ (xor3 l m n))]
  rw [xor_four, crcS_xor3 _ _ _ h1 h2, BitVec.xor_self, BitVec.zero_xor]

/-! ### Frames -/
/-- A frame of no more than 255 bytes. -/
def frameL (b : List UInt8) : List UInt8 := lo8 b.length :: lo8 (255 - b.length) :: (b ++ le 4 (crcN b))
theorem length_frameL (b : List UInt8) : (frameL b).length = b.length + 6 := by simp [frameL, length_le]
/-- What a frame is opened to: the bytes, where it ends, the refusal. -/
structure Opened where
  b : List UInt8
  stop : Nat
  why : Nat
/-- The frame at the beginning of l, which stands at a place. -/
def openF (l : List UInt8) (place : Nat) : Opened :=
  match l with
  | n :: m :: t =>
    if m.toNat ≠ 255 - n.toNat then ⟨[], 0, 14⟩
    else if t.length < n.toNat + 4 then ⟨[], 0, 10⟩
    else if ofLe ((t.drop n.toNat).take 4) ≠ crcN (t.take n.toNat) then ⟨[], 0, 14⟩
    else ⟨t.take n.toNat, place + n.toNat + 6, 0⟩
  | _ => ⟨[], 0, 10⟩
/-- The frame at a place. -/
def openL (l : List UInt8) (place : Int) : Opened :=
  if place < 0 ∨ (l.length : Int) < place then ⟨[], 0, 1⟩ else openF (l.drop place.toNat) place.toNat
theorem openF_frame (b : List UInt8) (hb : b.length ≤ 255) (rest : List UInt8) (place : Nat) : openF (frameL b ++ rest) place = ⟨b, place + b.length + 6, 0⟩ := by
  have h1 : (lo8 b.length).toNat = b.length := by rw [lo8_toNat]; omega
  have h2 : (lo8 (255 - b.length)).toNat = 255 - b.length := by rw [lo8_toNat]; omega
  have h3 : ofLe (le 4 (crcN b)) = crcN b := by rw [ofLe_le]; exact Nat.mod_eq_of_lt (crcN_lt b)
  have h4 : (b ++ (le 4 (crcN b) ++ rest)).take b.length = b := by simp
  have h5 : ((b ++ (le 4 (crcN b) ++ rest)).drop b.length).take 4 = le 4 (crcN b) := by
    rw [List.drop_left]
    exact List.take_left' (length_le 4 _)
  simp only [frameL, List.cons_append, List.append_assoc, openF, h1, h2, ne_eq, not_true_eq_false, if_false, h4, h5, h3]
  rw [if_neg (by simp [length_le])]
theorem openL_frame (ahead b rest : List UInt8) (hb : b.length ≤ 255) : openL (ahead ++ (frameL b ++ rest)) ahead.length = ⟨b, ahead.length + b.length + 6, 0⟩ := by
  unfold openL
  rw [if_neg (by simp; omega)]
  simp only [Int.toNat_natCast, List.drop_left]
  exact openF_frame b hb rest _
/-- A frame that is cut off is at its end. -/
theorem openF_cut (b : List UInt8) (hb : b.length ≤ 255) (k : Nat) (hk : k < b.length + 6) (place : Nat) : openF ((frameL b).take k) place = ⟨[], 0, 10⟩ := by
  have h1 : (lo8 b.length).toNat = b.length := by rw [lo8_toNat]; omega
  have h2 : (lo8 (255 - b.length)).toNat = 255 - b.length := by rw [lo8_toNat]; omega
  rcases k with _ | _ | k
  · rfl
  · rfl
  · simp only [frameL, List.take_succ_cons, openF, h1, h2, ne_eq, not_true_eq_false, if_false]
    rw [if_pos (by simp [length_le]; omega)]
/-- What an opened frame says of its bytes. -/
theorem openF_ok {l : List UInt8} {place : Nat} {o : Opened} (h : openF l place = o) (hw : o.why = 0) : ∃ rest, l = frameL o.b ++ rest ∧ o.b.length ≤ 255 ∧ o.stop = place + o.b.length + 6 := by
  subst h
  rcases l with _ | ⟨n, _ | ⟨m, t⟩⟩
  · simp [openF] at hw
  · simp [openF] at hw
  · simp only [openF] at hw ⊢
    have hn := n.toNat_lt
    split at hw
    · simp at hw
    · rename_i hm
      split at hw
      · simp at hw
      · rename_i ht
        split at hw
        · simp at hw
        · rename_i hc
          have hm' : m.toNat = 255 - n.toNat := by omega
          have hc' : ofLe ((t.drop n.toNat).take 4) = crcN (t.take n.toNat) := by simpa using hc
          rw [if_neg hm, if_neg ht, if_neg hc]
          have hl : (t.take n.toNat).length = n.toNat := by simp; omega
          refine ⟨(t.drop n.toNat).drop 4, ?_, by simp; omega, by simp; omega⟩
          have e1 : lo8 (t.take n.toNat).length = n := by rw [hl, lo8_of_toNat]
          have e2 : lo8 (255 - (t.take n.toNat).length) = m := by rw [hl, ← hm', lo8_of_toNat]
          have e3 : le 4 (crcN (t.take n.toNat)) = (t.drop n.toNat).take 4 := by
            rw [← hc']
            have : ((t.drop n.toNat).take 4).length = 4 := by simp; omega
            have h := le_ofLe ((t.drop n.toNat).take 4)
            rwa [this] at h
          simp only [frameL, e1, e2, e3, List.cons_append, List.append_assoc, List.take_append_drop]
theorem openF_not {l : List UInt8} {place : Nat} (h : (openF l place).why ≠ 0) : (openF l place).b = [] ∧ (openF l place).stop = 0 := by
  rcases l with _ | ⟨n, _ | ⟨m, t⟩⟩
  · exact ⟨rfl, rfl⟩
  · exact ⟨rfl, rfl⟩
  · simp only [openF] at h ⊢
    split
    · exact ⟨rfl, rfl⟩
    · split
      · exact ⟨rfl, rfl⟩
      · split
        · exact ⟨rfl, rfl⟩
        · rename_i a b c
          simp [a, b, c] at h
theorem set_cases {α : Type} (l m : List α) (i : Nat) (x : α) : (l ++ m).set i x = if i < l.length then l.set i x ++ m else l ++ m.set (i - l.length) x := by
  split
  · exact List.set_append_left _ _ ‹_›
  · exact List.set_append_right _ _ (by omega)
/-- A frame of which one byte is turned is not opened. -/
theorem openF_turned (b : List UInt8) (hb : b.length ≤ 255) (rest : List UInt8) (i : Nat) (x y : UInt8) (hx : (frameL b)[i]? = some x) (hxy : y ≠ x) (place : Nat) : openF ((frameL b).set i y ++ rest) place = ⟨[], 0, 14⟩ := by
  have h1 : (lo8 b.length).toNat = b.length := by rw [lo8_toNat]; omega
  have h2 : (lo8 (255 - b.length)).toNat = 255 - b.length := by rw [lo8_toNat]; omega
  have hne : ∀ {a b : UInt8}, a ≠ b → a.toNat ≠ b.toNat := fun h he => h (UInt8.toNat_inj.1 he)
  have hy := y.toNat_lt
  rcases i with _ | _ | i
  · simp only [frameL, List.getElem?_cons_zero, Option.some.injEq] at hx
    subst hx
    have := hne hxy
    rw [h1] at this
    simp only [frameL, List.set_cons_zero, List.cons_append, openF, h2]
    rw [if_pos (by omega)]
  · simp only [frameL, List.getElem?_cons_succ, List.getElem?_cons_zero, Option.some.injEq] at hx
    subst hx
    have := hne hxy
    rw [h2] at this
    simp only [frameL, List.set_cons_succ, List.set_cons_zero, List.cons_append, openF, h1]
    rw [if_pos (by omega)]
  · simp only [frameL, List.getElem?_cons_succ] at hx
    simp only [frameL, List.set_cons_succ, List.cons_append, openF, h1, h2, ne_eq, not_true_eq_false, if_false]
    have hlen : ((b ++ le 4 (crcN b)).set i y).length = b.length + 4 := by simp [length_le]
    rw [if_neg (by rw [List.length_append, hlen]; omega), if_pos]
    have hil : i < b.length + 4 := by
      have := (List.getElem?_eq_some_iff.1 hx).1
      simpa [length_le] using this
    rw [set_cases]
    split
    · rename_i hi
      rw [List.append_assoc, List.take_left' (by simp), List.drop_left' (by simp), List.take_left' (length_le 4 _), ofLe_le, Nat.mod_eq_of_lt (crcN_lt b)]
      intro he
      have he' : crcV b = crcV (b.set i y) := BitVec.eq_of_toNat_eq he
      rw [List.getElem?_append_left hi] at hx
      have e1 : b = b.take i ++ x :: b.drop (i + 1) := by
        have := List.getElem?_eq_some_iff.1 hx
        obtain ⟨h, rfl⟩ := this
        rw [← List.drop_eq_getElem_cons h, List.take_append_drop]
      have e2 : b.set i y = b.take i ++ y :: b.drop (i + 1) := by
        rw [List.set_eq_take_append_cons_drop, if_pos hi]
      rw [e2] at he'
      conv at he' => lhs; rw [e1]
      exact hxy (crcV_turn he').symm
    · rename_i hi
      rw [List.append_assoc, List.take_left' rfl, List.drop_left' rfl, List.take_left' (by simp [length_le])]
      intro he
      rw [List.getElem?_append_right (by omega)] at hx
      have hl : ((le 4 (crcN b)).set (i - b.length) y).length = 4 := by simp [length_le]
      have h3 := le_ofLe ((le 4 (crcN b)).set (i - b.length) y)
      rw [he, hl] at h3
      have h4 : ((le 4 (crcN b)).set (i - b.length) y)[i - b.length]? = some y := by
        rw [List.getElem?_set_self (by rw [length_le]; omega)]
      rw [← h3, hx] at h4
      exact hxy (Option.some.inj h4).symm
end Go.Proofs.YtbfjdhbgpjenbaaDoor
