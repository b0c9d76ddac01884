/-
  Words for memory that the walks of this seat share: slices that read as lists of one-cell values, results in new memory, facts kept from the walk. No program in sight.
-/
import Derived.WalkKit
import Derived.BigQuiet
import Derived.Deep.QuietTactic
import Derived.Maps.AppendAt
namespace Go.Proofs.YtbfjdhbgpjenbaaDoor
set_option linter.unusedSimpArgs false
open Go.RowKit
set_option linter.unusedVariables false

theorem hide {p : Prop} (h : p) : Hid p := h
theorem ret_bool {a b : Bool} (h : a = b) : Ending.returned (.bool a) = .returned (.bool b) := by rw [h]
theorem ret_int {k : IntKind} {a b : Int} (h : a = b) : Ending.returned (.int k a) = .returned (.int k b) := by rw [h]
theorem val_int {k : IntKind} {a b : Int} (h : a = b) : Value.int k a = .int k b := by rw [h]

theorem lt_of_some' {α : Type} {l : List α} {k : Nat} {x : α} (h : l[k]? = some x) : k < l.length := (List.getElem?_eq_some_iff.1 h).1
theorem i64_bd {n : Int} (h : (Lit.int .i64 n).wf = true) : -9223372036854775808 ≤ n ∧ n ≤ 9223372036854775807 := by
  simpa [Lit.wf, IntKind.min, IntKind.max, IntKind.signed, IntKind.bits] using h
theorem i32_bd {n : Int} (h : (Lit.int .i32 n).wf = true) : -2147483648 ≤ n ∧ n ≤ 2147483647 := by
  simpa [Lit.wf, IntKind.min, IntKind.max, IntKind.signed, IntKind.bits] using h
theorem u8_bd {n : Int} (h : (Lit.int .u8 n).wf = true) : 0 ≤ n ∧ n ≤ 255 := by
  simpa [Lit.wf, IntKind.min, IntKind.max, IntKind.signed, IntKind.bits] using h

/-! ### Slices that are read -/
/-- The slice over address A reads as the one-cell values xs (nothing is asked of the address where xs is empty). -/
def Cells (w : World) (A : Option Addr) (xs : List Value) : Prop :=
  xs ≠ [] → ∃ b o, A = some ⟨b, o, none⟩ ∧ b < w.heap.size ∧ ∀ k u, xs[k]? = some u → w.cell? ⟨b, o + k, none⟩ = some u
def i64s (l : List Int) : List Value := l.map (Value.int .i64)
theorem length_i64s (l : List Int) : (i64s l).length = l.length := by simp [i64s]

theorem Cells.nil (w : World) (A : Option Addr) : Cells w A [] := fun h => absurd rfl h
theorem Cells.val_at {w : World} {A : Option Addr} {xs : List Value} (h : Cells w A xs) {k : Nat} (hk : k < xs.length) :
    ∃ b o u, A = some ⟨b, o, none⟩ ∧ b < w.heap.size ∧ w.cell? ⟨b, o + k, none⟩ = some u ∧ Hid (xs[k]? = some u) := by
  obtain ⟨b, o, rfl, hb, hc⟩ := h (by intro h0; subst h0; simp at hk)
  exact ⟨b, o, xs[k], rfl, hb, hc k _ (by simp [hk]), by simp [Hid, hk]⟩
theorem Cells.int_at {w : World} {A : Option Addr} {l : List Int} (h : Cells w A (i64s l)) {k : Nat} (hk : k < l.length) :
    ∃ b o x, A = some ⟨b, o, none⟩ ∧ b < w.heap.size ∧ w.cell? ⟨b, o + k, none⟩ = some (.int .i64 x) ∧ Hid (l[k]? = some x) := by
  obtain ⟨b, o, rfl, hb, hc⟩ := h (by intro h0; simp [i64s] at h0; subst h0; simp at hk)
  exact ⟨b, o, l[k], rfl, hb, hc k _ (by simp [i64s, hk]), by simp [Hid, hk]⟩
theorem Cells.keep {w w' : World} {A : Option Addr} {xs : List Value} (h : Cells w A xs) (hs : w.heap.size ≤ w'.heap.size)
    (hk : ∀ b o, A = some ⟨b, o, none⟩ → b < w.heap.size → ∀ k, w'.cell? ⟨b, k, none⟩ = w.cell? ⟨b, k, none⟩) : Cells w' A xs := fun hn => by
  obtain ⟨b, o, rfl, hb, hc⟩ := h hn
  exact ⟨b, o, rfl, by omega, fun k u hu => (hk b o rfl hb _).trans (hc k u hu)⟩
theorem Cells.below {w w' : World} {A : Option Addr} {xs : List Value} (h : Cells w A xs) (hb : Below w.heap.size w w') : Cells w' A xs :=
  h.keep hb.size fun b _ _ hlt k => hb.cell (p := ⟨b, k, none⟩) hlt
theorem Cells.alloc {w : World} {A : Option Addr} {xs : List Value} (h : Cells w A xs) (o : Obj) : Cells (w.alloc o) A xs :=
  h.below ((Below.refl _ _).alloc (Nat.le_refl _) o)
theorem Cells.drew {w : World} {A : Option Addr} {xs : List Value} (h : Cells w A xs) : Cells w.drew A xs := h
theorem Cells.drewN {w : World} {A : Option Addr} {xs : List Value} (h : Cells w A xs) (n : Nat) : Cells (w.drewN n) A xs := h
theorem Cells.lit (w : World) (cs : Array Value) (e : TypeId) : Cells (w.alloc (.cells cs e)) (some ⟨w.heap.size, 0, none⟩) cs.toList := fun _ => by
  refine ⟨w.heap.size, 0, rfl, by simp, fun k u hu => ?_⟩
  rw [World.cell?_alloc_at _ _ _ _ rfl]
  simpa using hu
theorem Cells.of_own {w : World} {base : Nat} {e : TypeId} {A : Option Addr} {n c : Nat} {xs : List Value} (h : w.ownsRow base e 1 (.slice A n c) n xs) : Cells w A xs := fun hn => by
  have hl := h.1
  have hpos : 0 < n := by
    rcases Nat.eq_zero_or_pos n with h0 | h0
    · subst h0; exact absurd (List.eq_nil_of_length_eq_zero (by simpa using hl)) hn
    · exact h0
  rcases h.2 with ⟨_, h0⟩ | ⟨g, cap, cur, hv, _, hg, _⟩
  · omega
  · injection hv with hA _ _
    subst hA
    refine ⟨g, 0, rfl, (h.lt g rfl).2, fun k u hu => ?_⟩
    have := h.cells (g := g) rfl k u hu
    rwa [Addr.add_lit] at this

/-- A slice of integers that came in. -/
structure ArgI (k : IntKind) (w : World) (A : Option Addr) (c : Nat) (l : List Int) : Prop where
  cells : Cells w A (l.map (Value.int k))
  le : l.length ≤ c
  max : c ≤ maxLen
  wf : ∀ n ∈ l, (Lit.int k n).wf = true
theorem ArgI.of_row {k : IntKind} {w : World} {x : Addr} {len cap : Nat} {zs : List Int} (hl : len ≤ cap) (hm : cap ≤ maxLen) (hz : zs.length = cap)
    (hc : ∀ i, i < zs.length → w.cell? (x.add i) = some (.int k (zs.getD i 0))) (hw : ∀ n ∈ zs, (Lit.int k n).wf = true) : ∃ l : List Int, l.length = len ∧ ArgI k w (some x) cap l := by
  refine ⟨zs.take len, by simp; omega, fun hne => ?_, by simp; omega, hm, fun n hn => hw n (List.mem_of_mem_take hn)⟩
  have hpos : 0 < zs.length := by
    rcases Nat.eq_zero_or_pos zs.length with h0 | h0
    · exact absurd (by simp [List.eq_nil_of_length_eq_zero h0]) hne
    · exact h0
  have h0 := hc 0 hpos
  obtain ⟨b, o, sp⟩ := x
  have hs : sp = none := by
    rcases sp with _ | sp
    · rfl
    · exfalso
      simp only [Addr.add, World.cell?] at h0
      split at h0 <;> simp at h0
  subst hs
  rw [Addr.add_lit] at h0
  refine ⟨b, o, rfl, World.block_lt_of_cell? w _ h0, fun j u hu => ?_⟩
  simp only [List.getElem?_map, List.getElem?_take, Option.map_eq_some_iff] at hu
  obtain ⟨n, hn, rfl⟩ := hu
  split at hn
  · have hj := lt_of_some' hn
    have := hc j hj
    rw [Addr.add_lit] at this
    rw [this]; simp [List.getD, hn]
  · cases hn

theorem addr_plain {w : World} {x : Addr} {v : Value} (h : w.cell? (x.add 0) = some v) : ∃ b o, x = ⟨b, o, none⟩ := by
  obtain ⟨b, o, sp⟩ := x
  rcases sp with _ | sp
  · exact ⟨b, o, rfl⟩
  · exfalso
    simp only [Addr.add, World.cell?] at h
    split at h <;> simp at h
/-- A slice of slices of integers that came in. -/
structure ArgLL (k : IntKind) (w : World) (A : Option Addr) (n c : Nat) (ls : List (List Int)) : Prop where
  len : ls.length = n
  le : n ≤ c
  max : c ≤ maxLen
  row : ∀ i, i < n → ∃ b o A' c' l, A = some ⟨b, o, none⟩ ∧ b < w.heap.size ∧ w.cell? ⟨b, o + i, none⟩ = some (.slice A' l.length c') ∧ ArgI k w A' c' l ∧ ls[i]? = some l
theorem ArgLL.nil (k : IntKind) (w : World) : ArgLL k w none 0 0 [] := ⟨rfl, Nat.le_refl _, Nat.zero_le _, fun i h => by omega⟩
theorem ArgLL.of_rows {k : IntKind} {w : World} {a : Addr} {len cap : Nat} {A : Nat → Option Addr} {L C : Nat → Nat} {Z : Nat → List Int} (hl : len ≤ cap) (hm : cap ≤ maxLen)
    (h : ∀ r, r < cap → w.cell? (a.add r) = some (.slice (A r) (L r) (C r)) ∧ L r ≤ C r ∧ C r ≤ maxLen ∧ (Z r).length = C r ∧ (∀ n ∈ Z r, (Lit.int k n).wf = true) ∧ (A r = none → C r = 0) ∧
      ∀ a', A r = some a' → ∀ c, c < C r → w.cell? (a'.add c) = some (.int k ((Z r).getD c 0))) : ∃ ls, ArgLL k w (some a) len cap ls := by
  have each : ∀ r, r < cap → ∃ l : List Int, l.length = L r ∧ ArgI k w (A r) (C r) l := by
    intro r hr
    obtain ⟨_, h1, h2, h3, h4, h5, h6⟩ := h r hr
    rcases hA : A r with _ | a'
    · have hc := h5 hA
      refine ⟨[], by simp; omega, Cells.nil _ _, by simp, h2, fun n hn => by cases hn⟩
    · exact ArgI.of_row h1 h2 h3 (fun i hi => h6 a' hA i (by omega)) h4
  refine ⟨(List.range len).map fun r => if hr : r < cap then (each r hr).choose else [], by simp, hl, hm, fun i hi => ?_⟩
  have hr : i < cap := by omega
  have hch := (each i hr).choose_spec
  obtain ⟨hcell, _⟩ := h i hr
  obtain ⟨b, o, rfl⟩ := addr_plain (h 0 (by omega)).1
  rw [Addr.add_lit] at hcell
  refine ⟨b, o, A i, C i, (each i hr).choose, rfl, World.block_lt_of_cell? w _ hcell, by rw [hcell, hch.1], hch.2, ?_⟩
  simp [hi, hr]
theorem ArgI.below {k : IntKind} {w w' : World} {A : Option Addr} {c : Nat} {l : List Int} (h : ArgI k w A c l) (hb : Below w.heap.size w w') : ArgI k w' A c l := ⟨h.cells.below hb, h.le, h.max, h.wf⟩
theorem ArgLL.at_ {k : IntKind} {w w' : World} {A : Option Addr} {n c : Nat} {ls : List (List Int)} (h : ArgLL k w A n c ls) (hb : Below w.heap.size w w') {i : Nat} (hi : i < n) :
    ∃ b o A' c' l, A = some ⟨b, o, none⟩ ∧ b < w.heap.size ∧ w'.cell? ⟨b, o + i, none⟩ = some (.slice A' l.length c') ∧ ArgI k w A' c' l ∧ Hid (ls[i]? = some l) := by
  obtain ⟨b, o, A', c', l, rfl, hlt, hc, ha, hl⟩ := h.row i hi
  exact ⟨b, o, A', c', l, rfl, hlt, (hb.cell (p := ⟨b, o + i, none⟩) hlt).trans hc, ha, hl⟩

/-! ### A result in new memory -/
theorem own_shape {w : World} {base : Nat} {e : TypeId} {size : Nat} {v : Value} {n : Nat} {xs : List Value} (h : w.ownsRow base e size v n xs) : ∃ A c, v = .slice A n c ∧ n ≤ c ∧ c ≤ maxLen := by
  rcases h.2 with ⟨rfl, rfl⟩ | ⟨g, cap, cur, rfl, _, _, h1, h2, _⟩
  · exact ⟨none, 0, rfl, Nat.le_refl _, by unfold maxLen; omega⟩
  · exact ⟨_, cap, rfl, h1, h2⟩
/-- The call handed back a slice in new memory that holds the elements l, each as f says; what was there before is as it was. -/
def Fresh {α : Type} (f : α → Value) (w : World) (e : TypeId) (l : List α) (x : Ending) (w' : World) : Prop :=
  ∃ A c, x = .returned (.slice A l.length c) ∧ w'.ownsRow w.heap.size e 1 (.slice A l.length c) l.length (l.map f) ∧ Cells w' A (l.map f) ∧ l.length ≤ c ∧ c ≤ maxLen ∧ Below w.heap.size w w'
abbrev FreshI : World → TypeId → List Int → Ending → World → Prop := Fresh (Value.int .i64)
theorem Fresh.mk {α : Type} {f : α → Value} {w w' : World} {e : TypeId} {l : List α} {v : Value} {n : Nat} (hn : n = l.length) (h : w'.ownsRow w.heap.size e 1 v n (l.map f)) (hb : Below w.heap.size w w') : Fresh f w e l (.returned v) w' := by
  subst hn
  obtain ⟨A, c, rfl, hc, hm⟩ := own_shape h
  exact ⟨A, c, rfl, h, Cells.of_own h, hc, hm, hb⟩
theorem Fresh.nil {α : Type} (f : α → Value) (w : World) (e : TypeId) : Fresh f w e [] (.returned (.slice none 0 0)) w :=
  ⟨none, 0, rfl, World.ownsRow_nil _ _ _ _, fun h => absurd rfl h, Nat.le_refl _, Nat.zero_le _, Below.refl _ _⟩

theorem Fresh.n {α : Type} {f : α → Value} {w w' : World} {e : TypeId} {l : List α} {x : Ending} {n : Nat} (h : Fresh f w e l x w') (hn : l.length = n) :
    ∃ A c, x = .returned (.slice A n c) ∧ w'.ownsRow w.heap.size e 1 (.slice A n c) n (l.map f) ∧ Cells w' A (l.map f) ∧ n ≤ c ∧ c ≤ maxLen ∧ Below w.heap.size w w' := by
  subst hn; exact h
theorem nxt {w wa w2 : World} (h : Below w.heap.size w wa) (hb : Below wa.heap.size wa w2) : Below w.heap.size w w2 := h.trans (hb.mono h.size)
theorem below_drewN {B : Nat} {a w : World} (h : Below B a w) (n : Nat) : Below B a (w.drewN n) := ⟨h.os, h.tape, h.output, h.size, h.block⟩
theorem nxt_alloc {w wa : World} (h : Below w.heap.size w wa) (o : Obj) : Below w.heap.size w (wa.alloc o) := h.alloc h.size o
theorem nxt_drew {w wa : World} (h : Below w.heap.size w wa) : Below w.heap.size w wa.drew := h.drew
theorem own_below {w w' : World} {base : Nat} {e : TypeId} {size : Nat} {v : Value} {n : Nat} {xs : List Value} (h : w.ownsRow base e size v n xs) (hb : Below w.heap.size w w') : w'.ownsRow base e size v n xs :=
  h.kept (row := none) ⟨hb.os, hb.tape, hb.output, hb.size, fun k hk _ => hb.block k hk⟩ (by cases v.ownBlock <;> simp)

theorem cell_one_at (w : World) (u : Value) (e : TypeId) : ∀ (j : Nat) (v : Value), [u][j]? = some v → (w.alloc (.cells #[u] e)).cell? ((⟨w.heap.size, 0, none⟩ : Addr).add j) = some v := by
  intro j v hj
  match j, hj with
  | 0, hj =>
    simp at hj; subst hj
    rw [Addr.add_lit, World.cell?_alloc_at _ _ _ _ rfl]; rfl
  | j + 1, hj => simp at hj

/-- What the tables say of a slice type whose elements have one cell. -/
structure Elem (P : Program) (t e : TypeId) (z : Value) (bytes : Nat) : Prop where
  under : P.underlying t = some (.slice e)
  info : ∃ i, P.info? e = some i ∧ i.zero = some z ∧ i.size = 1 ∧ i.bytes = bytes
  one : z.cells.size = 1
  small : bytes ≤ 64

/-- What a row of the call's own that does not lie in the written block keeps. -/
theorem own_grown {w w' : World} {row : Option Nat} {base : Nat} {e : TypeId} {size : Nat} {v : Value} {n : Nat} {xs : List Value} (h : w.ownsRow base e size v n xs) (hg : w.grownBy w' row)
    (hne : ∀ g, v.ownBlock = some g → some g ≠ row) : w'.ownsRow base e size v n xs :=
  h.kept hg (by
    rcases hv : v.ownBlock with _ | g
    · exact .inl rfl
    · exact .inr (hne g hv))
/-- Two rows of different element types lie in different blocks. -/
theorem own_ne {w : World} {base base' : Nat} {e e' : TypeId} {size size' : Nat} {v v' : Value} {n n' : Nat} {xs xs' : List Value} (h : w.ownsRow base e size v n xs) (h' : w.ownsRow base' e' size' v' n' xs') (hne : e ≠ e') :
    ∀ g, v.ownBlock = some g → some g ≠ v'.ownBlock := by
  intro g hg hg'
  rcases h.2 with ⟨rfl, _⟩ | ⟨g1, cap1, cur1, rfl, _, hb1, _⟩
  · simp [Value.ownBlock] at hg
  · rcases h'.2 with ⟨rfl, _⟩ | ⟨g2, cap2, cur2, rfl, _, hb2, _⟩
    · simp [Value.ownBlock] at hg'
    · simp only [Value.ownBlock, Option.some.injEq] at hg hg'
      subst hg
      rw [hg', hb2] at hb1
      injection hb1 with hb1
      injection hb1 with _ ht
      exact hne ht.symm
theorem own_shape_le {w : World} {base : Nat} {e : TypeId} {size : Nat} {A : Option Addr} {n c : Nat} {xs : List Value} (h : w.ownsRow base e size (.slice A n c) n xs) : n ≤ c := by
  obtain ⟨A', c', hv, h1, _⟩ := own_shape h
  injection hv with _ _ hc
  omega
theorem own_base {w : World} {base base' : Nat} {e : TypeId} {size : Nat} {v : Value} {n : Nat} {xs : List Value} (h : w.ownsRow base e size v n xs) (hb : base' ≤ base) : w.ownsRow base' e size v n xs := by
  refine ⟨h.1, ?_⟩
  rcases h.2 with h0 | ⟨g, cap, cur, hv, hg, rest⟩
  · exact .inl h0
  · exact .inr ⟨g, cap, cur, hv, Nat.le_trans hb hg, rest⟩
theorem own_some {w : World} {base : Nat} {e : TypeId} {size : Nat} {A : Option Addr} {n c : Nat} {xs : List Value} (h : w.ownsRow base e size (.slice A n c) n xs) (hn : 0 < n) : ∃ g, A = some ⟨g, 0, none⟩ ∧ base ≤ g ∧ g < w.heap.size := by
  rcases h.2 with ⟨_, h0⟩ | ⟨g, cap, cur, hv, hb, hg, _⟩
  · omega
  · injection hv with hA _ _
    subst hA
    exact ⟨g, rfl, hb, (h.lt g rfl).2⟩
theorem own_apart {w : World} {base : Nat} {e : TypeId} {size : Nat} {v : Value} {n : Nat} {xs : List Value} (h : w.ownsRow base e size v n xs) {b : Nat} (hb : b < base) : some b ≠ v.ownBlock := by
  intro hv
  have := (h.lt b hv.symm).1
  omega
theorem keep_push {wq wk : World} {o : Obj} {row : Option Nat} (hg : (wq.alloc o).grownBy wk row) {p : Addr} {u : Value} (hp : wq.cell? p = some u) (hne : some p.block ≠ row) : wk.cell? p = some u :=
  hg.cell ((((Below.refl wq.heap.size wq).alloc (Nat.le_refl _) o).cell (World.block_lt_of_cell? _ _ hp)).trans hp) hne
theorem grown_drewN {w w' : World} {row : Option Nat} (h : w.grownBy w' row) (n : Nat) : w.grownBy (w'.drewN n) row := ⟨h.os, h.tape, h.output, h.size, h.block⟩
theorem grown_drew {w w' : World} {row : Option Nat} (h : w.grownBy w' row) : w.grownBy w'.drew row := ⟨h.os, h.tape, h.output, h.size, h.block⟩
theorem own_drewN {w : World} {base : Nat} {e : TypeId} {size : Nat} {v : Value} {n : Nat} {xs : List Value} (h : w.ownsRow base e size v n xs) (k : Nat) : (w.drewN k).ownsRow base e size v n xs := h
theorem grown_alloc {w w' : World} {o : Obj} {row : Option Nat} (h : (w.alloc o).grownBy w' row) (hr : ∀ g, row = some g → g < w.heap.size) : w.grownBy w' row :=
  ⟨h.os, h.tape, h.output, Nat.le_trans (by simp) h.size, fun k hk hne => (h.block k (by simp; omega) hne).trans (Below.heap_alloc w o k hk)⟩
/-- Cells of a slice that does not lie in the written block. -/
theorem Cells.grown {w w' : World} {A : Option Addr} {xs : List Value} (h : Cells w A xs) {row : Option Nat} (hg : w.grownBy w' row) (hne : ∀ b o, A = some ⟨b, o, none⟩ → some b ≠ row) : Cells w' A xs :=
  h.keep hg.size fun b o hA hb k => World.cell?_of_block (hg.block b hb (hne b o hA))

section
variable {P : Program} {t e : TypeId} {z : Value} {bytes : Nat}
theorem run_append_zero (H : Elem P t e z bytes) {w : World} {base : Nat} {v : Value} {n : Nat} {xs : List Value} (hown : w.ownsRow base e 1 v n xs) (ty : TypeId) (A : Option Addr) (c : Nat) :
    (Builtin.append_ #[t, t] ty #[v, .slice A 0 c]).run P w = .ok v w := by
  obtain ⟨i, hi, hz, hsz, hby⟩ := H.info
  have ht := H.under
  rcases hown.2 with ⟨rfl, rfl⟩ | ⟨g, cap, cur, rfl, _, _, hnc, _⟩
  · cases A <;> simp [Builtin.append_, run_underlying ht, sizeOf, typeInfo, hi, Builtin.lenOf, Builtin.firstCells, loadCells, loadCellsFrom]
  · cases A <;> simp [Builtin.append_, run_underlying ht, sizeOf, typeInfo, hi, Builtin.lenOf, Builtin.firstCells, loadCells, loadCellsFrom, hnc, storeCells]
/-- What 'append' onto a slice of the call's own (or nil) leaves. -/
structure Appended (w : World) (base : Nat) (e : TypeId) (v : Value) (n : Nat) (xs : List Value) (A' : Option Addr) (c' : Nat) (w' : World) : Prop where
  own : w'.ownsRow base e 1 (.slice A' n c') n xs
  grown : w.grownBy w' v.ownBlock
  lies : (Value.slice A' n c').ownBlock = v.ownBlock ∨ (Value.slice A' n c').ownBlock = some w.heap.size
  below : ∀ B W, B ≤ base → Below B W w → Below B W w'
theorem run_app (H : Elem P t e z bytes) {w : World} {base : Nat} {v : Value} {n : Nat} {xs : List Value} (hown : w.ownsRow base e 1 v n xs) (ty : TypeId) {A : Option Addr} {m c : Nat} {news : List Value}
    (hm : news.length = m) (hc : Cells w A news) (h1 : ∀ u ∈ news, u.oneCell' = true) (hn : n + m ≤ 1099511627776) (hb : base ≤ w.heap.size) :
    ∃ A' c' w', (Builtin.append_ #[t, t] ty #[v, .slice A m c]).run P w = .ok (.slice A' (n + m) c') w' ∧ Appended w base e v (n + m) (xs ++ news) A' c' w' := by
  obtain ⟨i, hi, hz, hsz, hby⟩ := H.info
  have hsm := H.small
  by_cases hm0 : news = []
  · subst hm0
    obtain rfl : m = 0 := by simpa using hm.symm
    obtain ⟨A', c', rfl, _⟩ := own_shape hown
    refine ⟨A', c', w, run_append_zero H hown _ _ _, ?_, World.grownBy.refl _ _, .inl rfl, fun _ _ _ h => h⟩
    simpa using hown
  · obtain ⟨b, off, rfl, hbl, hcell⟩ := hc hm0
    obtain ⟨v', w', hr, h2, h3, _, h5⟩ := run_append_own_at (P := P) w base t ty e i z 1 bytes H.under hi hz hsz hby H.one (by decide) v n xs hown ⟨b, off, none⟩ m c news (by omega)
      (fun j u hu => by rw [Addr.add_lit]; exact hcell j u hu) h1 (by unfold maxLen; omega)
      (calc (n + m) * bytes ≤ (n + m) * 64 := Nat.mul_le_mul_left _ hsm
        _ ≤ 140737488355328 := by omega) hb
    obtain ⟨A', c', rfl, _⟩ := own_shape h2
    exact ⟨A', c', w', hr, h2, h3, h5, fun B W hB hbel => hbel.grown h3 (Nat.le_trans hB hb) fun k hk => by have := (hown.lt k hk).1; omega⟩
theorem wp_app (H : Elem P t e z bytes) {o : Oper} {a : Act} {K : Act → World → Prop} {Q : Exit → Act → World → Prop} {w : World}
    {base : Nat} {v : Value} {n : Nat} {xs : List Value} (hown : w.ownsRow base e 1 v n xs) {A : Option Addr} {m c : Nat} {news : List Value}
    (s x : Operand) (ho : o.op = .call { callee := .builtin .append, args := #[s, x], argTypes := #[t, t] })
    (hs : a.eval s = v) (hx : a.eval x = .slice A m c) (hm : news.length = m) (hc : Cells w A news)
    (h1 : ∀ u ∈ news, u.oneCell' = true) (hn : n + m ≤ 1099511627776) (hb : base ≤ w.heap.size) (N : Nat) (L : List Value) (hN : N = n + m) (hL : L = xs ++ news)
    (h : ∀ A' c' w', Appended w base e v N L A' c' w' → K (a.put o.dst (.slice A' N c')) w') : o.wp P a w K Q := by
  subst hN
  subst hL
  obtain ⟨A', c', w', hr, hA⟩ := run_app H hown o.type (c := c) hm hc h1 hn hb
  unfold Oper.wp execOp
  simp only [ho, resolve, invoke, builtin, Sem.run_bind, Sem.run_pure, Result.andThen_ok, List.map_toArray, List.map_cons, List.map_nil, hs, hx, hr]
  exact h A' c' w' hA
/-- 'append(v, news...)' onto a slice of the call's own (or nil), the news lying anywhere. -/
theorem wpList_app (H : Elem P t e z bytes) {ops : Array Oper} {rest : List Oper} {o : Oper} {a : Act} {Q : Exit → Act → World → Prop} {w : World}
    {base : Nat} {v : Value} {n : Nat} {xs : List Value} (hown : w.ownsRow base e 1 v n xs) {A : Option Addr} {m c : Nat} {news : List Value}
    (hgd : o.guard = none) (s x : Operand) (ho : o.op = .call { callee := .builtin .append, args := #[s, x], argTypes := #[t, t] })
    (hs : a.eval s = v) (hx : a.eval x = .slice A m c) (hm : news.length = m) (hc : Cells w A news)
    (h1 : ∀ u ∈ news, u.oneCell' = true) (hn : n + m ≤ 1099511627776) (hb : base ≤ w.heap.size) (N : Nat) (L : List Value) (hN : N = n + m) (hL : L = xs ++ news)
    (h : ∀ A' c' w', Appended w base e v N L A' c' w' → wpList P ops Q rest (a.put o.dst (.slice A' N c')) w') :
    wpList P ops Q (o :: rest) a w :=
  wpList_plain hgd fun K hK => wp_app H hown s x ho hs hx hm hc h1 hn hb N L hN hL fun A' c' w' hA => hK _ _ (h A' c' w' hA)
/-- The same, at a step of a region that draws its order. -/
theorem step_app (H : Elem P t e z bytes) {ops : Array Oper} {o : Oper} {a : Act} {K : Act → World → Prop} {Q : Exit → Act → World → Prop} {E : Prop} {w : World}
    {base : Nat} {v : Value} {n : Nat} {xs : List Value} (hown : w.ownsRow base e 1 v n xs) {A : Option Addr} {m c : Nat} {news : List Value}
    (hgd : o.guard = none) (s x : Operand) (ho : o.op = .call { callee := .builtin .append, args := #[s, x], argTypes := #[t, t] })
    (hs : a.eval s = v) (hx : a.eval x = .slice A m c) (hm : news.length = m) (hc : Cells w A news)
    (h1 : ∀ u ∈ news, u.oneCell' = true) (hn : n + m ≤ 1099511627776) (hb : base ≤ w.heap.size) (N : Nat) (L : List Value) (hN : N = n + m) (hL : L = xs ++ news)
    (h : ∀ A' c' w', Appended w base e v N L A' c' w' → K (a.put o.dst (.slice A' N c')) w') :
    if Region.wanted o (yielded ops a.tmps) = true then Oper.wp P o a w K Q else E := by
  have hw : Region.wanted o (yielded ops a.tmps) = true := by simp [Region.wanted, hgd]
  rw [if_pos hw]
  exact wp_app H hown s x ho hs hx hm hc h1 hn hb N L hN hL h
/-- 'append(v, u)': one element, which lies in a block of its own, laid just before. -/
theorem wpList_push (H : Elem P t e z bytes) {ops : Array Oper} {rest : List Oper} {o : Oper} {a : Act} {Q : Exit → Act → World → Prop} {w : World}
    {base : Nat} {v : Value} {n : Nat} {xs : List Value} (hown : w.ownsRow base e 1 v n xs) (u : Value)
    (hgd : o.guard = none) (s x : Operand) (ho : o.op = .call { callee := .builtin .append, args := #[s, x], argTypes := #[t, t] })
    (hs : a.eval s = v) (hx : a.eval x = .slice (some ⟨w.heap.size, 0, none⟩) 1 1) (hu : u.oneCell' = true) (hn : n ≤ 1000000000000) (hb : base ≤ w.heap.size)
    (h : ∀ A' c' w', w'.ownsRow base e 1 (.slice A' (n + 1) c') (n + 1) (xs ++ [u]) → w.grownBy w' v.ownBlock → (∀ B W, B ≤ base → Below B W w → Below B W w') → wpList P ops Q rest (a.put o.dst (.slice A' (n + 1) c')) w') :
    wpList P ops Q (o :: rest) a (w.alloc (.cells #[u] e)) := by
  refine wpList_app H (hown.alloc _) hgd s x ho hs hx rfl (Cells.lit w #[u] e) (by intro y hy; simp at hy; subst hy; exact hu) (by omega) (by simp; omega) _ _ rfl rfl ?_
  intro A' c' w' h1
  exact h A' c' w' h1.own (grown_alloc h1.grown fun g hg => (hown.lt g hg).2) fun B W hB hbel => h1.below B W hB (hbel.alloc (Nat.le_trans hB hb) _)
/-- 'make([]T, n)': n zero elements in a row of the call's own. -/
theorem wpList_mk (H : Elem P t e z bytes) {ops : Array Oper} {rest : List Oper} {o : Oper} {a : Act} {Q : Exit → Act → World → Prop} {w : World} {kl kc : IntKind} {n : Nat}
    (hgd : o.guard = none) (l c : Operand) (ho : o.op = Op.makeSlice t l c) (hl : a.eval l = .int kl (n : Int)) (hc : a.eval c = .int kc (n : Int)) (hz1 : z.cells = #[z]) (hn : n ≤ 1099511627776)
    (h : ∀ w', w'.ownsRow w.heap.size e 1 (.slice (some ⟨w.heap.size, 0, none⟩) n n) n (List.replicate n z) → w.grownBy w' none → (∀ B W, B ≤ w.heap.size → Below B W w → Below B W w') → wpList P ops Q rest (a.put o.dst (.slice (some ⟨w.heap.size, 0, none⟩) n n)) w') :
    wpList P ops Q (o :: rest) a w := by
  obtain ⟨i, hi, hz, hsz, hby⟩ := H.info
  have hsm := H.small
  refine wpList_make_full w hgd l c t ho w.heap.size e i z 1 H.under hi hz hsz kl kc n n n hl hc rfl rfl ?_ (by unfold maxLen; omega) (Nat.le_refl _) ?_
  · rw [hby]
    calc bytes * n ≤ 64 * n := Nat.mul_le_mul_right _ hsm
      _ ≤ 281474976710656 := by omega
  · intro w' h1 h2
    rw [hz1, Nat.mul_one, toList_madeCells_one] at h1
    exact h w' h1 h2 fun B W hB hbel => hbel.grown h2 hB fun k hk => by cases hk
end

/-! ### Rows of literal lists, laid one behind the other -/
/-- The slice reads as some list of integers. -/
def IntV (w : World) (v : Value) : Prop := ∃ A n c l, v = .slice A n c ∧ l.length = n ∧ n ≤ 1000000 ∧ Cells w A (i64s l)
theorem IntV.below {w w' : World} {v : Value} (h : IntV w v) (hb : Below w.heap.size w w') : IntV w' v := by
  obtain ⟨A, n, c, l, rfl, hl, hn, hc⟩ := h
  exact ⟨A, n, c, l, rfl, hl, hn, hc.below hb⟩
def rowsOf (e : TypeId) (w : World) : List (List Int) → World
  | [] => w
  | l :: ls => rowsOf e (w.alloc (.cells ((l.map (Value.int .i64)).toArray) e)) ls
theorem rowsOf_size (e : TypeId) (ls : List (List Int)) : ∀ w : World, (rowsOf e w ls).heap.size = w.heap.size + ls.length := by
  induction ls with
  | nil => intro w; rfl
  | cons l ls ih => intro w; simp only [rowsOf, ih, List.length_cons, World.size_alloc]; omega
theorem rowsOf_below (e : TypeId) (ls : List (List Int)) : ∀ w : World, Below w.heap.size w (rowsOf e w ls) := by
  induction ls with
  | nil => intro w; exact Below.refl _ _
  | cons l ls ih => intro w; exact nxt (nxt_alloc (Below.refl _ _) _) (ih _)
theorem rowsOf_cells (e : TypeId) (ls : List (List Int)) : ∀ (w : World) (i : Nat) (l : List Int), ls[i]? = some l → Cells (rowsOf e w ls) (some ⟨w.heap.size + i, 0, none⟩) (i64s l) := by
  induction ls with
  | nil => intro w i l h; simp at h
  | cons l ls ih =>
    intro w i m h
    cases i with
    | zero =>
      obtain rfl : l = m := by simpa using h
      have := (Cells.lit w ((l.map (Value.int .i64)).toArray) e).below (rowsOf_below e ls _)
      simpa [i64s, rowsOf] using this
    | succ i =>
      have := ih (w.alloc (.cells ((l.map (Value.int .i64)).toArray) e)) i m (by simpa using h)
      rw [World.size_alloc] at this
      rw [show w.heap.size + (i + 1) = w.heap.size + 1 + i by omega]
      exact this
theorem rowsOf_intV {e : TypeId} {ls : List (List Int)} {w : World} (i : Nat) (l : List Int) (c : Nat) (h : ls[i]? = some l) (hl : l.length ≤ 1000000) : IntV (rowsOf e w ls) (.slice (some ⟨w.heap.size + i, 0, none⟩) l.length c) :=
  ⟨_, _, _, l, rfl, rfl, hl, rowsOf_cells e ls w i l h⟩
theorem intV_nil (w : World) (c : Nat) : IntV w (.slice none 0 c) := ⟨none, 0, c, [], rfl, rfl, Nat.zero_le _, Cells.nil _ _⟩

/-! ### Lists -/
theorem take_succ_of {α : Type} {l : List α} {k : Nat} {x : α} (h : l[k]? = some x) : l.take (k + 1) = l.take k ++ [x] := by
  rw [List.take_add_one, h]; rfl
theorem lt_of_some {α : Type} {l : List α} {k : Nat} {x : α} (h : l[k]? = some x) : k < l.length := (List.getElem?_eq_some_iff.1 h).1
theorem mem_of_some {α : Type} {l : List α} {k : Nat} {x : α} (h : l[k]? = some x) : x ∈ l := List.mem_of_getElem? h
theorem sum_take_of {l : List Int} {k : Nat} {x : Int} (h : l[k]? = some x) : (l.take (k + 1)).sum = (l.take k).sum + x := by
  rw [take_succ_of h, List.sum_append]; simp
theorem all_take_of {α : Type} (p : α → Bool) {l : List α} {k : Nat} {x : α} (h : l[k]? = some x) : (l.take (k + 1)).all p = ((l.take k).all p && p x) := by
  rw [take_succ_of h, List.all_append]; simp
theorem map_take_of {α β : Type} (f : α → β) {l : List α} {k : Nat} {x : α} (h : l[k]? = some x) : (l.take (k + 1)).map f = (l.take k).map f ++ [f x] := by
  rw [take_succ_of h, List.map_append]; rfl
theorem isum_bd {M : Int} (l : List Int) (h : ∀ n ∈ l, 0 ≤ n ∧ n ≤ M) : 0 ≤ l.sum ∧ l.sum ≤ M * l.length := by
  induction l with
  | nil => simp
  | cons a l ih =>
    have h0 := ih (fun n hn => h n (List.mem_cons_of_mem _ hn))
    have h1 := h a List.mem_cons_self
    have : M * ((l.length : Int) + 1) = M * l.length + M := by rw [Int.mul_add, Int.mul_one]
    simp only [List.sum_cons, List.length_cons, Int.natCast_add, Int.natCast_one, this]
    omega
theorem isum_nn (l : List Int) (h : ∀ n ∈ l, 0 ≤ n) : 0 ≤ l.sum := by
  induction l with
  | nil => simp
  | cons a l ih =>
    have h0 := ih (fun n hn => h n (List.mem_cons_of_mem _ hn))
    have h1 := h a List.mem_cons_self
    simp only [List.sum_cons]; omega
end Go.Proofs.YtbfjdhbgpjenbaaDoor
