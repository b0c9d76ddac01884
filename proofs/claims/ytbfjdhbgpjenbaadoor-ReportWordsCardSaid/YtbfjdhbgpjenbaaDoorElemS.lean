/-
  Rows of elements of several cells: append onto a slice of the call's own. No program in sight.
-/
import Derived.Test.YtbfjdhbgpjenbaaDoorBase
namespace Go.Proofs.YtbfjdhbgpjenbaaDoor
set_option linter.unusedSimpArgs false
open Go.RowKit
set_option linter.unusedVariables false

/-- What the tables say of a slice type whose elements have several cells. -/
structure ElemS (P : Program) (t e : TypeId) (z : Value) (size bytes : Nat) : Prop where
  under : P.underlying t = some (.slice e)
  info : ∃ i, P.info? e = some i ∧ i.zero = some z ∧ i.size = size ∧ i.bytes = bytes
  many : z.cells.size = size
  pos : 0 < size
  small : bytes ≤ 4096
theorem CellsS.of_own {w : World} {base : Nat} {e : TypeId} {size : Nat} {A : Option Addr} {n c : Nat} {xs : List Value} (h : w.ownsRow base e size (.slice A n c) n xs) : Cells w A xs := fun hn => by
  have hl := h.1
  have hpos : 0 < n := by
    rcases Nat.eq_zero_or_pos n with h0 | h0
    · subst h0; exact absurd (List.eq_nil_of_length_eq_zero (by simpa using hl)) hn
    · exact h0
  rcases h.2 with ⟨_, h0⟩ | ⟨g, cap, cur, hv, _, hg, _, _, hcs, hx⟩
  · omega
  · injection hv with hA _ _
    subst hA
    refine ⟨g, 0, rfl, (h.lt g rfl).2, fun k u hu => ?_⟩
    rw [← hx] at hu
    have hk : k < n * size := by
      have := (List.getElem?_eq_some_iff.1 hu).1
      rw [List.length_take] at this
      omega
    rw [List.getElem?_take_of_lt hk] at hu
    rw [Nat.zero_add]
    simp [World.cell?, hg]
    simpa using hu
section
variable {P : Program} {t e : TypeId} {z : Value} {size bytes : Nat}
/-- What 'append' onto a slice of the call's own (or nil) leaves. -/
structure AppendedS (w : World) (base : Nat) (e : TypeId) (size : Nat) (v : Value) (n : Nat) (xs : List Value) (A' : Option Addr) (c' : Nat) (w' : World) : Prop where
  own : w'.ownsRow base e size (.slice A' n c') n xs
  grown : w.grownBy w' v.ownBlock
  lies : (Value.slice A' n c').ownBlock = v.ownBlock ∨ (Value.slice A' n c').ownBlock = some w.heap.size
  below : ∀ B W, B ≤ base → Below B W w → Below B W w'
theorem run_appS (H : ElemS P t e z size bytes) {w : World} {base : Nat} {v : Value} {n : Nat} {xs : List Value} (hown : w.ownsRow base e size v n xs) (ty : TypeId) {A : Option Addr} {m c : Nat} {news : List Value}
    (hm : news.length = m * size) (hm0 : news ≠ []) (hc : Cells w A news) (h1 : ∀ u ∈ news, u.oneCell' = true) (hn : n + m ≤ 34359738368) (hb : base ≤ w.heap.size) :
    ∃ A' c' w', (Builtin.append_ #[t, t] ty #[v, .slice A m c]).run P w = .ok (.slice A' (n + m) c') w' ∧ AppendedS w base e size v (n + m) (xs ++ news) A' c' w' := by
  obtain ⟨i, hi, hz, hsz, hby⟩ := H.info
  have hsm := H.small
  obtain ⟨b, off, rfl, hbl, hcell⟩ := hc hm0
  obtain ⟨v', w', hr, h2, h3, _, h5⟩ := run_append_own_at (P := P) w base t ty e i z size bytes H.under hi hz hsz hby H.many H.pos v n xs hown ⟨b, off, none⟩ m c news hm
    (fun j u hu => by rw [Addr.add_lit]; exact hcell j u hu) h1 (by unfold maxLen; omega)
    (calc (n + m) * bytes ≤ (n + m) * 4096 := Nat.mul_le_mul_left _ hsm
      _ ≤ 140737488355328 := by omega) hb
  obtain ⟨A', c', rfl, _⟩ := own_shape h2
  exact ⟨A', c', w', hr, h2, h3, h5, fun B W hB hbel => hbel.grown h3 (Nat.le_trans hB hb) fun k hk => by have := (hown.lt k hk).1; omega⟩
theorem wp_appS (H : ElemS P t e z size bytes) {o : Oper} {a : Act} {K : Act → World → Prop} {Q : Exit → Act → World → Prop} {w : World}
    {base : Nat} {v : Value} {n : Nat} {xs : List Value} (hown : w.ownsRow base e size v n xs) {A : Option Addr} {m c : Nat} {news : List Value}
    (s x : Operand) (ho : o.op = .call { callee := .builtin .append, args := #[s, x], argTypes := #[t, t] })
    (hs : a.eval s = v) (hx : a.eval x = .slice A m c) (hm : news.length = m * size) (hm0 : news ≠ []) (hc : Cells w A news)
    (h1 : ∀ u ∈ news, u.oneCell' = true) (hn : n + m ≤ 34359738368) (hb : base ≤ w.heap.size) (N : Nat) (L : List Value) (hN : N = n + m) (hL : L = xs ++ news)
    (h : ∀ A' c' w', AppendedS w base e size v N L A' c' w' → K (a.put o.dst (.slice A' N c')) w') : o.wp P a w K Q := by
  subst hN
  subst hL
  obtain ⟨A', c', w', hr, hA⟩ := run_appS H hown o.type (c := c) hm hm0 hc h1 hn hb
  unfold Oper.wp execOp
  simp only [ho, resolve, invoke, builtin, Sem.run_bind, Sem.run_pure, Result.andThen_ok, List.map_toArray, List.map_cons, List.map_nil, hs, hx, hr]
  exact h A' c' w' hA
/-- 'append(v, news...)' onto a slice of the call's own (or nil), the news lying anywhere. -/
theorem wpList_appS (H : ElemS P t e z size bytes) {ops : Array Oper} {rest : List Oper} {o : Oper} {a : Act} {Q : Exit → Act → World → Prop} {w : World}
    {base : Nat} {v : Value} {n : Nat} {xs : List Value} (hown : w.ownsRow base e size v n xs) {A : Option Addr} {m c : Nat} {news : List Value}
    (hgd : o.guard = none) (s x : Operand) (ho : o.op = .call { callee := .builtin .append, args := #[s, x], argTypes := #[t, t] })
    (hs : a.eval s = v) (hx : a.eval x = .slice A m c) (hm : news.length = m * size) (hm0 : news ≠ []) (hc : Cells w A news)
    (h1 : ∀ u ∈ news, u.oneCell' = true) (hn : n + m ≤ 34359738368) (hb : base ≤ w.heap.size) (N : Nat) (L : List Value) (hN : N = n + m) (hL : L = xs ++ news)
    (h : ∀ A' c' w', AppendedS w base e size v N L A' c' w' → wpList P ops Q rest (a.put o.dst (.slice A' N c')) w') :
    wpList P ops Q (o :: rest) a w :=
  wpList_plain hgd fun K hK => wp_appS H hown s x ho hs hx hm hm0 hc h1 hn hb N L hN hL fun A' c' w' hA => hK _ _ (h A' c' w' hA)
/-- 'append(v, u)': one element, which lies in a block of its own, laid just before. -/
theorem wpList_pushS (H : ElemS P t e z size bytes) {ops : Array Oper} {rest : List Oper} {o : Oper} {a : Act} {Q : Exit → Act → World → Prop} {w : World}
    {base : Nat} {v : Value} {n : Nat} {xs : List Value} (hown : w.ownsRow base e size v n xs) (us : Array Value)
    (hgd : o.guard = none) (s x : Operand) (ho : o.op = .call { callee := .builtin .append, args := #[s, x], argTypes := #[t, t] })
    (hs : a.eval s = v) (hx : a.eval x = .slice (some ⟨w.heap.size, 0, none⟩) 1 1) (hus : us.toList.length = 1 * size) (hu : ∀ u ∈ us.toList, u.oneCell' = true) (hn : n ≤ 10000000000) (hb : base ≤ w.heap.size)
    (h : ∀ A' c' w', w'.ownsRow base e size (.slice A' (n + 1) c') (n + 1) (xs ++ us.toList) → w.grownBy w' v.ownBlock → (∀ B W, B ≤ base → Below B W w → Below B W w') → ((Value.slice A' (n + 1) c').ownBlock = v.ownBlock ∨ (Value.slice A' (n + 1) c').ownBlock = some (w.heap.size + 1)) →
      wpList P ops Q rest (a.put o.dst (.slice A' (n + 1) c')) w') :
    wpList P ops Q (o :: rest) a (w.alloc (.cells us e)) := by
  have hp := H.pos
  refine wpList_appS H (hown.alloc _) hgd s x ho hs hx hus (by intro h0; rw [h0] at hus; simp at hus; omega) (Cells.lit w us e) hu (by omega) (by simp; omega) _ _ rfl rfl ?_
  intro A' c' w' h1
  exact h A' c' w' h1.own (grown_alloc h1.grown fun g hg => (hown.lt g hg).2) (fun B W hB hbel => h1.below B W hB (hbel.alloc (Nat.le_trans hB hb) _)) (by rcases h1.lies with h2 | h2; exact .inl h2; exact .inr (by rw [h2]; simp))
end
end Go.Proofs.YtbfjdhbgpjenbaaDoor
