/-
  An append of bytes within reach; slices.Clone and NewReader of as many.
-/
import Derived.Test.YtbfjdhbgpjenbaaDoorReader
namespace Go.Proofs.YtbfjdhbgpjenbaaDoor
set_option linter.unusedSimpArgs false
open Go.RowKit
set_option linter.unusedVariables false

theorem run_appB {P : Program} {t e : TypeId} {z : Value} (H : Elem P t e z 1) {w : World} {base : Nat} {v : Value} {n : Nat} {xs : List Value} (hown : w.ownsRow base e 1 v n xs) (ty : TypeId) {A : Option Addr} {m c : Nat} {news : List Value}
    (hm : news.length = m) (hc : Cells w A news) (h1 : ∀ u ∈ news, u.oneCell' = true) (hn : n + m ≤ 140737488355328) (hb : base ≤ w.heap.size) :
    ∃ A' c' w', (Builtin.append_ #[t, t] ty #[v, .slice A m c]).run P w = .ok (.slice A' (n + m) c') w' ∧ Appended w base e v (n + m) (xs ++ news) A' c' w' := by
  obtain ⟨i, hi, hz, hsz, hby⟩ := H.info
  by_cases hm0 : news = []
  · subst hm0
    obtain rfl : m = 0 := by simpa using hm.symm
    obtain ⟨A', c', rfl, _⟩ := own_shape hown
    refine ⟨A', c', w, run_append_zero H hown _ _ _, ?_, World.grownBy.refl _ _, .inl rfl, fun _ _ _ h => h⟩
    simpa using hown
  · obtain ⟨b, off, rfl, hbl, hcell⟩ := hc hm0
    obtain ⟨v', w', hr, h2, h3, _, h5⟩ := run_append_own_at (P := P) w base t ty e i z 1 1 H.under hi hz hsz hby H.one (by decide) v n xs hown ⟨b, off, none⟩ m c news (by omega)
      (fun j u hu => by rw [Addr.add_lit]; exact hcell j u hu) h1 (by unfold maxLen; omega) (by omega) hb
    obtain ⟨A', c', rfl, _⟩ := own_shape h2
    exact ⟨A', c', w', hr, h2, h3, h5, fun B W hB hbel => hbel.grown h3 (Nat.le_trans hB hb) fun k hk => by have := (hown.lt k hk).1; omega⟩
theorem wpList_appB {P : Program} {t e : TypeId} {z : Value} (H : Elem P t e z 1) {ops : Array Oper} {rest : List Oper} {o : Oper} {a : Act} {Q : Exit → Act → World → Prop} {w : World}
    {base : Nat} {v : Value} {n : Nat} {xs : List Value} (hown : w.ownsRow base e 1 v n xs) {A : Option Addr} {m c : Nat} {news : List Value}
    (hgd : o.guard = none) (s x : Operand) (ho : o.op = .call { callee := .builtin .append, args := #[s, x], argTypes := #[t, t] })
    (hs : a.eval s = v) (hx : a.eval x = .slice A m c) (hm : news.length = m) (hc : Cells w A news)
    (h1 : ∀ u ∈ news, u.oneCell' = true) (hn : n + m ≤ 140737488355328) (hb : base ≤ w.heap.size) (N : Nat) (L : List Value) (hN : N = n + m) (hL : L = xs ++ news)
    (h : ∀ A' c' w', Appended w base e v N L A' c' w' → wpList P ops Q rest (a.put o.dst (.slice A' N c')) w') :
    wpList P ops Q (o :: rest) a w := by
  refine wpList_plain hgd fun K hK => ?_
  subst hN
  subst hL
  obtain ⟨A', c', w', hr, hA⟩ := run_appB H hown o.type (c := c) hm hc h1 hn hb
  unfold Oper.wp execOp
  simp only [ho, resolve, invoke, builtin, Sem.run_bind, Sem.run_pure, Result.andThen_ok, List.map_toArray, List.map_cons, List.map_nil, hs, hx, hr]
  exact hK _ _ (h A' c' w' hA)
theorem clone_big (A : Option Addr) (n c : Nat) (l : List UInt8) (w : World) (hn : l.length = n) (hl : n ≤ 140737488355328) (hA : Cells w A (u8s l)) :
    Calls Tryd.prog 45 #[.slice A n c] w (FreshB w l) := by
  subst hn
  rcases A with _ | a
  · have hl0 : l = [] := by
      rcases l with _ | ⟨x, l⟩
      · rfl
      · obtain ⟨b, o, h, _⟩ := hA (by simp [u8s])
        cases h
    subst hl0
    have hnil := Lib.run_eql_slice_nil (P := Tryd.prog) w 32 5 none 0 c 0 0 Tryd.underlying32
    go_enter Tryd.func45, Tryd.ntmps45
    go_wp2
    go_ret
    exact Fresh.nil _ _ _
  · have hnil := Lib.run_eql_slice_nil (P := Tryd.prog) w 32 5 (some a) l.length c 0 0 Tryd.underlying32
    go_enter Tryd.func45, Tryd.ntmps45
    go_wp2_with (at_builtin; refine wpList_appB elU8 (World.ownsRow_lit (base := w.heap.size) w #[] 0 (Nat.le_refl _) (Nat.zero_le _) rfl) (news := u8s l) rfl _ _ rfl rfl rfl (length_u8s l) (hA.alloc _) (u8s_one l) (by omega) (by simp) l.length (u8s l) (by omega) (by simp) ?_; intro A4 c4 w4 p4)
    go_ret
    exact Fresh.mk rfl p4.own (p4.below _ _ (Nat.le_refl _) ((Below.refl _ _).alloc (Nat.le_refl _) _))

theorem newReader_big (A : Option Addr) (n c : Nat) (l : List UInt8) (w : World) (hn : l.length = n) (hl : n ≤ 140737488355328) (hA : Cells w A (u8s l)) :
    Calls Tryd.prog 35 #[.slice A n c] w fun e w' => ∃ d, e = .returned (.pointer (some ⟨d, 0, none⟩)) ∧ w.heap.size ≤ d ∧ ReaderAt w' d ⟨l, false⟩ ∧ Below w.heap.size w w' := by
  subst hn
  go_enter Tryd.func35, Tryd.ntmps35
  go_wp2_with fail
  refine (clone_big A _ c l _ rfl hl hA).mono ?_
  rintro e w1 ⟨A1, c1, rfl, own, hA1, h1, h2, hb⟩
  go_wp2_with fail
  go_ret
  refine ⟨_, rfl, hb.size, ⟨⟨A1, c1, heap_alloc_new _ _, hA1.alloc _, ?_, h1, by unfold maxLen at h2; omega⟩⟩, hb.alloc hb.size _⟩
  rintro ⟨b, o, sp⟩ hA'
  have h3 := own.lt b (by rw [hA']; rfl)
  show b < _
  omega
end Go.Proofs.YtbfjdhbgpjenbaaDoor
