/-
  Orders and products that come in.
-/
import Derived.Test.YtglcdamdjjbjhaaOrdersP
import Derived.Test.YtglcdamdjjbjhaaArgs
namespace Go.Proofs.Ytglcdamdjjbjhaa
open Go.RowKit Go.ChangeShapes Go.WideShapes Go.Deep
set_option linter.unusedVariables false

theorem flat_inv : ∀ {l : List Ord} {k : Nat} {u : Value}, (flat l)[k]? = some u → ∃ i j x, k = i * 5 + j ∧ l[i]? = some x ∧ x.cells[j]? = some u
  | [], k, u, h => by simp [flat] at h
  | x :: l, k, u, h => by
    have hl : x.cells.length = 5 := rfl
    simp only [flat, List.flatMap_cons] at h
    by_cases hk : k < 5
    · rw [List.getElem?_append_left (by omega)] at h
      exact ⟨0, k, x, by omega, rfl, h⟩
    · rw [List.getElem?_append_right (by omega), hl] at h
      obtain ⟨i, j, y, h1, h2, h3⟩ := flat_inv (l := l) h
      exact ⟨i + 1, j, y, by omega, h2, h3⟩
/-- A slice of orders that came in. -/
structure Orders (w : World) (A : Option Addr) (n c : Nat) : Prop where
  le : n ≤ c
  max : c ≤ maxLen
  row : ∃ l : List Ord, l.length = n ∧ Cells w A (flat l)
theorem of_args_Order {H : Type} {enc : TypeId × Value → H} {base : Nat} {held : Bool} {fs : Array Field} {w : World} {A : Option Addr} {n c : Nat} (h : ArgS enc Try.prog base held fs w A n c) (hfs : Try.prog.underlying 23 = some (.struct fs)) : Orders w A n c := by
  have hu := Try.underlying23
  rw [hu] at hfs
  injection hfs with hfs
  injection hfs with hfs
  subst hfs
  have each : ∀ i, i < n → ∃ (b o : Nat) (x : Ord), A = some ⟨b, o, none⟩ ∧ b < w.heap.size ∧ ∀ j v, x.cells[j]? = some v → w.cell? ⟨b, o + (i * 5 + j), none⟩ = some v := by
    intro i hi
    obtain ⟨b, o, vs, rfl, hb, hlen, hcell, hf⟩ := h.at_ i hi
    obtain ⟨v0, h0, f0⟩ := hf 0 _ rfl
    obtain ⟨v1, h1, f1⟩ := hf 1 _ rfl
    obtain ⟨v2, h2, f2⟩ := hf 2 _ rfl
    obtain ⟨v3, h3, f3⟩ := hf 3 _ rfl
    obtain ⟨v4, h4, f4⟩ := hf 4 _ rfl
    obtain ⟨n0, rfl, w0⟩ := f0.int Try.underlying2
    obtain ⟨n1, rfl, w1⟩ := f1.int Try.underlying3
    obtain ⟨n2, rfl, w2⟩ := f2.int Try.underlying2
    obtain ⟨n3, rfl, w3⟩ := f3.int Try.underlying2
    obtain ⟨b4, rfl⟩ := f4.bool Try.underlying4
    refine ⟨b, o, ⟨n0, n1, n2, n3, b4⟩, rfl, hb, fun j v hj => ?_⟩
    rcases j with _ | _ | _ | _ | _ | j
    · obtain rfl := Option.some.inj hj; exact hcell 0 _ h0
    · obtain rfl := Option.some.inj hj; exact hcell 1 _ h1
    · obtain rfl := Option.some.inj hj; exact hcell 2 _ h2
    · obtain rfl := Option.some.inj hj; exact hcell 3 _ h3
    · obtain rfl := Option.some.inj hj; exact hcell 4 _ h4
    · simp [Ord.cells] at hj
  refine ⟨h.le, h.max, ?_⟩
  rcases Nat.eq_zero_or_pos n with hn | hn
  · subst hn; exact ⟨[], rfl, Cells.nil _ _⟩
  · obtain ⟨b, o, x0, rfl, hb, -⟩ := each 0 hn
    have each' : ∀ i, i < n → ∃ x : Ord, ∀ j v, x.cells[j]? = some v → w.cell? ⟨b, o + (i * 5 + j), none⟩ = some v := by
      intro i hi
      obtain ⟨b', o', x, hA, -, hx⟩ := each i hi
      injection hA with hA
      injection hA with e1 e2
      subst e1; subst e2
      exact ⟨x, hx⟩
    refine ⟨(List.range n).map fun i => if hi : i < n then (each' i hi).choose else x0, by simp, fun _ => ⟨b, o, rfl, hb, fun k u hu => ?_⟩⟩
    obtain ⟨i, j, x, rfl, h1, h2⟩ := flat_inv hu
    rw [List.getElem?_map] at h1
    rcases hr : (List.range n)[i]? with _ | i'
    · rw [hr] at h1; simp at h1
    · have hi' : i' = i ∧ i < n := by
        have := List.getElem?_eq_some_iff.1 hr
        obtain ⟨h3, h4⟩ := this
        simp at h3 h4
        exact ⟨h4.symm, h3⟩
      obtain ⟨rfl, hin⟩ := hi'
      rw [hr] at h1
      simp only [Option.map_some, Option.some.injEq, dif_pos hin] at h1
      subst h1
      exact (each' i' hin).choose_spec j u h2

/-- A product by value. -/
structure ProductV where
  pc : ByteArray
  ma : Option Addr
  mn : Nat
  mc : Nat
  ti : Int
  lo : Int
  hi : Int
  wi : Int
  ru : Int
  top : Int
  le : Int
  pa : Int
  sa : Option Addr
  sn : Nat
  sc : Nat
def ProductV.val (p : ProductV) : Value := .agg #[.string p.pc, .slice p.ma p.mn p.mc, .int .i64 p.ti, .int .i64 p.lo, .int .i64 p.hi, .int .i64 p.wi, .int .i64 p.ru, .int .i64 p.top, .int .i64 p.le, .int .i64 p.pa, .slice p.sa p.sn p.sc]
def ProductV.Ok (p : ProductV) (w : World) : Prop := p.mn ≤ p.mc ∧ p.mc ≤ maxLen
theorem of_agg_Product {H : Type} {enc : TypeId × Value → H} {base : Nat} {held : Bool} {w : World} {fuel : Nat} {cs : Array Value} {x : DataW H × List MemPlace}
    (h : DataW.trod enc Try.prog w base (fun _ => true) held fuel 28 cs.toList = some x) : ∃ p : ProductV, Value.agg cs = p.val ∧ p.Ok w := by
  obtain ⟨hlen, hf⟩ := flds Try.underlying28 (by kernel_rfl) (by kernel_rfl) h
  obtain ⟨v0, h0, f0⟩ := hf 0 _ rfl
  obtain ⟨v1, h1, f1⟩ := hf 1 _ rfl
  obtain ⟨v2, h2, f2⟩ := hf 2 _ rfl
  obtain ⟨v3, h3, f3⟩ := hf 3 _ rfl
  obtain ⟨v4, h4, f4⟩ := hf 4 _ rfl
  obtain ⟨v5, h5, f5⟩ := hf 5 _ rfl
  obtain ⟨v6, h6, f6⟩ := hf 6 _ rfl
  obtain ⟨v7, h7, f7⟩ := hf 7 _ rfl
  obtain ⟨v8, h8, f8⟩ := hf 8 _ rfl
  obtain ⟨v9, h9, f9⟩ := hf 9 _ rfl
  obtain ⟨v10, h10, f10⟩ := hf 10 _ rfl
  obtain ⟨s0, rfl, -⟩ := f0.string Try.underlying9
  obtain ⟨A1, c1, l1, rfl, a1⟩ := f1.ints Try.underlying25 Try.underlying3 (by kernel_rfl)
  obtain ⟨n2, rfl, -⟩ := f2.int Try.underlying2
  obtain ⟨n3, rfl, -⟩ := f3.int Try.underlying2
  obtain ⟨n4, rfl, -⟩ := f4.int Try.underlying2
  obtain ⟨n5, rfl, -⟩ := f5.int Try.underlying2
  obtain ⟨n6, rfl, -⟩ := f6.int Try.underlying3
  obtain ⟨n7, rfl, -⟩ := f7.int Try.underlying2
  obtain ⟨n8, rfl, -⟩ := f8.int Try.underlying2
  obtain ⟨n9, rfl, -⟩ := f9.int Try.underlying2
  obtain ⟨A10, c10, l10, rfl, a10⟩ := f10.ints Try.underlying26 Try.underlying2 (by kernel_rfl)
  refine ⟨⟨s0, A1, l1.length, c1, n2, n3, n4, n5, n6, n7, n8, n9, A10, l10.length, c10⟩, ?_, a1.le, a1.max⟩
  have hlen' : cs.toList.length = 11 := hlen
  have hcs : cs.toList = [.string s0, .slice A1 l1.length c1, .int .i64 n2, .int .i64 n3, .int .i64 n4, .int .i64 n5, .int .i64 n6, .int .i64 n7, .int .i64 n8, .int .i64 n9, .slice A10 l10.length c10] := by
    apply List.ext_getElem?
    intro i
    rcases i with _ | _ | _ | _ | _ | _ | _ | _ | _ | _ | _ | i
    · exact h0
    · exact h1
    · exact h2
    · exact h3
    · exact h4
    · exact h5
    · exact h6
    · exact h7
    · exact h8
    · exact h9
    · exact h10
    · rw [List.getElem?_eq_none (by omega)]; rfl
  obtain ⟨cs⟩ := cs
  simp only at hcs
  subst hcs
  rfl
end Go.Proofs.Ytglcdamdjjbjhaa
