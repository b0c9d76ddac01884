/-
  Commands that come in; what the laws of chapter 6 share.
-/
import Derived.Test.YtjahndamfhfjcaaKnown6
import Derived.Test.YtjahndamfhfjcaaArgs
import Derived.Test.YtjahndamfhfjcaaWithin
namespace Go.Proofs.Ytjahndamfhfjcaa
open Go.RowKit Go.ChangeShapes Go.WideShapes Go.Deep
set_option linter.unusedVariables false

abbrev CommandV := Cmd
def Cmd.Ok (c : Cmd) (w : World) : Prop := c.wf
theorem inI_of {n : Int} (h : (Lit.int .i64 n).wf = true) : inI n := i64_bd h
theorem of_agg_Command {H : Type} {enc : TypeId × Value → H} {base : Nat} {held : Bool} {w : World} {fuel : Nat} {cs : Array Value} {x : DataW H × List MemPlace}
    (h : DataW.trod enc Try.prog w base (fun _ => true) held fuel 23 cs.toList = some x) : ∃ p : CommandV, Value.agg cs = p.val ∧ p.Ok w := by
  obtain ⟨hlen, hf⟩ := flds Try.underlying23 (by kernel_rfl) (by kernel_rfl) h
  obtain ⟨v0, h0, f0⟩ := hf 0 _ rfl
  obtain ⟨v1, h1, f1⟩ := hf 1 _ rfl
  obtain ⟨v2, h2, f2⟩ := hf 2 _ rfl
  obtain ⟨v3, h3, f3⟩ := hf 3 _ rfl
  obtain ⟨v4, h4, f4⟩ := hf 4 _ rfl
  obtain ⟨v5, h5, f5⟩ := hf 5 _ rfl
  obtain ⟨v6, h6, f6⟩ := hf 6 _ rfl
  obtain ⟨v7, h7, f7⟩ := hf 7 _ rfl
  obtain ⟨v8, h8, f8⟩ := hf 8 _ rfl
  obtain ⟨n0, rfl, w0⟩ := f0.int Try.underlying3
  obtain ⟨n1, rfl, w1⟩ := f1.int Try.underlying2
  obtain ⟨n2, rfl, w2⟩ := f2.int Try.underlying3
  obtain ⟨n3, rfl, w3⟩ := f3.int Try.underlying3
  obtain ⟨n4, rfl, w4⟩ := f4.int Try.underlying2
  obtain ⟨n5, rfl, w5⟩ := f5.int Try.underlying2
  obtain ⟨n6, rfl, w6⟩ := f6.int Try.underlying2
  obtain ⟨n7, rfl, w7⟩ := f7.int Try.underlying3
  obtain ⟨s8, rfl, hs8⟩ := f8.string Try.underlying9
  refine ⟨⟨n0, n1, n2, n3, n4, n5, n6, n7, s8.data.toList⟩, ?_, ⟨inI_of w0, inI_of w1, inI_of w2, inI_of w3, inI_of w4, inI_of w5, inI_of w6, inI_of w7, hs8⟩⟩
  have hcs : cs.toList = [.int .i64 n0, .int .i64 n1, .int .i64 n2, .int .i64 n3, .int .i64 n4, .int .i64 n5, .int .i64 n6, .int .i64 n7, .string (str s8.data.toList)] := by
    rw [str_self]
    apply List.ext_getElem?
    intro i
    rcases i with _ | _ | _ | _ | _ | _ | _ | _ | _ | i
    · exact h0
    · exact h1
    · exact h2
    · exact h3
    · exact h4
    · exact h5
    · exact h6
    · exact h7
    · exact h8
    · rw [List.getElem?_eq_none (by have : cs.toList.length = 9 := hlen; omega)]; rfl
  obtain ⟨cs⟩ := cs
  simp only at hcs
  subst hcs
  rfl
theorem wp_at {P : Program} {s : Code} {Q : Exit → Act → World → Prop} {a : Act} {w w' : World} (h : w' = w) (k : s.wp P Q a w') : s.wp P Q a w := h ▸ k
theorem CAt.leaves {w w' : World} {g d : Nat} {c : Cmd} (h : CAt w g c) (L : Leaves d none w w') (hne : g ≠ d) : CAt w' g c := h.block (L.block g h.lt hne (by simp))
theorem below_fill {w0 w : World} {g : Nat} {c c' : Cmd} (hb : Below w0.heap.size w0 w) (h : CAt w g c) (hg : w0.heap.size ≤ g) : Below w0.heap.size w0 (fillC w g c') := Leaves.below0 hb (fill_at h c').2 hg
end Go.Proofs.Ytjahndamfhfjcaa
