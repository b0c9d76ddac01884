/-
  Reports that come in; the row's premise on the table of powers of ten.
-/
import Derived.Test.YtbfjdhbgpjenbaaDoorRepA
import Derived.Test.YtbfjdhbgpjenbaaDoorText8
import Derived.Test.YtbfjdhbgpjenbaaDoorArgs
import Derived.Test.YtbfjdhbgpjenbaaDoorWithin
import Derived.Lib.LaidTab
import Derived.Lib.LaidU8
import Derived.ProofKit
import Derived.LaidMore
import Derived.Stop.Joined
namespace Go.Proofs.YtbfjdhbgpjenbaaDoor
set_option linter.unusedSimpArgs false
open Go.RowKit Go.ChangeShapes Go.WideShapes Go.Deep
set_option linter.unusedVariables false

abbrev ReportV := Rep
def Rep.Ok (r : Rep) (w : World) : Prop := r.wf
theorem inI_of {n : Int} (h : (Lit.int .i64 n).wf = true) : inI n := i64_bd h
theorem of_agg_Report {H : Type} {enc : TypeId × Value → H} {base : Nat} {held : Bool} {w : World} {fuel : Nat} {cs : Array Value} {x : DataW H × List MemPlace}
    (h : DataW.trod enc Tryd.prog w base (fun _ => true) held fuel 24 cs.toList = some x) : ∃ p : ReportV, Value.agg cs = p.val ∧ p.Ok w := by
  obtain ⟨hlen, hf⟩ := flds Tryd.underlying24 (by kernel_rfl) (by kernel_rfl) h
  obtain ⟨v0, h0, f0⟩ := hf 0 _ rfl
  obtain ⟨v1, h1, f1⟩ := hf 1 _ rfl
  obtain ⟨v2, h2, f2⟩ := hf 2 _ rfl
  obtain ⟨v3, h3, f3⟩ := hf 3 _ rfl
  obtain ⟨v4, h4, f4⟩ := hf 4 _ rfl
  obtain ⟨v5, h5, f5⟩ := hf 5 _ rfl
  obtain ⟨v6, h6, f6⟩ := hf 6 _ rfl
  obtain ⟨v7, h7, f7⟩ := hf 7 _ rfl
  obtain ⟨n0, rfl, w0⟩ := f0.int Tryd.underlying3
  obtain ⟨n1, rfl, w1⟩ := f1.int Tryd.underlying2
  obtain ⟨n2, rfl, w2⟩ := f2.int Tryd.underlying3
  obtain ⟨n3, rfl, w3⟩ := f3.int Tryd.underlying3
  obtain ⟨n4, rfl, w4⟩ := f4.int Tryd.underlying2
  obtain ⟨n5, rfl, w5⟩ := f5.int Tryd.underlying2
  obtain ⟨n6, rfl, w6⟩ := f6.int Tryd.underlying2
  obtain ⟨n7, rfl, w7⟩ := f7.int Tryd.underlying22
  refine ⟨⟨n0, n1, n2, n3, n4, n5, n6, n7⟩, ?_, ⟨inI_of w0, inI_of w1, inI_of w2, inI_of w3, inI_of w4, inI_of w5, inI_of w6, inI_of w7⟩⟩
  have hcs : cs.toList = [.int .i64 n0, .int .i64 n1, .int .i64 n2, .int .i64 n3, .int .i64 n4, .int .i64 n5, .int .i64 n6, .int .i64 n7] := by
    apply List.ext_getElem?
    intro i
    rcases i with _ | _ | _ | _ | _ | _ | _ | _ | i
    · exact h0
    · exact h1
    · exact h2
    · exact h3
    · exact h4
    · exact h5
    · exact h6
    · exact h7
    · rw [List.getElem?_eq_none (by have : cs.toList.length = 8 := hlen; omega)]; rfl
  obtain ⟨cs⟩ := cs
  simp only at hcs
  subst hcs
  rfl
theorem repsV_inv : ∀ {l : List Rep} {k : Nat} {u : Value}, (repsV l)[k]? = some u → ∃ i j x, k = i * 8 + j ∧ l[i]? = some x ∧ x.cells.toList[j]? = some u
  | [], k, u, h => by simp [repsV] at h
  | x :: l, k, u, h => by
    rw [repsV_cons] at h
    by_cases hk : k < 8
    · rw [List.getElem?_append_left (by rw [length_cellsR]; omega)] at h
      exact ⟨0, k, x, by omega, rfl, h⟩
    · rw [List.getElem?_append_right (by rw [length_cellsR]; omega), length_cellsR] at h
      obtain ⟨i, j, y, h1, h2, h3⟩ := repsV_inv (l := l) h
      exact ⟨i + 1, j, y, by omega, h2, h3⟩
/-- A slice of reports that came in. -/
structure Reports (w : World) (A : Option Addr) (n c : Nat) : Prop where
  le : n ≤ c
  max : c ≤ maxLen
  row : ∃ l : List Rep, l.length = n ∧ Cells w A (repsV l) ∧ wfAll l
theorem of_args_Report {H : Type} {enc : TypeId × Value → H} {base : Nat} {held : Bool} {fs : Array Field} {w : World} {A : Option Addr} {n c : Nat} (h : ArgS enc Tryd.prog base held fs w A n c) (hfs : Tryd.prog.underlying 24 = some (.struct fs)) : Reports w A n c := by
  have hu := Tryd.underlying24
  rw [hu] at hfs
  injection hfs with hfs
  injection hfs with hfs
  subst hfs
  have each : ∀ i, i < n → ∃ (b o : Nat) (x : Rep), A = some ⟨b, o, none⟩ ∧ b < w.heap.size ∧ x.wf ∧ ∀ j v, x.cells.toList[j]? = some v → w.cell? ⟨b, o + (i * 8 + j), none⟩ = some v := by
    intro i hi
    obtain ⟨b, o, vs, rfl, hb, hlen, hcell, hf⟩ := h.at_ i hi
    obtain ⟨v0, h0, f0⟩ := hf 0 _ rfl
    obtain ⟨v1, h1, f1⟩ := hf 1 _ rfl
    obtain ⟨v2, h2, f2⟩ := hf 2 _ rfl
    obtain ⟨v3, h3, f3⟩ := hf 3 _ rfl
    obtain ⟨v4, h4, f4⟩ := hf 4 _ rfl
    obtain ⟨v5, h5, f5⟩ := hf 5 _ rfl
    obtain ⟨v6, h6, f6⟩ := hf 6 _ rfl
    obtain ⟨v7, h7, f7⟩ := hf 7 _ rfl
    obtain ⟨n0, rfl, w0⟩ := f0.int Tryd.underlying3
    obtain ⟨n1, rfl, w1⟩ := f1.int Tryd.underlying2
    obtain ⟨n2, rfl, w2⟩ := f2.int Tryd.underlying3
    obtain ⟨n3, rfl, w3⟩ := f3.int Tryd.underlying3
    obtain ⟨n4, rfl, w4⟩ := f4.int Tryd.underlying2
    obtain ⟨n5, rfl, w5⟩ := f5.int Tryd.underlying2
    obtain ⟨n6, rfl, w6⟩ := f6.int Tryd.underlying2
    obtain ⟨n7, rfl, w7⟩ := f7.int Tryd.underlying22
    refine ⟨b, o, ⟨n0, n1, n2, n3, n4, n5, n6, n7⟩, rfl, hb, ⟨inI_of w0, inI_of w1, inI_of w2, inI_of w3, inI_of w4, inI_of w5, inI_of w6, inI_of w7⟩, fun j v hj => ?_⟩
    rcases j with _ | _ | _ | _ | _ | _ | _ | _ | j
    · obtain rfl := Option.some.inj hj; exact hcell 0 _ h0
    · obtain rfl := Option.some.inj hj; exact hcell 1 _ h1
    · obtain rfl := Option.some.inj hj; exact hcell 2 _ h2
    · obtain rfl := Option.some.inj hj; exact hcell 3 _ h3
    · obtain rfl := Option.some.inj hj; exact hcell 4 _ h4
    · obtain rfl := Option.some.inj hj; exact hcell 5 _ h5
    · obtain rfl := Option.some.inj hj; exact hcell 6 _ h6
    · obtain rfl := Option.some.inj hj; exact hcell 7 _ h7
    · simp [Rep.cells] at hj
  refine ⟨h.le, h.max, ?_⟩
  rcases Nat.eq_zero_or_pos n with hn | hn
  · subst hn; exact ⟨[], rfl, Cells.nil _ _, fun r hr => by cases hr⟩
  · obtain ⟨b, o, x0, rfl, hb, -⟩ := each 0 hn
    have each' : ∀ i, i < n → ∃ x : Rep, x.wf ∧ ∀ j v, x.cells.toList[j]? = some v → w.cell? ⟨b, o + (i * 8 + j), none⟩ = some v := by
      intro i hi
      obtain ⟨b', o', x, hA, -, hw, hx⟩ := each i hi
      injection hA with hA
      injection hA with h1 h2
      subst h1; subst h2
      exact ⟨x, hw, hx⟩
    have build : ∀ m, m ≤ n → ∃ l : List Rep, l.length = m ∧ wfAll l ∧ ∀ i x, l[i]? = some x → ∀ j v, x.cells.toList[j]? = some v → w.cell? ⟨b, o + (i * 8 + j), none⟩ = some v := by
      intro m
      induction m with
      | zero => intro _; exact ⟨[], rfl, (fun r hr => by cases hr), (fun i x hx => by simp at hx)⟩
      | succ m ih =>
        intro hm
        obtain ⟨l, h1, h2, h3⟩ := ih (by omega)
        obtain ⟨x, hw, hx⟩ := each' m (by omega)
        refine ⟨l ++ [x], by simp [h1], fun r hr => ?_, fun i y hy j v hj => ?_⟩
        · rcases List.mem_append.1 hr with hr | hr
          · exact h2 r hr
          · obtain rfl := List.mem_singleton.1 hr; exact hw
        · by_cases hi : i < l.length
          · rw [List.getElem?_append_left hi] at hy
            exact h3 i y hy j v hj
          · have hlt := lt_of_some hy
            rw [List.length_append, List.length_singleton] at hlt
            have hi2 : i = m := by omega
            subst hi2
            rw [List.getElem?_append_right (by omega), h1, Nat.sub_self] at hy
            obtain rfl := Option.some.inj hy
            exact hx j v hj
    obtain ⟨l, h1, h2, h3⟩ := build n (Nat.le_refl _)
    refine ⟨l, h1, fun hne => ⟨b, o, rfl, hb, fun k u hu => ?_⟩, h2⟩
    obtain ⟨i, j, x, rfl, hx, hj⟩ := repsV_inv hu
    exact h3 i x hx j u hj
/-- No more than so many. -/
theorem take_repsV (l : List Rep) (m : Nat) : repsV (l.take m) = (repsV l).take (m * 8) := by
  induction l generalizing m with
  | nil => simp [repsV]
  | cons x l ih =>
    cases m with
    | zero => simp [repsV]
    | succ m =>
      rw [List.take_succ_cons, repsV_cons, repsV_cons, ih, show (m + 1) * 8 = x.cells.toList.length + m * 8 by rw [length_cellsR]; omega, List.take_length_add_append]
theorem Cells.takeV {w : World} {A : Option Addr} {xs : List Value} (h : Cells w A xs) (n : Nat) : Cells w A (xs.take n) := fun hn => by
  obtain ⟨b, o, rfl, hb, hc⟩ := h (by rintro rfl; simp at hn)
  refine ⟨b, o, rfl, hb, fun k u hu => hc k u ?_⟩
  rw [List.getElem?_take] at hu
  split at hu
  · exact hu
  · cases hu
theorem Cells.takeR {w : World} {A : Option Addr} {l : List Rep} (h : Cells w A (repsV l)) (m : Nat) : Cells w A (repsV (l.take m)) := by rw [take_repsV]; exact h.takeV _
theorem wfAll.take {l : List Rep} (h : wfAll l) (m : Nat) : wfAll (l.take m) := fun r hr => h r (List.mem_of_mem_take hr)
theorem powtab_row {l : List (String × DataW Unit)} (h1 : ("internal/strconv.uint64pow10", Lib.tabData .u64 Lib.pow10Tab) ∈ l) (hp : ∀ W, laidMetH Tryd.prog l W = laidMet Tryd.prog l W) {W : World} (h : laidMetH Tryd.prog l W) : PowTab W := by
  rw [hp] at h
  obtain ⟨g, t, cs, fuel, p, hg, ht, hvar, hd⟩ := Lib.laidMet.reads h h1
  obtain rfl := Option.some.inj ((show Tryd.prog.globalNamed "internal/strconv.uint64pow10" = some 0 by kernel_rfl).symm.trans hg)
  obtain rfl := Option.some.inj ((show (Tryd.prog.globals[0]?).map (·.type) = some 97 by kernel_rfl).symm.trans ht)
  unfold PowTab Lib.TabIs
  rw [hvar, ← Lib.cells_of_tab Tryd.underlying97 Tryd.underlying28 (by kernel_rfl) (by kernel_rfl) hd]
theorem powtab_eq : (Rows.laid_internal_strconv_uint64pow10 : DataW Unit) = Lib.tabData .u64 Lib.pow10Tab := by kernel_rfl
end Go.Proofs.YtbfjdhbgpjenbaaDoor
