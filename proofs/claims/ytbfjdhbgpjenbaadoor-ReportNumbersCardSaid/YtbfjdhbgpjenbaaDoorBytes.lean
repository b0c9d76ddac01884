/-
  Bytes in memory and strings: no program in sight.
-/
import Derived.Test.YtbfjdhbgpjenbaaDoorBase
import Derived.Laws.BytesArg
import Derived.Lib.SlBytesConst
namespace Go.Proofs.YtbfjdhbgpjenbaaDoor
set_option linter.unusedSimpArgs false
open Go.RowKit
set_option linter.unusedVariables false

def u8s (l : List UInt8) : List Value := l.map fun c => .int .u8 (c.toNat : Int)
theorem length_u8s (l : List UInt8) : (u8s l).length = l.length := by simp [u8s]
theorem u8s_one (l : List UInt8) : ∀ u ∈ u8s l, u.oneCell' = true := by
  intro u hu
  simp only [u8s, List.mem_map] at hu
  obtain ⟨c, _, rfl⟩ := hu
  rfl
/-- A text out of bytes. -/
def str (l : List UInt8) : ByteArray := ⟨l.toArray⟩
theorem str_toList (l : List UInt8) : (str l).toList = l := ByteArray.toList_mk l
theorem str_size (l : List UInt8) : (str l).size = l.length := by simp [str, ByteArray.size]
theorem str_append (a b : List UInt8) : str a ++ str b = str (a ++ b) := ByteArray.mk_append_mk a b

theorem Cells.byte_at {w : World} {A : Option Addr} {l : List UInt8} (h : Cells w A (u8s l)) {k : Nat} (hk : k < l.length) :
    ∃ b o x, A = some ⟨b, o, none⟩ ∧ b < w.heap.size ∧ w.cell? ⟨b, o + k, none⟩ = some (.int .u8 ((x : UInt8).toNat : Int)) ∧ Hid (l[k]? = some x) := by
  obtain ⟨b, o, rfl, hb, hc⟩ := h (by intro h0; simp [u8s] at h0; subst h0; simp at hk)
  exact ⟨b, o, l[k], rfl, hb, hc k _ (by simp [u8s, hk]), by simp [Hid, hk]⟩
theorem ArgI.bytes {w : World} {A : Option Addr} {c : Nat} {l : List Int} (h : ArgI .u8 w A c l) : ∃ b : List UInt8, b.length = l.length ∧ Cells w A (u8s b) := by
  refine ⟨l.map fun n => UInt8.ofNat n.toNat, by simp, ?_⟩
  have : u8s (l.map fun n => UInt8.ofNat n.toNat) = l.map (Value.int .u8) := by
    simp only [u8s, List.map_map]
    apply List.map_congr_left
    intro n hn
    have := u8_bd (h.wf n hn)
    simp only [Function.comp]
    congr 1
    have h2 : (UInt8.ofNat n.toNat).toNat = n.toNat := by
      rw [UInt8.toNat_ofNat']
      exact Nat.mod_eq_of_lt (by omega)
    rw [h2]; omega
  rw [this]
  exact h.cells
theorem Cells.drop {w : World} {A : Option Addr} {xs : List Value} (h : Cells w A xs) (n c : Nat) (hc : xs.length ≤ c) : Cells w (if c = n then A else A.map (·.add n)) (xs.drop n) := fun hn => by
  have hlt : n < xs.length := by
    rcases Nat.lt_or_ge n xs.length with h1 | h1
    · exact h1
    · exact absurd (List.drop_eq_nil_of_le h1) hn
  obtain ⟨b, o, rfl, hb, hcell⟩ := h (by rintro rfl; simp at hn)
  rw [if_neg (by omega)]
  refine ⟨b, o + n, by simp [Addr.add_lit], hb, fun k u hu => ?_⟩
  rw [List.getElem?_drop] at hu
  rw [Nat.add_assoc]
  exact hcell _ u hu
theorem Cells.litm (w : World) (cs : Array Value) (e : TypeId) (m : Nat × Nat) : Cells (w.alloc (.cells cs e m)) (some ⟨w.heap.size, 0, none⟩) cs.toList := fun _ => by
  refine ⟨w.heap.size, 0, rfl, by simp, fun k u hu => ?_⟩
  have : (w.alloc (.cells cs e m)).heap[w.heap.size]? = some (.cells cs e m) := heap_alloc_new w _
  simp only [World.cell?, this]
  simpa using hu

/-- 'string(bytes)'. -/
theorem run_str {P : Program} {w : World} {src dst e : TypeId} (hs : P.underlying src = some (.slice e)) (he : P.underlying e = some (.int .u8)) (hd : P.underlying dst = some .string)
    {A : Option Addr} {n : Nat} (c : Nat) {l : List UInt8} (hn : l.length = n) (h : Cells w A (u8s l)) : (convert src dst (.slice A n c)).run P w = .ok (.string (str l)) w := by
  subst hn
  by_cases hl : l = []
  · subst hl
    rcases A with _ | a
    · exact run_convert_bytes_nil w src e hs he _ c dst hd
    · have h0 : (loadCells a 0).run P w = .ok #[] w := by simp [loadCells, loadCellsFrom]
      rw [run_convert_bytes_string w src dst e _ _ c hs he hd]
      have := run_bytesToString (P := P) w a 0 c [] (by simpa using h0)
      exact this.trans rfl
  · obtain ⟨b, o, rfl, hb, hc⟩ := h (by intro h0; simp [u8s] at h0; exact hl h0)
    have := run_convert_bytes_arg (P := P) w src e hs he b o l.length c (l.map fun x => (x.toNat : Int)) (by simp) (fun i hi => by
      refine (hc i (.int .u8 (l[i].toNat : Int)) (by simp [u8s, hi])).trans ?_
      simp [List.getD, hi]) dst hd
    rw [this]
    congr 2
    simp only [strOfNums, str, List.map_map]
    congr 2
    refine (List.map_congr_left ?_).trans (List.map_id l)
    intro x _
    simp
theorem str_beq (a b : List UInt8) : ((str a).toList == (str b).toList) = (a == b) := by rw [str_toList, str_toList]
end Go.Proofs.YtbfjdhbgpjenbaaDoor
