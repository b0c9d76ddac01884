/-
  cornhillbook.Within.
-/
import Derived.Test.YtbfjdhbgpjenbaaDoorRows
import Derived.Test.YtbfjdhbgpjenbaaDoorBase
namespace Go.Proofs.YtbfjdhbgpjenbaaDoor
set_option linter.unusedSimpArgs false
open Go.RowKit

theorem tmod_emod (n m : Int) (hm : 0 < m) : (n.tmod m < 0 → n.tmod m + m = n % m) ∧ (0 ≤ n.tmod m → n.tmod m = n % m) := by
  have h1 := Int.emod_nonneg n (show m ≠ 0 by omega)
  have h2 := Int.emod_lt_of_pos n hm
  have h3 := Int.tmod_eq_emod (a := n) (b := m)
  split at h3 <;> constructor <;> intro h <;> omega

def within (n lo hi : Int) : Int := lo + n % (hi - lo + 1)
theorem within_bd (n lo hi : Int) (h : lo ≤ hi) : lo ≤ within n lo hi ∧ within n lo hi ≤ hi := by
  have h1 := Int.emod_nonneg n (show hi - lo + 1 ≠ 0 by omega)
  have h2 := Int.emod_lt_of_pos n (show 0 < hi - lo + 1 by omega)
  unfold within; omega

set_option maxHeartbeats 400000 in
theorem within_any (n lo hi : Int) (w : World) (h1 : lo ≤ hi) (h2 : -1099511627776 ≤ lo) (h3 : hi ≤ 1099511627776) :
    Calls Tryd.prog 18 #[.int .i64 n, .int .i64 lo, .int .i64 hi] w fun e w' => e = .returned (.int .i64 (within n lo hi)) ∧ w = w' := by
  have h0 : (0 : Int) < hi - lo + 1 := by omega
  have hz : ((hi - lo + 1) == 0) = false := by simp; omega
  have ht := tmod_emod n (hi - lo + 1) h0
  have hb1 := Int.emod_nonneg n (show hi - lo + 1 ≠ 0 by omega)
  have hb2 := Int.emod_lt_of_pos n (show 0 < hi - lo + 1 by omega)
  have hb3 : -(hi - lo + 1) ≤ n.tmod (hi - lo + 1) ∧ n.tmod (hi - lo + 1) < hi - lo + 1 := by
    rcases Int.lt_or_le (n.tmod (hi - lo + 1)) 0 with h | h
    · have h4 := ht.1 h
      omega
    · have := ht.2 h
      omega
  have HT := hide ht; clear ht
  unfold within
  go_enter Tryd.func18, Tryd.ntmps18
  go_wp2
  · go_ret
    have := HT.out.1 (by assumption)
    refine ⟨ret_int ?_, rfl⟩
    omega
  · go_ret
    have := HT.out.2 (by assumption)
    exact ⟨ret_int (by omega), rfl⟩


end Go.Proofs.YtbfjdhbgpjenbaaDoor
