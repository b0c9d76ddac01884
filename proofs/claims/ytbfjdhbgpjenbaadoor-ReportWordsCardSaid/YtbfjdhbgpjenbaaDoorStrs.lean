/-
  Texts out of bytes, in every world that may follow.
-/
import Derived.Test.YtbfjdhbgpjenbaaDoorBytes
import Derived.Test.YtbfjdhbgpjenbaaDoorGrow
namespace Go.Proofs.YtbfjdhbgpjenbaaDoor
set_option linter.unusedSimpArgs false
open Go.RowKit
set_option linter.unusedVariables false

theorem Cells.strs {P : Program} {w : World} {src dst e : TypeId} (hs : P.underlying src = some (.slice e)) (he : P.underlying e = some (.int .u8)) (hd : P.underlying dst = some .string) {A : Option Addr} {n : Nat} {l : List UInt8}
    (hn : l.length = n) (h : Cells w A (u8s l)) : ∀ (c : Nat) w', Stays w w' → Sem.run P (convert src dst (.slice A n c)) w' = .ok (.string (str l)) w' :=
  fun c w' hS => run_str hs he hd c hn (h.below hS)
end Go.Proofs.YtbfjdhbgpjenbaaDoor
