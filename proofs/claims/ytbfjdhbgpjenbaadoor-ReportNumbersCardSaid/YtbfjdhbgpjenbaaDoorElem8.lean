/-
  The type of bytes.
-/
import Derived.Test.YtbfjdhbgpjenbaaDoorRows
import Derived.Test.YtbfjdhbgpjenbaaDoorBytes
namespace Go.Proofs.YtbfjdhbgpjenbaaDoor
set_option linter.unusedSimpArgs false
open Go.RowKit
set_option linter.unusedVariables false

theorem Tryd.infoU8 : (Tryd.prog.info? 5).map (fun i => (i.zero, i.size, i.bytes)) = some (some (.int .u8 0), 1, 1) := by kernel_rfl
theorem elU8 : Elem Tryd.prog 32 5 (.int .u8 0) 1 :=
  ⟨Tryd.underlying32, let ⟨i, h, h0, h1, h2⟩ := info_parts Tryd.infoU8; ⟨i, h, h0, h1, h2⟩, rfl, by omega⟩
theorem Tryd.sizeU8 : (Tryd.prog.info? 5).map (·.size) = some 1 := by kernel_rfl
abbrev FreshB : World → List UInt8 → Ending → World → Prop := fun w l => Fresh (fun c : UInt8 => Value.int .u8 (c.toNat : Int)) w 5 l
end Go.Proofs.YtbfjdhbgpjenbaaDoor
