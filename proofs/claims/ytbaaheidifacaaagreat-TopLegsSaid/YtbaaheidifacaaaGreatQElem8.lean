import Derived.Test.YtbaaheidifacaaaGreatQBytes
import Derived.Test.YtbaaheidifacaaaGreatRows
set_option linter.defProp false
set_option linter.unusedVariables false
set_option linter.unusedSimpArgs false
set_option maxRecDepth 100000
set_option maxHeartbeats 12800000
namespace Go.Proofs.YtbaaheidifacaaaGreat
variable {A:Option Addr} {l:List UInt8} {w:World} {xs:List Value}
open Go.RowKit
theorem Tryz.Wi:(Tryz.prog.info? 5).map (fun i=>(i.zero,i.size,i.bytes))=some (some (.int .u8 0),1,1):=by kernel_rfl
theorem zC:xf Tryz.prog 62 5 (.int .u8 0) 1:=
 ⟨Tryz.underlying62,let ⟨i,h,D,I,J⟩:=info_parts Tryz.Wi;⟨i,h,D,I,J⟩,rfl,ae⟩
abbrev tN:World→List UInt8→Ending→World→Prop:=fun w l=>kR (fun c:UInt8=>Value.int .u8 (c.toNat:Int)) w 5 l
theorem Cells.take (h:Cells w A xs) (n:Nat):Cells w A (xs.take n):=fun hn=>by
 obtain⟨b,o,rfl,D,hc⟩:=h (by rintro rfl;simp at hn);refine⟨b,o,rfl,D,fun k u hu=>hc k u ?_⟩;rw[DV] at hu
 split at hu
 ·exact hu
 ·cases hu
theorem Cells.Nv (h:Cells w A (ij l)) (n:Nat):Cells w A (ij (l.take n)):=by simpa[ij,List.map_take] using h.take n
theorem Cells.VO (h:Cells w A (ij l)) (n c:Nat) (hc:l.length<=c):Cells w (if c=n then A else A.map (·.add n)) (ij (l.drop n)):=by simpa[ij,List.map_drop] using h.drop n c (by simpa[ij] using hc)
end Go.Proofs.YtbaaheidifacaaaGreat
