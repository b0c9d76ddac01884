/-
  strings.Builder at this program: the kit's contracts of WriteRune, WriteString, String (laid by hand: lay-shelf leaves them out: see NOTES.md).
-/
import Derived.Test.YtdginbmannhfnaaDoorProg
import Derived.Shelf.Strings.BuilderRune
import Derived.Shelf.Strings.BuilderK
import Derived.Shelf.Strings.BuilderF
namespace Go.Proofs.YtdginbmannhfnaaDoor
open Go.Shelf Go.RowKit Go.Lib
def buildRen : Go.Shelf.Ren := ⟨fun | 105 => 23 | 212 => 29 | 99 => 30 | 165 => 31 | 166 => 26 | 170 => 32 | 169 => 28 | 263 => 36 | 264 => 37 | 206 => 38 | 240 => 33 | 241 => 39 | 276 => 40 | 277 => 43 | 168 => 25 | 242 => 34 | 278 => 41 | n => n, fun | 9 => 9 | 3 => 3 | 4 => 4 | 20 => 20 | 0 => 0 | 46 => 42 | 109 => 43 | 5 => 5 | 21 => 21 | 72 => 35 | 76 => 38 | 51 => 51 | 146 => 52 | 53 => 54 | 148 => 55 | 70 => 32 | 37 => 33 | 75 => 37 | 127 => 50 | 164 => 57 | 80 => 41 | n => n, fun | n => n⟩
theorem laysRune : Go.Proofs.Lays.n168 Tryd.prog buildRen := {
  mixed := by kernel_rfl
  f168 := Tryd.func25.trans (congrArg some (by kernel_rfl))
  f240 := Tryd.func33.trans (congrArg some (by kernel_rfl))
  f242 := Tryd.func34.trans (congrArg some (by kernel_rfl))
  f276 := Tryd.func40.trans (congrArg some (by kernel_rfl))
  f278 := Tryd.func41.trans (congrArg some (by kernel_rfl))
  t0 := Tryd.underlying0
  a0 := Tryd.isAgg0
  z0 := Tryd.sizeOf0
  v0 := Tryd.zeroValue0
  t3 := Tryd.underlying3
  a3 := Tryd.isAgg3
  z3 := Tryd.sizeOf3
  v3 := Tryd.zeroValue3
  t4 := Tryd.underlying4
  a4 := Tryd.isAgg4
  z4 := Tryd.sizeOf4
  v4 := Tryd.zeroValue4
  t5 := Tryd.underlying5
  a5 := Tryd.isAgg5
  z5 := Tryd.sizeOf5
  v5 := Tryd.zeroValue5
  t9 := Tryd.underlying9
  a9 := Tryd.isAgg9
  z9 := Tryd.sizeOf9
  v9 := Tryd.zeroValue9
  t20 := Tryd.underlying20
  a20 := Tryd.isAgg20
  z20 := Tryd.sizeOf20
  v20 := Tryd.zeroValue20
  t21 := Tryd.underlying21
  a21 := Tryd.isAgg21
  z21 := Tryd.sizeOf21
  v21 := Tryd.zeroValue21
  t37 := Tryd.underlying33
  a37 := Tryd.isAgg33
  z37 := Tryd.sizeOf33
  v37 := Tryd.zeroValue33
  t46 := Tryd.underlying42
  a46 := Tryd.isAgg42
  z46 := Tryd.sizeOf42
  v46 := Tryd.zeroValue42
  t51 := Tryd.underlying51
  a51 := Tryd.isAgg51
  z51 := Tryd.sizeOf51
  v51 := Tryd.zeroValue51
  t70 := Tryd.underlying32
  a70 := Tryd.isAgg32
  z70 := Tryd.sizeOf32
  v70 := Tryd.zeroValue32
  t72 := Tryd.underlying35
  a72 := Tryd.isAgg35
  z72 := Tryd.sizeOf35
  v72 := Tryd.zeroValue35
  t75 := Tryd.underlying37
  a75 := Tryd.isAgg37
  z75 := Tryd.sizeOf37
  v75 := Tryd.zeroValue37
  t164 := Tryd.underlying57
  a164 := Tryd.isAgg57
  z164 := Tryd.sizeOf57
  v164 := Tryd.zeroValue57 }
theorem laysText : Go.Proofs.Lays.n166 Tryd.prog buildRen := { laysRune with f166 := Tryd.func26.trans (congrArg some (by kernel_rfl)) }
theorem laysString : Go.Proofs.Lays.n169 Tryd.prog buildRen := { laysRune with f169 := Tryd.func28.trans (congrArg some (by kernel_rfl)), t127 := Tryd.underlying50, a127 := Tryd.isAgg50, z127 := Tryd.sizeOf50, v127 := Tryd.zeroValue50 }
theorem laysExtra : Builder.Extra Tryd.prog buildRen := {
  sizeBuilder := by kernel_rfl
  liesBuilder := by kernel_rfl
  t5 := Tryd.underlying5
  a5 := Tryd.isAgg5
  z5 := Tryd.sizeOf5
  v5 := Tryd.zeroValue5
  infoByte := by kernel_rfl
  cellsByte := by kernel_rfl
  sizeByte := by kernel_rfl
  neB5 := by decide }
/-- The builder in block b (nothing of it below B) holds the bytes l. -/
def BuiltAt (B b : Nat) (l : List UInt8) (w : World) : Prop := IsBuilderF 35 5 B b (byteCells l) w
theorem buildString_any (B b : Nat) (l : List UInt8) (w : World) (h : BuiltAt B b l w) (hB : B ≤ w.heap.size) :
    Calls Tryd.prog 28 #[.pointer (some ⟨b, 0, none⟩)] w fun e w' => e = .returned (.string ⟨l.toArray⟩) ∧ BuiltAt B b l w' ∧ Below B w w' ∧ OthersKept 5 (some b) w w' :=
  Any.Builder_String_any_k laysString laysExtra B b l w h hB
theorem buildText_any (B b : Nat) (l : List UInt8) (s : ByteArray) (w : World) (h : BuiltAt B b l w) (hlen : l.length + s.size ≤ 140737488355328) (hB : B ≤ w.heap.size) :
    Calls Tryd.prog 26 #[.pointer (some ⟨b, 0, none⟩), .string s] w fun e w' =>
      e = .returned (.tuple #[.int .i64 s.size, .nilIface]) ∧ BuilderAtF 35 5 B b (.pointer (some ⟨b, 0, none⟩)) (byteCells l ++ strCells s) w' ∧ Below B w w' ∧ OthersKept 5 (some b) w w' :=
  Any.Builder_WriteString_k laysText laysExtra B b (byteCells l) s w h (by simpa [byteCells] using hlen) hB
theorem buildRune_any (B b : Nat) (l : List UInt8) (r : Int) (h1 : -2147483648 ≤ r) (h2 : r ≤ 2147483647) (w : World) (h : BuiltAt B b l w) (hlen : l.length + 4 ≤ 140737488355328) (hB : B ≤ w.heap.size) :
    Calls Tryd.prog 25 #[.pointer (some ⟨b, 0, none⟩), .int .i32 r] w fun e w' =>
      e = .returned (.tuple #[.int .i64 (runeCells r).length, .nilIface]) ∧ BuilderAtF 35 5 B b (.pointer (some ⟨b, 0, none⟩)) (byteCells l ++ runeCells r) w' ∧ Below B w w' ∧ OthersKept 5 (some b) w w' :=
  Any.Builder_WriteRune_k laysRune laysExtra B b (byteCells l) r h1 h2 w h (by simpa [byteCells] using hlen) hB
end Go.Proofs.YtdginbmannhfnaaDoor
