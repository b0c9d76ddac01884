/-
  The reference's numbers, texts and frames as bytes.
-/
import Derived.Test.YtfhlfnoiknhleaaWire
import Derived.Test.YtfhlfnoiknhleaaRCrc
import Derived.Test.YtfhlfnoiknhleaaFrame
namespace Go.Proofs.Ytfhlfnoiknhleaa
open Go.RowKit
set_option linter.unusedVariables false

theorem u8_eq (n : Int) : IntKind.u8.wrap n = ((lo8 (u64N n)).toNat : Int) := by
  rw [IntKind.wrap_u8', lo8_toNat]; unfold u64N; omega
theorem le_one (n : Nat) : le 1 n = [lo8 n] := rfl
theorem le_get' (n k : Nat) : n / 2 ^ (8 * k) = n / 256 ^ k := by rw [Nat.pow_mul]
theorem refFrame_long (A : Option Addr) (n c : Nat) (w : World) (hn : 255 < n) (hl : n ≤ 9223372036854775807) :
    Calls Try.prog 30 #[.slice A n c] w fun e w' => e = .returned (.tuple #[.slice none 0 0, .int .i64 3]) ∧ w = w' := by
  have i1 : (255 : Int) < n := by omega
  go_enter Try.func30, Try.ntmps30
  go_wp2_with fail
  go_ret2
  exact ⟨rfl, rfl⟩
set_option maxHeartbeats 1600000 in
theorem refFrame_ok (A : Option Addr) (n c : Nat) (l : List UInt8) (w : World) (hn : l.length = n) (hl : n ≤ 255) (hA : Cells w A (u8s l)) :
    Calls Try.prog 30 #[.slice A n c] w (FreshB2 w (frameL l) 0) := by
  subst hn
  have HL := hide (length_frameL l)
  have CR := crcN_lt l
  have i0 : (l.length : Int) ≤ 255 := by omega
  go_enter Try.func30, Try.ntmps30
  obtain ⟨X, eX⟩ : ∃ X, X = crcN l := ⟨_, rfl⟩
  rw [← eX] at CR
  have EX := hide eX
  go_wp2_with fail
  refine (rcrc_any A _ c l _ rfl (by omega) hA).mono ?_
  rw [← eX]
  clear eX
  rintro e w1 ⟨rfl, rfl⟩
  go_wp2_with (first
    | (at_builtin; refine wpList_app elU8 (World.ownsRow_lit (base := w.heap.size) w #[.int .u8 l.length, .int .u8 (255 - l.length)] 2 (Nat.le_refl _) (by unfold maxLen; omega) rfl) (news := u8s l) rfl _ _ rfl rfl rfl (length_u8s l) (hA.alloc _) (u8s_one l) (by omega) (by simp) (2 + l.length) _ rfl rfl ?_; intro A4 c4 w4 p4; have B4 := p4.below _ _ (Nat.le_refl _) (nxt_alloc (Below.refl _ _) _))
    | (at_builtin; refine wpList_app elU8 (p4.own.alloc _) (news := [.int .u8 ((X : Int) % 256), .int .u8 ((X : Int) / 256 % 256), .int .u8 ((X : Int) / 65536 % 256), .int .u8 ((X : Int) / 16777216)]) rfl _ _ rfl rfl rfl rfl (Cells.lit _ _ _) (by simp [Value.oneCell']) (by omega) (by have := B4.size; simp; omega) (2 + l.length + 4) _ rfl rfl ?_; intro A5 c5 w5 p5; have B5 := p5.below _ _ (Nat.le_refl _) (nxt_alloc B4 _)))
  go_ret2
  have hcells : [Value.int .u8 (l.length : Int), .int .u8 (255 - (l.length : Int))] ++ u8s l ++ [.int .u8 ((X : Int) % 256), .int .u8 ((X : Int) / 256 % 256), .int .u8 ((X : Int) / 65536 % 256), .int .u8 ((X : Int) / 16777216)] = u8s (frameL l) := by
    unfold frameL
    rw [← EX.out]
    simp only [u8s, le, List.map_cons, List.map_append, List.map_nil, lo8_toNat, List.cons_append, List.nil_append]
    have f1 : ((l.length % 256 : Nat) : Int) = l.length := by omega
    have f2 : (((255 - l.length) % 256 : Nat) : Int) = 255 - l.length := by omega
    have f3 : ((X / 256 / 256 % 256 : Nat) : Int) = (X : Int) / 65536 % 256 := by omega
    have f4 : ((X / 256 / 256 / 256 % 256 : Nat) : Int) = (X : Int) / 16777216 := by omega
    have f5 : ((X / 256 % 256 : Nat) : Int) = (X : Int) / 256 % 256 := by omega
    have f6 : ((X % 256 : Nat) : Int) = (X : Int) % 256 := by omega
    rw [f1, f2, f3, f4, f5, f6]
  have own := p5.own
  have hcell2 := hcells
  change w5.ownsRow w.heap.size 5 1 (.slice A5 (2 + l.length + 4) c5) (2 + l.length + 4) ([Value.int .u8 (l.length : Int), .int .u8 (255 - (l.length : Int))] ++ u8s l ++ [.int .u8 ((X : Int) % 256), .int .u8 ((X : Int) / 256 % 256), .int .u8 ((X : Int) / 65536 % 256), .int .u8 ((X : Int) / 16777216)]) at own
  rw [hcells, show 2 + l.length + 4 = (frameL l).length by rw [HL.out]; omega] at own
  obtain ⟨A', c', hv, h1, h2⟩ := own_shape own
  injection hv with _ _ hcc
  subst hcc
  refine ⟨A5, c5, ?_, own, Cells.of_own own, h1, h2, B5⟩
  show Ending.returned (.tuple #[.slice A5 (2 + l.length + 4) c5, .int .i64 0]) = _
  rw [show 2 + l.length + 4 = (frameL l).length by rw [HL.out]; omega]
end Go.Proofs.Ytfhlfnoiknhleaa
