/-
  The reference's numbers, texts and frames as bytes.
-/
import Derived.Test.YtbfjdhbgpjenbaaDoorWire
import Derived.Test.YtbfjdhbgpjenbaaDoorRCrc
import Derived.Test.YtbfjdhbgpjenbaaDoorFrame
namespace Go.Proofs.YtbfjdhbgpjenbaaDoor
set_option linter.unusedSimpArgs false
open Go.RowKit
set_option linter.unusedVariables false

theorem u8_eq (n : Int) : IntKind.u8.wrap n = ((lo8 (u64N n)).toNat : Int) := by
  rw [IntKind.wrap_u8', lo8_toNat]; unfold u64N; omega
theorem le_one (n : Nat) : le 1 n = [lo8 n] := rfl
set_option maxHeartbeats 800000 in
theorem refByte_any (A : Option Addr) (n c : Nat) (l : List UInt8) (x : Int) (w : World) (hn : l.length = n) (hl : n ≤ 1000000000) (hA : Cells w A (u8s l)) :
    Calls Tryd.prog 30 #[.slice A n c, .int .i64 x] w (FreshB w (l ++ le 1 (u64N x))) := by
  subst hn
  have hu := u8_eq x
  go_enter Tryd.func30, Tryd.ntmps30
  go_wp2_with (first
    | (at_builtin; refine wpList_app elU8 (World.ownsRow_lit (base := w.heap.size) w #[] 0 (Nat.le_refl _) (Nat.zero_le _) rfl) (news := u8s l) rfl _ _ rfl rfl rfl (length_u8s l) (hA.alloc _) (u8s_one l) (by omega) (by simp) l.length (u8s l) (by omega) (by simp) ?_; intro A4 c4 w4 p4; have B4 := p4.below _ _ (Nat.le_refl _) ((Below.refl _ _).alloc (Nat.le_refl _) _))
    | (at_builtin; refine wpList_pushL elU8 p4.own (.int .u8 ((lo8 (u64N x)).toNat : Int)) rfl _ _ rfl rfl rfl rfl (by omega) B4.size ?_; intro A5 c5 w5 p5 g5))
  go_ret
  exact Fresh.mk (n := l.length + 1) (by simp [le]) (by simpa [u8s, le] using p5.own) (p5.below _ _ (Nat.le_refl _) (nxt_alloc B4 _))
theorem le_get' (n k : Nat) : n / 2 ^ (8 * k) = n / 256 ^ k := by rw [Nat.pow_mul]
set_option maxHeartbeats 800000 in
theorem refLong_any (A : Option Addr) (n c : Nat) (l : List UInt8) (x : Int) (w : World) (hn : l.length = n) (hl : n ≤ 1000000000) (hA : Cells w A (u8s l)) :
    Calls Tryd.prog 29 #[.slice A n c, .int .i64 x] w (FreshB w (l ++ le 8 (u64N x))) := by
  subst hn
  have hu := u64N_eq x
  have hu2 := u64N_lt x
  go_enter Tryd.func29, Tryd.ntmps29
  go_wp2_with (at_builtin; refine wpList_app elU8 (World.ownsRow_lit (base := w.heap.size) w #[] 0 (Nat.le_refl _) (Nat.zero_le _) rfl) (news := u8s l) rfl _ _ rfl rfl rfl (length_u8s l) (hA.alloc _) (u8s_one l) (by omega) (by simp) l.length (u8s l) (by omega) (by simp) ?_; intro A4 c4 w4 p4)
  have B4 := p4.below _ _ (Nat.le_refl _) ((Below.refl _ _).alloc (Nat.le_refl _) _)
  have own4 := p4.own
  clear p4 hA
  obtain ⟨u, eu⟩ : ∃ u, u = u64N x := ⟨_, rfl⟩
  rw [← eu] at hu hu2
  have EU := hide eu
  clear eu
  go_loopw [5, 6] (fun v i wr => ∃ k A' c', k ≤ 8 ∧ i = .int .u64 (8 * k : Nat) ∧ v = .slice A' (l.length + k) c' ∧ wr.ownsRow w.heap.size 5 1 v (l.length + k) (u8s (l ++ le k u)) ∧ Below w.heap.size w wr) (fun _ i _ => 64 - (intOf i).toNat)
  case atStart => exact ⟨0, A4, c4, Nat.zero_le _, rfl, rfl, by simpa [le] using own4, B4⟩
  case round =>
    obtain ⟨k, A', c', hk, rfl, rfl, own, hb⟩ := hrel
    clear own4 B4
    by_cases hlt : k < 8
    · have i1 : ((8 * k : Nat) : Int) < 64 := by omega
      have hbyte : (u : Int) / 2 ^ (8 * k) % 256 = ((lo8 (u / 256 ^ k)).toNat : Int) := by
        rw [lo8_toNat, ← le_get']
        rw [Int.natCast_emod, Int.natCast_ediv, Int.natCast_pow]
        rfl
      have hs := hb.size
      go_wp2_with (at_builtin; refine wpList_pushL elU8 own (.int .u8 ((lo8 (u / 256 ^ k)).toNat : Int)) rfl _ _ rfl rfl rfl rfl (by omega) (by omega) ?_; intro A5 c5 w5 p5 g5)
      have hown := p5.own
      go_roundw
      case rel => exact ⟨k + 1, A5, c5, by omega, by go_num, rfl, by rw [le_snoc, ← Nat.add_assoc]; simpa [u8s] using hown, p5.below _ _ (Nat.le_refl _) (nxt_alloc hb _)⟩
      case measure => simp [intOf]; omega
    · obtain rfl : k = 8 := by omega
      go_wp2_with fail
      go_ret
      rw [EU.out] at own
      exact Fresh.mk (n := l.length + 8) (by simp [length_le]) own hb
theorem refFrame_long (A : Option Addr) (n c : Nat) (w : World) (hn : 255 < n) (hl : n ≤ 9223372036854775807) :
    Calls Tryd.prog 34 #[.slice A n c] w fun e w' => e = .returned (.tuple #[.slice none 0 0, .int .i64 3]) ∧ w = w' := by
  have i1 : (255 : Int) < n := by omega
  go_enter Tryd.func34, Tryd.ntmps34
  go_wp2_with fail
  go_ret2
  exact ⟨rfl, rfl⟩
set_option maxHeartbeats 1600000 in
theorem refFrame_ok (A : Option Addr) (n c : Nat) (l : List UInt8) (w : World) (hn : l.length = n) (hl : n ≤ 255) (hA : Cells w A (u8s l)) :
    Calls Tryd.prog 34 #[.slice A n c] w (FreshB2 w (frameL l) 0) := by
  subst hn
  have HL := hide (length_frameL l)
  have CR := crcN_lt l
  have i0 : (l.length : Int) ≤ 255 := by omega
  go_enter Tryd.func34, Tryd.ntmps34
  obtain ⟨X, eX⟩ : ∃ X, X = crcN l := ⟨_, rfl⟩
  rw [← eX] at CR
  have EX := hide eX
  go_wp2_with fail
  refine (rcrc_any A _ c l _ rfl (by omega) hA).mono ?_
  rw [← eX]
  clear eX
  rintro e w1 ⟨rfl, rfl⟩
  go_wp2_with (first
    | (at_builtin; refine wpList_app elU8 (World.ownsRow_lit (base := w.heap.size) w #[.int .u8 l.length, .int .u8 (255 - l.length)] 2 (Nat.le_refl _) (by unfold maxLen; omega) rfl) (news := u8s l) rfl _ _ rfl rfl rfl (length_u8s l) (hA.alloc _) (u8s_one l) (by omega) (by simp) (2 + l.length) _ rfl rfl ?_; intro A4 c4 w4 p4; have B4 := p4.below _ _ (Nat.le_refl _) (nxt_alloc (Below.refl _ _) _))
    | (at_builtin; refine wpList_app elU8 (p4.own.alloc _) (news := [.int .u8 ((X : Int) % 256), .int .u8 ((X : Int) / 256 % 256), .int .u8 ((X : Int) / 65536 % 256), .int .u8 ((X : Int) / 16777216)]) rfl _ _ rfl rfl rfl rfl (Cells.lit _ _ _) (by simp [Value.oneCell']) (by omega) (by have := B4.size; simp; omega) (2 + l.length + 4) _ rfl rfl ?_; intro A5 c5 w5 p5; have B5 := p5.below _ _ (Nat.le_refl _) (nxt_alloc B4 _)))
  go_ret2
  have hcells : [Value.int .u8 (l.length : Int), .int .u8 (255 - (l.length : Int))] ++ u8s l ++ [.int .u8 ((X : Int) % 256), .int .u8 ((X : Int) / 256 % 256), .int .u8 ((X : Int) / 65536 % 256), .int .u8 ((X : Int) / 16777216)] = u8s (frameL l) := by
    unfold frameL
    rw [← EX.out]
    simp only [u8s, le, List.map_cons, List.map_append, List.map_nil, lo8_toNat, List.cons_append, List.nil_append]
    have f1 : ((l.length % 256 : Nat) : Int) = l.length := by omega
    have f2 : (((255 - l.length) % 256 : Nat) : Int) = 255 - l.length := by omega
    have f3 : ((X / 256 / 256 % 256 : Nat) : Int) = (X : Int) / 65536 % 256 := by omega
    have f4 : ((X / 256 / 256 / 256 % 256 : Nat) : Int) = (X : Int) / 16777216 := by omega
    have f5 : ((X / 256 % 256 : Nat) : Int) = (X : Int) / 256 % 256 := by omega
    have f6 : ((X % 256 : Nat) : Int) = (X : Int) % 256 := by omega
    rw [f1, f2, f3, f4, f5, f6]
  have own := p5.own
  have hcell2 := hcells
  change w5.ownsRow w.heap.size 5 1 (.slice A5 (2 + l.length + 4) c5) (2 + l.length + 4) ([Value.int .u8 (l.length : Int), .int .u8 (255 - (l.length : Int))] ++ u8s l ++ [.int .u8 ((X : Int) % 256), .int .u8 ((X : Int) / 256 % 256), .int .u8 ((X : Int) / 65536 % 256), .int .u8 ((X : Int) / 16777216)]) at own
  rw [hcells, show 2 + l.length + 4 = (frameL l).length by rw [HL.out]; omega] at own
  obtain ⟨A', c', hv, h1, h2⟩ := own_shape own
  injection hv with _ _ hcc
  subst hcc
  refine ⟨A5, c5, ?_, own, Cells.of_own own, h1, h2, B5⟩
  show Ending.returned (.tuple #[.slice A5 (2 + l.length + 4) c5, .int .i64 0]) = _
  rw [show 2 + l.length + 4 = (frameL l).length by rw [HL.out]; omega]
end Go.Proofs.YtbfjdhbgpjenbaaDoor
