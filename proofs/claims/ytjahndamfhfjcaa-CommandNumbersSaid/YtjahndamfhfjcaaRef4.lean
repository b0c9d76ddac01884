/-
  The reference's numbers, texts and frames as bytes.
-/
import Derived.Test.YtjahndamfhfjcaaWire
import Derived.Test.YtjahndamfhfjcaaRCrc
import Derived.Test.YtjahndamfhfjcaaFrame
namespace Go.Proofs.Ytjahndamfhfjcaa
open Go.RowKit
set_option linter.unusedVariables false

theorem u8_eq (n : Int) : IntKind.u8.wrap n = ((lo8 (u64N n)).toNat : Int) := by
  rw [IntKind.wrap_u8', lo8_toNat]; unfold u64N; omega
theorem le_one (n : Nat) : le 1 n = [lo8 n] := rfl
set_option maxHeartbeats 800000 in
theorem refByte_any (A : Option Addr) (n c : Nat) (l : List UInt8) (x : Int) (w : World) (hn : l.length = n) (hl : n ≤ 1000000000) (hA : Cells w A (u8s l)) :
    Calls Try.prog 38 #[.slice A n c, .int .i64 x] w (FreshB w (l ++ le 1 (u64N x))) := by
  subst hn
  have hu := u8_eq x
  go_enter Try.func38, Try.ntmps38
  go_wp2_with (first
    | (at_builtin; refine wpList_app elU8 (World.ownsRow_lit (base := w.heap.size) w #[] 0 (Nat.le_refl _) (Nat.zero_le _) rfl) (news := u8s l) rfl _ _ rfl rfl rfl (length_u8s l) (hA.alloc _) (u8s_one l) (by omega) (by simp) l.length (u8s l) (by omega) (by simp) ?_; intro A4 c4 w4 p4; have B4 := p4.below _ _ (Nat.le_refl _) ((Below.refl _ _).alloc (Nat.le_refl _) _))
    | (at_builtin; refine wpList_pushL elU8 p4.own (.int .u8 ((lo8 (u64N x)).toNat : Int)) rfl _ _ rfl rfl rfl rfl (by omega) B4.size ?_; intro A5 c5 w5 p5 g5))
  go_ret
  exact Fresh.mk (n := l.length + 1) (by simp [le]) (by simpa [u8s, le] using p5.own) (p5.below _ _ (Nat.le_refl _) (nxt_alloc B4 _))
theorem le_get' (n k : Nat) : n / 2 ^ (8 * k) = n / 256 ^ k := by rw [Nat.pow_mul]
set_option maxHeartbeats 800000 in
theorem refLong_any (A : Option Addr) (n c : Nat) (l : List UInt8) (x : Int) (w : World) (hn : l.length = n) (hl : n ≤ 1000000000) (hA : Cells w A (u8s l)) :
    Calls Try.prog 37 #[.slice A n c, .int .i64 x] w (FreshB w (l ++ le 8 (u64N x))) := by
  subst hn
  have hu := u64N_eq x
  have hu2 := u64N_lt x
  go_enter Try.func37, Try.ntmps37
  go_wp2_with (at_builtin; refine wpList_app elU8 (World.ownsRow_lit (base := w.heap.size) w #[] 0 (Nat.le_refl _) (Nat.zero_le _) rfl) (news := u8s l) rfl _ _ rfl rfl rfl (length_u8s l) (hA.alloc _) (u8s_one l) (by omega) (by simp) l.length (u8s l) (by omega) (by simp) ?_; intro A4 c4 w4 p4)
  have B4 := p4.below _ _ (Nat.le_refl _) ((Below.refl _ _).alloc (Nat.le_refl _) _)
  have own4 := p4.own
  clear p4 hA
  obtain ⟨u, eu⟩ : ∃ u, u = u64N x := ⟨_, rfl⟩
  rw [← eu] at hu hu2
  have EU := hide eu
  clear eu
  go_loopw [5, 6] (fun v i wr => ∃ k A' c', k ≤ 8 ∧ i = .int .u64 (8 * k : Nat) ∧ v = .slice A' (l.length + k) c' ∧ wr.ownsRow w.heap.size 5 1 v (l.length + k) (u8s (l ++ le k u)) ∧ Below w.heap.size w wr) (fun _ i _ => 64 - (intOf i).toNat)
  case atStart => exact ⟨0, A4, c4, Nat.zero_le _, rfl, rfl, by simpa [le] using own4, B4⟩
  case round =>
    obtain ⟨k, A', c', hk, rfl, rfl, own, hb⟩ := hrel
    clear own4 B4
    by_cases hlt : k < 8
    · have i1 : ((8 * k : Nat) : Int) < 64 := by omega
      have hbyte : (u : Int) / 2 ^ (8 * k) % 256 = ((lo8 (u / 256 ^ k)).toNat : Int) := by
        rw [lo8_toNat, ← le_get']
        rw [Int.natCast_emod, Int.natCast_ediv, Int.natCast_pow]
        rfl
      have hs := hb.size
      go_wp2_with (at_builtin; refine wpList_pushL elU8 own (.int .u8 ((lo8 (u / 256 ^ k)).toNat : Int)) rfl _ _ rfl rfl rfl rfl (by omega) (by omega) ?_; intro A5 c5 w5 p5 g5)
      have hown := p5.own
      go_roundw
      case rel => exact ⟨k + 1, A5, c5, by omega, by go_num, rfl, by rw [le_snoc, ← Nat.add_assoc]; simpa [u8s] using hown, p5.below _ _ (Nat.le_refl _) (nxt_alloc hb _)⟩
      case measure => simp [intOf]; omega
    · obtain rfl : k = 8 := by omega
      go_wp2_with fail
      go_ret
      rw [EU.out] at own
      exact Fresh.mk (n := l.length + 8) (by simp [length_le]) own hb
set_option maxHeartbeats 800000 in
theorem refText_any (A : Option Addr) (n c : Nat) (l : List UInt8) (s : ByteArray) (w : World) (hn : l.length = n) (hl : n ≤ 1000000000) (hs : s.size ≤ 9223372036854775807) (hA : Cells w A (u8s l)) :
    Calls Try.prog 39 #[.slice A n c, .string s] w (FreshB w (l ++ textL s.data.toList)) := by
  subst hn
  have h1 : s.data.toList.length = s.size := rfl
  by_cases hk : s.size ≤ 255
  · have e1 : textL s.data.toList = le 1 (u64N (s.size : Int)) ++ s.data.toList := by
      unfold textL
      rw [h1, Nat.min_eq_left hk, List.take_of_length_le (by omega), show u64N (s.size : Int) = s.size by unfold u64N; omega]
      rfl
    rw [e1, ← List.append_assoc]
    have HLEN : Hid ((l ++ le 1 (u64N (s.size : Int))).length = l.length + 1) := hide (by simp [le])
    clear e1 h1
    go_enter Try.func39, Try.ntmps39
    go_wp2_with fail
    refine (refByte_any A _ c l (s.size : Int) _ rfl hl hA).mono ?_
    obtain ⟨L, eL⟩ : ∃ L, L = l ++ le 1 (u64N (s.size : Int)) := ⟨_, rfl⟩
    rw [← eL] at HLEN ⊢
    have EL := hide eL
    clear eL
    rintro e w1 ⟨A1, c1, rfl, own, hA1, -, -, hb⟩
    go_wp2_with (at_builtin; refine wpList_appStr elU8 Try.underlying9 own s rfl _ _ rfl rfl rfl (by have := HLEN.out; omega) hb.size _ rfl ?_; intro A4 c4 w4 p4)
    go_ret
    exact Fresh.mk (n := L.length + s.size) (by rw [← EL.out, List.length_append]; rfl) (by rw [← EL.out]; exact p4.own) (p4.below _ _ (Nat.le_refl _) hb)
  · obtain ⟨t, et⟩ : ∃ t, t = s.extract 0 255 := ⟨_, rfl⟩
    have hts : t.size = 255 := by rw [et, ByteArray.size_extract]; omega
    have htl : t.data.toList = s.data.toList.take 255 := by rw [et, ByteArray.data_extract, Array.toList_extract]; simp [List.extract]
    have e1 : textL s.data.toList = le 1 (u64N 255) ++ t.data.toList := by
      unfold textL
      rw [h1, Nat.min_eq_right (by omega), htl]
      rfl
    rw [e1, ← List.append_assoc]
    have HLEN : Hid ((l ++ le 1 (u64N 255)).length = l.length + 1) := hide (by simp [le])
    have ET := et.symm
    clear e1 h1 htl et
    go_enter Try.func39, Try.ntmps39
    go_wp2_with fail
    refine (refByte_any A _ c l 255 _ rfl hl hA).mono ?_
    obtain ⟨L, eL⟩ : ∃ L, L = l ++ le 1 (u64N 255) := ⟨_, rfl⟩
    rw [← eL] at HLEN ⊢
    have EL := hide eL
    clear eL
    rintro e w1 ⟨A1, c1, rfl, own, hA1, -, -, hb⟩
    go_wp2_with (at_builtin; refine wpList_appStr elU8 Try.underlying9 own t rfl _ _ rfl rfl rfl (by have := HLEN.out; omega) hb.size (L.length + 255) (by rw [hts]) ?_; intro A4 c4 w4 p4)
    go_ret
    exact Fresh.mk (n := L.length + 255) (by rw [← EL.out, List.length_append]; exact congrArg (L.length + ·) hts.symm) (by rw [← EL.out]; exact p4.own) (p4.below _ _ (Nat.le_refl _) hb)
end Go.Proofs.Ytjahndamfhfjcaa
