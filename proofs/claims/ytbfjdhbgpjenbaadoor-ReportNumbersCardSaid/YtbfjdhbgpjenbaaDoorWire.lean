/-
  What the package wire computes: a writer and a reader in memory, and each of their methods.
-/
import Derived.Test.YtbfjdhbgpjenbaaDoorCrc
import Derived.Test.YtbfjdhbgpjenbaaDoorLeaves
import Derived.Test.YtbfjdhbgpjenbaaDoorCut
import Derived.Lib.AppendStr
namespace Go.Proofs.YtbfjdhbgpjenbaaDoor
set_option linter.unusedSimpArgs false
open Go.RowKit
set_option linter.unusedVariables false

/-! ### Appending -/
section
variable {P : Program} {t e : TypeId} {z : Value} {bytes : Nat}
/-- 'append(v, u)': one element, which lies in a block of its own, laid just before; where the row lies. -/
theorem wpList_pushL (H : Elem P t e z bytes) {ops : Array Oper} {rest : List Oper} {o : Oper} {a : Act} {Q : Exit → Act → World → Prop} {w : World}
    {base : Nat} {v : Value} {n : Nat} {xs : List Value} (hown : w.ownsRow base e 1 v n xs) (u : Value)
    (hgd : o.guard = none) (s x : Operand) (ho : o.op = .call { callee := .builtin .append, args := #[s, x], argTypes := #[t, t] })
    (hs : a.eval s = v) (hx : a.eval x = .slice (some ⟨w.heap.size, 0, none⟩) 1 1) (hu : u.oneCell' = true) (hn : n ≤ 1000000000000) (hb : base ≤ w.heap.size)
    (h : ∀ A' c' w', Appended (w.alloc (.cells #[u] e)) base e v (n + 1) (xs ++ [u]) A' c' w' → w.grownBy w' v.ownBlock → wpList P ops Q rest (a.put o.dst (.slice A' (n + 1) c')) w') :
    wpList P ops Q (o :: rest) a (w.alloc (.cells #[u] e)) := by
  refine wpList_app H (hown.alloc _) hgd s x ho hs hx rfl (Cells.lit w #[u] e) (by intro y hy; simp at hy; subst hy; exact hu) (by omega) (by simp; omega) _ _ rfl rfl ?_
  intro A' c' w' h1
  exact h A' c' w' h1 (grown_alloc h1.grown fun g hg => (hown.lt g hg).2)
end
theorem str_lies {P : Program} {w : World} {base : Nat} {t u ty e : TypeId} {i : TypeInfo} (ht : P.underlying t = some (.slice e)) (hu : P.underlying u = some .string) (hi : P.info? e = some i) (hz : i.zero = some (.int .u8 0))
    (hsize : i.size = 1) (hby : i.bytes = 1) {v : Value} {n : Nat} {xs : List Value} (hown : w.ownsRow base e 1 v n xs) (s : ByteArray) (hn : n + s.size ≤ 1099511627776) {v' : Value} {w' : World}
    (h : (Builtin.append_ #[t, u] ty #[v, .string s]).run P w = .ok v' w') : v'.ownBlock = v.ownBlock ∨ v'.ownBlock = some w.heap.size := by
  have hxl : xs.length = n := by simpa using hown.1
  rcases hown.2 with ⟨rfl, rfl⟩ | ⟨g, cap, cur, rfl, hbg, hg, hnc, hcm, hcs, htake⟩
  · by_cases hm : s.size = 0
    · have hf := Lib.run_firstCells_string (P := P) w 1 s
      rw [hm] at hf
      simp [Builtin.append_, run_underlying ht, run_underlying hu, sizeOf, typeInfo, hi, hsize, Builtin.lenOf, hm, hf] at h
      obtain ⟨rfl, _⟩ := h
      exact .inl rfl
    · have hr := run_append_nil_string (P := P) w t u ty e i (.int .u8 0) ht hu hi hz s (by omega) (by omega) (by rw [hby]; omega)
      rw [hr] at h
      injection h with h1 h2
      subst h1
      exact .inr rfl
  · by_cases hroom : n + s.size ≤ cap
    · have hcs' : cur.size = cap := by simpa using hcs
      have hr := Lib.run_append_room_string (P := P) w t u ty e i ht hu hi hsize g n cap cur hg s hroom (by omega)
      rw [hr] at h
      injection h with h1 h2
      subst h1
      exact .inl rfl
    · have holds : ∀ j u, xs[j]? = some u → w.cell? ((⟨g, 0, none⟩ : Addr).add j) = some u := hown.cells (g := g) rfl
      have hr := Lib.run_append_grow_string (P := P) w t u ty e i (.int .u8 0) ht hu hi hz ⟨g, 0, none⟩ n cap xs (by rw [hsize]; simpa using hxl) holds s (by omega) (by omega) (by rw [hby]; exact growslice_fits (by omega) (by omega))
      rw [hr] at h
      injection h with h1 h2
      subst h1
      exact .inr rfl
theorem strCells_u8s (s : ByteArray) : Lib.strCells s = u8s s.data.toList := rfl
/-- 'append(v, s...)', s a text. -/
theorem wpList_appStr {P : Program} {t u e : TypeId} {ops : Array Oper} {rest : List Oper} {o : Oper} {a : Act} {Q : Exit → Act → World → Prop} {w : World} (H : Elem P t e (.int .u8 0) 1) (hu : P.underlying u = some .string)
    {base : Nat} {v : Value} {n : Nat} {l : List UInt8} (hown : w.ownsRow base e 1 v n (u8s l)) (s : ByteArray) (hgd : o.guard = none) (sl x : Operand)
    (ho : o.op = .call { callee := .builtin .append, args := #[sl, x], argTypes := #[t, u] })
    (hs : a.eval sl = v) (hx : a.eval x = .string s) (hn : n + s.size ≤ 1099511627776) (hbase : base ≤ w.heap.size) (N : Nat) (hN : N = n + s.size)
    (h : ∀ A' c' w', Appended w base e v N (u8s (l ++ s.data.toList)) A' c' w' → wpList P ops Q rest (a.put o.dst (.slice A' N c')) w') : wpList P ops Q (o :: rest) a w := by
  subst hN
  obtain ⟨i, hi, hz, hsz, hby⟩ := H.info
  refine wpList_plain hgd fun K hK => ?_
  obtain ⟨v', w', hr, h2, h3, h4⟩ := Lib.run_append_own_string (P := P) w base t u o.type e i H.under hu hi hz hsz hby v n _ hown s (by unfold maxLen; omega) (by omega) hbase
  have hl := str_lies (P := P) (ty := o.type) H.under hu hi hz hsz hby hown s hn hr
  obtain ⟨A', c', rfl, -⟩ := own_shape h2
  unfold Oper.wp execOp
  simp only [ho, resolve, invoke, builtin, Sem.run_bind, Sem.run_pure, Result.andThen_ok, List.map_toArray, List.map_cons, List.map_nil, hs, hx, hr]
  refine hK _ _ (h A' c' w' ⟨?_, h3, hl, fun B W hB hbel => hbel.grown h3 (Nat.le_trans hB hbase) fun k hk => by have := (hown.lt k hk).1; omega⟩)
  rw [strCells_u8s] at h2
  simpa [u8s] using h2

/-! ### A writer in memory -/
/-- Block d is a writer of the bytes l, which lie in row r. -/
structure WriterAt (w : World) (d : Nat) (r : Option Nat) (l : List UInt8) : Prop where
  blk : ∃ A c, w.heap[d]? = some (.cells #[.slice A l.length c] 75 (0, 0)) ∧ w.ownsRow (d + 1) 5 1 (.slice A l.length c) l.length (u8s l) ∧ (Value.slice A l.length c).ownBlock = r ∧ l.length ≤ c
theorem WriterAt.row_lt {w : World} {d : Nat} {r : Option Nat} {l : List UInt8} (h : WriterAt w d r l) : d < w.heap.size ∧ ∀ g, r = some g → d < g ∧ g < w.heap.size := by
  obtain ⟨A, c, hb, ho, hr, _⟩ := h.blk
  refine ⟨(Array.getElem?_eq_some_iff.1 hb).1, fun g hg => ?_⟩
  have := ho.lt g (hr.trans hg)
  omega
theorem WriterAt.keep {w w' : World} {d : Nat} {r : Option Nat} {l : List UInt8} (h : WriterAt w d r l) (hd : w'.heap[d]? = w.heap[d]?) (hr : ∀ g, r = some g → w'.heap[g]? = w.heap[g]?) : WriterAt w' d r l := by
  obtain ⟨A, c, hb, ho, hrow, hc⟩ := h.blk
  refine ⟨⟨A, c, hd.trans hb, ?_, hrow, hc⟩⟩
  refine ⟨ho.1, ?_⟩
  rcases ho.2 with h0 | ⟨g, cap, cur, hv, hg, hh, rest⟩
  · exact .inl h0
  · refine .inr ⟨g, cap, cur, hv, hg, ?_, rest⟩
    have : r = some g := by rw [← hrow, hv]; rfl
    rw [hr g this]; exact hh
theorem WriterAt.below {w w' : World} {d : Nat} {r : Option Nat} {l : List UInt8} (h : WriterAt w d r l) (hb : Below w.heap.size w w') : WriterAt w' d r l :=
  h.keep (hb.block d h.row_lt.1) (fun g hg => hb.block g (h.row_lt.2 g hg).2)
theorem WriterAt.reads {w : World} {d : Nat} {r : Option Nat} {l : List UInt8} (h : WriterAt w d r l) :
    ∃ A c, w.cell? ⟨d, 0, none⟩ = some (.slice A l.length c) ∧ w.frozen? ⟨d, 0, none⟩ = false ∧ w.ownsRow (d + 1) 5 1 (.slice A l.length c) l.length (u8s l) ∧ (Value.slice A l.length c).ownBlock = r ∧ l.length ≤ c ∧ d < w.heap.size := by
  obtain ⟨A, c, hb, ho, hr, hc⟩ := h.blk
  exact ⟨A, c, by simp [World.cell?, hb], by simp [World.frozen?, hb], ho, hr, hc, h.row_lt.1⟩
/-- A longer row is stored. -/
theorem WriterAt.grow {w w4 : World} {d : Nat} {r : Option Nat} {l l' : List UInt8} (h : WriterAt w d r l) {A A' : Option Addr} {c c' N : Nat} (h0 : w.cell? ⟨d, 0, none⟩ = some (.slice A l.length c)) (hN : l'.length = N)
    (ho : w4.ownsRow (d + 1) 5 1 (.slice A' N c') N (u8s l')) (hg : w.grownBy w4 r) (hl : (Value.slice A' N c').ownBlock = r ∨ ∀ g, (Value.slice A' N c').ownBlock = some g → w.heap.size ≤ g) :
    ∃ r', WriterAt (w4.setCell ⟨d, 0, none⟩ (.slice A' N c')) d r' l' ∧ (r' = r ∨ ∀ g, r' = some g → w.heap.size ≤ g) ∧ Leaves d r w (w4.setCell ⟨d, 0, none⟩ (.slice A' N c')) := by
  subst hN
  obtain ⟨A1, c1, hb, ho1, hr, hc⟩ := h.blk
  have hd := h.row_lt.1
  have kd : w4.heap[d]? = w.heap[d]? := hg.block d hd (by intro he; have := (h.row_lt.2 d he.symm).1; omega)
  refine ⟨_, ⟨⟨A', c', ?_, ownsRow_setCell_below ho (by show d < d + 1; omega) _, rfl, own_shape_le ho⟩⟩, hl, (Leaves.of_grown hg).setCell _ _⟩
  rw [heap_setCell_same _ _ _ _ _ _ (kd.trans hb)]; rfl

/-! ### The writer's methods -/
theorem newWriter_any (w : World) : Calls Tryd.prog 25 #[] w fun e w' => ∃ d, e = .returned (.pointer (some ⟨d, 0, none⟩)) ∧ w.heap.size ≤ d ∧ WriterAt w' d none [] ∧ Below w.heap.size w w' := by
  go_enter Tryd.func25, Tryd.ntmps25
  go_wp2
  go_ret
  exact ⟨_, rfl, Nat.le_refl _, ⟨⟨none, 0, heap_alloc_new _ _, World.ownsRow_nil _ _ _ _, rfl, Nat.le_refl _⟩⟩, (Below.refl _ _).alloc (Nat.le_refl _) _⟩
/-- What a writer's method leaves: the bytes l', in the old row or a new one; all else as it was. -/
structure Wrote (w : World) (d : Nat) (r : Option Nat) (l' : List UInt8) (w' : World) : Prop where
  at_ : ∃ r', WriterAt w' d r' l' ∧ (r' = r ∨ ∀ g, r' = some g → w.heap.size ≤ g)
  leaves : Leaves d r w w'
theorem Wrote.next {w w1 w2 : World} {d : Nat} {r r1 : Option Nat} {l2 : List UInt8} (hl : Leaves d r w w1) (hr : r1 = r ∨ ∀ g, r1 = some g → w.heap.size ≤ g) (h : Wrote w1 d r1 l2 w2) : Wrote w d r l2 w2 := by
  obtain ⟨⟨r', h1, h2⟩, h3⟩ := h
  refine ⟨⟨r', h1, ?_⟩, hl.trans h3 hr⟩
  rcases h2 with rfl | h2
  · exact hr
  · exact .inr fun g hg => Nat.le_trans hl.size (h2 g hg)
set_option maxHeartbeats 800000 in
theorem put_any (d : Nat) (r : Option Nat) (l : List UInt8) (n size : Nat) (sz : Int) (w : World) (hsz : sz = size) (h : WriterAt w d r l) (hn : n < 18446744073709551616) (hs : size ≤ 8) (hl : l.length ≤ 1000000000) :
    Calls Tryd.prog 44 #[.pointer (some ⟨d, 0, none⟩), .int .u64 n, .int .i64 sz] w fun e w' => e = .returned (.tuple #[]) ∧ Wrote w d r (l ++ le size n) w' := by
  subst hsz
  go_enter Tryd.func44, Tryd.ntmps44
  go_wp2
  go_loopw [1, 7] (fun v i wr => ∃ k m : Nat, k ≤ size ∧ i = .int .i64 k ∧ v = .int .u64 m ∧ m < 18446744073709551616 ∧ Hid (m = n / 256 ^ k) ∧ Wrote w d r (l ++ le k n) wr) (fun _ i _ => size - (intOf i).toNat)
  case atStart => exact ⟨0, n, Nat.zero_le _, rfl, rfl, hn, by simp [Hid], ⟨r, by simpa [le] using h, .inl rfl⟩, Leaves.refl _ _ _⟩
  case round =>
    obtain ⟨k, m, hk, rfl, rfl, hm, HM, HW⟩ := hrel
    by_cases hlt : k < size
    · obtain ⟨⟨r1, W1, hr1⟩, hL⟩ := HW
      have hlen : (l ++ le k n).length = l.length + k := by rw [List.length_append, length_le]
      obtain ⟨L, eL⟩ : ∃ L, L = l ++ le k n := ⟨_, rfl⟩
      rw [← eL] at W1 hlen
      have EL := hide eL
      clear eL h
      obtain ⟨A, c, c0, f0, own, hrow, hlc, hdw⟩ := W1.reads
      have hlo : (m : Int) % 256 = ((lo8 m).toNat : Int) := by rw [lo8_toNat]; omega
      have HL := hide hlen
      clear hlen
      have HROW := hide hrow
      clear hrow
      have i1 : (k : Int) < size := by omega
      go_wp2_with (at_builtin; refine wpList_pushL elU8 own (.int .u8 ((lo8 m).toNat : Int)) rfl _ _ rfl rfl rfl rfl (by have := HL.out; omega) (by omega) ?_; intro A4 c4 w4 p4 g4; have kd : w4.heap[d]? = wr.heap[d]? := g4.block d hdw (own_apart own (by omega)); have k0 := (World.cell?_of_block (a := ⟨d, 0, none⟩) kd).trans c0; have kf := (World.frozen?_of_block (a := ⟨d, 0, none⟩) kd).trans f0; clear kd)
      obtain ⟨r2, W2, hr2, hL2⟩ := W1.grow (l' := L ++ [lo8 m]) (N := L.length + 1) c0 (by simp) (by simpa [u8s] using p4.own) (by rw [← HROW.out]; exact g4) (by
        rcases p4.lies with h1 | h1
        · exact .inl (h1.trans HROW.out)
        · exact .inr fun g hg => by rw [h1] at hg; simp at hg; omega)
      go_roundw
      case rel => exact ⟨k + 1, m / 256, by omega, by go_num, by go_num, by omega, (by show m / 256 = n / 256 ^ (k + 1); rw [HM.out, Nat.div_div_eq_div_mul, Nat.pow_succ]), by rw [le_snoc, ← List.append_assoc, ← EL.out, ← HM.out]; exact Wrote.next hL hr1 ⟨⟨r2, W2, hr2⟩, hL2⟩⟩
      case measure => simp [intOf]; omega
    · obtain rfl : k = size := by omega
      go_wp2
      go_end0
      exact ⟨rfl, HW⟩
/-- What a number's lowest eight bytes are. -/
def u64N (n : Int) : Nat := (n % 18446744073709551616).toNat
theorem u64N_eq (n : Int) : IntKind.u64.wrap n = ((u64N n : Nat) : Int) := by rw [IntKind.wrap_u64]; unfold u64N; omega
theorem u64N_lt (n : Int) : u64N n < 18446744073709551616 := by unfold u64N; omega
theorem byte_any (d : Nat) (r : Option Nat) (l : List UInt8) (n : Int) (w : World) (h : WriterAt w d r l) (hl : l.length ≤ 1000000000) :
    Calls Tryd.prog 26 #[.pointer (some ⟨d, 0, none⟩), .int .i64 n] w fun e w' => e = .returned (.tuple #[]) ∧ Wrote w d r (l ++ le 1 (u64N n)) w' := by
  have hu := u64N_eq n
  go_enter Tryd.func26, Tryd.ntmps26
  go_wp2_with fail
  refine (put_any d r l (u64N n) 1 1 _ rfl h (u64N_lt n) (by omega) hl).mono ?_
  rintro e w1 ⟨rfl, hw⟩
  go_wp2_with fail
  go_end0
  exact ⟨rfl, hw⟩
theorem long_any (d : Nat) (r : Option Nat) (l : List UInt8) (n : Int) (w : World) (h : WriterAt w d r l) (hl : l.length ≤ 1000000000) :
    Calls Tryd.prog 27 #[.pointer (some ⟨d, 0, none⟩), .int .i64 n] w fun e w' => e = .returned (.tuple #[]) ∧ Wrote w d r (l ++ le 8 (u64N n)) w' := by
  have hu := u64N_eq n
  go_enter Tryd.func27, Tryd.ntmps27
  go_wp2_with fail
  refine (put_any d r l (u64N n) 8 8 _ rfl h (u64N_lt n) (by omega) hl).mono ?_
  rintro e w1 ⟨rfl, hw⟩
  go_wp2_with fail
  go_end0
  exact ⟨rfl, hw⟩
theorem sum_any (d : Nat) (r : Option Nat) (l : List UInt8) (n : Nat) (w : World) (h : WriterAt w d r l) (hl : l.length ≤ 1000000000) (hn : n < 4294967296) :
    Calls Tryd.prog 41 #[.pointer (some ⟨d, 0, none⟩), .int .u32 n] w fun e w' => e = .returned (.tuple #[]) ∧ Wrote w d r (l ++ le 4 n) w' := by
  go_enter Tryd.func41, Tryd.ntmps41
  go_wp2_with fail
  refine (put_any d r l n 4 4 _ rfl h (by omega) (by omega) hl).mono ?_
  rintro e w1 ⟨rfl, hw⟩
  go_wp2_with fail
  go_end0
  exact ⟨rfl, hw⟩
theorem done_any (d : Nat) (r : Option Nat) (l : List UInt8) (w : World) (h : WriterAt w d r l) (hl : l.length ≤ 1000000000) :
    Calls Tryd.prog 28 #[.pointer (some ⟨d, 0, none⟩)] w (FreshB w l) := by
  obtain ⟨A, c, c0, f0, own, hrow, hlc, hdw⟩ := h.reads
  go_enter Tryd.func28, Tryd.ntmps28
  go_wp2_with fail
  refine (clone_any A l.length c l _ rfl (by omega) (Cells.of_own own)).mono ?_
  rintro e w' ⟨A', c', rfl, hf⟩
  go_wp2_with fail
  go_ret
  exact ⟨_, _, rfl, hf⟩
/-- A text behind its length. -/
def textL (s : List UInt8) : List UInt8 := lo8 (min s.length 255) :: s.take 255
theorem length_textL (s : List UInt8) : (textL s).length = min s.length 255 + 1 := by simp [textL]; omega
end Go.Proofs.YtbfjdhbgpjenbaaDoor
