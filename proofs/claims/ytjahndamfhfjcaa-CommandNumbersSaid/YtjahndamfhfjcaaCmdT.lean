/-
  Commands as types of their own. (Printed by tools/gen6t.py.)
-/
import Derived.Test.YtjahndamfhfjcaaCmdD
import Derived.Test.YtjahndamfhfjcaaPut4
import Derived.Laws.StructEq
import Derived.Laws.Cover3
namespace Go.Proofs.Ytjahndamfhfjcaa
open Go.RowKit
set_option linter.unusedVariables false

@[go_sem] theorem mkO (x : Value) (w : World) : (Instr.makeInterface 42 x).run Try.prog w = .ok (.iface 42 x) w := run_makeInterface w 42 x (by kernel_rfl)
@[go_sem] theorem asOO (v : Value) (w : World) : (Instr.typeAssert (.iface 42 v) 20 42 true).run Try.prog w = .ok (.tuple #[v, .bool true]) w := by kernel_rfl
@[go_sem] theorem asOW (v : Value) (w : World) : (Instr.typeAssert (.iface 42 v) 20 46 true).run Try.prog w = .ok (.tuple #[.agg #[.int .i64 0], .bool false]) w := by kernel_rfl
@[go_sem] theorem asOC (v : Value) (w : World) : (Instr.typeAssert (.iface 42 v) 20 49 true).run Try.prog w = .ok (.tuple #[.agg #[.int .i64 0, .int .i64 0], .bool false]) w := by kernel_rfl
@[go_sem] theorem asOH (v : Value) (w : World) : (Instr.typeAssert (.iface 42 v) 20 52 true).run Try.prog w = .ok (.tuple #[.agg #[.int .i64 0, .int .i64 0, .int .i64 0], .bool false]) w := by kernel_rfl
@[go_sem] theorem nilO (w : World) : (Instr.typeAssert .nilIface 20 42 true).run Try.prog w = .ok (.tuple #[.agg #[.int .i64 0, .int .i64 0, .int .i64 0, .int .i64 0, .int .i64 0, .int .i64 0, .int .i64 0, .string ByteArray.empty], .bool false]) w := by kernel_rfl
@[go_sem] theorem mkW (x : Value) (w : World) : (Instr.makeInterface 46 x).run Try.prog w = .ok (.iface 46 x) w := run_makeInterface w 46 x (by kernel_rfl)
@[go_sem] theorem asWO (v : Value) (w : World) : (Instr.typeAssert (.iface 46 v) 20 42 true).run Try.prog w = .ok (.tuple #[.agg #[.int .i64 0, .int .i64 0, .int .i64 0, .int .i64 0, .int .i64 0, .int .i64 0, .int .i64 0, .string ByteArray.empty], .bool false]) w := by kernel_rfl
@[go_sem] theorem asWW (v : Value) (w : World) : (Instr.typeAssert (.iface 46 v) 20 46 true).run Try.prog w = .ok (.tuple #[v, .bool true]) w := by kernel_rfl
@[go_sem] theorem asWC (v : Value) (w : World) : (Instr.typeAssert (.iface 46 v) 20 49 true).run Try.prog w = .ok (.tuple #[.agg #[.int .i64 0, .int .i64 0], .bool false]) w := by kernel_rfl
@[go_sem] theorem asWH (v : Value) (w : World) : (Instr.typeAssert (.iface 46 v) 20 52 true).run Try.prog w = .ok (.tuple #[.agg #[.int .i64 0, .int .i64 0, .int .i64 0], .bool false]) w := by kernel_rfl
@[go_sem] theorem nilW (w : World) : (Instr.typeAssert .nilIface 20 46 true).run Try.prog w = .ok (.tuple #[.agg #[.int .i64 0], .bool false]) w := by kernel_rfl
@[go_sem] theorem mkC (x : Value) (w : World) : (Instr.makeInterface 49 x).run Try.prog w = .ok (.iface 49 x) w := run_makeInterface w 49 x (by kernel_rfl)
@[go_sem] theorem asCO (v : Value) (w : World) : (Instr.typeAssert (.iface 49 v) 20 42 true).run Try.prog w = .ok (.tuple #[.agg #[.int .i64 0, .int .i64 0, .int .i64 0, .int .i64 0, .int .i64 0, .int .i64 0, .int .i64 0, .string ByteArray.empty], .bool false]) w := by kernel_rfl
@[go_sem] theorem asCW (v : Value) (w : World) : (Instr.typeAssert (.iface 49 v) 20 46 true).run Try.prog w = .ok (.tuple #[.agg #[.int .i64 0], .bool false]) w := by kernel_rfl
@[go_sem] theorem asCC (v : Value) (w : World) : (Instr.typeAssert (.iface 49 v) 20 49 true).run Try.prog w = .ok (.tuple #[v, .bool true]) w := by kernel_rfl
@[go_sem] theorem asCH (v : Value) (w : World) : (Instr.typeAssert (.iface 49 v) 20 52 true).run Try.prog w = .ok (.tuple #[.agg #[.int .i64 0, .int .i64 0, .int .i64 0], .bool false]) w := by kernel_rfl
@[go_sem] theorem nilC (w : World) : (Instr.typeAssert .nilIface 20 49 true).run Try.prog w = .ok (.tuple #[.agg #[.int .i64 0, .int .i64 0], .bool false]) w := by kernel_rfl
@[go_sem] theorem mkH (x : Value) (w : World) : (Instr.makeInterface 52 x).run Try.prog w = .ok (.iface 52 x) w := run_makeInterface w 52 x (by kernel_rfl)
@[go_sem] theorem asHO (v : Value) (w : World) : (Instr.typeAssert (.iface 52 v) 20 42 true).run Try.prog w = .ok (.tuple #[.agg #[.int .i64 0, .int .i64 0, .int .i64 0, .int .i64 0, .int .i64 0, .int .i64 0, .int .i64 0, .string ByteArray.empty], .bool false]) w := by kernel_rfl
@[go_sem] theorem asHW (v : Value) (w : World) : (Instr.typeAssert (.iface 52 v) 20 46 true).run Try.prog w = .ok (.tuple #[.agg #[.int .i64 0], .bool false]) w := by kernel_rfl
@[go_sem] theorem asHC (v : Value) (w : World) : (Instr.typeAssert (.iface 52 v) 20 49 true).run Try.prog w = .ok (.tuple #[.agg #[.int .i64 0, .int .i64 0], .bool false]) w := by kernel_rfl
@[go_sem] theorem asHH (v : Value) (w : World) : (Instr.typeAssert (.iface 52 v) 20 52 true).run Try.prog w = .ok (.tuple #[v, .bool true]) w := by kernel_rfl
@[go_sem] theorem nilH (w : World) : (Instr.typeAssert .nilIface 20 52 true).run Try.prog w = .ok (.tuple #[.agg #[.int .i64 0, .int .i64 0, .int .i64 0], .bool false]) w := by kernel_rfl
@[go_sem] theorem must (v : Value) (w : World) : (Instr.typeAssert (.iface 42 v) 20 42 false).run Try.prog w = .ok v w := by kernel_rfl
def Cmd.oval (c : Cmd) : Value := .agg #[.int .i64 c.id, .int .i64 c.inst, .int .i64 c.side, .int .i64 c.price, .int .i64 c.qty, .int .i64 c.least, .int .i64 c.time, .string (str c.lab)]
def vOrder (c : Cmd) : Value := .agg #[.iface 42 c.oval]
def vWith (id : Int) : Value := .agg #[.iface 46 (.agg #[.int .i64 id])]
def vCut (id qty : Int) : Value := .agg #[.iface 49 (.agg #[.int .i64 id, .int .i64 qty])]
def vChange (id price qty : Int) : Value := .agg #[.iface 52 (.agg #[.int .i64 id, .int .i64 price, .int .i64 qty])]
def vNone : Value := .agg #[.nilIface]
set_option maxHeartbeats 800000 in
theorem cOrder_any (c : Cmd) (w : World) : Calls Try.prog 16 #[c.oval] w fun e w' => e = .returned (vOrder c) ∧ Below w.heap.size w w' := by
  obtain ⟨k, i, n, s, p, q, l, t, lb⟩ := c
  show Calls Try.prog 16 #[.agg #[.int .i64 i, .int .i64 n, .int .i64 s, .int .i64 p, .int .i64 q, .int .i64 l, .int .i64 t, .string (str lb)]] w _
  go_enter Try.func16, Try.ntmps16
  go_wp2_with fail
  refine bodyPost_ret (v := vOrder ⟨k, i, n, s, p, q, l, t, lb⟩) (by simp [results, Try.results16, go_sem]; try rfl) rfl ?_
  exact ⟨rfl, nxt_alloc (nxt_alloc (Below.refl _ _) _) _⟩
set_option maxHeartbeats 800000 in
theorem cWith_any (id : Int) (w : World) : Calls Try.prog 18 #[.agg #[.int .i64 id]] w fun e w' => e = .returned (vWith id) ∧ Below w.heap.size w w' := by
  go_enter Try.func18, Try.ntmps18
  go_wp2_with fail
  refine bodyPost_ret (v := vWith id) (by simp [results, Try.results18, go_sem]; try rfl) rfl ?_
  exact ⟨rfl, nxt_alloc (nxt_alloc (Below.refl _ _) _) _⟩
set_option maxHeartbeats 800000 in
theorem cCut_any (id qty : Int) (w : World) : Calls Try.prog 19 #[.agg #[.int .i64 id, .int .i64 qty]] w fun e w' => e = .returned (vCut id qty) ∧ Below w.heap.size w w' := by
  go_enter Try.func19, Try.ntmps19
  go_wp2_with fail
  refine bodyPost_ret (v := vCut id qty) (by simp [results, Try.results19, go_sem]; try rfl) rfl ?_
  exact ⟨rfl, nxt_alloc (nxt_alloc (Below.refl _ _) _) _⟩
set_option maxHeartbeats 800000 in
theorem cChange_any (id price qty : Int) (w : World) : Calls Try.prog 20 #[.agg #[.int .i64 id, .int .i64 price, .int .i64 qty]] w fun e w' => e = .returned (vChange id price qty) ∧ Below w.heap.size w w' := by
  go_enter Try.func20, Try.ntmps20
  go_wp2_with fail
  refine bodyPost_ret (v := vChange id price qty) (by simp [results, Try.results20, go_sem]; try rfl) rfl ?_
  exact ⟨rfl, nxt_alloc (nxt_alloc (Below.refl _ _) _) _⟩
set_option maxHeartbeats 800000 in
theorem order6_any (c : Cmd) (w : World) : Calls Try.prog 17 #[c.val] w fun e w' => e = .returned (c.oval) ∧ Below w.heap.size w w' := by
  obtain ⟨k, i, n, s, p, q, l, t, lb⟩ := c
  show Calls Try.prog 17 #[.agg #[.int .i64 k, .int .i64 i, .int .i64 n, .int .i64 s, .int .i64 p, .int .i64 q, .int .i64 l, .int .i64 t, .string (str lb)]] w _
  go_enter Try.func17, Try.ntmps17
  go_wp2_with fail
  refine bodyPost_ret (v := Cmd.oval ⟨k, i, n, s, p, q, l, t, lb⟩) (by simp [results, Try.results17, go_sem]; try rfl) rfl ?_
  exact ⟨rfl, nxt_alloc (nxt_alloc (Below.refl _ _) _) _⟩
set_option maxHeartbeats 800000 in
theorem must_any (c : Cmd) (w : World) : Calls Try.prog 22 #[vOrder c] w fun e w' => e = .returned (c.oval) ∧ Below w.heap.size w w' := by
  obtain ⟨k, i, n, s, p, q, l, t, lb⟩ := c
  show Calls Try.prog 22 #[.agg #[.iface 42 (.agg #[.int .i64 i, .int .i64 n, .int .i64 s, .int .i64 p, .int .i64 q, .int .i64 l, .int .i64 t, .string (str lb)])]] w _
  go_enter Try.func22, Try.ntmps22
  go_wp2_with fail
  refine bodyPost_ret (v := Cmd.oval ⟨k, i, n, s, p, q, l, t, lb⟩) (by simp [results, Try.results22, go_sem]; try rfl) rfl ?_
  exact ⟨rfl, nxt_alloc (nxt_alloc (Below.refl _ _) _) _⟩
set_option maxHeartbeats 1600000 in
theorem of_order (c : Cmd) (w : World) : Calls Try.prog 15 #[vOrder c] w fun e w' => e = .returned (.tuple #[Cmd.val { c with kind := 1 }, .bool true]) ∧ Below w.heap.size w w' := by
  obtain ⟨k, i, n, s, p, q, l, t, lb⟩ := c
  show Calls Try.prog 15 #[.agg #[.iface 42 (.agg #[.int .i64 i, .int .i64 n, .int .i64 s, .int .i64 p, .int .i64 q, .int .i64 l, .int .i64 t, .string (str lb)])]] w _
  go_enter Try.func15, Try.ntmps15
  go_wp2_with fail
  refine bodyPost_ret (v := .tuple #[Cmd.val ⟨1, i, n, s, p, q, l, t, lb⟩, .bool true]) (by simp [results, Try.results15, go_sem]; try rfl) rfl ?_
  exact ⟨rfl, nxt_alloc (nxt_alloc (nxt_alloc (Below.refl _ _) _) _) _⟩
set_option maxHeartbeats 1600000 in
theorem of_with (id : Int) (w : World) : Calls Try.prog 15 #[vWith id] w fun e w' => e = .returned (.tuple #[Cmd.val ⟨2, id, 0, 0, 0, 0, 0, 0, []⟩, .bool true]) ∧ Below w.heap.size w w' := by
  show Calls Try.prog 15 #[.agg #[.iface 46 (.agg #[.int .i64 id])]] w _
  go_enter Try.func15, Try.ntmps15
  go_wp2_with fail
  refine bodyPost_ret (v := .tuple #[Cmd.val ⟨2, id, 0, 0, 0, 0, 0, 0, []⟩, .bool true]) (by simp [results, Try.results15, go_sem]; try rfl) rfl ?_
  exact ⟨rfl, nxt_alloc (nxt_alloc (nxt_alloc (nxt_alloc (Below.refl _ _) _) _) _) _⟩
set_option maxHeartbeats 1600000 in
theorem of_cut (id qty : Int) (w : World) : Calls Try.prog 15 #[vCut id qty] w fun e w' => e = .returned (.tuple #[Cmd.val ⟨3, id, 0, 0, 0, qty, 0, 0, []⟩, .bool true]) ∧ Below w.heap.size w w' := by
  show Calls Try.prog 15 #[.agg #[.iface 49 (.agg #[.int .i64 id, .int .i64 qty])]] w _
  go_enter Try.func15, Try.ntmps15
  go_wp2_with fail
  refine bodyPost_ret (v := .tuple #[Cmd.val ⟨3, id, 0, 0, 0, qty, 0, 0, []⟩, .bool true]) (by simp [results, Try.results15, go_sem]; try rfl) rfl ?_
  exact ⟨rfl, nxt_alloc (nxt_alloc (nxt_alloc (nxt_alloc (nxt_alloc (Below.refl _ _) _) _) _) _) _⟩
set_option maxHeartbeats 1600000 in
theorem of_change (id price qty : Int) (w : World) : Calls Try.prog 15 #[vChange id price qty] w fun e w' => e = .returned (.tuple #[Cmd.val ⟨4, id, 0, 0, price, qty, 0, 0, []⟩, .bool true]) ∧ Below w.heap.size w w' := by
  show Calls Try.prog 15 #[.agg #[.iface 52 (.agg #[.int .i64 id, .int .i64 price, .int .i64 qty])]] w _
  go_enter Try.func15, Try.ntmps15
  go_wp2_with fail
  refine bodyPost_ret (v := .tuple #[Cmd.val ⟨4, id, 0, 0, price, qty, 0, 0, []⟩, .bool true]) (by simp [results, Try.results15, go_sem]; try rfl) rfl ?_
  exact ⟨rfl, nxt_alloc (nxt_alloc (nxt_alloc (nxt_alloc (nxt_alloc (nxt_alloc (Below.refl _ _) _) _) _) _) _) _⟩
set_option maxHeartbeats 1600000 in
theorem of_none  (w : World) : Calls Try.prog 15 #[vNone] w fun e w' => e = .returned (.tuple #[Cmd.val Cmd.zero, .bool false]) ∧ Below w.heap.size w w' := by
  show Calls Try.prog 15 #[.agg #[.nilIface]] w _
  go_enter Try.func15, Try.ntmps15
  go_wp2_with fail
  refine bodyPost_ret (v := .tuple #[Cmd.val Cmd.zero, .bool false]) (by simp [results, Try.results15, go_sem]; try rfl) rfl ?_
  exact ⟨rfl, nxt_alloc (nxt_alloc (nxt_alloc (nxt_alloc (nxt_alloc (nxt_alloc (Below.refl _ _) _) _) _) _) _) _⟩
def vBack (c : Cmd) : Value := if c.kind = 1 then vOrder c else if c.kind = 2 then vWith c.id else if c.kind = 3 then vCut c.id c.qty else if c.kind = 4 then vChange c.id c.price c.qty else vNone
set_option maxHeartbeats 3200000 in
theorem back_any (c : Cmd) (w : World) : Calls Try.prog 14 #[c.val] w fun e w' => e = .returned (vBack c) ∧ Below w.heap.size w w' := by
  obtain ⟨V, eV⟩ : ∃ V, V = vBack c := ⟨_, rfl⟩
  rw [← eV]
  obtain ⟨k, i, n, s, p, q, l, t, lb⟩ := c
  unfold vBack at eV
  simp only at eV
  obtain ⟨wa, ewa⟩ : ∃ wa, wa = (w.alloc (.cells (Cmd.cells ⟨k, i, n, s, p, q, l, t, lb⟩) 23)).alloc (.cells #[.nilIface] 36) := ⟨_, rfl⟩
  obtain ⟨g, eg⟩ : ∃ g, g = w.heap.size := ⟨_, rfl⟩
  have hC : CAt wa g ⟨k, i, n, s, p, q, l, t, lb⟩ := by rw [ewa, eg]; exact (CAt.new _ _).below (nxt_alloc (Below.refl _ _) _)
  have hV : wa.heap[g + 1]? = some (.cells #[.nilIface] 36 (0, 0)) := by rw [ewa, eg]; have := heap_alloc_new (w.alloc (.cells (Cmd.cells ⟨k, i, n, s, p, q, l, t, lb⟩) 23)) (.cells #[.nilIface] 36); simpa using this
  have Ba : Below w.heap.size w wa := by rw [ewa]; exact nxt_alloc (nxt_alloc (Below.refl _ _) _) _
  show Calls Try.prog 14 #[.agg #[.int .i64 k, .int .i64 i, .int .i64 n, .int .i64 s, .int .i64 p, .int .i64 q, .int .i64 l, .int .i64 t, .string (str lb)]] w _
  change wa = (w.alloc (.cells #[.int .i64 k, .int .i64 i, .int .i64 n, .int .i64 s, .int .i64 p, .int .i64 q, .int .i64 l, .int .i64 t, .string (str lb)] 23)).alloc (.cells #[.nilIface] 36) at ewa
  obtain ⟨f0, f1, f2, f3, f4, f5, f6, f7, f8⟩ := hC.reads
  have EV := hide eV
  have HV := hide hV
  have hgs : w.heap.size ≤ g + 1 := by omega
  clear eV hV hC
  go_enter Try.func14, Try.ntmps14
  go_upto_region 1 with (fail)
  rw [← ewa, ← eg]
  clear ewa eg
  by_cases h1 : k = 1
  · have d1 : (k == 1) = true := by simpa using h1
    replace EV := hide (EV.out.trans (if_pos h1))
    clear h1
    go_wp2_with fail
    refine (cOrder_any ⟨k, i, n, s, p, q, l, t, lb⟩ _).mono ?_
    rintro e u ⟨he, b⟩
    replace he : e = .returned (.agg #[(.iface 42 (.agg #[.int .i64 i, .int .i64 n, .int .i64 s, .int .i64 p, .int .i64 q, .int .i64 l, .int .i64 t, .string (str lb)]))]) := he
    subst he
    have hv := (b.block (g + 1) (Array.getElem?_eq_some_iff.1 HV.out).1).trans HV.out
    have fz : u.frozen? ⟨g + 1, 0, none⟩ = false := by simp [World.frozen?, hv]
    have cz : u.cell? ⟨g + 1, 0, none⟩ = some .nilIface := by simp [World.cell?, hv]
    have HU := hide hv
    clear f0 f1 f2 f3 f4 f5 f6 f7 f8 hv
    go_wp2_with fail
    have hz : (World.setCell u ⟨g + 1, 0, none⟩ (.iface 42 (.agg #[.int .i64 i, .int .i64 n, .int .i64 s, .int .i64 p, .int .i64 q, .int .i64 l, .int .i64 t, .string (str lb)]))).heap[g + 1]? = some (.cells #[(.iface 42 (.agg #[.int .i64 i, .int .i64 n, .int .i64 s, .int .i64 p, .int .i64 q, .int .i64 l, .int .i64 t, .string (str lb)]))] 36 (0, 0)) := by rw [heap_setCell_same _ _ _ _ _ _ HU.out]; rfl
    have BZ := (Ba.trans (b.mono Ba.size)).setCell (p := ⟨g + 1, 0, none⟩) hgs (.iface 42 (.agg #[.int .i64 i, .int .i64 n, .int .i64 s, .int .i64 p, .int .i64 q, .int .i64 l, .int .i64 t, .string (str lb)]))
    have rz : (World.setCell u ⟨g + 1, 0, none⟩ (.iface 42 (.agg #[.int .i64 i, .int .i64 n, .int .i64 s, .int .i64 p, .int .i64 q, .int .i64 l, .int .i64 t, .string (str lb)]))).cell? ⟨g + 1, 0, none⟩ = some (.iface 42 (.agg #[.int .i64 i, .int .i64 n, .int .i64 s, .int .i64 p, .int .i64 q, .int .i64 l, .int .i64 t, .string (str lb)])) := by simp only [World.cell?, hz]; rfl
    (try simp only [Exit.inBlock, Exit.then])
    refine bodyPost_ret (v := vOrder ⟨k, i, n, s, p, q, l, t, lb⟩) (by simp [results, Try.results14, go_sem, rz]; try rfl) rfl ?_
    exact ⟨by rw [EV.out], BZ⟩
  replace EV := hide (EV.out.trans (if_neg h1))
  have d1 : (k == 1) = false := by simpa using h1
  clear h1
  by_cases h2 : k = 2
  · have d2 : (k == 2) = true := by simpa using h2
    replace EV := hide (EV.out.trans (if_pos h2))
    clear h2
    go_wp2_with fail
    refine (cWith_any i _).mono ?_
    rintro e u ⟨he, b⟩
    replace he : e = .returned (.agg #[(.iface 46 (.agg #[.int .i64 i]))]) := he
    subst he
    have hv := (b.block (g + 1) (Array.getElem?_eq_some_iff.1 HV.out).1).trans HV.out
    have fz : u.frozen? ⟨g + 1, 0, none⟩ = false := by simp [World.frozen?, hv]
    have cz : u.cell? ⟨g + 1, 0, none⟩ = some .nilIface := by simp [World.cell?, hv]
    have HU := hide hv
    clear f0 f1 f2 f3 f4 f5 f6 f7 f8 hv
    go_wp2_with fail
    have hz : (World.setCell u ⟨g + 1, 0, none⟩ (.iface 46 (.agg #[.int .i64 i]))).heap[g + 1]? = some (.cells #[(.iface 46 (.agg #[.int .i64 i]))] 36 (0, 0)) := by rw [heap_setCell_same _ _ _ _ _ _ HU.out]; rfl
    have BZ := (Ba.trans (b.mono Ba.size)).setCell (p := ⟨g + 1, 0, none⟩) hgs (.iface 46 (.agg #[.int .i64 i]))
    have rz : (World.setCell u ⟨g + 1, 0, none⟩ (.iface 46 (.agg #[.int .i64 i]))).cell? ⟨g + 1, 0, none⟩ = some (.iface 46 (.agg #[.int .i64 i])) := by simp only [World.cell?, hz]; rfl
    (try simp only [Exit.inBlock, Exit.then])
    refine bodyPost_ret (v := vWith i) (by simp [results, Try.results14, go_sem, rz]; try rfl) rfl ?_
    exact ⟨by rw [EV.out], BZ⟩
  replace EV := hide (EV.out.trans (if_neg h2))
  have d2 : (k == 2) = false := by simpa using h2
  clear h2
  by_cases h3 : k = 3
  · have d3 : (k == 3) = true := by simpa using h3
    replace EV := hide (EV.out.trans (if_pos h3))
    clear h3
    go_wp2_with fail
    refine (cCut_any i q _).mono ?_
    rintro e u ⟨he, b⟩
    replace he : e = .returned (.agg #[(.iface 49 (.agg #[.int .i64 i, .int .i64 q]))]) := he
    subst he
    have hv := (b.block (g + 1) (Array.getElem?_eq_some_iff.1 HV.out).1).trans HV.out
    have fz : u.frozen? ⟨g + 1, 0, none⟩ = false := by simp [World.frozen?, hv]
    have cz : u.cell? ⟨g + 1, 0, none⟩ = some .nilIface := by simp [World.cell?, hv]
    have HU := hide hv
    clear f0 f1 f2 f3 f4 f5 f6 f7 f8 hv
    go_wp2_with fail
    have hz : (World.setCell u ⟨g + 1, 0, none⟩ (.iface 49 (.agg #[.int .i64 i, .int .i64 q]))).heap[g + 1]? = some (.cells #[(.iface 49 (.agg #[.int .i64 i, .int .i64 q]))] 36 (0, 0)) := by rw [heap_setCell_same _ _ _ _ _ _ HU.out]; rfl
    have BZ := (Ba.trans (b.mono Ba.size)).setCell (p := ⟨g + 1, 0, none⟩) hgs (.iface 49 (.agg #[.int .i64 i, .int .i64 q]))
    have rz : (World.setCell u ⟨g + 1, 0, none⟩ (.iface 49 (.agg #[.int .i64 i, .int .i64 q]))).cell? ⟨g + 1, 0, none⟩ = some (.iface 49 (.agg #[.int .i64 i, .int .i64 q])) := by simp only [World.cell?, hz]; rfl
    (try simp only [Exit.inBlock, Exit.then])
    refine bodyPost_ret (v := vCut i q) (by simp [results, Try.results14, go_sem, rz]; try rfl) rfl ?_
    exact ⟨by rw [EV.out], BZ⟩
  replace EV := hide (EV.out.trans (if_neg h3))
  have d3 : (k == 3) = false := by simpa using h3
  clear h3
  by_cases h4 : k = 4
  · have d4 : (k == 4) = true := by simpa using h4
    replace EV := hide (EV.out.trans (if_pos h4))
    clear h4
    go_wp2_with fail
    refine (cChange_any i p q _).mono ?_
    rintro e u ⟨he, b⟩
    replace he : e = .returned (.agg #[(.iface 52 (.agg #[.int .i64 i, .int .i64 p, .int .i64 q]))]) := he
    subst he
    have hv := (b.block (g + 1) (Array.getElem?_eq_some_iff.1 HV.out).1).trans HV.out
    have fz : u.frozen? ⟨g + 1, 0, none⟩ = false := by simp [World.frozen?, hv]
    have cz : u.cell? ⟨g + 1, 0, none⟩ = some .nilIface := by simp [World.cell?, hv]
    have HU := hide hv
    clear f0 f1 f2 f3 f4 f5 f6 f7 f8 hv
    go_wp2_with fail
    have hz : (World.setCell u ⟨g + 1, 0, none⟩ (.iface 52 (.agg #[.int .i64 i, .int .i64 p, .int .i64 q]))).heap[g + 1]? = some (.cells #[(.iface 52 (.agg #[.int .i64 i, .int .i64 p, .int .i64 q]))] 36 (0, 0)) := by rw [heap_setCell_same _ _ _ _ _ _ HU.out]; rfl
    have BZ := (Ba.trans (b.mono Ba.size)).setCell (p := ⟨g + 1, 0, none⟩) hgs (.iface 52 (.agg #[.int .i64 i, .int .i64 p, .int .i64 q]))
    have rz : (World.setCell u ⟨g + 1, 0, none⟩ (.iface 52 (.agg #[.int .i64 i, .int .i64 p, .int .i64 q]))).cell? ⟨g + 1, 0, none⟩ = some (.iface 52 (.agg #[.int .i64 i, .int .i64 p, .int .i64 q])) := by simp only [World.cell?, hz]; rfl
    (try simp only [Exit.inBlock, Exit.then])
    refine bodyPost_ret (v := vChange i p q) (by simp [results, Try.results14, go_sem, rz]; try rfl) rfl ?_
    exact ⟨by rw [EV.out], BZ⟩
  replace EV := hide (EV.out.trans (if_neg h4))
  have d4 : (k == 4) = false := by simpa using h4
  clear h4
  have fz : wa.frozen? ⟨g + 1, 0, none⟩ = false := by simp [World.frozen?, HV.out]
  have cz : wa.cell? ⟨g + 1, 0, none⟩ = some .nilIface := by simp [World.cell?, HV.out]
  go_wp2_with fail
  have hz : (World.setCell wa ⟨g + 1, 0, none⟩ .nilIface).heap[g + 1]? = some (.cells #[.nilIface] 36 (0, 0)) := by rw [heap_setCell_same _ _ _ _ _ _ HV.out]; rfl
  have BZ := Ba.setCell (p := ⟨g + 1, 0, none⟩) hgs .nilIface
  have rz : (World.setCell wa ⟨g + 1, 0, none⟩ .nilIface).cell? ⟨g + 1, 0, none⟩ = some .nilIface := by simp only [World.cell?, hz]; rfl
  (try simp only [Exit.inBlock, Exit.then])
  refine bodyPost_ret (v := vNone) (by simp [results, Try.results14, go_sem, rz]; try rfl) rfl ?_
  exact ⟨by rw [EV.out], BZ⟩
set_option maxHeartbeats 3200000 in
theorem asked_any (c : Cmd) (w : World) : Calls Try.prog 21 #[c.val] w fun e w' => e = .returned (Cmd.val (askedC c)) ∧ Below w.heap.size w w' := by
  obtain ⟨V, eV⟩ : ∃ V, V = askedC c := ⟨_, rfl⟩
  rw [← eV]
  obtain ⟨k, i, n, s, p, q, l, t, lb⟩ := c
  unfold askedC at eV
  simp only at eV
  have EV := hide eV
  clear eV
  show Calls Try.prog 21 #[.agg #[.int .i64 k, .int .i64 i, .int .i64 n, .int .i64 s, .int .i64 p, .int .i64 q, .int .i64 l, .int .i64 t, .string (str lb)]] w _
  go_enter Try.func21, Try.ntmps21
  by_cases h1 : k = 1
  · have d1 : (k == 1) = true := by simpa using h1
    replace EV := hide (EV.out.trans (if_pos h1))
    clear h1
    go_wp2_with fail
    (try simp only [Exit.inBlock, Exit.then])
    refine bodyPost_ret (v := Cmd.val ⟨k, i, n, s, p, q, l, t, lb⟩) (by simp [results, Try.results21, go_sem]; try rfl) rfl ?_
    exact ⟨by rw [EV.out], nxt_alloc (nxt_alloc (Below.refl _ _) _) _⟩
  replace EV := hide (EV.out.trans (if_neg h1))
  have d1 : (k == 1) = false := by simpa using h1
  clear h1
  by_cases h2 : k = 2
  · have d2 : (k == 2) = true := by simpa using h2
    replace EV := hide (EV.out.trans (if_pos h2))
    clear h2
    go_wp2_with fail
    (try simp only [Exit.inBlock, Exit.then])
    refine bodyPost_ret (v := Cmd.val ⟨k, i, 0, 0, 0, 0, 0, 0, []⟩) (by simp [results, Try.results21, go_sem]; try rfl) rfl ?_
    exact ⟨by rw [EV.out]; rfl, nxt_alloc (nxt_alloc (Below.refl _ _) _) _⟩
  replace EV := hide (EV.out.trans (if_neg h2))
  have d2 : (k == 2) = false := by simpa using h2
  clear h2
  by_cases h3 : k = 3
  · have d3 : (k == 3) = true := by simpa using h3
    replace EV := hide (EV.out.trans (if_pos h3))
    clear h3
    go_wp2_with fail
    (try simp only [Exit.inBlock, Exit.then])
    refine bodyPost_ret (v := Cmd.val ⟨k, i, 0, 0, 0, q, 0, 0, []⟩) (by simp [results, Try.results21, go_sem]; try rfl) rfl ?_
    exact ⟨by rw [EV.out]; rfl, nxt_alloc (nxt_alloc (Below.refl _ _) _) _⟩
  replace EV := hide (EV.out.trans (if_neg h3))
  have d3 : (k == 3) = false := by simpa using h3
  clear h3
  by_cases h4 : k = 4
  · have d4 : (k == 4) = true := by simpa using h4
    replace EV := hide (EV.out.trans (if_pos h4))
    clear h4
    go_wp2_with fail
    (try simp only [Exit.inBlock, Exit.then])
    refine bodyPost_ret (v := Cmd.val ⟨k, i, 0, 0, p, q, 0, 0, []⟩) (by simp [results, Try.results21, go_sem]; try rfl) rfl ?_
    exact ⟨by rw [EV.out]; rfl, nxt_alloc (nxt_alloc (Below.refl _ _) _) _⟩
  replace EV := hide (EV.out.trans (if_neg h4))
  have d4 : (k == 4) = false := by simpa using h4
  clear h4
  go_wp2_with fail
  (try simp only [Exit.inBlock, Exit.then])
  refine bodyPost_ret (v := Cmd.val Cmd.zero) (by simp [results, Try.results21, go_sem]; try rfl) rfl ?_
  exact ⟨by rw [EV.out], nxt_alloc (nxt_alloc (Below.refl _ _) _) _⟩
/-- A command whose label is cut. -/
def shortC (c : Cmd) : Cmd := { c with lab := c.lab.take 60 }
theorem short_wf {c : Cmd} (h : c.wf) : (shortC c).wf := ⟨h.kind, h.id, h.inst, h.side, h.price, h.qty, h.least, h.time, by show (c.lab.take 60).length ≤ _; rw [List.length_take]; omega⟩
theorem headS_str (l : List UInt8) (n : Nat) : headS (str l) n = str (l.take n) := by
  have h := headS_list (str l) n
  rw [show (str l).data.toList = l by simp [str]] at h
  rw [← str_self (headS (str l) n), h]
set_option maxHeartbeats 1600000 in
theorem short_any (c : Cmd) (hl : c.lab.length ≤ 9223372036854775807) (w : World) : Calls Try.prog 9 #[c.val] w fun e w' => e = .returned (Cmd.val (shortC c)) ∧ Below w.heap.size w w' := by
  obtain ⟨k, i, n, s, p, q, l, t, lb⟩ := c
  simp only at hl
  show Calls Try.prog 9 #[.agg #[.int .i64 k, .int .i64 i, .int .i64 n, .int .i64 s, .int .i64 p, .int .i64 q, .int .i64 l, .int .i64 t, .string (str lb)]] w _
  go_enter Try.func9, Try.ntmps9
  go_wp2_with fail
  refine (head_any (str lb) 60 60 _ rfl (by rw [str_size]; exact hl)).mono ?_
  rw [headS_str]
  rintro e u ⟨rfl, rfl⟩
  go_wp2_with fail
  (try simp only [Exit.inBlock, Exit.then])
  refine bodyPost_ret (v := Cmd.val ⟨k, i, n, s, p, q, l, t, lb.take 60⟩) (by simp [results, Try.results9, go_sem]; try rfl) rfl ?_
  exact ⟨rfl, nxt_alloc (nxt_alloc (Below.refl _ _) _) _⟩
end Go.Proofs.Ytjahndamfhfjcaa
