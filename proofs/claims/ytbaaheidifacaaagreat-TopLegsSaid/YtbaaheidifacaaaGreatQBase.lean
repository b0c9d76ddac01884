import Derived.WalkKit
import Derived.BigQuiet
import Derived.Deep.QuietTactic
import Derived.Maps.AppendAt
import Derived.Test.YtbaaheidifacaaaGreatProg
set_option linter.defProp false
set_option linter.unusedVariables false
set_option linter.unusedSimpArgs false
set_option maxRecDepth 100000
set_option maxHeartbeats 12800000
namespace Go.Proofs.YtbaaheidifacaaaGreat
variable {A:Option Addr} {B base base' c g i j k m size:Nat} {F:Nat→Prop} {K:Act→World→Prop} {L ps:List Nat} {Ls:List (List Nat)} {P:Program} {Q:Exit→Act→World→Prop} {R:Ending→World→Prop} {T e:TypeId} {a:Act} {b bs d l zs:List Int} {cs:Array Value} {least q x y:Int} {news us xs:List Value} {o:Oper} {ops:Array Oper} {r row:Option Nat} {rest:List Oper} {v:Value} {w w' w'' w0 wa:World}
open Go.RowKit
def aa:=@Below.refl
def af:=@Nat.le_refl
def aj:=@List.getElem?_eq_getElem
def av:=@Below.heap_setCell
def az:=@List.getElem?_eq_some_iff
def aA:=@Nat.lt_of_lt_of_le
def aB:=@Nat.zero_le
def aC:=@List.length_append
def aD:=@List.getElem?_set_self
def aF:=@Nat.le_trans
def aG:=@List.getElem?_of_mem
def aH:=@List.mem_of_getElem?
def aJ:=@List.mem_append
def aL:=@List.take_of_length_le
def aM:=@World.ownsRow_nil
def aN:=@IntWalk.i64_in
def aP:=@List.eq_nil_of_length_eq_zero
def aU:=@Array.getElem?_eq_some_iff
def aV:=@List.mem_map
def aW:=@List.map_cons
def aY:=@World.frozen?_of_block
def aZ:=@List.getElem?_set_ne
def a9:=@List.mem_cons
def bg:=@Nat.add_assoc
def bj:=@List.flatMap_cons
def bo:=@List.getElem?_map
def br:=@List.length_map
def bu:=@Nat.le_of_eq
def bB:=@List.mem_cons_of_mem
def bC:=@List.take_add_one
def bD:=@List.append_assoc
def bI:=@List.length_cons
def bJ:=@List.length_take
def bK:=@List.getElem?_append_right
def bW:=@Option.some.inj
def bX:=@List.getElem?_append_left
def cg:=@List.mem_cons_self
def cu:=@List.length_drop
def cw:=@World.size_alloc
def cx:=@List.map_append
def cE:=@List.mem_of_mem_eraseIdx
def cG:=@Bool.eq_false_or_eq_true
def cI:=@World.ownsRow_lit
def cJ:=@List.map_congr_left
def cM:=@Int.le_refl
def cN:=@List.sum_cons
def cO:=@List.getElem?_eq_none
def cP:=@Nat.lt_succ_self
def di:=@List.map_map
def dm:=@Bool.false_eq_true
def dr:=@List.filterMap_cons
def du:=@Below.heap_alloc
def dv:=@Bool.and_eq_true
def dw:=@List.nodup_append
def dD:=@List.mem_flatMap
def dE:=@List.take_length
def dY:=@Array.getElem?_eq_getElem
def ec:=@Nat.zero_add
def ee:=@List.mem_filterMap
def fc:=@Option.map_some
def fe:=@List.append_nil
def fA:=@List.ext_getElem?
def fN:=@List.all_eq_true
def fO:=@List.cons_append
def gf:=@Option.some.injEq
def gh:=@Int.mul_le_mul_of_nonneg_left
def gz:=@List.getElem?_zipWith
def gB:=@List.getElem?_take_of_lt
def gC:=@IntWalk.u64_in
def gK:=@World.cell?_of_block
def gL:=@IntKind.wrap_u64
def gM:=@List.getElem?_replicate
def gN:=@List.filter_cons
def iu:=@List.length_pos_iff
def iB:=@List.drop_eq_getElem_cons
def iG:=@List.take_append_drop
def iM:=@List.map_nil
def iN:=@Int.mul_zero
def iR:=@Nat.mul_le_mul_right
def iT:=@List.mem_range
def iU:=@List.length_eraseIdx
def iV:=@Below.alloc
def jk:=@Int.tmod_eq_zero_of_dvd
def jn:=@List.length_set
def jF:=@Nat.eq_zero_or_pos
def jG:=@Int.mul_nonneg
def jH:=@List.getElem?_drop
def jI:=@List.getD_eq_getElem?_getD
def ko:=@Nat.mul_comm
def kp:=@Nat.zero_mul
def ku:=@Int.mul_sub
def kv:=@List.mem_iff_getElem
def kQ:=@World.block_lt_of_cell?
def lH:=@Nat.add_mul
def lI:=@List.take_append_of_le_length
def lM:=@Int.mul_comm
def lN:=@Array.getElem?_eq_none
def lO:=@Nat.add_zero
def lQ:=@World.size_setCell
def lX:=@List.mem_filter
def lY:=@Int.natCast_mul
def lZ:=@List.length_nil
def mf:=@Below.setCell
def mD:=@Int.toNat_natCast
def mS:=@World.cell?_alloc_at
def mT:=@List.mem_of_mem_take
def nv:=@List.getElem_mem
def nw:=@List.perm_middle
def ny:=@Classical.byContradiction
def nz:=@List.pairwise_iff_getElem
def nA:=@List.length_take_le
def nB:=@List.take_succ_cons
def nU:=@Option.isSome_iff_exists
def oe:=@List.cons.injEq
def oF:=@Nat.mod_lt
def oG:=@Option.isSome_some
def po:=@Nat.le_of_lt
def pq:=@Nat.lt_or_ge
def pw:=@Nat.pow_succ
def px:=@List.take_take
def py:=@IntWalk.wrap64_in
def p9:=@List.eraseIdx_eq_take_drop_succ
def qg:=@List.perm_append_comm
def qh:=@List.filterMap_append
def qi:=@List.length_filter_le
def qm:=@List.map_toArray
def qo:=@Option.getD_some
def qu:=@List.mem_eraseIdx_iff_getElem?
def qM:=@Nat.mul_assoc
def qV:=@Region.noSelect_spec
def qW:=@Int.one_mul
def qX:=@Nat.le_succ
def rP:=@Nat.min_eq_left
def rQ:=@List.take_left'
def rR:=@List.flatMap_append
def rS:=@List.getElem?_range
def rT:=@List.findSome?_cons
def tu:=@World.grownBy.refl
def tv:=@Nat.add_sub_cancel
def tx:=@List.mem_replicate
def tz:=@List.pairwise_cons
def tA:=@Int.mul_le_mul
def tB:=@Option.toList_some
def tC:=@Option.isSome_none
def uO:=@List.mem_or_eq_of_mem_set
def uP:=@List.mem_of_find?_eq_some
def vC:=@Bool.not_eq_true'
def vD:=@List.getElem?_inj
def vF:=@List.pairwise_map
def vK:=@List.length_filterMap_le
def xc:=@Int.eq_ofNat_of_zero_le
def xd:=@List.not_mem_nil
def yg:=@Below.mono
def yh:=@Int.ediv_nonneg
def yi:=@Nat.div_add_mod
def yj:=@Nat.div_le_self
def yk:=@List.nodup_cons
def yl:=@List.range_succ
def ym:=@Nat.zero_ne_one
def yn:=@Nat.one_ne_zero
def yX:=@List.set_append_right
def zN:=@Int.mul_add
def zO:=@Nat.pow_le_pow_right
def zP:=@List.getElem?_modify
def zQ:=@DataW.held.inj
def zR:=@Bool.or_eq_false_iff
def Dv:=@Nat.mul_le_mul_left
def DV:=@List.getElem?_take
def DY:=@Int.emod_lt_of_pos
def DZ:=@List.find?_eq_none
def Ea:=@List.filter_append
def He:=@Int.lt_or_le
def Hf:=@Int.add_zero
def Hg:=@List.size_toArray
def Hh:=@List.foldl_append
def Hi:=@List.exists_of_findSome?_eq_some
def Hk:=@Array.getElem?_setIfInBounds_ne
def J8:=@List.isEmpty_iff
def J9:=@Region.free_spec
def Kc:=@List.mem_flatten
def Kh:=@Nat.one_mul
def Ki:=@Nat.mul_add
def Kj:=@Nat.pow_pos
def Kk:=@Int.dvd_neg
def MR:=@List.sum_append
def MS:=@Int.natCast_add
def MT:=@Int.emod_nonneg
def MU:=@Bool.or_eq_true
def MV:=@List.find?_some
def MW:=@List.foldl_cons
def N4:=@Nat.mul_lt_mul_of_pos_right
def QA:=@List.take_zero
def QB:=@Array.toList_setIfInBounds
def QC:=@List.drop_drop
def QD:=@List.findSome?_eq_none_iff
def QE:=@List.exists_cons_of_ne_nil
def QK:=@List.isEmpty_eq_false_iff
def QL:=@List.sublist_append_right
def TE:=@Bool.not_true
def TF:=@Array.setIfInBounds_comm
def TG:=@List.sublist_append_left
def TH:=@Int.dvd_iff_emod_eq_zero
def TK:=@Int.dvd_of_emod_eq_zero
def TL:=@Int.emod_eq_zero_of_dvd
def Vg:=@Option.map_eq_some_iff
def Vh:=@List.zipWith_cons_cons
def Vi:=@Nat.add_comm
def Vj:=@List.drop_eq_nil_of_le
def Vk:=@List.map_set
def Vl:=@List.getElem?_eraseIdx
def Vm:=@List.drop_of_length_le
def Vn:=@Nat.sub_self
def Vo:=@Nat.div_div_eq_div_mul
def V5:=@Nat.div_lt_iff_lt_mul
def V6:=@Nat.mul_div_mul_right
def V7:=@List.eraseIdx_sublist
def Xd:=@Nat.pow_add
def Xe:=@Nat.min_def
def Xg:=@List.replicate_succ
def Xh:=@List.length_flatten
def ZE:=@Eq.trans
def Hid (p:Prop):Prop:=p
theorem Hid.h {p:Prop} (h:Hid p):p:=h
theorem ae {p:Prop} (h:p:=by omega):p:=h
theorem bT {p:Prop} (h:p:=by simp):p:=h
theorem iW {p:Prop} (h:p:=by simp;omega):p:=h
theorem cA {a p:Prop} (x:a) (h:a→p:=by intro hZ;omega):p:=h x
theorem jE {a b p:Prop} (x:a) (y:b) (h:a→b→p:=by intro hY hZ;omega):p:=h x y
theorem QF {a b c p:Prop} (x:a) (y:b) (z:c) (h:a→b→c→p:=by intro hX hY hZ;omega):p:=h x y z
theorem dF {a b:Prop} (A:a) (B:b):Hid a∧Hid b:=⟨A,B⟩
theorem fY {a b c:Prop} (A:a) (B:b) (C:c):Hid a∧Hid b∧Hid c:=⟨A,B,C⟩
theorem mh {a b c d:Prop} (A:a) (B:b) (C:c) (D:d):Hid a∧Hid b∧Hid c∧Hid d:=⟨A,B,C,D⟩
theorem rU {a b c d e:Prop} (A:a) (B:b) (C:c) (D:d) (E:e):Hid a∧Hid b∧Hid c∧Hid d∧Hid e:=⟨A,B,C,D,E⟩
theorem FW {a b c d e f:Prop} (A:a) (B:b) (C:c) (D:d) (E:e) (F:f):Hid a∧Hid b∧Hid c∧Hid d∧Hid e∧Hid f:=⟨A,B,C,D,E,F⟩
theorem yY {a b c d e f g:Prop} (A:a) (B:b) (C:c) (D:d) (E:e) (F:f) (G:g):Hid a∧Hid b∧Hid c∧Hid d∧Hid e∧Hid f∧Hid g:=⟨A,B,C,D,E,F,G⟩
theorem Dw {a b c d e f g h:Prop} (A:a) (B:b) (C:c) (D:d) (E:e) (F:f) (G:g) (H:h):Hid a∧Hid b∧Hid c∧Hid d∧Hid e∧Hid f∧Hid g∧Hid h:=⟨A,B,C,D,E,F,G,H⟩
theorem QG {a b c d e f g h i:Prop} (A:a) (B:b) (C:c) (D:d) (E:e) (F:f) (G:g) (H:h) (I:i):Hid a∧Hid b∧Hid c∧Hid d∧Hid e∧Hid f∧Hid g∧Hid h∧Hid i:=⟨A,B,C,D,E,F,G,H,I⟩
theorem QM {a b c d e f g h i j:Prop} (A:a) (B:b) (C:c) (D:d) (E:e) (F:f) (G:g) (H:h) (I:i) (J:j):Hid a∧Hid b∧Hid c∧Hid d∧Hid e∧Hid f∧Hid g∧Hid h∧Hid i∧Hid j:=⟨A,B,C,D,E,F,G,H,I,J⟩
theorem Hl {a b c d e f g h i j k:Prop} (A:a) (B:b) (C:c) (D:d) (E:e) (F:f) (G:g) (H:h) (I:i) (J:j) (K:k):Hid a∧Hid b∧Hid c∧Hid d∧Hid e∧Hid f∧Hid g∧Hid h∧Hid i∧Hid j∧Hid k:=⟨A,B,C,D,E,F,G,H,I,J,K⟩
theorem QN {a b c d e f g h i j k l:Prop} (A:a) (B:b) (C:c) (D:d) (E:e) (F:f) (G:g) (H:h) (I:i) (J:j) (K:k) (L:l):Hid a∧Hid b∧Hid c∧Hid d∧Hid e∧Hid f∧Hid g∧Hid h∧Hid i∧Hid j∧Hid k∧Hid l:=⟨A,B,C,D,E,F,G,H,I,J,K,L⟩
theorem QO {a b c d e f g h i j k l m:Prop} (A:a) (B:b) (C:c) (D:d) (E:e) (F:f) (G:g) (H:h) (I:i) (J:j) (K:k) (L:l) (M:m):Hid a∧Hid b∧Hid c∧Hid d∧Hid e∧Hid f∧Hid g∧Hid h∧Hid i∧Hid j∧Hid k∧Hid l∧Hid m:=⟨A,B,C,D,E,F,G,H,I,J,K,L,M⟩
theorem TM {a b c d e f g h i j k l m n:Prop} (A:a) (B:b) (C:c) (D:d) (E:e) (F:f) (G:g) (H:h) (I:i) (J:j) (K:k) (L:l) (M:m) (N:n):Hid a∧Hid b∧Hid c∧Hid d∧Hid e∧Hid f∧Hid g∧Hid h∧Hid i∧Hid j∧Hid k∧Hid l∧Hid m∧Hid n:=⟨A,B,C,D,E,F,G,H,I,J,K,L,M,N⟩
theorem V8 {a b c d e f g h i j k l m n o:Prop} (A:a) (B:b) (C:c) (D:d) (E:e) (F:f) (G:g) (H:h) (I:i) (J:j) (K:k) (L:l) (M:m) (N:n) (O:o):Hid a∧Hid b∧Hid c∧Hid d∧Hid e∧Hid f∧Hid g∧Hid h∧Hid i∧Hid j∧Hid k∧Hid l∧Hid m∧Hid n∧Hid o:=⟨A,B,C,D,E,F,G,H,I,J,K,L,M,N,O⟩
theorem Yz {a b c d e f g h i j k l m n o p:Prop} (A:a) (B:b) (C:c) (D:d) (E:e) (F:f) (G:g) (H:h) (I:i) (J:j) (K:k) (L:l) (M:m) (N:n) (O:o) (P:p):Hid a∧Hid b∧Hid c∧Hid d∧Hid e∧Hid f∧Hid g∧Hid h∧Hid i∧Hid j∧Hid k∧Hid l∧Hid m∧Hid n∧Hid o∧Hid p:=⟨A,B,C,D,E,F,G,H,I,J,K,L,M,N,O,P⟩
theorem YC {a b c d e f g h i j k l m n o p q:Prop} (A:a) (B:b) (C:c) (D:d) (E:e) (F:f) (G:g) (H:h) (I:i) (J:j) (K:k) (L:l) (M:m) (N:n) (O:o) (P:p) (Q:q):Hid a∧Hid b∧Hid c∧Hid d∧Hid e∧Hid f∧Hid g∧Hid h∧Hid i∧Hid j∧Hid k∧Hid l∧Hid m∧Hid n∧Hid o∧Hid p∧Hid q:=⟨A,B,C,D,E,F,G,H,I,J,K,L,M,N,O,P,Q⟩
theorem TN {a b c d e f g h i j k l m n o p q r:Prop} (A:a) (B:b) (C:c) (D:d) (E:e) (F:f) (G:g) (H:h) (I:i) (J:j) (K:k) (L:l) (M:m) (N:n) (O:o) (P:p) (Q:q) (R:r):Hid a∧Hid b∧Hid c∧Hid d∧Hid e∧Hid f∧Hid g∧Hid h∧Hid i∧Hid j∧Hid k∧Hid l∧Hid m∧Hid n∧Hid o∧Hid p∧Hid q∧Hid r:=⟨A,B,C,D,E,F,G,H,I,J,K,L,M,N,O,P,Q,R⟩
abbrev Iz (n:Int):Value:=.int .i64 n
abbrev Pz (g:Nat):Value:=.pointer (some ⟨g,0,none⟩)
abbrev Cz (w:World) (g n:Nat) (v:Value):Prop:=w.cell? ⟨g,n,none⟩=some v
abbrev Fz (w:World) (g n:Nat):Prop:=w.frozen? ⟨g,n,none⟩=false
abbrev Wz (f:Nat) (a:Array Value) (w:World) (Q:Ending→World→Prop):Prop:=Calls Tryz.prog f a w Q
abbrev Bz (w u:World):Prop:=Below w.heap.size w u
theorem Zn {α:Sort _} (a:α):∃x,x=a:=⟨a,rfl⟩
theorem ao {p:Prop} (h:p):Hid p:=h
theorem pE {a b:Bool} (h:a=b):Ending.returned (.bool a)= .returned (.bool b):=by rw[h]
theorem jJ {k:IntKind} {a b:Int} (h:a=b):Ending.returned (.int k a)= .returned (.int k b):=by rw[h]
theorem fE {k:IntKind} {a b:Int} (h:a=b):Value.int k a= .int k b:=by rw[h]
theorem yZ {α:Type} {l:List α} {x:α} (h:l[k]?=some x):k<l.length:=(az.1 h).1
theorem V9 {n:Int} (h:(Lit.int .i64 n).wf=true): -9223372036854775808<=n/\n<=9223372036854775807:=by
 simpa[Lit.wf,IntKind.min,IntKind.max,IntKind.signed,IntKind.bits] using h
def Cells (w:World) (A:Option Addr) (xs:List Value):Prop:=
 xs≠[]→∃b o,A=some ⟨b,o,none⟩∧b<w.heap.size∧∀k u,xs[k]?=some u→w.cell? ⟨b,o+k,none⟩=some u
def bZ (l:List Int):List Value:=l.map (Value.int .i64)
theorem Cells.nil (w:World) (A:Option Addr):Cells w A []:=fun h=>absurd rfl h
theorem Cells.Wa (h:Cells w A xs) (D:k<xs.length):
  ∃b o u,A=some ⟨b,o,none⟩/\b<w.heap.size/\w.cell? ⟨b,o+k,none⟩=some u/\Hid (xs[k]?=some u):=by
 obtain⟨b,o,rfl,I,hc⟩:=h (by intro J;subst J;simp at D);exact⟨b,o,xs[k],rfl,I,hc k _ (by simp[D]),by simp[Hid,D]⟩
theorem Cells.jK (h:Cells w A (bZ l)) (D:k<l.length):
  ∃b o x,A=some ⟨b,o,none⟩/\b<w.heap.size/\w.cell? ⟨b,o+k,none⟩=some (Iz x)/\Hid (l[k]?=some x):=by
 obtain⟨b,o,rfl,J,hc⟩:=h (by intro I;simp[bZ] at I;subst I;simp at D);exact⟨b,o,l[k],rfl,J,hc k _ (by simp[bZ,D]),by simp[Hid,D]⟩
theorem Cells.keep (h:Cells w A xs) (hs:w.heap.size<=w'.heap.size)
  (D:∀b o,A=some ⟨b,o,none⟩->b<w.heap.size->∀k,w'.cell? ⟨b,k,none⟩=w.cell? ⟨b,k,none⟩):Cells w' A xs:=fun hn=>by
 obtain⟨b,o,rfl,I,hc⟩:=h hn;exact⟨b,o,rfl,ae,fun k u hu=>(D b o rfl I _).trans (hc k u hu)⟩
theorem Cells.below (h:Cells w A xs) (I:Bz w w'):Cells w' A xs:=
 h.keep I.size fun b _ _ D k=>I.cell (p:=⟨b,k,none⟩) D
theorem Cells.alloc (h:Cells w A xs) (o:Obj):Cells (w.alloc o) A xs:=
 h.below ((aa _ _).alloc (af _) o)
theorem Cells.drew (h:Cells w A xs):Cells w.drew A xs:=h
theorem Cells.drewN (h:Cells w A xs) (n:Nat):Cells (w.drewN n) A xs:=h
theorem Cells.lit (w:World) (cs:Array Value) (e:TypeId):Cells (w.alloc (.cells cs e)) (some ⟨w.heap.size,0,none⟩) cs.toList:=fun _=>by
 refine⟨w.heap.size,0,rfl,bT,fun k u hu=>?_⟩;rw[mS _ _ _ _ rfl];simpa using hu
theorem Cells.O {n:Nat} (h:w.ownsRow base e 1 (.slice A n c) n xs):Cells w A xs:=fun hn=>by
 have J:=h.1;have I:0<n:=by
  rcases jF n with D|D
  ·subst D;exact absurd (aP (by simpa using J)) hn
  ·exact D
 rcases h.2 with⟨_,D⟩|⟨g,cap,cur,hv,_,hg,_⟩
 ·omega
 ·injection hv with hA _ _
  subst hA;refine⟨g,0,rfl,(h.lt g rfl).2,fun k u hu=>?_⟩;have:=h.cells (g:=g) rfl k u hu
  rwa [Addr.add_lit] at this
structure TO (k:IntKind) (w:World) (A:Option Addr) (c:Nat) (l:List Int):Prop where
 cells:Cells w A (l.map (Value.int k))
 le:l.length≤c
 max:c≤maxLen
 wf:∀n∈l,(Lit.int k n).wf=true
theorem TO.Wb {k:IntKind} {x:Addr} {len cap:Nat} (hl:len<=cap) (hm:cap<=maxLen) (hz:zs.length=cap)
  (hc:∀i,i<zs.length->w.cell? (x.add i)=some (.int k (zs.getD i 0))) (hw:∀n∈zs,(Lit.int k n).wf=true):∃l:List Int,l.length=len/\TO k w (some x) cap l:=by
 refine⟨zs.take len,iW,fun J=>?_,iW,hm,fun n hn=>hw n (mT hn)⟩;have I:0<zs.length:=by
  rcases jF zs.length with D|D
  ·exact absurd (by simp[aP D]) J
  ·exact D
 have D:=hc 0 I;obtain⟨b,o,sp⟩:=x;have hs:sp=none:=by
  rcases sp with _|sp
  ·rfl
  ·exfalso
   simp only[Addr.add,World.cell?] at D
   split at D<;>simp at D
 subst hs;rw[Addr.add_lit] at D;refine⟨b,o,rfl,kQ w _ D,fun j u hu=>?_⟩;simp only[bo,DV,Vg] at hu;obtain⟨n,hn,rfl⟩:=hu
 split at hn
 ·have O:=yZ hn
  have:=hc j O;rw[Addr.add_lit] at this;rw[this];simp[List.getD,hn]
 ·cases hn
theorem Kl {x:Addr} (h:w.cell? (x.add 0)=some v):∃b o,x=⟨b,o,none⟩:=by
 obtain⟨b,o,sp⟩:=x;rcases sp with _|sp
 ·exact⟨b,o,rfl⟩
 ·exfalso
  simp only[Addr.add,World.cell?] at h
  split at h<;>simp at h
theorem gD {n:Nat} (h:w.ownsRow base e size v n xs):∃A c,v= .slice A n c/\n<=c/\c<=maxLen:=by
 rcases h.2 with⟨rfl,rfl⟩|⟨g,cap,cur,rfl,_,_,D,I,_⟩
 ·exact⟨none,0,rfl,af _,by unfold maxLen;omega⟩
 ·exact⟨_,cap,rfl,D,I⟩
def kR {α:Type} (f:α→Value) (w:World) (e:TypeId) (l:List α) (x:Ending) (w':World):Prop:=
 ∃A c,x= .returned (.slice A l.length c)∧w'.ownsRow w.heap.size e 1 (.slice A l.length c) l.length (l.map f)∧Cells w' A (l.map f)∧l.length≤c∧c≤maxLen∧Bz w w'
abbrev rV:World→TypeId→List Int→Ending→World→Prop:=kR (Value.int .i64)
theorem kR.mk {α:Type} {f:α->Value} {l:List α} {n:Nat} (hn:n=l.length) (h:w'.ownsRow w.heap.size e 1 v n (l.map f)) (D:Bz w w'):kR f w e l (.returned v) w':=by
 subst hn;obtain⟨A,c,rfl,hc,hm⟩:=gD h;exact⟨A,c,rfl,h,Cells.O h,hc,hm,D⟩
theorem kR.nil {α:Type} (f:α->Value) (w:World) (e:TypeId):kR f w e [] (.returned (.slice none 0 0)) w:=
 ⟨none,0,rfl,aM _ _ _ _,fun h=>absurd rfl h,af _,aB _,aa _ _⟩
theorem kR.n {α:Type} {f:α->Value} {l:List α} {x:Ending} {n:Nat} (h:kR f w e l x w') (hn:l.length=n):
  ∃A c,x= .returned (.slice A n c)/\w'.ownsRow w.heap.size e 1 (.slice A n c) n (l.map f)/\Cells w' A (l.map f)/\n<=c/\c<=maxLen/\Bz w w':=by
 subst hn;exact h
theorem dW {D:World} (h:Bz w wa) (I:Bz wa D):Bz w D:=h.trans (I.mono h.size)
theorem below_drewN {a:World} (h:Below B a w) (n:Nat):Below B a (w.drewN n):=⟨h.os,h.tape,h.output,h.size,h.block⟩
theorem au (h:Bz w wa) (o:Obj):Bz w (wa.alloc o):=h.alloc h.size o
theorem aS (h:Bz w wa):Bz w wa.drew:=h.drew
theorem bP {n:Nat} (h:w.ownsRow base e size v n xs) (D:Bz w w'):w'.ownsRow base e size v n xs:=
 h.kept (row:=none) ⟨D.os,D.tape,D.output,D.size,fun k I _=>D.block k I⟩ (by cases v.ownBlock<;>simp)
structure xf (P:Program) (t e:TypeId) (z:Value) (bytes:Nat):Prop where
 under:P.underlying t=some (.slice e)
 info:∃i,P.info? e=some i∧i.zero=some z∧i.size=1∧i.bytes=bytes
 one:z.cells.size=1
 small:bytes≤64
theorem uQ {n:Nat} (h:w.ownsRow base e size v n xs) (hg:w.grownBy w' row)
  (D:∀g,v.ownBlock=some g->some g≠row):w'.ownsRow base e size v n xs:=
 h.kept hg (by
  rcases hv:v.ownBlock with _|g
  ·exact .inl rfl
  ·exact .inr (D g hv))
theorem Ak {e':TypeId} {I:Nat} {v':Value} {n n':Nat} {O:List Value} (h:w.ownsRow base e size v n xs) (h':w.ownsRow base' e' I v' n' O) (ax:e≠e'):
  ∀g,v.ownBlock=some g->some g≠v'.ownBlock:=by
 intro g hg J;rcases h.2 with⟨rfl,_⟩|⟨g1,a0,a2,rfl,_,D,_⟩
 ·simp[Value.ownBlock] at hg
 ·rcases h'.2 with⟨rfl,_⟩|⟨g2,a5,a6,rfl,_,ay,_⟩
  ·simp[Value.ownBlock] at J
  ·simp only[Value.ownBlock,gf] at hg J
   subst hg;rw[J,ay] at D;injection D with D;injection D with _ ht;exact ax ht.symm
theorem ie {n:Nat} (h:w.ownsRow base e size (.slice A n c) n xs):n<=c:=by
 obtain⟨A',c',hv,D,_⟩:=gD h;injection hv with _ _ hc;omega
theorem ch {n:Nat} (h:w.ownsRow base e size v n xs) (D:base'<=base):w.ownsRow base' e size v n xs:=by
 refine⟨h.1,?_⟩;rcases h.2 with I|⟨g,cap,cur,hv,hg,rest⟩
 ·exact .inl I
 ·exact .inr ⟨g,cap,cur,hv,aF D hg,rest⟩
theorem kz {n:Nat} (h:w.ownsRow base e size (.slice A n c) n xs) (hn:0<n):∃g,A=some ⟨g,0,none⟩/\base<=g/\g<w.heap.size:=by
 rcases h.2 with⟨_,I⟩|⟨g,cap,cur,hv,D,hg,_⟩
 ·omega
 ·injection hv with hA _ _
  subst hA;exact⟨g,rfl,D,(h.lt g rfl).2⟩
theorem mM {n:Nat} (h:w.ownsRow base e size v n xs) {b:Nat} (D:b<base):some b≠v.ownBlock:=by
 intro hv;have:=(h.lt b hv.symm).1;omega
theorem nI {n:Nat} (h:w.ownsRow base e size v n xs) (k:Nat):(w.drewN k).ownsRow base e size v n xs:=h
theorem tD {o:Obj} (h:(w.alloc o).grownBy w' row) (hr:∀g,row=some g->g<w.heap.size):w.grownBy w' row:=
 ⟨h.os,h.tape,h.output,aF bT h.size,fun k I D=>(h.block k iW D).trans (du w o k I)⟩
theorem Cells.grown (h:Cells w A xs) (hg:w.grownBy w' row) (D:∀b o,A=some ⟨b,o,none⟩->some b≠row):Cells w' A xs:=
 h.keep hg.size fun b o hA I k=>gK (hg.block b I (D b o hA))
section
variable {P:Program} {t e:TypeId} {z:Value} {bytes:Nat}
theorem sU (H:xf P t e z bytes) {n:Nat} (D:w.ownsRow base e 1 v n xs) (ty:TypeId) (A:Option Addr) (c:Nat):
  (Builtin.append_ #[t,t] ty #[v, .slice A 0 c]).run P w= .ok v w:=by
 obtain⟨i,hi,hz,O,ax⟩:=H.info;have J:=H.under;rcases D.2 with⟨rfl,rfl⟩|⟨g,cap,cur,rfl,_,_,I,_⟩
 ·cases A<;>simp[Builtin.append_,run_underlying J,sizeOf,typeInfo,hi,Builtin.lenOf,Builtin.firstCells,loadCells,loadCellsFrom]
 ·cases A<;>simp[Builtin.append_,run_underlying J,sizeOf,typeInfo,hi,Builtin.lenOf,Builtin.firstCells,loadCells,loadCellsFrom,I,storeCells]
structure og (w:World) (base:Nat) (e:TypeId) (v:Value) (n:Nat) (xs:List Value) (A':Option Addr) (c':Nat) (w':World):Prop where
 own:w'.ownsRow base e 1 (.slice A' n c') n xs
 grown:w.grownBy w' v.ownBlock
 jV:(Value.slice A' n c').ownBlock=v.ownBlock∨(Value.slice A' n c').ownBlock=some w.heap.size
 below:∀B W,B≤base→Below B W w→Below B W w'
theorem TP (H:xf P t e z bytes) {n:Nat} (D:w.ownsRow base e 1 v n xs) (ty:TypeId) 
  (hm:news.length=m) (hc:Cells w A news) (h1:∀u∈news,u.oneCell'=true) (hn:n+m<=1099511627776) (hb:base<=w.heap.size):
  ∃A' c' w',(Builtin.append_ #[t,t] ty #[v, .slice A m c]).run P w= .ok (.slice A' (n+m) c') w'/\og w base e v (n+m) (xs++news) A' c' w':=by
 obtain⟨i,hi,hz,ax,ay⟩:=H.info;have a0:=H.small
 by_cases J:news=[]
 ·subst J
  obtain rfl:m=0:=by simpa using hm.symm
  obtain⟨A',c',rfl,_⟩:=gD D;refine⟨A',c',w,sU H D _ _ _,?_,tu _ _, .inl rfl,fun _ _ _ h=>h⟩;simpa using D
 ·obtain⟨b,off,rfl,a2,I⟩:=hc J
  obtain⟨v',w',hr,h2,h3,_,h5⟩:=run_append_own_at (P:=P) w base t ty e i z 1 bytes H.under hi hz ax ay H.one (by decide) v n xs D ⟨b,off,none⟩ m c news ae
   (fun j u hu=>by rw[Addr.add_lit];exact I j u hu) h1 (by unfold maxLen;omega)
   (calc (n+m)*bytes<=(n+m)*64:=Dv _ a0
    _<=140737488355328:=ae) hb
  obtain⟨A',c',rfl,_⟩:=gD h2;exact⟨A',c',w',hr,h2,h3,h5,fun B W hB O=>O.grown h3 (aF hB hb) fun k hk=>cA ((D.lt k hk).1)⟩
theorem QP (H:xf P t e z bytes) 
  {n:Nat} (D:w.ownsRow base e 1 v n xs) 
  (s x:Operand) (I:o.op= .call {callee:= .builtin .append,args:=#[s,x],argTypes:=#[t,t]})
  (hs:a.eval s=v) (hx:a.eval x= .slice A m c) (hm:news.length=m) (hc:Cells w A news)
  (J:∀u∈news,u.oneCell'=true) (hn:n+m<=1099511627776) (O:base<=w.heap.size) (N:Nat) (L:List Value) (hN:N=n+m) (hL:L=xs++news)
  (h:∀A' c' w',og w base e v N L A' c' w'->K (a.put o.dst (.slice A' N c')) w'):o.wp P a w K Q:=by
 subst hN;subst hL;obtain⟨A',c',w',hr,hA⟩:=TP H D o.type (c:=c) hm hc J hn O;unfold Oper.wp execOp;simp only[I,resolve,invoke,builtin,Sem.run_bind,Sem.run_pure,Result.andThen_ok,qm,aW,iM,hs,hx,hr];exact h A' c' w' hA
theorem nJ (H:xf P t e z bytes) 
  {n:Nat} (D:w.ownsRow base e 1 v n xs) 
  (I:o.guard=none) (s x:Operand) (J:o.op= .call {callee:= .builtin .append,args:=#[s,x],argTypes:=#[t,t]})
  (hs:a.eval s=v) (hx:a.eval x= .slice A m c) (hm:news.length=m) (hc:Cells w A news)
  (O:∀u∈news,u.oneCell'=true) (hn:n+m<=1099511627776) (hb:base<=w.heap.size) (N:Nat) (L:List Value) (hN:N=n+m) (hL:L=xs++news)
  (h:∀A' c' w',og w base e v N L A' c' w'->wpList P ops Q rest (a.put o.dst (.slice A' N c')) w'):
  wpList P ops Q (o::rest) a w:=
 wpList_plain I fun K hK=>QP H D s x J hs hx hm hc O hn hb N L hN hL fun A' c' w' hA=>hK _ _ (h A' c' w' hA)
theorem mN (H:xf P t e z bytes) 
  {n:Nat} (D:w.ownsRow base e 1 v n xs) (u:Value)
  (J:o.guard=none) (s x:Operand) (ho:o.op= .call {callee:= .builtin .append,args:=#[s,x],argTypes:=#[t,t]})
  (hs:a.eval s=v) (hx:a.eval x= .slice (some ⟨w.heap.size,0,none⟩) 1 1) (hu:u.oneCell'=true) (hn:n<=1000000000000) (hb:base<=w.heap.size)
  (h:∀A' c' w',w'.ownsRow base e 1 (.slice A' (n+1) c') (n+1) (xs++[u])->w.grownBy w' v.ownBlock->(∀B W,B<=base->Below B W w->Below B W w')->wpList P ops Q rest (a.put o.dst (.slice A' (n+1) c')) w'):
  wpList P ops Q (o::rest) a (w.alloc (.cells #[u] e)):=by
 refine nJ H (D.alloc _) J s x ho hs hx rfl (Cells.lit w #[u] e) (by intro y hy;simp at hy;subst hy;exact hu) ae iW _ _ rfl rfl ?_;intro A' c' w' O;exact h A' c' w' O.own (tD O.grown fun g hg=>(D.lt g hg).2) fun B W hB I=>O.below B W hB (I.alloc (aF hB hb) _)
theorem wpList_mk (H:xf P t e z bytes) {kl kc:IntKind} {n:Nat}
  (I:o.guard=none) (l c:Operand) (ho:o.op=Op.makeSlice t l c) (hl:a.eval l= .int kl (n:Int)) (hc:a.eval c= .int kc (n:Int)) (J:z.cells=#[z]) (hn:n<=1099511627776)
  (h:∀w',w'.ownsRow w.heap.size e 1 (.slice (some ⟨w.heap.size,0,none⟩) n n) n (List.replicate n z)->w.grownBy w' none->(∀B W,B<=w.heap.size->Below B W w->Below B W w')->wpList P ops Q rest (a.put o.dst (.slice (some ⟨w.heap.size,0,none⟩) n n)) w'):
  wpList P ops Q (o::rest) a w:=by
 obtain⟨i,hi,hz,O,ax⟩:=H.info;have ay:=H.small;refine wpList_make_full w I l c t ho w.heap.size e i z 1 H.under hi hz O kl kc n n n hl hc rfl rfl ?_ (by unfold maxLen;omega) (af _) ?_
 ·rw[ax]
  calc bytes*n<=64*n:=iR _ ay
   _<=281474976710656:=ae
 ·intro w' h1 h2
  rw[J,Nat.mul_one,toList_madeCells_one] at h1;exact h w' h1 h2 fun B W hB D=>D.grown h2 hB fun k hk=>by cases hk
end
theorem dN {α:Type} {l:List α} {x:α} (h:l[k]?=some x):l.take (k+1)=l.take k++[x]:=by
 rw[bC,h];rfl
theorem aO {α:Type} {l:List α} {x:α} (h:l[k]?=some x):k<l.length:=(az.1 h).1
theorem bF {α:Type} {l:List α} {x:α} (h:l[k]?=some x):x∈l:=aH h
theorem tE (h:l[k]?=some x):(l.take (k+1)).sum=(l.take k).sum+x:=by
 rw[dN h,MR];simp
theorem Hm {α:Type} (p:α->Bool) {l:List α} {x:α} (h:l[k]?=some x):(l.take (k+1)).all p=((l.take k).all p && p x):=by
 rw[dN h,List.all_append];simp
theorem xg {M:Int} (l:List Int) (h:∀n∈l,0<=n/\n<=M):0<=l.sum/\l.sum<=M*l.length:=by
 induction l with
 |nil=>simp
 |cons a l D=>
  have I:=D (fun n hn=>h n (bB _ hn));have J:=h a cg;have:M*((l.length:Int)+1)=M*l.length+M:=by rw[zN,Int.mul_one]
  simp only[cN,bI,MS,Int.natCast_one,this];omega
theorem MX (l:List Int) (h:∀n∈l,0<=n):0<=l.sum:=by
 induction l with
 |nil=>simp
 |cons a l D=>
  have I:=D (fun n hn=>h n (bB _ hn));have J:=h a cg;simp only[cN];omega
theorem Yc {f:Nat} {a:Array Value} {w:World} {Q Q':Ending→World→Prop} {G:Prop} (c:Calls Tryz.prog f a w Q) (k:∀e u,Q e u→Q' e u) (t:Hid (Calls Tryz.prog f a w Q')→G:=by intro hZ;go_wp2_with fail;exact hZ.h):G:=t (c.mono k)
theorem Yb {B g i:Nat} {w u x:World} {v:Option Value} (h:Below B w x) (hg:g<B) (e:w.cell? ⟨g,i,none⟩=v) (hx:u.cell? ⟨g,i,none⟩=x.cell? ⟨g,i,none⟩:=by rfl):u.cell? ⟨g,i,none⟩=v:=hx.trans ((h.cell (p:=⟨g,i,none⟩) hg).trans e)
theorem Yd {g i:Nat} {w u:World} {v:Option Value} (h:u.heap[g]?=w.heap[g]?) (e:w.cell? ⟨g,i,none⟩=v):u.cell? ⟨g,i,none⟩=v:=(World.cell?_of_block (a:=⟨g,i,none⟩) h).trans e
structure kA (P:Program) (t e:TypeId) (z:Value) (size bytes:Nat):Prop where
 under:P.underlying t=some (.slice e)
 info:∃i,P.info? e=some i∧i.zero=some z∧i.size=size∧i.bytes=bytes
 many:z.cells.size=size
 pos:0<size
 small:bytes≤4096
theorem dP.O {n:Nat} (h:w.ownsRow base e size (.slice A n c) n xs):Cells w A xs:=fun hn=>by
 have J:=h.1;have I:0<n:=by
  rcases jF n with D|D
  ·subst D;exact absurd (aP (by simpa using J)) hn
  ·exact D
 rcases h.2 with⟨_,D⟩|⟨g,cap,cur,hv,_,hg,_,_,ax,hx⟩
 ·omega
 ·injection hv with hA _ _
  subst hA;refine⟨g,0,rfl,(h.lt g rfl).2,fun k u hu=>?_⟩;rw[<-hx] at hu;have hk:k<n*size:=by
   have:=(az.1 hu).1;rw[bJ] at this;omega
  rw[gB hk] at hu;rw[ec];simp[World.cell?,hg];simpa using hu
section
variable {P:Program} {t e:TypeId} {z:Value} {size bytes:Nat}
structure lJ (w:World) (base:Nat) (e:TypeId) (size:Nat) (v:Value) (n:Nat) (xs:List Value) (A':Option Addr) (c':Nat) (w':World):Prop where
 own:w'.ownsRow base e size (.slice A' n c') n xs
 grown:w.grownBy w' v.ownBlock
 jV:(Value.slice A' n c').ownBlock=v.ownBlock∨(Value.slice A' n c').ownBlock=some w.heap.size
 below:∀B W,B≤base→Below B W w→Below B W w'
theorem QQ (H:kA P t e z size bytes) {n:Nat} (D:w.ownsRow base e size v n xs) (ty:TypeId) 
  (hm:news.length=m*size) (O:news≠[]) (hc:Cells w A news) (h1:∀u∈news,u.oneCell'=true) (hn:n+m<=34359738368) (hb:base<=w.heap.size):
  ∃A' c' w',(Builtin.append_ #[t,t] ty #[v, .slice A m c]).run P w= .ok (.slice A' (n+m) c') w'/\lJ w base e size v (n+m) (xs++news) A' c' w':=by
 obtain⟨i,hi,hz,ax,ay⟩:=H.info;have a0:=H.small;obtain⟨b,off,rfl,a2,I⟩:=hc O;obtain⟨v',w',hr,h2,h3,_,h5⟩:=run_append_own_at (P:=P) w base t ty e i z size bytes H.under hi hz ax ay H.many H.pos v n xs D ⟨b,off,none⟩ m c news hm
  (fun j u hu=>by rw[Addr.add_lit];exact I j u hu) h1 (by unfold maxLen;omega)
  (calc (n+m)*bytes<=(n+m)*4096:=Dv _ a0
   _<=140737488355328:=ae) hb
 obtain⟨A',c',rfl,_⟩:=gD h2;exact⟨A',c',w',hr,h2,h3,h5,fun B W hB J=>J.grown h3 (aF hB hb) fun k hk=>cA ((D.lt k hk).1)⟩
theorem fZ (H:kA P t e z size bytes) 
  {n:Nat} (D:w.ownsRow base e size v n xs) 
  (s x:Operand) (J:o.op= .call {callee:= .builtin .append,args:=#[s,x],argTypes:=#[t,t]})
  (hs:a.eval s=v) (hx:a.eval x= .slice A m c) (hm:news.length=m*size) (I:news≠[]) (hc:Cells w A news)
  (O:∀u∈news,u.oneCell'=true) (hn:n+m<=34359738368) (hb:base<=w.heap.size) (N:Nat) (L:List Value) (hN:N=n+m) (hL:L=xs++news)
  (h:∀A' c' w',lJ w base e size v N L A' c' w'->K (a.put o.dst (.slice A' N c')) w'):o.wp P a w K Q:=by
 subst hN;subst hL;obtain⟨A',c',w',hr,hA⟩:=QQ H D o.type (c:=c) hm I hc O hn hb;unfold Oper.wp execOp;simp only[J,resolve,invoke,builtin,Sem.run_bind,Sem.run_pure,Result.andThen_ok,qm,aW,iM,hs,hx,hr];exact h A' c' w' hA
theorem kS (H:kA P t e z size bytes) 
  {n:Nat} (D:w.ownsRow base e size v n xs) 
  (I:o.guard=none) (s x:Operand) (O:o.op= .call {callee:= .builtin .append,args:=#[s,x],argTypes:=#[t,t]})
  (hs:a.eval s=v) (hx:a.eval x= .slice A m c) (hm:news.length=m*size) (J:news≠[]) (hc:Cells w A news)
  (h1:∀u∈news,u.oneCell'=true) (hn:n+m<=34359738368) (hb:base<=w.heap.size) (N:Nat) (L:List Value) (hN:N=n+m) (hL:L=xs++news)
  (h:∀A' c' w',lJ w base e size v N L A' c' w'->wpList P ops Q rest (a.put o.dst (.slice A' N c')) w'):
  wpList P ops Q (o::rest) a w:=
 wpList_plain I fun K hK=>fZ H D s x O hs hx hm J hc h1 hn hb N L hN hL fun A' c' w' hA=>hK _ _ (h A' c' w' hA)
theorem Dy (H:kA P t e z size bytes) {n:Nat} (D:w.ownsRow base e size v n xs) (ty:TypeId) (A:Option Addr) (c:Nat):
  (Builtin.append_ #[t,t] ty #[v, .slice A 0 c]).run P w= .ok v w:=by
 obtain⟨i,hi,hz,O,ax⟩:=H.info;have J:=H.under;rcases D.2 with⟨rfl,rfl⟩|⟨g,cap,cur,rfl,_,_,I,_⟩
 ·cases A<;>simp[Builtin.append_,run_underlying J,sizeOf,typeInfo,hi,Builtin.lenOf,Builtin.firstCells,loadCells,loadCellsFrom]
 ·cases A<;>simp[Builtin.append_,run_underlying J,sizeOf,typeInfo,hi,Builtin.lenOf,Builtin.firstCells,loadCells,loadCellsFrom,I,storeCells]
theorem lK (H:kA P t e z size bytes) 
  {n:Nat} (D:w.ownsRow base e size v n xs) 
  (I:o.guard=none) (s x:Operand) (ho:o.op= .call {callee:= .builtin .append,args:=#[s,x],argTypes:=#[t,t]})
  (hs:a.eval s=v) (hx:a.eval x= .slice A m c) (hm:news.length=m*size) (hc:Cells w A news)
  (h1:∀u∈news,u.oneCell'=true) (hn:n+m<=34359738368) (hb:base<=w.heap.size) (N:Nat) (L:List Value) (hN:N=n+m) (hL:L=xs++news)
  (h:∀A' c' w',lJ w base e size v N L A' c' w'->wpList P ops Q rest (a.put o.dst (.slice A' N c')) w'):
  wpList P ops Q (o::rest) a w:=by
 by_cases J:news=[]
 ·subst J
  have O:=H.pos;obtain rfl:m=0:=by
   rcases jF m with h0|h0
   ·exact h0
   ·have:0<m*size:=Nat.mul_pos h0 O
    simp at hm;omega
  subst hN;subst hL;obtain⟨A',c',rfl,_⟩:=gD D;refine wpList_plain I fun K hK=>?_;unfold Oper.wp execOp;simp only[ho,resolve,invoke,builtin,Sem.run_bind,Sem.run_pure,Result.andThen_ok,qm,aW,iM,hs,hx,Dy H D o.type A c];exact hK _ _ (h A' c' w ⟨by simpa using D,tu _ _, .inl rfl,fun _ _ _ h=>h⟩)
 ·exact kS H D I s x ho hs hx hm J hc h1 hn hb N L hN hL h
theorem dO (H:kA P t e z size bytes) 
  {n:Nat} (D:w.ownsRow base e size v n xs) (us:Array Value)
  (ax:o.guard=none) (s x:Operand) (ho:o.op= .call {callee:= .builtin .append,args:=#[s,x],argTypes:=#[t,t]})
  (hs:a.eval s=v) (hx:a.eval x= .slice (some ⟨w.heap.size,0,none⟩) 1 1) (I:us.toList.length=1*size) (hu:∀u∈us.toList,u.oneCell'=true) (hn:n<=10000000000) (hb:base<=w.heap.size)
  (h:∀A' c' w',w'.ownsRow base e size (.slice A' (n+1) c') (n+1) (xs++us.toList)->w.grownBy w' v.ownBlock->(∀B W,B<=base->Below B W w->Below B W w')->((Value.slice A' (n+1) c').ownBlock=v.ownBlock\/(Value.slice A' (n+1) c').ownBlock=some (w.heap.size+1))->
   wpList P ops Q rest (a.put o.dst (.slice A' (n+1) c')) w'):
  wpList P ops Q (o::rest) a (w.alloc (.cells us e)):=by
 have hp:=H.pos;refine kS H (D.alloc _) ax s x ho hs hx I (by intro h0;rw[h0] at I;simp at I;omega) (Cells.lit w us e) hu ae iW _ _ rfl rfl ?_;intro A' c' w' O;exact h A' c' w' O.own (tD O.grown fun g hg=>(D.lt g hg).2) (fun B W hB J=>O.below B W hB (J.alloc (aF hB hb) _)) (by rcases O.jV with h2|h2;exact .inl h2;exact .inr (by rw[h2];simp))
end
def TQ (n:Int):Bool:=decide (1≤n∧n≤1000000)
def eh (l:List Int) (q:Int):Bool:=decide (l.length≤250) && decide (0≤q) && l.all TQ && decide (q≤l.sum)
def cD:List Int→Int→List Int
 |[],_=>[]
 |n::l,q=>min n q::cD l (q - min n q)
def mU:List Int→Int→Int
 |[],q=>q
 |n::l,q=>mU l (q - min n q)
theorem uR (n:Int):TQ n=true↔1<=n/\n<=1000000:=by simp[TQ]
theorem QR (l:List Int) (h:l.all TQ=true):0<=l.sum/\l.sum<=1000000*l.length:=
 xg l fun n hn=>cA ((uR n).1 (fN.1 h n hn))
theorem Km (h:l[k]?=some x) (D:¬(1<=x/\x<=1000000)):eh l q=false:=by
 have:l.all TQ=false:=by
  rw[List.all_eq_false];exact⟨x,bF h,fun h=>D ((uR x).1 h)⟩
 simp[eh,this]
theorem fF (l:List Int) (q:Int):(cD l q).length=l.length:=by
 induction l generalizing q with
 |nil=>rfl
 |cons a l D=>simp[cD,D]
theorem Hn (l:List Int) (x q:Int):cD (l++[x]) q=cD l q++[min x (mU l q)]/\mU (l++[x]) q=mU l q - min x (mU l q):=by
 induction l generalizing q with
 |nil=>simp[cD,mU]
 |cons a l D=>simp[cD,mU,D]
theorem za (h:l[k]?=some x) (q:Int):
  cD (l.take (k+1)) q=cD (l.take k) q++[min x (mU (l.take k) q)]/\mU (l.take (k+1)) q=mU (l.take k) q - min x (mU (l.take k) q):=by
 rw[dN h];exact Hn _ _ _
theorem Ho (l:List Int) (q:Int) (D:∀n∈l,0<=n) (hq:0<=q):0<=mU l q/\mU l q<=q:=by
 induction l generalizing q with
 |nil=>simp[mU];omega
 |cons a l I=>
  have J:=D a cg;have:=I (q - min a q) (fun n hn=>D n (bB _ hn)) ae;simp only[mU];omega
theorem N5 (n m:Int) (hm:0<m):(n.tmod m<0->n.tmod m+m=n % m)/\(0<=n.tmod m->n.tmod m=n % m):=by
 have I:=MT n ((ae:m≠0));have J:=DY n hm;have D:=Int.tmod_eq_emod (a:=n) (b:=m)
 split at D<;>constructor<;>intro h<;>omega
def within (n lo hi:Int):Int:=lo+n % (hi - lo+1)
theorem cW (n lo hi:Int) (h:lo<=hi):lo<=within n lo hi/\within n lo hi<=hi:=by
 have D:=MT n ((ae:hi - lo+1≠0));have I:=DY n ((ae:0<hi - lo+1));unfold within;omega
def yo (l:List Int) (q:Int):List Int:=if eh l q then cD l q else []
theorem uS (D:∀n∈l,0<=n) (hq:0<=q):∀{i:Nat} {x n:Int},(cD l q)[i]?=some x->l[i]?=some n->0<=x/\x<=n:=by
 induction l generalizing q with
 |nil=>intro i x n h;simp[cD] at h
 |cons a l I=>
  have O:=D a cg;have J:∀n∈l,0<=n:=fun n hn=>D n (bB _ hn);intro i x n hx hn
  cases i with
  |zero=>simp[cD] at hx hn;omega
  |succ i=>exact I (q:=q - min a q) J ae (by simpa[cD] using hx) (by simpa using hn)
theorem wt (D:∀n∈l,0<=n) (hq:0<=q) (hs:q<=l.sum):(cD l q).sum=q:=by
 induction l generalizing q with
 |nil=>simp at hs;simp[cD];omega
 |cons a l J=>
  have O:=D a cg;have I:∀n∈l,0<=n:=fun n hn=>D n (bB _ hn);simp only[cN] at hs;have:=J I (q:=q - min a q) ae (cA (MX l I));simp only[cD,cN,this];omega
theorem iC (l:List Int) (q:Int):eh l q=true↔l.length<=250/\0<=q/\(∀n∈l,1<=n/\n<=1000000)/\q<=l.sum:=by
 simp only[eh,dv,decide_eq_true_eq,fN,uR];constructor
 ·rintro⟨⟨⟨a,b⟩,c⟩,d⟩;exact⟨a,b,c,d⟩
 ·rintro⟨a,b,c,d⟩;exact⟨⟨⟨a,b⟩,c⟩,d⟩
def gQ:List Int→List Int→List Int
 |n::s,x::a=>if x<n then (n - x)::gQ s a else gQ s a
 |_,_=>[]
def eH:Nat→List Int→List Int→List Nat
 |i,n::s,x::a=>if x<n then i::eH (i+1) s a else eH (i+1) s a
 |_,_,_=>[]
def iz:List Int→List Nat→List Int→List Int
 |a,p::ps,b::bs=>iz (a.set p (a.getD p 0+b)) ps bs
 |a,_,_=>a
theorem rW:∀(i:Nat) (s a:List Int),(eH i s a).length=(gQ s a).length
 |i,n::s,x::a=>by
  simp only[eH,gQ]
  split
  ·simp[rW (i+1) s a]
  ·exact rW (i+1) s a
 |_,[],_=>rfl
 |_,_::_,[]=>rfl
theorem Ao:∀(s a:List Int),(gQ s a).length<=s.length
 |n::s,x::a=>by
  have:=Ao s a;simp only[gQ]
  split<;>simp<;>omega
 |[],_=>by simp[gQ]
 |_::_,[]=>by simp[gQ]
theorem Eb:∀(s a:List Int),(∀n∈s,n<=1000000)->(∀x∈a,0<=x)->∀n∈gQ s a,1<=n/\n<=1000000
 |n::s,x::a,h,I=>by
  have J:=Eb s a (fun n hn=>h n (bB _ hn)) (fun n hn=>I n (bB _ hn));have O:=h n cg;have h2:=I x cg;intro y D;simp only[gQ] at D
  split at D
  ·rcases a9.1 D with rfl|D
   ·omega
   ·exact J y D
  ·exact J y D
 |[],_,_,_=>fun y D=>by simp[gQ] at D
 |_::_,[],_,_=>fun y D=>by simp[gQ] at D
theorem Ec:∀(i:Nat) (s a:List Int) (p:Nat),p∈eH i s a->i<=p/\p<i+a.length
 |i,n::s,x::a,p,h=>by
  simp only[eH] at h;have D:=Ec (i+1) s a p
  split at h
  ·rcases a9.1 h with rfl|h
   ·simp
   ·have:=D h;simp;omega
  ·have:=D h;simp;omega
 |_,[],_,_,h=>by simp[eH] at h
 |_,_::_,[],_,h=>by simp[eH] at h
theorem xh:∀(a:List Int) (ps:List Nat) (bs:List Int),(iz a ps bs).length=a.length
 |a,p::ps,b::bs=>by simp only[iz];rw[xh];simp
 |a,[],_=>by simp[iz]
 |a,_::_,[]=>by simp[iz]
theorem Hp (s a:List Int) (n x:Int) (h:s.length=a.length):∀i,eH i (s++[n]) (a++[x])=eH i s a++(if x<n then [i+s.length] else [])/\gQ (s++[n]) (a++[x])=gQ s a++(if x<n then [n - x] else []):=by
 induction s generalizing a with
 |nil=>
  obtain rfl:a=[]:=aP (by simpa using h.symm);intro i;simp[eH,gQ]
 |cons m s I=>
  match a,h with
  |y::a,h=>
   intro i;have D:=I a (by simpa using h) (i+1);simp only[fO,eH,gQ,D.1,D.2,bI];rw[(ae:i+1+s.length=i+(s.length+1))]
   split<;>simp
theorem N6 {s a:List Int} {n:Int} (I:s.length=a.length) (hn:s[k]?=some n) (hx:a[k]?=some x):
  eH 0 (s.take (k+1)) (a.take (k+1))=eH 0 (s.take k) (a.take k)++(if x<n then [k] else [])/\gQ (s.take (k+1)) (a.take (k+1))=gQ (s.take k) (a.take k)++(if x<n then [n - x] else []):=by
 have D:=aO hn;rw[dN hn,dN hx];have:=Hp (s.take k) (a.take k) n x iW 0;simpa[rP (po D)] using this
theorem Ar:∀(a:List Int) (ps:List Nat) (bs:List Int) (p:Nat) (b:Int),ps.length=bs.length->iz a (ps++[p]) (bs++[b])=(iz a ps bs).set p ((iz a ps bs).getD p 0+b)
 |a,q::ps,c::bs,p,b,h=>by simp only[fO,iz];exact Ar _ ps bs p b (by simpa using h)
 |a,[],[],p,b,_=>by simp[iz]
 |_,[],_::_,_,_,h=>by simp at h
 |_,_::_,[],_,_,h=>by simp at h
theorem Kn {a:List Int} {p:Nat} {b:Int} (I:ps.length=bs.length) (hp:ps[k]?=some p) (D:bs[k]?=some b):
  iz a (ps.take (k+1)) (bs.take (k+1))=(iz a (ps.take k) (bs.take k)).set p ((iz a (ps.take k) (bs.take k)).getD p 0+b):=by
 rw[dN hp,dN D];exact Ar _ _ _ _ _ iW
theorem N7:∀(pre s a bs:List Int),iz (pre++a) (eH pre.length s a) bs=pre++iz a (eH 0 s a) bs:=by
 intro pre s
 induction s generalizing pre with
 |nil=>intro a bs;simp[eH,iz]
 |cons n s D=>
  intro a bs
  match a with
  |[]=>simp[eH,iz]
  |x::a=>
   simp only[eH];have e1:∀(y:Int) (cs:List Int),iz (pre++y::a) (eH (pre.length+1) s a) cs=pre++y::iz a (eH 0 s a) cs:=fun y cs=>by
    have:=D (pre++[y]) a cs;simpa using this
   have e2:∀(y:Int) (cs:List Int),iz (y::a) (eH 1 s a) cs=y::iz a (eH 0 s a) cs:=fun y cs=>by
    have:=D [y] a cs;simpa using this
   split
   ·match bs with
    |[]=>simp[iz]
    |b::bs=>
     simp only[iz];rw[show(pre++x::a).set pre.length ((pre++x::a).getD pre.length 0+b)=pre++(x+b)::a by simp[List.getD]];rw[e1,show(x::a).set 0 ((x::a).getD 0 0+b)=(x+b)::a by simp,e2]
   ·rw[e1,e2]
def MZ (all q least n:Int):Int:=if least≤n*q / all then n*q / all else 0
def dQ (all q least:Int) (l:List Int):List Int:=l.map (MZ all q least)
def pF (a b:List Int):List Int:=List.zipWith (·+·) a b
def iJ (a b:List Int):List Int:=List.zipWith (· - ·) a b
def Au (l:List Int) (least q:Int):List Int:=
 pF (dQ l.sum q least l) (cD (iJ l (dQ l.sum q least l)) (q - (dQ l.sum q least l).sum))
theorem mO {a:List Int} (h:a.length=b.length):(pF a b).length=a.length:=by simp[pF,h]
theorem iO {a:List Int} (h:a.length=b.length):(iJ a b).length=a.length:=by simp[iJ,h]
theorem dU (all q least:Int) (l:List Int):(dQ all q least l).length=l.length:=by simp[dQ]
theorem kT (l:List Int) (least q:Int):(Au l least q).length=l.length:=by
 unfold Au;rw[mO,dU];rw[fF,iO (by rw[dU]),dU]
theorem xi {a:List Int} (ha:a[k]?=some x) (D:b[k]?=some y):(pF a b)[k]?=some (x+y):=by
 simp[pF,gz,ha,D]
theorem xj {a:List Int} (ha:a[k]?=some x) (D:b[k]?=some y):(iJ a b)[k]?=some (x - y):=by
 simp[iJ,gz,ha,D]
theorem xk:∀(a b:List Int),a.length=b.length->(pF a b).sum=a.sum+b.sum
 |[],b,h=>by
  obtain rfl:b=[]:=aP (by simpa using h.symm);simp[pF]
 |x::a,[],h=>by simp at h
 |x::a,y::b,h=>by
  have D:=xk a b (by simpa using h);simp only[pF,Vh,cN] at D⊢;omega
theorem qY:∀(a b:List Int),a.length=b.length->(iJ a b).sum=a.sum - b.sum
 |[],b,h=>by
  obtain rfl:b=[]:=aP (by simpa using h.symm);simp[iJ]
 |x::a,[],h=>by simp at h
 |x::a,y::b,h=>by
  have D:=qY a b (by simpa using h);simp only[iJ,Vh,cN] at D⊢;omega
theorem rX {all n:Int} (hn:0<=n) (hq:0<=q) (D:q<=all) (hl:1<=least):0<=MZ all q least n/\MZ all q least n<=n/\MZ all q least n*all<=n*q:=by
 unfold MZ;rcases He 0 all with ha|ha
 ·have I:0<=n*q:=jG hn hq
  have J:=yh I (by omega:0<=all);have O:=Int.ediv_mul_le (n*q) (by omega:all≠0);have h3:n*q<=n*all:=gh D hn;have h4:n*q / all<=n:=by
   have:=Int.ediv_le_ediv ha h3
   rwa [Int.mul_ediv_cancel _ ae] at this
  split
  ·exact⟨J,h4,O⟩
  ·exact⟨cM _,hn,by rw[Int.zero_mul];exact I⟩
 ·obtain rfl:all=0:=ae
  obtain rfl:q=0:=ae;rw[if_neg iW];exact⟨cM _,hn,bT⟩
theorem vL (all q least:Int) (hq:0<=q) (D:q<=all) (I:1<=least):∀(l:List Int),(∀n∈l,0<=n)->0<=(dQ all q least l).sum/\(dQ all q least l).sum<=l.sum/\(dQ all q least l).sum*all<=l.sum*q
 |[],_=>by simp[dQ]
 |n::l,h=>by
  have J:=vL all q least hq D I l fun m hm=>h m (bB _ hm);have O:=rX (h n cg) hq D I;simp only[dQ,aW,cN,Int.add_mul] at J⊢;omega
theorem uT (h:∀n∈l,0<=n) (hq:0<=q) (D:q<=l.sum) (J:1<=least):0<=(dQ l.sum q least l).sum/\(dQ l.sum q least l).sum<=q:=by
 obtain⟨O,h2,I⟩:=vL l.sum q least hq D J l h;refine⟨O,?_⟩;rcases He 0 l.sum with ha|ha
 ·rw[lM l.sum q] at I
  exact Int.le_of_mul_le_mul_right I ha
 ·omega
theorem Wc (hl:l.length<=1000) (hb:∀n∈l,0<=n/\n<=1000000) (hq:0<=q) (D:q<=l.sum) (h1:1<=least):∀x∈Au l least q,0<=x/\x<=1000000:=by
 intro x hx;obtain⟨k,O⟩:=aG hx;have I:=aO O;rw[kT] at I;have hn:l[k]?=some l[k]:=aj I;have ax:=hb _ (nv I);have hf:(dQ l.sum q least l)[k]?=some (MZ l.sum q least l[k]):=by simp[dQ,hn]
 have hs:=xj hn hf;have hv:=rX (all:=l.sum) ax.1 hq D h1;have a0:=uT (fun n hn=>(hb n hn).1) hq D h1;have ay:∀y∈iJ l (dQ l.sum q least l),0<=y:=by
  intro y hy;obtain⟨i,hi⟩:=aG hy;simp only[iJ,dQ,gz,bo] at hi
  cases hm:l[i]? with
  |none=>simp[hm] at hi
  |some m=>
   simp[hm] at hi;have:=rX (all:=l.sum) (hb m (aH hm)).1 hq D h1;omega
 have J:k<(cD (iJ l (dQ l.sum q least l)) (q - (dQ l.sum q least l).sum)).length:=by
  rw[fF];exact aO hs
 have hz:=aj J;have a2:=uS ay ae hz hs;unfold Au at O;rw[xi hf hz] at O;have:=bW O;omega
def kG (d:List Int):List Int:=d.filter fun n=>decide (0<n)
def spread:List Int→List Int→List Int
 |[],_=>[]
 |n::d,xs=>if 0<n then xs.headD 0::spread d xs.tail else 0::spread d xs
theorem Aw (f:Int->Int) (I:∀n,¬0<n->f n=0):∀(d:List Int),d.map f=spread d ((kG d).map f)
 |[]=>rfl
 |n::d=>by
  have D:=Aw f I d
  by_cases h:0<n
  ·simp[spread,kG,h] at D⊢;exact D
  ·simp[spread,kG,h,I n h] at D⊢;exact D
theorem wu:∀(d xs:List Int),xs.length=(kG d).length->(spread d xs).sum=xs.sum
 |[],xs,h=>by
  obtain rfl:xs=[]:=aP (by simpa[kG] using h);rfl
 |n::d,xs,h=>by
  by_cases hn:0<n
  ·rcases xs with _|⟨x,xs⟩
   ·simp[kG,hn] at h
   ·have D:=wu d xs (by simpa[kG,hn] using h)
    simp[spread,hn,D]
  ·have D:=wu d xs (by simpa[kG,hn] using h)
   simp[spread,hn,D]
theorem wF:∀(d xs ys:List Int),xs.length=(kG d).length->ys.length=(kG d).length->pF (spread d xs) (spread d ys)=spread d (pF xs ys)
 |[],xs,ys,_,_=>rfl
 |n::d,xs,ys,h,I=>by
  by_cases hn:0<n
  ·rcases xs with _|⟨x,xs⟩
   ·simp[kG,hn] at h
   rcases ys with _|⟨y,ys⟩
   ·simp[kG,hn] at I
   have D:=wF d xs ys (by simpa[kG,hn] using h) (by simpa[kG,hn] using I);simp[spread,hn,pF] at D⊢;exact D
  ·have D:=wF d xs ys (by simpa[kG,hn] using h) (by simpa[kG,hn] using I)
   simp[spread,hn,pF] at D⊢;exact D
theorem wG:∀(d xs:List Int),(∀n∈d,0<=n)->xs.length=(kG d).length->iJ d (spread d xs)=spread d (iJ (kG d) xs)
 |[],xs,_,_=>rfl
 |n::d,xs,I,h=>by
  have J:=I n cg
  by_cases hn:0<n
  ·rcases xs with _|⟨x,xs⟩
   ·simp[kG,hn] at h
   have D:=wG d xs (fun m hm=>I m (bB _ hm)) (by simpa[kG,hn] using h);simp[spread,hn,iJ,kG] at D⊢;exact D
  ·have D:=wG d xs (fun m hm=>I m (bB _ hm)) (by simpa[kG,hn] using h)
   simp[spread,hn,iJ,kG] at D⊢;exact⟨ae,D⟩
theorem rY:∀(d ys:List Int) (r:Int),0<=r->(∀n∈ys,0<=n)->ys.length=(kG d).length->cD (spread d ys) r=spread d (cD ys r)
 |[],ys,r,_,_,_=>rfl
 |n::d,ys,r,hr,I,h=>by
  by_cases hn:0<n
  ·rcases ys with _|⟨y,ys⟩
   ·simp[kG,hn] at h
   have J:=I y cg;have D:=rY d ys (r - min y r) ae (fun m hm=>I m (bB _ hm)) (by simpa[kG,hn] using h);simp[spread,hn,cD,D]
  ·have D:=rY d ys r hr I (by simpa[kG,hn] using h)
   simp[spread,hn,cD];have e:min 0 r=0:=ae;rw[e,Int.sub_zero]
   first|exact D|exact⟨rfl,D⟩
theorem Ax:∀(d:List Int),(∀n∈d,0<=n)->(kG d).sum=d.sum
 |[],_=>rfl
 |n::d,h=>by
  have D:=Ax d fun m hm=>h m (bB _ hm);have I:=h n cg
  by_cases hn:0<n
  ·simp[kG,hn] at D⊢;exact D
  ·simp[kG,hn] at D⊢;omega
theorem rZ {all:Int} (h:∀n∈l,0<=n) (hq:0<=q) (D:q<=all) (J:1<=least):∀x∈iJ l (dQ all q least l),0<=x:=by
 intro x hx;obtain⟨k,I⟩:=aG hx;simp only[iJ,dQ,gz,bo] at I
 cases hn:l[k]? with
 |none=>simp[hn] at I
 |some n=>
  simp[hn] at I;have:=rX (all:=all) (h n (aH hn)) hq D J;omega
theorem TS (h:∀n∈d,0<=n) (hq:0<=q) (D:q<=d.sum) (I:1<=least):Au d least q=spread d (Au (kG d) least q):=by
 have hs:=Ax d h;have hp:∀n∈kG d,0<=n:=fun n hn=>h n (lX.1 hn).1;have e1:dQ d.sum q least d=spread d (dQ (kG d).sum q least (kG d)):=by
  rw[hs];exact Aw _ (fun n hn=>by
   unfold MZ;rcases He 0 d.sum with ha|ha
   ·have J:n*q<=0:=Int.mul_nonpos_of_nonpos_of_nonneg ae hq
    have O:n*q / d.sum<=0:=by
     have:=Int.ediv_le_ediv ha J;simpa using this
    rw[if_neg ae]
   ·obtain rfl:q=0:=ae
    rw[iN,Int.zero_ediv,if_neg ae]) d
 have hf:=uT hp hq (by rw[hs];exact D) I;unfold Au;rw[e1,wu d _ (by rw[dU]),wG d _ h (by rw[dU]),rY d _ _ ae (rZ hp hq (by rw[hs];exact D) I) (by rw[iO (by rw[dU])]),
  wF d _ _ (by rw[dU]) (by rw[fF,iO (by rw[dU])])]
theorem wH:∀(l o:List Int),l.length=o.length->gQ l o=kG (iJ l o)
 |[],o,h=>by
  obtain rfl:o=[]:=aP (by simpa using h.symm);rfl
 |n::l,[],h=>by simp at h
 |n::l,x::o,h=>by
  have D:=wH l o (by simpa using h)
  by_cases hx:x<n
  ·simp[gQ,hx,iJ,kG] at D⊢;exact D
  ·simp[gQ,hx,iJ,kG] at D⊢;exact D
theorem sf:∀(l a bs:List Int),l.length=a.length->bs.length=(gQ l a).length->iz a (eH 0 l a) bs=pF a (spread (iJ l a) bs)
 |[],a,bs,h,_=>by
  obtain rfl:a=[]:=aP (by simpa using h.symm);simp[iz,eH,pF]
 |n::l,[],bs,h,_=>by simp at h
 |n::l,x::a,bs,h,D=>by
  have e2:∀(y:Int) (cs:List Int),iz (y::a) (eH 1 l a) cs=y::iz a (eH 0 l a) cs:=fun y cs=>by
   have:=N7 [y] l a cs;simpa using this
  by_cases hx:x<n
  ·rcases bs with _|⟨b,bs⟩
   ·simp[gQ,hx] at D
   have I:=sf l a bs (by simpa using h) (by simpa[gQ,hx] using D);simp only[eH,if_pos hx,iz];rw[show(x::a).set 0 ((x::a).getD 0 0+b)=(x+b)::a by simp,e2,I];simp[spread,iJ,pF,hx]
  ·have I:=sf l a bs (by simpa using h) (by simpa[gQ,hx] using D)
   simp only[eH,if_neg hx];rw[e2,I];simp[spread,iJ,pF,hx]
theorem Ko {a:List Int} (J:l.length=a.length) (D:∀n∈iJ l a,0<=n) (hq:0<=q) (I:q<=(iJ l a).sum) (O:1<=least):
  iz a (eH 0 l a) (Au (gQ l a) least q)=pF a (Au (iJ l a) least q):=by
 rw[sf l a _ J (by rw[kT]),wH l a J,<-TS D hq I O]
theorem dec (p:Prop) [Decidable p]:(p/\decide p=true)\/(¬p/\decide p=false):=by
 by_cases h:p<;>simp[h]
def M8 (v:Int):Bool:=decide (-9223372036854775808≤v∧v≤9223372036854775807)
def fit (v:Int):Int:=if M8 v=true then v else 0
def told (v:Int):Ending:= .returned (.tuple #[Iz (fit v), .bool (M8 v)])
theorem sg {v:Int} (h: -9223372036854775808<=v/\v<=9223372036854775807):M8 v=true:=by simp[M8,h]
theorem Wd {v:Int} (h:¬(-9223372036854775808<=v/\v<=9223372036854775807)):M8 v=false:=by unfold M8;exact decide_eq_false h
theorem M9 {v:Int}:M8 v=true↔ -9223372036854775808<=v/\v<=9223372036854775807:=by simp[M8]
theorem Nb {v:Int}:M8 v=false↔¬(-9223372036854775808<=v/\v<=9223372036854775807):=by simp only[M8,decide_eq_false_iff_not]
theorem FY {v:Int} (h:M8 v=true):fit v=v:=by simp[fit,h]
theorem pG {v:Int} (hx:x=v) (h: -9223372036854775808<=v/\v<=9223372036854775807):Ending.returned (.tuple #[Iz x, .bool true])=told v:=by
 subst hx;rw[told,fit,sg h];rfl
theorem xl {v:Int} (h:¬(-9223372036854775808<=v/\v<=9223372036854775807)):Ending.returned (.tuple #[Iz 0, .bool false])=told v:=by
 rw[told,fit,Wd h];rfl
def FZ (a b c:Int):Int:=if a<0∨b<0∨c<1 then 0 else fit (a*b / c)
def F3 (a b c:Int):Bool:=if a<0∨b<0∨c<1 then false else M8 (a*b / c)
def pH (a b c:Int):Ending:= .returned (.tuple #[Iz (FZ a b c), .bool (F3 a b c)])
theorem si {a b c:Int} (h:a<0\/b<0\/c<1):pH a b c= .returned (.tuple #[Iz 0, .bool false]):=by
 rw[pH,FZ,F3,if_pos h,if_pos h]
theorem tF {a b c:Int} (h:¬(a<0\/b<0\/c<1)):pH a b c=told (a*b / c):=by
 rw[pH,FZ,F3,if_neg h,if_neg h,told]
structure dn where
 id:Int
 aw:Int
 top:Bool
variable {aK:Nat→dn}
structure cU where
 used:Bool
 slot:Int
 id:Int
 aw:Int
 top:Bool
 queue:Int
 ahead:Int
 back:Int
structure jl where
 first:Int
 last:Int
 total:Int
 count:Int
structure qd where
 slots:List cU
 H:List jl
 free:Int
variable {X:qd}
def cU.zero:cU:=⟨false,0,0,0,false,0,0,0⟩
def qe (L:List Nat) (j:Nat):Int:=match L[j]? with|some x=>(x:Int)|none=> -1
def fV (L:List Nat):Nat→Int
 |0=> -1
 |j+1=>qe L j
def kO (aK:Nat→dn) (L:List Nat):Int:=(L.map fun i=>(aK i).aw).sum
def oQ (Ls:List (List Nat)):Nat:=(Ls.map List.length).sum
theorem jL (h:L[j]?=some i):qe L j=i:=by unfold qe;rw[h]
theorem mW (h:L[j]?=none):qe L j= -1:=by unfold qe;rw[h]
theorem KB (L:List Nat) (j:Nat): -1<=qe L j:=by unfold qe;split<;>omega
theorem Hy (L:List Nat) (j:Nat): -1<=fV L j:=by cases j with|zero=>exact cM _|succ j=>exact KB L j
theorem pI (h:L≠[]):∃i,L[L.length - 1]?=some i/\fV L L.length=i:=by
 have D:0<L.length:=iu.2 h;have:L.length - 1<L.length:=ae;refine⟨L[L.length - 1],aj this,?_⟩;obtain⟨m,hm⟩:∃m,L.length=m+1:=⟨L.length - 1,ae⟩;have e1:L[L.length - 1]?=some (L[L.length - 1]):=aj this;have e2:fV L L.length=qe L (L.length - 1):=by rw[hm];rfl
 rw[e2,jL e1]
structure fB (X:qd) (Ls:List (List Nat)) (aK:Nat→dn):Prop where
 ql:X.H.length=Ls.length
 qs:∀(n:Nat) (L:List Nat),Ls[n]?=some L→X.H[n]?=some (jl.mk (qe L 0) (fV L L.length) (kO aK L) L.length)
 sl:∀(n:Nat) (L:List Nat) (j i:Nat),Ls[n]?=some L→L[j]?=some i→X.slots[i]?=some (cU.mk true i (aK i).id (aK i).aw (aK i).top n (fV L j) (qe L (j+1)))
 un:∀i,i<X.slots.length→(∀(n:Nat) (L:List Nat),Ls[n]?=some L→i∉L)→X.slots[i]?=some .zero
 inj:∀(n:Nat) (L:List Nat) (j n':Nat) (L':List Nat) (j' i:Nat),Ls[n]?=some L→L[j]?=some i→Ls[n']?=some L'→L'[j']?=some i→n=n'∧j=j'
 fr:X.free+oQ Ls=X.slots.length
 fn:0≤X.free
 qb:∀(n:Nat) (L:List Nat) (i:Nat),Ls[n]?=some L→i∈L→1≤(aK i).aw∧(aK i).aw≤1000000
 sz:X.slots.length=250
theorem fB.lt (h:fB X Ls aK) {n:Nat} (D:Ls[n]?=some L) (hi:L[j]?=some i):i<X.slots.length:=
 (az.1 (h.sl n L j i D hi)).1
theorem sv {e f:Nat->dn} (h:∀i∈L,(e i).aw=(f i).aw):kO e L=kO f L:=by
 unfold kO;rw[cJ h]
theorem uV {n:Nat} (h:Ls[n]?=some L) (M:List Nat):oQ (Ls.set n M)+L.length=oQ Ls+M.length:=by
 induction Ls generalizing n with
 |nil=>simp at h
 |cons K Ls D=>
  cases n with
  |zero=>
   simp at h;subst h;simp[oQ];omega
  |succ n=>
   have:=D (n:=n) (by simpa using h);simp[oQ] at this⊢;omega
theorem oJ {α:Type} {l:List α} {n:Nat} (h:n≠m) (f:α->α):(l.modify n f)[m]?=l[m]?:=by
 rw[zP];simp[h]
theorem mod_eq {α:Type} {l:List α} {n:Nat} {a:α} (h:l[n]?=some a) (f:α->α):(l.modify n f)[n]?=some (f a):=by
 rw[zP,h];simp
def oR (X:qd) (n at_:Nat) (e:dn) (q:jl):qd:=
 let s1:=X.slots.set at_ ⟨true,at_,e.id,e.aw,e.top,n,q.last, -1⟩
 let s2:=if q.last= -1 then s1 else s1.modify q.last.toNat fun s=>{s with back:=at_}
 ⟨s2,X.H.set n ⟨if q.last= -1 then at_ else q.first,at_,q.total+e.aw,q.count+1⟩,X.free - 1⟩
theorem oS {a:Nat} (h:(L++[a])[j]?=some i):L[j]?=some i\/(j=L.length/\i=a):=by
 by_cases D:j<L.length
 ·rw[bX D] at h;exact .inl h
 ·rw[bK ae] at h
  have:j - L.length=0:=by
   have:=(az.1 h).1;simp at this;omega
  rw[this] at h;simp at h;exact .inr ⟨ae,h.symm⟩
theorem tH {a:Nat} (h:j<L.length):qe (L++[a]) j=qe L j:=by
 unfold qe;rw[bX h]
theorem zh (L:List Nat) (a:Nat):qe (L++[a]) L.length=a:=jL bT
theorem AJ {a:Nat} (h:j<=L.length):fV (L++[a]) j=fV L j:=by
 cases j with
 |zero=>rfl
 |succ j=>exact tH ae
theorem mm {α:Type} {l:List α} {n:Nat} {a b:α} (h:(l.set n a)[m]?=some b):(m=n/\b=a)\/(m≠n/\l[m]?=some b):=by
 by_cases e:n=m
 ·subst e
  rw[List.getElem?_set_self'] at h
  cases D:l[n]? with
  |none=>rw[D] at h;simp at h
  |some x=>rw[D] at h;simp at h;exact .inl ⟨rfl,h.symm⟩
 ·rw[aZ e] at h;exact .inr ⟨fun h=>e h.symm,h⟩
theorem QZ (h:fB X Ls aK) {n a:Nat} (hL:Ls[n]?=some L) (ha:a<X.slots.length) (hu:∀(n:Nat) (L:List Nat),Ls[n]?=some L->a∉L) (e:dn) (q:jl) (hq:X.H[n]?=some q) (hf:0<X.free) (he:1<=e.aw/\e.aw<=1000000):
  fB (oR X n a e q) (Ls.set n (L++[a])) (fun i=>if i=a then e else aK i):=by
 have ba:=h.qs n L hL;rw[hq] at ba;injection ba with ba;subst ba;have bb:n<Ls.length:=aO hL;have J:∀{K:List Nat} {j i:Nat},K[j]?=some i->i∈K:=fun h=>bF h;have a2:(oR X n a e ⟨qe L 0,fV L L.length,kO aK L,L.length⟩).slots.length=X.slots.length:=by
  unfold oR;simp only;split<;>simp
 have hs:∀i,i≠a->(∀j,L[j]?=some i->j≠L.length - 1)->(oR X n a e ⟨qe L 0,fV L L.length,kO aK L,L.length⟩).slots[i]?=X.slots[i]?:=by
  intro i D a5;unfold oR;simp only
  split
  ·rw[aZ (fun h=>D h.symm)]
  ·rename_i bc
   have ax:L≠[]:=fun h0=>bc (by subst h0;rfl);obtain⟨x,hx,hp⟩:=pI ax;rw[hp];have bf:(x:Int).toNat≠i:=by
    intro h0;have:x=i:=by simpa using h0
    subst this;exact a5 _ hx rfl
   rw[oJ bf,aZ (fun h=>D h.symm)]
 refine⟨?_,?_,?_,?_,?_,?_,?_,?_,?_⟩
 ·unfold oR;simp[h.ql]
 ·intro m M O
  rcases mm O with⟨rfl,rfl⟩|⟨ay,O⟩
  ·have bH:m<X.H.length:=by rw[h.ql];exact bb
   unfold oR;simp only;rw[aD bH]
   congr 1
   have bh:kO (fun i=>if i=a then e else aK i) L=kO aK L:=sv fun i hi=>by
    rw[if_neg];rintro rfl;exact hu m L hL hi
   have ht:kO (fun i=>if i=a then e else aK i) (L++[a])=kO aK L+e.aw:=by
    rw[<-bh];simp[kO]
   rw[ht];have a5:fV (L++[a]) (L++[a]).length=a:=by
    rw[aC];exact zh L a
   rw[a5]
   by_cases h0:L=[]
   ·subst h0
    simp[fV,qe]
   ·obtain⟨x,hx,hp⟩:=pI h0
    have bp:0<L.length:=iu.2 h0;rw[hp,if_neg ae,tH bp];simp
  ·unfold oR
   simp only;rw[aZ (fun h=>ay h.symm),h.qs m M O]
   congr 1
   have bQ:=hu m M O;have:kO (fun i=>if i=a then e else aK i) M=kO aK M:=sv fun i hi=>by
    rw[if_neg];rintro rfl;exact bQ hi
   rw[this]
 ·intro m M j i O hi
  rcases mm O with⟨rfl,rfl⟩|⟨ay,a7⟩
  ·rcases oS hi with I|⟨rfl,rfl⟩
   ·have D:i≠a:=by rintro rfl;exact hu m L hL (J I)
    have hj:j<L.length:=aO I;simp only[if_neg D];rw[AJ ae]
    by_cases bt:j=L.length - 1
    ·
     have ax:L≠[]:=fun h0=>by subst h0;simp at hj
     obtain⟨x,hx,hp⟩:=pI ax;rw[<-bt,I] at hx;injection hx with hx;subst hx;have h1:=h.sl m L j i hL I;have bR:=h.lt hL I;rw[(ae:j+1=L.length),zh];unfold oR;simp only;rw[hp,if_neg ae,show(i:Int).toNat=i from bT];exact mod_eq ((aZ (fun h=>D h.symm)).trans h1) _
    ·rw[hs i D (fun j' a0=>by rw[(h.inj m L j' m L j i hL a0 hL I).2];exact bt),h.sl m L j i hL I,tH ae]
   ·
    have a8:qe (L++[i]) (L.length+1)= -1:=mW bT;rw[if_pos rfl,AJ (af _),a8];unfold oR;simp only
    split
    ·rw[aD ha]
    ·rename_i bc
     have ax:L≠[]:=fun h0=>bc (by subst h0;rfl);obtain⟨x,hx,hp⟩:=pI ax;have bf:¬((x:Int).toNat=i):=by
      intro h0;have:x=i:=by simpa using h0
      subst this;exact hu m L hL (J hx)
     rw[hp,oJ bf,aD ha]
  ·have D:i≠a:=by rintro rfl;exact hu m M a7 (J hi)
   simp only[if_neg D];rw[hs i D (fun j' a0=>absurd (h.inj m M j n L j' i a7 hi hL a0).1 ay),h.sl m M j i a7 hi]
 ·intro i hi a8
  rw[a2] at hi;have D:i≠a:=by
   rintro rfl;exact a8 n (L++[i]) (aD bb) bT
  have bE:i∉L:=fun a6=>a8 n (L++[a]) (aD bb) (by simp[a6]);rw[hs i D (fun j hj=>absurd (J hj) bE)];refine h.un i hi fun m M O a6=>?_
  by_cases ay:m=n
  ·subst ay
   rw[hL] at O;injection O with O;subst O
   exact bE a6
  ·exact a8 m M (by rw[aZ (fun h=>ay h.symm)];exact O) a6
 ·intro m M j m' M' j' i O hj a7 a0
  have key:∀(m:Nat) (M:List Nat) (j i:Nat),(Ls.set n (L++[a]))[m]?=some M->M[j]?=some i->(i=a/\m=n/\j=L.length)\/(i≠a/\∃K,Ls[m]?=some K/\K[j]?=some i):=by
   intro m M j i O hj;rcases mm O with⟨rfl,rfl⟩|⟨ay,hK⟩
   ·rcases oS hj with a0|⟨rfl,rfl⟩
    ·exact .inr ⟨by rintro rfl;exact hu m L hL (J a0),L,hL,a0⟩
    ·exact .inl ⟨rfl,rfl,rfl⟩
   ·exact .inr ⟨by rintro rfl;exact hu m M hK (J hj),M,hK,hj⟩
  rcases key m M j i O hj with⟨h1,h2,h3⟩|⟨h1,K,h2,h3⟩<;>rcases key m' M' j' i a7 a0 with⟨g1,g2,g3⟩|⟨g1,K',g2,g3⟩
  ·exact⟨by rw[h2,g2],by rw[h3,g3]⟩
  ·exact absurd h1 g1
  ·exact absurd g1 h1
  ·exact h.inj m K j m' K' j' i h2 h3 g2 g3
 ·have h1:=uV hL (L++[a])
  have h2:=h.fr;rw[a2];show X.free - 1+(oQ (Ls.set n (L++[a])):Int)=_;rw[aC] at h1;simp at h1;omega
 ·show 0<=X.free - 1
  omega
 ·intro m M i O hi
  rcases mm O with⟨rfl,rfl⟩|⟨ay,hK⟩
  ·rcases aJ.1 hi with I|I
   ·have D:i≠a:=by rintro rfl;exact hu m L hL I
    simp only[if_neg D];exact h.qb m L i hL I
   ·simp at I
    subst I;simp only[if_pos];exact he
  ·have D:i≠a:=by rintro rfl;exact hu m M hK hi
   simp only[if_neg D];exact h.qb m M i hK hi
 ·rw[a2];exact h.sz
theorem mP (L:List Nat) (k j:Nat):(L.eraseIdx k)[j]?=L[if j<k then j else j+1]?:=by
 rw[Vl];split<;>rfl
theorem yr (L:List Nat) (k j:Nat):qe (L.eraseIdx k) j=qe L (if j<k then j else j+1):=by
 unfold qe;rw[mP]
theorem zi (L:List Nat) (k j:Nat):fV (L.eraseIdx k) j=if j<=k then fV L j else fV L (j+1):=by
 cases j with
 |zero=>rw[if_pos (aB _)];rfl
 |succ m=>
  show qe (L.eraseIdx k) m=_;rw[yr]
  by_cases h:m<k
  ·rw[if_pos h,if_pos ae];rfl
  ·rw[if_neg h,if_neg ae];rfl
theorem AK (h:L[k]?=some i):kO aK (L.eraseIdx k)=kO aK L - (aK i).aw:=by
 induction L generalizing k with
 |nil=>simp at h
 |cons x L D=>
  cases k with
  |zero=>
   simp at h;subst h;simp[kO];omega
  |succ k=>
   have:=D (k:=k) (by simpa using h);simp[kO] at this⊢;omega
def vO (X:qd) (i n:Nat) (s:cU) (q:jl):qd:=
 let s1:=if s.ahead= -1 then X.slots else X.slots.modify s.ahead.toNat fun x=>{x with back:=s.back}
 let s2:=if s.back= -1 then s1 else s1.modify s.back.toNat fun x=>{x with ahead:=s.ahead}
 ⟨s2.set i .zero,X.H.set n ⟨if s.ahead= -1 then s.back else q.first,if s.back= -1 then s.ahead else q.last,q.total - s.aw,q.count - 1⟩,X.free+1⟩
theorem uW {l:List cU} (D: -1<=y) (f:cU->cU) (x:Nat):(if y= -1 then l else l.modify y.toNat f)[x]?=if (x:Int)=y then l[x]?.map f else l[x]?:=by
 by_cases h:y= -1
 ·rw[if_pos h,if_neg ae]
 ·rw[if_neg h]
  by_cases e:(x:Int)=y
  ·rw[if_pos e,zP]
   have:y.toNat=x:=ae;simp[this]
  ·rw[if_neg e,oJ ae]
theorem Q0 (h:fB X Ls aK) {n:Nat} (J:Ls[n]?=some L) (hi:L[k]?=some i) (s:cU) (q:jl) (hs:X.slots[i]?=some s) (hq:X.H[n]?=some q):
  fB (vO X i n s q) (Ls.set n (L.eraseIdx k)) aK:=by
 have a7:=h.sl n L k i J hi;rw[hs] at a7;injection a7 with a7;subst a7;have a8:=h.qs n L J;rw[hq] at a8;injection a8 with a8;subst a8;have bh:n<Ls.length:=aO J;have bc:k<L.length:=aO hi;have bH:=h.lt J hi;obtain⟨Y,eY⟩:=Zn (vO X i n (cU.mk true i (aK i).id (aK i).aw (aK i).top n (fV L k) (qe L (k+1))) (jl.mk (qe L 0) (fV L L.length) (kO aK L) L.length));have hlen:Y.slots.length=X.slots.length:=by
  rw[eY];unfold vO;simp only
  split<;>split<;>simp
 have O:∀x,x≠i->Y.slots[x]?=if (x:Int)=qe L (k+1) then (if (x:Int)=fV L k then X.slots[x]?.map (fun y=>{y with back:=qe L (k+1)}) else X.slots[x]?).map (fun y=>{y with ahead:=fV L k})
   else if (x:Int)=fV L k then X.slots[x]?.map (fun y=>{y with back:=qe L (k+1)}) else X.slots[x]?:=by
  intro x hx;rw[eY];unfold vO;simp only;rw[aZ (fun h=>hx h.symm),uW (KB _ _),uW (Hy _ _)]
 have bp:∀(j x:Nat),L[j]?=some x->∀m,((x:Int)=qe L m↔m=j):=by
  intro j x hx m;constructor
  ·intro he
   cases hm:L[m]? with
   |none=>rw[mW hm] at he;omega
   |some y=>
    rw[jL hm] at he;have:y=x:=ae;subst this;exact(h.inj n L m n L j y J hm J hx).2
  ·rintro rfl;rw[jL hx]
 have bQ:∀(j x:Nat),L[j]?=some x->((x:Int)=fV L k↔k=j+1):=by
  intro j x hx
  cases k with
  |zero=>constructor
         ·intro he;have:fV L 0= -1:=rfl;omega
         ·intro he;omega
  |succ k'=>
   show(x:Int)=qe L k'↔_;rw[bp j x hx k'];omega
 have ba:∀(m:Nat) (M:List Nat) (j x:Nat),Ls[m]?=some M->M[j]?=some x->m≠n->Y.slots[x]?=X.slots[x]?:=by
  intro m M j x I hx D;have ax:x≠i:=by rintro rfl;exact D (h.inj m M j n L k x I hx J hi).1
  have a5:∀p,(x:Int)≠qe L p:=by
   intro p he
   cases hp:L[p]? with
   |none=>rw[mW hp] at he;omega
   |some y=>
    rw[jL hp] at he;have:y=x:=ae;subst this;exact D (h.inj m M j n L p y I hx J hp).1
  have a6:(x:Int)≠fV L k:=by
   cases k with
   |zero=>intro he;have:fV L 0= -1:=rfl;omega
   |succ k'=>exact a5 k'
  rw[O x ax,if_neg (a5 _),if_neg a6]
 rw[<-eY];refine⟨?_,?_,?_,?_,?_,?_,?_,?_,?_⟩
 ·rw[eY];unfold vO;simp[h.ql]
 ·intro m M I
  rcases mm I with⟨rfl,rfl⟩|⟨D,hK⟩
  ·have bR:m<X.H.length:=by rw[h.ql];exact bh
   have e0:Y.H[m]?=some (jl.mk (if fV L k= -1 then qe L (k+1) else qe L 0) (if qe L (k+1)= -1 then fV L k else fV L L.length) (kO aK L - (aK i).aw) (L.length - 1)):=by
    rw[eY];unfold vO;simp only;rw[aD bR]
   rw[e0,AK hi];have e1:qe (L.eraseIdx k) 0=if fV L k= -1 then qe L (k+1) else qe L 0:=by
    rw[yr]
    cases k with
    |zero=>rw[if_neg ae,if_pos (show fV L 0= -1 from rfl)]
    |succ k'=>
     rw[if_pos ae,if_neg];show ¬qe L k'= -1;rw[jL (aj ((ae:k'<L.length)))];omega
   have e2:fV (L.eraseIdx k) (L.eraseIdx k).length=if qe L (k+1)= -1 then fV L k else fV L L.length:=by
    rw[iU,if_pos bc,zi]
    by_cases ay:k+1<L.length
    ·rw[if_neg ae,jL (aj ay),if_neg ae]
     congr 1;omega
    ·rw[if_pos ae,mW (cO ae),if_pos rfl]
     congr 1;omega
   have e3:((L.eraseIdx k).length:Int)=L.length - 1:=by rw[iU,if_pos bc];omega
   rw[e1,e2,e3]
  ·have e0:Y.H[m]?=X.H[m]?:=by
    rw[eY];unfold vO;simp only;rw[aZ (fun h=>D h.symm)]
   rw[e0,h.qs m M hK]
 ·intro m M j x I hx
  rcases mm I with⟨rfl,rfl⟩|⟨D,hK⟩
  ·rw[mP] at hx
   obtain⟨j',a2⟩:=Zn (if j<k then j else j+1);rw[<-a2] at hx;have bt:j'≠k:=by rw[a2];split<;>omega
   have ax:x≠i:=by rintro rfl;exact bt (h.inj m L j' m L k x J hx J hi).2
   rw[O x ax,h.sl m L j' x J hx];simp only[bp j' x hx,bQ j' x hx,fc];rw[zi,yr]
   by_cases bf:j<k
   ·rw[if_pos bf] at a2
    rw[a2,if_neg ((ae:¬k+1=j)),if_pos ((ae:j<=k))]
    by_cases ay:k=j+1
    ·rw[if_pos ay,if_neg ((ae:¬j+1<k)),ay]
    ·rw[if_neg ay,if_pos ((ae:j+1<k))]
   ·rw[if_neg bf] at a2
    rw[a2,if_neg ((ae:¬k=j+1+1)),if_neg ((ae:¬j+1<k))]
    by_cases ay:k=j
    ·rw[if_pos ((ae:k+1=j+1)),if_pos ((ae:j<=k)),ay]
     rfl
    ·rw[if_neg ((ae:¬k+1=j+1)),if_neg ((ae:¬j<=k))]
  ·rw[ba m M j x hK hx D,h.sl m M j x hK hx]
 ·intro x hx a5
  rw[hlen] at hx
  by_cases ax:x=i
  ·subst ax
   rw[eY];unfold vO;simp only;rw[aD]
   split<;>split<;>simp[bH]
  ·have bE:x∉L:=by
    intro a0;obtain⟨j,hj⟩:=aG a0;refine a5 n (L.eraseIdx k) (aD bh) ?_;have bf:j≠k:=by rintro rfl;rw[hj] at hi;injection hi with hi;exact ax hi
    have:(L.eraseIdx k)[if j<k then j else j - 1]?=some x:=by
     rw[mP]
     split
     ·exact hj
     ·rw[if_neg ae,(ae:j - 1+1=j)];exact hj
    exact bF this
   have bb:∀p,(x:Int)≠qe L p:=by
    intro p he
    cases hp:L[p]? with
    |none=>rw[mW hp] at he;omega
    |some y=>
     rw[jL hp] at he;have:y=x:=ae;subst this;exact bE (bF hp)
   have a6:(x:Int)≠fV L k:=by
    cases k with
    |zero=>intro he;have:fV L 0= -1:=rfl;omega
    |succ k'=>exact bb k'
   rw[O x ax,if_neg (bb _),if_neg a6];refine h.un x hx fun m M I a0=>?_
   by_cases D:m=n
   ·subst D
    rw[J] at I;injection I with I;subst I
    exact bE a0
   ·exact a5 m M (by rw[aZ (fun h=>D h.symm)];exact I) a0
 ·intro m M j m' M' j' x I hj bU bV
  have key:∀(m:Nat) (M:List Nat) (j x:Nat),(Ls.set n (L.eraseIdx k))[m]?=some M->M[j]?=some x->∃K,Ls[m]?=some K/\K[if m=n then (if j<k then j else j+1) else j]?=some x:=by
   intro m M j x I hj;rcases mm I with⟨rfl,rfl⟩|⟨D,hK⟩
   ·rw[mP] at hj
    exact⟨L,J,by rw[if_pos rfl];exact hj⟩
   ·exact⟨M,hK,by rw[if_neg D];exact hj⟩
  obtain⟨K,h1,h2⟩:=key m M j x I hj;obtain⟨K',g1,g2⟩:=key m' M' j' x bU bV;obtain⟨a,b⟩:=h.inj m K _ m' K' _ x h1 h2 g1 g2;refine⟨a,?_⟩;subst a
  by_cases D:m=n
  ·rw[if_pos D,if_pos D] at b
   split at b<;>split at b<;>omega
  ·rw[if_neg D,if_neg D] at b;exact b
 ·have h1:=uV J (L.eraseIdx k)
  have h2:=h.fr;rw[iU,if_pos bc] at h1;rw[hlen];have h3:Y.free=X.free+1:=by rw[eY];rfl
  rw[h3];omega
 ·have h3:Y.free=X.free+1:=by rw[eY];rfl
  have:=h.fn;omega
 ·intro m M x I hx
  rcases mm I with⟨rfl,rfl⟩|⟨D,hK⟩
  ·exact h.qb m L x J (cE hx)
  ·exact h.qb m M x hK hx
 ·rw[hlen];exact h.sz
def AL (X:qd) (i n:Nat) (e:dn) (d:Int):qd:=
 ⟨X.slots.modify i fun s=>{s with aw:=e.aw,top:=e.top},X.H.modify n fun q=>{q with total:=q.total+d},X.free⟩
theorem Q3 (h:L[k]?=some i) (hn:∀j,L[j]?=some i->j=k) (e:dn):kO (fun x=>if x=i then e else aK x) L=kO aK L+(e.aw - (aK i).aw):=by
 induction L generalizing k with
 |nil=>simp at h
 |cons x L I=>
  cases k with
  |zero=>
   simp at h;subst h;have:kO (fun y=>if y=x then e else aK y) L=kO aK L:=sv fun y J=>by
    rw[if_neg];rintro rfl;obtain⟨j,D⟩:=aG J;have:=hn (j+1) (by simpa using D);omega
   simp[kO] at this⊢;rw[this];omega
  |succ k=>
   have:=I (k:=k) (by simpa using h) fun j D=>cA (hn (j+1) (by simpa using D));have hx:x≠i:=by
    rintro rfl;have:=hn 0 bT;omega
   simp[kO,hx] at this⊢;rw[this];omega
theorem Nj (h:fB X Ls aK) {n:Nat} (O:Ls[n]?=some L) (hi:L[k]?=some i) (e:dn) (he:e.id=(aK i).id) (ay:1<=e.aw/\e.aw<=1000000) (d:Int) (hd:d=e.aw - (aK i).aw):
  fB (AL X i n e d) Ls (fun x=>if x=i then e else aK x):=by
 subst hd;have a0:n<Ls.length:=aO O;refine⟨by unfold AL;simp[h.ql],?_,?_,?_,h.inj,by unfold AL;simp[h.fr],h.fn,?_,by unfold AL;simp[h.sz]⟩
 ·intro m M I
  have h1:=h.qs m M I;unfold AL;simp only
  by_cases J:n=m
  ·subst J
   rw[O] at I;injection I with I;subst I
   rw[mod_eq h1,Q3 hi (fun j hj=>(h.inj n L j n L k i O hj O hi).2)]
  ·rw[oJ J,h1]
   have:kO (fun x=>if x=i then e else aK x) M=kO aK M:=sv fun y hy=>by
    rw[if_neg];rintro rfl;obtain⟨j,hj⟩:=aG hy;exact J (h.inj m M j n L k y I hj O hi).1.symm
   rw[this]
 ·intro m M j x I hx
  have h1:=h.sl m M j x I hx;unfold AL;simp only
  by_cases D:i=x
  ·subst D
   rw[mod_eq h1,if_pos rfl,he]
  ·rw[oJ D,h1,if_neg (fun h=>D h.symm)]
 ·intro x hx ax
  unfold AL at hx⊢;simp only at hx⊢;have D:i≠x:=by rintro rfl;exact ax n L O (bF hi)
  rw[oJ D];exact h.un x (by simpa using hx) ax
 ·intro m M x I hx
  by_cases D:x=i
  ·subst D;simp only[if_pos];exact ay
  ·simp only[if_neg D];exact h.qb m M x I hx
theorem Q4 (h:fB X Ls aK):fB ⟨X.slots,X.H++[⟨-1, -1,0,0⟩],X.free⟩ (Ls++[[]]) aK:=by
 have key:∀(m:Nat) (M:List Nat),(Ls++[[]])[m]?=some M->Ls[m]?=some M\/(m=Ls.length/\M=[]):=by
  intro m M D
  by_cases hm:m<Ls.length
  ·rw[bX hm] at D;exact .inl D
  ·rw[bK ae] at D
   have:m - Ls.length=0:=by
    have:=(az.1 D).1;simp at this;omega
   rw[this] at D;simp at D;exact .inr ⟨ae,by simpa using D⟩
 refine⟨by simp[h.ql],?_,?_,?_,?_,?_,h.fn,?_,h.sz⟩
 ·intro m M D
  rcases key m M D with D|⟨rfl,rfl⟩
  ·have h1:=h.qs m M D
   simp only;rw[bX (aO h1),h1]
  ·simp only
   rw[<-h.ql,bK (af _)];simp[qe,fV,kO]
 ·intro m M j i D hi
  rcases key m M D with D|⟨rfl,rfl⟩
  ·exact h.sl m M j i D hi
  ·simp at hi
 ·intro i hi O
  exact h.un i hi fun m M D=>O m M (by rw[bX (aO D)];exact D)
 ·intro m M j m' M' j' i D hj I J
  rcases key m M D with D|⟨rfl,rfl⟩
  ·rcases key m' M' I with I|⟨rfl,rfl⟩
   ·exact h.inj m M j m' M' j' i D hj I J
   ·simp at J
  ·simp at hj
 ·have:=h.fr
  simp[oQ] at this⊢;exact this
 ·intro m M i D hi
  rcases key m M D with D|⟨rfl,rfl⟩
  ·exact h.qb m M i D hi
  ·simp at hi
theorem yt {n:Nat} (h:Ls[n]?=some L):L.length<=oQ Ls:=by
 induction Ls generalizing n with
 |nil=>simp at h
 |cons K Ls D=>
  cases n with
  |zero=>simp at h;subst h;simp[oQ]
  |succ n=>have:=D (n:=n) (by simpa using h);simp[oQ] at this⊢;omega
theorem fB.len (h:fB X Ls aK) {n:Nat} (D:Ls[n]?=some L):L.length<=X.slots.length:=QF (yt D) h.fr h.fn
theorem zS:∀{L:List Nat},(∀i∈L,1<=(aK i).aw/\(aK i).aw<=1000000)->(L.length:Int)<=kO aK L/\kO aK L<=1000000*L.length
 |[],_=>by simp[kO]
 |x::L,h=>by
  have D:=h x bT;have:=zS (L:=L) fun i hi=>h i (by simp[hi]);simp[kO] at this⊢;omega
theorem dX {α:Type} {f:α->List Value} (hf:∀x,(f x).length=k):∀l:List α,(l.flatMap f).length=l.length*k
 |[]=>bT
 |x::l=>by rw[bj,aC,hf,dX hf l,bI];rw[lH];omega
theorem ig {α:Type} {f:α->List Value} (hf:∀x,(f x).length=k):∀{l:List α} {i:Nat} {x:α} (j:Nat),j<k->l[i]?=some x->(l.flatMap f)[i*k+j]?=(f x)[j]?
 |[],i,x,j,_,h=>by simp at h
 |y::l,0,x,j,D,h=>by
  simp at h;subst h;rw[bj,kp,ec,bX (by rw[hf];exact D)]
 |y::l,i+1,x,j,D,h=>by
  rw[bj,bK (by rw[hf,lH];omega),hf,<-ig hf (l:=l) (i:=i) j D (by simpa using h)]
  congr 1
  rw[lH];omega
theorem tI {α:Type} {f:α->List Value} (hf:∀x,(f x).length=k):∀{l:List α} {i:Nat} {x y:α} {j:Nat} {v:Value},j<k->l[i]?=some x->f y=(f x).set j v->(l.flatMap f).set (i*k+j) v=(l.set i y).flatMap f
 |[],i,x,y,j,v,_,h,_=>by simp at h
 |z::l,0,x,y,j,v,D,h,he=>by
  simp at h;subst h;rw[bj,kp,ec,List.set_append_left _ _ (by rw[hf];exact D),List.set_cons_zero,bj,he]
 |z::l,i+1,x,y,j,v,D,h,he=>by
  rw[bj,yX _ _ (by rw[hf,lH];omega),List.set_cons_succ,bj,hf,<-tI hf (l:=l) (i:=i) D (by simpa using h) he]
  congr 2
  rw[lH];omega
theorem tJ {α:Type} {f:α->List Value} (hf:∀x,∀u∈f x,u.oneCell'=true) (l:List α):∀u∈l.flatMap f,u.oneCell'=true:=by
 intro u hu;rw[dD] at hu;obtain⟨x,_,hx⟩:=hu;exact hf x u hx
section
variable {w:World} {base g:Nat} {e:TypeId} {size n c:Nat} {xs:List Value}
theorem ju (h:w.ownsRow base e size (.slice (some ⟨g,0,none⟩) n c) n xs):base<=g/\∃cur,w.heap[g]?=some (.cells cur e (0,0))/\cur.size=c*size/\n<=c/\c<=maxLen/\cur.toList.take (n*size)=xs:=by
 rcases h.2 with⟨I,_⟩|⟨g',cap,cur,hv,J,hg,hn,hm,hs,hx⟩
 ·injection I with D;cases D
 ·injection hv with D _ O
  injection D with D;injection D with D;subst D;subst O;exact⟨J,cur,hg,hs,hn,hm,hx⟩
theorem dI (h:w.ownsRow base e size (.slice (some ⟨g,0,none⟩) n c) n xs) (D:xs[j]?=some v):w.cell? ⟨g,j,none⟩=some v:=by
 obtain⟨_,cur,hg,hs,hn,hm,hx⟩:=ju h;have I:j<xs.length:=(az.1 D).1;rw[h.1] at I;rw[<-hx,gB I] at D;simp only[World.cell?,hg];simpa using D
theorem fJ (h:w.ownsRow base e size (.slice (some ⟨g,0,none⟩) n c) n xs) (j:Nat):w.frozen? ⟨g,j,none⟩=false:=by
 obtain⟨_,cur,hg,_⟩:=ju h;simp[World.frozen?,hg]
theorem jM (h:w.ownsRow base e size (.slice (some ⟨g,0,none⟩) n c) n xs) (D:xs[j]?=some v) (u:Value):(w.setCell ⟨g,j,none⟩ u).ownsRow base e size (.slice (some ⟨g,0,none⟩) n c) n (xs.set j u):=by
 obtain⟨I,cur,hg,hs,hn,hm,hx⟩:=ju h;have J:j<xs.length:=(az.1 D).1;rw[h.1] at J;refine⟨by rw[jn,h.1], .inr ⟨g,c,cur.setIfInBounds j u,rfl,I,heap_setCell_same _ _ _ _ _ _ hg,hn,hm,by simp[hs],?_⟩⟩;rw[<-hx,QB,List.take_set]
theorem uX (h:w.ownsRow base e size (.slice (some ⟨g,0,none⟩) n c) n xs) (I:w'.heap[g]?=w.heap[g]?):w'.ownsRow base e size (.slice (some ⟨g,0,none⟩) n c) n xs:=by
 obtain⟨D,cur,hg,hs,hn,hm,hx⟩:=ju h;exact⟨h.1, .inr ⟨g,c,cur,rfl,D,I.trans hg,hn,hm,hs,hx⟩⟩
theorem aX (h:w.ownsRow base e size v n xs) (I:∀g,v.ownBlock=some g->w'.heap[g]?=w.heap[g]?):w'.ownsRow base e size v n xs:=by
 refine⟨h.1,?_⟩;rcases h.2 with J|⟨g,cap,cur,rfl,D,hg,rest⟩
 ·exact .inl J
 ·exact .inr ⟨g,cap,cur,rfl,D,(I g rfl).trans hg,rest⟩
end
structure Lv (F:Nat→Prop) (w w':World):Prop where
 os:w'.os=w.os
 tape:w'.tape=w.tape
 output:w'.output=w.output
 size:w.heap.size≤w'.heap.size
 block:∀k,k<w.heap.size→¬F k→w'.heap[k]?=w.heap[k]?
theorem Lv.refl (F:Nat->Prop) (w:World):Lv F w w:=⟨rfl,rfl,rfl,af _,fun _ _ _=>rfl⟩
theorem Lv.bL (h:Bz w w'):Lv F w w':=⟨h.os,h.tape,h.output,h.size,fun k D _=>h.block k D⟩
theorem Lv.dy (h:w.grownBy w' r) (hr:∀k,r=some k->F k\/w.heap.size<=k):Lv F w w':=
 ⟨h.os,h.tape,h.output,h.size,fun k I hF=>h.block k I fun e=>by rcases hr k e.symm with D|D;exact hF D;omega⟩
theorem Lv.trans {F':Nat->Prop} (h:Lv F w w') (D:Lv F' w' w'') (hF:∀k,F' k->F k\/w.heap.size<=k):Lv F w w'':=
 ⟨D.os.trans h.os,D.tape.trans h.tape,D.output.trans h.output,aF h.size D.size,fun k J I=>
  (D.block k (aA J h.size) fun h1=>by rcases hF k h1 with O|O;exact I O;omega).trans (h.block k J I)⟩
theorem Lv.then (h:Lv F w w') (D:Lv F w' w''):Lv F w w'':=h.trans D fun k h=> .inl h
theorem Lv.iD (h:Bz w w') (D:Lv F w' w''):Lv F w w'':=(Lv.bL h).then D
theorem Lv.cV (h:Lv F w w') (D:Bz w' w''):Lv F w w'':=h.then (Lv.bL D)
theorem Lv.mono {G:Nat->Prop} (h:Lv F w w') (hF:∀k,F k->G k\/w.heap.size<=k):Lv G w w':=
 ⟨h.os,h.tape,h.output,h.size,fun k J O=>h.block k J fun D=>by rcases hF k D with I|I;exact O I;omega⟩
theorem Lv.setCell (h:Lv F w w') {p:Addr} (hp:F p.block) (u:Value):Lv F w (w'.setCell p u):=
 ⟨h.os,h.tape,h.output,by simpa[World.setCell] using h.size,fun k D hF=>(av _ _ _ k (fun e=>hF (e▸hp))).trans (h.block k D hF)⟩
theorem Lv.drew (h:Lv F w w'):Lv F w w'.drew:=⟨h.os,h.tape,h.output,h.size,h.block⟩
theorem Lv.drewN (h:Lv F w w') (n:Nat):Lv F w (w'.drewN n):=⟨h.os,h.tape,h.output,h.size,h.block⟩
theorem Lv.alloc (h:Lv F w w') (o:Obj):Lv F w (w'.alloc o):=
 ⟨h.os,h.tape,h.output,by simp;have:=h.size;omega,fun k D hF=>(du _ _ _ (cA h.size)).trans (h.block k D hF)⟩
theorem Lv.below (h:Lv F w w') (hF:∀k,F k->B<=k) (I:B<=w.heap.size):Below B w w':=
 ⟨h.os,h.tape,h.output,h.size,fun k J=>h.block k ae fun D=>cA (hF k D)⟩
def Za (F:Nat→Prop) (A:Option Addr):Prop:=∀b o,A=some ⟨b,o,none⟩→¬F b
theorem Lv.cells (h:Lv F w w') (hc:Cells w A xs) (hA:Za F A):Cells w' A xs:=
 hc.keep h.size fun b o D I k=>gK (h.block b I (hA b o D))
theorem iv {fn:Func} {x:Exit} (h:w'=w) (k:bodyPost P fn R x a w'):bodyPost P fn R x a w:=h▸k
theorem jN {s:Code} (h:w'=w) (k:s.wp P Q a w'):s.wp P Q a w:=h▸k
def aE (w:World) (g:Nat) (T:TypeId) (cs:Array Value):Prop:=w.heap[g]?=some (.cells cs T (0,0))
theorem aE.new (w:World) (cs:Array Value) (T:TypeId):aE (w.alloc (.cells cs T)) w.heap.size T cs:=heap_alloc_new _ _
theorem Zq {w u:World} {g:Nat} {T:TypeId} {cs:Array Value} (e:u=w.alloc (.cells cs T)) (h:g=w.heap.size):aE u g T cs:=by rw [e,h];exact aE.new _ _ _
theorem Zw {w u:World} {o:Obj} (e:u=w.alloc o):Below w.heap.size w u:=by rw [e];exact au (Below.refl _ _) _
theorem aE.cell (h:aE w g T cs) (i:Nat):w.cell? ⟨g,i,none⟩=cs[i]?:=by
 unfold aE at h;simp[World.cell?,h]
theorem aE.frozen (h:aE w g T cs) (i:Nat):w.frozen? ⟨g,i,none⟩=false:=by
 unfold aE at h;simp[World.frozen?,h]
theorem aE.set (h:aE w g T cs) (i:Nat) (u:Value):aE (w.setCell ⟨g,i,none⟩ u) g T (cs.setIfInBounds i u):=heap_setCell_same _ _ _ _ _ _ h
theorem aE.block (h:aE w g T cs) (D:w'.heap[g]?=w.heap[g]?):aE w' g T cs:=D.trans h
theorem aE.lt (h:aE w g T cs):g<w.heap.size:=(aU.1 h).1
theorem aE.below (h:aE w g T cs) (D:Bz w w'):aE w' g T cs:=h.block (D.block g h.lt)
theorem aE.lv (h:aE w g T cs) (D:Lv F w w') (hg:¬F g):aE w' g T cs:=h.block (D.block g h.lt hg)
theorem aE.drew (h:aE w g T cs):aE w.drew g T cs:=h
def fW (w:World) (g:Nat):Nat→List Value→World
 |_,[]=>w
 |i,u::us=>fW (w.setCell ⟨g,i,none⟩ u) g (i+1) us
theorem Hz:∀{us:List Value} {w:World} {g i:Nat} {T:TypeId} {cs:Array Value} (h:aE w g T cs),i+us.length<=cs.size->∃ds,aE (fW w g i us) g T ds/\ds.size=cs.size/\(∀j,j<i->ds[j]?=cs[j]?)/\(∀j,j<us.length->ds[i+j]?=us[j]?)/\(∀j,i+us.length<=j->ds[j]?=cs[j]?)
 |[],w,g,i,T,cs,h,_=>⟨cs,h,rfl,fun _ _=>rfl,fun j D=>absurd D bT,fun _ _=>rfl⟩
 |u::us,w,g,i,T,cs,h,J=>by
  simp at J;obtain⟨ds,O,h2,I,h4,h5⟩:=Hz (us:=us) (i:=i+1) (h.set i u) iW;refine⟨ds,O,by simpa using h2,fun j D=>?_,fun j D=>?_,fun j D=>?_⟩
  ·rw[I j ae,Hk ae]
  ·cases j with
   |zero=>
    rw[lO,I i ae,Array.getElem?_setIfInBounds_self_of_lt ae];rfl
   |succ j=>
    rw[(ae:i+(j+1)=i+1+j),h4 j (by simp at D;omega)];rfl
  ·simp at D
   rw[h5 j ae,Hk ae]
theorem bO (h:aE w g T cs) (O:us.length=cs.size):aE (fW w g 0 us) g T us.toArray:=by
 obtain⟨ds,D,h2,_,I,_⟩:=Hz (us:=us) (i:=0) h ae;have:ds=us.toArray:=by
  apply Array.ext';apply fA;intro j
  by_cases J:j<us.length
  ·have:=I j J
   rw[ec] at this;simpa using this
  ·rw[cO iW,cO (by simpa using(by omega:us.length<=j))]
 rw[<-this];exact D
theorem AM:∀{us:List Value} {w:World} {g i:Nat},F g->Lv F w0 w->Lv F w0 (fW w g i us)
 |[],_,_,_,_,h=>h
 |u::us,w,g,i,hg,h=>AM (us:=us) hg (h.setCell (p:=⟨g,i,none⟩) hg u)
theorem bA:∀{us:List Value} {w:World} {g i:Nat},B<=g->Below B w0 w->Below B w0 (fW w g i us)
 |[],_,_,_,_,h=>h
 |u::us,w,g,i,hg,h=>bA (us:=us) hg (h.setCell (p:=⟨g,i,none⟩) hg u)
end Go.Proofs.YtbaaheidifacaaaGreat
