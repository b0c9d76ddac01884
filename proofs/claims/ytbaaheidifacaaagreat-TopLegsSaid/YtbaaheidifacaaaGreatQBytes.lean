import Derived.Test.YtbaaheidifacaaaGreatQBase
import Derived.Laws.BytesArg
import Derived.Lib.SlBytesConst
set_option linter.defProp false
set_option linter.unusedVariables false
set_option linter.unusedSimpArgs false
set_option maxRecDepth 100000
set_option maxHeartbeats 12800000
namespace Go.Proofs.YtbaaheidifacaaaGreat
variable {A ma sa:Option Addr} {b l t:List UInt8} {k p x:Nat} {w w':World} {xs:List Value}
open Go.RowKit
def ij (l:List UInt8):List Value:=l.map fun c=> .int .u8 (c.toNat:Int)
theorem kW (l:List UInt8):(ij l).length=l.length:=by simp[ij]
theorem sw (l:List UInt8):∀u∈ij l,u.oneCell'=true:=by
 intro u hu;simp only[ij,aV] at hu;obtain⟨c,_,rfl⟩:=hu;rfl
def str (l:List UInt8):ByteArray:=⟨l.toArray⟩
theorem wL (l:List UInt8):(str l).toList=l:=ByteArray.toList_mk l
theorem tM (l:List UInt8):(str l).size=l.length:=by simp[str,ByteArray.size]
theorem Cells.Nk (h:Cells w A (ij l)) (D:k<l.length):
  ∃b o x,A=some ⟨b,o,none⟩/\b<w.heap.size/\w.cell? ⟨b,o+k,none⟩=some (.int .u8 ((x:UInt8).toNat:Int))/\Hid (l[k]?=some x):=by
 obtain⟨b,o,rfl,J,hc⟩:=h (by intro I;simp[ij] at I;subst I;simp at D);exact⟨b,o,l[k],rfl,J,hc k _ (by simp[ij,D]),by simp[Hid,D]⟩
theorem Cells.drop (h:Cells w A xs) (n c:Nat) (hc:xs.length<=c):Cells w (if c=n then A else A.map (·.add n)) (xs.drop n):=fun hn=>by
 have J:n<xs.length:=by
  rcases pq n xs.length with I|I
  ·exact I
  ·exact absurd (Vj I) hn
 obtain⟨b,o,rfl,O,D⟩:=h (by rintro rfl;simp at hn);rw[if_neg ae];refine⟨b,o+n,by simp[Addr.add_lit],O,fun k u hu=>?_⟩;rw[jH] at hu;rw[bg];exact D _ u hu
theorem T7 {P:Program} {src dst e:TypeId} (hs:P.underlying src=some (.slice e)) (he:P.underlying e=some (.int .u8)) (hd:P.underlying dst=some .string)
  {n:Nat} (c:Nat) (hn:l.length=n) (h:Cells w A (ij l)):(convert src dst (.slice A n c)).run P w= .ok (.string (str l)) w:=by
 subst hn
 by_cases I:l=[]
 ·subst I
  rcases A with _|a
  ·exact run_convert_bytes_nil w src e hs he _ c dst hd
  ·have D:(loadCells a 0).run P w= .ok #[] w:=by simp[loadCells,loadCellsFrom]
   rw[run_convert_bytes_string w src dst e _ _ c hs he hd];have:=run_bytesToString (P:=P) w a 0 c [] (by simpa using D);exact this.trans rfl
 ·obtain⟨b,o,rfl,J,hc⟩:=h (by intro D;simp[ij] at D;exact I D)
  have:=run_convert_bytes_arg (P:=P) w src e hs he b o l.length c (l.map fun x=>(x.toNat:Int)) bT (fun i hi=>by
   refine(hc i (.int .u8 (l[i].toNat:Int)) (by simp[ij,hi])).trans ?_;simp[List.getD,hi]) dst hd
  rw[this]
  congr 2
  simp only[strOfNums,str,di]
  congr 2
  refine(cJ ?_).trans (List.map_id l);intro x _;simp
structure PD where
 code:List UInt8
 E:List Int
 tick:Int
 low:Int
 high:Int
 wide:Int
 rule:Int
 top:Int
 least:Int
 part:Int
 settle:List Int
variable {P:PD}
def PD.n (P:PD):Nat:=P.E.length
structure PD.gZ (P:PD):Prop where
 code:P.code=[206,169]∨P.code=[67,76]
 n2:2≤P.E.length
 n6:P.E.length≤6
 YJ:∀m∈P.E,0≤m∧m≤1199
 inc:P.E.Pairwise (· < ·)
 BO:1≤P.tick
 EH:P.tick≤1000
 Uh:P.tick∣P.low
 Nr:P.tick∣P.high
 RF:P.tick∣P.wide
 KY:∀x∈P.settle,P.tick∣x∧P.low≤x∧x≤P.high
 vI:P.settle.length=P.E.length
 I7: -1000000≤P.low
 lh:P.low<P.high
 zl:P.high≤1000000
 EK:0≤P.wide
 E5:P.wide≤P.high - P.low
 I8:1≤P.rule
 I9:P.rule≤3
 yB:0≤P.top
 Wt:P.top≤1000000
 BP:1≤P.least
 KZ:P.least≤1000
 Ja:0≤P.part
 Jb:P.part≤100
def oA (n:Nat):Nat→Nat
 |0=>0
 |k+1=>oA n k+(n - 1 - k)
def yE (n:Nat):Nat:=n+n*(n - 1) / 2
def fv (n i j:Nat):Nat:=n+oA n i+j - i - 1
def yF (n x:Nat):Nat→Nat→Nat×Nat
 |0,_=>(0,0)
 |f+1,i=>if x<n+oA n (i+1) then (i,i+1+x - (n+oA n i)) else yF n x f (i+1)
def cy (n x:Nat):Nat×Nat:=if x<n then (x,x) else yF n x n 0
def PD.count (P:PD):Nat:=yE P.n
def PD.lo (P:PD) (x:Nat):Int:=if x<P.n then P.low else -P.wide
def PD.hi (P:PD) (x:Nat):Int:=if x<P.n then P.high else P.wide
def PD.fy (P:PD) (x:Nat) (p:Int):Int:=if p % P.tick≠0 then 22 else if p<P.lo x∨P.hi x<p then 23 else 0
def PD.oY (P:PD) (x:Int) (p:Int):Int:=if x<0∨(P.count:Int)≤x then 20 else P.fy x.toNat p
theorem Gi:∀n<7,yE n<=21:=by decide
theorem BS:∀n<7,∀x<21,n<=x->x<yE n->((cy n x).1<(cy n x).2/\(cy n x).2<n/\fv n (cy n x).1 (cy n x).2=x):=by decide
theorem K6:((List.range 7).all fun n=>(List.range 6).all fun i=>(List.range 6).all fun j=> !(decide (i<j) && decide (j<n))||(decide (n<=fv n i j) && decide (fv n i j<yE n) && (cy n (fv n i j)==(i,j))))=true:=by decide
theorem BU (n:Nat) (hn:n<7) (i:Nat) (hi:i<6) (j:Nat) (D:j<6) (I:i<j) (J:j<n):n<=fv n i j/\fv n i j<yE n/\cy n (fv n i j)=(i,j):=by
 have:=fN.1 (fN.1 (fN.1 K6 n (iT.2 hn)) i (iT.2 hi)) j (iT.2 D);simp[I,J] at this;exact⟨this.1.1,this.1.2,this.2⟩
theorem PD.gZ.cnt (h:P.gZ):P.count<=21/\P.n<=P.count/\2<=P.n/\P.n<=6:=by
 have D:=h.n2;have I:=h.n6;have J:=Gi P.n (by unfold PD.n;omega);unfold PD.count;refine⟨J,?_,D,I⟩;unfold yE;omega
theorem PD.gZ.RG (h:P.gZ) (D:P.n<=x) (I:x<P.count):(cy P.n x).1<(cy P.n x).2/\(cy P.n x).2<P.n/\fv P.n (cy P.n x).1 (cy P.n x).2=x:=by
 have:=h.cnt;exact BS P.n ae x (by unfold PD.count at*;omega) D I
theorem PD.gZ.spread (h:P.gZ) {i j:Nat} (D:i<j) (I:j<P.n):P.n<=fv P.n i j/\fv P.n i j<P.count/\cy P.n (fv P.n i j)=(i,j):=by
 have:=h.cnt;exact BU P.n ae i ae j ae D I
theorem uj {n:Nat} (h:x<n):cy n x=(x,x):=by unfold cy;rw[if_pos h]
theorem PD.gZ.ag (h:P.gZ) {p:Int} (hp:P.fy x p=0): -2000000<=p/\p<=2000000/\P.tick∣p/\P.lo x<=p/\p<=P.hi x:=by
 unfold PD.fy at hp
 split at hp
 ·omega
 ·rename_i D
  split at hp
  ·omega
  ·rename_i O
   have a1:=h.I7;have a2:=h.zl;have a3:=h.EK;have a4:=h.E5;have I: -2000000<=P.lo x:=by unfold PD.lo;split<;>omega
   have J:P.hi x<=2000000:=by unfold PD.hi;split<;>omega
   refine⟨ae,ae,TK (by simpa using D),ae,ae⟩
def qP (A:Option Addr) (k:Nat):Prop:=∃o,A=some ⟨k,o,none⟩
theorem Cells.same (h:Cells w A xs) (I:∀k,qP A k->k<w.heap.size->w'.heap[k]?=w.heap[k]?) (hs:w.heap.size<=w'.heap.size):Cells w' A xs:=by
 intro hx;obtain⟨b,o,rfl,D,hc⟩:=h hx;exact⟨b,o,rfl,aA D hs,fun k v hv=>Yd (I b ⟨o,rfl⟩ D) (hc k v hv)⟩
def PD.val (P:PD) (ma:Option Addr) (mc:Nat) (sa:Option Addr) (sc:Nat):Value:=
 .agg #[.string (str P.code), .slice ma P.E.length mc,Iz P.tick,Iz P.low,Iz P.high,Iz P.wide,Iz P.rule,Iz P.top,Iz P.least,Iz P.part, .slice sa P.settle.length sc]
structure iZ (w:World) (P:PD) (ma sa:Option Addr):Prop where
 m:Cells w ma (bZ P.E)
 s:Cells w sa (bZ P.settle)
 right:P.gZ
theorem iZ.same (h:iZ w P ma sa) (I:∀k,qP ma k\/qP sa k->k<w.heap.size->w'.heap[k]?=w.heap[k]?) (hs:w.heap.size<=w'.heap.size):iZ w' P ma sa:=
 ⟨h.m.same (fun k D=>I k (.inl D)) hs,h.s.same (fun k D=>I k (.inr D)) hs,h.right⟩
theorem iZ.below (h:iZ w P ma sa) (D:Bz w w'):iZ w' P ma sa:=h.same (fun k _ I=>D.block k I) D.size
theorem iZ.drew (h:iZ w P ma sa):iZ w.drew P ma sa:=h.same (fun _ _ _=>rfl) (af _)
def Ce (n:Nat):UInt8:=UInt8.ofNat (n % 256)
theorem rv (n:Nat):(Ce n).toNat=n % 256:=by
 unfold Ce;rw[UInt8.toNat_ofNat'];exact Nat.mod_eq_of_lt ae
theorem xN (x:UInt8):Ce x.toNat=x:=by
 apply UInt8.toNat_inj.1;rw[rv];have:=x.toNat_lt;omega
def le:Nat→Nat→List UInt8
 |0,_=>[]
 |k+1,n=>Ce n::le k (n / 256)
def mR:List UInt8→Nat
 |[]=>0
 |x::l=>x.toNat+256*mR l
theorem length_le:∀(k n:Nat),(le k n).length=k
 |0,_=>rfl
 |k+1,n=>by simp[le,length_le k]
theorem xO:∀(l:List UInt8),mR l<256 ^ l.length
 |[]=>by simp[mR]
 |x::l=>by
  have D:=xO l;have I:=x.toNat_lt;simp only[mR,bI,pw];omega
theorem zW:∀(l:List UInt8),le l.length (mR l)=l
 |[]=>rfl
 |x::l=>by
  have D:=x.toNat_lt;have e1:(x.toNat+256*mR l) / 256=mR l:=ae;have e2:Ce (x.toNat+256*mR l)=x:=by
   apply UInt8.toNat_inj.1;rw[rv];omega
  simp only[bI,le,mR,e1,e2,zW l]
theorem Ns:∀(k n:Nat),le (k+1) n=le k n++[Ce (n / 256 ^ k)]
 |0,n=>by simp[le]
 |k+1,n=>by
  rw[le,Ns k,le,Vo,pw,ko 256];rfl
theorem E8 (x:UInt8):∀(l:List UInt8),mR (l++[x])=mR l+x.toNat*256 ^ l.length
 |[]=>by simp[mR]
 |y::l=>by
  simp only[fO,mR,E8 x l,bI,pw];rw[Ki,Nat.mul_left_comm,<-qM,bg,ko 256,qM,ko 256]
theorem Cf {x:UInt8} (h:l[k]?=some x):mR (l.take (k+1))=mR (l.take k)+x.toNat*256 ^ k:=by
 have D:=(az.1 h).1;rw[dN h,E8,bJ,rP ae]
def vo (c:BitVec 32):BitVec 32:=if c.getLsbD 0=true then (c>>>1) ^^^ 0xedb88320#32 else c>>>1
def oB:Nat→BitVec 32→BitVec 32
 |0,c=>c
 |k+1,c=>vo (oB k c)
def uo (x:UInt8):BitVec 32:=BitVec.ofNat 32 x.toNat
def Jc (c:BitVec 32) (x:UInt8):BitVec 32:=oB 8 (c ^^^ uo x)
def Cg (c:BitVec 32) (l:List UInt8):BitVec 32:=l.foldl Jc c
def XO (l:List UInt8):BitVec 32:= ~~~ (Cg (BitVec.allOnes 32) l)
def zD (l:List UInt8):Nat:=(XO l).toNat
theorem Nt (l:List UInt8):zD l<4294967296:=(XO l).isLt
theorem Jd (c:BitVec 32) (l m:List UInt8):Cg c (l++m)=Cg (Cg c l) m:=Hh ..
def nh (b:List UInt8):List UInt8:=Ce b.length::Ce (255 - b.length)::(b++le 4 (zD b))
theorem nV (b:List UInt8):(nh b).length=b.length+6:=by simp[nh,length_le]
structure wM where
 b:List UInt8
 stop:Nat
 fy:Nat
def iw (l:List UInt8) (place:Nat):wM:=
 match l with
 |n::m::t=>
  if m.toNat≠255 - n.toNat then ⟨[],0,14⟩
  else if t.length<n.toNat+4 then ⟨[],0,10⟩
  else if mR ((t.drop n.toNat).take 4)≠zD (t.take n.toNat) then ⟨[],0,14⟩
  else ⟨t.take n.toNat,place+n.toNat+6,0⟩
 |_=>⟨[],0,10⟩
def xP (l:List UInt8) (place:Int):wM:=
 if place<0∨(l.length:Int)<place then ⟨[],0,1⟩ else iw (l.drop place.toNat) place.toNat
theorem RJ {place:Nat} {o:wM} (h:iw l place=o) (hw:o.fy=0):∃rest,l=nh o.b++rest/\o.b.length<=255/\o.stop=place+o.b.length+6:=by
 subst h;rcases l with _|⟨n,_|⟨m,t⟩⟩
 ·simp[iw] at hw
 ·simp[iw] at hw
 ·simp only[iw] at hw⊢
  have hn:=n.toNat_lt
  split at hw
  ·simp at hw
  ·rename_i hm
   split at hw
   ·simp at hw
   ·rename_i O
    split at hw
    ·simp at hw
    ·rename_i hc
     have D:m.toNat=255 - n.toNat:=ae;have I:mR ((t.drop n.toNat).take 4)=zD (t.take n.toNat):=by simpa using hc
     rw[if_neg hm,if_neg O,if_neg hc];have J:(t.take n.toNat).length=n.toNat:=iW;refine⟨(t.drop n.toNat).drop 4,?_,iW,iW⟩;have e1:Ce (t.take n.toNat).length=n:=by rw[J,xN]
     have e2:Ce (255 - (t.take n.toNat).length)=m:=by rw[J,<-D,xN]
     have e3:le 4 (zD (t.take n.toNat))=(t.drop n.toNat).take 4:=by
      rw[<-I];have:((t.drop n.toNat).take 4).length=4:=iW;have h:=zW ((t.drop n.toNat).take 4)
      rwa [this] at h
     simp only[nh,e1,e2,e3,fO,bD,iG]
structure G7 where
 rows:List (List UInt8)
 stop:Nat
 fy:Nat
def qL:Nat→List UInt8→Nat→G7
 |0,_,p=>⟨[],p,0⟩
 |k+1,t,p=>
  if t=[] then ⟨[],p,0⟩
  else if (iw t p).fy=0 then ⟨(iw t p).b::(qL k (t.drop ((iw t p).b.length+6)) (iw t p).stop).rows,(qL k (t.drop ((iw t p).b.length+6)) (iw t p).stop).stop,(qL k (t.drop ((iw t p).b.length+6)) (iw t p).stop).fy⟩
  else if (iw t p).fy=10 then ⟨[],p,0⟩ else ⟨[],p,14⟩
theorem Dj:∀(k k':Nat) (t:List UInt8) (p:Nat),t.length<k->t.length<k'->qL k t p=qL k' t p
 |0,_,t,p,h,_=>absurd h ae
 |_,0,t,p,_,h=>absurd h ae
 |k+1,k'+1,t,p,h,I=>by
  unfold qL
  by_cases D:t=[]
  ·rw[if_pos D,if_pos D]
  ·have J:0<t.length:=iu.2 D
   have:(t.drop ((iw t p).b.length+6)).length<t.length:=by rw[cu];omega
   rw[Dj k k' (t.drop ((iw t p).b.length+6)) (iw t p).stop ae ae]
def gU (t:List UInt8) (p:Nat):G7:=qL (t.length+1) t p
theorem Tp (p:Nat):gU [] p=⟨[],p,0⟩:=rfl
theorem U9 {e:Nat} (D:t≠[]) (h:iw t p=⟨b,e,0⟩):gU t p=⟨b::(gU (t.drop (b.length+6)) e).rows,(gU (t.drop (b.length+6)) e).stop,(gU (t.drop (b.length+6)) e).fy⟩:=by
 have I:0<t.length:=iu.2 D;have hf:=Dj t.length ((t.drop (b.length+6)).length+1) (t.drop (b.length+6)) e (by rw[cu];omega) ae;unfold gU;rw[<-hf]
 conv=>lhs;unfold qL
 rw[if_neg D,h,if_pos rfl]
theorem Tq (D:t≠[]) (h:(iw t p).fy=10):gU t p=⟨[],p,0⟩:=by
 unfold gU qL;rw[if_neg D,if_neg ae,if_pos h]
theorem Tr (D:t≠[]) (I:(iw t p).fy≠0) (h:(iw t p).fy≠10):gU t p=⟨[],p,14⟩:=by
 unfold gU qL;rw[if_neg D,if_neg I,if_neg h]
theorem NX {e:Nat} (h:iw t p=⟨b,e,0⟩):e=p+b.length+6/\b.length+6<=t.length/\b.length<=255:=by
 obtain⟨rest,D,I,J⟩:=RJ h rfl;refine⟨J,?_,I⟩;rw[D];simp[nV]
end Go.Proofs.YtbaaheidifacaaaGreat
