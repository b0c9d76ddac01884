import Derived.Test.YtbaaheidifacaaaGreatQBytes
import Derived.Lib.DecodeN
import Derived.Lib.RuneCount
set_option linter.defProp false
set_option linter.unusedVariables false
set_option linter.unusedSimpArgs false
set_option maxRecDepth 100000
set_option maxHeartbeats 12800000
namespace Go.Proofs.YtbaaheidifacaaaGreat
variable {t:List UInt8}
open Go.RowKit
def jb (t:List UInt8):Nat×Nat:=Lib.decodeN t.length (t.getD 0 0).toNat (t.getD 1 0).toNat (t.getD 2 0).toNat (t.getD 3 0).toNat
theorem zV (l:List UInt8) (i:Nat):(str l).get! i=l.getD i 0:=by
 by_cases h:i<l.length
 ·have D:i<(str l).size:=by rw[tM];exact h
  simp[ByteArray.get!,str,getElem!_pos,h]
 ·simp[ByteArray.get!,str,h];rfl
theorem K8 (l:List UInt8) (pos:Nat):Utf8.decode (str l) pos=jb (l.drop pos):=by
 rw[Lib.decode_at];unfold jb;rw[zV,zV,zV,zV,tM,cu];simp[jI]
theorem xM (t:List UInt8) (D:t≠[]):1<=(jb t).2/\(jb t).2<=t.length/\(jb t).2<=4:=by
 have hp:0<t.length:=iu.2 D;unfold jb Lib.decodeN
 repeat' split
 all_goals(simp only[];omega)
theorem RI (t:List UInt8):(jb t).1<=1114111:=by
 have D:=(t.getD 0 0).toNat_lt;have I:=(t.getD 1 0).toNat_lt;have J:=(t.getD 2 0).toNat_lt;have O:=(t.getD 3 0).toNat_lt;unfold jb Lib.decodeN
 repeat' split
 all_goals(simp only[];omega)
def uk:Nat→List UInt8→List (Nat×List UInt8)
 |0,_=>[]
 |f+1,t=>if t=[] then [] else ((jb t).1,t.take (jb t).2)::uk f (t.drop (jb t).2)
theorem um:∀(f g:Nat) (t:List UInt8),t.length<=f->t.length<=g->uk f t=uk g t
 |0,0,t,_,_=>rfl
 |0,g+1,t,h,_=>by
  have:t=[]:=aP ae;simp[uk,this]
 |f+1,0,t,_,h=>by
  have:t=[]:=aP ae;simp[uk,this]
 |f+1,g+1,t,hf,hg=>by
  unfold uk
  by_cases D:t=[]
  ·rw[if_pos D,if_pos D]
  ·have:=xM t D
   rw[if_neg D,if_neg D,um f g _ (by rw[cu];omega) (by rw[cu];omega)]
def jc (t:List UInt8):List (Nat×List UInt8):=uk t.length t
theorem BV:jc []=[]:=rfl
theorem zm (D:t≠[]):jc t=((jb t).1,t.take (jb t).2)::jc (t.drop (jb t).2):=by
 have I:=xM t D;unfold jc;rw[um t.length (t.length+1) t (af _) ae]
 conv=>lhs;unfold uk
 rw[if_neg D,um t.length _ _ (by rw[cu];omega) (af _)]
def E7 (r:Nat):Bool:= !(decide (r<32)||r==127||r==65533)
def Cd (t:List UInt8):Bool:=(jc t).all (fun x=>E7 x.1) && decide (1≤(jc t).length∧(jc t).length≤12)
def Ci (l:List (Nat×List UInt8)):List UInt8:=l.flatMap (·.2)
theorem Gv (a b:List (Nat×List UInt8)):Ci (a++b)=Ci a++Ci b:=by simp[Ci]
structure AtR (t:List UInt8) (k pos:Nat):Prop where
 le:pos≤t.length
 rest:jc (t.drop pos)=(jc t).drop k
 done:t.take pos=Ci ((jc t).take k)
 Yu:k≤pos
 kc:k≤(jc t).length
theorem AtR.zero (t:List UInt8):AtR t 0 0:=⟨aB _,bT,by simp[Ci],af _,aB _⟩
theorem AtR.step {k pos:Nat} (h:AtR t k pos) (hp:pos<t.length):
  AtR t (k+1) (pos+(jb (t.drop pos)).2)/\(jc t)[k]?=some ((jb (t.drop pos)).1,(t.drop pos).take (jb (t.drop pos)).2)/\1<=(jb (t.drop pos)).2/\pos+(jb (t.drop pos)).2<=t.length:=by
 have D:t.drop pos≠[]:=by
  intro O;have:=congrArg List.length O;rw[cu] at this;simp at this;omega
 have J:=xM _ D;have hc:=zm D;have hr:=h.rest;rw[hc] at hr;have I:(jc t)[k]?=some ((jb (t.drop pos)).1,(t.drop pos).take (jb (t.drop pos)).2):=by
  have:=congrArg (fun l=>l[0]?) hr;simp only[List.getElem?_cons_zero,jH,lO] at this;exact this.symm
 have hlen:=J.2.1;rw[cu] at hlen;refine⟨⟨ae,?_,?_,cA h.Yu,yZ I⟩,I,J.1,ae⟩
 ·have:=congrArg List.tail hr
  rw[List.tail_cons,List.tail_drop,QC] at this;exact this
 ·rw[List.take_add,h.done,bC,I,Gv]
  simp[Ci]
theorem AtR.end_ {k pos:Nat} (h:AtR t k pos) (hp:¬pos<t.length):k=(jc t).length/\pos=t.length:=by
 have D:pos=t.length:=cA h.le;subst D;refine⟨?_,rfl⟩;have I:=h.rest;rw[List.drop_length,BV] at I;have J:=congrArg List.length I;rw[cu] at J;simp at J;have:=h.kc;omega
def wO (t:List UInt8):Nat:=(jc t).length
end Go.Proofs.YtbaaheidifacaaaGreat
