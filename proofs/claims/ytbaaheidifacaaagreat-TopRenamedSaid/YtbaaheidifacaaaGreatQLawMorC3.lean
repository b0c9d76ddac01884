import Derived.Test.YtbaaheidifacaaaGreatQMorP
import Derived.Test.YtbaaheidifacaaaGreatQLawLegsC2
set_option linter.defProp false
set_option linter.unusedVariables false
set_option linter.unusedSimpArgs false
set_option maxRecDepth 100000
set_option maxHeartbeats 12800000
namespace Go.Proofs.YtbaaheidifacaaaGreat
variable {P:PD} {R:bN→bN→Prop} {T:Tf} {l:List bN}
open Go.RowKit
theorem NW:∀{l l':List bN},l.length=l'.length->(∀(i:Nat) (y y':bN),l[i]?=some y->l'[i]?=some y'->R y y')->WW R l l'
 |[],[],_,_=>trivial
 |[],b::l',h,_=>by simp at h
 |a::l,[],h,_=>by simp at h
 |a::l,b::l',h,hr=>⟨hr 0 a b rfl rfl,NW (by simpa using h) fun i y y' D I=>hr (i+1) y y' D I⟩
theorem Tf.law (O:T.Ok) {P':PD} (I:T.Pr P P') (hR:P.gZ) {l':List bN} (h:Tl P l) (hb:T.b*12<=1000000) (hl:l.length=l'.length)
  (hr:∀(i:Nat) (y y':bN),l[i]?=some y->l'[i]?=some y'->∃ky,y'=T.cmd y ky/\dx y'=0):
  (runM P' (Mk.new P') l').2=(runM P (Mk.new P) l).2.map T.rep:=by
 have:=Tf.runs O I hb l l' (Mk.new P) (NW hl fun i y y' J h2=>by
  obtain⟨ky,e,h3⟩:=hr i y y' J h2;have D:=h.t i y J;exact⟨D.2.WY D.1 hR,h3,D.2.side,ky,e⟩) (fun n=>⟨h.sb n,(h.f n).nd⟩)
 rw[T.UX I] at this;rw[this]
theorem acy (h:P.gZ) (hm:T.zx=false) (ha:T.a=1) (hf:T.b=1\/P.rule=1):T.Pr P P:=by
 have hn:0<P.n:=cA h.cnt;have D:∀p,T.pr p=p:=fun p=>by unfold Tf.pr;rw[hm,ha];simp
 have I:¬T.zx=true:=by rw[hm];simp
 refine⟨rfl,by rw[ha,qW],fun x=>?_,fun x=>?_,?_,?_,?_,?_,Int.le_of_lt h.lh,fun j=>(D _).symm,rfl,rfl,rfl,rfl,hf,fun x hx _=>?_,h.BO⟩
 ·rw[if_neg I,D]
 ·rw[if_neg I,D]
 ·unfold PD.lo;rw[if_pos hn]
 ·unfold PD.hi;rw[if_pos hn]
 ·unfold PD.lo;rw[if_pos hn]
 ·unfold PD.hi;rw[if_pos hn]
 ·unfold PD.lo PD.hi
  rw[if_neg ae,if_neg ae];exact⟨rfl,rfl⟩
theorem J4:∀{l:List bN} {m:Mk} {r:ir},r∈(runM P m l).2->∃n c,l[n]?=some c/\r∈(pC P (runM P m (l.take n)).1 c).2
 |[],m,r,h=>by simp[runM] at h
 |c::l,m,r,h=>by
  unfold runM at h;rcases aJ.1 h with h|h
  ·exact⟨0,c,rfl,h⟩
  ·obtain⟨n,d,D,I⟩:=J4 h
   exact⟨n+1,d,D,I⟩
theorem Tl.rep (h:Tl P l) {r:ir} (hr:r∈(runM P (Mk.new P) l).2):zL P r:=by
 obtain⟨n,c,I,D⟩:=J4 hr;exact(U3 (h.f n) c).all r D
end Go.Proofs.YtbaaheidifacaaaGreat
