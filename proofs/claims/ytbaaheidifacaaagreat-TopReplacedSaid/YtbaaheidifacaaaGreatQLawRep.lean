import Derived.Test.YtbaaheidifacaaaGreatQTopPC1
set_option linter.defProp false
set_option linter.unusedVariables false
set_option linter.unusedSimpArgs false
set_option maxRecDepth 100000
set_option maxHeartbeats 12800000
namespace Go.Proofs.YtbaaheidifacaaaGreat
variable {P:PD} {a b id:Int} {c:bN} {m:Mk} {r:ir} {st:jz}
open Go.RowKit
def ZI (id nw:Int) (r:ir):ir:=if r.id=id then {r with id:=nw} else r
theorem abf (h:dx c=0) (J:c.kind=4):(1<=c.id/\c.id<=1099511627776)/\(1<=c.aw/\c.aw<=1000000)/\jg c.ag:=by
 unfold dx at h;rw[if_neg ae] at h
 by_cases I:c.id<1\/1099511627776<c.id
 ·rw[if_pos I] at h;cases h
 rw[if_neg I,if_neg ae] at h
 by_cases D:kL c.aw
 ·rw[if_neg (fun e=>e.2 D)] at h
  by_cases hp:jg c.ag
  ·exact⟨ae,D,hp⟩
  ·rw[if_pos ⟨J,hp⟩] at h;cases h
 ·rw[if_pos ⟨ae,D⟩] at h;cases h
theorem aaI (h:1<=id/\id<=1099511627776):dx ⟨2,id,0,0,0,0,0,0,[]⟩=0:=by
 unfold dx;simp only;rw[if_neg ae,if_neg ae,if_neg ae,if_neg ae,if_neg ae]
theorem abp {ag aw:Int} {x k:Nat} (h:1<=id/\id<=1099511627776) (hx:x<256) (I:k<2) (hq:1<=aw/\aw<=1000000) (hp:jg ag):dx ⟨1,id,x,(k:Int)+1,ag,aw,0,1,[]⟩=0:=by
 have D:kL aw:=hq;unfold dx wN;simp only;rw[if_neg ae,if_neg ae,if_pos trivial,if_neg ae,if_neg ae,if_neg (fun e=>e D),if_neg ae,if_neg (fun e=>e.1 rfl),if_neg (fun e=>e hp),if_neg ae]
theorem aca (h:r.id≠a):(lz P st r).map (ZI a b)=lz P st r:=by
 have:∀r'∈lz P st r,ZI a b r'=r':=fun r' D=>by
  unfold ZI;rw[if_neg];rcases aac D with rfl|⟨_,I,_⟩
  ·exact h
  ·rw[I];exact h
 rw[cJ this];simp
theorem acs (h:r.id=a):(lz P st r).map (ZI a b)=lz P st {r with id:=b}:=by
 unfold lz;rw[show({r with id:=b}:ir).inst=r.inst from rfl]
 split
 ·simp[ZI,h]
 ·simp[ZI,h,nW]
theorem aaT {x k:Nat}:∀(l:List jz) (left:Int),(∀st∈l,∀f∈st.U,f.id≠a)->(kj P a x k l left).map (ZI a b)=kj P b x k l left
 |[],left,_=>rfl
 |st::l,left,h=>by
  unfold kj;rw[cx,aaT l _ fun s hs=>h s (by simp[hs])]
  congr 1
  unfold nH;rw[cx]
  congr 1
  ·rw[List.map_flatMap]
   have:∀m:List fG,(∀f∈m,f.id≠a)->(m.flatMap fun f=>(lz P st (oC f)).map (ZI a b))=m.flatMap fun f=>lz P st (oC f):=by
    intro m
    induction m with
    |nil=>intro _;rfl
    |cons f m D=>
     intro hm;rw[bj,bj,D fun g hg=>hm g (by simp[hg]),aca (hm f bT)]
   exact this _ (h st bT)
  ·exact acs rfl
theorem abO (h:¬fI m.S a) (x k:Nat) (ag aw:Int):(iE P m b x k ag aw 1).2=(iE P m a x k ag aw 1).2.map (ZI a b):=by
 have hf:∀st∈(dV P aw.toNat m.S x k ag aw).2.1,∀f∈st.U,f.id≠a:=fun st D f hf e=>h (e▸NN P _ _ _ _ _ _ D hf);have hs:=aaT (P:=P) (x:=x) (k:=k) (a:=a) (b:=b) _ aw hf;unfold iE;simp only;have I:(⟨1,b,x,(k:Int)+1,ag,aw,aw,0⟩:ir)=ZI a b ⟨1,a,x,(k:Int)+1,ag,aw,aw,0⟩:=by simp[ZI]
 split
 ·rw[aW,hs,<-I]
 ·rw[if_pos trivial,if_pos trivial,aW,hs,<-I]
theorem abq (hF:pn P m.S) (su:∀id,fI m.S id->m.used id=true) (hr:dx c=0) (ax:c.kind=4) {o:Int} (ho:1<=o/\o<=1099511627776) (hu:m.used o=false):
  match sX m.S c.id with
  |none=>(pC P m c).2.length=1
  |some (x,k,p,e)=>if c.ag=p/\c.aw<=e.aw then (pC P m c).2.length=1 else
   (pC P m ⟨2,c.id,0,0,0,0,0,0,[]⟩).2.length=1/\
   ((∃fy,(pC P m c).2=mH c.id fy/\(pC P (pC P m ⟨2,c.id,0,0,0,0,0,0,[]⟩).1 ⟨1,o,x,(k:Int)+1,c.ag,c.aw,0,1,[]⟩).2=mH o fy)\/
     ((∃r l,(pC P m c).2=r::l/\r.kind=4)/\(pC P m c).2=(pC P m ⟨2,c.id,0,0,0,0,0,0,[]⟩).2++(pC P (pC P m ⟨2,c.id,0,0,0,0,0,0,[]⟩).1 ⟨1,o,x,(k:Int)+1,c.ag,c.aw,0,1,[]⟩).2.map (ZI o c.id))):=by
 obtain⟨r1,r2,r3⟩:=abf hr ax;have hd:pC P m c=match sX m.S c.id with
  |none=>(m,mH c.id 26)
  |some (x,k,p,e)=>replaceM P m c x k p e:=by
  unfold pC;rw[hr,if_neg ae,if_neg ae]
  cases sX m.S c.id with
  |none=>rfl
  |some r=>obtain⟨x,k,p,e⟩:=r;simp only;rw[if_pos ax]
 rw[hd]
 cases hf:sX m.S c.id with
 |none=>rfl
 |some r=>
  obtain⟨x,k,p,e⟩:=r;simp only;obtain⟨hx,hk,a3,a7,a8,hw,ha,M,hM,a4⟩:=Ta hF hf;have hcut:iy (cutAt m.S x c.id e.aw) m.S:=iy.cutAt m.S x c.id e.aw ae;have hg:=hF.gone hM a4;rw[a3] at hg;have ba:=hF.cnt;have a5:¬fI (cutAt m.S x c.id e.aw) o:=fun hs=>by
   have:=su _ (hcut.stands hs);rw[hu] at this
   cases this
  have O:x<256:=cA hF.right.cnt;have ay:pC P m ⟨2,c.id,0,0,0,0,0,0,[]⟩=dG m c.id x k p e:=by
   unfold pC;rw[aaI r1,if_neg ae];simp only;rw[if_neg ae,hf];simp only;rw[if_neg ae,if_pos (.inl trivial)]
  rw[ay];have a6:P.oY (x:Int) c.ag=P.fy x c.ag:=by
   unfold PD.oY;rw[if_neg ae];rfl
  have a0:pC P (dG m c.id x k p e).1 ⟨1,o,x,(k:Int)+1,c.ag,c.aw,0,1,[]⟩=lW P (dG m c.id x k p e).1 ⟨1,o,x,(k:Int)+1,c.ag,c.aw,0,1,[]⟩:=by
   unfold pC;rw[abp ho O hk r2 r3,if_neg ae];simp only;rw[if_pos trivial]
  rw[a0];have a2:lW P (dG m c.id x k p e).1 ⟨1,o,x,(k:Int)+1,c.ag,c.aw,0,1,[]⟩=if P.fy x c.ag≠0 then ((dG m c.id x k p e).1,mH o (P.fy x c.ag)) else if lV P (cutAt m.S x c.id e.aw) x k c.ag c.aw=true then ((dG m c.id x k p e).1,mH o 23) else iE P (dG m c.id x k p e).1 o x k c.ag c.aw 1:=by
   have e1:((k:Int)+1 - 1).toNat=k:=ae;have e2:((x:Int)).toNat=x:=ae;unfold lW;simp only;rw[e1,e2,a6,show(dG m c.id x k p e).1.used o=false from hu,show(dG m c.id x k p e).1.S=cutAt m.S x c.id e.aw from rfl]
   by_cases I:P.fy x c.ag≠0
   ·rw[if_pos I,if_pos I]
   ·rw[if_neg I,if_neg I,if_neg bT,if_neg ae,if_neg bT]
    by_cases J:lV P (cutAt m.S x c.id e.aw) x k c.ag c.aw=true
    ·rw[if_pos J,if_pos ⟨trivial,J⟩]
    ·rw[if_neg J,if_neg (fun e=>J e.2)]
  rw[a2];unfold replaceM;simp only
  by_cases D:c.ag=p/\c.aw<=e.aw
  ·rw[if_pos D]
   rw[D.1,if_neg ae,if_pos ⟨rfl,D.2⟩];simp[jh]
  ·rw[if_neg D]
   refine⟨rfl,?_⟩
   by_cases I:P.fy x c.ag≠0
   ·rw[if_pos I,if_pos I]
    exact .inl ⟨_,rfl,rfl⟩
   ·rw[if_neg I,if_neg I,if_neg D]
    by_cases J:lV P (cutAt m.S x c.id e.aw) x k c.ag c.aw=true
    ·rw[if_pos J,if_pos J]
     exact .inl ⟨_,rfl,rfl⟩
    ·rw[if_neg J,if_neg J]
     refine .inr ⟨⟨_,_,rfl,rfl⟩,?_⟩;simp only;rw[abO (m:=(dG m c.id x k p e).1) (a:=o) (b:=c.id) a5 x k c.ag c.aw]
end Go.Proofs.YtbaaheidifacaaaGreat
