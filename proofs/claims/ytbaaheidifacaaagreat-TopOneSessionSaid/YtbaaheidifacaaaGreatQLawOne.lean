import Derived.Test.YtbaaheidifacaaaGreatQCmdPC5
import Derived.Test.YtbaaheidifacaaaGreatQMktP
set_option linter.defProp false
set_option linter.unusedVariables false
set_option linter.unusedSimpArgs false
set_option maxRecDepth 100000
set_option maxHeartbeats 12800000
namespace Go.Proofs.YtbaaheidifacaaaGreat
variable {G:vJ} {P:PD} {c:bN} {id s:Int} {m:Mk} {u:Int→Bool}
open Go.RowKit
def aae (s:Int) (u:Int→Bool):Int→Option Int:=fun y=>if u y=true then some s else none
def aaf (u:Int→Bool) (r:ir):Int→Bool:=if r.kind=1 then fun y=>if y=r.id then true else u y else u
def ZJ:(Int→Bool)→List ir→(Int→Bool)
 |u,[]=>u
 |u,r::l=>ZJ (aaf u r) l
def okU:(Int→Bool)→List ir→Prop
 |_,[]=>True
 |u,r::l=>(r.kind=2∨aaf u r r.id=true)∧okU (aaf u r) l
theorem acC (s:Int) (u:Int->Bool) (r:ir):CP (aae s u) s r=aae s (aaf u r):=by
 unfold CP aaf
 split
 ·funext y
  simp only[aae]
  by_cases D:y=r.id
  ·simp[D]
  ·simp[D]
 ·rfl
theorem aaP (s:Int):∀(l:List ir) (u:Int->Bool) (on:Nat),okU u l->qI s (aae s u) l=l.map (fun r=>⟨s,r⟩)/\(mQ s (aae s u,on) l).1=aae s (ZJ u l)
 |[],u,on,_=>⟨rfl,rfl⟩
 |r::l,u,on,h=>by
  have I:=aaP s l (aaf u r) (TJ (aae s u) on r) h.2;unfold qI mQ ZJ;simp only[acC,aW];refine⟨?_,I.2⟩;rw[I.1]
  congr 2
  unfold XW aae;rcases h.1 with D|D
  ·simp[D]
  ·simp[D]
theorem abC:∀(l m:List ir) (u:Int->Bool),okU u l->okU (ZJ u l) m->okU u (l++m)
 |[],m,u,_,h=>h
 |r::l,m,u,D,I=>⟨D.1,abC l m _ D.2 I⟩
theorem aaQ:∀(l m:List ir) (u:Int->Bool),ZJ u (l++m)=ZJ (ZJ u l) m
 |[],m,u=>rfl
 |r::l,m,u=>aaQ l m _
theorem aaq {u:Int->Bool}:∀{l:List ir},(∀r∈l,r.kind≠1/\(r.kind=2\/u r.id=true))->okU u l/\ZJ u l=u
 |[],_=>⟨trivial,rfl⟩
 |r::l,h=>by
  have D:=h r bT;have e:aaf u r=u:=by unfold aaf;rw[if_neg D.1]
  have I:=aaq (u:=u) (l:=l) fun x hx=>h x (by simp[hx]);unfold okU ZJ;rw[e];exact⟨⟨D.2,I.1⟩,I.2⟩
theorem aag (id fy:Int):okU u (mH id fy)/\ZJ u (mH id fy)=u:=aaq fun r hr=>by
 simp[mH] at hr;subst hr;exact⟨by show(2:Int)≠1;omega, .inl rfl⟩
theorem aaR (su:∀id,fI m.S id->m.used id=true) (x k:Nat) (ag aw time:Int):
  okU m.used (iE P m id x k ag aw time).2/\ZJ m.used (iE P m id x k ag aw time).2=(iE P m id x k ag aw time).1.used:=by
 obtain⟨u,hu⟩:=Zn (fun y=>if y=id then true else m.used y:Int->Bool);have key:∀l:List ir,(∀r∈l,r.kind≠1/\(r.kind=2\/u r.id=true))->okU m.used ((⟨1,id,x,(k:Int)+1,ag,aw,aw,0⟩:ir)::l)/\ZJ m.used ((⟨1,id,x,(k:Int)+1,ag,aw,aw,0⟩:ir)::l)=u:=fun l D=>by
  have e:aaf m.used (⟨1,id,x,(k:Int)+1,ag,aw,aw,0⟩:ir)=u:=by rw[hu];rfl
  have h:=aaq D;unfold okU ZJ;rw[e];exact⟨⟨.inr (by rw[hu];simp),h.1⟩,h.2⟩
 have hs:∀r∈kj P id x k (dV P aw.toNat m.S x k ag aw).2.1 aw,r.kind≠1/\(r.kind=2\/u r.id=true):=fun r hr=>by
  refine⟨by rw[ZQ hr];omega, .inr ?_⟩;rcases FG hr with h|⟨st,I,y,J,O⟩
  ·rw[hu];simp[h]
  ·have:=su _ (NN P _ _ _ _ _ _ I J)
   rw[hu,O];simp[this]
 unfold iE;simp only
 split
 ·rw[<-hu];exact key _ hs
 ·split
  ·rw[<-hu];exact key _ hs
  ·rw[<-hu]
   refine key (_++_) fun r hr=>?_;rcases aJ.1 hr with hr|hr
   ·exact hs r hr
   ·simp at hr
    subst hr;exact⟨by show(4:Int)≠1;omega, .inr (by rw[hu];simp)⟩
theorem aar {r:ir} (h:r.kind≠1) (hu:u r.id=true):okU u [r]/\ZJ u [r]=u:=aaq fun x hx=>by
 simp at hx;subst hx;exact⟨h, .inr hu⟩
theorem acD (hF:pn P m.S) (su:∀id,fI m.S id->m.used id=true) (c:bN):okU m.used (pC P m c).2/\ZJ m.used (pC P m c).2=(pC P m c).1.used:=by
 unfold pC
 split
 ·exact aag _ _
 ·split
  ·unfold lW
   simp only
   repeat' split
   all_goals first
    |exact aag _ _
    |exact aaR su _ _ _ _ _
  ·split
   ·exact aag _ _
   ·rename_i x k p e hf
    obtain⟨hx,hk,D,ax,ay,hw,ha,M,hM,I⟩:=Ta hF hf;have hu:m.used c.id=true:=su _ ⟨x,M,e,hM,I,D⟩;have J:(4:Int)≠1:=ae;have O:(5:Int)≠1:=ae
    split
    ·unfold replaceM
     simp only
     split
     ·exact aag _ _
     ·split
      ·exact aar O hu
      ·split
       ·exact aag _ _
       ·have c1:okU m.used (dG m c.id x k p e).2/\ZJ m.used (dG m c.id x k p e).2=m.used:=aar J hu
        have c2:=aaR (P:=P) (m:=(dG m c.id x k p e).1) (id:=c.id) (fun y hy=>su y ((Sub.cutAt _ _ _ _).stands hy)) x k c.ag c.aw 1;refine⟨abC _ _ _ c1.1 (c1.2▸c2.1),?_⟩;rw[aaQ,c1.2];exact c2.2
    ·split
     ·exact aar J hu
     ·exact aar O hu
theorem ab5 (P:PD) (m:Mk) (h:dx c=0):pC P m (RU c)=pC P m c:=by
 obtain⟨I,J,O,h4⟩:=ZP h;have hr:=aaj c ⟨I,J⟩;rw[h] at hr;have D:c.kind=1\/c.kind=2\/c.kind=3\/c.kind=4:=ae;rcases D with D|D|D|D
 ·unfold RU
  rw[if_pos D]
 all_goals
  have ha:=aas c ⟨I,J⟩;rw[D] at ha;unfold pC;rw[hr,h,ha.1,ha.2,D];unfold RU;simp[D,jh,dG,replaceM]
theorem acq (S:Sm):(Mf S).length=cK S:=by
 unfold Mf cK;rw[List.length_flatMap];simp
theorem abn {S:Sm} (h:id∈Mf S):fI S id:=by
 unfold Mf at h;obtain⟨M,D,h⟩:=dD.1 h;obtain⟨e,he,rfl⟩:=aV.1 h;obtain⟨x,hx,rfl⟩:=kv.1 D;exact⟨x,_,e,aj hx,he,rfl⟩
theorem abe (h:G.own=aae s G.m.used) (su:∀id,fI G.m.S id->G.m.used id=true):ya G s=cK G.m.S:=by
 unfold ya;rw[List.filter_eq_self.2,acq];intro id D;rw[h];simp[aae,su id (abn D)]
theorem ab6 (hs:0<=s/\s<8) (h:G.own=aae s G.m.used) (su:∀id,fI G.m.S id->G.m.used id=true) (hF:pn P G.m.S) (hc:cK G.m.S<64) (hr:dx c=0) (hw:c.wf):
  (yb P G s (zE c)).2=(pC P G.m c).2.map (fun r=>⟨s,r⟩)/\(yb P G s (zE c)).1.m=(pC P G.m c).1/\(yb P G s (zE c)).1.own=aae s (pC P G.m c).1.used:=by
 obtain⟨h1,h2,h3,h4⟩:=ZP hr;have D:gw s (zE c)=(RU c,0):=by
  unfold gw;rw[if_neg ae];exact abA hr hw
 have hk:(RU c).kind=c.kind/\(RU c).id=c.id:=aas c ⟨h1,h2⟩;unfold yb;rw[D];simp only[hk.1,hk.2,ne_eq,not_true_eq_false,if_false];rw[if_neg (by rw[abe h su];omega)]
 split
 ·rename_i hn
  have I:G.m.used c.id≠true:=fun hu=>hn.2 (by rw[h];simp[aae,hu]);have hd:pC P G.m c=(G.m,mH c.id 26):=by
   unfold pC;rw[if_neg ae,if_neg hn.1]
   cases hf:sX G.m.S c.id with
   |none=>rfl
   |some q=>
    obtain⟨x,k,p,e⟩:=q;obtain⟨_,_,J,_,_,_,_,M,hM,O⟩:=Ta hF hf;exact absurd (su _ ⟨x,M,e,hM,O,J⟩) I
  rw[hd];exact⟨rfl,rfl,h⟩
 ·have hd:=acD hF su c
  have ho:=aaP s (pC P G.m c).2 G.m.used G.on hd.1;rw[ab5 P G.m hr,h];exact⟨ho.1,rfl,by rw[ho.2,hd.2]⟩
end Go.Proofs.YtbaaheidifacaaaGreat
