import Derived.Test.YtbaaheidifacaaaGreatQBackPC5
import Derived.Test.YtbaaheidifacaaaGreatQCmdP
set_option linter.defProp false
set_option linter.unusedVariables false
set_option linter.unusedSimpArgs false
set_option maxRecDepth 100000
set_option maxHeartbeats 12800000
namespace Go.Proofs.YtbaaheidifacaaaGreat
variable {c:bN} {l:List UInt8}
open Go.RowKit
theorem aa8 (c:bN):(zE c).length<=292:=by
 unfold zE vW
 repeat' split
 all_goals(simp only[aC,length_le,oZ,lZ];omega)
theorem ZP (h:dx c=0):1<=c.kind/\c.kind<=4/\1<=c.id/\c.id<=1099511627776:=by
 unfold dx at h
 split at h
 ·cases h
 ·split at h
  ·cases h
  ·omega
theorem abU (h:Cd l=true):l.length<=48:=by
 simp only[Cd,dv,decide_eq_true_eq] at h;have key:∀(n:Nat) (t:List UInt8),t.length<=n->t.length<=4*(jc t).length:=by
  intro n
  induction n with
  |zero=>intro t I;omega
  |succ n J=>
   intro t I
   by_cases D:t=[]
   ·subst D;simp
   ·have O:=xM t D
    have:=J (t.drop (jb t).2) (by rw[cu];omega);rw[zm D,bI];rw[cu] at this;omega
 have:=key l.length l (af _);omega
theorem abH (h:dx c=0) (I:c.kind=1):(c.side=1\/c.side=2)/\1<=c.time/\c.time<=3/\kL c.aw/\0<=c.least/\c.least<=c.aw/\c.ky.length<=48/\jg c.ag/\0<=c.inst/\c.inst<=255:=by
 have hr:=ZP h;unfold dx at h;rw[if_neg ae,if_neg ae,if_pos I] at h;unfold wN at h
 split at h
 ·cases h
 rename_i h1
 split at h
 ·cases h
 rename_i h2
 split at h
 ·cases h
 rename_i J
 split at h
 ·cases h
 rename_i h4
 split at h
 ·cases h
 rename_i O
 split at h
 ·cases h
 rename_i h6
 split at h
 ·cases h
 rename_i h7;refine⟨ae,ae,ae,by simpa using J,ae,ae,?_,by simpa using h6,ae,ae⟩
 by_cases D:c.ky=[]
 ·rw[D];simp
 ·have:Cd c.ky=true:=by
   cases hl:Cd c.ky
   ·exact absurd ⟨D,hl⟩ O
   ·rfl
  exact abU this
theorem aas (c:bN) (h:1<=c.kind/\c.kind<=4):(RU c).kind=c.kind/\(RU c).id=c.id:=by
 unfold RU
 repeat' split
 all_goals first|exact⟨rfl,rfl⟩|omega
theorem aaj (c:bN) (h:1<=c.kind/\c.kind<=4):dx (RU c)=dx c:=by
 have D:c.kind=1\/c.kind=2\/c.kind=3\/c.kind=4:=ae;rcases D with D|D|D|D
 ·rw[show RU c=c by unfold RU;rw[if_pos D]]
 all_goals simp[dx,RU,D]
theorem abA (h:dx c=0) (hw:c.wf):zF (zE c)=(RU c,0):=by
 have hr:=ZP h
 obtain⟨b1,b2⟩:=Z0 c.kind (le 8 (gJ c.id)++vW c)
 have hb:((Hj (zE c)).byteOf:Int)=c.kind:=by
  show((⟨le 1 (gJ c.kind)++(le 8 (gJ c.id)++vW c),false⟩:Rd).byteOf:Int)=_
  rw[b1];unfold gJ;omega
 obtain⟨l1,l2⟩:=ZH c.id (vW c) hw.id.1 hw.id.2
 have hl:(Hj (zE c)).left 1=⟨le 8 (gJ c.id)++vW c,false⟩:=b2
 have key:(fL c.kind c.id ⟨vW c,false⟩)=(RU c,⟨[],false⟩):=by
  have hk:c.kind=1\/c.kind=2\/c.kind=3\/c.kind=4:=by omega
  rcases hk with hk|hk|hk|hk
  ·obtain⟨n1,n2,n3,n4,n5,n6,n7,n8,n9,n10⟩:=abH h hk
   unfold fL RU vW
   rw[if_pos hk,if_pos hk,if_pos hk]
   obtain⟨x1,y1⟩:=Z0 c.inst (le 1 (gJ c.side)++(le 1 (gJ c.time)++(le 8 (gJ c.ag)++(le 8 (gJ c.aw)++(le 8 (gJ c.least)++rz c.ky)))))
   obtain⟨x2,y2⟩:=Z0 c.side (le 1 (gJ c.time)++(le 8 (gJ c.ag)++(le 8 (gJ c.aw)++(le 8 (gJ c.least)++rz c.ky))))
   obtain⟨x3,y3⟩:=Z0 c.time (le 8 (gJ c.ag)++(le 8 (gJ c.aw)++(le 8 (gJ c.least)++rz c.ky)))
   obtain⟨x4,y4⟩:=ZH c.ag (le 8 (gJ c.aw)++(le 8 (gJ c.least)++rz c.ky)) hw.ag.1 hw.ag.2
   obtain⟨x5,y5⟩:=ZH c.aw (le 8 (gJ c.least)++rz c.ky) hw.aw.1 hw.aw.2
   obtain⟨x6,y6⟩:=ZH c.least (rz c.ky) hw.least.1 hw.least.2
   obtain⟨x7,y7⟩:=abG (str c.ky) [] (by rw[tM];omega)
   rw[show(str c.ky).data.toList=c.ky by simp[str],List.append_nil] at x7 y7
   have x7':(⟨rz c.ky,false⟩:Rd).nO=c.ky:=by
    have:=congrArg (fun s:ByteArray=>s.data.toList) x7
    simpa[str] using this
   simp only[y1,y2,y3,y4,y5,y6,y7,x1,x2,x3,x4,x5,x6,x7']
   refine Prod.ext ?_ rfl
   ext1<;>first|rfl|exact hk|(simp only[gJ];omega)
  ·unfold fL RU vW
   simp[hk]
  ·unfold fL RU vW
   obtain⟨x1,y1⟩:=ZH c.aw [] hw.aw.1 hw.aw.2
   rw[List.append_nil] at x1 y1
   simp[hk,x1,y1]
  ·unfold fL RU vW
   obtain⟨x1,y1⟩:=ZH c.ag (le 8 (gJ c.aw)) hw.ag.1 hw.ag.2
   obtain⟨x2,y2⟩:=ZH c.aw [] hw.aw.1 hw.aw.2
   rw[List.append_nil] at x2 y2
   simp[hk,x1,y1,x2,y2]
 have hra:dx (RU c)=0:=by rw[aaj c ⟨hr.1,hr.2.1⟩];exact h
 unfold zF
 rw[hl,l1,l2,hb,key]
 rw[if_neg (by omega)]
 simp only[Rd.vV]
 simp[hra]
end Go.Proofs.YtbaaheidifacaaaGreat
