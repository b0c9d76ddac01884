import Derived.Test.YtbaaheidifacaaaGreatQWirePC5
import Derived.Test.YtbaaheidifacaaaGreatQFrame
set_option linter.defProp false
set_option linter.unusedVariables false
set_option linter.unusedSimpArgs false
set_option maxRecDepth 100000
set_option maxHeartbeats 12800000
namespace Go.Proofs.YtbaaheidifacaaaGreat
open Go.RowKit
theorem aaa (a b:List UInt8) {n:Nat} (hn:a.length=n):(⟨a++b,false⟩:Rd).uv n=a/\(⟨a++b,false⟩:Rd).left n=⟨b,false⟩:=by
 subst hn;have h:=xQ (s:=⟨a++b,false⟩) (n:=a.length) bT;rw[h.1,h.2];simp
theorem Z0 (n:Int) (X:List UInt8):(⟨le 1 (gJ n)++X,false⟩:Rd).byteOf=gJ n % 256/\(⟨le 1 (gJ n)++X,false⟩:Rd).left 1=⟨X,false⟩:=by
 obtain⟨D,I⟩:=aaa (le 1 (gJ n)) X (length_le _ _);refine⟨?_,I⟩;unfold Rd.byteOf;rw[D,aaY]
theorem ZH (n:Int) (X:List UInt8) (D: -9223372036854775808<=n) (I:n<=9223372036854775807):(⟨le 8 (gJ n)++X,false⟩:Rd).ix=n/\(⟨le 8 (gJ n)++X,false⟩:Rd).left 8=⟨X,false⟩:=by
 obtain⟨e1,e2⟩:=aaa (le 8 (gJ n)) X (length_le _ _);refine⟨?_,e2⟩;unfold Rd.ix;rw[e1,aaY];have hu:=Nx n;unfold wrap64 gJ at*;omega
theorem abG (s:ByteArray) (X:List UInt8) (hs:s.size<=255):str (⟨rz s.data.toList++X,false⟩:Rd).nO=s/\(⟨rz s.data.toList++X,false⟩:Rd).pO=⟨X,false⟩:=by
 have D:s.data.toList.length=s.size:=rfl;have I:rz s.data.toList++X=[Ce s.size]++(s.data.toList++X):=by
  unfold rz;rw[D,rP hs,aL ae];simp
 rw[I];obtain⟨J,O⟩:=aaa [Ce s.size] (s.data.toList++X) (n:=1) rfl;have hb:(⟨[Ce s.size]++(s.data.toList++X),false⟩:Rd).byteOf=s.size:=by
  unfold Rd.byteOf;rw[J];show mR [Ce s.size]=_;simp only[mR,rv];omega
 unfold Rd.nO Rd.pO;rw[hb,O];obtain⟨h3,h4⟩:=aaa s.data.toList X D;exact⟨by rw[h3,RT],h4⟩
end Go.Proofs.YtbaaheidifacaaaGreat
