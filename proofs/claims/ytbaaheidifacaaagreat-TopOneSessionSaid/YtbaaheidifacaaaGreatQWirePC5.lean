import Derived.Test.YtbaaheidifacaaaGreatQBytes
set_option linter.defProp false
set_option linter.unusedVariables false
set_option linter.unusedSimpArgs false
set_option maxRecDepth 100000
set_option maxHeartbeats 12800000
namespace Go.Proofs.YtbaaheidifacaaaGreat
theorem aaY:∀(k n:Nat),mR (le k n)=n % 256 ^ k
 |0,n=>by simp[le,mR,Nat.mod_one]
 |k+1,n=>by
  simp only[le,mR,aaY k,rv];rw[pw,ko (256 ^ k) 256,Nat.mod_mul]
end Go.Proofs.YtbaaheidifacaaaGreat
