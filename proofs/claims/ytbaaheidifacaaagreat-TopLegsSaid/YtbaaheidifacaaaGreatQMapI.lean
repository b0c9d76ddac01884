import Derived.Test.YtbaaheidifacaaaGreatQBase
import Derived.Test.YtbaaheidifacaaaGreatRows
import Derived.Maps.Own
import Derived.Maps.OwnOps
import Derived.Maps.OwnSet
import Derived.Maps.Keyed
import Derived.Maps.Views
import Derived.MapKept
import Derived.Laws.Externs
set_option linter.defProp false
set_option linter.unusedVariables false
set_option linter.unusedSimpArgs false
set_option maxRecDepth 100000
set_option maxHeartbeats 12800000
namespace Go.Proofs.YtbaaheidifacaaaGreat
variable {F:Nat→Prop} {b sz:Nat} {e t:TypeId} {f:Int→Option Value} {w w':World} {x:Int} {z:Value}
open Go.RowKit Go.Maps
def dZ (n:Int):Prop:= -9223372036854775808≤n∧n≤9223372036854775807
def zj (v:Value):Option (DataW Value×List MemPlace):=some (.held v,[])
theorem qB:Keyed Tryz.prog 2:=int_keyed Tryz.underlying2
theorem Nl (hx:dZ x):keyOf Tryz.prog 2 (.int .i64 x)=some (.int .i64 x):=
 keyOf_int_mk Tryz.underlying2 (by
  unfold dZ at hx;have D:IntKind.i64.min= -9223372036854775808:=rfl;have I:IntKind.i64.max=9223372036854775807:=rfl;simp[Lit.wf];omega)
def fR (w:World) (b:Nat) (f:Int→Option Value) (sz:Nat):Prop:=
 ∃D:DataW Value,w.ownsMap Tryz.prog 2 zj b sz D∧Maps.size D=sz∧sz≤1000000∧(∀x,dZ x→Maps.has D (.int .i64 x)=(f x).isSome∧∀z,D.atKey (.int .i64 x) z=match f x with|some v=> .held v|none=>z)∧(∀x,¬dZ x→f x=none)
theorem fR.lt (h:fR w b f sz):b<w.heap.size:=by
 obtain⟨D,I,_⟩:=h;exact I.lt
theorem Dz {H:Type} {P:Program} {k:TypeId} {R:Value->Option (DataW H×List MemPlace)} {n:Nat} {D:DataW H} (h:w.ownsMap P k R b n D) (I:w'.heap[b]?=w.heap[b]?):w'.ownsMap P k R b n D:=by
 obtain⟨es,clock,J,O⟩:=h;exact⟨es,clock,I.trans J,O⟩
theorem fR.block (h:fR w b f sz) (I:w'.heap[b]?=w.heap[b]?):fR w' b f sz:=by
 obtain⟨D,J,O⟩:=h;exact⟨D,Dz J I,O⟩
theorem fR.below (h:fR w b f sz) (D:Bz w w'):fR w' b f sz:=h.block (D.block b h.lt)
theorem fR.lv (h:fR w b f sz) (D:Lv F w w') (hF:¬F b):fR w' b f sz:=h.block (D.block b h.lt hF)
theorem fR.new (w:World):fR (w.alloc (.map #[] 0)) w.heap.size (fun _=>none) 0:=by
 refine⟨.map [],?_,rfl,ae,fun x hx=>⟨rfl,fun z=>rfl⟩,fun _ _=>rfl⟩;exact World.ownsMap_made w _ _ _
theorem Nm (x:Int):WideAt.IsKeyLit (.int .i64 x):=by simp[WideAt.IsKeyLit]
theorem Ga {y:Int} (h:y≠x):(Lit.int .i64 y)≠ .int .i64 x:=by intro e;injection e with _ e;exact h e
theorem fR.look (h:fR w b f sz) (O:Tryz.prog.underlying t=some (.map 2 e)) (hz:(zeroValue e).run Tryz.prog w= .ok z w) (hx:dZ x):
  (Instr.lookup t (.map (some b)) (.int .i64 x) false).run Tryz.prog w= .ok ((f x).getD z) w:=by
 obtain⟨D,h1,h2,h3,h4,_⟩:=h;have J:zj z=some (DataW.held z,[]):=rfl;obtain⟨v,ps,hr,hv⟩:=h1.lookup qB O hz J (Nl hx);have h6:=(h4 x hx).2 (.held z);have I:DataW.held v=D.atKey (.int .i64 x) (.held z):=congrArg Prod.fst (bW hv);have e:v=(f x).getD z:=by
  rw[h6] at I
  cases hf:f x with
  |none=>rw[hf] at I;exact zQ I
  |some u=>rw[hf] at I;exact zQ I
 rw[<-e];exact hr
theorem fR.look_ok (h:fR w b f sz) (ht:Tryz.prog.underlying t=some (.map 2 e)) (hz:(zeroValue e).run Tryz.prog w= .ok z w) (hx:dZ x):
  (Instr.lookup t (.map (some b)) (.int .i64 x) true).run Tryz.prog w= .ok (.tuple #[(f x).getD z, .bool (f x).isSome]) w:=by
 obtain⟨D,h1,h2,h3,O,_⟩:=h;have J:zj z=some (DataW.held z,[]):=rfl;obtain⟨v,ps,hr,hv⟩:=h1.look_ok qB ht hz J (Nl hx);have h6:=(O x hx).2 (.held z);have I:DataW.held v=D.atKey (.int .i64 x) (.held z):=congrArg Prod.fst (bW hv);have e:v=(f x).getD z:=by
  rw[h6] at I
  cases hf:f x with
  |none=>rw[hf] at I;exact zQ I
  |some u=>rw[hf] at I;exact zQ I
 rw[<-e,<-(O x hx).1];exact hr
theorem fR.len (h:fR w b f sz) (I:Tryz.prog.underlying t=some (.map 2 e)) (ty:TypeId):
  (Builtin.len_ #[t] ty #[.map (some b)]).run Tryz.prog w= .ok (Iz (sz:Int)) w:=by
 obtain⟨D,J,O,_⟩:=h;rw[<-O];exact J.len I ty
theorem fR.tight {n:Nat} {D:DataW Value} (h:w.ownsMap Tryz.prog 2 zj b n D):w.ownsMap Tryz.prog 2 zj b (Maps.size D) D:=by
 obtain⟨es,clock,J,O,h3,I⟩:=h;refine⟨es,clock,J,O,?_,I⟩;rw[I];simp[Maps.size,length_sorted]
theorem fR.put (h:fR w b f sz) (ht:Tryz.prog.underlying t=some (.map 2 e)) (hx:dZ x) (v:Value) (ax:sz<1000000):
  ∃w',(Instr.mapUpdate t (.map (some b)) (.int .i64 x) v).run Tryz.prog w= .ok () w'/\fR w' b (fun y=>if y=x then some v else f y) (if (f x).isSome then sz else sz+1)/\w.grownBy w' (some b):=by
 obtain⟨D,h1,h2,h3,h4,h5⟩:=h;obtain⟨w',hr,h6,h7⟩:=h1.update qB ht (by unfold maxLen;omega) (Nl hx) (val:=v) (d:= .held v) (ps:=[]) rfl;have hD:=h1.isMap;have hT:=h1.tidy qB;have hs:Maps.size (D.put (.int .i64 x) (.held v))=if (f x).isSome then sz else sz+1:=by
  rw[size_put hT,h2,(h4 x hx).1]
 have J:=fR.tight h6;rw[hs] at J;refine⟨w',hr,⟨_,J,hs,by split<;>omega,fun y O=>?_,fun y O=>?_⟩,h7⟩
 ·by_cases I:y=x
  ·subst I
   refine⟨by rw[has_put_same hD (Nm _)];simp,fun z=>?_⟩;rw[atKey_put_same hD (Nm _)];simp
  ·refine⟨by rw[has_put_other (Ga I),(h4 y O).1];simp[I],fun z=>?_⟩
   rw[atKey_put_other (Ga I),(h4 y O).2];simp[I]
 ·have:y≠x:=by rintro rfl;exact O hx
  simp[this,h5 y O]
theorem fR.del (h:fR w b f sz) (ht:Tryz.prog.underlying t=some (.map 2 e)) (hx:dZ x) (ty:TypeId):
  ∃w',(Builtin.delete_ #[t,2] ty #[.map (some b), .int .i64 x]).run Tryz.prog w= .ok (.tuple #[]) w'/\fR w' b (fun y=>if y=x then none else f y) (if (f x).isSome then sz - 1 else sz)/\w.grownBy w' (some b):=by
 obtain⟨D,h1,h2,h3,h4,h5⟩:=h;obtain⟨w',hr,h6,h7⟩:=h1.drop qB ht (Nl hx) ty;have hT:=h1.tidy qB;have hs:Maps.size (D.del (.int .i64 x))=if (f x).isSome then sz - 1 else sz:=by
  have:=size_del (k:= .int .i64 x) hT;rw[h2,(h4 x hx).1] at this
  split at this
  ·rename_i hc;rw[if_pos hc];omega
  ·rename_i hc;rw[if_neg hc];omega
 have J:=fR.tight h6;rw[hs] at J;refine⟨w',hr,⟨_,J,hs,by split<;>omega,fun y O=>?_,fun y O=>?_⟩,h7.grown⟩
 ·by_cases I:y=x
  ·subst I
   refine⟨by rw[has_del_same];simp,fun z=>?_⟩;rw[atKey_del_same];simp
  ·refine⟨by rw[has_del_other (Ga I),(h4 y O).1];simp[I],fun z=>?_⟩
   rw[atKey_del_other (Ga I),(h4 y O).2];simp[I]
 ·simp[h5 y O]
theorem tP (w:World) (d:Nat) (t k e:TypeId) (p:Option Nat) (h:Tryz.prog.underlying t=some (.map k e)):
  (Op.equalIn (d+1) t (.map p) (.map none)).run Tryz.prog w= .ok p.isNone w:=by
 cases p<;>simp[Op.equalIn,run_underlying h]
theorem ra (w:World) (t k e:TypeId) (p:Option Nat) (h:Tryz.prog.underlying t=some (.map k e)):
  (binOp .eql t (.map p) (.map none)).run Tryz.prog w= .ok (.bool p.isNone) w:=by
 simp only[binOp];simp[show Op.equal t (.map p) (.map none)=Op.equalIn (9999+1) t (.map p) (.map none) from rfl,tP w 9999 t k e p h]
theorem oT (w:World) (t D k e:TypeId) (v:Value) (h:Tryz.prog.underlying t=some (.map k e)):(Instr.typeAssert (.iface t v) D t false).run Tryz.prog w= .ok v w:=by
 simp[Instr.typeAssert,run_underlying h,go_sem,Result.andThen]
theorem sW (w:World) {r:Nat} {es:Array MapEntry} {clock:Nat} (t:TypeId) (D:w.heap[r]?=some (.map es clock)):
  (Extern.MapsClone.clone #[.iface t (.map (some r))]).run Tryz.prog w= .ok (.iface t (.map (some w.heap.size))) (w.alloc (.map es clock)):=by
 have e:Extern.MapsClone.clone #[.iface t (.map (some r))]=(getObj r>>=fun o=>match o with
   | .map entries clock=>(newObj (.map entries clock)>>=fun n=>pure (.iface t (.map (some n))))
   |_=>stuck "maps.clone: a map expected"):=rfl
 rw[e];simp[MapKept.run_getObj_map D,Result.andThen,go_sem]
theorem KI (b:Nat) (f:Int->Option Value) (sz:Nat) (w:World) (h:fR w b f sz):
  Wz 90 #[.map (some b)] w fun e w'=>e= .returned (.map (some w.heap.size))/\fR w' w.heap.size f sz/\Bz w w':=by
 obtain⟨D,J,O,h3⟩:=h;have ax:=J.lt;obtain⟨es,clock,hb,F,hs,hD⟩:=J;have hB:Bz w (w.alloc (.map es clock)):=(aa _ w).alloc (af _) _;have fin:fR (w.alloc (.map es clock)) w.heap.size f sz:=⟨D,⟨es,clock,heap_alloc_new _ _,F,hs,hD⟩,O,h3⟩;have hq:=fun w=>ra w 107 _ _ (some b) Tryz.underlying107;have I:=ao fin;clear fin hD hs O h3 F
 go_enter Tryz.func90,Tryz.ntmps90
 go_wp2;rw[run_callFunc_extern Tryz.func127 (by kernel_rfl) (by kernel_rfl) (by kernel_rfl) (e:=Extern.MapsClone.clone) (by kernel_rfl),sW w 107 hb];simp only[Result.andThen];rw[Oper.upon_value];go_wp2;rw[oT _ 107 _ _ _ _ Tryz.underlying107];simp only[Result.andThen];rw[Oper.upon_value];go_wp2;go_ret;exact⟨rfl,I,hB⟩
theorem Ib (b:Nat) (f:Int->Option Value) (sz:Nat) (w:World) (h:fR w b f sz):
  Wz 129 #[.map (some b)] w fun e w'=>e= .returned (.map (some w.heap.size))/\fR w' w.heap.size f sz/\Bz w w':=by
 obtain⟨D,J,O,h3⟩:=h;have ax:=J.lt;obtain⟨es,clock,hb,F,hs,hD⟩:=J;have hB:Bz w (w.alloc (.map es clock)):=(aa _ w).alloc (af _) _;have fin:fR (w.alloc (.map es clock)) w.heap.size f sz:=⟨D,⟨es,clock,heap_alloc_new _ _,F,hs,hD⟩,O,h3⟩;have hq:=fun w=>ra w 191 _ _ (some b) Tryz.underlying191;have I:=ao fin;clear fin hD hs O h3 F
 go_enter Tryz.func129,Tryz.ntmps129
 go_wp2;rw[run_callFunc_extern Tryz.func127 (by kernel_rfl) (by kernel_rfl) (by kernel_rfl) (e:=Extern.MapsClone.clone) (by kernel_rfl),sW w 191 hb];simp only[Result.andThen];rw[Oper.upon_value];go_wp2;rw[oT _ 191 _ _ _ _ Tryz.underlying191];simp only[Result.andThen];rw[Oper.upon_value];go_wp2;go_ret;exact⟨rfl,I,hB⟩
end Go.Proofs.YtbaaheidifacaaaGreat
