import Derived.Test.YtpcedcnjofbgjaaGreatDoorKA24
import Derived.Test.YtpcedcnjofbgjaaGreatDoorKB5
import Derived.Test.YtpcedcnjofbgjaaGreatDoorKB9
set_option maxHeartbeats 0
set_option linter.all false
set_option maxRecDepth 100000
namespace Go.Proofs.YtpcedcnjofbgjaaGreatDoor
open Go.ChangeShapes Go.WideShapes Go.ChangeAt Go.RowKit Go.Deep
theorem yclt {H:Type} {enc':TypeId×Value->H} {P:Program} {w:World} {base:Nat} {held:Bool} {r:Reach} {b0:Nat} {v:Value} {d:DataW H} {ps:List MemPlace} {e:TypeId} {f0 f1 f2 f3 f4:Field}
 (W:P.underlying e=some (.struct #[f0,f1,f2,f3,f4])) (X:P.cellsOf e=5) (Y:f0.offset=0) (Z:f1.offset=1) (o2:f2.offset=2) (o3:f3.offset=3) (o4:f4.offset=4) (c0:P.cellsOf f0.type=1) (c1:P.cellsOf f1.type=1) (c2:P.cellsOf f2.type=1) (c3:P.cellsOf f3.type=1) (c4:P.cellsOf f4.type=1)
 (u0:P.underlying f0.type=some (.int .i64)) (u1:P.underlying f1.type=some (.int .i64)) (u2:P.underlying f2.type=some (.int .i64)) (u3:P.underlying f3.type=some (.int .i64)) (u4:P.underlying f4.type=some .string)
 (V:Value.okWide P w r b0 e v) (hd:DataW.Trod enc' P w base (λ_=>true) held e v d ps):
 ∃x:DoI,v=.agg #[x.K,x.A,x.B,x.C,.string x.S]/\x.S.size<=maxLen:=by
 obtain⟨f,rfl,b⟩:=okWide_struct W V;rw[X]at b;obtain⟨n,D⟩:=hd;obtain⟨E,k,_,_,_,c,a⟩:=DataW.trod_struct W D;obtain⟨f⟩:=f
 match E,c,f,b with
 | [R,J,U,L,Q],_,[T,M,N,I,O],_=>
  have i:=a 0 f0 rfl;have m:=a 1 f1 rfl;have h:=a 2 f2 rfl;have s:=a 3 f3 rfl;have l:=a 4 f4 rfl;simp[Value.cells,Y,Z,o2,o3,o4,c0,c1,c2,c3,c4]at i m h s l;obtain⟨G,g,_⟩:=vz u0 i;obtain⟨z,o,_⟩:=vz u1 m;obtain⟨u,j,_⟩:=vz u2 h;obtain⟨F,p,_⟩:=vz u3 s;obtain⟨y,q,_,t⟩:=DataW.trod_string u4 l;simp at g o j p q;subst g o j p q;exact⟨⟨G,z,u,F,y⟩,rfl,t⟩
