import Derived.Test.YtpcedcnjofbgjaaGreatDoorKA0
import Derived.Carry
set_option maxHeartbeats 0
set_option linter.all false
set_option maxRecDepth 100000
namespace Go.Proofs.YtpcedcnjofbgjaaGreatDoor
open Go.ChangeShapes Go.RowKit
section
variable {H : Type} {enc : TypeId×Value->H} {P : Program} {w : World} {base : Nat} {spare : Nat->Bool} {held : Bool}
theorem ybjb {t0 t1 t2 t3 t4:TypeId} {args:Array Value} {ds:List (DataW H)} {ps:List MemPlace} (h:DataW.TrodAll enc P w base spare held [t0,t1,t2,t3,t4] args.toList ds ps):
 ∃v0 v1 v2 v3 v4 d0 d1 d2 d3 d4 p0 p1 p2 p3 p4,args=#[v0,v1,v2,v3,v4]/\ds=[d0,d1,d2,d3,d4]/\ps=p0++p1++p2++p3++p4/\DataW.Trod enc P w base spare held t0 v0 d0 p0/\DataW.Trod enc P w base spare held t1 v1 d1 p1/\DataW.Trod enc P w base spare held t2 v2 d2 p2/\DataW.Trod enc P w base spare held t3 v3 d3 p3/\DataW.Trod enc P w base spare held t4 v4 d4 p4:=by
 obtain⟨v,I,d,C,p,q,j,rfl,rfl,u,f⟩:=trodAll_cons h;obtain⟨y,E,D,t,G,L,rfl,rfl,rfl,n,b⟩:=trodAll_cons f;obtain⟨m,s,k,r,l,x,rfl,rfl,rfl,g,a⟩:=trodAll_cons b;obtain⟨v3,B,d3,z,p3,J,rfl,rfl,rfl,i,e⟩:=trodAll_cons a;obtain⟨v4,A,d4,F,p4,K,rfl,rfl,rfl,o,c⟩:=trodAll_cons e;obtain⟨rfl,rfl,rfl⟩:=trodAll_nil c;exact⟨v,y,m,v3,v4,d,D,k,d3,d4,p,G,l,p3,p4,by cases args;simp_all,rfl,by simp,u,n,g,i,o⟩
end
