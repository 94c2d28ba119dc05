import Derived.Test.YtpcedcnjofbgjaaGreatDoorKA13
import Derived.Test.YtpcedcnjofbgjaaGreatDoorKB4
set_option maxHeartbeats 0
set_option linter.all false
set_option maxRecDepth 100000
namespace Go.Proofs.YtpcedcnjofbgjaaGreatDoor
open Go.RowKit
theorem FC (L) (n) (i) (a:i<32) (b:L.length=32):(fQ L n).getD i 0=L.getD i 0+(if n=i+1 then 1 else 0):=by
 unfold fQ;by_cases h:1<=n/\n<=32
 .rw[ze h,zt,pu];by_cases e:n=(i:Int)+1
  .rw[ze (by omega),ze (by omega),ze e];have:(n-1).toNat=i:=(by omega);rw[this];rfl
  .rw[zb (by omega),zb e,<-zt];omega
 .rw[zb h,zb (by omega)];omega
section
variable {L : List Pn} {X : Nat->List En} {k : Nat} {out : List Int} {l : List En}
theorem QB (s:XW L X):∀(f k) (out),f+k=33->WI L k out->(∀j,j<k->∀z∈subD L (X (out.getD j 0-1).toNat),z∈out) ->
 (∀z∈out,z∈ml L X f k out)/\∀z∈ml L X f k out,∀y∈subD L (X (z-1).toNat),y∈ml L X f k out
 | 0,k,out,p,h,_=>by have:=h.len;have:=h.le;omega
 | f+1,k,out,p,h,o=>by
  unfold ml;split
  .next m=>
   obtain⟨n,r,i,d⟩:=h.num m;rw[d];have e:∀j,j<out.length->(out++subD L (X n)).getD j 0=out.getD j 0:=λj g=>(by rw[zt,zt,zV g]);obtain⟨a,b⟩:=QB s f (k+1) _ (by omega) (h.step s m r i) λj g z c=>by
    rw[e j (by omega)]at c;by_cases l:j=k
    .subst l;rw[d]at c;exact MD _ c
    .exact Mx _ (o j (by omega) z c)
   exact⟨λz c=>a z (Mx _ c),b⟩
  .next m=>
   refine⟨λz c=>c,λz c y q=>?_⟩;obtain⟨j,g,rfl⟩:=Mu.1 c;refine o j (by omega) y ?_;rw[Mb g];exact q
end
section
variable {P : Program}
end
