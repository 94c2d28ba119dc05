import Derived.Test.YtakfhadmokoikaaGreatDoorKA1
import Derived.Test.YtakfhadmokoikaaGreatDoorKA2
import Derived.Test.YtakfhadmokoikaaGreatDoorRows
set_option maxHeartbeats 0
set_option linter.all false
set_option maxRecDepth 100000
namespace Go.Proofs.YtakfhadmokoikaaGreatDoor
open Go.Proofs.Tryz Go.ChangeShapes Go.WideShapes Go.ChangeAt Go.RowKit
variable {H:Type} {b0 base:Nat} {held:Bool} {ps:List MemPlace} {r:Reach} {v:Value} {w:World}
theorem Tryz.own: ownKnob prog.godebug=none:=by kernel_rfl
theorem Tryz.laidOut: laidOutB prog=true:=by kernel_rfl
theorem TW {n:Int} (h:(Lit.int .u8 n).wf=true):0<=n/\n<=255:=by simp only[Lit.wf,IntKind.min,IntKind.max,IntKind.signed,IntKind.bits,yM]at h;simp at h;omega
theorem N5 {g off len cap:Nat} {zs:List Int} (c:len<=zs.length) (h:∀i,i<zs.length->w.cell? ⟨g,off+i,none⟩=some (.int .u8 (zs.getD i 0))):
 vC w (g,off,len,cap) (zs.take len):=by
 have e:(zs.take len).length=len:=by rw[zi];omega
 refine⟨by simp[u8s],zu ⟨g,off,cap,by rw[e],fun j x a=>?_⟩⟩;have b:j<(zs.take len).length:=by have:=(zy.1 a).1;simpa[u8s]using this
 rw[sJ _ j b]at a;cases a;rw[h j (by omega)];simp[show j<zs.length by omega]
theorem ybdz {enc':TypeId×Value->H} {d:DataW H} 
 (G:Value.okWide prog w r b0 23 v) (I:DataW.Trod enc' prog w base (fun _=>true) held 23 v d ps):∃l,vC w v l/\l.length<=maxLen/\∀x,x∈l->0<=x/\x<=255:=by
 have h:prog.underlying 23=some (.slice 5):=by kernel_rfl
 have B:prog.underlying 5=some (.int .u8):=by kernel_rfl
 have D:prog.cellsOf 5=1:=by kernel_rfl
 obtain⟨E,k,F,rfl⟩:=okWide_slice h G;obtain⟨m,s⟩:=I;rcases open_ints h B D s with⟨e,_⟩|⟨a,C,p,o,e,_,A,n,q,_,b,f⟩
 .simp[Value.cells]at e;obtain⟨rfl,rfl,rfl⟩:=e;exact⟨[],⟨rfl,zt ⟨rfl,_,_,rfl⟩⟩,ye _,by simp⟩
 .simp[Value.cells]at e;obtain⟨rfl,rfl,rfl⟩:=e;simp only[vl]at q;rcases vh k with j|j
  .subst j;exact⟨[],⟨rfl,zt ⟨rfl,_,_,rfl⟩⟩,ye _,by simp⟩
  .obtain⟨g,t,c⟩:=a;have u:c=none:=(by have:=World.cell?_spot (b 0 (by omega));simpa[Addr.add]using this);subst u;refine⟨o.take k,N5 (by omega) (fun i y=>?_),by rw[zi];omega,fun x z=>?_⟩
   .have:=b i y
    rwa [add_plain]at this
   .have:=f x (xd z);exact TW this
theorem ybad {enc':TypeId×Value->H} {d:DataW H} 
 (D:Value.okWide prog w r b0 23 v) (E:DataW.Trod enc' prog w base (fun _=>true) held 23 v d ps) {l:List Int} (F:vC w v l):∃p c,v=.slice p l.length c/\l.length<=c:=by
 have i:prog.underlying 23=some (.slice 5):=by kernel_rfl
 have b:prog.underlying 5=some (.int .u8):=by kernel_rfl
 have u:prog.cellsOf 5=1:=by kernel_rfl
 obtain⟨A,q,C,rfl⟩:=okWide_slice i D;have f:q=l.length:=by
  obtain⟨_,⟨x,B,z,b⟩|⟨g,o,h,b,_⟩⟩:=F
  .injection b with _ m _;omega
  .injection b with _ m _
 subst f;obtain⟨j,n⟩:=E;rcases open_ints i b u n with⟨e,_⟩|⟨a,t,h,y,e,_,s,_⟩
 .simp[Value.cells]at e;obtain⟨_,k,_⟩:=e;exact⟨_,_,rfl,by simp[k]⟩
 .simp[Value.cells]at e;exact⟨_,_,rfl,by omega⟩
