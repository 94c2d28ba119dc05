import Derived.Test.YtpcedcnjofbgjaaGreatDoorKA20
set_option maxHeartbeats 0
set_option linter.all false
set_option maxRecDepth 100000
namespace Go.Proofs.YtpcedcnjofbgjaaGreatDoor
open Go.Proofs.Tryz Go.RowKit
variable {F:Nat->Prop} {a:Addr} {gf:Nat} {s:Fs} {w:World}
theorem Um (v) (D) (w) (h:mU w v D) (R:D.length<=1000) (p n:Nat) (T:n<=512) (S:0<n) (U:p<=1000000):
 Calls prog 49 #[v,p,n] w (λe w'=>∃v',e=.returned v'/\uM w' v' (oA D p n)/\Below w w w'):=by
 let⟨N,b⟩:=zD D.length;obtain⟨q,l,rfl⟩:=Nv h.1 N b;have y:=h.2 q N l rfl;rw[b.o]at R;by_cases s:N<=p
 .have A:decide (N<=(p:Int))=true:=zX (by lia);have u:N<=(p:Int):=by lia
  have L:Hid (oA D p n=[]):=by show _=_;rw[oA,vd (by rwa[b.o])];simp
  go_enter func49,ntmps49
  go_wp2;go_ret;rw[L.o];exact⟨_,rfl,⟨rfl,zu ⟨rfl,_,_,rfl⟩⟩,zB⟩
 .have A:decide (N<=(p:Int))=false:=zJ (by lia);have u:¬N<=(p:Int):=by lia
  have Q:=zW (p+n) (by lia);obtain⟨m,r,f⟩:∃m:Nat,min N (p+n)=m/\(m<=N/\m<=p+n/\(m=N\/m=p+n)):=⟨_,rfl,by lia⟩;have c:m-p=min n (N-p):=by lia
  rw[<-r]at c f;have i:0<min n (N-p):=by lia
  have G:p<=m:=by lia
  have F:m<=l:=by lia
  obtain⟨_,⟨O,_⟩|⟨g,o,B,K,t⟩⟩:=id (za h).o.1
  .have:=b.o;lia
  injection K with H E I;subst H I;clear E;have k:=za (ZH (g,o+p,(min N (p+n)-p),(l-p)) (oA D p n) w ⟨by rw[wd,vB],zw ⟨g,o+p,l-p,by rw[oA,Ni,Nk,b.o];rw[c],λj x d=>by
   unfold oA at d;rw[ZP,zI]at d;split at d
   .rw[no,yy]at d;have:=t (p+j) x d
    rwa [<-yp]at this
   .cases d⟩⟩ (by rw[oA,Ni,Nk,b.o];lia) (by rw[oA,Ni,Nk,b.o];lia))
  rw[show min N (p+n)=(min (N:Int) ((p:Int)+(n:Int))).toNat by lia]at k;go_enter func49,ntmps49;go_wp2_with fail
  refine k.o.mono ?_;rintro e M ⟨P,rfl,a⟩;go_wp2;go_ret;exact⟨_,rfl,(za a.at),(za a.below)⟩
theorem J1 (h:FsAt w gf s F a) (aa:Tj s) (i:Nat) (hi:i<32) (X) (hX:s.nodes[i]?=some X) (hk:X.k=1) (hP:Zm X.P s.k) (ae:X.P.length<=8) (hs:0<=X.s/\X.s<=512)
 (p n:Nat) (hn:n<=512) (ag:0<n) (hp:p<=1000000):
 Calls prog 16 #[(gf,()),(i+1:Int),p,n] w
  (λe w'=>∃v,e=.returned (.tuple #[v,()])/\uM w' v (oA (sF (secE s) X.P X.s) p n)/\Below w w w'):=by
 have f:=za (mo h i hi X hX);rw[hk,zb (by lia),ze rfl]at f;let⟨gn,Y,cn,J,G,H,E,N,K,e1,e2,e3,e4,T,e6,W,I⟩:=sx h i hi X hX;have i1:IntKind.i64.wrap (i+1-1)=i:=by rw[zM _ (by lia)];lia
 have b:Hid (Calls prog 50 #[.iface 76 (.agg #[(gf,())]),.agg #[X.k,X.m,X.u,X.g,X.s,X.l,X.up,(J,G,H)]] w
  (λe w'=>∃v',e=.returned v'/\w'.ownsRow (w.heap.size+1) 5 1 v' (sF (secE s) X.P X.s).length (u8s (sF (secE s) X.P X.s))/\Below w w w')):=S3 (ks h aa) X.k X.m X.u X.g X.s X.l X.up (J,G,H) X.P I.now ae hP hs.1 hs.2
 have q:=mM (secE s) X.P X.s;let⟨D,O⟩:=zD (sF (secE s) X.P X.s);rw[O.o]at b q |-;rw[hk]at b K;have B:Hid (D.length<=1000):=za (by omega);have p1:decide ((p:Int)<0)=false:=zJ (by lia);have U:decide ((n:Int)<0)=false:=zJ (by lia);have Q:decide (512<(n:Int))=false:=zJ (by lia);have S:¬((p:Int)<0):=by lia
 have R:¬((n:Int)<0):=by lia
 have V:¬(512<(n:Int)):=by lia
 have Z:¬(512<n):=by lia
 clear h aa hX hP hs q I hk;go_enter func16,ntmps16;go_wp2_with fail
 refine f.o.mono ?_;rintro e C ⟨rfl,rfl⟩;go_wp2_with fail
 refine b.o.mono ?_;rintro e C ⟨L,rfl,y,r⟩;have t:=za (Um L D C ⟨uq.of_owns y,pO y⟩ B p n hn ag hp);go_wp2_with fail
 refine t.o.mono ?_;rintro e w2 ⟨M,rfl,c,j⟩;have A:=za (zi (za r) j);go_wp2;go_ret2;exact⟨M,rfl,(za c),A⟩
theorem Vy (h:FsAt w gf s F a) (i:Nat) (z:i<32) (X) (x:s.nodes[i]?=some X) (A:X.k≠1) (p n:Nat) (B:n<=512):
 Calls prog 16 #[(gf,()),(i+1:Int),p,n] w
  (λe w'=>e=.returned (.tuple #[.slice none 0 0,(if X.k=0 then 4 else 12:Int)])/\w=w'):=by
 have b:=za (mo h i z X x);rw[zb A]at b;let⟨y,d⟩:=zD (if X.k=0 then 4 else 12:Int);have c:y≠0:=by rw[<-d.o];split<;>decide
 rw[d.o]at b |-;have r:(y==0)=false:=by simpa using c
 have m:(y != 0)=true:=by simpa using c
 have l:decide ((p:Int)<0)=false:=zJ (by lia);have t:decide ((n:Int)<0)=false:=zJ (by lia);have f:decide (512<(n:Int))=false:=zJ (by lia);have j:¬((p:Int)<0):=by lia
 have g:¬((n:Int)<0):=by lia
 have u:¬(512<(n:Int)):=by lia
 have v:¬(512<n):=by lia
 go_enter func16,ntmps16;go_wp2_with fail
 refine b.o.mono ?_;rintro e q ⟨rfl,rfl⟩;go_wp2;go_ret2;simp
