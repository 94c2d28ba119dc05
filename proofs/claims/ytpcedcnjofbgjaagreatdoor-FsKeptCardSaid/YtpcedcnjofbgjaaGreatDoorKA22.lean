import Derived.Test.YtpcedcnjofbgjaaGreatDoorKA21
set_option maxHeartbeats 0
set_option linter.all false
set_option maxRecDepth 100000
namespace Go.Proofs.YtpcedcnjofbgjaaGreatDoor
open Go.Proofs.Tryz Go.RowKit
variable {D Dt l:List Int} {F:Nat->Prop} {X:Pn} {a:Addr} {b:ByteArray} {e:En} {gf j:Nat} {gg k m u:Int} {o:Option Nat} {s:Fs} {w:World} {z:Tx}
theorem lX (
 D) (n) (name) (s:n<=32) (r:sy ((ino n 0).map (rdE D))):∀(f q k),f+k=7->FInv D n name q k ->
 (∃e∈(ino n 0).map (rdE D),e.1=name/\(Zw D n name f q k).1=e.2/\(Zw D n name f q k).2.2=0)\/((∀e∈(ino n 0).map (rdE D),e.1≠name)/\(Zw D n name f q k).1=0/\(Zw D n name f q k).2.2=4)
 | 0,q,k,g,h=>zw ⟨h.none (by have p:=h.pow;lia),rfl,rfl⟩
 | f+1,q,k,g,h=>by
  rw[Zw];by_cases a:q<n
  .rw[ze a];by_cases b:cmpB name (rdE D q).1=0
   .rw[ze b];have m:name=(rdE D q).1:=by
     unfold cmpB at b;split at b
     .cases b
     .split at b
      .assumption
      .cases b
    let⟨e,i,c,d⟩:=h.found a m;grind
   .rw[zb b];by_cases c:cmpB name (rdE D q).1<0
    .rw[ze c];have d:lexB name (rdE D q).1=true:=(by have:=O0 name (rdE D q).1;lia);exact lX D n name s r f _ _ (by lia) (h.left a r d)
    .rw[zb c];have d:lexB (rdE D q).1 name=true:=by
      have j:lexB name (rdE D q).1=false:=(by have:=O0 name (rdE D q).1;lia);cases o:lexB (rdE D q).1 name with
      | true=>rfl
      | false=>exact yi (by rw[cmpB,zb (by lia),ze (jd j o)]) b
     exact lX D n name s r f _ _ (by lia) (h.right a r d)
  .rw[zb a];exact zw ⟨h.none (by lia),rfl,rfl⟩
theorem ZV (h:oB D=true) (name):(∃e∈outD D,e.1=name/\(rI D name).1=e.2/\(rI D name).2.2=0)\/((∀e∈outD D,e.1≠name)/\(rI D name).1=0/\(rI D name).2.2=4):=have a:=(ND D).1 h;lX D (D.length / 16) name (by lia) (su h).1 7 0 0 rfl (FInv.start _ _ _)
section
variable {x : Tx} {s : Fs} {n c i : Nat} {A : Nat->AN} {T : List Nat} {δ : Nat->Int}
theorem WC {l:List En} (a:ud l=0):(layD l).length<=512/\qC (layD l):=⟨by have:=PN a;have:=((qO l).1 a).1;lia,KU a⟩
theorem TV.ent (h:TV x s n T A) (g:GI A δ) (a:i<32) (c:i∈T) (b:(A i).k=2) (d:vA (A i).D e=0):
 TV (x.entX s i e) s (n+8) T (entA A i e):=by
 rw[Tx.entX,(h.at a).2.2.2.2.2.2.2];exact h.fill a c (by lia) (WC (mJ (g.ok i a b) d))
theorem TV.lea (h:TV x s n T A) (g:GI A δ) (c:i<32) (f:i∈T) (d:(A i).k=2) (j:e∈outD (A i).D):
 TV (x.leaX s i e.1) s (n+8) T (leaA A i e.1):=by
 rw[Tx.leaX,(h.at c).2.2.2.2.2.2.2];have b:hasE (A i).D e.1=true:=by unfold hasE;grind
 rw[ze b];have a:=g.right c d;unfold kW at a;rw[ze d]at a;exact h.fill c f (by lia) (WC (PM a _))
theorem TV.room (h:TV x s n T A) (f:n<=100):oa x:=have a:=h.cap.fk;have b:=h.cap.g;have e:=h.cap.p;have c:=h.cap.d;⟨by lia,by lia,by lia,by lia,by lia⟩
theorem U7 (h:TI x s T) (d:TO s) (c:i<32):qC (x.dirD s i):=by rw[Zy _ _ c];intro y a;let⟨b,_,a⟩:=Np.1 (xI a);exact (h.blk_ok d c b).2 y a
theorem VH (h:SX X):0<=X.s/\X.s<=512/\X.s<=64*X.P.length:=by
 rcases h with rfl|⟨_,b,a,_,_,c⟩
 .exact⟨by decide,by decide,by decide⟩
 .refine⟨b,a,?_⟩;rw[c];unfold jy;lia
theorem TV.dirT (h:TV x s n T A) (q:TO s) (r:64<=s.k) (t:n<=1000) (m:i<32) (o:oB (A i).D=true):DirT x s i (x.nodes.getD i zN) (x.dirD s i):=by
 have e:=h.ti.nd i m;have j:=h.ti.k256;have g:=h.cap.fk;have f:=VH e;have b:∀p∈(x.nodes.getD i zN).P,0<=p/\p<=x.fake/\(p<s.k\/(getZ x.put p).isSome=true):=λp b=>by
  have d:=h.ti.ptIn m b;lia
 refine⟨m,?_,λp a=>?_,λp a=>⟨(b p a).1,(b p a).2.1⟩,fld8 e,⟨f.1,f.2.2⟩,rfl,U7 h.ti q m,by rwa[(h.at m).2.2.2.2.2.2.2]⟩
 .rw[zt,zk (by rwa[h.ti.len])];rfl
 .have:=b p a;exact⟨this.1,by lia,this.2.2⟩
theorem SI.pts (h:SI s c A) (e:i<32):Zm (s.nodes.getD i zN).P s.k:=λp a=>by have b:=(h.tv []).ti.ptIn (x:=tx0 s) e a;have d:(tx0 s).fake=256:=rfl;have:=h.k0;lia
theorem SI.dirS (h:SI s c A) (g:GI A δ) (m:i<32) (n:(A i).k=2):DirS s i (s.nodes.getD i zN) (dirB s i):=by
 have a:=h.tv [];have b:=a.at m;have e:=VH (a.ti.nd i m);have j:s.nodes.length=32:=a.ti.len;have d:dirB s i=(tx0 s).dirD s i:=rfl;refine⟨m,?_,b.1.trans n,?_,h.pts m,fld8 (a.ti.nd i m),⟨e.1,e.2.2⟩,rfl,by rw[d];exact U7 a.ti h.sec m,?_⟩
 .grind
 .have f:(s.nodes.getD i zN).l=(A i).l:=b.2.2.2.2.2.1;rw[f];have:=g.pos i m (by lia);lia
 .rw[d,b.2.2.2.2.2.2.2];exact g.ok i m n
theorem SI.A_at (h:SI s c A) (a:i<32):(s.nodes.getD i zN).k=(A i).k/\(s.nodes.getD i zN).m=(A i).m/\(s.nodes.getD i zN).u=(A i).u/\(s.nodes.getD i zN).g=(A i).g/\(s.nodes.getD i zN).s=(A i).s/\(s.nodes.getD i zN).l=(A i).l/\(s.nodes.getD i zN).up=(A i).up/\dirB s i=(A i).D:=(h.tv []).at a
theorem SI.dirsOk (h:SI s c A) (g:GI A δ):RQ s:=⟨λi a b=>h.dirS g a ((h.A_at a).1.symm.trans b),(h.A_at (by lia)).1.trans g.root⟩
end
theorem n9: outD []=[]:=rfl
theorem Sf: oB []=true:=by kernel_rfl
def newA (k m u g:Int) (i:Nat) (b:List Int):AN:=⟨k,m,u,g,b.length,1,(newP k m u g i).up,b⟩
theorem Lq (A) (i) (a b):upA (upA A i a) i b=upA A i b:=by funext j;unfold upA;lia
theorem jk (A) (i) (a):upA A i a i=a:=ze rfl
theorem qH (A) {i:Nat} (a) (h:j≠i):upA A i a j=A j:=zb h
section
variable {x : Tx} {s : Fs} {n c i : Nat} {A : Nat->AN} {T : List Nat} {δ : Nat->Int}
theorem G5 (h:SX X) (a:X.k=0):X=zN:=by
 rcases h with h|⟨h,_⟩
 .exact h
 .lia
theorem TV.zero (h:TV x s n T A) (a:i<32) (b:(A i).k=0):x.nodes.getD i zN=zN:=G5 (h.ti.nd i a) ((h.at a).1.trans b)
theorem SI.free (f:SI s c A) (h:Rx s=some n):n<32/\(A n).k=0:=by
 let⟨d,b,_⟩:=xG.1 h;have e:s.nodes.length=32:=(f.tv []).ti.len;have a:n<32:=by lia
 refine⟨a,?_⟩;rw[<-(f.A_at a).1,zt,zk d];grind
theorem JH {g:Int} (h:1<=k/\k<=3/\0<=m/\m<=511/\0<=u/\u<=255/\0<=g/\g<=255) (c:i<32):SX (newP k m u g i):=by refine zw ⟨⟨h.1,h.2.1,h.2.2.1,h.2.2.2.1,h.2.2.2.2.1,h.2.2.2.2.2.1,h.2.2.2.2.2.2.1,h.2.2.2.2.2.2.2,Int.zero_le_ofNat 1,(by show (1:Int)<=200;lia)⟩,Mr 0,(by show (0:Int)<=512;lia),λb=>?_,λb=>zb b,rfl⟩;have a:k=2:=b;show 1<=(if k=2 then (i:Int)+1 else 0)/\(if k=2 then (i:Int)+1 else 0)<=32;lia
theorem SI.new (w:SI s c A) (g:GI A λ_=>0) (x:i<32) (r:n<32) (v:(A n).k=0) (y:1<=k/\k<=3/\0<=m/\m<=511/\0<=u/\u<=255/\0<=gg/\gg<=255) {b:List Int} (z:b.length<=512/\qC b) (t:k=2->b=[]):
 TV (addT s n (newP k m u gg i) b) s 16 [n,i] (upA A n (newA k m u gg i b))/\GI (upA A n (newA k m u gg i b)) (λj=>if j=n then 1 else 0):=by
 have d:=w.tv [n,i];have l:=g.zer n r v;have h:=d.zero r v;have f:=(d.set r (N:=newP k m u gg i) (by rw[h];rfl) (by rw[h];rfl) (JH y x)).fill r (by simp) (by rw[jk];show k≠0;lia) z;have q:=d.ti.len;have e:((tx0 s).setX n (newP k m u gg i)).nodes.getD n zN=newP k m u gg i:=by unfold Tx.setX;grind
 rw[e,Lq,jk]at f;refine⟨f,(g.set r (newA k m u gg i b) (by show k≠0;lia) ?_ (λa=>⟨rfl,?_⟩) (by show (1:Int)<=1;lia) (λp=>?_)).congr λj _=>?_⟩
 .rw[l];unfold kW;split
  .rename_i a;rw[t a];exact n9
  .rfl
 .rw[t a];exact Sf
 .subst p;rw[g.root]at v;cases v
 .rw[l];show (if j=n then (1:Int) else 0)=0+if j=n then 1-0 else 0
  lia
theorem GI.ne (g:GI A δ) (b:(A i).k=2) (a:(A n).k=0):i≠n:=by lia
theorem SI.add (w:SI s c A) (g:GI A λ_=>0) (C:c<=1000) (x:i<32) (y:(A i).k=2) (z:Rx s=some n) (E:1<=k/\k<=3/\0<=m/\m<=511/\0<=u/\u<=255/\0<=gg/\gg<=255) {b:List Int} (F:b.length<=512/\qC b) (B:k=2->b=[]) (name):
 Tk s i n (newP k m u gg i) b name/\(addT s n (newP k m u gg i) b).dirD s i=(A i).D /\
  (vA (A i).D (name,n+1)=0->TV ((addT s n (newP k m u gg i) b).entX s i (name,n+1)) s 24 [n,i] (entA (upA A n (newA k m u gg i b)) i (name,n+1))/\GI (entA (upA A n (newA k m u gg i b)) i (name,n+1)) λ_=>0):=by
 let⟨v,r⟩:=w.free z;let⟨t,o⟩:=w.new g x v r E F B (i:=i);have d:upA A n (newA k m u gg i b) i=A i:=qH _ _ (g.ne y r);have a:(upA A n (newA k m u gg i b) i).k=2:=by rwa[d]
 have q:(addT s n (newP k m u gg i) b).dirD s i=(A i).D:=by rw[(t.at x).2.2.2.2.2.2.2,d]
 have h:vA (A i).D (name,n+1)=0->TV ((addT s n (newP k m u gg i) b).entX s i (name,n+1)) s 24 [n,i] (entA (upA A n (newA k m u gg i b)) i (name,n+1))/\GI (entA (upA A n (newA k m u gg i b)) i (name,n+1)) λ_=>0:=λf=>by
  rw[<-d]at f;refine⟨t.ent o x (by simp) a f,(o.enter x a f ?_).congr λj _=>?_⟩
  .have e:((name,(n:Int)+1).2-1:Int).toNat=n:=(by show ((n:Int)+1-1).toNat=n;lia);rw[e,jk];show k≠0;lia
  lia
 refine⟨⟨t.room (by lia),t.dirT w.sec w.k0 (by lia) x (o.ok i x a),λf=>?_⟩,q,h⟩;rw[q]at f;exact (h f).1.run w C (by lia) w.rows
end
section
variable {x : Tx} {s : Fs} {n c i : Nat} {A : Nat->AN} {T : List Nat} {δ : Nat->Int}
theorem fld_ne (h:SX X) (a:X.k≠0):fldR X:=by
 rcases h with rfl|h
 .exact yi rfl a
 .exact h
theorem TV.fld (h:TV x s n T A) (a:i<32) (b:(A i).k≠0):fldR (x.nodes.getD i zN):=fld_ne (h.ti.nd i a) (by rwa[(h.at a).1])
theorem TV.len (h:TV x s n T A) (d:TO s) (c:i<32):((A i).D.length)=(A i).s:=by have a:=h.at c;rw[<-a.2.2.2.2.2.2.2,<-a.2.2.2.2.1,Zy _ _ c,Ni,Pt λb=>(h.ti.blk_ok d c b).1];have:=VH (h.ti.nd i c);lia
theorem mj {a:AN} (h:a.D.length=a.s) (c:¬(a.k=2/\0<a.s)):kW a=[]:=by
 unfold kW;split
 .rename_i b;have:a.D=[]:=yz.1 (by lia);rw[this];exact n9
 .rfl
theorem Z5 {a:AN} (d:oB a.D=true) (f:e∈outD a.D):0<a.D.length:=by have b:=(su d).2.2.1;grind
theorem GI.noRoot (g:GI A δ) (f:δ 0=0) (h:i<32) (j:e∈kW (A i)):e.2≠1:=λc=>by have b:=WP h j;rw[c]at b;have a:=g.cnt 0 (by lia);have d:=g.dir 0 (by lia) g.root;lia
theorem TV.drop (h:TV x s n T A) (g:GI A δ) {m:Nat} (I:m<32) (K:m≠0) (P:δ m=1) (J:(A m).k≠0) (M:(A m).k=2->kW (A m)=[]) (L:s.held=[]) (O:n<=100):
 RP x s m/\TV (x.dropX s m) s (n+16) T (oV A m)/\GI (oV A m) (λj=>δ j-if j=m then 1 else 0):=by
 have i:=h.at I;have b:=h.fld I J;have H:=g.pos m I J;have y:=b.1.2.2.2.2.2.2.2.2.2;have o:=h.set I (N:=Rp (x.nodes.getD m zN)) rfl rfl (zw ⟨⟨b.1.1,b.1.2.1,b.1.2.2.1,b.1.2.2.2.1,b.1.2.2.2.2.1,b.1.2.2.2.2.2.1,b.1.2.2.2.2.2.2.1,b.1.2.2.2.2.2.2.2.1,(by show 0<=(x.nodes.getD m zN).l-1;lia),(by show (x.nodes.getD m zN).l-1<=200;lia)⟩,b.2⟩);have F:⟨(Rp (x.nodes.getD m zN)).k,(Rp (x.nodes.getD m zN)).m,(Rp (x.nodes.getD m zN)).u,(Rp (x.nodes.getD m zN)).g,(Rp (x.nodes.getD m zN)).s,(Rp (x.nodes.getD m zN)).l,(Rp (x.nodes.getD m zN)).up,(A m).D⟩={A m with l:=(A m).l-1}:=by let⟨r,C,w,E,t,v,B,_⟩:=i;unfold Rp;lia
 rw[F]at o;have z:(x.setX m (Rp (x.nodes.getD m zN))).nodes.getD m zN=Rp (x.nodes.getD m zN):=by unfold Tx.setX;rw[sY,ze ⟨rfl,by rwa[h.ti.len]⟩]
 have c:RP x s m:=by have:=h.room O;exact⟨I,by lia,fld8 (h.ti.nd m I),by rw[L];simp[getZ],this.g,this.d⟩
 refine⟨c,?_⟩;unfold oV;by_cases f:(A m).l=1
 .rw[ze f];refine⟨?_,?_⟩
  .have q:=o.free I (by rw[jk];lia) L;rw[z,Lq]at q;exact q
  .refine (g.gone I K (by lia) ?_).congr λj _=>(by rw[f]);by_cases a:(A m).k=2
   .lia
   .rw[kW,zb a]
 .rw[zb f];refine⟨?_,?_⟩
  .have p:x.dropX s m=x.setX m (Rp (x.nodes.getD m zN)):=(by unfold Tx.dropX Tx.freeX;lia);rw[p];exact o.mono (by lia)
  .have a:(A m).k≠2:=λe=>f (g.dir m I e);refine (g.set I {A m with l:=(A m).l-1} J ?_ (λe=>yi e a) (by show 1<=(A m).l-1;lia) (λe=>yi e K)).congr λj _=>?_
   .unfold kW;rw[zb a]
   lia
theorem SI.unlink (B:SI s c A) (g:GI A λ_=>0) (F:c<=1000) (z:i<32) (y:(A i).k=2) (E:e∈outD (A i).D) (G:n+1=e.2) (C:¬((A n).k=2/\0<(A n).s)):
 Ys s i n e.1/\TV (((tx0 s).leaX s i e.1).dropX s n) s 24 [i] (oV (leaA A i e.1) n)/\GI (oV (leaA A i e.1) n) (λ_=>0):=by
 have h:=B.tv [i];have b:e∈kW (A i):=by rw[kW,ze y];exact E
 have r:=g.to z b;have a:n<32:=by lia
 have u:=g.noRoot rfl z b;have f:(A n).k≠0:=by have:=g.ino i z e b;rwa[show (e.2-1).toNat=n by lia]at this
 have l:n≠i:=by rintro rfl;have o:=Z5 (g.ok n z y) E;have x:=h.len B.sec z;exact C ⟨y,by lia⟩
 have d:leaA A i e.1 n=A n:=qH _ _ l;let⟨q,m,t⟩:=(h.lea g z (by simp) y E).drop (g.leave z y E) a (by lia) (by rw[ze G];rfl) (by rw[d];exact f) (λ_=>by rw[d];exact mj (h.len B.sec a) C) B.held (by lia);refine⟨⟨q,m.run B F (by lia) ?_⟩,m,t.congr λj _=>?_⟩
 .have o:(((tx0 s).leaX s i e.1).dropX s n).rows=s.rows:=by unfold Tx.dropX Tx.freeX Tx.leaX Tx.setX Tx.fillX Tx.wow;split<;>split<;>rfl
  rw[o];exact B.rows
 lia
theorem SI.link (Q:SI s c A) (g:GI A λ_=>0) (U:c<=1000) (S:i<32) (T:(A i).k=2) (R:n<32) (O:(A n).k≠0) (P:(A n).k≠2) (V:(A n).l≠200) (name):
 Ix s i n name/\((tx0 s).setX n (ZK (s.nodes.getD n zN))).dirD s i=(A i).D/\(vA (A i).D (name,n+1)=0->TV (((tx0 s).setX n (ZK (s.nodes.getD n zN))).entX s i (name,n+1)) s 16 [i] (entA (upA A n {A n with l:=(A n).l+1}) i (name,n+1))/\GI (entA (upA A n {A n with l:=(A n).l+1}) i (name,n+1)) λ_=>0):=by
 have r:=Q.tv [i];have a:=r.fld R O;have J:SX (ZK (s.nodes.getD n zN)):=by have M:(s.nodes.getD n zN).l=(A n).l:=(r.at R).2.2.2.2.2.1;exact zw ⟨⟨a.1.1,a.1.2.1,a.1.2.2.1,a.1.2.2.2.1,a.1.2.2.2.2.1,a.1.2.2.2.2.2.1,a.1.2.2.2.2.2.2.1,a.1.2.2.2.2.2.2.2.1,(by have:=a.1.2.2.2.2.2.2.2.2.1;show 0<=(s.nodes.getD n zN).l+1;have K:0<=(s.nodes.getD n zN).l:=this;lia),(by have K:(s.nodes.getD n zN).l<=200:=a.1.2.2.2.2.2.2.2.2.2;show (s.nodes.getD n zN).l+1<=200;lia)⟩,a.2⟩
 have o:=r.set R (N:=ZK (s.nodes.getD n zN)) rfl rfl J;have L:⟨(ZK (s.nodes.getD n zN)).k,(ZK (s.nodes.getD n zN)).m,(ZK (s.nodes.getD n zN)).u,(ZK (s.nodes.getD n zN)).g,(ZK (s.nodes.getD n zN)).s,(ZK (s.nodes.getD n zN)).l,(ZK (s.nodes.getD n zN)).up,(A n).D⟩={A n with l:=(A n).l+1}:=by obtain⟨y,H,F,I,z,C,G,_⟩:=Q.A_at R;unfold ZK;lia
 rw[L]at o;have w:=g.pos n R O;have t:=g.set R {A n with l:=(A n).l+1} O (by rfl) (λB=>yi B P) (by lia) (λE=>by subst E;exact yi g.root P);have p:i≠n:=by lia
 have d:upA A n {A n with l:=(A n).l+1} i=A i:=qH _ _ p;have b:(upA A n {A n with l:=(A n).l+1} i).k=2:=by rwa[d]
 have v:((tx0 s).setX n (ZK (s.nodes.getD n zN))).dirD s i=(A i).D:=by rw[(o.at S).2.2.2.2.2.2.2,d]
 have h:vA (A i).D (name,n+1)=0->TV (((tx0 s).setX n (ZK (s.nodes.getD n zN))).entX s i (name,n+1)) s 16 [i] (entA (upA A n {A n with l:=(A n).l+1}) i (name,n+1))/\GI (entA (upA A n {A n with l:=(A n).l+1}) i (name,n+1)) λ_=>0:=λf=>by
  rw[<-d]at f;refine⟨o.ent t S (by simp) b f,(t.enter S b f ?_).congr λj _=>?_⟩
  .have e:((name,(n:Int)+1).2-1:Int).toNat=n:=(by show ((n:Int)+1-1).toNat=n;lia);rw[e,jk];exact O
  lia
 refine⟨⟨o.dirT Q.sec Q.k0 (by lia) S (t.ok i S b),λf=>?_⟩,v,h⟩;rw[v]at f;exact (h f).1.run Q U (by lia) Q.rows
end
def QC (s:Fs) (n:Int):Bool:=decide (1<=n)&&decide ((s.nodes.getD (n-1).toNat zN).k≠0)
def belN (s:Fs) (top:Int):Nat->Int->Bool
 | 0,_=>false
 | f+1,n=>if n=top then true else if n=1 then false else if QC s n=true then belN s top f (s.nodes.getD (n-1).toNat zN).up else false
theorem DC (h:FsAt w gf s F a) (n) (f:0<=n/\n<=32):
 Calls prog 66 #[(gf,()),(n:Int)] w (λe w'=>e=.returned (.bool (QC s n))/\w=w'):=by
 by_cases c:n=0
 .subst c;exact Pp _ w
 .obtain⟨i,rfl⟩:∃i:Nat,n=(i:Int)+1:=⟨(n-1).toNat,by lia⟩;have e:((i:Int)+1-1).toNat=i:=by lia
  have d:QC s (i+1)=decide ((s.nodes.getD i zN).k≠0):=by unfold QC;lia
  rw[d];exact sU h i (by lia) (s.nodes.getD i zN) (ju (by rw[h.len];lia))
theorem DE (h:FsAt w gf s F a) (ino top) (hi:0<=ino/\ino<=32) (aa:∀X∈s.nodes,0<=X.up/\X.up<=32):
 Calls prog 60 #[(gf,()),(ino:Int),(top:Int)] w (λe w'=>e=.returned (.bool (belN s top 32 ino))/\w=w'):=by
 have H:=za h;have A:=za aa;obtain⟨R,D⟩:=zD (belN s top 32 ino);rw[D.o];clear h aa;go_enter func60,ntmps60;go_wp2;go_loopw [1,7] (λx c wr=>∃(n:Int) (j:Nat),j<=32/\x=.int .i64 n/\c=.int .i64 j/\Hid (0<=n/\n<=32)/\Hid (wr=w)/\Hid (belN s top (32-j) n=R)) (λ_ c _=>32-(intOf c).toNat)
 .exact⟨ino,0,by lia,rfl,rfl,hi,rfl,D⟩
 .obtain⟨n,j,hj,rfl,rfl,E,u,C⟩:=hrel;obtain rfl:wr=w:=u.o;by_cases L:j<32
  .have G:(j:Int)<32:=(by lia);have b:=C.o;rw[show 32-j=(32-(j+1))+1 by lia]at b;unfold belN at b;by_cases l:n=top
   .rw[ze l]at b;subst b;have M:(n==top)=true:=(by simp[l]);clear l;go_wp2;go_ret;simp
   rw[zb l]at b;have M:(n==top)=false:=(by simpa using l);clear l;by_cases m:n=1
   .rw[ze m]at b;subst b m;go_wp2;go_ret;simp
   rw[zb m]at b;have b2:(n==1)=false:=(by simpa using m);have d:=za (DC H n E);clear m;cases k:QC s n with
   | false=>
    rw[k]at b d;rw[zb (by decide)]at b;subst b;go_wp2_with fail
    refine d.o.mono ?_;rintro e J ⟨rfl,rfl⟩;go_wp2;go_ret;simp
   | true=>
    rw[k]at b d;rw[ze rfl]at b;have r:1<=n:=by
     unfold QC at k;by_cases I:1<=n
     .exact I
     .rw[zJ I]at k;cases k
    obtain⟨i,z⟩:∃i:Nat,n=(i:Int)+1:=⟨(n-1).toNat,by lia⟩;have f:i<32:=(by have:=E.o;lia);have e:(n-1).toNat=i:=(by lia);rw[e]at b;obtain⟨N,p⟩:=zD (s.nodes.getD i zN);rw[p.o]at b;have g:s.nodes[i]?=some N:=(by rw[<-p.o];exact ju (by rw[H.o.len];exact f));have v:=A.o N (wQ g);obtain⟨gn,on,cn,yq,Z,yc,B,S,K,U,Q,V,W,O,P,_⟩:=sx H i f N g;have i1:IntKind.i64.wrap (n-1)=i:=(by rw[zM _ (by lia)];lia);have q:(i:Int)<32:=(by lia);obtain⟨y,Y⟩:=zD N.up;rw[Y.o]at b v P;have T:=za v;have t:=za b;clear b v e K U Q V W O g k z r;go_wp2_with fail
    refine d.o.mono ?_;rintro e J ⟨rfl,rfl⟩;go_wp2;go_roundw
    .exact⟨y,j+1,by lia,rfl,by go_num,T,za trivial,t⟩
    .simp[intOf];lia
  .obtain rfl:j=32:=(by lia);have b:false=R:=C.o;subst b;go_wp2;go_ret;simp
theorem idx2_0 (x y) (W):(Instr.index 117 (.agg #[x,y]) (.int .i64 0)).run prog W=.ok x W:=rfl
theorem idx2_1 (x y) (W):(Instr.index 117 (.agg #[x,y]) (.int .i64 1)).run prog W=.ok y W:=rfl
def movO (E:List Int) (b:ByteArray):Option Nat:=if (rI E b).2.2=0 then some ((rI E b).1-1).toNat else none
def movE (s:Fs) (j n:Nat):Option Nat->Int
 | none=>if (s.nodes.getD n zN).k=2/\belN s (n+1) 32 (j+1)=true then 14 else 0
 | some m=>if (s.nodes.getD m zN).k=2↔(s.nodes.getD n zN).k=2 then (if (s.nodes.getD n zN).k=2/\0<(s.nodes.getD m zN).s then 13 else if (s.nodes.getD n zN).k=2/\belN s (n+1) 32 (j+1)=true then 14 else 0) else 12
def movT (s:Fs) (i j:Nat) (a b:ByteArray):Option Nat->Tx
 | none=>(tx0 s).leaX s i a
 | some m=>(((tx0 s).leaX s i a).leaX s j b).dropX s m
def upP (N:Pn) (j:Nat):Pn:={N with up:=j+1}
def movY (s:Fs) (i j n:Nat) (a b:ByteArray) (o:Option Nat):Tx:=(movT s i j a b o).entX s j (b,n+1)
def movX (s:Fs) (i j n:Nat) (a b:ByteArray) (o:Option Nat):Tx:=if (s.nodes.getD n zN).k=2 then (movY s i j n a b o).setX n (upP ((movY s i j n a b o).nodes.getD n zN) j) else movY s i j n a b o
def movR (s:Fs) (i j n:Nat) (a b:ByteArray) (o:Option Nat):Int×Fs:=
 if o=some n then (0,s) else if movE s j n o≠0 then (movE s j n o,s) else
 if vA ((movT s i j a b o).dirD s j) (b,n+1)≠0 then (vA ((movT s i j a b o).dirD s j) (b,n+1),s) else (endE s (movX s i j n a b o),endS s (movX s i j n a b o))
def movM (s:Fs) (i j:Nat) (D E:List Int) (a b:ByteArray):Int×Fs:=
 if (rI D a).2.2=0 then movR s i j ((rI D a).1-1).toNat a b (movO E b) else ((rI D a).2.2,s)
structure FR (s:Fs) (i j n:Nat) (a b:ByteArray) (o:Option Nat):Prop where
 one:∀m,o=some m->oa ((tx0 s).leaX s i a)/\DirT ((tx0 s).leaX s i a) s j (((tx0 s).leaX s i a).nodes.getD j zN) (((tx0 s).leaX s i a).dirD s j)/\RP (((tx0 s).leaX s i a).leaX s j b) s m
 room:oa (movT s i j a b o)
 dir:DirT (movT s i j a b o) s j ((movT s i j a b o).nodes.getD j zN) ((movT s i j a b o).dirD s j)
 run:vA ((movT s i j a b o).dirD s j) (b,(n:Int)+1)=0->(movY s i j n a b o).dirty.length<900/\P6 s (movX s i j n a b o)
theorem me {ad:Addr} (h:FsAt w gf s F ad) (i) (X) (D) (hd:DirS s i X D) (j) (Y) (E) (he:DirS s j Y E) (a b) (ha:tM a=true) (hb:tM b=true) (an:∀X∈s.nodes,0<=X.up/\X.up<=32)
 (ao:(rI D a).2.2=0->movO E b≠some ((rI D a).1-1).toNat->movE s j ((rI D a).1-1).toNat (movO E b)=0->FR s i j ((rI D a).1-1).toNat a b (movO E b)):
 Calls prog 24 #[(gf,()),(i+1:Int),.string a,(j+1:Int),.string b] w
  (ρ (.int .i64 (movM s i j D E a b).1) λw'=>pW w gf (movM s i j D E a b).2 F ad w'):=by
 have H:=za h;have aY:=za h.len;have bO:=za (λW=>PZ a W);have bP:=za (λW=>PZ b W);rw[ha]at bO;rw[hb]at bP;have bX:=za (rn h i hd.lt X hd.nd);rw[hd.k,zb (by omega),ze rfl]at bX;have bR:=za (rn h j he.lt Y he.nd);rw[he.k,zb (by omega),ze rfl]at bR;have bU:=za (Pq h i X D hd a ha);have bQ:Hid (∀W,Below w w W->Calls prog 55 #[(gf,()),(j+1:Int),.string b] W (κ W (.tuple #[.int .i64 (rI E b).1,.int .i64 (rI E b).2.2]))):=λW hW=>Pq (h.below hW) j Y E he b hb;have aH:=za ao;have a5:Hid ((rI D a).2.2=0->1<=(rI D a).1/\(rI D a).1<=32):=SL hd.ok;have a7:Hid ((rI E b).2.2=0->1<=(rI E b).1/\(rI E b).1<=32):=SL he.ok;have bo:Hid ((rI D a).2.2=0\/(rI D a).2.2=4/\(rI D a).1=0):=P1 (D:=D) (n:=D.length / 16) (name:=a) 7 0 0;have bS:Hid ((rI E b).2.2=0\/(rI E b).2.2=4/\(rI E b).1=0):=P1 (D:=E) (n:=E.length / 16) (name:=b) 7 0 0;have aP:=za (hd.tx h.k1);have hj:=he.lt;have aS:Hid (∀(W) (n),Below w w W->Calls prog 60 #[(gf,()),(j+1:Int),(n:Int)] W (λe w'=>e=.returned (.bool (belN s n 32 (j+1)))/\W=w')):=λW n hW=>DE (h.below hW) ((j:Int)+1) n (by omega) an;obtain⟨gn,on,cn,yq,yn,yc,S,a9,f0,f1,f2,f3,f4,f5,_⟩:=sx h j hj Y he.nd;have dy:IntKind.i64.wrap (j+1-1)=j:=by rw[zM _ (by omega)];omega
 have cf:(j:Int)<32:=by omega
 have c3:(Y.l==0)=false:=by have:=he.l;simp;omega
 obtain⟨lY,c8⟩:=zD Y.l;rw[c8.o]at c3 f5;have bV:Hid (∀W,Below w w W->FsAt W gf s F ad):=λW hW=>h.below hW;obtain⟨R,HR⟩:=zD (movM s i j D E a b);rw[HR.o];obtain⟨re,rs⟩:=R;obtain⟨⟨ri,rl,rr⟩,Hr⟩:∃r,Hid (rI D a=r):=⟨rI D a,za rfl⟩;obtain⟨⟨qi,ql,qr⟩,Hq⟩:∃r,Hid (rI E b=r):=⟨rI E b,za rfl⟩;have HM:Hid ((if rr=0 then movR s i j (ri-1).toNat a b (if qr=0 then some (qi-1).toNat else none) else (rr,s))=(re,rs)):=by show _=_;rw[<-HR.o];unfold movM movO;rw[Hr.o,Hq.o]
 unfold movO at aH;rw[Hr.o,Hq.o]at aH;rw[Hr.o]at bU a5 bo;rw[Hq.o]at bQ a7 bS;have t:Hid (∀(e) (W),Below w w W->(e,s)=(re,rs)->e=re/\pW w gf rs F ad W):=λe W hW he=>by injection he with d h2;exact⟨d,by rw[<-h2];exact pW.same H.o hW⟩
 clear h hd he ha hb an ao f0 f1 f2 f3 f4;go_enter func24,ntmps24;go_wp2_with fail
 refine (bO.o w).mono ?_;rintro e w0 ⟨rfl,rfl⟩;go_wp2_with fail
 refine (bP.o w).mono ?_;rintro e w0 ⟨rfl,rfl⟩;go_wp2;go_loopw [33] (λc wr=>∃k:Nat,k<=2/\c=.int .i64 k/\Hid (wr=w)) (λc _=>2-(intOf c).toNat)
 .exact⟨0,by omega,rfl,rfl⟩
 .obtain⟨k,hk,rfl,cm⟩:=hrel;obtain rfl:w=wr:=cm.o.symm;by_cases cu:k<2
  .have bY:k=0\/k=1:=(by omega);have dr:=idx2_0;have dB:=idx2_1;rcases bY with rfl|rfl
   .go_wp2_with fail
    refine bX.o.mono ?_;rintro e w1 ⟨rfl,rfl⟩;go_wp2;go_roundw
    .exact⟨1,by omega,by go_num,za trivial⟩
    .simp[intOf]
   .go_wp2_with fail
    refine bR.o.mono ?_;rintro e w1 ⟨rfl,rfl⟩;go_wp2;go_roundw
    .exact⟨2,by omega,by go_num,za trivial⟩
    .simp[intOf]
  .obtain rfl:k=2:=(by omega);clear hk cu;go_wp2_with fail
   refine bU.o.mono ?_;rintro e w1 ⟨rfl,bW⟩;have bs:=za bW;clear bW S a9 f5;rcases bo.o with c9|⟨cD,df⟩;case inr=>
    obtain rfl:rr=4:=cD;have z:=za (t.o 4 w1 bs.o (by have d:=HM.o;rw[zb (by decide)]at d;exact d));go_wp2;go_ret;exact⟨by rw[<-z.o.1];rfl,z.o.2⟩
   obtain rfl:rr=0:=c9;have bi:=(a5.o rfl).1;have bc:=(a5.o rfl).2;obtain⟨n,hn⟩:∃n:Nat,ri=(n:Int)+1:=⟨(ri-1).toNat,by omega⟩;have M:n<32:=(by omega);have bC:(ri-1).toNat=n:=(by omega);rw[ze rfl,bC]at HM;rw[bC]at aH;subst hn;have aj:=za (aH.o rfl);obtain⟨N,HN⟩:=zD (s.nodes.getD n zN);have bN:s.nodes[n]?=some N:=(by rw[<-HN.o];exact ju (by rw[aY.o];exact M));have cB:=za bN;have d3:IntKind.i64.wrap (n+1-1)=n:=(by rw[zM _ (by omega)];omega);have cG:(n:Int)<32:=(by omega);clear bN bC bi bc a5 bo aH;go_wp2_with fail
   refine (bQ.o w1 bs.o).mono ?_;rintro e w2 ⟨rfl,bM⟩;have y:=za (zi bs.o bM);clear bM;obtain⟨gn,on,cn,yq,yn,yc,S,a9,e0,_⟩:=sx (bV.o w2 y.o) n M N cB.o;rcases bS.o with c5|⟨cr,cY⟩;case inr=>
    obtain rfl:qr=4:=cr;rw[zb (by decide)]at HM aj;obtain⟨o,Ho⟩:∃o:Option Nat,Hid (none=o):=⟨_,za rfl⟩;have aw:=za (aj.o (by simp));have co:(0==(n:Int)+1)=false:=(by simp;omega);clear aj;by_cases L:N.k=2
    .have b0:(N.k==2)=true:=(by simp[L]);cases K:belN s ((n:Int)+1) 32 ((j:Int)+1) with
     | true=>
      have q:=za (aS.o w2 ((n:Int)+1) y.o);rw[K]at q;have z:=za (t.o 14 _ y.o (by have d:=HM.o;unfold movR movE at d;simp only[HN.o,L,K]at d;rw[zb (λI=>by cases I)]at d;simpa using d));clear K L;go_wp2_with fail
      refine q.o.mono ?_;rintro e w5 ⟨rfl,rfl⟩;go_wp2;go_ret;exact⟨by rw[<-z.o.1];rfl,z.o.2⟩
     | false=>
      have q:=za (aS.o w2 ((n:Int)+1) y.o);rw[K]at q;have Q:Hid (movE s j n none=0):=(by show _=_;unfold movE;simp only[HN.o,L,K];simp);have a2:Hid (movX s i j n a b none=(movY s i j n a b none).setX n (upP ((movY s i j n a b none).nodes.getD n zN) j)):=(by show _=_;unfold movX;rw[HN.o,ze L]);clear K L;go_wp2_with fail
      refine q.o.mono ?_;rintro e w5 ⟨rfl,rfl⟩;have v:=za (aw.o Q.o);have p:=HM.o;unfold movR at p;rw[zb (λI=>by cases I),Q.o,zb (λI=>I rfl)]at p;have f:=za (H.o.below y.o);have a0:=za (tH f.o);obtain⟨qe,A⟩:=zD (vA ((movT s i j a b none).dirD s j) (b,(n:Int)+1));rw[A.o]at p;have ah:=za p;clear p;go_wp2_with fail
      refine a0.o.mono ?_;rintro e w4 ⟨gt,T,rfl,ai,hT⟩;have aa:=za ai;have HT:Hid (TxAt w4 w2 F gt (gf,()) (tx0 s) T):=hT;have a3:=za (RB f.o aa.o HT.o SS i aP.o.2.2 a);clear ai hT S a9 e0;go_wp2_with fail
      refine a3.o.mono ?_;rintro e w5 ⟨rfl,d5⟩;have G:=za (d5.old aa.o HT.o);obtain⟨T5,t5,u5,v5,k5⟩:=d5;have V:=za t5;clear t5 u5 v5 k5;have U:=za (gT f.o G.o V.o (λr hr=>zr (f.o.fin r hr) G.o.size) v.o.room j _ _ v.o.dir (b,(n:Int)+1));rw[A.o]at U;go_wp2_with fail
      refine U.o.mono ?_;rintro e w8 ⟨rfl,d8⟩;have C:=za (d8.old G.o V.o);by_cases hq:qe=0;case neg=>
       have b5:(qe==0)=false:=(by simpa using hq);have b6:(qe != 0)=true:=(by simpa using hq);have z:=za (t.o qe w8 (y.o.trans (C.o.mono y.o.size)) (by have d:=ah.o;rw[ze hq]at d;exact d));clear d8 hq;go_wp2;go_ret;exact⟨by rw[<-z.o.1];rfl,z.o.2⟩
      subst hq;rw[ze rfl]at d8;have ag:Hid (re=endE s (movX s i j n a b none)/\rs=endS s (movX s i j n a b none)):=(by have d:=ah.o;rw[zb (λI=>I rfl)]at d;injection d with d h2;exact⟨d.symm,h2.symm⟩);obtain⟨T8,t8,u8,v8,k8⟩:=d8;have J:Hid (TxAt w8 w2 F gt (gf,()) (movY s i j n a b none) T8):=t8;have ak:=za (v.o.run A.o);clear t8 u8 v8 k8;obtain⟨P,HP⟩:=zD ((movY s i j n a b none).nodes.getD n zN);have be:=za (kN J.o n M P (by rw[<-HP.o];exact ju (by rw[J.o.len];exact M)));go_wp2_with fail
      refine be.o.mono ?_;rintro e w9 ⟨pq,pn,pc,rfl,aA,am⟩;have c4:=za am;have bx:=za aA;obtain⟨gb,ay⟩:=zD w9.heap.size;have ba:Hid ((w9.alloc (.cells #[P.k,P.m,P.u,P.g,P.s,P.l,P.up,(pq,pn,pc)] 102)).heap[gb]?=some (.cells #[P.k,P.m,P.u,P.g,P.s,P.l,P.up,(pq,pn,pc)] 102)):=(by rw[<-ay.o];exact zH);have ab:Hid (Below w8 w8 (w9.alloc (.cells #[P.k,P.m,P.u,P.g,P.s,P.l,.int .i64 (j+1),(pq,pn,pc)] 102))):=am.alloc am.size _;have aM:Hid (Below w9 w9 (w9.alloc (.cells #[P.k,P.m,P.u,P.g,P.s,P.l,.int .i64 (j+1),(pq,pn,pc)] 102))):=zB.alloc zL _;have aB:Hid ((w9.alloc (.cells #[P.k,P.m,P.u,P.g,P.s,P.l,.int .i64 (j+1),(pq,pn,pc)] 102)).heap[gb]?=some (.cells #[P.k,P.m,P.u,P.g,P.s,P.l,.int .i64 (j+1),(pq,pn,pc)] 102)):=(by rw[<-ay.o];exact zH);have z6:(w9.alloc (.cells #[P.k,P.m,P.u,P.g,P.s,P.l,P.up,(pq,pn,pc)] 102)).frozen? (gb,6)=false:=zF ba.o;have bA:=za (Zi (J.o.below ab.o) n M (upP P j) pq pn pc (bx.o.below aM.o) ak.o.1);clear aA am
      go_upto_region 40 with fail
      rw[ay.o];generalize w9.alloc (.cells #[P.k,P.m,P.u,P.g,P.s,P.l,.int .i64 ((j:Int)+1),(pq,pn,pc)] 102)=cC at *
      obtain⟨r0,r1,r2,r3,r4,r5,r6,r7⟩:=ug aB.o;go_wp2_with fail
      refine bA.o.mono ?_;rintro e c7 ⟨rfl,aC⟩;have aO:=za (aC.old (C.o.trans (ab.o.mono C.o.size)) (J.o.below ab.o));obtain⟨cH,aD,bw,bg,bt⟩:=aC;have HE:=za (kP f.o aO.o (x:=movX s i j n a b none) (by rw[a2.o,HP.o];exact aD) ak.o.2);clear aD bw bg bt r0 r1 r2 r3 r4 r5 r6 r7;go_wp2_with fail
      refine HE.o.mono ?_;rintro e bD ⟨rfl,ac⟩;have Z:=za (ac.after y.o);clear ac;go_wp2;go_ret;exact⟨by rw[ag.o.1];rfl,by rw[ag.o.2];exact Z.o⟩
    .have b0:(N.k==2)=false:=(by simpa using L);have Q:Hid (movE s j n none=0):=(by show _=_;unfold movE;rw[HN.o,zb (λI=>L I.1)]);have a2:Hid (movX s i j n a b none=movY s i j n a b none):=(by show _=_;unfold movX;rw[HN.o,zb L]);clear L;have v:=za (aw.o Q.o);have p:=HM.o;unfold movR at p;rw[zb (λI=>by cases I),Q.o,zb (λI=>I rfl)]at p;have f:=za (H.o.below y.o);have a0:=za (tH f.o);obtain⟨qe,A⟩:=zD (vA ((movT s i j a b none).dirD s j) (b,(n:Int)+1));rw[A.o]at p;have ah:=za p;clear p;go_wp2_with fail
     refine a0.o.mono ?_;rintro e w4 ⟨gt,T,rfl,ai,hT⟩;have aa:=za ai;have HT:Hid (TxAt w4 w2 F gt (gf,()) (tx0 s) T):=hT;have a3:=za (RB f.o aa.o HT.o SS i aP.o.2.2 a);clear ai hT S a9 e0;go_wp2_with fail
     refine a3.o.mono ?_;rintro e w5 ⟨rfl,d5⟩;have G:=za (d5.old aa.o HT.o);obtain⟨T5,t5,u5,v5,k5⟩:=d5;have V:=za t5;clear t5 u5 v5 k5;have U:=za (gT f.o G.o V.o (λr hr=>zr (f.o.fin r hr) G.o.size) v.o.room j _ _ v.o.dir (b,(n:Int)+1));rw[A.o]at U;go_wp2_with fail
     refine U.o.mono ?_;rintro e w8 ⟨rfl,d8⟩;have C:=za (d8.old G.o V.o);by_cases hq:qe=0;case neg=>
      have b5:(qe==0)=false:=(by simpa using hq);have b6:(qe != 0)=true:=(by simpa using hq);have z:=za (t.o qe w8 (y.o.trans (C.o.mono y.o.size)) (by have d:=ah.o;rw[ze hq]at d;exact d));clear d8 hq;go_wp2;go_ret;exact⟨by rw[<-z.o.1];rfl,z.o.2⟩
     subst hq;rw[ze rfl]at d8;have ag:Hid (re=endE s (movX s i j n a b none)/\rs=endS s (movX s i j n a b none)):=(by have d:=ah.o;rw[zb (λI=>I rfl)]at d;injection d with d h2;exact⟨d.symm,h2.symm⟩);obtain⟨T8,t8,u8,v8,k8⟩:=d8;have J:Hid (TxAt w8 w2 F gt (gf,()) (movY s i j n a b none) T8):=t8;have ak:=za (v.o.run A.o);clear t8 u8 v8 k8;have HE:=za (kP f.o C.o (x:=movX s i j n a b none) (by rw[a2.o];exact J.o) ak.o.2);go_wp2_with fail
     refine HE.o.mono ?_;rintro e bD ⟨rfl,ac⟩;have Z:=za (ac.after y.o);clear ac;go_wp2;go_ret;exact⟨by rw[ag.o.1];rfl,by rw[ag.o.2];exact Z.o⟩
   obtain rfl:qr=0:=c5;have bi:=(a7.o rfl).1;have bc:=(a7.o rfl).2;obtain⟨m,hm⟩:∃m:Nat,qi=(m:Int)+1:=⟨(qi-1).toNat,by omega⟩;have aV:m<32:=(by omega);have bT:(qi-1).toNat=m:=(by omega);rw[ze rfl,bT]at HM aj;subst hm;clear bT bi bc a7;by_cases aQ:m=n
   .subst aQ;have z:=za (t.o 0 w2 y.o (by have d:=HM.o;unfold movR at d;rw[ze rfl]at d;exact d));go_wp2;go_ret;exact⟨by rw[<-z.o.1];rfl,z.o.2⟩
   have aw:=za (aj.o (λI=>aQ (tZ I)));have co:(m+1==(n:Int)+1)=false:=(by simp;omega);have dx:decide (0<(m:Int)+1)=true:=zX (by omega);have dC:0<(m:Int)+1:=(by omega);have aX:¬some m=some n:=λI=>aQ (tZ I);have a8:=za aX;obtain⟨O,HO⟩:=zD (s.nodes.getD m zN);have bL:s.nodes[m]?=some O:=(by rw[<-HO.o];exact ju (by rw[aY.o];exact aV));have ci:=za bL;have d1:IntKind.i64.wrap (m+1-1)=m:=(by rw[zM _ (by omega)];omega);have cN:(m:Int)<32:=(by omega);obtain⟨cO,cK,cA,oq,av,oc,af,aZ,g0,g1,g2,g3,g4,g5,g6,g7,_⟩:=sx (bV.o w2 y.o) m aV O ci.o;have bf:cO=gn/\cK=on/\cA=cn:=(by rw[S]at af;injection af with af;injection af with e1 e2 e3;injection e1 with e1;injection e1 with e4 e5;exact⟨e4.symm,e5.symm,e3.symm⟩);obtain⟨rfl,rfl,rfl⟩:=bf;have B:Hid (Below w w (w2.alloc (.cells #[O.k,O.m,O.u,O.g,O.s,O.l,O.up,(oq,av,oc)] 102))):=y.o.alloc y.o.size _;obtain⟨m0,m1,m2,m3,m4,m5,m6,m7⟩:=ug (zO w2 (.cells #[O.k,O.m,O.u,O.g,O.s,O.l,O.up,(oq,av,oc)] 102));clear aj aQ aX bL af;by_cases L:N.k=2
   .have b0:(N.k==2)=true:=(by simp[L]);by_cases hO:O.k=2
    .have b1:(O.k==2)=true:=(by simp[hO]);by_cases hS:0<O.s
     .have b2:=zX hS;have z:=za (t.o 13 _ B.o (by have d:=HM.o;unfold movR movE at d;simp only[HN.o,HO.o,L,hO,hS]at d;rw[zb a8.o]at d;simpa using d));clear L hO hS;go_wp2;go_ret;exact⟨by rw[<-z.o.1];rfl,z.o.2⟩
     have b2:=zJ hS;cases K:belN s ((n:Int)+1) 32 ((j:Int)+1) with
     | true=>
      have q:=za (aS.o (w2.alloc (.cells #[O.k,O.m,O.u,O.g,O.s,O.l,O.up,(oq,av,oc)] 102)) ((n:Int)+1) B.o);rw[K]at q;have z:=za (t.o 14 _ B.o (by have d:=HM.o;unfold movR movE at d;simp only[HN.o,L,K,HO.o,hO,hS]at d;rw[zb a8.o]at d;simpa using d));clear K L hO hS;go_wp2_with fail
      refine q.o.mono ?_;rintro e w5 ⟨rfl,rfl⟩;go_wp2;go_ret;exact⟨by rw[<-z.o.1];rfl,z.o.2⟩
     | false=>
      have q:=za (aS.o (w2.alloc (.cells #[O.k,O.m,O.u,O.g,O.s,O.l,O.up,(oq,av,oc)] 102)) ((n:Int)+1) B.o);rw[K]at q;have Q:Hid (movE s j n (some m)=0):=(by show _=_;unfold movE;simp only[HN.o,L,K,HO.o,hO,hS];simp);have a2:Hid (movX s i j n a b (some m)=(movY s i j n a b (some m)).setX n (upP ((movY s i j n a b (some m)).nodes.getD n zN) j)):=(by show _=_;unfold movX;rw[HN.o,ze L]);clear K L hO hS;go_wp2_with fail
      refine q.o.mono ?_;rintro e w5 ⟨rfl,rfl⟩;have v:=za (aw.o Q.o);have p:=HM.o;unfold movR at p;rw[zb a8.o,Q.o,zb (λI=>I rfl)]at p;have f:=za (H.o.below B.o);have a0:=za (tH f.o);obtain⟨qe,A⟩:=zD (vA ((movT s i j a b (some m)).dirD s j) (b,(n:Int)+1));rw[A.o]at p;have ah:=za p;clear p;go_wp2_with fail
      refine a0.o.mono ?_;rintro e w4 ⟨gt,T,rfl,ai,hT⟩;have aa:=za ai;have HT:Hid (TxAt w4 (w2.alloc (.cells #[O.k,O.m,O.u,O.g,O.s,O.l,O.up,(oq,av,oc)] 102)).heap.size F gt (gf,()) (tx0 s) T):=hT;generalize w2.alloc (.cells #[O.k,O.m,O.u,O.g,O.s,O.l,O.up,(oq,av,oc)] 102)=w3 at *
      have a3:=za (RB f.o aa.o HT.o SS i aP.o.2.2 a);clear ai hT S a9 e0 aZ g0 g1 g2 g3 g4 g5 g6 g7 m0 m1 m2 m3 m4 m5 m6 m7;go_wp2_with fail
      refine a3.o.mono ?_;rintro e w5 ⟨rfl,d5⟩;have G:=za (d5.old aa.o HT.o);obtain⟨T5,t5,u5,v5,k5⟩:=d5;have V:=za t5;clear t5 u5 v5 k5;obtain⟨o1,o2,o3⟩:=v.o.one m rfl;have bp:=za (RB f.o G.o V.o o1 j o2 b);have b7:=za o3;clear o1 o2 o3;go_wp2_with fail
      refine bp.o.mono ?_;rintro e w6 ⟨rfl,d6⟩;have aI:=za (d6.old G.o V.o);obtain⟨T6,t6,u6,v6,k6⟩:=d6;have bv:=za (iy f.o aI.o t6 m b7.o);have bB:=za t6;clear t6 u6 v6 k6;go_wp2_with fail
      refine bv.o.mono ?_;rintro e w7 ⟨rfl,d7⟩;have az:=za (d7.old aI.o bB.o);obtain⟨T7,t7,u7,v7,k7⟩:=d7;have aK:=za t7;clear t7 u7 v7 k7;have U:=za (gT f.o az.o aK.o (λr hr=>zr (f.o.fin r hr) az.o.size) v.o.room j _ _ v.o.dir (b,(n:Int)+1));rw[A.o]at U;go_wp2_with fail
      refine U.o.mono ?_;rintro e w8 ⟨rfl,d8⟩;have C:=za (d8.old az.o aK.o);by_cases hq:qe=0;case neg=>
       have b5:(qe==0)=false:=(by simpa using hq);have b6:(qe != 0)=true:=(by simpa using hq);have z:=za (t.o qe w8 (B.o.trans (C.o.mono B.o.size)) (by have d:=ah.o;rw[ze hq]at d;exact d));clear d8 hq;go_wp2;go_ret;exact⟨by rw[<-z.o.1];rfl,z.o.2⟩
      subst hq;rw[ze rfl]at d8;have ag:Hid (re=endE s (movX s i j n a b (some m))/\rs=endS s (movX s i j n a b (some m))):=(by have d:=ah.o;rw[zb (λI=>I rfl)]at d;injection d with d h2;exact⟨d.symm,h2.symm⟩);obtain⟨T8,t8,u8,v8,k8⟩:=d8;have J:Hid (TxAt w8 w3 F gt (gf,()) (movY s i j n a b (some m)) T8):=t8;have ak:=za (v.o.run A.o);clear t8 u8 v8 k8;obtain⟨P,HP⟩:=zD ((movY s i j n a b (some m)).nodes.getD n zN);have be:=za (kN J.o n M P (by rw[<-HP.o];exact ju (by rw[J.o.len];exact M)));go_wp2_with fail
      refine be.o.mono ?_;rintro e w9 ⟨pq,pn,pc,rfl,aA,am⟩;have c4:=za am;have bx:=za aA;obtain⟨gb,ay⟩:=zD w9.heap.size;have ba:Hid ((w9.alloc (.cells #[P.k,P.m,P.u,P.g,P.s,P.l,P.up,(pq,pn,pc)] 102)).heap[gb]?=some (.cells #[P.k,P.m,P.u,P.g,P.s,P.l,P.up,(pq,pn,pc)] 102)):=(by rw[<-ay.o];exact zH);have ab:Hid (Below w8 w8 (w9.alloc (.cells #[P.k,P.m,P.u,P.g,P.s,P.l,.int .i64 (j+1),(pq,pn,pc)] 102))):=am.alloc am.size _;have aM:Hid (Below w9 w9 (w9.alloc (.cells #[P.k,P.m,P.u,P.g,P.s,P.l,.int .i64 (j+1),(pq,pn,pc)] 102))):=zB.alloc zL _;have aB:Hid ((w9.alloc (.cells #[P.k,P.m,P.u,P.g,P.s,P.l,.int .i64 (j+1),(pq,pn,pc)] 102)).heap[gb]?=some (.cells #[P.k,P.m,P.u,P.g,P.s,P.l,.int .i64 (j+1),(pq,pn,pc)] 102)):=(by rw[<-ay.o];exact zH);have z6:(w9.alloc (.cells #[P.k,P.m,P.u,P.g,P.s,P.l,P.up,(pq,pn,pc)] 102)).frozen? (gb,6)=false:=zF ba.o;have bA:=za (Zi (J.o.below ab.o) n M (upP P j) pq pn pc (bx.o.below aM.o) ak.o.1);clear aA am
      go_upto_region 40 with fail
      rw[ay.o];generalize w9.alloc (.cells #[P.k,P.m,P.u,P.g,P.s,P.l,.int .i64 ((j:Int)+1),(pq,pn,pc)] 102)=cC at *
      obtain⟨r0,r1,r2,r3,r4,r5,r6,r7⟩:=ug aB.o;go_wp2_with fail
      refine bA.o.mono ?_;rintro e c7 ⟨rfl,aC⟩;have aO:=za (aC.old (C.o.trans (ab.o.mono C.o.size)) (J.o.below ab.o));obtain⟨cH,aD,bw,bg,bt⟩:=aC;have HE:=za (kP f.o aO.o (x:=movX s i j n a b (some m)) (by rw[a2.o,HP.o];exact aD) ak.o.2);clear aD bw bg bt r0 r1 r2 r3 r4 r5 r6 r7;go_wp2_with fail
      refine HE.o.mono ?_;rintro e bD ⟨rfl,ac⟩;have Z:=za (ac.after B.o);clear ac;go_wp2;go_ret;exact⟨by rw[ag.o.1];rfl,by rw[ag.o.2];exact Z.o⟩
    .have b1:(O.k==2)=false:=(by simpa using hO);have z:=za (t.o 12 _ B.o (by have d:=HM.o;unfold movR movE at d;simp only[HN.o,HO.o,L,hO]at d;rw[zb a8.o]at d;simpa using d));clear L hO;go_wp2;go_ret;exact⟨by rw[<-z.o.1];rfl,z.o.2⟩
   .have b0:(N.k==2)=false:=(by simpa using L);by_cases hO:O.k=2
    .have b1:(O.k==2)=true:=(by simp[hO]);have z:=za (t.o 12 _ B.o (by have d:=HM.o;unfold movR movE at d;simp only[HN.o,HO.o,L,hO]at d;rw[zb a8.o]at d;simpa using d));clear L hO;go_wp2;go_ret;exact⟨by rw[<-z.o.1];rfl,z.o.2⟩
    .have b1:(O.k==2)=false:=(by simpa using hO);have Q:Hid (movE s j n (some m)=0):=(by show _=_;unfold movE;simp only[HN.o,HO.o,L,hO];simp);have a2:Hid (movX s i j n a b (some m)=movY s i j n a b (some m)):=(by show _=_;unfold movX;rw[HN.o,zb L]);clear L hO;have v:=za (aw.o Q.o);have p:=HM.o;unfold movR at p;rw[zb a8.o,Q.o,zb (λI=>I rfl)]at p;have f:=za (H.o.below B.o);have a0:=za (tH f.o);obtain⟨qe,A⟩:=zD (vA ((movT s i j a b (some m)).dirD s j) (b,(n:Int)+1));rw[A.o]at p;have ah:=za p;clear p;go_wp2_with fail
     refine a0.o.mono ?_;rintro e w4 ⟨gt,T,rfl,ai,hT⟩;have aa:=za ai;have HT:Hid (TxAt w4 (w2.alloc (.cells #[O.k,O.m,O.u,O.g,O.s,O.l,O.up,(oq,av,oc)] 102)).heap.size F gt (gf,()) (tx0 s) T):=hT;generalize w2.alloc (.cells #[O.k,O.m,O.u,O.g,O.s,O.l,O.up,(oq,av,oc)] 102)=w3 at *
     have a3:=za (RB f.o aa.o HT.o SS i aP.o.2.2 a);clear ai hT S a9 e0 aZ g0 g1 g2 g3 g4 g5 g6 g7 m0 m1 m2 m3 m4 m5 m6 m7;go_wp2_with fail
     refine a3.o.mono ?_;rintro e w5 ⟨rfl,d5⟩;have G:=za (d5.old aa.o HT.o);obtain⟨T5,t5,u5,v5,k5⟩:=d5;have V:=za t5;clear t5 u5 v5 k5;obtain⟨o1,o2,o3⟩:=v.o.one m rfl;have bp:=za (RB f.o G.o V.o o1 j o2 b);have b7:=za o3;clear o1 o2 o3;go_wp2_with fail
     refine bp.o.mono ?_;rintro e w6 ⟨rfl,d6⟩;have aI:=za (d6.old G.o V.o);obtain⟨T6,t6,u6,v6,k6⟩:=d6;have bv:=za (iy f.o aI.o t6 m b7.o);have bB:=za t6;clear t6 u6 v6 k6;go_wp2_with fail
     refine bv.o.mono ?_;rintro e w7 ⟨rfl,d7⟩;have az:=za (d7.old aI.o bB.o);obtain⟨T7,t7,u7,v7,k7⟩:=d7;have aK:=za t7;clear t7 u7 v7 k7;have U:=za (gT f.o az.o aK.o (λr hr=>zr (f.o.fin r hr) az.o.size) v.o.room j _ _ v.o.dir (b,(n:Int)+1));rw[A.o]at U;go_wp2_with fail
     refine U.o.mono ?_;rintro e w8 ⟨rfl,d8⟩;have C:=za (d8.old az.o aK.o);by_cases hq:qe=0;case neg=>
      have b5:(qe==0)=false:=(by simpa using hq);have b6:(qe != 0)=true:=(by simpa using hq);have z:=za (t.o qe w8 (B.o.trans (C.o.mono B.o.size)) (by have d:=ah.o;rw[ze hq]at d;exact d));clear d8 hq;go_wp2;go_ret;exact⟨by rw[<-z.o.1];rfl,z.o.2⟩
     subst hq;rw[ze rfl]at d8;have ag:Hid (re=endE s (movX s i j n a b (some m))/\rs=endS s (movX s i j n a b (some m))):=(by have d:=ah.o;rw[zb (λI=>I rfl)]at d;injection d with d h2;exact⟨d.symm,h2.symm⟩);obtain⟨T8,t8,u8,v8,k8⟩:=d8;have J:Hid (TxAt w8 w3 F gt (gf,()) (movY s i j n a b (some m)) T8):=t8;have ak:=za (v.o.run A.o);clear t8 u8 v8 k8;have HE:=za (kP f.o C.o (x:=movX s i j n a b (some m)) (by rw[a2.o];exact J.o) ak.o.2);go_wp2_with fail
     refine HE.o.mono ?_;rintro e bD ⟨rfl,ac⟩;have Z:=za (ac.after B.o);clear ac;go_wp2;go_ret;exact⟨by rw[ag.o.1];rfl,by rw[ag.o.2];exact Z.o⟩
def movB (A:Nat->AN) (i j:Nat) (a b:ByteArray):Option Nat->Nat->AN
 | none=>leaA A i a
 | some m=>oV (leaA (leaA A i a) j b) m
def movA (A:Nat->AN) (i j n:Nat) (a b:ByteArray) (o:Option Nat):Nat->AN:=
 let B:=entA (movB A i j a b o) j (b,n+1)
 if (A n).k=2 then upA B n {B n with up:=j+1} else B
section
variable {x : Tx} {s : Fs} {n c i j : Nat} {A : Nat->AN} {T : List Nat} {δ : Nat->Int}
theorem OA : ∀{l:List En},(l.map (·.1)).Nodup->∀{x y},x∈l->y∈l->x.1=y.1->x=y
 | [],_,_,_,h,_,_=>by cases h
 | z::l,c,x,y,f,e,d=>by
  rw[yB,vZ]at c;rcases yZ.1 f with b|b<;>rcases yZ.1 e with a|a
  .rw[b,a]
  .grind
  .grind
  .exact OA c.2 b a d
theorem fq (A) (i) (a) (j):(leaA A i a j).k=(A j).k/\(leaA A i a j).l=(A j).l:=by
 unfold leaA upA;lia
theorem Ie (A) (i) (e) (j):(entA A i e j).k=(A j).k/\(entA A i e j).l=(A j).l:=by
 unfold entA upA;lia
theorem ji (A) {m:Nat} (h:j≠m):oV A m j=A j:=qH _ _ h
theorem Vs (g:GI A δ) (h:i<32) (e:(A i).k=2) (a) (f):f∈kW (leaA A i a i)↔f∈kW (A i)/\a≠f.1:=by have c:=g.right h e;have d:kW (A i)=outD (A i).D:=ze e;rw[d]at c |-;have b:ud (qu (A i).D a)=0:=PM c _;rw[leaA,jk,OT (A i) e b,(oC _).mem_iff];rw[qu,Mo];simp
theorem SI.moveK (hs:SI s c A) (g:GI A λ_=>0) (hi:i<32) (Y:(A i).k=2) (Z:j<32) (aa:(A j).k=2) (he:e∈outD (A i).D) (hn:n+1=e.2)  
 (af:o≠some n) (ho:∀m,o=some m->∃f∈outD (A j).D,f.1=b/\m+1=f.2) (ag:∀m,o=some m->((A m).k=2↔(A n).k=2)/\¬((A n).k=2/\0<(A m).s)):
 (∀m,o=some m->oa ((tx0 s).leaX s i e.1)/\DirT ((tx0 s).leaX s i e.1) s j (((tx0 s).leaX s i e.1).nodes.getD j zN) (((tx0 s).leaX s i e.1).dirD s j)/\RP (((tx0 s).leaX s i e.1).leaX s j b) s m) /\
  TV (movT s i j e.1 b o) s 32 [i,j] (movB A i j e.1 b o)/\GI (movB A i j e.1 b o) (λm=>if m=n then 1 else 0)/\(movB A i j e.1 b o j).k=2/\(movB A i j e.1 b o n).k=(A n).k:=by
 have L:=hs.tv [i,j];have l:e∈kW (A i):=by rw[kW,ze Y];exact he
 have R:=g.to hi l;have K:n<32:=by lia
 have N:(A n).k≠0:=by have:=g.ino i hi e l;grind
 have B:=L.lea g hi (by simp) Y he;have C:=(g.leave hi Y he).congr (δ':=λm=>if m=n then 1 else 0) λm _=>by
  lia
 have a:(leaA A i e.1 j).k=2:=by rwa[(fq A i e.1 j).1]
 cases o with
 | none=>exact⟨λm V=>(by cases V),B.mono (by lia),C,a,(fq A i e.1 n).1⟩
 | some m=>
  obtain⟨f,U,rfl,E⟩:=ho m rfl;let⟨J,I⟩:=ag m rfl;have u:m≠n:=λz=>af (by rw[z]);have d:f∈kW (A j):=by rw[kW,ze aa];exact U
  have W:=g.to Z d;have q:m<32:=by lia
  have T:=g.noRoot rfl Z d;have F:(A m).k≠0:=by have:=g.ino j Z f d;grind
  have t:(A m).k=2->kW (A m)=[]:=λh=>mj (L.len hs.sec q) λz=>I ⟨J.1 h,z.2⟩;have H:m≠i:=by grind
  have v:m≠j:=by grind
  have y:f∈outD (leaA A i e.1 j).D:=by
   have G:f∈kW (leaA A i e.1 j):=by
    by_cases w:j=i
    .subst w;refine (Vs g hi Y _ _).2 ⟨d,λz=>u ?_⟩;have:=OA ((qO _).1 (g.right hi Y)).2.2 l d z;subst this;lia
    .rw[leaA,qH _ _ w];exact d
   unfold kW at G;lia
  have x:leaA (leaA A i e.1) j f.1 m=A m:=by unfold leaA;rw[qH _ _ v,qH _ _ H]
  let⟨M,P,X⟩:=(B.lea C Z (by simp) a y).drop (C.leave Z a y) q (by lia) (by lia) (by lia) (λh=>by lia) hs.held (by lia);refine⟨λp r=>?_,P,X.congr λp _=>?_,?_,?_⟩
  .injection r with r;subst r;exact⟨B.room (by lia),B.dirT hs.sec hs.k0 (by lia) Z (C.ok j Z a),M⟩
  .lia
  .show (oV (leaA (leaA A i e.1) j f.1) m j).k=2;rwa[ji _ (yA v),(fq _ _ _ _).1]
  .show (oV (leaA (leaA A i e.1) j f.1) m n).k=(A n).k;rw[ji _ (yA u),(fq _ _ _ _).1,(fq _ _ _ _).1]
theorem SI.moveG (q:SI s c A) (g:GI A λ_=>0) (r:i<32) (d:(A i).k=2) (t:j<32) (h:(A j).k=2) (u:e∈outD (A i).D) (v:n+1=e.2)  
 (l:o≠some n) (w:∀m,o=some m->∃f∈outD (A j).D,f.1=b/\m+1=f.2) (p:∀m,o=some m->((A m).k=2↔(A n).k=2)/\¬((A n).k=2/\0<(A m).s)):
 GI (movB A i j e.1 b o) (λm=>if m=n then 1 else 0)/\(movB A i j e.1 b o j).k=2:=by
 let⟨_,_,a,b,_⟩:=q.moveK g r d t h u v l w p;lia
theorem SI.move (hs:SI s c A) (g:GI A λ_=>0) (hc:c<=1000) (hi:i<32) (ad:(A i).k=2) (hj:j<32) (af:(A j).k=2) (he:e∈outD (A i).D) (hn:n+1=e.2)  
 (ag:o≠some n) (ho:∀m,o=some m->∃f∈outD (A j).D,f.1=b/\m+1=f.2) (am:tM b=true) (ah:∀m,o=some m->((A m).k=2↔(A n).k=2)/\¬((A n).k=2/\0<(A m).s)):
 FR s i j n e.1 b o/\(movT s i j e.1 b o).dirD s j=(movB A i j e.1 b o j).D/\(vA (movB A i j e.1 b o j).D (b,n+1)=0->TV (movX s i j n e.1 b o) s 48 [i,j] (movA A i j n e.1 b o)/\GI (movA A i j n e.1 b o) λ_=>0):=by
 have z:e∈kW (A i):=by rw[kW,ze ad];exact he
 have X:=g.to hi z;have a:n<32:=by lia
 have q:(A n).k≠0:=by have:=g.ino i hi e z;grind
 let⟨S,C,O,M,R⟩:=hs.moveK g hi ad hj af he hn ag ho ah;have Q:=(C.at hj).2.2.2.2.2.2.2;have w:vA (movB A i j e.1 b o j).D (b,n+1)=0->TV (movY s i j n e.1 b o) s 40 [i,j] (entA (movB A i j e.1 b o) j (b,n+1))/\TV (movX s i j n e.1 b o) s 48 [i,j] (movA A i j n e.1 b o)/\GI (movA A i j n e.1 b o) λ_=>0:=λv=>by
  have t:=C.ent O hj (by simp) M v;have I:(((b,n+1):En).2-1).toNat=n:=by lia
  have B:=(O.enter hj M v (by lia)).congr (δ':=λ_=>0) λm _=>by
   lia
  have p:(entA (movB A i j e.1 b o) j (b,n+1) n).k=(A n).k:=by rwa[(Ie _ _ _ _).1]
  refine⟨t,?_⟩;rw[movX,movA,(hs.A_at a).1];by_cases r:(A n).k=2
  .rw[ze r];simp[r,Mt];have E:=t.fld a (by rwa[p]);have x:=t.at a;have F:=t.set a (N:=upP ((movY s i j n e.1 b o).nodes.getD n zN) j) rfl rfl (zw ⟨E.1,E.2.1,E.2.2.1,λ_=>(by show 1<=(j:Int)+1/\(j:Int)+1<=32;lia),λh=>yi (x.1.trans (p.trans r)) h,E.2.2.2.2.2⟩);have e1:⟨(upP ((movY s i j n e.1 b o).nodes.getD n zN) j).k,(upP ((movY s i j n e.1 b o).nodes.getD n zN) j).m,(upP ((movY s i j n e.1 b o).nodes.getD n zN) j).u,(upP ((movY s i j n e.1 b o).nodes.getD n zN) j).g,(upP ((movY s i j n e.1 b o).nodes.getD n zN) j).s,(upP ((movY s i j n e.1 b o).nodes.getD n zN) j).l,(upP ((movY s i j n e.1 b o).nodes.getD n zN) j).up,(entA (movB A i j e.1 b o) j (b,(n:Int)+1) n).D⟩={entA (movB A i j e.1 b o) j (b,n+1) n with up:=j+1}:=(by obtain⟨T,Y,W,Z,U,V,b7,_⟩:=x;unfold upP;simp only;rw[<-T,<-Y,<-W,<-Z,<-U,<-V];rfl);rw[e1]at F;refine⟨F,(B.set a {entA (movB A i j e.1 b o) j (b,(n:Int)+1) n with up:=(j:Int)+1} (by rwa[p]) rfl (λ_=>⟨B.dir n a (p.trans r),B.ok n a (p.trans r)⟩) (B.pos n a (by rwa[p])) (λ_=>p.trans r)).congr λm _=>?_⟩;lia
  .rw[zb r];simp[r,mY];exact⟨t.mono (by lia),B⟩
 refine⟨⟨S,C.room (by lia),C.dirT hs.sec hs.k0 (by lia) hj (O.ok j hj M),λv=>?_⟩,Q,λv=>(w v).2⟩;rw[Q]at v;let⟨t,F,_⟩:=w v;refine⟨?_,F.run hs hc (by lia) ?_⟩
 .have:=t.cap.d;lia
 .have K:∀(y:Tx) (i) (P),(y.leaX s i P).rows=y.rows:=λy i P=>by unfold Tx.leaX Tx.fillX Tx.wow;lia
  have H:(movT s i j e.1 b o).rows=s.rows:=by
   cases o with
   | none=>exact K _ _ _
   | some m=>
    show ((((tx0 s).leaX s i e.1).leaX s j b).dropX s m).rows=_;have:∀y:Tx,(y.dropX s m).rows=y.rows:=λy=>(by unfold Tx.dropX Tx.freeX Tx.setX;lia);rw[this,K,K];rfl
  have L:(movX s i j n e.1 b o).rows=(movT s i j e.1 b o).rows:=by unfold movX movY;split<;>rfl
  rw[L,H];exact hs.rows
end
def wrtB (D Dt:List Int) (p:Nat):List Int:=(List.range (max D.length (p+Dt.length))).map λq=>if p<=q/\q<p+Dt.length then Dt.getD (q-p) 0 else D.getD q 0
theorem S6 (old Dt) (p k) (f:old.length=64):∀n,n<=64->(mN old Dt p k n).length=64/\∀r,r<64->(mN old Dt p k n)[r]?=if r<n/\p<=64*k+r/\64*k+r<p+Dt.length then some (Dt.getD (64*k+r-p) 0) else old[r]?
 | 0,_=>⟨f,λr _=>by rfl⟩
 | n+1,e=>by
  let⟨c,b⟩:=S6 old Dt p k f n (by lia);unfold mN;grind
theorem Yk (h:∀(r:Nat) (v),l[r]?=some v->0<=v/\v<=255):qC l:=λx b=>have⟨r,a⟩:=Mq.1 b;h r x a
theorem XR (h:qC l) (q):0<=l.getD q 0/\l.getD q 0<=255:=by
 rw[zt];cases a:l[q]? with
 | none=>simp
 | some v=>exact h v (wQ a)
theorem XV {old:List Int} (p k) (e:old.length=64) (f:qC old) (g:qC Dt):qC (mN old Dt p k 64):=by
 let⟨d,b⟩:=S6 old Dt p k e 64 zL;refine Yk λr v a=>?_;have c:r<64:=by
  grind
 rw[b r c]at a;split at a
 .injection a with a;rw[<-a];exact XR g _
 .exact f v (wQ a)
section
variable {x : Tx} {s : Fs} {n c i : Nat} {A : Nat->AN} {T : List Nat} {δ : Nat->Int}
theorem TV.byte (h:TV x s n T A) (f:TO s) (e:i<32) (q:Nat) (g:q<(A i).s):(A i).D[q]?=(blk x s i (q / 64))[q%64]? :=by have a:=h.at e;have d:=VH (h.ti.nd i e);have c:=a.2.2.2.2.1;rw[<-a.2.2.2.2.2.2.2,Zy _ _ e,Ms (by lia),mg (λb=>(h.ti.blk_ok f e b).1) _ _ (by lia)]
theorem TV.byteD (h:TV x s n T A) (e:TO s) (d:i<32) (q):(blk x s i (q / 64))[q%64]?=some ((A i).D.getD q 0):=by
 have b:=h.len e d;have c:=(h.ti.blk_ok e d (q / 64)).1;by_cases a:(q:Int)<(A i).s
 .rw[<-h.byte e d q a,zt,zk (by lia)];rfl
 .rw[h.z i d (q / 64) (q%64) (by lia) (by rw[(h.at d).2.2.2.2.1];lia),zt,yW (by lia)];rfl
theorem IP (h:TI z s T) (e:TO s) (d:i<32) (g:(D.length)=(z.nodes.getD i zN).s) (f:∀q,q<D.length->(blk z s i (q / 64))[q%64]?=D[q]?):z.dirD s i=D:=by
 have c:=VH (h.nd i d);rw[Zy _ _ d];apply wV;intro q;by_cases a:q<D.length
 .rw[Ms (by lia),mg (λb=>(h.blk_ok e d b).1) _ _ (by lia),f q a]
 grind
theorem TI.writes (h:TI z s T) (E:TO s) (C:i<32) (F:i∈T) (G:qC Dt) (p k0) (x0):∀j,k0+j<=(z.nodes.getD i zN).P.length->TI (z.uw i (wrtU s x0 Dt p k0 (z.uy i) j)) s T /\
 (∀i' b',i'<32->blk (z.uw i (wrtU s x0 Dt p k0 (z.uy i) j)) s i' b'=if i'=i/\k0<=b'/\b'<k0+j then mN (blk z s i b') Dt p b' 64 else blk z s i' b')/\(wrtU s x0 Dt p k0 (z.uy i) j).P.length=(z.nodes.getD i zN).P.length /\
 z.fake<=(z.uw i (wrtU s x0 Dt p k0 (z.uy i) j)).fake/\(z.uw i (wrtU s x0 Dt p k0 (z.uy i) j)).fake<=z.fake+j/\(z.uw i (wrtU s x0 Dt p k0 (z.uy i) j)).put.length<=z.put.length+j
 | 0,_=>by rw[wrtU,QT z i h.len C];exact⟨h,λi' b' _=>by lia,rfl,Mr _,by lia,zL⟩
 | j+1,B=>by
  let⟨x,f,n,q,o,w⟩:=h.writes E C F G p k0 x0 j (by lia);have A:=fld8 (h.nd i C);have e:sc {x0.wow (wrtU s x0 Dt p k0 (z.uy i) j).ow with put:=(wrtU s x0 Dt p k0 (z.uy i) j).put} s (wrtU s x0 Dt p k0 (z.uy i) j).P (k0+j)=blk z s i (k0+j):=by have d:=f i (k0+j) C;rw[zb (by lia)]at d;rw[<-d];rw[sc,blk,uY,LN _ _ _ h.len,ze C,ze rfl];rfl
  have c:=h.blk_ok E C (k0+j);let⟨k,u,y,v,l,m,r⟩:=x.wr h.len C F (by lia) (b:=k0+j) (by lia) (D:=mN (blk z s i (k0+j)) Dt p (k0+j) 64) ⟨(S6 _ Dt p _ c.1 64 zL).1,XV p _ c.1 c.2 G⟩;rw[wrtU,e];have t:(wrtU s x0 Dt p k0 (z.uy i) j).ow.fk<=z.fake+j:=o;have g:(wrtU s x0 Dt p k0 (z.uy i) j).put.length<=z.put.length+j:=w;refine⟨k,λi' b' a=>(u i' b' a).trans ?_,r.trans n,uP q v,uP l (by lia),zv m (by lia)⟩;grind
theorem Cv (i) (f:i<32) (g:s.nodes.length=32) (p) (Dt):
 wrtT s i (s.nodes.getD i zN) p Dt=((tx0 s).cutX i (max (s.nodes.getD i zN).P.length ((p+Dt.length+63) / 64)) (max (s.nodes.getD i zN).s ((p+Dt.length:Nat)))).uw i
  (wrtU s (tx0 s) Dt p (p / 64) (((tx0 s).cutX i (max (s.nodes.getD i zN).P.length ((p+Dt.length+63) / 64)) (max (s.nodes.getD i zN).s ((p+Dt.length:Nat)))).uy i) ((p+Dt.length-1) / 64+1-p / 64)):=by
 have b:(s.nodes.getD i zN).P.take (max (s.nodes.getD i zN).P.length ((p+Dt.length+63) / 64))=(s.nodes.getD i zN).P:=zo (by lia);have e:(s.nodes.getD i zN).P.drop (max (s.nodes.getD i zN).P.length ((p+Dt.length+63) / 64))=[]:=yG (by lia);have c:max (s.nodes.getD i zN).P.length ((p+Dt.length+63) / 64)-(s.nodes.getD i zN).P.length=(p+Dt.length+63) / 64-(s.nodes.getD i zN).P.length:=by lia
 have d:((tx0 s).cutX i (max (s.nodes.getD i zN).P.length ((p+Dt.length+63) / 64)) (max (s.nodes.getD i zN).s ((p+Dt.length:Nat)))).uy i=⟨(tx0 s).ow,[],(s.nodes.getD i zN).P++List.replicate ((p+Dt.length+63) / 64-(s.nodes.getD i zN).P.length) 0⟩:=by unfold Tx.uy Tx.cutX;have a:(tx0 s).nodes=s.nodes:=rfl;simp only[a,sY,g,f,Mw,Mt,b,c];rfl
 rw[d];unfold wrtT wrtP wrtY Tx.uw Tx.cutX;have a:(tx0 s).nodes=s.nodes:=rfl;simp only[a,sY,g,f,Mw,Mt,MI,e,List.reverse_nil,yY];rfl
theorem SI.write (hs:SI s c A) (g:GI A λ_=>0) (hc:c<=1000) (hi:i<32) (hk:(A i).k=1) {p:Nat} (hp:p+Dt.length<=512) (h0:0<Dt.length) (hd:qC Dt):
 FP s i p Dt/\TV (wrtT s i (s.nodes.getD i zN) p Dt) s 8 [i] (upA A i {A i with s:=((wrtB (A i).D Dt p).length),D:=wrtB (A i).D Dt p})/\GI (upA A i {A i with s:=((wrtB (A i).D Dt p).length),D:=wrtB (A i).D Dt p}) λ_=>0:=by
 have e:=hs.tv [i];have F:s.nodes.length=32:=e.ti.len;have B:=(hs.A_at hi).2.2.2.2.1;have n:=VH (e.ti.nd i hi);have hD:=e.len hs.sec hi;have u:((s.nodes.getD i zN).P.length)=jy (s.nodes.getD i zN).s:=(e.fld hi (by lia)).2.2.2.2.2;have m:(wrtB (A i).D Dt p).length=max (A i).D.length (p+Dt.length):=by unfold wrtB;simp
 have Q:=e.ti.cutX hi (max (s.nodes.getD i zN).P.length ((p+Dt.length+63) / 64)) (max (s.nodes.getD i zN).s ((p+Dt.length:Nat):Int)) (by have h1:(s.nodes.getD i zN).s<=512:=n.2.1;lia) (by have h3:=B;unfold jy at u |-;lia) (e.ne hi (by lia));have J:((((tx0 s).cutX i (max (s.nodes.getD i zN).P.length ((p+Dt.length+63) / 64)) (max (s.nodes.getD i zN).s ((p+Dt.length:Nat)))).nodes.getD i zN).P).length=max (s.nodes.getD i zN).P.length ((p+Dt.length+63) / 64):=by unfold Tx.cutX;have X:(tx0 s).nodes=s.nodes:=rfl;grind
 have I:=Q.writes hs.sec hi (by simp) hd p (p / 64) (tx0 s) ((p+Dt.length-1) / 64+1-p / 64) (by lia);rw[J,<-Cv i hi F p Dt]at I;have f:∀j,(wrtT s i (s.nodes.getD i zN) p Dt).nodes.getD j zN=if j=i then wrtP s (s.nodes.getD i zN) p Dt else s.nodes.getD j zN:=λj=>by unfold wrtT;grind
 let⟨G,a2,a3,S,R,Z⟩:=I;have y:∀j b,j<32->blk ((tx0 s).cutX i (max (s.nodes.getD i zN).P.length ((p+Dt.length+63) / 64)) (max (s.nodes.getD i zN).s ((p+Dt.length:Nat)))) s j b=blk (tx0 s) s j b:=λj b d=>by
  unfold blk;rw[TG e.ti.len hi (max (s.nodes.getD i zN).P.length ((p+Dt.length+63) / 64)) (max (s.nodes.getD i zN).s ((p+Dt.length:Nat):Int))];simp only;split
  .rename_i hc;have:(tx0 s).pf j b=0:=(by unfold Tx.pf;rw[ze d,hc.1,zt,yW (by show (s.nodes.getD i zN).P.length<=b;lia)];rfl);rw[this];rfl
  .rfl
 have t:∀j b,j<32->∀r,r<64->(blk (wrtT s i (s.nodes.getD i zN) p Dt) s j b)[r]?=if j=i/\p<=64*b+r/\64*b+r<p+Dt.length then some (Dt.getD (64*b+r-p) 0) else (blk (tx0 s) s j b)[r]? :=λj b d r o=>by
  rw[a2 j b d];by_cases hc:j=i/\p / 64<=b/\b<p / 64+((p+Dt.length-1) / 64+1-p / 64)
  .rw[ze hc,y i b hi,(S6 _ Dt p b (e.ti.blk_ok hs.sec hi b).1 64 zL).2 r o,hc.1]
   grind
  grind
 have w:((wrtB (A i).D Dt p).length)=max (s.nodes.getD i zN).s ((p+Dt.length:Nat)):=by lia
 have H:TV (wrtT s i (s.nodes.getD i zN) p Dt) s 8 [i] (upA A i {A i with s:=((wrtB (A i).D Dt p).length),D:=wrtB (A i).D Dt p}):=by
  refine⟨G,⟨⟨?_,?_⟩,yh _,?_,zL⟩,λj d=>?_,λj d b r o h=>?_⟩
  .exact S
  .refine uP R ?_;show (256:Int)+(((p+Dt.length-1) / 64+1-p / 64:Nat):Int)<=256+((8:Nat):Int);lia
  .exact zv Z (by show 0+((p+Dt.length-1) / 64+1-p / 64)<=8;lia)
  .unfold upA;by_cases a:j=i
   .subst a;rw[ze rfl];have E:(wrtT s j (s.nodes.getD j zN) p Dt).dirD s j=wrtB (A j).D Dt p:=by
     refine IP G hs.sec d (by rwa[f,ze rfl]) λq h=>?_;rw[t j _ d _ (qf _ (by lia)),show 64*(q / 64)+q%64=q by lia,e.byteD hs.sec d q];unfold wrtB;rw[xE,uK (by rwa[m]at h)]
     grind
    unfold vw;rw[E,f,ze rfl,w];let⟨K,V,O,W,_,M,T,_⟩:=hs.A_at d;unfold wrtP;lia
   .rw[zb a,<-e.v j d];unfold vw;rw[SZ (x:=tx0 s) d (by rw[f,zb a];rfl) (by rw[f,zb a];rfl) λb=>by
     grind,f,zb a]
    rfl
  .rw[f]at h;rw[t j b d r o];by_cases a:j=i
   .rw[ze a]at h;have Y:max (s.nodes.getD i zN).s ((p+Dt.length:Nat))<=((64*b+r:Nat)):=h;rw[zb (by lia)];exact e.z j d b r o (by rw[a];show (s.nodes.getD i zN).s<=_;lia)
   .rw[zb a]at h;rw[zb (by lia)];exact e.z j d b r o h
 have gi:=(g.set hi {A i with s:=((wrtB (A i).D Dt p).length:Int),D:=wrtB (A i).D Dt p} (by lia) (by unfold kW;lia) (λL=>yi (hk.symm.trans L) (by decide)) (g.pos i hi (by lia)) (λh0=>by subst h0;exact yi (hk.symm.trans g.root) (by decide))).congr (δ':=λ_=>0) λj _=>by
  lia
 exact⟨⟨hs.pts hi,fld8 (e.ti.nd i hi),⟨n.1,n.2.1⟩,H.run hs hc (by lia) hs.rows⟩,H,gi⟩
end
theorem l8 (fp) (fo) (rv nv dv pv gv) (full) (fake) (g):((txR fp fo rv nv dv pv gv full fake).toList.take 1++(encF g).toList++(txR fp fo rv nv dv pv gv full fake).toList.drop (1+(encF g).size)).toArray=txR fp g rv nv dv pv gv full fake:=by
 apply yV;intro i;have c:(encF g).toList.length=192:=by simpa using vX g
 have a:(txR fp fo rv nv dv pv gv full fake).toList.length=200:=by simpa using qB fp fo rv nv dv pv gv full fake
 have f:∀j,(txR fp fo rv nv dv pv gv full fake).toList[j]?=(txR fp fo rv nv dv pv gv full fake)[j]? :=λj=>zK;rw[xw,vX];by_cases h:i<1
 .rw[zR,zV (by rw[Ni,a];lia),zI,ze h,f,mS _ _ _ _ _ _ _ _ _ _ (by lia),mS _ _ _ _ _ _ _ _ _ _ (by lia)];unfold K8;lia
 .by_cases d:i<193
  .have b:=uh g ((i-1) / 48) ((i-1)%48) (by lia) (by lia);rw[show (i-1) / 48*48+(i-1)%48=i-1 by lia]at b;rw[zR,zx (by grind),zV (by rw[Ni,a,c];lia),Ni,a,mS _ _ _ _ _ _ _ _ _ _ (by lia),zK,show min 1 200=1 by lia,b];rw[K8,zb (by lia),ze (by lia)]
  .rw[zR,zx (by rw[Ni,a];lia),zx (by rw[Ni,a,c];lia),yy,Ni,a,c,f];rw[show 1+192+(i-min 1 200-192)=i by lia];by_cases b:i<200
   .rw[mS _ _ _ _ _ _ _ _ _ _ b,mS _ _ _ _ _ _ _ _ _ _ b];unfold K8;lia
   .rw[zY (by grind),zY (by rw[qB];lia)]
def ZJ (s:Fs):(Int×Int)×Fs:=
 if (uQ s.fo).2.2=0 then (if endE s {tx0 s with fo:=(uQ s.fo).1}=0 then (((uQ s.fo).2.1),0) else (0,endE s {tx0 s with fo:=(uQ s.fo).1}),endS s {tx0 s with fo:=(uQ s.fo).1}) else ((0,(uQ s.fo).2.2),s)
theorem WF (h:FsAt w gf s F a) (aa:(uQ s.fo).2.2=0->P6 s {tx0 s with fo:=(uQ s.fo).1}):
 Calls prog 13 #[(gf,())] w
  (ρ (.tuple #[.int .i64 (ZJ s).1.1,.int .i64 (ZJ s).1.2]) λw'=>pW w gf (ZJ s).2 F a w'):=by
 have H:=za h;have al:=za (tH h);obtain⟨R0,D⟩:=zD (ZJ s);rw[D.o];obtain⟨⟨re,rb⟩,rs⟩:=R0;obtain⟨r,n,c,k⟩:∃f n c,Hid (uQ s.fo=(f,n,c)):=⟨_,_,_,rfl⟩;obtain⟨J,C⟩:∃z:Tx,Hid ({tx0 s with fo:=r}=z):=⟨_,za rfl⟩;have HM:Hid ((if c=0 then (if endE s J=0 then ((n:Int),0) else (0,endE s J),endS s J) else ((0,c),s))=((re,rb),rs)):=by show _=_;rw[<-D.o,<-C.o];unfold ZJ;rw[k.o]
 rw[k.o]at aa;have an:=za aa;obtain⟨A,HA⟩:=zA (encF s.fo);obtain⟨X,HX⟩:=zA (encF (uQ s.fo).1);have ab:=za (IV s.fo A X n c HA HX (za (by rw[k.o])) (za (by rw[k.o])));have ax:Hid (A.size=192):=by rw[HA.o];exact vX _
 have g:Hid (X.size=192):=by rw[HX.o];exact vX _
 have B:Hid (X.all (·.oneCell')=true):=by rw[HX.o];exact pS _
 obtain⟨t,V⟩:=zA (encF mR);have HZ:Hid (∀w,(zeroValue 85).run prog w=.ok (.agg t) w):=by rw[V.o];exact forZ
 have U:Hid (t.size=192):=by rw[V.o];exact vX _
 clear h aa;go_enter func13,ntmps13;go_wp2_with fail
 refine al.o.mono ?_;rintro e Y ⟨q,T,rfl,W,hT⟩;have O:=za W;have Q:=za hT;obtain⟨rv,gn,cn,gd,gp,gv,E,pl,hl⟩:=hT.lies;have aj:=za hl;obtain⟨R,Z⟩:=zD (txR (gf,()) s.fo rv (.slice (some ⟨gn,0,none⟩) 32 cn) (.map (some gd)) (.map (some gp)) gv false 256);have v:Hid (Y.heap[q]?=some (.cells R 92)):=by show _=_;rw[<-Z.o];exact hl.row
 have ao:Hid (∀j,j<A.size->R[1+j]?=A[j]?):=by rw[HA.o,<-Z.o];exact PC _ _ _ _ _ _ _ _ _
 have af:Hid (R.size=200):=by rw[<-Z.o];exact qB _ _ _ _ _ _ _ _ _
 obtain⟨y,L⟩:=zD (txR (gf,()) r rv (.slice (some ⟨gn,0,none⟩) 32 cn) (.map (some gd)) (.map (some gp)) gv false 256);have aq:Hid ((R.toList.take 1++X.toList++R.toList.drop (1+X.size)).toArray=y):=by rw[<-Z.o,HX.o,k.o,<-L.o];exact l8 _ _ _ _ _ _ _ _ _ _
 clear W hT hl;go_wp2_with (refine uU (by kernel_rfl) 85 (.tmp 14) rfl q 1 rfl 92 R A (0,0) _ v.o ao.o forT rfl (by rw[ax.o];exact forI) ?_)
 refine (ab.o Y).mono ?_;rintro e u ⟨rfl,m⟩;have aC:=za m;have b:Hid (Below Y Y ((u.alloc (.cells t 85)).setRow u X)):=xd (m.alloc m.size _) m.size _;have N:Hid (((u.alloc (.cells t 85)).setRow u X).heap[u.heap.size]?=some (.cells X 85)):=ya _ _ _ _ _ _ (zH);clear m;by_cases I:c=0;case neg=>
  have b0:(c==0)=false:=by simpa using I
  have b1:(c != 0)=true:=by simpa using I
  have d:=HM.o;rw[zb I]at d;injection d with d h2;injection d with d G;subst d h2 G;clear I;go_wp2_with (first
   | (refine uo rfl 85 rfl t HZ.o ?_)
   | (refine Nl rfl 85 (.tmp 5) (.tmp 17) rfl u X rfl rfl 85 t (zH) (by rw[g.o];exact forI) (by rw[U.o,g.o]) B.o ?_))
  go_ret2;exact⟨rfl,pW.same H.o (zi O.o b.o)⟩
 subst I;have x:=za (an.o rfl);rw[C.o]at x;obtain⟨K,M⟩:=zD (endE s J);have av:Hid (((if K=0 then ((n:Int),0) else (0,K)),endS s J)=((re,rb),rs)):=by have d:=HM.o;rw[ze rfl,M.o]at d;exact d
 go_upto_region 5 with (first
  | (refine uo rfl 85 rfl t HZ.o ?_)
  | (refine Nl rfl 85 (.tmp 5) (.tmp 17) rfl u X rfl rfl 85 t (zH) (by rw[g.o];exact forI) (by rw[U.o,g.o]) B.o ?_))
 obtain⟨g5,ae⟩:=zD u.heap.size;rw[ae.o]at b N |-;generalize (u.alloc (.cells t 85)).setRow g5 X=w3 at *
 have p:=za (xV b.o v.o)
 go_upto_region 6 with (first
  | (refine yI rfl 85 (.tmp 5) rfl g5 rfl 85 X (0,0) _ N.o forT rfl (by rw[g.o];exact forI) ?_)
  | (refine rT rfl 85 (.tmp 26) (.tmp 24) rfl q 1 X rfl rfl 92 R y p.o (by rw[g.o];exact forI) (by rw[g.o,af.o];omega) B.o aq.o ?_))
 have l:(w3.setRow q y).heap[q]?=some (.cells y 92):=ya _ _ _ _ _ _ p.o;have hd:=(aj.o.below b.o).putHas (Q.o.below b.o) r (yK.setRow (F:=λi=>i=q) rfl y) (show (w3.setRow q y).heap[q]?=some (.cells (txR (gf,()) r rv (.slice (some ⟨gn,0,none⟩) 32 cn) (.map (some gd)) (.map (some gp)) gv false 256) 92) by rw[L.o];exact l);have ak:=za (hd.old (zi O.o b.o) (Q.o.below b.o));obtain⟨T4,t4,_⟩:=hd;have P:=za (kP H.o ak.o (by rw[<-C.o];exact t4) x.o);rw[M.o]at P;generalize w3.setRow q y=w4 at *
 clear l t4;go_wp2_with fail
 refine P.o.mono ?_;rintro e w5 ⟨rfl,h5⟩;have H5:=za h5;clear h5;have d:=av.o;injection d with d h2;subst h2;by_cases S:K=0
 .subst S;rw[ze rfl]at d;injection d with d G;subst d G;go_wp2;go_ret2;exact⟨rfl,H5.o⟩
 .have b0:(K==0)=false:=by simpa using S
  have b1:(K != 0)=true:=by simpa using S
  rw[zb S]at d;injection d with d G;subst d G;clear S;go_wp2;go_ret2;exact⟨rfl,H5.o⟩
theorem DP (f) (k) (u:1<=k) (r:k<4) (A Z0) (t:Hid (A=encF f)) (q:Hid (Z0=encF mR)) (s:Hid (uB f k=false)) (w):
 Calls prog 52 #[.agg A,(k:Int)] w (κ w (.tuple #[.agg Z0,(4:Int)])):=by
 have l:decide ((k:Int)<1)=false:=zJ (by omega);have d:Hid (A.size=192):=by rw[t.o];exact vX f
 have j:Hid (∀w,(zeroValue 85).run prog w=.ok (.agg Z0) w):=by rw[q.o];exact forZ
 have m:Hid (prog.built 85 []=some Z0):=by rw[q.o];exact forB
 have c:Hid (Z0.size=192):=by rw[q.o];exact vX _
 have i:Hid (Z0.all (·.oneCell')=true):=by rw[q.o];exact pS _
 have h:Hid (∀(W),Calls prog 47 #[.agg A,k] W (κ W (.bool false))):=λW=>by rw[t.o,<-s.o];exact RG f k W r
 go_enter func52,ntmps52
 go_wp2_with (first
  | (refine uo rfl 85 rfl Z0 j.o ?_)
  | (refine ZO (by kernel_rfl) 85 (.tmp 2) rfl w rfl 85 A (0,0) _ (wW w _ _) forT rfl (by rw[d.o];exact forI) ?_))
 refine (h.o _).mono ?_;rintro e n ⟨rfl,a⟩;have b:=za (xV a (wh w _ _));have g:=zi ((zB.alloc zL _).alloc (by simp) _) a;clear a;have p:=j.o;go_wp2_with (first
  | (refine Nl rfl 85 (.tmp 4) (.tmp 14) rfl (w.heap.size+1) Z0 rfl rfl 85 Z0 b.o (by rw[c.o];exact forI) rfl i.o ?_))
 refine yE (kQ rfl _ _ (w.heap.size+1) 85 Z0 (0,0) _ (.int .i64 4) rfl rfl (ya _ _ _ _ _ _ b.o) forT rfl (by rw[c.o];exact forI)) rfl ⟨rfl,?_⟩;exact xd g (by omega) _
def je (s:Fs) (k:Nat):Int×Fs:=if uB s.fo k=true then (endE s {tx0 s with fo:=delT s.fo k},endS s {tx0 s with fo:=delT s.fo k}) else (4,s)
theorem hR (h:FsAt w gf s F a) (k) (ad:1<=k) (ae:k<4) (ai:uB s.fo k=true->P6 s {tx0 s with fo:=delT s.fo k}):
 Calls prog 19 #[(gf,()),(k:Int)] w
  (ρ (.int .i64 (je s k).1) λw'=>pW w gf (je s k).2 F a w'):=by
 have H:=za h;obtain⟨M,u⟩:=zD (je s k);rw[u.o];obtain⟨re,rs⟩:=M;have ag:=za ai;obtain⟨A,O⟩:=zA (encF s.fo);obtain⟨g,n⟩:=zA (encF mR);obtain⟨X,c,S,hc⟩:∃X c,Hid (X=if uB s.fo k=true then encF (delT s.fo k) else g)/\Hid (c=if uB s.fo k=true then (0:Int) else 4):=⟨_,_,rfl,rfl⟩;have aa:Hid (∀W,Calls prog 52 #[.agg A,k] W (κ W (.tuple #[.agg X,(c:Int)]))):=λW=>by
  rw[S.o,hc.out];by_cases b:uB s.fo k=true
  .rw[ze b,ze b,O.o];exact DQ s.fo k ad ae b W
  .rw[zb b,zb b];exact DP s.fo k ad ae A g O n (za (by simpa using b)) W
 have av:Hid (A.size=192):=by rw[O.o];exact vX _
 have B:Hid (g.size=192):=by rw[n.o];exact vX _
 have d:Hid (X.size=192):=by rw[S.o];split;exact vX _;exact B.o
 have v:Hid (X.all (·.oneCell')=true):=by rw[S.o];split;exact pS _;rw[n.o];exact pS _
 have HZ:Hid (∀w,(zeroValue 85).run prog w=.ok (.agg g) w):=by rw[n.o];exact forZ
 obtain⟨⟨gl,rv,nv,bt,bh,E,tl,FD,h1,_⟩,_⟩:=h;obtain⟨R,HR⟩:=zD (fsR a (gl,()) s.fo rv nv (.map (some bt)) (.map (some bh)));have ah:Hid (∀j,j<A.size->R[2+j]?=A[j]?):=by rw[O.o,<-HR.o];exact Tr _ _ _ _ _ _ _
 rw[HR.o]at h1;have J:=za h1;clear h1 ai;go_enter func19,ntmps19;go_wp2_with (refine uU (by kernel_rfl) 85 (.tmp 11) rfl gf 2 rfl 97 R A (0,0) _ J.o ah.o forT rfl (by rw[av.o];exact forI) ?_)
 refine (aa.o w).mono ?_;rintro e p ⟨rfl,l⟩;have m:Hid (Below w w ((p.alloc (.cells g 85)).setRow p X)):=xd (l.alloc l.size _) l.size _;have K:Hid (((p.alloc (.cells g 85)).setRow p X).heap[p.heap.size]?=some (.cells X 85)):=ya _ _ _ _ _ _ (zH);clear l;by_cases b:uB s.fo k=true;case neg=>
  have x:=u.o;unfold je at x;rw[zb b]at x;injection x with m1 m2;subst m1 m2;obtain rfl:c=4:=by rw[hc.out,zb b]
  clear b;go_wp2_with (first
   | (refine uo rfl 85 rfl g HZ.o ?_)
   | (refine Nl rfl 85 (.tmp 5) (.tmp 15) rfl p X rfl rfl 85 g (zH) (by rw[d.o];exact forI) (by rw[B.o,d.o]) v.o ?_))
  go_ret;exact⟨rfl,pW.same H.o m.o⟩
 obtain rfl:c=0:=by rw[hc.out,ze b]
 have ap:Hid (X=encF (delT s.fo k)):=by show _=_;rw[S.o,ze b]
 have r:=za (ag.o b);obtain⟨XT,y⟩:∃z:Tx,Hid ({tx0 s with fo:=delT s.fo k}=z):=⟨_,za rfl⟩;rw[y.o]at r;have x:=u.o;unfold je at x;rw[ze b,y.o]at x;injection x with m1 m2;subst m1 m2;clear b
 go_upto_region 4 with (first
  | (refine uo rfl 85 rfl g HZ.o ?_)
  | (refine Nl rfl 85 (.tmp 5) (.tmp 15) rfl p X rfl rfl 85 g (zH) (by rw[d.o];exact forI) (by rw[B.o,d.o]) v.o ?_))
 obtain⟨g5,Y⟩:=zD p.heap.size;rw[Y.o]at m K |-;generalize (p.alloc (.cells g 85)).setRow g5 X=w3 at *
 have L:=za (H.o.below m.o);have af:=za (tH L.o);go_wp2_with fail
 refine af.o.mono ?_;rintro e P ⟨q,T,rfl,D,hT⟩;have ao:=za D;have N:=za hT;obtain⟨t,gn,cn,V,gp,gv,E4,pl,hl⟩:=hT.lies;have ab:=za hl;obtain⟨Q,U⟩:=zD (txR (gf,()) s.fo t (.slice (some ⟨gn,0,none⟩) 32 cn) (.map (some V)) (.map (some gp)) gv false 256);have I:Hid (P.heap[q]?=some (.cells Q 92)):=by show _=_;rw[<-U.o];exact hl.row
 have aw:Hid (Q.size=200):=by rw[<-U.o];exact qB _ _ _ _ _ _ _ _ _
 obtain⟨C,G⟩:=zD (txR (gf,()) (delT s.fo k) t (.slice (some ⟨gn,0,none⟩) 32 cn) (.map (some V)) (.map (some gp)) gv false 256);have aj:Hid ((Q.toList.take 1++X.toList++Q.toList.drop (1+X.size)).toArray=C):=by rw[<-U.o,ap.o,<-G.o];exact l8 _ _ _ _ _ _ _ _ _ _
 have Z:=za (xV D K.o);clear D hT hl
 go_upto_region 6 with (first
  | (refine yI rfl 85 (.tmp 5) rfl g5 rfl 85 X (0,0) _ Z.o forT rfl (by rw[d.o];exact forI) ?_)
  | (refine rT rfl 85 (.tmp 25) (.tmp 23) rfl q 1 X rfl rfl 92 Q C I.o (by rw[d.o];exact forI) (by rw[d.o,aw.o];omega) v.o aj.o ?_))
 have f:(P.setRow q C).heap[q]?=some (.cells C 92):=ya _ _ _ _ _ _ I.o;have hd:=ab.o.putHas N.o (delT s.fo k) (yK.setRow (F:=λi=>i=q) rfl C) (show (P.setRow q C).heap[q]?=some (.cells (txR (gf,()) (delT s.fo k) t (.slice (some ⟨gn,0,none⟩) 32 cn) (.map (some V)) (.map (some gp)) gv false 256) 92) by rw[G.o];exact f);have ac:=za (hd.old ao.o N.o);obtain⟨T5,t5,_⟩:=hd;have al:=za (kP L.o ac.o (by rw[<-y.o];exact t5) r.o);generalize P.setRow q C=w5 at *
 clear f t5;go_wp2_with fail
 refine al.o.mono ?_;rintro e w6 ⟨rfl,h6⟩;have H6:=za (h6.after m.o);clear h6;go_wp2;go_ret;exact⟨rfl,H6.o⟩
theorem Ki (fp) (fo) (rv nv dv pv gv) (full) (fake) (u):(txR fp fo rv nv dv pv gv full fake).setIfInBounds 193 u=txR fp fo u nv dv pv gv full fake:=by
 rw[Eo _ _ _ _ _ _ _ _ _ 193 (by lia) u (by lia)];rfl
theorem mV.putRows {w':World} {B:Nat} {T:Nat->Prop} {gt:Nat} {fp:Value} {x:Tx} {rv:Value} {gn cn gd gp:Nat} {gv:Value} {E:List Nd} {pl:List (Int×Value)} (h:mV w B F T gt fp x rv gn cn gd gp gv E pl) (n:TxAt w B F gt fp x T) (rv') (l) (p:l.length<=20)
 (o:yK (λi=>i=gt) w w') (q:w'.heap[gt]?=some (.cells (txR fp x.fo rv' (.slice (some ⟨gn,0,none⟩) 32 cn) (.map (some gd)) (.map (some gp)) gv x.full x.fake) 92)) (r:Out (λi=>F i\/T i) w' (λw2=>uq w2 rv' 2 l.length (qP l))):sZ B F gt fp {x with rows:=l} T w w':=by
 have d:yK T w w':=o.mono λi _ c=>by rw[c];exact n.self
 have e:∀b,b<w.heap.size->b≠gt->w'.heap[b]?=w.heap[b]? :=λb k j=>o.block b k j;refine⟨T,mV.at (x:={x with rows:=l}) (rv:=rv') (gn:=gn) (cn:=cn) (gd:=gd) (gp:=gp) (gv:=gv) (E:=E) (pl:=pl) ⟨q,r,?_,iA h.nds d (λ_ c=>zu c),?_,?_,?_,h.ne,?_,h.tn,h.td,h.tp,h.tg⟩ n.self n.len (λi c=>zr (n.fin i c) o.size) n.new n.gone n.put n.dirty p n.fake,λ_ c=>zu c,d,λ_ c=>c⟩
 .exact vE h.own λb a=>e b (h.own.lt b a).2 (tK h.own h.row (by decide) b a)
 .exact h.dirt.of_block (e gd h.dirt.lt (yA (xM h.row h.dirt)))
 .exact h.puts.of_block (e gp h.puts.lt (yA (xM h.row h.puts)))
 .exact h.secs.keep λg m _ f=>e g (xB f) (ve f h.row (by decide))
 .exact vE h.gone λb a=>e b (h.gone.lt b a).2 (tK h.gone h.row (by decide) b a)
def rO (s:Fs) (u lim:Int):Int×Fs:=if PV s.rows u lim=true then (6,s) else (endE s {tx0 s with rows:=setQ s.rows u lim},endS s {tx0 s with rows:=setQ s.rows u lim})
theorem UU (h:FsAt w gf s F a) (u lim) (hq:okQ s.rows=true) (hu:0<=u/\u<=255) (hm: -1<=lim/\lim<=256) (aa:PV s.rows u lim=false->(setQ s.rows u lim).length<=20/\P6 s {tx0 s with rows:=setQ s.rows u lim}):
 Calls prog 42 #[(gf,()),(u:Int),(lim:Int)] w
  (ρ (.int .i64 (rO s u lim).1) λw'=>pW w gf (rO s u lim).2 F a w'):=by
 have H:=za h;let⟨M,k⟩:=zD (rO s u lim);rw[k.o];let⟨re,rs⟩:=M;let⟨⟨gl,rv,nv,bt,bh,E,tl,FD,h1,h2,h3,h4,h5,O,h7,_⟩,_,_,_,_,_,_,A⟩:=h;let⟨_,_,ae,_,_,_⟩:=sW h1;go_enter func42,ntmps42;go_wp2_with fail
 refine (za (K9 rv s.rows u lim w h7.now A hq hu.1 hu.2 hm.1 hm.2)).o.mono ?_;rintro e w1 ⟨Z,Q,g⟩;have K:=za g;by_cases r:PV s.rows u lim=true
 .have he:=Z r;subst he;have m:=k.o;unfold rO at m;rw[ze r]at m;injection m with X m2;subst X m2;go_wp2;go_ret;exact⟨rfl,pW.same H K⟩
 have l:PV s.rows u lim=false:=by simpa using r
 obtain⟨v,rfl,P⟩:=Q l;let⟨t,y,R,_⟩:=rU P;subst R;obtain⟨XT,q⟩:∃z:Tx,Hid ({tx0 s with rows:=setQ s.rows u lim}=z):=⟨_,za rfl⟩;have m:=k.o;unfold rO at m;rw[zb r,q.o]at m;injection m with X m2;subst X m2;have d:=za ((za aa).o l);rw[q.o]at d;have N:=za P;have D:=za (H.o.below g);go_wp2_with fail
 refine (za (tH D)).o.mono ?_;rintro e G ⟨f,T,rfl,c,j⟩;have aw:=za c;have a0:=za j;let⟨aj,gn,cn,gd,gp,gv,E4,pl,x⟩:=j.lies;have am:=za x;have ac:=(nw x.row).2.1;have ad:G.frozen? (f,193)=false:=zF x.row;have n:yK (λi=>i=f) G (G.setCell (f,193) (.slice t (setQ s.rows u lim).length y)):=yK.setCell (F:=λi=>i=f) (p:=⟨f,193,none⟩) rfl _;have I:(G.setCell (f,193) (.slice t (setQ s.rows u lim).length y)).heap[f]?=some (.cells (txR (gf,()) (tx0 s).fo (.slice t (setQ s.rows u lim).length y) (.slice (some ⟨gn,0,none⟩) 32 cn) (.map (some gd)) (.map (some gp)) gv (tx0 s).full (tx0 s).fake) 92):=by rw[<-Ki];exact zT _ _ 193 _ _ _ x.row
 have B:Out (λi=>F i\/T i) (G.setCell (f,193) (.slice t (setQ s.rows u lim).length y)) (λw2=>uq w2 (.slice t (setQ s.rows u lim).length y) 2 (setQ s.rows u lim).length (qP (setQ s.rows u lim))):=by
  have ar:=j.new f j.self;refine Q3 (uq.of_owns (vE (tt N c) λb L=>n.block b (zr (N.o.lt b L).2 c.size) λhc=>?_)) λb L _ C=>?_
  .have:=(N.o.lt b L).2;lia
  .have h1:=N.o.lt b L;rcases C with C|C
   .have:=(za h.fin).o b C;lia
   .have:=j.new b C;lia
 have hd:=x.putRows j (.slice t (setQ s.rows u lim).length y) (setQ s.rows u lim) d.o.1 n I B;let⟨T5,t5,_⟩:=hd;have W:=za (kP D (za (hd.old c j)).o (by rwa[<-q.o]) d.o.2);clear n I B t5 c j x;go_wp2_with fail
 refine W.o.mono ?_;rintro e w6 ⟨rfl,O⟩;go_wp2;go_ret;exact⟨rfl,(za (O.after K)).o⟩
theorem Vm (w) (gb g6 g7) (k m u0 g0 s l up u g) (v) (E:w.heap[gb]?=some (.cells #[.int .i64 k,.int .i64 m,.int .i64 u0,.int .i64 g0,.int .i64 s,.int .i64 l,.int .i64 up,v] 102))
 (H:w.cell? ⟨g6,0,none⟩=some (.int .i64 u)) (I:w.cell? ⟨g7,0,none⟩=some (.int .i64 g)) (G:g6≠gb/\g7≠gb):
 Calls prog 94 #[.pointer (some ⟨gb,0,none⟩),.pointer (some ⟨g6,0,none⟩),.pointer (some ⟨g7,0,none⟩)] w
  (ρ (.tuple #[]) λw'=>yK (λi=>i=gb) w w'/\w'.heap[gb]?=some (.cells #[.int .i64 k,.int .i64 m,.int .i64 u,.int .i64 g,.int .i64 s,.int .i64 l,.int .i64 up,v] 102)):=by
 let⟨z,q,D,n,t,A,r,y⟩:=ug E;have x:w.frozen? (gb,2)=false:=zF E;have C:w.frozen? (gb,3)=false:=zF E;let⟨d,f⟩:=G;have j:¬gb=g6:=λh=>d h.symm;have B:¬gb=g7:=λh=>f h.symm;go_enter func94,ntmps94
 go_region
 all_goals
  go_wp2;refine⟨rfl,.tuple #[],(by simp[results,results94,go_sem]),?_⟩;have a:=NL (xW ((w.setCell (gb,2) (.int .i64 u)).setCell (gb,3) (.int .i64 g)).heap.size ((w.setCell (gb,2) (.int .i64 u)).setCell (gb,3) (.int .i64 g))) 1;exact⟨rfl,((yK.setCell (F:=λi=>i=gb) (p:=⟨gb,2,none⟩) rfl _).step (yK.setCell (F:=λi=>i=gb) (p:=⟨gb,3,none⟩) rfl _)).step (yK.of_below a),xV a (zT _ _ 3 _ _ _ (zT _ _ 2 _ _ _ (za E).o))⟩
def chgP (N:Pn) (u g:Int):Pn:={N with u:=u,g:=g}
def ownM (s:Fs) (i:Nat) (u g:Int):Int×Fs:=
 let N:=s.nodes.getD i zN
 if N.k=0 then (4,s) else (endE s ((tx0 s).setX i (chgP N u g)),endS s ((tx0 s).setX i (chgP N u g)))
theorem Xo (h:FsAt w gf s F a) (i) (hi:i<32) (g6 g7) (u g) (h6:w.cell? ⟨g6,0,none⟩=some (.int .i64 u)) (h7:w.cell? ⟨g7,0,none⟩=some (.int .i64 g)) (al:g6<w.heap.size/\g7<w.heap.size)
 (aa:(s.nodes.getD i zN).k≠0->P6 s ((tx0 s).setX i (chgP (s.nodes.getD i zN) u g))):
 Calls prog 93 #[(gf,()),(i+1:Int),.func (.func 94) #[] #[.pointer (some ⟨g6,0,none⟩),.pointer (some ⟨g7,0,none⟩)]] w
  (ρ (.int .i64 (ownM s i u g).1) λw'=>pW w gf (ownM s i u g).2 F a w'):=by
 have H:=za h;obtain⟨X,HN⟩:=zD (s.nodes.getD i zN);have v:s.nodes[i]?=some X:=by rw[<-HN.o];exact ju (by rw[h.len];exact hi)
 have r:=za (sU h i hi X v);unfold ownM;rw[HN.o]at aa |-;by_cases z:X.k=0
 .rw[ze z];rw[show decide (X.k≠0)=false by simp[z]]at r;clear h h6 h7 aa v z;go_enter func93,ntmps93;go_wp2_with fail
  refine r.o.mono ?_;rintro e B ⟨rfl,rfl⟩;go_wp2;go_ret;exact⟨rfl,pW.same H.o zB⟩
 rw[zb z];rw[show decide (X.k≠0)=true by simp[z]]at r;have y:=za (aa z);have Z:=za (tH h);have af:=za (λ(W:World) (U:Nat) (T:Nat->Prop) (J:TxAt W w F U (gf,()) (tx0 s) T)=>kN J i hi X v);have aj:=za h.fin;obtain⟨XT,P⟩:=zD ((tx0 s).setX i (chgP X u g));rw[P.o]at y |-;have V:=za h6;have H7:=za h7;have j:=za al;clear h h6 h7 aa v z al;go_enter func93,ntmps93;go_wp2_with fail
 refine r.o.mono ?_;rintro e B ⟨rfl,rfl⟩;go_wp2_with fail
 refine Z.o.mono ?_;rintro e B ⟨U,T,rfl,S,J⟩;have b:=za S;have ag:=za J;have G:=za (af.o B U T J);clear S J;go_wp2_with fail
 refine G.o.mono ?_;rintro e A ⟨q,n,c,rfl,D,N⟩;have d:=za N;have Y:=za D;clear N D;obtain⟨gb,t⟩:=zD A.heap.size;have O:Hid (B.heap.size<=gb):=by show _;rw[<-t.o];exact d.o.size
 have E:Hid (Below B B (A.alloc (.cells #[X.k,X.m,X.u,X.g,X.s,X.l,X.up,(q,n,c)] 102))):=d.o.alloc d.o.size _;have ab:Hid ((A.alloc (.cells #[X.k,X.m,X.u,X.g,X.s,X.l,X.up,(q,n,c)] 102)).heap[gb]?=some (.cells #[X.k,X.m,X.u,X.g,X.s,X.l,X.up,(q,n,c)] 102)):=by rw[<-t.o];exact zH
 have x:Hid (Below A A (A.alloc (.cells #[X.k,X.m,X.u,X.g,X.s,X.l,X.up,(q,n,c)] 102))):=zB.alloc zL _;have ax:=b.o.size;have R:=((b.o.trans (E.o.mono b.o.size)).cell (p:=⟨g6,0,none⟩) j.o.1).trans V.o;have M:=((b.o.trans (E.o.mono b.o.size)).cell (p:=⟨g7,0,none⟩) j.o.2).trans H7.o;have ae:=za (Vm _ gb g6 g7 X.k X.m X.u X.g X.s X.l X.up u g (q,n,c) ab.o R M ⟨by have:=O.o;have:=j.o.1;omega,by have:=O.o;have:=j.o.2;omega⟩);clear R M
 go_upto_region 5 with fail
 rw[t.o];generalize A.alloc (.cells #[X.k,X.m,X.u,X.g,X.s,X.l,X.up,(q,n,c)] 102)=w3 at *
 go_wp2_with fail
 refine ae.o.mono ?_;rintro e w4 ⟨rfl,L,C⟩;have f:=za (x.o.trans (L.to_below (λi hi=>by rw[hi];exact wZ t.o) x.o.size));have Q:Hid (TxAt w4 w F U (gf,()) (tx0 s) T):=(ag.o.below d.o).below f.o;have I:Hid (TQ (λi=>F i\/T i) (chgP X u g) w4 q n c):=Y.o.below f.o;have K:=za (b.o.trans ((zi d.o f.o).mono b.o.size));have ad:=za (Zi Q.o i hi (chgP X u g) q n c I.o (by show (0:Nat)<900;omega));obtain⟨r0,r1,r2,r3,r4,r5,r6,r7⟩:=ug C;clear L C;go_wp2_with fail
 refine ad.o.mono ?_;rintro e w5 ⟨rfl,d5⟩;have ah:=za (d5.old K.o Q.o);obtain⟨T5,t5,_⟩:=d5;have ac:=za (kP H.o ah.o (by rw[<-P.o];exact t5) y.o);clear t5 r0 r1 r2 r3 r4 r5 r6 r7;go_wp2_with fail
 refine ac.o.mono ?_;rintro e w6 ⟨rfl,h6⟩;have V:=za h6;clear h6;go_wp2;go_ret;exact⟨rfl,V.o⟩
theorem Xp (w) (v):
 Calls prog 93 #[(gf,()),(),v] w (λe w'=>e=.returned (4:Int)/\w=w'):=by
 go_enter func93,ntmps93;go_wp2_with fail
 refine (za (Pp (gf,()) w)).o.mono ?_;rintro e b ⟨rfl,rfl⟩;go_wp2;go_ret;simp
theorem RM (w:World) (u g):((w.alloc (.cells #[.int .i64 u] 3)).alloc (.cells #[.int .i64 g] 3)).cell? (w.heap.size,0)=some (.int .i64 u)/\((w.alloc (.cells #[.int .i64 u] 3)).alloc (.cells #[.int .i64 g] 3)).cell? (w.heap.size+1,0)=some (.int .i64 g):=
 ⟨by simp,by simp⟩
theorem UV (h:FsAt w gf s F a) (i) (z:i<32) (u g) (x:0<=u/\u<=255) (y:0<=g/\g<=255)
 (v:(s.nodes.getD i zN).k≠0->P6 s ((tx0 s).setX i (chgP (s.nodes.getD i zN) u g))):
 Calls prog 41 #[(gf,()),(i+1:Int),(u:Int),(g:Int)] w
  (ρ (.int .i64 (ownM s i u g).1) λw'=>pW w gf (ownM s i u g).2 F a w'):=by
 have m:Hid (Below w w ((w.alloc (.cells #[u] 3)).alloc (.cells #[g] 3))):=(zB.alloc zL _).alloc (by simp) _;let⟨c,j⟩:=RM w u g;have l:=za (Xo (h.below m) i z w (w.heap.size+1) u g c j ⟨by simp;lia,by simp⟩ v);obtain⟨M,f⟩:∃M,ownM s i u g=M:=⟨_,rfl⟩;rw[f]at l |-;let⟨r,p⟩:=M;go_enter func41,ntmps41;go_wp2_with fail
 refine ((za (jL u g x y)).o _).mono ?_;rintro e q ⟨rfl,rfl⟩;go_wp2_with fail
 refine l.o.mono ?_;rintro e t ⟨rfl,d⟩;go_wp2;go_ret;exact⟨rfl,(za (d.after m)).o⟩
theorem UW (w) (u g) (j:0<=u/\u<=255) (k:0<=g/\g<=255):
 Calls prog 41 #[(gf,()),(),(u:Int),(g:Int)] w (κ w (4:Int)):=by
 have f:Hid (Below w w ((w.alloc (.cells #[u] 3)).alloc (.cells #[g] 3))):=(zB.alloc zL _).alloc (by simp) _;let⟨b,c⟩:=RM w u g;go_enter func41,ntmps41;go_wp2_with fail
 refine ((za (jL u g j k)).o _).mono ?_;rintro e h ⟨rfl,rfl⟩;go_wp2_with fail
 refine ((za (λv=>Xp (gf:=gf) ((w.alloc (.cells #[u] 3)).alloc (.cells #[g] 3)) v)).o _).mono ?_;rintro e i ⟨rfl,rfl⟩;go_wp2;go_ret;exact⟨rfl,f⟩
