import Derived.Test.YtakfhadmokoikaaGreatDoorKA40
import Derived.Test.YtakfhadmokoikaaGreatDoorKA42
set_option maxHeartbeats 0
set_option linter.all false
set_option maxRecDepth 100000
namespace Go.Proofs.YtakfhadmokoikaaGreatDoor
open Go.Proofs.Tryz Go.RowKit
variable {F:Nat->Prop} {X:Pn} {a:Addr} {b:List Int} {e:En} {gf j:Nat} {gg k m u:Int} {s:Fs} {w:World}
theorem LP (D:List Int) (n:Nat) (name:ByteArray) (s:n<=32) (r:oa ((ino n 0).map (rdE D))):∀(f q k:Nat),f+k=7->FInv D n name q k ->
 (∃e∈(ino n 0).map (rdE D),e.1=name/\(qb D n name f q k).1=e.2/\(qb D n name f q k).2.2=0)\/((∀e∈(ino n 0).map (rdE D),e.1≠name)/\(qb D n name f q k).1=0/\(qb D n name f q k).2.2=4)
 | 0,q,k,g,h=>zu ⟨h.none (by have p:=h.pow;have l:k=7:=(by omega);subst l;omega),rfl,rfl⟩
 | f+1,q,k,g,h=>by
  rw[qb];by_cases a:q<n
  .rw[ze a];by_cases b:cmpB name (rdE D q).1=0
   .rw[ze b];have m:name=(rdE D q).1:=by
     unfold cmpB at b;split at b
     .cases b
     .split at b
      .assumption
      .cases b
    obtain⟨e,i,c,d⟩:=h.found a m;exact zt ⟨e,i,c,d.symm,rfl⟩
   .rw[zb b];by_cases c:cmpB name (rdE D q).1<0
    .rw[ze c];have d:lexB name (rdE D q).1=true:=(by have:=Gf name (rdE D q).1;rw[yf c]at this;exact this.symm);exact LP D n name s r f _ _ (by omega) (h.left a r d)
    .rw[zb c];have d:lexB (rdE D q).1 name=true:=by
      have j:lexB name (rdE D q).1=false:=(by have:=Gf name (rdE D q).1;rw[zK c]at this;exact this.symm);cases o:lexB (rdE D q).1 name with
      | true=>rfl
      | false=>exact yb (by unfold cmpB;rw[zb (by rw[j];decide),ze (Zp j o)]) b
     exact LP D n name s r f _ _ (by omega) (h.right a r d)
  .rw[zb a];exact zu ⟨h.none (by omega),rfl,rfl⟩
theorem Oc {D:List Int} (h:sI D=true) (name:ByteArray):(∃e∈outD D,e.1=name/\(vz D name).1=e.2/\(vz D name).2.2=0)\/((∀e∈outD D,e.1≠name)/\(vz D name).1=0/\(vz D name).2.2=4):=by have a:=(ny D).1 h;exact LP D (D.length / 16) name (by omega) (lr h).1 7 0 0 rfl (FInv.start _ _ _)
section
variable {x : Tx} {s : Fs} {n c i : Nat} {A : Nat->AN} {T : List Nat} {δ : Nat->Int}
theorem Y9 {l:List En} (a:tW l=0):(layD l).length<=512/\ue (layD l):=⟨by have:=Zh a;have:=((rZ l).1 a).1;omega,Ov a⟩
theorem TV.ent (h:TV x s n T A) (g:GI A δ) (a:i<32) (c:i∈T) (b:(A i).k=2) (d:tC (A i).D e=0):
 TV (x.entX s i e) s (n+8) T (entA A i e):=by
 unfold Tx.entX;rw[(h.at a).2.2.2.2.2.2.2];exact h.fill a c (by rw[b];decide) (Y9 (VD (g.ok i a b) d))
theorem TV.lea (h:TV x s n T A) (g:GI A δ) (c:i<32) (f:i∈T) (d:(A i).k=2) (j:e∈outD (A i).D):
 TV (x.leaX s i e.1) s (n+8) T (leaA A i e.1):=by
 unfold Tx.leaX;rw[(h.at c).2.2.2.2.2.2.2];have b:hasE (A i).D e.1=true:=by unfold hasE;rw[xX];exact⟨e,j,by simp⟩
 rw[ze b];have a:=g.right c d;unfold uK at a;rw[ze d]at a;exact h.fill c f (by rw[d];decide) (Y9 (KE a _))
theorem TV.room (h:TV x s n T A) (f:n<=100):lK x:=by have a:=h.cap.fk;have b:=h.cap.g;have e:=h.cap.p;have c:=h.cap.d;exact⟨by omega,by omega,by omega,by omega,by omega⟩
theorem Wh (h:TI x s T) (d:ja s) (c:i<32):ue (x.dirD s i):=by rw[lP _ _ c];intro y a;obtain⟨b,_,a⟩:=wU.1 (xd a);exact (h.blk_ok d c b).2 y a
theorem oL (h:mj X):0<=X.s/\X.s<=512/\X.s<=64*(X.P.length:Int):=by
 rcases h with rfl|⟨_,b,a,_,_,c⟩
 .exact⟨by decide,by decide,by decide⟩
 .refine⟨b,a,?_⟩;rw[c];unfold tX;split<;>omega
theorem TV.dirT (h:TV x s n T A) (q:ja s) (r:64<=s.k) (t:n<=1000) (m:i<32) (o:sI (A i).D=true):DirT x s i (x.nodes.getD i zN) (x.dirD s i):=by
 have e:=h.ti.nd i m;have j:=h.ti.k256;have g:=h.cap.fk;have f:=oL e;have b:∀p∈(x.nodes.getD i zN).P,0<=p/\p<=x.fake/\(p<(s.k:Int)\/(getZ x.put p).isSome=true):=fun p b=>by
  have d:=h.ti.ptIn m b;by_cases l:256<p
  .rcases d with d|⟨d,c|c⟩
   .omega
   .omega
   .exact⟨by omega,c.2.1,zu c.2.2⟩
  .exact⟨by omega,by omega,zt (by omega)⟩
 refine⟨m,?_,fun p a=>?_,fun p a=>⟨(b p a).1,(b p a).2.1⟩,fld8 e,⟨f.1,f.2.2⟩,rfl,Wh h.ti q m,by rw[(h.at m).2.2.2.2.2.2.2];exact o⟩
 .rw[zh,zf (by rw[h.ti.len];exact m)];rfl
 .have:=b p a;exact⟨this.1,by omega,this.2.2⟩
theorem SI.pts (h:SI s c A) (e:i<32):ng (s.nodes.getD i zN).P s.k:=fun p a=>by have b:=(h.tv []).ti.ptIn (x:=tx0 s) e a;have d:(tx0 s).fake=256:=rfl;have:=h.k0;omega
theorem SI.dirS (h:SI s c A) (g:GI A δ) (m:i<32) (n:(A i).k=2):DirS s i (s.nodes.getD i zN) (dirB s i):=by
 have a:=h.tv [];have b:=a.at m;have e:=oL (a.ti.nd i m);have j:s.nodes.length=32:=a.ti.len;have d:dirB s i=(tx0 s).dirD s i:=rfl;refine⟨m,?_,b.1.trans n,?_,h.pts m,fld8 (a.ti.nd i m),⟨e.1,e.2.2⟩,rfl,by rw[d];exact Wh a.ti h.sec m,?_⟩
 .rw[zh,zf (by omega)];rfl
 .have f:(s.nodes.getD i zN).l=(A i).l:=b.2.2.2.2.2.1;rw[f];have:=g.pos i m (by rw[n];decide);omega
 .rw[d,b.2.2.2.2.2.2.2];exact g.ok i m n
theorem SI.A_at (h:SI s c A) (a:i<32):(s.nodes.getD i zN).k=(A i).k/\(s.nodes.getD i zN).m=(A i).m/\(s.nodes.getD i zN).u=(A i).u/\(s.nodes.getD i zN).g=(A i).g/\(s.nodes.getD i zN).s=(A i).s/\(s.nodes.getD i zN).l=(A i).l/\(s.nodes.getD i zN).up=(A i).up/\dirB s i=(A i).D:=(h.tv []).at a
theorem SI.dirsOk (h:SI s c A) (g:GI A δ):fW s:=⟨fun i a b=>h.dirS g a ((h.A_at a).1.symm.trans b),(h.A_at (by omega)).1.trans g.root⟩
end
theorem gG: outD []=[]:=by kernel_rfl
theorem Jr: sI []=true:=by kernel_rfl
def newA (k m u g:Int) (i:Nat) (b:List Int):AN:=⟨k,m,u,g,b.length,1,(newP k m u g i).up,b⟩
theorem Z1 (A:Nat->AN) (i:Nat) (a b:AN):upA (upA A i a) i b=upA A i b:=by funext j;unfold upA;split<;>rfl
theorem fH (A:Nat->AN) (i:Nat) (a:AN):upA A i a i=a:=ze rfl
theorem gJ (A:Nat->AN) {i:Nat} (a:AN) (h:j≠i):upA A i a j=A j:=zb h
section
variable {x : Tx} {s : Fs} {n c i : Nat} {A : Nat->AN} {T : List Nat} {δ : Nat->Int}
theorem TV.congr (h:TV x s n T A) {B:Nat->AN} (hB:∀j,j<32->A j=B j):TV x s n T B:=⟨h.ti,h.cap,fun j a=>(h.v j a).trans (hB j a),h.z⟩
theorem RK (h:mj X) (a:X.k=0):X=zN:=by
 rcases h with h|⟨h,_⟩
 .exact h
 .omega
theorem TV.zero (h:TV x s n T A) (a:i<32) (b:(A i).k=0):x.nodes.getD i zN=zN:=RK (h.ti.nd i a) ((h.at a).1.trans b)
theorem TV.pos (h:TV x s n T A) (a:i<32) (b:(A i).k≠0):mj (x.nodes.getD i zN)/\x.nodes.getD i zN≠zN:=⟨h.ti.nd i a,h.ne a b⟩
theorem SI.free (f:SI s c A) (h:qt s=some n):n<32/\(A n).k=0:=by
 unfold qt at h;obtain⟨d,b,_⟩:=xJ.1 h;have e:s.nodes.length=32:=(f.tv []).ti.len;have a:n<32:=by omega
 refine⟨a,?_⟩;rw[<-(f.A_at a).1,zh,zf d];simpa using b
theorem UZ {g:Int} (h:1<=k/\k<=3/\0<=m/\m<=511/\0<=u/\u<=255/\0<=g/\g<=255) (c:i<32):mj (newP k m u g i):=by refine zu ⟨⟨h.1,h.2.1,h.2.2.1,h.2.2.2.1,h.2.2.2.2.1,h.2.2.2.2.2.1,h.2.2.2.2.2.2.1,h.2.2.2.2.2.2.2,Int.zero_le_ofNat 1,(by show (1:Int)<=200;omega)⟩,wO 0,(by show (0:Int)<=512;omega),fun b=>?_,fun b=>zb b,rfl⟩;have a:k=2:=b;show 1<=(if k=2 then (i:Int)+1 else 0)/\(if k=2 then (i:Int)+1 else 0)<=32;rw[ze a];omega
theorem SI.new (w:SI s c A) (g:GI A fun _=>0) (x:i<32) (r:n<32) (v:(A n).k=0) (y:1<=k/\k<=3/\0<=m/\m<=511/\0<=u/\u<=255/\0<=gg/\gg<=255) (z:b.length<=512/\ue b) (t:k=2->b=[]):
 TV (addT s n (newP k m u gg i) b) s 16 [n,i] (upA A n (newA k m u gg i b))/\GI (upA A n (newA k m u gg i b)) (fun j=>if j=n then 1 else 0):=by
 have d:=w.tv [n,i];have l:=g.zer n r v;have h:=d.zero r v;have o:=d.set r (N:=newP k m u gg i) (by rw[h];rfl) (by rw[h];rfl) (UZ y x);have f:=o.fill r (by simp) (by rw[fH];show k≠0;omega) z;have q:(tx0 s).nodes.length=32:=d.ti.len;have e:((tx0 s).setX n (newP k m u gg i)).nodes.getD n zN=newP k m u gg i:=by unfold Tx.setX;rw[rp,ze ⟨rfl,by omega⟩]
 rw[e,Z1,fH]at f;refine⟨f,(g.set r (newA k m u gg i b) (by show k≠0;omega) ?_ (fun a=>⟨rfl,?_⟩) (by show (1:Int)<=1;omega) (fun p=>?_)).congr fun j _=>?_⟩
 .rw[l];unfold uK;split
  .rename_i a;rw[t a];exact gG
  .rfl
 .show sI b=true;rw[t a];exact Jr
 .subst p;rw[g.root]at v;cases v
 .rw[l];show (if j=n then (1:Int) else 0)=0+if j=n then 1-0 else 0
  split<;>omega
theorem GI.ne (g:GI A δ) (b:(A i).k=2) (a:(A n).k=0):i≠n:=by rintro rfl;rw[b]at a;cases a
theorem SI.add (w:SI s c A) (g:GI A fun _=>0) (C:c<=1000) (x:i<32) (y:(A i).k=2) (z:qt s=some n) (E:1<=k/\k<=3/\0<=m/\m<=511/\0<=u/\u<=255/\0<=gg/\gg<=255) (F:b.length<=512/\ue b) (B:k=2->b=[]) (name:ByteArray):
 pD s i n (newP k m u gg i) b name/\(addT s n (newP k m u gg i) b).dirD s i=(A i).D /\
  (tC (A i).D (name,(n:Int)+1)=0->TV ((addT s n (newP k m u gg i) b).entX s i (name,(n:Int)+1)) s 24 [n,i] (entA (upA A n (newA k m u gg i b)) i (name,(n:Int)+1))/\GI (entA (upA A n (newA k m u gg i b)) i (name,(n:Int)+1)) fun _=>0):=by
 obtain⟨v,r⟩:=w.free z;have l:=g.ne y r;obtain⟨t,o⟩:=w.new g x v r E F B (i:=i);have d:upA A n (newA k m u gg i b) i=A i:=gJ _ _ l;have a:(upA A n (newA k m u gg i b) i).k=2:=by rw[d];exact y
 have q:(addT s n (newP k m u gg i) b).dirD s i=(A i).D:=by rw[(t.at x).2.2.2.2.2.2.2,d]
 have h:tC (A i).D (name,(n:Int)+1)=0->TV ((addT s n (newP k m u gg i) b).entX s i (name,(n:Int)+1)) s 24 [n,i] (entA (upA A n (newA k m u gg i b)) i (name,(n:Int)+1))/\GI (entA (upA A n (newA k m u gg i b)) i (name,(n:Int)+1)) fun _=>0:=fun f=>by
  rw[<-d]at f;refine⟨t.ent o x (by simp) a f,(o.enter x a f ?_).congr fun j _=>?_⟩
  .have e:((name,(n:Int)+1).2-1:Int).toNat=n:=(by show ((n:Int)+1-1).toNat=n;omega);rw[e,fH];show k≠0;omega
  .show (0:Int)=(if j=n then 1 else 0)-if (j:Int)+1=(n:Int)+1 then 1 else 0
   by_cases p:j=n
   .rw[ze p,ze (by omega)];rfl
   .rw[zb p,zb (by omega)];rfl
 refine⟨⟨t.room (by omega),t.dirT w.sec w.k0 (by omega) x (o.ok i x a),fun f=>?_⟩,q,h⟩;rw[q]at f;exact (h f).1.run w C (by omega) w.rows
end
section
variable {x : Tx} {s : Fs} {n c i : Nat} {A : Nat->AN} {T : List Nat} {δ : Nat->Int}
theorem fld_ne (h:mj X) (a:X.k≠0):fldR X:=by
 rcases h with rfl|h
 .exact yb rfl a
 .exact h
theorem TV.fld (h:TV x s n T A) (a:i<32) (b:(A i).k≠0):fldR (x.nodes.getD i zN):=fld_ne (h.ti.nd i a) (by rw[(h.at a).1];exact b)
theorem TV.len (h:TV x s n T A) (d:ja s) (c:i<32):((A i).D.length:Int)=(A i).s:=by have a:=h.at c;rw[<-a.2.2.2.2.2.2.2,<-a.2.2.2.2.1,lP _ _ c,zi,VI fun b=>(h.ti.blk_ok d c b).1];have:=oL (h.ti.nd i c);omega
theorem Xl {a:AN} (h:(a.D.length:Int)=a.s) (c:¬(a.k=2/\0<a.s)):uK a=[]:=by
 unfold uK;split
 .rename_i b;have:a.D=[]:=yG.1 (by omega);rw[this];exact gG
 .rfl
theorem Oi {a:AN} (d:sI a.D=true) (f:e∈outD a.D):0<a.D.length:=by have b:=(lr d).2.2.1;have c:=rK f;omega
theorem GI.noRoot (g:GI A δ) (f:δ 0=0) (h:i<32) (j:e∈uK (A i)):e.2≠1:=fun c=>by have b:=Xu h j;rw[c]at b;have a:=g.cnt 0 (by omega);have d:=g.dir 0 (by omega) g.root;rw[ze rfl,f]at a;have:((0:Nat):Int)+1=1:=rfl;rw[this]at a;omega
theorem TV.drop (h:TV x s n T A) (g:GI A δ) {m:Nat} (I:m<32) (K:m≠0) (P:δ m=1) (J:(A m).k≠0) (M:(A m).k=2->uK (A m)=[]) (L:s.held=[]) (O:n<=100):
 fQ x s m/\TV (x.dropX s m) s (n+16) T (kX A m)/\GI (kX A m) (fun j=>δ j-if j=m then 1 else 0):=by
 have i:=h.at I;have b:=h.fld I J;have H:=g.pos m I J;have y:(x.nodes.getD m zN).l<=200:=b.1.2.2.2.2.2.2.2.2.2;have G:mj (oO (x.nodes.getD m zN)):=zu ⟨⟨b.1.1,b.1.2.1,b.1.2.2.1,b.1.2.2.2.1,b.1.2.2.2.2.1,b.1.2.2.2.2.2.1,b.1.2.2.2.2.2.2.1,b.1.2.2.2.2.2.2.2.1,(by show 0<=(x.nodes.getD m zN).l-1;omega),(by show (x.nodes.getD m zN).l-1<=200;omega)⟩,b.2⟩;have o:=h.set I (N:=oO (x.nodes.getD m zN)) rfl rfl G;have F:(⟨(oO (x.nodes.getD m zN)).k,(oO (x.nodes.getD m zN)).m,(oO (x.nodes.getD m zN)).u,(oO (x.nodes.getD m zN)).g,(oO (x.nodes.getD m zN)).s,(oO (x.nodes.getD m zN)).l,(oO (x.nodes.getD m zN)).up,(A m).D⟩:AN)={A m with l:=(A m).l-1}:=by obtain⟨r,C,w,E,t,v,B,_⟩:=i;unfold oO;simp only;rw[r,C,w,E,t,v,B]
 rw[F]at o;have z:(x.setX m (oO (x.nodes.getD m zN))).nodes.getD m zN=oO (x.nodes.getD m zN):=by unfold Tx.setX;rw[rp,ze ⟨rfl,by rw[h.ti.len];exact I⟩]
 have c:fQ x s m:=by have:=h.room O;exact⟨I,by omega,fld8 (h.ti.nd m I),by rw[L];simp[getZ],this.g,this.d⟩
 refine⟨c,?_⟩;unfold kX;by_cases f:(A m).l=1
 .rw[ze f];refine⟨?_,?_⟩
  .have q:=o.free I (by rw[fH];show (A m).l-1=0;omega) L;rw[z,Z1]at q;exact q
  .refine (g.gone I K (by omega) ?_).congr fun j _=>(by rw[f]);by_cases a:(A m).k=2
   .exact M a
   .unfold uK;rw[zb a]
 .rw[zb f];refine⟨?_,?_⟩
  .have p:x.dropX s m=x.setX m (oO (x.nodes.getD m zN)):=(by unfold Tx.dropX Tx.freeX;rw[ze (zt (by show 0<(x.nodes.getD m zN).l-1;omega))]);rw[p];exact o.mono (by omega)
  .have a:(A m).k≠2:=fun e=>f (g.dir m I e);refine (g.set I {A m with l:=(A m).l-1} J ?_ (fun e=>yb e a) (by show 1<=(A m).l-1;omega) (fun e=>yb e K)).congr fun j _=>?_
   .unfold uK;rw[zb a]
   .show δ j-(if j=m then 1 else 0)=δ j+if j=m then (A m).l-1-(A m).l else 0
    split<;>omega
theorem SI.unlink (B:SI s c A) (g:GI A fun _=>0) (F:c<=1000) (z:i<32) (y:(A i).k=2) (E:e∈outD (A i).D) (G:(n:Int)+1=e.2) (C:¬((A n).k=2/\0<(A n).s)):
 mW s i n e.1/\TV (((tx0 s).leaX s i e.1).dropX s n) s 24 [i] (kX (leaA A i e.1) n)/\GI (kX (leaA A i e.1) n) (fun _=>0):=by
 have h:=B.tv [i];have b:e∈uK (A i):=by unfold uK;rw[ze y];exact E
 have r:=g.to z b;have a:n<32:=by omega
 have u:=g.noRoot rfl z b;have f:(A n).k≠0:=by have:=g.ino i z e b;rw[show (e.2-1).toNat=n by omega]at this;exact this
 have l:n≠i:=by rintro rfl;have o:=Oi (g.ok n z y) E;have x:=h.len B.sec z;exact C ⟨y,by omega⟩
 have v:=h.lea g z (by simp) y E;have w:=g.leave z y E;have d:leaA A i e.1 n=A n:=gJ _ _ l;obtain⟨q,m,t⟩:=v.drop w a (by omega) (by rw[ze G];rfl) (by rw[d];exact f) (fun _=>by rw[d];exact Xl (h.len B.sec a) C) B.held (by omega);refine⟨⟨q,m.run B F (by omega) ?_⟩,m,t.congr fun j _=>?_⟩
 .have o:(((tx0 s).leaX s i e.1).dropX s n).rows=s.rows:=by unfold Tx.dropX Tx.freeX Tx.leaX Tx.setX Tx.fillX Tx.wow;split<;>split<;>rfl
  rw[o];exact B.rows
 .show (0:Int)=0+(if (j:Int)+1=e.2 then 1 else 0)-if j=n then 1 else 0
  by_cases p:j=n
  .rw[ze p,ze (by omega)];rfl
  .rw[zb p,zb (by omega)];rfl
theorem SI.link (Q:SI s c A) (g:GI A fun _=>0) (U:c<=1000) (S:i<32) (T:(A i).k=2) (R:n<32) (O:(A n).k≠0) (P:(A n).k≠2) (V:(A n).l≠200) (name:ByteArray):
 j6 s i n name/\((tx0 s).setX n (sy (s.nodes.getD n zN))).dirD s i=(A i).D/\(tC (A i).D (name,(n:Int)+1)=0->TV (((tx0 s).setX n (sy (s.nodes.getD n zN))).entX s i (name,(n:Int)+1)) s 16 [i] (entA (upA A n {A n with l:=(A n).l+1}) i (name,(n:Int)+1))/\GI (entA (upA A n {A n with l:=(A n).l+1}) i (name,(n:Int)+1)) fun _=>0):=by
 have r:=Q.tv [i];have q:=r.at R;have a:=r.fld R O;have J:mj (sy (s.nodes.getD n zN)):=by have M:(s.nodes.getD n zN).l=(A n).l:=q.2.2.2.2.2.1;exact zu ⟨⟨a.1.1,a.1.2.1,a.1.2.2.1,a.1.2.2.2.1,a.1.2.2.2.2.1,a.1.2.2.2.2.2.1,a.1.2.2.2.2.2.2.1,a.1.2.2.2.2.2.2.2.1,(by have:=a.1.2.2.2.2.2.2.2.2.1;show 0<=(s.nodes.getD n zN).l+1;have K:0<=(s.nodes.getD n zN).l:=this;omega),(by have K:(s.nodes.getD n zN).l<=200:=a.1.2.2.2.2.2.2.2.2.2;show (s.nodes.getD n zN).l+1<=200;omega)⟩,a.2⟩
 have o:=r.set R (N:=sy (s.nodes.getD n zN)) rfl rfl J;have L:(⟨(sy (s.nodes.getD n zN)).k,(sy (s.nodes.getD n zN)).m,(sy (s.nodes.getD n zN)).u,(sy (s.nodes.getD n zN)).g,(sy (s.nodes.getD n zN)).s,(sy (s.nodes.getD n zN)).l,(sy (s.nodes.getD n zN)).up,(A n).D⟩:AN)={A n with l:=(A n).l+1}:=by obtain⟨y,H,F,I,z,C,G,_⟩:=Q.A_at R;unfold sy;simp only;rw[y,H,F,I,z,C,G]
 rw[L]at o;have w:=g.pos n R O;have t:=g.set R {A n with l:=(A n).l+1} O (by unfold uK;rw[zb P]) (fun B=>yb B P) (by show 1<=(A n).l+1;omega) (fun E=>by subst E;exact yb g.root P);have p:i≠n:=by rintro rfl;exact P T
 have d:upA A n {A n with l:=(A n).l+1} i=A i:=gJ _ _ p;have b:(upA A n {A n with l:=(A n).l+1} i).k=2:=by rw[d];exact T
 have v:((tx0 s).setX n (sy (s.nodes.getD n zN))).dirD s i=(A i).D:=by rw[(o.at S).2.2.2.2.2.2.2,d]
 have h:tC (A i).D (name,(n:Int)+1)=0->TV (((tx0 s).setX n (sy (s.nodes.getD n zN))).entX s i (name,(n:Int)+1)) s 16 [i] (entA (upA A n {A n with l:=(A n).l+1}) i (name,(n:Int)+1))/\GI (entA (upA A n {A n with l:=(A n).l+1}) i (name,(n:Int)+1)) fun _=>0:=fun f=>by
  rw[<-d]at f;refine⟨o.ent t S (by simp) b f,(t.enter S b f ?_).congr fun j _=>?_⟩
  .have e:((name,(n:Int)+1).2-1:Int).toNat=n:=(by show ((n:Int)+1-1).toNat=n;omega);rw[e,fH];exact O
  .show (0:Int)=0+(if j=n then (A n).l+1-(A n).l else 0)-if (j:Int)+1=(n:Int)+1 then 1 else 0
   by_cases x:j=n
   .rw[ze x,ze (by omega)];omega
   .rw[zb x,zb (by omega)];rfl
 refine⟨⟨o.dirT Q.sec Q.k0 (by omega) S (t.ok i S b),fun f=>?_⟩,v,h⟩;rw[v]at f;exact (h f).1.run Q U (by omega) Q.rows
end
def fT (s:Fs) (n:Int):Bool:=decide (1<=n)&&decide ((s.nodes.getD (n-1).toNat zN).k≠0)
def belN (s:Fs) (top:Int):Nat->Int->Bool
 | 0,_=>false
 | f+1,n=>if n=top then true else if n=1 then false else if fT s n=true then belN s top f (s.nodes.getD (n-1).toNat zN).up else false
theorem PW (h:FsAt w gf s F a) (n:Int) (f:0<=n/\n<=32):
 Calls prog 41 #[(gf,()),n] w (fun e w'=>e=.returned (.bool (fT s n))/\w=w'):=by
 by_cases c:n=0
 .subst c;exact VH _ w
 .obtain⟨i,rfl⟩:∃i:Nat,n=(i:Int)+1:=⟨(n-1).toNat,by omega⟩;have e:((i:Int)+1-1).toNat=i:=by omega
  have b:=gX h i (by omega) (s.nodes.getD i zN) (mu (by rw[h.len];omega));have d:fT s ((i:Int)+1)=decide ((s.nodes.getD i zN).k≠0):=by unfold fT;rw[e,yf (by omega:(1:Int)<=(i:Int)+1),uq]
  rw[d];exact b
theorem PY (h:FsAt w gf s F a) (ino aa:Int) (hi:0<=ino/\ino<=32) (ab:∀X∈s.nodes,0<=X.up/\X.up<=32):
 Calls prog 113 #[(gf,()),ino,aa] w (fun e w'=>e=.returned (.bool (belN s aa 32 ino))/\w=w'):=by
 have H:=Lib.hid h;have A:=Lib.hid ab;obtain⟨R,D⟩:=zD (belN s aa 32 ino);rw[D.o];clear h ab;go_enter func113,ntmps113;go_wp2;go_loopw [1,7] (fun x c wr=>∃(n:Int) (j:Nat),j<=32/\x=.int .i64 n/\c=.int .i64 j/\Hid (0<=n/\n<=32)/\Hid (wr=w)/\Hid (belN s aa (32-j) n=R)) (fun _ c _=>32-(intOf c).toNat);case atStart=>exact⟨ino,0,by omega,rfl,rfl,hi,rfl,D.o⟩
 case round=>
  obtain⟨n,j,hj,rfl,rfl,E,u,C⟩:=hrel;obtain rfl:wr=w:=u.o;by_cases L:j<32
  .have G:(j:Int)<32:=(by omega);have b:=C.o;rw[show 32-j=(32-(j+1))+1 by omega]at b;unfold belN at b;by_cases l:n=aa
   .rw[ze l]at b;subst b;have M:(n==aa)=true:=(by simp[l]);clear l;go_wp2;go_ret;simp
   rw[zb l]at b;have M:(n==aa)=false:=(by simpa using l);clear l;by_cases m:n=1
   .rw[ze m]at b;subst b m;go_wp2;go_ret;simp
   rw[zb m]at b;have b2:(n==1)=false:=(by simpa using m);have d:=Lib.hid (PW H.o n E.o);clear m;cases k:fT s n with
   | false=>
    rw[k]at b d;rw[zb (by decide)]at b;subst b;go_wp2_with fail
    refine d.o.mono ?_;rintro e J ⟨rfl,rfl⟩;go_wp2;go_ret;simp
   | true=>
    rw[k]at b d;rw[ze rfl]at b;have r:1<=n:=by
     unfold fT at k;by_cases I:1<=n
     .exact I
     .rw[zK I]at k;cases k
    obtain⟨i,z⟩:∃i:Nat,n=(i:Int)+1:=⟨(n-1).toNat,by omega⟩;have f:i<32:=(by have:=E.o;omega);have e:(n-1).toNat=i:=(by omega);rw[e]at b;obtain⟨N,p⟩:=zD (s.nodes.getD i zN);rw[p.o]at b;have g:s.nodes[i]?=some N:=(by rw[<-p.o];exact mu (by rw[H.o.len];exact f));have v:=A.o N (xK g);obtain⟨gn,on,cn,yq,Z,yc,B,S,K,U,Q,V,W,O,P,_⟩:=oU H.o i f N g;have i1:IntKind.i64.wrap (n-1)=(i:Int):=(by rw[zQ _ (by omega)];omega);have q:(i:Int)<32:=(by omega);obtain⟨y,Y⟩:=zD N.up;rw[Y.o]at b v P;have T:=Lib.hid v;have t:=Lib.hid b;clear b v e K U Q V W O g k z r;go_wp2_with fail
    refine d.o.mono ?_;rintro e J ⟨rfl,rfl⟩;go_wp2;go_roundw;case rel=>exact⟨y,j+1,by omega,rfl,by go_num,T,Lib.hid trivial,t⟩
    case measure=>simp[intOf];omega
  .obtain rfl:j=32:=(by omega);have b:false=R:=C.o;subst b;go_wp2;go_ret;simp
theorem idx2_0 (x y:Value) (W:World):(Instr.index 190 (.agg #[x,y]) (.int .i64 0)).run prog W=.ok x W:=by kernel_rfl
theorem idx2_1 (x y:Value) (W:World):(Instr.index 190 (.agg #[x,y]) (.int .i64 1)).run prog W=.ok y W:=by kernel_rfl
def movO (E:List Int) (b:ByteArray):Option Nat:=if (vz E b).2.2=0 then some ((vz E b).1-1).toNat else none
def movE (s:Fs) (j n:Nat):Option Nat->Int
 | none=>if (s.nodes.getD n zN).k=2/\belN s ((n:Int)+1) 32 ((j:Int)+1)=true then 14 else 0
 | some m=>if (s.nodes.getD m zN).k=2↔(s.nodes.getD n zN).k=2 then (if (s.nodes.getD n zN).k=2/\0<(s.nodes.getD m zN).s then 13 else if (s.nodes.getD n zN).k=2/\belN s ((n:Int)+1) 32 ((j:Int)+1)=true then 14 else 0) else 12
def movT (s:Fs) (i j:Nat) (a b:ByteArray):Option Nat->Tx
 | none=>(tx0 s).leaX s i a
 | some m=>(((tx0 s).leaX s i a).leaX s j b).dropX s m
def upP (N:Pn) (j:Nat):Pn:={N with up:=(j:Int)+1}
def movY (s:Fs) (i j n:Nat) (a b:ByteArray) (o:Option Nat):Tx:=(movT s i j a b o).entX s j (b,(n:Int)+1)
def movX (s:Fs) (i j n:Nat) (a b:ByteArray) (o:Option Nat):Tx:=if (s.nodes.getD n zN).k=2 then (movY s i j n a b o).setX n (upP ((movY s i j n a b o).nodes.getD n zN) j) else movY s i j n a b o
def movR (s:Fs) (i j n:Nat) (a b:ByteArray) (o:Option Nat):Int×Fs:=
 if o=some n then (0,s) else if movE s j n o≠0 then (movE s j n o,s) else
 if tC ((movT s i j a b o).dirD s j) (b,(n:Int)+1)≠0 then (tC ((movT s i j a b o).dirD s j) (b,(n:Int)+1),s) else (endE s (movX s i j n a b o),endS s (movX s i j n a b o))
def movM (s:Fs) (i j:Nat) (D E:List Int) (a b:ByteArray):Int×Fs:=
 if (vz D a).2.2=0 then movR s i j ((vz D a).1-1).toNat a b (movO E b) else ((vz D a).2.2,s)
structure kr (s:Fs) (i j n:Nat) (a b:ByteArray) (o:Option Nat):Prop where
 one:∀m,o=some m->lK ((tx0 s).leaX s i a)/\DirT ((tx0 s).leaX s i a) s j (((tx0 s).leaX s i a).nodes.getD j zN) (((tx0 s).leaX s i a).dirD s j)/\fQ (((tx0 s).leaX s i a).leaX s j b) s m
 room:lK (movT s i j a b o)
 dir:DirT (movT s i j a b o) s j ((movT s i j a b o).nodes.getD j zN) ((movT s i j a b o).dirD s j)
 run:tC ((movT s i j a b o).dirD s j) (b,(n:Int)+1)=0->(movY s i j n a b o).dirty.length<900/\rN s (movX s i j n a b o)
theorem Rx {ad:Addr} (h:FsAt w gf s F ad) (i:Nat) (X:Pn) (D:List Int) (hd:DirS s i X D) (j:Nat) (Y:Pn) (E:List Int) (he:DirS s j Y E) (a b:ByteArray) (ha:ru a=true) (hb:ru b=true) (an:∀X∈s.nodes,0<=X.up/\X.up<=32)
 (ao:(vz D a).2.2=0->movO E b≠some ((vz D a).1-1).toNat->movE s j ((vz D a).1-1).toNat (movO E b)=0->kr s i j ((vz D a).1-1).toNat a b (movO E b)):
 Calls prog 63 #[(gf,()),.int .i64 ((i:Int)+1),.string a,.int .i64 ((j:Int)+1),.string b] w
  (fun e w'=>e=.returned (.int .i64 (movM s i j D E a b).1)/\uk w gf (movM s i j D E a b).2 F ad w'):=by
 have H:=Lib.hid h;have aY:Hid (s.nodes.length=32):=h.len;have bQ:=Lib.hid (fun W=>gV a W);have bR:=Lib.hid (fun W=>gV b W);rw[ha]at bQ;rw[hb]at bR;have bZ:=Lib.hid (V7 h i hd.lt X hd.nd);rw[hd.k,zb (by omega),ze rfl]at bZ;have bT:=Lib.hid (V7 h j he.lt Y he.nd);rw[he.k,zb (by omega),ze rfl]at bT;have bW:=Lib.hid (WG h i X D hd a ha);have bS:Hid (∀W:World,Below w w W->Calls prog 57 #[(gf,()),.int .i64 ((j:Int)+1),.string b] W (fun e w'=>e=.returned (.tuple #[.int .i64 (vz E b).1,.int .i64 (vz E b).2.2])/\Below W W w')):=fun W hW=>WG (h.below hW) j Y E he b hb;have aH:=Lib.hid ao;have a5:Hid ((vz D a).2.2=0->1<=(vz D a).1/\(vz D a).1<=32):=Vu hd.ok;have a7:Hid ((vz E b).2.2=0->1<=(vz E b).1/\(vz E b).1<=32):=Vu he.ok;have bo:Hid ((vz D a).2.2=0\/(vz D a).2.2=4/\(vz D a).1=0):=gZ (D:=D) (n:=D.length / 16) (name:=a) 7 0 0;have bU:Hid ((vz E b).2.2=0\/(vz E b).2.2=4/\(vz E b).1=0):=gZ (D:=E) (n:=E.length / 16) (name:=b) 7 0 0;have aP:=Lib.hid (hd.tx h.k1);have hj:=he.lt;have aS:Hid (∀(W:World) (n:Int),Below w w W->Calls prog 113 #[(gf,()),.int .i64 ((j:Int)+1),n] W (fun e w'=>e=.returned (.bool (belN s n 32 ((j:Int)+1)))/\W=w')):=fun W n hW=>PY (h.below hW) ((j:Int)+1) n (by omega) an;obtain⟨gn,on,cn,yq,yn,yc,S,a9,f0,f1,f2,f3,f4,f5,_⟩:=oU h j hj Y he.nd;have dy:IntKind.i64.wrap ((j:Int)+1-1)=(j:Int):=by rw[zQ _ (by omega)];omega
 have cf:(j:Int)<32:=by omega
 have c3:(Y.l==0)=false:=by have:=he.l;simp;omega
 obtain⟨lY,c8⟩:=zD Y.l;rw[c8.o]at c3 f5;have bX:Hid (∀W:World,Below w w W->FsAt W gf s F ad):=fun W hW=>h.below hW;obtain⟨R,HR⟩:=zD (movM s i j D E a b);rw[HR.o];obtain⟨re,rs⟩:=R;obtain⟨⟨ri,rl,rr⟩,Hr⟩:∃r,Hid (vz D a=r):=⟨vz D a,Lib.hid rfl⟩;obtain⟨⟨qi,ql,qr⟩,Hq⟩:∃r,Hid (vz E b=r):=⟨vz E b,Lib.hid rfl⟩;have HM:Hid ((if rr=0 then movR s i j (ri-1).toNat a b (if qr=0 then some (qi-1).toNat else none) else (rr,s))=(re,rs)):=by show _=_;rw[<-HR.o];unfold movM movO;rw[Hr.o,Hq.o]
 unfold movO at aH;rw[Hr.o,Hq.o]at aH;rw[Hr.o]at bW a5 bo;rw[Hq.o]at bS a7 bU;have t:Hid (∀(e:Int) (W:World),Below w w W->((e,s):Int×Fs)=(re,rs)->e=re/\uk w gf rs F ad W):=fun e W hW he=>by injection he with d h2;exact⟨d,by rw[<-h2];exact uk.same H.o hW⟩
 clear h hd he ha hb an ao f0 f1 f2 f3 f4;go_enter func63,ntmps63;go_wp2_with fail
 refine (bQ.o w).mono ?_;rintro e w0 ⟨rfl,rfl⟩;go_wp2_with fail
 refine (bR.o w).mono ?_;rintro e w0 ⟨rfl,rfl⟩;go_wp2;go_loopw [33] (fun c wr=>∃k:Nat,k<=2/\c=.int .i64 k/\Hid (wr=w)) (fun c _=>2-(intOf c).toNat);case atStart=>exact⟨0,by omega,rfl,rfl⟩
 case round=>
  obtain⟨k,hk,rfl,cm⟩:=hrel;obtain rfl:w=wr:=cm.o.symm;by_cases cu:k<2
  .have ca:k=0\/k=1:=(by omega);have dr:=idx2_0;have dB:=idx2_1;rcases ca with rfl|rfl
   .go_wp2_with fail
    refine bZ.o.mono ?_;rintro e w1 ⟨rfl,rfl⟩;go_wp2;go_roundw;case rel=>exact⟨1,by omega,by go_num,Lib.hid trivial⟩
    case measure=>simp[intOf]
   .go_wp2_with fail
    refine bT.o.mono ?_;rintro e w1 ⟨rfl,rfl⟩;go_wp2;go_roundw;case rel=>exact⟨2,by omega,by go_num,Lib.hid trivial⟩
    case measure=>simp[intOf]
  .obtain rfl:k=2:=(by omega);clear hk cu;go_wp2_with fail
   refine bW.o.mono ?_;rintro e w1 ⟨rfl,bY⟩;have bs:=Lib.hid bY;clear bY S a9 f5;rcases bo.o with c9|⟨cD,df⟩;case inr=>
    obtain rfl:rr=4:=cD;have z:=Lib.hid (t.o 4 w1 bs.o (by have d:=HM.o;rw[zb (by decide)]at d;exact d));go_wp2;go_ret;exact⟨by rw[<-z.o.1];rfl,z.o.2⟩
   obtain rfl:rr=0:=c9;have bi:1<=ri:=(a5.o rfl).1;have bc:ri<=32:=(a5.o rfl).2;obtain⟨n,hn⟩:∃n:Nat,ri=(n:Int)+1:=⟨(ri-1).toNat,by omega⟩;have M:n<32:=(by omega);have bC:(ri-1).toNat=n:=(by omega);rw[ze rfl,bC]at HM;rw[bC]at aH;subst hn;have aj:=Lib.hid (aH.o rfl);obtain⟨N,HN⟩:=zD (s.nodes.getD n zN);have bP:s.nodes[n]?=some N:=(by rw[<-HN.o];exact mu (by rw[aY.o];exact M));have cB:=Lib.hid bP;have d3:IntKind.i64.wrap ((n:Int)+1-1)=(n:Int):=(by rw[zQ _ (by omega)];omega);have cG:(n:Int)<32:=(by omega);clear bP bC bi bc a5 bo aH;go_wp2_with fail
   refine (bS.o w1 bs.o).mono ?_;rintro e w2 ⟨rfl,bO⟩;have y:Hid (Below w w w2):=Below.step bs.o bO;clear bO;obtain⟨gn,on,cn,yq,yn,yc,S,a9,e0,_⟩:=oU (bX.o w2 y.o) n M N cB.o;rcases bU.o with c5|⟨cr,cY⟩;case inr=>
    obtain rfl:qr=4:=cr;rw[zb (by decide)]at HM aj;obtain⟨o,Ho⟩:∃o:Option Nat,Hid (none=o):=⟨_,Lib.hid rfl⟩;have ax:=Lib.hid (aj.o (by simp));have co:((0:Int)==(n:Int)+1)=false:=(by simp;omega);clear aj;by_cases L:N.k=2
    .have b0:(N.k==2)=true:=(by simp[L]);cases K:belN s ((n:Int)+1) 32 ((j:Int)+1) with
     | true=>
      have q:=Lib.hid (aS.o w2 ((n:Int)+1) y.o);rw[K]at q;have z:=Lib.hid (t.o 14 _ y.o (by have d:=HM.o;unfold movR movE at d;simp only[HN.o,L,K]at d;rw[zb (fun I=>by cases I)]at d;simpa using d));clear K L;go_wp2_with fail
      refine q.o.mono ?_;rintro e w5 ⟨rfl,rfl⟩;go_wp2;go_ret;exact⟨by rw[<-z.o.1];rfl,z.o.2⟩
     | false=>
      have q:=Lib.hid (aS.o w2 ((n:Int)+1) y.o);rw[K]at q;have Q:Hid (movE s j n none=0):=(by show _=_;unfold movE;simp only[HN.o,L,K];simp);have a2:Hid (movX s i j n a b none=(movY s i j n a b none).setX n (upP ((movY s i j n a b none).nodes.getD n zN) j)):=(by show _=_;unfold movX;rw[HN.o,ze L]);clear K L;go_wp2_with fail
      refine q.o.mono ?_;rintro e w5 ⟨rfl,rfl⟩;have v:=Lib.hid (ax.o Q.o);have p:=HM.o;unfold movR at p;rw[zb (fun I=>by cases I),Q.o,zb (fun I=>I rfl)]at p;have f:=Lib.hid (H.o.below y.o);have a0:=Lib.hid (oh f.o);obtain⟨qe,A⟩:=zD (tC ((movT s i j a b none).dirD s j) (b,(n:Int)+1));rw[A.o]at p;have ah:=Lib.hid p;clear p;go_wp2_with fail
      refine a0.o.mono ?_;rintro e w4 ⟨gt,T,rfl,ai,hT⟩;have aa:=Lib.hid ai;have HT:Hid (TxAt w4 w2 F gt (gf,()) (tx0 s) T):=hT;have a3:=Lib.hid (hH f.o aa.o HT.o Wx i aP.o.2.2 a);clear ai hT S a9 e0;go_wp2_with fail
      refine a3.o.mono ?_;rintro e w5 ⟨rfl,d5⟩;have G:=Lib.hid (d5.old aa.o HT.o);obtain⟨T5,t5,u5,v5,k5⟩:=d5;have V:=Lib.hid t5;clear t5 u5 v5 k5;have U:=Lib.hid (Zi f.o G.o V.o (fun r hr=>zm (f.o.fin r hr) G.o.size) v.o.room j _ _ v.o.dir (b,(n:Int)+1));rw[A.o]at U;go_wp2_with fail
      refine U.o.mono ?_;rintro e w8 ⟨rfl,d8⟩;have C:=Lib.hid (d8.old G.o V.o);by_cases hq:qe=0;case neg=>
       have b5:(qe==0)=false:=(by simpa using hq);have b6:(qe != 0)=true:=(by simpa using hq);have z:=Lib.hid (t.o qe w8 (y.o.trans (C.o.mono y.o.size)) (by have d:=ah.o;rw[ze hq]at d;exact d));clear d8 hq;go_wp2;go_ret;exact⟨by rw[<-z.o.1];rfl,z.o.2⟩
      subst hq;rw[ze rfl]at d8;have ag:Hid (re=endE s (movX s i j n a b none)/\rs=endS s (movX s i j n a b none)):=(by have d:=ah.o;rw[zb (fun I=>I rfl)]at d;injection d with d h2;exact⟨d.symm,h2.symm⟩);obtain⟨T8,t8,u8,v8,k8⟩:=d8;have J:Hid (TxAt w8 w2 F gt (gf,()) (movY s i j n a b none) T8):=t8;have ak:=Lib.hid (v.o.run A.o);clear t8 u8 v8 k8;obtain⟨P,HP⟩:=zD ((movY s i j n a b none).nodes.getD n zN);have be:=Lib.hid (mp J.o n M P (by rw[<-HP.o];exact mu (by rw[J.o.len];exact M)));go_wp2_with fail
      refine be.o.mono ?_;rintro e w9 ⟨pq,pn,pc,rfl,aA,am⟩;have c4:=Lib.hid am;have bx:=Lib.hid aA;obtain⟨gb,ay⟩:=zD w9.heap.size;have ba:Hid ((w9.alloc (.cells #[P.k,P.m,P.u,P.g,P.s,P.l,P.up,(pq,pn,pc)] 59)).heap[gb]?=some (.cells #[P.k,P.m,P.u,P.g,P.s,P.l,P.up,(pq,pn,pc)] 59)):=(by rw[<-ay.o];exact zH);have ab:Hid (Below w8 w8 (w9.alloc (.cells #[P.k,P.m,P.u,P.g,P.s,P.l,.int .i64 ((j:Int)+1),(pq,pn,pc)] 59))):=am.alloc am.size _;have aM:Hid (Below w9 w9 (w9.alloc (.cells #[P.k,P.m,P.u,P.g,P.s,P.l,.int .i64 ((j:Int)+1),(pq,pn,pc)] 59))):=zB.alloc zL _;have aB:Hid ((w9.alloc (.cells #[P.k,P.m,P.u,P.g,P.s,P.l,.int .i64 ((j:Int)+1),(pq,pn,pc)] 59)).heap[gb]?=some (.cells #[P.k,P.m,P.u,P.g,P.s,P.l,.int .i64 ((j:Int)+1),(pq,pn,pc)] 59)):=(by rw[<-ay.o];exact zH);have z6:(w9.alloc (.cells #[P.k,P.m,P.u,P.g,P.s,P.l,P.up,(pq,pn,pc)] 59)).frozen? (gb,6)=false:=zF ba.o;have bA:=Lib.hid (lI (J.o.below ab.o) n M (upP P j) pq pn pc (bx.o.below aM.o) ak.o.1);clear aA am
      go_upto_region 40 with fail
      rw[ay.o];generalize w9.alloc (.cells #[P.k,P.m,P.u,P.g,P.s,P.l,.int .i64 ((j:Int)+1),(pq,pn,pc)] 59)=cC at *
      obtain⟨r0,r1,r2,r3,r4,r5,r6,r7⟩:=uI aB.o;go_wp2_with fail
      refine bA.o.mono ?_;rintro e c7 ⟨rfl,aC⟩;have aO:=Lib.hid (aC.old (C.o.trans (ab.o.mono C.o.size)) (J.o.below ab.o));obtain⟨cH,aD,bw,bg,bt⟩:=aC;have HE:=Lib.hid (mq f.o aO.o (x:=movX s i j n a b none) (by rw[a2.o,HP.o];exact aD) ak.o.2);clear aD bw bg bt r0 r1 r2 r3 r4 r5 r6 r7;go_wp2_with fail
      refine HE.o.mono ?_;rintro e bD ⟨rfl,ac⟩;have Z:=Lib.hid (ac.after y.o);clear ac;go_wp2;go_ret;exact⟨by rw[ag.o.1];rfl,by rw[ag.o.2];exact Z.o⟩
    .have b0:(N.k==2)=false:=(by simpa using L);have Q:Hid (movE s j n none=0):=(by show _=_;unfold movE;rw[HN.o,zb (fun I=>L I.1)]);have a2:Hid (movX s i j n a b none=movY s i j n a b none):=(by show _=_;unfold movX;rw[HN.o,zb L]);clear L;have v:=Lib.hid (ax.o Q.o);have p:=HM.o;unfold movR at p;rw[zb (fun I=>by cases I),Q.o,zb (fun I=>I rfl)]at p;have f:=Lib.hid (H.o.below y.o);have a0:=Lib.hid (oh f.o);obtain⟨qe,A⟩:=zD (tC ((movT s i j a b none).dirD s j) (b,(n:Int)+1));rw[A.o]at p;have ah:=Lib.hid p;clear p;go_wp2_with fail
     refine a0.o.mono ?_;rintro e w4 ⟨gt,T,rfl,ai,hT⟩;have aa:=Lib.hid ai;have HT:Hid (TxAt w4 w2 F gt (gf,()) (tx0 s) T):=hT;have a3:=Lib.hid (hH f.o aa.o HT.o Wx i aP.o.2.2 a);clear ai hT S a9 e0;go_wp2_with fail
     refine a3.o.mono ?_;rintro e w5 ⟨rfl,d5⟩;have G:=Lib.hid (d5.old aa.o HT.o);obtain⟨T5,t5,u5,v5,k5⟩:=d5;have V:=Lib.hid t5;clear t5 u5 v5 k5;have U:=Lib.hid (Zi f.o G.o V.o (fun r hr=>zm (f.o.fin r hr) G.o.size) v.o.room j _ _ v.o.dir (b,(n:Int)+1));rw[A.o]at U;go_wp2_with fail
     refine U.o.mono ?_;rintro e w8 ⟨rfl,d8⟩;have C:=Lib.hid (d8.old G.o V.o);by_cases hq:qe=0;case neg=>
      have b5:(qe==0)=false:=(by simpa using hq);have b6:(qe != 0)=true:=(by simpa using hq);have z:=Lib.hid (t.o qe w8 (y.o.trans (C.o.mono y.o.size)) (by have d:=ah.o;rw[ze hq]at d;exact d));clear d8 hq;go_wp2;go_ret;exact⟨by rw[<-z.o.1];rfl,z.o.2⟩
     subst hq;rw[ze rfl]at d8;have ag:Hid (re=endE s (movX s i j n a b none)/\rs=endS s (movX s i j n a b none)):=(by have d:=ah.o;rw[zb (fun I=>I rfl)]at d;injection d with d h2;exact⟨d.symm,h2.symm⟩);obtain⟨T8,t8,u8,v8,k8⟩:=d8;have J:Hid (TxAt w8 w2 F gt (gf,()) (movY s i j n a b none) T8):=t8;have ak:=Lib.hid (v.o.run A.o);clear t8 u8 v8 k8;have HE:=Lib.hid (mq f.o C.o (x:=movX s i j n a b none) (by rw[a2.o];exact J.o) ak.o.2);go_wp2_with fail
     refine HE.o.mono ?_;rintro e bD ⟨rfl,ac⟩;have Z:=Lib.hid (ac.after y.o);clear ac;go_wp2;go_ret;exact⟨by rw[ag.o.1];rfl,by rw[ag.o.2];exact Z.o⟩
   obtain rfl:qr=0:=c5;have bi:1<=qi:=(a7.o rfl).1;have bc:qi<=32:=(a7.o rfl).2;obtain⟨m,hm⟩:∃m:Nat,qi=(m:Int)+1:=⟨(qi-1).toNat,by omega⟩;have aV:m<32:=(by omega);have bV:(qi-1).toNat=m:=(by omega);rw[ze rfl,bV]at HM aj;subst hm;clear bV bi bc a7;by_cases aQ:m=n
   .subst aQ;have z:=Lib.hid (t.o 0 w2 y.o (by have d:=HM.o;unfold movR at d;rw[ze rfl]at d;exact d));go_wp2;go_ret;exact⟨by rw[<-z.o.1];rfl,z.o.2⟩
   have ax:=Lib.hid (aj.o (fun I=>aQ (rS I)));have co:((m:Int)+1==(n:Int)+1)=false:=(by simp;omega);have dx:decide ((0:Int)<(m:Int)+1)=true:=yf (by omega);have dC:(0:Int)<(m:Int)+1:=(by omega);have aX:¬some m=some n:=fun I=>aQ (rS I);have a8:=Lib.hid aX;obtain⟨O,HO⟩:=zD (s.nodes.getD m zN);have bN:s.nodes[m]?=some O:=(by rw[<-HO.o];exact mu (by rw[aY.o];exact aV));have ci:=Lib.hid bN;have d1:IntKind.i64.wrap ((m:Int)+1-1)=(m:Int):=(by rw[zQ _ (by omega)];omega);have cN:(m:Int)<32:=(by omega);obtain⟨cO,cK,cA,oq,aw,oc,af,aZ,g0,g1,g2,g3,g4,g5,g6,g7,_⟩:=oU (bX.o w2 y.o) m aV O ci.o;have bf:cO=gn/\cK=on/\cA=cn:=(by rw[S]at af;injection af with af;injection af with e1 e2 e3;injection e1 with e1;injection e1 with e4 e5;exact⟨e4.symm,e5.symm,e3.symm⟩);obtain⟨rfl,rfl,rfl⟩:=bf;have B:Hid (Below w w (w2.alloc (.cells #[O.k,O.m,O.u,O.g,O.s,O.l,O.up,(oq,aw,oc)] 59))):=y.o.alloc y.o.size _;obtain⟨m0,m1,m2,m3,m4,m5,m6,m7⟩:=uI (zT w2 (.cells #[O.k,O.m,O.u,O.g,O.s,O.l,O.up,(oq,aw,oc)] 59));clear aj aQ aX bN af;by_cases L:N.k=2
   .have b0:(N.k==2)=true:=(by simp[L]);by_cases hO:O.k=2
    .have b1:(O.k==2)=true:=(by simp[hO]);by_cases hS:0<O.s
     .have b2:decide (0<O.s)=true:=yf hS;have z:=Lib.hid (t.o 13 _ B.o (by have d:=HM.o;unfold movR movE at d;simp only[HN.o,HO.o,L,hO,hS]at d;rw[zb a8.o]at d;simpa using d));clear L hO hS;go_wp2;go_ret;exact⟨by rw[<-z.o.1];rfl,z.o.2⟩
     have b2:decide (0<O.s)=false:=zK hS;cases K:belN s ((n:Int)+1) 32 ((j:Int)+1) with
     | true=>
      have q:=Lib.hid (aS.o (w2.alloc (.cells #[O.k,O.m,O.u,O.g,O.s,O.l,O.up,(oq,aw,oc)] 59)) ((n:Int)+1) B.o);rw[K]at q;have z:=Lib.hid (t.o 14 _ B.o (by have d:=HM.o;unfold movR movE at d;simp only[HN.o,L,K,HO.o,hO,hS]at d;rw[zb a8.o]at d;simpa using d));clear K L hO hS;go_wp2_with fail
      refine q.o.mono ?_;rintro e w5 ⟨rfl,rfl⟩;go_wp2;go_ret;exact⟨by rw[<-z.o.1];rfl,z.o.2⟩
     | false=>
      have q:=Lib.hid (aS.o (w2.alloc (.cells #[O.k,O.m,O.u,O.g,O.s,O.l,O.up,(oq,aw,oc)] 59)) ((n:Int)+1) B.o);rw[K]at q;have Q:Hid (movE s j n (some m)=0):=(by show _=_;unfold movE;simp only[HN.o,L,K,HO.o,hO,hS];simp);have a2:Hid (movX s i j n a b (some m)=(movY s i j n a b (some m)).setX n (upP ((movY s i j n a b (some m)).nodes.getD n zN) j)):=(by show _=_;unfold movX;rw[HN.o,ze L]);clear K L hO hS;go_wp2_with fail
      refine q.o.mono ?_;rintro e w5 ⟨rfl,rfl⟩;have v:=Lib.hid (ax.o Q.o);have p:=HM.o;unfold movR at p;rw[zb a8.o,Q.o,zb (fun I=>I rfl)]at p;have f:=Lib.hid (H.o.below B.o);have a0:=Lib.hid (oh f.o);obtain⟨qe,A⟩:=zD (tC ((movT s i j a b (some m)).dirD s j) (b,(n:Int)+1));rw[A.o]at p;have ah:=Lib.hid p;clear p;go_wp2_with fail
      refine a0.o.mono ?_;rintro e w4 ⟨gt,T,rfl,ai,hT⟩;have aa:=Lib.hid ai;have HT:Hid (TxAt w4 (w2.alloc (.cells #[O.k,O.m,O.u,O.g,O.s,O.l,O.up,(oq,aw,oc)] 59)).heap.size F gt (gf,()) (tx0 s) T):=hT;generalize w2.alloc (.cells #[O.k,O.m,O.u,O.g,O.s,O.l,O.up,(oq,aw,oc)] 59)=w3 at *
      have a3:=Lib.hid (hH f.o aa.o HT.o Wx i aP.o.2.2 a);clear ai hT S a9 e0 aZ g0 g1 g2 g3 g4 g5 g6 g7 m0 m1 m2 m3 m4 m5 m6 m7;go_wp2_with fail
      refine a3.o.mono ?_;rintro e w5 ⟨rfl,d5⟩;have G:=Lib.hid (d5.old aa.o HT.o);obtain⟨T5,t5,u5,v5,k5⟩:=d5;have V:=Lib.hid t5;clear t5 u5 v5 k5;obtain⟨o1,o2,o3⟩:=v.o.one m rfl;have bp:=Lib.hid (hH f.o G.o V.o o1 j o2 b);have b7:=Lib.hid o3;clear o1 o2 o3;go_wp2_with fail
      refine bp.o.mono ?_;rintro e w6 ⟨rfl,d6⟩;have aI:=Lib.hid (d6.old G.o V.o);obtain⟨T6,t6,u6,v6,k6⟩:=d6;have bv:=Lib.hid (hR f.o aI.o t6 m b7.o);have bB:=Lib.hid t6;clear t6 u6 v6 k6;go_wp2_with fail
      refine bv.o.mono ?_;rintro e w7 ⟨rfl,d7⟩;have az:=Lib.hid (d7.old aI.o bB.o);obtain⟨T7,t7,u7,v7,k7⟩:=d7;have aK:=Lib.hid t7;clear t7 u7 v7 k7;have U:=Lib.hid (Zi f.o az.o aK.o (fun r hr=>zm (f.o.fin r hr) az.o.size) v.o.room j _ _ v.o.dir (b,(n:Int)+1));rw[A.o]at U;go_wp2_with fail
      refine U.o.mono ?_;rintro e w8 ⟨rfl,d8⟩;have C:=Lib.hid (d8.old az.o aK.o);by_cases hq:qe=0;case neg=>
       have b5:(qe==0)=false:=(by simpa using hq);have b6:(qe != 0)=true:=(by simpa using hq);have z:=Lib.hid (t.o qe w8 (B.o.trans (C.o.mono B.o.size)) (by have d:=ah.o;rw[ze hq]at d;exact d));clear d8 hq;go_wp2;go_ret;exact⟨by rw[<-z.o.1];rfl,z.o.2⟩
      subst hq;rw[ze rfl]at d8;have ag:Hid (re=endE s (movX s i j n a b (some m))/\rs=endS s (movX s i j n a b (some m))):=(by have d:=ah.o;rw[zb (fun I=>I rfl)]at d;injection d with d h2;exact⟨d.symm,h2.symm⟩);obtain⟨T8,t8,u8,v8,k8⟩:=d8;have J:Hid (TxAt w8 w3 F gt (gf,()) (movY s i j n a b (some m)) T8):=t8;have ak:=Lib.hid (v.o.run A.o);clear t8 u8 v8 k8;obtain⟨P,HP⟩:=zD ((movY s i j n a b (some m)).nodes.getD n zN);have be:=Lib.hid (mp J.o n M P (by rw[<-HP.o];exact mu (by rw[J.o.len];exact M)));go_wp2_with fail
      refine be.o.mono ?_;rintro e w9 ⟨pq,pn,pc,rfl,aA,am⟩;have c4:=Lib.hid am;have bx:=Lib.hid aA;obtain⟨gb,ay⟩:=zD w9.heap.size;have ba:Hid ((w9.alloc (.cells #[P.k,P.m,P.u,P.g,P.s,P.l,P.up,(pq,pn,pc)] 59)).heap[gb]?=some (.cells #[P.k,P.m,P.u,P.g,P.s,P.l,P.up,(pq,pn,pc)] 59)):=(by rw[<-ay.o];exact zH);have ab:Hid (Below w8 w8 (w9.alloc (.cells #[P.k,P.m,P.u,P.g,P.s,P.l,.int .i64 ((j:Int)+1),(pq,pn,pc)] 59))):=am.alloc am.size _;have aM:Hid (Below w9 w9 (w9.alloc (.cells #[P.k,P.m,P.u,P.g,P.s,P.l,.int .i64 ((j:Int)+1),(pq,pn,pc)] 59))):=zB.alloc zL _;have aB:Hid ((w9.alloc (.cells #[P.k,P.m,P.u,P.g,P.s,P.l,.int .i64 ((j:Int)+1),(pq,pn,pc)] 59)).heap[gb]?=some (.cells #[P.k,P.m,P.u,P.g,P.s,P.l,.int .i64 ((j:Int)+1),(pq,pn,pc)] 59)):=(by rw[<-ay.o];exact zH);have z6:(w9.alloc (.cells #[P.k,P.m,P.u,P.g,P.s,P.l,P.up,(pq,pn,pc)] 59)).frozen? (gb,6)=false:=zF ba.o;have bA:=Lib.hid (lI (J.o.below ab.o) n M (upP P j) pq pn pc (bx.o.below aM.o) ak.o.1);clear aA am
      go_upto_region 40 with fail
      rw[ay.o];generalize w9.alloc (.cells #[P.k,P.m,P.u,P.g,P.s,P.l,.int .i64 ((j:Int)+1),(pq,pn,pc)] 59)=cC at *
      obtain⟨r0,r1,r2,r3,r4,r5,r6,r7⟩:=uI aB.o;go_wp2_with fail
      refine bA.o.mono ?_;rintro e c7 ⟨rfl,aC⟩;have aO:=Lib.hid (aC.old (C.o.trans (ab.o.mono C.o.size)) (J.o.below ab.o));obtain⟨cH,aD,bw,bg,bt⟩:=aC;have HE:=Lib.hid (mq f.o aO.o (x:=movX s i j n a b (some m)) (by rw[a2.o,HP.o];exact aD) ak.o.2);clear aD bw bg bt r0 r1 r2 r3 r4 r5 r6 r7;go_wp2_with fail
      refine HE.o.mono ?_;rintro e bD ⟨rfl,ac⟩;have Z:=Lib.hid (ac.after B.o);clear ac;go_wp2;go_ret;exact⟨by rw[ag.o.1];rfl,by rw[ag.o.2];exact Z.o⟩
    .have b1:(O.k==2)=false:=(by simpa using hO);have z:=Lib.hid (t.o 12 _ B.o (by have d:=HM.o;unfold movR movE at d;simp only[HN.o,HO.o,L,hO]at d;rw[zb a8.o]at d;simpa using d));clear L hO;go_wp2;go_ret;exact⟨by rw[<-z.o.1];rfl,z.o.2⟩
   .have b0:(N.k==2)=false:=(by simpa using L);by_cases hO:O.k=2
    .have b1:(O.k==2)=true:=(by simp[hO]);have z:=Lib.hid (t.o 12 _ B.o (by have d:=HM.o;unfold movR movE at d;simp only[HN.o,HO.o,L,hO]at d;rw[zb a8.o]at d;simpa using d));clear L hO;go_wp2;go_ret;exact⟨by rw[<-z.o.1];rfl,z.o.2⟩
    .have b1:(O.k==2)=false:=(by simpa using hO);have Q:Hid (movE s j n (some m)=0):=(by show _=_;unfold movE;simp only[HN.o,HO.o,L,hO];simp);have a2:Hid (movX s i j n a b (some m)=movY s i j n a b (some m)):=(by show _=_;unfold movX;rw[HN.o,zb L]);clear L hO;have v:=Lib.hid (ax.o Q.o);have p:=HM.o;unfold movR at p;rw[zb a8.o,Q.o,zb (fun I=>I rfl)]at p;have f:=Lib.hid (H.o.below B.o);have a0:=Lib.hid (oh f.o);obtain⟨qe,A⟩:=zD (tC ((movT s i j a b (some m)).dirD s j) (b,(n:Int)+1));rw[A.o]at p;have ah:=Lib.hid p;clear p;go_wp2_with fail
     refine a0.o.mono ?_;rintro e w4 ⟨gt,T,rfl,ai,hT⟩;have aa:=Lib.hid ai;have HT:Hid (TxAt w4 (w2.alloc (.cells #[O.k,O.m,O.u,O.g,O.s,O.l,O.up,(oq,aw,oc)] 59)).heap.size F gt (gf,()) (tx0 s) T):=hT;generalize w2.alloc (.cells #[O.k,O.m,O.u,O.g,O.s,O.l,O.up,(oq,aw,oc)] 59)=w3 at *
     have a3:=Lib.hid (hH f.o aa.o HT.o Wx i aP.o.2.2 a);clear ai hT S a9 e0 aZ g0 g1 g2 g3 g4 g5 g6 g7 m0 m1 m2 m3 m4 m5 m6 m7;go_wp2_with fail
     refine a3.o.mono ?_;rintro e w5 ⟨rfl,d5⟩;have G:=Lib.hid (d5.old aa.o HT.o);obtain⟨T5,t5,u5,v5,k5⟩:=d5;have V:=Lib.hid t5;clear t5 u5 v5 k5;obtain⟨o1,o2,o3⟩:=v.o.one m rfl;have bp:=Lib.hid (hH f.o G.o V.o o1 j o2 b);have b7:=Lib.hid o3;clear o1 o2 o3;go_wp2_with fail
     refine bp.o.mono ?_;rintro e w6 ⟨rfl,d6⟩;have aI:=Lib.hid (d6.old G.o V.o);obtain⟨T6,t6,u6,v6,k6⟩:=d6;have bv:=Lib.hid (hR f.o aI.o t6 m b7.o);have bB:=Lib.hid t6;clear t6 u6 v6 k6;go_wp2_with fail
     refine bv.o.mono ?_;rintro e w7 ⟨rfl,d7⟩;have az:=Lib.hid (d7.old aI.o bB.o);obtain⟨T7,t7,u7,v7,k7⟩:=d7;have aK:=Lib.hid t7;clear t7 u7 v7 k7;have U:=Lib.hid (Zi f.o az.o aK.o (fun r hr=>zm (f.o.fin r hr) az.o.size) v.o.room j _ _ v.o.dir (b,(n:Int)+1));rw[A.o]at U;go_wp2_with fail
     refine U.o.mono ?_;rintro e w8 ⟨rfl,d8⟩;have C:=Lib.hid (d8.old az.o aK.o);by_cases hq:qe=0;case neg=>
      have b5:(qe==0)=false:=(by simpa using hq);have b6:(qe != 0)=true:=(by simpa using hq);have z:=Lib.hid (t.o qe w8 (B.o.trans (C.o.mono B.o.size)) (by have d:=ah.o;rw[ze hq]at d;exact d));clear d8 hq;go_wp2;go_ret;exact⟨by rw[<-z.o.1];rfl,z.o.2⟩
     subst hq;rw[ze rfl]at d8;have ag:Hid (re=endE s (movX s i j n a b (some m))/\rs=endS s (movX s i j n a b (some m))):=(by have d:=ah.o;rw[zb (fun I=>I rfl)]at d;injection d with d h2;exact⟨d.symm,h2.symm⟩);obtain⟨T8,t8,u8,v8,k8⟩:=d8;have J:Hid (TxAt w8 w3 F gt (gf,()) (movY s i j n a b (some m)) T8):=t8;have ak:=Lib.hid (v.o.run A.o);clear t8 u8 v8 k8;have HE:=Lib.hid (mq f.o C.o (x:=movX s i j n a b (some m)) (by rw[a2.o];exact J.o) ak.o.2);go_wp2_with fail
     refine HE.o.mono ?_;rintro e bD ⟨rfl,ac⟩;have Z:=Lib.hid (ac.after B.o);clear ac;go_wp2;go_ret;exact⟨by rw[ag.o.1];rfl,by rw[ag.o.2];exact Z.o⟩
def movB (A:Nat->AN) (i j:Nat) (a b:ByteArray):Option Nat->Nat->AN
 | none=>leaA A i a
 | some m=>kX (leaA (leaA A i a) j b) m
def movA (A:Nat->AN) (i j n:Nat) (a b:ByteArray) (o:Option Nat):Nat->AN:=
 let B:=entA (movB A i j a b o) j (b,(n:Int)+1)
 if (A n).k=2 then upA B n {B n with up:=(j:Int)+1} else B
section
variable {x : Tx} {s : Fs} {n c i j : Nat} {A : Nat->AN} {T : List Nat} {δ : Nat->Int}
theorem Yh : ∀{l:List En},(l.map (·.1)).Nodup->∀{x y:En},x∈l->y∈l->x.1=y.1->x=y
 | [],_,_,_,h,_,_=>by cases h
 | z::l,c,x,y,f,e,d=>by
  rw[yI,vY]at c;rcases yN.1 f with b|b<;>rcases yN.1 e with a|a
  .rw[b,a]
  .exact yb (by rw[<-b,d];exact zV.2 ⟨y,a,rfl⟩) c.1
  .exact yb (by rw[<-a,<-d];exact zV.2 ⟨x,b,rfl⟩) c.1
  .exact Yh c.2 b a d
theorem Wp (A:Nat->AN) (i:Nat) (a:ByteArray) (j:Nat):(leaA A i a j).k=(A j).k/\(leaA A i a j).l=(A j).l:=by
 unfold leaA upA;split
 .rename_i h;subst h;exact⟨rfl,rfl⟩
 .exact⟨rfl,rfl⟩
theorem Ts (A:Nat->AN) (i:Nat) (e:En) (j:Nat):(entA A i e j).k=(A j).k/\(entA A i e j).l=(A j).l:=by
 unfold entA upA;split
 .rename_i h;subst h;exact⟨rfl,rfl⟩
 .exact⟨rfl,rfl⟩
theorem Xp (A:Nat->AN) {m:Nat} (h:j≠m):kX A m j=A j:=gJ _ _ h
theorem U6 (g:GI A δ) (h:i<32) (e:(A i).k=2) (a:ByteArray) (f:En):f∈uK (leaA A i a i)↔f∈uK (A i)/\a≠f.1:=by have c:=g.right h e;have d:uK (A i)=outD (A i).D:=ze e;rw[d]at c ⊢;have b:tW (pg (A i).D a)=0:=KE c _;unfold leaA;rw[fH,LR (A i) e b,(mx _).mem_iff];unfold pg;rw[vt];simp
theorem SI.move (hs:SI s c A) (g:GI A fun _=>0) (hc:c<=1000) (hi:i<32) (af:(A i).k=2) (hj:j<32) (al:(A j).k=2) (he:e∈outD (A i).D) (hn:(n:Int)+1=e.2) {b:ByteArray} {o:Option Nat}
 (ao:o≠some n) (ho:∀m,o=some m->∃f∈outD (A j).D,f.1=b/\(m:Int)+1=f.2) (ar:ru b=true) (ap:∀m,o=some m->((A m).k=2↔(A n).k=2)/\¬((A n).k=2/\0<(A m).s)):
 kr s i j n e.1 b o/\(movT s i j e.1 b o).dirD s j=(movB A i j e.1 b o j).D/\(tC (movB A i j e.1 b o j).D (b,(n:Int)+1)=0->TV (movX s i j n e.1 b o) s 48 [i,j] (movA A i j n e.1 b o)/\GI (movA A i j n e.1 b o) fun _=>0):=by
 have t0:=hs.tv [i,j];have t:e∈uK (A i):=by unfold uK;rw[ze af];exact he
 have aw:=g.to hi t;have a:n<32:=by omega
 have w:(A n).k≠0:=by have:=g.ino i hi e t;rw[show (e.2-1).toNat=n by omega]at this;exact this
 have S:=t0.lea g hi (by simp) af he;have T:=(g.leave hi af he).congr (δ':=fun m=>if m=n then 1 else 0) fun m _=>by
  by_cases h:m=n
  .rw[ze h,ze (by omega)];rfl
  .rw[zb h,zb (by omega)];rfl
 have p:(leaA A i e.1 j).k=2:=by rw[(Wp A i e.1 j).1];exact al
 -- ahead of the new name
 have ab:(∀m,o=some m->lK ((tx0 s).leaX s i e.1)/\DirT ((tx0 s).leaX s i e.1) s j (((tx0 s).leaX s i e.1).nodes.getD j zN) (((tx0 s).leaX s i e.1).dirD s j)/\fQ (((tx0 s).leaX s i e.1).leaX s j b) s m) /\
  TV (movT s i j e.1 b o) s 32 [i,j] (movB A i j e.1 b o)/\GI (movB A i j e.1 b o) (fun m=>if m=n then 1 else 0)/\(movB A i j e.1 b o j).k=2/\(movB A i j e.1 b o n).k=(A n).k:=by
  cases o with
  | none=>exact⟨fun m hm=>(by cases hm),S.mono (by omega),T,p,(Wp A i e.1 n).1⟩
  | some m=>
   obtain⟨f,I,rfl,V⟩:=ho m rfl;obtain⟨ag,ae⟩:=ap m rfl;have G:m≠n:=fun hc=>ao (by rw[hc]);have q:f∈uK (A j):=(by unfold uK;rw[ze al];exact I);have a3:=g.to hj q;have z:m<32:=(by omega);have ay:=g.noRoot rfl hj q;have X:(A m).k≠0:=(by have:=g.ino j hj f q;rw[show (f.2-1).toNat=m by omega]at this;exact this);have E:(A m).k=2->uK (A m)=[]:=fun h=>Xl (t0.len hs.sec z) fun hc=>ae ⟨ag.1 h,hc.2⟩;have ac:m≠i:=(by rintro rfl;rw[E af]at t;cases t);have J:m≠j:=(by rintro rfl;rw[E al]at q;cases q);have Q:f∈outD (leaA A i e.1 j).D:=by
    have Z:f∈uK (leaA A i e.1 j):=by
     by_cases M:j=i
     .subst M;refine (U6 g hi af _ _).2 ⟨q,fun hc=>G ?_⟩;have v:=(rZ _).1 (g.right hi af);have:=Yh v.2.2 t q hc;subst this;omega
     .unfold leaA;rw[gJ _ _ M];exact q
    unfold uK at Z;rw[ze p]at Z;exact Z
   have t2:=S.lea T hj (by simp) p Q;have g2:=T.leave hj p Q;have P:leaA (leaA A i e.1) j f.1 m=A m:=(by unfold leaA;rw[gJ _ _ J,gJ _ _ ac]);obtain⟨hd,H,R⟩:=t2.drop g2 z (by omega) (by show (if m=n then (1:Int) else 0)+(if (m:Int)+1=f.2 then 1 else 0)=1;rw[zb G,ze V];rfl) (by rw[P];exact X) (fun h=>by rw[P]at h ⊢;exact E h) hs.held (by omega);refine⟨fun x B=>?_,H,R.congr fun x _=>?_,?_,?_⟩
   .injection B with B;subst B;exact⟨S.room (by omega),S.dirT hs.sec hs.k0 (by omega) hj (T.ok j hj p),hd⟩
   .show (if x=n then (1:Int) else 0)=(if x=n then 1 else 0)+(if (x:Int)+1=f.2 then 1 else 0)-if x=m then 1 else 0
    by_cases h:x=m
    .rw[ze h,ze (show (x:Int)+1=f.2 by omega)];omega
    .rw[zb h,zb (show ¬(x:Int)+1=f.2 by omega)];omega
   .show (kX (leaA (leaA A i e.1) j f.1) m j).k=2;rw[Xp _ (yF J),(Wp _ _ _ _).1];exact p
   .show (kX (leaA (leaA A i e.1) j f.1) m n).k=(A n).k;rw[Xp _ (yF G),(Wp _ _ _ _).1,(Wp _ _ _ _).1]
 obtain⟨k1,H,R,k4,k5⟩:=ab;have hD:(movT s i j e.1 b o).dirD s j=(movB A i j e.1 b o j).D:=(H.at hj).2.2.2.2.2.2.2;have K:tC (movB A i j e.1 b o j).D (b,(n:Int)+1)=0->TV (movY s i j n e.1 b o) s 40 [i,j] (entA (movB A i j e.1 b o) j (b,(n:Int)+1))/\TV (movX s i j n e.1 b o) s 48 [i,j] (movA A i j n e.1 b o)/\GI (movA A i j n e.1 b o) fun _=>0:=fun F=>by
  have C:=H.ent R hj (by simp) k4 F;have aa:(((b,(n:Int)+1):En).2-1).toNat=n:=by show ((n:Int)+1-1).toNat=n;omega
  have O:=(R.enter hj k4 F (by rw[aa,k5];exact w)).congr (δ':=fun _=>0) fun m _=>by
   show (0:Int)=(if m=n then 1 else 0)-if (m:Int)+1=(n:Int)+1 then 1 else 0
   by_cases h:m=n
   .rw[ze h,ze (by omega)];rfl
   .rw[zb h,zb (by omega)];rfl
  have ad:(s.nodes.getD n zN).k=(A n).k:=(hs.A_at a).1;have r:(entA (movB A i j e.1 b o) j (b,(n:Int)+1) n).k=(A n).k:=by rw[(Ts _ _ _ _).1];exact k5
  refine⟨C,?_⟩;unfold movX movA;rw[ad];by_cases v:(A n).k=2
  .rw[ze v];simp only[v,vl];have I:=C.fld a (by rw[r];exact w);have L:=C.at a;have W:((movY s i j n e.1 b o).nodes.getD n zN).k=2:=L.1.trans (r.trans v);have U:=C.set a (N:=upP ((movY s i j n e.1 b o).nodes.getD n zN) j) rfl rfl (zu ⟨I.1,I.2.1,I.2.2.1,fun _=>(by show 1<=(j:Int)+1/\(j:Int)+1<=32;omega),fun h=>yb W h,I.2.2.2.2.2⟩);have e1:(⟨(upP ((movY s i j n e.1 b o).nodes.getD n zN) j).k,(upP ((movY s i j n e.1 b o).nodes.getD n zN) j).m,(upP ((movY s i j n e.1 b o).nodes.getD n zN) j).u,(upP ((movY s i j n e.1 b o).nodes.getD n zN) j).g,(upP ((movY s i j n e.1 b o).nodes.getD n zN) j).s,(upP ((movY s i j n e.1 b o).nodes.getD n zN) j).l,(upP ((movY s i j n e.1 b o).nodes.getD n zN) j).up,(entA (movB A i j e.1 b o) j (b,(n:Int)+1) n).D⟩:AN)={entA (movB A i j e.1 b o) j (b,(n:Int)+1) n with up:=(j:Int)+1}:=(by obtain⟨b1,b2,b3,b4,b5,b6,b7,_⟩:=L;unfold upP;simp only;rw[<-b1,<-b2,<-b3,<-b4,<-b5,<-b6];rfl);rw[e1]at U;refine⟨U,(O.set a {entA (movB A i j e.1 b o) j (b,(n:Int)+1) n with up:=(j:Int)+1} (by show (entA _ _ _ n).k≠0;rw[r];exact w) rfl (fun _=>⟨O.dir n a (r.trans v),O.ok n a (r.trans v)⟩) (O.pos n a (by rw[r];exact w)) (fun _=>r.trans v)).congr fun m _=>?_⟩;show (0:Int)=0+if m=n then (entA (movB A i j e.1 b o) j (b,(n:Int)+1) n).l-(entA (movB A i j e.1 b o) j (b,(n:Int)+1) n).l else 0
   split<;>omega
  .rw[zb v];simp only[v,ua];exact⟨C.mono (by omega),O⟩
 refine⟨⟨k1,H.room (by omega),H.dirT hs.sec hs.k0 (by omega) hj (R.ok j hj k4),fun F=>?_⟩,hD,fun F=>(K F).2⟩;rw[hD]at F;obtain⟨C,U,_⟩:=K F;refine⟨?_,U.run hs hc (by omega) ?_⟩
 .have:=C.cap.d;omega
 .have hr:∀(y:Tx) (i:Nat) (nm:ByteArray),(y.leaX s i nm).rows=y.rows:=fun y i nm=>by unfold Tx.leaX Tx.fillX Tx.wow;split<;>rfl
  have Y:(movT s i j e.1 b o).rows=s.rows:=by
   cases o with
   | none=>exact hr _ _ _
   | some m=>
    show ((((tx0 s).leaX s i e.1).leaX s j b).dropX s m).rows=_;have:∀y:Tx,(y.dropX s m).rows=y.rows:=fun y=>(by unfold Tx.dropX Tx.freeX Tx.setX;split<;>rfl);rw[this,hr,hr];rfl
  have ah:(movX s i j n e.1 b o).rows=(movT s i j e.1 b o).rows:=by unfold movX movY;split<;>rfl
  rw[ah,Y];exact hs.rows
end
