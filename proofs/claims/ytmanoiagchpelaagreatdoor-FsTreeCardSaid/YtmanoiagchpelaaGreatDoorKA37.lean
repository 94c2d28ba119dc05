import Derived.Test.YtmanoiagchpelaaGreatDoorKA33
set_option maxHeartbeats 0
set_option linter.all false
set_option maxRecDepth 100000
namespace Go.Proofs.YtmanoiagchpelaaGreatDoor
open Go.RowKit
variable {D g:List Int} {N:Pn} {T:List Nat} {b i j m:Nat} {f:Nat->List Int} {put:List (Int×List Int)} {s:Fs} {α:Type}
def updP (pf:Nat->Nat->Int) (i b:Nat) (q:Int):Nat->Nat->Int:=fun i' b'=>if i'=i/\b'=b then q else pf i' b'
def vsl (i b:Nat):Prop:=i<32\/i=32/\b<16
structure TJ (pf:Nat->Nat->Int) (g:List Int) (o:Ow) (put:List (Int×List Int)) (k:Nat) (T:List Nat) (ow:Int->Option (Nat×Nat)):Prop where
 k1:k<=256
 fk:256<=o.fk/\(o.fl=false->o.fk=256)
 root:vO o.fo 0=true
 blk:∀i b,vsl i b->pf i b≠0->ow (pf i b)=some (i,b)
 nz:∀j,j<16->pf 32 j≠0
 gn:∀p∈g,p≠0->ow p=some (33,0)
 rg:∀p a,ow p=some a->37<=p/\p<(k:Int)\/256<p/\p<=o.fk
 sl:∀p i b,ow p=some (i,b)->vsl i b/\pf i b=p\/i=33/\b=0/\p∈g
 hs:∀n:Nat,n<256->(o.fo.hs 0 n=true↔(ow n).isSome=true)
 rise:so put
 pk:∀y∈put,(ow y.1).isSome=true/\(y.1<256->ta o.fo 4 y.1.toNat=false)/\∀i b,ow y.1=some (i,b)->i∈T/\b<8\/32<=i
 pd:∀y∈put,y.2.length=64/\un y.2
section
variable {pf : Nat->Nat->Int} {g : List Int} {o : Ow} {put : List (Int×List Int)} {k : Nat} {T : List Nat} {ow : Int->Option (Nat×Nat)}
theorem Jo (f) (S) (n):ta (hasF f S) 4 n=ta f 4 n:=by rw[l8,l8];rfl
theorem MS (f) (S) (a):vO (hasF f S) a=vO f a:=rfl
theorem TJ.lt {p:Int} {a:Nat×Nat} (h:TJ pf g o put k T ow) (b:ow p=some a):37<=p/\p<=o.fk:=by have:=h.rg p a b;have:=h.fk;have:=h.k1;omega
theorem TJ.fresh (h:TJ pf g o put k T ow) (S) (p) (B:∀n,n<256->(S n=true↔o.fo.hs 0 n=true/\(n:Int)≠p)) (A:p=0\/p<256/\ta o.fo 4 p.toNat=true) (C:0<=p):
 ∃q T fl fk,qB {o with fo:=hasF o.fo S} k=(q,⟨hasF o.fo T,fl,fk⟩)/\q≠0/\(∀n,n<256->(T n=true↔(o.fo.hs 0 n=true/\n≠p)\/n=q))/\ow q=none/\q≠p /\
  (37<=q/\q<k\/256<q/\q<=fk)/\o.fk<=fk/\fk<=o.fk+1/\(fl=false->fk=256/\o.fl=false)/\(q<256->ta o.fo 4 q.toNat=false):=by
 have w:=h.k1;have f:=h.fk;unfold qB;simp only;split
 .rename_i n u;obtain⟨y,z,b,_⟩:=UW u;rw[Pm]at b;simp only[MS,h.root,uf,uF]at b;obtain⟨⟨⟨b,s⟩,r⟩,t⟩:=b;have c:ta o.fo 4 n=false:=by rw[l8];simp only[uF];exact⟨⟨s,r⟩,t⟩
  have d:n≠p:=by
   rintro rfl;rcases A with A|⟨_,A⟩
   .omega
   .simp[c]at A
  have i:o.fo.hs 0 n=false:=by
   have x:=B n (by omega);have v:S n=false:=b
   grind
  refine⟨n,ins S n,o.fl,o.fk,by unfold useF;rw[WQ];rfl,by omega,fun m e=>?_,?_,d,zr (by omega),by omega,by omega,fun l=>⟨f.2 l,l⟩,fun _=>c⟩
  .have:=B m e;unfold ins
   grind
  .have:=h.hs n (by omega);rw[i]at this;simpa using this
 .refine⟨_,S,_,_,rfl,by omega,fun m e=>?_,?_,by omega,zu (by omega),by omega,by omega,by simp,fun j=>by omega⟩
  .have:=B m e;have:¬m=o.fk+1:=by omega
   grind
  .cases j:ow (o.fk+1) with
   | none=>rfl
   | some a=>have:=h.lt j;omega
theorem TJ.ownF (h:TJ pf g o put k T ow) (p) (B:p=0\/(ow p).isSome=true):
 ∃q S fl fk,ownU o k p=(q,⟨hasF o.fo S,fl,fk⟩)/\q≠0/\(∀n,n<256->(S n=true↔(o.fo.hs 0 n=true/\n≠p)\/n=q))/\(q=p\/ow q=none/\(p=0\/p<256/\ta o.fo 4 p.toNat=true)) /\
  (37<=q/\q<k\/256<q/\q<=fk)/\o.fk<=fk/\fk<=o.fk+1/\(fl=false->fk=256/\o.fl=false)/\(q<256->ta o.fo 4 q.toNat=false):=by
 unfold ownU;split
 .rename_i c;subst c;obtain⟨q,T,fl,fk,b,f,r,l,z,t⟩:=h.fresh (o.fo.hs 0) 0 (fun n d=>by
   have:=h.hs n d;constructor
   .intro b;refine⟨b,?_⟩;rintro f;obtain⟨a,e⟩:=vi.1 (this.1 b);have:=h.lt e;omega
   .exact fun b=>b.1) (zr rfl) (by omega)
  rw[KL]at b;exact⟨q,T,fl,fk,b,f,r,zu ⟨l,zr rfl⟩,t⟩
 .rename_i c;have s:=B.resolve_left c;obtain⟨a,e⟩:=vi.1 s;have A:=h.lt e;split
  .rename_i b;obtain⟨q,T,fl,fk,u,m,v,w,x,j⟩:=h.fresh (del (o.fo.hs 0) p.toNat) p (fun n d=>by have:n=p↔n=p.toNat:=(by omega);unfold del;simp[this]) (zu b) (by omega);exact⟨q,T,fl,fk,u,m,v,zu ⟨w,zu b⟩,j⟩
  .rename_i b;refine⟨p,o.fo.hs 0,o.fl,o.fk,by rw[KL],c,fun n d=>?_,zr rfl,?_,by omega,by omega,fun i=>⟨h.fk.2 i,i⟩,fun y=>by grind⟩
   .have:=h.hs n d
    grind
   .have:=h.rg p a e;omega
theorem TJ.own (h:TJ pf g o put k T ow) (V:vsl i b):
 ∃q o',ownU o k (pf i b)=(q,o')/\q≠0/\37<=q/\(q<256->q<k/\ta o'.fo 4 q.toNat=false)/\q<=o'.fk/\o.fk<=o'.fk/\o'.fk<=o.fk+1/\(o'.fl=false->o.fl=false) /\
  (o'.fo.nd=o.fo.nd/\∀a,a≠0->o'.fo.hs a=o.fo.hs a)/\(∀i' b',vsl i' b'->¬(i'=i/\b'=b)->pf i' b'≠q)/\q∉g/\(q=pf i b\/∀y∈put,y.1≠q) /\
  TJ (updP pf i b q) g o' put k T (fun z=>if z=q then some (i,b) else if z=pf i b then none else ow z):=by
 have s:pf i b=0\/(ow (pf i b)).isSome=true:=by
  by_cases w:pf i b=0
  .exact zr w
  .exact zu (by rw[h.blk i b V w];rfl)
 obtain⟨q,S,U,v,M,A,N,d,Q,K,H,E,I⟩:=h.ownF (pf i b) s;have L:=h.fk;have J:=h.k1;have w:ow 0=none:=by
  cases x:ow 0 with
  | none=>rfl
  | some a=>have:=h.lt x;omega
 have c:=h.blk;have r:∀i' b',vsl i' b'->¬(i'=i/\b'=b)->pf i' b'≠q:=fun i' b' l f t=>by
  have e:=c i' b' l;rcases d with d|d
  .have u:=c i b V
   grind
  .grind
 have D:∀p,p∈g->p≠0->p≠q/\p≠pf i b:=fun p s m=>by
  have e:=h.gn p s m;have u:=c i b V;have F:i≠33:=by unfold vsl at V;omega
  grind
 refine⟨q,_,M,A,by omega,fun x=>⟨by omega,by rw[Jo];exact I x⟩,by show q<=v;omega,K,H,fun B=>(E B).2,⟨rfl,fun a P=>zb P⟩,r,fun t=>(D q t A).1 rfl,?_,?_⟩
 .rcases d with d|d
  .exact zr d
  .refine zu fun y C t=>?_;have:=(h.pk y C).1
   grind
 refine⟨J,⟨by show 256<=v;omega,fun B=>(E B).1⟩,h.root,fun i' b' l f=>?_,fun j O=>?_,fun p s m=>?_,fun p a s=>?_,fun p i' b' s=>?_,fun n G=>?_,h.rise,fun y C=>?_,h.pd⟩
 .unfold updP at f ⊢;by_cases t:i'=i/\b'=b
  .simp[t]
  .simp only[t,vX]at f ⊢;have e:=r i' b' l t;have u:=c i' b' l f;have F:=c i b V;rw[zb e]
   grind
 .unfold updP;have:=h.nz j O;split
  .exact A
  .exact this
 .have:=D p s m;show (if p=q then _ else _)=_;rw[zb this.1,zb this.2];exact h.gn p s m
 .show _\/256<p/\p<=v;have e:=h.rg p
  grind
 .have e:=h.sl p i' b';have u:=c i b V;unfold updP
  grind
 .have e:=h.hs n G;have u:=N n G;show S n=true↔_;rw[u,e]
  grind
 .have e:=h.pk y C;rw[Jo];have u:=fun a=>h.lt (p:=y.1) (a:=a);have F:=c i b V;refine⟨?_,e.2.1,fun i' b'=>?_⟩
  .rcases d with d|⟨_,d|d⟩<;>grind
  .have R:=e.2.2 i' b';rcases d with d|⟨_,d|d⟩<;>grind
theorem TJ.put' (h:TJ pf g o put k T ow) {q:Int} (c:(ow q).isSome=true) (d:q<256->ta o.fo 4 q.toNat=false) (e:∀i b,ow q=some (i,b)->i∈T/\b<8\/32<=i) (f:D.length=64/\un D):TJ pf g o (putZ put q D) k T ow:=
 {h with
  rise:=ZZ _ _ h.rise
  pk:=fun y a=>by
   rcases mt a with rfl|a
   .exact⟨c,d,e⟩
   .exact h.pk y a
  pd:=fun y a=>by
   rcases mt a with rfl|a
   .exact f
   .exact h.pd y a}
theorem TJ.give (h:TJ pf g o put k T ow) (C:i<32) (l) (E:∀b,m<=b->pf i b≠0->pf i b∈l) (D:∀p∈l,p≠0->∃b,m<=b/\pf i b=p):
 ∃ow',TJ (fun i' b'=>if i'=i/\m<=b' then 0 else pf i' b') (g++l) o put k T ow':=by
 have B:=fun b=>h.blk i b (zr C);refine⟨fun z=>if z≠0/\z∈l then some (33,0) else ow z,h.k1,h.fk,h.root,fun i' b' w c=>?_,fun j x=>?_,fun p e s=>?_,fun p a e=>?_,fun p i' b' e=>?_,fun n u=>?_,h.rise,fun y d=>⟨?_,(h.pk y d).2.1,fun i' b'=>?_⟩,h.pd⟩
 .have r:=h.blk i' b' w;by_cases f:i'=i/\m<=b'
  .simp[f]at c
  .simp only[f,vX]at c ⊢;rw[zb,r c];rintro ⟨q,v⟩;obtain⟨b,A,t⟩:=D _ v q
   grind
 .have:=h.nz j x;rw[zb (by omega)];exact this
 .have:=h.gn p
  grind
 .have:=h.rg p
  grind
 .have:=h.sl p i' b'
  grind
 .rw[h.hs n u]
  grind
 .have:=(h.pk y d).1
  grind
 .have:=(h.pk y d).2.2 i' b'
  grind
end
def Tx.pf (x:Tx):Nat->Nat->Int:=fun i b=>if i<32 then (x.nodes.getD i zN).P.getD b 0 else if i=32 then x.fo.nd 0 b else 0
def fldR (X:Pn):Prop:=(1<=X.k/\X.k<=3/\0<=X.m/\X.m<=511/\0<=X.u/\X.u<=255/\0<=X.g/\X.g<=255/\0<=X.l/\X.l<=200)/\0<=X.s/\X.s<=512/\(X.k=2->1<=X.up/\X.up<=32)/\(X.k≠2->X.up=0)/\X.P.length=sg X.s
def mA (X:Pn):Prop:=X=zN\/fldR X
structure TI (x:Tx) (s:Fs) (T:List Nat):Prop where
 ex:∃ow,TJ x.pf x.gone x.ow x.put s.k T ow
 pp:∀i b,i<32->256<x.pf i b->(getZ x.put (x.pf i b)).isSome=true
 len:x.nodes.length=32
 fine:∀a,1<=a->a<4->nb x.fo a
 nd:∀i,i<32->mA (x.nodes.getD i zN)
 dv:∀y∈x.dirty,y.2=.bool true
 np:∀j,j<16->getZ x.put (x.fo.nd 0 j)=none
def blk (x:Tx) (s:Fs) (i b:Nat):List Int:=tT (secT x s) (x.pf i b)
def Tx.uw (x:Tx) (i:Nat) (y:Uw):Tx:={x.wow y.ow with put:=y.put,nodes:=x.nodes.set i {x.nodes.getD i zN with P:=y.P}}
theorem VU {f g:Fo} {a:Nat} (e:g.nd a=f.nd a) (i:g.hs a=f.hs a) (h:nb f a):nb g a:=by
 have b:encT g a=encT f a:=by unfold encT;congr 1;funext j;unfold uU;rw[e,i]
 obtain⟨d,c⟩:=h;refine⟨?_,?_⟩
 .unfold badN at *;rw[e];exact d
 .unfold badT n9 vO at *;rw[e,b];exact c
theorem rG (l:List α) (i j) (a d):(l.set i a).getD j d=if j=i/\i<l.length then a else l.getD j d:=by
 simp only[zi,sP]
 grind
theorem kD (x:Tx) (i) (y) (a:x.nodes.length=32) (i' b):(x.uw i y).pf i' b=if i'<32 then (if i'=i then y.P.getD b 0 else x.pf i' b) else if i'=32 then y.ow.fo.nd 0 b else 0:=by
 unfold Tx.pf Tx.uw Tx.wow;simp only[rG,a]
 grind
theorem Xx (x) (s) (q) (D) (z) (a:z.put=putZ x.put q D) (p) (b:0<=p):secT z s p.toNat=if p=q then D else secT x s p.toNat:=by
 unfold secT;rw[a,vK b];by_cases h:p=q
 .rw[ze h,h,Zx];rfl
 .rw[zb h,mR _ h]
theorem TI.pos {x:Tx} (h:TI x s T) (f:vsl i b):x.pf i b=0\/37<=x.pf i b/\(x.pf i b<s.k\/256<x.pf i b/\x.pf i b<=x.fake):=by
 obtain⟨d,a⟩:=h.ex;by_cases c:x.pf i b=0
 .exact zr c
 .have:=a.rg _ _ (a.blk i b f c);have:=a.fk;have e:x.ow.fk=x.fake:=rfl;omega
theorem TI.wr {x:Tx} {y:Uw} (h:TI (x.uw i y) s T) (N:x.nodes.length=32) (O:i<32) (S:i∈T) (U:y.P.length<=8) (Q:b<y.P.length) (R:D.length=64/\un D):
 TI (x.uw i (wrU s.k y b D)) s T/\(∀i' b',i'<32->blk (x.uw i (wrU s.k y b D)) s i' b'=if i'=i/\b'=b then D else blk (x.uw i y) s i' b')/\((wrU s.k y b D).ow.fl=false->y.ow.fl=false) /\
  y.ow.fk<=(wrU s.k y b D).ow.fk/\(wrU s.k y b D).ow.fk<=y.ow.fk+1/\(wrU s.k y b D).put.length<=y.put.length+1/\(wrU s.k y b D).P.length=y.P.length:=by
 obtain⟨L,n⟩:=h.ex;have r:(x.uw i y).pf i b=y.P.getD b 0:=by rw[kD _ _ _ N,ze O,ze rfl]
 obtain⟨q,u,z,G,M,I,K,E,B,w,p,l,A,J,o⟩:=n.own (zr O:vsl i b);have t:(x.uw i y).ow=y.ow:=rfl;rw[r,t]at z;have e:wrU s.k y b D=⟨u,putZ y.put q D,y.P.set b q⟩:=by unfold wrU;rw[z]
 rw[e];have m:(x.uw i ⟨u,putZ y.put q D,y.P.set b q⟩).pf=updP (x.uw i y).pf i b q:=by
  funext i' b'
  unfold updP;rw[kD _ _ _ N,kD _ _ _ N,rG];rw[t]at p
  grind
 rw[<-m]at o;refine⟨⟨⟨_,o.put' (by simp) (fun C=>(I C).2) (fun i' b' H=>by simp only[vl]at H;grind) R⟩,?_,?_,?_,?_,h.dv,fun j n=>?_⟩,?_,by rw[t]at w;exact w,E,B,oy _ _ _,xK ..⟩
 .intro i' b' f g;rw[m]at g ⊢;unfold updP at g ⊢;show (getZ (putZ y.put q D) _).isSome=true;by_cases d:i'=i/\b'=b
  .rw[ze d,Zx];rfl
  .rw[zb d]at g ⊢;rw[mR _ (l i' b' (zr f) d)];exact h.pp i' b' f g
 .show (x.nodes.set i _).length=32;rw[xK,N]
 .intro a c F;exact VU (congrFun p.1 a) (p.2 a (by omega)) (h.fine a c F)
 .intro j n;have c:=h.nd j n;unfold Tx.uw at c ⊢;simp only[rG,N]at c ⊢;split
  .rename_i d;rw[ze d]at c;rcases c with c|c
   .injection c with _ _ _ _ _ _ _ c;rw[c]at Q;exact zY Q (kt _)
   .exact zu (by unfold fldR at c ⊢;simpa using c)
  .rename_i d;rw[zb d]at c;exact c
 .show getZ (putZ y.put q D) (u.fo.nd 0 j)=none;have c:=l 32 j (zu ⟨rfl,n⟩) (by omega);have v:=h.np j n;rw[p.1];exact (mR D c y.put).trans v
 .intro i' b' f;unfold blk;rw[m];unfold updP tT;by_cases d:i'=i/\b'=b
  .rw[ze d,zb G,ze d,Xx (x.uw i y) s q D _ rfl q (by omega),ze rfl]
  .rw[zb d,zb d];have c:=l i' b' (zr f) d;have v:=h.pos (i:=i') (b:=b') (zr f);split
   .rfl
   .rw[Xx (x.uw i y) s q D _ rfl _ (by omega),zb c]
def jt (s:Fs):Prop:=∀p,p<s.k->p<5\/37<=p->(secE s p).length=64/\un (secE s p)
theorem UQ (n):un (List.replicate n 0):=fun x a=>by rw[uX]at a;omega
theorem TI.blk_ok {x:Tx} (h:TI x s T) (l:jt s) (k:i<32) (b):(blk x s i b).length=64/\un (blk x s i b):=by
 unfold blk tT;split
 .exact⟨yN ..,UQ _⟩
 .rename_i e;have j:=(h.pos (i:=i) (b:=b) (zr k)).resolve_left e;unfold secT;rw[vK (by omega)];cases c:getZ x.put (x.pf i b) with
  | some D=>
   obtain⟨g,d⟩:=h.ex;exact d.pd _ (nu c)
  | none=>
   have a:=h.pp i b k;rw[c]at a;have:¬256<x.pf i b:=fun f=>(by simpa using a f);exact l _ (by omega) (by omega)
theorem Ux (c:∀b,(f b).length=64) (m):((List.range m).flatMap f).length=64*m:=by
 induction m with
 | zero=>rfl
 | succ m a=>rw[vI,vt,zm,a];simp[c];omega
theorem KS (c:∀b,(f b).length=64) (m n) (d:n<64*m):((List.range m).flatMap f)[n]?=(f (n / 64))[n%64]? :=by
 induction m with
 | zero=>omega
 | succ m a=>
  rw[vI,vt];by_cases h:n<64*m
  .rw[zX (by rw[Ux c];exact h),a h]
  .rw[zy (by rw[Ux c];omega),Ux c];simp only[xo,List.flatMap_nil,yX];rw[show n / 64=m by omega,show n%64=n-64*m by omega]
theorem Sp (P:List Int) (f:Int->List Int):P.flatMap f=(List.range P.length).flatMap fun b=>f (P.getD b 0):=by
 induction P with
 | nil=>rfl
 | cons p P a=>
  rw[xo,a,yx,List.range_succ_eq_map,xo,List.flatMap_map];rfl
theorem lX (x) (s) (a:i<32):x.dirD s i=((List.range (x.nodes.getD i zN).P.length).flatMap (blk x s i)).take (x.nodes.getD i zN).s.toNat:=by unfold Tx.dirD tO blk Tx.pf;rw[Sp];simp only[ze a]
theorem Wf (D) (b):(blkB D b).length=64:=by unfold blkB over;simp;omega
theorem Q3 (D) (b r) (a:r<64) (h:64*b+r<D.length):(blkB D b)[r]?=D[64*b+r]? :=by unfold blkB over;rw[xH,yU,zX (by simp;omega),vD a,yw]
theorem Nl (h:un D) (b):un (blkB D b):=by
 unfold blkB over;intro y a;rw[xH,yU]at a;rcases yo.1 a with a|a
 .exact h y (wd (yY a))
 .exact UQ 64 y (wd a)
theorem OU (D) (m) (h:D.length<=64*m):((List.range m).flatMap (blkB D)).take D.length=D:=by
 apply ww;intro n;by_cases a:n<D.length
 .rw[vD a,KS (Wf D) _ _ (by omega),Q3 D _ _ (by omega) (by omega),show 64*(n / 64)+n%64=n by omega]
 .rw[yj (by rw[zj];omega),yj (by omega)]
structure Cap (x:Tx) (n:Nat):Prop where
 fk:256<=x.fake/\x.fake<=256+n
 g:x.gone.length<=n
 p:x.put.length<=n
 d:8*x.dirty.length<=n
def Tx.cutX (x:Tx) (i:Nat) (m:Nat) (sz:Int):Tx:=
 {x with nodes:=x.nodes.set i {x.nodes.getD i zN with P:=(x.nodes.getD i zN).P.take m++List.replicate (m-(x.nodes.getD i zN).P.length) 0,s:=sz},dirty:=putZ x.dirty (i+1) (.bool true),gone:=x.gone++((x.nodes.getD i zN).P.drop m).reverse}
theorem XV (P:List Int) (m b):(P.take m++List.replicate (m-P.length) 0).getD b 0=if m<=b then 0 else P.getD b 0:=by
 simp only[zi,List.getElem?_append,zI,zj,xf];by_cases a:m<=b
 .rw[ze a,zb (by omega),zb (by omega)];rfl
 .rw[zb a];by_cases c:b<P.length
  .rw[ze (by omega),ze (by omega)]
  .rw[zb (by omega),ze (by omega),yj (by omega)];rfl
theorem jp {x:Tx} (a:x.nodes.length=32) (b:i<32) (m) (sz):(x.cutX i m sz).pf=fun i' b'=>if i'=i/\m<=b' then 0 else x.pf i' b':=by
 funext i' b'
 unfold Tx.pf Tx.cutX;simp only[rG,a];by_cases h:i'=i
 .subst h;simp only[b,vl,uC,true_and];rw[XV]
 .simp[h]
theorem TI.cutX {x:Tx} (h:TI x s T) (C:i<32) (m:Nat) (sz) (D:0<=sz/\sz<=512) (F:m=sg sz) (E:x.nodes.getD i zN≠zN):TI (x.cutX i m sz) s T:=by
 obtain⟨B,r⟩:=h.ex;have f:=jp h.len C m sz;have u:∀b,x.pf i b=(x.nodes.getD i zN).P.getD b 0:=fun b=>ze C;obtain⟨w,g⟩:=r.give (i:=i) (m:=m) C ((x.nodes.getD i zN).P.drop m).reverse (fun b A c=>by
  rw[u]at c ⊢;rw[mX];have a:b<(x.nodes.getD i zN).P.length:=by
   rcases sk b (x.nodes.getD i zN).P.length with d|d
   .exact d
   .rw[zi,yj d]at c;exact zY rfl c
  refine vg.2 ⟨b-m,?_⟩;rw[zi (l:=(x.nodes.getD i zN).P),zh a];rw[yw,show m+(b-m)=b by omega,zh a];rfl) (fun p e _=>by
  rw[mX]at e;obtain⟨n,v⟩:=vg.1 e;rw[yw]at v;exact⟨m+n,by omega,by rw[u,zi,v];rfl⟩)
 rw[<-f]at g;refine⟨⟨_,g⟩,fun z b o a=>?_,?_,h.fine,fun j r=>?_,fun y q=>?_,h.np⟩
 .rw[f]at a ⊢;simp only at a ⊢;split at a
  .omega
  .rename_i t;rw[zb t];exact h.pp z b o a
 .show (x.nodes.set i _).length=32;rw[xK];exact h.len
 .have d:=h.nd j r;unfold Tx.cutX;simp only[rG,h.len];split
  .rename_i t;obtain⟨rfl,_⟩:=t;have k:=d.resolve_left E;refine zu ⟨k.1,D.1,D.2,k.2.2.2.1,k.2.2.2.2.1,?_⟩;simp only[zm,zj,yN];omega
  .exact d
 .rcases mt q with rfl|q
  .rfl
  .exact h.dv y q
def Tx.uy (x:Tx) (i:Nat):Uw:=⟨x.ow,x.put,(x.nodes.getD i zN).P⟩
theorem ZH (x:Tx) (i) (a:x.nodes.length=32) (b:i<32):x.uw i (x.uy i)=x:=by
 have:x.nodes.set i (x.nodes.getD i zN)=x.nodes:=by rw[zi,zh (by omega)];exact List.set_getElem_self _
 show {x with nodes:=x.nodes.set i (x.nodes.getD i zN)}=x;rw[this]
theorem QA (x:Tx) (k i) (D) (a:x.nodes.length=32) (b:i<32):
 x.fillX k i (x.nodes.getD i zN) D=(x.cutX i ((D.length+63) / 64) D.length).uw i (ro k D ((x.cutX i ((D.length+63) / 64) D.length).uy i) ((D.length+63) / 64)):=by
 unfold Tx.fillX Tx.uw Tx.uy Tx.cutX Tx.wow Tx.ow;simp only[rG,a,b,uC,vl,rS]
theorem TI.fills {z:Tx} (h:TI z s T) (v:i<32) (w:i∈T) (y:(z.nodes.getD i zN).P.length<=8) (x:un D):∀j,j<=(z.nodes.getD i zN).P.length->TI (z.uw i (ro s.k D (z.uy i) j)) s T /\
 (∀i' b',i'<32->blk (z.uw i (ro s.k D (z.uy i) j)) s i' b'=if i'=i/\b'<j then blkB D b' else blk z s i' b')/\(ro s.k D (z.uy i) j).P.length=(z.nodes.getD i zN).P.length /\
 z.fake<=(ro s.k D (z.uy i) j).ow.fk/\(ro s.k D (z.uy i) j).ow.fk<=z.fake+j/\(ro s.k D (z.uy i) j).put.length<=z.put.length+j
 | 0,_=>by unfold ro;rw[ZH z i h.len v];exact⟨h,fun i' b' _=>by rw[zb (by omega)],rfl,wU _,by show z.fake<=_;omega,zL⟩
 | j+1,u=>by
  obtain⟨p,o,f,g,r,t⟩:=h.fills v w y x j (by omega);obtain⟨c,m,q,n,d,e,l⟩:=p.wr h.len v w (by omega) (b:=j) (by omega) (D:=blkB D j) ⟨Wf D j,Nl x j⟩;refine⟨c,fun i' b' a=>(m i' b' a).trans ?_,l.trans f,wS g n,wS d (by omega),zt e (by omega)⟩;rw[o i' b' a]
  grind
theorem VC {x z:Tx} (a:i<32) (c:(z.nodes.getD i zN).P.length=(x.nodes.getD i zN).P.length) (d:(z.nodes.getD i zN).s=(x.nodes.getD i zN).s) (e:∀b,blk z s i b=blk x s i b):z.dirD s i=x.dirD s i:=by rw[lX _ _ a,lX _ _ a,c,d,show blk z s i=blk x s i from funext e]
theorem fld8 {X:Pn} (h:mA X):X.P.length<=8:=by
 rcases h with rfl|⟨_,c,b,_,_,a⟩
 .show 0<=8;omega
 .unfold sg at a;split at a<;>omega
theorem TI.fill {x:Tx} (h:TI x s T) (N:i<32) (Q:i∈T) (D) (R:D.length<=512/\un D) (S:x.nodes.getD i zN≠zN) (n) (O:Cap x n):
 TI (x.fillX s.k i (x.nodes.getD i zN) D) s T/\(x.fillX s.k i (x.nodes.getD i zN) D).dirD s i=D/\(∀j,j<32->∀b,blk (x.fillX s.k i (x.nodes.getD i zN) D) s j b=if j=i then (if b<(D.length+63) / 64 then blkB D b else List.replicate 64 0) else blk x s j b)/\Cap (x.fillX s.k i (x.nodes.getD i zN) D) (n+8) /\
  ∃P,(x.fillX s.k i (x.nodes.getD i zN) D).nodes=x.nodes.set i {x.nodes.getD i zN with P:=P,s:=D.length}/\P.length=(D.length+63) / 64:=by
 have e:=h.len;rw[QA x s.k i D e N];have v:(((D.length+63) / 64:Nat))=sg D.length:=by unfold sg;split<;>omega
 have M:=fld8 (h.nd i N);have H:D.length<=64*((D.length+63) / 64)/\(D.length+63) / 64<=8:=by omega
 generalize (D.length+63) / 64=m at *
 have o:=jp e N m (D.length:Int);have f:∀y,((x.cutX i m D.length).uw i y).nodes=x.nodes.set i {x.nodes.getD i zN with P:=y.P,s:=D.length}:=fun y=>by unfold Tx.uw Tx.cutX;simp only[rG,e,N,uC,vl,rS]
 have B:=h.cutX N m D.length (by omega) v S;have r:(((x.cutX i m D.length).nodes.getD i zN).P).length=m:=by unfold Tx.cutX;simp only[rG,e,N,uC,vl,zm,zj,yN];omega
 obtain⟨J,z,t,E,C,G⟩:=B.fills N Q (by omega) R.2 m (by omega);rw[r]at t;have F:=O.g;have w:=O.fk;have A:=O.p;have K:=O.d;refine⟨J,?_,fun j I b=>(z j b I).trans ?_,⟨⟨wS w.1 E,wS C (by show x.fake+_<=_;omega)⟩,?_,zt G (by show x.put.length+_<=_;omega),?_⟩,_,f _,t⟩
 .rw[lX _ _ N,f];simp only[rG,e,N,uC,vl];rw[t,yz];refine Eq.trans ?_ (OU D m H.1);rw[rA,rA,xY fun b q=>(z i b N).trans (ze ⟨rfl,yH.1 q⟩)]
 .have q:blk (x.cutX i m D.length) s j b=if j=i/\m<=b then List.replicate 64 0 else blk x s j b:=by
   unfold blk;rw[o];simp only;by_cases O:j=i/\m<=b
   .rw[ze O,ze O];rfl
   .rw[zb O,zb O];rfl
  rw[q];by_cases c:j=i
  .by_cases a:b<m
   .simp[c,a]
   .simp[c,a,Nat.le_of_not_lt a]
  .simp[c]
 .show (x.gone++_).length<=n+8;rw[zm,uh,yB];omega
 .have L:=oy ((i:Int)+1) (.bool true:Value) x.dirty;show 8*(putZ x.dirty _ _).length<=_;omega
@[ext] structure AN where
 k:Int
 m:Int
 u:Int
 g:Int
 s:Int
 l:Int
 up:Int
 D:List Int
def zAN : AN:=⟨0,0,0,0,0,0,0,[]⟩
def vw (x:Tx) (s:Fs) (i:Nat):AN:=⟨(x.nodes.getD i zN).k,(x.nodes.getD i zN).m,(x.nodes.getD i zN).u,(x.nodes.getD i zN).g,(x.nodes.getD i zN).s,(x.nodes.getD i zN).l,(x.nodes.getD i zN).up,x.dirD s i⟩
def upA (A:Nat->AN) (i:Nat) (a:AN):Nat->AN:=fun j=>if j=i then a else A j
def TZ (x:Tx) (s:Fs):Prop:=∀i,i<32->∀b r,r<64->(x.nodes.getD i zN).s<=((64*b+r:Nat))->(blk x s i b)[r]?=some 0
structure TV (x:Tx) (s:Fs) (n:Nat) (T:List Nat) (A:Nat->AN):Prop where
 ti:TI x s T
 cap:Cap x n
 v:∀j,j<32->vw x s j=A j
 z:TZ x s
section
variable {x : Tx} {s : Fs} {n i : Nat} {A : Nat->AN} {T : List Nat}
theorem TV.at (h:TV x s n T A) (a:i<32):(x.nodes.getD i zN).k=(A i).k/\(x.nodes.getD i zN).m=(A i).m/\(x.nodes.getD i zN).u=(A i).u/\(x.nodes.getD i zN).g=(A i).g/\(x.nodes.getD i zN).s=(A i).s/\(x.nodes.getD i zN).l=(A i).l/\(x.nodes.getD i zN).up=(A i).up/\x.dirD s i=(A i).D:=by have:=h.v i a;rw[<-this];exact⟨rfl,rfl,rfl,rfl,rfl,rfl,rfl,rfl⟩
theorem TV.ne (h:TV x s n T A) (b:i<32) (c:(A i).k≠0):x.nodes.getD i zN≠zN:=fun a=>c (by rw[<-(h.at b).1,a];rfl)
theorem TV.mono (h:TV x s n T A) (a:n<=m):TV x s m T A:=⟨h.ti,⟨⟨h.cap.fk.1,by have:=h.cap.fk.2;omega⟩,zt h.cap.g a,zt h.cap.p a,zt h.cap.d a⟩,h.v,h.z⟩
theorem TV.fill (h:TV x s n T A) (u:i<32) (w:i∈T) (y:(A i).k≠0) (B:D.length<=512/\un D):TV (x.fillX s.k i (x.nodes.getD i zN) D) s (n+8) T (upA A i {A i with s:=D.length,D:=D}):=by
 obtain⟨q,m,l,p,P,t,_⟩:=h.ti.fill u w D B (h.ne u y) n h.cap;have c:∀j,((x.fillX s.k i (x.nodes.getD i zN) D).nodes).getD j zN=if j=i then {x.nodes.getD i zN with P:=P,s:=D.length} else x.nodes.getD j zN:=fun j=>by rw[t,rG,h.ti.len];grind
 refine⟨q,p,fun j d=>?_,fun j d b r g e=>?_⟩
 .unfold upA;by_cases a:j=i
  .subst a;rw[ze rfl,<-h.v j u];unfold vw;rw[m,c,ze rfl]
  .rw[zb a,<-h.v j d];unfold vw;rw[VC d (by rw[c,zb a]) (by rw[c,zb a]) fun b=>(l j d b).trans (zb a),c,zb a]
 .rw[l j d];rw[c]at e;split
  .rename_i a;rw[ze a]at e;split
   .unfold blkB over;have o:D.length<=((64*b+r:Nat):Int):=e;have f:((D.drop (64*b)).take 64).length<=r:=(by rw[zj,yB];omega);rw[xH,yU,zy f,yw,xf,ze (by omega)]
   .rw[xf,ze g]
  .rename_i a;rw[zb a]at e;exact h.z j d b r g e
theorem Tr (a:x.nodes.length=32) (c:N.P=(x.nodes.getD i zN).P):(x.setX i N).pf=x.pf:=by
 funext i' b
 unfold Tx.pf Tx.setX;simp only[rG,a]
 grind
theorem TV.set (h:TV x s n T A) (J:i<32) (H:N.P=(x.nodes.getD i zN).P) (I:N.s=(x.nodes.getD i zN).s) (K:mA N):TV (x.setX i N) s (n+8) T (upA A i ⟨N.k,N.m,N.u,N.g,N.s,N.l,N.up,(A i).D⟩):=by
 have w:=h.ti.len;have e:=Tr w H;have c:∀j,(x.setX i N).nodes.getD j zN=if j=i then N else x.nodes.getD j zN:=fun j=>by unfold Tx.setX;simp only[rG,w];grind
 obtain⟨F,q⟩:=h.ti.ex;have f:=h.cap;have G:=oy ((i:Int)+1) (.bool true:Value) x.dirty;refine⟨⟨⟨F,by rw[e];exact q⟩,by rw[e];exact h.ti.pp,by show (x.nodes.set i N).length=32;rw[xK,w],h.ti.fine,fun j q=>?_,fun y B=>?_,h.ti.np⟩,⟨⟨f.fk.1,by have:=f.fk.2;show x.fake<=_;omega⟩,zt f.g (by omega),zt f.p (by omega),(by have:=f.d;show 8*(putZ x.dirty _ _).length<=_;omega)⟩,fun j q=>?_,fun j q b r C o=>?_⟩
 .rw[c];split
  .exact K
  .exact h.ti.nd j q
 .rcases mt B with rfl|B
  .rfl
  .exact h.ti.dv y B
 .have t:(x.setX i N).dirD s j=x.dirD s j:=by
   refine VC q ?_ ?_ fun b=>?_
   .rw[c];split
    .rename_i f;rw[H,f]
    .rfl
   .rw[c];split
    .rename_i f;rw[I,f]
    .rfl
   .unfold blk;rw[e];rfl
  unfold upA vw;rw[c,t];by_cases a:j=i
  .subst a;rw[ze rfl,ze rfl,(h.at J).2.2.2.2.2.2.2]
  .rw[zb a,zb a,<-h.v j q];rfl
 .have E:blk (x.setX i N) s j b=blk x s j b:=by unfold blk;rw[e];rfl
  rw[E];refine h.z j q b r C ?_;rw[c]at o;split at o
  .rename_i a;rw[a,<-I];exact o
  .exact o
theorem TV.free (h:TV x s n T A) (S:i<32) (U:(A i).l=0) (V:s.held=[]):TV (x.freeX s i (x.nodes.getD i zN)) s (n+8) T (upA A i zAN):=by
 have J:=h.ti.len;have B:=h.cap;have Q:=fld8 (h.ti.nd i S);have M:x.freeX s i (x.nodes.getD i zN)={x with gone:=x.gone++nzF (x.nodes.getD i zN).P,nodes:=x.nodes.set i zN,dirty:=putZ x.dirty (i+1) (.bool true)}:=by unfold Tx.freeX;rw[zb];rw[V,(h.at S).2.2.2.2.2.1,U];simp[getZ]
 rw[M];have c:∀j,(x.nodes.set i zN).getD j zN=if j=i then zN else x.nodes.getD j zN:=fun j=>by simp only[rG,J];grind
 obtain⟨R,k⟩:=h.ti.ex;have I:∀b,x.pf i b=(x.nodes.getD i zN).P.getD b 0:=fun b=>ze S;obtain⟨G,u⟩:=k.give (i:=i) (m:=0) S (nzF (x.nodes.getD i zN).P) (fun b _ e=>by
  rw[I]at e ⊢;unfold nzF;rw[vu];refine⟨?_,by simpa using e⟩;generalize (x.nodes.getD i zN).P=P at e ⊢;rw[zi]at e ⊢;cases H:P[b]? with
  | none=>rw[H]at e;exact zY rfl e
  | some p=>exact xU H) (fun p o _=>by
  unfold nzF at o;obtain⟨b,L⟩:=vg.1 (vu.1 o).1;exact⟨b,ye _,by rw[I,zi,L];rfl⟩)
 have f:({x with gone:=x.gone++nzF (x.nodes.getD i zN).P,nodes:=x.nodes.set i zN,dirty:=putZ x.dirty (i+1) (.bool true)}).pf=fun w C=>if w=i/\0<=C then 0 else x.pf w C:=by
  funext w C
  unfold Tx.pf;simp only[c];have:zN.P.getD C 0=0:=rfl
  grind
 rw[<-f]at u;have N:=oy ((i:Int)+1) (.bool true:Value) x.dirty;refine⟨⟨⟨G,u⟩,fun w b E D=>?_,by show (x.nodes.set i zN).length=32;rw[xK,J],h.ti.fine,fun j k=>?_,fun y F=>?_,h.ti.np⟩,⟨⟨B.fk.1,by have:=B.fk.2;show x.fake<=_;omega⟩,?_,zt B.p (by omega),(by have:=B.d;show 8*(putZ x.dirty _ _).length<=_;omega)⟩,fun j k=>?_,fun j k b r K q=>?_⟩
 .rw[f]at D ⊢;have:=h.ti.pp w b E
  grind
 .show mA ((x.nodes.set i zN).getD j zN);rw[c];split
  .exact zr rfl
  .exact h.ti.nd j k
 .rcases mt F with rfl|F
  .rfl
  .exact h.ti.dv y F
 .have O:=B.g;show (x.gone++nzF _).length<=_;rw[zm];have:(nzF (x.nodes.getD i zN).P).length<=_:=vh _ _;omega
 .unfold upA;by_cases a:j=i
  .subst a;rw[ze rfl];unfold vw Tx.dirD;simp only[c,vl];rfl
  .rw[zb a,<-h.v j k];have t:({x with gone:=x.gone++nzF (x.nodes.getD i zN).P,nodes:=x.nodes.set i zN,dirty:=putZ x.dirty (i+1) (.bool true)}).dirD s j=x.dirD s j:=by
    refine VC k ?_ ?_ fun b=>?_
    .simp only[c,a,vX]
    .simp only[c,a,vX]
    .unfold blk;rw[f];simp only[a,false_and,vX];rfl
   unfold vw;rw[t];simp only[c,a,vX]
 .unfold blk;rw[f];simp only;by_cases a:j=i
  .rw[ze ⟨a,ye _⟩];unfold tT;rw[ze rfl,xf,ze K]
  .rw[zb (by omega)];refine h.z j k b r K ?_;simp only[c,a,vX]at q;exact q
end
theorem KM (y) (r:List (Int×α)) (k):getZ (y::r) k=if y.1=k then some y.2 else getZ r k:=rfl
theorem XU {α:Type} (k p):∀l:List (Int×α),getZ (delZ l k) p=if p=k then none else getZ l p
 | []=>by unfold delZ;simp[getZ]
 | y::l=>by have a:=XU k p l;unfold delZ at a ⊢;rw[vo,KM];split<;>(try rw[KM])<;>grind
theorem Z7 (p):∀(g) (put),getZ (gonP put g) p=if p∈g then none else getZ put p
 | [],_=>by simp[gonP]
 | q::g,put=>by
  have a:=Z7 p g (delZ put q);unfold gonP at a ⊢;rw[wl,a,XU]
  grind
theorem fD {y:Int×List Int}:y∈gonP put g->y∈put:=by
 induction g generalizing put with
 | nil=>exact id
 | cons q g a=>exact fun h=>Wc (a (put:=delZ put q) h)
theorem WS:so put->so (gonP put g):=by
 induction g generalizing put with
 | nil=>exact id
 | cons q g a=>exact fun h=>a (put:=delZ put q) (Vb q h)
theorem Qd (g) (S) (n):gonS S g n=true↔S n=true/\∀p∈g,p.toNat≠n:=by
 induction g generalizing S with
 | nil=>simp[gonS]
 | cons q g a=>
  have:=a (del S q.toNat);unfold gonS at this ⊢;rw[wl,this];unfold del;simp
  grind
theorem Ml (x):qC x x.gone.length={x with fo:=hasF x.fo (gonS (x.fo.hs 0) x.gone),put:=gonP x.put x.gone}:=by unfold qC;rw[xJ]
theorem J8 {α:Type} (k):∀(p t:List (Int×α)),so p->getZ (uR t p) k=(getZ p k).or (getZ t k)
 | [],t,_=>rfl
 | y::p,t,h=>by
  have c:=J8 k p (putZ t y.1 y.2) h.tail;show getZ (uR (putZ t y.1 y.2) p) k=_;rw[c,KM];by_cases a:y.1=k
  .rw[ze a];have:getZ p k=none:=by
    cases b:getZ p k with
    | none=>rfl
    | some v=>have:=h.head _ (nu b);simp at this;omega
   rw[this,<-a,Zx];rfl
  .rw[zb a,mR _ (yA a)]
section
variable {x : Tx} {s : Fs} {T : List Nat}
theorem TJ.congr {pf:Nat->Nat->Int} {o o2:Ow} {k:Nat} {ow:Int->Option (Nat×Nat)} (h:TJ pf g o put k T ow) (d:o2.fl=o.fl/\o2.fk=o.fk) (f:o2.fo.hs=o.fo.hs) (e:∀a,1<=a->o2.fo.nd a=o.fo.nd a) (i:vO o2.fo 0=true):TJ pf g o2 put k T ow:=by
 have b:∀n,ta o2.fo 4 n=ta o.fo 4 n:=fun n=>by rw[l8,l8,f];unfold vO;rw[e 1 (by omega),e 2 (by omega),e 3 (by omega)]
 exact⟨h.k1,by rw[d.1,d.2];exact h.fk,i,h.blk,h.nz,h.gn,by rw[d.2];exact h.rg,h.sl,by rw[f];exact h.hs,h.rise,fun y c=>by rw[b];exact h.pk y c,h.pd⟩
theorem TI.nz (h:TI x s T) (c:j<16):x.fo.nd 0 j≠0:=by obtain⟨b,a⟩:=h.ex;exact a.nz j c
theorem TI.ndPos (h:TI x s T) (a:j<16):37<=x.fo.nd 0 j/\(x.fo.nd 0 j<s.k\/256<x.fo.nd 0 j/\x.fo.nd 0 j<=x.fake):=(h.pos (i:=32) (b:=j) (zu ⟨rfl,a⟩)).resolve_left (h.nz a)
theorem TI.fkFull (h:TI x s T) (c:x.full=false):x.fake=256:=by obtain⟨b,a⟩:=h.ex;exact a.fk.2 c
theorem TI.ownNd (h:TI x s T) (X:j<16):TI (oh s.k x j) s T/\((oh s.k x j).full=false->x.full=false)/\(∀n,ta (oh s.k x j).fo 4 n=ta x.fo 4 n) /\
 ((oh s.k x j).fo.nd 0 j<256->ta x.fo 4 ((oh s.k x j).fo.nd 0 j).toNat=false)/\(∀j',j'≠j->(oh s.k x j).fo.nd 0 j'=x.fo.nd 0 j')/\x.fake<=(oh s.k x j).fake/\(oh s.k x j).fake<=x.fake+1 /\
 (∀a,1<=a->(oh s.k x j).fo.nd a=x.fo.nd a/\(oh s.k x j).fo.hs a=x.fo.hs a):=by
 obtain⟨V,E⟩:=h.ex;obtain⟨q,c,I,O,W,S,U,M,L,R,o,P,K,l,w⟩:=E.own (zu ⟨rfl,X⟩:vsl 32 j);have H:x.pf 32 j=x.fo.nd 0 j:=rfl;rw[H]at I;have e:oh s.k x j={x.wow c with fo:=ndF c.fo j q}:=by unfold oh;rw[I]
 rw[e];have g:∀j',(ndF c.fo j q).nd 0 j'=if j'=j then q else x.fo.nd 0 j':=fun j'=>by unfold ndF;simp only[true_and];rw[o.1];rfl
 have d:∀a,1<=a->(ndF c.fo j q).nd a=x.fo.nd a:=fun a r=>by
  funext j';unfold ndF;simp only;rw[zb (by omega),o.1];rfl
 have f:∀a,1<=a->(ndF c.fo j q).hs a=x.fo.hs a:=fun a r=>o.2 a (by omega);have t:({x.wow c with fo:=ndF c.fo j q}).pf=updP x.pf 32 j q:=by
  funext i b
  unfold updP Tx.pf;simp only[g];by_cases y:i<32
  .simp[y];grind [Tx.wow]
  .simp[y];grind
 have B:vO (ndF c.fo j q) 0=true:=by
  have:=w.nz 0 (by omega);unfold vO;rw[g];unfold updP at this;by_cases A:0=j
  .rw[ze A];simpa using O
  .rw[zb A];simp only[A,and_false,vX]at this;have u:x.fo.nd 0 0≠0:=this;simpa using u
 have G:∀n,ta (ndF c.fo j q) 4 n=ta x.fo 4 n:=fun n=>by rw[l8,l8];unfold vO;rw[d 1 (by omega),d 2 (by omega),d 3 (by omega),f 1 (by omega),f 2 (by omega),f 3 (by omega)]
 have v:∀n,ta c.fo 4 n=ta x.fo 4 n:=fun n=>by rw[l8,l8];unfold vO;rw[o.1,o.2 1 (by omega),o.2 2 (by omega),o.2 3 (by omega)];rfl
 have m:=w.congr (o2:=⟨ndF c.fo j q,c.fl,c.fk⟩) ⟨rfl,rfl⟩ rfl (fun a r=>by rw[d a r,o.1];rfl) B;rw[<-t]at m;refine⟨⟨⟨_,m⟩,fun i b y p=>?_,h.len,fun a u N=>VU (d a u) (f a u) (h.fine a u N),h.nd,h.dv,fun j' m=>?_⟩,R,G,fun C=>?_,fun j' z=>(g j').trans (zb z),M,L,fun a r=>⟨d a r,f a r⟩⟩
 .rw[t]at p ⊢;have Q:updP x.pf 32 j q i b=x.pf i b:=zb (by omega);rw[Q]at p ⊢;exact h.pp i b y p
 .show getZ x.put ((ndF c.fo j q).nd 0 j')=none;rw[g];split
  .rcases l with l|l
   .rw[l,H];exact h.np j X
   .cases C:getZ x.put q with
    | none=>rfl
    | some D=>exact zY rfl (l _ (nu C))
  .exact h.np j' m
 .have J:=(g j).trans (ze rfl);have F:q<256:=by rw[<-J];exact C
  show ta x.fo 4 ((ndF c.fo j q).nd 0 j).toNat=false;rw[J,<-v];exact (S F).2
theorem TI.owns (h:TI x s T):∀j,j<=16->TI (vP s.k x j) s T/\((vP s.k x j).full=false->x.full=false)/\(∀n,ta (vP s.k x j).fo 4 n=ta x.fo 4 n) /\
 (∀j',j'<j->sK x j'=true->(vP s.k x j).fo.nd 0 j'<256->ta x.fo 4 ((vP s.k x j).fo.nd 0 j').toNat=false)/\(∀j',j<=j'->(vP s.k x j).fo.nd 0 j'=x.fo.nd 0 j')/\x.fake<=(vP s.k x j).fake/\(vP s.k x j).fake<=x.fake+j /\
 (∀a,1<=a->(vP s.k x j).fo.nd a=x.fo.nd a/\(vP s.k x j).fo.hs a=x.fo.hs a)/\(∀j',sK x j'=false->(vP s.k x j).fo.nd 0 j'=x.fo.nd 0 j')
 | 0,_=>⟨h,id,fun _=>rfl,fun j' d=>by omega,fun _ _=>rfl,wU _,by show x.fake<=_;omega,fun _ _=>⟨rfl,rfl⟩,fun _ _=>rfl⟩
 | j+1,F=>by
  obtain⟨t,u,m,p,o,r,D,i,q⟩:=h.owns j (by omega);unfold vP;split
  .rename_i f;obtain⟨w,B,z,C,l,y,E,v⟩:=t.ownNd (j:=j) (by omega);refine⟨w,fun A=>u (B A),fun n=>(z n).trans (m n),fun j' d b c=>?_,fun j' d=>(l j' (by omega)).trans (o j' (by omega)),wS r y,by omega,fun a g=>⟨(v a g).1.trans (i a g).1,(v a g).2.trans (i a g).2⟩,fun j' b=>?_⟩
   .by_cases e:j'=j
    .subst e;rw[<-m];exact C c
    .rw[l j' e]at c ⊢;exact p j' (by omega) b c
   .have e:j'≠j:=(by rintro rfl;rw[f]at b;cases b);exact (l j' e).trans (q j' b)
  .rename_i f;refine⟨t,u,m,fun j' d b c=>?_,fun j' d=>o j' (by omega),r,by omega,i,q⟩;by_cases e:j'=j
   .subst e;rw[b]at f;exact zY rfl f
   .exact p j' (by omega) b c
end
